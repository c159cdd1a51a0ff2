/- Laws, on data. No condition. -/
import Derived.Test.YtbninlabhgbhcaaGreatDoorCode
import Derived.KernelRfl
import Derived.Test.YtbninlabhgbhcaaGreatDoorEngD
import Derived.Test.YtbninlabhgbhcaaGreatDoorSs
set_option linter.all false
set_option linter.unnecessarySimpa false
namespace Go.Am
abbrev et:=List (List Nat)
abbrev e6:=List (List Int)
theorem aAW(n:Nat):En (n+400) []=some (aK true):=by kernel_rfl
def Cm{β S:Type}{f:List D->Option (List D⊕β)}(eG:S->List D)(Qk:S->Nat)(Inv:S->Prop)(Q:β->Prop) (step:∀s,Inv s->(∃s',f (eG s)=some (.inl (eG s'))/\Inv s'/\Qk s'<Qk s)\/(∃r,f (eG s)=some (.inr r)/\Q r)): ∀n s,Inv s->Qk s<n->∃r,bJ f n (eG s)=some r/\Q r
 |0,s,_,h=>absurd h (xaH _)
 |n+1,s,h,hm=>by
  rw[lx];rcases step s h with⟨s',J,aa,ax⟩|⟨r,J,aa⟩
  .rw[J];exact Cm eG Qk Inv Q step n s' aa (by omega)
  rw[J];exact⟨r,rfl,aa⟩
section
variable{α:Type}
structure Part(a b:Nat)(L W2:List α):Prop where
 len:W2.length=L.length
 out:∀i,i<a\/b<=i->W2[i]?=L[i]?
 oz:∀p:α->Bool,W2.countP p=L.countP p
theorem Part.refl(a b:Nat)(L:List α):Part a b L L:=⟨rfl,λ_ _=>rfl,λ_=>rfl⟩
def Part.trans{a b:Nat}{L M N:List α}(h:Part a b L M)(bB:Part a b M N):Part a b L N:=⟨bB.len.trans h.len,λi ag=>(bB.out i ag).trans (h.out i ag),λp=>(bB.oz p).trans (h.oz p)⟩
def Part.mono{a b cM b':Nat}{L M:List α}(h:Part a b L M)(aG:cM<=a)(aj:b<=b'):Part cM b' L M:=⟨h.len,λi ag=>h.out i (by omega),h.oz⟩
def wY(P:α->Prop)(a b:Nat)(L:List α):Prop:=∀i x,a<=i->i<b->L[i]?=some x->P x
def wY.mono{P:α->Prop}{a b cM b':Nat}{L:List α}(h:wY P a b L)(aG:a<=cM)(aj:b'<=b):wY P cM b' L:=λi x J aa ad=>h i x (by omega) (by omega) ad
def wY.out{P:α->Prop}{a b c d:Nat}{L M:List α}(h:wY P c d L)(aU:Part a b L M)(ay:d<=a\/b<=c):wY P c d M:=λi x J aa ad=>h i x J aa (by rw[<-aU.out i (by omega)];exact ad)
def aAX{p:α->Bool}{l:List α}(h:l.countP p=0):∀x∈l,p x=false:=by intro x ad;cases aU:p x with|false=>rfl|true=>have:=List.countP_pos_iff.2 ⟨x,ad,aU⟩;omega
open Classical in
def wY.part{P:α->Prop}{a b:Nat}{L M:List α}(h:wY P a b L)(aU:Part a b L M)(gg:a<=b):wY P a b M:=by
 intro i x J aa ad;have aM:M.take a=L.take a:=by
  apply xbQ;intro k;rw[xaR,xaR];split;.rename_i ai;exact aU.out k (.inl ai)
  rfl
 have a8:M.drop b=L.drop b:=by apply xbQ;intro k;rw[xaY,xaY];exact aU.out _ (.inr (by omega))
 have ahW:∀(N:List α)(q:α->Bool),N.countP q=(N.take a).countP q+((N.drop a).take (b-a)).countP q+(N.drop b).countP q:=by
  intro N q
  conv=>lhs;rw[<-xbJ a N,List.countP_append,<-xbJ (b-a) (N.drop a),List.countP_append,List.drop_drop]
  rw[show a+(b-a)=b by omega];omega
 have ah:=aU.oz (λy=>!decide (P y));rw[ahW M,ahW L,aM,a8]at ah;have ar:((L.drop a).take (b-a)).countP (λy=>!decide (P y))=0:=by
  rw[List.countP_eq_zero];intro y aH;obtain⟨k,ai⟩:=List.getElem?_of_mem aH;rw[xaR]at ai;split at ai;.rename_i b6;rw[xaY]at ai;simp[h (a+k) y (by omega) (by omega) ai]
  cases ai
 have ax:((M.drop a).take (b-a)).countP (λy=>!decide (P y))=0:=by omega
 have hm:x∈(M.drop a).take (b-a):=by refine xad (i:=i-a) ?_;rw[xaR,xac (by omega),xaY,show a+(i-a)=i by omega];exact ad
 have:=aAX ax x hm;simpa using this
def Part.mem{a b:Nat}{L M:List α}(h:Part a b L M)[DecidableEq α](x:α):x∈M↔x∈L:=by
 have:=h.oz (λy=>y==x);have e:∀N:List α,x∈N↔0<N.countP (λy=>y==x):=by
  intro N;rw[List.countP_pos_iff];constructor;.intro h;exact⟨x,h,by simp⟩
  rintro⟨y,J,aa⟩;rw[<-eq_of_beq aa];exact J
 rw[e,e,this]
end
section
variable(m:au)
theorem b9.bc:ae (pn m) 0=bu m.vars:=rfl
theorem b9.c1:ae (pn m) 1=de:=rfl
theorem b9.c2:ae (pn m) 2=aC (m.bZ.map (cw m.aD)):=rfl
theorem b9.b8:ae (pn m) 3=aC (m.b1.map (cw m.aD)):=rfl
theorem b9.c3:ae (pn m) 4=aY (m.next.map (gH m.aD)):=rfl
theorem b9.dq:ae (pn m) 5=aC (m.trans.map (cw m.aD)):=rfl
theorem b9.dr:ae (pn m) 6=aC (m.bR.map (cw m.aD)):=rfl
theorem b9.dG:ae (pn m) 7=b5 (m.bS.map (iQ m.aD)):=rfl
theorem b9.agg:dO 8 (pn m)=true:=rfl
theorem b9.eta:D.agg [bu m.vars,de,aC (m.bZ.map (cw m.aD)),aC (m.b1.map (cw m.aD)),aY (m.next.map (gH m.aD)),aC (m.trans.map (cw m.aD)),aC (m.bR.map (cw m.aD)),b5 (m.bS.map (iQ m.aD))]=pn m:=rfl
end
section
variable{m:au}(aS:l6 m.vars)(al:m.vars.length<=100){nx:Bool}{s nn:List Int}(az:hc m.vars s)(aN:nx=true->hc m.vars nn)(ar:nx=false->nn=[]){bn:Bool}(n:Nat)(y1:13306000000<n)
include aS al az aN ar y1
theorem ahX{t:Tm}(h:po m nx t):Bq n [pn m,(cw m.aD t).d,cc s,iL bn nn]=some (aK (il m.vars (dT m.aD t).1 s nn)):=by have cL:=aAm aS al h az aN ar (bn:=bn) n y1;have av:=aAk (il m.vars (dT m.aD t).1 s nn);cases ah:il m.vars (dT m.aD t).1 s nn<;>rw[ah]at cL av<;>simp only[Bq,acK,go_sem,b9.agg,b9.bc,b9.c1,b9.c2,b9.b8,b9.c3,b9.dq,b9.dr,b9.dG,b9.eta,T.p4,cL,av,yZ,wX]
theorem W3{L:List Tm}(ct:∀t∈L,po m nx t)(aj:L.length<=1000000):yl n [pn m,aC (L.map (cw m.aD)),cc s,iL bn nn]=some (aK (L.all λt=>il m.vars (dT m.aD t).1 s nn)):=by
 have bT:(I ((0:Nat):Int))=I 0:=rfl;have bI:fW (aC (L.map (cw m.aD)))=some (I L.length):=by rw[ix,xaW]
 have ag:=dy (f:=Ju n) L (λi (_:Unit)=>[cc s,iL bn nn,aC (L.map (cw m.aD)),I L.length,I (i:Int),bu m.vars,de,aC (m.bZ.map (cw m.aD)),aC (m.b1.map (cw m.aD)),aY (m.next.map (gH m.aD)),aC (m.trans.map (cw m.aD)),aC (m.bR.map (cw m.aD)),b5 (m.bS.map (iQ m.aD))]) (λr _=>if(r.all λt=>il m.vars (dT m.aD t).1 s nn)=true then(.inl []:List D⊕D)else .inr (aK false)) (λ_ _=>True) ?_ ?_ n 0 () trivial (by omega) (xai _)
 .rw[bT,xal]at ag;by_cases ah:(L.all λt=>il m.vars (dT m.aD t).1 s nn)=true;.rw[xac ah]at ag;simp only[yl,Uu,go_sem,b9.agg,b9.bc,b9.c1,b9.c2,b9.b8,b9.c3,b9.dq,b9.dr,b9.dG,b9.eta,bI,ag,ah]
  rw[xae ah]at ag;simp only[yl,Uu,go_sem,b9.agg,b9.bc,b9.c1,b9.c2,b9.b8,b9.c3,b9.dq,b9.dr,b9.dG,b9.eta,bI,ag,(show(L.all λt=>il m.vars (dT m.aD t).1 s nn)=false by simpa using ah)]
 .intro _ _;simp only[Ju,go_sem,yF ((L.length:Int)<L.length),xcn,xaG]
 intro i t _ aP ag _;have ad:(L.map (cw m.aD))[i]?=some (cw m.aD t):=by rw[xah,aP];rfl
 have cL:=ahX aS al az aN ar (bn:=bn) n y1 (ct t (xad aP));have cq:=yT ((i:Int)<(L.length:Int));cases ah:il m.vars (dT m.aD t).1 s nn with|true=>left;rw[ah]at cL;exact⟨(),by simp only[Ju,go_sem,cq,b9.agg,b9.bc,b9.c1,b9.c2,b9.b8,b9.c3,b9.dq,b9.dr,b9.dG,b9.eta,WR ad,T.uP,T.p4,cL,cf (bt:=false) (i:=i) (by omega)],by rw[xbg,ah,xbs],trivial⟩|false=>right;rw[ah]at cL;simp only[Ju,go_sem,cq,b9.agg,b9.bc,b9.c1,b9.c2,b9.b8,b9.c3,b9.dq,b9.dr,b9.dG,b9.eta,WR ad,T.uP,T.p4,cL,xbg,ah,xcd]
end
noncomputable def qe(m:au)(s:List Int):List (Nat×Int):=m.next.map λd=>((eB m.vars d.name).getD 0,(ik m.vars (dT m.aD d.e).1 s []).1)
def ku(l:List (Nat×Int)):D:= .aW 2 (l.map λp=>[I (p.1:Int),I p.2])
def ahY{l:List (Nat×Int)}{i:Nat}{p:Nat×Int}(h:l[i]?=some p):b3 2 (ku l) (I (i:Int))=some [I (p.1:Int),I p.2]:=by obtain⟨bX,rfl⟩:=xaa.1 h;simp[ku,bX]
def aAY(l:List (Nat×Int)):fW (ku l)=some (I l.length):=by simp[ku]
def aAZ(l:List (Nat×Int))(p:Nat×Int):D.aW 2 (bb (ku l)++[[I (p.1:Int),I p.2]])=ku (l++[p]):=by simp[ku]
theorem ahZ(l:List (Nat×Int)):D.aW 2 (bb (ku l))=ku l:=rfl
def aA0(l:List (Nat×Int)):(bb (ku l)).length=l.length:=by simp[ku]
section
variable{m:au}(h:y2 m)(n:Nat)(aN:13306000000<n)
include h aN
theorem aA1(lU:ByteArray){x1:List D}(J:bM false 1 0 x1=some (a6 lU)):Br n [bu m.vars,D.fn (.func DD) [] [.ref x1 0]]=some (I (gx (eB m.vars lU))):=by
 have bQ:Br n [bu m.vars,D.fn (.func DD) [] [.ref x1 0]]=Jx n (bu m.vars) (.ref x1 0):=by simp only[Br,ot]
 have al:=h.gB;have bT:(I ((0:Nat):Int))=I 0:=rfl;have ag:=ahw (f:=Jw n) m.vars (λi=>[bu m.vars,.ref x1 0,I m.vars.length,I (i:Int)]) (λv=>decide (v.name=lU)) ?_ ?_ n (by omega)
 .rw[bT]at ag;rw[bQ];unfold eB;cases bU:m.vars.findIdx? (λv=>decide (v.name=lU))with|none=>rw[bU]at ag;simp only[Jx,go_sem,e5,ag,gx,y0]|some j=>rw[bU]at ag;simp only[Jx,go_sem,e5,ag,gx,y0]
 .intro i v aS;have bX:=(xaa.1 aS).1;have bc:ae v.d 0=a6 v.name:=rfl;have aa:Jv n [v.d,.ref x1 0]=some (aK (decide (v.name=lU))):=by
   show Od n v.d x1=_;simp only[Od,go_sem,V.g4,J,bc]
  have cq:=yT ((i:Int)<(m.vars.length:Int));by_cases ah:v.name=lU;.rw[xao ah]at aa;simp only[Jw,go_sem,cq,hk aS,V.a4,aa,xao ah,xaG]
  rw[xat ah]at aa;simp only[Jw,go_sem,cq,hk aS,V.a4,aa,xat ah,xar,xaI,cf (bt:=false) (i:=i) (by omega)]
 simp only[Jw,go_sem,yF ((m.vars.length:Int)<m.vars.length)]
theorem aA2{s:List Int}(az:hc m.vars s):Jy n [pn m,cc s]=some (.aZ [ku (qe m s),aK true]):=by
 have aj:=h.nt.b.2.2.1;have kP:=h.gB;have bT:(I ((0:Nat):Int))=I 0:=rfl;have bI:fW (aY (m.next.map (gH m.aD)))=some (I m.next.length):=by rw[eV,xaW]
 have ag:=dy (f:=Oe n) m.next (λi (p:List (Nat×Int))=>[cc s,aY (m.next.map (gH m.aD)),I m.next.length,I (i:Int),bu m.vars,de,aC (m.bZ.map (cw m.aD)),aC (m.b1.map (cw m.aD)),aY (m.next.map (gH m.aD)),aC (m.trans.map (cw m.aD)),aC (m.bR.map (cw m.aD)),b5 (m.bS.map (iQ m.aD)),ku p]) (λr p=>(.inl [ku (p++r.map λd=>((eB m.vars d.name).getD 0,(ik m.vars (dT m.aD d.e).1 s []).1))]:List D⊕D)) (λi p=>p.length=i) ?_ ?_ n 0 [] rfl (by omega) (xai _)
 .rw[bT,xal,xaL]at ag;have aM:ku []=D.aW 2 []:=rfl;rw[aM]at ag;simp only[Jy,acL,go_sem,b9.agg,b9.bc,b9.c1,b9.c2,b9.b8,b9.c3,b9.dq,b9.dr,b9.dG,b9.eta,bI,ag,ahZ];rfl
 .intro p _;simp only[Oe,go_sem,yF ((m.next.length:Int)<m.next.length),xbb,xau,ahZ]
 intro i d p ay ag aU;have hm:=xad ay;have ad:(m.next.map (gH m.aD))[i]?=some (gH m.aD d):=by rw[xah,ay];rfl
 obtain⟨k,ai⟩:=(h.n d hm).2;have iY:=WT ai;have cS:=h.nt.n d hm;obtain⟨bN,bO,cx,dX⟩:=cS.ahA;have aS:=ahC h hm az;have eJ:sT n [bu m.vars,(cw m.aD d.e).d,cc s,de]=some (.aZ [I (ik m.vars (dT m.aD d.e).1 s []).1,aK true]):=by have:=agd (bn:=true) n m.vars (cw m.aD d.e) s [] (by omega) bN h.kS.1 (λv hK=>WQ h.kS az v (by simpa using hK));rw[show ik m.vars (cw m.aD d.e) s []=_ from P6 Wq m.vars (dT m.aD d.e).1 s [],aS]at this;exact this
 have fS:=aA1 h n aN d.name (x1:=[a6 d.name,I (cw m.aD d.e).op,I (cw m.aD d.e).num,a6 (cw m.aD d.e).name,cH 4 (cw m.aD d.e).nl (Tm.rows (cw m.aD d.e).bf)]) rfl;rw[ai]at fS;have bm:∀a,(I a).flat=true:=λ_=>rfl;have cq:=yT ((i:Int)<(m.next.length:Int));have Qa:(gH m.aD d).name=d.name:=rfl;have fM:(gH m.aD d).e=cw m.aD d.e:=rfl;have W4:∀a b:Int,dO 2 (.agg [I a,I b])=true:=λ_ _=>rfl;have eL:cT (p.length+1) 16=true:=fX (by omega) (by omega);generalize Sj:(ik m.vars (dT m.aD d.e).1 s []).1=v at*;left;refine⟨p++[(k,v)],?_,by simp[ai,Sj],by simp[aU]⟩;simp only[Oe,go_sem,cq,fR ad,bA.a5,bA.g5,bA.bc,bA.c1,bA.c2,bA.b8,bA.c3,bA.iZ,bA.hb,Qa,fM,T.p4,eJ,fS,gx,bm,W4,aA0,xan,xay,eL,aAZ p (k,v),cf (bt:=false) (i:=i) (by omega)]
theorem aA3{s t:List Int}(aP:hc m.vars t):Bs n [ku (qe m s),D.fn (.func uj) [] [.ref [cc t] 0]]=some (aK (!(m.next.all (qc m s t)))):=by
 have aj:=h.nt.b.2.2.1;have bT:(I ((0:Nat):Int))=I 0:=rfl;have aff:(qe m s).length=m.next.length:=by simp[qe]
 have bI:fW (ku (qe m s))=some (I m.next.length):=by rw[aAY,aff]
 have ag:=ahw (f:=JA n) m.next (λi=>[ku (qe m s),.ref [cc t] 0,I m.next.length,I (i:Int)]) (λd=>!(qc m s t d)) ?_ ?_ n (by omega)
 .rw[bT]at ag;have Ca:(m.next.findIdx? λd=>!(qc m s t d)).isSome=!(m.next.all (qc m s t)):=by
   rw[aAh,<-aAi,Bool.not_not]
  have bQ:Bs n [ku (qe m s),D.fn (.func uj) [] [.ref [cc t] 0]]=JC n (ku (qe m s)) (.ref [cc t] 0):=by simp only[Bs,ot]
  have ah0:Ee n [ku (qe m s),D.fn (.func uj) [] [.ref [cc t] 0]]=JB n (ku (qe m s)) (.ref [cc t] 0):=by simp only[Ee,ot]
  rw[bQ,<-Ca];cases bU:m.next.findIdx? (λd=>!(qc m s t d))with
  |none=>rw[bU]at ag;simp only[JC,ah0,JB,go_sem,bI,ag,y0,xcv,yF ((-1:Int)>=0)]
  |some j=>rw[bU]at ag;simp only[JC,ah0,JB,go_sem,bI,ag,y0,Option.isSome_some,yT ((j:Int)>=0)]
 .intro i d ay;have bX:=(xaa.1 ay).1;have hm:=xad ay;obtain⟨k,ai⟩:=(h.n d hm).2;have iY:=WT ai;obtain⟨y,aH⟩:=ahD (l:=t) (k:=k) (by rw[aP.1];exact iY);have hw:(qe m s)[i]?=some (k,(ik m.vars (dT m.aD d.e).1 s []).1):=by simp[qe,ay,ai]
  have n9:qc m s t d=decide (y=(ik m.vars (dT m.aD d.e).1 s []).1):=by unfold qc;rw[ai];simp only[aH,xaE]
  generalize (ik m.vars (dT m.aD d.e).1 s []).1=v at*;have gq:bM true 2 0 [I (k:Int),I v]=some (.agg [I (k:Int),I v]):=rfl;have W4:dO 2 (.agg [I (k:Int),I v])=true:=rfl;have bc:ae (.agg [I (k:Int),I v]) 0=I (k:Int):=rfl;have c1:ae (.agg [I (k:Int),I v]) 1=I v:=rfl;have aa:Jz n [.agg [I (k:Int),I v],.ref [cc t] 0]=some (aK (y !=v)):=by show Of n (.agg [I (k:Int),I v]) [cc t]=_;simp only[Of,go_sem,W4,bc,c1,ew,kr aH]
  have cq:=yT ((i:Int)<(m.next.length:Int));by_cases ah:y=v
  .have cp:(y !=v)=false:=by simp[ah]
   rw[cp]at aa;rw[n9,xao ah];simp only[JA,go_sem,cq,ahY hw,gq,aa,cf (bt:=false) (i:=i) (by omega)]
  have cp:(y !=v)=true:=by simp[ah]
  rw[cp]at aa;rw[n9,xat ah];simp only[JA,go_sem,cq,ahY hw,gq,aa,xcg,xaG]
 simp only[JA,go_sem,yF ((m.next.length:Int)<m.next.length)]
end
def aA4{x:D}{vs:List V}(ad:dO 8 x=true)(FG:ae x 0=bu vs)(n:Nat)(aS:l6 vs)(al:vs.length<=100)(aN:200<n):BG n [x]=some (.aZ [I (stM vs).1,aK (stM vs).2]):=by
 have ax:=dy (f:=JI n) vs (λi (_:Unit)=>[I 1,I (i:Int),bu vs,ae x 1,ae x 2,ae x 3,ae x 4,ae x 5,ae x 6,ae x 7]) (λr _=>(if o8 r=true then .inr (.aZ [I 0,aK true])else .inl [I 1,bu vs,ae x 1,ae x 2,ae x 3,ae x 4,ae x 5,ae x 6,ae x 7]:List D⊕D)) (λ_ _=>True) ?_ ?_ n 0 () trivial (by omega) (xai _)
 .have bT:(I ((0:Nat):Int))=I 0:=rfl;rw[bT,xal]at ax;unfold stM;by_cases J:o8 vs=true;.rw[xac J]at ax⊢;simp only[BG,Oy,go_sem,ad,FG,ax]
  rw[xae J]at ax⊢;have iq:∀v∈vs,v.span≠0:=by intro v aS bF;apply J;unfold o8;rw[xbH];exact⟨v,aS,by simp[bF]⟩
  have iu:=dy (f:=JJ n) vs (λi (s:Int)=>[I s,I (i:Int),bu vs,ae x 1,ae x 2,ae x 3,ae x 4,ae x 5,ae x 6,ae x 7]) (λr s=>(if mI r s>1073741824 then .inr (.aZ [I 0,aK false])else .inl [I (mI r s)]:List D⊕D)) (λi s=>1<=s/\s<=1073741824) ?_ ?_ n 0 1 (by simp) (by omega) (xai _)
  .rw[bT,xal]at iu;by_cases aa:mI vs 1>1073741824;.rw[xac aa]at iu⊢;simp only[BG,Oy,go_sem,ad,FG,ax,iu]
   rw[xae aa]at iu⊢;simp only[BG,Oy,go_sem,ad,FG,ax,iu]
  .intro s az;have:¬s>1073741824:=by omega
   rw[mI,xae this];simp only[JJ,go_sem,e5,yF ((vs.length:Int)<vs.length)]
  intro i v s hK ag az;have fT:=xad hK;obtain⟨J,aa,_⟩:=aS.2 v fT;have gF:=Ff n v J aa;have kp:=V.Cd v;have aU:=iq v fT;have CU:max v.span 1=v.span:=by omega
  have aj:=ag7 az.1 az.2 kp.1 kp.2;rw[CU]at aj;have bX:=yT ((i:Int)<(vs.length:Int));by_cases ah:s*v.span>1073741824
  .right;rw[mI,xac az.2,CU,ag6 _ _ (by omega),xac ah];simp only[JJ,go_sem,e5,bX,hk hK,V.a4,gF,xQ (bt:=false) (a:=s) (b:=v.span) (by omega) (by omega),xao ah]
  left;refine⟨s*v.span,?_,by rw[mI,xac az.2,CU],by omega⟩;simp only[JJ,go_sem,e5,bX,hk hK,V.a4,gF,xQ (bt:=false) (a:=s) (b:=v.span) (by omega) (by omega),xat ah,cf (bt:=false) (i:=i) (by omega)]
 .intro _ _;have:¬(o8 []=true):=by simp[o8]
  simp only[JI,go_sem,e5,yF ((vs.length:Int)<vs.length),xae this]
 intro i v _ hK ag _;obtain⟨J,aa,_⟩:=aS.2 v (xad hK);have gF:=Ff n v J aa;have bX:=yT ((i:Int)<(vs.length:Int));have vk:o8 (v::vs.drop (i+1))=(v.span==0||o8 (vs.drop (i+1))):=rfl;by_cases bF:v.span=0
 .right;have KZ:(v.span==0)=true:=by simp[bF]
  rw[vk,KZ,Bool.true_or,xac rfl];simp only[JI,go_sem,e5,bX,hk hK,V.a4,gF,KZ]
 left;have KZ:(v.span==0)=false:=by simpa using bF
 rw[vk,KZ,xbG];exact⟨(),by simp only[JI,go_sem,e5,bX,hk hK,V.a4,gF,KZ,cf (bt:=false) (i:=i) (by omega)],rfl,trivial⟩
def cJ(l:e6):D:= .aW 1 (l.map λs=>[cc s])
def gy(v:V):Int:=if v.bool=true then 0 else v.lo
def jc(v:V)(s:List Int):e6:=(List.range v.span.toNat).map λ(j:Nat)=>s++[gy v+(j:Int)]
def iA:List V->e6->e6
 |[],out=>out|v::r,out=>iA r (out.flatMap (jc v))
def hd:List V->Nat
 |[]=>1|v::r=>v.span.toNat*hd r
def mJ(v:V):Prop:=1<=v.span/\v.span<=64/\-2000000<=gy v/\gy v<=2000000
theorem lj(l:e6):D.aW 1 (bb (cJ l))=cJ l:=rfl
def u5(l:e6):(bb (cJ l)).length=l.length:=by simp[cJ]
def K0{l:e6}{j:Nat}{s:List Int}(h:l[j]?=some s):(bb (cJ l))[j]?=some [cc s]:=by simp[cJ,h]
def W5(l:e6)(s:List Int):D.aW 1 (bb (cJ l)++[[cc s]])=cJ (l++[s]):=by simp[cJ]
theorem ah1(s:List Int):ri (cc s)=some (1,s.map λ(x:Int)=>[I x]):=rfl
theorem FH(s:List Int):bV (cc s)=true:=rfl
section
variable(x:D)(vs:List V)(n:Nat)
def aA5(aS:l6 vs)(aN:100000<n)(i k:Nat)(v:V)(lL:vs[i]?=some v)(bL:mJ v)(out:e6)(s:List Int)(az:out[k]?=some s)(kp:s.length<=200)(LD:out.length<=5000)(nx:e6)(nO:nx.length<=400000):bJ (JK n) n [I (i:Int),I (gy v),I (k:Int),I 0,bu vs,ae x 1,ae x 2,ae x 3,ae x 4,ae x 5,ae x 6,ae x 7,cJ out,cJ nx]=some (.inl [I (i:Int),I (gy v),I (k:Int),bu vs,ae x 1,ae x 2,ae x 3,ae x 4,ae x 5,ae x 6,ae x 7,cJ out,cJ (nx++jc v s)]):=by
 obtain⟨g1,g2,g3,g4⟩:=bL;obtain⟨i1,i2,_⟩:=aS.2 v (xad lL);have gF:=Ff n v i1 i2;have iY:=(xaa.1 az).1;have aA6:v.span=(v.span.toNat:Int):=by omega
 have ag:=dy (f:=JK n) (List.range v.span.toNat) (λj (q:e6)=>[I (i:Int),I (gy v),I (k:Int),I (j:Int),bu vs,ae x 1,ae x 2,ae x 3,ae x 4,ae x 5,ae x 6,ae x 7,cJ out,cJ q]) (λr q=>(.inl [I (i:Int),I (gy v),I (k:Int),bu vs,ae x 1,ae x 2,ae x 3,ae x 4,ae x 5,ae x 6,ae x 7,cJ out,cJ (q++r.map λ(j:Nat)=>s++[gy v+(j:Int)])]:List D⊕(List D⊕(List D⊕(List D⊕(List D⊕(List D⊕(List D⊕D)))))))) (λj q=>q.length<=400000+j) ?_ ?_ n 0 nx (by omega) (by simp;omega) (xai _);.exact ag
 .intro q bU;have b6:decide (((List.range v.span.toNat).length:Int)<v.span)=false:=xat (by rw[xbD];omega);simp only[JK,go_sem,hk lL,V.a4,gF,b6,lj,xbb,xau]
 intro j a q aG aA bU;rw[xbD]at aA;have W6:a=j:=by have:=(xaa.1 aG).2;simpa using this.symm
 subst W6;have b6:decide ((a:Int)<v.span)=true:=xao (by omega);have dt:cC out.length (I (k:Int))=some k:=by rw[j2,xac iY]
 have fZ:bD false .add (I (gy v)) (I (a:Int))=some (I (gy v+(a:Int))):=e9 (by omega) (by omega);have ey:cT s.length 8=true:=fX (by omega) (by omega);have ez:cT (s.length+1) 8=true:=fX (by omega) (by omega);have hQ:cT (q.length+1) 24=true:=fX (by omega) (by omega);have gq:bM false 1 0 [cc s]=some (cc s):=rfl;have aA7:(decide (True\/(s.map λ(x:Int)=>[I x])=[])&&decide (0<1))=true:=by simp
 have o6:((1:Nat)=1)=True:=eq_self 1;left;refine⟨q++[s++[gy v+(a:Int)]],?_,by simp,by simp;omega⟩;simp only[JK,go_sem,hk lL,V.a4,gF,b6,u5,dt,K0 az,gq,ah1,o6,aA7,xay,xaW,xaL,ey,fZ,xan,xax,xaP,ez];have aM:D.aW 1 ((s.map λ(x:Int)=>[I x])++[[I (gy v+(a:Int))]])=cc (s++[gy v+(a:Int)]):=by simp[cc]
 simp only[aM,FH,go_sem,hQ,cf (bt:=false) (i:=a) (by omega),W5,lj]
def aA8(aS:l6 vs)(aN:100000<n)(i:Nat)(v:V)(lL:vs[i]?=some v)(bL:mJ v)(out:e6)(kp:∀s∈out,s.length<=200)(LD:out.length<=5000):bJ (JL n) n [I (i:Int),I (gy v),I 0,bu vs,ae x 1,ae x 2,ae x 3,ae x 4,ae x 5,ae x 6,ae x 7,cJ out,cJ []]=some (.inl [I (i:Int),bu vs,ae x 1,ae x 2,ae x 3,ae x 4,ae x 5,ae x 6,ae x 7,cJ (out.flatMap (jc v))]):=by
 have ag:=dy (f:=JL n) out (λj (q:e6)=>[I (i:Int),I (gy v),I (j:Int),bu vs,ae x 1,ae x 2,ae x 3,ae x 4,ae x 5,ae x 6,ae x 7,cJ out,cJ q]) (λr q=>(.inl [I (i:Int),bu vs,ae x 1,ae x 2,ae x 3,ae x 4,ae x 5,ae x 6,ae x 7,cJ (q++r.flatMap (jc v))]:List D⊕(List D⊕(List D⊕(List D⊕D))))) (λj q=>q.length<=64*j) ?_ ?_ n 0 [] (by simp) (by omega) (xai _);.exact ag
 .intro q bU;simp only[JL,go_sem,u5,yF ((out.length:Int)<out.length),lj,List.flatMap_nil,xau]
 intro j s q az aA bU;have cq:=yT ((j:Int)<(out.length:Int));have fg:=aA5 x vs n aS aN i j v lL bL out s az (kp s (xad az)) LD q (by omega);have ej:(jc v s).length<=64:=by have:=bL.2.1;simp only[jc,xaW,xbD];omega
 left;refine⟨q++jc v s,?_,by simp[xcp],by simp;omega⟩;simp only[JL,go_sem,u5,cq,lj,fg,cf (bt:=false) (i:=j) (by omega)]
def aA9(v:V)(s:List Int):(jc v s).length=v.span.toNat:=by simp[jc]
def Ql(v:V):∀out:e6,(out.flatMap (jc v)).length=out.length*v.span.toNat
 |[]=>by simp|s::r=>by rw[xcp,xaP,Ql v r,aA9,xan,Nat.succ_mul,Nat.add_comm]
def W7:∀(l:List V),(∀v∈l,mJ v)->1<=hd l
 |[],_=>xaU 1
 |v::r,h=>by
  have J:=(h v (by simp)).1;have aa:=W7 r λw hw=>h w (by simp[hw]);have:1<=v.span.toNat:=by omega
  rw[hd];exact Nat.mul_le_mul this aa
def Qm:∀(l:List V)(out:e6),(iA l out).length=out.length*hd l
 |[],out=>by simp[iA,hd]|v::r,out=>by rw[iA,Qm r,Ql,hd,Nat.mul_assoc]
theorem W8{v:V}{s t:List Int}(h:t∈jc v s):t.length=s.length+1:=by simp only[jc,xaN]at h;obtain⟨j,_,rfl⟩:=h;simp
def aBa(ad:dO 8 x=true)(FG:ae x 0=bu vs)(WE:D.agg [bu vs,ae x 1,ae x 2,ae x 3,ae x 4,ae x 5,ae x 6,ae x 7]=x)(aS:l6 vs)(aN:100000<n)(al:vs.length<=100)(bL:∀v∈vs,mJ v)(aU:hd vs<=4096)(ft:stM vs=((hd vs:Int),true)):JN n [x,I 4096]=some (cJ (iA vs [[]])):=by
 have cL:=aA4 ad FG n aS al (by omega);rw[ft]at cL;have tE:decide (((hd vs:Nat):Int)>4096)=false:=xat (by omega);have ag:=dy (f:=JM n) vs (λi (q:e6)=>[I (i:Int),bu vs,ae x 1,ae x 2,ae x 3,ae x 4,ae x 5,ae x 6,ae x 7,cJ q]) (λr q=>(.inl [cJ (iA r q)]:List D⊕D)) (λi q=>q.length*hd (vs.drop i)<=4096/\∀s∈q,s.length=i) ?_ ?_ n 0 [[]] ⟨by simpa using aU,by simp⟩ (by omega) (xai _)
 .have bT:(I ((0:Nat):Int))=I 0:=rfl;have aM:D.aW 1 [[D.aW 1 ([]:List (List D))]]=cJ [[]]:=rfl;have eK:bV (D.aW 1 ([]:List (List D)))=true:=rfl;rw[bT,xal]at ag;simp only[JN,acU,go_sem,ad,FG,WE,cL,tE,eK,aM,ag,lj,Bool.or_self]
 .intro q bU;simp only[JM,go_sem,e5,yF ((vs.length:Int)<vs.length),lj,iA]
 rintro i v q lL ag ⟨J,aa⟩;have W9:=bL v (xad lL);have ay:vs.drop i=v::vs.drop (i+1):=by obtain⟨bX,rfl⟩:=xaa.1 lL;exact xaO bX
 have Xa:=W7 (vs.drop i) λw hw=>bL w (xbp hw);have CK:q.length<=4096:=xbK (Nat.le_mul_of_pos_right _ Xa) J;have l5:=aA8 x vs n aS aN i v lL W9 q (λs az=>by rw[aa s az];omega) (by omega);have cq:=yT ((i:Int)<(vs.length:Int));have a2:bM false 1 2 v.cells=some (I v.lo):=rfl;have aI:bM false 1 1 v.cells=some (aK v.bool):=rfl;have aM:D.aW 1 ([]:List (List D))=cJ []:=rfl;left;refine⟨q.flatMap (jc v),?_,rfl,?_,?_⟩
 .cases aj:v.bool with
  |true=>
   have gZ:gy v=0:=by simp[gy,aj]
   rw[gZ]at l5;simp only[JM,go_sem,e5,cq,hk lL,a2,aI,aj,aM,lj,l5,cf (bt:=false) (i:=i) (by omega)]
  |false=>
   have gZ:gy v=v.lo:=by simp[gy,aj]
   rw[gZ]at l5;simp only[JM,go_sem,e5,cq,hk lL,a2,aI,aj,aM,lj,l5,cf (bt:=false) (i:=i) (by omega)]
 .rw[Ql];rw[ay,hd]at J;rw[Nat.mul_assoc];exact J
 intro t aP;obtain⟨s,az,K1⟩:=xct.1 aP;rw[W8 K1,aa s az]
end
def aBb{l:List V}{s:List Int}(h:hc l s){v:V}{x:Int}(ad:if v.bool then x=0\/x=1 else v.lo<=x/\x<=v.ag):hc (l++[v]) (s++[x]):=by
 refine⟨by simp[h.1],λi w y hw aH=>?_⟩;rcases Nat.lt_trichotomy i l.length with ag|ag|ag
 .rw[xaq ag]at hw;rw[xaq (by rw[h.1];exact ag)]at aH;exact h.2 i w y hw aH
 .subst ag;rw[xaz (xaU _)]at hw;rw[xaz (by rw[h.1];exact xaU _)]at aH;simp[h.1]at hw aH;subst hw;subst aH;exact ad
 rw[xaM (by simp;omega)]at hw;cases hw
def aBc{v:V}{j:Nat}(aA:j<v.span.toNat)(bL:mJ v):if v.bool then(gy v+(j:Int)=0\/gy v+(j:Int)=1)else v.lo<=gy v+(j:Int)/\gy v+(j:Int)<=v.ag:=by
 have g2:=bL.2.1;unfold V.span at aA g2;unfold gy;cases aj:v.bool with
 |true=>rw[aj]at aA g2;simp only[xaG]at aA⊢;omega
 |false=>
  rw[aj]at aA g2;simp only[xar,xaI]at aA g2⊢;split at aA;.simp at aA
  split at aA;.omega
  rename_i J aa;rw[xae J,xae aa]at g2;omega
def ah2:∀(r pre:List V)(out:e6),(∀v∈r,mJ v)->(∀s∈out,hc pre s)->∀s∈iA r out,hc (pre++r) s
 |[],pre,out,_,h,s,az=>by rw[xau];exact h s az
 |v::r,pre,out,bL,h,s,az=>by
  rw[iA]at az;have:=ah2 r (pre++[v]) (out.flatMap (jc v)) (λw hw=>bL w (by simp[hw])) (λt aP=>?_) s az
  .rw[xaK]at this;exact this
  obtain⟨q,bU,ah3⟩:=xct.1 aP;simp only[jc,xaN,xbT]at ah3;obtain⟨j,aA,rfl⟩:=ah3;exact aBb (h q bU) (aBc aA (bL v (by simp)))
def aBd{l:List V}(bL:∀v∈l,mJ v):∀s∈iA l [[]],hc l s:=by have:=ah2 l [] [[]] bL (λs az=>by simp at az;subst az;exact⟨rfl,λi v x aS=>by simp at aS⟩);simpa using this
def aBe{l:List V}(h:(k1 l).2=0):∀i v,l[i]?=some v->C7 (l.take i) v=0:=by intro i v aS;have bX:=(xaa.1 aS).1;unfold k1 at h;cases bm:(List.range l.length).find? (λi=>jL l i !=0)with|none=>have:=List.find?_eq_none.1 bm i (by simp;exact bX);unfold jL at this;rw[aS]at this;simpa using this|some j=>rw[bm]at h;have:=List.find?_some bm;simp only at h;rw[h]at this;cases this
def ah4{l:List V}(h:(k1 l).2=0):∀v∈l,mJ v:=by
 intro v aS;obtain⟨i,ag⟩:=xaF.1 aS;have ar:=aBe h i v ag;unfold C7 at ar;split at ar
 .cases ar
 split at ar;.cases ar
 split at ar;.cases ar
 split at ar;.cases ar
 rename_i J aa ax bj;unfold mJ gy V.span;cases aj:v.bool with
 |true=>simp
 |false=>
  rw[aj]at bj;simp only[xcg,xbs,xbk,xaC,not_or,vF]at bj;obtain⟨⟨g1,g2,g3⟩,g4⟩:=bj;have fH:v.ag<=255:=by
   by_cases ah:v.ag>v.lo;.rw[xac ah]at g2;omega
   rw[xae ah]at g2;omega
  have hI:-255<=v.lo:=by
   by_cases ah:v.ag<v.lo;.omega
   rw[xae ah]at g3;omega
  rw[wrap64 _ (by omega) (by omega)]at g4;simp only[xar,xaI,xae g1,xac (show v.ag-v.lo<1073741824 by omega)];omega
def qV(s:List Int):D:=if s=[]then de else cc s
def iR(l:e6):D:= .aW 1 (l.map λs=>[qV s])
def Qn(l:e6):(bb (iR l)).length=l.length:=by simp[iR]
def aBf{l:e6}{j:Nat}{s:List Int}(h:l[j]?=some s):(bb (iR l))[j]?=some [qV s]:=by simp[iR,h]
def aBg{s:List Int}{x:Int}:qV (s++[x])=cc (s++[x]):=by unfold qV;rw[xae (by simp)]
def aBh(l:e6)(s:List Int)(x:Int):D.aW 1 (bb (iR l)++[[cc (s++[x])]])=iR (l++[s++[x]]):=by rw[<-aBg];simp[iR]
theorem y5(l:e6):D.aW 1 (bb (iR l))=iR l:=rfl
def aBi(n:Nat)(s:List Int)(az:s.length<=1000000):Jl n [qV s]=some [cc s]:=by
 unfold qV;by_cases h:s=[];.rw[xac h];subst h;rfl
 rw[xae h];have J:Mj .eql (cc s) (D.val (.slice none 0 0))=some (aK false):=by cases s with|nil=>exact absurd rfl h|cons a r=>rfl
 have aa:cT (([]:List (List D)).length+(s.map λ(x:Int)=>[I x]).length) 8=true:=by
  have e:([]:List (List D)).length+(s.map λ(x:Int)=>[I x]).length=s.length:=by simp
  rw[e];exact fX (by omega) (by omega)
 have ax:(decide (True\/(s.map λ(x:Int)=>[I x])=[])&&decide (0<1))=true:=by simp
 have o6:((1:Nat)=1)=True:=eq_self 1;have bj:D.aW 1 (([]:List (List D))++s.map λ(x:Int)=>[I x])=cc s:=rfl;simp only[Jl,go_sem,J,ah1,o6,aa,ax,bj]
section
variable(vs:List V)(n:Nat)
def aBj(aN:100000<n)(v:V)(bL:mJ v)(a b c d:D)(k:Nat)(s:List Int)(kp:s.length<=200)(nx out:e6)(nO:nx.length<=400000):bJ (Jm n) n [I (gy v),qV s,a,b,c,d,I (k:Int),I v.span,I 0,ae v.d 0,ae v.d 1,ae v.d 2,ae v.d 3,iR nx,iR out]=some (.inl [I (gy v),a,b,c,d,I (k:Int),ae v.d 0,ae v.d 1,ae v.d 2,ae v.d 3,iR (nx++jc v s),iR out]):=by
 obtain⟨g1,g2,g3,g4⟩:=bL;have aA6:v.span=(v.span.toNat:Int):=by omega
 have ht:=aBi n s (by omega);have ag:=dy (f:=Jm n) (List.range v.span.toNat) (λj (q:e6)=>[I (gy v),qV s,a,b,c,d,I (k:Int),I v.span,I (j:Int),ae v.d 0,ae v.d 1,ae v.d 2,ae v.d 3,iR q,iR out]) (λr q=>(.inl [I (gy v),a,b,c,d,I (k:Int),ae v.d 0,ae v.d 1,ae v.d 2,ae v.d 3,iR (q++r.map λ(j:Nat)=>s++[gy v+(j:Int)]),iR out]:List D⊕(List D⊕(List D⊕(List D⊕(List D⊕(List D⊕(List D⊕D)))))))) (λj q=>q.length<=400000+j) ?_ ?_ n 0 nx (by omega) (by simp;omega) (xai _)
 .exact ag
 .intro q bU;have b6:decide (((List.range v.span.toNat).length:Int)<v.span)=false:=xat (by rw[xbD];omega);simp only[Jm,go_sem,b6,y5,xbb,xau]
 intro j cM q aG aA bU;rw[xbD]at aA;have W6:cM=j:=by have:=(xaa.1 aG).2;simpa using this.symm
 subst W6;have b6:decide ((cM:Int)<v.span)=true:=xao (by omega);have fZ:bD false .add (I (gy v)) (I (cM:Int))=some (I (gy v+(cM:Int))):=e9 (by omega) (by omega);have ez:cT (s.length+1) 8=true:=fX (by omega) (by omega);have hQ:cT (q.length+1) 24=true:=fX (by omega) (by omega);have bT:∀x:D,bd [x] 0=x:=λ_=>rfl;have a8:(bb (cc s)).length=s.length:=by simp[cc]
 have aM:D.aW 1 (bb (cc s)++[[I (gy v+(cM:Int))]])=cc (s++[gy v+(cM:Int)]):=by simp[cc]
 left;refine⟨q++[s++[gy v+(cM:Int)]],?_,by simp,by simp;omega⟩;simp only[Jm,go_sem,b6,ht,fZ,bT,a8,xan,xay,ez,aM,FH,Qn,hQ,cf (bt:=false) (i:=cM) (by omega),aBh,y5]
def aBk(aN:100000<n)(v:V)(J:mX v.lo)(aa:mX v.ag)(bL:mJ v)(a b c:D)(out:e6)(kp:∀s∈out,s.length<=200)(LD:out.length<=5000):bJ (Jn n) n [I (gy v),a,b,c,I out.length,I 0,ae v.d 0,ae v.d 1,ae v.d 2,ae v.d 3,iR [],iR out]=some (.inl [a,b,c,iR (out.flatMap (jc v))]):=by
 have gF:=Wn n v J aa;have ag:=dy (f:=Jn n) out (λj (q:e6)=>[I (gy v),a,b,c,I out.length,I (j:Int),ae v.d 0,ae v.d 1,ae v.d 2,ae v.d 3,iR q,iR out]) (λr q=>(.inl [a,b,c,iR (q++r.flatMap (jc v))]:List D⊕(List D⊕(List D⊕(List D⊕D))))) (λj q=>q.length<=64*j) ?_ ?_ n 0 [] (by simp) (by omega) (xai _)
 .exact ag
 .intro q bU;simp only[Jn,go_sem,yF ((out.length:Int)<out.length),y5,List.flatMap_nil,xau]
 intro j s q az aA bU;have cq:=yT ((j:Int)<(out.length:Int));have dt:cC out.length (I (j:Int))=some j:=by rw[j2,xac aA]
 have l5:=aBj n aN v bL a b c (I out.length) j s (kp s (xad az)) q out (by omega);have gq:bM false 1 0 [qV s]=some (qV s):=rfl;have ej:(jc v s).length<=64:=by have:=bL.2.1;simp only[jc,xaW,xbD];omega
 left;refine⟨q++jc v s,?_,by simp[xcp],by simp;omega⟩;simp only[Jn,go_sem,cq,Qn,dt,aBf az,gq,V.PC,gF,y5,l5,cf (bt:=false) (i:=j) (by omega)]
def aBl(aS:l6 vs)(aN:100000<n)(al:vs.length<=100)(bL:∀v∈vs,mJ v)(aU:hd vs<=4096):N9 n [bu vs]=some (iR (iA vs [[]])):=by
 have ag:=dy (f:=Jo n) vs (λi (q:e6)=>[bu vs,I vs.length,I (i:Int),iR q]) (λr q=>(.inl [iR (iA r q)]:List D⊕D)) (λi q=>q.length*hd (vs.drop i)<=4096/\∀s∈q,s.length=i) ?_ ?_ n 0 [[]] ⟨by simpa using aU,by simp⟩ (by omega) (xai _);.have bT:(I ((0:Nat):Int))=I 0:=rfl;have aM:D.aW 1 [[(D.val (.slice none 0 0))]]=iR [[]]:=rfl;rw[bT,xal]at ag;simp only[N9,acH,go_sem,e5,aM,ag,y5]
 .intro q bU;simp only[Jo,go_sem,yF ((vs.length:Int)<vs.length),y5,iA]
 rintro i v q lL ag ⟨J,aa⟩;have fT:=xad lL;have W9:=bL v fT;obtain⟨i1,i2,_⟩:=aS.2 v fT;have ay:vs.drop i=v::vs.drop (i+1):=by obtain⟨bX,rfl⟩:=xaa.1 lL;exact xaO bX
 have Xa:=W7 (vs.drop i) λw hw=>bL w (xbp hw);have CK:q.length<=4096:=xbK (Nat.le_mul_of_pos_right _ Xa) J;have ta:=aBk n aN v i1 i2 W9 (bu vs) (I vs.length) (I (i:Int)) q (λs az=>by rw[aa s az];omega) (by omega);have cq:=yT ((i:Int)<(vs.length:Int));have aM:D.aW 1 ([]:List (List D))=iR []:=rfl;have c1:ae v.d 1=aK v.bool:=rfl;have c2:ae v.d 2=I v.lo:=rfl;left;refine⟨q.flatMap (jc v),?_,rfl,?_,?_⟩
 .cases aj:v.bool with
  |true=>
   have gZ:gy v=0:=by simp[gy,aj]
   rw[gZ,c1,aj]at ta;simp only[Jo,go_sem,cq,hk lL,V.a4,V.g4,c1,aj,aM,y5,Qn,ta,cf (bt:=false) (i:=i) (by omega)]
  |false=>
   have gZ:gy v=v.lo:=by simp[gy,aj]
   rw[gZ,c1,c2,aj]at ta;simp only[Jo,go_sem,cq,hk lL,V.a4,V.g4,c1,c2,aj,aM,y5,Qn,ta,cf (bt:=false) (i:=i) (by omega)]
 .rw[Ql];rw[ay,hd]at J;rw[Nat.mul_assoc];exact J
 intro t aP;obtain⟨s,az,K1⟩:=xct.1 aP;rw[W8 K1,aa s az]
def ah5(s:List Int):Ec (qV s)=cc s:=by
 unfold qV;by_cases h:s=[];.rw[xac h];subst h;rfl
 rw[xae h];rfl
def aBm(aS:l6 vs)(aN:100000<n)(al:vs.length<=100)(bL:∀v∈vs,mJ v)(aU:hd vs<=4096):Ed n [bu vs]=some (cJ (iA vs [[]])):=by
 have h:Jp (iR (iA vs [[]]))=some (cJ (iA vs [[]])):=by
  unfold Jp iR;have J:((iA vs [[]]).map λs=>[qV s]).all (λe=>(e.map Ec).all D.one)=true:=by rw[xaB];intro e he;obtain⟨s,_,rfl⟩:=xaN.1 he;simp only[xaw,xbb,ah5,xbg,xcn,xbw];rfl
  simp only[J,xaG,cJ,List.map_map]
  congr 2
  refine List.map_congr_left λs _=>?_;simp[ah5]
 simp only[Ed,aBl vs n aS aN al bL aU,h]
end
def cd(l:List Nat):D:= .aW 1 (l.map λ(k:Nat)=>[I (k:Int)])
def c8(l:et):D:= .aW 1 (l.map λs=>[cd s])
def fF(l:List (List Bool)):D:= .aW 1 (l.map λs=>[cu s])
def hW(p:List Int->Bool):Nat->e6->List Nat
 |_,[]=>[]|i,s::r=>if p s=true then i::hW p (i+1) r else hW p (i+1) r
noncomputable def dW(m:au):e6:=(iA m.vars [[]]).filter (jD m)
noncomputable def qW(m:au)(s:List Int):List Nat:=hW (n1 m s) 0 (dW m)
noncomputable def u6(m:au):List Nat:=hW (u2 m) 0 (dW m)
noncomputable def ps(m:au):D:= .agg [cJ (dW m),c8 ((dW m).map (qW m)),cd (u6 m),fF ((dW m).map (lF m))]
def qf(l:List Nat):(bb (cd l)).length=l.length:=by simp[cd]
def FI(l:et):(bb (c8 l)).length=l.length:=by simp[c8]
def Qo(l:List (List Bool)):(bb (fF l)).length=l.length:=by simp[fF]
def j9(l:List Bool):(bb (cu l)).length=l.length:=by simp[cu]
theorem fc(l:List Nat):D.aW 1 (bb (cd l))=cd l:=rfl
theorem n2(l:et):D.aW 1 (bb (c8 l))=c8 l:=rfl
theorem y6(l:List (List Bool)):D.aW 1 (bb (fF l))=fF l:=rfl
theorem fG(l:List Bool):D.aW 1 (bb (cu l))=cu l:=rfl
def u7(l:List Nat)(k:Nat):D.aW 1 (bb (cd l)++[[I (k:Int)]])=cd (l++[k]):=by simp[cd]
def FJ(l:et)(k:List Nat):D.aW 1 (bb (c8 l)++[[cd k]])=c8 (l++[k]):=by simp[c8]
def Qp(l:List (List Bool))(k:List Bool):D.aW 1 (bb (fF l)++[[cu k]])=fF (l++[k]):=by simp[fF]
def aBn(l:List Bool)(k:Bool):D.aW 1 (bb (cu l)++[[aK k]])=cu (l++[k]):=by simp[cu]
theorem Qq(l:List Nat):bV (cd l)=true:=rfl
theorem Qr(l:List Bool):bV (cu l)=true:=rfl
def oD{l:e6}{j:Nat}{s:List Int}(h:l[j]?=some s):b3 1 (cJ l) (I (j:Int))=some [cc s]:=by obtain⟨bX,rfl⟩:=xaa.1 h;simp[cJ,bX]
def kv(l:e6):fW (cJ l)=some (I l.length):=by simp[cJ]
def ah6{p:List Int->Bool}:∀(l:e6)(i:Nat),∀k∈hW p i l,i<=k/\k<i+l.length/\∃s,l[k-i]?=some s/\p s=true
 |[],i,k,h=>by simp[hW]at h
 |s::r,i,k,h=>by
  unfold hW at h;have rc:k∈hW p (i+1) r->i<=k/\k<i+(s::r).length/\∃s',(s::r)[k-i]?=some s'/\p s'=true:=by intro h;obtain⟨J,aa,s',ax,bj⟩:=ah6 r (i+1) k h;refine⟨by omega,by simp;omega,s',?_,bj⟩;rw[show k-i=(k-(i+1))+1 by omega];simpa using ax
  split at h
  .rename_i aU;rcases xam.1 h with rfl|h
   .exact⟨by omega,by simp,s,by simp,aU⟩
   exact rc h
  exact rc h
section
variable{m:au}(h:y2 m)(n:Nat)(aN:13306000000<n)
include h aN
theorem aBo(A:e6)(dm:∀s∈A,hc m.vars s)(al:A.length<=5000):bJ (Ef n) n [cJ A,I A.length,I 0,de,de,de,bu m.vars,de,aC (m.bZ.map (cw m.aD)),aC (m.b1.map (cw m.aD)),aY (m.next.map (gH m.aD)),aC (m.trans.map (cw m.aD)),aC (m.bR.map (cw m.aD)),b5 (m.bS.map (iQ m.aD)),cJ []]=some (.inl [de,de,de,bu m.vars,de,aC (m.bZ.map (cw m.aD)),aC (m.b1.map (cw m.aD)),aY (m.next.map (gH m.aD)),aC (m.trans.map (cw m.aD)),aC (m.bR.map (cw m.aD)),b5 (m.bS.map (iQ m.aD)),cJ (A.filter (jD m))]):=by
 have aj:=h.nt.b.2.1;have ag:=dy (f:=Ef n) A (λi (p:e6)=>[cJ A,I A.length,I (i:Int),de,de,de,bu m.vars,de,aC (m.bZ.map (cw m.aD)),aC (m.b1.map (cw m.aD)),aY (m.next.map (gH m.aD)),aC (m.trans.map (cw m.aD)),aC (m.bR.map (cw m.aD)),b5 (m.bS.map (iQ m.aD)),cJ p]) (λr p=>(.inl [de,de,de,bu m.vars,de,aC (m.bZ.map (cw m.aD)),aC (m.b1.map (cw m.aD)),aY (m.next.map (gH m.aD)),aC (m.trans.map (cw m.aD)),aC (m.bR.map (cw m.aD)),b5 (m.bS.map (iQ m.aD)),cJ (p++r.filter (jD m))]:List D⊕D)) (λi p=>p.length<=i) ?_ ?_ n 0 [] (by simp) (by omega) (xai _)
 .exact ag
 .intro p _;simp only[Ef,go_sem,yF ((A.length:Int)<A.length),List.filter_nil,xau,lj]
 intro i s p az ag aU;have av:=dm s (xad az);have eJ:=W3 h.kS h.gB av (nx:=false) (nn:=[]) (by simp) (λ_=>rfl) (bn:=true) n aN (L:=m.b1) h.th aj;rw[E9]at eJ;have ft:jD m s=m.b1.all λt=>il m.vars (dT m.aD t).1 s []:=by unfold jD;rw[WS.2 av,xbs]
 rw[<-ft]at eJ;have cq:=yT ((i:Int)<(A.length:Int));have eL:cT (p.length+1) 24=true:=fX (by omega) (by omega);left;cases ah:jD m s with|true=>rw[ah]at eJ;refine⟨p++[s],?_,by rw[List.filter_cons,ah];simp,by simp;omega⟩;simp only[Ef,go_sem,b9.agg,b9.bc,b9.c1,b9.c2,b9.b8,b9.c3,b9.dq,b9.dr,b9.dG,b9.eta,cq,oD az,ew,eJ,FH,u5,xan,xay,eL,W5,lj,cf (bt:=false) (i:=i) (by omega)]|false=>rw[ah]at eJ;refine⟨p,?_,by rw[List.filter_cons,ah];simp,by omega⟩;simp only[Ef,go_sem,b9.agg,b9.bc,b9.c1,b9.c2,b9.b8,b9.c3,b9.dq,b9.dr,b9.dG,b9.eta,cq,oD az,ew,eJ,lj,cf (bt:=false) (i:=i) (by omega)]
theorem ah7{s:List Int}(az:hc m.vars s)(a b c d e f:D)(he:∀x,x=c\/x=d\/x=e\/x=f->D.aW 1 (bb x)=x):bJ (JD n) n [cc s,a,b,aC (m.bR.map (cw m.aD)),I m.bR.length,I 0,bu m.vars,de,aC (m.bZ.map (cw m.aD)),aC (m.b1.map (cw m.aD)),aY (m.next.map (gH m.aD)),aC (m.trans.map (cw m.aD)),aC (m.bR.map (cw m.aD)),b5 (m.bS.map (iQ m.aD)),cu [],c,d,e,f]=some (.inl [cc s,a,b,bu m.vars,de,aC (m.bZ.map (cw m.aD)),aC (m.b1.map (cw m.aD)),aY (m.next.map (gH m.aD)),aC (m.trans.map (cw m.aD)),aC (m.bR.map (cw m.aD)),b5 (m.bS.map (iQ m.aD)),cu (lF m s),c,d,e,f]):=by
 have aj:=h.nt.b.2.2.2.2.1;have ah:=he c (.inl rfl);have ay:=he d (.inr (.inl rfl));have FK:=he e (.inr (.inr (.inl rfl)));have bm:=he f (.inr (.inr (.inr rfl)))
 have ag:=dy (f:=JD n) m.bR (λi (p:List Bool)=>[cc s,a,b,aC (m.bR.map (cw m.aD)),I m.bR.length,I (i:Int),bu m.vars,de,aC (m.bZ.map (cw m.aD)),aC (m.b1.map (cw m.aD)),aY (m.next.map (gH m.aD)),aC (m.trans.map (cw m.aD)),aC (m.bR.map (cw m.aD)),b5 (m.bS.map (iQ m.aD)),cu p,c,d,e,f]) (λr p=>(.inl [cc s,a,b,bu m.vars,de,aC (m.bZ.map (cw m.aD)),aC (m.b1.map (cw m.aD)),aY (m.next.map (gH m.aD)),aC (m.trans.map (cw m.aD)),aC (m.bR.map (cw m.aD)),b5 (m.bS.map (iQ m.aD)),cu (p++r.map λt=>il m.vars (dT m.aD t).1 s []),c,d,e,f]:List D⊕(List D⊕(List D⊕(List D⊕D))))) (λi p=>p.length=i) ?_ ?_ n 0 [] rfl (by omega) (xai _);.exact ag
 .intro p _;simp only[JD,go_sem,yF ((m.bR.length:Int)<m.bR.length),fG,xbb,xau,ah,ay,FK,bm]
 intro i t p aP ag aU;have ad:(m.bR.map (cw m.aD))[i]?=some (cw m.aD t):=by rw[xah,aP];rfl
 have cL:=ahX h.kS h.gB az (nx:=false) (nn:=[]) (by simp) (λ_=>rfl) (bn:=true) n aN (h.f t (xad aP));rw[E9]at cL;have cq:=yT ((i:Int)<(m.bR.length:Int));have eL:cT (p.length+1) 1=true:=fX (by omega) (by omega);left;refine⟨p++[il m.vars (dT m.aD t).1 s []],?_,by simp,by simp[aU]⟩;simp only[JD,go_sem,b9.agg,b9.bc,b9.c1,b9.c2,b9.b8,b9.c3,b9.dq,b9.dr,b9.dG,b9.eta,cq,WR ad,T.uP,T.p4,cL,j9,xan,xay,eL,aBn,ah,ay,FK,bm,cf (bt:=false) (i:=i) (by omega)]
theorem ah8(S:e6)(cL:∀s∈S,jD m s=true)(al:S.length<=5000){s:List Int}(az:jD m s=true)(a b c d e:D)(he:∀x,x=c\/x=d\/x=e->D.aW 1 (bb x)=x):bJ (Eg n) n [cc s,ku (qe m s),aK true,a,b,I S.length,I 0,bu m.vars,de,aC (m.bZ.map (cw m.aD)),aC (m.b1.map (cw m.aD)),aY (m.next.map (gH m.aD)),aC (m.trans.map (cw m.aD)),aC (m.bR.map (cw m.aD)),b5 (m.bS.map (iQ m.aD)),cd [],cJ S,c,d,e]=some (.inl [a,b,bu m.vars,de,aC (m.bZ.map (cw m.aD)),aC (m.b1.map (cw m.aD)),aY (m.next.map (gH m.aD)),aC (m.trans.map (cw m.aD)),aC (m.bR.map (cw m.aD)),b5 (m.bS.map (iQ m.aD)),cd (hW (n1 m s) 0 S),cJ S,c,d,e]):=by
 have ah:=he c (.inl rfl);have ay:=he d (.inr (.inl rfl));have FK:=he e (.inr (.inr rfl))
 have aj:=h.nt.b.2.2.2.1;have ag:=dy (f:=Eg n) S (λi (p:Nat×List Nat)=>[cc s,ku (qe m s),aK true,a,b,I S.length,I (i:Int),bu m.vars,de,aC (m.bZ.map (cw m.aD)),aC (m.b1.map (cw m.aD)),aY (m.next.map (gH m.aD)),aC (m.trans.map (cw m.aD)),aC (m.bR.map (cw m.aD)),b5 (m.bS.map (iQ m.aD)),cd p.2,cJ S,c,d,e]) (λr p=>(.inl [a,b,bu m.vars,de,aC (m.bZ.map (cw m.aD)),aC (m.b1.map (cw m.aD)),aY (m.next.map (gH m.aD)),aC (m.trans.map (cw m.aD)),aC (m.bR.map (cw m.aD)),b5 (m.bS.map (iQ m.aD)),cd (p.2++hW (n1 m s) p.1 r),cJ S,c,d,e]:List D⊕(List D⊕(List D⊕(List D⊕D))))) (λi p=>p.1=i/\p.2.length<=i) ?_ ?_ n 0 (0,[]) (by simp) (by omega) (xai _)
 .exact ag
 .intro p _;simp only[Eg,go_sem,yF ((S.length:Int)<S.length),fc,lj,ah,ay,FK,hW,xau]
 rintro i t ⟨q,p⟩ aP ag ⟨rfl,aU⟩;have ft:=cL t (xad aP);have av:=tk ft;have eJ:=W3 h.kS h.gB (tk az) (nx:=true) (nn:=t) (λ_=>av) (by simp) (bn:=false) n aN (L:=m.trans) h.t aj;rw[af2]at eJ;have ck:=aA3 h n aN (s:=s) av;have gF:n1 m s t=(m.next.all (qc m s t)&&m.trans.all λx=>il m.vars (dT m.aD x).1 s t):=by unfold n1;rw[az,ft,xbs,xbs]
 have cq:=yT ((q:Int)<(S.length:Int));have dt:cC S.length (I (q:Int))=some q:=by rw[j2,xac ag]
 have eL:cT (p.length+1) 8=true:=fX (by have:=aU;simp only at this;omega) (by have:=aU;simp only at this;omega);have ll:∀x,(aK x).flat=true:=λ_=>rfl;left;cases ad:n1 m s t with|true=>rw[gF]at ad;refine⟨(q+1,p++[q]),?_,by rw[hW,xac (by rw[gF];exact ad)];simp,rfl,by simp only at aU⊢;simp;omega⟩;simp only[Eg,go_sem,b9.agg,b9.bc,b9.c1,b9.c2,b9.b8,b9.c3,b9.dq,b9.dr,b9.dG,b9.eta,cq,u5,dt,K0 aP,ew,FH,ck,ll,yZ,wX,eJ,ad,Bool.not_not,qf,xan,xay,eL,u7,fc,lj,ah,ay,FK,cf (bt:=false) (i:=q) (by omega)]|false=>rw[gF]at ad;refine⟨(q+1,p),?_,by rw[hW,xae (by rw[gF,ad];simp)],rfl,by simp only at aU⊢;omega⟩;simp only[Eg,go_sem,b9.agg,b9.bc,b9.c1,b9.c2,b9.b8,b9.c3,b9.dq,b9.dr,b9.dG,b9.eta,cq,u5,dt,K0 aP,ew,FH,ck,ll,yZ,wX,eJ,ad,Bool.not_not,fc,lj,ah,ay,FK,cf (bt:=false) (i:=q) (by omega)]
theorem aBp(S:e6)(cL:∀s∈S,jD m s=true)(al:S.length<=5000):bJ (Eh n) n [I S.length,I 0,bu m.vars,de,aC (m.bZ.map (cw m.aD)),aC (m.b1.map (cw m.aD)),aY (m.next.map (gH m.aD)),aC (m.trans.map (cw m.aD)),aC (m.bR.map (cw m.aD)),b5 (m.bS.map (iQ m.aD)),cJ S,c8 [],cd [],fF []]=some (.inl [cJ S,c8 (S.map λs=>hW (n1 m s) 0 S),cd (hW (u2 m) 0 S),fF (S.map (lF m))]):=by
 have ag:=dy (f:=Eh n) S (λi (p:Nat×et×List Nat×List (List Bool))=>[I S.length,I (i:Int),bu m.vars,de,aC (m.bZ.map (cw m.aD)),aC (m.b1.map (cw m.aD)),aY (m.next.map (gH m.aD)),aC (m.trans.map (cw m.aD)),aC (m.bR.map (cw m.aD)),b5 (m.bS.map (iQ m.aD)),cJ S,c8 p.2.1,cd p.2.2.1,fF p.2.2.2]) (λr p=>(.inl [cJ S,c8 (p.2.1++r.map λs=>hW (n1 m s) 0 S),cd (p.2.2.1++hW (u2 m) p.1 r),fF (p.2.2.2++r.map (lF m))]:List D⊕D)) (λi p=>p.1=i/\p.2.1.length=i/\p.2.2.1.length<=i/\p.2.2.2.length=i) ?_ ?_ n 0 (0,[],[],[]) (by simp) (by omega) (xai _);.exact ag
 .intro p _;simp only[Eh,go_sem,yF ((S.length:Int)<S.length),n2,fc,y6,lj,hW,xbb,xau]
 rintro i s ⟨q,nx,dK,dL⟩ az ag ⟨rfl,J,aa,ax⟩;simp only at J aa ax;have ft:=cL s (xad az);have av:=tk ft;have eJ:=W3 h.kS h.gB av (nx:=false) (nn:=[]) (by simp) (λ_=>rfl) (bn:=true) n aN (L:=m.bZ) h.i h.nt.b.1;rw[E9]at eJ;have cS:u2 m s=m.bZ.all λt=>il m.vars (dT m.aD t).1 s []:=by unfold u2;rw[ft,xbs]
 rw[<-cS]at eJ;have cq:=yT ((q:Int)<(S.length:Int));have dt:cC S.length (I (q:Int))=some q:=by rw[j2,xac ag]
 have ey:cT (dK.length+1) 8=true:=fX (by omega) (by omega);have ez:cT (dL.length+1) 24=true:=fX (by omega) (by omega);have hQ:cT (nx.length+1) 24=true:=fX (by omega) (by omega);have bI:fW (aC (m.bR.map (cw m.aD)))=some (I m.bR.length):=by rw[ix,xaW]
 have mq:=aA2 h n aN av;have aM:D.aW 1 ([]:List (List D))=cu []:=rfl;have aEN:∀x,(aK x).flat=true:=λ_=>rfl;left;cases ad:u2 m s with
 |true=>rw[ad]at eJ;have Xb:=ah7 h n aN av (I S.length) (I (q:Int)) (cJ S) (c8 nx) (cd (dK++[q])) (fF dL) (by rintro x (rfl|rfl|rfl|rfl)<;>rfl);have K2:=ah8 h n aN S cL al ft (I S.length) (I (q:Int)) (c8 nx) (cd (dK++[q])) (fF (dL++[lF m s])) (by rintro x (rfl|rfl|rfl)<;>rfl);have a8:cu []=cd []:=rfl;rw[<-a8]at K2;refine⟨(q+1,nx++[hW (n1 m s) 0 S],dK++[q],dL++[lF m s]),?_,by rw[hW,xac ad];simp,rfl,by simp[J],by simp only;simp;omega,by simp[ax]⟩;simp only[Eh,go_sem,b9.agg,b9.bc,b9.c1,b9.c2,b9.b8,b9.c3,b9.dq,b9.dr,b9.dG,b9.eta,cq,u5,dt,K0 az,ew,eJ,qf,xan,xay,ey,u7,fc,n2,y6,lj,bI,aM,Xb,fG,Qr,Qo,ez,Qp,mq,K2,Qq,FI,hQ,FJ,cf (bt:=false) (i:=q) (by omega)]
 |false=>rw[ad]at eJ;have Xb:=ah7 h n aN av (I S.length) (I (q:Int)) (cJ S) (c8 nx) (cd dK) (fF dL) (by rintro x (rfl|rfl|rfl|rfl)<;>rfl);have K2:=ah8 h n aN S cL al ft (I S.length) (I (q:Int)) (c8 nx) (cd dK) (fF (dL++[lF m s])) (by rintro x (rfl|rfl|rfl)<;>rfl);have a8:cu []=cd []:=rfl;rw[<-a8]at K2;refine⟨(q+1,nx++[hW (n1 m s) 0 S],dK,dL++[lF m s]),?_,by rw[hW,xae (by rw[ad];simp)];simp,rfl,by simp[J],by simp only;omega,by simp[ax]⟩;simp only[Eh,go_sem,b9.agg,b9.bc,b9.c1,b9.c2,b9.b8,b9.c3,b9.dq,b9.dr,b9.dG,b9.eta,cq,u5,dt,K0 az,ew,eJ,fc,n2,y6,lj,bI,aM,Xb,fG,Qr,Qo,xan,xay,ez,Qp,mq,K2,Qq,FI,hQ,FJ,cf (bt:=false) (i:=q) (by omega)]
theorem aBq(bL:∀v∈m.vars,mJ v)(aU:hd m.vars<=4096)(ft:stM m.vars=((hd m.vars:Int),true)){q:D}(bU:dO 2 q=true)(ah:oY n [m.d]=some (.aZ [q,I 0])):Bt n [m.d]=some (.aZ [ps m,I 0]):=by
 have dm:=aBm m.vars n h.kS (by omega) h.gB bL aU;have cL:=azd n m h.kS h.gB (by omega);rw[ft]at cL;have fI:=az8 h.nt n aN;have bI:(iA m.vars [[]]).length<=4096:=by rw[Qm];simpa using aU
 have Wg:=aBo h n aN (iA m.vars [[]]) (aBd bL) (by omega);have kp:(dW m).length<=4096:=xbK (List.length_filter_le _ _) bI;have o5:=aBp h n aN (dW m) (λs az=>(xbX.1 az).2) (by omega);have tE:decide (((hd m.vars:Nat):Int)>4096)=false:=xat (by omega);have aM:D.aW 1 ([]:List (List D))=cJ []:=rfl;have a8:cJ []=c8 []:=rfl;have b0:cJ []=cd []:=rfl;have cK:cJ []=fF []:=rfl;have nO:nG de=true:=rfl;have aG:dO 2 (.agg [I 0,I 0])=true:=rfl;have aBr:(iA m.vars [[]]).filter (jD m)=dW m:=rfl;rw[<-a8,<-cK,<-b0]at o5;simp only[Bt,Uw,go_sem,au.agg,au.bc,au.c1,au.c2,au.b8,au.c3,au.dq,au.dr,au.dG,au.eta,ah,bU,cL,tE,fI,b9.agg,b9.bc,b9.c1,b9.c2,b9.b8,b9.c3,b9.dq,b9.dr,b9.dG,b9.eta,aG,dm,kv,aM,Wg,aBr,nO,u5,lj,o5,n2,fc,y6,Bool.or_self];rfl
theorem aBs(bL:∀v∈m.vars,mJ v)(aU:hd m.vars<=4096)(ft:stM m.vars=((hd m.vars:Int),true)){q:D}(bU:dO 2 q=true)(ah:oY n [m.d]=some (.aZ [q,I 0])):sU n [m.d]=some (.aZ [ps m,I 0]):=by have e:sU n [m.d]=Bt n [m.d]:=rfl;rw[e];exact aBq h n aN bL aU ft bU ah
end
def wZ{l:List Nat}{j k:Nat}(h:l[j]?=some k):b3 1 (cd l) (I (j:Int))=some [I (k:Int)]:=by obtain⟨bX,rfl⟩:=xaa.1 h;simp[cd,bX]
def u9(l:List Nat):fW (cd l)=some (I l.length):=by simp[cd]
def ah9{l:et}{j:Nat}{k:List Nat}(h:l[j]?=some k):b3 1 (c8 l) (I (j:Int))=some [cd k]:=by obtain⟨bX,rfl⟩:=xaa.1 h;simp[c8,bX]
theorem aBt{m:au}:KV m (kt m):=⟨gN,de,m.bS.map (u1 m.aD),ahy,.inl rfl,rfl⟩
structure vb(m:au):Prop where
 rT:y2 m
 g:∀v∈m.vars,mJ v
 p:hd m.vars<=4096
 s:stM m.vars=((hd m.vars:Int),true)
def vb.len{m:au}(h:vb m):(dW m).length<=4096:=xbK (List.length_filter_le _ _) (by rw[Qm];simpa using h.p)
theorem aBu{m:au}{x:D}(ad:KV m x):ae x 0=bu m.vars:=by obtain⟨φ,ho,sp,_,_,rfl⟩:=ad;rfl
section
variable{m:au}(h:vb m)(n:Nat)(aN:13306000000<n)
include h aN
theorem aBv{x:D}(ad:u3 m x):JR n [x]=some (cJ (dW m)):=by
 obtain⟨y,aH,bm⟩:=P8 h.rT n aN ad;have dp:dO 8 x=true:=y3 ad;have rS:dO 8 y=true:=y3 (.inr aH);have oG:=pr (m:=m) (.inr aH);have aia:=aBu aH;have aib:=oG;rw[aia]at aib;have dm:=aBa y m.vars n rS aia aib h.rT.kS (by omega) h.rT.gB h.g h.p h.s;have z6:(iA m.vars [[]]).length<=4096:=by rw[Qm];simpa using h.p
 have ag:=dy (f:=JQ n) (iA m.vars [[]]) (λi (p:e6)=>[cJ (iA m.vars [[]]),I (i:Int),ae y 0,ae y 1,ae y 2,ae y 3,ae y 4,ae y 5,ae y 6,ae y 7,cJ p]) (λr p=>(.inl [cJ (p++r.filter (jD m))]:List D⊕D)) (λi p=>p.length<=i) ?_ ?_ n 0 [] (by simp) (by omega) (xai _);.have bT:(I ((0:Nat):Int))=I 0:=rfl;have aM:D.aW 1 ([]:List (List D))=cJ []:=rfl;rw[bT,xal,xaL]at ag;simp only[JR,acY,go_sem,dp,pr ad,bm,rS,oG,dm,aM,ag,lj];rfl
 .intro p _;simp only[JQ,go_sem,kv,yF (((iA m.vars [[]]).length:Int)<(iA m.vars [[]]).length),lj,List.filter_nil,xau]
 intro i s p az ag aU;have cL:=P9 h.rT n aN aH s;have cq:=yT ((i:Int)<((iA m.vars [[]]).length:Int));have eL:cT (p.length+1) 24=true:=fX (by omega) (by omega);left;cases ah:jD m s with|true=>rw[ah]at cL;refine⟨p++[s],?_,by rw[List.filter_cons,ah];simp,by simp;omega⟩;simp only[JQ,go_sem,kv,cq,oD az,ew,oG,cL,FH,u5,xan,xay,eL,W5,lj,cf (bt:=false) (i:=i) (by omega)]|false=>rw[ah]at cL;refine⟨p,?_,by rw[List.filter_cons,ah];simp,by omega⟩;simp only[JQ,go_sem,kv,cq,oD az,ew,oG,cL,lj,cf (bt:=false) (i:=i) (by omega)]
end
def aic:∀(s:List Int)(t u:List Int),eA (s++t) (s++u)=eA t u
 |[],t,u=>rfl|a::s,t,u=>by rw[xbd,xbd,eA,xae (by omega),xae (by omega),aic s]
def aid:∀{s t:List Int}(x y:List Int),s.length=t.length->eA s t<0->eA (s++x) (t++y)<0
 |[],[],_,_,_,h=>by simp[eA]at h|[],_::_,_,_,h,_=>by simp at h|_::_,[],_,_,h,_=>by simp at h
 |a::s,b::t,x,y,h,bB=>by
  rw[xbd,xbd];unfold eA at bB⊢;by_cases J:a<b;.rw[xac J];omega
  rw[xae J]at bB⊢;by_cases aa:a>b;.rw[xac aa]at bB;omega
  rw[xae aa]at bB⊢;exact aid x y (by simpa using h) bB
def qX(l:e6):Prop:=l.Pairwise λs t=>eA s t<0
def aBw(v:V)(s:List Int):qX (jc v s):=by unfold qX jc;rw[List.pairwise_map];refine List.Pairwise.imp ?_ (List.pairwise_lt_range);intro i j j0;rw[aic];unfold eA;rw[xac (by omega)];omega
def aie(v:V)(k:Nat):∀l:e6,qX l->(∀s∈l,s.length=k)->qX (l.flatMap (jc v))
 |[],_,_=>by simp[qX]|s::r,h,ai=>by unfold qX at h⊢;rw[xcw]at h;rw[xcp,List.pairwise_append];refine⟨aBw v s,aie v k r h.2 λt aP=>ai t (by simp[aP]),?_⟩;intro x ad y aH;obtain⟨t,aP,aH⟩:=xct.1 aH;simp only[jc,xaN]at ad aH;obtain⟨i,_,rfl⟩:=ad;obtain⟨j,_,rfl⟩:=aH;exact aid _ _ (by rw[ai s (by simp),ai t (by simp[aP])]) (h.1 t aP)
def aif:∀(vs:List V)(k:Nat)(l:e6),qX l->(∀s∈l,s.length=k)->qX (iA vs l)
 |[],_,l,h,_=>h|v::r,k,l,h,ai=>by rw[iA];refine aif r (k+1) _ (aie v k l h ai) ?_;intro t aP;obtain⟨s,az,K1⟩:=xct.1 aP;rw[W8 K1,ai s az]
def Xc(m:au):qX (dW m):=List.Pairwise.filter _ (aif m.vars 0 [[]] (by simp[qX]) (by simp))
def qX.lt{l:e6}(h:qX l){i j:Nat}{s t:List Int}(ag:l[i]?=some s)(aA:l[j]?=some t)(j0:i<j):eA s t<0:=by obtain⟨J,rfl⟩:=xaa.1 ag;obtain⟨aa,rfl⟩:=xaa.1 aA;exact List.pairwise_iff_getElem.1 h i j J aa j0
def aih:∀(vs:List V)(pre s:List Int)(out:e6),(∀v∈vs,mJ v)->hc vs s->pre∈out->pre++s∈iA vs out
 |[],pre,s,out,_,av,h=>by have:s=[]:=List.length_eq_zero_iff.1 (by simpa using av.1);subst this;rw[xau];exact h|v::r,pre,[],out,_,av,_=>by have:=av.1;simp at this
 |v::r,pre,x::s,out,bL,av,h=>by
  have ad:=av.2 0 v x rfl rfl;have nB:hc r s:=⟨by simpa using av.1,λi w y hw aH=>av.2 (i+1) w y (by simpa using hw) (by simpa using aH)⟩;have aS:=bL v (by simp);have fT:pre++[x]∈out.flatMap (jc v):=by
   refine xct.2 ⟨pre,h,?_⟩;simp only[jc,xaN,xbT];refine⟨(x-gy v).toNat,?_,?_⟩
   .have g2:=aS.2.1;have g1:=aS.1;unfold V.span at g1 g2⊢;unfold gy;cases aj:v.bool with
    |true=>rw[aj]at ad g1 g2;simp only[xaG]at ad⊢;omega
    |false=>
     rw[aj]at ad g1 g2;simp only[xar,xaI]at ad g1 g2⊢;split at g1;.omega
     rw[xae (by omega)];split;.omega
     rename_i ax;rw[xae (by omega),xae ax]at g2;omega
   congr 2
   unfold gy;cases aj:v.bool with|true=>rw[aj]at ad;simp only[xaG]at ad⊢;omega|false=>rw[aj]at ad;simp only[xar,xaI]at ad⊢;omega
  have:=aih r (pre++[x]) s (out.flatMap (jc v)) (λw hw=>bL w (by simp[hw])) nB fT;rw[iA];simpa using this
def K3{m:au}(h:vb m){s:List Int}:s∈dW m↔jD m s=true:=by unfold dW;rw[xbX];refine⟨λh=>h.2,λaz=>⟨?_,az⟩⟩;have:=aih m.vars [] s [[]] h.g (tk az) (by simp);simpa using this
def aii(n:Nat)(a:Int):El n [I a]=some (aK false):=by simp only[El,cmp_isNaN_int,go_sem,bne_self_eq_false]
def aBx(n:Nat)(a b:Int):Bw n [I a,I b]=some (I (if a<b then-1 else if a>b then 1 else 0)):=by
 have J:=aii n a;have aa:=aii n b;by_cases h:a<b
 .simp only[Bw,Oq,go_sem,J,aa,xao h,xac h]
 by_cases bB:a>b;.simp only[Bw,Oq,go_sem,J,aa,xat h,xao bB,xae h,xac bB]
 simp only[Bw,Oq,go_sem,J,aa,xat h,xat bB,xae h,xae bB]
def aBy{s t:List Int}{i:Nat}{a b:Int}(J:s[i]?=some a)(aa:t[i]?=some b):eA (s.drop i) (t.drop i)=if a<b then-1 else if a>b then 1 else eA (s.drop (i+1)) (t.drop (i+1)):=by obtain⟨g1,rfl⟩:=xaa.1 J;obtain⟨g2,rfl⟩:=xaa.1 aa;rw[xaO g1,xaO g2,eA]
def aBz(n:Nat)(s t:List Int)(az:s.length<n)(aj:s.length<=1000000000)(rZ:t.length<=1000000000):sV n [cc s,cc t]=some (I (eA s t)):=by
 have H:=wW (f:=Bx n) s (λi (_:Unit)=>[cc s,cc t,cc s,I s.length,I (i:Int)]) (λi _=>eA (s.drop i) (t.drop i)=eA s t/\i<=t.length) (λy=>(y= .inl [cc s,cc t]/\eA s t=(if s.length<t.length then-1 else 0))\/(y=(.inr (I (eA s t)):List D⊕D))) ?_ ?_ n 0 () (by simp) (xai _) (by omega)
 .obtain⟨y,aH,bm⟩:=H;have bT:(I ((0:Nat):Int))=I 0:=rfl;rw[bT]at aH;rcases bm with⟨rfl,ah⟩|rfl
  .by_cases al:s.length<t.length;.rw[xac al]at ah;simp only[sV,Ot,go_sem,iy,aH,yT ((s.length:Int)<(t.length:Int)),ah]
   rw[xae al]at ah;simp only[sV,Ot,go_sem,iy,aH,yF ((s.length:Int)<(t.length:Int)),ah]
  simp only[sV,Ot,go_sem,iy,aH]
 .rintro _ ⟨J,aa⟩;refine⟨_,?_,.inl ⟨rfl,?_⟩⟩;.simp only[Bx,go_sem,yF ((s.length:Int)<s.length)]
  rw[<-J,List.drop_length];by_cases al:s.length<t.length;.rw[xac al,xaO al];rfl
  rw[xae al,xcf (by omega)];rfl
 rintro i a _ aG ⟨J,aa⟩;have ag:=(xaa.1 aG).1;have cq:=yT ((i:Int)<(s.length:Int));by_cases al:i<t.length
 .have eT:t[i]?=some t[i]:=xab al;have ay:=aBy aG eT;generalize t[i]=b at eT ay;have ck:=aBx n a b;have fM:=yF ((i:Int)>=(t.length:Int));by_cases c1:a<b
  .right;rw[xac c1]at ck ay;rw[J]at ay;have bF:((-1:Int) !=0)=true:=rfl;refine⟨_,?_,.inr (by rw[ay])⟩;simp only[Bx,go_sem,cq,kr aG,ew,iy,fM,kr eT,ck,bF]
  by_cases c2:a>b;.right;rw[xae c1,xac c2]at ck ay;rw[J]at ay;have bF:((1:Int) !=0)=true:=rfl;refine⟨_,?_,.inr (by rw[ay])⟩;simp only[Bx,go_sem,cq,kr aG,ew,iy,fM,kr eT,ck,bF]
  left;rw[xae c1,xae c2]at ck ay;rw[J]at ay;refine⟨(),?_,ay.symm,by omega⟩;have bF:((0:Int) !=0)=false:=rfl;simp only[Bx,go_sem,cq,kr aG,ew,iy,fM,kr eT,ck,bF,cf (bt:=false) (i:=i) (by omega)]
 right;have fM:=yT ((i:Int)>=(t.length:Int));have bF:eA s t=1:=by rw[<-J,xaO ag,xcf (by omega:t.length<=i)];rfl
 refine⟨_,?_,.inr (by rw[bF])⟩;simp only[Bx,go_sem,cq,kr aG,ew,iy,fM]
def aBA{i j:Nat}(h:i+j<9223372036854775808):(ab (bD false .add (I (i:Int)) (I (j:Int))) λv20=>ab (k2 .u64 v20) λv21=>ab (bD false .shr v21 (D.val (.int .u64 1))) λv22=>k2 .i64 v22)=some (I (((i+j)/2:Nat):Int)):=by
 have J:bD false .add (I (i:Int)) (I (j:Int))=some (I ((i:Int)+j)):=e9 (by omega) (by omega);have aa:k2 .u64 (I ((i:Int)+j))=some (fh ((i:Int)+j)):=by
  show some (fh (IntKind.u64.wrap _))=_
  congr 2
  simp[IntKind.wrap,IntKind.bits,IntKind.signed];omega
 have ax:bD false .shr (fh ((i:Int)+j)) (D.val (.int .u64 1))=some (fh (((i:Int)+j)/2)):=by
  have e:bD false .shr (fh ((i:Int)+j)) (D.val (.int .u64 1))=some (fh (((i:Int)+j).fdiv (2^(min (1:Int).toNat IntKind.u64.bits)))):=rfl;rw[e];have:(2:Int)^(min (1:Int).toNat IntKind.u64.bits)=2:=by decide
  rw[this,Int.fdiv_eq_ediv_of_nonneg _ (by omega)]
 have bj:k2 .i64 (fh (((i:Int)+j)/2))=some (I (((i+j)/2:Nat):Int)):=by
  show some (I (IntKind.i64.wrap _))=_
  congr 2
  rw[wrap64 _ (by omega) (by omega)];omega
 simp only[J,aa,ax,bj,dQ]
theorem aij(n:Nat)(s t:List Int)(az:s.length<n)(aj:s.length<=1000000000)(rZ:t.length<=1000000000):GH [(nj,sV n)] (D.val (.func (.func nj) #[] #[])) [cc s,cc t]=some (I (eA s t)):=by have h:=aBz n s t az aj rZ;have e:GH [(nj,sV n)] (D.val (.func (.func nj) #[] #[])) [cc s,cc t]=sV n [cc s,cc t]:=rfl;rw[e,h]
def aBB(n:Nat)(S:e6)(cL:qX S)(t:List Int)(al:S.length<=5000)(aN:2000000000<n)(kp:∀s∈S,s.length<=1000000)(aP:t.length<=1000000000): ∃k:Nat,k<=S.length/\(∀i s,S[i]?=some s->(i<k->eA s t<0)/\(k<=i->¬eA s t<0))/\EB n [cJ S,cc t,D.val (.func (.func nj) #[] #[])]=some (.aZ [I (k:Int),aK (decide (S[k]?=some t))]):=by
 have H:=Cm (f:=JU n) (λ(p:Nat×Nat)=>[cJ S,cc t,D.val (.func (.func nj) #[] #[]),I S.length,I (p.1:Int),I (p.2:Int)]) (λp=>p.2-p.1) (λp=>p.1<=p.2/\p.2<=S.length/\∀i s,S[i]?=some s->(i<p.1->eA s t<0)/\(p.2<=i->¬eA s t<0)) (λy=>∃k:Nat,k<=S.length/\(∀i s,S[i]?=some s->(i<k->eA s t<0)/\(k<=i->¬eA s t<0))/\y=(.inl [cJ S,cc t,D.val (.func (.func nj) #[] #[]),I S.length,I (k:Int)]:List D⊕D)) ?_ n (0,S.length) ⟨xai _,xaU _,λi s az=>⟨λh=>absurd h (xaH _),λh=>absurd (xaa.1 az).1 (by simp only at h;omega)⟩⟩ (by simp only;omega)
 .obtain⟨y,aH,k,ai,hinv,rfl⟩:=H;refine⟨k,ai,hinv,?_⟩;have bT:(I ((0:Nat):Int))=I 0:=rfl;simp only[bT]at aH;by_cases iY:k<S.length
  .have az:S[k]?=some S[k]:=xab iY;have fT:=kp _ (xad az);generalize S[k]=s at az fT;have ck:=aij n s t (by omega) (by omega) aP;have ay:decide (S[k]?=some t)=(eA s t==0):=by
    rw[az];by_cases h:s=t;.subst h;rw[Ak];simp
    have:¬eA s t=0:=λbB=>h (DA bB);simp[h,this]
   rw[ay];simp only[EB,UH,go_sem,kv,aH,yT ((k:Int)<(S.length:Int)),yZ,wX,oD az,ew,ck]
  have ay:decide (S[k]?=some t)=false:=by rw[xaM (by omega)];rfl
  rw[ay];simp only[EB,UH,go_sem,kv,aH,yF ((k:Int)<(S.length:Int)),KS,FA]
 rintro⟨i,j⟩ ⟨J,aa,ax⟩;simp only at J aa ax;by_cases j0:i<j
 .left;have bQ:(i+j)/2<S.length:=by omega
  have az:S[(i+j)/2]?=some S[(i+j)/2]:=xab bQ;have fT:=kp _ (xad az);generalize S[(i+j)/2]=s at az fT;have ck:=aij n s t (by omega) (by omega) aP;have aj:=aBA (i:=i) (j:=j) (by omega);obtain⟨aI,Qs,aj⟩:=en aj;obtain⟨a2,Xd,aj⟩:=en aj;obtain⟨a3,PW,aj⟩:=en aj;by_cases ah:eA s t<0
  .refine⟨((i+j)/2+1,j),?_,⟨by simp only;omega,aa,?_⟩,by simp only;omega⟩;.simp only[JU,go_sem,yT ((i:Int)<(j:Int)),Qs,Xd,PW,aj,oD az,ew,ck,xao ah,cf (bt:=false) (i:=(i+j)/2) (by omega)]
   intro pA s' tl;refine⟨λb6=>?_,(ax pA s' tl).2⟩;simp only at b6;rcases xaT pA ((i+j)/2)with h|h
   .exact DB (cL.lt tl az h) ah
   have:pA=(i+j)/2:=by omega
   subst this;rw[az]at tl;cases tl;exact ah
  refine⟨(i,(i+j)/2),?_,⟨by simp only;omega,by simp only;omega,?_⟩,by simp only;omega⟩;.simp only[JU,go_sem,yT ((i:Int)<(j:Int)),Qs,Xd,PW,aj,oD az,ew,ck,xat ah]
  intro pA s' tl;refine⟨(ax pA s' tl).1,λfM=>?_⟩;simp only at fM;rcases xaT ((i+j)/2) pA with h|h
  .intro b6;exact ah (DB (cL.lt az tl h) b6)
  have:pA=(i+j)/2:=by omega
  subst this;rw[az]at tl;cases tl;exact ah
 right;have:i=j:=by omega
 subst this;refine⟨_,?_,i,aa,ax,rfl⟩;simp only[JU,go_sem,yF ((i:Int)<(i:Int))]
def aik{m:au}(h:vb m):∀s∈dW m,s.length<=100:=by intro s az;have:=(tk ((K3 h).1 az)).1;have:=h.rT.gB;omega
def aBC{m:au}(h:vb m)(n:Nat)(aN:2000000000<n)(a b c:D)(t:List Int)(aP:t.length<=1000000000)(ad:dO 4 (.agg [cJ (dW m),a,b,c])=true):(jD m t=true->∃k:Nat,(dW m)[k]?=some t/\ys n [.agg [cJ (dW m),a,b,c],cc t]=some (I (k:Int)))/\(jD m t=false->ys n [.agg [cJ (dW m),a,b,c],cc t]=some (I (-1))):=by
 have al:=h.len;obtain⟨k,ai,hinv,eU⟩:=aBB n (dW m) (Xc m) t (by omega) aN (λs az=>by have:=aik h s az;omega) aP;have bc:ae (.agg [cJ (dW m),a,b,c]) 0=cJ (dW m):=rfl;have eK:bV (cJ (dW m))=true:=rfl;have iW:bV (D.val (.func (.func nj) #[] #[]))=true:=rfl;have a2:dO 2 (.agg [cJ (dW m),D.val (.func (.func nj) #[] #[])])=true:=rfl;have d0:ae (.agg [cJ (dW m),D.val (.func (.func nj) #[] #[])]) 0=cJ (dW m):=rfl;have d1:ae (.agg [cJ (dW m),D.val (.func (.func nj) #[] #[])]) 1=D.val (.func (.func nj) #[] #[]):=rfl;refine⟨λaz=>?_,λaz=>?_⟩
 .obtain⟨j,aA⟩:=xaF.1 ((K3 h).2 az);have fA:k=j:=by
   have J:=hinv j t aA;rw[Ak]at J;have aa:k<=j:=by
    rcases xaT j k with h|h;.exact absurd (J.1 h) (by omega)
    exact h
   rcases xaT k j with h|h
   .have iY:k<(dW m).length:=by have:=(xaa.1 aA).1;omega
    have eP:(dW m)[k]?=some ((dW m)[k]'iY):=xab iY;exact absurd ((Xc m).lt eP aA h) ((hinv k _ eP).2 (xaU _))
   omega
  subst fA;refine⟨k,aA,?_⟩;rw[aA]at eU;have:decide (some t=some t)=true:=by simp
  rw[this]at eU;simp only[ys,UJ,JV,UI,go_sem,ad,bc,eK,iW,a2,d0,d1,eU]
 have:decide ((dW m)[k]?=some t)=false:=by refine xat λai=>?_;rw[(K3 h).1 (xad ai)]at az;cases az
 rw[this]at eU;simp only[ys,UJ,JV,UI,go_sem,ad,bc,eK,iW,a2,d0,d1,eU]
def oE(mK:Int):List V->Int->Bool
 |[],_=>true|v::r,a=>if a*v.span>mK then false else oE mK r (a*v.span)
def ail(n:Nat)(aN:200<n)(vs:List V)(aS:l6 vs)(al:vs.length<=100)(bL:∀v∈vs,mJ v)(mK:Int)(aBD:1<=mK)(hm:mK<=4096):ye n [bu vs,I mK]=some (aK (oE mK vs 1)):=by
 have ag:=dy (f:=Ik n) vs (λi (a:Int)=>[bu vs,I mK,I a,I (i:Int)]) (λr a=>(if oE mK r a=true then .inl []else .inr (aK false):List D⊕D)) (λi a=>1<=a/\a<=mK) ?_ ?_ n 0 1 ⟨by omega,aBD⟩ (by omega) (xai _);.have bT:(I ((0:Nat):Int))=I 0:=rfl;rw[bT,xal]at ag;cases bm:oE mK vs 1 with|true=>rw[bm,xac rfl]at ag;simp only[ye,TY,go_sem,ag]|false=>rw[bm,xae (by simp)]at ag;simp only[ye,TY,go_sem,ag]
 .intro a _;simp only[Ik,go_sem,e5,yF ((vs.length:Int)<vs.length),oE,xaG]
 rintro i v a hK ag ⟨Qs,Xd⟩;obtain⟨g1,g2,_,_⟩:=bL v (xad hK);obtain⟨i1,i2,_⟩:=aS.2 v (xad hK);have gF:=Ff n v i1 i2;have ME:1<=a*v.span:=by have:=xci Qs g1 (by omega) (by omega);simpa using this
 have xH:a*v.span<=4096*64:=xci (by omega) g2 (by omega) (by omega);have hmul:bD false .mul (I a) (I v.span)=some (I (a*v.span)):=xQ (by omega) (by omega);have bX:=yT ((i:Int)<(vs.length:Int));by_cases ah:a*v.span>mK
 .right;rw[oE,xac ah,xae (by simp)];simp only[Ik,go_sem,e5,bX,hk hK,V.a4,gF,hmul,xao ah]
 left;refine⟨a*v.span,?_,by rw[oE,xae ah],by omega,by omega⟩;simp only[Ik,go_sem,e5,bX,hk hK,V.a4,gF,hmul,xat ah,cf (bt:=false) (i:=i) (by omega)]
def aim{mK:Int}:∀{vs:List V}{a:Int},(∀v∈vs,1<=v.span)->oE mK vs a=true->a<=mK->a*(hd vs:Nat)<=mK
 |[],a,_,_,h=>by rw[hd];simpa using h
 |v::r,a,bL,bm,h=>by
  rw[oE]at bm;split at bm;.cases bm
  rename_i ah;have:=aim (λw hw=>bL w (by simp[hw])) bm (by omega);have aS:=bL v (by simp);rw[hd];have e:v.span=(v.span.toNat:Int):=by omega
  rw[Int.natCast_mul,<-e,<-Int.mul_assoc];exact this
def ain{mK N:Int}(cj:mK<=N):∀{vs:List V}{a:Int},oE mK vs a=true->oE N vs a=true
 |[],a,_=>rfl
 |v::r,a,bm=>by
  rw[oE]at bm⊢;split at bm;.cases bm
  rename_i ah;rw[xae (by omega)];exact ain cj bm
def aio:∀(l:List V)(a:Int),1<=a->(∀v∈l,1<=v.span)->a*(hd l:Nat)<=1073741824->mI l a=a*(hd l:Nat)
 |[],a,_,_,_=>by simp[mI,hd]
 |v::r,a,J,aa,ax=>by
  have aS:=aa v (by simp);have az:v.span=(v.span.toNat:Int):=by omega
  have aU:(1:Int)<=(hd r:Nat):=by
   have:∀l:List V,(∀v∈l,1<=v.span)->(1:Int)<=(hd l:Nat):=by
    intro l
    induction l with
    |nil=>intro _;simp[hd]
    |cons w q ih=>intro hw;have J:=hw w (by simp);have aa:=ih λx ad=>hw x (by simp[ad]);rw[hd,Int.natCast_mul];have:=xci (show(1:Int)<=(w.span.toNat:Int) by omega) aa (by omega) (by omega);simpa using this
   exact this r λw hw=>aa w (by simp[hw])
  have iq:1<=a*v.span:=by have:=xci J aS (by omega) (by omega);simpa using this
  have iH:a*v.span*(hd r:Nat)<=1073741824:=by rw[hd,Int.natCast_mul,<-az,<-Int.mul_assoc]at ax;exact ax
  have hle:a*v.span<=1073741824:=by have:=xci (Int.le_refl (a*v.span)) aU (by omega) (by omega);omega
  have Ww:a<=1073741824:=by have:=xci (Int.le_refl a) aS (by omega) (by omega);omega
  have hm:max v.span 1=v.span:=by omega
  rw[mI,xac Ww,hm,aio r _ iq (λw hw=>aa w (by simp[hw])) iH,hd,Int.natCast_mul,<-az,Int.mul_assoc]
def aBE{l:List V}(bL:∀v∈l,mJ v)(h:hd l<=4096):stM l=((hd l:Int),true):=by
 have aN:o8 l=false:=by
  unfold o8;rw[Bool.eq_false_iff,ne_eq,xbH];rintro⟨v,aS,bF⟩;have:=(bL v aS).1;have:v.span=0:=by simpa using bF
  omega
 have e:=aio l 1 (by omega) (λv aS=>(bL v aS).1) (by omega);rw[Int.one_mul]at e;unfold stM;rw[aN,e,xae (by simp),xae (by omega)]
def aip(l:List Nat):cd l=cc (l.map λ(k:Nat)=>(k:Int)):=by simp[cd,cc]
def aBF(l:et):c8 l=cJ (l.map λs=>s.map λ(k:Nat)=>(k:Int)):=by simp[c8,cJ,aip]
def Xe:∀(s t:List Int),s.length=t.length->((s.zip t).all (λp=>p.1==p.2)=true↔s=t)
 |[],[],_=>by simp|[],_::_,h=>by simp at h|_::_,[],h=>by simp at h|a::s,b::t,h=>by have:=Xe s t (by simpa using h);simp only[List.zip_cons_cons,xbg,xap,this,xbP,xbA]
def aiq(n:Nat)(s t:List Int)(al:s.length<n)(aj:s.length<=1000000000)(rZ:t.length<=1000000000):qJ n [cc s,cc t]=some (aK (decide (s=t))):=by
 by_cases bI:s.length=t.length
 .have ag:=dy (f:=JE n) (s.zip t) (λi (_:Unit)=>[cc s,cc t,I (i:Int)]) (λr _=>(if r.all (λp=>p.1==p.2)=true then .inl []else .inr (aK false):List D⊕D)) (λ_ _=>True) ?_ ?_ n 0 () trivial (by rw[List.length_zip];omega) (xai _)
  .have bT:(I ((0:Nat):Int))=I 0:=rfl;have cp:((s.length:Int) !=(t.length:Int))=false:=by simp[bI]
   rw[bT,xal]at ag;by_cases ft:s=t;.rw[xac ((Xe s t bI).2 ft)]at ag;rw[xao ft];simp only[qJ,Oh,go_sem,iy,cp,ag]
   rw[xae (λh=>ft ((Xe s t bI).1 h))]at ag;rw[xat ft];simp only[qJ,Oh,go_sem,iy,cp,ag]
  .intro _ _;have e:(s.zip t).length=s.length:=by rw[List.length_zip];omega
   simp only[JE,go_sem,iy,e,yF ((s.length:Int)<s.length),xcn,xaG]
  rintro i ⟨a,b⟩ _ gg ag _;have bX:i<s.length:=by rw[List.length_zip]at ag;omega
  obtain⟨aG,eT⟩:s[i]?=some a/\t[i]?=some b:=by rw[List.getElem?_zip_eq_some]at gg;exact gg
  have cq:=yT ((i:Int)<(s.length:Int));by_cases ah:a=b;.left;subst ah;refine⟨(),?_,by simp only[xbg,beq_self_eq_true,xbs],trivial⟩;simp only[JE,go_sem,iy,cq,kr aG,kr eT,ew,bne_self_eq_false,cf (bt:=false) (i:=i) (by omega)]
  right;have cp:(a !=b)=true:=by simp[ah]
  rw[xbg,xae (by simp[ah])];simp only[JE,go_sem,iy,cq,kr aG,kr eT,ew,cp]
 have ft:¬s=t:=λh=>bI (by rw[h]);have cp:((s.length:Int) !=(t.length:Int))=true:=by
  have:¬(s.length:Int)=(t.length:Int):=by omega
  simp[this]
 rw[xat ft];simp only[qJ,Oh,go_sem,iy,cp]
def aBG(n:Nat)(l:e6)(al:l.length<n)(ny:l.length<=1000000000)(az:∀s∈l,s.length<n/\s.length<=1000000000):wB n [cJ l,cJ l]=some (aK true):=by
 have ag:=dy (f:=Ov n) l (λj (_:Unit)=>[cJ l,cJ l,I (j:Int)]) (λ_ _=>(.inl []:List D⊕D)) (λ_ _=>True) ?_ ?_ n 0 () trivial (by omega) (xai _);.have bT:(I ((0:Nat):Int))=I 0:=rfl;rw[bT]at ag;simp only[wB,acS,go_sem,kv,bne_self_eq_false,ag]
 .intro _ _;simp only[Ov,go_sem,kv,yF ((l.length:Int)<l.length)]
 intro j s _ h aA _;obtain⟨J,aa⟩:=az s (xad h);have iV:=aiq n s s J aa aa;rw[xao rfl]at iV;left;refine⟨(),?_,rfl,trivial⟩;simp only[Ov,go_sem,kv,yT ((j:Int)<(l.length:Int)),oD h,ew,iV,cf (bt:=false) (i:=j) (by omega)]
def l7(l:List Bool):fW (cu l)=some (I l.length):=by simp[cu]
def mL{l:List Bool}{j:Nat}{b:Bool}(h:l[j]?=some b):b3 1 (cu l) (I (j:Int))=some [aK b]:=by obtain⟨bX,rfl⟩:=xaa.1 h;simp[cu,bX]
def aBH(n:Nat)(l:List Bool)(al:l.length<n)(ny:l.length<=1000000000):Bv n [cu l,cu l]=some (aK true):=by
 have ag:=dy (f:=Ol n) l (λj (_:Unit)=>[cu l,cu l,I (j:Int)]) (λ_ _=>(.inl []:List D⊕D)) (λ_ _=>True) ?_ ?_ n 0 () trivial (by omega) (xai _);.have bT:(I ((0:Nat):Int))=I 0:=rfl;rw[bT]at ag;simp only[Bv,acO,go_sem,l7,bne_self_eq_false,ag]
 .intro _ _;simp only[Ol,go_sem,l7,yF ((l.length:Int)<l.length)]
 intro j s _ h aA _;left;refine⟨(),?_,rfl,trivial⟩;simp only[Ol,go_sem,l7,yT ((j:Int)<(l.length:Int)),mL h,ew,aop,bne_self_eq_false,cf (bt:=false) (i:=j) (by omega)]
section
variable{m:au}(h:vb m)(n:Nat)(aN:18446744073709551616<n)
include h aN
theorem aBI{x:D}(ad:u3 m x)(i:Nat){s:List Int}(az:(dW m)[i]?=some s)(vc vd ve vf A B C:D)(he:∀x,x=A\/x=B\/x=C->D.aW 1 (bb x)=x):bJ (Ez n) n [I (i:Int),I 0,ae x 0,ae x 1,ae x 2,ae x 3,ae x 4,ae x 5,ae x 6,ae x 7,vc,vd,ve,vf,cJ (dW m),cd [],A,B,C]=some (.inl [I (i:Int),ae x 0,ae x 1,ae x 2,ae x 3,ae x 4,ae x 5,ae x 6,ae x 7,vc,vd,ve,vf,cJ (dW m),cd (hW (n1 m s) 0 (dW m)),A,B,C]):=by
 have dm:=he A (.inl rfl);have eU:=he B (.inr (.inl rfl));have ck:=he C (.inr (.inr rfl))
 have al:=h.len;have ag:=dy (f:=Ez n) (dW m) (λk (p:Nat×List Nat)=>[I (i:Int),I (k:Int),ae x 0,ae x 1,ae x 2,ae x 3,ae x 4,ae x 5,ae x 6,ae x 7,vc,vd,ve,vf,cJ (dW m),cd p.2,A,B,C]) (λr p=>(.inl [I (i:Int),ae x 0,ae x 1,ae x 2,ae x 3,ae x 4,ae x 5,ae x 6,ae x 7,vc,vd,ve,vf,cJ (dW m),cd (p.2++hW (n1 m s) p.1 r),A,B,C]:List D⊕(List D⊕(List D⊕(List D⊕D))))) (λk p=>p.1=k/\p.2.length<=k) ?_ ?_ n 0 (0,[]) ⟨rfl,by simp⟩ (by omega) (xai _)
 .exact ag
 .intro p _;simp only[Ez,go_sem,kv,yF (((dW m).length:Int)<(dW m).length),fc,dm,eU,ck,hW,xau]
 rintro k t ⟨q,p⟩ aP ai ⟨rfl,aU⟩;have cL:=aAz h.rT n (by omega) ad s t;have cq:=yT ((q:Int)<((dW m).length:Int));have eL:cT (p.length+1) 8=true:=fX (by have:=aU;simp only at this;omega) (by have:=aU;simp only at this;omega);have aT:bV (I (q:Int))=true:=rfl;left;cases ah:n1 m s t with|true=>rw[ah]at cL;refine⟨(q+1,p++[q]),?_,by rw[hW,xac ah];simp,rfl,by have:=aU;simp only at this⊢;simp;omega⟩;simp only[Ez,go_sem,kv,cq,oD az,oD aP,ew,pr ad,cL,aT,qf,xan,xay,xax,eL,u7,fc,dm,eU,ck,cf (bt:=false) (i:=q) (by omega)]|false=>rw[ah]at cL;refine⟨(q+1,p),?_,by rw[hW,xae (by rw[ah];simp)],rfl,by have:=aU;simp only at this⊢;omega⟩;simp only[Ez,go_sem,kv,cq,oD az,oD aP,ew,pr ad,cL,fc,dm,eU,ck,cf (bt:=false) (i:=q) (by omega)]
theorem aBJ{x:D}(ad:u3 m x)(vc vd ve vf:D):bJ (EA n) n [I 0,ae x 0,ae x 1,ae x 2,ae x 3,ae x 4,ae x 5,ae x 6,ae x 7,vc,vd,ve,vf,cJ (dW m),c8 [],cd [],fF []]=some (.inl [vc,vd,ve,vf,cJ (dW m),c8 ((dW m).map (qW m)),cd (u6 m),fF ((dW m).map (lF m))]):=by
 have al:=h.len;have ag:=dy (f:=EA n) (dW m) (λi (p:Nat×et×List Nat×List (List Bool))=>[I (i:Int),ae x 0,ae x 1,ae x 2,ae x 3,ae x 4,ae x 5,ae x 6,ae x 7,vc,vd,ve,vf,cJ (dW m),c8 p.2.1,cd p.2.2.1,fF p.2.2.2]) (λr p=>(.inl [vc,vd,ve,vf,cJ (dW m),c8 (p.2.1++r.map (qW m)),cd (p.2.2.1++hW (u2 m) p.1 r),fF (p.2.2.2++r.map (lF m))]:List D⊕D)) (λi p=>p.1=i/\p.2.1.length=i/\p.2.2.1.length<=i/\p.2.2.2.length=i) ?_ ?_ n 0 (0,[],[],[]) ⟨rfl,rfl,by simp,rfl⟩ (by omega) (xai _)
 .exact ag
 .intro p _;simp only[EA,go_sem,kv,yF (((dW m).length:Int)<(dW m).length),n2,fc,y6,hW,xbb,xau]
 rintro i s ⟨q,nx,dK,dL⟩ az ag ⟨rfl,J,aa,ax⟩;simp only at J aa ax;have ft:=(xbX.1 (xad az)).2;have fS:=aAx h.rT n (by omega) ad s;have fI:=aAA h.rT n (by omega) ad (tk ft);have cq:=yT ((q:Int)<((dW m).length:Int));have ey:cT (dK.length+1) 8=true:=fX (by omega) (by omega);have ez:cT (dL.length+1) 24=true:=fX (by omega) (by omega);have hQ:cT (nx.length+1) 24=true:=fX (by omega) (by omega);have nq:=aBI h n aN ad q az vc vd ve vf (c8 nx) (cd dK) (fF dL) (by rintro x (rfl|rfl|rfl)<;>rfl);have aM:D.aW 1 ([]:List (List D))=cd []:=rfl;have aT:bV (I (q:Int))=true:=rfl;left;cases ah:u2 m s with|true=>rw[ah]at fS;refine⟨(q+1,nx++[qW m s],dK++[q],dL++[lF m s]),?_,by rw[hW,xac ah];simp,rfl,by simp[J],by simp only;simp;omega,by simp[ax]⟩;simp only[EA,go_sem,kv,cq,aM,n2,fc,y6,nq,Qq,FI,xan,xay,xax,hQ,oD az,ew,pr ad,fS,aT,qf,ey,FJ,u7,fI,Qr,Qo,ez,Qp,qW,cf (bt:=false) (i:=q) (by omega)]|false=>rw[ah]at fS;refine⟨(q+1,nx++[qW m s],dK,dL++[lF m s]),?_,by rw[hW,xae (by rw[ah];simp)];simp,rfl,by simp[J],by simp only;omega,by simp[ax]⟩;simp only[EA,go_sem,kv,cq,aM,n2,fc,y6,nq,Qq,FI,xan,xay,xax,hQ,oD az,ew,pr ad,fS,FJ,u7,fI,Qr,Qo,ez,Qp,qW,cf (bt:=false) (i:=q) (by omega)]
end
theorem Xf{w:Bool}{p:Option D}:ec kD w p=some kD:=rfl
theorem FL(q:Int×(Int×Int)):bz 1 (ee q)=some (I q.2.2):=rfl
theorem FM(q:Int×(Int×Int)):bz 0 (ee q)=some (.agg [I q.1,I q.2.1]):=rfl
theorem Cn(a b:Int):dO 2 (.agg [I a,I b])=true:=rfl
def air{a:Int}(h:a=0):(a !=0)=false:=by simp[h]
def Qt{a:Int}(h:¬a=0):(a !=0)=true:=by simp[h]
def aBK{a:Int}(h:a=0):(a==0)=true:=by simp[h]
def ais{a:Int}(h:¬a=0):(a==0)=false:=by simp[h]
theorem ait{m:au}:dO 8 (kt m)=true/\D.agg [ae (kt m) 0,ae (kt m) 1,ae (kt m) 2,ae (kt m) 3,ae (kt m) 4,ae (kt m) 5,ae (kt m) 6,ae (kt m) 7]=kt m:=⟨rfl,rfl⟩
theorem tn.bc{m:au}:ae (ps m) 0=cJ (dW m):=rfl
theorem tn.c1{m:au}:ae (ps m) 1=c8 ((dW m).map (qW m)):=rfl
theorem tn.c2{m:au}:ae (ps m) 2=cd (u6 m):=rfl
theorem tn.b8{m:au}:ae (ps m) 3=fF ((dW m).map (lF m)):=rfl
theorem tn.agg{m:au}:dO 4 (ps m)=true:=rfl
theorem tn.eta{m:au}:D.agg [cJ (dW m),c8 ((dW m).map (qW m)),cd (u6 m),fF ((dW m).map (lF m))]=ps m:=rfl
def K4:D:= .agg [de,de,de,de]
theorem aBL:dO 4 K4=true:=rfl
section
variable{m:au}(hw:yV m)(h:FD m)(n:Nat)(aN:18446744073709551616<n)
include hw h aN
theorem aBM(bF:¬(jC m).2.2=0):sU n [m.d]=some (.aZ [K4,I (jC m).2.2])/\BK n [m.d]=some (.aZ [K4,I (jC m).2.2]):=by
 obtain⟨J,aa⟩:=W0 hw h aN;have cp:=Qt bF;constructor
 .have e:sU n [m.d]=Bt n [m.d]:=rfl;rw[e];simp only[Bt,Uw,go_sem,au.agg,au.bc,au.c1,au.c2,au.b8,au.c3,au.dq,au.dr,au.dG,au.eta,J,FM,FL,Cn,cp,K4]
 simp only[BK,UG,go_sem,au.agg,au.bc,au.c1,au.c2,au.b8,au.c3,au.dq,au.dr,au.dG,au.eta,aa,FM,FL,Cn,cp,K4]
theorem aiu(bF:(jC m).2.2=0)(bm:oE 64 m.vars 1=true):vb m/\hd m.vars<=64:=by
 have bL:=ah4 (WZ bF).2.1;have aU:=aim (λv aS=>(bL v aS).1) bm (by omega);have ua:hd m.vars<=64:=by omega
 exact⟨⟨ahL hw h aN bF,bL,by omega,aBE bL (by omega)⟩,ua⟩
theorem aBN(bF:(jC m).2.2=0)(bm:oE 64 m.vars 1=true):sU n [m.d]=some (.aZ [ps m,I 0])/\BK n [m.d]=some (.aZ [ps m,I 0]):=by
 obtain⟨G,aU⟩:=aiu hw h n aN bF bm;obtain⟨J,aa⟩:=W0 hw h aN;have aBO:oY n [m.d]=some (.aZ [.agg [I (jC m).1,I (jC m).2.1],I 0]):=by rw[J];unfold ee;rw[bF]
 refine⟨aBs G.rT n (by omega) G.g G.p G.s (Cn _ _) aBO,?_⟩;have fI:=ahp G.rT.nt n (by omega);have ad:u3 m (kt m):= .inr aBt;have cL:=aBv G n (by omega) ad;have ta:=aBJ G n aN ad de de de de;have mq:=ail n (by omega) m.vars G.rT.kS (by have:=G.rT.gB;omega) G.g 4096 (by omega) (by omega);rw[ain (by omega) bm]at mq;have aM:D.aW 1 ([]:List (List D))=c8 []:=rfl;have a8:c8 []=cd []:=rfl;have b0:c8 []=fF []:=rfl;rw[<-a8,<-b0]at ta;have aT:bV (cJ (dW m))=true:=rfl;have a2:∀a b,dO 2 (.agg [I a,I b])=true:=λ_ _=>rfl;simp only[BK,UG,go_sem,au.agg,au.bc,au.c1,au.c2,au.b8,au.c3,au.dq,au.dr,au.dG,au.eta,aa,FM,FL,Cn,air bF,mq,fI,(ait (m:=m)).1,(ait (m:=m)).2,cL,aT,aM,ta,n2,fc,y6];rfl
end
def aiv(p:List Int->Bool):∀(l:e6)(i:Nat),(hW p i l).length<=l.length
 |[],i=>xaU _
 |s::r,i=>by
  have:=aiv p r (i+1);unfold hW;split;.simp;omega
  simp;omega
structure aiw(m:au):Prop where
 t:∀t∈y4 m,t.bC<=660000
 s:∀s∈m.bS,s.f.bC<=660000
def aBP{m:au}(hw:yV m)(al:WU m)(az:aiw m)(n:Nat)(aN:18446744073709551616<n):∃b:Bool,wg n [m.d,I 64]=some (aK b)/\(b=true->FD m/\((jC m).2.2=0->oE 64 m.vars 1=true)):=by
 obtain⟨mh,ln,KW,WV,WW,WX,WY,aAN⟩:=al;by_cases J:m.vars.length>12;.have d1:=yT ((m.vars.length:Int)>12);exact⟨false,by simp-implicitDefEqProofs only[wg,DX,go_sem,au.agg,au.bc,au.c1,au.c2,au.b8,au.c3,au.dq,au.dr,au.dG,au.eta,e5,d1,KT,wX],by simp⟩
 have d1:=yF ((m.vars.length:Int)>12);have aI:bD false .add (I (m.aD.length:Int)) (I (m.bZ.length:Int))=some (I ((m.aD.length:Int)+m.bZ.length)):=e9 (by omega) (by omega);have a2:bD false .add (I ((m.aD.length:Int)+m.bZ.length)) (I (m.b1.length:Int))=some (I ((m.aD.length:Int)+m.bZ.length+m.b1.length)):=e9 (by omega) (by omega);have a3:bD false .add (I ((m.aD.length:Int)+m.bZ.length+m.b1.length)) (I (m.next.length:Int))=some (I ((m.aD.length:Int)+m.bZ.length+m.b1.length+m.next.length)):=e9 (by omega) (by omega);have a4:bD false .add (I ((m.aD.length:Int)+m.bZ.length+m.b1.length+m.next.length)) (I (m.trans.length:Int))=some (I ((m.aD.length:Int)+m.bZ.length+m.b1.length+m.next.length+m.trans.length)):=e9 (by omega) (by omega);have a5:bD false .add (I ((m.aD.length:Int)+m.bZ.length+m.b1.length+m.next.length+m.trans.length)) (I (m.bR.length:Int))=some (I ((m.aD.length:Int)+m.bZ.length+m.b1.length+m.next.length+m.trans.length+m.bR.length)):=e9 (by omega) (by omega);have jN:bD false .add (I ((m.aD.length:Int)+m.bZ.length+m.b1.length+m.next.length+m.trans.length+m.bR.length)) (I (m.bS.length:Int))=some (I ((m.aD.length:Int)+m.bZ.length+m.b1.length+m.next.length+m.trans.length+m.bR.length+m.bS.length)):=e9 (by omega) (by omega);by_cases aa:(m.aD.length:Int)+m.bZ.length+m.b1.length+m.next.length+m.trans.length+m.bR.length+m.bS.length>40
 .have d2:=xao aa;exact⟨false,by simp-implicitDefEqProofs only[wg,DX,go_sem,au.agg,au.bc,au.c1,au.c2,au.b8,au.c3,au.dq,au.dr,au.dG,au.eta,e5,eV,ix,jr,d1,aI,a2,a3,a4,a5,jN,d2,KU,FA],by simp⟩
 have d2:=xat aa;have cL:FD m:=⟨by unfold ahF;omega,az.t,az.s⟩;have ck:=(W0 hw cL aN).2;have bs:ae (.agg [I (jC m).1,I (jC m).2.1]) 1=I (jC m).2.1:=rfl;by_cases bF:(jC m).2.2=0
 .have bL:=ah4 (WZ bF).2.1;have V:=ahL hw cL aN bF;have bm:=ail n (by omega) m.vars V.kS (by omega) bL 64 (by omega) (by omega);refine⟨oE 64 m.vars 1,?_,λaj=>⟨cL,λ_=>aj⟩⟩;simp-implicitDefEqProofs only[wg,DX,go_sem,au.agg,au.bc,au.c1,au.c2,au.b8,au.c3,au.dq,au.dr,au.dG,au.eta,e5,eV,ix,jr,d1,aI,a2,a3,a4,a5,jN,d2,KU,yZ,KS,KT,Xf,FA,wX,ck,FM,FL,Cn,air bF,aBK bF,bm]
 by_cases yQ:(jC m).2.1<64;.have d3:=xao yQ;refine⟨true,?_,λ_=>⟨cL,λh=>absurd h bF⟩⟩;simp-implicitDefEqProofs only[wg,DX,go_sem,au.agg,au.bc,au.c1,au.c2,au.b8,au.c3,au.dq,au.dr,au.dG,au.eta,e5,eV,ix,jr,d1,aI,a2,a3,a4,a5,jN,d2,KU,yZ,KS,KT,Xf,FA,wX,ck,FM,FL,Cn,Qt bF,ais bF,bs,d3]
 have d3:=xat yQ;refine⟨false,?_,by simp⟩;simp-implicitDefEqProofs only[wg,DX,go_sem,au.agg,au.bc,au.c1,au.c2,au.b8,au.c3,au.dq,au.dr,au.dG,au.eta,e5,eV,ix,jr,d1,aI,a2,a3,a4,a5,jN,d2,KU,yZ,KS,KT,Xf,FA,wX,ck,FM,FL,Cn,Qt bF,ais bF,bs,d3]
end Go.Am
