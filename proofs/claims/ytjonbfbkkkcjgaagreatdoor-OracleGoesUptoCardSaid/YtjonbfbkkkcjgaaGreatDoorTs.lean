/- Laws, on data. No condition. -/
import Derived.Test.YtjonbfbkkkcjgaaGreatDoorCode
import Derived.KernelRfl
import Derived.Test.YtjonbfbkkkcjgaaGreatDoorEngD
import Derived.Test.YtjonbfbkkkcjgaaGreatDoorSs
set_option linter.all false
set_option linter.unnecessarySimpa false
namespace Go.Am
theorem ajo(n:Nat):DR (n+400) []=some (aD true):=by kernel_rfl
def Ac{b S:Type}{f:lZ->Option (lZ⊕b)}(I:S->lZ)(a:S->Nat)(Inv:S->Prop)(Q:b->Prop) (step:∀s,Inv s->(∃s',f (I s)=some (.inl (I s'))/\Inv s'/\a s'<a s)\/(∃r,f (I s)=some (.inr r)/\Q r)): ∀n s,Inv s->a s<n->∃r,aS f n (I s)=some r/\Q r
 |0,s,_,h=>absurd h (xaI _)
 |n+1,s,h,hm=>by
  rw[hJ];rcases step s h with⟨s',ab,ad,ai⟩|⟨r,ab,ad⟩
  .rw[ab];exact Ac I a Inv Q step n s' ad oZ
  rw[ab];exact⟨r,rfl,ad⟩
section
variable{α:Type}
structure Part(a b:Nat)(L Kc:List α):Prop where
 len:Kc.length=L.length
 out:∀i,i<a\/b<=i->Kc[i]?=L[i]?
 jG:∀p:α->Bool,Kc.countP p=L.countP p
theorem Part.refl(a b:Nat)(L:List α):Part a b L L:=⟨rfl,λ_ _=>rfl,λ_=>rfl⟩
def Part.trans{a b:Nat}{L M N:List α}(h:Part a b L M)(c:Part a b M N):Part a b L N:=⟨c.len.trans h.len,λi ag=>(c.out i ag).trans (h.out i ag),λp=>(c.jG p).trans (h.jG p)⟩
def Part.mono{a b c b':Nat}{L M:List α}(h:Part a b L M)(d:c<=a)(e:b<=b'):Part c b' L M:=⟨h.len,λi ag=>h.out i oZ,h.jG⟩
def pn(P:α->Prop)(a b:Nat)(L:List α):Prop:=∀i x,a<=i->i<b->L[i]?=some x->P x
def pn.mono{P:α->Prop}{a b c b':Nat}{L:List α}(h:pn P a b L)(e:a<=c)(f:b'<=b):pn P c b' L:=λi x ab ad d=>h i x oZ oZ d
def pn.out{P:α->Prop}{a b c d:Nat}{L M:List α}(h:pn P c d L)(e:Part a b L M)(g:d<=a\/b<=c):pn P c d M:=λi x ab ad f=>h i x ab ad (by rw[<-e.out i oZ];exact f)
def ajp{p:α->Bool}{l:List α}(h:l.countP p=0):∀x∈l,p x=false:=by intro x b;cases a:p x with|false=>rfl|true=>have:=List.countP_pos_iff.2 ⟨x,b,a⟩;omega
open Classical in
def pn.part{P:α->Prop}{a b:Nat}{L M:List α}(h:pn P a b L)(e:Part a b L M)(eb:a<=b):pn P a b M:=by
 intro i x ab ad n;have f:M.take a=L.take a:=by
  apply xbJ;intro k;rw[xaP,xaP];split;.rename_i d;exact e.out k (.inl d)
  rfl
 have g:M.drop b=L.drop b:=by apply xbJ;intro k;rw[xaV,xaV];exact e.out _ (.inr oZ)
 have c:∀(N:List α)(q:α->Bool),N.countP q=(N.take a).countP q+((N.drop a).take (b-a)).countP q+(N.drop b).countP q:=by
  intro N q
  conv=>lhs;rw[<-xbI a N,List.countP_append,<-xbI (b-a) (N.drop a),List.countP_append,List.drop_drop]
  rw[show a+(b-a)=b by omega];omega
 have j:=e.jG (λy=>!decide (P y));rw[c M,c L,f,g]at j;have ak:((L.drop a).take (b-a)).countP (λy=>!decide (P y))=0:=by
  rw[List.countP_eq_zero];intro y o;obtain⟨k,d⟩:=List.getElem?_of_mem o;rw[xaP]at d;split at d;.rename_i l;rw[xaV]at d;simp[h (a+k) y oZ oZ d]
  cases d
 have ai:((M.drop a).take (b-a)).countP (λy=>!decide (P y))=0:=oZ
 have m:x∈(M.drop a).take (b-a):=by refine xad (i:=i-a) ?_;rw[xaP,xac oZ,xaV,show a+(i-a)=i by omega];exact n
 have:=ajp ai x m;simpa using this
def Part.mem{a b:Nat}{L M:List α}(h:Part a b L M)[DecidableEq α](x:α):x∈M↔x∈L:=by
 have:=h.jG (λy=>y==x);have e:∀N:List α,x∈N↔0<N.countP (λy=>y==x):=by
  intro N;rw[List.countP_pos_iff];constructor;.intro h;exact⟨x,h,by simp⟩
  rintro⟨y,ab,ad⟩;rw[<-eq_of_beq ad];exact ab
 rw[e,e,this]
end
section
variable(m:bA)
theorem dO.bF:ae (j7 m) 0=aM m.vars:=rfl
attribute [go_sem] dO.bF
theorem dO.c1:ae (j7 m) 1=b9:=rfl
attribute [go_sem] dO.c1
theorem dO.c2:ae (j7 m) 2=al (m.bb.map (bI m.ao)):=rfl
attribute [go_sem] dO.c2
theorem dO.b3:ae (j7 m) 3=al (m.bc.map (bI m.ao)):=rfl
attribute [go_sem] dO.b3
theorem dO.eM:ae (j7 m) 4=ay (m.next.map (ei m.ao)):=rfl
attribute [go_sem] dO.eM
theorem dO.iF:ae (j7 m) 5=al (m.trans.map (bI m.ao)):=rfl
attribute [go_sem] dO.iF
theorem dO.iG:ae (j7 m) 6=al (m.a1.map (bI m.ao)):=rfl
attribute [go_sem] dO.iG
theorem dO.nO:ae (j7 m) 7=bg (m.a6.map (fG m.ao)):=rfl
attribute [go_sem] dO.nO
theorem dO.agg:cw 8 (j7 m)=true:=rfl
attribute [go_sem] dO.agg
theorem dO.eta:D.agg [aM m.vars,b9,al (m.bb.map (bI m.ao)),al (m.bc.map (bI m.ao)),ay (m.next.map (ei m.ao)),al (m.trans.map (bI m.ao)),al (m.a1.map (bI m.ao)),bg (m.a6.map (fG m.ao))]=j7 m:=rfl
attribute [go_sem] dO.eta
end
section
variable{m:bA}(hZ:gT m.vars)(ah:m.vars.length<=100){nx:Bool}{s nn:lY}(aj:ee m.vars s)(bw:nx=true->ee m.vars nn)(ak:nx=false->nn=[]){bn:Bool}(n:Nat)(qP:13306000000<n)
include hZ ah aj bw ak qP
theorem Ud{t:Tm}(h:j8 m nx t):zi n [j7 m,(bI m.ao t).d,bV s,fA bn nn]=some (aD (fj m.vars (cD m.ao t).1 s nn)):=by have a:=aiW hZ ah h aj bw ak (bn:=bn) n qP;have b:=aiU (fj m.vars (cD m.ao t).1 s nn);cases c:fj m.vars (cD m.ao t).1 s nn<;>rw[c]at a b<;>simp only[zi,PN,go_sem,a,b,qN,pk]
theorem Kd{L:List Tm}(j:∀t∈L,j8 m nx t)(k:L.length<=1000000):r6 n [j7 m,al (L.map (bI m.ao)),bV s,fA bn nn]=some (aD (L.all λt=>fj m.vars (cD m.ao t).1 s nn)):=by
 have h:(aa ((0:Nat):Int))=aa 0:=rfl;have b:dK (al (L.map (bI m.ao)))=some (aa L.length):=by rw[zL,xaT]
 have ag:=cd (f:=zj n) L (λi (_:Unit)=>[bV s,fA bn nn,al (L.map (bI m.ao)),aa L.length,aa (i:Int),aM m.vars,b9,al (m.bb.map (bI m.ao)),al (m.bc.map (bI m.ao)),ay (m.next.map (ei m.ao)),al (m.trans.map (bI m.ao)),al (m.a1.map (bI m.ao)),bg (m.a6.map (fG m.ao))]) (λr _=>if(r.all λt=>fj m.vars (cD m.ao t).1 s nn)=true then(.inl []:lZ⊕D)else .inr (aD false)) (λ_ _=>True) ?_ ?_ n 0 () trivial oZ (xah _)
 .rw[h,xak]at ag;by_cases a:(L.all λt=>fj m.vars (cD m.ao t).1 s nn)=true;.rw[xac a]at ag;simp only[r6,IH,go_sem,b,ag,a]
  rw[xab a]at ag;simp only[r6,IH,go_sem,b,ag,(show(L.all λt=>fj m.vars (cD m.ao t).1 s nn)=false by simpa using a)]
 .intro _ _;simp only[zj,go_sem,yF ((L.length:Int)<L.length),xce,xaE]
 intro i t _ e ag _;have g:(L.map (bI m.ao))[i]?=some (bI m.ao t):=by rw[xag,e];rfl
 have d:=Ud hZ ah aj bw ak (bn:=bn) n qP (j t (xad e));have c:=yT ((i:Int)<(L.length:Int));cases a:fj m.vars (cD m.ao t).1 s nn with|true=>left;rw[a]at d;exact⟨(),by simp only[zj,go_sem,c,J7 g,T.qC,T.sr,d,bu i],by rw[xba,a,xbl],trivial⟩|false=>right;rw[a]at d;simp only[zj,go_sem,c,J7 g,T.qC,T.sr,d,xba,a,xcd]
end
noncomputable def kJ(m:bA)(s:lY):List (Nat×Int):=m.next.map λd=>((cX m.vars d.name).getD 0,(fi m.vars (cD m.ao d.e).1 s []).1)
def gV(l:List (Nat×Int)):D:= .aw 2 (l.map λp=>[aa (p.1:Int),aa p.2])
def Ue{l:List (Nat×Int)}{i:Nat}{p:Nat×Int}(h:l[i]?=some p):a8 2 (gV l) (aa (i:Int))=some [aa (p.1:Int),aa p.2]:=by obtain⟨a,rfl⟩:=lV.1 h;simp[gV,a]
def ajq(l:List (Nat×Int)):dK (gV l)=some (aa l.length):=by simp[gV]
def ajr(l:List (Nat×Int))(p:Nat×Int):D.aw 2 (aF (gV l)++[[aa (p.1:Int),aa p.2]])=gV (l++[p]):=by simp[gV]
theorem Uf(l:List (Nat×Int)):D.aw 2 (aF (gV l))=gV l:=rfl
def ajs(l:List (Nat×Int)):(aF (gV l)).length=l.length:=by simp[gV]
section
variable{m:bA}(h:qQ m)(n:Nat)(bw:13306000000<n)
include h bw
theorem ajt(a:ByteArray){x1:lZ}(ab:aN false 1 0 x1=some (aA a)):vg n [aM m.vars,D.fn (.func tP) [] [.ref x1 0]]=some (aa (dY (cX m.vars a))):=by
 have aY:vg n [aM m.vars,D.fn (.func tP) [] [.ref x1 0]]=zl n (aM m.vars) (.ref x1 0):=by simp only[vg,jg]
 have ah:=h.eg;have k:(aa ((0:Nat):Int))=aa 0:=rfl;have ag:=TO (f:=zk n) m.vars (λi=>[aM m.vars,.ref x1 0,aa m.vars.length,aa (i:Int)]) (λv=>decide (v.name=a)) ?_ ?_ n oZ
 .rw[k]at ag;rw[aY];unfold cX;cases g:m.vars.findIdx? (λv=>decide (v.name=a))with|none=>rw[g]at ag;simp only[zl,go_sem,ag,dY,qO]|some j=>rw[g]at ag;simp only[zl,go_sem,ag,dY,qO]
 .intro i v e;have l:=(lV.1 e).1;have bF:ae v.d 0=aA v.name:=rfl;have ad:DG n [v.d,.ref x1 0]=some (aD (decide (v.name=a))):=by
   show DF n v.d x1=_;simp only[DF,go_sem,V.g4,ab,bF]
  have b:=yT ((i:Int)<(m.vars.length:Int));by_cases c:v.name=a;.rw[xap c]at ad;simp only[zk,go_sem,b,eH e,ad,xap c,xaE]
  rw[xaB c]at ad;simp only[zk,go_sem,b,eH e,ad,xaB c,xaq,xaF,bu i]
 simp only[zk,go_sem,yF ((m.vars.length:Int)<m.vars.length)]
theorem aju{s:lY}(aj:ee m.vars s):DI n [j7 m,bV s]=some (.az [gV (kJ m s),aD true]):=by
 have M:=h.h0.b.2.2.1;have J:=h.eg;have A:(aa ((0:Nat):Int))=aa 0:=rfl;have c:dK (ay (m.next.map (ei m.ao)))=some (aa m.next.length):=by rw[nu,xaT]
 have ag:=cd (f:=DH n) m.next (λi (p:List (Nat×Int))=>[bV s,ay (m.next.map (ei m.ao)),aa m.next.length,aa (i:Int),aM m.vars,b9,al (m.bb.map (bI m.ao)),al (m.bc.map (bI m.ao)),ay (m.next.map (ei m.ao)),al (m.trans.map (bI m.ao)),al (m.a1.map (bI m.ao)),bg (m.a6.map (fG m.ao)),gV p]) (λr p=>(.inl [gV (p++r.map λd=>((cX m.vars d.name).getD 0,(fi m.vars (cD m.ao d.e).1 s []).1))]:lZ⊕D)) (λi p=>p.length=i) ?_ ?_ n 0 [] rfl oZ (xah _)
 .rw[A,xak,xaM]at ag;have B:gV []=D.aw 2 []:=rfl;rw[B]at ag;simp only[DI,PO,go_sem,c,ag,Uf];rfl
 .intro p _;simp only[DH,go_sem,yF ((m.next.length:Int)<m.next.length),xbb,xat,Uf]
 intro i d p z ag H;have t:=xad z;have K:(m.next.map (ei m.ao))[i]?=some (ei m.ao d):=by rw[xag,z];rfl
 obtain⟨k,q⟩:=(h.n d t).2;have G:=J9 q;have l:=h.h0.n d t;obtain⟨L,N,O,P⟩:=l.TS;have I:=TU h t aj;have C:nM n [aM m.vars,(bI m.ao d.e).d,bV s,b9]=some (.az [aa (fi m.vars (cD m.ao d.e).1 s []).1,aD true]):=by have:=SF (bn:=true) n m.vars (bI m.ao d.e) s [] oZ L h.hj.1 (λv w=>J6 h.hj aj v (by simpa using w));rw[show fi m.vars (bI m.ao d.e) s []=_ from E1 JR m.vars (cD m.ao d.e).1 s [],I]at this;exact this
 have y:=ajt h n bw d.name (x1:=[aA d.name,aa (bI m.ao d.e).op,aa (bI m.ao d.e).num,aA (bI m.ao d.e).name,bM 4 (bI m.ao d.e).nl (Tm.rows (bI m.ao d.e).aC)]) rfl;rw[q]at y;have F:∀a,(aa a).flat=true:=λ_=>rfl;have o:=yT ((i:Int)<(m.next.length:Int));have j:(ei m.ao d).name=d.name:=rfl;have g:(ei m.ao d).e=bI m.ao d.e:=rfl;have E:∀a b:Int,cw 2 (.agg [aa a,aa b])=true:=λ_ _=>rfl;have u:bZ (p.length+1) 16=true:=eB;generalize x:(fi m.vars (cD m.ao d.e).1 s []).1=v at*;left;refine⟨p++[(k,v)],?_,by simp[q,x],by simp[H]⟩;simp only[DH,go_sem,o,dM K,a7.g5,a7.bF,a7.c1,a7.c2,a7.b3,a7.eM,j,g,C,y,dY,F,ajs,xal,xaA,u,ajr p (k,v),bu i]
theorem ajv{s t:lY}(J:ee m.vars t):vh n [gV (kJ m s),D.fn (.func ny) [] [.ref [bV t] 0]]=some (aD (!(m.next.all (kH m s t)))):=by
 have K:=h.h0.b.2.2.1;have G:(aa ((0:Nat):Int))=aa 0:=rfl;have B:(kJ m s).length=m.next.length:=by simp[kJ]
 have a:dK (gV (kJ m s))=some (aa m.next.length):=by rw[ajq,B]
 have ag:=TO (f:=zm n) m.next (λi=>[gV (kJ m s),.ref [bV t] 0,aa m.next.length,aa (i:Int)]) (λd=>!(kH m s t d)) ?_ ?_ n oZ
 .rw[G]at ag;have r:(m.next.findIdx? λd=>!(kH m s t d)).isSome=!(m.next.all (kH m s t)):=by
   rw[aiR,<-aiS,Bool.not_not]
  have aY:vh n [gV (kJ m s),D.fn (.func ny) [] [.ref [bV t] 0]]=zp n (gV (kJ m s)) (.ref [bV t] 0):=by simp only[vh,jg]
  have o:zo n [gV (kJ m s),D.fn (.func ny) [] [.ref [bV t] 0]]=zn n (gV (kJ m s)) (.ref [bV t] 0):=by simp only[zo,jg]
  rw[aY,<-r];cases C:m.next.findIdx? (λd=>!(kH m s t d))with
  |none=>rw[C]at ag;simp only[zp,o,zn,go_sem,a,ag,qO,xcw,yF ((-1:Int)>=0)]
  |some j=>rw[C]at ag;simp only[zp,o,zn,go_sem,a,ag,qO,Option.isSome_some,yT ((j:Int)>=0)]
 .intro i d x;have H:=(lV.1 x).1;have I:=xad x;obtain⟨k,z⟩:=(h.n d I).2;have A:=J9 z;obtain⟨y,F⟩:=TV (l:=t) (k:=k) (by rw[J.1];exact A);have E:(kJ m s)[i]?=some (k,(fi m.vars (cD m.ao d.e).1 s []).1):=by simp[kJ,x,z]
  have q:kH m s t d=decide (y=(fi m.vars (cD m.ao d.e).1 s []).1):=by unfold kH;rw[z];simp only[F,xaD]
  generalize (fi m.vars (cD m.ao d.e).1 s []).1=v at*;have g:aN true 2 0 [aa (k:Int),aa v]=some (.agg [aa (k:Int),aa v]):=rfl;have w:cw 2 (.agg [aa (k:Int),aa v])=true:=rfl;have bF:ae (.agg [aa (k:Int),aa v]) 0=aa (k:Int):=rfl;have c1:ae (.agg [aa (k:Int),aa v]) 1=aa v:=rfl;have ad:DK n [.agg [aa (k:Int),aa v],.ref [bV t] 0]=some (aD (y !=v)):=by show DJ n (.agg [aa (k:Int),aa v]) [bV t]=_;simp only[DJ,go_sem,w,bF,c1,k1 F]
  have p:=yT ((i:Int)<(m.next.length:Int));by_cases u:y=v
  .have c:(y !=v)=false:=by simp[u]
   rw[c]at ad;rw[q,xap u];simp only[zm,go_sem,p,Ue E,g,ad,bu i]
  have c:(y !=v)=true:=by simp[u]
  rw[c]at ad;rw[q,xaB u];simp only[zm,go_sem,p,Ue E,g,ad,xca,xaE]
 simp only[zm,go_sem,yF ((m.next.length:Int)<m.next.length)]
end
def ajw{x:D}{vs:List V}(w:cw 8 x=true)(l:ae x 0=aM vs)(n:Nat)(q:gT vs)(ah:vs.length<=100)(A:200<n):uF n [x]=some (.az [aa (stM vs).1,aD (stM vs).2]):=by
 have ai:=cd (f:=yj n) vs (λi (_:Unit)=>[aa 1,aa (i:Int),aM vs,ae x 1,ae x 2,ae x 3,ae x 4,ae x 5,ae x 6,ae x 7]) (λr _=>(if j5 r=true then .inr (.az [aa 0,aD true])else .inl [aa 1,aM vs,ae x 1,ae x 2,ae x 3,ae x 4,ae x 5,ae x 6,ae x 7]:lZ⊕D)) (λ_ _=>True) ?_ ?_ n 0 () trivial oZ (xah _)
 .have y:(aa ((0:Nat):Int))=aa 0:=rfl;rw[y,xak]at ai;unfold stM;by_cases ab:j5 vs=true;.rw[xac ab]at ai⊢;simp only[uF,CM,go_sem,w,l,ai]
  rw[xab ab]at ai⊢;have o:∀v∈vs,v.span≠0:=by intro v q t;apply ab;unfold j5;rw[xbn];exact⟨v,q,by simp[t]⟩
  have m:=cd (f:=yk n) vs (λi (s:Int)=>[aa s,aa (i:Int),aM vs,ae x 1,ae x 2,ae x 3,ae x 4,ae x 5,ae x 6,ae x 7]) (λr s=>(if iu r s>1073741824 then .inr (.az [aa 0,aD false])else .inl [aa (iu r s)]:lZ⊕D)) (λi s=>1<=s/\s<=1073741824) ?_ ?_ n 0 1 sZ oZ (xah _)
  .rw[y,xak]at m;by_cases ad:iu vs 1>1073741824;.rw[xac ad]at m⊢;simp only[uF,CM,go_sem,w,l,ai,m]
   rw[xab ad]at m⊢;simp only[uF,CM,go_sem,w,l,ai,m]
  .intro s aj;have:¬s>1073741824:=oZ
   rw[iu,xab this];simp only[yk,go_sem,yF ((vs.length:Int)<vs.length)]
  intro i v s c ag aj;have j:=xad c;obtain⟨ab,ad,_⟩:=q.2 v j;have g:=vK n v ab ad;have p:=V.sw v;have B:=o v j;have k:max v.span 1=v.span:=oZ
  have z:=Tu aj.1 aj.2 p.1 p.2;rw[k]at z;have d:=yT ((i:Int)<(vs.length:Int));by_cases u:s*v.span>1073741824
  .right;rw[iu,xac aj.2,k,Tt _ _ oZ,xac u];simp only[yk,go_sem,d,eH c,g,p3 (bt:=false) (a:=s) (b:=v.span) oZ oZ,xap u]
  left;refine⟨s*v.span,?_,by rw[iu,xac aj.2,k],by omega⟩;simp only[yk,go_sem,d,eH c,g,p3 (bt:=false) (a:=s) (b:=v.span) oZ oZ,xaB u,bu i]
 .intro _ _;have:¬(j5 []=true):=by simp[j5]
  simp only[yj,go_sem,yF ((vs.length:Int)<vs.length),xab this]
 intro i v _ c ag _;obtain⟨ab,ad,_⟩:=q.2 v (xad c);have g:=vK n v ab ad;have d:=yT ((i:Int)<(vs.length:Int));have e:j5 (v::vs.drop (i+1))=(v.span==0||j5 (vs.drop (i+1))):=rfl;by_cases t:v.span=0
 .right;have h:(v.span==0)=true:=by simp[t]
  rw[e,h,Bool.true_or,xac rfl];simp only[yj,go_sem,d,eH c,g,h]
 left;have h:(v.span==0)=false:=by simpa using t
 rw[e,h,xbG];exact⟨(),by simp only[yj,go_sem,d,eH c,g,h,bu i],rfl,trivial⟩
def b2(l:mX):D:= .aw 1 (l.map λs=>[bV s])
def ea(v:V):Int:=if v.bool=true then 0 else v.lo
def gG(v:V)(s:lY):mX:=(List.range v.span.toNat).map λ(j:Nat)=>s++[ea v+(j:Int)]
def fN:List V->mX->mX
 |[],out=>out|v::r,out=>fN r (out.flatMap (gG v))
def eC:List V->Nat
 |[]=>1|v::r=>v.span.toNat*eC r
def iw(v:V):Prop:=1<=v.span/\v.span<=64/\-2000000<=ea v/\ea v<=2000000
theorem ajx(l:mX):D.aw 1 (aF (b2 l))=b2 l:=rfl
attribute [go_sem] ajx
def n5(l:mX):(aF (b2 l)).length=l.length:=by simp[b2]
def Ad{l:mX}{j:Nat}{s:lY}(h:l[j]?=some s):(aF (b2 l))[j]?=some [bV s]:=by simp[b2,h]
def Ke(l:mX)(s:lY):D.aw 1 (aF (b2 l)++[[bV s]])=b2 (l++[s]):=by simp[b2]
theorem Ug(s:lY):jR (bV s)=some (1,s.map λ(x:Int)=>[aa x]):=rfl
theorem Fb(s:lY):da (bV s)=true:=rfl
section
variable(x:D)(vs:List V)(n:Nat)
def ajy(F:gT vs)(H:100000<n)(i k:Nat)(v:V)(c:vs[i]?=some v)(y:iw v)(out:mX)(s:lY)(aj:out[k]?=some s)(E:s.length<=200)(B:out.length<=5000)(nx:mX)(A:nx.length<=400000):aS (yl n) n [aa (i:Int),aa (ea v),aa (k:Int),aa 0,aM vs,ae x 1,ae x 2,ae x 3,ae x 4,ae x 5,ae x 6,ae x 7,b2 out,b2 nx]=some (.inl [aa (i:Int),aa (ea v),aa (k:Int),aM vs,ae x 1,ae x 2,ae x 3,ae x 4,ae x 5,ae x 6,ae x 7,b2 out,b2 (nx++gG v s)]):=by
 obtain⟨g1,g2,g3,g4⟩:=y;obtain⟨i1,i2,_⟩:=F.2 v (xad c);have g:=vK n v i1 i2;have m:=(lV.1 aj).1;have p:v.span=(v.span.toNat:Int):=oZ
 have ag:=cd (f:=yl n) (List.range v.span.toNat) (λj (q:mX)=>[aa (i:Int),aa (ea v),aa (k:Int),aa (j:Int),aM vs,ae x 1,ae x 2,ae x 3,ae x 4,ae x 5,ae x 6,ae x 7,b2 out,b2 q]) (λr q=>(.inl [aa (i:Int),aa (ea v),aa (k:Int),aM vs,ae x 1,ae x 2,ae x 3,ae x 4,ae x 5,ae x 6,ae x 7,b2 out,b2 (q++r.map λ(j:Nat)=>s++[ea v+(j:Int)])]:lZ⊕(lZ⊕(lZ⊕(lZ⊕(lZ⊕(lZ⊕(lZ⊕D)))))))) (λj q=>q.length<=400000+j) ?_ ?_ n 0 nx oZ uZ (xah _);.exact ag
 .intro q C;have b:decide (((List.range v.span.toNat).length:Int)<v.span)=false:=xaB (by rw[xbd];omega);simp only[yl,go_sem,eH c,g,b,xbb,xat]
 intro j a q w z C;rw[xbd]at z;have h:a=j:=by have:=(lV.1 w).2;simpa using this.symm
 subst h;have b:decide ((a:Int)<v.span)=true:=xap oZ;have o:cS out.length (aa (k:Int))=some k:=by rw[jW,xac m]
 have d:aP false .add (aa (ea v)) (aa (a:Int))=some (aa (ea v+(a:Int))):=ds oZ oZ;have c7:bZ s.length 8=true:=eB;have dm:bZ (s.length+1) 8=true:=eB;have G:bZ (q.length+1) 24=true:=eB;have l:aN false 1 0 [bV s]=some (bV s):=rfl;have e:(decide (True\/(s.map λ(x:Int)=>[aa x])=[])&&decide (0<1))=true:=sZ
 have u:((1:Nat)=1)=True:=eq_self 1;left;refine⟨q++[s++[ea v+(a:Int)]],?_,by simp,by simp;omega⟩;simp only[yl,go_sem,eH c,g,b,n5,o,Ad aj,l,Ug,e,xaA,xaT,xaM,c7,d,xal,xaw,dm];have t:D.aw 1 ((s.map λ(x:Int)=>[aa x])++[[aa (ea v+(a:Int))]])=bV (s++[ea v+(a:Int)]):=by simp[bV]
 simp only[t,go_sem,G,bu a,Ke]
def ajz(m:gT vs)(k:100000<n)(i:Nat)(v:V)(e:vs[i]?=some v)(g:iw v)(out:mX)(d:∀s∈out,s.length<=200)(c:out.length<=5000):aS (ym n) n [aa (i:Int),aa (ea v),aa 0,aM vs,ae x 1,ae x 2,ae x 3,ae x 4,ae x 5,ae x 6,ae x 7,b2 out,b2 []]=some (.inl [aa (i:Int),aM vs,ae x 1,ae x 2,ae x 3,ae x 4,ae x 5,ae x 6,ae x 7,b2 (out.flatMap (gG v))]):=by
 have ag:=cd (f:=ym n) out (λj (q:mX)=>[aa (i:Int),aa (ea v),aa (j:Int),aM vs,ae x 1,ae x 2,ae x 3,ae x 4,ae x 5,ae x 6,ae x 7,b2 out,b2 q]) (λr q=>(.inl [aa (i:Int),aM vs,ae x 1,ae x 2,ae x 3,ae x 4,ae x 5,ae x 6,ae x 7,b2 (q++r.flatMap (gG v))]:lZ⊕(lZ⊕(lZ⊕(lZ⊕D))))) (λj q=>q.length<=64*j) ?_ ?_ n 0 [] sZ oZ (xah _);.exact ag
 .intro q l;simp only[ym,go_sem,n5,yF ((out.length:Int)<out.length),List.flatMap_nil,xat]
 intro j s q aj o l;have b:=yT ((j:Int)<(out.length:Int));have a:=ajy x vs n m k i j v e g out s aj (d s (xad aj)) c q oZ;have h:(gG v s).length<=64:=by have:=g.2.1;simp only[gG,xaT,xbd];omega
 left;refine⟨q++gG v s,?_,by simp[List.flatMap_cons],by simp;omega⟩;simp only[ym,go_sem,n5,b,a,bu j]
def ajA(v:V)(s:lY):(gG v s).length=v.span.toNat:=by simp[gG]
def Fc(v:V):∀out:mX,(out.flatMap (gG v)).length=out.length*v.span.toNat
 |[]=>by simp|s::r=>by rw[List.flatMap_cons,xaR,Fc v r,ajA,xal,Nat.succ_mul,Nat.add_comm]
def Kf:∀(l:List V),(∀v∈l,iw v)->1<=eC l
 |[],_=>xaQ 1
 |v::r,h=>by
  have ab:=(h v sZ).1;have ad:=Kf r λw a=>h w (by simp[a]);have:1<=v.span.toNat:=oZ
  rw[eC];exact Nat.mul_le_mul this ad
def Fe:∀(l:List V)(out:mX),(fN l out).length=out.length*eC l
 |[],out=>by simp[fN,eC]|v::r,out=>by rw[fN,Fe r,Fc,eC,Nat.mul_assoc]
theorem Uh{v:V}{s t:lY}(h:t∈gG v s):t.length=s.length+1:=by simp only[gG,xaK]at h;obtain⟨j,_,rfl⟩:=h;simp
def ajB(B:cw 8 x=true)(e:ae x 0=aM vs)(u:D.agg [aM vs,ae x 1,ae x 2,ae x 3,ae x 4,ae x 5,ae x 6,ae x 7]=x)(A:gT vs)(F:100000<n)(ah:vs.length<=100)(z:∀v∈vs,iw v)(G:eC vs<=4096)(o:stM vs=((eC vs:Int),true)):CN n [x,aa 4096]=some (b2 (fN vs [[]])):=by
 have y:=ajw B e n A ah oZ;rw[o]at y;have j:decide (((eC vs:Nat):Int)>4096)=false:=xaB oZ;have ag:=cd (f:=yn n) vs (λi (q:mX)=>[aa (i:Int),aM vs,ae x 1,ae x 2,ae x 3,ae x 4,ae x 5,ae x 6,ae x 7,b2 q]) (λr q=>(.inl [b2 (fN r q)]:lZ⊕D)) (λi q=>q.length*eC (vs.drop i)<=4096/\∀s∈q,s.length=i) ?_ ?_ n 0 [[]] ⟨by simpa using G,by simp⟩ oZ (xah _)
 .have C:(aa ((0:Nat):Int))=aa 0:=rfl;have g:D.aw 1 [[D.aw 1 ([]:mW)]]=b2 [[]]:=rfl;have K:da (D.aw 1 ([]:mW))=true:=rfl;rw[C,xak]at ag;simp only[CN,O8,go_sem,B,e,u,y,j,K,g,ag]
 .intro q L;simp only[yn,go_sem,yF ((vs.length:Int)<vs.length),fN]
 rintro i v q a ag ⟨ab,ad⟩;have k:=z v (xad a);have E:vs.drop i=v::vs.drop (i+1):=by obtain⟨l,rfl⟩:=lV.1 a;exact xaU l
 have m:=Kf (vs.drop i) λw J=>z w (xbq J);have H:q.length<=4096:=xbK (Nat.le_mul_of_pos_right _ m) ab;have b:=ajz x vs n A F i v a k q (λs aj=>by rw[ad s aj];omega) oZ;have d:=yT ((i:Int)<(vs.length:Int));have a2:aN false 1 2 v.cells=some (aa v.lo):=rfl;have aE:aN false 1 1 v.cells=some (aD v.bool):=rfl;have g:D.aw 1 ([]:mW)=b2 []:=rfl;left;refine⟨q.flatMap (gG v),?_,rfl,?_,?_⟩
 .cases h:v.bool with
  |true=>
   have c:ea v=0:=by simp[ea,h]
   rw[c]at b;simp only[yn,go_sem,d,eH a,a2,aE,h,g,b,bu i]
  |false=>
   have c:ea v=v.lo:=by simp[ea,h]
   rw[c]at b;simp only[yn,go_sem,d,eH a,a2,aE,h,g,b,bu i]
 .rw[Fc];rw[E,eC]at ab;rw[Nat.mul_assoc];exact ab
 intro t I;obtain⟨s,aj,p⟩:=List.mem_flatMap.1 I;rw[Uh p,ad s aj]
end
def ajC{l:List V}{s:lY}(h:ee l s){v:V}{x:Int}(c:if v.bool then x=0\/x=1 else v.lo<=x/\x<=v.ag):ee (l++[v]) (s++[x]):=by
 refine⟨by simp[h.1],λi w y a b=>?_⟩;rcases Nat.lt_trichotomy i l.length with ag|ag|ag
 .rw[xao ag]at a;rw[xao (by rw[h.1];exact ag)]at b;exact h.2 i w y a b
 .subst ag;rw[xas (xaQ _)]at a;rw[xas (by rw[h.1];exact xaQ _)]at b;simp[h.1]at a b;subst a;subst b;exact c
 rw[xaG uZ]at a;cases a
def ajD{v:V}{j:Nat}(a:j<v.span.toNat)(c:iw v):if v.bool then(ea v+(j:Int)=0\/ea v+(j:Int)=1)else v.lo<=ea v+(j:Int)/\ea v+(j:Int)<=v.ag:=by
 have g2:=c.2.1;unfold V.span at a g2;unfold ea;cases b:v.bool with
 |true=>rw[b]at a g2;simp only[xaE]at a⊢;omega
 |false=>
  rw[b]at a g2;simp only[xaq,xaF]at a g2⊢;split at a;.simp at a
  split at a;.omega
  rename_i ab ad;rw[xab ab,xab ad]at g2;omega
def Ui:∀(r pre:List V)(out:mX),(∀v∈r,iw v)->(∀s∈out,ee pre s)->∀s∈fN r out,ee (pre++r) s
 |[],pre,out,_,h,s,aj=>by rw[xat];exact h s aj
 |v::r,pre,out,b,h,s,aj=>by
  rw[fN]at aj;have:=Ui r (pre++[v]) (out.flatMap (gG v)) (λw f=>b w (by simp[f])) (λt e=>?_) s aj
  .rw[xaL]at this;exact this
  obtain⟨q,d,a⟩:=List.mem_flatMap.1 e;simp only[gG,xaK,xbT]at a;obtain⟨j,c,rfl⟩:=a;exact ajC (h q d) (ajD c (b v sZ))
def ajE{l:List V}(a:∀v∈l,iw v):∀s∈fN l [[]],ee l s:=by have:=Ui l [] [[]] a (λs aj=>by simp at aj;subst aj;exact⟨rfl,λi v x b=>by simp at b⟩);simpa using this
def ajF{l:List V}(h:(hs l).2=0):∀i v,l[i]?=some v->ta (l.take i) v=0:=by intro i v c;have b:=(lV.1 c).1;unfold hs at h;cases a:(List.range l.length).find? (λi=>gm l i !=0)with|none=>have:=List.find?_eq_none.1 a i (by simp;exact b);unfold gm at this;rw[c]at this;simpa using this|some j=>rw[a]at h;have:=List.find?_some a;simp only at h;rw[h]at this;cases this
def Uj{l:List V}(h:(hs l).2=0):∀v∈l,iw v:=by
 intro v d;obtain⟨i,ag⟩:=xaJ.1 d;have ak:=ajF h i v ag;unfold ta at ak;split at ak
 .cases ak
 split at ak;.cases ak
 split at ak;.cases ak
 split at ak;.cases ak
 rename_i ab ad ai b;unfold iw ea V.span;cases c:v.bool with
 |true=>simp
 |false=>
  rw[c]at b;simp only[xca,xbl,xbg,xaC,not_or,ou]at b;obtain⟨⟨g1,g2,g3⟩,g4⟩:=b;have e:v.ag<=255:=by
   by_cases a:v.ag>v.lo;.rw[xac a]at g2;omega
   rw[xab a]at g2;omega
  have f:-255<=v.lo:=by
   by_cases a:v.ag<v.lo;.omega
   rw[xab a]at g3;omega
  rw[wrap64 _ oZ oZ]at g4;simp only[xaq,xaF,xab g1,xac (oZ:v.ag-v.lo<1073741824)];omega
def k4(s:lY):D:=if s=[]then b9 else bV s
def fH(l:mX):D:= .aw 1 (l.map λs=>[k4 s])
def Ff(l:mX):(aF (fH l)).length=l.length:=by simp[fH]
def ajG{l:mX}{j:Nat}{s:lY}(h:l[j]?=some s):(aF (fH l))[j]?=some [k4 s]:=by simp[fH,h]
def ajH{s:lY}{x:Int}:k4 (s++[x])=bV (s++[x]):=by unfold k4;rw[xab sZ]
def ajI(l:mX)(s:lY)(x:Int):D.aw 1 (aF (fH l)++[[bV (s++[x])]])=fH (l++[s++[x]]):=by rw[<-ajH];simp[fH]
theorem qU(l:mX):D.aw 1 (aF (fH l))=fH l:=rfl
def ajJ(n:Nat)(s:lY)(aj:s.length<=1000000):zc n [k4 s]=some [bV s]:=by
 unfold k4;by_cases h:s=[];.rw[xac h];subst h;rfl
 rw[xab h];have ab:Ba .eql (bV s) (D.val (.slice none 0 0))=some (aD false):=by cases s with|nil=>exact absurd rfl h|cons a r=>rfl
 have ad:bZ (([]:mW).length+(s.map λ(x:Int)=>[aa x]).length) 8=true:=by
  have e:([]:mW).length+(s.map λ(x:Int)=>[aa x]).length=s.length:=sZ
  rw[e];exact eB
 have ai:(decide (True\/(s.map λ(x:Int)=>[aa x])=[])&&decide (0<1))=true:=sZ
 have b:((1:Nat)=1)=True:=eq_self 1;have c:D.aw 1 (([]:mW)++s.map λ(x:Int)=>[aa x])=bV s:=rfl;simp only[zc,go_sem,ab,Ug,ad,ai,c]
section
variable(vs:List V)(n:Nat)
def ajK(F:100000<n)(v:V)(y:iw v)(a b c d:D)(k:Nat)(s:lY)(C:s.length<=200)(nx out:mX)(A:nx.length<=400000):aS (zd n) n [aa (ea v),k4 s,a,b,c,d,aa (k:Int),aa v.span,aa 0,ae v.d 0,ae v.d 1,ae v.d 2,ae v.d 3,fH nx,fH out]=some (.inl [aa (ea v),a,b,c,d,aa (k:Int),ae v.d 0,ae v.d 1,ae v.d 2,ae v.d 3,fH (nx++gG v s),fH out]):=by
 obtain⟨g1,g2,g3,g4⟩:=y;have o:v.span=(v.span.toNat:Int):=oZ
 have m:=ajJ n s oZ;have ag:=cd (f:=zd n) (List.range v.span.toNat) (λj (q:mX)=>[aa (ea v),k4 s,a,b,c,d,aa (k:Int),aa v.span,aa (j:Int),ae v.d 0,ae v.d 1,ae v.d 2,ae v.d 3,fH q,fH out]) (λr q=>(.inl [aa (ea v),a,b,c,d,aa (k:Int),ae v.d 0,ae v.d 1,ae v.d 2,ae v.d 3,fH (q++r.map λ(j:Nat)=>s++[ea v+(j:Int)]),fH out]:lZ⊕(lZ⊕(lZ⊕(lZ⊕(lZ⊕(lZ⊕(lZ⊕D)))))))) (λj q=>q.length<=400000+j) ?_ ?_ n 0 nx oZ uZ (xah _)
 .exact ag
 .intro q B;have g:decide (((List.range v.span.toNat).length:Int)<v.span)=false:=xaB (by rw[xbd];omega);simp only[zd,go_sem,g,qU,xbb,xat]
 intro j e q w z B;rw[xbd]at z;have l:e=j:=by have:=(lV.1 w).2;simpa using this.symm
 subst l;have g:decide ((e:Int)<v.span)=true:=xap oZ;have h:aP false .add (aa (ea v)) (aa (e:Int))=some (aa (ea v+(e:Int))):=ds oZ oZ;have dm:bZ (s.length+1) 8=true:=eB;have E:bZ (q.length+1) 24=true:=eB;have p:∀x:D,bz [x] 0=x:=λ_=>rfl;have u:(aF (bV s)).length=s.length:=by simp[bV]
 have t:D.aw 1 (aF (bV s)++[[aa (ea v+(e:Int))]])=bV (s++[ea v+(e:Int)]):=by simp[bV]
 left;refine⟨q++[s++[ea v+(e:Int)]],?_,by simp,by simp;omega⟩;simp only[zd,go_sem,g,m,h,p,u,xal,xaA,dm,t,Ff,E,tI (bt:=false) (i:=e) oZ,ajI,qU]
def ajL(t:100000<n)(v:V)(ab:jA v.lo)(ad:jA v.ag)(m:iw v)(a b c:D)(out:mX)(k:∀s∈out,s.length<=200)(u:out.length<=5000):aS (ze n) n [aa (ea v),a,b,c,aa out.length,aa 0,ae v.d 0,ae v.d 1,ae v.d 2,ae v.d 3,fH [],fH out]=some (.inl [a,b,c,fH (out.flatMap (gG v))]):=by
 have l:=JO n v ab ad;have ag:=cd (f:=ze n) out (λj (q:mX)=>[aa (ea v),a,b,c,aa out.length,aa (j:Int),ae v.d 0,ae v.d 1,ae v.d 2,ae v.d 3,fH q,fH out]) (λr q=>(.inl [a,b,c,fH (q++r.flatMap (gG v))]:lZ⊕(lZ⊕(lZ⊕(lZ⊕D))))) (λj q=>q.length<=64*j) ?_ ?_ n 0 [] sZ oZ (xah _)
 .exact ag
 .intro q w;simp only[ze,go_sem,yF ((out.length:Int)<out.length),qU,List.flatMap_nil,xat]
 intro j s q aj p w;have h:=yT ((j:Int)<(out.length:Int));have i:cS out.length (aa (j:Int))=some j:=by rw[jW,xac p]
 have e:=ajK n t v m a b c (aa out.length) j s (k s (xad aj)) q out oZ;have g:aN false 1 0 [k4 s]=some (k4 s):=rfl;have o:(gG v s).length<=64:=by have:=m.2.1;simp only[gG,xaT,xbd];omega
 left;refine⟨q++gG v s,?_,by simp[List.flatMap_cons],by simp;omega⟩;simp only[ze,go_sem,h,Ff,i,ajG aj,g,l,qU,e,bu j]
def ajM(C:gT vs)(y:100000<n)(ah:vs.length<=100)(p:∀v∈vs,iw v)(z:eC vs<=4096):DD n [aM vs]=some (fH (fN vs [[]])):=by
 have ag:=cd (f:=zf n) vs (λi (q:mX)=>[aM vs,aa vs.length,aa (i:Int),fH q]) (λr q=>(.inl [fH (fN r q)]:lZ⊕D)) (λi q=>q.length*eC (vs.drop i)<=4096/\∀s∈q,s.length=i) ?_ ?_ n 0 [[]] ⟨by simpa using z,by simp⟩ oZ (xah _);.have u:(aa ((0:Nat):Int))=aa 0:=rfl;have j:D.aw 1 [[(D.val (.slice none 0 0))]]=fH [[]]:=rfl;rw[u,xak]at ag;simp only[DD,PM,go_sem,j,ag,qU]
 .intro q F;simp only[zf,go_sem,yF ((vs.length:Int)<vs.length),qU,fN]
 rintro i v q b ag ⟨ab,ad⟩;have c:=xad b;have k:=p v c;obtain⟨i1,i2,_⟩:=C.2 v c;have x:vs.drop i=v::vs.drop (i+1):=by obtain⟨l,rfl⟩:=lV.1 b;exact xaU l
 have m:=Kf (vs.drop i) λw E=>p w (xbq E);have A:q.length<=4096:=xbK (Nat.le_mul_of_pos_right _ m) ab;have a:=ajL n y v i1 i2 k (aM vs) (aa vs.length) (aa (i:Int)) q (λs aj=>by rw[ad s aj];omega) oZ;have h:=yT ((i:Int)<(vs.length:Int));have j:D.aw 1 ([]:mW)=fH []:=rfl;have c1:ae v.d 1=aD v.bool:=rfl;have c2:ae v.d 2=aa v.lo:=rfl;left;refine⟨q.flatMap (gG v),?_,rfl,?_,?_⟩
 .cases g:v.bool with
  |true=>
   have e:ea v=0:=by simp[ea,g]
   rw[e,c1,g]at a;simp only[zf,go_sem,h,eH b,V.g4,c1,g,j,qU,Ff,a,bu i]
  |false=>
   have e:ea v=v.lo:=by simp[ea,g]
   rw[e,c1,c2,g]at a;simp only[zf,go_sem,h,eH b,V.g4,c1,c2,g,j,qU,Ff,a,bu i]
 .rw[Fc];rw[x,eC]at ab;rw[Nat.mul_assoc];exact ab
 intro t B;obtain⟨s,aj,o⟩:=List.mem_flatMap.1 B;rw[Uh o,ad s aj]
def Uk(s:lY):vf (k4 s)=bV s:=by
 unfold k4;by_cases h:s=[];.rw[xac h];subst h;rfl
 rw[xab h];rfl
def ajN(f:gT vs)(c:100000<n)(ah:vs.length<=100)(b:∀v∈vs,iw v)(d:eC vs<=4096):zh n [aM vs]=some (b2 (fN vs [[]])):=by
 have h:zg (fH (fN vs [[]]))=some (b2 (fN vs [[]])):=by
  unfold zg fH;have ab:((fN vs [[]]).map λs=>[k4 s]).all (λe=>(e.map vf).all D.one)=true:=by rw[xax];intro e a;obtain⟨s,_,rfl⟩:=xaK.1 a;simp only[xav,xbb,Uk,xba,xce,xby];rfl
  simp only[ab,xaE,b2,List.map_map]
  congr 2
  refine List.map_congr_left λs _=>?_;simp[Uk]
 simp only[zh,ajM vs n f c ah b d,h]
end
def bk(l:lX):D:= .aw 1 (l.map λ(k:Nat)=>[aa (k:Int)])
def bW(l:mZ):D:= .aw 1 (l.map λs=>[bk s])
def c6(l:mY):D:= .aw 1 (l.map λs=>[bf s])
def eU(p:lY->Bool):Nat->mX->lX
 |_,[]=>[]|i,s::r=>if p s=true then i::eU p (i+1) r else eU p (i+1) r
noncomputable def cm(m:bA):mX:=(fN m.vars [[]]).filter (hn m)
noncomputable def gW(m:bA)(s:lY):lX:=eU (iv m s) 0 (cm m)
noncomputable def kb(m:bA):lX:=eU (lH m) 0 (cm m)
noncomputable def kc(m:bA):D:= .agg [b2 (cm m),bW ((cm m).map (gW m)),bk (kb m),c6 ((cm m).map (fv m))]
def Fg(l:lX):(aF (bk l)).length=l.length:=by simp[bk]
attribute [go_sem] Fg
def Ae(l:mZ):(aF (bW l)).length=l.length:=by simp[bW]
def Fh(l:mY):(aF (c6 l)).length=l.length:=by simp[c6]
def ajO(l:lW):(aF (bf l)).length=l.length:=by simp[bf]
attribute [go_sem] ajO
theorem ajP(l:lX):D.aw 1 (aF (bk l))=bk l:=rfl
attribute [go_sem] ajP
theorem ajQ(l:mZ):D.aw 1 (aF (bW l))=bW l:=rfl
attribute [go_sem] ajQ
theorem ajR(l:mY):D.aw 1 (aF (c6 l))=c6 l:=rfl
attribute [go_sem] ajR
theorem ajS(l:lW):D.aw 1 (aF (bf l))=bf l:=rfl
attribute [go_sem] ajS
def ajT(l:lX)(k:Nat):D.aw 1 (aF (bk l)++[[aa (k:Int)]])=bk (l++[k]):=by simp[bk]
attribute [go_sem] ajT
def ajU(l:mZ)(k:lX):D.aw 1 (aF (bW l)++[[bk k]])=bW (l++[k]):=by simp[bW]
attribute [go_sem] ajU
def Fi(l:mY)(k:lW):D.aw 1 (aF (c6 l)++[[bf k]])=c6 (l++[k]):=by simp[c6]
def ajV(l:lW)(k:Bool):D.aw 1 (aF (bf l)++[[aD k]])=bf (l++[k]):=by simp[bf]
theorem Ul(l:lW):da (bf l)=true:=rfl
def mM{l:mX}{j:Nat}{s:lY}(h:l[j]?=some s):a8 1 (b2 l) (aa (j:Int))=some [bV s]:=by obtain⟨a,rfl⟩:=lV.1 h;simp[b2,a]
def ajW(l:mX):dK (b2 l)=some (aa l.length):=by simp[b2]
attribute [go_sem] ajW
def Um{p:lY->Bool}:∀(l:mX) (i:Nat),∀k∈eU p i l,i<=k/\k<i+l.length/\∃s,l[k-i]?=some s/\p s=true
 |[],i,k,h=>by simp[eU]at h
 |s::r,i,k,h=>by
  unfold eU at h;have rc:k∈eU p (i+1) r->i<=k/\k<i+(s::r).length/\∃s',(s::r)[k-i]?=some s'/\p s'=true:=by intro h;obtain⟨ab,ad,s',ai,a⟩:=Um r (i+1) k h;refine⟨by omega,by simp;omega,s',?_,a⟩;rw[show k-i=(k-(i+1))+1 by omega];simpa using ai
  split at h
  .rename_i b;rcases xan.1 h with rfl|h
   .exact⟨by omega,by simp,s,by simp,b⟩
   exact rc h
  exact rc h
section
variable{m:bA}(h:qQ m)(n:Nat)(bw:13306000000<n)
include h bw
theorem ajX(A:mX)(k:∀s∈A,ee m.vars s)(ah:A.length<=5000):aS (vi n) n [b2 A,aa A.length,aa 0,b9,b9,b9,aM m.vars,b9,al (m.bb.map (bI m.ao)),al (m.bc.map (bI m.ao)),ay (m.next.map (ei m.ao)),al (m.trans.map (bI m.ao)),al (m.a1.map (bI m.ao)),bg (m.a6.map (fG m.ao)),b2 []]=some (.inl [b9,b9,b9,aM m.vars,b9,al (m.bb.map (bI m.ao)),al (m.bc.map (bI m.ao)),ay (m.next.map (ei m.ao)),al (m.trans.map (bI m.ao)),al (m.a1.map (bI m.ao)),bg (m.a6.map (fG m.ao)),b2 (A.filter (hn m))]):=by
 have l:=h.h0.b.2.1;have ag:=cd (f:=vi n) A (λi (p:mX)=>[b2 A,aa A.length,aa (i:Int),b9,b9,b9,aM m.vars,b9,al (m.bb.map (bI m.ao)),al (m.bc.map (bI m.ao)),ay (m.next.map (ei m.ao)),al (m.trans.map (bI m.ao)),al (m.a1.map (bI m.ao)),bg (m.a6.map (fG m.ao)),b2 p]) (λr p=>(.inl [b9,b9,b9,aM m.vars,b9,al (m.bb.map (bI m.ao)),al (m.bc.map (bI m.ao)),ay (m.next.map (ei m.ao)),al (m.trans.map (bI m.ao)),al (m.a1.map (bI m.ao)),bg (m.a6.map (fG m.ao)),b2 (p++r.filter (hn m))]:lZ⊕D)) (λi p=>p.length<=i) ?_ ?_ n 0 [] sZ oZ (xah _)
 .exact ag
 .intro p _;simp only[vi,go_sem,yF ((A.length:Int)<A.length),List.filter_nil,xat]
 intro i s p aj ag o;have j:=k s (xad aj);have a:=Kd h.hj h.eg j (nx:=false) (nn:=[]) sZ (λ_=>rfl) (bn:=true) n bw (L:=m.bc) h.mG l;rw[vH]at a;have g:hn m s=m.bc.all λt=>fj m.vars (cD m.ao t).1 s []:=by unfold hn;rw[J8.2 j,xbl]
 rw[<-g]at a;have c:=yT ((i:Int)<(A.length:Int));have e:bZ (p.length+1) 24=true:=eB;left;cases d:hn m s with|true=>rw[d]at a;refine⟨p++[s],?_,by rw[List.filter_cons,d];simp,by simp;omega⟩;simp only[vi,go_sem,c,mM aj,a,Fb,n5,xal,xaA,e,Ke,bu i]|false=>rw[d]at a;refine⟨p,?_,by rw[List.filter_cons,d];simp,by omega⟩;simp only[vi,go_sem,c,mM aj,a,bu i]
theorem Un{s:lY}(aj:ee m.vars s)(a b c d e f:D)(j:∀x,x=c\/x=d\/x=e\/x=f->D.aw 1 (aF x)=x):aS (zq n) n [bV s,a,b,al (m.a1.map (bI m.ao)),aa m.a1.length,aa 0,aM m.vars,b9,al (m.bb.map (bI m.ao)),al (m.bc.map (bI m.ao)),ay (m.next.map (ei m.ao)),al (m.trans.map (bI m.ao)),al (m.a1.map (bI m.ao)),bg (m.a6.map (fG m.ao)),bf [],c,d,e,f]=some (.inl [bV s,a,b,aM m.vars,b9,al (m.bb.map (bI m.ao)),al (m.bc.map (bI m.ao)),ay (m.next.map (ei m.ao)),al (m.trans.map (bI m.ao)),al (m.a1.map (bI m.ao)),bg (m.a6.map (fG m.ao)),bf (fv m s),c,d,e,f]):=by
 have B:=h.h0.b.2.2.2.2.1;have q:=j c (.inl rfl);have u:=j d (.inr (.inl rfl));have g:=j e (.inr (.inr (.inl rfl)));have w:=j f (.inr (.inr (.inr rfl)))
 have ag:=cd (f:=zq n) m.a1 (λi (p:lW)=>[bV s,a,b,al (m.a1.map (bI m.ao)),aa m.a1.length,aa (i:Int),aM m.vars,b9,al (m.bb.map (bI m.ao)),al (m.bc.map (bI m.ao)),ay (m.next.map (ei m.ao)),al (m.trans.map (bI m.ao)),al (m.a1.map (bI m.ao)),bg (m.a6.map (fG m.ao)),bf p,c,d,e,f]) (λr p=>(.inl [bV s,a,b,aM m.vars,b9,al (m.bb.map (bI m.ao)),al (m.bc.map (bI m.ao)),ay (m.next.map (ei m.ao)),al (m.trans.map (bI m.ao)),al (m.a1.map (bI m.ao)),bg (m.a6.map (fG m.ao)),bf (p++r.map λt=>fj m.vars (cD m.ao t).1 s []),c,d,e,f]:lZ⊕(lZ⊕(lZ⊕(lZ⊕D))))) (λi p=>p.length=i) ?_ ?_ n 0 [] rfl oZ (xah _);.exact ag
 .intro p _;simp only[zq,go_sem,yF ((m.a1.length:Int)<m.a1.length),xbb,xat,q,u,g,w]
 intro i t p y ag z;have A:(m.a1.map (bI m.ao))[i]?=some (bI m.ao t):=by rw[xag,y];rfl
 have o:=Ud h.hj h.eg aj (nx:=false) (nn:=[]) sZ (λ_=>rfl) (bn:=true) n bw (h.f t (xad y));rw[vH]at o;have k:=yT ((i:Int)<(m.a1.length:Int));have l:bZ (p.length+1) 1=true:=eB;left;refine⟨p++[fj m.vars (cD m.ao t).1 s []],?_,by simp,by simp[z]⟩;simp only[zq,go_sem,k,J7 A,T.qC,T.sr,o,xal,xaA,l,ajV,q,u,g,w,bu i]
theorem Uo(S:mX)(I:∀s∈S,hn m s=true)(ah:S.length<=5000){s:lY}(aj:hn m s=true)(a b c d e:D)(C:∀x,x=c\/x=d\/x=e->D.aw 1 (aF x)=x):aS (vj n) n [bV s,gV (kJ m s),aD true,a,b,aa S.length,aa 0,aM m.vars,b9,al (m.bb.map (bI m.ao)),al (m.bc.map (bI m.ao)),ay (m.next.map (ei m.ao)),al (m.trans.map (bI m.ao)),al (m.a1.map (bI m.ao)),bg (m.a6.map (fG m.ao)),bk [],b2 S,c,d,e]=some (.inl [a,b,aM m.vars,b9,al (m.bb.map (bI m.ao)),al (m.bc.map (bI m.ao)),ay (m.next.map (ei m.ao)),al (m.trans.map (bI m.ao)),al (m.a1.map (bI m.ao)),bg (m.a6.map (fG m.ao)),bk (eU (iv m s) 0 S),b2 S,c,d,e]):=by
 have A:=C c (.inl rfl);have B:=C d (.inr (.inl rfl));have j:=C e (.inr (.inr rfl))
 have J:=h.h0.b.2.2.2.1;have ag:=cd (f:=vj n) S (λi (p:Nat×lX)=>[bV s,gV (kJ m s),aD true,a,b,aa S.length,aa (i:Int),aM m.vars,b9,al (m.bb.map (bI m.ao)),al (m.bc.map (bI m.ao)),ay (m.next.map (ei m.ao)),al (m.trans.map (bI m.ao)),al (m.a1.map (bI m.ao)),bg (m.a6.map (fG m.ao)),bk p.2,b2 S,c,d,e]) (λr p=>(.inl [a,b,aM m.vars,b9,al (m.bb.map (bI m.ao)),al (m.bc.map (bI m.ao)),ay (m.next.map (ei m.ao)),al (m.trans.map (bI m.ao)),al (m.a1.map (bI m.ao)),bg (m.a6.map (fG m.ao)),bk (p.2++eU (iv m s) p.1 r),b2 S,c,d,e]:lZ⊕(lZ⊕(lZ⊕(lZ⊕D))))) (λi p=>p.1=i/\p.2.length<=i) ?_ ?_ n 0 (0,[]) sZ oZ (xah _)
 .exact ag
 .intro p _;simp only[vj,go_sem,yF ((S.length:Int)<S.length),A,B,j,eU,xat]
 rintro i t ⟨q,p⟩ F ag ⟨rfl,y⟩;have w:=I t (xad F);have H:=mK w;have z:=Kd h.hj h.eg (mK aj) (nx:=true) (nn:=t) (λ_=>H) sZ (bn:=false) n bw (L:=m.trans) h.t J;rw[Sw]at z;have G:=ajv h n bw (s:=s) H;have g:iv m s t=(m.next.all (kH m s t)&&m.trans.all λx=>fj m.vars (cD m.ao x).1 s t):=by unfold iv;rw[aj,w,xbl,xbl]
 have o:=yT ((q:Int)<(S.length:Int));have u:cS S.length (aa (q:Int))=some q:=oE ag;have E:bZ (p.length+1) 8=true:=rz (by have:=y;simp only at this;omega) (by have:=y;simp only at this;omega);have l:∀x,(aD x).flat=true:=λ_=>rfl;left;cases k:iv m s t with|true=>rw[g]at k;refine⟨(q+1,p++[q]),?_,by rw[eU,xac (by rw[g];exact k)];simp,rfl,by simp only at y⊢;simp;omega⟩;simp only[vj,go_sem,o,n5,u,Ad F,Fb,G,l,qN,pk,z,k,Bool.not_not,xal,xaA,E,A,B,j,bu q]|false=>rw[g]at k;refine⟨(q+1,p),?_,by rw[eU,xab (by rw[g,k];simp)],rfl,by simp only at y⊢;omega⟩;simp only[vj,go_sem,o,n5,u,Ad F,Fb,G,l,qN,pk,z,k,Bool.not_not,A,B,j,bu q]
theorem ajY(S:mX)(z:∀s∈S,hn m s=true)(ah:S.length<=5000):aS (vk n) n [aa S.length,aa 0,aM m.vars,b9,al (m.bb.map (bI m.ao)),al (m.bc.map (bI m.ao)),ay (m.next.map (ei m.ao)),al (m.trans.map (bI m.ao)),al (m.a1.map (bI m.ao)),bg (m.a6.map (fG m.ao)),b2 S,bW [],bk [],c6 []]=some (.inl [b2 S,bW (S.map λs=>eU (iv m s) 0 S),bk (eU (lH m) 0 S),c6 (S.map (fv m))]):=by
 have ag:=cd (f:=vk n) S (λi (p:Nat×mZ×lX×mY)=>[aa S.length,aa (i:Int),aM m.vars,b9,al (m.bb.map (bI m.ao)),al (m.bc.map (bI m.ao)),ay (m.next.map (ei m.ao)),al (m.trans.map (bI m.ao)),al (m.a1.map (bI m.ao)),bg (m.a6.map (fG m.ao)),b2 S,bW p.2.1,bk p.2.2.1,c6 p.2.2.2]) (λr p=>(.inl [b2 S,bW (p.2.1++r.map λs=>eU (iv m s) 0 S),bk (p.2.2.1++eU (lH m) p.1 r),c6 (p.2.2.2++r.map (fv m))]:lZ⊕D)) (λi p=>p.1=i/\p.2.1.length=i/\p.2.2.1.length<=i/\p.2.2.2.length=i) ?_ ?_ n 0 (0,[],[],[]) sZ oZ (xah _);.exact ag
 .intro p _;simp only[vk,go_sem,yF ((S.length:Int)<S.length),eU,xbb,xat]
 rintro i s ⟨q,nx,a,g⟩ aj ag ⟨rfl,ab,ad,ai⟩;simp only at ab ad ai;have d:=z s (xad aj);have u:=mK d;have k:=Kd h.hj h.eg u (nx:=false) (nn:=[]) sZ (λ_=>rfl) (bn:=true) n bw (L:=m.bb) h.i h.h0.b.1;rw[vH]at k;have A:lH m s=m.bb.all λt=>fj m.vars (cD m.ao t).1 s []:=by unfold lH;rw[d,xbl]
 rw[<-A]at k;have l:=yT ((q:Int)<(S.length:Int));have o:cS S.length (aa (q:Int))=some q:=oE ag;have c7:bZ (a.length+1) 8=true:=eB;have dm:bZ (g.length+1) 24=true:=eB;have F:bZ (nx.length+1) 24=true:=eB;have e:dK (al (m.a1.map (bI m.ao)))=some (aa m.a1.length):=by rw[zL,xaT]
 have C:=aju h n bw u;have B:D.aw 1 ([]:mW)=bf []:=rfl;have E:∀x,(aD x).flat=true:=λ_=>rfl;left;cases w:lH m s with
 |true=>rw[w]at k;have j:=Un h n bw u (aa S.length) (aa (q:Int)) (b2 S) (bW nx) (bk (a++[q])) (c6 g) (by rintro x (rfl|rfl|rfl|rfl)<;>rfl);have c:=Uo h n bw S z ah d (aa S.length) (aa (q:Int)) (bW nx) (bk (a++[q])) (c6 (g++[fv m s])) (by rintro x (rfl|rfl|rfl)<;>rfl);have y:bf []=bk []:=rfl;rw[<-y]at c;refine⟨(q+1,nx++[eU (iv m s) 0 S],a++[q],g++[fv m s]),?_,by rw[eU,xac w];simp,rfl,by simp[ab],by simp only;simp;omega,by simp[ai]⟩;simp only[vk,go_sem,l,n5,o,Ad aj,k,xal,xaA,c7,e,B,j,Fh,dm,Fi,C,c,Ae,F,bu q]
 |false=>rw[w]at k;have j:=Un h n bw u (aa S.length) (aa (q:Int)) (b2 S) (bW nx) (bk a) (c6 g) (by rintro x (rfl|rfl|rfl|rfl)<;>rfl);have c:=Uo h n bw S z ah d (aa S.length) (aa (q:Int)) (bW nx) (bk a) (c6 (g++[fv m s])) (by rintro x (rfl|rfl|rfl)<;>rfl);have y:bf []=bk []:=rfl;rw[<-y]at c;refine⟨(q+1,nx++[eU (iv m s) 0 S],a,g++[fv m s]),?_,by rw[eU,xab (by rw[w];simp)];simp,rfl,by simp[ab],by simp only;omega,by simp[ai]⟩;simp only[vk,go_sem,l,n5,o,Ad aj,k,e,B,j,Fh,xal,xaA,dm,Fi,C,c,Ae,F,bu q]
theorem ajZ(k:∀v∈m.vars,iw v)(l:eC m.vars<=4096)(i:stM m.vars=((eC m.vars:Int),true)){q:D}(z:cw 2 q=true)(y:kA n [m.d]=some (.az [q,aa 0])):r7 n [m.d]=some (.az [kc m,aa 0]):=by
 have u:=ajN m.vars n h.hj oZ h.eg k l;have j:=ahS n m h.hj h.eg oZ;rw[i]at j;have w:=aiH h.h0 n bw;have b:(fN m.vars [[]]).length<=4096:=by rw[Fe];simpa using l
 have c:=ajX h n bw (fN m.vars [[]]) (ajE k) oZ;have A:(cm m).length<=4096:=xbK (List.length_filter_le _ _) b;have a:=ajY h n bw (cm m) (λs aj=>(xbL.1 aj).2) oZ;have e:decide (((eC m.vars:Nat):Int)>4096)=false:=xaB oZ;have o:D.aw 1 ([]:mW)=b2 []:=rfl;have p:b2 []=bW []:=rfl;have r:b2 []=bk []:=rfl;have t:b2 []=c6 []:=rfl;have g:iW b9=true:=rfl;have x:cw 2 (.agg [aa 0,aa 0])=true:=rfl;have f:(fN m.vars [[]]).filter (hn m)=cm m:=rfl;rw[<-p,<-t,<-r]at a;simp only[r7,II,go_sem,y,z,j,e,w,x,u,o,c,f,g,n5,a];rfl
theorem aj0(c:∀v∈m.vars,iw v)(f:eC m.vars<=4096)(a:stM m.vars=((eC m.vars:Int),true)){q:D}(g:cw 2 q=true)(b:kA n [m.d]=some (.az [q,aa 0])):o2 n [m.d]=some (.az [kc m,aa 0]):=by have e:o2 n [m.d]=r7 n [m.d]:=rfl;rw[e];exact ajZ h n bw c f a g b
end
def ix{l:lX}{j k:Nat}(h:l[j]?=some k):a8 1 (bk l) (aa (j:Int))=some [aa (k:Int)]:=by obtain⟨a,rfl⟩:=lV.1 h;simp[bk,a]
def aj1(l:lX):dK (bk l)=some (aa l.length):=by simp[bk]
attribute [go_sem] aj1
def Fj{l:mZ}{j:Nat}{k:lX}(h:l[j]?=some k):a8 1 (bW l) (aa (j:Int))=some [bk k]:=by obtain⟨a,rfl⟩:=lV.1 h;simp[bW,a]
theorem aj2{m:bA}:z8 m (gU m):=⟨ep,b9,m.a6.map (n3 m.ao),TQ,.inl rfl,rfl⟩
structure mN(m:bA):Prop where
 jl:qQ m
 g:∀v∈m.vars,iw v
 p:eC m.vars<=4096
 s:stM m.vars=((eC m.vars:Int),true)
def mN.len{m:bA}(h:mN m):(cm m).length<=4096:=xbK (List.length_filter_le _ _) (by rw[Fe];simpa using h.p)
theorem aj3{m:bA}{x:D}(a:z8 m x):ae x 0=aM m.vars:=by obtain⟨φ,eL,sp,_,_,rfl⟩:=a;rfl
section
variable{m:bA}(h:mN m)(n:Nat)(bw:13306000000<n)
include h bw
theorem aj4{x:D}(o:n4 m x):CQ n [x]=some (b2 (cm m)):=by
 obtain⟨y,k,B⟩:=E3 h.jl n bw o;have t:cw 8 x=true:=qR o;have q:cw 8 y=true:=qR (.inr k);have d:=ka (m:=m) (.inr k);have a:=aj3 k;have b:=d;rw[a]at b;have z:=ajB y m.vars n q a b h.jl.hj oZ h.jl.eg h.g h.p h.s;have A:(fN m.vars [[]]).length<=4096:=by rw[Fe];simpa using h.p
 have ag:=cd (f:=ys n) (fN m.vars [[]]) (λi (p:mX)=>[b2 (fN m.vars [[]]),aa (i:Int),ae y 0,ae y 1,ae y 2,ae y 3,ae y 4,ae y 5,ae y 6,ae y 7,b2 p]) (λr p=>(.inl [b2 (p++r.filter (hn m))]:lZ⊕D)) (λi p=>p.length<=i) ?_ ?_ n 0 [] sZ oZ (xah _);.have u:(aa ((0:Nat):Int))=aa 0:=rfl;have w:D.aw 1 ([]:mW)=b2 []:=rfl;rw[u,xak,xaM]at ag;simp only[CQ,Pc,go_sem,t,ka o,B,q,d,z,w,ag];rfl
 .intro p _;simp only[ys,go_sem,yF (((fN m.vars [[]]).length:Int)<(fN m.vars [[]]).length),List.filter_nil,xat]
 intro i s p aj ag C;have e:=E4 h.jl n bw k s;have c:=yT ((i:Int)<((fN m.vars [[]]).length:Int));have l:bZ (p.length+1) 24=true:=eB;left;cases j:hn m s with|true=>rw[j]at e;refine⟨p++[s],?_,by rw[List.filter_cons,j];simp,by simp;omega⟩;simp only[ys,go_sem,c,mM aj,d,e,Fb,n5,xal,xaA,l,Ke,bu i]|false=>rw[j]at e;refine⟨p,?_,by rw[List.filter_cons,j];simp,by omega⟩;simp only[ys,go_sem,c,mM aj,d,e,bu i]
end
def Up(l:mX):Prop:=l.Pairwise λs t=>eE s t<0
def Up.lt{l:mX}(h:Up l){i j:Nat}{s t:lY}(ag:l[i]?=some s)(b:l[j]?=some t)(a:i<j):eE s t<0:=by obtain⟨ab,rfl⟩:=lV.1 ag;obtain⟨ad,rfl⟩:=lV.1 b;exact List.pairwise_iff_getElem.1 h i j ab ad a
def Uq:∀(vs:List V)(pre s:lY)(out:mX),(∀v∈vs,iw v)->ee vs s->pre∈out->pre++s∈fN vs out
 |[],pre,s,out,_,b,h=>by have:s=[]:=List.length_eq_zero_iff.1 (by simpa using b.1);subst this;rw[xat];exact h|v::r,pre,[],out,_,b,_=>by have:=b.1;simp at this
 |v::r,pre,x::s,out,g,b,h=>by
  have a:=b.2 0 v x rfl rfl;have e:ee r s:=⟨by simpa using b.1,λi w y f k=>b.2 (i+1) w y (by simpa using f) (by simpa using k)⟩;have j:=g v sZ;have d:pre++[x]∈out.flatMap (gG v):=by
   refine List.mem_flatMap.2 ⟨pre,h,?_⟩;simp only[gG,xaK,xbT];refine⟨(x-ea v).toNat,?_,?_⟩
   .have g2:=j.2.1;have g1:=j.1;unfold V.span at g1 g2⊢;unfold ea;cases c:v.bool with
    |true=>rw[c]at a g1 g2;simp only[xaE]at a⊢;omega
    |false=>
     rw[c]at a g1 g2;simp only[xaq,xaF]at a g1 g2⊢;split at g1;.omega
     rw[xab oZ];split;.omega
     rename_i ai;rw[xab oZ,xab ai]at g2;omega
   congr 2
   unfold ea;cases c:v.bool with|true=>rw[c]at a;simp only[xaE]at a⊢;omega|false=>rw[c]at a;simp only[xaq,xaF]at a⊢;omega
  have:=Uq r (pre++[x]) s (out.flatMap (gG v)) (λw f=>g w (by simp[f])) e d;rw[fN];simpa using this
def aj5{m:bA}(h:mN m){s:lY}:s∈cm m↔hn m s=true:=by unfold cm;rw[xbL];refine⟨λh=>h.2,λaj=>⟨?_,aj⟩⟩;have:=Uq m.vars [] s [[]] h.g (mK aj) sZ;simpa using this
def aj6{m:bA}(h:mN m):∀s∈cm m,s.length<=100:=by intro s aj;have:=(mK ((aj5 h).1 aj)).1;have:=h.jl.eg;omega
def jK(b:Int):List V->Int->Bool
 |[],_=>true|v::r,a=>if a*v.span>b then false else jK b r (a*v.span)
def Ur(n:Nat)(w:200<n)(vs:List V)(t:gT vs)(ah:vs.length<=100)(p:∀v∈vs,iw v)(b:Int)(j:1<=b)(u:b<=4096):uz n [aM vs,aa b]=some (aD (jK b vs 1)):=by
 have ag:=cd (f:=yh n) vs (λi (a:Int)=>[aM vs,aa b,aa a,aa (i:Int)]) (λr a=>(if jK b r a=true then .inl []else .inr (aD false):lZ⊕D)) (λi a=>1<=a/\a<=b) ?_ ?_ n 0 1 ⟨by omega,j⟩ oZ (xah _);.have m:(aa ((0:Nat):Int))=aa 0:=rfl;rw[m,xak]at ag;cases l:jK b vs 1 with|true=>rw[l,xac rfl]at ag;simp only[uz,Il,go_sem,ag]|false=>rw[l,xab sZ]at ag;simp only[uz,Il,go_sem,ag]
 .intro a _;simp only[yh,go_sem,yF ((vs.length:Int)<vs.length),jK,xaE]
 rintro i v a c ag ⟨k,o⟩;obtain⟨g1,g2,_,_⟩:=p v (xad c);obtain⟨i1,i2,_⟩:=t.2 v (xad c);have g:=vK n v i1 i2;have q:1<=a*v.span:=by have:=xci k g1 oZ oZ;simpa using this
 have s:a*v.span<=4096*64:=xci oZ g2 oZ oZ;have d:aP false .mul (aa a) (aa v.span)=some (aa (a*v.span)):=p3 oZ oZ;have e:=yT ((i:Int)<(vs.length:Int));by_cases h:a*v.span>b
 .right;rw[jK,xac h,xab sZ];simp only[yh,go_sem,e,eH c,g,d,xap h]
 left;refine⟨a*v.span,?_,by rw[jK,xab h],by omega,by omega⟩;simp only[yh,go_sem,e,eH c,g,d,xaB h,bu i]
def Us{b:Int}:∀{vs:List V}{a:Int},(∀v∈vs,1<=v.span)->jK b vs a=true->a<=b->a*(eC vs:Nat)<=b
 |[],a,_,_,h=>by rw[eC];simpa using h
 |v::r,a,d,c,h=>by
  rw[jK]at c;split at c;.cases c
  rename_i g;have:=Us (λw f=>d w (by simp[f])) c oZ;have i:=d v sZ;rw[eC];have e:v.span=(v.span.toNat:Int):=oZ
  rw[Int.natCast_mul,<-e,<-Int.mul_assoc];exact this
def Kg{b N:Int}(d:b<=N):∀{vs:List V}{a:Int},jK b vs a=true->jK N vs a=true
 |[],a,_=>rfl
 |v::r,a,c=>by
  rw[jK]at c⊢;split at c;.cases c
  rename_i e;rw[xab oZ];exact Kg d c
def Ut:∀(l:List V)(a:Int),1<=a->(∀v∈l,1<=v.span)->a*(eC l:Nat)<=1073741824->iu l a=a*(eC l:Nat)
 |[],a,_,_,_=>by simp[iu,eC]
 |v::r,a,ab,ad,ai=>by
  have f:=ad v sZ;have aj:v.span=(v.span.toNat:Int):=oZ
  have i:(1:Int)<=(eC r:Nat):=by
   have:∀l:List V,(∀v∈l,1<=v.span)->(1:Int)<=(eC l:Nat):=by
    intro l
    induction l with
    |nil=>intro _;simp[eC]
    |cons w q ih=>intro b;have ab:=b w sZ;have ad:=ih λx j=>b x (by simp[j]);rw[eC,Int.natCast_mul];have:=xci (show(1:Int)<=(w.span.toNat:Int) by omega) ad oZ oZ;simpa using this
   exact this r λw b=>ad w (by simp[b])
  have d:1<=a*v.span:=by have:=xci ab f oZ oZ;simpa using this
  have e:a*v.span*(eC r:Nat)<=1073741824:=by rw[eC,Int.natCast_mul,<-aj,<-Int.mul_assoc]at ai;exact ai
  have g:a*v.span<=1073741824:=by have:=xci (Int.le_refl (a*v.span)) i oZ oZ;omega
  have c:a<=1073741824:=by have:=xci (Int.le_refl a) f oZ oZ;omega
  have h:max v.span 1=v.span:=oZ
  rw[iu,xac c,h,Ut r _ d (λw b=>ad w (by simp[b])) e,eC,Int.natCast_mul,<-aj,Int.mul_assoc]
def aj7{l:List V}(b:∀v∈l,iw v)(h:eC l<=4096):stM l=((eC l:Int),true):=by
 have c:j5 l=false:=by
  unfold j5;rw[Bool.eq_false_iff,ne_eq,xbn];rintro⟨v,a,d⟩;have:=(b v a).1;have:v.span=0:=by simpa using d
  omega
 have e:=Ut l 1 oZ (λv a=>(b v a).1) oZ;rw[Int.one_mul]at e;unfold stM;rw[c,e,xab sZ,xab oZ]
def Uu(l:lX):bk l=bV (l.map λ(k:Nat)=>(k:Int)):=by simp[bk,bV]
def aj8(l:mZ):bW l=b2 (l.map λs=>s.map λ(k:Nat)=>(k:Int)):=by simp[bW,b2,Uu]
def Kh:∀(s t:lY),s.length=t.length->((s.zip t).all (λp=>p.1==p.2)=true↔s=t)
 |[],[],_=>by simp|[],_::_,h=>by simp at h|_::_,[],h=>by simp at h|a::s,b::t,h=>by have:=Kh s t (by simpa using h);simp only[List.zip_cons_cons,xba,xam,this,xbQ,xbH]
def Uv(n:Nat)(s t:lY)(ah:s.length<n)(w:s.length<=1000000000)(q:t.length<=1000000000):r9 n [bV s,bV t]=some (aD (decide (s=t))):=by
 by_cases c:s.length=t.length
 .have ag:=cd (f:=zr n) (s.zip t) (λi (_:Unit)=>[bV s,bV t,aa (i:Int)]) (λr _=>(if r.all (λp=>p.1==p.2)=true then .inl []else .inr (aD false):lZ⊕D)) (λ_ _=>True) ?_ ?_ n 0 () trivial (by rw[List.length_zip];omega) (xah _)
  .have o:(aa ((0:Nat):Int))=aa 0:=rfl;have d:((s.length:Int) !=(t.length:Int))=false:=by simp[c]
   rw[o,xak]at ag;by_cases g:s=t;.rw[xac ((Kh s t c).2 g)]at ag;rw[xap g];simp only[r9,DM,go_sem,d,ag]
   rw[xab (λh=>g ((Kh s t c).1 h))]at ag;rw[xaB g];simp only[r9,DM,go_sem,d,ag]
  .intro _ _;have e:(s.zip t).length=s.length:=by rw[List.length_zip];omega
   simp only[zr,go_sem,e,yF ((s.length:Int)<s.length),xce,xaE]
  rintro i ⟨a,b⟩ _ eb ag _;have u:i<s.length:=by rw[List.length_zip]at ag;omega
  obtain⟨m,j⟩:s[i]?=some a/\t[i]?=some b:=by rw[List.getElem?_zip_eq_some]at eb;exact eb
  have k:=yT ((i:Int)<(s.length:Int));by_cases l:a=b;.left;subst l;refine⟨(),?_,by simp only[xba,beq_self_eq_true,xbl],trivial⟩;simp only[zr,go_sem,k,k1 m,k1 j,bne_self_eq_false,bu i]
  right;have d:(a !=b)=true:=by simp[l]
  rw[xba,xab (by simp[l])];simp only[zr,go_sem,k,k1 m,k1 j,d]
 have g:¬s=t:=λh=>c (by rw[h]);have d:((s.length:Int) !=(t.length:Int))=true:=by
  have:¬(s.length:Int)=(t.length:Int):=oZ
  simp[this]
 rw[xaB g];simp only[r9,DM,go_sem,d]
def Uw(n:Nat)(l:mX)(ah:l.length<n)(c:l.length<=1000000000)(aj:∀s∈l,s.length<n/\s.length<=1000000000):zs n [b2 l,b2 l]=some (aD true):=by
 have ag:=cd (f:=DN n) l (λj (_:Unit)=>[b2 l,b2 l,aa (j:Int)]) (λ_ _=>(.inl []:lZ⊕D)) (λ_ _=>True) ?_ ?_ n 0 () trivial oZ (xah _);.have b:(aa ((0:Nat):Int))=aa 0:=rfl;rw[b]at ag;simp only[zs,PR,go_sem,bne_self_eq_false,ag]
 .intro _ _;simp only[DN,go_sem,yF ((l.length:Int)<l.length)]
 intro j s _ h d _;obtain⟨ab,ad⟩:=aj s (xad h);have a:=Uv n s s ab ad ad;rw[xap rfl]at a;left;refine⟨(),?_,rfl,trivial⟩;simp only[DN,go_sem,yT ((j:Int)<(l.length:Int)),mM h,a,bu j]
def aj9(l:lW):dK (bf l)=some (aa l.length):=by simp[bf]
attribute [go_sem] aj9
def Af{l:lW}{j:Nat}{b:Bool}(h:l[j]?=some b):a8 1 (bf l) (aa (j:Int))=some [aD b]:=by obtain⟨a,rfl⟩:=lV.1 h;simp[bf,a]
def aka(n:Nat)(l:lW)(ah:l.length<n)(b:l.length<=1000000000):r8 n [bf l,bf l]=some (aD true):=by
 have ag:=cd (f:=DL n) l (λj (_:Unit)=>[bf l,bf l,aa (j:Int)]) (λ_ _=>(.inl []:lZ⊕D)) (λ_ _=>True) ?_ ?_ n 0 () trivial oZ (xah _);.have a:(aa ((0:Nat):Int))=aa 0:=rfl;rw[a]at ag;simp only[r8,PQ,go_sem,bne_self_eq_false,ag]
 .intro _ _;simp only[DL,go_sem,yF ((l.length:Int)<l.length)]
 intro j s _ h c _;left;refine⟨(),?_,rfl,trivial⟩;simp only[DL,go_sem,yT ((j:Int)<(l.length:Int)),Af h,ZG,bne_self_eq_false,bu j]
section
variable{m:bA}(h:mN m)(n:Nat)(bw:18446744073709551616<n)
include h bw
theorem akb{x:D}(E:n4 m x)(i:Nat){s:lY}(aj:(cm m)[i]?=some s)(b c d e A B C:D)(y:∀x,x=A\/x=B\/x=C->D.aw 1 (aF x)=x):aS (uI n) n [aa (i:Int),aa 0,ae x 0,ae x 1,ae x 2,ae x 3,ae x 4,ae x 5,ae x 6,ae x 7,b,c,d,e,b2 (cm m),bk [],A,B,C]=some (.inl [aa (i:Int),ae x 0,ae x 1,ae x 2,ae x 3,ae x 4,ae x 5,ae x 6,ae x 7,b,c,d,e,b2 (cm m),bk (eU (iv m s) 0 (cm m)),A,B,C]):=by
 have o:=y A (.inl rfl);have u:=y B (.inr (.inl rfl));have w:=y C (.inr (.inr rfl))
 have ah:=h.len;have ag:=cd (f:=uI n) (cm m) (λk (p:Nat×lX)=>[aa (i:Int),aa (k:Int),ae x 0,ae x 1,ae x 2,ae x 3,ae x 4,ae x 5,ae x 6,ae x 7,b,c,d,e,b2 (cm m),bk p.2,A,B,C]) (λr p=>(.inl [aa (i:Int),ae x 0,ae x 1,ae x 2,ae x 3,ae x 4,ae x 5,ae x 6,ae x 7,b,c,d,e,b2 (cm m),bk (p.2++eU (iv m s) p.1 r),A,B,C]:lZ⊕(lZ⊕(lZ⊕(lZ⊕D))))) (λk p=>p.1=k/\p.2.length<=k) ?_ ?_ n 0 (0,[]) ⟨rfl,by simp⟩ oZ (xah _)
 .exact ag
 .intro p _;simp only[uI,go_sem,yF (((cm m).length:Int)<(cm m).length),o,u,w,eU,xat]
 rintro k t ⟨q,p⟩ F H ⟨rfl,l⟩;have g:=ai9 h.jl n oZ E s t;have a:=yT ((q:Int)<((cm m).length:Int));have z:bZ (p.length+1) 8=true:=rz (by have:=l;simp only at this;omega) (by have:=l;simp only at this;omega);have G:da (aa (q:Int))=true:=rfl;left;cases j:iv m s t with|true=>rw[j]at g;refine⟨(q+1,p++[q]),?_,by rw[eU,xac j];simp,rfl,by have:=l;simp only at this⊢;simp;omega⟩;simp only[uI,go_sem,a,mM aj,mM F,ka E,g,G,xal,xaA,xaw,z,o,u,w,bu q]|false=>rw[j]at g;refine⟨(q+1,p),?_,by rw[eU,xab (by rw[j];simp)],rfl,by have:=l;simp only at this⊢;omega⟩;simp only[uI,go_sem,a,mM aj,mM F,ka E,g,o,u,w,bu q]
theorem akc{x:D}(k:n4 m x)(b c d e:D):aS (uJ n) n [aa 0,ae x 0,ae x 1,ae x 2,ae x 3,ae x 4,ae x 5,ae x 6,ae x 7,b,c,d,e,b2 (cm m),bW [],bk [],c6 []]=some (.inl [b,c,d,e,b2 (cm m),bW ((cm m).map (gW m)),bk (kb m),c6 ((cm m).map (fv m))]):=by
 have ah:=h.len;have ag:=cd (f:=uJ n) (cm m) (λi (p:Nat×mZ×lX×mY)=>[aa (i:Int),ae x 0,ae x 1,ae x 2,ae x 3,ae x 4,ae x 5,ae x 6,ae x 7,b,c,d,e,b2 (cm m),bW p.2.1,bk p.2.2.1,c6 p.2.2.2]) (λr p=>(.inl [b,c,d,e,b2 (cm m),bW (p.2.1++r.map (gW m)),bk (p.2.2.1++eU (lH m) p.1 r),c6 (p.2.2.2++r.map (fv m))]:lZ⊕D)) (λi p=>p.1=i/\p.2.1.length=i/\p.2.2.1.length<=i/\p.2.2.2.length=i) ?_ ?_ n 0 (0,[],[],[]) ⟨rfl,rfl,by simp,rfl⟩ oZ (xah _)
 .exact ag
 .intro p _;simp only[uJ,go_sem,yF (((cm m).length:Int)<(cm m).length),eU,xbb,xat]
 rintro i s ⟨q,nx,a,l⟩ aj ag ⟨rfl,ab,ad,ai⟩;simp only at ab ad ai;have u:=(xbL.1 (xad aj)).2;have o:=ai7 h.jl n oZ k s;have y:=aja h.jl n oZ k (mK u);have j:=yT ((q:Int)<((cm m).length:Int));have c7:bZ (a.length+1) 8=true:=eB;have dm:bZ (l.length+1) 24=true:=eB;have z:bZ (nx.length+1) 24=true:=eB;have g:=akb h n bw k q aj b c d e (bW nx) (bk a) (c6 l) (by rintro x (rfl|rfl|rfl)<;>rfl);have w:D.aw 1 ([]:mW)=bk []:=rfl;have A:da (aa (q:Int))=true:=rfl;left;cases t:lH m s with|true=>rw[t]at o;refine⟨(q+1,nx++[gW m s],a++[q],l++[fv m s]),?_,by rw[eU,xac t];simp,rfl,by simp[ab],by simp only;simp;omega,by simp[ai]⟩;simp only[uJ,go_sem,j,w,g,Ae,xal,xaA,xaw,z,mM aj,ka k,o,A,c7,y,Ul,Fh,dm,Fi,gW,bu q]|false=>rw[t]at o;refine⟨(q+1,nx++[gW m s],a,l++[fv m s]),?_,by rw[eU,xab (by rw[t];simp)];simp,rfl,by simp[ab],by simp only;omega,by simp[ai]⟩;simp only[uJ,go_sem,j,w,g,Ae,xal,xaA,xaw,z,mM aj,ka k,o,y,Ul,Fh,dm,Fi,gW,bu q]
end
theorem akd{w:Bool}{p:oX}:cu gn w p=some gn:=rfl
theorem ake(q:Int×(Int×Int)):eK 1 (cK q)=some (aa q.2.2):=rfl
attribute [go_sem] ake
theorem akf(q:Int×(Int×Int)):eK 0 (cK q)=some (.agg [aa q.1,aa q.2.1]):=rfl
attribute [go_sem] akf
theorem Ux(a b:Int):cw 2 (.agg [aa a,aa b])=true:=rfl
attribute [go_sem] Ux
def Uy{a:Int}(h:a=0):(a !=0)=false:=by simp[h]
def Ki{a:Int}(h:¬a=0):(a !=0)=true:=by simp[h]
def akg{a:Int}(h:a=0):(a==0)=true:=by simp[h]
def Uz{a:Int}(h:¬a=0):(a==0)=false:=by simp[h]
theorem UA{m:bA}:cw 8 (gU m)=true/\D.agg [ae (gU m) 0,ae (gU m) 1,ae (gU m) 2,ae (gU m) 3,ae (gU m) 4,ae (gU m) 5,ae (gU m) 6,ae (gU m) 7]=gU m:=⟨rfl,rfl⟩
theorem n7.bF{m:bA}:ae (kc m) 0=b2 (cm m):=rfl
attribute [go_sem] n7.bF
theorem n7.c1{m:bA}:ae (kc m) 1=bW ((cm m).map (gW m)):=rfl
attribute [go_sem] n7.c1
theorem n7.c2{m:bA}:ae (kc m) 2=bk (kb m):=rfl
attribute [go_sem] n7.c2
theorem n7.b3{m:bA}:ae (kc m) 3=c6 ((cm m).map (fv m)):=rfl
attribute [go_sem] n7.b3
theorem n7.agg{m:bA}:cw 4 (kc m)=true:=rfl
attribute [go_sem] n7.agg
theorem n7.eta{m:bA}:D.agg [b2 (cm m),bW ((cm m).map (gW m)),bk (kb m),c6 ((cm m).map (fv m))]=kc m:=rfl
def kd:D:= .agg [b9,b9,b9,b9]
theorem UB:cw 4 kd=true:=rfl
theorem akh:D.agg [ae kd 0,ae kd 1,ae kd 2,ae kd 3]=kd:=rfl
section
variable{m:bA}(hw:ph m)(h:v8 m)(n:Nat)(bw:18446744073709551616<n)
include hw h bw
theorem aki(b:¬(fE m).2.2=0):o2 n [m.d]=some (.az [kd,aa (fE m).2.2])/\uK n [m.d]=some (.az [kd,aa (fE m).2.2]):=by
 obtain⟨ab,ad⟩:=Kb hw h bw;have a:=Ki b;constructor
 .have e:o2 n [m.d]=r7 n [m.d]:=rfl;rw[e];simp only[r7,II,go_sem,ab,a,kd]
 simp only[uK,Is,go_sem,ad,a,kd]
theorem UC(c:(fE m).2.2=0)(d:jK 64 m.vars 1=true):mN m/\eC m.vars<=64:=by
 have a:=Uj (Ka c).2.1;have f:=Us (λv e=>(a v e).1) d oZ;have b:eC m.vars<=64:=oZ
 exact⟨⟨T4 hw h bw c,a,by omega,aj7 a oZ⟩,b⟩
theorem akj(f:(fE m).2.2=0)(j:jK 64 m.vars 1=true):o2 n [m.d]=some (.az [kc m,aa 0])/\uK n [m.d]=some (.az [kc m,aa 0]):=by
 obtain⟨G,w⟩:=UC hw h n bw f j;obtain⟨ab,ad⟩:=Kb hw h bw;have e:kA n [m.d]=some (.az [.agg [aa (fE m).1,aa (fE m).2.1],aa 0]):=by rw[ab];unfold cK;rw[f]
 refine⟨aj0 G.jl n oZ G.g G.p G.s (Ux _ _) e,?_⟩;have r:=TI G.jl.h0 n oZ;have k:n4 m (gU m):= .inr aj2;have t:=aj4 G n oZ k;have c:=akc G n bw k b9 b9 b9 b9;have i:=Ur n oZ m.vars G.jl.hj (by have:=G.jl.eg;omega) G.g 4096 oZ oZ;rw[Kg oZ j]at i;have l:D.aw 1 ([]:mW)=bW []:=rfl;have o:bW []=bk []:=rfl;have q:bW []=c6 []:=rfl;rw[<-o,<-q]at c;have u:da (b2 (cm m))=true:=rfl;have a2:∀a b,cw 2 (.agg [aa a,aa b])=true:=λ_ _=>rfl;simp only[uK,Is,go_sem,ad,Uy f,i,r,(UA (m:=m)).1,(UA (m:=m)).2,t,u,l,c];rfl
end
def UD{l:mY}{j:Nat}{b:lW}(h:l[j]?=some b):a8 1 (c6 l) (aa (j:Int))=some [bf b]:=by obtain⟨a,rfl⟩:=lV.1 h;simp[c6,a]
def akk(l:mY):dK (c6 l)=some (aa l.length):=by simp[c6]
attribute [go_sem] akk
def akl(n:Nat)(S:mX)(nx:mZ)(a:lX)(c:mY)(ab:S.length<=1000000)(ad:nx.length<=1000000)(ai:a.length<=1000000)(l:c.length<=1000000)(g1:∀s∈S,s.length<=1000000)(g2:∀s∈nx,s.length<=1000000)(g4:∀s∈c,s.length<=1000000)(o:18446744073709551616<n):vl n [.agg [b2 S,bW nx,bk a,c6 c],.agg [b2 S,bW nx,bk a,c6 c]]=some (aD true):=by
 have bT:=Uw n S oZ oZ λs aj=>by have:=g1 s aj;omega
 have cM:=Uw n (nx.map λs=>s.map λ(k:Nat)=>(k:Int)) uZ uZ λs aj=>by obtain⟨t,i,rfl⟩:=xaK.1 aj;have:=g2 t i;simp;omega
 rw[<-aj8]at cM;have gL:=Uv n (a.map λ(k:Nat)=>(k:Int)) (a.map λ(k:Nat)=>(k:Int)) uZ uZ uZ;rw[<-Uu,xap rfl]at gL;have ag:=cd (f:=DO n) c (λj (_:Unit)=>[aa (j:Int),b2 S,bW nx,bk a,c6 c,b2 S,bW nx,bk a,c6 c]) (λ_ _=>(.inl [b2 S,bW nx,bk a,c6 c,b2 S,bW nx,bk a,c6 c]:lZ⊕D)) (λ_ _=>True) ?_ ?_ n 0 () trivial oZ (xah _)
 .have e:(aa ((0:Nat):Int))=aa 0:=rfl;have h:cw 4 (.agg [b2 S,bW nx,bk a,c6 c])=true:=rfl;have c8:ae (.agg [b2 S,bW nx,bk a,c6 c]) 0=b2 S/\ae (.agg [b2 S,bW nx,bk a,c6 c]) 1=bW nx/\ae (.agg [b2 S,bW nx,bk a,c6 c]) 2=bk a/\ae (.agg [b2 S,bW nx,bk a,c6 c]) 3=c6 c:=⟨rfl,rfl,rfl,rfl⟩;rw[e]at ag;simp only[vl,PS,go_sem,h,c8.1,c8.2.1,c8.2.2.1,c8.2.2.2,bne_self_eq_false,ag,bT,cM,gL,qN,pk]
 .intro _ _;simp only[DO,go_sem,yF ((c.length:Int)<c.length)]
 intro j b _ d m _;have g:=aka n b (by have:=g4 b (xad d);omega) (by have:=g4 b (xad d);omega);left;refine⟨(),?_,rfl,trivial⟩;simp only[DO,go_sem,yT ((j:Int)<(c.length:Int)),UD d,g,bu j]
theorem akm(n:Nat):vl (n+1) [kd,kd]=some (aD true):=rfl
def Fk(p:lY->Bool):∀(l:mX) (i:Nat),(eU p i l).length<=l.length
 |[],i=>xaQ _
 |s::r,i=>by
  have:=Fk p r (i+1);unfold eU;split;.simp;omega
  simp;omega
def akn{m:bA}(G:mN m)(n:Nat)(c:18446744073709551616<n):vl n [kc m,kc m]=some (aD true):=by
 have ah:=G.len;have a:=G.jl.h0.b;refine akl n (cm m) ((cm m).map (gW m)) (kb m) ((cm m).map (fv m)) oZ uZ ?_ uZ (λs aj=>by have:=aj6 G s aj;omega) ?_ ?_ c
 .have:=Fk (lH m) (cm m) 0;show(eU (lH m) 0 (cm m)).length<=_;omega
 .intro s aj;obtain⟨t,_,rfl⟩:=xaK.1 aj;have:=Fk (iv m t) (cm m) 0;show(eU (iv m t) 0 (cm m)).length<=_;omega
 intro s aj;obtain⟨t,_,rfl⟩:=xaK.1 aj;have:=a.2.2.2.2.1;simp[fv];omega
structure Kj(m:bA):Prop where
 t:∀t∈qS m,t.aO<=660000
 s:∀s∈m.a6,s.f.aO<=660000
def ako{m:bA}(k:ph m)(ah:E5 m)(aj:Kj m)(n:Nat)(j:18446744073709551616<n)(a:Int)(m1:1<=a)(m64:a<=64):∃b:Bool,qi n [m.d,aa a]=some (aD b)/\(b=true->v8 m/\((fE m).2.2=0->jK 64 m.vars 1=true)):=by
 obtain⟨q,r,u,w,x,y,z,A⟩:=ah;by_cases ab:m.vars.length>12;.have d1:=yT ((m.vars.length:Int)>12);exact⟨false,by simp-implicitDefEqProofs only[qi,uA,go_sem,d1,J5,pk],by simp⟩
 have d1:=yF ((m.vars.length:Int)>12);have aE:aP false .add (aa (m.ao.length:Int)) (aa (m.bb.length:Int))=some (aa ((m.ao.length:Int)+m.bb.length)):=ds oZ oZ;have a2:aP false .add (aa ((m.ao.length:Int)+m.bb.length)) (aa (m.bc.length:Int))=some (aa ((m.ao.length:Int)+m.bb.length+m.bc.length)):=ds oZ oZ;have a3:aP false .add (aa ((m.ao.length:Int)+m.bb.length+m.bc.length)) (aa (m.next.length:Int))=some (aa ((m.ao.length:Int)+m.bb.length+m.bc.length+m.next.length)):=ds oZ oZ;have a4:aP false .add (aa ((m.ao.length:Int)+m.bb.length+m.bc.length+m.next.length)) (aa (m.trans.length:Int))=some (aa ((m.ao.length:Int)+m.bb.length+m.bc.length+m.next.length+m.trans.length)):=ds oZ oZ;have a5:aP false .add (aa ((m.ao.length:Int)+m.bb.length+m.bc.length+m.next.length+m.trans.length)) (aa (m.a1.length:Int))=some (aa ((m.ao.length:Int)+m.bb.length+m.bc.length+m.next.length+m.trans.length+m.a1.length)):=ds oZ oZ;have f:aP false .add (aa ((m.ao.length:Int)+m.bb.length+m.bc.length+m.next.length+m.trans.length+m.a1.length)) (aa (m.a6.length:Int))=some (aa ((m.ao.length:Int)+m.bb.length+m.bc.length+m.next.length+m.trans.length+m.a1.length+m.a6.length)):=ds oZ oZ;by_cases ad:(m.ao.length:Int)+m.bb.length+m.bc.length+m.next.length+m.trans.length+m.a1.length+m.a6.length>40
 .have d2:=xap ad;exact⟨false,by simp-implicitDefEqProofs only[qi,uA,go_sem,d1,aE,a2,a3,a4,a5,f,d2,z6,z7],by simp⟩
 have d2:=xaB ad;have g:v8 m:=⟨by unfold TX;omega,aj.t,aj.s⟩;have i:=(Kb k g j).2;have c8:ae (.agg [aa (fE m).1,aa (fE m).2.1]) 1=aa (fE m).2.1:=rfl;by_cases c:(fE m).2.2=0
 .have p:=Uj (Ka c).2.1;have V:=T4 k g j c;have o:=Ur n oZ m.vars V.hj oZ p a m1 oZ;refine⟨jK a m.vars 1,?_,λl=>⟨g,λ_=>Kg m64 l⟩⟩;simp-implicitDefEqProofs only[qi,uA,go_sem,d1,aE,a2,a3,a4,a5,f,d2,z6,qN,J4,z7,pk,i,Uy c,akg c,o]
 by_cases e:(fE m).2.1<64;.have d3:=xap e;refine⟨true,?_,λ_=>⟨g,λh=>absurd h c⟩⟩;simp-implicitDefEqProofs only[qi,uA,go_sem,d1,aE,a2,a3,a4,a5,f,d2,z6,qN,J5,akd,z7,pk,i,Ki c,Uz c,c8,d3]
 have d3:=xaB e;refine⟨false,?_,by simp⟩;simp-implicitDefEqProofs only[qi,uA,go_sem,d1,aE,a2,a3,a4,a5,f,d2,z6,qN,J4,z7,pk,i,Ki c,Uz c,c8,d3]
end Go.Am
