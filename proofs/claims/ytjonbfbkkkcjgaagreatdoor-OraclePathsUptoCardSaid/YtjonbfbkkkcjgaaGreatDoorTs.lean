/- Laws, on data. No condition. -/
import Derived.Test.YtjonbfbkkkcjgaaGreatDoorCode
import Derived.KernelRfl
import Derived.Test.YtjonbfbkkkcjgaaGreatDoorEngD
import Derived.Test.YtjonbfbkkkcjgaaGreatDoorSs
set_option linter.all false
set_option linter.unnecessarySimpa false
namespace Go.Am
theorem We(n:Nat):s8 (n+400) []=some (aE true):=by kernel_rfl
def rI{b S:Type}{f:lZ->Option (lZ⊕b)}(dy:S->lZ)(a:S->Nat)(Inv:S->Prop)(Q:b->Prop) (step:∀s,Inv s->(∃s',f (dy s)=some (.inl (dy s'))/\Inv s'/\a s'<a s)\/(∃r,f (dy s)=some (.inr r)/\Q r)): ∀n s,Inv s->a s<n->∃r,aS f n (dy s)=some r/\Q r
 |0,s,_,h=>absurd h (xaF _)
 |n+1,s,h,hm=>by
  rw[ic];rcases step s h with⟨s',ab,ae,ai⟩|⟨r,ab,ae⟩
  .rw[ab];exact rI dy a Inv Q step n s' ae oZ
  rw[ab];exact⟨r,rfl,ae⟩
section
variable{α:Type}
structure Part(a b:Nat)(L L2:List α):Prop where
 len:L2.length=L.length
 out:∀i,i<a\/b<=i->L2[i]?=L[i]?
 h3:∀p:α->Bool,L2.countP p=L.countP p
theorem Part.refl(a b:Nat)(L:List α):Part a b L L:=⟨rfl,λ_ _=>rfl,λ_=>rfl⟩
def Part.trans{a b:Nat}{L M N:List α}(h:Part a b L M)(c:Part a b M N):Part a b L N:=⟨c.len.trans h.len,λi ag=>(c.out i ag).trans (h.out i ag),λp=>(c.h3 p).trans (h.h3 p)⟩
def Part.mono{a b c b':Nat}{L M:List α}(h:Part a b L M)(d:c<=a)(e:b<=b'):Part c b' L M:=⟨h.len,λi ag=>h.out i oZ,h.h3⟩
def p9(P:α->Prop)(a b:Nat)(L:List α):Prop:=∀i x,a<=i->i<b->L[i]?=some x->P x
def p9.mono{P:α->Prop}{a b c b':Nat}{L:List α}(h:p9 P a b L)(e:a<=c)(f:b'<=b):p9 P c b' L:=λi x ab ae d=>h i x oZ oZ d
def p9.out{P:α->Prop}{a b c d:Nat}{L M:List α}(h:p9 P c d L)(e:Part a b L M)(g:d<=a\/b<=c):p9 P c d M:=λi x ab ae f=>h i x ab ae (by rw[<-e.out i oZ];exact f)
def ali{p:α->Bool}{l:List α}(h:l.countP p=0):∀x∈l,p x=false:=by intro x b;cases a:p x with|false=>rfl|true=>have:=List.countP_pos_iff.2 ⟨x,b,a⟩;omega
open Classical in
def p9.part{P:α->Prop}{a b:Nat}{L M:List α}(h:p9 P a b L)(e:Part a b L M)(dV:a<=b):p9 P a b M:=by
 intro i x ab ae n;have f:M.take a=L.take a:=by
  apply xbG;intro k;rw[xaQ,xaQ];split;.rename_i d;exact e.out k (.inl d)
  rfl
 have g:M.drop b=L.drop b:=by apply xbG;intro k;rw[xaY,xaY];exact e.out _ (.inr oZ)
 have c:∀(N:List α)(q:α->Bool),N.countP q=(N.take a).countP q+((N.drop a).take (b-a)).countP q+(N.drop b).countP q:=by
  intro N q
  conv=>lhs;rw[<-xbK a N,List.countP_append,<-xbK (b-a) (N.drop a),List.countP_append,List.drop_drop]
  rw[show a+(b-a)=b by omega];omega
 have j:=e.h3 (λy=>!decide (P y));rw[c M,c L,f,g]at j;have ak:((L.drop a).take (b-a)).countP (λy=>!decide (P y))=0:=by
  rw[List.countP_eq_zero];intro y o;obtain⟨k,d⟩:=List.getElem?_of_mem o;rw[xaQ]at d;split at d;.rename_i l;rw[xaY]at d;simp[h (a+k) y oZ oZ d]
  cases d
 have ai:((M.drop a).take (b-a)).countP (λy=>!decide (P y))=0:=oZ
 have m:x∈(M.drop a).take (b-a):=by refine xad (i:=i-a) ?_;rw[xaQ,xac oZ,xaY,show a+(i-a)=i by omega];exact n
 have:=ali ai x m;simpa using this
def Part.mem{a b:Nat}{L M:List α}(h:Part a b L M)[DecidableEq α](x:α):x∈M↔x∈L:=by
 have:=h.h3 (λy=>y==x);have e:∀N:List α,x∈N↔0<N.countP (λy=>y==x):=by
  intro N;rw[List.countP_pos_iff];constructor;.intro h;exact⟨x,h,by simp⟩
  rintro⟨y,ab,ae⟩;rw[<-eq_of_beq ae];exact ab
 rw[e,e,this]
end
section
variable(m:bG)
theorem dX.bK:ad (kG m) 0=aO m.vars:=rfl
attribute [go_sem] dX.bK
theorem dX.c1:ad (kG m) 1=cg:=rfl
attribute [go_sem] dX.c1
theorem dX.c2:ad (kG m) 2=an (m.bf.map (bN m.ao)):=rfl
attribute [go_sem] dX.c2
theorem dX.b8:ad (kG m) 3=an (m.bg.map (bN m.ao)):=rfl
attribute [go_sem] dX.b8
theorem dX.eZ:ad (kG m) 4=ay (m.next.map (eu m.ao)):=rfl
attribute [go_sem] dX.eZ
theorem dX.jl:ad (kG m) 5=an (m.trans.map (bN m.ao)):=rfl
attribute [go_sem] dX.jl
theorem dX.jm:ad (kG m) 6=an (m.ba.map (bN m.ao)):=rfl
attribute [go_sem] dX.jm
theorem dX.oy:ad (kG m) 7=bj (m.bb.map (fZ m.ao)):=rfl
attribute [go_sem] dX.oy
theorem dX.agg:cz 8 (kG m)=true:=rfl
attribute [go_sem] dX.agg
theorem dX.eta:D.agg [aO m.vars,cg,an (m.bf.map (bN m.ao)),an (m.bg.map (bN m.ao)),ay (m.next.map (eu m.ao)),an (m.trans.map (bN m.ao)),an (m.ba.map (bN m.ao)),bj (m.bb.map (fZ m.ao))]=kG m:=rfl
attribute [go_sem] dX.eta
end
section
variable{m:bG}(ht:gY m.vars)(ah:m.vars.length<=100){nx:Bool}{s nn:lY}(aj:eb m.vars s)(bm:nx=true->eb m.vars nn)(ak:nx=false->nn=[]){bn:Bool}(n:Nat)(rD:13306000000<n)
include ht ah aj bm ak rD
theorem Wf{t:Tm}(h:kH m nx t):AD n [kG m,(bN m.ao t).d,bY s,fT bn nn]=some (aE (eT m.vars (cJ m.ao t).1 s nn)):=by have a:=akS ht ah h aj bm ak (bn:=bn) n rD;have b:=akQ (eT m.vars (cJ m.ao t).1 s nn);cases c:eT m.vars (cJ m.ao t).1 s nn<;>rw[c]at a b<;>simp only[AD,RF,go_sem,a,b,rB,p8]
theorem L3{L:List Tm}(j:∀t∈L,kH m nx t)(k:L.length<=1000000):s4 n [kG m,an (L.map (bN m.ao)),bY s,fT bn nn]=some (aE (L.all λt=>eT m.vars (cJ m.ao t).1 s nn)):=by
 have h:(aa ((0:Nat):Int))=aa 0:=rfl;have b:dL (an (L.map (bN m.ao)))=some (aa L.length):=by rw[Ba,xaU]
 have ag:=ch (f:=AE n) L (λi (_:Unit)=>[bY s,fT bn nn,an (L.map (bN m.ao)),aa L.length,aa (i:Int),aO m.vars,cg,an (m.bf.map (bN m.ao)),an (m.bg.map (bN m.ao)),ay (m.next.map (eu m.ao)),an (m.trans.map (bN m.ao)),an (m.ba.map (bN m.ao)),bj (m.bb.map (fZ m.ao))]) (λr _=>if(r.all λt=>eT m.vars (cJ m.ao t).1 s nn)=true then(.inl []:lZ⊕D)else .inr (aE false)) (λ_ _=>True) ?_ ?_ n 0 () trivial oZ (xah _)
 .rw[h,xak]at ag;by_cases a:(L.all λt=>eT m.vars (cJ m.ao t).1 s nn)=true;.rw[xac a]at ag;simp only[s4,Kq,go_sem,b,ag,a]
  rw[xab a]at ag;simp only[s4,Kq,go_sem,b,ag,(show(L.all λt=>eT m.vars (cJ m.ao t).1 s nn)=false by simpa using a)]
 .intro _ _;simp only[AE,go_sem,yF ((L.length:Int)<L.length),xcf,xaD]
 intro i t _ e ag _;have g:(L.map (bN m.ao))[i]?=some (bN m.ao t):=by rw[xag,e];rfl
 have d:=Wf ht ah aj bm ak (bn:=bn) n rD (j t (xad e));have c:=yT ((i:Int)<(L.length:Int));cases a:eT m.vars (cJ m.ao t).1 s nn with|true=>left;rw[a]at d;exact⟨(),by simp only[AE,go_sem,c,LV g,T.rm,T.tB,d,bk i],by rw[xbc,a,xbm],trivial⟩|false=>right;rw[a]at d;simp only[AE,go_sem,c,LV g,T.rm,T.tB,d,xbc,a,xce]
end
noncomputable def lb(m:bG)(s:lY):List (Nat×Int):=m.next.map λd=>((c4 m.vars d.name).getD 0,(fG m.vars (cJ m.ao d.e).1 s []).1)
def hv(l:List (Nat×Int)):D:= .aw 2 (l.map λp=>[aa (p.1:Int),aa p.2])
def Wg{l:List (Nat×Int)}{i:Nat}{p:Nat×Int}(h:l[i]?=some p):bc 2 (hv l) (aa (i:Int))=some [aa (p.1:Int),aa p.2]:=by obtain⟨a,rfl⟩:=lV.1 h;simp[hv,a]
def alj(l:List (Nat×Int)):dL (hv l)=some (aa l.length):=by simp[hv]
def alk(l:List (Nat×Int))(p:Nat×Int):D.aw 2 (aF (hv l)++[[aa (p.1:Int),aa p.2]])=hv (l++[p]):=by simp[hv]
theorem Wh(l:List (Nat×Int)):D.aw 2 (aF (hv l))=hv l:=rfl
def alm(l:List (Nat×Int)):(aF (hv l)).length=l.length:=by simp[hv]
section
variable{m:bG}(h:rE m)(n:Nat)(bm:13306000000<n)
include h bm
theorem aln(a:ByteArray){x1:lZ}(ab:aR false 1 0 x1=some (aD a)):wA n [aO m.vars,D.fn (.func u1) [] [.ref x1 0]]=some (aa (ei (c4 m.vars a))):=by
 have aX:wA n [aO m.vars,D.fn (.func u1) [] [.ref x1 0]]=AG n (aO m.vars) (.ref x1 0):=by simp only[wA,jK]
 have ah:=h.eg;have k:(aa ((0:Nat):Int))=aa 0:=rfl;have ag:=VP (f:=AF n) m.vars (λi=>[aO m.vars,.ref x1 0,aa m.vars.length,aa (i:Int)]) (λv=>decide (v.name=a)) ?_ ?_ n oZ
 .rw[k]at ag;rw[aX];unfold c4;cases g:m.vars.findIdx? (λv=>decide (v.name=a))with|none=>rw[g]at ag;simp only[AG,go_sem,ag,ei,rC]|some j=>rw[g]at ag;simp only[AG,go_sem,ag,ei,rC]
 .intro i v e;have l:=(lV.1 e).1;have bK:ad v.d 0=aD v.name:=rfl;have ae:E8 n [v.d,.ref x1 0]=some (aE (decide (v.name=a))):=by
   show E7 n v.d x1=_;simp only[E7,go_sem,V.g4,ab,bK]
  have b:=yT ((i:Int)<(m.vars.length:Int));by_cases c:v.name=a;.rw[xao c]at ae;simp only[AF,go_sem,b,eS e,ae,xao c,xaD]
  rw[xax c]at ae;simp only[AF,go_sem,b,eS e,ae,xax c,xaq,xaG,bk i]
 simp only[AF,go_sem,yF ((m.vars.length:Int)<m.vars.length)]
theorem alo{s:lY}(aj:eb m.vars s):Fa n [kG m,bY s]=some (.aB [hv (lb m s),aE true]):=by
 have M:=h.iD.b.2.2.1;have J:=h.eg;have A:(aa ((0:Nat):Int))=aa 0:=rfl;have c:dL (ay (m.next.map (eu m.ao)))=some (aa m.next.length):=by rw[n9,xaU]
 have ag:=ch (f:=E9 n) m.next (λi (p:List (Nat×Int))=>[bY s,ay (m.next.map (eu m.ao)),aa m.next.length,aa (i:Int),aO m.vars,cg,an (m.bf.map (bN m.ao)),an (m.bg.map (bN m.ao)),ay (m.next.map (eu m.ao)),an (m.trans.map (bN m.ao)),an (m.ba.map (bN m.ao)),bj (m.bb.map (fZ m.ao)),hv p]) (λr p=>(.inl [hv (p++r.map λd=>((c4 m.vars d.name).getD 0,(fG m.vars (cJ m.ao d.e).1 s []).1))]:lZ⊕D)) (λi p=>p.length=i) ?_ ?_ n 0 [] rfl oZ (xah _)
 .rw[A,xak,xaM]at ag;have B:hv []=D.aw 2 []:=rfl;rw[B]at ag;simp only[Fa,RG,go_sem,c,ag,Wh];rfl
 .intro p _;simp only[E9,go_sem,yF ((m.next.length:Int)<m.next.length),xbd,xat,Wh]
 intro i d p z ag H;have t:=xad z;have K:(m.next.map (eu m.ao))[i]?=some (eu m.ao d):=by rw[xag,z];rfl
 obtain⟨k,q⟩:=(h.n d t).2;have G:=LX q;have l:=h.iD.n d t;obtain⟨L,N,O,P⟩:=l.VT;have I:=VV h t aj;have C:nu n [aO m.vars,(bN m.ao d.e).d,bY s,cg]=some (.aB [aa (fG m.vars (cJ m.ao d.e).1 s []).1,aE true]):=by have:=Lu (bn:=true) n m.vars (bN m.ao d.e) s [] oZ L h.gZ.1 (λv w=>GK h.gZ aj v (by simpa using w));rw[show fG m.vars (bN m.ao d.e) s []=_ from GJ LF m.vars (cJ m.ao d.e).1 s [],I]at this;exact this
 have y:=aln h n bm d.name (x1:=[aD d.name,aa (bN m.ao d.e).op,aa (bN m.ao d.e).num,aD (bN m.ao d.e).name,bJ 4 (bN m.ao d.e).nl (Tm.rows (bN m.ao d.e).aC)]) rfl;rw[q]at y;have F:∀a,(aa a).flat=true:=λ_=>rfl;have o:=yT ((i:Int)<(m.next.length:Int));have j:(eu m.ao d).name=d.name:=rfl;have g:(eu m.ao d).e=bN m.ao d.e:=rfl;have E:∀a b:Int,cz 2 (.agg [aa a,aa b])=true:=λ_ _=>rfl;have u:b1 (p.length+1) 16=true:=eB;generalize x:(fG m.vars (cJ m.ao d.e).1 s []).1=v at*;left;refine⟨p++[(k,v)],?_,by simp[q,x],by simp[H]⟩;simp only[E9,go_sem,o,dU K,bd.g5,bd.bK,bd.c1,bd.c2,bd.b8,bd.eZ,j,g,C,y,ei,F,alm,xal,xaA,u,alk p (k,v),bk i]
theorem alp{s t:lY}(J:eb m.vars t):wB n [hv (lb m s),D.fn (.func oc) [] [.ref [bY t] 0]]=some (aE (!(m.next.all (k9 m s t)))):=by
 have K:=h.iD.b.2.2.1;have G:(aa ((0:Nat):Int))=aa 0:=rfl;have B:(lb m s).length=m.next.length:=by simp[lb]
 have a:dL (hv (lb m s))=some (aa m.next.length):=by rw[alj,B]
 have ag:=VP (f:=AH n) m.next (λi=>[hv (lb m s),.ref [bY t] 0,aa m.next.length,aa (i:Int)]) (λd=>!(k9 m s t d)) ?_ ?_ n oZ
 .rw[G]at ag;have r:(m.next.findIdx? λd=>!(k9 m s t d)).isSome=!(m.next.all (k9 m s t)):=by
   rw[akN,<-akO,Bool.not_not]
  have aX:wB n [hv (lb m s),D.fn (.func oc) [] [.ref [bY t] 0]]=AK n (hv (lb m s)) (.ref [bY t] 0):=by simp only[wB,jK]
  have o:AJ n [hv (lb m s),D.fn (.func oc) [] [.ref [bY t] 0]]=AI n (hv (lb m s)) (.ref [bY t] 0):=by simp only[AJ,jK]
  rw[aX,<-r];cases C:m.next.findIdx? (λd=>!(k9 m s t d))with
  |none=>rw[C]at ag;simp only[AK,o,AI,go_sem,a,ag,rC,xcx,yF ((-1:Int)>=0)]
  |some j=>rw[C]at ag;simp only[AK,o,AI,go_sem,a,ag,rC,Option.isSome_some,yT ((j:Int)>=0)]
 .intro i d x;have H:=(lV.1 x).1;have I:=xad x;obtain⟨k,z⟩:=(h.n d I).2;have A:=LX z;obtain⟨y,F⟩:=VW (l:=t) (k:=k) (by rw[J.1];exact A);have E:(lb m s)[i]?=some (k,(fG m.vars (cJ m.ao d.e).1 s []).1):=by simp[lb,x,z]
  have q:k9 m s t d=decide (y=(fG m.vars (cJ m.ao d.e).1 s []).1):=by unfold k9;rw[z];simp only[F,xaE]
  generalize (fG m.vars (cJ m.ao d.e).1 s []).1=v at*;have g:aR true 2 0 [aa (k:Int),aa v]=some (.agg [aa (k:Int),aa v]):=rfl;have w:cz 2 (.agg [aa (k:Int),aa v])=true:=rfl;have bK:ad (.agg [aa (k:Int),aa v]) 0=aa (k:Int):=rfl;have c1:ad (.agg [aa (k:Int),aa v]) 1=aa v:=rfl;have ae:Fc n [.agg [aa (k:Int),aa v],.ref [bY t] 0]=some (aE (y !=v)):=by show Fb n (.agg [aa (k:Int),aa v]) [bY t]=_;simp only[Fb,go_sem,w,bK,c1,lD F]
  have p:=yT ((i:Int)<(m.next.length:Int));by_cases u:y=v
  .have c:(y !=v)=false:=by simp[u]
   rw[c]at ae;rw[q,xao u];simp only[AH,go_sem,p,Wg E,g,ae,bk i]
  have c:(y !=v)=true:=by simp[u]
  rw[c]at ae;rw[q,xax u];simp only[AH,go_sem,p,Wg E,g,ae,xcc,xaD]
 simp only[AH,go_sem,yF ((m.next.length:Int)<m.next.length)]
end
def alq{x:D}{vs:List V}(w:cz 8 x=true)(l:ad x 0=aO vs)(n:Nat)(q:gY vs)(ah:vs.length<=100)(A:200<n):vL n [x]=some (.aB [aa (stM vs).1,aE (stM vs).2]):=by
 have ai:=ch (f:=zx n) vs (λi (_:Unit)=>[aa 1,aa (i:Int),aO vs,ad x 1,ad x 2,ad x 3,ad x 4,ad x 5,ad x 6,ad x 7]) (λr _=>(if kE r=true then .inr (.aB [aa 0,aE true])else .inl [aa 1,aO vs,ad x 1,ad x 2,ad x 3,ad x 4,ad x 5,ad x 6,ad x 7]:lZ⊕D)) (λ_ _=>True) ?_ ?_ n 0 () trivial oZ (xah _)
 .have y:(aa ((0:Nat):Int))=aa 0:=rfl;rw[y,xak]at ai;unfold stM;by_cases ab:kE vs=true;.rw[xac ab]at ai⊢;simp only[vL,Ed,go_sem,w,l,ai]
  rw[xab ab]at ai⊢;have o:∀v∈vs,v.span≠0:=by intro v q t;apply ab;unfold kE;rw[xbz];exact⟨v,q,by simp[t]⟩
  have m:=ch (f:=zy n) vs (λi (s:Int)=>[aa s,aa (i:Int),aO vs,ad x 1,ad x 2,ad x 3,ad x 4,ad x 5,ad x 6,ad x 7]) (λr s=>(if iX r s>1073741824 then .inr (.aB [aa 0,aE false])else .inl [aa (iX r s)]:lZ⊕D)) (λi s=>1<=s/\s<=1073741824) ?_ ?_ n 0 1 sZ oZ (xah _)
  .rw[y,xak]at m;by_cases ae:iX vs 1>1073741824;.rw[xac ae]at m⊢;simp only[vL,Ed,go_sem,w,l,ai,m]
   rw[xab ae]at m⊢;simp only[vL,Ed,go_sem,w,l,ai,m]
  .intro s aj;have:¬s>1073741824:=oZ
   rw[iX,xab this];simp only[zy,go_sem,yF ((vs.length:Int)<vs.length)]
  intro i v s c ag aj;have j:=xad c;obtain⟨ab,ae,_⟩:=q.2 v j;have g:=xb n v ab ae;have p:=V.tE v;have B:=o v j;have k:max v.span 1=v.span:=oZ
  have z:=Vt aj.1 aj.2 p.1 p.2;rw[k]at z;have d:=yT ((i:Int)<(vs.length:Int));by_cases u:s*v.span>1073741824
  .right;rw[iX,xac aj.2,k,Vs _ _ oZ,xac u];simp only[zy,go_sem,d,eS c,g,qK (bt:=false) (a:=s) (b:=v.span) oZ oZ,xao u]
  left;refine⟨s*v.span,?_,by rw[iX,xac aj.2,k],by omega⟩;simp only[zy,go_sem,d,eS c,g,qK (bt:=false) (a:=s) (b:=v.span) oZ oZ,xax u,bk i]
 .intro _ _;have:¬(kE []=true):=by simp[kE]
  simp only[zx,go_sem,yF ((vs.length:Int)<vs.length),xab this]
 intro i v _ c ag _;obtain⟨ab,ae,_⟩:=q.2 v (xad c);have g:=xb n v ab ae;have d:=yT ((i:Int)<(vs.length:Int));have e:kE (v::vs.drop (i+1))=(v.span==0||kE (vs.drop (i+1))):=rfl;by_cases t:v.span=0
 .right;have h:(v.span==0)=true:=by simp[t]
  rw[e,h,Bool.true_or,xac rfl];simp only[zx,go_sem,d,eS c,g,h]
 left;have h:(v.span==0)=false:=by simpa using t
 rw[e,h,xbB];exact⟨(),by simp only[zx,go_sem,d,eS c,g,h,bk i],rfl,trivial⟩
def bA(l:mX):D:= .aw 1 (l.map λs=>[bY s])
def ej(v:V):Int:=if v.bool=true then 0 else v.lo
def hc(v:V)(s:lY):mX:=(List.range v.span.toNat).map λ(j:Nat)=>s++[ej v+(j:Int)]
def gi:List V->mX->mX
 |[],out=>out|v::r,out=>gi r (out.flatMap (hc v))
def eM:List V->Nat
 |[]=>1|v::r=>v.span.toNat*eM r
def iZ(v:V):Prop:=1<=v.span/\v.span<=64/\-2000000<=ej v/\ej v<=2000000
theorem alr(l:mX):D.aw 1 (aF (bA l))=bA l:=rfl
attribute [go_sem] alr
def oT(l:mX):(aF (bA l)).length=l.length:=by simp[bA]
def Bv{l:mX}{j:Nat}{s:lY}(h:l[j]?=some s):(aF (bA l))[j]?=some [bY s]:=by simp[bA,h]
def L4(l:mX)(s:lY):D.aw 1 (aF (bA l)++[[bY s]])=bA (l++[s]):=by simp[bA]
theorem Wi(s:lY):jz (bY s)=some (1,s.map λ(x:Int)=>[aa x]):=rfl
theorem GU(s:lY):c8 (bY s)=true:=rfl
section
variable(x:D)(vs:List V)(n:Nat)
def als(F:gY vs)(H:100000<n)(i k:Nat)(v:V)(c:vs[i]?=some v)(y:iZ v)(out:mX)(s:lY)(aj:out[k]?=some s)(E:s.length<=200)(B:out.length<=5000)(nx:mX)(A:nx.length<=400000):aS (zz n) n [aa (i:Int),aa (ej v),aa (k:Int),aa 0,aO vs,ad x 1,ad x 2,ad x 3,ad x 4,ad x 5,ad x 6,ad x 7,bA out,bA nx]=some (.inl [aa (i:Int),aa (ej v),aa (k:Int),aO vs,ad x 1,ad x 2,ad x 3,ad x 4,ad x 5,ad x 6,ad x 7,bA out,bA (nx++hc v s)]):=by
 obtain⟨g1,g2,g3,g4⟩:=y;obtain⟨i1,i2,_⟩:=F.2 v (xad c);have g:=xb n v i1 i2;have m:=(lV.1 aj).1;have p:v.span=(v.span.toNat:Int):=oZ
 have ag:=ch (f:=zz n) (List.range v.span.toNat) (λj (q:mX)=>[aa (i:Int),aa (ej v),aa (k:Int),aa (j:Int),aO vs,ad x 1,ad x 2,ad x 3,ad x 4,ad x 5,ad x 6,ad x 7,bA out,bA q]) (λr q=>(.inl [aa (i:Int),aa (ej v),aa (k:Int),aO vs,ad x 1,ad x 2,ad x 3,ad x 4,ad x 5,ad x 6,ad x 7,bA out,bA (q++r.map λ(j:Nat)=>s++[ej v+(j:Int)])]:lZ⊕(lZ⊕(lZ⊕(lZ⊕(lZ⊕(lZ⊕(lZ⊕D)))))))) (λj q=>q.length<=400000+j) ?_ ?_ n 0 nx oZ uZ (xah _);.exact ag
 .intro q C;have b:decide (((List.range v.span.toNat).length:Int)<v.span)=false:=xax (by rw[xbg];omega);simp only[zz,go_sem,eS c,g,b,xbd,xat]
 intro j a q w z C;rw[xbg]at z;have h:a=j:=by have:=(lV.1 w).2;simpa using this.symm
 subst h;have b:decide ((a:Int)<v.span)=true:=xao oZ;have o:cI out.length (aa (k:Int))=some k:=by rw[jI,xac m]
 have d:aV false .add (aa (ej v)) (aa (a:Int))=some (aa (ej v+(a:Int))):=dx oZ oZ;have c3:b1 s.length 8=true:=eB;have df:b1 (s.length+1) 8=true:=eB;have G:b1 (q.length+1) 24=true:=eB;have l:aR false 1 0 [bY s]=some (bY s):=rfl;have e:(decide (True\/(s.map λ(x:Int)=>[aa x])=[])&&decide (0<1))=true:=sZ
 have u:((1:Nat)=1)=True:=eq_self 1;left;refine⟨q++[s++[ej v+(a:Int)]],?_,by simp,by simp;omega⟩;simp only[zz,go_sem,eS c,g,b,oT,o,Bv aj,l,Wi,e,xaA,xaU,xaM,c3,d,xal,xav,df];have t:D.aw 1 ((s.map λ(x:Int)=>[aa x])++[[aa (ej v+(a:Int))]])=bY (s++[ej v+(a:Int)]):=by simp[bY]
 simp only[t,go_sem,G,bk a,L4]
def alu(m:gY vs)(k:100000<n)(i:Nat)(v:V)(e:vs[i]?=some v)(g:iZ v)(out:mX)(d:∀s∈out,s.length<=200)(c:out.length<=5000):aS (zA n) n [aa (i:Int),aa (ej v),aa 0,aO vs,ad x 1,ad x 2,ad x 3,ad x 4,ad x 5,ad x 6,ad x 7,bA out,bA []]=some (.inl [aa (i:Int),aO vs,ad x 1,ad x 2,ad x 3,ad x 4,ad x 5,ad x 6,ad x 7,bA (out.flatMap (hc v))]):=by
 have ag:=ch (f:=zA n) out (λj (q:mX)=>[aa (i:Int),aa (ej v),aa (j:Int),aO vs,ad x 1,ad x 2,ad x 3,ad x 4,ad x 5,ad x 6,ad x 7,bA out,bA q]) (λr q=>(.inl [aa (i:Int),aO vs,ad x 1,ad x 2,ad x 3,ad x 4,ad x 5,ad x 6,ad x 7,bA (q++r.flatMap (hc v))]:lZ⊕(lZ⊕(lZ⊕(lZ⊕D))))) (λj q=>q.length<=64*j) ?_ ?_ n 0 [] sZ oZ (xah _);.exact ag
 .intro q l;simp only[zA,go_sem,oT,yF ((out.length:Int)<out.length),List.flatMap_nil,xat]
 intro j s q aj o l;have b:=yT ((j:Int)<(out.length:Int));have a:=als x vs n m k i j v e g out s aj (d s (xad aj)) c q oZ;have h:(hc v s).length<=64:=by have:=g.2.1;simp only[hc,xaU,xbg];omega
 left;refine⟨q++hc v s,?_,by simp[List.flatMap_cons],by simp;omega⟩;simp only[zA,go_sem,oT,b,a,bk j]
def alv(v:V)(s:lY):(hc v s).length=v.span.toNat:=by simp[hc]
def GV(v:V):∀out:mX,(out.flatMap (hc v)).length=out.length*v.span.toNat
 |[]=>by simp|s::r=>by rw[List.flatMap_cons,xaS,GV v r,alv,xal,Nat.succ_mul,Nat.add_comm]
def L5:∀(l:List V),(∀v∈l,iZ v)->1<=eM l
 |[],_=>xaR 1
 |v::r,h=>by
  have ab:=(h v sZ).1;have ae:=L5 r λw a=>h w (by simp[a]);have:1<=v.span.toNat:=oZ
  rw[eM];exact Nat.mul_le_mul this ae
def GW:∀(l:List V)(out:mX),(gi l out).length=out.length*eM l
 |[],out=>by simp[gi,eM]|v::r,out=>by rw[gi,GW r,GV,eM,Nat.mul_assoc]
theorem Wj{v:V}{s t:lY}(h:t∈hc v s):t.length=s.length+1:=by simp only[hc,xaK]at h;obtain⟨j,_,rfl⟩:=h;simp
def alw(B:cz 8 x=true)(e:ad x 0=aO vs)(u:D.agg [aO vs,ad x 1,ad x 2,ad x 3,ad x 4,ad x 5,ad x 6,ad x 7]=x)(A:gY vs)(F:100000<n)(ah:vs.length<=100)(z:∀v∈vs,iZ v)(G:eM vs<=4096)(o:stM vs=((eM vs:Int),true)):Ee n [x,aa 4096]=some (bA (gi vs [[]])):=by
 have y:=alq B e n A ah oZ;rw[o]at y;have j:decide (((eM vs:Nat):Int)>4096)=false:=xax oZ;have ag:=ch (f:=zB n) vs (λi (q:mX)=>[aa (i:Int),aO vs,ad x 1,ad x 2,ad x 3,ad x 4,ad x 5,ad x 6,ad x 7,bA q]) (λr q=>(.inl [bA (gi r q)]:lZ⊕D)) (λi q=>q.length*eM (vs.drop i)<=4096/\∀s∈q,s.length=i) ?_ ?_ n 0 [[]] ⟨by simpa using G,by simp⟩ oZ (xah _)
 .have C:(aa ((0:Nat):Int))=aa 0:=rfl;have g:D.aw 1 [[D.aw 1 ([]:mW)]]=bA [[]]:=rfl;have K:c8 (D.aw 1 ([]:mW))=true:=rfl;rw[C,xak]at ag;simp only[Ee,Q0,go_sem,B,e,u,y,j,K,g,ag]
 .intro q L;simp only[zB,go_sem,yF ((vs.length:Int)<vs.length),gi]
 rintro i v q a ag ⟨ab,ae⟩;have k:=z v (xad a);have E:vs.drop i=v::vs.drop (i+1):=by obtain⟨l,rfl⟩:=lV.1 a;exact xaV l
 have m:=L5 (vs.drop i) λw J=>z w (xbq J);have H:q.length<=4096:=xbJ (Nat.le_mul_of_pos_right _ m) ab;have b:=alu x vs n A F i v a k q (λs aj=>by rw[ae s aj];omega) oZ;have d:=yT ((i:Int)<(vs.length:Int));have a2:aR false 1 2 v.cells=some (aa v.lo):=rfl;have aG:aR false 1 1 v.cells=some (aE v.bool):=rfl;have g:D.aw 1 ([]:mW)=bA []:=rfl;left;refine⟨q.flatMap (hc v),?_,rfl,?_,?_⟩
 .cases h:v.bool with
  |true=>
   have c:ej v=0:=by simp[ej,h]
   rw[c]at b;simp only[zB,go_sem,d,eS a,a2,aG,h,g,b,bk i]
  |false=>
   have c:ej v=v.lo:=by simp[ej,h]
   rw[c]at b;simp only[zB,go_sem,d,eS a,a2,aG,h,g,b,bk i]
 .rw[GV];rw[E,eM]at ab;rw[Nat.mul_assoc];exact ab
 intro t I;obtain⟨s,aj,p⟩:=List.mem_flatMap.1 I;rw[Wj p,ae s aj]
end
def alx{l:List V}{s:lY}(h:eb l s){v:V}{x:Int}(c:if v.bool then x=0\/x=1 else v.lo<=x/\x<=v.ag):eb (l++[v]) (s++[x]):=by
 refine⟨by simp[h.1],λi w y a b=>?_⟩;rcases Nat.lt_trichotomy i l.length with ag|ag|ag
 .rw[xap ag]at a;rw[xap (by rw[h.1];exact ag)]at b;exact h.2 i w y a b
 .subst ag;rw[xas (xaR _)]at a;rw[xas (by rw[h.1];exact xaR _)]at b;simp[h.1]at a b;subst a;subst b;exact c
 rw[xaH uZ]at a;cases a
def aly{v:V}{j:Nat}(a:j<v.span.toNat)(c:iZ v):if v.bool then(ej v+(j:Int)=0\/ej v+(j:Int)=1)else v.lo<=ej v+(j:Int)/\ej v+(j:Int)<=v.ag:=by
 have g2:=c.2.1;unfold V.span at a g2;unfold ej;cases b:v.bool with
 |true=>rw[b]at a g2;simp only[xaD]at a⊢;omega
 |false=>
  rw[b]at a g2;simp only[xaq,xaG]at a g2⊢;split at a;.simp at a
  split at a;.omega
  rename_i ab ae;rw[xab ab,xab ae]at g2;omega
def Wk:∀(r pre:List V)(out:mX),(∀v∈r,iZ v)->(∀s∈out,eb pre s)->∀s∈gi r out,eb (pre++r) s
 |[],pre,out,_,h,s,aj=>by rw[xat];exact h s aj
 |v::r,pre,out,b,h,s,aj=>by
  rw[gi]at aj;have:=Wk r (pre++[v]) (out.flatMap (hc v)) (λw f=>b w (by simp[f])) (λt e=>?_) s aj
  .rw[xaL]at this;exact this
  obtain⟨q,d,a⟩:=List.mem_flatMap.1 e;simp only[hc,xaK,xbU]at a;obtain⟨j,c,rfl⟩:=a;exact alx (h q d) (aly c (b v sZ))
def alz{l:List V}(a:∀v∈l,iZ v):∀s∈gi l [[]],eb l s:=by have:=Wk l [] [[]] a (λs aj=>by simp at aj;subst aj;exact⟨rfl,λi v x b=>by simp at b⟩);simpa using this
def alA{l:List V}(h:(hY l).2=0):∀i v,l[i]?=some v->uk (l.take i) v=0:=by intro i v c;have b:=(lV.1 c).1;unfold hY at h;cases a:(List.range l.length).find? (λi=>gF l i !=0)with|none=>have:=List.find?_eq_none.1 a i (by simp;exact b);unfold gF at this;rw[c]at this;simpa using this|some j=>rw[a]at h;have:=List.find?_some a;simp only at h;rw[h]at this;cases this
def Wl{l:List V}(h:(hY l).2=0):∀v∈l,iZ v:=by
 intro v d;obtain⟨i,ag⟩:=xaJ.1 d;have ak:=alA h i v ag;unfold uk at ak;split at ak
 .cases ak
 split at ak;.cases ak
 split at ak;.cases ak
 split at ak;.cases ak
 rename_i ab ae ai b;unfold iZ ej V.span;cases c:v.bool with
 |true=>simp
 |false=>
  rw[c]at b;simp only[xcc,xbm,xbk,xaC,not_or,pe]at b;obtain⟨⟨g1,g2,g3⟩,g4⟩:=b;have e:v.ag<=255:=by
   by_cases a:v.ag>v.lo;.rw[xac a]at g2;omega
   rw[xab a]at g2;omega
  have f:-255<=v.lo:=by
   by_cases a:v.ag<v.lo;.omega
   rw[xab a]at g3;omega
  rw[wrap64 _ oZ oZ]at g4;simp only[xaq,xaG,xab g1,xac (oZ:v.ag-v.lo<1073741824)];omega
def lG(s:lY):D:=if s=[]then cg else bY s
def ga(l:mX):D:= .aw 1 (l.map λs=>[lG s])
def GX(l:mX):(aF (ga l)).length=l.length:=by simp[ga]
def alB{l:mX}{j:Nat}{s:lY}(h:l[j]?=some s):(aF (ga l))[j]?=some [lG s]:=by simp[ga,h]
def alC{s:lY}{x:Int}:lG (s++[x])=bY (s++[x]):=by unfold lG;rw[xab sZ]
def alD(l:mX)(s:lY)(x:Int):D.aw 1 (aF (ga l)++[[bY (s++[x])]])=ga (l++[s++[x]]):=by rw[<-alC];simp[ga]
theorem rJ(l:mX):D.aw 1 (aF (ga l))=ga l:=rfl
def alE(n:Nat)(s:lY)(aj:s.length<=1000000):Aw n [lG s]=some [bY s]:=by
 unfold lG;by_cases h:s=[];.rw[xac h];subst h;rfl
 rw[xab h];have ab:Cq .eql (bY s) (D.val (.slice none 0 0))=some (aE false):=by cases s with|nil=>exact absurd rfl h|cons a r=>rfl
 have ae:b1 (([]:mW).length+(s.map λ(x:Int)=>[aa x]).length) 8=true:=by
  have e:([]:mW).length+(s.map λ(x:Int)=>[aa x]).length=s.length:=sZ
  rw[e];exact eB
 have ai:(decide (True\/(s.map λ(x:Int)=>[aa x])=[])&&decide (0<1))=true:=sZ
 have b:((1:Nat)=1)=True:=eq_self 1;have c:D.aw 1 (([]:mW)++s.map λ(x:Int)=>[aa x])=bY s:=rfl;simp only[Aw,go_sem,ab,Wi,ae,ai,c]
section
variable(vs:List V)(n:Nat)
def alF(F:100000<n)(v:V)(y:iZ v)(a b c d:D)(k:Nat)(s:lY)(C:s.length<=200)(nx out:mX)(A:nx.length<=400000):aS (Ax n) n [aa (ej v),lG s,a,b,c,d,aa (k:Int),aa v.span,aa 0,ad v.d 0,ad v.d 1,ad v.d 2,ad v.d 3,ga nx,ga out]=some (.inl [aa (ej v),a,b,c,d,aa (k:Int),ad v.d 0,ad v.d 1,ad v.d 2,ad v.d 3,ga (nx++hc v s),ga out]):=by
 obtain⟨g1,g2,g3,g4⟩:=y;have o:v.span=(v.span.toNat:Int):=oZ
 have m:=alE n s oZ;have ag:=ch (f:=Ax n) (List.range v.span.toNat) (λj (q:mX)=>[aa (ej v),lG s,a,b,c,d,aa (k:Int),aa v.span,aa (j:Int),ad v.d 0,ad v.d 1,ad v.d 2,ad v.d 3,ga q,ga out]) (λr q=>(.inl [aa (ej v),a,b,c,d,aa (k:Int),ad v.d 0,ad v.d 1,ad v.d 2,ad v.d 3,ga (q++r.map λ(j:Nat)=>s++[ej v+(j:Int)]),ga out]:lZ⊕(lZ⊕(lZ⊕(lZ⊕(lZ⊕(lZ⊕(lZ⊕D)))))))) (λj q=>q.length<=400000+j) ?_ ?_ n 0 nx oZ uZ (xah _)
 .exact ag
 .intro q B;have g:decide (((List.range v.span.toNat).length:Int)<v.span)=false:=xax (by rw[xbg];omega);simp only[Ax,go_sem,g,rJ,xbd,xat]
 intro j e q w z B;rw[xbg]at z;have l:e=j:=by have:=(lV.1 w).2;simpa using this.symm
 subst l;have g:decide ((e:Int)<v.span)=true:=xao oZ;have h:aV false .add (aa (ej v)) (aa (e:Int))=some (aa (ej v+(e:Int))):=dx oZ oZ;have df:b1 (s.length+1) 8=true:=eB;have E:b1 (q.length+1) 24=true:=eB;have p:∀x:D,bI [x] 0=x:=λ_=>rfl;have u:(aF (bY s)).length=s.length:=by simp[bY]
 have t:D.aw 1 (aF (bY s)++[[aa (ej v+(e:Int))]])=bY (s++[ej v+(e:Int)]):=by simp[bY]
 left;refine⟨q++[s++[ej v+(e:Int)]],?_,by simp,by simp;omega⟩;simp only[Ax,go_sem,g,m,h,p,u,xal,xaA,df,t,GX,E,uL (bt:=false) (i:=e) oZ,alD,rJ]
def alG(t:100000<n)(v:V)(ab:j3 v.lo)(ae:j3 v.ag)(m:iZ v)(a b c:D)(out:mX)(k:∀s∈out,s.length<=200)(u:out.length<=5000):aS (Ay n) n [aa (ej v),a,b,c,aa out.length,aa 0,ad v.d 0,ad v.d 1,ad v.d 2,ad v.d 3,ga [],ga out]=some (.inl [a,b,c,ga (out.flatMap (hc v))]):=by
 have l:=LB n v ab ae;have ag:=ch (f:=Ay n) out (λj (q:mX)=>[aa (ej v),a,b,c,aa out.length,aa (j:Int),ad v.d 0,ad v.d 1,ad v.d 2,ad v.d 3,ga q,ga out]) (λr q=>(.inl [a,b,c,ga (q++r.flatMap (hc v))]:lZ⊕(lZ⊕(lZ⊕(lZ⊕D))))) (λj q=>q.length<=64*j) ?_ ?_ n 0 [] sZ oZ (xah _)
 .exact ag
 .intro q w;simp only[Ay,go_sem,yF ((out.length:Int)<out.length),rJ,List.flatMap_nil,xat]
 intro j s q aj p w;have h:=yT ((j:Int)<(out.length:Int));have i:cI out.length (aa (j:Int))=some j:=by rw[jI,xac p]
 have e:=alF n t v m a b c (aa out.length) j s (k s (xad aj)) q out oZ;have g:aR false 1 0 [lG s]=some (lG s):=rfl;have o:(hc v s).length<=64:=by have:=m.2.1;simp only[hc,xaU,xbg];omega
 left;refine⟨q++hc v s,?_,by simp[List.flatMap_cons],by simp;omega⟩;simp only[Ay,go_sem,h,GX,i,alB aj,g,l,rJ,e,bk j]
def alH(C:gY vs)(y:100000<n)(ah:vs.length<=100)(p:∀v∈vs,iZ v)(z:eM vs<=4096):E5 n [aO vs]=some (ga (gi vs [[]])):=by
 have ag:=ch (f:=Az n) vs (λi (q:mX)=>[aO vs,aa vs.length,aa (i:Int),ga q]) (λr q=>(.inl [ga (gi r q)]:lZ⊕D)) (λi q=>q.length*eM (vs.drop i)<=4096/\∀s∈q,s.length=i) ?_ ?_ n 0 [[]] ⟨by simpa using z,by simp⟩ oZ (xah _);.have u:(aa ((0:Nat):Int))=aa 0:=rfl;have j:D.aw 1 [[(D.val (.slice none 0 0))]]=ga [[]]:=rfl;rw[u,xak]at ag;simp only[E5,RE,go_sem,j,ag,rJ]
 .intro q F;simp only[Az,go_sem,yF ((vs.length:Int)<vs.length),rJ,gi]
 rintro i v q b ag ⟨ab,ae⟩;have c:=xad b;have k:=p v c;obtain⟨i1,i2,_⟩:=C.2 v c;have x:vs.drop i=v::vs.drop (i+1):=by obtain⟨l,rfl⟩:=lV.1 b;exact xaV l
 have m:=L5 (vs.drop i) λw E=>p w (xbq E);have A:q.length<=4096:=xbJ (Nat.le_mul_of_pos_right _ m) ab;have a:=alG n y v i1 i2 k (aO vs) (aa vs.length) (aa (i:Int)) q (λs aj=>by rw[ae s aj];omega) oZ;have h:=yT ((i:Int)<(vs.length:Int));have j:D.aw 1 ([]:mW)=ga []:=rfl;have c1:ad v.d 1=aE v.bool:=rfl;have c2:ad v.d 2=aa v.lo:=rfl;left;refine⟨q.flatMap (hc v),?_,rfl,?_,?_⟩
 .cases g:v.bool with
  |true=>
   have e:ej v=0:=by simp[ej,g]
   rw[e,c1,g]at a;simp only[Az,go_sem,h,eS b,V.g4,c1,g,j,rJ,GX,a,bk i]
  |false=>
   have e:ej v=v.lo:=by simp[ej,g]
   rw[e,c1,c2,g]at a;simp only[Az,go_sem,h,eS b,V.g4,c1,c2,g,j,rJ,GX,a,bk i]
 .rw[GV];rw[x,eM]at ab;rw[Nat.mul_assoc];exact ab
 intro t B;obtain⟨s,aj,o⟩:=List.mem_flatMap.1 B;rw[Wj o,ae s aj]
def Wm(s:lY):wz (lG s)=bY s:=by
 unfold lG;by_cases h:s=[];.rw[xac h];subst h;rfl
 rw[xab h];rfl
def alI(f:gY vs)(c:100000<n)(ah:vs.length<=100)(b:∀v∈vs,iZ v)(d:eM vs<=4096):AB n [aO vs]=some (bA (gi vs [[]])):=by
 have h:AA (ga (gi vs [[]]))=some (bA (gi vs [[]])):=by
  unfold AA ga;have ab:((gi vs [[]]).map λs=>[lG s]).all (λe=>(e.map wz).all D.one)=true:=by rw[xay];intro e a;obtain⟨s,_,rfl⟩:=xaK.1 a;simp only[xaw,xbd,Wm,xbc,xcf,xbA];rfl
  simp only[ab,xaD,bA,List.map_map]
  congr 2
  refine List.map_congr_left λs _=>?_;simp[Wm]
 simp only[AB,alH vs n f c ah b d,h]
end
def a8(l:lX):D:= .aw 1 (l.map λ(k:Nat)=>[aa (k:Int)])
def bw(l:mZ):D:= .aw 1 (l.map λs=>[a8 s])
def bZ(l:mY):D:= .aw 1 (l.map λs=>[aI s])
def fa(p:lY->Bool):Nat->mX->lX
 |_,[]=>[]|i,s::r=>if p s=true then i::fa p (i+1) r else fa p (i+1) r
noncomputable def b4(m:bG):mX:=(gi m.vars [[]]).filter (hR m)
noncomputable def gP(m:bG)(s:lY):lX:=fa (iY m s) 0 (b4 m)
noncomputable def hS(m:bG):lX:=fa (mo m) 0 (b4 m)
noncomputable def kh(m:bG):D:= .agg [bA (b4 m),bw ((b4 m).map (gP m)),a8 (hS m),bZ ((b4 m).map (e2 m))]
def Bw(l:lX):(aF (a8 l)).length=l.length:=by simp[a8]
attribute [go_sem] Bw
def Bx(l:mZ):(aF (bw l)).length=l.length:=by simp[bw]
def GY(l:mY):(aF (bZ l)).length=l.length:=by simp[bZ]
def alJ(l:lW):(aF (aI l)).length=l.length:=by simp[aI]
attribute [go_sem] alJ
theorem alK(l:lX):D.aw 1 (aF (a8 l))=a8 l:=rfl
attribute [go_sem] alK
theorem alL(l:mZ):D.aw 1 (aF (bw l))=bw l:=rfl
attribute [go_sem] alL
theorem alM(l:mY):D.aw 1 (aF (bZ l))=bZ l:=rfl
attribute [go_sem] alM
theorem alN(l:lW):D.aw 1 (aF (aI l))=aI l:=rfl
attribute [go_sem] alN
def alO(l:lX)(k:Nat):D.aw 1 (aF (a8 l)++[[aa (k:Int)]])=a8 (l++[k]):=by simp[a8]
attribute [go_sem] alO
def alP(l:mZ)(k:lX):D.aw 1 (aF (bw l)++[[a8 k]])=bw (l++[k]):=by simp[bw]
attribute [go_sem] alP
def GZ(l:mY)(k:lW):D.aw 1 (aF (bZ l)++[[aI k]])=bZ (l++[k]):=by simp[bZ]
def alQ(l:lW)(k:Bool):D.aw 1 (aF (aI l)++[[aE k]])=aI (l++[k]):=by simp[aI]
theorem Wn(l:lW):c8 (aI l)=true:=rfl
def mr{l:mX}{j:Nat}{s:lY}(h:l[j]?=some s):bc 1 (bA l) (aa (j:Int))=some [bY s]:=by obtain⟨a,rfl⟩:=lV.1 h;simp[bA,a]
def alR(l:mX):dL (bA l)=some (aa l.length):=by simp[bA]
attribute [go_sem] alR
def Wo{p:lY->Bool}:∀(l:mX) (i:Nat),∀k∈fa p i l,i<=k/\k<i+l.length/\∃s,l[k-i]?=some s/\p s=true
 |[],i,k,h=>by simp[fa]at h
 |s::r,i,k,h=>by
  unfold fa at h;have rc:k∈fa p (i+1) r->i<=k/\k<i+(s::r).length/\∃s',(s::r)[k-i]?=some s'/\p s'=true:=by intro h;obtain⟨ab,ae,s',ai,a⟩:=Wo r (i+1) k h;refine⟨by omega,by simp;omega,s',?_,a⟩;rw[show k-i=(k-(i+1))+1 by omega];simpa using ai
  split at h
  .rename_i b;rcases xam.1 h with rfl|h
   .exact⟨by omega,by simp,s,by simp,b⟩
   exact rc h
  exact rc h
section
variable{m:bG}(h:rE m)(n:Nat)(bm:13306000000<n)
include h bm
theorem alS(A:mX)(k:∀s∈A,eb m.vars s)(ah:A.length<=5000):aS (wC n) n [bA A,aa A.length,aa 0,cg,cg,cg,aO m.vars,cg,an (m.bf.map (bN m.ao)),an (m.bg.map (bN m.ao)),ay (m.next.map (eu m.ao)),an (m.trans.map (bN m.ao)),an (m.ba.map (bN m.ao)),bj (m.bb.map (fZ m.ao)),bA []]=some (.inl [cg,cg,cg,aO m.vars,cg,an (m.bf.map (bN m.ao)),an (m.bg.map (bN m.ao)),ay (m.next.map (eu m.ao)),an (m.trans.map (bN m.ao)),an (m.ba.map (bN m.ao)),bj (m.bb.map (fZ m.ao)),bA (A.filter (hR m))]):=by
 have l:=h.iD.b.2.1;have ag:=ch (f:=wC n) A (λi (p:mX)=>[bA A,aa A.length,aa (i:Int),cg,cg,cg,aO m.vars,cg,an (m.bf.map (bN m.ao)),an (m.bg.map (bN m.ao)),ay (m.next.map (eu m.ao)),an (m.trans.map (bN m.ao)),an (m.ba.map (bN m.ao)),bj (m.bb.map (fZ m.ao)),bA p]) (λr p=>(.inl [cg,cg,cg,aO m.vars,cg,an (m.bf.map (bN m.ao)),an (m.bg.map (bN m.ao)),ay (m.next.map (eu m.ao)),an (m.trans.map (bN m.ao)),an (m.ba.map (bN m.ao)),bj (m.bb.map (fZ m.ao)),bA (p++r.filter (hR m))]:lZ⊕D)) (λi p=>p.length<=i) ?_ ?_ n 0 [] sZ oZ (xah _)
 .exact ag
 .intro p _;simp only[wC,go_sem,yF ((A.length:Int)<A.length),List.filter_nil,xat]
 intro i s p aj ag o;have j:=k s (xad aj);have a:=L3 h.gZ h.eg j (nx:=false) (nn:=[]) sZ (λ_=>rfl) (bn:=true) n bm (L:=m.bg) h.nF l;rw[w8]at a;have g:hR m s=m.bg.all λt=>eT m.vars (cJ m.ao t).1 s []:=by unfold hR;rw[LW.2 j,xbm]
 rw[<-g]at a;have c:=yT ((i:Int)<(A.length:Int));have e:b1 (p.length+1) 24=true:=eB;left;cases d:hR m s with|true=>rw[d]at a;refine⟨p++[s],?_,by rw[List.filter_cons,d];simp,by simp;omega⟩;simp only[wC,go_sem,c,mr aj,a,GU,oT,xal,xaA,e,L4,bk i]|false=>rw[d]at a;refine⟨p,?_,by rw[List.filter_cons,d];simp,by omega⟩;simp only[wC,go_sem,c,mr aj,a,bk i]
theorem Wp{s:lY}(aj:eb m.vars s)(a b c d e f:D)(j:∀x,x=c\/x=d\/x=e\/x=f->D.aw 1 (aF x)=x):aS (AL n) n [bY s,a,b,an (m.ba.map (bN m.ao)),aa m.ba.length,aa 0,aO m.vars,cg,an (m.bf.map (bN m.ao)),an (m.bg.map (bN m.ao)),ay (m.next.map (eu m.ao)),an (m.trans.map (bN m.ao)),an (m.ba.map (bN m.ao)),bj (m.bb.map (fZ m.ao)),aI [],c,d,e,f]=some (.inl [bY s,a,b,aO m.vars,cg,an (m.bf.map (bN m.ao)),an (m.bg.map (bN m.ao)),ay (m.next.map (eu m.ao)),an (m.trans.map (bN m.ao)),an (m.ba.map (bN m.ao)),bj (m.bb.map (fZ m.ao)),aI (e2 m s),c,d,e,f]):=by
 have B:=h.iD.b.2.2.2.2.1;have q:=j c (.inl rfl);have u:=j d (.inr (.inl rfl));have g:=j e (.inr (.inr (.inl rfl)));have w:=j f (.inr (.inr (.inr rfl)))
 have ag:=ch (f:=AL n) m.ba (λi (p:lW)=>[bY s,a,b,an (m.ba.map (bN m.ao)),aa m.ba.length,aa (i:Int),aO m.vars,cg,an (m.bf.map (bN m.ao)),an (m.bg.map (bN m.ao)),ay (m.next.map (eu m.ao)),an (m.trans.map (bN m.ao)),an (m.ba.map (bN m.ao)),bj (m.bb.map (fZ m.ao)),aI p,c,d,e,f]) (λr p=>(.inl [bY s,a,b,aO m.vars,cg,an (m.bf.map (bN m.ao)),an (m.bg.map (bN m.ao)),ay (m.next.map (eu m.ao)),an (m.trans.map (bN m.ao)),an (m.ba.map (bN m.ao)),bj (m.bb.map (fZ m.ao)),aI (p++r.map λt=>eT m.vars (cJ m.ao t).1 s []),c,d,e,f]:lZ⊕(lZ⊕(lZ⊕(lZ⊕D))))) (λi p=>p.length=i) ?_ ?_ n 0 [] rfl oZ (xah _);.exact ag
 .intro p _;simp only[AL,go_sem,yF ((m.ba.length:Int)<m.ba.length),xbd,xat,q,u,g,w]
 intro i t p y ag z;have A:(m.ba.map (bN m.ao))[i]?=some (bN m.ao t):=by rw[xag,y];rfl
 have o:=Wf h.gZ h.eg aj (nx:=false) (nn:=[]) sZ (λ_=>rfl) (bn:=true) n bm (h.f t (xad y));rw[w8]at o;have k:=yT ((i:Int)<(m.ba.length:Int));have l:b1 (p.length+1) 1=true:=eB;left;refine⟨p++[eT m.vars (cJ m.ao t).1 s []],?_,by simp,by simp[z]⟩;simp only[AL,go_sem,k,LV A,T.rm,T.tB,o,xal,xaA,l,alQ,q,u,g,w,bk i]
theorem Wq(S:mX)(I:∀s∈S,hR m s=true)(ah:S.length<=5000){s:lY}(aj:hR m s=true)(a b c d e:D)(C:∀x,x=c\/x=d\/x=e->D.aw 1 (aF x)=x):aS (wD n) n [bY s,hv (lb m s),aE true,a,b,aa S.length,aa 0,aO m.vars,cg,an (m.bf.map (bN m.ao)),an (m.bg.map (bN m.ao)),ay (m.next.map (eu m.ao)),an (m.trans.map (bN m.ao)),an (m.ba.map (bN m.ao)),bj (m.bb.map (fZ m.ao)),a8 [],bA S,c,d,e]=some (.inl [a,b,aO m.vars,cg,an (m.bf.map (bN m.ao)),an (m.bg.map (bN m.ao)),ay (m.next.map (eu m.ao)),an (m.trans.map (bN m.ao)),an (m.ba.map (bN m.ao)),bj (m.bb.map (fZ m.ao)),a8 (fa (iY m s) 0 S),bA S,c,d,e]):=by
 have A:=C c (.inl rfl);have B:=C d (.inr (.inl rfl));have j:=C e (.inr (.inr rfl))
 have J:=h.iD.b.2.2.2.1;have ag:=ch (f:=wD n) S (λi (p:Nat×lX)=>[bY s,hv (lb m s),aE true,a,b,aa S.length,aa (i:Int),aO m.vars,cg,an (m.bf.map (bN m.ao)),an (m.bg.map (bN m.ao)),ay (m.next.map (eu m.ao)),an (m.trans.map (bN m.ao)),an (m.ba.map (bN m.ao)),bj (m.bb.map (fZ m.ao)),a8 p.2,bA S,c,d,e]) (λr p=>(.inl [a,b,aO m.vars,cg,an (m.bf.map (bN m.ao)),an (m.bg.map (bN m.ao)),ay (m.next.map (eu m.ao)),an (m.trans.map (bN m.ao)),an (m.ba.map (bN m.ao)),bj (m.bb.map (fZ m.ao)),a8 (p.2++fa (iY m s) p.1 r),bA S,c,d,e]:lZ⊕(lZ⊕(lZ⊕(lZ⊕D))))) (λi p=>p.1=i/\p.2.length<=i) ?_ ?_ n 0 (0,[]) sZ oZ (xah _)
 .exact ag
 .intro p _;simp only[wD,go_sem,yF ((S.length:Int)<S.length),A,B,j,fa,xat]
 rintro i t ⟨q,p⟩ F ag ⟨rfl,y⟩;have w:=I t (xad F);have H:=mq w;have z:=L3 h.gZ h.eg (mq aj) (nx:=true) (nn:=t) (λ_=>H) sZ (bn:=false) n bm (L:=m.trans) h.t J;rw[Uz]at z;have G:=alp h n bm (s:=s) H;have g:iY m s t=(m.next.all (k9 m s t)&&m.trans.all λx=>eT m.vars (cJ m.ao x).1 s t):=by unfold iY;rw[aj,w,xbm,xbm]
 have o:=yT ((q:Int)<(S.length:Int));have u:cI S.length (aa (q:Int))=some q:=j7 ag;have E:b1 (p.length+1) 8=true:=sm (by have:=y;simp only at this;omega) (by have:=y;simp only at this;omega);have l:∀x,(aE x).flat=true:=λ_=>rfl;left;cases k:iY m s t with|true=>rw[g]at k;refine⟨(q+1,p++[q]),?_,by rw[fa,xac (by rw[g];exact k)];simp,rfl,by simp only at y⊢;simp;omega⟩;simp only[wD,go_sem,o,oT,u,Bv F,GU,G,l,rB,p8,z,k,Bool.not_not,xal,xaA,E,A,B,j,bk q]|false=>rw[g]at k;refine⟨(q+1,p),?_,by rw[fa,xab (by rw[g,k];simp)],rfl,by simp only at y⊢;omega⟩;simp only[wD,go_sem,o,oT,u,Bv F,GU,G,l,rB,p8,z,k,Bool.not_not,A,B,j,bk q]
theorem alT(S:mX)(z:∀s∈S,hR m s=true)(ah:S.length<=5000):aS (wE n) n [aa S.length,aa 0,aO m.vars,cg,an (m.bf.map (bN m.ao)),an (m.bg.map (bN m.ao)),ay (m.next.map (eu m.ao)),an (m.trans.map (bN m.ao)),an (m.ba.map (bN m.ao)),bj (m.bb.map (fZ m.ao)),bA S,bw [],a8 [],bZ []]=some (.inl [bA S,bw (S.map λs=>fa (iY m s) 0 S),a8 (fa (mo m) 0 S),bZ (S.map (e2 m))]):=by
 have ag:=ch (f:=wE n) S (λi (p:Nat×mZ×lX×mY)=>[aa S.length,aa (i:Int),aO m.vars,cg,an (m.bf.map (bN m.ao)),an (m.bg.map (bN m.ao)),ay (m.next.map (eu m.ao)),an (m.trans.map (bN m.ao)),an (m.ba.map (bN m.ao)),bj (m.bb.map (fZ m.ao)),bA S,bw p.2.1,a8 p.2.2.1,bZ p.2.2.2]) (λr p=>(.inl [bA S,bw (p.2.1++r.map λs=>fa (iY m s) 0 S),a8 (p.2.2.1++fa (mo m) p.1 r),bZ (p.2.2.2++r.map (e2 m))]:lZ⊕D)) (λi p=>p.1=i/\p.2.1.length=i/\p.2.2.1.length<=i/\p.2.2.2.length=i) ?_ ?_ n 0 (0,[],[],[]) sZ oZ (xah _);.exact ag
 .intro p _;simp only[wE,go_sem,yF ((S.length:Int)<S.length),fa,xbd,xat]
 rintro i s ⟨q,nx,a,g⟩ aj ag ⟨rfl,ab,ae,ai⟩;simp only at ab ae ai;have d:=z s (xad aj);have u:=mq d;have k:=L3 h.gZ h.eg u (nx:=false) (nn:=[]) sZ (λ_=>rfl) (bn:=true) n bm (L:=m.bf) h.i h.iD.b.1;rw[w8]at k;have A:mo m s=m.bf.all λt=>eT m.vars (cJ m.ao t).1 s []:=by unfold mo;rw[d,xbm]
 rw[<-A]at k;have l:=yT ((q:Int)<(S.length:Int));have o:cI S.length (aa (q:Int))=some q:=j7 ag;have c3:b1 (a.length+1) 8=true:=eB;have df:b1 (g.length+1) 24=true:=eB;have F:b1 (nx.length+1) 24=true:=eB;have e:dL (an (m.ba.map (bN m.ao)))=some (aa m.ba.length):=by rw[Ba,xaU]
 have C:=alo h n bm u;have B:D.aw 1 ([]:mW)=aI []:=rfl;have E:∀x,(aE x).flat=true:=λ_=>rfl;left;cases w:mo m s with
 |true=>rw[w]at k;have j:=Wp h n bm u (aa S.length) (aa (q:Int)) (bA S) (bw nx) (a8 (a++[q])) (bZ g) (by rintro x (rfl|rfl|rfl|rfl)<;>rfl);have c:=Wq h n bm S z ah d (aa S.length) (aa (q:Int)) (bw nx) (a8 (a++[q])) (bZ (g++[e2 m s])) (by rintro x (rfl|rfl|rfl)<;>rfl);have y:aI []=a8 []:=rfl;rw[<-y]at c;refine⟨(q+1,nx++[fa (iY m s) 0 S],a++[q],g++[e2 m s]),?_,by rw[fa,xac w];simp,rfl,by simp[ab],by simp only;simp;omega,by simp[ai]⟩;simp only[wE,go_sem,l,oT,o,Bv aj,k,xal,xaA,c3,e,B,j,GY,df,GZ,C,c,Bx,F,bk q]
 |false=>rw[w]at k;have j:=Wp h n bm u (aa S.length) (aa (q:Int)) (bA S) (bw nx) (a8 a) (bZ g) (by rintro x (rfl|rfl|rfl|rfl)<;>rfl);have c:=Wq h n bm S z ah d (aa S.length) (aa (q:Int)) (bw nx) (a8 a) (bZ (g++[e2 m s])) (by rintro x (rfl|rfl|rfl)<;>rfl);have y:aI []=a8 []:=rfl;rw[<-y]at c;refine⟨(q+1,nx++[fa (iY m s) 0 S],a,g++[e2 m s]),?_,by rw[fa,xab (by rw[w];simp)];simp,rfl,by simp[ab],by simp only;omega,by simp[ai]⟩;simp only[wE,go_sem,l,oT,o,Bv aj,k,e,B,j,GY,xal,xaA,df,GZ,C,c,Bx,F,bk q]
theorem alU(k:∀v∈m.vars,iZ v)(l:eM m.vars<=4096)(i:stM m.vars=((eM m.vars:Int),true)){q:D}(z:cz 2 q=true)(y:k2 n [m.d]=some (.aB [q,aa 0])):s5 n [m.d]=some (.aB [kh m,aa 0]):=by
 have u:=alI m.vars n h.gZ oZ h.eg k l;have j:=ajR n m h.gZ h.eg oZ;rw[i]at j;have w:=akE h.iD n bm;have b:(gi m.vars [[]]).length<=4096:=by rw[GW];simpa using l
 have c:=alS h n bm (gi m.vars [[]]) (alz k) oZ;have A:(b4 m).length<=4096:=xbJ (List.length_filter_le _ _) b;have a:=alT h n bm (b4 m) (λs aj=>(xbL.1 aj).2) oZ;have e:decide (((eM m.vars:Nat):Int)>4096)=false:=xax oZ;have o:D.aw 1 ([]:mW)=bA []:=rfl;have p:bA []=bw []:=rfl;have r:bA []=a8 []:=rfl;have t:bA []=bZ []:=rfl;have g:jy cg=true:=rfl;have x:cz 2 (.agg [aa 0,aa 0])=true:=rfl;have f:(gi m.vars [[]]).filter (hR m)=b4 m:=rfl;rw[<-p,<-t,<-r]at a;simp only[s5,Kr,go_sem,y,z,j,e,w,x,u,o,c,f,g,oT,a];rfl
theorem alV(c:∀v∈m.vars,iZ v)(f:eM m.vars<=4096)(a:stM m.vars=((eM m.vars:Int),true)){q:D}(g:cz 2 q=true)(b:k2 n [m.d]=some (.aB [q,aa 0])):pP n [m.d]=some (.aB [kh m,aa 0]):=by have e:pP n [m.d]=s5 n [m.d]:=rfl;rw[e];exact alU h n bm c f a g b
end
def gQ{l:lX}{j k:Nat}(h:l[j]?=some k):bc 1 (a8 l) (aa (j:Int))=some [aa (k:Int)]:=by obtain⟨a,rfl⟩:=lV.1 h;simp[a8,a]
def alW(l:lX):dL (a8 l)=some (aa l.length):=by simp[a8]
attribute [go_sem] alW
def G0{l:mZ}{j:Nat}{k:lX}(h:l[j]?=some k):bc 1 (bw l) (aa (j:Int))=some [a8 k]:=by obtain⟨a,rfl⟩:=lV.1 h;simp[bw,a]
theorem alX{m:bG}:Br m (hs m):=⟨eA,cg,m.bb.map (oR m.ao),VR,.inl rfl,rfl⟩
structure lH(m:bG):Prop where
 ie:rE m
 g:∀v∈m.vars,iZ v
 p:eM m.vars<=4096
 s:stM m.vars=((eM m.vars:Int),true)
def lH.len{m:bG}(h:lH m):(b4 m).length<=4096:=xbJ (List.length_filter_le _ _) (by rw[GW];simpa using h.p)
theorem alY{m:bG}{x:D}(a:Br m x):ad x 0=aO m.vars:=by obtain⟨φ,eY,sp,_,_,rfl⟩:=a;rfl
section
variable{m:bG}(h:lH m)(n:Nat)(bm:13306000000<n)
include h bm
theorem alZ{x:D}(o:oS m x):Eh n [x]=some (bA (b4 m)):=by
 obtain⟨y,k,B⟩:=GM h.ie n bm o;have t:cz 8 x=true:=rF o;have q:cz 8 y=true:=rF (.inr k);have d:=kJ (m:=m) (.inr k);have a:=alY k;have b:=d;rw[a]at b;have z:=alw y m.vars n q a b h.ie.gZ oZ h.ie.eg h.g h.p h.s;have A:(gi m.vars [[]]).length<=4096:=by rw[GW];simpa using h.p
 have ag:=ch (f:=zG n) (gi m.vars [[]]) (λi (p:mX)=>[bA (gi m.vars [[]]),aa (i:Int),ad y 0,ad y 1,ad y 2,ad y 3,ad y 4,ad y 5,ad y 6,ad y 7,bA p]) (λr p=>(.inl [bA (p++r.filter (hR m))]:lZ⊕D)) (λi p=>p.length<=i) ?_ ?_ n 0 [] sZ oZ (xah _);.have u:(aa ((0:Nat):Int))=aa 0:=rfl;have w:D.aw 1 ([]:mW)=bA []:=rfl;rw[u,xak,xaM]at ag;simp only[Eh,Q4,go_sem,t,kJ o,B,q,d,z,w,ag];rfl
 .intro p _;simp only[zG,go_sem,yF (((gi m.vars [[]]).length:Int)<(gi m.vars [[]]).length),List.filter_nil,xat]
 intro i s p aj ag C;have e:=GN h.ie n bm k s;have c:=yT ((i:Int)<((gi m.vars [[]]).length:Int));have l:b1 (p.length+1) 24=true:=eB;left;cases j:hR m s with|true=>rw[j]at e;refine⟨p++[s],?_,by rw[List.filter_cons,j];simp,by simp;omega⟩;simp only[zG,go_sem,c,mr aj,d,e,GU,oT,xal,xaA,l,L4,bk i]|false=>rw[j]at e;refine⟨p,?_,by rw[List.filter_cons,j];simp,by omega⟩;simp only[zG,go_sem,c,mr aj,d,e,bk i]
end
def Wr(l:mX):Prop:=l.Pairwise λs t=>eP s t<0
def Wr.lt{l:mX}(h:Wr l){i j:Nat}{s t:lY}(ag:l[i]?=some s)(b:l[j]?=some t)(a:i<j):eP s t<0:=by obtain⟨ab,rfl⟩:=lV.1 ag;obtain⟨ae,rfl⟩:=lV.1 b;exact List.pairwise_iff_getElem.1 h i j ab ae a
def Ws:∀(vs:List V)(pre s:lY)(out:mX),(∀v∈vs,iZ v)->eb vs s->pre∈out->pre++s∈gi vs out
 |[],pre,s,out,_,b,h=>by have:s=[]:=List.length_eq_zero_iff.1 (by simpa using b.1);subst this;rw[xat];exact h|v::r,pre,[],out,_,b,_=>by have:=b.1;simp at this
 |v::r,pre,x::s,out,g,b,h=>by
  have a:=b.2 0 v x rfl rfl;have e:eb r s:=⟨by simpa using b.1,λi w y f k=>b.2 (i+1) w y (by simpa using f) (by simpa using k)⟩;have j:=g v sZ;have d:pre++[x]∈out.flatMap (hc v):=by
   refine List.mem_flatMap.2 ⟨pre,h,?_⟩;simp only[hc,xaK,xbU];refine⟨(x-ej v).toNat,?_,?_⟩
   .have g2:=j.2.1;have g1:=j.1;unfold V.span at g1 g2⊢;unfold ej;cases c:v.bool with
    |true=>rw[c]at a g1 g2;simp only[xaD]at a⊢;omega
    |false=>
     rw[c]at a g1 g2;simp only[xaq,xaG]at a g1 g2⊢;split at g1;.omega
     rw[xab oZ];split;.omega
     rename_i ai;rw[xab oZ,xab ai]at g2;omega
   congr 2
   unfold ej;cases c:v.bool with|true=>rw[c]at a;simp only[xaD]at a⊢;omega|false=>rw[c]at a;simp only[xaq,xaG]at a⊢;omega
  have:=Ws r (pre++[x]) s (out.flatMap (hc v)) (λw f=>g w (by simp[f])) e d;rw[gi];simpa using this
def Wt{m:bG}(h:lH m){s:lY}:s∈b4 m↔hR m s=true:=by unfold b4;rw[xbL];refine⟨λh=>h.2,λaj=>⟨?_,aj⟩⟩;have:=Ws m.vars [] s [[]] h.g (mq aj) sZ;simpa using this
def al0{m:bG}(h:lH m):∀s∈b4 m,s.length<=100:=by intro s aj;have:=(mq ((Wt h).1 aj)).1;have:=h.ie.eg;omega
def ki(b:Int):List V->Int->Bool
 |[],_=>true|v::r,a=>if a*v.span>b then false else ki b r (a*v.span)
def Wu(n:Nat)(w:200<n)(vs:List V)(t:gY vs)(ah:vs.length<=100)(p:∀v∈vs,iZ v)(b:Int)(j:1<=b)(u:b<=4096):vF n [aO vs,aa b]=some (aE (ki b vs 1)):=by
 have ag:=ch (f:=zv n) vs (λi (a:Int)=>[aO vs,aa b,aa a,aa (i:Int)]) (λr a=>(if ki b r a=true then .inl []else .inr (aE false):lZ⊕D)) (λi a=>1<=a/\a<=b) ?_ ?_ n 0 1 ⟨by omega,j⟩ oZ (xah _);.have m:(aa ((0:Nat):Int))=aa 0:=rfl;rw[m,xak]at ag;cases l:ki b vs 1 with|true=>rw[l,xac rfl]at ag;simp only[vF,J5,go_sem,ag]|false=>rw[l,xab sZ]at ag;simp only[vF,J5,go_sem,ag]
 .intro a _;simp only[zv,go_sem,yF ((vs.length:Int)<vs.length),ki,xaD]
 rintro i v a c ag ⟨k,o⟩;obtain⟨g1,g2,_,_⟩:=p v (xad c);obtain⟨i1,i2,_⟩:=t.2 v (xad c);have g:=xb n v i1 i2;have q:1<=a*v.span:=by have:=xcj k g1 oZ oZ;simpa using this
 have s:a*v.span<=4096*64:=xcj oZ g2 oZ oZ;have d:aV false .mul (aa a) (aa v.span)=some (aa (a*v.span)):=qK oZ oZ;have e:=yT ((i:Int)<(vs.length:Int));by_cases h:a*v.span>b
 .right;rw[ki,xac h,xab sZ];simp only[zv,go_sem,e,eS c,g,d,xao h]
 left;refine⟨a*v.span,?_,by rw[ki,xab h],by omega,by omega⟩;simp only[zv,go_sem,e,eS c,g,d,xax h,bk i]
def Wv{b:Int}:∀{vs:List V}{a:Int},(∀v∈vs,1<=v.span)->ki b vs a=true->a<=b->a*(eM vs:Nat)<=b
 |[],a,_,_,h=>by rw[eM];simpa using h
 |v::r,a,d,c,h=>by
  rw[ki]at c;split at c;.cases c
  rename_i g;have:=Wv (λw f=>d w (by simp[f])) c oZ;have i:=d v sZ;rw[eM];have e:v.span=(v.span.toNat:Int):=oZ
  rw[Int.natCast_mul,<-e,<-Int.mul_assoc];exact this
def L6{b N:Int}(d:b<=N):∀{vs:List V}{a:Int},ki b vs a=true->ki N vs a=true
 |[],a,_=>rfl
 |v::r,a,c=>by
  rw[ki]at c⊢;split at c;.cases c
  rename_i e;rw[xab oZ];exact L6 d c
def Ww:∀(l:List V)(a:Int),1<=a->(∀v∈l,1<=v.span)->a*(eM l:Nat)<=1073741824->iX l a=a*(eM l:Nat)
 |[],a,_,_,_=>by simp[iX,eM]
 |v::r,a,ab,ae,ai=>by
  have f:=ae v sZ;have aj:v.span=(v.span.toNat:Int):=oZ
  have i:(1:Int)<=(eM r:Nat):=by
   have:∀l:List V,(∀v∈l,1<=v.span)->(1:Int)<=(eM l:Nat):=by
    intro l
    induction l with
    |nil=>intro _;simp[eM]
    |cons w q ih=>intro b;have ab:=b w sZ;have ae:=ih λx j=>b x (by simp[j]);rw[eM,Int.natCast_mul];have:=xcj (show(1:Int)<=(w.span.toNat:Int) by omega) ae oZ oZ;simpa using this
   exact this r λw b=>ae w (by simp[b])
  have d:1<=a*v.span:=by have:=xcj ab f oZ oZ;simpa using this
  have e:a*v.span*(eM r:Nat)<=1073741824:=by rw[eM,Int.natCast_mul,<-aj,<-Int.mul_assoc]at ai;exact ai
  have g:a*v.span<=1073741824:=by have:=xcj (Int.le_refl (a*v.span)) i oZ oZ;omega
  have c:a<=1073741824:=by have:=xcj (Int.le_refl a) f oZ oZ;omega
  have h:max v.span 1=v.span:=oZ
  rw[iX,xac c,h,Ww r _ d (λw b=>ae w (by simp[b])) e,eM,Int.natCast_mul,<-aj,Int.mul_assoc]
def al1{l:List V}(b:∀v∈l,iZ v)(h:eM l<=4096):stM l=((eM l:Int),true):=by
 have c:kE l=false:=by
  unfold kE;rw[Bool.eq_false_iff,ne_eq,xbz];rintro⟨v,a,d⟩;have:=(b v a).1;have:v.span=0:=by simpa using d
  omega
 have e:=Ww l 1 oZ (λv a=>(b v a).1) oZ;rw[Int.one_mul]at e;unfold stM;rw[c,e,xab sZ,xab oZ]
def Wx(l:lX):a8 l=bY (l.map λ(k:Nat)=>(k:Int)):=by simp[a8,bY]
def al2(l:mZ):bw l=bA (l.map λs=>s.map λ(k:Nat)=>(k:Int)):=by simp[bw,bA,Wx]
def L7:∀(s t:lY),s.length=t.length->((s.zip t).all (λp=>p.1==p.2)=true↔s=t)
 |[],[],_=>by simp|[],_::_,h=>by simp at h|_::_,[],h=>by simp at h|a::s,b::t,h=>by have:=L7 s t (by simpa using h);simp only[List.zip_cons_cons,xbc,xan,this,xbQ,xbI]
def Wy(n:Nat)(s t:lY)(ah:s.length<n)(w:s.length<=1000000000)(q:t.length<=1000000000):s6 n [bY s,bY t]=some (aE (decide (s=t))):=by
 by_cases c:s.length=t.length
 .have ag:=ch (f:=AM n) (s.zip t) (λi (_:Unit)=>[bY s,bY t,aa (i:Int)]) (λr _=>(if r.all (λp=>p.1==p.2)=true then .inl []else .inr (aE false):lZ⊕D)) (λ_ _=>True) ?_ ?_ n 0 () trivial (by rw[List.length_zip];omega) (xah _)
  .have o:(aa ((0:Nat):Int))=aa 0:=rfl;have d:((s.length:Int) !=(t.length:Int))=false:=by simp[c]
   rw[o,xak]at ag;by_cases g:s=t;.rw[xac ((L7 s t c).2 g)]at ag;rw[xao g];simp only[s6,Ff,go_sem,d,ag]
   rw[xab (λh=>g ((L7 s t c).1 h))]at ag;rw[xax g];simp only[s6,Ff,go_sem,d,ag]
  .intro _ _;have e:(s.zip t).length=s.length:=by rw[List.length_zip];omega
   simp only[AM,go_sem,e,yF ((s.length:Int)<s.length),xcf,xaD]
  rintro i ⟨a,b⟩ _ dV ag _;have u:i<s.length:=by rw[List.length_zip]at ag;omega
  obtain⟨m,j⟩:s[i]?=some a/\t[i]?=some b:=by rw[List.getElem?_zip_eq_some]at dV;exact dV
  have k:=yT ((i:Int)<(s.length:Int));by_cases l:a=b;.left;subst l;refine⟨(),?_,by simp only[xbc,beq_self_eq_true,xbm],trivial⟩;simp only[AM,go_sem,k,lD m,lD j,bne_self_eq_false,bk i]
  right;have d:(a !=b)=true:=by simp[l]
  rw[xbc,xab (by simp[l])];simp only[AM,go_sem,k,lD m,lD j,d]
 have g:¬s=t:=λh=>c (by rw[h]);have d:((s.length:Int) !=(t.length:Int))=true:=by
  have:¬(s.length:Int)=(t.length:Int):=oZ
  simp[this]
 rw[xax g];simp only[s6,Ff,go_sem,d]
def Wz(n:Nat)(l:mX)(ah:l.length<n)(c:l.length<=1000000000)(aj:∀s∈l,s.length<n/\s.length<=1000000000):AN n [bA l,bA l]=some (aE true):=by
 have ag:=ch (f:=Fg n) l (λj (_:Unit)=>[bA l,bA l,aa (j:Int)]) (λ_ _=>(.inl []:lZ⊕D)) (λ_ _=>True) ?_ ?_ n 0 () trivial oZ (xah _);.have b:(aa ((0:Nat):Int))=aa 0:=rfl;rw[b]at ag;simp only[AN,RI,go_sem,bne_self_eq_false,ag]
 .intro _ _;simp only[Fg,go_sem,yF ((l.length:Int)<l.length)]
 intro j s _ h d _;obtain⟨ab,ae⟩:=aj s (xad h);have a:=Wy n s s ab ae ae;rw[xao rfl]at a;left;refine⟨(),?_,rfl,trivial⟩;simp only[Fg,go_sem,yT ((j:Int)<(l.length:Int)),mr h,a,bk j]
def al3(l:lW):dL (aI l)=some (aa l.length):=by simp[aI]
attribute [go_sem] al3
def rK{l:lW}{j:Nat}{b:Bool}(h:l[j]?=some b):bc 1 (aI l) (aa (j:Int))=some [aE b]:=by obtain⟨a,rfl⟩:=lV.1 h;simp[aI,a]
def By(n:Nat)(l:lW)(ah:l.length<n)(b:l.length<=1000000000):mg n [aI l,aI l]=some (aE true):=by
 have ag:=ch (f:=Fe n) l (λj (_:Unit)=>[aI l,aI l,aa (j:Int)]) (λ_ _=>(.inl []:lZ⊕D)) (λ_ _=>True) ?_ ?_ n 0 () trivial oZ (xah _);.have a:(aa ((0:Nat):Int))=aa 0:=rfl;rw[a]at ag;simp only[mg,RH,go_sem,bne_self_eq_false,ag]
 .intro _ _;simp only[Fe,go_sem,yF ((l.length:Int)<l.length)]
 intro j s _ h c _;left;refine⟨(),?_,rfl,trivial⟩;simp only[Fe,go_sem,yT ((j:Int)<(l.length:Int)),rK h,abU,bne_self_eq_false,bk j]
section
variable{m:bG}(h:lH m)(n:Nat)(bm:18446744073709551616<n)
include h bm
theorem al4{x:D}(E:oS m x)(i:Nat){s:lY}(aj:(b4 m)[i]?=some s)(b c d e A B C:D)(y:∀x,x=A\/x=B\/x=C->D.aw 1 (aF x)=x):aS (vO n) n [aa (i:Int),aa 0,ad x 0,ad x 1,ad x 2,ad x 3,ad x 4,ad x 5,ad x 6,ad x 7,b,c,d,e,bA (b4 m),a8 [],A,B,C]=some (.inl [aa (i:Int),ad x 0,ad x 1,ad x 2,ad x 3,ad x 4,ad x 5,ad x 6,ad x 7,b,c,d,e,bA (b4 m),a8 (fa (iY m s) 0 (b4 m)),A,B,C]):=by
 have o:=y A (.inl rfl);have u:=y B (.inr (.inl rfl));have w:=y C (.inr (.inr rfl))
 have ah:=h.len;have ag:=ch (f:=vO n) (b4 m) (λk (p:Nat×lX)=>[aa (i:Int),aa (k:Int),ad x 0,ad x 1,ad x 2,ad x 3,ad x 4,ad x 5,ad x 6,ad x 7,b,c,d,e,bA (b4 m),a8 p.2,A,B,C]) (λr p=>(.inl [aa (i:Int),ad x 0,ad x 1,ad x 2,ad x 3,ad x 4,ad x 5,ad x 6,ad x 7,b,c,d,e,bA (b4 m),a8 (p.2++fa (iY m s) p.1 r),A,B,C]:lZ⊕(lZ⊕(lZ⊕(lZ⊕D))))) (λk p=>p.1=k/\p.2.length<=k) ?_ ?_ n 0 (0,[]) ⟨rfl,by simp⟩ oZ (xah _)
 .exact ag
 .intro p _;simp only[vO,go_sem,yF (((b4 m).length:Int)<(b4 m).length),o,u,w,fa,xat]
 rintro k t ⟨q,p⟩ F H ⟨rfl,l⟩;have g:=ak5 h.ie n oZ E s t;have a:=yT ((q:Int)<((b4 m).length:Int));have z:b1 (p.length+1) 8=true:=sm (by have:=l;simp only at this;omega) (by have:=l;simp only at this;omega);have G:c8 (aa (q:Int))=true:=rfl;left;cases j:iY m s t with|true=>rw[j]at g;refine⟨(q+1,p++[q]),?_,by rw[fa,xac j];simp,rfl,by have:=l;simp only at this⊢;simp;omega⟩;simp only[vO,go_sem,a,mr aj,mr F,kJ E,g,G,xal,xaA,xav,z,o,u,w,bk q]|false=>rw[j]at g;refine⟨(q+1,p),?_,by rw[fa,xab (by rw[j];simp)],rfl,by have:=l;simp only at this⊢;omega⟩;simp only[vO,go_sem,a,mr aj,mr F,kJ E,g,o,u,w,bk q]
theorem al5{x:D}(k:oS m x)(b c d e:D):aS (vP n) n [aa 0,ad x 0,ad x 1,ad x 2,ad x 3,ad x 4,ad x 5,ad x 6,ad x 7,b,c,d,e,bA (b4 m),bw [],a8 [],bZ []]=some (.inl [b,c,d,e,bA (b4 m),bw ((b4 m).map (gP m)),a8 (hS m),bZ ((b4 m).map (e2 m))]):=by
 have ah:=h.len;have ag:=ch (f:=vP n) (b4 m) (λi (p:Nat×mZ×lX×mY)=>[aa (i:Int),ad x 0,ad x 1,ad x 2,ad x 3,ad x 4,ad x 5,ad x 6,ad x 7,b,c,d,e,bA (b4 m),bw p.2.1,a8 p.2.2.1,bZ p.2.2.2]) (λr p=>(.inl [b,c,d,e,bA (b4 m),bw (p.2.1++r.map (gP m)),a8 (p.2.2.1++fa (mo m) p.1 r),bZ (p.2.2.2++r.map (e2 m))]:lZ⊕D)) (λi p=>p.1=i/\p.2.1.length=i/\p.2.2.1.length<=i/\p.2.2.2.length=i) ?_ ?_ n 0 (0,[],[],[]) ⟨rfl,rfl,by simp,rfl⟩ oZ (xah _)
 .exact ag
 .intro p _;simp only[vP,go_sem,yF (((b4 m).length:Int)<(b4 m).length),fa,xbd,xat]
 rintro i s ⟨q,nx,a,l⟩ aj ag ⟨rfl,ab,ae,ai⟩;simp only at ab ae ai;have u:=(xbL.1 (xad aj)).2;have o:=ak3 h.ie n oZ k s;have y:=ak6 h.ie n oZ k (mq u);have j:=yT ((q:Int)<((b4 m).length:Int));have c3:b1 (a.length+1) 8=true:=eB;have df:b1 (l.length+1) 24=true:=eB;have z:b1 (nx.length+1) 24=true:=eB;have g:=al4 h n bm k q aj b c d e (bw nx) (a8 a) (bZ l) (by rintro x (rfl|rfl|rfl)<;>rfl);have w:D.aw 1 ([]:mW)=a8 []:=rfl;have A:c8 (aa (q:Int))=true:=rfl;left;cases t:mo m s with|true=>rw[t]at o;refine⟨(q+1,nx++[gP m s],a++[q],l++[e2 m s]),?_,by rw[fa,xac t];simp,rfl,by simp[ab],by simp only;simp;omega,by simp[ai]⟩;simp only[vP,go_sem,j,w,g,Bx,xal,xaA,xav,z,mr aj,kJ k,o,A,c3,y,Wn,GY,df,GZ,gP,bk q]|false=>rw[t]at o;refine⟨(q+1,nx++[gP m s],a,l++[e2 m s]),?_,by rw[fa,xab (by rw[t];simp)];simp,rfl,by simp[ab],by simp only;omega,by simp[ai]⟩;simp only[vP,go_sem,j,w,g,Bx,xal,xaA,xav,z,mr aj,kJ k,o,y,Wn,GY,df,GZ,gP,bk q]
end
theorem al6{w:Bool}{p:oX}:cE hF w p=some hF:=rfl
theorem al7(q:Int×(Int×Int)):eJ 1 (cQ q)=some (aa q.2.2):=rfl
attribute [go_sem] al7
theorem al8(q:Int×(Int×Int)):eJ 0 (cQ q)=some (.agg [aa q.1,aa q.2.1]):=rfl
attribute [go_sem] al8
theorem WA(a b:Int):cz 2 (.agg [aa a,aa b])=true:=rfl
attribute [go_sem] WA
def WB{a:Int}(h:a=0):(a !=0)=false:=by simp[h]
def L8{a:Int}(h:¬a=0):(a !=0)=true:=by simp[h]
def al9{a:Int}(h:a=0):(a==0)=true:=by simp[h]
def WC{a:Int}(h:¬a=0):(a==0)=false:=by simp[h]
theorem WD{m:bG}:cz 8 (hs m)=true/\D.agg [ad (hs m) 0,ad (hs m) 1,ad (hs m) 2,ad (hs m) 3,ad (hs m) 4,ad (hs m) 5,ad (hs m) 6,ad (hs m) 7]=hs m:=⟨rfl,rfl⟩
theorem oU.bK{m:bG}:ad (kh m) 0=bA (b4 m):=rfl
attribute [go_sem] oU.bK
theorem oU.c1{m:bG}:ad (kh m) 1=bw ((b4 m).map (gP m)):=rfl
attribute [go_sem] oU.c1
theorem oU.c2{m:bG}:ad (kh m) 2=a8 (hS m):=rfl
attribute [go_sem] oU.c2
theorem oU.b8{m:bG}:ad (kh m) 3=bZ ((b4 m).map (e2 m)):=rfl
attribute [go_sem] oU.b8
theorem oU.agg{m:bG}:cz 4 (kh m)=true:=rfl
attribute [go_sem] oU.agg
theorem oU.eta{m:bG}:D.agg [bA (b4 m),bw ((b4 m).map (gP m)),a8 (hS m),bZ ((b4 m).map (e2 m))]=kh m:=rfl
def kK:D:= .agg [cg,cg,cg,cg]
theorem L9:cz 4 kK=true:=rfl
theorem ama:D.agg [ad kK 0,ad kK 1,ad kK 2,ad kK 3]=kK:=rfl
section
variable{m:bG}(hw:oP m)(h:xt m)(n:Nat)(bm:18446744073709551616<n)
include hw h bm
theorem amb(b:¬(fX m).2.2=0):pP n [m.d]=some (.aB [kK,aa (fX m).2.2])/\vQ n [m.d]=some (.aB [kK,aa (fX m).2.2]):=by
 obtain⟨ab,ae⟩:=LZ hw h bm;have a:=L8 b;constructor
 .have e:pP n [m.d]=s5 n [m.d]:=rfl;rw[e];simp only[s5,Kr,go_sem,ab,a,kK]
 simp only[vQ,Kb,go_sem,ae,a,kK]
theorem WE(c:(fX m).2.2=0)(d:ki 64 m.vars 1=true):lH m/\eM m.vars<=64:=by
 have a:=Wl (LY c).2.1;have f:=Wv (λv e=>(a v e).1) d oZ;have b:eM m.vars<=64:=oZ
 exact⟨⟨V5 hw h bm c,a,by omega,al1 a oZ⟩,b⟩
theorem amc(f:(fX m).2.2=0)(j:ki 64 m.vars 1=true):pP n [m.d]=some (.aB [kh m,aa 0])/\vQ n [m.d]=some (.aB [kh m,aa 0]):=by
 obtain⟨G,w⟩:=WE hw h n bm f j;obtain⟨ab,ae⟩:=LZ hw h bm;have e:k2 n [m.d]=some (.aB [.agg [aa (fX m).1,aa (fX m).2.1],aa 0]):=by rw[ab];unfold cQ;rw[f]
 refine⟨alV G.ie n oZ G.g G.p G.s (WA _ _) e,?_⟩;have r:=VI G.ie.iD n oZ;have k:oS m (hs m):= .inr alX;have t:=alZ G n oZ k;have c:=al5 G n bm k cg cg cg cg;have i:=Wu n oZ m.vars G.ie.gZ (by have:=G.ie.eg;omega) G.g 4096 oZ oZ;rw[L6 oZ j]at i;have l:D.aw 1 ([]:mW)=bw []:=rfl;have o:bw []=a8 []:=rfl;have q:bw []=bZ []:=rfl;rw[<-o,<-q]at c;have u:c8 (bA (b4 m))=true:=rfl;have a2:∀a b,cz 2 (.agg [aa a,aa b])=true:=λ_ _=>rfl;simp only[vQ,Kb,go_sem,ae,WB f,i,r,(WD (m:=m)).1,(WD (m:=m)).2,t,u,l,c];rfl
end
def Ma{l:mY}{j:Nat}{b:lW}(h:l[j]?=some b):bc 1 (bZ l) (aa (j:Int))=some [aI b]:=by obtain⟨a,rfl⟩:=lV.1 h;simp[bZ,a]
def WG(l:mY):dL (bZ l)=some (aa l.length):=by simp[bZ]
attribute [go_sem] WG
def amd(n:Nat)(S:mX)(nx:mZ)(a:lX)(c:mY)(ab:S.length<=1000000)(ae:nx.length<=1000000)(ai:a.length<=1000000)(l:c.length<=1000000)(g1:∀s∈S,s.length<=1000000)(g2:∀s∈nx,s.length<=1000000)(g4:∀s∈c,s.length<=1000000)(o:18446744073709551616<n):wF n [.agg [bA S,bw nx,a8 a,bZ c],.agg [bA S,bw nx,a8 a,bZ c]]=some (aE true):=by
 have bS:=Wz n S oZ oZ λs aj=>by have:=g1 s aj;omega
 have cy:=Wz n (nx.map λs=>s.map λ(k:Nat)=>(k:Int)) uZ uZ λs aj=>by obtain⟨t,i,rfl⟩:=xaK.1 aj;have:=g2 t i;simp;omega
 rw[<-al2]at cy;have fo:=Wy n (a.map λ(k:Nat)=>(k:Int)) (a.map λ(k:Nat)=>(k:Int)) uZ uZ uZ;rw[<-Wx,xao rfl]at fo;have ag:=ch (f:=Fh n) c (λj (_:Unit)=>[aa (j:Int),bA S,bw nx,a8 a,bZ c,bA S,bw nx,a8 a,bZ c]) (λ_ _=>(.inl [bA S,bw nx,a8 a,bZ c,bA S,bw nx,a8 a,bZ c]:lZ⊕D)) (λ_ _=>True) ?_ ?_ n 0 () trivial oZ (xah _)
 .have e:(aa ((0:Nat):Int))=aa 0:=rfl;have h:cz 4 (.agg [bA S,bw nx,a8 a,bZ c])=true:=rfl;have dg:ad (.agg [bA S,bw nx,a8 a,bZ c]) 0=bA S/\ad (.agg [bA S,bw nx,a8 a,bZ c]) 1=bw nx/\ad (.agg [bA S,bw nx,a8 a,bZ c]) 2=a8 a/\ad (.agg [bA S,bw nx,a8 a,bZ c]) 3=bZ c:=⟨rfl,rfl,rfl,rfl⟩;rw[e]at ag;simp only[wF,RJ,go_sem,h,dg.1,dg.2.1,dg.2.2.1,dg.2.2.2,bne_self_eq_false,ag,bS,cy,fo,rB,p8]
 .intro _ _;simp only[Fh,go_sem,yF ((c.length:Int)<c.length)]
 intro j b _ d m _;have g:=By n b (by have:=g4 b (xad d);omega) (by have:=g4 b (xad d);omega);left;refine⟨(),?_,rfl,trivial⟩;simp only[Fh,go_sem,yT ((j:Int)<(c.length:Int)),Ma d,g,bk j]
theorem ame(n:Nat):wF (n+1) [kK,kK]=some (aE true):=rfl
def G1(p:lY->Bool):∀(l:mX) (i:Nat),(fa p i l).length<=l.length
 |[],i=>xaR _
 |s::r,i=>by
  have:=G1 p r (i+1);unfold fa;split;.simp;omega
  simp;omega
def amf{m:bG}(G:lH m)(n:Nat)(c:18446744073709551616<n):wF n [kh m,kh m]=some (aE true):=by
 have ah:=G.len;have a:=G.ie.iD.b;refine amd n (b4 m) ((b4 m).map (gP m)) (hS m) ((b4 m).map (e2 m)) oZ uZ ?_ uZ (λs aj=>by have:=al0 G s aj;omega) ?_ ?_ c
 .have:=G1 (mo m) (b4 m) 0;show(fa (mo m) 0 (b4 m)).length<=_;omega
 .intro s aj;obtain⟨t,_,rfl⟩:=xaK.1 aj;have:=G1 (iY m t) (b4 m) 0;show(fa (iY m t) 0 (b4 m)).length<=_;omega
 intro s aj;obtain⟨t,_,rfl⟩:=xaK.1 aj;have:=a.2.2.2.2.1;simp[e2];omega
structure G2(m:bG):Prop where
 t:∀t∈rG m,t.aP<=660000
 s:∀s∈m.bb,s.f.aP<=660000
def amg{m:bG}(k:oP m)(ah:Bs m)(aj:G2 m)(n:Nat)(j:18446744073709551616<n)(a:Int)(m1:1<=a)(m64:a<=64):∃b:Bool,q1 n [m.d,aa a]=some (aE b)/\(b=true->xt m/\((fX m).2.2=0->ki 64 m.vars 1=true)):=by
 obtain⟨q,r,u,w,x,y,z,A⟩:=ah;by_cases ab:m.vars.length>12;.have d1:=yT ((m.vars.length:Int)>12);exact⟨false,by simp-implicitDefEqProofs only[q1,vG,go_sem,d1,LU,p8],by simp⟩
 have d1:=yF ((m.vars.length:Int)>12);have aG:aV false .add (aa (m.ao.length:Int)) (aa (m.bf.length:Int))=some (aa ((m.ao.length:Int)+m.bf.length)):=dx oZ oZ;have a2:aV false .add (aa ((m.ao.length:Int)+m.bf.length)) (aa (m.bg.length:Int))=some (aa ((m.ao.length:Int)+m.bf.length+m.bg.length)):=dx oZ oZ;have a3:aV false .add (aa ((m.ao.length:Int)+m.bf.length+m.bg.length)) (aa (m.next.length:Int))=some (aa ((m.ao.length:Int)+m.bf.length+m.bg.length+m.next.length)):=dx oZ oZ;have a4:aV false .add (aa ((m.ao.length:Int)+m.bf.length+m.bg.length+m.next.length)) (aa (m.trans.length:Int))=some (aa ((m.ao.length:Int)+m.bf.length+m.bg.length+m.next.length+m.trans.length)):=dx oZ oZ;have a5:aV false .add (aa ((m.ao.length:Int)+m.bf.length+m.bg.length+m.next.length+m.trans.length)) (aa (m.ba.length:Int))=some (aa ((m.ao.length:Int)+m.bf.length+m.bg.length+m.next.length+m.trans.length+m.ba.length)):=dx oZ oZ;have f:aV false .add (aa ((m.ao.length:Int)+m.bf.length+m.bg.length+m.next.length+m.trans.length+m.ba.length)) (aa (m.bb.length:Int))=some (aa ((m.ao.length:Int)+m.bf.length+m.bg.length+m.next.length+m.trans.length+m.ba.length+m.bb.length)):=dx oZ oZ;by_cases ae:(m.ao.length:Int)+m.bf.length+m.bg.length+m.next.length+m.trans.length+m.ba.length+m.bb.length>40
 .have d2:=xao ae;exact⟨false,by simp-implicitDefEqProofs only[q1,vG,go_sem,d1,aG,a2,a3,a4,a5,f,d2,Bp,Bq],by simp⟩
 have d2:=xax ae;have g:xt m:=⟨by unfold VZ;omega,aj.t,aj.s⟩;have i:=(LZ k g j).2;have dg:ad (.agg [aa (fX m).1,aa (fX m).2.1]) 1=aa (fX m).2.1:=rfl;by_cases c:(fX m).2.2=0
 .have p:=Wl (LY c).2.1;have V:=V5 k g j c;have o:=Wu n oZ m.vars V.gZ oZ p a m1 oZ;refine⟨ki a m.vars 1,?_,λl=>⟨g,λ_=>L6 m64 l⟩⟩;simp-implicitDefEqProofs only[q1,vG,go_sem,d1,aG,a2,a3,a4,a5,f,d2,Bp,rB,LS,Bq,p8,i,WB c,al9 c,o]
 by_cases e:(fX m).2.1<64;.have d3:=xao e;refine⟨true,?_,λ_=>⟨g,λh=>absurd h c⟩⟩;simp-implicitDefEqProofs only[q1,vG,go_sem,d1,aG,a2,a3,a4,a5,f,d2,Bp,rB,LU,al6,Bq,p8,i,L8 c,WC c,dg,d3]
 have d3:=xax e;refine⟨false,?_,by simp⟩;simp-implicitDefEqProofs only[q1,vG,go_sem,d1,aG,a2,a3,a4,a5,f,d2,Bp,rB,LS,Bq,p8,i,L8 c,WC c,dg,d3]
end Go.Am
