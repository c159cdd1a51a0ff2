/- Laws, on data. No condition. -/
import Derived.Test.YtjonbfbkkkcjgaaGreatDoorCode
import Derived.KernelRfl
import Derived.Test.YtjonbfbkkkcjgaaGreatDoorEngD
import Derived.Test.YtjonbfbkkkcjgaaGreatDoorSs
set_option linter.all false
set_option linter.unnecessarySimpa false
namespace Go.Am
theorem ale(n:Nat):Fh (n+400) []=some (aF true):=by kernel_rfl
def rE{b S:Type}{f:lZ->Option (lZ⊕b)}(dx:S->lZ)(a:S->Nat)(Inv:S->Prop)(Q:b->Prop) (step:∀s,Inv s->(∃s',f (dx s)=some (.inl (dx s'))/\Inv s'/\a s'<a s)\/(∃r,f (dx s)=some (.inr r)/\Q r)): ∀n s,Inv s->a s<n->∃r,aR f n (dx s)=some r/\Q r
 |0,s,_,h=>absurd h (xaD _)
 |n+1,s,h,hm=>by
  rw[h7];rcases step s h with⟨s',ab,ad,ai⟩|⟨r,ab,ad⟩
  .rw[ab];exact rE dx a Inv Q step n s' ad oZ
  rw[ab];exact⟨r,rfl,ad⟩
section
variable{α:Type}
structure Part(a b:Nat)(L L9:List α):Prop where
 len:L9.length=L.length
 out:∀i,i<a\/b<=i->L9[i]?=L[i]?
 jO:∀p:α->Bool,L9.countP p=L.countP p
theorem Part.refl(a b:Nat)(L:List α):Part a b L L:=⟨rfl,λ_ _=>rfl,λ_=>rfl⟩
def Part.trans{a b:Nat}{L M N:List α}(h:Part a b L M)(c:Part a b M N):Part a b L N:=⟨c.len.trans h.len,λi ag=>(c.out i ag).trans (h.out i ag),λp=>(c.jO p).trans (h.jO p)⟩
def Part.mono{a b c b':Nat}{L M:List α}(h:Part a b L M)(d:c<=a)(e:b<=b'):Part c b' L M:=⟨h.len,λi ag=>h.out i oZ,h.jO⟩
def p6(P:α->Prop)(a b:Nat)(L:List α):Prop:=∀i x,a<=i->i<b->L[i]?=some x->P x
def p6.mono{P:α->Prop}{a b c b':Nat}{L:List α}(h:p6 P a b L)(e:a<=c)(f:b'<=b):p6 P c b' L:=λi x ab ad d=>h i x oZ oZ d
def p6.out{P:α->Prop}{a b c d:Nat}{L M:List α}(h:p6 P c d L)(e:Part a b L M)(g:d<=a\/b<=c):p6 P c d M:=λi x ab ad f=>h i x ab ad (by rw[<-e.out i oZ];exact f)
def alf{p:α->Bool}{l:List α}(h:l.countP p=0):∀x∈l,p x=false:=by intro x b;cases a:p x with|false=>rfl|true=>have:=List.countP_pos_iff.2 ⟨x,b,a⟩;omega
open Classical in
def p6.part{P:α->Prop}{a b:Nat}{L M:List α}(h:p6 P a b L)(e:Part a b L M)(ea:a<=b):p6 P a b M:=by
 intro i x ab ad n;have f:M.take a=L.take a:=by
  apply xbG;intro k;rw[xaQ,xaQ];split;.rename_i d;exact e.out k (.inl d)
  rfl
 have g:M.drop b=L.drop b:=by apply xbG;intro k;rw[xaX,xaX];exact e.out _ (.inr oZ)
 have c:∀(N:List α)(q:α->Bool),N.countP q=(N.take a).countP q+((N.drop a).take (b-a)).countP q+(N.drop b).countP q:=by
  intro N q
  conv=>lhs;rw[<-xbJ a N,List.countP_append,<-xbJ (b-a) (N.drop a),List.countP_append,List.drop_drop]
  rw[show a+(b-a)=b by omega];omega
 have j:=e.jO (λy=>!decide (P y));rw[c M,c L,f,g]at j;have ak:((L.drop a).take (b-a)).countP (λy=>!decide (P y))=0:=by
  rw[List.countP_eq_zero];intro y o;obtain⟨k,d⟩:=List.getElem?_of_mem o;rw[xaQ]at d;split at d;.rename_i l;rw[xaX]at d;simp[h (a+k) y oZ oZ d]
  cases d
 have ai:((M.drop a).take (b-a)).countP (λy=>!decide (P y))=0:=oZ
 have m:x∈(M.drop a).take (b-a):=by refine xad (i:=i-a) ?_;rw[xaQ,xac oZ,xaX,show a+(i-a)=i by omega];exact n
 have:=alf ai x m;simpa using this
def Part.mem{a b:Nat}{L M:List α}(h:Part a b L M)[DecidableEq α](x:α):x∈M↔x∈L:=by
 have:=h.jO (λy=>y==x);have e:∀N:List α,x∈N↔0<N.countP (λy=>y==x):=by
  intro N;rw[List.countP_pos_iff];constructor;.intro h;exact⟨x,h,by simp⟩
  rintro⟨y,ab,ad⟩;rw[<-eq_of_beq ad];exact ab
 rw[e,e,this]
end
section
variable(m:bH)
theorem dW.bK:ae (kz m) 0=aO m.vars:=rfl
attribute [go_sem] dW.bK
theorem dW.c1:ae (kz m) 1=cc:=rfl
attribute [go_sem] dW.c1
theorem dW.c2:ae (kz m) 2=an (m.bg.map (bO m.ao)):=rfl
attribute [go_sem] dW.c2
theorem dW.b6:ae (kz m) 3=an (m.bh.map (bO m.ao)):=rfl
attribute [go_sem] dW.b6
theorem dW.e2:ae (kz m) 4=aA (m.next.map (ey m.ao)):=rfl
attribute [go_sem] dW.e2
theorem dW.jh:ae (kz m) 5=an (m.trans.map (bO m.ao)):=rfl
attribute [go_sem] dW.jh
theorem dW.ji:ae (kz m) 6=an (m.bb.map (bO m.ao)):=rfl
attribute [go_sem] dW.ji
theorem dW.ou:ae (kz m) 7=bj (m.bc.map (gb m.ao)):=rfl
attribute [go_sem] dW.ou
theorem dW.agg:cz 8 (kz m)=true:=rfl
attribute [go_sem] dW.agg
theorem dW.eta:D.agg [aO m.vars,cc,an (m.bg.map (bO m.ao)),an (m.bh.map (bO m.ao)),aA (m.next.map (ey m.ao)),an (m.trans.map (bO m.ao)),an (m.bb.map (bO m.ao)),bj (m.bc.map (gb m.ao))]=kz m:=rfl
attribute [go_sem] dW.eta
end
section
variable{m:bH}(gy:gY m.vars)(ah:m.vars.length<=100){nx:Bool}{s nn:lY}(aj:eb m.vars s)(bq:nx=true->eb m.vars nn)(ak:nx=false->nn=[]){bn:Bool}(n:Nat)(rz:13306000000<n)
include gy ah aj bq ak rz
theorem VZ{t:Tm}(h:kA m nx t):AB n [kz m,(bO m.ao t).d,bY s,fV bn nn]=some (aF (eP m.vars (cJ m.ao t).1 s nn)):=by have a:=akM gy ah h aj bq ak (bn:=bn) n rz;have b:=akK (eP m.vars (cJ m.ao t).1 s nn);cases c:eP m.vars (cJ m.ao t).1 s nn<;>rw[c]at a b<;>simp only[AB,RD,go_sem,a,b,rv,p5]
theorem Ma{L:List Tm}(j:∀t∈L,kA m nx t)(k:L.length<=1000000):s3 n [kz m,an (L.map (bO m.ao)),bY s,fV bn nn]=some (aF (L.all λt=>eP m.vars (cJ m.ao t).1 s nn)):=by
 have h:(aa ((0:Nat):Int))=aa 0:=rfl;have b:dN (an (L.map (bO m.ao)))=some (aa L.length):=by rw[Be,xaU]
 have ag:=ch (f:=AD n) L (λi (_:Unit)=>[bY s,fV bn nn,an (L.map (bO m.ao)),aa L.length,aa (i:Int),aO m.vars,cc,an (m.bg.map (bO m.ao)),an (m.bh.map (bO m.ao)),aA (m.next.map (ey m.ao)),an (m.trans.map (bO m.ao)),an (m.bb.map (bO m.ao)),bj (m.bc.map (gb m.ao))]) (λr _=>if(r.all λt=>eP m.vars (cJ m.ao t).1 s nn)=true then(.inl []:lZ⊕D)else .inr (aF false)) (λ_ _=>True) ?_ ?_ n 0 () trivial oZ (xag _)
 .rw[h,xak]at ag;by_cases a:(L.all λt=>eP m.vars (cJ m.ao t).1 s nn)=true;.rw[xac a]at ag;simp only[s3,Ks,go_sem,b,ag,a]
  rw[xab a]at ag;simp only[s3,Ks,go_sem,b,ag,(show(L.all λt=>eP m.vars (cJ m.ao t).1 s nn)=false by simpa using a)]
 .intro _ _;simp only[AD,go_sem,yF ((L.length:Int)<L.length),xcf,xaC]
 intro i t _ e ag _;have g:(L.map (bO m.ao))[i]?=some (bO m.ao t):=by rw[xah,e];rfl
 have d:=VZ gy ah aj bq ak (bn:=bn) n rz (j t (xad e));have c:=yT ((i:Int)<(L.length:Int));cases a:eP m.vars (cJ m.ao t).1 s nn with|true=>left;rw[a]at d;exact⟨(),by simp only[AD,go_sem,c,L2 g,T.rh,T.tx,d,bl i],by rw[xbb,a,xbm],trivial⟩|false=>right;rw[a]at d;simp only[AD,go_sem,c,L2 g,T.rh,T.tx,d,xbb,a,xce]
end
noncomputable def k6(m:bH)(s:lY):List (Nat×Int):=m.next.map λd=>((c3 m.vars d.name).getD 0,(fI m.vars (cJ m.ao d.e).1 s []).1)
def hs(l:List (Nat×Int)):D:= .aw 2 (l.map λp=>[aa (p.1:Int),aa p.2])
def V0{l:List (Nat×Int)}{i:Nat}{p:Nat×Int}(h:l[i]?=some p):ba 2 (hs l) (aa (i:Int))=some [aa (p.1:Int),aa p.2]:=by obtain⟨a,rfl⟩:=lV.1 h;simp[hs,a]
def alg(l:List (Nat×Int)):dN (hs l)=some (aa l.length):=by simp[hs]
def alh(l:List (Nat×Int))(p:Nat×Int):D.aw 2 (aE (hs l)++[[aa (p.1:Int),aa p.2]])=hs (l++[p]):=by simp[hs]
theorem V1(l:List (Nat×Int)):D.aw 2 (aE (hs l))=hs l:=rfl
def ali(l:List (Nat×Int)):(aE (hs l)).length=l.length:=by simp[hs]
section
variable{m:bH}(h:rA m)(n:Nat)(bq:13306000000<n)
include h bq
theorem alj(a:ByteArray){x1:lZ}(ab:aQ false 1 0 x1=some (aD a)):wB n [aO m.vars,D.fn (.func u0) [] [.ref x1 0]]=some (aa (ei (c3 m.vars a))):=by
 have a1:wB n [aO m.vars,D.fn (.func u0) [] [.ref x1 0]]=AF n (aO m.vars) (.ref x1 0):=by simp only[wB,jH]
 have ah:=h.eg;have k:(aa ((0:Nat):Int))=aa 0:=rfl;have ag:=VD (f:=AE n) m.vars (λi=>[aO m.vars,.ref x1 0,aa m.vars.length,aa (i:Int)]) (λv=>decide (v.name=a)) ?_ ?_ n oZ
 .rw[k]at ag;rw[a1];unfold c3;cases g:m.vars.findIdx? (λv=>decide (v.name=a))with|none=>rw[g]at ag;simp only[AF,go_sem,ag,ei,ry]|some j=>rw[g]at ag;simp only[AF,go_sem,ag,ei,ry]
 .intro i v e;have l:=(lV.1 e).1;have bK:ae v.d 0=aD v.name:=rfl;have ad:E4 n [v.d,.ref x1 0]=some (aF (decide (v.name=a))):=by
   show E3 n v.d x1=_;simp only[E3,go_sem,V.g4,ab,bK]
  have b:=yT ((i:Int)<(m.vars.length:Int));by_cases c:v.name=a;.rw[xan c]at ad;simp only[AE,go_sem,b,eV e,ad,xan c,xaC]
  rw[xax c]at ad;simp only[AE,go_sem,b,eV e,ad,xax c,xaq,xaG,bl i]
 simp only[AE,go_sem,yF ((m.vars.length:Int)<m.vars.length)]
theorem alk{s:lY}(aj:eb m.vars s):E6 n [kz m,bY s]=some (.aC [hs (k6 m s),aF true]):=by
 have M:=h.iz.b.2.2.1;have J:=h.eg;have A:(aa ((0:Nat):Int))=aa 0:=rfl;have c:dN (aA (m.next.map (ey m.ao)))=some (aa m.next.length):=by rw[n4,xaU]
 have ag:=ch (f:=E5 n) m.next (λi (p:List (Nat×Int))=>[bY s,aA (m.next.map (ey m.ao)),aa m.next.length,aa (i:Int),aO m.vars,cc,an (m.bg.map (bO m.ao)),an (m.bh.map (bO m.ao)),aA (m.next.map (ey m.ao)),an (m.trans.map (bO m.ao)),an (m.bb.map (bO m.ao)),bj (m.bc.map (gb m.ao)),hs p]) (λr p=>(.inl [hs (p++r.map λd=>((c3 m.vars d.name).getD 0,(fI m.vars (cJ m.ao d.e).1 s []).1))]:lZ⊕D)) (λi p=>p.length=i) ?_ ?_ n 0 [] rfl oZ (xag _)
 .rw[A,xak,xaM]at ag;have B:hs []=D.aw 2 []:=rfl;rw[B]at ag;simp only[E6,RE,go_sem,c,ag,V1];rfl
 .intro p _;simp only[E5,go_sem,yF ((m.next.length:Int)<m.next.length),xbc,xat,V1]
 intro i d p z ag H;have t:=xad z;have K:(m.next.map (ey m.ao))[i]?=some (ey m.ao d):=by rw[xah,z];rfl
 obtain⟨k,q⟩:=(h.n d t).2;have G:=L4 q;have l:=h.iz.n d t;obtain⟨L,N,O,P⟩:=l.VH;have I:=VJ h t aj;have C:nm n [aO m.vars,(bO m.ao d.e).d,bY s,cc]=some (.aC [aa (fI m.vars (cJ m.ao d.e).1 s []).1,aF true]):=by have:=LB (bn:=true) n m.vars (bO m.ao d.e) s [] oZ L h.gZ.1 (λv w=>GG h.gZ aj v (by simpa using w));rw[show fI m.vars (bO m.ao d.e) s []=_ from GF LM m.vars (cJ m.ao d.e).1 s [],I]at this;exact this
 have y:=alj h n bq d.name (x1:=[aD d.name,aa (bO m.ao d.e).op,aa (bO m.ao d.e).num,aD (bO m.ao d.e).name,bI 4 (bO m.ao d.e).nl (Tm.rows (bO m.ao d.e).az)]) rfl;rw[q]at y;have F:∀a,(aa a).flat=true:=λ_=>rfl;have o:=yT ((i:Int)<(m.next.length:Int));have j:(ey m.ao d).name=d.name:=rfl;have g:(ey m.ao d).e=bO m.ao d.e:=rfl;have E:∀a b:Int,cz 2 (.agg [aa a,aa b])=true:=λ_ _=>rfl;have u:b2 (p.length+1) 16=true:=eE;generalize x:(fI m.vars (cJ m.ao d.e).1 s []).1=v at*;left;refine⟨p++[(k,v)],?_,by simp[q,x],by simp[H]⟩;simp only[E5,go_sem,o,dV K,bd.g5,bd.bK,bd.c1,bd.c2,bd.b6,bd.e2,j,g,C,y,ei,F,ali,xal,xaA,u,alh p (k,v),bl i]
theorem alm{s t:lY}(J:eb m.vars t):wC n [hs (k6 m s),D.fn (.func n8) [] [.ref [bY t] 0]]=some (aF (!(m.next.all (k4 m s t)))):=by
 have K:=h.iz.b.2.2.1;have G:(aa ((0:Nat):Int))=aa 0:=rfl;have B:(k6 m s).length=m.next.length:=by simp[k6]
 have a:dN (hs (k6 m s))=some (aa m.next.length):=by rw[alg,B]
 have ag:=VD (f:=AG n) m.next (λi=>[hs (k6 m s),.ref [bY t] 0,aa m.next.length,aa (i:Int)]) (λd=>!(k4 m s t d)) ?_ ?_ n oZ
 .rw[G]at ag;have r:(m.next.findIdx? λd=>!(k4 m s t d)).isSome=!(m.next.all (k4 m s t)):=by
   rw[akH,<-akI,Bool.not_not]
  have a1:wC n [hs (k6 m s),D.fn (.func n8) [] [.ref [bY t] 0]]=AJ n (hs (k6 m s)) (.ref [bY t] 0):=by simp only[wC,jH]
  have o:AI n [hs (k6 m s),D.fn (.func n8) [] [.ref [bY t] 0]]=AH n (hs (k6 m s)) (.ref [bY t] 0):=by simp only[AI,jH]
  rw[a1,<-r];cases C:m.next.findIdx? (λd=>!(k4 m s t d))with
  |none=>rw[C]at ag;simp only[AJ,o,AH,go_sem,a,ag,ry,xcx,yF ((-1:Int)>=0)]
  |some j=>rw[C]at ag;simp only[AJ,o,AH,go_sem,a,ag,ry,Option.isSome_some,yT ((j:Int)>=0)]
 .intro i d x;have H:=(lV.1 x).1;have I:=xad x;obtain⟨k,z⟩:=(h.n d I).2;have A:=L4 z;obtain⟨y,F⟩:=VK (l:=t) (k:=k) (by rw[J.1];exact A);have E:(k6 m s)[i]?=some (k,(fI m.vars (cJ m.ao d.e).1 s []).1):=by simp[k6,x,z]
  have q:k4 m s t d=decide (y=(fI m.vars (cJ m.ao d.e).1 s []).1):=by unfold k4;rw[z];simp only[F,xaE]
  generalize (fI m.vars (cJ m.ao d.e).1 s []).1=v at*;have g:aQ true 2 0 [aa (k:Int),aa v]=some (.agg [aa (k:Int),aa v]):=rfl;have w:cz 2 (.agg [aa (k:Int),aa v])=true:=rfl;have bK:ae (.agg [aa (k:Int),aa v]) 0=aa (k:Int):=rfl;have c1:ae (.agg [aa (k:Int),aa v]) 1=aa v:=rfl;have ad:E8 n [.agg [aa (k:Int),aa v],.ref [bY t] 0]=some (aF (y !=v)):=by show E7 n (.agg [aa (k:Int),aa v]) [bY t]=_;simp only[E7,go_sem,w,bK,c1,lC F]
  have p:=yT ((i:Int)<(m.next.length:Int));by_cases u:y=v
  .have c:(y !=v)=false:=by simp[u]
   rw[c]at ad;rw[q,xan u];simp only[AG,go_sem,p,V0 E,g,ad,bl i]
  have c:(y !=v)=true:=by simp[u]
  rw[c]at ad;rw[q,xax u];simp only[AG,go_sem,p,V0 E,g,ad,xcc,xaC]
 simp only[AG,go_sem,yF ((m.next.length:Int)<m.next.length)]
end
def aln{x:D}{vs:List V}(w:cz 8 x=true)(l:ae x 0=aO vs)(n:Nat)(q:gY vs)(ah:vs.length<=100)(A:200<n):vM n [x]=some (.aC [aa (stM vs).1,aF (stM vs).2]):=by
 have ai:=ch (f:=zw n) vs (λi (_:Unit)=>[aa 1,aa (i:Int),aO vs,ae x 1,ae x 2,ae x 3,ae x 4,ae x 5,ae x 6,ae x 7]) (λr _=>(if kx r=true then .inr (.aC [aa 0,aF true])else .inl [aa 1,aO vs,ae x 1,ae x 2,ae x 3,ae x 4,ae x 5,ae x 6,ae x 7]:lZ⊕D)) (λ_ _=>True) ?_ ?_ n 0 () trivial oZ (xag _)
 .have y:(aa ((0:Nat):Int))=aa 0:=rfl;rw[y,xak]at ai;unfold stM;by_cases ab:kx vs=true;.rw[xac ab]at ai⊢;simp only[vM,D9,go_sem,w,l,ai]
  rw[xab ab]at ai⊢;have o:∀v∈vs,v.span≠0:=by intro v q t;apply ab;unfold kx;rw[xbz];exact⟨v,q,by simp[t]⟩
  have m:=ch (f:=zx n) vs (λi (s:Int)=>[aa s,aa (i:Int),aO vs,ae x 1,ae x 2,ae x 3,ae x 4,ae x 5,ae x 6,ae x 7]) (λr s=>(if iV r s>1073741824 then .inr (.aC [aa 0,aF false])else .inl [aa (iV r s)]:lZ⊕D)) (λi s=>1<=s/\s<=1073741824) ?_ ?_ n 0 1 sZ oZ (xag _)
  .rw[y,xak]at m;by_cases ad:iV vs 1>1073741824;.rw[xac ad]at m⊢;simp only[vM,D9,go_sem,w,l,ai,m]
   rw[xab ad]at m⊢;simp only[vM,D9,go_sem,w,l,ai,m]
  .intro s aj;have:¬s>1073741824:=oZ
   rw[iV,xab this];simp only[zx,go_sem,yF ((vs.length:Int)<vs.length)]
  intro i v s c ag aj;have j:=xad c;obtain⟨ab,ad,_⟩:=q.2 v j;have g:=xf n v ab ad;have p:=V.tB v;have B:=o v j;have k:max v.span 1=v.span:=oZ
  have z:=Vi aj.1 aj.2 p.1 p.2;rw[k]at z;have d:=yT ((i:Int)<(vs.length:Int));by_cases u:s*v.span>1073741824
  .right;rw[iV,xac aj.2,k,Vh _ _ oZ,xac u];simp only[zx,go_sem,d,eV c,g,qF (bt:=false) (a:=s) (b:=v.span) oZ oZ,xan u]
  left;refine⟨s*v.span,?_,by rw[iV,xac aj.2,k],by omega⟩;simp only[zx,go_sem,d,eV c,g,qF (bt:=false) (a:=s) (b:=v.span) oZ oZ,xax u,bl i]
 .intro _ _;have:¬(kx []=true):=by simp[kx]
  simp only[zw,go_sem,yF ((vs.length:Int)<vs.length),xab this]
 intro i v _ c ag _;obtain⟨ab,ad,_⟩:=q.2 v (xad c);have g:=xf n v ab ad;have d:=yT ((i:Int)<(vs.length:Int));have e:kx (v::vs.drop (i+1))=(v.span==0||kx (vs.drop (i+1))):=rfl;by_cases t:v.span=0
 .right;have h:(v.span==0)=true:=by simp[t]
  rw[e,h,Bool.true_or,xac rfl];simp only[zw,go_sem,d,eV c,g,h]
 left;have h:(v.span==0)=false:=by simpa using t
 rw[e,h,xbB];exact⟨(),by simp only[zw,go_sem,d,eV c,g,h,bl i],rfl,trivial⟩
def bB(l:mX):D:= .aw 1 (l.map λs=>[bY s])
def ej(v:V):Int:=if v.bool=true then 0 else v.lo
def hc(v:V)(s:lY):mX:=(List.range v.span.toNat).map λ(j:Nat)=>s++[ej v+(j:Int)]
def gj:List V->mX->mX
 |[],out=>out|v::r,out=>gj r (out.flatMap (hc v))
def eQ:List V->Nat
 |[]=>1|v::r=>v.span.toNat*eQ r
def iX(v:V):Prop:=1<=v.span/\v.span<=64/\-2000000<=ej v/\ej v<=2000000
theorem alo(l:mX):D.aw 1 (aE (bB l))=bB l:=rfl
attribute [go_sem] alo
def oO(l:mX):(aE (bB l)).length=l.length:=by simp[bB]
def Bx{l:mX}{j:Nat}{s:lY}(h:l[j]?=some s):(aE (bB l))[j]?=some [bY s]:=by simp[bB,h]
def Mb(l:mX)(s:lY):D.aw 1 (aE (bB l)++[[bY s]])=bB (l++[s]):=by simp[bB]
theorem V2(s:lY):jw (bY s)=some (1,s.map λ(x:Int)=>[aa x]):=rfl
theorem GQ(s:lY):c7 (bY s)=true:=rfl
section
variable(x:D)(vs:List V)(n:Nat)
def alp(F:gY vs)(H:100000<n)(i k:Nat)(v:V)(c:vs[i]?=some v)(y:iX v)(out:mX)(s:lY)(aj:out[k]?=some s)(E:s.length<=200)(B:out.length<=5000)(nx:mX)(A:nx.length<=400000):aR (zy n) n [aa (i:Int),aa (ej v),aa (k:Int),aa 0,aO vs,ae x 1,ae x 2,ae x 3,ae x 4,ae x 5,ae x 6,ae x 7,bB out,bB nx]=some (.inl [aa (i:Int),aa (ej v),aa (k:Int),aO vs,ae x 1,ae x 2,ae x 3,ae x 4,ae x 5,ae x 6,ae x 7,bB out,bB (nx++hc v s)]):=by
 obtain⟨g1,g2,g3,g4⟩:=y;obtain⟨i1,i2,_⟩:=F.2 v (xad c);have g:=xf n v i1 i2;have m:=(lV.1 aj).1;have p:v.span=(v.span.toNat:Int):=oZ
 have ag:=ch (f:=zy n) (List.range v.span.toNat) (λj (q:mX)=>[aa (i:Int),aa (ej v),aa (k:Int),aa (j:Int),aO vs,ae x 1,ae x 2,ae x 3,ae x 4,ae x 5,ae x 6,ae x 7,bB out,bB q]) (λr q=>(.inl [aa (i:Int),aa (ej v),aa (k:Int),aO vs,ae x 1,ae x 2,ae x 3,ae x 4,ae x 5,ae x 6,ae x 7,bB out,bB (q++r.map λ(j:Nat)=>s++[ej v+(j:Int)])]:lZ⊕(lZ⊕(lZ⊕(lZ⊕(lZ⊕(lZ⊕(lZ⊕D)))))))) (λj q=>q.length<=400000+j) ?_ ?_ n 0 nx oZ uZ (xag _);.exact ag
 .intro q C;have b:decide (((List.range v.span.toNat).length:Int)<v.span)=false:=xax (by rw[xbf];omega);simp only[zy,go_sem,eV c,g,b,xbc,xat]
 intro j a q w z C;rw[xbf]at z;have h:a=j:=by have:=(lV.1 w).2;simpa using this.symm
 subst h;have b:decide ((a:Int)<v.span)=true:=xan oZ;have o:cI out.length (aa (k:Int))=some k:=by rw[jF,xac m]
 have d:aW false .add (aa (ej v)) (aa (a:Int))=some (aa (ej v+(a:Int))):=dw oZ oZ;have c5:b2 s.length 8=true:=eE;have dk:b2 (s.length+1) 8=true:=eE;have G:b2 (q.length+1) 24=true:=eE;have l:aQ false 1 0 [bY s]=some (bY s):=rfl;have e:(decide (True\/(s.map λ(x:Int)=>[aa x])=[])&&decide (0<1))=true:=sZ
 have u:((1:Nat)=1)=True:=eq_self 1;left;refine⟨q++[s++[ej v+(a:Int)]],?_,by simp,by simp;omega⟩;simp only[zy,go_sem,eV c,g,b,oO,o,Bx aj,l,V2,e,xaA,xaU,xaM,c5,d,xal,xav,dk];have t:D.aw 1 ((s.map λ(x:Int)=>[aa x])++[[aa (ej v+(a:Int))]])=bY (s++[ej v+(a:Int)]):=by simp[bY]
 simp only[t,go_sem,G,bl a,Mb]
def alq(m:gY vs)(k:100000<n)(i:Nat)(v:V)(e:vs[i]?=some v)(g:iX v)(out:mX)(d:∀s∈out,s.length<=200)(c:out.length<=5000):aR (zz n) n [aa (i:Int),aa (ej v),aa 0,aO vs,ae x 1,ae x 2,ae x 3,ae x 4,ae x 5,ae x 6,ae x 7,bB out,bB []]=some (.inl [aa (i:Int),aO vs,ae x 1,ae x 2,ae x 3,ae x 4,ae x 5,ae x 6,ae x 7,bB (out.flatMap (hc v))]):=by
 have ag:=ch (f:=zz n) out (λj (q:mX)=>[aa (i:Int),aa (ej v),aa (j:Int),aO vs,ae x 1,ae x 2,ae x 3,ae x 4,ae x 5,ae x 6,ae x 7,bB out,bB q]) (λr q=>(.inl [aa (i:Int),aO vs,ae x 1,ae x 2,ae x 3,ae x 4,ae x 5,ae x 6,ae x 7,bB (q++r.flatMap (hc v))]:lZ⊕(lZ⊕(lZ⊕(lZ⊕D))))) (λj q=>q.length<=64*j) ?_ ?_ n 0 [] sZ oZ (xag _);.exact ag
 .intro q l;simp only[zz,go_sem,oO,yF ((out.length:Int)<out.length),List.flatMap_nil,xat]
 intro j s q aj o l;have b:=yT ((j:Int)<(out.length:Int));have a:=alp x vs n m k i j v e g out s aj (d s (xad aj)) c q oZ;have h:(hc v s).length<=64:=by have:=g.2.1;simp only[hc,xaU,xbf];omega
 left;refine⟨q++hc v s,?_,by simp[List.flatMap_cons],by simp;omega⟩;simp only[zz,go_sem,oO,b,a,bl j]
def alr(v:V)(s:lY):(hc v s).length=v.span.toNat:=by simp[hc]
def GR(v:V):∀out:mX,(out.flatMap (hc v)).length=out.length*v.span.toNat
 |[]=>by simp|s::r=>by rw[List.flatMap_cons,xaS,GR v r,alr,xal,Nat.succ_mul,Nat.add_comm]
def Mc:∀(l:List V),(∀v∈l,iX v)->1<=eQ l
 |[],_=>xaR 1
 |v::r,h=>by
  have ab:=(h v sZ).1;have ad:=Mc r λw a=>h w (by simp[a]);have:1<=v.span.toNat:=oZ
  rw[eQ];exact Nat.mul_le_mul this ad
def GS:∀(l:List V)(out:mX),(gj l out).length=out.length*eQ l
 |[],out=>by simp[gj,eQ]|v::r,out=>by rw[gj,GS r,GR,eQ,Nat.mul_assoc]
theorem V3{v:V}{s t:lY}(h:t∈hc v s):t.length=s.length+1:=by simp only[hc,xaK]at h;obtain⟨j,_,rfl⟩:=h;simp
def als(B:cz 8 x=true)(e:ae x 0=aO vs)(u:D.agg [aO vs,ae x 1,ae x 2,ae x 3,ae x 4,ae x 5,ae x 6,ae x 7]=x)(A:gY vs)(F:100000<n)(ah:vs.length<=100)(z:∀v∈vs,iX v)(G:eQ vs<=4096)(o:stM vs=((eQ vs:Int),true)):Ea n [x,aa 4096]=some (bB (gj vs [[]])):=by
 have y:=aln B e n A ah oZ;rw[o]at y;have j:decide (((eQ vs:Nat):Int)>4096)=false:=xax oZ;have ag:=ch (f:=zA n) vs (λi (q:mX)=>[aa (i:Int),aO vs,ae x 1,ae x 2,ae x 3,ae x 4,ae x 5,ae x 6,ae x 7,bB q]) (λr q=>(.inl [bB (gj r q)]:lZ⊕D)) (λi q=>q.length*eQ (vs.drop i)<=4096/\∀s∈q,s.length=i) ?_ ?_ n 0 [[]] ⟨by simpa using G,by simp⟩ oZ (xag _)
 .have C:(aa ((0:Nat):Int))=aa 0:=rfl;have g:D.aw 1 [[D.aw 1 ([]:mW)]]=bB [[]]:=rfl;have K:c7 (D.aw 1 ([]:mW))=true:=rfl;rw[C,xak]at ag;simp only[Ea,QY,go_sem,B,e,u,y,j,K,g,ag]
 .intro q L;simp only[zA,go_sem,yF ((vs.length:Int)<vs.length),gj]
 rintro i v q a ag ⟨ab,ad⟩;have k:=z v (xad a);have E:vs.drop i=v::vs.drop (i+1):=by obtain⟨l,rfl⟩:=lV.1 a;exact xaW l
 have m:=Mc (vs.drop i) λw J=>z w (xbq J);have H:q.length<=4096:=xbK (Nat.le_mul_of_pos_right _ m) ab;have b:=alq x vs n A F i v a k q (λs aj=>by rw[ad s aj];omega) oZ;have d:=yT ((i:Int)<(vs.length:Int));have a2:aQ false 1 2 v.cells=some (aa v.lo):=rfl;have aG:aQ false 1 1 v.cells=some (aF v.bool):=rfl;have g:D.aw 1 ([]:mW)=bB []:=rfl;left;refine⟨q.flatMap (hc v),?_,rfl,?_,?_⟩
 .cases h:v.bool with
  |true=>
   have c:ej v=0:=by simp[ej,h]
   rw[c]at b;simp only[zA,go_sem,d,eV a,a2,aG,h,g,b,bl i]
  |false=>
   have c:ej v=v.lo:=by simp[ej,h]
   rw[c]at b;simp only[zA,go_sem,d,eV a,a2,aG,h,g,b,bl i]
 .rw[GR];rw[E,eQ]at ab;rw[Nat.mul_assoc];exact ab
 intro t I;obtain⟨s,aj,p⟩:=List.mem_flatMap.1 I;rw[V3 p,ad s aj]
end
def alu{l:List V}{s:lY}(h:eb l s){v:V}{x:Int}(c:if v.bool then x=0\/x=1 else v.lo<=x/\x<=v.ag):eb (l++[v]) (s++[x]):=by
 refine⟨by simp[h.1],λi w y a b=>?_⟩;rcases Nat.lt_trichotomy i l.length with ag|ag|ag
 .rw[xap ag]at a;rw[xap (by rw[h.1];exact ag)]at b;exact h.2 i w y a b
 .subst ag;rw[xas (xaR _)]at a;rw[xas (by rw[h.1];exact xaR _)]at b;simp[h.1]at a b;subst a;subst b;exact c
 rw[xaH uZ]at a;cases a
def alv{v:V}{j:Nat}(a:j<v.span.toNat)(c:iX v):if v.bool then(ej v+(j:Int)=0\/ej v+(j:Int)=1)else v.lo<=ej v+(j:Int)/\ej v+(j:Int)<=v.ag:=by
 have g2:=c.2.1;unfold V.span at a g2;unfold ej;cases b:v.bool with
 |true=>rw[b]at a g2;simp only[xaC]at a⊢;omega
 |false=>
  rw[b]at a g2;simp only[xaq,xaG]at a g2⊢;split at a;.simp at a
  split at a;.omega
  rename_i ab ad;rw[xab ab,xab ad]at g2;omega
def V4:∀(r pre:List V)(out:mX),(∀v∈r,iX v)->(∀s∈out,eb pre s)->∀s∈gj r out,eb (pre++r) s
 |[],pre,out,_,h,s,aj=>by rw[xat];exact h s aj
 |v::r,pre,out,b,h,s,aj=>by
  rw[gj]at aj;have:=V4 r (pre++[v]) (out.flatMap (hc v)) (λw f=>b w (by simp[f])) (λt e=>?_) s aj
  .rw[xaL]at this;exact this
  obtain⟨q,d,a⟩:=List.mem_flatMap.1 e;simp only[hc,xaK,xbU]at a;obtain⟨j,c,rfl⟩:=a;exact alu (h q d) (alv c (b v sZ))
def alw{l:List V}(a:∀v∈l,iX v):∀s∈gj l [[]],eb l s:=by have:=V4 l [] [[]] a (λs aj=>by simp at aj;subst aj;exact⟨rfl,λi v x b=>by simp at b⟩);simpa using this
def alx{l:List V}(h:(hT l).2=0):∀i v,l[i]?=some v->um (l.take i) v=0:=by intro i v c;have b:=(lV.1 c).1;unfold hT at h;cases a:(List.range l.length).find? (λi=>gJ l i !=0)with|none=>have:=List.find?_eq_none.1 a i (by simp;exact b);unfold gJ at this;rw[c]at this;simpa using this|some j=>rw[a]at h;have:=List.find?_some a;simp only at h;rw[h]at this;cases this
def V5{l:List V}(h:(hT l).2=0):∀v∈l,iX v:=by
 intro v d;obtain⟨i,ag⟩:=xaJ.1 d;have ak:=alx h i v ag;unfold um at ak;split at ak
 .cases ak
 split at ak;.cases ak
 split at ak;.cases ak
 split at ak;.cases ak
 rename_i ab ad ai b;unfold iX ej V.span;cases c:v.bool with
 |true=>simp
 |false=>
  rw[c]at b;simp only[xcc,xbm,xbk,xaF,not_or,o8]at b;obtain⟨⟨g1,g2,g3⟩,g4⟩:=b;have e:v.ag<=255:=by
   by_cases a:v.ag>v.lo;.rw[xac a]at g2;omega
   rw[xab a]at g2;omega
  have f:-255<=v.lo:=by
   by_cases a:v.ag<v.lo;.omega
   rw[xab a]at g3;omega
  rw[wrap64 _ oZ oZ]at g4;simp only[xaq,xaG,xab g1,xac (oZ:v.ag-v.lo<1073741824)];omega
def lF(s:lY):D:=if s=[]then cc else bY s
def gd(l:mX):D:= .aw 1 (l.map λs=>[lF s])
def GU(l:mX):(aE (gd l)).length=l.length:=by simp[gd]
def aly{l:mX}{j:Nat}{s:lY}(h:l[j]?=some s):(aE (gd l))[j]?=some [lF s]:=by simp[gd,h]
def alz{s:lY}{x:Int}:lF (s++[x])=bY (s++[x]):=by unfold lF;rw[xab sZ]
def alA(l:mX)(s:lY)(x:Int):D.aw 1 (aE (gd l)++[[bY (s++[x])]])=gd (l++[s++[x]]):=by rw[<-alz];simp[gd]
theorem rF(l:mX):D.aw 1 (aE (gd l))=gd l:=rfl
def alB(n:Nat)(s:lY)(aj:s.length<=1000000):Av n [lF s]=some [bY s]:=by
 unfold lF;by_cases h:s=[];.rw[xac h];subst h;rfl
 rw[xab h];have ab:Co .eql (bY s) (D.val (.slice none 0 0))=some (aF false):=by cases s with|nil=>exact absurd rfl h|cons a r=>rfl
 have ad:b2 (([]:mW).length+(s.map λ(x:Int)=>[aa x]).length) 8=true:=by
  have e:([]:mW).length+(s.map λ(x:Int)=>[aa x]).length=s.length:=sZ
  rw[e];exact eE
 have ai:(decide (True\/(s.map λ(x:Int)=>[aa x])=[])&&decide (0<1))=true:=sZ
 have b:((1:Nat)=1)=True:=eq_self 1;have c:D.aw 1 (([]:mW)++s.map λ(x:Int)=>[aa x])=bY s:=rfl;simp only[Av,go_sem,ab,V2,ad,ai,c]
section
variable(vs:List V)(n:Nat)
def alC(F:100000<n)(v:V)(y:iX v)(a b c d:D)(k:Nat)(s:lY)(C:s.length<=200)(nx out:mX)(A:nx.length<=400000):aR (Aw n) n [aa (ej v),lF s,a,b,c,d,aa (k:Int),aa v.span,aa 0,ae v.d 0,ae v.d 1,ae v.d 2,ae v.d 3,gd nx,gd out]=some (.inl [aa (ej v),a,b,c,d,aa (k:Int),ae v.d 0,ae v.d 1,ae v.d 2,ae v.d 3,gd (nx++hc v s),gd out]):=by
 obtain⟨g1,g2,g3,g4⟩:=y;have o:v.span=(v.span.toNat:Int):=oZ
 have m:=alB n s oZ;have ag:=ch (f:=Aw n) (List.range v.span.toNat) (λj (q:mX)=>[aa (ej v),lF s,a,b,c,d,aa (k:Int),aa v.span,aa (j:Int),ae v.d 0,ae v.d 1,ae v.d 2,ae v.d 3,gd q,gd out]) (λr q=>(.inl [aa (ej v),a,b,c,d,aa (k:Int),ae v.d 0,ae v.d 1,ae v.d 2,ae v.d 3,gd (q++r.map λ(j:Nat)=>s++[ej v+(j:Int)]),gd out]:lZ⊕(lZ⊕(lZ⊕(lZ⊕(lZ⊕(lZ⊕(lZ⊕D)))))))) (λj q=>q.length<=400000+j) ?_ ?_ n 0 nx oZ uZ (xag _)
 .exact ag
 .intro q B;have g:decide (((List.range v.span.toNat).length:Int)<v.span)=false:=xax (by rw[xbf];omega);simp only[Aw,go_sem,g,rF,xbc,xat]
 intro j e q w z B;rw[xbf]at z;have l:e=j:=by have:=(lV.1 w).2;simpa using this.symm
 subst l;have g:decide ((e:Int)<v.span)=true:=xan oZ;have h:aW false .add (aa (ej v)) (aa (e:Int))=some (aa (ej v+(e:Int))):=dw oZ oZ;have dk:b2 (s.length+1) 8=true:=eE;have E:b2 (q.length+1) 24=true:=eE;have p:∀x:D,bG [x] 0=x:=λ_=>rfl;have u:(aE (bY s)).length=s.length:=by simp[bY]
 have t:D.aw 1 (aE (bY s)++[[aa (ej v+(e:Int))]])=bY (s++[ej v+(e:Int)]):=by simp[bY]
 left;refine⟨q++[s++[ej v+(e:Int)]],?_,by simp,by simp;omega⟩;simp only[Aw,go_sem,g,m,h,p,u,xal,xaA,dk,t,GU,E,uN (bt:=false) (i:=e) oZ,alA,rF]
def alD(t:100000<n)(v:V)(ab:j1 v.lo)(ad:j1 v.ag)(m:iX v)(a b c:D)(out:mX)(k:∀s∈out,s.length<=200)(u:out.length<=5000):aR (Ax n) n [aa (ej v),a,b,c,aa out.length,aa 0,ae v.d 0,ae v.d 1,ae v.d 2,ae v.d 3,gd [],gd out]=some (.inl [a,b,c,gd (out.flatMap (hc v))]):=by
 have l:=LJ n v ab ad;have ag:=ch (f:=Ax n) out (λj (q:mX)=>[aa (ej v),a,b,c,aa out.length,aa (j:Int),ae v.d 0,ae v.d 1,ae v.d 2,ae v.d 3,gd q,gd out]) (λr q=>(.inl [a,b,c,gd (q++r.flatMap (hc v))]:lZ⊕(lZ⊕(lZ⊕(lZ⊕D))))) (λj q=>q.length<=64*j) ?_ ?_ n 0 [] sZ oZ (xag _)
 .exact ag
 .intro q w;simp only[Ax,go_sem,yF ((out.length:Int)<out.length),rF,List.flatMap_nil,xat]
 intro j s q aj p w;have h:=yT ((j:Int)<(out.length:Int));have i:cI out.length (aa (j:Int))=some j:=by rw[jF,xac p]
 have e:=alC n t v m a b c (aa out.length) j s (k s (xad aj)) q out oZ;have g:aQ false 1 0 [lF s]=some (lF s):=rfl;have o:(hc v s).length<=64:=by have:=m.2.1;simp only[hc,xaU,xbf];omega
 left;refine⟨q++hc v s,?_,by simp[List.flatMap_cons],by simp;omega⟩;simp only[Ax,go_sem,h,GU,i,aly aj,g,l,rF,e,bl j]
def alE(C:gY vs)(y:100000<n)(ah:vs.length<=100)(p:∀v∈vs,iX v)(z:eQ vs<=4096):E1 n [aO vs]=some (gd (gj vs [[]])):=by
 have ag:=ch (f:=Ay n) vs (λi (q:mX)=>[aO vs,aa vs.length,aa (i:Int),gd q]) (λr q=>(.inl [gd (gj r q)]:lZ⊕D)) (λi q=>q.length*eQ (vs.drop i)<=4096/\∀s∈q,s.length=i) ?_ ?_ n 0 [[]] ⟨by simpa using z,by simp⟩ oZ (xag _);.have u:(aa ((0:Nat):Int))=aa 0:=rfl;have j:D.aw 1 [[(D.val (.slice none 0 0))]]=gd [[]]:=rfl;rw[u,xak]at ag;simp only[E1,RC,go_sem,j,ag,rF]
 .intro q F;simp only[Ay,go_sem,yF ((vs.length:Int)<vs.length),rF,gj]
 rintro i v q b ag ⟨ab,ad⟩;have c:=xad b;have k:=p v c;obtain⟨i1,i2,_⟩:=C.2 v c;have x:vs.drop i=v::vs.drop (i+1):=by obtain⟨l,rfl⟩:=lV.1 b;exact xaW l
 have m:=Mc (vs.drop i) λw E=>p w (xbq E);have A:q.length<=4096:=xbK (Nat.le_mul_of_pos_right _ m) ab;have a:=alD n y v i1 i2 k (aO vs) (aa vs.length) (aa (i:Int)) q (λs aj=>by rw[ad s aj];omega) oZ;have h:=yT ((i:Int)<(vs.length:Int));have j:D.aw 1 ([]:mW)=gd []:=rfl;have c1:ae v.d 1=aF v.bool:=rfl;have c2:ae v.d 2=aa v.lo:=rfl;left;refine⟨q.flatMap (hc v),?_,rfl,?_,?_⟩
 .cases g:v.bool with
  |true=>
   have e:ej v=0:=by simp[ej,g]
   rw[e,c1,g]at a;simp only[Ay,go_sem,h,eV b,V.g4,c1,g,j,rF,GU,a,bl i]
  |false=>
   have e:ej v=v.lo:=by simp[ej,g]
   rw[e,c1,c2,g]at a;simp only[Ay,go_sem,h,eV b,V.g4,c1,c2,g,j,rF,GU,a,bl i]
 .rw[GR];rw[x,eQ]at ab;rw[Nat.mul_assoc];exact ab
 intro t B;obtain⟨s,aj,o⟩:=List.mem_flatMap.1 B;rw[V3 o,ad s aj]
def V6(s:lY):wA (lF s)=bY s:=by
 unfold lF;by_cases h:s=[];.rw[xac h];subst h;rfl
 rw[xab h];rfl
def alF(f:gY vs)(c:100000<n)(ah:vs.length<=100)(b:∀v∈vs,iX v)(d:eQ vs<=4096):AA n [aO vs]=some (bB (gj vs [[]])):=by
 have h:Az (gd (gj vs [[]]))=some (bB (gj vs [[]])):=by
  unfold Az gd;have ab:((gj vs [[]]).map λs=>[lF s]).all (λe=>(e.map wA).all D.one)=true:=by rw[xay];intro e a;obtain⟨s,_,rfl⟩:=xaK.1 a;simp only[xaw,xbc,V6,xbb,xcf,xbA];rfl
  simp only[ab,xaC,bB,List.map_map]
  congr 2
  refine List.map_congr_left λs _=>?_;simp[V6]
 simp only[AA,alE vs n f c ah b d,h]
end
def a8(l:lX):D:= .aw 1 (l.map λ(k:Nat)=>[aa (k:Int)])
def bx(l:mZ):D:= .aw 1 (l.map λs=>[a8 s])
def b0(l:mY):D:= .aw 1 (l.map λs=>[aH s])
def e8(p:lY->Bool):Nat->mX->lX
 |_,[]=>[]|i,s::r=>if p s=true then i::e8 p (i+1) r else e8 p (i+1) r
noncomputable def c8(m:bH):mX:=(gj m.vars [[]]).filter (hP m)
noncomputable def lG(m:bH)(s:lY):lX:=e8 (iW m s) 0 (c8 m)
noncomputable def rG(m:bH):lX:=e8 (mi m) 0 (c8 m)
noncomputable def kD(m:bH):D:= .agg [bB (c8 m),bx ((c8 m).map (lG m)),a8 (rG m),b0 ((c8 m).map (hr m))]
def By(l:lX):(aE (a8 l)).length=l.length:=by simp[a8]
attribute [go_sem] By
def Bz(l:mZ):(aE (bx l)).length=l.length:=by simp[bx]
def GV(l:mY):(aE (b0 l)).length=l.length:=by simp[b0]
def alG(l:lW):(aE (aH l)).length=l.length:=by simp[aH]
attribute [go_sem] alG
theorem alH(l:lX):D.aw 1 (aE (a8 l))=a8 l:=rfl
attribute [go_sem] alH
theorem alI(l:mZ):D.aw 1 (aE (bx l))=bx l:=rfl
attribute [go_sem] alI
theorem alJ(l:mY):D.aw 1 (aE (b0 l))=b0 l:=rfl
attribute [go_sem] alJ
theorem alK(l:lW):D.aw 1 (aE (aH l))=aH l:=rfl
attribute [go_sem] alK
def alL(l:lX)(k:Nat):D.aw 1 (aE (a8 l)++[[aa (k:Int)]])=a8 (l++[k]):=by simp[a8]
attribute [go_sem] alL
def alM(l:mZ)(k:lX):D.aw 1 (aE (bx l)++[[a8 k]])=bx (l++[k]):=by simp[bx]
attribute [go_sem] alM
def GW(l:mY)(k:lW):D.aw 1 (aE (b0 l)++[[aH k]])=b0 (l++[k]):=by simp[b0]
def alN(l:lW)(k:Bool):D.aw 1 (aE (aH l)++[[aF k]])=aH (l++[k]):=by simp[aH]
theorem V7(l:lW):c7 (aH l)=true:=rfl
def lH{l:mX}{j:Nat}{s:lY}(h:l[j]?=some s):ba 1 (bB l) (aa (j:Int))=some [bY s]:=by obtain⟨a,rfl⟩:=lV.1 h;simp[bB,a]
def alO(l:mX):dN (bB l)=some (aa l.length):=by simp[bB]
attribute [go_sem] alO
def V8{p:lY->Bool}:∀(l:mX) (i:Nat),∀k∈e8 p i l,i<=k/\k<i+l.length/\∃s,l[k-i]?=some s/\p s=true
 |[],i,k,h=>by simp[e8]at h
 |s::r,i,k,h=>by
  unfold e8 at h;have rc:k∈e8 p (i+1) r->i<=k/\k<i+(s::r).length/\∃s',(s::r)[k-i]?=some s'/\p s'=true:=by intro h;obtain⟨ab,ad,s',ai,a⟩:=V8 r (i+1) k h;refine⟨by omega,by simp;omega,s',?_,a⟩;rw[show k-i=(k-(i+1))+1 by omega];simpa using ai
  split at h
  .rename_i b;rcases xao.1 h with rfl|h
   .exact⟨by omega,by simp,s,by simp,b⟩
   exact rc h
  exact rc h
section
variable{m:bH}(h:rA m)(n:Nat)(bq:13306000000<n)
include h bq
theorem alP(A:mX)(k:∀s∈A,eb m.vars s)(ah:A.length<=5000):aR (wD n) n [bB A,aa A.length,aa 0,cc,cc,cc,aO m.vars,cc,an (m.bg.map (bO m.ao)),an (m.bh.map (bO m.ao)),aA (m.next.map (ey m.ao)),an (m.trans.map (bO m.ao)),an (m.bb.map (bO m.ao)),bj (m.bc.map (gb m.ao)),bB []]=some (.inl [cc,cc,cc,aO m.vars,cc,an (m.bg.map (bO m.ao)),an (m.bh.map (bO m.ao)),aA (m.next.map (ey m.ao)),an (m.trans.map (bO m.ao)),an (m.bb.map (bO m.ao)),bj (m.bc.map (gb m.ao)),bB (A.filter (hP m))]):=by
 have l:=h.iz.b.2.1;have ag:=ch (f:=wD n) A (λi (p:mX)=>[bB A,aa A.length,aa (i:Int),cc,cc,cc,aO m.vars,cc,an (m.bg.map (bO m.ao)),an (m.bh.map (bO m.ao)),aA (m.next.map (ey m.ao)),an (m.trans.map (bO m.ao)),an (m.bb.map (bO m.ao)),bj (m.bc.map (gb m.ao)),bB p]) (λr p=>(.inl [cc,cc,cc,aO m.vars,cc,an (m.bg.map (bO m.ao)),an (m.bh.map (bO m.ao)),aA (m.next.map (ey m.ao)),an (m.trans.map (bO m.ao)),an (m.bb.map (bO m.ao)),bj (m.bc.map (gb m.ao)),bB (p++r.filter (hP m))]:lZ⊕D)) (λi p=>p.length<=i) ?_ ?_ n 0 [] sZ oZ (xag _)
 .exact ag
 .intro p _;simp only[wD,go_sem,yF ((A.length:Int)<A.length),List.filter_nil,xat]
 intro i s p aj ag o;have j:=k s (xad aj);have a:=Ma h.gZ h.eg j (nx:=false) (nn:=[]) sZ (λ_=>rfl) (bn:=true) n bq (L:=m.bh) h.nA l;rw[xc]at a;have g:hP m s=m.bh.all λt=>eP m.vars (cJ m.ao t).1 s []:=by unfold hP;rw[L3.2 j,xbm]
 rw[<-g]at a;have c:=yT ((i:Int)<(A.length:Int));have e:b2 (p.length+1) 24=true:=eE;left;cases d:hP m s with|true=>rw[d]at a;refine⟨p++[s],?_,by rw[List.filter_cons,d];simp,by simp;omega⟩;simp only[wD,go_sem,c,lH aj,a,GQ,oO,xal,xaA,e,Mb,bl i]|false=>rw[d]at a;refine⟨p,?_,by rw[List.filter_cons,d];simp,by omega⟩;simp only[wD,go_sem,c,lH aj,a,bl i]
theorem V9{s:lY}(aj:eb m.vars s)(a b c d e f:D)(j:∀x,x=c\/x=d\/x=e\/x=f->D.aw 1 (aE x)=x):aR (AK n) n [bY s,a,b,an (m.bb.map (bO m.ao)),aa m.bb.length,aa 0,aO m.vars,cc,an (m.bg.map (bO m.ao)),an (m.bh.map (bO m.ao)),aA (m.next.map (ey m.ao)),an (m.trans.map (bO m.ao)),an (m.bb.map (bO m.ao)),bj (m.bc.map (gb m.ao)),aH [],c,d,e,f]=some (.inl [bY s,a,b,aO m.vars,cc,an (m.bg.map (bO m.ao)),an (m.bh.map (bO m.ao)),aA (m.next.map (ey m.ao)),an (m.trans.map (bO m.ao)),an (m.bb.map (bO m.ao)),bj (m.bc.map (gb m.ao)),aH (hr m s),c,d,e,f]):=by
 have B:=h.iz.b.2.2.2.2.1;have q:=j c (.inl rfl);have u:=j d (.inr (.inl rfl));have g:=j e (.inr (.inr (.inl rfl)));have w:=j f (.inr (.inr (.inr rfl)))
 have ag:=ch (f:=AK n) m.bb (λi (p:lW)=>[bY s,a,b,an (m.bb.map (bO m.ao)),aa m.bb.length,aa (i:Int),aO m.vars,cc,an (m.bg.map (bO m.ao)),an (m.bh.map (bO m.ao)),aA (m.next.map (ey m.ao)),an (m.trans.map (bO m.ao)),an (m.bb.map (bO m.ao)),bj (m.bc.map (gb m.ao)),aH p,c,d,e,f]) (λr p=>(.inl [bY s,a,b,aO m.vars,cc,an (m.bg.map (bO m.ao)),an (m.bh.map (bO m.ao)),aA (m.next.map (ey m.ao)),an (m.trans.map (bO m.ao)),an (m.bb.map (bO m.ao)),bj (m.bc.map (gb m.ao)),aH (p++r.map λt=>eP m.vars (cJ m.ao t).1 s []),c,d,e,f]:lZ⊕(lZ⊕(lZ⊕(lZ⊕D))))) (λi p=>p.length=i) ?_ ?_ n 0 [] rfl oZ (xag _);.exact ag
 .intro p _;simp only[AK,go_sem,yF ((m.bb.length:Int)<m.bb.length),xbc,xat,q,u,g,w]
 intro i t p y ag z;have A:(m.bb.map (bO m.ao))[i]?=some (bO m.ao t):=by rw[xah,y];rfl
 have o:=VZ h.gZ h.eg aj (nx:=false) (nn:=[]) sZ (λ_=>rfl) (bn:=true) n bq (h.f t (xad y));rw[xc]at o;have k:=yT ((i:Int)<(m.bb.length:Int));have l:b2 (p.length+1) 1=true:=eE;left;refine⟨p++[eP m.vars (cJ m.ao t).1 s []],?_,by simp,by simp[z]⟩;simp only[AK,go_sem,k,L2 A,T.rh,T.tx,o,xal,xaA,l,alN,q,u,g,w,bl i]
theorem Wa(S:mX)(I:∀s∈S,hP m s=true)(ah:S.length<=5000){s:lY}(aj:hP m s=true)(a b c d e:D)(C:∀x,x=c\/x=d\/x=e->D.aw 1 (aE x)=x):aR (wE n) n [bY s,hs (k6 m s),aF true,a,b,aa S.length,aa 0,aO m.vars,cc,an (m.bg.map (bO m.ao)),an (m.bh.map (bO m.ao)),aA (m.next.map (ey m.ao)),an (m.trans.map (bO m.ao)),an (m.bb.map (bO m.ao)),bj (m.bc.map (gb m.ao)),a8 [],bB S,c,d,e]=some (.inl [a,b,aO m.vars,cc,an (m.bg.map (bO m.ao)),an (m.bh.map (bO m.ao)),aA (m.next.map (ey m.ao)),an (m.trans.map (bO m.ao)),an (m.bb.map (bO m.ao)),bj (m.bc.map (gb m.ao)),a8 (e8 (iW m s) 0 S),bB S,c,d,e]):=by
 have A:=C c (.inl rfl);have B:=C d (.inr (.inl rfl));have j:=C e (.inr (.inr rfl))
 have J:=h.iz.b.2.2.2.1;have ag:=ch (f:=wE n) S (λi (p:Nat×lX)=>[bY s,hs (k6 m s),aF true,a,b,aa S.length,aa (i:Int),aO m.vars,cc,an (m.bg.map (bO m.ao)),an (m.bh.map (bO m.ao)),aA (m.next.map (ey m.ao)),an (m.trans.map (bO m.ao)),an (m.bb.map (bO m.ao)),bj (m.bc.map (gb m.ao)),a8 p.2,bB S,c,d,e]) (λr p=>(.inl [a,b,aO m.vars,cc,an (m.bg.map (bO m.ao)),an (m.bh.map (bO m.ao)),aA (m.next.map (ey m.ao)),an (m.trans.map (bO m.ao)),an (m.bb.map (bO m.ao)),bj (m.bc.map (gb m.ao)),a8 (p.2++e8 (iW m s) p.1 r),bB S,c,d,e]:lZ⊕(lZ⊕(lZ⊕(lZ⊕D))))) (λi p=>p.1=i/\p.2.length<=i) ?_ ?_ n 0 (0,[]) sZ oZ (xag _)
 .exact ag
 .intro p _;simp only[wE,go_sem,yF ((S.length:Int)<S.length),A,B,j,e8,xat]
 rintro i t ⟨q,p⟩ F ag ⟨rfl,y⟩;have w:=I t (xad F);have H:=mj w;have z:=Ma h.gZ h.eg (mj aj) (nx:=true) (nn:=t) (λ_=>H) sZ (bn:=false) n bq (L:=m.trans) h.t J;rw[Uo]at z;have G:=alm h n bq (s:=s) H;have g:iW m s t=(m.next.all (k4 m s t)&&m.trans.all λx=>eP m.vars (cJ m.ao x).1 s t):=by unfold iW;rw[aj,w,xbm,xbm]
 have o:=yT ((q:Int)<(S.length:Int));have u:cI S.length (aa (q:Int))=some q:=iM ag;have E:b2 (p.length+1) 8=true:=sk (by have:=y;simp only at this;omega) (by have:=y;simp only at this;omega);have l:∀x,(aF x).flat=true:=λ_=>rfl;left;cases k:iW m s t with|true=>rw[g]at k;refine⟨(q+1,p++[q]),?_,by rw[e8,xac (by rw[g];exact k)];simp,rfl,by simp only at y⊢;simp;omega⟩;simp only[wE,go_sem,o,oO,u,Bx F,GQ,G,l,rv,p5,z,k,Bool.not_not,xal,xaA,E,A,B,j,bl q]|false=>rw[g]at k;refine⟨(q+1,p),?_,by rw[e8,xab (by rw[g,k];simp)],rfl,by simp only at y⊢;omega⟩;simp only[wE,go_sem,o,oO,u,Bx F,GQ,G,l,rv,p5,z,k,Bool.not_not,A,B,j,bl q]
theorem alQ(S:mX)(z:∀s∈S,hP m s=true)(ah:S.length<=5000):aR (wF n) n [aa S.length,aa 0,aO m.vars,cc,an (m.bg.map (bO m.ao)),an (m.bh.map (bO m.ao)),aA (m.next.map (ey m.ao)),an (m.trans.map (bO m.ao)),an (m.bb.map (bO m.ao)),bj (m.bc.map (gb m.ao)),bB S,bx [],a8 [],b0 []]=some (.inl [bB S,bx (S.map λs=>e8 (iW m s) 0 S),a8 (e8 (mi m) 0 S),b0 (S.map (hr m))]):=by
 have ag:=ch (f:=wF n) S (λi (p:Nat×mZ×lX×mY)=>[aa S.length,aa (i:Int),aO m.vars,cc,an (m.bg.map (bO m.ao)),an (m.bh.map (bO m.ao)),aA (m.next.map (ey m.ao)),an (m.trans.map (bO m.ao)),an (m.bb.map (bO m.ao)),bj (m.bc.map (gb m.ao)),bB S,bx p.2.1,a8 p.2.2.1,b0 p.2.2.2]) (λr p=>(.inl [bB S,bx (p.2.1++r.map λs=>e8 (iW m s) 0 S),a8 (p.2.2.1++e8 (mi m) p.1 r),b0 (p.2.2.2++r.map (hr m))]:lZ⊕D)) (λi p=>p.1=i/\p.2.1.length=i/\p.2.2.1.length<=i/\p.2.2.2.length=i) ?_ ?_ n 0 (0,[],[],[]) sZ oZ (xag _);.exact ag
 .intro p _;simp only[wF,go_sem,yF ((S.length:Int)<S.length),e8,xbc,xat]
 rintro i s ⟨q,nx,a,g⟩ aj ag ⟨rfl,ab,ad,ai⟩;simp only at ab ad ai;have d:=z s (xad aj);have u:=mj d;have k:=Ma h.gZ h.eg u (nx:=false) (nn:=[]) sZ (λ_=>rfl) (bn:=true) n bq (L:=m.bg) h.i h.iz.b.1;rw[xc]at k;have A:mi m s=m.bg.all λt=>eP m.vars (cJ m.ao t).1 s []:=by unfold mi;rw[d,xbm]
 rw[<-A]at k;have l:=yT ((q:Int)<(S.length:Int));have o:cI S.length (aa (q:Int))=some q:=iM ag;have c5:b2 (a.length+1) 8=true:=eE;have dk:b2 (g.length+1) 24=true:=eE;have F:b2 (nx.length+1) 24=true:=eE;have e:dN (an (m.bb.map (bO m.ao)))=some (aa m.bb.length):=by rw[Be,xaU]
 have C:=alk h n bq u;have B:D.aw 1 ([]:mW)=aH []:=rfl;have E:∀x,(aF x).flat=true:=λ_=>rfl;left;cases w:mi m s with
 |true=>rw[w]at k;have j:=V9 h n bq u (aa S.length) (aa (q:Int)) (bB S) (bx nx) (a8 (a++[q])) (b0 g) (by rintro x (rfl|rfl|rfl|rfl)<;>rfl);have c:=Wa h n bq S z ah d (aa S.length) (aa (q:Int)) (bx nx) (a8 (a++[q])) (b0 (g++[hr m s])) (by rintro x (rfl|rfl|rfl)<;>rfl);have y:aH []=a8 []:=rfl;rw[<-y]at c;refine⟨(q+1,nx++[e8 (iW m s) 0 S],a++[q],g++[hr m s]),?_,by rw[e8,xac w];simp,rfl,by simp[ab],by simp only;simp;omega,by simp[ai]⟩;simp only[wF,go_sem,l,oO,o,Bx aj,k,xal,xaA,c5,e,B,j,GV,dk,GW,C,c,Bz,F,bl q]
 |false=>rw[w]at k;have j:=V9 h n bq u (aa S.length) (aa (q:Int)) (bB S) (bx nx) (a8 a) (b0 g) (by rintro x (rfl|rfl|rfl|rfl)<;>rfl);have c:=Wa h n bq S z ah d (aa S.length) (aa (q:Int)) (bx nx) (a8 a) (b0 (g++[hr m s])) (by rintro x (rfl|rfl|rfl)<;>rfl);have y:aH []=a8 []:=rfl;rw[<-y]at c;refine⟨(q+1,nx++[e8 (iW m s) 0 S],a,g++[hr m s]),?_,by rw[e8,xab (by rw[w];simp)];simp,rfl,by simp[ab],by simp only;omega,by simp[ai]⟩;simp only[wF,go_sem,l,oO,o,Bx aj,k,e,B,j,GV,xal,xaA,dk,GW,C,c,Bz,F,bl q]
theorem alR(k:∀v∈m.vars,iX v)(l:eQ m.vars<=4096)(i:stM m.vars=((eQ m.vars:Int),true)){q:D}(z:cz 2 q=true)(y:kW n [m.d]=some (.aC [q,aa 0])):s4 n [m.d]=some (.aC [kD m,aa 0]):=by
 have u:=alF m.vars n h.gZ oZ h.eg k l;have j:=ajK n m h.gZ h.eg oZ;rw[i]at j;have w:=aky h.iz n bq;have b:(gj m.vars [[]]).length<=4096:=by rw[GS];simpa using l
 have c:=alP h n bq (gj m.vars [[]]) (alw k) oZ;have A:(c8 m).length<=4096:=xbK (List.length_filter_le _ _) b;have a:=alQ h n bq (c8 m) (λs aj=>(xbL.1 aj).2) oZ;have e:decide (((eQ m.vars:Nat):Int)>4096)=false:=xax oZ;have o:D.aw 1 ([]:mW)=bB []:=rfl;have p:bB []=bx []:=rfl;have r:bB []=a8 []:=rfl;have t:bB []=b0 []:=rfl;have g:jv cc=true:=rfl;have x:cz 2 (.agg [aa 0,aa 0])=true:=rfl;have f:(gj m.vars [[]]).filter (hP m)=c8 m:=rfl;rw[<-p,<-t,<-r]at a;simp only[s4,Kt,go_sem,y,z,j,e,w,x,u,o,c,f,g,oO,a];rfl
theorem alS(c:∀v∈m.vars,iX v)(f:eQ m.vars<=4096)(a:stM m.vars=((eQ m.vars:Int),true)){q:D}(g:cz 2 q=true)(b:kW n [m.d]=some (.aC [q,aa 0])):pM n [m.d]=some (.aC [kD m,aa 0]):=by have e:pM n [m.d]=s4 n [m.d]:=rfl;rw[e];exact alR h n bq c f a g b
end
def gP{l:lX}{j k:Nat}(h:l[j]?=some k):ba 1 (a8 l) (aa (j:Int))=some [aa (k:Int)]:=by obtain⟨a,rfl⟩:=lV.1 h;simp[a8,a]
def alT(l:lX):dN (a8 l)=some (aa l.length):=by simp[a8]
attribute [go_sem] alT
def GX{l:mZ}{j:Nat}{k:lX}(h:l[j]?=some k):ba 1 (bx l) (aa (j:Int))=some [a8 k]:=by obtain⟨a,rfl⟩:=lV.1 h;simp[bx,a]
theorem alU{m:bH}:Bv m (hq m):=⟨eD,cc,m.bc.map (oM m.ao),VF,.inl rfl,rfl⟩
structure ml(m:bH):Prop where
 ia:rA m
 g:∀v∈m.vars,iX v
 p:eQ m.vars<=4096
 s:stM m.vars=((eQ m.vars:Int),true)
def ml.len{m:bH}(h:ml m):(c8 m).length<=4096:=xbK (List.length_filter_le _ _) (by rw[GS];simpa using h.p)
theorem alV{m:bH}{x:D}(a:Bv m x):ae x 0=aO m.vars:=by obtain⟨φ,e1,sp,_,_,rfl⟩:=a;rfl
section
variable{m:bH}(h:ml m)(n:Nat)(bq:13306000000<n)
include h bq
theorem alW{x:D}(o:oN m x):Ed n [x]=some (bB (c8 m)):=by
 obtain⟨y,k,B⟩:=GI h.ia n bq o;have t:cz 8 x=true:=rB o;have q:cz 8 y=true:=rB (.inr k);have d:=kC (m:=m) (.inr k);have a:=alV k;have b:=d;rw[a]at b;have z:=als y m.vars n q a b h.ia.gZ oZ h.ia.eg h.g h.p h.s;have A:(gj m.vars [[]]).length<=4096:=by rw[GS];simpa using h.p
 have ag:=ch (f:=zF n) (gj m.vars [[]]) (λi (p:mX)=>[bB (gj m.vars [[]]),aa (i:Int),ae y 0,ae y 1,ae y 2,ae y 3,ae y 4,ae y 5,ae y 6,ae y 7,bB p]) (λr p=>(.inl [bB (p++r.filter (hP m))]:lZ⊕D)) (λi p=>p.length<=i) ?_ ?_ n 0 [] sZ oZ (xag _);.have u:(aa ((0:Nat):Int))=aa 0:=rfl;have w:D.aw 1 ([]:mW)=bB []:=rfl;rw[u,xak,xaM]at ag;simp only[Ed,Q2,go_sem,t,kC o,B,q,d,z,w,ag];rfl
 .intro p _;simp only[zF,go_sem,yF (((gj m.vars [[]]).length:Int)<(gj m.vars [[]]).length),List.filter_nil,xat]
 intro i s p aj ag C;have e:=GJ h.ia n bq k s;have c:=yT ((i:Int)<((gj m.vars [[]]).length:Int));have l:b2 (p.length+1) 24=true:=eE;left;cases j:hP m s with|true=>rw[j]at e;refine⟨p++[s],?_,by rw[List.filter_cons,j];simp,by simp;omega⟩;simp only[zF,go_sem,c,lH aj,d,e,GQ,oO,xal,xaA,l,Mb,bl i]|false=>rw[j]at e;refine⟨p,?_,by rw[List.filter_cons,j];simp,by omega⟩;simp only[zF,go_sem,c,lH aj,d,e,bl i]
end
def Wb(l:mX):Prop:=l.Pairwise λs t=>eS s t<0
def Wb.lt{l:mX}(h:Wb l){i j:Nat}{s t:lY}(ag:l[i]?=some s)(b:l[j]?=some t)(a:i<j):eS s t<0:=by obtain⟨ab,rfl⟩:=lV.1 ag;obtain⟨ad,rfl⟩:=lV.1 b;exact List.pairwise_iff_getElem.1 h i j ab ad a
def Wc:∀(vs:List V)(pre s:lY)(out:mX),(∀v∈vs,iX v)->eb vs s->pre∈out->pre++s∈gj vs out
 |[],pre,s,out,_,b,h=>by have:s=[]:=List.length_eq_zero_iff.1 (by simpa using b.1);subst this;rw[xat];exact h|v::r,pre,[],out,_,b,_=>by have:=b.1;simp at this
 |v::r,pre,x::s,out,g,b,h=>by
  have a:=b.2 0 v x rfl rfl;have e:eb r s:=⟨by simpa using b.1,λi w y f k=>b.2 (i+1) w y (by simpa using f) (by simpa using k)⟩;have j:=g v sZ;have d:pre++[x]∈out.flatMap (hc v):=by
   refine List.mem_flatMap.2 ⟨pre,h,?_⟩;simp only[hc,xaK,xbU];refine⟨(x-ej v).toNat,?_,?_⟩
   .have g2:=j.2.1;have g1:=j.1;unfold V.span at g1 g2⊢;unfold ej;cases c:v.bool with
    |true=>rw[c]at a g1 g2;simp only[xaC]at a⊢;omega
    |false=>
     rw[c]at a g1 g2;simp only[xaq,xaG]at a g1 g2⊢;split at g1;.omega
     rw[xab oZ];split;.omega
     rename_i ai;rw[xab oZ,xab ai]at g2;omega
   congr 2
   unfold ej;cases c:v.bool with|true=>rw[c]at a;simp only[xaC]at a⊢;omega|false=>rw[c]at a;simp only[xaq,xaG]at a⊢;omega
  have:=Wc r (pre++[x]) s (out.flatMap (hc v)) (λw f=>g w (by simp[f])) e d;rw[gj];simpa using this
def Wd{m:bH}(h:ml m){s:lY}:s∈c8 m↔hP m s=true:=by unfold c8;rw[xbL];refine⟨λh=>h.2,λaj=>⟨?_,aj⟩⟩;have:=Wc m.vars [] s [[]] h.g (mj aj) sZ;simpa using this
def alX{m:bH}(h:ml m):∀s∈c8 m,s.length<=100:=by intro s aj;have:=(mj ((Wd h).1 aj)).1;have:=h.ia.eg;omega
def kf(b:Int):List V->Int->Bool
 |[],_=>true|v::r,a=>if a*v.span>b then false else kf b r (a*v.span)
def We(n:Nat)(w:200<n)(vs:List V)(t:gY vs)(ah:vs.length<=100)(p:∀v∈vs,iX v)(b:Int)(j:1<=b)(u:b<=4096):vG n [aO vs,aa b]=some (aF (kf b vs 1)):=by
 have ag:=ch (f:=zu n) vs (λi (a:Int)=>[aO vs,aa b,aa a,aa (i:Int)]) (λr a=>(if kf b r a=true then .inl []else .inr (aF false):lZ⊕D)) (λi a=>1<=a/\a<=b) ?_ ?_ n 0 1 ⟨by omega,j⟩ oZ (xag _);.have m:(aa ((0:Nat):Int))=aa 0:=rfl;rw[m,xak]at ag;cases l:kf b vs 1 with|true=>rw[l,xac rfl]at ag;simp only[vG,J7,go_sem,ag]|false=>rw[l,xab sZ]at ag;simp only[vG,J7,go_sem,ag]
 .intro a _;simp only[zu,go_sem,yF ((vs.length:Int)<vs.length),kf,xaC]
 rintro i v a c ag ⟨k,o⟩;obtain⟨g1,g2,_,_⟩:=p v (xad c);obtain⟨i1,i2,_⟩:=t.2 v (xad c);have g:=xf n v i1 i2;have q:1<=a*v.span:=by have:=xcj k g1 oZ oZ;simpa using this
 have s:a*v.span<=4096*64:=xcj oZ g2 oZ oZ;have d:aW false .mul (aa a) (aa v.span)=some (aa (a*v.span)):=qF oZ oZ;have e:=yT ((i:Int)<(vs.length:Int));by_cases h:a*v.span>b
 .right;rw[kf,xac h,xab sZ];simp only[zu,go_sem,e,eV c,g,d,xan h]
 left;refine⟨a*v.span,?_,by rw[kf,xab h],by omega,by omega⟩;simp only[zu,go_sem,e,eV c,g,d,xax h,bl i]
def Wf{b:Int}:∀{vs:List V}{a:Int},(∀v∈vs,1<=v.span)->kf b vs a=true->a<=b->a*(eQ vs:Nat)<=b
 |[],a,_,_,h=>by rw[eQ];simpa using h
 |v::r,a,d,c,h=>by
  rw[kf]at c;split at c;.cases c
  rename_i g;have:=Wf (λw f=>d w (by simp[f])) c oZ;have i:=d v sZ;rw[eQ];have e:v.span=(v.span.toNat:Int):=oZ
  rw[Int.natCast_mul,<-e,<-Int.mul_assoc];exact this
def Md{b N:Int}(d:b<=N):∀{vs:List V}{a:Int},kf b vs a=true->kf N vs a=true
 |[],a,_=>rfl
 |v::r,a,c=>by
  rw[kf]at c⊢;split at c;.cases c
  rename_i e;rw[xab oZ];exact Md d c
def Wg:∀(l:List V)(a:Int),1<=a->(∀v∈l,1<=v.span)->a*(eQ l:Nat)<=1073741824->iV l a=a*(eQ l:Nat)
 |[],a,_,_,_=>by simp[iV,eQ]
 |v::r,a,ab,ad,ai=>by
  have f:=ad v sZ;have aj:v.span=(v.span.toNat:Int):=oZ
  have i:(1:Int)<=(eQ r:Nat):=by
   have:∀l:List V,(∀v∈l,1<=v.span)->(1:Int)<=(eQ l:Nat):=by
    intro l
    induction l with
    |nil=>intro _;simp[eQ]
    |cons w q ih=>intro b;have ab:=b w sZ;have ad:=ih λx j=>b x (by simp[j]);rw[eQ,Int.natCast_mul];have:=xcj (show(1:Int)<=(w.span.toNat:Int) by omega) ad oZ oZ;simpa using this
   exact this r λw b=>ad w (by simp[b])
  have d:1<=a*v.span:=by have:=xcj ab f oZ oZ;simpa using this
  have e:a*v.span*(eQ r:Nat)<=1073741824:=by rw[eQ,Int.natCast_mul,<-aj,<-Int.mul_assoc]at ai;exact ai
  have g:a*v.span<=1073741824:=by have:=xcj (Int.le_refl (a*v.span)) i oZ oZ;omega
  have c:a<=1073741824:=by have:=xcj (Int.le_refl a) f oZ oZ;omega
  have h:max v.span 1=v.span:=oZ
  rw[iV,xac c,h,Wg r _ d (λw b=>ad w (by simp[b])) e,eQ,Int.natCast_mul,<-aj,Int.mul_assoc]
def alY{l:List V}(b:∀v∈l,iX v)(h:eQ l<=4096):stM l=((eQ l:Int),true):=by
 have c:kx l=false:=by
  unfold kx;rw[Bool.eq_false_iff,ne_eq,xbz];rintro⟨v,a,d⟩;have:=(b v a).1;have:v.span=0:=by simpa using d
  omega
 have e:=Wg l 1 oZ (λv a=>(b v a).1) oZ;rw[Int.one_mul]at e;unfold stM;rw[c,e,xab sZ,xab oZ]
def Wh(l:lX):a8 l=bY (l.map λ(k:Nat)=>(k:Int)):=by simp[a8,bY]
def alZ(l:mZ):bx l=bB (l.map λs=>s.map λ(k:Nat)=>(k:Int)):=by simp[bx,bB,Wh]
def Me:∀(s t:lY),s.length=t.length->((s.zip t).all (λp=>p.1==p.2)=true↔s=t)
 |[],[],_=>by simp|[],_::_,h=>by simp at h|_::_,[],h=>by simp at h|a::s,b::t,h=>by have:=Me s t (by simpa using h);simp only[List.zip_cons_cons,xbb,xam,this,xbQ,xbI]
def Wi(n:Nat)(s t:lY)(ah:s.length<n)(w:s.length<=1000000000)(q:t.length<=1000000000):s5 n [bY s,bY t]=some (aF (decide (s=t))):=by
 by_cases c:s.length=t.length
 .have ag:=ch (f:=AL n) (s.zip t) (λi (_:Unit)=>[bY s,bY t,aa (i:Int)]) (λr _=>(if r.all (λp=>p.1==p.2)=true then .inl []else .inr (aF false):lZ⊕D)) (λ_ _=>True) ?_ ?_ n 0 () trivial (by rw[List.length_zip];omega) (xag _)
  .have o:(aa ((0:Nat):Int))=aa 0:=rfl;have d:((s.length:Int) !=(t.length:Int))=false:=by simp[c]
   rw[o,xak]at ag;by_cases g:s=t;.rw[xac ((Me s t c).2 g)]at ag;rw[xan g];simp only[s5,Fa,go_sem,d,ag]
   rw[xab (λh=>g ((Me s t c).1 h))]at ag;rw[xax g];simp only[s5,Fa,go_sem,d,ag]
  .intro _ _;have e:(s.zip t).length=s.length:=by rw[List.length_zip];omega
   simp only[AL,go_sem,e,yF ((s.length:Int)<s.length),xcf,xaC]
  rintro i ⟨a,b⟩ _ ea ag _;have u:i<s.length:=by rw[List.length_zip]at ag;omega
  obtain⟨m,j⟩:s[i]?=some a/\t[i]?=some b:=by rw[List.getElem?_zip_eq_some]at ea;exact ea
  have k:=yT ((i:Int)<(s.length:Int));by_cases l:a=b;.left;subst l;refine⟨(),?_,by simp only[xbb,beq_self_eq_true,xbm],trivial⟩;simp only[AL,go_sem,k,lC m,lC j,bne_self_eq_false,bl i]
  right;have d:(a !=b)=true:=by simp[l]
  rw[xbb,xab (by simp[l])];simp only[AL,go_sem,k,lC m,lC j,d]
 have g:¬s=t:=λh=>c (by rw[h]);have d:((s.length:Int) !=(t.length:Int))=true:=by
  have:¬(s.length:Int)=(t.length:Int):=oZ
  simp[this]
 rw[xax g];simp only[s5,Fa,go_sem,d]
def Wj(n:Nat)(l:mX)(ah:l.length<n)(c:l.length<=1000000000)(aj:∀s∈l,s.length<n/\s.length<=1000000000):AM n [bB l,bB l]=some (aF true):=by
 have ag:=ch (f:=Fb n) l (λj (_:Unit)=>[bB l,bB l,aa (j:Int)]) (λ_ _=>(.inl []:lZ⊕D)) (λ_ _=>True) ?_ ?_ n 0 () trivial oZ (xag _);.have b:(aa ((0:Nat):Int))=aa 0:=rfl;rw[b]at ag;simp only[AM,RG,go_sem,bne_self_eq_false,ag]
 .intro _ _;simp only[Fb,go_sem,yF ((l.length:Int)<l.length)]
 intro j s _ h d _;obtain⟨ab,ad⟩:=aj s (xad h);have a:=Wi n s s ab ad ad;rw[xan rfl]at a;left;refine⟨(),?_,rfl,trivial⟩;simp only[Fb,go_sem,yT ((j:Int)<(l.length:Int)),lH h,a,bl j]
def al0(l:lW):dN (aH l)=some (aa l.length):=by simp[aH]
attribute [go_sem] al0
def rH{l:lW}{j:Nat}{b:Bool}(h:l[j]?=some b):ba 1 (aH l) (aa (j:Int))=some [aF b]:=by obtain⟨a,rfl⟩:=lV.1 h;simp[aH,a]
def Wk(n:Nat)(l:lW)(ah:l.length<n)(b:l.length<=1000000000):pN n [aH l,aH l]=some (aF true):=by
 have ag:=ch (f:=E9 n) l (λj (_:Unit)=>[aH l,aH l,aa (j:Int)]) (λ_ _=>(.inl []:lZ⊕D)) (λ_ _=>True) ?_ ?_ n 0 () trivial oZ (xag _);.have a:(aa ((0:Nat):Int))=aa 0:=rfl;rw[a]at ag;simp only[pN,RF,go_sem,bne_self_eq_false,ag]
 .intro _ _;simp only[E9,go_sem,yF ((l.length:Int)<l.length)]
 intro j s _ h c _;left;refine⟨(),?_,rfl,trivial⟩;simp only[E9,go_sem,yT ((j:Int)<(l.length:Int)),rH h,abv,bne_self_eq_false,bl j]
section
variable{m:bH}(h:ml m)(n:Nat)(bq:18446744073709551616<n)
include h bq
theorem al1{x:D}(E:oN m x)(i:Nat){s:lY}(aj:(c8 m)[i]?=some s)(b c d e A B C:D)(y:∀x,x=A\/x=B\/x=C->D.aw 1 (aE x)=x):aR (vP n) n [aa (i:Int),aa 0,ae x 0,ae x 1,ae x 2,ae x 3,ae x 4,ae x 5,ae x 6,ae x 7,b,c,d,e,bB (c8 m),a8 [],A,B,C]=some (.inl [aa (i:Int),ae x 0,ae x 1,ae x 2,ae x 3,ae x 4,ae x 5,ae x 6,ae x 7,b,c,d,e,bB (c8 m),a8 (e8 (iW m s) 0 (c8 m)),A,B,C]):=by
 have o:=y A (.inl rfl);have u:=y B (.inr (.inl rfl));have w:=y C (.inr (.inr rfl))
 have ah:=h.len;have ag:=ch (f:=vP n) (c8 m) (λk (p:Nat×lX)=>[aa (i:Int),aa (k:Int),ae x 0,ae x 1,ae x 2,ae x 3,ae x 4,ae x 5,ae x 6,ae x 7,b,c,d,e,bB (c8 m),a8 p.2,A,B,C]) (λr p=>(.inl [aa (i:Int),ae x 0,ae x 1,ae x 2,ae x 3,ae x 4,ae x 5,ae x 6,ae x 7,b,c,d,e,bB (c8 m),a8 (p.2++e8 (iW m s) p.1 r),A,B,C]:lZ⊕(lZ⊕(lZ⊕(lZ⊕D))))) (λk p=>p.1=k/\p.2.length<=k) ?_ ?_ n 0 (0,[]) ⟨rfl,by simp⟩ oZ (xag _)
 .exact ag
 .intro p _;simp only[vP,go_sem,yF (((c8 m).length:Int)<(c8 m).length),o,u,w,e8,xat]
 rintro k t ⟨q,p⟩ F H ⟨rfl,l⟩;have g:=akZ h.ia n oZ E s t;have a:=yT ((q:Int)<((c8 m).length:Int));have z:b2 (p.length+1) 8=true:=sk (by have:=l;simp only at this;omega) (by have:=l;simp only at this;omega);have G:c7 (aa (q:Int))=true:=rfl;left;cases j:iW m s t with|true=>rw[j]at g;refine⟨(q+1,p++[q]),?_,by rw[e8,xac j];simp,rfl,by have:=l;simp only at this⊢;simp;omega⟩;simp only[vP,go_sem,a,lH aj,lH F,kC E,g,G,xal,xaA,xav,z,o,u,w,bl q]|false=>rw[j]at g;refine⟨(q+1,p),?_,by rw[e8,xab (by rw[j];simp)],rfl,by have:=l;simp only at this⊢;omega⟩;simp only[vP,go_sem,a,lH aj,lH F,kC E,g,o,u,w,bl q]
theorem al2{x:D}(k:oN m x)(b c d e:D):aR (vQ n) n [aa 0,ae x 0,ae x 1,ae x 2,ae x 3,ae x 4,ae x 5,ae x 6,ae x 7,b,c,d,e,bB (c8 m),bx [],a8 [],b0 []]=some (.inl [b,c,d,e,bB (c8 m),bx ((c8 m).map (lG m)),a8 (rG m),b0 ((c8 m).map (hr m))]):=by
 have ah:=h.len;have ag:=ch (f:=vQ n) (c8 m) (λi (p:Nat×mZ×lX×mY)=>[aa (i:Int),ae x 0,ae x 1,ae x 2,ae x 3,ae x 4,ae x 5,ae x 6,ae x 7,b,c,d,e,bB (c8 m),bx p.2.1,a8 p.2.2.1,b0 p.2.2.2]) (λr p=>(.inl [b,c,d,e,bB (c8 m),bx (p.2.1++r.map (lG m)),a8 (p.2.2.1++e8 (mi m) p.1 r),b0 (p.2.2.2++r.map (hr m))]:lZ⊕D)) (λi p=>p.1=i/\p.2.1.length=i/\p.2.2.1.length<=i/\p.2.2.2.length=i) ?_ ?_ n 0 (0,[],[],[]) ⟨rfl,rfl,by simp,rfl⟩ oZ (xag _)
 .exact ag
 .intro p _;simp only[vQ,go_sem,yF (((c8 m).length:Int)<(c8 m).length),e8,xbc,xat]
 rintro i s ⟨q,nx,a,l⟩ aj ag ⟨rfl,ab,ad,ai⟩;simp only at ab ad ai;have u:=(xbL.1 (xad aj)).2;have o:=akX h.ia n oZ k s;have y:=ak0 h.ia n oZ k (mj u);have j:=yT ((q:Int)<((c8 m).length:Int));have c5:b2 (a.length+1) 8=true:=eE;have dk:b2 (l.length+1) 24=true:=eE;have z:b2 (nx.length+1) 24=true:=eE;have g:=al1 h n bq k q aj b c d e (bx nx) (a8 a) (b0 l) (by rintro x (rfl|rfl|rfl)<;>rfl);have w:D.aw 1 ([]:mW)=a8 []:=rfl;have A:c7 (aa (q:Int))=true:=rfl;left;cases t:mi m s with|true=>rw[t]at o;refine⟨(q+1,nx++[lG m s],a++[q],l++[hr m s]),?_,by rw[e8,xac t];simp,rfl,by simp[ab],by simp only;simp;omega,by simp[ai]⟩;simp only[vQ,go_sem,j,w,g,Bz,xal,xaA,xav,z,lH aj,kC k,o,A,c5,y,V7,GV,dk,GW,lG,bl q]|false=>rw[t]at o;refine⟨(q+1,nx++[lG m s],a,l++[hr m s]),?_,by rw[e8,xab (by rw[t];simp)];simp,rfl,by simp[ab],by simp only;omega,by simp[ai]⟩;simp only[vQ,go_sem,j,w,g,Bz,xal,xaA,xav,z,lH aj,kC k,o,y,V7,GV,dk,GW,lG,bl q]
end
theorem al3{w:Bool}{p:oX}:cE hB w p=some hB:=rfl
theorem al4(q:Int×(Int×Int)):e0 1 (cQ q)=some (aa q.2.2):=rfl
attribute [go_sem] al4
theorem al5(q:Int×(Int×Int)):e0 0 (cQ q)=some (.agg [aa q.1,aa q.2.1]):=rfl
attribute [go_sem] al5
theorem Wl(a b:Int):cz 2 (.agg [aa a,aa b])=true:=rfl
attribute [go_sem] Wl
def Wm{a:Int}(h:a=0):(a !=0)=false:=by simp[h]
def Mf{a:Int}(h:¬a=0):(a !=0)=true:=by simp[h]
def al6{a:Int}(h:a=0):(a==0)=true:=by simp[h]
def Wn{a:Int}(h:¬a=0):(a==0)=false:=by simp[h]
theorem Wo{m:bH}:cz 8 (hq m)=true/\D.agg [ae (hq m) 0,ae (hq m) 1,ae (hq m) 2,ae (hq m) 3,ae (hq m) 4,ae (hq m) 5,ae (hq m) 6,ae (hq m) 7]=hq m:=⟨rfl,rfl⟩
theorem oP.bK{m:bH}:ae (kD m) 0=bB (c8 m):=rfl
attribute [go_sem] oP.bK
theorem oP.c1{m:bH}:ae (kD m) 1=bx ((c8 m).map (lG m)):=rfl
attribute [go_sem] oP.c1
theorem oP.c2{m:bH}:ae (kD m) 2=a8 (rG m):=rfl
attribute [go_sem] oP.c2
theorem oP.b6{m:bH}:ae (kD m) 3=b0 ((c8 m).map (hr m)):=rfl
attribute [go_sem] oP.b6
theorem oP.agg{m:bH}:cz 4 (kD m)=true:=rfl
attribute [go_sem] oP.agg
theorem oP.eta{m:bH}:D.agg [bB (c8 m),bx ((c8 m).map (lG m)),a8 (rG m),b0 ((c8 m).map (hr m))]=kD m:=rfl
def kE:D:= .agg [cc,cc,cc,cc]
theorem Wp:cz 4 kE=true:=rfl
theorem al7:D.agg [ae kE 0,ae kE 1,ae kE 2,ae kE 3]=kE:=rfl
section
variable{m:bH}(hw:p2 m)(h:xx m)(n:Nat)(bq:18446744073709551616<n)
include hw h bq
theorem al8(b:¬(fZ m).2.2=0):pM n [m.d]=some (.aC [kE,aa (fZ m).2.2])/\vR n [m.d]=some (.aC [kE,aa (fZ m).2.2]):=by
 obtain⟨ab,ad⟩:=L6 hw h bq;have a:=Mf b;constructor
 .have e:pM n [m.d]=s4 n [m.d]:=rfl;rw[e];simp only[s4,Kt,go_sem,ab,a,kE]
 simp only[vR,Kd,go_sem,ad,a,kE]
theorem Wq(c:(fZ m).2.2=0)(d:kf 64 m.vars 1=true):ml m/\eQ m.vars<=64:=by
 have a:=V5 (L5 c).2.1;have f:=Wf (λv e=>(a v e).1) d oZ;have b:eQ m.vars<=64:=oZ
 exact⟨⟨VS hw h bq c,a,by omega,alY a oZ⟩,b⟩
theorem al9(f:(fZ m).2.2=0)(j:kf 64 m.vars 1=true):pM n [m.d]=some (.aC [kD m,aa 0])/\vR n [m.d]=some (.aC [kD m,aa 0]):=by
 obtain⟨G,w⟩:=Wq hw h n bq f j;obtain⟨ab,ad⟩:=L6 hw h bq;have e:kW n [m.d]=some (.aC [.agg [aa (fZ m).1,aa (fZ m).2.1],aa 0]):=by rw[ab];unfold cQ;rw[f]
 refine⟨alS G.ia n oZ G.g G.p G.s (Wl _ _) e,?_⟩;have r:=Vw G.ia.iz n oZ;have k:oN m (hq m):= .inr alU;have t:=alW G n oZ k;have c:=al2 G n bq k cc cc cc cc;have i:=We n oZ m.vars G.ia.gZ (by have:=G.ia.eg;omega) G.g 4096 oZ oZ;rw[Md oZ j]at i;have l:D.aw 1 ([]:mW)=bx []:=rfl;have o:bx []=a8 []:=rfl;have q:bx []=b0 []:=rfl;rw[<-o,<-q]at c;have u:c7 (bB (c8 m))=true:=rfl;have a2:∀a b,cz 2 (.agg [aa a,aa b])=true:=λ_ _=>rfl;simp only[vR,Kd,go_sem,ad,Wm f,i,r,(Wo (m:=m)).1,(Wo (m:=m)).2,t,u,l,c];rfl
end
def Mg{l:mY}{j:Nat}{b:lW}(h:l[j]?=some b):ba 1 (b0 l) (aa (j:Int))=some [aH b]:=by obtain⟨a,rfl⟩:=lV.1 h;simp[b0,a]
def Wr(l:mY):dN (b0 l)=some (aa l.length):=by simp[b0]
attribute [go_sem] Wr
def ama(n:Nat)(S:mX)(nx:mZ)(a:lX)(c:mY)(ab:S.length<=1000000)(ad:nx.length<=1000000)(ai:a.length<=1000000)(l:c.length<=1000000)(g1:∀s∈S,s.length<=1000000)(g2:∀s∈nx,s.length<=1000000)(g4:∀s∈c,s.length<=1000000)(o:18446744073709551616<n):wG n [.agg [bB S,bx nx,a8 a,b0 c],.agg [bB S,bx nx,a8 a,b0 c]]=some (aF true):=by
 have bR:=Wj n S oZ oZ λs aj=>by have:=g1 s aj;omega
 have cx:=Wj n (nx.map λs=>s.map λ(k:Nat)=>(k:Int)) uZ uZ λs aj=>by obtain⟨t,i,rfl⟩:=xaK.1 aj;have:=g2 t i;simp;omega
 rw[<-alZ]at cx;have fy:=Wi n (a.map λ(k:Nat)=>(k:Int)) (a.map λ(k:Nat)=>(k:Int)) uZ uZ uZ;rw[<-Wh,xan rfl]at fy;have ag:=ch (f:=Fc n) c (λj (_:Unit)=>[aa (j:Int),bB S,bx nx,a8 a,b0 c,bB S,bx nx,a8 a,b0 c]) (λ_ _=>(.inl [bB S,bx nx,a8 a,b0 c,bB S,bx nx,a8 a,b0 c]:lZ⊕D)) (λ_ _=>True) ?_ ?_ n 0 () trivial oZ (xag _)
 .have e:(aa ((0:Nat):Int))=aa 0:=rfl;have h:cz 4 (.agg [bB S,bx nx,a8 a,b0 c])=true:=rfl;have df:ae (.agg [bB S,bx nx,a8 a,b0 c]) 0=bB S/\ae (.agg [bB S,bx nx,a8 a,b0 c]) 1=bx nx/\ae (.agg [bB S,bx nx,a8 a,b0 c]) 2=a8 a/\ae (.agg [bB S,bx nx,a8 a,b0 c]) 3=b0 c:=⟨rfl,rfl,rfl,rfl⟩;rw[e]at ag;simp only[wG,RH,go_sem,h,df.1,df.2.1,df.2.2.1,df.2.2.2,bne_self_eq_false,ag,bR,cx,fy,rv,p5]
 .intro _ _;simp only[Fc,go_sem,yF ((c.length:Int)<c.length)]
 intro j b _ d m _;have g:=Wk n b (by have:=g4 b (xad d);omega) (by have:=g4 b (xad d);omega);left;refine⟨(),?_,rfl,trivial⟩;simp only[Fc,go_sem,yT ((j:Int)<(c.length:Int)),Mg d,g,bl j]
theorem amb(n:Nat):wG (n+1) [kE,kE]=some (aF true):=rfl
def GY(p:lY->Bool):∀(l:mX) (i:Nat),(e8 p i l).length<=l.length
 |[],i=>xaR _
 |s::r,i=>by
  have:=GY p r (i+1);unfold e8;split;.simp;omega
  simp;omega
def amc{m:bH}(G:ml m)(n:Nat)(c:18446744073709551616<n):wG n [kD m,kD m]=some (aF true):=by
 have ah:=G.len;have a:=G.ia.iz.b;refine ama n (c8 m) ((c8 m).map (lG m)) (rG m) ((c8 m).map (hr m)) oZ uZ ?_ uZ (λs aj=>by have:=alX G s aj;omega) ?_ ?_ c
 .have:=GY (mi m) (c8 m) 0;show(e8 (mi m) 0 (c8 m)).length<=_;omega
 .intro s aj;obtain⟨t,_,rfl⟩:=xaK.1 aj;have:=GY (iW m t) (c8 m) 0;show(e8 (iW m t) 0 (c8 m)).length<=_;omega
 intro s aj;obtain⟨t,_,rfl⟩:=xaK.1 aj;have:=a.2.2.2.2.1;simp[hr];omega
structure Mh(m:bH):Prop where
 t:∀t∈rC m,t.aS<=660000
 s:∀s∈m.bc,s.f.aS<=660000
def amd{m:bH}(k:p2 m)(ah:GK m)(aj:Mh m)(n:Nat)(j:18446744073709551616<n)(a:Int)(m1:1<=a)(m64:a<=64):∃b:Bool,qU n [m.d,aa a]=some (aF b)/\(b=true->xx m/\((fZ m).2.2=0->kf 64 m.vars 1=true)):=by
 obtain⟨q,r,u,w,x,y,z,A⟩:=ah;by_cases ab:m.vars.length>12;.have d1:=yT ((m.vars.length:Int)>12);exact⟨false,by simp-implicitDefEqProofs only[qU,vH,go_sem,d1,L1,p5],by simp⟩
 have d1:=yF ((m.vars.length:Int)>12);have aG:aW false .add (aa (m.ao.length:Int)) (aa (m.bg.length:Int))=some (aa ((m.ao.length:Int)+m.bg.length)):=dw oZ oZ;have a2:aW false .add (aa ((m.ao.length:Int)+m.bg.length)) (aa (m.bh.length:Int))=some (aa ((m.ao.length:Int)+m.bg.length+m.bh.length)):=dw oZ oZ;have a3:aW false .add (aa ((m.ao.length:Int)+m.bg.length+m.bh.length)) (aa (m.next.length:Int))=some (aa ((m.ao.length:Int)+m.bg.length+m.bh.length+m.next.length)):=dw oZ oZ;have a4:aW false .add (aa ((m.ao.length:Int)+m.bg.length+m.bh.length+m.next.length)) (aa (m.trans.length:Int))=some (aa ((m.ao.length:Int)+m.bg.length+m.bh.length+m.next.length+m.trans.length)):=dw oZ oZ;have a5:aW false .add (aa ((m.ao.length:Int)+m.bg.length+m.bh.length+m.next.length+m.trans.length)) (aa (m.bb.length:Int))=some (aa ((m.ao.length:Int)+m.bg.length+m.bh.length+m.next.length+m.trans.length+m.bb.length)):=dw oZ oZ;have f:aW false .add (aa ((m.ao.length:Int)+m.bg.length+m.bh.length+m.next.length+m.trans.length+m.bb.length)) (aa (m.bc.length:Int))=some (aa ((m.ao.length:Int)+m.bg.length+m.bh.length+m.next.length+m.trans.length+m.bb.length+m.bc.length)):=dw oZ oZ;by_cases ad:(m.ao.length:Int)+m.bg.length+m.bh.length+m.next.length+m.trans.length+m.bb.length+m.bc.length>40
 .have d2:=xan ad;exact⟨false,by simp-implicitDefEqProofs only[qU,vH,go_sem,d1,aG,a2,a3,a4,a5,f,d2,Bt,Bu],by simp⟩
 have d2:=xax ad;have g:xx m:=⟨by unfold VM;omega,aj.t,aj.s⟩;have i:=(L6 k g j).2;have df:ae (.agg [aa (fZ m).1,aa (fZ m).2.1]) 1=aa (fZ m).2.1:=rfl;by_cases c:(fZ m).2.2=0
 .have p:=V5 (L5 c).2.1;have V:=VS k g j c;have o:=We n oZ m.vars V.gZ oZ p a m1 oZ;refine⟨kf a m.vars 1,?_,λl=>⟨g,λ_=>Md m64 l⟩⟩;simp-implicitDefEqProofs only[qU,vH,go_sem,d1,aG,a2,a3,a4,a5,f,d2,Bt,rv,L0,Bu,p5,i,Wm c,al6 c,o]
 by_cases e:(fZ m).2.1<64;.have d3:=xan e;refine⟨true,?_,λ_=>⟨g,λh=>absurd h c⟩⟩;simp-implicitDefEqProofs only[qU,vH,go_sem,d1,aG,a2,a3,a4,a5,f,d2,Bt,rv,L1,al3,Bu,p5,i,Mf c,Wn c,df,d3]
 have d3:=xax e;refine⟨false,?_,by simp⟩;simp-implicitDefEqProofs only[qU,vH,go_sem,d1,aG,a2,a3,a4,a5,f,d2,Bt,rv,L0,Bu,p5,i,Mf c,Wn c,df,d3]
end Go.Am
