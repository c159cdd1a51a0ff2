/- Laws, on data. No condition. -/
import Derived.Test.YtjonbfbkkkcjgaaGreatDoorEngC
import Derived.Test.YtjonbfbkkkcjgaaGreatDoorCode
import Derived.Test.YtjonbfbkkkcjgaaGreatDoorEngS
import Derived.Test.YtjonbfbkkkcjgaaGreatDoorEngD
import Derived.Test.YtjonbfbkkkcjgaaGreatDoorWs
import Derived.Test.YtjonbfbkkkcjgaaGreatDoorLaws
set_option linter.all false
set_option linter.unnecessarySimpa false
attribute [simp] Go.Am.sj
namespace Go.Am
section
variable{bt:Bool}{a b:Int}
@[simp] theorem aoL:aW bt .lss (ld a) (.val (.int .u8 b))=some (aF (decide (a<b))):=rfl
@[simp] theorem F9:aW bt .leq (ld a) (.val (.int .u8 b))=some (aF (decide (a<=b))):=rfl
@[simp] theorem aoM:aW bt .gtr (ld a) (.val (.int .u8 b))=some (aF (decide (a>b))):=rfl
@[simp] theorem Ga:aW bt .geq (ld a) (.val (.int .u8 b))=some (aF (decide (a>=b))):=rfl
@[simp] theorem aiH:aW bt .eql (ld a) (.val (.int .u8 b))=some (aF (a==b)):=rfl
end
def Gb{s:ByteArray}{i:Nat}{b:UInt8}(h:s[i]?=some b):mG (aD s) (aa (i:Int))=some (ld b.toNat):=by simp[mG,aD,aa,BQ,h,kL,ld]
def UD{s:ByteArray}{b:UInt8}(h:s[0]?=some b):mG (aD s) (aa 0)=some (ld b.toNat):=Gb (i:=0) h
theorem UE(n:Nat)(c:Int):zI n [ld c]=some (aF (nU c)):=by simp only[zI,Q4,nU,Ga,F9,cL,cb,aN,aT,c0,km,bo];cases decide (c>=97)<;>cases decide (c<=122)<;>cases decide (c>=65)<;>cases decide (c<=90)<;>rfl
theorem aiI(n:Nat)(c:Int):Eg n [ld c]=some (aF (r0 c)):=by simp only[Eg,Q5,r0,Ga,F9,cL,cb,aN,aT,km];cases decide (c>=48)<;>cases decide (c<=57)<;>rfl
theorem UF(n:Nat)(c:Int):Eh n [ld c]=some (aF (ju c)):=by simp only[Eh,Q6,ju,UE,aiI,aiH,cL,aT,c0,km];cases nU c<;>cases r0 c<;>cases(c==95)<;>rfl
theorem UG(n:Nat)(c:Int):yZ n [ld c]=some (aF (nU c)):=by simp only[yZ,Qz,nU,Ga,F9,cL,cb,aN,aT,c0,km,bo];cases decide (c>=97)<;>cases decide (c<=122)<;>cases decide (c>=65)<;>cases decide (c<=90)<;>rfl
theorem aiJ(n:Nat)(c:Int):DM n [ld c]=some (aF (r0 c)):=by simp only[DM,QA,r0,Ga,F9,cL,cb,aN,aT,km];cases decide (c>=48)<;>cases decide (c<=57)<;>rfl
def UH(p:Int->Bool)(s:ByteArray):(∀j:Nat,j<ki p s->kK p s j=true)/\kK p s (ki p s)=false/\ki p s<=s.size:=by
 unfold ki;cases h:(List.range (s.size+1)).find? (λi=>!kK p s i)with
 |none=>
  exfalso;have ab:=List.find?_eq_none.1 h s.size sZ;have:kK p s s.size=true:=by simpa using ab
  exact absurd (Y5 this) (xcb _)
 |some m=>rw[List.find?_range_eq_some]at h;obtain⟨ab,ad,ai⟩:=h;refine⟨λj a=>by simpa using ai j a,by simpa using ab,by show m<=s.size;simp at ad;omega⟩
def UI{p:Int->Bool}{s:ByteArray}{i:Nat}(h:kK p s i=true):∃b:UInt8,s[i]?=some b/\p b.toNat=true:=by
 unfold kK at h;split at h;.exact⟨_,by assumption,h⟩
 cases h
def UJ{p:Int->Bool}{s:ByteArray}{i:Nat}(h:kK p s i=false):(s[i]?=none/\s.size<=i)\/∃b:UInt8,s[i]?=some b/\i<s.size/\p b.toNat=false:=by
 unfold kK at h;split at h
 .rename_i b a;refine .inr ⟨b,a,?_,h⟩;rw[Cl]at a;by_cases ab:i<s.size;.exact ab
  rw[dif_neg ab]at a;cases a
 rename_i a;refine .inl ⟨a,?_⟩;rw[Cl]at a;by_cases ab:i<s.size;.rw[dif_pos ab]at a;cases a
 omega
def aiK(n:Nat)(s:ByteArray)(e:s.size<n)(aj:s.size<=9223372036854775807):zK n [aD s,.val (.func (.func yE) #[] #[])]=some (aa (ki ju s)):=by
 obtain⟨ab,ad,ai⟩:=UH ju s;have key:aR (zJ n) n [aD s,aa 0]=some (.inl [aa (ki ju s)]):=by
  refine iJ (λi=>[aD s,aa i]) (ki ju s) rfl ?_ ?_ oZ;.intro i ag;obtain⟨b,a,c⟩:=UI (ab i ag);simp(disch:=omega) [zJ,Gb a,UF,c,dw,show i<s.size by omega]
  rcases UJ ad with⟨a,c⟩|⟨b,a,d,c⟩;.simp[zJ,show¬(ki ju s<s.size) by omega]
  simp[zJ,Gb a,UF,c,d]
 simp[zK,Ke,key]
def aiL(n:Nat)(s:ByteArray)(f:s.size<n)(aj:s.size<=9223372036854775807):DN n [aD s,aa 0,aF false]=some (aa (ki ju s)):=by
 obtain⟨ab,ad,ai⟩:=UH ju s;have one:∀(i:Nat)(b:UInt8),s[i]?=some b->i<s.size->y0 n [aD s,aa i,aF false]=if ju b.toNat=true then some (.inl [aD s,aa (i+1:Nat),aF false])else some (.inr (.inl [aa i])):=by intro i b a ag;simp(disch:=omega) [y0,Gb a,aiJ,UG,ju,dw,ag];by_cases d:((b.toNat:Int)=95)<;>cases r0 b.toNat<;>cases nU b.toNat<;>simp[d]
 have key:aR (y0 n) n [aD s,aa 0,aF false]=some (.inl [aa (ki ju s)]):=by
  refine iJ (λi=>[aD s,aa i,aF false]) (ki ju s) rfl ?_ ?_ oZ;.intro i ag;obtain⟨b,a,c⟩:=UI (ab i ag);rw[one i b a oZ,xac c]
  rcases UJ ad with⟨a,c⟩|⟨b,a,e,c⟩;.simp[y0,show¬(ki ju s<s.size) by omega]
  rw[one _ b a e,xab (by simp[c])]
 simp[DN,QB,key]
def pY(p:Nat->Prop)[DecidablePred p]:∀m:Nat,(∀j:Nat,j<m->¬p j)\/∃i,i<m/\p i/\∀j:Nat,j<i->¬p j
 |0=> .inl (by intro j c;omega)
 |m+1=>by
  rcases pY p m with h|⟨i,ab,ad,ai⟩
  .by_cases b:p m;.exact .inr ⟨m,by omega,b,h⟩
   refine .inl λj c=>?_;by_cases a:j=m;.subst a;exact b
   exact h j oZ
  exact .inr ⟨i,by omega,ad,ai⟩
def aiM(n:Nat)(l:List ByteArray)(x:ByteArray)(d:l.length<n)(ah:l.length<4000000000000000000):zL n [cB l,aD x]=some (aa (idxOf x l)):=by
 have step:∀(i:Nat)(y:ByteArray),l[i]?=some y->i<l.length->vS n [cB l,aD x,aa l.length,aa i]=if x=y then some (.inr (.inr (aa i)))else some (.inl [cB l,aD x,aa l.length,aa (i+1:Nat)]):=by intro i y a ag;obtain⟨_,rfl⟩:=lV.1 a;simp(disch:=omega) [vS,cB,ag,dw]
 rcases pY (λi=>l[i]?=some x) l.length with h|⟨i,ab,ad,ai⟩
 .have key:aR (vS n) n [cB l,aD x,aa l.length,aa 0]=some (.inl []):=by
   refine iJ (λi=>[cB l,aD x,aa l.length,aa i]) l.length rfl ?_ ?_ d;.intro i ag;have a:=xaa ag;rw[step i _ a ag,xab];intro b;exact h i ag (by rw[a,b])
   simp[vS]
  have e:(cB l)= .aw 1 (l.map λs=>[aD s]):=rfl;simp[zL,Kf,Oc h];rw[e]at key⊢;simp[key]
 have key:aR (vS n) n [cB l,aD x,aa l.length,aa 0]=some (.inr (aa i)):=by
  refine iJ (λi=>[cB l,aD x,aa l.length,aa i]) i rfl ?_ ?_ oZ;.intro j c;have a:=xaa (oZ:j<l.length);rw[step j _ a oZ,xab];intro b;exact ai j c (by rw[a,b])
  rw[step i x ad ab,xac rfl]
 simp[zL,Kf,Od ai ad];have e:(cB l)= .aw 1 (l.map λs=>[aD s]):=rfl;rw[e]at key⊢;simp[key]
def aiN(n:Nat)(l:List ByteArray)(x:ByteArray)(a:l.length<n)(ah:l.length<4000000000000000000):Ei n [cB l,aD x]=some (aF (has x l)):=by simp[Ei,Q7,aiM n l x a ah,Oe]
def aiO(n:Nat)(l:List ByteArray)(x:ByteArray)(d:l.length<n)(ah:l.length<4000000000000000000):y1 n [cB l,aD x]=some (aF (has x l)):=by
 have step:∀(i:Nat)(y:ByteArray),l[i]?=some y->i<l.length->vq n [cB l,aD x,aa i]=if y=x then some (.inr (.inr (aF true)))else some (.inl [cB l,aD x,aa (i+1:Nat)]):=by intro i y a ag;obtain⟨_,rfl⟩:=lV.1 a;simp(disch:=omega) [vq,cB,ag,dw]
 rcases pY (λi=>l[i]?=some x) l.length with h|⟨i,ab,ad,ai⟩
 .have key:aR (vq n) n [cB l,aD x,aa 0]=some (.inl []):=by
   refine iJ (λi=>[cB l,aD x,aa i]) l.length rfl ?_ ?_ d;.intro i ag;have a:=xaa ag;rw[step i _ a ag,xab];intro b;exact h i ag (by rw[a,b])
   simp[vq,cB]
  simp[y1,JV,key,Og h]
 have key:aR (vq n) n [cB l,aD x,aa 0]=some (.inr (aF true)):=by
  refine iJ (λi=>[cB l,aD x,aa i]) i rfl ?_ ?_ oZ;.intro j c;have a:=xaa (oZ:j<l.length);rw[step j _ a oZ,xab];intro b;exact ai j c (by rw[a,b])
  rw[step i x ad ab,xac rfl]
 simp[y1,JV,key,Of ad]
theorem aiP(n:Nat):JU n []=some (cB words):=rfl
theorem aiQ:(D.aw 1 (yB.map λc=>[c]))=cB words:=rfl
def LD(n:Nat)(s:ByteArray)(e:s.size+24<n)(aj:s.size<=9223372036854775807):sP n [aD s]=some (aF (isName s)):=by
 have f:words.length=24:=rfl;have ab:=aiK n s oZ aj;have ad:=aiN n words s oZ oZ;rcases Oh s with⟨a,c⟩|⟨b,a,c,d⟩
 .simp[sP,Kg,a,isName,c]
 simp only[sP,Kg,isName,kK,d,UD d,UE,ab,ad,aiQ,PE,a,c,I8,CZ,uI,uK,cL,cb,aN,aT,km,al];cases decide ((s.size:Int)<=24)<;>cases nU b.toNat<;>cases((ki ju s:Int)==(s.size:Int))<;>cases has s words<;>rfl
def LF(n:Nat)(s:ByteArray)(e:s.size+24<n)(aj:s.size<=9223372036854775807):sE n [aD s]=some (aF (isName s)):=by
 have f:words.length=24:=rfl;have ab:=aiL n s oZ aj;have ad:=aiO n words s oZ oZ;rcases Oh s with⟨d,a⟩|⟨b,d,a,c⟩
 .simp only[sE,JW,I8,yl,cL,a,cb,aN,aT,km,bo,al,bE];simp[isName,a]
 simp only[sE,JW,isName,kK,c,UD c,UG,ab,ad,aiP,a,I8,CZ,yl,uI,uK,cL,cb,aN,aT,km,bo,al,bE];cases decide ((s.size:Int)<=24)<;>cases nU b.toNat<;>cases((ki ju s:Int)==(s.size:Int))<;>cases has s words<;>rfl
def aiR(n:Nat)(w v:V):zM n [w.d,.ref v.cells 0]=some (aF (decide (w.name=v.name))):=by simp[zM,Kh,V.d,V.cells]
def aiS(n:Nat)(l:List V)(v:V)(g:l.length<n)(ah:l.length<4000000000000000000):vT n [aO l,.fn (.func n9) [] [.ref v.cells 0]]=some (aa (idxOf v.name (l.map V.name))):=by
 have c:(l.map V.name).length=l.length:=sZ
 have step:∀(i:Nat)(y:V),l[i]?=some y->i<l.length->sQ n [aO l,.ref v.cells 0,aa l.length,aa i]=if y.name=v.name then some (.inr (.inr (aa i)))else some (.inl [aO l,.ref v.cells 0,aa l.length,aa (i+1:Nat)]):=by intro i y a ag;obtain⟨_,rfl⟩:=lV.1 a;have ab:=aiR n l[i] v;simp only[V.d,V.cells]at ab;simp(disch:=omega) [sQ,aO,ag,dw,V.cells,ab]
 have e:∀x,vT n [aO l,.fn (.func n9) [] [x]]=af (aR (sQ n) n [aO l,x,aa l.length,aa 0]) (aI λls=>some (aa (-1))):=by intro x;simp only[vT,jH,Ki,bf,al];simp[aO]
 rw[e];rcases pY (λi=>(l.map V.name)[i]?=some v.name) l.length with h|⟨i,ab,ad,ai⟩
 .have key:aR (sQ n) n [aO l,.ref v.cells 0,aa l.length,aa 0]=some (.inl []):=by
   refine iJ (λi=>[aO l,.ref v.cells 0,aa l.length,aa i]) l.length rfl ?_ ?_ g;.intro i ag;have a:=xaa ag;rw[step i _ a ag,xab];intro b;exact h i ag (by rw[xah,a,<-b];rfl)
   simp[sQ]
  rw[key,Oc (by rw[c];exact h)];rfl
 have key:aR (sQ n) n [aO l,.ref v.cells 0,aa l.length,aa 0]=some (.inr (aa i)):=by
  refine iJ (λi=>[aO l,.ref v.cells 0,aa l.length,aa i]) i rfl ?_ ?_ oZ;.intro j f;have a:=xaa (oZ:j<l.length);rw[step j _ a oZ,xab];intro b;exact ai j f (by rw[xah,a,<-b];rfl)
  have a:=xaa ab;rw[step i _ a ab,xac];rw[xah,a]at ad;simpa using ad
 rw[key,Od ai ad];rfl
def aiT(n:Nat)(l:List V)(v:V)(a:l.length<n)(ah:l.length<4000000000000000000):zN n [aO l,.fn (.func n9) [] [.ref v.cells 0]]=some (aF (has v.name (l.map V.name))):=by simp only[zN,jH,Kj,aiS n l v a ah,aT,al];simp[Oe]
def LG{k:Nat}{es:mW}{i:Nat}(h:i<=es.length):j3 k (.aw k es) none (some (aa (i:Int)))=some (.aw k (es.take i)):=by simp[j3,lf,aa,h]
def ic(v:V):Bool:=v.bool&&(v.lo !=0||v.ag !=0)
def LH(v:V):Bool:=!v.bool&&(decide (v.lo>v.ag)||o8 v||decide (IntKind.i64.wrap (v.ag-v.lo)>=64))
theorem UK(seen:List V)(v:V):um seen v=if !isName v.name then 12 else if has v.name (seen.map V.name)then 6 else if ic v then 3 else if LH v then 2 else 0:=rfl
def gY(l:List V):Prop:=l.length<1000000000000/\∀v∈l,j1 v.lo/\j1 v.ag/\v.name.size<=9223372036854775807
def LI(n:Nat)(l:List V)(ah:gY l)(w:l.length<n)(a:∀v∈l,v.name.size+24<n)(i:Nat)(ag:i<l.length):sR n [aO l,aO l,aa l.length,aa i]=if gJ l i=0 then some (.inl [aO l,aO l,aa l.length,aa (i+1:Nat)])else some (.inr (.inr (.aC [aa i,aa (gJ l i)]))):=by
 have c:=xaa ag;have x:=ah.2 _ (xaV ag);have b:=ah.1;have e:gJ l i=um (l.take i) l[i]:=by simp only[gJ,c]
 rw[e];generalize o:l[i]=v at*;have ab:=LD n v.name (a v (o▸xaV ag)) oZ;have ad:=aiT n (l.take i) v (by rw[xby];omega) (by rw[xby];omega);have ai:j3 4 (aO l) none (some (aa (i:Int)))=some (aO (l.take i)):=by rw[aO,LG uZ,List.map_take.symm];rfl
 have f:ba 4 (aO l) (aa (i:Int))=some v.cells:=by simp[aO,c]
 have g:aW false .lss (aa (i:Int)) (aa (l.length:Int))=some (aF true):=by simp[ag]
 have h:aW false .add (aa (i:Int)) (aa 1)=some (aa (i+1:Nat)):=by rw[dw oZ oZ];rfl
 have j:aW false .sub (aa v.ag) (aa v.lo)=some (aa (IntKind.i64.wrap (v.ag-v.lo))):=rfl;have k:aQ true 4 0 v.cells=some v.d:=rfl;have m:cz 4 v.d=true:=rfl;have bK:ae v.d 0=aD v.name:=rfl;have c1:ae v.d 1=aF v.bool:=rfl;have c2:ae v.d 2=aa v.lo:=rfl;have b6:ae v.d 3=aa v.ag:=rfl;have e2:(D.ref [aD v.name,aF v.bool,aa v.lo,aa v.ag] 0)= .ref v.cells 0:=rfl;have g1:o8 v=(decide ((if v.ag>v.lo then v.ag else v.lo)>255)||decide ((if v.ag<v.lo then v.ag else v.lo)< -255)):=rfl;rw[UK];simp only[sR,l7,mO,g,cL,iI,xaC,f,k,m,l5,bK,c1,c2,b6,e2,Ji,PM,ab,ad,ai,uK,lq,CY,PN,uJ,h,j,yl,cb,aN,av,aM,aT,c0,dP,bs,cf,aL,bw,dd,al];rw[ic,LH,g1];cases isName v.name
 .cases decide ((if v.ag>v.lo then v.ag else v.lo)>255)<;>simp
 cases has v.name ((l.take i).map V.name)
 rotate_left
 .cases decide ((if v.ag>v.lo then v.ag else v.lo)>255)<;>simp
 generalize decide ((if v.ag>v.lo then v.ag else v.lo)>255)=p;generalize decide ((if v.ag<v.lo then v.ag else v.lo)< -255)=q;generalize decide (v.lo>v.ag)=r;generalize decide (IntKind.i64.wrap (v.ag-v.lo)>=64)=s;generalize (v.lo !=0)=t;generalize (v.ag !=0)=u;cases v.bool<;>cases p<;>cases q<;>cases r<;>cases s<;>cases t<;>cases u<;>rfl
def aiU(n:Nat)(l:List V)(ah:gY l)(d:l.length<n)(a:∀v∈l,v.name.size+24<n):vU n [aO l]=some (.aC [aa (hT l).1,aa (hT l).2]):=by
 have e:vU n [aO l]=af (aR (sR n) n [aO l,aO l,aa l.length,aa 0]) (aI λls=>some (D.aC [aa 0,aa 0])):=by simp[vU,Q8,aO]
 rw[e];rcases pY (λi=>gJ l i≠0) l.length with h|⟨i,ab,ad,ai⟩
 .have b:∀j:Nat,j<l.length->gJ l j=0:=λj c=>by simpa using h j c
  have key:aR (sR n) n [aO l,aO l,aa l.length,aa 0]=some (.inl []):=by
   refine iJ (λi=>[aO l,aO l,aa l.length,aa i]) l.length rfl ?_ ?_ d;.intro i ag;rw[LI n l ah d a i ag,xac (b i ag)]
   simp[sR]
  rw[key,Oj b];rfl
 have b:∀j:Nat,j<i->gJ l j=0:=λj c=>by simpa using ai j c
 have key:aR (sR n) n [aO l,aO l,aa l.length,aa 0]=some (.inr (.aC [aa i,aa (gJ l i)])):=by
  refine iJ (λi=>[aO l,aO l,aa l.length,aa i]) i rfl ?_ ?_ oZ;.intro j c;rw[LI n l ah d a j oZ,xac (b j c)]
  rw[LI n l ah d a i ab,xab ad]
 rw[key,Oi b ab rfl ad];rfl
@[simp] theorem UL {a:Int}:j2 .u64 (aa a)=some (.val (.int .u64 (IntKind.u64.wrap a))):=rfl
theorem UM{k:IntKind}{a:Int}:j2 .i64 (.val (.int k a))=some (aa (IntKind.i64.wrap a)):=rfl
def LJ(n:Nat)(v:V)(ab:j1 v.lo)(ad:j1 v.ag):vV n [v.d]=some (aa v.span):=by
 have c1:ae v.d 1=aF v.bool:=rfl;have c2:ae v.d 2=aa v.lo:=rfl;have b6:ae v.d 3=aa v.ag:=rfl;have h:cz 4 v.d=true:=rfl;simp only[vV,Q9,h,l5,c1,c2,b6,iI,lq,cL,UL,aN,aM,aT,km,aL,al,bE];cases c:v.bool with
 |true=>simp[V.Oa c]
 |false=>
  by_cases b:v.lo>v.ag;.simp[V.Ob c b,b]
  have a:v.lo<=v.ag:=oZ
  have f:aW false .sub (.val (.int .u64 (IntKind.u64.wrap v.ag))) (.val (.int .u64 (IntKind.u64.wrap v.lo)))=some (.val (.int .u64 (v.ag-v.lo))):=by show some (D.val (.int .u64 (IntKind.u64.wrap (IntKind.u64.wrap v.ag-IntKind.u64.wrap v.lo))))=_;rw[N9 ab ad a]
  have g:aW false .lss (.val (.int .u64 (v.ag-v.lo))) (.val (.int .u64 1073741824))=some (aF (decide (v.ag-v.lo<1073741824))):=rfl;simp only[b,decide_false,xaq,xaG,f,g,cL,iI];by_cases e:v.ag-v.lo<1073741824;.rw[V.H3 c a e];simp only[e,decide_true,xaC,UM,cL,wrap64 _ (show-9223372036854775808<=v.ag-v.lo by omega) oZ];rw[dw oZ oZ];rfl
  rw[V.H4 c a oZ];simp[e]
def xf(n:Nat)(v:V)(ab:j1 v.lo)(ad:j1 v.ag):pz n [v.d]=some (aa v.span):=by
 have c1:ae v.d 1=aF v.bool:=rfl;have c2:ae v.d 2=aa v.lo:=rfl;have b6:ae v.d 3=aa v.ag:=rfl;have h:cz 4 v.d=true:=rfl;simp only[pz,QD,h,l5,c1,c2,b6,iI,lq,cL,UL,aN,av,aM,aT,km,aL,al,bE];cases c:v.bool with
 |true=>simp[V.Oa c]
 |false=>
  by_cases b:v.lo>v.ag;.simp[V.Ob c b,b]
  have a:v.lo<=v.ag:=oZ
  have f:aW false .sub (.val (.int .u64 (IntKind.u64.wrap v.ag))) (.val (.int .u64 (IntKind.u64.wrap v.lo)))=some (.val (.int .u64 (v.ag-v.lo))):=by show some (D.val (.int .u64 (IntKind.u64.wrap (IntKind.u64.wrap v.ag-IntKind.u64.wrap v.lo))))=_;rw[N9 ab ad a]
  have g:aW false .gtr (.val (.int .u64 (v.ag-v.lo))) (.val (.int .u64 1073741824))=some (aF (decide (v.ag-v.lo>1073741824))):=rfl;simp only[b,decide_false,xaq,xaG,f,g,cL,iI];by_cases e:v.ag-v.lo>1073741824;.rw[V.H4 c a oZ];simp only[e,decide_true,xaC,cL,l6];rfl
  simp only[e,decide_false,xaq,xaG,cL,l6,l7,UM,cr,wrap64 _ (show-9223372036854775808<=v.ag-v.lo by omega) oZ];rw[dw oZ oZ];simp only[cL];by_cases i:v.ag-v.lo=1073741824;.rw[V.H4 c a oZ,i];rfl
  rw[V.H3 c a oZ]
def V.tB(v:V):0<=v.span/\v.span<=1073741825:=by
 unfold V.span;split;.omega
 split;.omega
 split<;>omega
def aiV{i:Nat}(h:i<=62):((2:Int)^i)<=4611686018427387904/\0<(2:Int)^i:=by
 have ab:(2:Nat)^i<=2^62:=Nat.pow_le_pow_right oZ h;have ai:((2^i:Nat):Int)=2^i:=sZ
 have ad:(0:Int)<2^i:=Int.pow_pos oZ;omega
def UN{bt:Bool}{i:Nat}(h:i<=62):aW bt .shl (aa 1) (aa (i:Int))=some (aa ((2:Int)^i)):=by
 have a:¬((i:Int)<0):=oZ
 have b:min i IntKind.i64.bits=i:=by simp[IntKind.bits];omega
 obtain⟨ab,ad⟩:=aiV h;have e:IntKind.i64.wrap (1*2^(min i IntKind.i64.bits))=2^i:=by rw[b,Int.one_mul];exact wrap64 _ oZ oZ
 simp only[aW,aa,kL,a,xaG,Int.toNat_natCast];rw[e]
def xg{n:Int}(h:n<=1073741825):bitsOf n<=62/\(∀j:Nat,j<bitsOf n->(2:Int)^j<n)/\n<=2^bitsOf n:=by
 rcases pY (λi=>n<=(2:Int)^i) 40 with ab|⟨i,ab,ad,ai⟩;.exact absurd h (by have:=ab 39 oZ;simp at this;omega)
 have a:∀j:Nat,j<i->(2:Int)^j<n:=λj b=>by have:=ai j b;omega
 rw[Y4 a ad];exact⟨by omega,a,ad⟩
def aiW(n:Nat)(k:Int)(a:k<=1073741825)(b:63<n):Ek n [aa k]=some (aa (bitsOf k)):=by
 obtain⟨ab,ad,ai⟩:=xg a;have key:aR (Ej n) n [aa k,aa 0]=some (.inr (aa (bitsOf k))):=by
  refine iJ (λi=>[aa k,aa i]) (bitsOf k) rfl ?_ ?_ oZ;.intro i ag;have:=ad i ag;simp(disch:=omega) [Ej,UN,dw,show((i:Int)<63) by omega,show¬(k<=(2:Int)^i) by omega]
  simp(disch:=omega) [Ej,UN,show((bitsOf k:Int)<63) by omega,ai]
 simp[Ek,Ra,key]
def aiX(n:Nat)(k:Int)(ak:-1000<=k)(d:k<=1073741825)(s:63<n):DQ n [aa k]=some (aa (bitsOf k)):=by
 have key:∀(m:Nat)(k:Int)(a b:Nat),bitsOf k=m->k<=1073741825->a+m<=1000->m<b->aR (DP n) b [aa k,aa a]=some (.inl [aa (a+m:Nat)]):=by
  intro m
  induction m with
  |zero=>
   intro k a b r d o f;obtain⟨b,rfl⟩:∃q,b=q+1:=⟨b-1,by omega⟩;have c:¬k>1:=by intro h;have:=N8 h;omega
   rw[h7];simp[DP,c]
  |succ m ih=>
   intro k a b r d o f;obtain⟨b,rfl⟩:∃q,b=q+1:=⟨b-1,by omega⟩;have c:k>1:=by
    refine xbi λh=>?_;have:bitsOf k=0:=by unfold bitsOf;rw[xac oZ]
    omega
   have a1:=N8 c;have i:k.tdiv 2=k/2:=Int.tdiv_eq_ediv_of_nonneg oZ;have j:k.tmod 2=k%2:=Int.tmod_eq_emod_of_nonneg oZ;have p:=(xg d).1;have g:=ih (k/2+k%2) (a+1) b oZ oZ oZ oZ;rw[h7];simp(disch:=omega) [DP,c,PD,ym,i,j,wrap64,dw];have l:((a:Int)+1)=((a+1:Nat):Int):=oZ
   rw[l,g]
   congr 4
   omega
 have:=key (bitsOf k) k 0 n rfl d (by have:=(xg d).1;omega) (by have:=(xg d).1;omega);simp only[xav]at this;have e:(aa ((0:Nat):Int))=aa 0:=rfl;rw[e]at this;simp[DQ,QE,this]
theorem aiY(n:Nat)(k:Int):y2 n [aa k]=some (aF (decide (k>=-255)&&decide (k<=255))):=by simp only[y2,QC,yl,CZ,cL,cb,aN,aT,km];cases decide (k>=-255)<;>cases decide (k<=255)<;>rfl
def LK(n:Nat)(l:List V)(i k:Nat)(ag:i<l.length)(c:k<i)(b:l.length<1000000000000):y3 n [aO l,aa i,aa k]=if(l[k]'oZ).name=l[i].name then some (.inr (.inr (.inr (.inr (.inr (.aC [aa i,aa 6]))))))else some (.inl [aO l,aa i,aa (k+1:Nat)]):=by
 have a:k<l.length:=oZ
 have ab:l[k]?=some l[k]:=xaa a;have ad:l[i]?=some l[i]:=xaa ag;simp(disch:=omega) [y3,aO,c,dw,V.cells]
def aiZ(n:Nat)(l:List V)(i:Nat)(ag:i<l.length)(a:l.length<1000000000000)(m:l.length<n):aR (y3 n) n [aO l,aa i,aa 0]=if has l[i].name ((l.take i).map V.name)=true then some (.inr (.inr (.inr (.inr (.aC [aa i,aa 6])))))else some (.inl [aO l,aa i]):=by
 rcases pY (λk=>(l.map V.name)[k]?=some l[i].name) i with h|⟨k,ab,ad,ai⟩
 .rw[Y7 h,xab sZ];refine iJ (λk=>[aO l,aa i,aa k]) i rfl ?_ ?_ oZ;.intro k e;rw[LK n l i k ag e a,xab];intro c;refine h k e ?_;rw[xah,xaa (oZ:k<l.length),<-c];rfl
  simp[y3]
 have d:k<l.length:=oZ
 have f:=xaa d;have b:(l[k]).name=l[i].name:=by rw[xah,f]at ad;simpa using ad
 rw[<-b,Y8 ab f,xac rfl];refine iJ (λk=>[aO l,aa i,aa k]) k rfl ?_ ?_ oZ;.intro j g;rw[LK n l i j ag oZ a,xab];intro c;refine ai j g ?_;rw[xah,xaa (oZ:j<l.length),<-c];rfl
 rw[LK n l i k ag ab a,xac b]
def LL(n:Nat)(l:List V)(ah:gY l)(q:l.length<n)(c:∀v∈l,v.name.size+24<n)(i:Nat)(ag:i<l.length):sF n [aO l,aa i]=if gJ l i=0 then some (.inl [aO l,aa (i+1:Nat)])else some (.inr (.inr (.aC [aa i,aa (gJ l i)]))):=by
 have h:=xaa ag;have a:=ah.2 _ (xaV ag);have g:=ah.1;have m:=aiZ n l i ag ah.1 q;have e:gJ l i=um (l.take i) l[i]:=by simp only[gJ,h]
 rw[e];generalize r:l[i]=v at*;have ab:=LF n v.name (c v (r▸xaV ag)) oZ;have f:ba 4 (aO l) (aa (i:Int))=some v.cells:=by simp[aO,h]
 have j:aW false .lss (aa (i:Int)) (aa (l.length:Int))=some (aF true):=by simp[ag]
 have b:dN (aO l)=some (aa l.length):=by simp[aO]
 have k:aW false .add (aa (i:Int)) (aa 1)=some (aa (i+1:Nat)):=by rw[dw oZ oZ];rfl
 have o:aQ true 4 0 v.cells=some v.d:=rfl;have bK:aQ false 1 0 v.cells=some (aD v.name):=rfl;have c1:aQ false 1 1 v.cells=some (aF v.bool):=rfl;have c2:aQ false 1 2 v.cells=some (aa v.lo):=rfl;have b6:aQ false 1 3 v.cells=some (aa v.ag):=rfl;have p:=xf n v a.1 a.2.1;rw[UK];rw[show LH v=_ from Y6 ⟨a.1,a.2.1,by omega⟩];simp only[sF,l7,mO,b,j,cL,iI,xaC,f,bK,ab,m,uK,cb,aN,av,aT,bf,cV,bs,cf,aL,bw,dd,al];rw[ic];cases isName v.name
 .simp
 cases has v.name ((l.take i).map V.name)
 rotate_left
 .simp
 simp only[Bool.not_true,xaq,xaG,cL,l6,cV,l7,mO,f,o,c1,c2,b6,lq,uJ,aiY,p,uK];generalize (decide (v.lo>=-255)&&decide (v.lo<=255))=s;generalize (decide (v.ag>=-255)&&decide (v.ag<=255))=t;generalize decide (v.lo>v.ag)=u;generalize decide (v.span>64)=w;generalize (v.lo !=0)=x;generalize (v.ag !=0)=y;cases v.bool<;>cases s<;>cases t<;>cases u<;>cases w<;>cases x<;>cases y<;>simp[k]
def ai0(n:Nat)(l:List V)(ah:gY l)(d:l.length<n)(a:∀v∈l,v.name.size+24<n):DO n [aO l]=some (.aC [aa (hT l).1,aa (hT l).2]):=by
 have e:DO n [aO l]=af (aR (sF n) n [aO l,aa 0]) (aI λls=>some (D.aC [aa 0,aa 0])):=rfl;rw[e];rcases pY (λi=>gJ l i≠0) l.length with h|⟨i,ab,ad,ai⟩
 .have b:∀j:Nat,j<l.length->gJ l j=0:=λj c=>by simpa using h j c
  have key:aR (sF n) n [aO l,aa 0]=some (.inl []):=by
   refine iJ (λi=>[aO l,aa i]) l.length rfl ?_ ?_ d;.intro i ag;rw[LL n l ah d a i ag,xac (b i ag)]
   simp[sF,aO]
  rw[key,Oj b];rfl
 have b:∀j:Nat,j<i->gJ l j=0:=λj c=>by simpa using ai j c
 have key:aR (sF n) n [aO l,aa 0]=some (.inr (.aC [aa i,aa (gJ l i)])):=by
  refine iJ (λi=>[aO l,aa i]) i rfl ?_ ?_ oZ;.intro j c;rw[LL n l ah d a j oZ,xac (b j c)]
  rw[LL n l ah d a i ab,xab ad]
 rw[key,Oi b ab rfl ad];rfl
def kv(l:List cv)(x:ByteArray):Option Nat:=l.findIdx? (λd=>decide (d.name=x))
def ei:Option Nat->Int
 |some i=>(i:Int)|none=>-1
def xh(o:Option Nat):decide (ei o>=0)=o.isSome:=by cases o with|none=>rfl|some i=>simp[ei]
def UO(o:Option Nat):decide (ei o<0)=o.isNone:=by cases o with|none=>rfl|some i=>exact yF ((i:Int)<0)
def findIdx_cons{b:Type}(p:b->Bool)(a:b)(r:List b):(a::r).findIdx? p=if p a then some 0 else(r.findIdx? p).map (·+1):=by rw[xca]
theorem V.jj(v:V):ae v.d 0=aD v.name:=rfl
theorem V.a4(v:V):aQ true 4 0 v.cells=some v.d:=rfl
attribute [go_sem] V.a4
theorem V.g4(v:V):cz 4 v.d=true:=rfl
theorem bd.jj(v:bd):ae v.d 0=aD v.name:=rfl
theorem bd.a5(v:bd):aQ true 5 0 v.cells=some v.d:=rfl
attribute [go_sem] bd.a5
def bd.g5(v:bd):cz 5 v.d=true:=by unfold bd.d bd.cells;simp
theorem cv.jj(v:cv):ae v.d 0=aD v.name:=rfl
theorem cv.iK(v:cv):aQ true 7 0 v.cells=some v.d:=rfl
def cv.g7(v:cv):cz 7 v.d=true:=cv.agg v
def ai1(n:Nat)(d:V)(x:ByteArray):EK n [d.d,.ref [aD x] 0]=some (aF (decide (d.name=x))):=by show EJ n d.d [aD x]=_;simp only[EJ,go_sem,gu,V.g4,V.jj]
def ai2(n:Nat)(l:List V)(x:ByteArray)(p:l.length<n)(o:l.length<1000000000):wk n [aO l,D.fn (.func mV) [] [.ref [aD x] 0]]=some (aa (ei (c3 l x))):=by
 have m:(aa ((0:Nat):Int))=aa 0:=rfl;have ag:=ch (f:=Ao n) l (λi (_:Unit)=>[aO l,.ref [aD x] 0,aa l.length,aa (i:Int)]) (λr _=>match c3 r x with|some j=>(Sum.inr (aa ((l.length-r.length+j:Nat):Int)):lZ⊕D)|none=> .inl []) (λ_ _=>True) ?_ ?_ n 0 () trivial oZ (xag _)
 .rw[m,xak,xbV]at ag;have a1:wk n [aO l,D.fn (.func mV) [] [.ref [aD x] 0]]=Ap n (aO l) (.ref [aD x] 0):=by
   simp only[wk,jH]
  rw[a1];cases g:c3 l x with|none=>rw[g]at ag;simp only[Ap,go_sem,ag,ei]|some j=>rw[g]at ag;simp only[xav]at ag;simp only[Ap,go_sem,ag,ei]
 .intro _ _;have:c3 [] x=none:=rfl;simp only[Ao,go_sem,yF ((l.length:Int)<l.length),this]
 intro i a _ d ag _;have b:=yT ((i:Int)<(l.length:Int));have c:c3 (a::l.drop (i+1)) x=if decide (a.name=x)=true then some 0 else(c3 (l.drop (i+1)) x).map (·+1):=findIdx_cons _ a _
 have e:l.length-(a::l.drop (i+1)).length=i:=uZ
 have k:l.length-(l.drop (i+1)).length=i+1:=uZ
 have ab:=ai1 n a x;by_cases h:a.name=x;.right;rw[xan h]at ab c;rw[c,xac rfl,e];simp only[Ao,go_sem,b,eV d,ab,xbw]
 left;rw[xax h]at ab c;rw[c,xab sZ,e,k];refine⟨(),?_,?_,trivial⟩;.simp only[Ao,go_sem,b,eV d,ab,bl i]
 cases c3 (l.drop (i+1)) x with|none=>rfl|some j=>simp;omega
def ai3(n:Nat)(l:List V)(x:ByteArray)(b:l.length<n)(a:l.length<1000000000):wm n [aO l,D.fn (.func mV) [] [.ref [aD x] 0]]=some (aF (c3 l x).isSome):=by
 have a1:wm n [aO l,D.fn (.func mV) [] [.ref [aD x] 0]]=EL n (aO l) (.ref [aD x] 0):=by simp only[wm,jH]
 rw[a1];simp only[EL,go_sem,ai2 n l x b a,xh]
def ai4(n:Nat)(d:bd)(x:ByteArray):EN n [d.d,.ref [aD x] 0]=some (aF (decide (d.name=x))):=by show EM n d.d [aD x]=_;simp only[EM,go_sem,gu,bd.g5,bd.jj]
def ai5(n:Nat)(l:List bd)(x:ByteArray)(p:l.length<n)(o:l.length<1000000000):wo n [aA l,D.fn (.func na) [] [.ref [aD x] 0]]=some (aa (ei (cw l x))):=by
 have m:(aa ((0:Nat):Int))=aa 0:=rfl;have ag:=ch (f:=Aq n) l (λi (_:Unit)=>[aA l,.ref [aD x] 0,aa l.length,aa (i:Int)]) (λr _=>match cw r x with|some j=>(Sum.inr (aa ((l.length-r.length+j:Nat):Int)):lZ⊕D)|none=> .inl []) (λ_ _=>True) ?_ ?_ n 0 () trivial oZ (xag _)
 .rw[m,xak,xbV]at ag;have a1:wo n [aA l,D.fn (.func na) [] [.ref [aD x] 0]]=Ar n (aA l) (.ref [aD x] 0):=by
   simp only[wo,jH]
  rw[a1];cases g:cw l x with|none=>rw[g]at ag;simp only[Ar,go_sem,ag,ei]|some j=>rw[g]at ag;simp only[xav]at ag;simp only[Ar,go_sem,ag,ei]
 .intro _ _;have:cw [] x=none:=rfl;simp only[Aq,go_sem,yF ((l.length:Int)<l.length),this]
 intro i a _ d ag _;have b:=yT ((i:Int)<(l.length:Int));have c:cw (a::l.drop (i+1)) x=if decide (a.name=x)=true then some 0 else(cw (l.drop (i+1)) x).map (·+1):=findIdx_cons _ a _
 have e:l.length-(a::l.drop (i+1)).length=i:=uZ
 have k:l.length-(l.drop (i+1)).length=i+1:=uZ
 have ab:=ai4 n a x;by_cases h:a.name=x;.right;rw[xan h]at ab c;rw[c,xac rfl,e];simp only[Aq,go_sem,b,dV d,ab,xbw]
 left;rw[xax h]at ab c;rw[c,xab sZ,e,k];refine⟨(),?_,?_,trivial⟩;.simp only[Aq,go_sem,b,dV d,ab,bl i]
 cases cw (l.drop (i+1)) x with|none=>rfl|some j=>simp;omega
def ai6(n:Nat)(l:List bd)(x:ByteArray)(b:l.length<n)(a:l.length<1000000000):wq n [aA l,D.fn (.func na) [] [.ref [aD x] 0]]=some (aF (cw l x).isSome):=by
 have a1:wq n [aA l,D.fn (.func na) [] [.ref [aD x] 0]]=EO n (aA l) (.ref [aD x] 0):=by simp only[wq,jH]
 rw[a1];simp only[EO,go_sem,ai5 n l x b a,xh]
def ai7(n:Nat)(d:V)(x:ByteArray):EB n [d.d,.ref [aD x] 0]=some (aF (decide (d.name=x))):=by show EA n d.d [aD x]=_;simp only[EA,go_sem,gu,V.g4,V.jj]
def ai8(n:Nat)(l:List V)(x:ByteArray)(p:l.length<n)(o:l.length<1000000000):wb n [aO l,D.fn (.func u2) [] [.ref [aD x] 0]]=some (aa (ei (c3 l x))):=by
 have m:(aa ((0:Nat):Int))=aa 0:=rfl;have ag:=ch (f:=Ah n) l (λi (_:Unit)=>[aO l,.ref [aD x] 0,aa l.length,aa (i:Int)]) (λr _=>match c3 r x with|some j=>(Sum.inr (aa ((l.length-r.length+j:Nat):Int)):lZ⊕D)|none=> .inl []) (λ_ _=>True) ?_ ?_ n 0 () trivial oZ (xag _)
 .rw[m,xak,xbV]at ag;have a1:wb n [aO l,D.fn (.func u2) [] [.ref [aD x] 0]]=Ai n (aO l) (.ref [aD x] 0):=by
   simp only[wb,jH]
  rw[a1];cases g:c3 l x with|none=>rw[g]at ag;simp only[Ai,go_sem,ag,ei]|some j=>rw[g]at ag;simp only[xav]at ag;simp only[Ai,go_sem,ag,ei]
 .intro _ _;have:c3 [] x=none:=rfl;simp only[Ah,go_sem,yF ((l.length:Int)<l.length),this]
 intro i a _ d ag _;have b:=yT ((i:Int)<(l.length:Int));have c:c3 (a::l.drop (i+1)) x=if decide (a.name=x)=true then some 0 else(c3 (l.drop (i+1)) x).map (·+1):=findIdx_cons _ a _
 have e:l.length-(a::l.drop (i+1)).length=i:=uZ
 have k:l.length-(l.drop (i+1)).length=i+1:=uZ
 have ab:=ai7 n a x;by_cases h:a.name=x;.right;rw[xan h]at ab c;rw[c,xac rfl,e];simp only[Ah,go_sem,b,eV d,ab,xbw]
 left;rw[xax h]at ab c;rw[c,xab sZ,e,k];refine⟨(),?_,?_,trivial⟩;.simp only[Ah,go_sem,b,eV d,ab,bl i]
 cases c3 (l.drop (i+1)) x with|none=>rfl|some j=>simp;omega
def ai9(n:Nat)(d:bd)(x:ByteArray):ED n [d.d,.ref [aD x] 0]=some (aF (decide (d.name=x))):=by show EC n d.d [aD x]=_;simp only[EC,go_sem,gu,bd.g5,bd.jj]
def aja(n:Nat)(l:List bd)(x:ByteArray)(p:l.length<n)(o:l.length<1000000000):wc n [aA l,D.fn (.func nb) [] [.ref [aD x] 0]]=some (aa (ei (cw l x))):=by
 have m:(aa ((0:Nat):Int))=aa 0:=rfl;have ag:=ch (f:=Aj n) l (λi (_:Unit)=>[aA l,.ref [aD x] 0,aa l.length,aa (i:Int)]) (λr _=>match cw r x with|some j=>(Sum.inr (aa ((l.length-r.length+j:Nat):Int)):lZ⊕D)|none=> .inl []) (λ_ _=>True) ?_ ?_ n 0 () trivial oZ (xag _)
 .rw[m,xak,xbV]at ag;have a1:wc n [aA l,D.fn (.func nb) [] [.ref [aD x] 0]]=Ak n (aA l) (.ref [aD x] 0):=by
   simp only[wc,jH]
  rw[a1];cases g:cw l x with|none=>rw[g]at ag;simp only[Ak,go_sem,ag,ei]|some j=>rw[g]at ag;simp only[xav]at ag;simp only[Ak,go_sem,ag,ei]
 .intro _ _;have:cw [] x=none:=rfl;simp only[Aj,go_sem,yF ((l.length:Int)<l.length),this]
 intro i a _ d ag _;have b:=yT ((i:Int)<(l.length:Int));have c:cw (a::l.drop (i+1)) x=if decide (a.name=x)=true then some 0 else(cw (l.drop (i+1)) x).map (·+1):=findIdx_cons _ a _
 have e:l.length-(a::l.drop (i+1)).length=i:=uZ
 have k:l.length-(l.drop (i+1)).length=i+1:=uZ
 have ab:=ai9 n a x;by_cases h:a.name=x;.right;rw[xan h]at ab c;rw[c,xac rfl,e];simp only[Aj,go_sem,b,dV d,ab,xbw]
 left;rw[xax h]at ab c;rw[c,xab sZ,e,k];refine⟨(),?_,?_,trivial⟩;.simp only[Aj,go_sem,b,dV d,ab,bl i]
 cases cw (l.drop (i+1)) x with|none=>rfl|some j=>simp;omega
def ajb(n:Nat)(l:List bd)(x:ByteArray)(b:l.length<n)(a:l.length<1000000000):we n [aA l,D.fn (.func nb) [] [.ref [aD x] 0]]=some (aF (cw l x).isSome):=by
 have a1:we n [aA l,D.fn (.func nb) [] [.ref [aD x] 0]]=EE n (aA l) (.ref [aD x] 0):=by simp only[we,jH]
 rw[a1];simp only[EE,go_sem,aja n l x b a,xh]
def ajc(n:Nat)(d:bd)(x:ByteArray):EH n [d.d,.ref [aD x] 0]=some (aF (decide (d.name=x))):=by show EG n d.d [aD x]=_;simp only[EG,go_sem,gu,bd.g5,bd.jj]
def ajd(n:Nat)(l:List bd)(x:ByteArray)(p:l.length<n)(o:l.length<1000000000):wi n [aA l,D.fn (.func u1) [] [.ref [aD x] 0]]=some (aa (ei (cw l x))):=by
 have m:(aa ((0:Nat):Int))=aa 0:=rfl;have ag:=ch (f:=Al n) l (λi (_:Unit)=>[aA l,.ref [aD x] 0,aa l.length,aa (i:Int)]) (λr _=>match cw r x with|some j=>(Sum.inr (aa ((l.length-r.length+j:Nat):Int)):lZ⊕D)|none=> .inl []) (λ_ _=>True) ?_ ?_ n 0 () trivial oZ (xag _)
 .rw[m,xak,xbV]at ag;have a1:wi n [aA l,D.fn (.func u1) [] [.ref [aD x] 0]]=An n (aA l) (.ref [aD x] 0):=by
   simp only[wi,jH]
  rw[a1];cases g:cw l x with|none=>rw[g]at ag;simp only[An,go_sem,ag,ei]|some j=>rw[g]at ag;simp only[xav]at ag;simp only[An,go_sem,ag,ei]
 .intro _ _;have:cw [] x=none:=rfl;simp only[Al,go_sem,yF ((l.length:Int)<l.length),this]
 intro i a _ d ag _;have b:=yT ((i:Int)<(l.length:Int));have c:cw (a::l.drop (i+1)) x=if decide (a.name=x)=true then some 0 else(cw (l.drop (i+1)) x).map (·+1):=findIdx_cons _ a _
 have e:l.length-(a::l.drop (i+1)).length=i:=uZ
 have k:l.length-(l.drop (i+1)).length=i+1:=uZ
 have ab:=ajc n a x;by_cases h:a.name=x;.right;rw[xan h]at ab c;rw[c,xac rfl,e];simp only[Al,go_sem,b,dV d,ab,xbw]
 left;rw[xax h]at ab c;rw[c,xab sZ,e,k];refine⟨(),?_,?_,trivial⟩;.simp only[Al,go_sem,b,dV d,ab,bl i]
 cases cw (l.drop (i+1)) x with|none=>rfl|some j=>simp;omega
def aje(n:Nat)(d:cv)(x:ByteArray):En n [d.d,.ref [aD x] 0]=some (aF (decide (d.name=x))):=by show Em n d.d [aD x]=_;simp only[Em,go_sem,gu,cv.g7,cv.jj]
def ajf(n:Nat)(l:List cv)(x:ByteArray)(p:l.length<n)(o:l.length<1000000000):vW n [bj l,D.fn (.func nc) [] [.ref [aD x] 0]]=some (aa (ei (kv l x))):=by
 have m:(aa ((0:Nat):Int))=aa 0:=rfl;have ag:=ch (f:=zV n) l (λi (_:Unit)=>[bj l,.ref [aD x] 0,aa l.length,aa (i:Int)]) (λr _=>match kv r x with|some j=>(Sum.inr (aa ((l.length-r.length+j:Nat):Int)):lZ⊕D)|none=> .inl []) (λ_ _=>True) ?_ ?_ n 0 () trivial oZ (xag _)
 .rw[m,xak,xbV]at ag;have a1:vW n [bj l,D.fn (.func nc) [] [.ref [aD x] 0]]=zW n (bj l) (.ref [aD x] 0):=by
   simp only[vW,jH]
  rw[a1];cases g:kv l x with|none=>rw[g]at ag;simp only[zW,go_sem,ag,ei]|some j=>rw[g]at ag;simp only[xav]at ag;simp only[zW,go_sem,ag,ei]
 .intro _ _;have:kv [] x=none:=rfl;simp only[zV,go_sem,yF ((l.length:Int)<l.length),this]
 intro i a _ d ag _;have b:=yT ((i:Int)<(l.length:Int));have c:kv (a::l.drop (i+1)) x=if decide (a.name=x)=true then some 0 else(kv (l.drop (i+1)) x).map (·+1):=findIdx_cons _ a _
 have e:l.length-(a::l.drop (i+1)).length=i:=uZ
 have k:l.length-(l.drop (i+1)).length=i+1:=uZ
 have ab:=aje n a x;by_cases h:a.name=x;.right;rw[xan h]at ab c;rw[c,xac rfl,e];simp only[zV,go_sem,b,jQ d,cv.iK,ab,xbw]
 left;rw[xax h]at ab c;rw[c,xab sZ,e,k];refine⟨(),?_,?_,trivial⟩;.simp only[zV,go_sem,b,jQ d,cv.iK,ab,bl i]
 cases kv (l.drop (i+1)) x with|none=>rfl|some j=>simp;omega
def ajg(n:Nat)(l:List cv)(x:ByteArray)(b:l.length<n)(a:l.length<1000000000):vX n [bj l,D.fn (.func nc) [] [.ref [aD x] 0]]=some (aF (kv l x).isSome):=by
 have a1:vX n [bj l,D.fn (.func nc) [] [.ref [aD x] 0]]=Eo n (bj l) (.ref [aD x] 0):=by simp only[vX,jH]
 rw[a1];simp only[Eo,go_sem,ajf n l x b a,xh]
structure oE(f:Tm->Tm):Prop where
 op:∀t,(f t).op=t.op
 num:∀t,(f t).num=t.num
 name:∀t,(f t).name=t.name
 az:∀t,(f t).az=t.az.map f
theorem LM:oE hY:=⟨λt=>by rw[Ba];rfl,λt=>by rw[Ba];rfl,λt=>by rw[Ba];rfl,λt=>by rw[Ba];rfl⟩
theorem UP:oE eD:=⟨λt=>by rw[w9];rfl,λt=>by rw[w9];rfl,λt=>by rw[w9];rfl,λt=>by rw[w9];rfl⟩
def UQ(vs:List V)(nx:Bool)(f:Tm->Tm):∀(ks:List Tm),(∀k∈ks,cP vs nx (f k)=cP vs nx k)->cX vs nx (ks.map f)=cX vs nx ks
 |[],_=>rfl|k::r,h=>by rw[xaw,cX,cX,h k sZ,UQ vs nx f r λk a=>h k (by simp[a])]
def ajh{f:Tm->Tm}(a:oE f)(t:Tm)(l:List Y):eU (f t) l=eU t l:=by unfold eU;rw[a.op,a.az,xah];cases b:t.az[1]? with|none=>rfl|some k=>simp only[xaI,a.op,a.num]
def aji{f:Tm->Tm}(a:oE f)(vs:List V)(nx:Bool)(t:Tm):cP vs nx (f t)=cP vs nx t:=by
 refine Tm.ind (P:=λt=>cP vs nx (f t)=cP vs nx t) ?_ t;intro t ih;have ai:hZ vs nx (f t)=hZ vs nx t:=by simp only[hZ,a.op,a.num,a.name]
 rw[ku,ku vs nx t,a.op,a.az,ai,UQ vs nx f t.az ih,ajh a]
def ajj{f:Tm->Tm}(a:oE f)(t:Tm):fT (f t)=fT t:=by simp only[fT,a.op,a.num,a.name,a.az,xaU]
def UR(f:Tm->Tm):∀(ks:List Tm),(∀k∈ks,∀d n,ct (f k) d n=ct k d n)->∀d n,dK (ks.map f) d n=dK ks d n
 |[],_,_,_=>rfl|k::r,h,d,n=>by rw[xaw,dK,dK,h k sZ,UR f r λk a=>h k (by simp[a])]
def ajk{f:Tm->Tm}(a:oE f)(t:Tm):∀d n,ct (f t) d n=ct t d n:=by refine Tm.ind (P:=λt=>∀d n,ct (f t) d n=ct t d n) ?_ t;intro t ih d n;rw[pP,pP t,ajj a,a.az,UR f t.az ih]
def LN{f:Tm->Tm}(a:oE f)(vs:List V)(nx:Bool)(t:Tm):et vs nx (f t)=et vs nx t:=by unfold et;rw[ajk a,aji a]
structure xi(l:List bd)(t:Tm)(p:Tm×Int):Prop where
 a:∀n,13301000000<n->kV n [t.d,aA l]=some (.aC [(if p.2=0 then hY p.1 else T0).d,aa p.2])
 b:∀n,13301000000<n->kU n [t.d,aA l]=some (.aC [(if p.2=0 then eD p.1 else T0).d,aa p.2])
 x:p.2=0->p.1.Ok/\p.1.aS<=660000/\(ct p.1 1 0).1=0/\(hY p.1).Ok/\(eD p.1).Ok/\∃h,hK l h t p.1
def US{l:List bd}(ah:fP 660000 l)(j:l.length<=100)(t:Tm)(a:t.Ok)(c:t.aS<=660000):∃p,xi l t p:=by
 by_cases ak:(ct t 1 0).1=0
 case neg=>exact⟨(T0,(ct t 1 0).1),λn b=>by rw[xab ak];exact(Ll ah n t a c oZ).1 ak,λn b=>by rw[xab ak];exact(Lm ah n t a c oZ).1 ak,λh=>absurd h ak⟩
 cases g:nu l t with
 |false=>exact⟨(T0,14),λn b=>(Ll ah n t a c oZ).2.1 ak g,λn b=>(Lm ah n t a c oZ).2.1 ak g,λh=>by cases h⟩
 |true=>
  obtain⟨X,e⟩:=ahs ah c ((ahA l t).1 g);have hH:(l.length+1)*(660000+1)+660000<=70000000:=oZ
  generalize (l.length+1)*(660000+1)+660000=a1 at*;have A:∀n,13301000000<n->_:=λn b=>(Ll ah n t a c oZ).2.2 _ X ak g e oZ;have B:∀n,13301000000<n->_:=λn b=>(Lm ah n t a c oZ).2.2 _ X ak g e oZ;obtain⟨c1,c2⟩:=Lg X 1 0 oZ;rw[c1]at A;by_cases ai:(ct X 1 0).1=0
  case neg=>simp only[ai,xaG]at A B;exact⟨(T0,(ct X 1 0).1),λn b=>by rw[xab ai];exact A n b,λn b=>by rw[xab ai];exact B n b,λh=>absurd h ai⟩
  simp only[ai,xaC]at A B;have i:=TP X 1 0 oZ ai;have f:=e.ok ah a c;have m:=ahF X 1 0 ai;have k:=(wW X 1 0).2 ai;have d:=(TN ah e a c).1;rw[i]at A d;exact⟨(X,0),A,B,λ_=>⟨f.1,by simp only;omega,ai,d,aia X f.1,a1,e⟩⟩
open Classical in
noncomputable def cJ(l:List bd)(t:Tm):Tm×Int:=if h:∃p,xi l t p then Classical.choose h else(T0,0)
def UT{l:List bd}{t:Tm}(h:∃p,xi l t p):xi l t (cJ l t):=by unfold cJ;rw[dif_pos h];exact Classical.choose_spec h
noncomputable def e3(m:bH)(nx:Bool)(t:Tm):Y×Int:=if(cJ m.ao t).2≠0 then(dL,(cJ m.ao t).2)else et m.vars nx (cJ m.ao t).1
noncomputable def k3(m:bH)(nx:Bool)(t:Tm):Int:=if((e3 m nx t).2==0&&!(e3 m nx t).1.b)=true then 13 else(e3 m nx t).2
structure xj(m:bH):Prop where
 d:fP 660000 m.ao
 dl:m.ao.length<=100
 eg:m.vars.length<=100
def xj.LO{m:bH}(h:xj m){t:Tm}(a:t.Ok)(b:t.aS<=660000):xi m.ao t (cJ m.ao t):=UT (US h.d h.dl t a b)
theorem UU:D.agg [aF false,aa 0,aa 0]=dL.d:=rfl
theorem oF(y:Y):ae y.d 0=aF y.b:=rfl
theorem UW(y:Y):ae y.d 1=aa y.lo:=rfl
theorem UX(y:Y):ae y.d 2=aa y.ag:=rfl
theorem ajl(y:Y):cz 3 y.d=true:=rfl
attribute [go_sem] ajl
theorem UY(y:Y):D.agg [aF y.b,aa y.lo,aa y.ag]=y.d:=rfl
section
variable{m:bH}(hm:xj m)(n:Nat)(bq:13301000000<n)
include hm bq
theorem LP{t:Tm}(c:t.Ok)(h:t.aS<=660000)(nx:Bool):sW n [m.d,t.d,aF nx]=some (.aC [(e3 m nx t).1.d,aa (e3 m nx t).2]):=by
 have f:=hm.LO c h;have i:=hm.eg;unfold e3;generalize cJ m.ao t=p at*;have b:=f.a n bq;by_cases ak:p.2=0
 .obtain⟨x1,ds,k,j,l,_⟩:=f.x ak;have e:(p.2 !=0)=false:=by simp[ak]
  rw[xac ak]at b;have g:=Ls n m.vars (hY p.1) nx (by rw[Ln];omega) j oZ;rw[LN LM]at g;rw[xab (by simpa using ak)];simp only[sW,Ko,go_sem,b,e,g,oF,UW,UX,UY]
 have e:(p.2 !=0)=true:=by simpa using ak
 rw[xab ak]at b;rw[xac ak];simp only[sW,Ko,go_sem,b,e,UU]
theorem LQ{t:Tm}(c:t.Ok)(h:t.aS<=660000)(nx:Bool):sJ n [m.d,t.d,aF nx]=some (.aC [(e3 m nx t).1.d,aa (e3 m nx t).2]):=by
 have f:=hm.LO c h;have i:=hm.eg;unfold e3;generalize cJ m.ao t=p at*;have a:=f.b n bq;by_cases ak:p.2=0
 .obtain⟨x1,ds,k,l,j,_⟩:=f.x ak;have e:(p.2 !=0)=false:=by simp[ak]
  rw[xac ak]at a;have g:=Lt n m.vars (eD p.1) nx (by rw[FX];omega) j oZ;rw[LN UP]at g;rw[xab (by simpa using ak)];simp only[sJ,J1,go_sem,a,e,g,oF,UW,UX,UY]
 have e:(p.2 !=0)=true:=by simpa using ak
 rw[xab ak]at a;rw[xac ak];simp only[sJ,J1,go_sem,a,e,UU]
theorem UZ{t:Tm}(a:t.Ok)(f:t.aS<=660000)(nx:Bool):wa n [m.d,t.d,aF nx]=some (aa (k3 m nx t)):=by
 have c:=LP hm n bq a f nx;unfold k3;by_cases h:((e3 m nx t).2==0&&!(e3 m nx t).1.b)=true;.rw[xac h];simp only[wa,Kp,go_sem,c,oF,h]
 have e:((e3 m nx t).2==0&&!(e3 m nx t).1.b)=false:=by simpa using h
 rw[xab h];simp only[wa,Kp,go_sem,c,oF,e]
theorem U0{t:Tm}(a:t.Ok)(f:t.aS<=660000)(nx:Bool):vB n [m.d,t.d,aF nx]=some (aa (k3 m nx t)):=by
 have c:=LQ hm n bq a f nx;unfold k3;by_cases h:((e3 m nx t).2==0&&!(e3 m nx t).1.b)=true;.rw[xac h];simp only[vB,J2,go_sem,c,oF,h]
 have e:((e3 m nx t).2==0&&!(e3 m nx t).1.b)=false:=by simpa using h
 rw[xab h];simp only[vB,J2,go_sem,c,oF,e]
end
def pZ(N:Nat)(S:lX):mW:=(List.range N).map λj=>[aF (decide (j∈S))]
def hL(N:Nat)(S:lX):D:= .aw 1 (pZ N S)
def Bl(N:Nat)(S:lX):(pZ N S).length=N:=by simp[pZ]
def Bm{N:Nat}{S:lX}{k:Nat}(h:k<N):(pZ N S)[k]?=some [aF (decide (k∈S))]:=by simp[pZ,h]
def U1(N:Nat):List.replicate N [aF false]=pZ N []:=by
 apply xbG;intro j;by_cases h:j<N;.rw[Bm h];simp[h]
 rw[xaH uZ,xaH (by rw[Bl];omega)]
def ajm{N:Nat}{S:lX}{k:Nat}(h:k<N):(pZ N S).set k [aF true]=pZ N (S++[k]):=by
 apply xbG;intro j;by_cases a:j<N
 .rw[Bm a,List.getElem?_set];by_cases e:k=j;.subst e;simp[Bl,h]
  rw[xab e,Bm a];have:(j∈S++[k])↔j∈S:=uZ
  simp only[this]
 rw[xaH (by simp[Bl];omega),xaH (by rw[Bl];omega)]
def fW(S:lX)(ks:lX):lX:=ks.foldl (λS k=>if k∈S then S else S++[k]) S
theorem Bn(S:lX)(k:Nat)(r:lX):fW S (k::r)=fW (if k∈S then S else S++[k]) r:=rfl
structure ajn(N:Nat)(S ks R:lX):Prop where
 inv:gx N R
 pre:∃T,R=S++T
 mem:∀k∈ks,k∈R
 of:∀x∈R,x∈S\/x∈ks
def Gc{N:Nat}:∀(ks S:lX),gx N S->(∀k∈ks,k<N)->ajn N S ks (fW S ks)
 |[],S,h,_=>⟨h,⟨[],by simp[fW]⟩,by simp,λx a=> .inl a⟩
 |k::r,S,h,d=>by
  rw[Bn];by_cases b:k∈S
  .rw[xac b];have g:=Gc r S h λx a=>d x (by simp[a]);obtain⟨T,c⟩:=g.pre;refine⟨g.inv,g.pre,λx a=>?_,λx a=>(g.of x a).elim .inl λh=> .inr (by simp[h])⟩;rcases xao.1 a with rfl|a
   .rw[c];simp[b]
   exact g.mem x a
  rw[xab b];have g:=Gc r (S++[k]) (h.snoc (d k sZ) b) λx a=>d x (by simp[a]);obtain⟨T,c⟩:=g.pre;refine⟨g.inv,⟨[k]++T,by rw[c];simp⟩,λx a=>?_,λx a=>?_⟩
  .rcases xao.1 a with rfl|a;.rw[c];simp
   exact g.mem x a
  rcases g.of x a with h|h
  .rcases xar.1 h with h|h;.exact .inl h
   simp at h;subst h;exact .inr sZ
  exact .inr (by simp[h])
def p0(to:Nat->lX)(i:Nat):Nat->Nat->lX->lX
 |0,_,S=>S|m+1,k,S=>match(i::S)[k]? with|some x=>p0 to i m (k+1) (fW S (to x))|none=>S
structure mg(to:Nat->lX)(N i k:Nat)(S:lX):Prop where
 inv:gx N S
 le:k<=S.length+1
 pR:∀j x,j<k->(i::S)[j]?=some x->∀y∈to x,y∈S
 nt:∀x∈S,∃j∈to i,hJ to j x
def hJ.snoc{to:Nat->lX}{i j k:Nat}(h:hJ to i j)(a:k∈to j):hJ to i k:=h.trans (.step j k k a (.refl k))
def mg.next{to:Nat->lX}{N i k:Nat}{S:lX}(h:mg to N i k S)(m:∀i,∀k∈to i,k<N){x:Nat}(d:(i::S)[k]?=some x):mg to N i (k+1) (fW S (to x)):=by
 have g:=Gc (to x) S h.inv (m x);obtain⟨T,f⟩:=g.pre;have q:k<S.length+1:=by have:=(lV.1 d).1;simpa using this
 have a:∀j y,j<=k->(i::fW S (to x))[j]?=some y->(i::S)[j]?=some y:=by intro j y l c;rw[f,<-xbs,xap uZ]at c;exact c
 refine⟨g.inv,by rw[f];simp;omega,?_,?_⟩
 .intro j y l c z o;have b:=a j y oZ c;by_cases e:j=k
  .subst e;rw[d]at b;cases b;exact g.mem z o
  have:=h.pR j y oZ b z o;rw[f];simp[this]
 intro y c;rcases g.of y c with ab|ab
 .exact h.nt y ab
 cases k with|zero=>simp at d;subst d;exact⟨y,ab,.refl y⟩|succ k=>have n:x∈S:=xad (by simpa using d);obtain⟨j,l,p⟩:=h.nt x n;exact⟨j,l,p.snoc ab⟩
def LR{to:Nat->lX}{N i:Nat}(c:∀i,∀k∈to i,k<N):∀(m k:Nat)(S:lX),mg to N i k S->N+1-k<m->(i∈p0 to i m k S↔∃j∈to i,hJ to j i)
 |0,_,_,_,h=>absurd h (xaD _)
 |m+1,k,S,h,hm=>by
  rw[p0];have l:=h.inv.len;cases g:(i::S)[k]? with
  |some x=>
   have o:k<S.length+1:=by have:=(lV.1 g).1;simpa using this
   exact LR c m (k+1) _ (h.next c g) oZ
  |none=>
   have o:S.length+1<=k:=by have:=xck.1 g;simpa using this
   refine⟨λag=>h.nt i ag,?_⟩;have e:∀a b,hJ to a b->a∈S->b∈S:=by
    intro a b ea
    induction ea with|refl=>exact λh=>h|step p q r f _ ih=>intro s;obtain⟨j,d⟩:=xaJ.1 s;have n:=(lV.1 d).1;exact ih (h.pR (j+1) p oZ (by simpa using d) q f)
   rintro⟨j,d,t⟩;exact e j i t (h.pR 0 i oZ sZ j d)
def mg.start(to:Nat->lX)(N i:Nat):mg to N i 0 []:=⟨⟨by simp,by simp⟩,by simp,by intro j x h;omega,by simp⟩
theorem nw(x:lX):D.aw 1 (aE (cp x))=cp x:=rfl
def Bo(x:lX):(aE (cp x)).length=x.length:=by simp[cp]
def U2(x:lX)(k:Nat):D.aw 1 (aE (cp x)++[[aa (k:Int)]])=cp (x++[k]):=by simp[cp]
def U3{x:lX}{j k:Nat}(h:x[j]?=some k):(aE (cp x))[j]?=some [aa (k:Int)]:=by simp[cp,h]
theorem U4(N:Nat)(x:lX):D.aw 1 (aE (hL N x))=hL N x:=rfl
attribute [go_sem] U4
def Bp(N:Nat)(x:lX):(aE (hL N x)).length=N:=Bl N x
def Bq{N:Nat}{S:lX}{k:Nat}(h:k<N):(aE (hL N S))[k]?=some [aF (decide (k∈S))]:=Bm h
theorem U5{N:Nat}{S:lX}{k:Nat}(h:k<N){w:Bool}:D.aw 1 ((aE (hL N S)).set k (dH [aF w] 0 [aF true]))=hL N (S++[k]):=by show D.aw 1 ((pZ N S).set k [aF true])=_;rw[ajm h];rfl
theorem tC(b:Bool):aQ false 1 0 [aF b]=some (aF b):=rfl
theorem xk(i:Int):aQ false 1 0 [aa i]=some (aa i):=rfl
theorem xl(s:ByteArray):aQ false 1 0 [aD s]=some (aD s):=rfl
theorem Gd{p:oX}:cE (aF true) true p=p:=rfl
theorem U6{p:oX}:cE (aF false) true p=some hB:=rfl
theorem Ge{a b:D}:en (aF true) a b=some a:=rfl
theorem U7{a b:D}:en (aF false) a b=some b:=rfl
def U8{l:List bd}{x:ByteArray}{k:Nat}(h:cw l x=some k):k<l.length:=by obtain⟨_,_,_,h⟩:=Jr h;exact h
def ajo(n:Nat)(l:List bd){B:Nat}(ah:fP B l)(i k:Nat)(c:List ByteArray)(S:lX)(z:gx l.length S)(A:k<=S.length+1)(E:c.length<=B)(H:2*B+100<n):aR (sX n) n [aA l,aa (i:Int),cB c,aa c.length,aa 0,hL l.length S,cp ((i::S).drop k)]=some (.inl [aA l,aa (i:Int),hL l.length (fW S (c.filterMap (cw l))),cp ((i::fW S (c.filterMap (cw l))).drop k)]):=by
 have u:=ah.len;have F:=ah.b;have ag:=ch (f:=sX n) c (λj (s:lX)=>[aA l,aa (i:Int),cB c,aa c.length,aa (j:Int),hL l.length s,cp ((i::s).drop k)]) (λr s=>(.inl [aA l,aa (i:Int),hL l.length (fW s (r.filterMap (cw l))),cp ((i::fW s (r.filterMap (cw l))).drop k)]:lZ⊕(lZ⊕(lZ⊕(lZ⊕D))))) (λj s=>gx l.length s/\k<=s.length+1) (λs _=>by simp only[sX,go_sem,yF ((c.length:Int)<c.length),nw];rfl) ?_ n 0 S ⟨z,A⟩ oZ (xag _)
 .exact ag
 rintro j x s t G ⟨ab,ad⟩;have h:=ajd n l x oZ oZ;have C:=ab.len;have e:=yT ((j:Int)<(c.length:Int));left;cases g:cw l x with
 |none=>rw[g]at h;refine⟨s,?_,by simp[g],ab,ad⟩;have d:decide (ei none>=0)=false:=rfl;simp only[sX,go_sem,e,A8 t,xl,h,d,U6,U7,nw,bl j]
 |some y=>
  have p:=U8 g;rw[g]at h;have d:decide ((y:Int)>=0)=true:=xan oZ;have o:cI l.length (aa (y:Int))=some y:=by rw[jF,xac p]
  have m:ei (some y)=(y:Int):=rfl;by_cases a:y∈s;.refine⟨s,?_,by simp[g,Bn,a],ab,ad⟩;simp only[sX,go_sem,e,A8 t,xl,h,m,d,Bp,o,Bq p,tC,xan a,Gd,Ge,nw,bl j]
  have ai:=ab.snoc p a;refine⟨s++[y],?_,by simp only[xbY,g,Bn,xab a],ai,by simp;omega⟩;have w:(i::(s++[y])).drop k=(i::s).drop k++[y]:=by rw[<-xbs,List.drop_append_of_le_length (by simpa using ad)]
  have q:b2 (((i::s).drop k).length+1) 8=true:=sk uZ uZ;rw[w];simp only[sX,go_sem,e,A8 t,xl,h,m,d,Bp,o,Bq p,tC,xax a,Gd,Ge,Bo,xal,xaA,xav,q,U5 p,U2,nw,bl j]
def U9(n:Nat)(l:List bd){B:Nat}(ah:fP B l)(i:Nat)(y:i<l.length)(P:4*B+200<n):∀(m k:Nat)(S:lX),mg (to l) l.length i k S->l.length+1-k<m->aR (EI n) m [aA l,aa (i:Int),hL l.length S,cp ((i::S).drop k)]=some (.inl [aa (i:Int),hL l.length (p0 (to l) i m k S)])
 |0,_,_,_,h=>absurd h (xaD _)
 |m+1,k,S,h,hm=>by
  have G:=ah.len;have U:=ah.b;rw[h7,p0];have M:=h.inv.len;have z:=h.le;cases c:(i::S)[k]? with
  |none=>
   have p:S.length+1<=k:=by have:=xck.1 c;simpa using this
   have H:(i::S).drop k=[]:=xcw (by simpa using p);rw[H];have I:(aE (cp [])).length=0:=rfl;have J:decide (((0:Nat):Int)>0)=false:=rfl;simp only[EI,go_sem,I,J]
  |some x=>
   have p:k<S.length+1:=by have:=(lV.1 c).1;simpa using this
   have E:x<l.length:=by cases k with|zero=>simp at c;omega|succ k=>exact h.inv.2 x (xad (by simpa using c))
   obtain⟨d,s⟩:∃d,l[x]?=some d:=⟨l[x],xaa E⟩;have t:=ah.e d (xad s);have j:=h.next (λi k p=>ix i k p) c
   have ih:=U9 n l ah i y P m (k+1) _ j oZ;have L:=FG n d.e oZ t.1 oZ;have Q:=wX d.e;have F:=ajo n l ah i k (eh 3 d.e []) S h.inv z oZ oZ;have C:(eh 3 d.e []).filterMap (cw l)=to l x:=by rw[wY s];rfl
   rw[C]at F;obtain⟨T,R⟩:=(Gc (N:=l.length) (to l x) S h.inv (ix x)).pre;have o:((i::fW S (to l x)).drop k).length=(fW S (to l x)).length+1-k:=sZ
   have O:=j.le;have a:((i::S).drop k).length=S.length+1-k:=sZ
   have w:decide (((((i::S).drop k).length:Nat):Int)>0)=true:=xan (by rw[a];omega);have u:((i::S).drop k)[0]?=some x:=by rw[xaX];exact c
   have A:cI ((i::S).drop k).length (aa 0)=some 0:=by have:(aa 0)=aa ((0:Nat):Int):=rfl;rw[this,jF,xac (by rw[a];omega)]
   have f:hC ((i::fW S (to l x)).drop k).length (some (aa 1)) none=some (1,((i::fW S (to l x)).drop k).length-1):=by
    have ab:1<=((i::fW S (to l x)).drop k).length:=by rw[o];omega
    generalize ((i::fW S (to l x)).drop k).length=q at*;have:(aa 1)=aa ((1:Nat):Int):=rfl;rw[this];simp[hC,lf,aa,ab]
   have g:decide (1+(((i::fW S (to l x)).drop k).length-1)<=((i::fW S (to l x)).drop k).length)=true:=xan (by rw[o];omega);have r:D.aw 1 (((aE (cp ((i::fW S (to l x)).drop k))).drop 1).take (((i::fW S (to l x)).drop k).length-1))=cp ((i::fW S (to l x)).drop (k+1)):=by
    have K:((((i::fW S (to l x)).drop k).drop 1).take (((i::fW S (to l x)).drop k).length-1))=(i::fW S (to l x)).drop (k+1):=by rw[List.drop_drop,xbC];simp;omega
    show D.aw 1 (((((i::fW S (to l x)).drop k).map λ(i:Nat)=>[aa (i:Int)]).drop 1).take _)=cp _;rw[<-K];unfold cp;simp only[List.map_take,List.map_drop]
   simp only[EI,go_sem,Bo,w,A,U3 u,xk,dV s,L,A9,nw,F,f,g,r,ih]
def ajp(n:Nat)(m:bH){l:List bd}{B:Nat}(ah:fP B l)(i:Nat)(ag:i<l.length)(p:4*B+200<n):wj n [aA l,m.d,aa (i:Int)]=some (aa (if gN l i=true then 14 else 0)):=by
 have f:=ah.len;have q:=ah.b;have ai:=U9 n l ah i ag p n 0 [] (mg.start _ _ _) oZ;have a:=LR (λi k o=>ix i k o) n 0 [] (mg.start (to l) l.length i) oZ;rw[<-Lb l i]at a;generalize p0 (to l) i n 0 []=S at*;have c:eM 1 (aa (l.length:Int)) (aa (l.length:Int))=some l.length:=by simp[eM,aa];omega
 have g:D.aw 1 (List.replicate l.length [aF false])=hL l.length []:=by rw[U1];rfl
 have j:D.aw 1 [[aa (i:Int)]]=cp ((i::[]).drop 0):=rfl;have e:cI l.length (aa (i:Int))=some i:=iM ag;simp only[wj,Rs,go_sem,c,g,j,ai,Bp,e,Bq ag,tC];by_cases h:gN l i=true
 .rw[xac h,xac (xan (a.2 h))]
 rw[xab h,xab (by simpa usingλa1=>h (a.1 a1))]
def Va(n:Nat)(m:bH)(x:ByteArray)(l:m.ao.length<n)(ah:m.ao.length<1000000000):y7 n [m.d,aD x]=some (aa (ei (cw m.ao x))):=by
 have ag:=ch (f:=y6 n) m.ao (λi (_:Unit)=>[aD x,aa (i:Int),aO m.vars,aA m.ao,an m.bg,an m.bh,aA m.next,an m.trans,an m.bb,bj m.bc]) (λr _=>match cw r x with|some j=>(Sum.inr (aa ((m.ao.length-r.length+j:Nat):Int)):lZ⊕D)|none=> .inl []) (λ_ _=>True) (λ_ _=>by simp[y6,n4,cw]) ?_ n 0 () trivial oZ (xag _);.have k:(aa ((0:Nat):Int))=aa 0:=rfl;rw[k]at ag;simp only[y7,QH,go_sem,ag,xak];cases cw m.ao x<;>simp[ei]
 intro i a _ g ag _;have e:m.ao.length-(a::m.ao.drop (i+1)).length=i:=uZ
 have h:m.ao.length-(m.ao.drop (i+1)).length=i+1:=uZ
 have c:cw (a::m.ao.drop (i+1)) x=if a.name=x then some 0 else(cw (m.ao.drop (i+1)) x).map (·+1):=by simp[cw,xca]
 have a0:a.cells[0]?=some (aD a.name):=rfl;by_cases b:a.name=x;.right;rw[c,xac b,e];simp[y6,n4,ag,dV g,a0,b]
 left;refine⟨(),by simp[y6,n4,ag,dV g,a0,b,bl i],?_,trivial⟩;rw[c,xab b,e,h];cases cw (m.ao.drop (i+1)) x with|none=>rfl|some j=>simp;omega
def Vb(n:Nat)(m:bH)(x:ByteArray)(l:m.vars.length<n)(ah:m.vars.length<1000000000):y5 n [m.d,aD x]=some (aa (ei (c3 m.vars x))):=by
 have ag:=ch (f:=y4 n) m.vars (λi (_:Unit)=>[aD x,aa (i:Int),aO m.vars,aA m.ao,an m.bg,an m.bh,aA m.next,an m.trans,an m.bb,bj m.bc]) (λr _=>match c3 r x with|some j=>(Sum.inr (aa ((m.vars.length-r.length+j:Nat):Int)):lZ⊕D)|none=> .inl []) (λ_ _=>True) (λ_ _=>by simp[y4,jP,c3]) ?_ n 0 () trivial oZ (xag _);.have k:(aa ((0:Nat):Int))=aa 0:=rfl;rw[k]at ag;simp only[y5,QG,go_sem,ag,xak];cases c3 m.vars x<;>simp[ei]
 intro i a _ g ag _;have e:m.vars.length-(a::m.vars.drop (i+1)).length=i:=uZ
 have h:m.vars.length-(m.vars.drop (i+1)).length=i+1:=uZ
 have c:c3 (a::m.vars.drop (i+1)) x=if a.name=x then some 0 else(c3 (m.vars.drop (i+1)) x).map (·+1):=by simp[c3,xca]
 have a0:a.cells[0]?=some (aD a.name):=rfl;by_cases b:a.name=x;.right;rw[c,xac b,e];simp[y4,jP,ag,eV g,a0,b]
 left;refine⟨(),by simp[y4,jP,ag,eV g,a0,b,bl i],?_,trivial⟩;rw[c,xab b,e,h];cases c3 (m.vars.drop (i+1)) x with|none=>rfl|some j=>simp;omega
def ajq(n:Nat)(m:bH){B:Nat}(ah:fP B m.ao)(i:Nat)(k:Int)(d:List ByteArray)(S:lX)(z:gx m.ao.length S)(E:d.length<=B)(H:2*B+100<n):aR (sG n) n [aa k,hI true d,aa 0,aO m.vars,aA m.ao,an m.bg,an m.bh,aA m.next,an m.trans,an m.bb,bj m.bc,hL m.ao.length S,cp (i::S)]=some (.inl [aa k,aO m.vars,aA m.ao,an m.bg,an m.bh,aA m.next,an m.trans,an m.bb,bj m.bc,hL m.ao.length (fW S (d.filterMap (cw m.ao))),cp (i::fW S (d.filterMap (cw m.ao)))]):=by
 have u:=ah.len;have F:=ah.b;have ag:=ch (f:=sG n) d (λj (s:lX)=>[aa k,hI true d,aa (j:Int),aO m.vars,aA m.ao,an m.bg,an m.bh,aA m.next,an m.trans,an m.bb,bj m.bc,hL m.ao.length s,cp (i::s)]) (λr s=>(.inl [aa k,aO m.vars,aA m.ao,an m.bg,an m.bh,aA m.next,an m.trans,an m.bb,bj m.bc,hL m.ao.length (fW s (r.filterMap (cw m.ao))),cp (i::fW s (r.filterMap (cw m.ao)))]:lZ⊕(lZ⊕(lZ⊕(lZ⊕D))))) (λj s=>gx m.ao.length s) (λs _=>by simp only[sG,go_sem,kq,yF ((d.length:Int)<d.length),nw];rfl) ?_ n 0 S z oZ (xag _)
 .exact ag
 rintro j x s C G ab;have l:=Va n m x oZ oZ;have A:=ab.len;have g:=tn (nl:=true) C;have e:=yT ((j:Int)<(d.length:Int));left;cases h:cw m.ao x with
 |none=>rw[h]at l;refine⟨s,?_,by simp[h],ab⟩;have c:decide (ei none>=0)=false:=rfl;simp only[sG,go_sem,kq,e,g,xl,l,c,U6,U7,nw,bl j]
 |some y=>
  have t:=U8 h;rw[h]at l;have c:decide ((y:Int)>=0)=true:=xan oZ;have p:cI m.ao.length (aa (y:Int))=some y:=by rw[jF,xac t]
  have o:ei (some y)=(y:Int):=rfl;by_cases a:y∈s;.refine⟨s,?_,by simp[h,Bn,a],ab⟩;simp only[sG,go_sem,kq,e,g,xl,l,o,c,Bp,p,Bq t,tC,xan a,Gd,Ge,nw,bl j]
  have ai:=ab.snoc t a;refine⟨s++[y],?_,by simp only[xbY,h,Bn,xab a],ai⟩;have w:i::(s++[y])=(i::s)++[y]:=rfl;have q:b2 ((i::s).length+1) 8=true:=sk uZ uZ;rw[w];simp only[sG,go_sem,kq,e,g,xl,l,o,c,Bp,p,Bq t,tC,xax a,Gd,Ge,Bo,xal,xaA,xav,U5 t,U2,nw]at q⊢;simp only[q,l5,cL,l6,l7,mO,gL,iO,gX,e5,eO,u8,fN,hn,fG,bl j,U4,nw]
def Vc(n:Nat)(a:bH){B:Nat}(ah:fP B a.ao)(i:Nat)(o:i<a.ao.length)(D:4*B+200<n):∀(m k:Nat)(S:lX),mg (to a.ao) a.ao.length i k S->a.ao.length+1-k<m->aR (DW n) m [aa (k:Int),aO a.vars,aA a.ao,an a.bg,an a.bh,aA a.next,an a.trans,an a.bb,bj a.bc,hL a.ao.length S,cp (i::S)]=some (.inl [hL a.ao.length (p0 (to a.ao) i m k S)])
 |0,_,_,_,h=>absurd h (xaD _)
 |m+1,k,S,h,hm=>by
  have u:=ah.len;have F:=ah.b;rw[h7,p0];have z:=h.inv.len;have C:=h.le;cases c:(i::S)[k]? with
  |none=>
   have f:S.length+1<=k:=by have:=xck.1 c;simpa using this
   have w:decide ((k:Int)<(((i::S).length:Nat):Int))=false:=xax uZ;simp only[DW,go_sem,Bo,w]
  |some x=>
   have f:k<S.length+1:=by have:=(lV.1 c).1;simpa using this
   have s:x<a.ao.length:=by cases k with|zero=>simp at c;omega|succ k=>exact h.inv.2 x (xad (by simpa using c))
   obtain⟨d,g⟩:∃d,a.ao[x]?=some d:=⟨a.ao[x],xaa s⟩;have j:=ah.e d (xad g);have q:=h.next (λi k f=>ix i k f) c
   have ih:=Vc n a ah i o D m (k+1) _ q oZ;have y:=K7 n d.e oZ j.1 oZ;have E:=wX d.e;have t:=ajq n a ah i k (eh 3 d.e []) S h.inv oZ oZ;have r:(eh 3 d.e []).filterMap (cw a.ao)=to a.ao x:=by rw[wY g];rfl
   rw[r]at t;have l:decide ((k:Int)<(((i::S).length:Nat):Int))=true:=xan uZ;have p:cI (i::S).length (aa (k:Int))=some k:=by rw[jF,xac (by simpa using f)]
   have A:((k:Int)+1)=((k+1:Nat):Int):=oZ
   simp only[DW,go_sem,Bo,l,p,U3 c,xk,dV g,y,nw,t,bl k,ih]
def ajr(n:Nat)(m:bH){B:Nat}(ah:fP B m.ao)(i:Nat)(ag:i<m.ao.length)(l:4*B+200<n):∃S,DX n [m.d,aa (i:Int)]=some (hL m.ao.length S)/\(i∈S↔gN m.ao i=true):=by
 have e:=ah.len;have o:=ah.b;have ai:=Vc n m ah i ag l n 0 [] (mg.start _ _ _) oZ;have a:=LR (λi k j=>ix i k j) n 0 [] (mg.start (to m.ao) m.ao.length i) oZ;rw[<-Lb m.ao i]at a;generalize p0 (to m.ao) i n 0 []=S at*;refine⟨S,?_,a⟩;have c:eM 1 (aa (m.ao.length:Int)) (aa (m.ao.length:Int))=some m.ao.length:=by simp[eM,aa];omega
 have g:D.aw 1 (List.replicate m.ao.length [aF false])=hL m.ao.length []:=by rw[U1];rfl
 have h:D.aw 1 [[aa (i:Int)]]=cp (i::[]):=rfl;have f:(aa ((0:Nat):Int))=aa 0:=rfl;rw[f]at ai;simp only[DX,QK,go_sem,c,g,h,ai]
def bQ(e:Nat->Int):Nat->Nat->Int×Int
 |0,_=>(0,0)|m+1,i=>if e i=0 then bQ e m (i+1)else((i:Int),e i)
def Br(e:Nat->Int):∀(m i:Nat),(bQ e m i).2=0↔∀j,i<=j->j<i+m->e j=0
 |0,i=>by simp[bQ];intro j ab ad;omega
 |m+1,i=>by
  rw[bQ];by_cases h:e i=0
  .rw[xac h,Br e m (i+1)];constructor
   .intro ab j ad ai;by_cases a:j=i;.subst a;exact h
    exact ab j oZ oZ
   intro ab j ad ai;exact ab j oZ oZ
  rw[xab h];exact⟨λab=>absurd ab h,λab=>absurd (ab i (xaR _) oZ) h⟩
def ny(e:Nat->Int)(m i:Nat)(h:(bQ e m i).2=0):bQ e m i=(0,0):=by
 induction m generalizing i with
 |zero=>rfl
 |succ m ih=>
  rw[bQ]at h⊢;by_cases ak:e i=0;.rw[xac ak]at h⊢;exact ih (i+1) h
  rw[xab ak]at h;exact absurd h ak
def jS{b:Type}{f:lZ->Option (lZ⊕(lZ⊕b))}(dx:Nat->lZ)(e:Nat->Int)(N:Nat)(L:lZ)(W:Int×Int->b) (aj:∀i,i<N->f (dx i)=some (if e i=0 then .inl (dx (i+1))else .inr (.inr (W ((i:Int),e i))))) (a:f (dx N)=some (.inr (.inl L))): ∀(m i n:Nat),i+m=N->m<n->aR f n (dx i)=some (if(bQ e m i).2=0 then .inl L else .inr (W (bQ e m i)))
 |0,i,n,h,c=>by
  obtain⟨k,rfl⟩:∃k,n=k+1:=⟨n-1,by omega⟩;have:i=N:=oZ
  subst this;rw[h7,a];rfl
 |m+1,i,n,h,c=>by
  obtain⟨k,rfl⟩:∃k,n=k+1:=⟨n-1,by omega⟩;rw[h7,aj i oZ,bQ];by_cases ak:e i=0;.rw[xac ak,xac ak];exact jS dx e N L W aj a m (i+1) k oZ oZ
  rw[xab ak,xab ak];simp only[cL,xab ak]
structure Gf(m:bH)(n:Nat):Prop where
 aS:xj m
 gO:13302000000<n
 gZ:gY m.vars
 A6:∀v∈m.vars,v.name.size+24<n
 Vd:∀d∈m.ao,d.name.size+24<n/\d.name.size<=9223372036854775807
 bg:m.bg.length<=100/\∀t∈m.bg,t.Ok/\t.aS<=660000
 bh:m.bh.length<=100/\∀t∈m.bh,t.Ok/\t.aS<=660000
 next:m.next.length<=100/\∀d∈m.next,d.e.Ok/\d.e.aS<=660000
 trans:m.trans.length<=100/\∀t∈m.trans,t.Ok/\t.aS<=660000
 bb:m.bb.length<=100/\∀t∈m.bb,t.Ok/\t.aS<=660000
 bc:m.bc.length<=100/\∀s∈m.bc,(s.f.Ok/\s.f.aS<=660000)/\s.name.size+24<n/\s.name.size<=9223372036854775807
noncomputable section
mutual
def iS(m:bH):Fm->Int
 | .mk o t b ks=>if o=1 then k3 m false t else jT m ks
def jT(m:bH):List Fm->Int
 |[]=>0|k::r=>if iS m k=0 then jT m r else iS m k
end
theorem LS(m:bH)(f:Fm):iS m f=if f.op=1 then k3 m false f.e else jT m f.az:=by cases f;rw[iS];rfl
def iT(m:bH)(i:Nat):Int:=match m.ao[i]? with
 |some d=>if isName d.name=true then(if((c3 m.vars d.name).isSome||(cw (m.ao.take i) d.name).isSome)=true then 6 else 0)else 12
 |none=>0
def jo(m:bH)(i:Nat):Int:=if gN m.ao i=true then 14 else 0
def iU(m:bH)(i:Nat):Int:=match m.ao[i]? with|some d=>(e3 m false d.e).2|none=>0
def dy(m:bH)(l:List Tm)(nx:Bool)(i:Nat):Int:=match l[i]? with|some t=>k3 m nx t|none=>0
def ha(m:bH)(i:Nat):Int:=match m.next[i]? with
 |some d=>match c3 m.vars d.name with|none=>12|some k=>if(cw (m.next.take i) d.name).isSome=true then 6 else if((e3 m false d.e).2==0&&((e3 m false d.e).1.b !=(m.vars[k]?.map V.bool).getD false))=true then 13 else(e3 m false d.e).2
 |none=>0
def hb(m:bH)(i:Nat):Int:=match m.bc[i]? with
 |some s=>if isName s.name=true then(if(kv (m.bc.take i) s.name).isSome=true then 6 else if gh s.f=0 then iS m s.f else gh s.f)else 12
 |none=>0
end
def Ve{l:List bd}{i:Nat}(h:i<=l.length):j3 5 (aA l) none (some (aa (i:Int)))=some (aA (l.take i)):=by rw[aA,LG (by simpa using h)];simp[aA,List.map_take]
def ajs{l:List cv}{i:Nat}(h:i<=l.length):j3 7 (bj l) none (some (aa (i:Int)))=some (bj (l.take i)):=by rw[bj,LG (by simpa using h)];simp[bj,List.map_take]
def Vf{m:bH}(q:xj m):∀(n:Nat)(f:Fm),13301000000+f.aS<n->f.Ok->f.aS<=660000->pJ n [m.d,f.d]=some (aa (iS m f))
 |0,_,h,_,_=>absurd h (xaD _)
 |n+1,f,x,k,aj=>by
  have w:=f.pr;have u:=f.h8;rw[LS];have t:=UZ q n oZ k.e oZ false;have j:dN (bI 6 f.nl (Fm.rows f.az))=some (aa f.az.length):=sZ
  have ah:=ch (f:=Ae (pJ n) n) f.az (λi (_:Unit)=>[bI 6 f.nl (Fm.rows f.az),aa f.az.length,aa (i:Int),aO m.vars,aA m.ao,an m.bg,an m.bh,aA m.next,an m.trans,an m.bb,bj m.bc]) (λr _=>if jT m r=0 then(.inl []:lZ⊕D)else .inr (aa (jT m r))) (λ_ _=>True) ?_ ?_ n 0 () trivial (by have:=f.h8;omega) (xag _)
  .have s:(aa ((0:Nat):Int))=aa 0:=rfl;rw[s,xak]at ah;show Af (pJ n) n m.d f.d=_;by_cases ab:f.op=1
   .have c:(f.op==1)=true:=by simp[ab]
    simp only[Af,go_sem,c,xac ab,t]
   have c:(f.op==1)=false:=by simpa using ab
   simp only[Af,go_sem,c,xab ab,j,ah];by_cases ak:jT m f.az=0;.rw[xac ak,ak,l6]
   rw[xab ak,yk]
  .intro _ _;simp only[Ae,go_sem,yF ((f.az.length:Int)<f.az.length),jT]
  intro i a _ o ag _;have b:=xad o;have l:=Fm.fB b;have p:=Vf q n a oZ (k.di b) oZ;have g:=yT ((i:Int)<(f.az.length:Int));by_cases ak:iS m a=0
  .left;rw[ak]at p;refine⟨(),?_,by simp only[jT,ak,xaC],trivial⟩;have l:((0:Int) !=0)=false:=rfl;simp only[Ae,go_sem,g,Fm.ep o,p,l,bl i]
  right;have l:(iS m a !=0)=true:=by simpa using ak
  simp only[Ae,go_sem,g,Fm.ep o,p,l,jT,xab ak]
def Vg{m:bH}(q:xj m):∀(n:Nat)(f:Fm),13301000000+f.aS<n->f.Ok->f.aS<=660000->pD n [m.d,f.d]=some (aa (iS m f))
 |0,_,h,_,_=>absurd h (xaD _)
 |n+1,f,x,k,aj=>by
  have w:=f.pr;have u:=f.h8;rw[LS];have t:=U0 q n oZ k.e oZ false;have b:dN (bI 6 f.nl (Fm.rows f.az))=some (aa f.az.length):=sZ
  have ah:=ch (f:=zr (pD n) n) f.az (λi (_:Unit)=>[aa (i:Int),aO m.vars,aA m.ao,an m.bg,an m.bh,aA m.next,an m.trans,an m.bb,bj m.bc,aa f.op,aa f.e.op,aa f.e.num,aD f.e.name,bI 4 f.e.nl (Tm.rows f.e.az),bI 6 f.nl (Fm.rows f.az)]) (λr _=>if jT m r=0 then(.inl []:lZ⊕D)else .inr (aa (jT m r))) (λ_ _=>True) ?_ ?_ n 0 () trivial (by have:=f.h8;omega) (xag _)
  .have s:(aa ((0:Nat):Int))=aa 0:=rfl;rw[s,xak]at ah;show zs (pD n) n m.d f.d=_;by_cases ab:f.op=1
   .have g:(f.op==1)=true:=by simp[ab]
    simp only[zs,go_sem,g,xac ab,t]
   have g:(f.op==1)=false:=by simpa using ab
   simp only[zs,go_sem,g,xab ab,ah];by_cases ak:jT m f.az=0;.rw[xac ak,ak,l6]
   rw[xab ak,yk]
  .intro _ _;simp only[zr,go_sem,b,yF ((f.az.length:Int)<f.az.length),jT]
  intro i a _ o ag _;have c:=xad o;have l:=Fm.fB c;have p:=Vg q n a oZ (k.di c) oZ;have j:=yT ((i:Int)<(f.az.length:Int));by_cases ak:iS m a=0
  .left;rw[ak]at p;refine⟨(),?_,by simp only[jT,ak,xaC],trivial⟩;have l:((0:Int) !=0)=false:=rfl;simp only[zr,go_sem,b,j,Fm.ep o,p,l,bl i]
  right;have l:(iS m a !=0)=true:=by simpa using ak
  simp only[zr,go_sem,b,j,Fm.ep o,p,l,jT,xab ak]
section
variable{m:bH}{n:Nat}(hm:Gf m n)
include hm
theorem ajt(i:Nat)(ag:i<m.ao.length):pL n [aA m.ao,m.d,aa (i:Int)]=some (aa (iT m i)):=by have h:=hm.gO;have f:=hm.aS.dl;have g:=hm.aS.eg;obtain⟨d,a⟩:∃d,m.ao[i]?=some d:=⟨m.ao[i],xaa ag⟩;have e:=hm.Vd d (xad a);have b:=LD n d.name oZ e.2;have c:=ai3 n m.vars d.name oZ oZ;have hD:=ai6 n (m.ao.take i) d.name uZ uZ;have aj:=Ve (l:=m.ao) (i:=i) oZ;simp only[iT,a];cases ab:isName d.name with|false=>simp only[pL,As,go_sem,dV a,b,ab]|true=>cases ad:(c3 m.vars d.name).isSome with|true=>simp only[pL,As,go_sem,dV a,b,ab,c,ad]|false=>cases ai:(cw (m.ao.take i) d.name).isSome with|true=>simp only[pL,As,go_sem,dV a,b,ab,c,ad,aj,hD,ai,xbB]|false=>simp only[pL,As,go_sem,dV a,b,ab,c,ad,aj,hD,ai,Bool.or_false]
theorem aju(i:Nat)(ag:i<m.ao.length):wh n [aA m.ao,m.d,aa (i:Int)]=some (aa (iU m i)):=by have f:=hm.gO;obtain⟨d,b⟩:∃d,m.ao[i]?=some d:=⟨m.ao[i],xaa ag⟩;have a:=hm.aS.d.e d (xad b);have c:=LP hm.aS n oZ a.1 a.2 false;simp only[iU,b];simp only[wh,Rr,go_sem,dV b,c]
theorem ajv(l:List Tm)(ah:∀t∈l,t.Ok/\t.aS<=660000)(k:Int)(nx:Bool)(i:Nat)(ag:i<l.length):wg n [.agg [aa k,an l,aF nx],m.d,aa (i:Int)]=some (aa (dy m l nx i)):=by have f:=hm.gO;obtain⟨t,b⟩:∃t,l[i]?=some t:=⟨l[i],xaa ag⟩;have a:=ah t (xad b);have c:=UZ hm.aS n oZ a.1 a.2 nx;have e:cz 3 (.agg [aa k,an l,aF nx])=true:=rfl;have c1:ae (.agg [aa k,an l,aF nx]) 1=an l:=rfl;have c2:ae (.agg [aa k,an l,aF nx]) 2=aF nx:=rfl;simp only[dy,b];simp only[wg,Rq,go_sem,e,c1,c2,rl b,c]
theorem ajw(i:Nat)(ag:i<m.next.length):q1 n [aA m.next,m.d,aa (i:Int)]=some (aa (ha m i)):=by
 have u:=hm.gO;have s:=hm.next.1
 have t:=hm.aS.eg;obtain⟨d,a⟩:∃d,m.next[i]?=some d:=⟨m.next[i],xaa ag⟩
 have c:=hm.next.2 d (xad a)
 have r:=LP hm.aS n oZ c.1 c.2 false;have g:=ai8 n m.vars d.name oZ oZ;have hD:=ajb n (m.next.take i) d.name uZ uZ;have aj:=Ve (l:=m.next) (i:=i) oZ;simp only[ha,a];cases ab:c3 m.vars d.name with
 |none=>have ak:decide (ei none<0)=true:=rfl;simp only[q1,EF,go_sem,dV a,g,ab,ak]
 |some k=>
  have ak:decide (ei (some k)<0)=false:=by rw[UO];rfl
  have h:k<m.vars.length:=by have:=xbv.1 ab;exact this.1
  obtain⟨v,q⟩:∃v,m.vars[k]?=some v:=⟨m.vars[k],xaa h⟩;have p:ba 4 (aO m.vars) (aa (ei (some k)))=some v.cells:=eV q;have o:aQ false 1 1 v.cells=some (aF v.bool):=rfl;simp only[q,xaI,xbn];cases ai:(cw (m.next.take i) d.name).isSome with
  |true=>simp only[q1,EF,go_sem,dV a,g,ab,ak,aj,hD,ai]
  |false=>
   generalize e3 m false d.e=y at*;have j:aW true .neq (aF y.1.b) (aF v.bool)=some (aF (y.1.b !=v.bool)):=rfl;simp only[q1,EF,go_sem,dV a,g,ab,ak,aj,hD,ai,r,oF,p,o,j];by_cases f:(y.2==0&&(y.1.b !=v.bool))=true
   .rw[xac f,xac f]
   rw[xab f,xab f]
theorem ajx(i:Nat)(ag:i<m.bc.length):pK n [bj m.bc,m.d,aa (i:Int)]=some (aa (hb m i)):=by
 have r:=hm.gO;have q:=hm.bc.1;obtain⟨s,aj⟩:∃s,m.bc[i]?=some s:=⟨m.bc[i],xaa ag⟩;obtain⟨⟨k,g⟩,p,h⟩:=hm.bc.2 s (xad aj);have e:=LD n s.name oZ h;have hD:=ajg n (m.bc.take i) s.name uZ uZ;have a:=ajs (l:=m.bc) (i:=i) oZ;have j:=FP n s.f oZ k oZ;have o:=Vf hm.aS n s.f oZ k g;simp only[hb,aj];cases ab:isName s.name with
 |false=>simp only[pK,Ag,go_sem,jQ aj,e,ab]
 |true=>
  cases ai:(kv (m.bc.take i) s.name).isSome with
  |true=>simp only[pK,Ag,go_sem,jQ aj,e,ab,a,hD,ai]
  |false=>
   by_cases c:gh s.f=0
   .have b:(gh s.f !=0)=false:=by simp[c]
    simp only[pK,Ag,go_sem,jQ aj,e,ab,a,hD,ai,j,b,xac c,o]
   have b:(gh s.f !=0)=true:=by simpa using c
   simp only[pK,Ag,go_sem,jQ aj,e,ab,a,hD,ai,j,b,xab c]
end
def ec(p:Int×Int):D:= .aC [aa p.1,aa p.2]
def p1(a b:Int×Int):Int×Int:=if a.2=0 then b else a
def findIdx_take{o:Type}{l:List o}{p:o->Bool}{i:Nat}{d:o}(q:l[i]?=some d)(r:p d=true):decide (ei (l.findIdx? p)<(i:Int))=((l.take i).findIdx? p).isSome:=by
 obtain⟨ag,c⟩:=lV.1 q;cases h:l.findIdx? p with
 |none=>have:=List.findIdx?_eq_none_iff.1 h d (xad q);rw[r]at this;cases this
 |some k=>
  obtain⟨w,n,b⟩:=xbv.1 h;rw[List.findIdx?_isSome];have x:k<=i:=by
   rcases xbd i k with ab|ab;.have:=b i ab;rw[c]at this;exact absurd r this
   exact ab
  by_cases t:k<i;.have ab:decide (ei (some k)<(i:Int))=true:=xan (by show(k:Int)<(i:Int);omega);rw[ab];symm;rw[xbz];refine⟨l[k],xaJ.2 ⟨k,?_⟩,n⟩;rw[xcq t];exact xaa w
  have ab:decide (ei (some k)<(i:Int))=false:=xax (by show¬(k:Int)<(i:Int);omega);rw[ab];symm;rw[Bool.eq_false_iff,ne_eq,xbz];rintro⟨a,s,m⟩;obtain⟨j,e⟩:=xaJ.1 s;have g:=(lV.1 e).1;simp only[xby]at g;rw[xcq oZ]at e;obtain⟨u,f⟩:=lV.1 e;have:=b j oZ;rw[f]at this;exact this m
noncomputable def nz(m:bH):Int×Int:=p1 (bQ (iT m) m.ao.length 0) (p1 (bQ (jo m) m.ao.length 0) (bQ (iU m) m.ao.length 0))
section
variable{m:bH}{n:Nat}(hm:Gf m n)
include hm
theorem ajy:aR (sK n) n [aa 0,aO m.vars,aA m.ao,an m.bg,an m.bh,aA m.next,an m.trans,an m.bb,bj m.bc]=some (if(bQ (iT m) m.ao.length 0).2=0 then .inl [aO m.vars,aA m.ao,an m.bg,an m.bh,aA m.next,an m.trans,an m.bb,bj m.bc]else .inr (ec (bQ (iT m) m.ao.length 0))):=by
 have o:=hm.gO;have k:=hm.aS.dl;have l:=hm.aS.eg;refine jS (λi=>[aa (i:Int),aO m.vars,aA m.ao,an m.bg,an m.bh,aA m.next,an m.trans,an m.bb,bj m.bc]) (iT m) m.ao.length _ ec ?_ ?_ _ 0 n oZ oZ
 .intro i ag;obtain⟨d,f⟩:∃d,m.ao[i]?=some d:=⟨m.ao[i],xaa ag⟩;have j:=hm.Vd d (xad f);have g:=LF n d.name oZ j.2;have h:=Vb n m d.name oZ oZ;have hD:=Va n m d.name oZ oZ;have c:=yT ((i:Int)<(m.ao.length:Int));have a:=findIdx_take (p:=λe:bd=>decide (e.name=d.name)) f sZ;change decide (ei (cw m.ao d.name)<(i:Int))=(cw (m.ao.take i) d.name).isSome at a;simp only[iT,f];cases ab:isName d.name with
  |false=>simp only[sK,go_sem,c,dV f,g,ab,xab (show¬(12:Int)=0 by decide),ec]
  |true=>
   cases ad:(c3 m.vars d.name).isSome with
   |true=>have b:=xh (c3 m.vars d.name);rw[ad]at b;simp only[sK,go_sem,c,dV f,g,ab,h,b,pj,xab (show¬(true=false) by decide),pk,xab (show¬(6:Int)=0 by decide),ec]
   |false=>
    have b:=xh (c3 m.vars d.name);rw[ad]at b;cases ai:(cw (m.ao.take i) d.name).isSome with
    |true=>rw[ai]at a;simp only[sK,go_sem,c,dV f,g,ab,h,b,pj,hD,a,pk,xab (show¬(6:Int)=0 by decide),ec,Bool.or_true]
    |false=>rw[ai]at a;simp only[sK,go_sem,c,dV f,g,ab,h,b,pj,hD,a,pk,Bool.or_false,bl i]
 simp only[sK,go_sem,yF ((m.ao.length:Int)<m.ao.length)]
theorem ajz:aR (zl n) n [aa 0,aO m.vars,aA m.ao,an m.bg,an m.bh,aA m.next,an m.trans,an m.bb,bj m.bc]=some (if(bQ (jo m) m.ao.length 0).2=0 then .inl [aO m.vars,aA m.ao,an m.bg,an m.bh,aA m.next,an m.trans,an m.bb,bj m.bc]else .inr (ec (bQ (jo m) m.ao.length 0))):=by
 have g:=hm.gO;have f:=hm.aS.dl;refine jS (λi=>[aa (i:Int),aO m.vars,aA m.ao,an m.bg,an m.bh,aA m.next,an m.trans,an m.bb,bj m.bc]) (jo m) m.ao.length _ ec ?_ ?_ _ 0 n oZ oZ
 .intro i ag;obtain⟨S,c,a⟩:=ajr n m hm.aS.d i ag oZ;have b:=yT ((i:Int)<(m.ao.length:Int));have e:ba 1 (hL m.ao.length S) (aa (i:Int))=some [aF (decide (i∈S))]:=by
   rw[hL,PC,Bm ag]
  cases ab:gN m.ao i with
  |true=>have ad:=xan (a.2 ab);simp only[zl,go_sem,b,c,e,tC,ad,jo,ab,xab (show¬(14:Int)=0 by decide),ec]
  |false=>have ad:=xax (show¬i∈S fromλh=>by rw[a.1 h]at ab;cases ab);simp only[zl,go_sem,b,c,e,tC,ad,jo,ab,bl i]
 simp only[zl,go_sem,yF ((m.ao.length:Int)<m.ao.length)]
theorem ajA:aR (zm n) n [aa 0,aO m.vars,aA m.ao,an m.bg,an m.bh,aA m.next,an m.trans,an m.bb,bj m.bc]=some (if(bQ (iU m) m.ao.length 0).2=0 then .inl []else .inr (ec (bQ (iU m) m.ao.length 0))):=by
 have j:=hm.gO;have h:=hm.aS.dl;refine jS (λi=>[aa (i:Int),aO m.vars,aA m.ao,an m.bg,an m.bh,aA m.next,an m.trans,an m.bb,bj m.bc]) (iU m) m.ao.length _ ec ?_ ?_ _ 0 n oZ oZ
 .intro i ag;obtain⟨d,f⟩:∃d,m.ao[i]?=some d:=⟨m.ao[i],xaa ag⟩;have b:=hm.aS.d.e d (xad f);have g:=LQ hm.aS n oZ b.1 b.2 false;have c:=yT ((i:Int)<(m.ao.length:Int));simp only[iU,f];by_cases ab:(e3 m false d.e).2=0
  .have a:((e3 m false d.e).2 !=0)=false:=by simp[ab]
   simp only[zm,go_sem,c,dV f,g,a,xac ab,bl i]
  have a:((e3 m false d.e).2 !=0)=true:=by simpa using ab
  simp only[zm,go_sem,c,dV f,g,a,xab ab,ec]
 simp only[zm,go_sem,yF ((m.ao.length:Int)<m.ao.length)]
theorem ajB:sL n [m.d]=some (ec (nz m)):=by
 have ad:=ajy hm;have b:=ajz hm;have a:=ajA hm;have c:∀e k,(bQ e k 0).2=0->bQ e k 0=(0,0):=λe k=>ny e k 0;unfold nz p1;by_cases c1:(bQ (iT m) m.ao.length 0).2=0
 case neg=>rw[xab c1]at ad⊢;simp only[sL,zn,go_sem,ad]
 rw[xac c1]at ad⊢;by_cases c2:(bQ (jo m) m.ao.length 0).2=0
 case neg=>rw[xab c2]at b⊢;simp only[sL,zn,go_sem,ad,b]
 rw[xac c2]at b⊢;by_cases b6:(bQ (iU m) m.ao.length 0).2=0;.rw[xac b6]at a;rw[c _ _ b6];simp only[sL,zn,go_sem,ad,b,a,ec]
 rw[xab b6]at a;simp only[sL,zn,go_sem,ad,b,a]
theorem Gg(l:List Tm)(ah:l.length<=100/\∀t∈l,t.Ok/\t.aS<=660000)(nx:Bool):qQ n [m.d,an l,aF nx]=some (ec (bQ (dy m l nx) l.length 0)):=by
 have k:=hm.gO;have ag:=jS (f:=zo n) (λi=>[an l,aF nx,aa (i:Int),aO m.vars,aA m.ao,an m.bg,an m.bh,aA m.next,an m.trans,an m.bb,bj m.bc]) (dy m l nx) l.length [] ec ?_ ?_ l.length 0 n oZ oZ
 .have j:(aa ((0:Nat):Int))=aa 0:=rfl;rw[j]at ag;by_cases c:(bQ (dy m l nx) l.length 0).2=0;.rw[xac c]at ag;rw[ny _ _ _ c];simp only[qQ,J3,go_sem,ag,ec]
  rw[xab c]at ag;simp only[qQ,J3,go_sem,ag]
 .intro i ag;obtain⟨t,g⟩:∃t,l[i]?=some t:=⟨l[i],xaa ag⟩;have e:=ah.2 t (xad g);have h:=U0 hm.aS n oZ e.1 e.2 nx;have b:=yT ((i:Int)<(l.length:Int));simp only[dy,g];by_cases ab:k3 m nx t=0
  .have a:(k3 m nx t !=0)=false:=by simp[ab]
   simp only[zo,go_sem,b,rl g,h,a,xac ab,uN (bt:=false) (i:=i) (by have:=ah.1;omega)]
  have a:(k3 m nx t !=0)=true:=by simpa using ab
  simp only[zo,go_sem,b,rl g,h,a,xab ab,ec]
 simp only[zo,go_sem,yF ((l.length:Int)<l.length)]
theorem ajC(i:Nat)(k:Int){d:bd}(g:m.next[i]?=some d):aR (vC n) n [aa (i:Int),aa k,aa 0,aO m.vars,aA m.ao,an m.bg,an m.bh,aA m.next,an m.trans,an m.bb,bj m.bc]=some (if(cw (m.next.take i) d.name).isSome=true then .inr (.inr (.inr (.inr (.aC [aa (i:Int),aa 6]))))else .inl [aa (i:Int),aa k,aO m.vars,aA m.ao,an m.bg,an m.bh,aA m.next,an m.trans,an m.bb,bj m.bc]):=by
 have t:=hm.gO;have s:=hm.next.1
 have q:=(lV.1 g).1;have c:(m.next.take i).length=i:=uZ
 have ag:=ch (f:=vC n) (m.next.take i) (λj (_:Unit)=>[aa (i:Int),aa k,aa (j:Int),aO m.vars,aA m.ao,an m.bg,an m.bh,aA m.next,an m.trans,an m.bb,bj m.bc]) (λr _=>(if(cw r d.name).isSome=true then .inr (.inr (.inr (.inr (.aC [aa (i:Int),aa 6]))))else .inl [aa (i:Int),aa k,aO m.vars,aA m.ao,an m.bg,an m.bh,aA m.next,an m.trans,an m.bb,bj m.bc]:lZ⊕(lZ⊕(lZ⊕(lZ⊕D))))) (λ_ _=>True) (λ_ _=>by rw[c];simp only[vC,go_sem,yF ((i:Int)<i)];rfl) ?_ n 0 () trivial oZ (xag _);.exact ag
 intro j a _ e l _;rw[c]at l;rw[xcq l]at e;have b:=yT ((j:Int)<(i:Int));have p:cw (a::(m.next.take i).drop (j+1)) d.name=if decide (a.name=d.name)=true then some 0 else(cw ((m.next.take i).drop (j+1)) d.name).map (·+1):=findIdx_cons _ a _
 rw[p];by_cases h:a.name=d.name;.right;rw[xac (xan h)];simp only[vC,go_sem,b,dV e,dV g,xan h,Option.isSome_some]
 left;refine⟨(),?_,?_,trivial⟩;.simp only[vC,go_sem,b,dV e,dV g,xax h,bl j]
 have o:¬(decide (a.name=d.name)=true):=by simpa using h
 rw[xab o,Option.isSome_map]
theorem ajD(i:Nat){d:cv}(g:m.bc[i]?=some d):aR (vF n) n [aa (i:Int),aa 0,aO m.vars,aA m.ao,an m.bg,an m.bh,aA m.next,an m.trans,an m.bb,bj m.bc]=some (if(kv (m.bc.take i) d.name).isSome=true then .inr (.inr (.inr (.inr (.aC [aa (i:Int),aa 6]))))else .inl [aa (i:Int),aO m.vars,aA m.ao,an m.bg,an m.bh,aA m.next,an m.trans,an m.bb,bj m.bc]):=by
 have s:=hm.gO;have q:=hm.bc.1;have p:=(lV.1 g).1;have c:(m.bc.take i).length=i:=uZ
 have ag:=ch (f:=vF n) (m.bc.take i) (λj (_:Unit)=>[aa (i:Int),aa (j:Int),aO m.vars,aA m.ao,an m.bg,an m.bh,aA m.next,an m.trans,an m.bb,bj m.bc]) (λr _=>(if(kv r d.name).isSome=true then .inr (.inr (.inr (.inr (.aC [aa (i:Int),aa 6]))))else .inl [aa (i:Int),aO m.vars,aA m.ao,an m.bg,an m.bh,aA m.next,an m.trans,an m.bb,bj m.bc]:lZ⊕(lZ⊕(lZ⊕(lZ⊕D))))) (λ_ _=>True) (λ_ _=>by rw[c];simp only[vF,go_sem,yF ((i:Int)<i)];rfl) ?_ n 0 () trivial oZ (xag _);.exact ag
 intro j a _ e k _;rw[c]at k;rw[xcq k]at e;have b:=yT ((j:Int)<(i:Int));have o:kv (a::(m.bc.take i).drop (j+1)) d.name=if decide (a.name=d.name)=true then some 0 else(kv ((m.bc.take i).drop (j+1)) d.name).map (·+1):=findIdx_cons _ a _
 rw[o];by_cases h:a.name=d.name;.right;rw[xac (xan h)];simp only[vF,go_sem,b,jQ e,jQ g,xan h,Option.isSome_some]
 left;refine⟨(),?_,?_,trivial⟩;.simp only[vF,go_sem,b,jQ e,jQ g,xax h,bl j]
 have l:¬(decide (a.name=d.name)=true):=by simpa using h
 rw[xab l,Option.isSome_map]
theorem ajE:zp n [m.d]=some (ec (bQ (ha m) m.next.length 0)):=by
 have E:=hm.gO;have C:=hm.next.1
 have D:=hm.aS.eg;have ag:=jS (f:=qR n) (λi=>[aa (i:Int),aO m.vars,aA m.ao,an m.bg,an m.bh,aA m.next,an m.trans,an m.bb,bj m.bc]) (ha m) m.next.length [] ec ?_ ?_ m.next.length 0 n oZ oZ
 .have B:(aa ((0:Nat):Int))=aa 0:=rfl;rw[B]at ag;by_cases c:(bQ (ha m) m.next.length 0).2=0;.rw[xac c]at ag;rw[ny _ _ _ c];simp only[zp,J4,go_sem,ag,ec]
  rw[xab c]at ag;simp only[zp,J4,go_sem,ag]
 .intro i ag;obtain⟨d,g⟩:∃d,m.next[i]?=some d:=⟨m.next[i],xaa ag⟩
  have s:=hm.next.2 d (xad g)
  have w:=LQ hm.aS n oZ s.1 s.2 false;have h:=Vb n m d.name oZ oZ;have a:=yT ((i:Int)<(m.next.length:Int));simp only[ha,g];cases ab:c3 m.vars d.name with
  |none=>rw[ab]at h;have ak:decide (ei none<0)=true:=rfl;simp only[qR,go_sem,a,dV g,h,ak,xab (show¬(12:Int)=0 by decide),ec]
  |some k=>
   rw[ab]at h;have q:=ajC hm i (ei (some k)) g;have ak:decide (ei (some k)<0)=false:=by rw[UO];rfl
   have x:k<m.vars.length:=by have:=xbv.1 ab;exact this.1
   obtain⟨v,A⟩:∃v,m.vars[k]?=some v:=⟨m.vars[k],xaa x⟩;have o:ba 4 (aO m.vars) (aa (ei (some k)))=some v.cells:=eV A;have l:aQ false 1 1 v.cells=some (aF v.bool):=rfl;simp only[A,xaI,xbn];cases ai:(cw (m.next.take i) d.name).isSome with
   |true=>rw[ai,xac rfl]at q;simp only[qR,go_sem,a,dV g,h,ak,q,xab (show¬(6:Int)=0 by decide),ec]
   |false=>
    rw[ai,xab dZ]at q;generalize e3 m false d.e=y at*;have j:aW true .neq (aF y.1.b) (aF v.bool)=some (aF (y.1.b !=v.bool)):=rfl;have u:((13:Int) !=0)=true:=rfl;by_cases z:(y.2==0&&(y.1.b !=v.bool))=true
    .simp only[qR,go_sem,a,dV g,h,ak,q,w,oF,o,l,j,z,u,xab (show¬(13:Int)=0 by decide),ec]
    have r:(y.2==0&&(y.1.b !=v.bool))=false:=by simpa using z
    by_cases t:y.2=0
    .have p:(y.2 !=0)=false:=by simp[t]
     simp only[qR,go_sem,a,dV g,h,ak,q,w,oF,o,l,j,r,p,xac t,bl i]
    have p:(y.2 !=0)=true:=by simpa using t
    simp only[qR,go_sem,a,dV g,h,ak,q,w,oF,o,l,j,r,p,xab t,ec]
 simp only[qR,go_sem,yF ((m.next.length:Int)<m.next.length)]
theorem ajF:zt n [m.d]=some (ec (bQ (hb m) m.bc.length 0)):=by
 have y:=hm.gO;have x:=hm.bc.1;have ag:=jS (f:=qT n) (λi=>[aa (i:Int),aO m.vars,aA m.ao,an m.bg,an m.bh,aA m.next,an m.trans,an m.bb,bj m.bc]) (hb m) m.bc.length [] ec ?_ ?_ m.bc.length 0 n oZ oZ
 .have u:(aa ((0:Nat):Int))=aa 0:=rfl;rw[u]at ag;by_cases c:(bQ (hb m) m.bc.length 0).2=0;.rw[xac c]at ag;rw[ny _ _ _ c];simp only[zt,J6,go_sem,ag,ec]
  rw[xab c]at ag;simp only[zt,J6,go_sem,ag]
 .intro i ag;obtain⟨s,aj⟩:∃s,m.bc[i]?=some s:=⟨m.bc[i],xaa ag⟩;obtain⟨⟨t,p⟩,w,q⟩:=hm.bc.2 s (xad aj);have k:=LF n s.name oZ q;have h:=ajD hm i aj;have o:=FO n s.f oZ t oZ;have r:=Vg hm.aS n s.f oZ t p;have a:=yT ((i:Int)<(m.bc.length:Int));simp only[hb,aj];cases ab:isName s.name with
  |false=>simp only[qT,go_sem,a,jQ aj,k,ab,xab (show¬(12:Int)=0 by decide),ec]
  |true=>
   cases ai:(kv (m.bc.take i) s.name).isSome with
   |true=>rw[ai,xac rfl]at h;simp only[qT,go_sem,a,jQ aj,k,ab,h,xab (show¬(6:Int)=0 by decide),ec]
   |false=>
    rw[ai,xab dZ]at h;by_cases g:gh s.f=0
    .have b:(gh s.f==0)=true:=by simp[g]
     by_cases l:iS m s.f=0
     .have e:(iS m s.f !=0)=false:=by simp[l]
      simp only[qT,go_sem,a,jQ aj,k,ab,h,o,b,xac g,r,e,xac l,bl i]
     have e:(iS m s.f !=0)=true:=by simpa using l
     simp only[qT,go_sem,a,jQ aj,k,ab,h,o,b,xac g,r,e,xab l,ec]
    have b:(gh s.f==0)=false:=by simpa using g
    have j:(gh s.f !=0)=true:=by simpa using g
    simp only[qT,go_sem,a,jQ aj,k,ab,h,o,b,j,xab g,ec]
 simp only[qT,go_sem,yF ((m.bc.length:Int)<m.bc.length)]
end
def kc:List V->Nat
 |[]=>0|v::r=>bitsOf v.span+kc r
theorem V.ajG(v:V):D.agg [ae v.d 0,ae v.d 1,ae v.d 2,ae v.d 3]=v.d:=rfl
attribute [go_sem] V.ajG
def ajH(n:Nat)(m:bH)(k:gY m.vars)(ah:m.vars.length<=100)(l:200<n):zO n [m.d]=some (aa (kc m.vars:Nat)):=by
 have ag:=ch (f:=El n) m.vars (λi (s:Nat)=>[aa (s:Int),aO m.vars,aa m.vars.length,aa (i:Int)]) (λr s=>(.inl [aa ((s+kc r:Nat):Int)]:lZ⊕D)) (λi s=>s<=62*i) ?_ ?_ n 0 0 sZ oZ (xag _);.have g:(aa ((0:Nat):Int))=aa 0:=rfl;rw[g,xak,xav]at ag;simp only[zO,Rb,go_sem,ag]
 .intro s aj;simp only[El,go_sem,yF ((m.vars.length:Int)<m.vars.length),kc,xbw]
 intro i v s b ag aj;obtain⟨ab,ad,_⟩:=k.2 v (xad b);have e:=LJ n v ab ad;have h:=aiW n v.span (V.tB v).2 oZ;have j:=(xg (V.tB v).2).1;have c:=yT ((i:Int)<(m.vars.length:Int));have a:aW false .add (aa (s:Int)) (aa (bitsOf v.span:Nat))=some (aa ((s+bitsOf v.span:Nat):Int)):=by rw[dw oZ oZ];rfl
 left;refine⟨s+bitsOf v.span,?_,by rw[kc,xbl],by omega⟩;simp only[El,go_sem,c,eV b,V.g4,e,h,a,bl i]
def ajI(n:Nat)(m:bH)(k:gY m.vars)(ah:m.vars.length<=100)(l:200<n):DS n [m.d]=some (aa (kc m.vars:Nat)):=by
 have ag:=ch (f:=DR n) m.vars (λi (s:Nat)=>[aa (s:Int),aa (i:Int),aO m.vars,aA m.ao,an m.bg,an m.bh,aA m.next,an m.trans,an m.bb,bj m.bc]) (λr s=>(.inl [aa ((s+kc r:Nat):Int)]:lZ⊕D)) (λi s=>s<=62*i) ?_ ?_ n 0 0 sZ oZ (xag _);.have g:(aa ((0:Nat):Int))=aa 0:=rfl;rw[g,xak,xav]at ag;simp only[DS,QF,go_sem,ag]
 .intro s aj;simp only[DR,go_sem,yF ((m.vars.length:Int)<m.vars.length),kc,xbw]
 intro i v s b ag aj;obtain⟨ab,ad,_⟩:=k.2 v (xad b);have e:=xf n v ab ad;have h:=aiX n v.span (by have:=(V.tB v).1;omega) (V.tB v).2 oZ;have j:=(xg (V.tB v).2).1;have c:=yT ((i:Int)<(m.vars.length:Int));have a:aW false .add (aa (s:Int)) (aa (bitsOf v.span:Nat))=some (aa ((s+bitsOf v.span:Nat):Int)):=by rw[dw oZ oZ];rfl
 left;refine⟨s+bitsOf v.span,?_,by rw[kc,xbl],by omega⟩;simp only[DR,go_sem,c,eV b,e,h,a,bl i]
def iV:List V->Int->Int
 |[],a=>a|v::r,a=>iV r (if a<=1073741824 then a*max v.span 1 else a)
def Vh:∀(l:List V)(a:Int),¬a<=1073741824->iV l a=a
 |[],a,_=>rfl|v::r,a,h=>by rw[iV,xab h,Vh r a h]
def kx(l:List V):Bool:=l.any λv=>v.span==0
def stM(l:List V):Int×Bool:=if kx l=true then(0,true)else if iV l 1>1073741824 then(0,false)else(iV l 1,true)
def ajJ{a:Int}:hU true [aa a,aa 1]=some (aa (max a 1)):=by
 rw[Ji]
 congr 2
 split<;>omega
def Vi{a k:Int}(ab:1<=a)(ad:a<=1073741824)(ai:0<=k)(d:k<=1073741825):1<=a*max k 1/\a*max k 1<=1152921505680588800:=by
 have b:1<=max k 1:=oZ
 have c:max k 1<=1073741825:=oZ
 generalize max k 1=q at*;constructor;.have:=xcj ab b oZ oZ;simpa using this
 have:=xcj ad c oZ oZ;exact this
def ajK(n:Nat)(m:bH)(p:gY m.vars)(ah:m.vars.length<=100)(q:200<n):wu n [m.d]=some (.aC [aa (stM m.vars).1,aF (stM m.vars).2]):=by
 have ag:=ch (f:=Au n) m.vars (λi (s:Int×Bool)=>[aa s.1,aF s.2,aO m.vars,aa m.vars.length,aa (i:Int)]) (λr s=>(.inl [aa (iV r s.1),aF (s.2||kx r)]:lZ⊕D)) (λi s=>1<=s.1/\s.1<=1152921505680588800) ?_ ?_ n 0 (1,false) sZ oZ (xag _)
 .have l:(aa ((0:Nat):Int))=aa 0:=rfl;rw[l,xak,xbB]at ag;unfold stM;cases ab:kx m.vars with
  |true=>rw[ab]at ag;simp only[wu,EW,go_sem,ag]
  |false=>
   rw[ab]at ag;by_cases ad:iV m.vars 1>1073741824;.simp only[wu,EW,go_sem,ag,xan ad,xac ad]
   simp only[wu,EW,go_sem,ag,xax ad,xab ad]
 .intro s aj;simp only[Au,go_sem,yF ((m.vars.length:Int)<m.vars.length),iV,kx,List.any_nil,Bool.or_false]
 intro i v s e ag aj;obtain⟨ab,ad,_⟩:=p.2 v (xad e);have k:=LJ n v ab ad;have j:=V.tB v;have h:=yT ((i:Int)<(m.vars.length:Int));have c:∀r,kx (v::r)=(v.span==0||kx r):=λr=>rfl;left;by_cases g:s.1<=1073741824
 .have o:=Vi aj.1 g j.1 j.2;refine⟨(s.1*max v.span 1,s.2||v.span==0),?_,by rw[iV,xac g,c,Bool.or_assoc],o⟩;simp only[Au,go_sem,h,eV e,V.g4,k,xan g,ajJ,qF (bt:=false) (a:=s.1) (b:=max v.span 1) oZ oZ,bl i]
 refine⟨(s.1,s.2||v.span==0),?_,by rw[iV,xab g,c,Bool.or_assoc],aj⟩;simp only[Au,go_sem,h,eV e,V.g4,k,xax g,bl i]
def fQ:List (Int×(Int×Int))->Int×(Int×Int)
 |[]=>(0,(0,0))|a::r=>if a.2.2=0 then fQ r else a
def Vj{b:Type}{f:lZ->Option (lZ⊕(lZ⊕b))}(L:List (Int×(Int×Int)))(dx:Nat->lZ)(E:lZ)(W:Int×(Int×Int)->b) (aj:∀i a,L[i]?=some a->f (dx i)=some (if a.2.2=0 then .inl (dx (i+1))else .inr (.inr (W a)))) (d:f (dx L.length)=some (.inr (.inl E))) (n:Nat) (e:L.length<n):aR f n (dx 0)=some (if(fQ L).2.2=0 then .inl E else .inr (W (fQ L))):=by
 have h:=ch (f:=f) L (λi (_:Unit)=>dx i) (λr _=>(if(fQ r).2.2=0 then .inl E else .inr (W (fQ r)):lZ⊕b)) (λ_ _=>True) (λ_ _=>by rw[d];rfl) ?_ n 0 () trivial oZ (xag _);.exact h
 intro i a _ c ag _;have ab:=aj i a c;by_cases ak:a.2.2=0
 .left;rw[xac ak]at ab;exact⟨(),ab,by rw[fQ,xac ak],trivial⟩
 right;rw[xab ak]at ab;rw[ab,fQ,xab ak,xab ak]
def fX(m:bH):lX:=[m.vars.length,m.ao.length,m.bg.length,m.bh.length,m.next.length,m.trans.length,m.bb.length,m.bc.length]
def fY(m:bH)(i:Nat):Int:=if 64<(fX m)[i]?.getD 0 then 18 else 0
noncomputable def kd(m:bH):List (Int×(Int×Int)):=[(2,bQ (iT m) m.ao.length 0),(2,bQ (jo m) m.ao.length 0),(2,bQ (iU m) m.ao.length 0),(3,bQ (dy m m.bg false) m.bg.length 0),(4,bQ (dy m m.bh false) m.bh.length 0),(5,bQ (ha m) m.next.length 0),(6,bQ (dy m m.trans true) m.trans.length 0),(7,bQ (dy m m.bb false) m.bb.length 0),(8,bQ (hb m) m.bc.length 0)]
noncomputable def LU(m:bH):List (Int×(Int×Int)):=[(2,nz m),(3,bQ (dy m m.bg false) m.bg.length 0),(4,bQ (dy m m.bh false) m.bh.length 0),(5,bQ (ha m) m.next.length 0),(6,bQ (dy m m.trans true) m.trans.length 0),(7,bQ (dy m m.bb false) m.bb.length 0),(8,bQ (hb m) m.bc.length 0)]
def Vk{a b:Int×Int}:(p1 a b).2=0↔a.2=0/\b.2=0:=by unfold p1;by_cases h:a.2=0<;>simp[h]
def Vl(k:Int)(a b:Int×Int)(r:List (Int×(Int×Int))):fQ ((k,p1 a b)::r)=fQ ((k,a)::(k,b)::r):=by simp only[fQ];unfold p1;by_cases h:a.2=0<;>simp[h]
def ajL(a:Int×(Int×Int)){r b:List (Int×(Int×Int))}(h:fQ r=fQ b):fQ (a::r)=fQ (a::b):=by rw[fQ,fQ,h]
def ajM(m:bH):fQ (LU m)=fQ (kd m):=by unfold LU nz;rw[Vl];exact ajL _ (Vl _ _ _ _)
noncomputable def fZ(m:bH):Int×(Int×Int):=if(bQ (fY m) 8 0).2=0 then
  if(hT m.vars).2=0 then
   if 30<kc m.vars then(1,(0,18))else fQ (kd m)
  else(1,hT m.vars)
 else((bQ (fY m) 8 0).1+1,(64,18))
def cQ(q:Int×(Int×Int)):D:= .aC [.agg [aa q.1,aa q.2.1],aa q.2.2]
def ajN{l:List V}(h:(hT l).2=0):hT l=(0,0):=by unfold hT at h⊢;cases a:(List.range l.length).find? (λi=>gJ l i !=0)with|none=>rw[a]at h|some i=>rw[a]at h;have:=List.find?_some a;simp only at h;rw[h]at this;cases this
def Vm(L:List (Int×(Int×Int)))(h:(fQ L).2.2=0):fQ L=(0,(0,0)):=by
 induction L with
 |nil=>rfl
 |cons a r ih=>
  rw[fQ]at h⊢;by_cases ak:a.2.2=0;.rw[xac ak]at h⊢;exact ih h
  rw[xab ak]at h;exact absurd h ak
theorem ga{t:Nat}{x:D}:uz (.cS t x)=some (t,x):=rfl
def oG(m:bH):D:= .agg ((fX m).map λ(k:Nat)=>aa (k:Int))
def eI(m:bH):D:= .agg [.cS 166 (aA m.ao),.cS 167 (aA m.ao),.cS 168 (aA m.ao),.cS 170 (.agg [aa 3,an m.bg,aF false]),.cS 170 (.agg [aa 4,an m.bh,aF false]),.cS 171 (aA m.next),.cS 170 (.agg [aa 6,an m.trans,aF true]),.cS 170 (.agg [aa 7,an m.bb,aF false]),.cS 172 (bj m.bc)]
theorem Gh{c:Type}{a b:Option c}:eC 166 166 a b=a:=rfl
theorem Gi{c:Type}{a b:Option c}:eC 167 166 a b=b:=rfl
theorem Gj{c:Type}{a b:Option c}:eC 167 167 a b=a:=rfl
theorem Gk{c:Type}{a b:Option c}:eC 168 166 a b=b:=rfl
theorem Gl{c:Type}{a b:Option c}:eC 168 167 a b=b:=rfl
theorem Gm{c:Type}{a b:Option c}:eC 168 168 a b=a:=rfl
theorem oH{c:Type}{a b:Option c}:eC 170 166 a b=b:=rfl
theorem oI{c:Type}{a b:Option c}:eC 170 167 a b=b:=rfl
theorem oJ{c:Type}{a b:Option c}:eC 170 168 a b=b:=rfl
theorem oK{c:Type}{a b:Option c}:eC 170 170 a b=a:=rfl
theorem Gn{c:Type}{a b:Option c}:eC 171 166 a b=b:=rfl
theorem Gp{c:Type}{a b:Option c}:eC 171 167 a b=b:=rfl
theorem Gq{c:Type}{a b:Option c}:eC 171 168 a b=b:=rfl
theorem Gr{c:Type}{a b:Option c}:eC 171 170 a b=b:=rfl
theorem Gs{c:Type}{a b:Option c}:eC 171 171 a b=a:=rfl
theorem Gt{c:Type}{a b:Option c}:eC 172 166 a b=b:=rfl
theorem Gu{c:Type}{a b:Option c}:eC 172 167 a b=b:=rfl
theorem Gv{c:Type}{a b:Option c}:eC 172 168 a b=b:=rfl
theorem Gw{c:Type}{a b:Option c}:eC 172 170 a b=b:=rfl
theorem Gx{c:Type}{a b:Option c}:eC 172 171 a b=b:=rfl
theorem Gy{c:Type}{a b:Option c}:eC 172 172 a b=a:=rfl
section
variable{m:bH}{n:Nat}(hm:Gf m n)
include hm
theorem ajO:aR (nk n) n [oG m,aa 0,aO m.vars,aA m.ao,an m.bg,an m.bh,aA m.next,an m.trans,an m.bb,bj m.bc,aa 0,aa 0]=some (if(bQ (fY m) 8 0).2=0 then .inl [aO m.vars,aA m.ao,an m.bg,an m.bh,aA m.next,an m.trans,an m.bb,bj m.bc,aa 0,aa 0]else .inr (cQ ((bQ (fY m) 8 0).1+1,(64,18)))):=by
 have j:=hm.gO;refine jS (f:=nk n) (λi=>[oG m,aa (i:Int),aO m.vars,aA m.ao,an m.bg,an m.bh,aA m.next,an m.trans,an m.bb,bj m.bc,aa 0,aa 0]) (fY m) 8 _ (λp=>cQ (p.1+1,(64,18))) ?_ ?_ 8 0 n oZ oZ
 .intro i ag;obtain⟨k,h⟩:∃k,(fX m)[i]?=some k:=⟨_,xaa ag⟩;have a:=yT ((i:Int)<8);have b:cI 8 (aa (i:Int))=some i:=iM ag;have g:jg false 1 (i*1) (oG m)=some (aa (k:Int)):=by
   unfold oG;rw[Nat.mul_one,PB,gu,xah,h];rfl
  have c:aW false .add (aa 1) (aa (i:Int))=some (aa ((i:Int)+1)):=by rw[dw oZ oZ];congr 2;omega
  have d:fY m i=if 64<k then 18 else 0:=by unfold fY;rw[h];rfl
  by_cases e:64<k;.rw[d,xac e,xab dZ];simp only[nk,go_sem,a,b,g,yT ((k:Int)>64),c,cQ]
  rw[d,xab e,xac rfl];simp only[nk,go_sem,a,b,g,yF ((k:Int)>64),bl i]
 simp only[nk,go_sem,show decide (((8:Nat):Int)<8)=false from rfl]
theorem ajP:aR (ng n) n [aa 0,aO m.vars,aA m.ao,an m.bg,an m.bh,aA m.next,an m.trans,an m.bb,bj m.bc,aa 0,aa 0,D.aw 1 ((fX m).map λ(k:Nat)=>[aa (k:Int)])]=some (if(bQ (fY m) 8 0).2=0 then .inl [aO m.vars,aA m.ao,an m.bg,an m.bh,aA m.next,an m.trans,an m.bb,bj m.bc,aa 0,aa 0]else .inr (cQ ((bQ (fY m) 8 0).1+1,(64,18)))):=by
 have o:=hm.gO;refine jS (f:=ng n) (λi=>[aa (i:Int),aO m.vars,aA m.ao,an m.bg,an m.bh,aA m.next,an m.trans,an m.bb,bj m.bc,aa 0,aa 0,D.aw 1 ((fX m).map λ(k:Nat)=>[aa (k:Int)])]) (fY m) 8 _ (λp=>cQ (p.1+1,(64,18))) ?_ ?_ 8 0 n oZ oZ
 .intro i ag;obtain⟨k,j⟩:∃k,(fX m)[i]?=some k:=⟨_,xaa ag⟩;have a:((fX m).map λ(k:Nat)=>[aa (k:Int)]).length=8:=rfl;have b:=yT ((i:Int)<((8:Nat):Int));have c:cI 8 (aa (i:Int))=some i:=iM ag;have h:((fX m).map λ(k:Nat)=>[aa (k:Int)])[i]?=some [aa (k:Int)]:=by rw[xah,j];rfl
  have d:aW false .add (aa (i:Int)) (aa 1)=some (aa ((i:Int)+1)):=by rw[dw oZ oZ]
  have e:fY m i=if 64<k then 18 else 0:=by unfold fY;rw[j];rfl
  generalize ((fX m).map λ(k:Nat)=>[aa (k:Int)])=l at*;by_cases g:64<k;.rw[e,xac g,xab dZ];simp only[ng,go_sem,a,b,c,h,xk,yT ((k:Int)>64),d,cQ]
  rw[e,xab g,xac rfl];simp only[ng,go_sem,a,b,c,h,xk,yF ((k:Int)>64),bl i]
 have a:((fX m).map λ(k:Nat)=>[aa (k:Int)]).length=8:=rfl;simp only[ng,go_sem,a,show decide (((8:Nat):Int)<((8:Nat):Int))=false from rfl]
theorem ajQ(A hM:D):aR (fO n) n [D.cS 166 (aA m.ao),A,hM,aa m.ao.length,aa 0,aO m.vars,aA m.ao,an m.bg,an m.bh,aA m.next,an m.trans,an m.bb,bj m.bc,aa 0,aa 0]=some (if(bQ (iT m) m.ao.length 0).2=0 then .inl [A,hM,aO m.vars,aA m.ao,an m.bg,an m.bh,aA m.next,an m.trans,an m.bb,bj m.bc,aa 0,aa 0]else .inr (.inr (.inr (.inr (cQ (2,bQ (iT m) m.ao.length 0)))))):=by
 have h:=hm.gO;have g:=hm.aS.dl;refine jS (f:=fO n) (λi=>[D.cS 166 (aA m.ao),A,hM,aa m.ao.length,aa (i:Int),aO m.vars,aA m.ao,an m.bg,an m.bh,aA m.next,an m.trans,an m.bb,bj m.bc,aa 0,aa 0]) (iT m) (m.ao.length) _ (λp=> .inr (.inr (.inr (cQ (2,p))))) ?_ ?_ _ 0 n oZ oZ
 .intro i ag;have b:=yT ((i:Int)<((m.ao.length:Nat):Int));have e:=ajt hm i ag;change pL n [_,m.d,aa (i:Int)]=some (aa (iT m i))at e;by_cases c:iT m i=0
  .have a:(iT m i !=0)=false:=by simp[c]
   rw[xac c];simp only[fO,go_sem,b,ga,Gh,e,a,bl i]
  have a:(iT m i !=0)=true:=by simpa using c
  rw[xab c];simp only[fO,go_sem,b,ga,Gh,e,a,EV,Ry,cQ]
 simp only[fO,go_sem,yF (((m.ao.length:Nat):Int)<((m.ao.length:Nat):Int))]
theorem ajR(A hM:D):aR (fO n) n [D.cS 167 (aA m.ao),A,hM,aa m.ao.length,aa 0,aO m.vars,aA m.ao,an m.bg,an m.bh,aA m.next,an m.trans,an m.bb,bj m.bc,aa 0,aa 0]=some (if(bQ (jo m) m.ao.length 0).2=0 then .inl [A,hM,aO m.vars,aA m.ao,an m.bg,an m.bh,aA m.next,an m.trans,an m.bb,bj m.bc,aa 0,aa 0]else .inr (.inr (.inr (.inr (cQ (2,bQ (jo m) m.ao.length 0)))))):=by
 have h:=hm.gO;have g:=hm.aS.dl;refine jS (f:=fO n) (λi=>[D.cS 167 (aA m.ao),A,hM,aa m.ao.length,aa (i:Int),aO m.vars,aA m.ao,an m.bg,an m.bh,aA m.next,an m.trans,an m.bb,bj m.bc,aa 0,aa 0]) (jo m) (m.ao.length) _ (λp=> .inr (.inr (.inr (cQ (2,p))))) ?_ ?_ _ 0 n oZ oZ
 .intro i ag;have b:=yT ((i:Int)<((m.ao.length:Nat):Int));have e:=ajp n m hm.aS.d i ag oZ;change wj n [_,m.d,aa (i:Int)]=some (aa (jo m i))at e;by_cases c:jo m i=0
  .have a:(jo m i !=0)=false:=by simp[c]
   rw[xac c];simp only[fO,go_sem,b,ga,Gi,Gj,e,a,bl i]
  have a:(jo m i !=0)=true:=by simpa using c
  rw[xab c];simp only[fO,go_sem,b,ga,Gi,Gj,e,a,EU,Rx,cQ]
 simp only[fO,go_sem,yF (((m.ao.length:Nat):Int)<((m.ao.length:Nat):Int))]
theorem ajS(A hM:D):aR (fO n) n [D.cS 168 (aA m.ao),A,hM,aa m.ao.length,aa 0,aO m.vars,aA m.ao,an m.bg,an m.bh,aA m.next,an m.trans,an m.bb,bj m.bc,aa 0,aa 0]=some (if(bQ (iU m) m.ao.length 0).2=0 then .inl [A,hM,aO m.vars,aA m.ao,an m.bg,an m.bh,aA m.next,an m.trans,an m.bb,bj m.bc,aa 0,aa 0]else .inr (.inr (.inr (.inr (cQ (2,bQ (iU m) m.ao.length 0)))))):=by
 have h:=hm.gO;have g:=hm.aS.dl;refine jS (f:=fO n) (λi=>[D.cS 168 (aA m.ao),A,hM,aa m.ao.length,aa (i:Int),aO m.vars,aA m.ao,an m.bg,an m.bh,aA m.next,an m.trans,an m.bb,bj m.bc,aa 0,aa 0]) (iU m) (m.ao.length) _ (λp=> .inr (.inr (.inr (cQ (2,p))))) ?_ ?_ _ 0 n oZ oZ
 .intro i ag;have b:=yT ((i:Int)<((m.ao.length:Nat):Int));have e:=aju hm i ag;change wh n [_,m.d,aa (i:Int)]=some (aa (iU m i))at e;by_cases c:iU m i=0
  .have a:(iU m i !=0)=false:=by simp[c]
   rw[xac c];simp only[fO,go_sem,b,ga,Gk,Gl,Gm,e,a,bl i]
  have a:(iU m i !=0)=true:=by simpa using c
  rw[xab c];simp only[fO,go_sem,b,ga,Gk,Gl,Gm,e,a,ET,Rw,cQ]
 simp only[fO,go_sem,yF (((m.ao.length:Nat):Int)<((m.ao.length:Nat):Int))]
theorem Gz(l:List Tm)(ah:l.length<=100/\∀t∈l,t.Ok/\t.aS<=660000)(k:Int)(nx:Bool)(A hM:D):aR (fO n) n [D.cS 170 (D.agg [aa k,an l,aF nx]),A,hM,aa l.length,aa 0,aO m.vars,aA m.ao,an m.bg,an m.bh,aA m.next,an m.trans,an m.bb,bj m.bc,aa 0,aa 0]=some (if(bQ (dy m l nx) l.length 0).2=0 then .inl [A,hM,aO m.vars,aA m.ao,an m.bg,an m.bh,aA m.next,an m.trans,an m.bb,bj m.bc,aa 0,aa 0]else .inr (.inr (.inr (.inr (cQ (k,bQ (dy m l nx) l.length 0)))))):=by
 have o:=hm.gO;have j:=ah.1;have g:ae (D.agg [aa k,an l,aF nx]) 0=aa k:=rfl;have e:cz 3 (D.agg [aa k,an l,aF nx])=true:=rfl;refine jS (f:=fO n) (λi=>[D.cS 170 (D.agg [aa k,an l,aF nx]),A,hM,aa l.length,aa (i:Int),aO m.vars,aA m.ao,an m.bg,an m.bh,aA m.next,an m.trans,an m.bb,bj m.bc,aa 0,aa 0]) (dy m l nx) (l.length) _ (λp=> .inr (.inr (.inr (cQ (k,p))))) ?_ ?_ _ 0 n oZ oZ
 .intro i ag;have b:=yT ((i:Int)<((l.length:Nat):Int));have h:=ajv hm l ah.2 k nx i ag;change wg n [_,m.d,aa (i:Int)]=some (aa (dy m l nx i))at h;by_cases c:dy m l nx i=0
  .have a:(dy m l nx i !=0)=false:=by simp[c]
   rw[xac c];simp only[fO,go_sem,b,ga,oH,oI,oJ,oK,h,a,bl i]
  have a:(dy m l nx i !=0)=true:=by simpa using c
  rw[xab c];simp only[fO,go_sem,b,ga,oH,oI,oJ,oK,h,a,ES,Rv,g,e,cQ]
 simp only[fO,go_sem,yF (((l.length:Nat):Int)<((l.length:Nat):Int))]
theorem ajT(A hM:D):aR (fO n) n [D.cS 171 (aA m.next),A,hM,aa m.next.length,aa 0,aO m.vars,aA m.ao,an m.bg,an m.bh,aA m.next,an m.trans,an m.bb,bj m.bc,aa 0,aa 0]=some (if(bQ (ha m) m.next.length 0).2=0 then .inl [A,hM,aO m.vars,aA m.ao,an m.bg,an m.bh,aA m.next,an m.trans,an m.bb,bj m.bc,aa 0,aa 0]else .inr (.inr (.inr (.inr (cQ (5,bQ (ha m) m.next.length 0)))))):=by
 have h:=hm.gO;have g:=hm.next.1
 refine jS (f:=fO n) (λi=>[D.cS 171 (aA m.next),A,hM,aa m.next.length,aa (i:Int),aO m.vars,aA m.ao,an m.bg,an m.bh,aA m.next,an m.trans,an m.bb,bj m.bc,aa 0,aa 0]) (ha m) (m.next.length) _ (λp=> .inr (.inr (.inr (cQ (5,p))))) ?_ ?_ _ 0 n oZ oZ
 .intro i ag;have b:=yT ((i:Int)<((m.next.length:Nat):Int));have e:=ajw hm i ag;change q1 n [_,m.d,aa (i:Int)]=some (aa (ha m i))at e;by_cases c:ha m i=0
  .have a:(ha m i !=0)=false:=by simp[c]
   rw[xac c];simp only[fO,go_sem,b,ga,Gn,Gp,Gq,Gr,Gs,e,a,bl i]
  have a:(ha m i !=0)=true:=by simpa using c
  rw[xab c];simp only[fO,go_sem,b,ga,Gn,Gp,Gq,Gr,Gs,e,a,ER,Ru,cQ]
 simp only[fO,go_sem,yF (((m.next.length:Nat):Int)<((m.next.length:Nat):Int))]
theorem ajU(A hM:D):aR (fO n) n [D.cS 172 (bj m.bc),A,hM,aa m.bc.length,aa 0,aO m.vars,aA m.ao,an m.bg,an m.bh,aA m.next,an m.trans,an m.bb,bj m.bc,aa 0,aa 0]=some (if(bQ (hb m) m.bc.length 0).2=0 then .inl [A,hM,aO m.vars,aA m.ao,an m.bg,an m.bh,aA m.next,an m.trans,an m.bb,bj m.bc,aa 0,aa 0]else .inr (.inr (.inr (.inr (cQ (8,bQ (hb m) m.bc.length 0)))))):=by
 have h:=hm.gO;have g:=hm.bc.1;refine jS (f:=fO n) (λi=>[D.cS 172 (bj m.bc),A,hM,aa m.bc.length,aa (i:Int),aO m.vars,aA m.ao,an m.bg,an m.bh,aA m.next,an m.trans,an m.bb,bj m.bc,aa 0,aa 0]) (hb m) (m.bc.length) _ (λp=> .inr (.inr (.inr (cQ (8,p))))) ?_ ?_ _ 0 n oZ oZ
 .intro i ag;have b:=yT ((i:Int)<((m.bc.length:Nat):Int));have e:=ajx hm i ag;change pK n [_,m.d,aa (i:Int)]=some (aa (hb m i))at e;by_cases c:hb m i=0
  .have a:(hb m i !=0)=false:=by simp[c]
   rw[xac c];simp only[fO,go_sem,b,ga,Gt,Gu,Gv,Gw,Gx,Gy,e,a,bl i]
  have a:(hb m i !=0)=true:=by simpa using c
  rw[xab c];simp only[fO,go_sem,b,ga,Gt,Gu,Gv,Gw,Gx,Gy,e,a,EP,Rt,cQ]
 simp only[fO,go_sem,yF (((m.bc.length:Nat):Int)<((m.bc.length:Nat):Int))]
theorem ajV:fH n [eI m,aa 0,aO m.vars,aA m.ao,an m.bg,an m.bh,aA m.next,an m.trans,an m.bb,bj m.bc,aa 0,aa 0]=some (if(bQ (iT m) m.ao.length 0).2=0 then .inl [eI m,aa 1,aO m.vars,aA m.ao,an m.bg,an m.bh,aA m.next,an m.trans,an m.bb,bj m.bc,aa 0,aa 0]else .inr (.inr (cQ (2,bQ (iT m) m.ao.length 0)))):=by
 have a:=ajQ hm (eI m) (aa 0);have c:decide ((0:Int)<9)=true:=rfl;have e:cI 9 (aa 0)=some 0:=rfl;have g:jg false 1 (0*1) (eI m)=some (D.cS 166 (aA m.ao)):=rfl;have d:zU n [aA m.ao]=some (aa m.ao.length):=by simp only[zU,Rh,go_sem]
 have b:aW false .add (aa 0) (aa 1)=some (aa 1):=dw dZ dZ;by_cases f:(bQ (iT m) m.ao.length 0).2=0;.rw[xac f]at a⊢;simp only[fH,go_sem,c,e,g,ga,Gh,d,a,b]
 rw[xab f]at a⊢;simp only[fH,go_sem,c,e,g,ga,Gh,d,a]
theorem ajW:fH n [eI m,aa 1,aO m.vars,aA m.ao,an m.bg,an m.bh,aA m.next,an m.trans,an m.bb,bj m.bc,aa 0,aa 0]=some (if(bQ (jo m) m.ao.length 0).2=0 then .inl [eI m,aa 2,aO m.vars,aA m.ao,an m.bg,an m.bh,aA m.next,an m.trans,an m.bb,bj m.bc,aa 0,aa 0]else .inr (.inr (cQ (2,bQ (jo m) m.ao.length 0)))):=by
 have a:=ajR hm (eI m) (aa 1);have c:decide ((1:Int)<9)=true:=rfl;have e:cI 9 (aa 1)=some 1:=rfl;have g:jg false 1 (1*1) (eI m)=some (D.cS 167 (aA m.ao)):=rfl;have d:zT n [aA m.ao]=some (aa m.ao.length):=by simp only[zT,Rg,go_sem]
 have b:aW false .add (aa 1) (aa 1)=some (aa 2):=dw dZ dZ;by_cases f:(bQ (jo m) m.ao.length 0).2=0;.rw[xac f]at a⊢;simp only[fH,go_sem,c,e,g,ga,Gi,Gj,d,a,b]
 rw[xab f]at a⊢;simp only[fH,go_sem,c,e,g,ga,Gi,Gj,d,a]
theorem ajX:fH n [eI m,aa 2,aO m.vars,aA m.ao,an m.bg,an m.bh,aA m.next,an m.trans,an m.bb,bj m.bc,aa 0,aa 0]=some (if(bQ (iU m) m.ao.length 0).2=0 then .inl [eI m,aa 3,aO m.vars,aA m.ao,an m.bg,an m.bh,aA m.next,an m.trans,an m.bb,bj m.bc,aa 0,aa 0]else .inr (.inr (cQ (2,bQ (iU m) m.ao.length 0)))):=by
 have a:=ajS hm (eI m) (aa 2);have c:decide ((2:Int)<9)=true:=rfl;have e:cI 9 (aa 2)=some 2:=rfl;have g:jg false 1 (2*1) (eI m)=some (D.cS 168 (aA m.ao)):=rfl;have d:zS n [aA m.ao]=some (aa m.ao.length):=by simp only[zS,Rf,go_sem]
 have b:aW false .add (aa 2) (aa 1)=some (aa 3):=dw dZ dZ;by_cases f:(bQ (iU m) m.ao.length 0).2=0;.rw[xac f]at a⊢;simp only[fH,go_sem,c,e,g,ga,Gk,Gl,Gm,d,a,b]
 rw[xab f]at a⊢;simp only[fH,go_sem,c,e,g,ga,Gk,Gl,Gm,d,a]
theorem ajY:fH n [eI m,aa 3,aO m.vars,aA m.ao,an m.bg,an m.bh,aA m.next,an m.trans,an m.bb,bj m.bc,aa 0,aa 0]=some (if(bQ (dy m m.bg false) m.bg.length 0).2=0 then .inl [eI m,aa 4,aO m.vars,aA m.ao,an m.bg,an m.bh,aA m.next,an m.trans,an m.bb,bj m.bc,aa 0,aa 0]else .inr (.inr (cQ (3,bQ (dy m m.bg false) m.bg.length 0)))):=by
 have a:=Gz hm m.bg hm.bg 3 false (eI m) (aa 3);have c:decide ((3:Int)<9)=true:=rfl;have e:cI 9 (aa 3)=some 3:=rfl;have g:jg false 1 (3*1) (eI m)=some (D.cS 170 (D.agg [aa 3,an m.bg,aF false])):=rfl;have d:ni n [D.agg [aa 3,an m.bg,aF false]]=some (aa m.bg.length):=by have ai:cz 3 (D.agg [aa 3,an m.bg,aF false])=true:=rfl;have h:ae (D.agg [aa 3,an m.bg,aF false]) 1=an m.bg:=rfl;simp only[ni,zR,go_sem,ai,h]
 have b:aW false .add (aa 3) (aa 1)=some (aa 4):=dw dZ dZ;by_cases f:(bQ (dy m m.bg false) m.bg.length 0).2=0;.rw[xac f]at a⊢;simp only[fH,go_sem,c,e,g,ga,oH,oI,oJ,oK,d,a,b]
 rw[xab f]at a⊢;simp only[fH,go_sem,c,e,g,ga,oH,oI,oJ,oK,d,a]
theorem ajZ:fH n [eI m,aa 4,aO m.vars,aA m.ao,an m.bg,an m.bh,aA m.next,an m.trans,an m.bb,bj m.bc,aa 0,aa 0]=some (if(bQ (dy m m.bh false) m.bh.length 0).2=0 then .inl [eI m,aa 5,aO m.vars,aA m.ao,an m.bg,an m.bh,aA m.next,an m.trans,an m.bb,bj m.bc,aa 0,aa 0]else .inr (.inr (cQ (4,bQ (dy m m.bh false) m.bh.length 0)))):=by
 have a:=Gz hm m.bh hm.bh 4 false (eI m) (aa 4);have c:decide ((4:Int)<9)=true:=rfl;have e:cI 9 (aa 4)=some 4:=rfl;have g:jg false 1 (4*1) (eI m)=some (D.cS 170 (D.agg [aa 4,an m.bh,aF false])):=rfl;have d:ni n [D.agg [aa 4,an m.bh,aF false]]=some (aa m.bh.length):=by have ai:cz 3 (D.agg [aa 4,an m.bh,aF false])=true:=rfl;have h:ae (D.agg [aa 4,an m.bh,aF false]) 1=an m.bh:=rfl;simp only[ni,zR,go_sem,ai,h]
 have b:aW false .add (aa 4) (aa 1)=some (aa 5):=dw dZ dZ;by_cases f:(bQ (dy m m.bh false) m.bh.length 0).2=0;.rw[xac f]at a⊢;simp only[fH,go_sem,c,e,g,ga,oH,oI,oJ,oK,d,a,b]
 rw[xab f]at a⊢;simp only[fH,go_sem,c,e,g,ga,oH,oI,oJ,oK,d,a]
theorem aj0:fH n [eI m,aa 5,aO m.vars,aA m.ao,an m.bg,an m.bh,aA m.next,an m.trans,an m.bb,bj m.bc,aa 0,aa 0]=some (if(bQ (ha m) m.next.length 0).2=0 then .inl [eI m,aa 6,aO m.vars,aA m.ao,an m.bg,an m.bh,aA m.next,an m.trans,an m.bb,bj m.bc,aa 0,aa 0]else .inr (.inr (cQ (5,bQ (ha m) m.next.length 0)))):=by
 have a:=ajT hm (eI m) (aa 5);have c:decide ((5:Int)<9)=true:=rfl;have e:cI 9 (aa 5)=some 5:=rfl;have g:jg false 1 (5*1) (eI m)=some (D.cS 171 (aA m.next)):=rfl;have d:zQ n [aA m.next]=some (aa m.next.length):=by simp only[zQ,Re,go_sem]
 have b:aW false .add (aa 5) (aa 1)=some (aa 6):=dw dZ dZ;by_cases f:(bQ (ha m) m.next.length 0).2=0;.rw[xac f]at a⊢;simp only[fH,go_sem,c,e,g,ga,Gn,Gp,Gq,Gr,Gs,d,a,b]
 rw[xab f]at a⊢;simp only[fH,go_sem,c,e,g,ga,Gn,Gp,Gq,Gr,Gs,d,a]
theorem aj1:fH n [eI m,aa 6,aO m.vars,aA m.ao,an m.bg,an m.bh,aA m.next,an m.trans,an m.bb,bj m.bc,aa 0,aa 0]=some (if(bQ (dy m m.trans true) m.trans.length 0).2=0 then .inl [eI m,aa 7,aO m.vars,aA m.ao,an m.bg,an m.bh,aA m.next,an m.trans,an m.bb,bj m.bc,aa 0,aa 0]else .inr (.inr (cQ (6,bQ (dy m m.trans true) m.trans.length 0)))):=by
 have a:=Gz hm m.trans hm.trans 6 true (eI m) (aa 6);have c:decide ((6:Int)<9)=true:=rfl;have e:cI 9 (aa 6)=some 6:=rfl;have g:jg false 1 (6*1) (eI m)=some (D.cS 170 (D.agg [aa 6,an m.trans,aF true])):=rfl;have d:ni n [D.agg [aa 6,an m.trans,aF true]]=some (aa m.trans.length):=by have ai:cz 3 (D.agg [aa 6,an m.trans,aF true])=true:=rfl;have h:ae (D.agg [aa 6,an m.trans,aF true]) 1=an m.trans:=rfl;simp only[ni,zR,go_sem,ai,h]
 have b:aW false .add (aa 6) (aa 1)=some (aa 7):=dw dZ dZ;by_cases f:(bQ (dy m m.trans true) m.trans.length 0).2=0;.rw[xac f]at a⊢;simp only[fH,go_sem,c,e,g,ga,oH,oI,oJ,oK,d,a,b]
 rw[xab f]at a⊢;simp only[fH,go_sem,c,e,g,ga,oH,oI,oJ,oK,d,a]
theorem aj2:fH n [eI m,aa 7,aO m.vars,aA m.ao,an m.bg,an m.bh,aA m.next,an m.trans,an m.bb,bj m.bc,aa 0,aa 0]=some (if(bQ (dy m m.bb false) m.bb.length 0).2=0 then .inl [eI m,aa 8,aO m.vars,aA m.ao,an m.bg,an m.bh,aA m.next,an m.trans,an m.bb,bj m.bc,aa 0,aa 0]else .inr (.inr (cQ (7,bQ (dy m m.bb false) m.bb.length 0)))):=by
 have a:=Gz hm m.bb hm.bb 7 false (eI m) (aa 7);have c:decide ((7:Int)<9)=true:=rfl;have e:cI 9 (aa 7)=some 7:=rfl;have g:jg false 1 (7*1) (eI m)=some (D.cS 170 (D.agg [aa 7,an m.bb,aF false])):=rfl;have d:ni n [D.agg [aa 7,an m.bb,aF false]]=some (aa m.bb.length):=by have ai:cz 3 (D.agg [aa 7,an m.bb,aF false])=true:=rfl;have h:ae (D.agg [aa 7,an m.bb,aF false]) 1=an m.bb:=rfl;simp only[ni,zR,go_sem,ai,h]
 have b:aW false .add (aa 7) (aa 1)=some (aa 8):=dw dZ dZ;by_cases f:(bQ (dy m m.bb false) m.bb.length 0).2=0;.rw[xac f]at a⊢;simp only[fH,go_sem,c,e,g,ga,oH,oI,oJ,oK,d,a,b]
 rw[xab f]at a⊢;simp only[fH,go_sem,c,e,g,ga,oH,oI,oJ,oK,d,a]
theorem aj3:fH n [eI m,aa 8,aO m.vars,aA m.ao,an m.bg,an m.bh,aA m.next,an m.trans,an m.bb,bj m.bc,aa 0,aa 0]=some (if(bQ (hb m) m.bc.length 0).2=0 then .inl [eI m,aa 9,aO m.vars,aA m.ao,an m.bg,an m.bh,aA m.next,an m.trans,an m.bb,bj m.bc,aa 0,aa 0]else .inr (.inr (cQ (8,bQ (hb m) m.bc.length 0)))):=by
 have a:=ajU hm (eI m) (aa 8);have c:decide ((8:Int)<9)=true:=rfl;have e:cI 9 (aa 8)=some 8:=rfl;have g:jg false 1 (8*1) (eI m)=some (D.cS 172 (bj m.bc)):=rfl;have d:zP n [bj m.bc]=some (aa m.bc.length):=by simp only[zP,Rc,go_sem]
 have b:aW false .add (aa 8) (aa 1)=some (aa 9):=dw dZ dZ;by_cases f:(bQ (hb m) m.bc.length 0).2=0;.rw[xac f]at a⊢;simp only[fH,go_sem,c,e,g,ga,Gt,Gu,Gv,Gw,Gx,Gy,d,a,b]
 rw[xab f]at a⊢;simp only[fH,go_sem,c,e,g,ga,Gt,Gu,Gv,Gw,Gx,Gy,d,a]
theorem aj4:aR (fH n) n [eI m,aa 0,aO m.vars,aA m.ao,an m.bg,an m.bh,aA m.next,an m.trans,an m.bb,bj m.bc,aa 0,aa 0]=some (if(fQ (kd m)).2.2=0 then .inl [aa 0,aa 0]else .inr (cQ (fQ (kd m)))):=by
 have c:=hm.gO;refine Vj (f:=fH n) (kd m) (λi=>[eI m,aa (i:Int),aO m.vars,aA m.ao,an m.bg,an m.bh,aA m.next,an m.trans,an m.bb,bj m.bc,aa 0,aa 0]) [aa 0,aa 0] cQ ?_ ?_ n (by show 9<n;omega)
 .intro i a b
  match i,b with
  |0,b=>cases b;exact ajV hm
  |1,b=>cases b;exact ajW hm
  |2,b=>cases b;exact ajX hm
  |3,b=>cases b;exact ajY hm
  |4,b=>cases b;exact ajZ hm
  |5,b=>cases b;exact aj0 hm
  |6,b=>cases b;exact aj1 hm
  |7,b=>cases b;exact aj2 hm
  |8,b=>cases b;exact aj3 hm
  |j+9,b=>cases b
 show fH n [eI m,aa 9,aO m.vars,aA m.ao,an m.bg,an m.bh,aA m.next,an m.trans,an m.bb,bj m.bc,aa 0,aa 0]=_;simp only[fH,go_sem,show decide ((9:Int)<9)=false from rfl]
theorem aj5:kW n [m.d]=some (cQ (fZ m)):=by
 have j:=hm.gO;have ad:=ajO hm;have c:=aj4 hm;have e:=aiU n m.vars hm.gZ (by have:=hm.aS.eg;omega) hm.A6;have f:=ajH n m hm.gZ hm.aS.eg oZ;have fL:D.agg [aa (m.vars.length:Int),aa (m.ao.length:Int),aa (m.bg.length:Int),aa (m.bh.length:Int),aa (m.next.length:Int),aa (m.trans.length:Int),aa (m.bb.length:Int),aa (m.bc.length:Int)]=oG m:=rfl;have g:D.agg [.cS 166 (aA m.ao),.cS 167 (aA m.ao),.cS 168 (aA m.ao),.cS 170 (.agg [aa 3,an m.bg,aF false]),.cS 170 (.agg [aa 4,an m.bh,aF false]),.cS 171 (aA m.next),.cS 170 (.agg [aa 6,an m.trans,aF true]),.cS 170 (.agg [aa 7,an m.bb,aF false]),.cS 172 (bj m.bc)]=eI m:=rfl;have h:∀l,c7 (an l)=true:=λ_=>rfl;have i:∀t x,c7 (D.cS t x)=true:=λ_ _=>rfl;unfold fZ;by_cases c1:(bQ (fY m) 8 0).2=0
 case neg=>rw[xab c1]at ad⊢;simp only[kW,sY,go_sem,fL,ad]
 rw[xac c1]at ad⊢;by_cases c2:(hT m.vars).2=0
 case neg=>
  have a:((hT m.vars).2 !=0)=true:=by simpa using c2
  rw[xab c2];simp only[kW,sY,go_sem,fL,ad,e,a,cQ]
 have a:((hT m.vars).2 !=0)=false:=by simp[c2]
 rw[xac c2];by_cases b6:30<kc m.vars;.have b:=yT (((kc m.vars:Nat):Int)>30);rw[xac b6];simp only[kW,sY,go_sem,fL,ad,e,a,f,b,cQ]
 have b:=yF (((kc m.vars:Nat):Int)>30);rw[xab b6];by_cases e2:(fQ (kd m)).2.2=0;.rw[xac e2]at c;rw[Vm _ e2];simp only[kW,sY,go_sem,fL,ad,e,a,f,b,h,i,g,c,cQ]
 rw[xab e2]at c;simp only[kW,sY,go_sem,fL,ad,e,a,f,b,h,i,g,c]
theorem aj6(h:(nz m).2=0):nz m=(0,0):=by unfold nz at h⊢;obtain⟨ab,ad⟩:=Vk.1 h;obtain⟨ai,a⟩:=Vk.1 ad;rw[p1,xac ab,p1,xac ai,ny _ _ _ a]
theorem aj7:gM n [aa 0,aa 0,aa 2,aO m.vars,aA m.ao,an m.bg,an m.bh,aA m.next,an m.trans,an m.bb,bj m.bc,aa 0,aa 0]=some (if(nz m).2=0 then .inl [aa 0,aa 0,aa 3,aO m.vars,aA m.ao,an m.bg,an m.bh,aA m.next,an m.trans,an m.bb,bj m.bc,aa 0,aa 0]else .inr (.inr (cQ (2,nz m)))):=by
 have d:=ajB hm;have b:decide ((2:Int)<=8)=true:=rfl;have g:((2:Int)==2)=true:=rfl;have a:aW false .add (aa 2) (aa 1)=some (aa 3):=dw dZ dZ;by_cases e:(nz m).2=0
 .have h:=aj6 hm e;rw[h]at d⊢;have c:((0:Int) !=0)=false:=rfl;simp only[gM,go_sem,b,g,d,ec,c,a]
 rw[xab e];generalize nz m=p at*;have f:(p.2 !=0)=true:=by simpa using e
 simp only[gM,go_sem,b,g,d,ec,f,cQ]
theorem aj8:gM n [aa 0,aa 0,aa 3,aO m.vars,aA m.ao,an m.bg,an m.bh,aA m.next,an m.trans,an m.bb,bj m.bc,aa 0,aa 0]=some (if(bQ (dy m m.bg false) m.bg.length 0).2=0 then .inl [aa 0,aa 0,aa 4,aO m.vars,aA m.ao,an m.bg,an m.bh,aA m.next,an m.trans,an m.bb,bj m.bc,aa 0,aa 0]else .inr (.inr (cQ (3,bQ (dy m m.bg false) m.bg.length 0)))):=by
 have d:=Gg hm m.bg hm.bg false;have b:decide ((3:Int)<=8)=true:=rfl;have g:((3:Int)==2)=false:=rfl;have h:((3:Int)==3)=true:=rfl;have a:aW false .add (aa 3) (aa 1)=some (aa 4):=dw dZ dZ;by_cases e:(bQ (dy m m.bg false) m.bg.length 0).2=0
 .have i:=ny _ _ _ e;rw[i]at d⊢;have c:((0:Int) !=0)=false:=rfl;simp only[gM,go_sem,b,g,h,d,ec,c,a]
 rw[xab e];generalize bQ (dy m m.bg false) m.bg.length 0=p at*;have f:(p.2 !=0)=true:=by simpa using e
 simp only[gM,go_sem,b,g,h,d,ec,f,cQ]
theorem aj9:gM n [aa 0,aa 0,aa 4,aO m.vars,aA m.ao,an m.bg,an m.bh,aA m.next,an m.trans,an m.bb,bj m.bc,aa 0,aa 0]=some (if(bQ (dy m m.bh false) m.bh.length 0).2=0 then .inl [aa 0,aa 0,aa 5,aO m.vars,aA m.ao,an m.bg,an m.bh,aA m.next,an m.trans,an m.bb,bj m.bc,aa 0,aa 0]else .inr (.inr (cQ (4,bQ (dy m m.bh false) m.bh.length 0)))):=by
 have d:=Gg hm m.bh hm.bh false;have b:decide ((4:Int)<=8)=true:=rfl;have g:((4:Int)==2)=false:=rfl;have h:((4:Int)==3)=false:=rfl;have i:((4:Int)==4)=true:=rfl;have a:aW false .add (aa 4) (aa 1)=some (aa 5):=dw dZ dZ;by_cases e:(bQ (dy m m.bh false) m.bh.length 0).2=0
 .have j:=ny _ _ _ e;rw[j]at d⊢;have c:((0:Int) !=0)=false:=rfl;simp only[gM,go_sem,b,g,h,i,d,ec,c,a]
 rw[xab e];generalize bQ (dy m m.bh false) m.bh.length 0=p at*;have f:(p.2 !=0)=true:=by simpa using e
 simp only[gM,go_sem,b,g,h,i,d,ec,f,cQ]
theorem aka:gM n [aa 0,aa 0,aa 5,aO m.vars,aA m.ao,an m.bg,an m.bh,aA m.next,an m.trans,an m.bb,bj m.bc,aa 0,aa 0]=some (if(bQ (ha m) m.next.length 0).2=0 then .inl [aa 0,aa 0,aa 6,aO m.vars,aA m.ao,an m.bg,an m.bh,aA m.next,an m.trans,an m.bb,bj m.bc,aa 0,aa 0]else .inr (.inr (cQ (5,bQ (ha m) m.next.length 0)))):=by
 have d:=ajE hm;have b:decide ((5:Int)<=8)=true:=rfl;have g:((5:Int)==2)=false:=rfl;have h:((5:Int)==3)=false:=rfl;have i:((5:Int)==4)=false:=rfl;have j:((5:Int)==5)=true:=rfl;have a:aW false .add (aa 5) (aa 1)=some (aa 6):=dw dZ dZ;by_cases e:(bQ (ha m) m.next.length 0).2=0
 .have k:=ny _ _ _ e;rw[k]at d⊢;have c:((0:Int) !=0)=false:=rfl;simp only[gM,go_sem,b,g,h,i,j,d,ec,c,a]
 rw[xab e];generalize bQ (ha m) m.next.length 0=p at*
 have f:(p.2 !=0)=true:=by simpa using e
 simp only[gM,go_sem,b,g,h,i,j,d,ec,f,cQ]
theorem akb:gM n [aa 0,aa 0,aa 6,aO m.vars,aA m.ao,an m.bg,an m.bh,aA m.next,an m.trans,an m.bb,bj m.bc,aa 0,aa 0]=some (if(bQ (dy m m.trans true) m.trans.length 0).2=0 then .inl [aa 0,aa 0,aa 7,aO m.vars,aA m.ao,an m.bg,an m.bh,aA m.next,an m.trans,an m.bb,bj m.bc,aa 0,aa 0]else .inr (.inr (cQ (6,bQ (dy m m.trans true) m.trans.length 0)))):=by
 have d:=Gg hm m.trans hm.trans true;have b:decide ((6:Int)<=8)=true:=rfl;have g:((6:Int)==2)=false:=rfl;have h:((6:Int)==3)=false:=rfl;have i:((6:Int)==4)=false:=rfl;have j:((6:Int)==5)=false:=rfl;have k:((6:Int)==6)=true:=rfl;have a:aW false .add (aa 6) (aa 1)=some (aa 7):=dw dZ dZ;by_cases e:(bQ (dy m m.trans true) m.trans.length 0).2=0
 .have l:=ny _ _ _ e;rw[l]at d⊢;have c:((0:Int) !=0)=false:=rfl;simp only[gM,go_sem,b,g,h,i,j,k,d,ec,c,a]
 rw[xab e];generalize bQ (dy m m.trans true) m.trans.length 0=p at*;have f:(p.2 !=0)=true:=by simpa using e
 simp only[gM,go_sem,b,g,h,i,j,k,d,ec,f,cQ]
theorem akc:gM n [aa 0,aa 0,aa 7,aO m.vars,aA m.ao,an m.bg,an m.bh,aA m.next,an m.trans,an m.bb,bj m.bc,aa 0,aa 0]=some (if(bQ (dy m m.bb false) m.bb.length 0).2=0 then .inl [aa 0,aa 0,aa 8,aO m.vars,aA m.ao,an m.bg,an m.bh,aA m.next,an m.trans,an m.bb,bj m.bc,aa 0,aa 0]else .inr (.inr (cQ (7,bQ (dy m m.bb false) m.bb.length 0)))):=by
 have d:=Gg hm m.bb hm.bb false;have b:decide ((7:Int)<=8)=true:=rfl;have g:((7:Int)==2)=false:=rfl;have h:((7:Int)==3)=false:=rfl;have i:((7:Int)==4)=false:=rfl;have j:((7:Int)==5)=false:=rfl;have k:((7:Int)==6)=false:=rfl;have l:((7:Int)==7)=true:=rfl;have a:aW false .add (aa 7) (aa 1)=some (aa 8):=dw dZ dZ;by_cases e:(bQ (dy m m.bb false) m.bb.length 0).2=0
 .have o:=ny _ _ _ e;rw[o]at d⊢;have c:((0:Int) !=0)=false:=rfl;simp only[gM,go_sem,b,g,h,i,j,k,l,d,ec,c,a]
 rw[xab e];generalize bQ (dy m m.bb false) m.bb.length 0=p at*;have f:(p.2 !=0)=true:=by simpa using e
 simp only[gM,go_sem,b,g,h,i,j,k,l,d,ec,f,cQ]
theorem akd:gM n [aa 0,aa 0,aa 8,aO m.vars,aA m.ao,an m.bg,an m.bh,aA m.next,an m.trans,an m.bb,bj m.bc,aa 0,aa 0]=some (if(bQ (hb m) m.bc.length 0).2=0 then .inl [aa 0,aa 0,aa 9,aO m.vars,aA m.ao,an m.bg,an m.bh,aA m.next,an m.trans,an m.bb,bj m.bc,aa 0,aa 0]else .inr (.inr (cQ (8,bQ (hb m) m.bc.length 0)))):=by
 have d:=ajF hm;have b:decide ((8:Int)<=8)=true:=rfl;have g:((8:Int)==2)=false:=rfl;have h:((8:Int)==3)=false:=rfl;have i:((8:Int)==4)=false:=rfl;have j:((8:Int)==5)=false:=rfl;have k:((8:Int)==6)=false:=rfl;have l:((8:Int)==7)=false:=rfl;have o:((8:Int)==8)=true:=rfl;have a:aW false .add (aa 8) (aa 1)=some (aa 9):=dw dZ dZ;by_cases e:(bQ (hb m) m.bc.length 0).2=0
 .have q:=ny _ _ _ e;rw[q]at d⊢;have c:((0:Int) !=0)=false:=rfl;simp only[gM,go_sem,b,g,h,i,j,k,l,o,d,ec,c,a]
 rw[xab e];generalize bQ (hb m) m.bc.length 0=p at*;have f:(p.2 !=0)=true:=by simpa using e
 simp only[gM,go_sem,b,g,h,i,j,k,l,o,d,ec,f,cQ]
theorem ake:aR (gM n) n [aa 0,aa 0,aa 2,aO m.vars,aA m.ao,an m.bg,an m.bh,aA m.next,an m.trans,an m.bb,bj m.bc,aa 0,aa 0]=some (if(fQ (kd m)).2.2=0 then .inl [aa 0,aa 0]else .inr (cQ (fQ (kd m)))):=by
 have c:=hm.gO;rw[<-ajM];refine Vj (f:=gM n) (LU m) (λi=>[aa 0,aa 0,aa ((i+2:Nat):Int),aO m.vars,aA m.ao,an m.bg,an m.bh,aA m.next,an m.trans,an m.bb,bj m.bc,aa 0,aa 0]) [aa 0,aa 0] cQ ?_ ?_ n (by show 7<n;omega)
 .intro i a b
  match i,b with
  |0,b=>cases b;exact aj7 hm
  |1,b=>cases b;exact aj8 hm
  |2,b=>cases b;exact aj9 hm
  |3,b=>cases b;exact aka hm
  |4,b=>cases b;exact akb hm
  |5,b=>cases b;exact akc hm
  |6,b=>cases b;exact akd hm
  |j+7,b=>cases b
 show gM n [aa 0,aa 0,aa 9,aO m.vars,aA m.ao,an m.bg,an m.bh,aA m.next,an m.trans,an m.bb,bj m.bc,aa 0,aa 0]=_;simp only[gM,go_sem,show decide ((9:Int)<=8)=false from rfl]
theorem akf:l9 n [m.d]=some (cQ (fZ m)):=by
 have g:=hm.gO;have ad:=ajP hm;have c:=ake hm;have e:=ai0 n m.vars hm.gZ (by have:=hm.aS.eg;omega) hm.A6;have f:=ajI n m hm.gZ hm.aS.eg oZ;have fL:D.aw 1 [[aa (m.vars.length:Int)],[aa (m.ao.length:Int)],[aa (m.bg.length:Int)],[aa (m.bh.length:Int)],[aa (m.next.length:Int)],[aa (m.trans.length:Int)],[aa (m.bb.length:Int)],[aa (m.bc.length:Int)]]=D.aw 1 ((fX m).map λ(k:Nat)=>[aa (k:Int)]):=rfl;unfold fZ;by_cases c1:(bQ (fY m) 8 0).2=0
 case neg=>rw[xab c1]at ad⊢;simp only[l9,sM,go_sem,fL,ad]
 rw[xac c1]at ad⊢;by_cases c2:(hT m.vars).2=0
 case neg=>
  have a:((hT m.vars).2 !=0)=true:=by simpa using c2
  rw[xab c2];simp only[l9,sM,go_sem,fL,ad,e,a,cQ]
 rw[ajN c2]at e;have a:((0:Int) !=0)=false:=rfl;rw[xac c2];by_cases b6:30<kc m.vars
 .have b:=yT (((kc m.vars:Nat):Int)>30);rw[xac b6];simp only[l9,sM,go_sem,fL,ad,e,a,f,b,cQ]
 have b:=yF (((kc m.vars:Nat):Int)>30);rw[xab b6];by_cases e2:(fQ (kd m)).2.2=0;.rw[xac e2]at c;rw[Vm _ e2];simp only[l9,sM,go_sem,fL,ad,e,a,f,b,c,cQ]
 rw[xab e2]at c;simp only[l9,sM,go_sem,fL,ad,e,a,f,b,c]
end
def tD(n:Nat):dr:= .slice 4 56 (gW n)
def Bs(n:Nat):dr:= .slice 7 104 (.struct [.str,hF n])
def rp(n:Nat):dr:= .struct [C5,qH n,tD n,tD n,qH n,tD n,tD n,Bs n]
def akg(n:Nat):∀m,m<=n->(tD n).fA m=true
 |0,_=>rfl|m+1,h=>by have:=uP n m oZ;simp only[tD,dr.fA,this]
def akh(n:Nat):∀m,m<=n->(Bs n).fA m=true
 |0,_=>rfl|1,_=>by simp[Bs,dr.fA]|m+2,h=>by have ab:=Jp n m oZ;have ad:dr.fA m .str=true:=sn m .str rfl;simp only[Bs,dr.fA,l8,ab,ad,xbA]
def aki(n:Nat):∀m,m<=n->(rp n).fA m=true
 |0,_=>rfl|m+1,h=>by have ak:dr.fA m C5=true:=sn m C5 rfl;simp only[rp,dr.fA,l8,ak,P9 n m oZ,akg n m oZ,akh n m oZ,xbA]
theorem akj{P:Program}{t tv td tt ts tm tf:TypeId}(h:∀a b c d e f g i,de P (.struct [a,b,c,d,e,f,g,i]) t=(de P a tv&&(de P b td&&(de P c tt&&(de P d tt&&(de P e td&&(de P f tt&&(de P g tt&&(de P i ts&&true))))))))) (o:de P C5 tv=true) (j:po P qH td) (m:∀y,de P (.slice 4 56 y) tt=de P y tm) (l:po P gW tm) (aj:∀y,de P (.slice 7 104 (.struct [.str,y])) ts=(de P y tf&&true)) (k:po P hF tf) (ah:decide (t<P.types.size)=true):po P rp t:=⟨λn=>aki n n (xaR _),λn=>by rw[rp,h,o,j.ok n,tD,m,l.ok n,Bs,aj,k.ok n];rfl,xbg ah,λn=>rfl⟩
structure p2(m:bH):Prop where
 v:∀x∈m.vars,V.ok x
 d:∀x∈m.ao,x.Ok
 i:∀x∈m.bg,x.Ok
 nA:∀x∈m.bh,x.Ok
 n:∀x∈m.next,x.Ok
 t:∀x∈m.trans,x.Ok
 f:∀x∈m.bb,x.Ok
 s:∀x∈m.bc,x.name.size<=140737488351232/\x.f.Ok
def akk{n:Nat}{x:lZ}(h:j5 (.struct [.str,hF n]) x):∃d:cv,x=d.cells/\d.name.size<=140737488351232/\d.f.Ok:=by obtain⟨a,b,rfl,g,c,e,rfl,i,rfl⟩:=h;obtain⟨s,rfl,aj⟩:=C6 g;obtain⟨t,rfl,j⟩:=Jq n i;exact⟨⟨s,t⟩,by simp[cv.cells,Fm.h9],aj,j⟩
end Go.Am
