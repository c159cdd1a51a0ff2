/- Laws, on data. No condition. -/
import Derived.Test.YtjonbfbkkkcjgaaGreatDoorEngC
import Derived.Test.YtjonbfbkkkcjgaaGreatDoorCode
import Derived.Test.YtjonbfbkkkcjgaaGreatDoorEngS
import Derived.Test.YtjonbfbkkkcjgaaGreatDoorEngD
import Derived.Test.YtjonbfbkkkcjgaaGreatDoorWs
import Derived.Test.YtjonbfbkkkcjgaaGreatDoorLaws
set_option linter.all false
set_option linter.unnecessarySimpa false
attribute [simp] Go.Am.ry
namespace Go.Am
section
variable{bt:Bool}{a b:Int}
@[simp] theorem amG:aP bt .lss (kN a) (.val (.int .u8 b))=some (aD (decide (a<b))):=rfl
@[simp] theorem Ew:aP bt .leq (kN a) (.val (.int .u8 b))=some (aD (decide (a<=b))):=rfl
@[simp] theorem amH:aP bt .gtr (kN a) (.val (.int .u8 b))=some (aD (decide (a>b))):=rfl
@[simp] theorem Ex:aP bt .geq (kN a) (.val (.int .u8 b))=some (aD (decide (a>=b))):=rfl
@[simp] theorem agP:aP bt .eql (kN a) (.val (.int .u8 b))=some (aD (a==b)):=rfl
end
def Ey{s:ByteArray}{i:Nat}{b:UInt8}(h:s[i]?=some b):l2 (aA s) (aa (i:Int))=some (kN b.toNat):=by simp[l2,aA,aa,AB,h,km,kN]
def SN{s:ByteArray}{b:UInt8}(h:s[0]?=some b):l2 (aA s) (aa 0)=some (kN b.toNat):=Ey (i:=0) h
theorem SO(n:Nat)(c:Int):yv n [kN c]=some (aD (nh c)):=by simp only[yv,Pe,nh,Ex,Ew,cG,cj,aK,aR,cI,jV,bh];cases decide (c>=97)<;>cases decide (c<=122)<;>cases decide (c>=65)<;>cases decide (c<=90)<;>rfl
theorem agQ(n:Nat)(c:Int):CT n [kN c]=some (aD (q8 c)):=by simp only[CT,Pf,q8,Ex,Ew,cG,cj,aK,aR,jV];cases decide (c>=48)<;>cases decide (c<=57)<;>rfl
theorem SP(n:Nat)(c:Int):CU n [kN c]=some (aD (iV c)):=by simp only[CU,Pg,iV,SO,agQ,agP,cG,aR,cI,jV];cases nh c<;>cases q8 c<;>cases(c==95)<;>rfl
theorem SQ(n:Nat)(c:Int):xK n [kN c]=some (aD (nh c)):=by simp only[xK,OJ,nh,Ex,Ew,cG,cj,aK,aR,cI,jV,bh];cases decide (c>=97)<;>cases decide (c<=122)<;>cases decide (c>=65)<;>cases decide (c<=90)<;>rfl
theorem agR(n:Nat)(c:Int):Cp n [kN c]=some (aD (q8 c)):=by simp only[Cp,OK,q8,Ex,Ew,cG,cj,aK,aR,jV];cases decide (c>=48)<;>cases decide (c<=57)<;>rfl
def SR(p:Int->Bool)(s:ByteArray):(∀j:Nat,j<jQ p s->kl p s j=true)/\kl p s (jQ p s)=false/\jQ p s<=s.size:=by
 unfold jQ;cases h:(List.range (s.size+1)).find? (λi=>!kl p s i)with
 |none=>
  exfalso;have ab:=List.find?_eq_none.1 h s.size sZ;have:kl p s s.size=true:=by simpa using ab
  exact absurd (Xg this) (xbZ _)
 |some m=>rw[List.find?_range_eq_some]at h;obtain⟨ab,ad,ai⟩:=h;refine⟨λj a=>by simpa using ai j a,by simpa using ab,by show m<=s.size;simp at ad;omega⟩
def SS{p:Int->Bool}{s:ByteArray}{i:Nat}(h:kl p s i=true):∃b:UInt8,s[i]?=some b/\p b.toNat=true:=by
 unfold kl at h;split at h;.exact⟨_,by assumption,h⟩
 cases h
def SU{p:Int->Bool}{s:ByteArray}{i:Nat}(h:kl p s i=false):(s[i]?=none/\s.size<=i)\/∃b:UInt8,s[i]?=some b/\i<s.size/\p b.toNat=false:=by
 unfold kl at h;split at h
 .rename_i b a;refine .inr ⟨b,a,?_,h⟩;rw[A7]at a;by_cases ab:i<s.size;.exact ab
  rw[dif_neg ab]at a;cases a
 rename_i a;refine .inl ⟨a,?_⟩;rw[A7]at a;by_cases ab:i<s.size;.rw[dif_pos ab]at a;cases a
 omega
def agS(n:Nat)(s:ByteArray)(e:s.size<n)(aj:s.size<=9223372036854775807):yx n [aA s,.val (.func (.func xu) #[] #[])]=some (aa (jQ iV s)):=by
 obtain⟨ab,ad,ai⟩:=SR iV s;have key:aS (yw n) n [aA s,aa 0]=some (.inl [aa (jQ iV s)]):=by
  refine ia (λi=>[aA s,aa i]) (jQ iV s) rfl ?_ ?_ oZ;.intro i ag;obtain⟨b,a,c⟩:=SS (ab i ag);simp(disch:=omega) [yw,Ey a,SP,c,ds,show i<s.size by omega]
  rcases SU ad with⟨a,c⟩|⟨b,a,d,c⟩;.simp[yw,show¬(jQ iV s<s.size) by omega]
  simp[yw,Ey a,SP,c,d]
 simp[yx,It,key]
def agT(n:Nat)(s:ByteArray)(f:s.size<n)(aj:s.size<=9223372036854775807):Cq n [aA s,aa 0,aD false]=some (aa (jQ iV s)):=by
 obtain⟨ab,ad,ai⟩:=SR iV s;have one:∀(i:Nat)(b:UInt8),s[i]?=some b->i<s.size->xL n [aA s,aa i,aD false]=if iV b.toNat=true then some (.inl [aA s,aa (i+1:Nat),aD false])else some (.inr (.inl [aa i])):=by intro i b a ag;simp(disch:=omega) [xL,Ey a,agR,SQ,iV,ds,ag];by_cases d:((b.toNat:Int)=95)<;>cases q8 b.toNat<;>cases nh b.toNat<;>simp[d]
 have key:aS (xL n) n [aA s,aa 0,aD false]=some (.inl [aa (jQ iV s)]):=by
  refine ia (λi=>[aA s,aa i,aD false]) (jQ iV s) rfl ?_ ?_ oZ;.intro i ag;obtain⟨b,a,c⟩:=SS (ab i ag);rw[one i b a oZ,xac c]
  rcases SU ad with⟨a,c⟩|⟨b,a,e,c⟩;.simp[xL,show¬(jQ iV s<s.size) by omega]
  rw[one _ b a e,xab (by simp[c])]
 simp[Cq,OL,key]
def pd(p:Nat->Prop)[DecidablePred p]:∀m:Nat,(∀j:Nat,j<m->¬p j)\/∃i,i<m/\p i/\∀j:Nat,j<i->¬p j
 |0=> .inl (by intro j c;omega)
 |m+1=>by
  rcases pd p m with h|⟨i,ab,ad,ai⟩
  .by_cases b:p m;.exact .inr ⟨m,by omega,b,h⟩
   refine .inl λj c=>?_;by_cases a:j=m;.subst a;exact b
   exact h j oZ
  exact .inr ⟨i,by omega,ad,ai⟩
def agU(n:Nat)(l:List ByteArray)(x:ByteArray)(d:l.length<n)(ah:l.length<4000000000000000000):yy n [cx l,aA x]=some (aa (idxOf x l)):=by
 have step:∀(i:Nat)(y:ByteArray),l[i]?=some y->i<l.length->uL n [cx l,aA x,aa l.length,aa i]=if x=y then some (.inr (.inr (aa i)))else some (.inl [cx l,aA x,aa l.length,aa (i+1:Nat)]):=by intro i y a ag;obtain⟨_,rfl⟩:=lV.1 a;simp(disch:=omega) [uL,cx,ag,ds]
 rcases pd (λi=>l[i]?=some x) l.length with h|⟨i,ab,ad,ai⟩
 .have key:aS (uL n) n [cx l,aA x,aa l.length,aa 0]=some (.inl []):=by
   refine ia (λi=>[cx l,aA x,aa l.length,aa i]) l.length rfl ?_ ?_ d;.intro i ag;have a:=xaa ag;rw[step i _ a ag,xab];intro b;exact h i ag (by rw[a,b])
   simp[uL]
  have e:(cx l)= .aw 1 (l.map λs=>[aA s]):=rfl;simp[yy,Iu,L3 h];rw[e]at key⊢;simp[key]
 have key:aS (uL n) n [cx l,aA x,aa l.length,aa 0]=some (.inr (aa i)):=by
  refine ia (λi=>[cx l,aA x,aa l.length,aa i]) i rfl ?_ ?_ oZ;.intro j c;have a:=xaa (oZ:j<l.length);rw[step j _ a oZ,xab];intro b;exact ai j c (by rw[a,b])
  rw[step i x ad ab,xac rfl]
 simp[yy,Iu,L4 ai ad];have e:(cx l)= .aw 1 (l.map λs=>[aA s]):=rfl;rw[e]at key⊢;simp[key]
def agV(n:Nat)(l:List ByteArray)(x:ByteArray)(a:l.length<n)(ah:l.length<4000000000000000000):CV n [cx l,aA x]=some (aD (has x l)):=by simp[CV,Ph,agU n l x a ah,L5]
def agW(n:Nat)(l:List ByteArray)(x:ByteArray)(d:l.length<n)(ah:l.length<4000000000000000000):xM n [cx l,aA x]=some (aD (has x l)):=by
 have step:∀(i:Nat)(y:ByteArray),l[i]?=some y->i<l.length->uf n [cx l,aA x,aa i]=if y=x then some (.inr (.inr (aD true)))else some (.inl [cx l,aA x,aa (i+1:Nat)]):=by intro i y a ag;obtain⟨_,rfl⟩:=lV.1 a;simp(disch:=omega) [uf,cx,ag,ds]
 rcases pd (λi=>l[i]?=some x) l.length with h|⟨i,ab,ad,ai⟩
 .have key:aS (uf n) n [cx l,aA x,aa 0]=some (.inl []):=by
   refine ia (λi=>[cx l,aA x,aa i]) l.length rfl ?_ ?_ d;.intro i ag;have a:=xaa ag;rw[step i _ a ag,xab];intro b;exact h i ag (by rw[a,b])
   simp[uf,cx]
  simp[xM,H7,key,L7 h]
 have key:aS (uf n) n [cx l,aA x,aa 0]=some (.inr (aD true)):=by
  refine ia (λi=>[cx l,aA x,aa i]) i rfl ?_ ?_ oZ;.intro j c;have a:=xaa (oZ:j<l.length);rw[step j _ a oZ,xab];intro b;exact ai j c (by rw[a,b])
  rw[step i x ad ab,xac rfl]
 simp[xM,H7,key,L6 ad]
theorem agX(n:Nat):H6 n []=some (cx words):=rfl
theorem agY:(D.aw 1 (xl.map λc=>[c]))=cx words:=rfl
def JJ(n:Nat)(s:ByteArray)(e:s.size+24<n)(aj:s.size<=9223372036854775807):rW n [aA s]=some (aD (isName s)):=by
 have f:words.length=24:=rfl;have ab:=agS n s oZ aj;have ad:=agV n words s oZ oZ;rcases L8 s with⟨a,c⟩|⟨b,a,c,d⟩
 .simp[rW,Iv,a,isName,c]
 simp only[rW,Iv,isName,kl,d,SN d,SO,ab,ad,agY,Nt,a,c,Hn,BL,tA,tC,cG,cj,aK,aR,jV,an];cases decide ((s.size:Int)<=24)<;>cases nh b.toNat<;>cases((jQ iV s:Int)==(s.size:Int))<;>cases has s words<;>rfl
def JK(n:Nat)(s:ByteArray)(e:s.size+24<n)(aj:s.size<=9223372036854775807):rM n [aA s]=some (aD (isName s)):=by
 have f:words.length=24:=rfl;have ab:=agT n s oZ aj;have ad:=agW n words s oZ oZ;rcases L8 s with⟨d,a⟩|⟨b,d,a,c⟩
 .simp only[rM,H8,Hn,w2,cG,a,cj,aK,aR,jV,bh,an,bC];simp[isName,a]
 simp only[rM,H8,isName,kl,c,SN c,SQ,ab,ad,agX,a,Hn,BL,w2,tA,tC,cG,cj,aK,aR,jV,bh,an,bC];cases decide ((s.size:Int)<=24)<;>cases nh b.toNat<;>cases((jQ iV s:Int)==(s.size:Int))<;>cases has s words<;>rfl
def agZ(n:Nat)(w v:V):yz n [w.d,.ref v.cells 0]=some (aD (decide (w.name=v.name))):=by simp[yz,Iw,V.d,V.cells]
def ag0(n:Nat)(l:List V)(v:V)(g:l.length<n)(ah:l.length<4000000000000000000):uM n [aM l,.fn (.func nz) [] [.ref v.cells 0]]=some (aa (idxOf v.name (l.map V.name))):=by
 have c:(l.map V.name).length=l.length:=sZ
 have step:∀(i:Nat)(y:V),l[i]?=some y->i<l.length->rX n [aM l,.ref v.cells 0,aa l.length,aa i]=if y.name=v.name then some (.inr (.inr (aa i)))else some (.inl [aM l,.ref v.cells 0,aa l.length,aa (i+1:Nat)]):=by intro i y a ag;obtain⟨_,rfl⟩:=lV.1 a;have ab:=agZ n l[i] v;simp only[V.d,V.cells]at ab;simp(disch:=omega) [rX,aM,ag,ds,V.cells,ab]
 have e:∀x,uM n [aM l,.fn (.func nz) [] [x]]=af (aS (rX n) n [aM l,x,aa l.length,aa 0]) (aG λls=>some (aa (-1))):=by intro x;simp only[uM,jg,Ix,bd,an];simp[aM]
 rw[e];rcases pd (λi=>(l.map V.name)[i]?=some v.name) l.length with h|⟨i,ab,ad,ai⟩
 .have key:aS (rX n) n [aM l,.ref v.cells 0,aa l.length,aa 0]=some (.inl []):=by
   refine ia (λi=>[aM l,.ref v.cells 0,aa l.length,aa i]) l.length rfl ?_ ?_ g;.intro i ag;have a:=xaa ag;rw[step i _ a ag,xab];intro b;exact h i ag (by rw[xag,a,<-b];rfl)
   simp[rX]
  rw[key,L3 (by rw[c];exact h)];rfl
 have key:aS (rX n) n [aM l,.ref v.cells 0,aa l.length,aa 0]=some (.inr (aa i)):=by
  refine ia (λi=>[aM l,.ref v.cells 0,aa l.length,aa i]) i rfl ?_ ?_ oZ;.intro j f;have a:=xaa (oZ:j<l.length);rw[step j _ a oZ,xab];intro b;exact ai j f (by rw[xag,a,<-b];rfl)
  have a:=xaa ab;rw[step i _ a ab,xac];rw[xag,a]at ad;simpa using ad
 rw[key,L4 ai ad];rfl
def ag1(n:Nat)(l:List V)(v:V)(a:l.length<n)(ah:l.length<4000000000000000000):yA n [aM l,.fn (.func nz) [] [.ref v.cells 0]]=some (aD (has v.name (l.map V.name))):=by simp only[yA,jg,Iy,ag0 n l v a ah,aR,an];simp[L5]
def JL{k:Nat}{es:mW}{i:Nat}(h:i<=es.length):jC k (.aw k es) none (some (aa (i:Int)))=some (.aw k (es.take i)):=by simp[jC,ld,aa,h]
def hK(v:V):Bool:=v.bool&&(v.lo !=0||v.ag !=0)
def JM(v:V):Bool:=!v.bool&&(decide (v.lo>v.ag)||ou v||decide (IntKind.i64.wrap (v.ag-v.lo)>=64))
theorem SV(seen:List V)(v:V):ta seen v=if !isName v.name then 12 else if has v.name (seen.map V.name)then 6 else if hK v then 3 else if JM v then 2 else 0:=rfl
def gT(l:List V):Prop:=l.length<1000000000000/\∀v∈l,jA v.lo/\jA v.ag/\v.name.size<=9223372036854775807
def JN(n:Nat)(l:List V)(ah:gT l)(w:l.length<n)(a:∀v∈l,v.name.size+24<n)(i:Nat)(ag:i<l.length):rY n [aM l,aM l,aa l.length,aa i]=if gm l i=0 then some (.inl [aM l,aM l,aa l.length,aa (i+1:Nat)])else some (.inr (.inr (.az [aa i,aa (gm l i)]))):=by
 have c:=xaa ag;have x:=ah.2 _ (xaX ag);have b:=ah.1;have e:gm l i=ta (l.take i) l[i]:=by simp only[gm,c]
 rw[e];generalize o:l[i]=v at*;have ab:=JJ n v.name (a v (o▸xaX ag)) oZ;have ad:=ag1 n (l.take i) v (by rw[xbx];omega) (by rw[xbx];omega);have ai:jC 4 (aM l) none (some (aa (i:Int)))=some (aM (l.take i)):=by rw[aM,JL uZ,List.map_take.symm];rfl
 have f:a8 4 (aM l) (aa (i:Int))=some v.cells:=by simp[aM,c]
 have g:aP false .lss (aa (i:Int)) (aa (l.length:Int))=some (aD true):=by simp[ag]
 have h:aP false .add (aa (i:Int)) (aa 1)=some (aa (i+1:Nat)):=by rw[ds oZ oZ];rfl
 have j:aP false .sub (aa v.ag) (aa v.lo)=some (aa (IntKind.i64.wrap (v.ag-v.lo))):=rfl;have k:aN true 4 0 v.cells=some v.d:=rfl;have m:cw 4 v.d=true:=rfl;have bF:ae v.d 0=aA v.name:=rfl;have c1:ae v.d 1=aD v.bool:=rfl;have c2:ae v.d 2=aa v.lo:=rfl;have b3:ae v.d 3=aa v.ag:=rfl;have eM:(D.ref [aA v.name,aD v.bool,aa v.lo,aa v.ag] 0)= .ref v.cells 0:=rfl;have g1:ou v=(decide ((if v.ag>v.lo then v.ag else v.lo)>255)||decide ((if v.ag<v.lo then v.ag else v.lo)< -255)):=rfl;rw[SV];simp only[rY,lq,ma,g,cG,h9,xaE,f,k,m,ln,bF,c1,c2,b3,eM,Hy,NG,ab,ad,ai,tC,kV,BK,NH,tB,h,j,w2,cj,aK,av,aJ,aR,cI,dH,bq,cc,aL,bx,dc,an];rw[hK,JM,g1];cases isName v.name
 .cases decide ((if v.ag>v.lo then v.ag else v.lo)>255)<;>simp
 cases has v.name ((l.take i).map V.name)
 rotate_left
 .cases decide ((if v.ag>v.lo then v.ag else v.lo)>255)<;>simp
 generalize decide ((if v.ag>v.lo then v.ag else v.lo)>255)=p;generalize decide ((if v.ag<v.lo then v.ag else v.lo)< -255)=q;generalize decide (v.lo>v.ag)=r;generalize decide (IntKind.i64.wrap (v.ag-v.lo)>=64)=s;generalize (v.lo !=0)=t;generalize (v.ag !=0)=u;cases v.bool<;>cases p<;>cases q<;>cases r<;>cases s<;>cases t<;>cases u<;>rfl
def ag2(n:Nat)(l:List V)(ah:gT l)(d:l.length<n)(a:∀v∈l,v.name.size+24<n):uN n [aM l]=some (.az [aa (hs l).1,aa (hs l).2]):=by
 have e:uN n [aM l]=af (aS (rY n) n [aM l,aM l,aa l.length,aa 0]) (aG λls=>some (D.az [aa 0,aa 0])):=by simp[uN,Pj,aM]
 rw[e];rcases pd (λi=>gm l i≠0) l.length with h|⟨i,ab,ad,ai⟩
 .have b:∀j:Nat,j<l.length->gm l j=0:=λj c=>by simpa using h j c
  have key:aS (rY n) n [aM l,aM l,aa l.length,aa 0]=some (.inl []):=by
   refine ia (λi=>[aM l,aM l,aa l.length,aa i]) l.length rfl ?_ ?_ d;.intro i ag;rw[JN n l ah d a i ag,xac (b i ag)]
   simp[rY]
  rw[key,Ma b];rfl
 have b:∀j:Nat,j<i->gm l j=0:=λj c=>by simpa using ai j c
 have key:aS (rY n) n [aM l,aM l,aa l.length,aa 0]=some (.inr (.az [aa i,aa (gm l i)])):=by
  refine ia (λi=>[aM l,aM l,aa l.length,aa i]) i rfl ?_ ?_ oZ;.intro j c;rw[JN n l ah d a j oZ,xac (b j c)]
  rw[JN n l ah d a i ab,xab ad]
 rw[key,L9 b ab rfl ad];rfl
@[simp] theorem SX {a:Int}:jB .u64 (aa a)=some (.val (.int .u64 (IntKind.u64.wrap a))):=rfl
theorem SY{k:IntKind}{a:Int}:jB .i64 (.val (.int k a))=some (aa (IntKind.i64.wrap a)):=rfl
def JO(n:Nat)(v:V)(ab:jA v.lo)(ad:jA v.ag):uO n [v.d]=some (aa v.span):=by
 have c1:ae v.d 1=aD v.bool:=rfl;have c2:ae v.d 2=aa v.lo:=rfl;have b3:ae v.d 3=aa v.ag:=rfl;have h:cw 4 v.d=true:=rfl;simp only[uO,Pk,h,ln,c1,c2,b3,h9,kV,cG,SX,aK,aJ,aR,jV,aL,an,bC];cases c:v.bool with
 |true=>simp[V.L1 c]
 |false=>
  by_cases b:v.lo>v.ag;.simp[V.L2 c b,b]
  have a:v.lo<=v.ag:=oZ
  have f:aP false .sub (.val (.int .u64 (IntKind.u64.wrap v.ag))) (.val (.int .u64 (IntKind.u64.wrap v.lo)))=some (.val (.int .u64 (v.ag-v.lo))):=by show some (D.val (.int .u64 (IntKind.u64.wrap (IntKind.u64.wrap v.ag-IntKind.u64.wrap v.lo))))=_;rw[L0 ab ad a]
  have g:aP false .lss (.val (.int .u64 (v.ag-v.lo))) (.val (.int .u64 1073741824))=some (aD (decide (v.ag-v.lo<1073741824))):=rfl;simp only[b,decide_false,xaq,xaF,f,g,cG,h9];by_cases e:v.ag-v.lo<1073741824;.rw[V.Gl c a e];simp only[e,decide_true,xaE,SY,cG,wrap64 _ (show-9223372036854775808<=v.ag-v.lo by omega) oZ];rw[ds oZ oZ];rfl
  rw[V.Gm c a oZ];simp[e]
def vK(n:Nat)(v:V)(ab:jA v.lo)(ad:jA v.ag):oM n [v.d]=some (aa v.span):=by
 have c1:ae v.d 1=aD v.bool:=rfl;have c2:ae v.d 2=aa v.lo:=rfl;have b3:ae v.d 3=aa v.ag:=rfl;have h:cw 4 v.d=true:=rfl;simp only[oM,ON,h,ln,c1,c2,b3,h9,kV,cG,SX,aK,av,aJ,aR,jV,aL,an,bC];cases c:v.bool with
 |true=>simp[V.L1 c]
 |false=>
  by_cases b:v.lo>v.ag;.simp[V.L2 c b,b]
  have a:v.lo<=v.ag:=oZ
  have f:aP false .sub (.val (.int .u64 (IntKind.u64.wrap v.ag))) (.val (.int .u64 (IntKind.u64.wrap v.lo)))=some (.val (.int .u64 (v.ag-v.lo))):=by show some (D.val (.int .u64 (IntKind.u64.wrap (IntKind.u64.wrap v.ag-IntKind.u64.wrap v.lo))))=_;rw[L0 ab ad a]
  have g:aP false .gtr (.val (.int .u64 (v.ag-v.lo))) (.val (.int .u64 1073741824))=some (aD (decide (v.ag-v.lo>1073741824))):=rfl;simp only[b,decide_false,xaq,xaF,f,g,cG,h9];by_cases e:v.ag-v.lo>1073741824;.rw[V.Gm c a oZ];simp only[e,decide_true,xaE,cG,lp];rfl
  simp only[e,decide_false,xaq,xaF,cG,lp,lq,SY,cr,wrap64 _ (show-9223372036854775808<=v.ag-v.lo by omega) oZ];rw[ds oZ oZ];simp only[cG];by_cases i:v.ag-v.lo=1073741824;.rw[V.Gm c a oZ,i];rfl
  rw[V.Gl c a oZ]
def V.sw(v:V):0<=v.span/\v.span<=1073741825:=by
 unfold V.span;split;.omega
 split;.omega
 split<;>omega
def ag3{i:Nat}(h:i<=62):((2:Int)^i)<=4611686018427387904/\0<(2:Int)^i:=by
 have ab:(2:Nat)^i<=2^62:=Nat.pow_le_pow_right oZ h;have ai:((2^i:Nat):Int)=2^i:=sZ
 have ad:(0:Int)<2^i:=Int.pow_pos oZ;omega
def SZ{bt:Bool}{i:Nat}(h:i<=62):aP bt .shl (aa 1) (aa (i:Int))=some (aa ((2:Int)^i)):=by
 have a:¬((i:Int)<0):=oZ
 have b:min i IntKind.i64.bits=i:=by simp[IntKind.bits];omega
 obtain⟨ab,ad⟩:=ag3 h;have e:IntKind.i64.wrap (1*2^(min i IntKind.i64.bits))=2^i:=by rw[b,Int.one_mul];exact wrap64 _ oZ oZ
 simp only[aP,aa,km,a,xaF,Int.toNat_natCast];rw[e]
def vL{n:Int}(h:n<=1073741825):bitsOf n<=62/\(∀j:Nat,j<bitsOf n->(2:Int)^j<n)/\n<=2^bitsOf n:=by
 rcases pd (λi=>n<=(2:Int)^i) 40 with ab|⟨i,ab,ad,ai⟩;.exact absurd h (by have:=ab 39 oZ;simp at this;omega)
 have a:∀j:Nat,j<i->(2:Int)^j<n:=λj b=>by have:=ai j b;omega
 rw[Xf a ad];exact⟨by omega,a,ad⟩
def ag4(n:Nat)(k:Int)(a:k<=1073741825)(b:63<n):CX n [aa k]=some (aa (bitsOf k)):=by
 obtain⟨ab,ad,ai⟩:=vL a;have key:aS (CW n) n [aa k,aa 0]=some (.inr (aa (bitsOf k))):=by
  refine ia (λi=>[aa k,aa i]) (bitsOf k) rfl ?_ ?_ oZ;.intro i ag;have:=ad i ag;simp(disch:=omega) [CW,SZ,ds,show((i:Int)<63) by omega,show¬(k<=(2:Int)^i) by omega]
  simp(disch:=omega) [CW,SZ,show((bitsOf k:Int)<63) by omega,ai]
 simp[CX,Pl,key]
def ag5(n:Nat)(k:Int)(ak:-1000<=k)(d:k<=1073741825)(s:63<n):Ct n [aa k]=some (aa (bitsOf k)):=by
 have key:∀(m:Nat)(k:Int)(a b:Nat),bitsOf k=m->k<=1073741825->a+m<=1000->m<b->aS (Cs n) b [aa k,aa a]=some (.inl [aa (a+m:Nat)]):=by
  intro m
  induction m with
  |zero=>
   intro k a b r d o f;obtain⟨b,rfl⟩:∃q,b=q+1:=⟨b-1,by omega⟩;have c:¬k>1:=by intro h;have:=LZ h;omega
   rw[hJ];simp[Cs,c]
  |succ m ih=>
   intro k a b r d o f;obtain⟨b,rfl⟩:∃q,b=q+1:=⟨b-1,by omega⟩;have c:k>1:=by
    refine xbi λh=>?_;have:bitsOf k=0:=by unfold bitsOf;rw[xac oZ]
    omega
   have aY:=LZ c;have i:k.tdiv 2=k/2:=Int.tdiv_eq_ediv_of_nonneg oZ;have j:k.tmod 2=k%2:=Int.tmod_eq_emod_of_nonneg oZ;have p:=(vL d).1;have g:=ih (k/2+k%2) (a+1) b oZ oZ oZ oZ;rw[hJ];simp(disch:=omega) [Cs,c,Ns,w3,i,j,wrap64,ds];have l:((a:Int)+1)=((a+1:Nat):Int):=oZ
   rw[l,g]
   congr 4
   omega
 have:=key (bitsOf k) k 0 n rfl d (by have:=(vL d).1;omega) (by have:=(vL d).1;omega);simp only[xaw]at this;have e:(aa ((0:Nat):Int))=aa 0:=rfl;rw[e]at this;simp[Ct,OO,this]
theorem ag6(n:Nat)(k:Int):xN n [aa k]=some (aD (decide (k>=-255)&&decide (k<=255))):=by simp only[xN,OM,w2,BL,cG,cj,aK,aR,jV];cases decide (k>=-255)<;>cases decide (k<=255)<;>rfl
def JP(n:Nat)(l:List V)(i k:Nat)(ag:i<l.length)(c:k<i)(b:l.length<1000000000000):xO n [aM l,aa i,aa k]=if(l[k]'oZ).name=l[i].name then some (.inr (.inr (.inr (.inr (.inr (.az [aa i,aa 6]))))))else some (.inl [aM l,aa i,aa (k+1:Nat)]):=by
 have a:k<l.length:=oZ
 have ab:l[k]?=some l[k]:=xaa a;have ad:l[i]?=some l[i]:=xaa ag;simp(disch:=omega) [xO,aM,c,ds,V.cells]
def ag7(n:Nat)(l:List V)(i:Nat)(ag:i<l.length)(a:l.length<1000000000000)(m:l.length<n):aS (xO n) n [aM l,aa i,aa 0]=if has l[i].name ((l.take i).map V.name)=true then some (.inr (.inr (.inr (.inr (.az [aa i,aa 6])))))else some (.inl [aM l,aa i]):=by
 rcases pd (λk=>(l.map V.name)[k]?=some l[i].name) i with h|⟨k,ab,ad,ai⟩
 .rw[Xi h,xab sZ];refine ia (λk=>[aM l,aa i,aa k]) i rfl ?_ ?_ oZ;.intro k e;rw[JP n l i k ag e a,xab];intro c;refine h k e ?_;rw[xag,xaa (oZ:k<l.length),<-c];rfl
  simp[xO]
 have d:k<l.length:=oZ
 have f:=xaa d;have b:(l[k]).name=l[i].name:=by rw[xag,f]at ad;simpa using ad
 rw[<-b,Xj ab f,xac rfl];refine ia (λk=>[aM l,aa i,aa k]) k rfl ?_ ?_ oZ;.intro j g;rw[JP n l i j ag oZ a,xab];intro c;refine ai j g ?_;rw[xag,xaa (oZ:j<l.length),<-c];rfl
 rw[JP n l i k ag ab a,xac b]
def JQ(n:Nat)(l:List V)(ah:gT l)(q:l.length<n)(c:∀v∈l,v.name.size+24<n)(i:Nat)(ag:i<l.length):rN n [aM l,aa i]=if gm l i=0 then some (.inl [aM l,aa (i+1:Nat)])else some (.inr (.inr (.az [aa i,aa (gm l i)]))):=by
 have h:=xaa ag;have a:=ah.2 _ (xaX ag);have g:=ah.1;have m:=ag7 n l i ag ah.1 q;have e:gm l i=ta (l.take i) l[i]:=by simp only[gm,h]
 rw[e];generalize r:l[i]=v at*;have ab:=JK n v.name (c v (r▸xaX ag)) oZ;have f:a8 4 (aM l) (aa (i:Int))=some v.cells:=by simp[aM,h]
 have j:aP false .lss (aa (i:Int)) (aa (l.length:Int))=some (aD true):=by simp[ag]
 have b:dK (aM l)=some (aa l.length):=by simp[aM]
 have k:aP false .add (aa (i:Int)) (aa 1)=some (aa (i+1:Nat)):=by rw[ds oZ oZ];rfl
 have o:aN true 4 0 v.cells=some v.d:=rfl;have bF:aN false 1 0 v.cells=some (aA v.name):=rfl;have c1:aN false 1 1 v.cells=some (aD v.bool):=rfl;have c2:aN false 1 2 v.cells=some (aa v.lo):=rfl;have b3:aN false 1 3 v.cells=some (aa v.ag):=rfl;have p:=vK n v a.1 a.2.1;rw[SV];rw[show JM v=_ from Xh ⟨a.1,a.2.1,by omega⟩];simp only[rN,lq,ma,b,j,cG,h9,xaE,f,bF,ab,m,tC,cj,aK,av,aR,bd,cR,bq,cc,aL,bx,dc,an];rw[hK];cases isName v.name
 .simp
 cases has v.name ((l.take i).map V.name)
 rotate_left
 .simp
 simp only[Bool.not_true,xaq,xaF,cG,lp,cR,lq,ma,f,o,c1,c2,b3,kV,tB,ag6,p,tC];generalize (decide (v.lo>=-255)&&decide (v.lo<=255))=s;generalize (decide (v.ag>=-255)&&decide (v.ag<=255))=t;generalize decide (v.lo>v.ag)=u;generalize decide (v.span>64)=w;generalize (v.lo !=0)=x;generalize (v.ag !=0)=y;cases v.bool<;>cases s<;>cases t<;>cases u<;>cases w<;>cases x<;>cases y<;>simp[k]
def ag8(n:Nat)(l:List V)(ah:gT l)(d:l.length<n)(a:∀v∈l,v.name.size+24<n):Cr n [aM l]=some (.az [aa (hs l).1,aa (hs l).2]):=by
 have e:Cr n [aM l]=af (aS (rN n) n [aM l,aa 0]) (aG λls=>some (D.az [aa 0,aa 0])):=rfl;rw[e];rcases pd (λi=>gm l i≠0) l.length with h|⟨i,ab,ad,ai⟩
 .have b:∀j:Nat,j<l.length->gm l j=0:=λj c=>by simpa using h j c
  have key:aS (rN n) n [aM l,aa 0]=some (.inl []):=by
   refine ia (λi=>[aM l,aa i]) l.length rfl ?_ ?_ d;.intro i ag;rw[JQ n l ah d a i ag,xac (b i ag)]
   simp[rN,aM]
  rw[key,Ma b];rfl
 have b:∀j:Nat,j<i->gm l j=0:=λj c=>by simpa using ai j c
 have key:aS (rN n) n [aM l,aa 0]=some (.inr (.az [aa i,aa (gm l i)])):=by
  refine ia (λi=>[aM l,aa i]) i rfl ?_ ?_ oZ;.intro j c;rw[JQ n l ah d a j oZ,xac (b j c)]
  rw[JQ n l ah d a i ab,xab ad]
 rw[key,L9 b ab rfl ad];rfl
def j4(l:List cp)(x:ByteArray):Option Nat:=l.findIdx? (λd=>decide (d.name=x))
def dY:Option Nat->Int
 |some i=>(i:Int)|none=>-1
def vM(o:Option Nat):decide (dY o>=0)=o.isSome:=by cases o with|none=>rfl|some i=>simp[dY]
def S0(o:Option Nat):decide (dY o<0)=o.isNone:=by cases o with|none=>rfl|some i=>exact yF ((i:Int)<0)
def findIdx_cons{b:Type}(p:b->Bool)(a:b)(r:List b):(a::r).findIdx? p=if p a then some 0 else(r.findIdx? p).map (·+1):=by rw[xbY]
theorem V.iH(v:V):ae v.d 0=aA v.name:=rfl
theorem V.a4(v:V):aN true 4 0 v.cells=some v.d:=rfl
attribute [go_sem] V.a4
theorem V.g4(v:V):cw 4 v.d=true:=rfl
theorem a7.iH(v:a7):ae v.d 0=aA v.name:=rfl
theorem a7.a5(v:a7):aN true 5 0 v.cells=some v.d:=rfl
attribute [go_sem] a7.a5
def a7.g5(v:a7):cw 5 v.d=true:=by unfold a7.d a7.cells;simp
theorem cp.iH(v:cp):ae v.d 0=aA v.name:=rfl
theorem cp.ic(v:cp):aN true 7 0 v.cells=some v.d:=rfl
def cp.g7(v:cp):cw 7 v.d=true:=cp.agg v
def ag9(n:Nat)(d:V)(x:ByteArray):Dm n [d.d,.ref [aA x] 0]=some (aD (decide (d.name=x))):=by show Dl n d.d [aA x]=_;simp only[Dl,go_sem,fW,V.g4,V.iH]
def aha(n:Nat)(l:List V)(x:ByteArray)(p:l.length<n)(o:l.length<1000000000):u4 n [aM l,D.fn (.func mi) [] [.ref [aA x] 0]]=some (aa (dY (cX l x))):=by
 have m:(aa ((0:Nat):Int))=aa 0:=rfl;have ag:=cd (f:=y6 n) l (λi (_:Unit)=>[aM l,.ref [aA x] 0,aa l.length,aa (i:Int)]) (λr _=>match cX r x with|some j=>(Sum.inr (aa ((l.length-r.length+j:Nat):Int)):lZ⊕D)|none=> .inl []) (λ_ _=>True) ?_ ?_ n 0 () trivial oZ (xah _)
 .rw[m,xak,xbU]at ag;have aY:u4 n [aM l,D.fn (.func mi) [] [.ref [aA x] 0]]=y7 n (aM l) (.ref [aA x] 0):=by
   simp only[u4,jg]
  rw[aY];cases g:cX l x with|none=>rw[g]at ag;simp only[y7,go_sem,ag,dY]|some j=>rw[g]at ag;simp only[xaw]at ag;simp only[y7,go_sem,ag,dY]
 .intro _ _;have:cX [] x=none:=rfl;simp only[y6,go_sem,yF ((l.length:Int)<l.length),this]
 intro i a _ d ag _;have b:=yT ((i:Int)<(l.length:Int));have c:cX (a::l.drop (i+1)) x=if decide (a.name=x)=true then some 0 else(cX (l.drop (i+1)) x).map (·+1):=findIdx_cons _ a _
 have e:l.length-(a::l.drop (i+1)).length=i:=uZ
 have k:l.length-(l.drop (i+1)).length=i+1:=uZ
 have ab:=ag9 n a x;by_cases h:a.name=x;.right;rw[xap h]at ab c;rw[c,xac rfl,e];simp only[y6,go_sem,b,eH d,ab,xbv]
 left;rw[xaB h]at ab c;rw[c,xab sZ,e,k];refine⟨(),?_,?_,trivial⟩;.simp only[y6,go_sem,b,eH d,ab,bu i]
 cases cX (l.drop (i+1)) x with|none=>rfl|some j=>simp;omega
def ahb(n:Nat)(l:List V)(x:ByteArray)(b:l.length<n)(a:l.length<1000000000):u5 n [aM l,D.fn (.func mi) [] [.ref [aA x] 0]]=some (aD (cX l x).isSome):=by
 have aY:u5 n [aM l,D.fn (.func mi) [] [.ref [aA x] 0]]=Dn n (aM l) (.ref [aA x] 0):=by simp only[u5,jg]
 rw[aY];simp only[Dn,go_sem,aha n l x b a,vM]
def ahc(n:Nat)(d:a7)(x:ByteArray):Dq n [d.d,.ref [aA x] 0]=some (aD (decide (d.name=x))):=by show Dp n d.d [aA x]=_;simp only[Dp,go_sem,fW,a7.g5,a7.iH]
def ahd(n:Nat)(l:List a7)(x:ByteArray)(p:l.length<n)(o:l.length<1000000000):u6 n [ay l,D.fn (.func mj) [] [.ref [aA x] 0]]=some (aa (dY (cq l x))):=by
 have m:(aa ((0:Nat):Int))=aa 0:=rfl;have ag:=cd (f:=y8 n) l (λi (_:Unit)=>[ay l,.ref [aA x] 0,aa l.length,aa (i:Int)]) (λr _=>match cq r x with|some j=>(Sum.inr (aa ((l.length-r.length+j:Nat):Int)):lZ⊕D)|none=> .inl []) (λ_ _=>True) ?_ ?_ n 0 () trivial oZ (xah _)
 .rw[m,xak,xbU]at ag;have aY:u6 n [ay l,D.fn (.func mj) [] [.ref [aA x] 0]]=y9 n (ay l) (.ref [aA x] 0):=by
   simp only[u6,jg]
  rw[aY];cases g:cq l x with|none=>rw[g]at ag;simp only[y9,go_sem,ag,dY]|some j=>rw[g]at ag;simp only[xaw]at ag;simp only[y9,go_sem,ag,dY]
 .intro _ _;have:cq [] x=none:=rfl;simp only[y8,go_sem,yF ((l.length:Int)<l.length),this]
 intro i a _ d ag _;have b:=yT ((i:Int)<(l.length:Int));have c:cq (a::l.drop (i+1)) x=if decide (a.name=x)=true then some 0 else(cq (l.drop (i+1)) x).map (·+1):=findIdx_cons _ a _
 have e:l.length-(a::l.drop (i+1)).length=i:=uZ
 have k:l.length-(l.drop (i+1)).length=i+1:=uZ
 have ab:=ahc n a x;by_cases h:a.name=x;.right;rw[xap h]at ab c;rw[c,xac rfl,e];simp only[y8,go_sem,b,dM d,ab,xbv]
 left;rw[xaB h]at ab c;rw[c,xab sZ,e,k];refine⟨(),?_,?_,trivial⟩;.simp only[y8,go_sem,b,dM d,ab,bu i]
 cases cq (l.drop (i+1)) x with|none=>rfl|some j=>simp;omega
def ahe(n:Nat)(l:List a7)(x:ByteArray)(b:l.length<n)(a:l.length<1000000000):u7 n [ay l,D.fn (.func mj) [] [.ref [aA x] 0]]=some (aD (cq l x).isSome):=by
 have aY:u7 n [ay l,D.fn (.func mj) [] [.ref [aA x] 0]]=Dr n (ay l) (.ref [aA x] 0):=by simp only[u7,jg]
 rw[aY];simp only[Dr,go_sem,ahd n l x b a,vM]
def ahf(n:Nat)(d:V)(x:ByteArray):Dd n [d.d,.ref [aA x] 0]=some (aD (decide (d.name=x))):=by show Dc n d.d [aA x]=_;simp only[Dc,go_sem,fW,V.g4,V.iH]
def ahg(n:Nat)(l:List V)(x:ByteArray)(p:l.length<n)(o:l.length<1000000000):uW n [aM l,D.fn (.func tR) [] [.ref [aA x] 0]]=some (aa (dY (cX l x))):=by
 have m:(aa ((0:Nat):Int))=aa 0:=rfl;have ag:=cd (f:=y0 n) l (λi (_:Unit)=>[aM l,.ref [aA x] 0,aa l.length,aa (i:Int)]) (λr _=>match cX r x with|some j=>(Sum.inr (aa ((l.length-r.length+j:Nat):Int)):lZ⊕D)|none=> .inl []) (λ_ _=>True) ?_ ?_ n 0 () trivial oZ (xah _)
 .rw[m,xak,xbU]at ag;have aY:uW n [aM l,D.fn (.func tR) [] [.ref [aA x] 0]]=y1 n (aM l) (.ref [aA x] 0):=by
   simp only[uW,jg]
  rw[aY];cases g:cX l x with|none=>rw[g]at ag;simp only[y1,go_sem,ag,dY]|some j=>rw[g]at ag;simp only[xaw]at ag;simp only[y1,go_sem,ag,dY]
 .intro _ _;have:cX [] x=none:=rfl;simp only[y0,go_sem,yF ((l.length:Int)<l.length),this]
 intro i a _ d ag _;have b:=yT ((i:Int)<(l.length:Int));have c:cX (a::l.drop (i+1)) x=if decide (a.name=x)=true then some 0 else(cX (l.drop (i+1)) x).map (·+1):=findIdx_cons _ a _
 have e:l.length-(a::l.drop (i+1)).length=i:=uZ
 have k:l.length-(l.drop (i+1)).length=i+1:=uZ
 have ab:=ahf n a x;by_cases h:a.name=x;.right;rw[xap h]at ab c;rw[c,xac rfl,e];simp only[y0,go_sem,b,eH d,ab,xbv]
 left;rw[xaB h]at ab c;rw[c,xab sZ,e,k];refine⟨(),?_,?_,trivial⟩;.simp only[y0,go_sem,b,eH d,ab,bu i]
 cases cX (l.drop (i+1)) x with|none=>rfl|some j=>simp;omega
def ahh(n:Nat)(d:a7)(x:ByteArray):Df n [d.d,.ref [aA x] 0]=some (aD (decide (d.name=x))):=by show De n d.d [aA x]=_;simp only[De,go_sem,fW,a7.g5,a7.iH]
def ahi(n:Nat)(l:List a7)(x:ByteArray)(p:l.length<n)(o:l.length<1000000000):uX n [ay l,D.fn (.func ml) [] [.ref [aA x] 0]]=some (aa (dY (cq l x))):=by
 have m:(aa ((0:Nat):Int))=aa 0:=rfl;have ag:=cd (f:=y2 n) l (λi (_:Unit)=>[ay l,.ref [aA x] 0,aa l.length,aa (i:Int)]) (λr _=>match cq r x with|some j=>(Sum.inr (aa ((l.length-r.length+j:Nat):Int)):lZ⊕D)|none=> .inl []) (λ_ _=>True) ?_ ?_ n 0 () trivial oZ (xah _)
 .rw[m,xak,xbU]at ag;have aY:uX n [ay l,D.fn (.func ml) [] [.ref [aA x] 0]]=y3 n (ay l) (.ref [aA x] 0):=by
   simp only[uX,jg]
  rw[aY];cases g:cq l x with|none=>rw[g]at ag;simp only[y3,go_sem,ag,dY]|some j=>rw[g]at ag;simp only[xaw]at ag;simp only[y3,go_sem,ag,dY]
 .intro _ _;have:cq [] x=none:=rfl;simp only[y2,go_sem,yF ((l.length:Int)<l.length),this]
 intro i a _ d ag _;have b:=yT ((i:Int)<(l.length:Int));have c:cq (a::l.drop (i+1)) x=if decide (a.name=x)=true then some 0 else(cq (l.drop (i+1)) x).map (·+1):=findIdx_cons _ a _
 have e:l.length-(a::l.drop (i+1)).length=i:=uZ
 have k:l.length-(l.drop (i+1)).length=i+1:=uZ
 have ab:=ahh n a x;by_cases h:a.name=x;.right;rw[xap h]at ab c;rw[c,xac rfl,e];simp only[y2,go_sem,b,dM d,ab,xbv]
 left;rw[xaB h]at ab c;rw[c,xab sZ,e,k];refine⟨(),?_,?_,trivial⟩;.simp only[y2,go_sem,b,dM d,ab,bu i]
 cases cq (l.drop (i+1)) x with|none=>rfl|some j=>simp;omega
def ahj(n:Nat)(l:List a7)(x:ByteArray)(b:l.length<n)(a:l.length<1000000000):uY n [ay l,D.fn (.func ml) [] [.ref [aA x] 0]]=some (aD (cq l x).isSome):=by
 have aY:uY n [ay l,D.fn (.func ml) [] [.ref [aA x] 0]]=Dg n (ay l) (.ref [aA x] 0):=by simp only[uY,jg]
 rw[aY];simp only[Dg,go_sem,ahi n l x b a,vM]
def ahk(n:Nat)(d:a7)(x:ByteArray):Dj n [d.d,.ref [aA x] 0]=some (aD (decide (d.name=x))):=by show Di n d.d [aA x]=_;simp only[Di,go_sem,fW,a7.g5,a7.iH]
def ahl(n:Nat)(l:List a7)(x:ByteArray)(p:l.length<n)(o:l.length<1000000000):u2 n [ay l,D.fn (.func tQ) [] [.ref [aA x] 0]]=some (aa (dY (cq l x))):=by
 have m:(aa ((0:Nat):Int))=aa 0:=rfl;have ag:=cd (f:=y4 n) l (λi (_:Unit)=>[ay l,.ref [aA x] 0,aa l.length,aa (i:Int)]) (λr _=>match cq r x with|some j=>(Sum.inr (aa ((l.length-r.length+j:Nat):Int)):lZ⊕D)|none=> .inl []) (λ_ _=>True) ?_ ?_ n 0 () trivial oZ (xah _)
 .rw[m,xak,xbU]at ag;have aY:u2 n [ay l,D.fn (.func tQ) [] [.ref [aA x] 0]]=y5 n (ay l) (.ref [aA x] 0):=by
   simp only[u2,jg]
  rw[aY];cases g:cq l x with|none=>rw[g]at ag;simp only[y5,go_sem,ag,dY]|some j=>rw[g]at ag;simp only[xaw]at ag;simp only[y5,go_sem,ag,dY]
 .intro _ _;have:cq [] x=none:=rfl;simp only[y4,go_sem,yF ((l.length:Int)<l.length),this]
 intro i a _ d ag _;have b:=yT ((i:Int)<(l.length:Int));have c:cq (a::l.drop (i+1)) x=if decide (a.name=x)=true then some 0 else(cq (l.drop (i+1)) x).map (·+1):=findIdx_cons _ a _
 have e:l.length-(a::l.drop (i+1)).length=i:=uZ
 have k:l.length-(l.drop (i+1)).length=i+1:=uZ
 have ab:=ahk n a x;by_cases h:a.name=x;.right;rw[xap h]at ab c;rw[c,xac rfl,e];simp only[y4,go_sem,b,dM d,ab,xbv]
 left;rw[xaB h]at ab c;rw[c,xab sZ,e,k];refine⟨(),?_,?_,trivial⟩;.simp only[y4,go_sem,b,dM d,ab,bu i]
 cases cq (l.drop (i+1)) x with|none=>rfl|some j=>simp;omega
def ahm(n:Nat)(d:cp)(x:ByteArray):C0 n [d.d,.ref [aA x] 0]=some (aD (decide (d.name=x))):=by show CZ n d.d [aA x]=_;simp only[CZ,go_sem,fW,cp.g7,cp.iH]
def ahn(n:Nat)(l:List cp)(x:ByteArray)(p:l.length<n)(o:l.length<1000000000):uP n [bg l,D.fn (.func mm) [] [.ref [aA x] 0]]=some (aa (dY (j4 l x))):=by
 have m:(aa ((0:Nat):Int))=aa 0:=rfl;have ag:=cd (f:=yJ n) l (λi (_:Unit)=>[bg l,.ref [aA x] 0,aa l.length,aa (i:Int)]) (λr _=>match j4 r x with|some j=>(Sum.inr (aa ((l.length-r.length+j:Nat):Int)):lZ⊕D)|none=> .inl []) (λ_ _=>True) ?_ ?_ n 0 () trivial oZ (xah _)
 .rw[m,xak,xbU]at ag;have aY:uP n [bg l,D.fn (.func mm) [] [.ref [aA x] 0]]=yK n (bg l) (.ref [aA x] 0):=by
   simp only[uP,jg]
  rw[aY];cases g:j4 l x with|none=>rw[g]at ag;simp only[yK,go_sem,ag,dY]|some j=>rw[g]at ag;simp only[xaw]at ag;simp only[yK,go_sem,ag,dY]
 .intro _ _;have:j4 [] x=none:=rfl;simp only[yJ,go_sem,yF ((l.length:Int)<l.length),this]
 intro i a _ d ag _;have b:=yT ((i:Int)<(l.length:Int));have c:j4 (a::l.drop (i+1)) x=if decide (a.name=x)=true then some 0 else(j4 (l.drop (i+1)) x).map (·+1):=findIdx_cons _ a _
 have e:l.length-(a::l.drop (i+1)).length=i:=uZ
 have k:l.length-(l.drop (i+1)).length=i+1:=uZ
 have ab:=ahm n a x;by_cases h:a.name=x;.right;rw[xap h]at ab c;rw[c,xac rfl,e];simp only[yJ,go_sem,b,jo d,cp.ic,ab,xbv]
 left;rw[xaB h]at ab c;rw[c,xab sZ,e,k];refine⟨(),?_,?_,trivial⟩;.simp only[yJ,go_sem,b,jo d,cp.ic,ab,bu i]
 cases j4 (l.drop (i+1)) x with|none=>rfl|some j=>simp;omega
def aho(n:Nat)(l:List cp)(x:ByteArray)(b:l.length<n)(a:l.length<1000000000):uQ n [bg l,D.fn (.func mm) [] [.ref [aA x] 0]]=some (aD (j4 l x).isSome):=by
 have aY:uQ n [bg l,D.fn (.func mm) [] [.ref [aA x] 0]]=C1 n (bg l) (.ref [aA x] 0):=by simp only[uQ,jg]
 rw[aY];simp only[C1,go_sem,ahn n l x b a,vM]
structure nV(f:Tm->Tm):Prop where
 op:∀t,(f t).op=t.op
 num:∀t,(f t).num=t.num
 name:∀t,(f t).name=t.name
 aC:∀t,(f t).aC=t.aC.map f
theorem JR:nV hA:=⟨λt=>by rw[zH];rfl,λt=>by rw[zH];rfl,λt=>by rw[zH];rfl,λt=>by rw[zH];rfl⟩
theorem S1:nV ep:=⟨λt=>by rw[vE];rfl,λt=>by rw[vE];rfl,λt=>by rw[vE];rfl,λt=>by rw[vE];rfl⟩
def S2(vs:List V)(nx:Bool)(f:Tm->Tm):∀(ks:List Tm),(∀k∈ks,cJ vs nx (f k)=cJ vs nx k)->cT vs nx (ks.map f)=cT vs nx ks
 |[],_=>rfl|k::r,h=>by rw[xav,cT,cT,h k sZ,S2 vs nx f r λk a=>h k (by simp[a])]
def ahp{f:Tm->Tm}(a:nV f)(t:Tm)(l:List Y):eG (f t) l=eG t l:=by unfold eG;rw[a.op,a.aC,xag];cases b:t.aC[1]? with|none=>rfl|some k=>simp only[xaH,a.op,a.num]
def ahq{f:Tm->Tm}(a:nV f)(vs:List V)(nx:Bool)(t:Tm):cJ vs nx (f t)=cJ vs nx t:=by
 refine Tm.ind (P:=λt=>cJ vs nx (f t)=cJ vs nx t) ?_ t;intro t ih;have ai:hB vs nx (f t)=hB vs nx t:=by simp only[hB,a.op,a.num,a.name]
 rw[j3,j3 vs nx t,a.op,a.aC,ai,S2 vs nx f t.aC ih,ahp a]
def ahr{f:Tm->Tm}(a:nV f)(t:Tm):fy (f t)=fy t:=by simp only[fy,a.op,a.num,a.name,a.aC,xaT]
def S3(f:Tm->Tm):∀(ks:List Tm),(∀k∈ks,∀d n,ck (f k) d n=ck k d n)->∀d n,dy (ks.map f) d n=dy ks d n
 |[],_,_,_=>rfl|k::r,h,d,n=>by rw[xav,dy,dy,h k sZ,S3 f r λk a=>h k (by simp[a])]
def ahs{f:Tm->Tm}(a:nV f)(t:Tm):∀d n,ck (f t) d n=ck t d n:=by refine Tm.ind (P:=λt=>∀d n,ck (f t) d n=ck t d n) ?_ t;intro t ih d n;rw[o3,o3 t,ahr a,a.aC,S3 f t.aC ih]
def JS{f:Tm->Tm}(a:nV f)(vs:List V)(nx:Bool)(t:Tm):eZ vs nx (f t)=eZ vs nx t:=by unfold eZ;rw[ahs a,ahq a]
structure vN(l:List a7)(t:Tm)(p:Tm×Int):Prop where
 a:∀n,13301000000<n->kz n [t.d,ay l]=some (.az [(if p.2=0 then hA p.1 else T0).d,aa p.2])
 b:∀n,13301000000<n->ky n [t.d,ay l]=some (.az [(if p.2=0 then ep p.1 else T0).d,aa p.2])
 x:p.2=0->p.1.Ok/\p.1.aO<=660000/\(ck p.1 1 0).1=0/\(hA p.1).Ok/\(ep p.1).Ok/\∃h,hg l h t p.1
def S4{l:List a7}(ah:ft 660000 l)(j:l.length<=100)(t:Tm)(a:t.Ok)(c:t.aO<=660000):∃p,vN l t p:=by
 by_cases ak:(ck t 1 0).1=0
 case neg=>exact⟨(T0,(ck t 1 0).1),λn b=>by rw[xab ak];exact(Jt ah n t a c oZ).1 ak,λn b=>by rw[xab ak];exact(Ju ah n t a c oZ).1 ak,λh=>absurd h ak⟩
 cases g:mB l t with
 |false=>exact⟨(T0,14),λn b=>(Jt ah n t a c oZ).2.1 ak g,λn b=>(Ju ah n t a c oZ).2.1 ak g,λh=>by cases h⟩
 |true=>
  obtain⟨X,e⟩:=afz ah c ((afH l t).1 g);have hH:(l.length+1)*(660000+1)+660000<=70000000:=oZ
  generalize (l.length+1)*(660000+1)+660000=aY at*;have A:∀n,13301000000<n->_:=λn b=>(Jt ah n t a c oZ).2.2 _ X ak g e oZ;have B:∀n,13301000000<n->_:=λn b=>(Ju ah n t a c oZ).2.2 _ X ak g e oZ;obtain⟨c1,c2⟩:=Jo X 1 0 oZ;rw[c1]at A;by_cases ai:(ck X 1 0).1=0
  case neg=>simp only[ai,xaF]at A B;exact⟨(T0,(ck X 1 0).1),λn b=>by rw[xab ai];exact A n b,λn b=>by rw[xab ai];exact B n b,λh=>absurd h ai⟩
  simp only[ai,xaE]at A B;have i:=RV X 1 0 oZ ai;have f:=e.ok ah a c;have m:=afM X 1 0 ai;have k:=(vr X 1 0).2 ai;have d:=(RT ah e a c).1;rw[i]at A d;exact⟨(X,0),A,B,λ_=>⟨f.1,by simp only;omega,ai,d,agj X f.1,aY,e⟩⟩
open Classical in
noncomputable def cD(l:List a7)(t:Tm):Tm×Int:=if h:∃p,vN l t p then Classical.choose h else(T0,0)
def S5{l:List a7}{t:Tm}(h:∃p,vN l t p):vN l t (cD l t):=by unfold cD;rw[dif_pos h];exact Classical.choose_spec h
noncomputable def eN(m:bA)(nx:Bool)(t:Tm):Y×Int:=if(cD m.ao t).2≠0 then(dz,(cD m.ao t).2)else eZ m.vars nx (cD m.ao t).1
noncomputable def kG(m:bA)(nx:Bool)(t:Tm):Int:=if((eN m nx t).2==0&&!(eN m nx t).1.b)=true then 13 else(eN m nx t).2
structure vO(m:bA):Prop where
 d:ft 660000 m.ao
 dl:m.ao.length<=100
 eg:m.vars.length<=100
def vO.JT{m:bA}(h:vO m){t:Tm}(a:t.Ok)(b:t.aO<=660000):vN m.ao t (cD m.ao t):=S5 (S4 h.d h.dl t a b)
theorem S6:D.agg [aD false,aa 0,aa 0]=dz.d:=rfl
theorem nW(y:Y):ae y.d 0=aD y.b:=rfl
theorem S7(y:Y):ae y.d 1=aa y.lo:=rfl
theorem S8(y:Y):ae y.d 2=aa y.ag:=rfl
theorem aht(y:Y):cw 3 y.d=true:=rfl
attribute [go_sem] aht
theorem S9(y:Y):D.agg [aD y.b,aa y.lo,aa y.ag]=y.d:=rfl
section
variable{m:bA}(hm:vO m)(n:Nat)(bw:13301000000<n)
include hm bw
theorem JU{t:Tm}(c:t.Ok)(h:t.aO<=660000)(nx:Bool):r3 n [m.d,t.d,aD nx]=some (.az [(eN m nx t).1.d,aa (eN m nx t).2]):=by
 have f:=hm.JT c h;have i:=hm.eg;unfold eN;generalize cD m.ao t=p at*;have b:=f.a n bw;by_cases ak:p.2=0
 .obtain⟨x1,df,k,j,l,_⟩:=f.x ak;have e:(p.2 !=0)=false:=by simp[ak]
  rw[xac ak]at b;have g:=Sd n m.vars (hA p.1) nx (by rw[Jv];omega) j oZ;rw[JS JR]at g;rw[xab (by simpa using ak)];simp only[r3,ID,go_sem,b,e,g,nW,S7,S8,S9]
 have e:(p.2 !=0)=true:=by simpa using ak
 rw[xab ak]at b;rw[xac ak];simp only[r3,ID,go_sem,b,e,S6]
theorem JV{t:Tm}(c:t.Ok)(h:t.aO<=660000)(nx:Bool):rQ n [m.d,t.d,aD nx]=some (.az [(eN m nx t).1.d,aa (eN m nx t).2]):=by
 have f:=hm.JT c h;have i:=hm.eg;unfold eN;generalize cD m.ao t=p at*;have a:=f.b n bw;by_cases ak:p.2=0
 .obtain⟨x1,df,k,l,j,_⟩:=f.x ak;have e:(p.2 !=0)=false:=by simp[ak]
  rw[xac ak]at a;have g:=Se n m.vars (ep p.1) nx (by rw[Ej];omega) j oZ;rw[JS S1]at g;rw[xab (by simpa using ak)];simp only[rQ,Ie,go_sem,a,e,g,nW,S7,S8,S9]
 have e:(p.2 !=0)=true:=by simpa using ak
 rw[xab ak]at a;rw[xac ak];simp only[rQ,Ie,go_sem,a,e,S6]
theorem Ta{t:Tm}(a:t.Ok)(f:t.aO<=660000)(nx:Bool):uV n [m.d,t.d,aD nx]=some (aa (kG m nx t)):=by
 have c:=JU hm n bw a f nx;unfold kG;by_cases h:((eN m nx t).2==0&&!(eN m nx t).1.b)=true;.rw[xac h];simp only[uV,IE,go_sem,c,nW,h]
 have e:((eN m nx t).2==0&&!(eN m nx t).1.b)=false:=by simpa using h
 rw[xab h];simp only[uV,IE,go_sem,c,nW,e]
theorem Tb{t:Tm}(a:t.Ok)(f:t.aO<=660000)(nx:Bool):uv n [m.d,t.d,aD nx]=some (aa (kG m nx t)):=by
 have c:=JV hm n bw a f nx;unfold kG;by_cases h:((eN m nx t).2==0&&!(eN m nx t).1.b)=true;.rw[xac h];simp only[uv,Ig,go_sem,c,nW,h]
 have e:((eN m nx t).2==0&&!(eN m nx t).1.b)=false:=by simpa using h
 rw[xab h];simp only[uv,Ig,go_sem,c,nW,e]
end
def pe(N:Nat)(S:lX):mW:=(List.range N).map λj=>[aD (decide (j∈S))]
def hi(N:Nat)(S:lX):D:= .aw 1 (pe N S)
def zS(N:Nat)(S:lX):(pe N S).length=N:=by simp[pe]
def zT{N:Nat}{S:lX}{k:Nat}(h:k<N):(pe N S)[k]?=some [aD (decide (k∈S))]:=by simp[pe,h]
def Tc(N:Nat):List.replicate N [aD false]=pe N []:=by
 apply xbJ;intro j;by_cases h:j<N;.rw[zT h];simp[h]
 rw[xaG uZ,xaG (by rw[zS];omega)]
def ahu{N:Nat}{S:lX}{k:Nat}(h:k<N):(pe N S).set k [aD true]=pe N (S++[k]):=by
 apply xbJ;intro j;by_cases a:j<N
 .rw[zT a,List.getElem?_set];by_cases e:k=j;.subst e;simp[zS,h]
  rw[xab e,zT a];have:(j∈S++[k])↔j∈S:=uZ
  simp only[this]
 rw[xaG (by simp[zS];omega),xaG (by rw[zS];omega)]
def fB(S:lX)(ks:lX):lX:=ks.foldl (λS k=>if k∈S then S else S++[k]) S
theorem zU(S:lX)(k:Nat)(r:lX):fB S (k::r)=fB (if k∈S then S else S++[k]) r:=rfl
structure ahv(N:Nat)(S ks R:lX):Prop where
 inv:fZ N R
 pre:∃T,R=S++T
 mem:∀k∈ks,k∈R
 of:∀x∈R,x∈S\/x∈ks
def Ez{N:Nat}:∀(ks S:lX),fZ N S->(∀k∈ks,k<N)->ahv N S ks (fB S ks)
 |[],S,h,_=>⟨h,⟨[],by simp[fB]⟩,by simp,λx a=> .inl a⟩
 |k::r,S,h,d=>by
  rw[zU];by_cases b:k∈S
  .rw[xac b];have g:=Ez r S h λx a=>d x (by simp[a]);obtain⟨T,c⟩:=g.pre;refine⟨g.inv,g.pre,λx a=>?_,λx a=>(g.of x a).elim .inl λh=> .inr (by simp[h])⟩;rcases xan.1 a with rfl|a
   .rw[c];simp[b]
   exact g.mem x a
  rw[xab b];have g:=Ez r (S++[k]) (h.snoc (d k sZ) b) λx a=>d x (by simp[a]);obtain⟨T,c⟩:=g.pre;refine⟨g.inv,⟨[k]++T,by rw[c];simp⟩,λx a=>?_,λx a=>?_⟩
  .rcases xan.1 a with rfl|a;.rw[c];simp
   exact g.mem x a
  rcases g.of x a with h|h
  .rcases xar.1 h with h|h;.exact .inl h
   simp at h;subst h;exact .inr sZ
  exact .inr (by simp[h])
def pf(to:Nat->lX)(i:Nat):Nat->Nat->lX->lX
 |0,_,S=>S|m+1,k,S=>match(i::S)[k]? with|some x=>pf to i m (k+1) (fB S (to x))|none=>S
structure lF(to:Nat->lX)(N i k:Nat)(S:lX):Prop where
 inv:fZ N S
 le:k<=S.length+1
 o5:∀j x,j<k->(i::S)[j]?=some x->∀y∈to x,y∈S
 mA:∀x∈S,∃j∈to i,hf to j x
def hf.snoc{to:Nat->lX}{i j k:Nat}(h:hf to i j)(a:k∈to j):hf to i k:=h.trans (.step j k k a (.refl k))
def lF.next{to:Nat->lX}{N i k:Nat}{S:lX}(h:lF to N i k S)(m:∀i,∀k∈to i,k<N){x:Nat}(d:(i::S)[k]?=some x):lF to N i (k+1) (fB S (to x)):=by
 have g:=Ez (to x) S h.inv (m x);obtain⟨T,f⟩:=g.pre;have q:k<S.length+1:=by have:=(lV.1 d).1;simpa using this
 have a:∀j y,j<=k->(i::fB S (to x))[j]?=some y->(i::S)[j]?=some y:=by intro j y l c;rw[f,<-xbD,xao uZ]at c;exact c
 refine⟨g.inv,by rw[f];simp;omega,?_,?_⟩
 .intro j y l c z o;have b:=a j y oZ c;by_cases e:j=k
  .subst e;rw[d]at b;cases b;exact g.mem z o
  have:=h.o5 j y oZ b z o;rw[f];simp[this]
 intro y c;rcases g.of y c with ab|ab
 .exact h.mA y ab
 cases k with|zero=>simp at d;subst d;exact⟨y,ab,.refl y⟩|succ k=>have n:x∈S:=xad (by simpa using d);obtain⟨j,l,p⟩:=h.mA x n;exact⟨j,l,p.snoc ab⟩
def JW{to:Nat->lX}{N i:Nat}(c:∀i,∀k∈to i,k<N):∀(m k:Nat)(S:lX),lF to N i k S->N+1-k<m->(i∈pf to i m k S↔∃j∈to i,hf to j i)
 |0,_,_,_,h=>absurd h (xaI _)
 |m+1,k,S,h,hm=>by
  rw[pf];have l:=h.inv.len;cases g:(i::S)[k]? with
  |some x=>
   have o:k<S.length+1:=by have:=(lV.1 g).1;simpa using this
   exact JW c m (k+1) _ (h.next c g) oZ
  |none=>
   have o:S.length+1<=k:=by have:=xcj.1 g;simpa using this
   refine⟨λag=>h.mA i ag,?_⟩;have e:∀a b,hf to a b->a∈S->b∈S:=by
    intro a b eb
    induction eb with|refl=>exact λh=>h|step p q r f _ ih=>intro s;obtain⟨j,d⟩:=xaJ.1 s;have n:=(lV.1 d).1;exact ih (h.o5 (j+1) p oZ (by simpa using d) q f)
   rintro⟨j,d,t⟩;exact e j i t (h.o5 0 i oZ sZ j d)
def lF.start(to:Nat->lX)(N i:Nat):lF to N i 0 []:=⟨⟨by simp,by simp⟩,by simp,by intro j x h;omega,by simp⟩
theorem mD(x:lX):D.aw 1 (aF (cg x))=cg x:=rfl
def zV(x:lX):(aF (cg x)).length=x.length:=by simp[cg]
def Td(x:lX)(k:Nat):D.aw 1 (aF (cg x)++[[aa (k:Int)]])=cg (x++[k]):=by simp[cg]
def Te{x:lX}{j k:Nat}(h:x[j]?=some k):(aF (cg x))[j]?=some [aa (k:Int)]:=by simp[cg,h]
theorem Tf(N:Nat)(x:lX):D.aw 1 (aF (hi N x))=hi N x:=rfl
attribute [go_sem] Tf
def zW(N:Nat)(x:lX):(aF (hi N x)).length=N:=zS N x
def zX{N:Nat}{S:lX}{k:Nat}(h:k<N):(aF (hi N S))[k]?=some [aD (decide (k∈S))]:=zT h
theorem Tg{N:Nat}{S:lX}{k:Nat}(h:k<N){w:Bool}:D.aw 1 ((aF (hi N S)).set k (er [aD w] 0 [aD true]))=hi N (S++[k]):=by show D.aw 1 ((pe N S).set k [aD true])=_;rw[ahu h];rfl
theorem sx(b:Bool):aN false 1 0 [aD b]=some (aD b):=rfl
theorem vP(i:Int):aN false 1 0 [aa i]=some (aa i):=rfl
theorem vQ(s:ByteArray):aN false 1 0 [aA s]=some (aA s):=rfl
theorem EA{p:oX}:cu (aD true) true p=p:=rfl
theorem Th{p:oX}:cu (aD false) true p=some gn:=rfl
theorem EB{a b:D}:dQ (aD true) a b=some a:=rfl
theorem Ti{a b:D}:dQ (aD false) a b=some b:=rfl
def Tj{l:List a7}{x:ByteArray}{k:Nat}(h:cq l x=some k):k<l.length:=by obtain⟨_,_,_,h⟩:=HH h;exact h
def ahw(n:Nat)(l:List a7){B:Nat}(ah:ft B l)(i k:Nat)(c:List ByteArray)(S:lX)(z:fZ l.length S)(A:k<=S.length+1)(E:c.length<=B)(H:2*B+100<n):aS (r4 n) n [ay l,aa (i:Int),cx c,aa c.length,aa 0,hi l.length S,cg ((i::S).drop k)]=some (.inl [ay l,aa (i:Int),hi l.length (fB S (c.filterMap (cq l))),cg ((i::fB S (c.filterMap (cq l))).drop k)]):=by
 have u:=ah.len;have F:=ah.b;have ag:=cd (f:=r4 n) c (λj (s:lX)=>[ay l,aa (i:Int),cx c,aa c.length,aa (j:Int),hi l.length s,cg ((i::s).drop k)]) (λr s=>(.inl [ay l,aa (i:Int),hi l.length (fB s (r.filterMap (cq l))),cg ((i::fB s (r.filterMap (cq l))).drop k)]:lZ⊕(lZ⊕(lZ⊕(lZ⊕D))))) (λj s=>fZ l.length s/\k<=s.length+1) (λs _=>by simp only[r4,go_sem,yF ((c.length:Int)<c.length),mD];rfl) ?_ n 0 S ⟨z,A⟩ oZ (xah _)
 .exact ag
 rintro j x s t G ⟨ab,ad⟩;have h:=ahl n l x oZ oZ;have C:=ab.len;have e:=yT ((j:Int)<(c.length:Int));left;cases g:cq l x with
 |none=>rw[g]at h;refine⟨s,?_,by simp[g],ab,ad⟩;have d:decide (dY none>=0)=false:=rfl;simp only[r4,go_sem,e,zF t,vQ,h,d,Th,Ti,mD,bu j]
 |some y=>
  have p:=Tj g;rw[g]at h;have d:decide ((y:Int)>=0)=true:=xap oZ;have o:cS l.length (aa (y:Int))=some y:=by rw[jW,xac p]
  have m:dY (some y)=(y:Int):=rfl;by_cases a:y∈s;.refine⟨s,?_,by simp[g,zU,a],ab,ad⟩;simp only[r4,go_sem,e,zF t,vQ,h,m,d,zW,o,zX p,sx,xap a,EA,EB,mD,bu j]
  have ai:=ab.snoc p a;refine⟨s++[y],?_,by simp only[xbX,g,zU,xab a],ai,by simp;omega⟩;have w:(i::(s++[y])).drop k=(i::s).drop k++[y]:=by rw[<-xbD,List.drop_append_of_le_length (by simpa using ad)]
  have q:bZ (((i::s).drop k).length+1) 8=true:=rz uZ uZ;rw[w];simp only[r4,go_sem,e,zF t,vQ,h,m,d,zW,o,zX p,sx,xaB a,EA,EB,zV,xal,xaA,xaw,q,Tg p,Td,mD,bu j]
def Tk(n:Nat)(l:List a7){B:Nat}(ah:ft B l)(i:Nat)(y:i<l.length)(P:4*B+200<n):∀(m k:Nat)(S:lX),lF (to l) l.length i k S->l.length+1-k<m->aS (Dk n) m [ay l,aa (i:Int),hi l.length S,cg ((i::S).drop k)]=some (.inl [aa (i:Int),hi l.length (pf (to l) i m k S)])
 |0,_,_,_,h=>absurd h (xaI _)
 |m+1,k,S,h,hm=>by
  have G:=ah.len;have U:=ah.b;rw[hJ,pf];have M:=h.inv.len;have z:=h.le;cases c:(i::S)[k]? with
  |none=>
   have p:S.length+1<=k:=by have:=xcj.1 c;simpa using this
   have H:(i::S).drop k=[]:=xcv (by simpa using p);rw[H];have I:(aF (cg [])).length=0:=rfl;have J:decide (((0:Nat):Int)>0)=false:=rfl;simp only[Dk,go_sem,I,J]
  |some x=>
   have p:k<S.length+1:=by have:=(lV.1 c).1;simpa using this
   have E:x<l.length:=by cases k with|zero=>simp at c;omega|succ k=>exact h.inv.2 x (xad (by simpa using c))
   obtain⟨d,s⟩:∃d,l[x]?=some d:=⟨l[x],xaa E⟩;have t:=ah.e d (xad s);have j:=h.next (λi k p=>hW i k p) c
   have ih:=Tk n l ah i y P m (k+1) _ j oZ;have L:=D6 n d.e oZ t.1 oZ;have Q:=vt d.e;have F:=ahw n l ah i k (dX 3 d.e []) S h.inv z oZ oZ;have C:(dX 3 d.e []).filterMap (cq l)=to l x:=by rw[vu s];rfl
   rw[C]at F;obtain⟨T,R⟩:=(Ez (N:=l.length) (to l x) S h.inv (hW x)).pre;have o:((i::fB S (to l x)).drop k).length=(fB S (to l x)).length+1-k:=sZ
   have O:=j.le;have a:((i::S).drop k).length=S.length+1-k:=sZ
   have w:decide (((((i::S).drop k).length:Nat):Int)>0)=true:=xap (by rw[a];omega);have u:((i::S).drop k)[0]?=some x:=by rw[xaV];exact c
   have A:cS ((i::S).drop k).length (aa 0)=some 0:=by have:(aa 0)=aa ((0:Nat):Int):=rfl;rw[this,jW,xac (by rw[a];omega)]
   have f:h5 ((i::fB S (to l x)).drop k).length (some (aa 1)) none=some (1,((i::fB S (to l x)).drop k).length-1):=by
    have ab:1<=((i::fB S (to l x)).drop k).length:=by rw[o];omega
    generalize ((i::fB S (to l x)).drop k).length=q at*;have:(aa 1)=aa ((1:Nat):Int):=rfl;rw[this];simp[h5,ld,aa,ab]
   have g:decide (1+(((i::fB S (to l x)).drop k).length-1)<=((i::fB S (to l x)).drop k).length)=true:=xap (by rw[o];omega);have r:D.aw 1 (((aF (cg ((i::fB S (to l x)).drop k))).drop 1).take (((i::fB S (to l x)).drop k).length-1))=cg ((i::fB S (to l x)).drop (k+1)):=by
    have K:((((i::fB S (to l x)).drop k).drop 1).take (((i::fB S (to l x)).drop k).length-1))=(i::fB S (to l x)).drop (k+1):=by rw[List.drop_drop,xbz];simp;omega
    show D.aw 1 (((((i::fB S (to l x)).drop k).map λ(i:Nat)=>[aa (i:Int)]).drop 1).take _)=cg _;rw[<-K];unfold cg;simp only[List.map_take,List.map_drop]
   simp only[Dk,go_sem,zV,w,A,Te u,vP,dM s,L,zG,mD,F,f,g,r,ih]
def ahx(n:Nat)(m:bA){l:List a7}{B:Nat}(ah:ft B l)(i:Nat)(ag:i<l.length)(p:4*B+200<n):u3 n [ay l,m.d,aa (i:Int)]=some (aa (if gu l i=true then 14 else 0)):=by
 have f:=ah.len;have q:=ah.b;have ai:=Tk n l ah i ag p n 0 [] (lF.start _ _ _) oZ;have a:=JW (λi k o=>hW i k o) n 0 [] (lF.start (to l) l.length i) oZ;rw[<-Jj l i]at a;generalize pf (to l) i n 0 []=S at*;have c:fm 1 (aa (l.length:Int)) (aa (l.length:Int))=some l.length:=by simp[fm,aa];omega
 have g:D.aw 1 (List.replicate l.length [aD false])=hi l.length []:=by rw[Tc];rfl
 have j:D.aw 1 [[aa (i:Int)]]=cg ((i::[]).drop 0):=rfl;have e:cS l.length (aa (i:Int))=some i:=oE ag;simp only[u3,PC,go_sem,c,g,j,ai,zW,e,zX ag,sx];by_cases h:gu l i=true
 .rw[xac h,xac (xap (a.2 h))]
 rw[xab h,xab (by simpa usingλaY=>h (a.1 aY))]
def Tl(n:Nat)(m:bA)(x:ByteArray)(l:m.ao.length<n)(ah:m.ao.length<1000000000):xS n [m.d,aA x]=some (aa (dY (cq m.ao x))):=by
 have ag:=cd (f:=xR n) m.ao (λi (_:Unit)=>[aA x,aa (i:Int),aM m.vars,ay m.ao,al m.bb,al m.bc,ay m.next,al m.trans,al m.a1,bg m.a6]) (λr _=>match cq r x with|some j=>(Sum.inr (aa ((m.ao.length-r.length+j:Nat):Int)):lZ⊕D)|none=> .inl []) (λ_ _=>True) (λ_ _=>by simp[xR,nu,cq]) ?_ n 0 () trivial oZ (xah _);.have k:(aa ((0:Nat):Int))=aa 0:=rfl;rw[k]at ag;simp only[xS,OR,go_sem,ag,xak];cases cq m.ao x<;>simp[dY]
 intro i a _ g ag _;have e:m.ao.length-(a::m.ao.drop (i+1)).length=i:=uZ
 have h:m.ao.length-(m.ao.drop (i+1)).length=i+1:=uZ
 have c:cq (a::m.ao.drop (i+1)) x=if a.name=x then some 0 else(cq (m.ao.drop (i+1)) x).map (·+1):=by simp[cq,xbY]
 have a0:a.cells[0]?=some (aA a.name):=rfl;by_cases b:a.name=x;.right;rw[c,xac b,e];simp[xR,nu,ag,dM g,a0,b]
 left;refine⟨(),by simp[xR,nu,ag,dM g,a0,b,bu i],?_,trivial⟩;rw[c,xab b,e,h];cases cq (m.ao.drop (i+1)) x with|none=>rfl|some j=>simp;omega
def Tn(n:Nat)(m:bA)(x:ByteArray)(l:m.vars.length<n)(ah:m.vars.length<1000000000):xQ n [m.d,aA x]=some (aa (dY (cX m.vars x))):=by
 have ag:=cd (f:=xP n) m.vars (λi (_:Unit)=>[aA x,aa (i:Int),aM m.vars,ay m.ao,al m.bb,al m.bc,ay m.next,al m.trans,al m.a1,bg m.a6]) (λr _=>match cX r x with|some j=>(Sum.inr (aa ((m.vars.length-r.length+j:Nat):Int)):lZ⊕D)|none=> .inl []) (λ_ _=>True) (λ_ _=>by simp[xP,jn,cX]) ?_ n 0 () trivial oZ (xah _);.have k:(aa ((0:Nat):Int))=aa 0:=rfl;rw[k]at ag;simp only[xQ,OQ,go_sem,ag,xak];cases cX m.vars x<;>simp[dY]
 intro i a _ g ag _;have e:m.vars.length-(a::m.vars.drop (i+1)).length=i:=uZ
 have h:m.vars.length-(m.vars.drop (i+1)).length=i+1:=uZ
 have c:cX (a::m.vars.drop (i+1)) x=if a.name=x then some 0 else(cX (m.vars.drop (i+1)) x).map (·+1):=by simp[cX,xbY]
 have a0:a.cells[0]?=some (aA a.name):=rfl;by_cases b:a.name=x;.right;rw[c,xac b,e];simp[xP,jn,ag,eH g,a0,b]
 left;refine⟨(),by simp[xP,jn,ag,eH g,a0,b,bu i],?_,trivial⟩;rw[c,xab b,e,h];cases cX (m.vars.drop (i+1)) x with|none=>rfl|some j=>simp;omega
def ahy(n:Nat)(m:bA){B:Nat}(ah:ft B m.ao)(i:Nat)(k:Int)(d:List ByteArray)(S:lX)(z:fZ m.ao.length S)(E:d.length<=B)(H:2*B+100<n):aS (rO n) n [aa k,hd true d,aa 0,aM m.vars,ay m.ao,al m.bb,al m.bc,ay m.next,al m.trans,al m.a1,bg m.a6,hi m.ao.length S,cg (i::S)]=some (.inl [aa k,aM m.vars,ay m.ao,al m.bb,al m.bc,ay m.next,al m.trans,al m.a1,bg m.a6,hi m.ao.length (fB S (d.filterMap (cq m.ao))),cg (i::fB S (d.filterMap (cq m.ao)))]):=by
 have u:=ah.len;have F:=ah.b;have ag:=cd (f:=rO n) d (λj (s:lX)=>[aa k,hd true d,aa (j:Int),aM m.vars,ay m.ao,al m.bb,al m.bc,ay m.next,al m.trans,al m.a1,bg m.a6,hi m.ao.length s,cg (i::s)]) (λr s=>(.inl [aa k,aM m.vars,ay m.ao,al m.bb,al m.bc,ay m.next,al m.trans,al m.a1,bg m.a6,hi m.ao.length (fB s (r.filterMap (cq m.ao))),cg (i::fB s (r.filterMap (cq m.ao)))]:lZ⊕(lZ⊕(lZ⊕(lZ⊕D))))) (λj s=>fZ m.ao.length s) (λs _=>by simp only[rO,go_sem,j0,yF ((d.length:Int)<d.length),mD];rfl) ?_ n 0 S z oZ (xah _)
 .exact ag
 rintro j x s C G ab;have l:=Tl n m x oZ oZ;have A:=ab.len;have g:=sl (nl:=true) C;have e:=yT ((j:Int)<(d.length:Int));left;cases h:cq m.ao x with
 |none=>rw[h]at l;refine⟨s,?_,by simp[h],ab⟩;have c:decide (dY none>=0)=false:=rfl;simp only[rO,go_sem,j0,e,g,vQ,l,c,Th,Ti,mD,bu j]
 |some y=>
  have t:=Tj h;rw[h]at l;have c:decide ((y:Int)>=0)=true:=xap oZ;have p:cS m.ao.length (aa (y:Int))=some y:=by rw[jW,xac t]
  have o:dY (some y)=(y:Int):=rfl;by_cases a:y∈s;.refine⟨s,?_,by simp[h,zU,a],ab⟩;simp only[rO,go_sem,j0,e,g,vQ,l,o,c,zW,p,zX t,sx,xap a,EA,EB,mD,bu j]
  have ai:=ab.snoc t a;refine⟨s++[y],?_,by simp only[xbX,h,zU,xab a],ai⟩;have w:i::(s++[y])=(i::s)++[y]:=rfl;have q:bZ ((i::s).length+1) 8=true:=rz uZ uZ;rw[w];simp only[rO,go_sem,j0,e,g,vQ,l,o,c,zW,p,zX t,sx,xaB a,EA,EB,zV,xal,xaA,xaw,Tg t,Td,mD]at q⊢;simp only[q,ln,cG,lp,lq,ma,gq,iN,gQ,fb,fq,u8,gP,hy,fg,bu j,Tf,mD]
def To(n:Nat)(a:bA){B:Nat}(ah:ft B a.ao)(i:Nat)(o:i<a.ao.length)(D:4*B+200<n):∀(m k:Nat)(S:lX),lF (to a.ao) a.ao.length i k S->a.ao.length+1-k<m->aS (Cz n) m [aa (k:Int),aM a.vars,ay a.ao,al a.bb,al a.bc,ay a.next,al a.trans,al a.a1,bg a.a6,hi a.ao.length S,cg (i::S)]=some (.inl [hi a.ao.length (pf (to a.ao) i m k S)])
 |0,_,_,_,h=>absurd h (xaI _)
 |m+1,k,S,h,hm=>by
  have u:=ah.len;have F:=ah.b;rw[hJ,pf];have z:=h.inv.len;have C:=h.le;cases c:(i::S)[k]? with
  |none=>
   have f:S.length+1<=k:=by have:=xcj.1 c;simpa using this
   have w:decide ((k:Int)<(((i::S).length:Nat):Int))=false:=xaB uZ;simp only[Cz,go_sem,zV,w]
  |some x=>
   have f:k<S.length+1:=by have:=(lV.1 c).1;simpa using this
   have s:x<a.ao.length:=by cases k with|zero=>simp at c;omega|succ k=>exact h.inv.2 x (xad (by simpa using c))
   obtain⟨d,g⟩:∃d,a.ao[x]?=some d:=⟨a.ao[x],xaa s⟩;have j:=ah.e d (xad g);have q:=h.next (λi k f=>hW i k f) c
   have ih:=To n a ah i o D m (k+1) _ q oZ;have y:=Jf n d.e oZ j.1 oZ;have E:=vt d.e;have t:=ahy n a ah i k (dX 3 d.e []) S h.inv oZ oZ;have r:(dX 3 d.e []).filterMap (cq a.ao)=to a.ao x:=by rw[vu g];rfl
   rw[r]at t;have l:decide ((k:Int)<(((i::S).length:Nat):Int))=true:=xap uZ;have p:cS (i::S).length (aa (k:Int))=some k:=by rw[jW,xac (by simpa using f)]
   have A:((k:Int)+1)=((k+1:Nat):Int):=oZ
   simp only[Cz,go_sem,zV,l,p,Te c,vP,dM g,y,mD,t,bu k,ih]
def ahz(n:Nat)(m:bA){B:Nat}(ah:ft B m.ao)(i:Nat)(ag:i<m.ao.length)(l:4*B+200<n):∃S,CA n [m.d,aa (i:Int)]=some (hi m.ao.length S)/\(i∈S↔gu m.ao i=true):=by
 have e:=ah.len;have o:=ah.b;have ai:=To n m ah i ag l n 0 [] (lF.start _ _ _) oZ;have a:=JW (λi k j=>hW i k j) n 0 [] (lF.start (to m.ao) m.ao.length i) oZ;rw[<-Jj m.ao i]at a;generalize pf (to m.ao) i n 0 []=S at*;refine⟨S,?_,a⟩;have c:fm 1 (aa (m.ao.length:Int)) (aa (m.ao.length:Int))=some m.ao.length:=by simp[fm,aa];omega
 have g:D.aw 1 (List.replicate m.ao.length [aD false])=hi m.ao.length []:=by rw[Tc];rfl
 have h:D.aw 1 [[aa (i:Int)]]=cg (i::[]):=rfl;have f:(aa ((0:Nat):Int))=aa 0:=rfl;rw[f]at ai;simp only[CA,OU,go_sem,c,g,h,ai]
def bL(e:Nat->Int):Nat->Nat->Int×Int
 |0,_=>(0,0)|m+1,i=>if e i=0 then bL e m (i+1)else((i:Int),e i)
def zY(e:Nat->Int):∀(m i:Nat),(bL e m i).2=0↔∀j,i<=j->j<i+m->e j=0
 |0,i=>by simp[bL];intro j ab ad;omega
 |m+1,i=>by
  rw[bL];by_cases h:e i=0
  .rw[xac h,zY e m (i+1)];constructor
   .intro ab j ad ai;by_cases a:j=i;.subst a;exact h
    exact ab j oZ oZ
   intro ab j ad ai;exact ab j oZ oZ
  rw[xab h];exact⟨λab=>absurd ab h,λab=>absurd (ab i (xaQ _) oZ) h⟩
def mE(e:Nat->Int)(m i:Nat)(h:(bL e m i).2=0):bL e m i=(0,0):=by
 induction m generalizing i with
 |zero=>rfl
 |succ m ih=>
  rw[bL]at h⊢;by_cases ak:e i=0;.rw[xac ak]at h⊢;exact ih (i+1) h
  rw[xab ak]at h;exact absurd h ak
def jr{b:Type}{f:lZ->Option (lZ⊕(lZ⊕b))}(I:Nat->lZ)(e:Nat->Int)(N:Nat)(L:lZ)(W:Int×Int->b) (aj:∀i,i<N->f (I i)=some (if e i=0 then .inl (I (i+1))else .inr (.inr (W ((i:Int),e i))))) (a:f (I N)=some (.inr (.inl L))): ∀(m i n:Nat),i+m=N->m<n->aS f n (I i)=some (if(bL e m i).2=0 then .inl L else .inr (W (bL e m i)))
 |0,i,n,h,c=>by
  obtain⟨k,rfl⟩:∃k,n=k+1:=⟨n-1,by omega⟩;have:i=N:=oZ
  subst this;rw[hJ,a];rfl
 |m+1,i,n,h,c=>by
  obtain⟨k,rfl⟩:∃k,n=k+1:=⟨n-1,by omega⟩;rw[hJ,aj i oZ,bL];by_cases ak:e i=0;.rw[xac ak,xac ak];exact jr I e N L W aj a m (i+1) k oZ oZ
  rw[xab ak,xab ak];simp only[cG,xab ak]
structure EC(m:bA)(n:Nat):Prop where
 aO:vO m
 gv:13302000000<n
 hj:gT m.vars
 zD:∀v∈m.vars,v.name.size+24<n
 Tp:∀d∈m.ao,d.name.size+24<n/\d.name.size<=9223372036854775807
 bb:m.bb.length<=100/\∀t∈m.bb,t.Ok/\t.aO<=660000
 bc:m.bc.length<=100/\∀t∈m.bc,t.Ok/\t.aO<=660000
 next:m.next.length<=100/\∀d∈m.next,d.e.Ok/\d.e.aO<=660000
 trans:m.trans.length<=100/\∀t∈m.trans,t.Ok/\t.aO<=660000
 a1:m.a1.length<=100/\∀t∈m.a1,t.Ok/\t.aO<=660000
 a6:m.a6.length<=100/\∀s∈m.a6,(s.f.Ok/\s.f.aO<=660000)/\s.name.size+24<n/\s.name.size<=9223372036854775807
noncomputable section
mutual
def im(m:bA):Fm->Int
 | .mk o t b ks=>if o=1 then kG m false t else js m ks
def js(m:bA):List Fm->Int
 |[]=>0|k::r=>if im m k=0 then js m r else im m k
end
theorem JX(m:bA)(f:Fm):im m f=if f.op=1 then kG m false f.e else js m f.aC:=by cases f;rw[im];rfl
def iq(m:bA)(i:Nat):Int:=match m.ao[i]? with
 |some d=>if isName d.name=true then(if((cX m.vars d.name).isSome||(cq (m.ao.take i) d.name).isSome)=true then 6 else 0)else 12
 |none=>0
def iQ(m:bA)(i:Nat):Int:=if gu m.ao i=true then 14 else 0
def ir(m:bA)(i:Nat):Int:=match m.ao[i]? with|some d=>(eN m false d.e).2|none=>0
def dv(m:bA)(l:List Tm)(nx:Bool)(i:Nat):Int:=match l[i]? with|some t=>kG m nx t|none=>0
def gE(m:bA)(i:Nat):Int:=match m.next[i]? with
 |some d=>match cX m.vars d.name with|none=>12|some k=>if(cq (m.next.take i) d.name).isSome=true then 6 else if((eN m false d.e).2==0&&((eN m false d.e).1.b !=(m.vars[k]?.map V.bool).getD false))=true then 13 else(eN m false d.e).2
 |none=>0
def gF(m:bA)(i:Nat):Int:=match m.a6[i]? with
 |some s=>if isName s.name=true then(if(j4 (m.a6.take i) s.name).isSome=true then 6 else if hX s.f=0 then im m s.f else hX s.f)else 12
 |none=>0
end
def Tq{l:List a7}{i:Nat}(h:i<=l.length):jC 5 (ay l) none (some (aa (i:Int)))=some (ay (l.take i)):=by rw[ay,JL (by simpa using h)];simp[ay,List.map_take]
def ahA{l:List cp}{i:Nat}(h:i<=l.length):jC 7 (bg l) none (some (aa (i:Int)))=some (bg (l.take i)):=by rw[bg,JL (by simpa using h)];simp[bg,List.map_take]
def Tr{m:bA}(q:vO m):∀(n:Nat)(f:Fm),13301000000+f.aO<n->f.Ok->f.aO<=660000->oW n [m.d,f.d]=some (aa (im m f))
 |0,_,h,_,_=>absurd h (xaI _)
 |n+1,f,x,k,aj=>by
  have w:=f.xe;have u:=f.ie;rw[JX];have t:=Ta q n oZ k.e oZ false;have j:dK (bM 6 f.nl (Fm.rows f.aC))=some (aa f.aC.length):=sZ
  have ah:=cd (f:=yX (oW n) n) f.aC (λi (_:Unit)=>[bM 6 f.nl (Fm.rows f.aC),aa f.aC.length,aa (i:Int),aM m.vars,ay m.ao,al m.bb,al m.bc,ay m.next,al m.trans,al m.a1,bg m.a6]) (λr _=>if js m r=0 then(.inl []:lZ⊕D)else .inr (aa (js m r))) (λ_ _=>True) ?_ ?_ n 0 () trivial (by have:=f.ie;omega) (xah _)
  .have s:(aa ((0:Nat):Int))=aa 0:=rfl;rw[s,xak]at ah;show yY (oW n) n m.d f.d=_;by_cases ab:f.op=1
   .have c:(f.op==1)=true:=by simp[ab]
    simp only[yY,go_sem,c,xac ab,t]
   have c:(f.op==1)=false:=by simpa using ab
   simp only[yY,go_sem,c,xab ab,j,ah];by_cases ak:js m f.aC=0;.rw[xac ak,ak,lp]
   rw[xab ak,w1]
  .intro _ _;simp only[yX,go_sem,yF ((f.aC.length:Int)<f.aC.length),js]
  intro i a _ o ag _;have b:=xad o;have l:=Fm.gC b;have p:=Tr q n a oZ (k.dx b) oZ;have g:=yT ((i:Int)<(f.aC.length:Int));by_cases ak:im m a=0
  .left;rw[ak]at p;refine⟨(),?_,by simp only[js,ak,xaE],trivial⟩;have l:((0:Int) !=0)=false:=rfl;simp only[yX,go_sem,g,Fm.e9 o,p,l,bu i]
  right;have l:(im m a !=0)=true:=by simpa using ak
  simp only[yX,go_sem,g,Fm.e9 o,p,l,js,xab ak]
def Ts{m:bA}(q:vO m):∀(n:Nat)(f:Fm),13301000000+f.aO<n->f.Ok->f.aO<=660000->oQ n [m.d,f.d]=some (aa (im m f))
 |0,_,h,_,_=>absurd h (xaI _)
 |n+1,f,x,k,aj=>by
  have w:=f.xe;have u:=f.ie;rw[JX];have t:=Tb q n oZ k.e oZ false;have b:dK (bM 6 f.nl (Fm.rows f.aC))=some (aa f.aC.length):=sZ
  have ah:=cd (f:=ye (oQ n) n) f.aC (λi (_:Unit)=>[aa (i:Int),aM m.vars,ay m.ao,al m.bb,al m.bc,ay m.next,al m.trans,al m.a1,bg m.a6,aa f.op,aa f.e.op,aa f.e.num,aA f.e.name,bM 4 f.e.nl (Tm.rows f.e.aC),bM 6 f.nl (Fm.rows f.aC)]) (λr _=>if js m r=0 then(.inl []:lZ⊕D)else .inr (aa (js m r))) (λ_ _=>True) ?_ ?_ n 0 () trivial (by have:=f.ie;omega) (xah _)
  .have s:(aa ((0:Nat):Int))=aa 0:=rfl;rw[s,xak]at ah;show yf (oQ n) n m.d f.d=_;by_cases ab:f.op=1
   .have g:(f.op==1)=true:=by simp[ab]
    simp only[yf,go_sem,g,xac ab,t]
   have g:(f.op==1)=false:=by simpa using ab
   simp only[yf,go_sem,g,xab ab,ah];by_cases ak:js m f.aC=0;.rw[xac ak,ak,lp]
   rw[xab ak,w1]
  .intro _ _;simp only[ye,go_sem,b,yF ((f.aC.length:Int)<f.aC.length),js]
  intro i a _ o ag _;have c:=xad o;have l:=Fm.gC c;have p:=Ts q n a oZ (k.dx c) oZ;have j:=yT ((i:Int)<(f.aC.length:Int));by_cases ak:im m a=0
  .left;rw[ak]at p;refine⟨(),?_,by simp only[js,ak,xaE],trivial⟩;have l:((0:Int) !=0)=false:=rfl;simp only[ye,go_sem,b,j,Fm.e9 o,p,l,bu i]
  right;have l:(im m a !=0)=true:=by simpa using ak
  simp only[ye,go_sem,b,j,Fm.e9 o,p,l,js,xab ak]
section
variable{m:bA}{n:Nat}(hm:EC m n)
include hm
theorem ahB(i:Nat)(ag:i<m.ao.length):o1 n [ay m.ao,m.d,aa (i:Int)]=some (aa (iq m i)):=by have j:=hm.gv;have g:=hm.aO.dl;have h:=hm.aO.eg;obtain⟨d,a⟩:∃d,m.ao[i]?=some d:=⟨m.ao[i],xaa ag⟩;have e:=hm.Tp d (xad a);have b:=JJ n d.name oZ e.2;have c:=ahb n m.vars d.name oZ oZ;have f:=ahe n (m.ao.take i) d.name uZ uZ;have aj:=Tq (l:=m.ao) (i:=i) oZ;simp only[iq,a];cases ab:isName d.name with|false=>simp only[o1,za,go_sem,dM a,b,ab]|true=>cases ad:(cX m.vars d.name).isSome with|true=>simp only[o1,za,go_sem,dM a,b,ab,c,ad]|false=>cases ai:(cq (m.ao.take i) d.name).isSome with|true=>simp only[o1,za,go_sem,dM a,b,ab,c,ad,aj,f,ai,xbG]|false=>simp only[o1,za,go_sem,dM a,b,ab,c,ad,aj,f,ai,Bool.or_false]
theorem ahC(i:Nat)(ag:i<m.ao.length):u1 n [ay m.ao,m.d,aa (i:Int)]=some (aa (ir m i)):=by have f:=hm.gv;obtain⟨d,b⟩:∃d,m.ao[i]?=some d:=⟨m.ao[i],xaa ag⟩;have a:=hm.aO.d.e d (xad b);have c:=JU hm.aO n oZ a.1 a.2 false;simp only[ir,b];simp only[u1,PB,go_sem,dM b,c]
theorem ahD(l:List Tm)(ah:∀t∈l,t.Ok/\t.aO<=660000)(k:Int)(nx:Bool)(i:Nat)(ag:i<l.length):u0 n [.agg [aa k,al l,aD nx],m.d,aa (i:Int)]=some (aa (dv m l nx i)):=by have f:=hm.gv;obtain⟨t,b⟩:∃t,l[i]?=some t:=⟨l[i],xaa ag⟩;have a:=ah t (xad b);have c:=Ta hm.aO n oZ a.1 a.2 nx;have e:cw 3 (.agg [aa k,al l,aD nx])=true:=rfl;have c1:ae (.agg [aa k,al l,aD nx]) 1=al l:=rfl;have c2:ae (.agg [aa k,al l,aD nx]) 2=aD nx:=rfl;simp only[dv,b];simp only[u0,PA,go_sem,e,c1,c2,qG b,c]
theorem ahE(i:Nat)(ag:i<m.next.length):qp n [ay m.next,m.d,aa (i:Int)]=some (aa (gE m i)):=by
 have w:=hm.gv;have t:=hm.next.1
 have u:=hm.aO.eg;obtain⟨d,a⟩:∃d,m.next[i]?=some d:=⟨m.next[i],xaa ag⟩
 have c:=hm.next.2 d (xad a)
 have s:=JU hm.aO n oZ c.1 c.2 false;have g:=ahg n m.vars d.name oZ oZ;have q:=ahj n (m.next.take i) d.name uZ uZ;have aj:=Tq (l:=m.next) (i:=i) oZ;simp only[gE,a];cases ab:cX m.vars d.name with
 |none=>have ak:decide (dY none<0)=true:=rfl;simp only[qp,Dh,go_sem,dM a,g,ab,ak]
 |some k=>
  have ak:decide (dY (some k)<0)=false:=by rw[S0];rfl
  have h:k<m.vars.length:=by have:=xbu.1 ab;exact this.1
  obtain⟨v,r⟩:∃v,m.vars[k]?=some v:=⟨m.vars[k],xaa h⟩;have p:a8 4 (aM m.vars) (aa (dY (some k)))=some v.cells:=eH r;have o:aN false 1 1 v.cells=some (aD v.bool):=rfl;simp only[r,xaH,xbm];cases ai:(cq (m.next.take i) d.name).isSome with
  |true=>simp only[qp,Dh,go_sem,dM a,g,ab,ak,aj,q,ai]
  |false=>
   generalize eN m false d.e=y at*;have j:aP true .neq (aD y.1.b) (aD v.bool)=some (aD (y.1.b !=v.bool)):=rfl;simp only[qp,Dh,go_sem,dM a,g,ab,ak,aj,q,ai,s,nW,p,o,j];by_cases f:(y.2==0&&(y.1.b !=v.bool))=true
   .rw[xac f,xac f]
   rw[xab f,xab f]
theorem ahF(i:Nat)(ag:i<m.a6.length):o0 n [bg m.a6,m.d,aa (i:Int)]=some (aa (gF m i)):=by
 have t:=hm.gv;have r:=hm.a6.1;obtain⟨s,aj⟩:∃s,m.a6[i]?=some s:=⟨m.a6[i],xaa ag⟩;obtain⟨⟨o,h⟩,q,j⟩:=hm.a6.2 s (xad aj);have e:=JJ n s.name oZ j;have g:=aho n (m.a6.take i) s.name uZ uZ;have a:=ahA (l:=m.a6) (i:=i) oZ;have k:=Jx n s.f oZ o oZ;have p:=Tr hm.aO n s.f oZ o h;simp only[gF,aj];cases ab:isName s.name with
 |false=>simp only[o0,yZ,go_sem,jo aj,e,ab]
 |true=>
  cases ai:(j4 (m.a6.take i) s.name).isSome with
  |true=>simp only[o0,yZ,go_sem,jo aj,e,ab,a,g,ai]
  |false=>
   by_cases c:hX s.f=0
   .have b:(hX s.f !=0)=false:=by simp[c]
    simp only[o0,yZ,go_sem,jo aj,e,ab,a,g,ai,k,b,xac c,p]
   have b:(hX s.f !=0)=true:=by simpa using c
   simp only[o0,yZ,go_sem,jo aj,e,ab,a,g,ai,k,b,xab c]
end
def dT(p:Int×Int):D:= .az [aa p.1,aa p.2]
def pg(a b:Int×Int):Int×Int:=if a.2=0 then b else a
def findIdx_take{o:Type}{l:List o}{p:o->Bool}{i:Nat}{d:o}(q:l[i]?=some d)(r:p d=true):decide (dY (l.findIdx? p)<(i:Int))=((l.take i).findIdx? p).isSome:=by
 obtain⟨ag,c⟩:=lV.1 q;cases h:l.findIdx? p with
 |none=>have:=List.findIdx?_eq_none_iff.1 h d (xad q);rw[r]at this;cases this
 |some k=>
  obtain⟨w,n,b⟩:=xbu.1 h;rw[List.findIdx?_isSome];have x:k<=i:=by
   rcases xbf i k with ab|ab;.have:=b i ab;rw[c]at this;exact absurd r this
   exact ab
  by_cases t:k<i;.have ab:decide (dY (some k)<(i:Int))=true:=xap (by show(k:Int)<(i:Int);omega);rw[ab];symm;rw[xbn];refine⟨l[k],xaJ.2 ⟨k,?_⟩,n⟩;rw[xco t];exact xaa w
  have ab:decide (dY (some k)<(i:Int))=false:=xaB (by show¬(k:Int)<(i:Int);omega);rw[ab];symm;rw[Bool.eq_false_iff,ne_eq,xbn];rintro⟨a,s,m⟩;obtain⟨j,e⟩:=xaJ.1 s;have g:=(lV.1 e).1;simp only[xbx]at g;rw[xco oZ]at e;obtain⟨u,f⟩:=lV.1 e;have:=b j oZ;rw[f]at this;exact this m
noncomputable def mF(m:bA):Int×Int:=pg (bL (iq m) m.ao.length 0) (pg (bL (iQ m) m.ao.length 0) (bL (ir m) m.ao.length 0))
section
variable{m:bA}{n:Nat}(hm:EC m n)
include hm
theorem ahG:aS (rR n) n [aa 0,aM m.vars,ay m.ao,al m.bb,al m.bc,ay m.next,al m.trans,al m.a1,bg m.a6]=some (if(bL (iq m) m.ao.length 0).2=0 then .inl [aM m.vars,ay m.ao,al m.bb,al m.bc,ay m.next,al m.trans,al m.a1,bg m.a6]else .inr (dT (bL (iq m) m.ao.length 0))):=by
 have q:=hm.gv;have l:=hm.aO.dl;have o:=hm.aO.eg;refine jr (λi=>[aa (i:Int),aM m.vars,ay m.ao,al m.bb,al m.bc,ay m.next,al m.trans,al m.a1,bg m.a6]) (iq m) m.ao.length _ dT ?_ ?_ _ 0 n oZ oZ
 .intro i ag;obtain⟨d,f⟩:∃d,m.ao[i]?=some d:=⟨m.ao[i],xaa ag⟩;have j:=hm.Tp d (xad f);have g:=JK n d.name oZ j.2;have h:=Tn n m d.name oZ oZ;have k:=Tl n m d.name oZ oZ;have c:=yT ((i:Int)<(m.ao.length:Int));have a:=findIdx_take (p:=λe:a7=>decide (e.name=d.name)) f sZ;change decide (dY (cq m.ao d.name)<(i:Int))=(cq (m.ao.take i) d.name).isSome at a;simp only[iq,f];cases ab:isName d.name with
  |false=>simp only[rR,go_sem,c,dM f,g,ab,xab (show¬(12:Int)=0 by decide),dT]
  |true=>
   cases ad:(cX m.vars d.name).isSome with
   |true=>have b:=vM (cX m.vars d.name);rw[ad]at b;simp only[rR,go_sem,c,dM f,g,ab,h,b,oC,xab (show¬(true=false) by decide),oD,xab (show¬(6:Int)=0 by decide),dT]
   |false=>
    have b:=vM (cX m.vars d.name);rw[ad]at b;cases ai:(cq (m.ao.take i) d.name).isSome with
    |true=>rw[ai]at a;simp only[rR,go_sem,c,dM f,g,ab,h,b,oC,k,a,oD,xab (show¬(6:Int)=0 by decide),dT,Bool.or_true]
    |false=>rw[ai]at a;simp only[rR,go_sem,c,dM f,g,ab,h,b,oC,k,a,oD,Bool.or_false,bu i]
 simp only[rR,go_sem,yF ((m.ao.length:Int)<m.ao.length)]
theorem ahH:aS (x7 n) n [aa 0,aM m.vars,ay m.ao,al m.bb,al m.bc,ay m.next,al m.trans,al m.a1,bg m.a6]=some (if(bL (iQ m) m.ao.length 0).2=0 then .inl [aM m.vars,ay m.ao,al m.bb,al m.bc,ay m.next,al m.trans,al m.a1,bg m.a6]else .inr (dT (bL (iQ m) m.ao.length 0))):=by
 have g:=hm.gv;have f:=hm.aO.dl;refine jr (λi=>[aa (i:Int),aM m.vars,ay m.ao,al m.bb,al m.bc,ay m.next,al m.trans,al m.a1,bg m.a6]) (iQ m) m.ao.length _ dT ?_ ?_ _ 0 n oZ oZ
 .intro i ag;obtain⟨S,c,a⟩:=ahz n m hm.aO.d i ag oZ;have b:=yT ((i:Int)<(m.ao.length:Int));have e:a8 1 (hi m.ao.length S) (aa (i:Int))=some [aD (decide (i∈S))]:=by
   rw[hi,Nr,zT ag]
  cases ab:gu m.ao i with
  |true=>have ad:=xap (a.2 ab);simp only[x7,go_sem,b,c,e,sx,ad,iQ,ab,xab (show¬(14:Int)=0 by decide),dT]
  |false=>have ad:=xaB (show¬i∈S fromλh=>by rw[a.1 h]at ab;cases ab);simp only[x7,go_sem,b,c,e,sx,ad,iQ,ab,bu i]
 simp only[x7,go_sem,yF ((m.ao.length:Int)<m.ao.length)]
theorem ahI:aS (x8 n) n [aa 0,aM m.vars,ay m.ao,al m.bb,al m.bc,ay m.next,al m.trans,al m.a1,bg m.a6]=some (if(bL (ir m) m.ao.length 0).2=0 then .inl []else .inr (dT (bL (ir m) m.ao.length 0))):=by
 have j:=hm.gv;have h:=hm.aO.dl;refine jr (λi=>[aa (i:Int),aM m.vars,ay m.ao,al m.bb,al m.bc,ay m.next,al m.trans,al m.a1,bg m.a6]) (ir m) m.ao.length _ dT ?_ ?_ _ 0 n oZ oZ
 .intro i ag;obtain⟨d,f⟩:∃d,m.ao[i]?=some d:=⟨m.ao[i],xaa ag⟩;have b:=hm.aO.d.e d (xad f);have g:=JV hm.aO n oZ b.1 b.2 false;have c:=yT ((i:Int)<(m.ao.length:Int));simp only[ir,f];by_cases ab:(eN m false d.e).2=0
  .have a:((eN m false d.e).2 !=0)=false:=by simp[ab]
   simp only[x8,go_sem,c,dM f,g,a,xac ab,bu i]
  have a:((eN m false d.e).2 !=0)=true:=by simpa using ab
  simp only[x8,go_sem,c,dM f,g,a,xab ab,dT]
 simp only[x8,go_sem,yF ((m.ao.length:Int)<m.ao.length)]
theorem ahJ:rS n [m.d]=some (dT (mF m)):=by
 have ad:=ahG hm;have b:=ahH hm;have a:=ahI hm;have c:∀e k,(bL e k 0).2=0->bL e k 0=(0,0):=λe k=>mE e k 0;unfold mF pg;by_cases c1:(bL (iq m) m.ao.length 0).2=0
 case neg=>rw[xab c1]at ad⊢;simp only[rS,x9,go_sem,ad]
 rw[xac c1]at ad⊢;by_cases c2:(bL (iQ m) m.ao.length 0).2=0
 case neg=>rw[xab c2]at b⊢;simp only[rS,x9,go_sem,ad,b]
 rw[xac c2]at b⊢;by_cases b3:(bL (ir m) m.ao.length 0).2=0;.rw[xac b3]at a;rw[c _ _ b3];simp only[rS,x9,go_sem,ad,b,a,dT]
 rw[xab b3]at a;simp only[rS,x9,go_sem,ad,b,a]
theorem ED(l:List Tm)(ah:l.length<=100/\∀t∈l,t.Ok/\t.aO<=660000)(nx:Bool):qe n [m.d,al l,aD nx]=some (dT (bL (dv m l nx) l.length 0)):=by
 have k:=hm.gv;have ag:=jr (f:=ya n) (λi=>[al l,aD nx,aa (i:Int),aM m.vars,ay m.ao,al m.bb,al m.bc,ay m.next,al m.trans,al m.a1,bg m.a6]) (dv m l nx) l.length [] dT ?_ ?_ l.length 0 n oZ oZ
 .have j:(aa ((0:Nat):Int))=aa 0:=rfl;rw[j]at ag;by_cases c:(bL (dv m l nx) l.length 0).2=0;.rw[xac c]at ag;rw[mE _ _ _ c];simp only[qe,Ih,go_sem,ag,dT]
  rw[xab c]at ag;simp only[qe,Ih,go_sem,ag]
 .intro i ag;obtain⟨t,g⟩:∃t,l[i]?=some t:=⟨l[i],xaa ag⟩;have e:=ah.2 t (xad g);have h:=Tb hm.aO n oZ e.1 e.2 nx;have b:=yT ((i:Int)<(l.length:Int));simp only[dv,g];by_cases ab:kG m nx t=0
  .have a:(kG m nx t !=0)=false:=by simp[ab]
   simp only[ya,go_sem,b,qG g,h,a,xac ab,tI (bt:=false) (i:=i) (by have:=ah.1;omega)]
  have a:(kG m nx t !=0)=true:=by simpa using ab
  simp only[ya,go_sem,b,qG g,h,a,xab ab,dT]
 simp only[ya,go_sem,yF ((l.length:Int)<l.length)]
theorem ahK(i:Nat)(k:Int){d:a7}(g:m.next[i]?=some d):aS (uw n) n [aa (i:Int),aa k,aa 0,aM m.vars,ay m.ao,al m.bb,al m.bc,ay m.next,al m.trans,al m.a1,bg m.a6]=some (if(cq (m.next.take i) d.name).isSome=true then .inr (.inr (.inr (.inr (.az [aa (i:Int),aa 6]))))else .inl [aa (i:Int),aa k,aM m.vars,ay m.ao,al m.bb,al m.bc,ay m.next,al m.trans,al m.a1,bg m.a6]):=by
 have t:=hm.gv;have s:=hm.next.1
 have q:=(lV.1 g).1;have c:(m.next.take i).length=i:=uZ
 have ag:=cd (f:=uw n) (m.next.take i) (λj (_:Unit)=>[aa (i:Int),aa k,aa (j:Int),aM m.vars,ay m.ao,al m.bb,al m.bc,ay m.next,al m.trans,al m.a1,bg m.a6]) (λr _=>(if(cq r d.name).isSome=true then .inr (.inr (.inr (.inr (.az [aa (i:Int),aa 6]))))else .inl [aa (i:Int),aa k,aM m.vars,ay m.ao,al m.bb,al m.bc,ay m.next,al m.trans,al m.a1,bg m.a6]:lZ⊕(lZ⊕(lZ⊕(lZ⊕D))))) (λ_ _=>True) (λ_ _=>by rw[c];simp only[uw,go_sem,yF ((i:Int)<i)];rfl) ?_ n 0 () trivial oZ (xah _);.exact ag
 intro j a _ e l _;rw[c]at l;rw[xco l]at e;have b:=yT ((j:Int)<(i:Int));have p:cq (a::(m.next.take i).drop (j+1)) d.name=if decide (a.name=d.name)=true then some 0 else(cq ((m.next.take i).drop (j+1)) d.name).map (·+1):=findIdx_cons _ a _
 rw[p];by_cases h:a.name=d.name;.right;rw[xac (xap h)];simp only[uw,go_sem,b,dM e,dM g,xap h,Option.isSome_some]
 left;refine⟨(),?_,?_,trivial⟩;.simp only[uw,go_sem,b,dM e,dM g,xaB h,bu j]
 have o:¬(decide (a.name=d.name)=true):=by simpa using h
 rw[xab o,Option.isSome_map]
theorem ahL(i:Nat){d:cp}(g:m.a6[i]?=some d):aS (uy n) n [aa (i:Int),aa 0,aM m.vars,ay m.ao,al m.bb,al m.bc,ay m.next,al m.trans,al m.a1,bg m.a6]=some (if(j4 (m.a6.take i) d.name).isSome=true then .inr (.inr (.inr (.inr (.az [aa (i:Int),aa 6]))))else .inl [aa (i:Int),aM m.vars,ay m.ao,al m.bb,al m.bc,ay m.next,al m.trans,al m.a1,bg m.a6]):=by
 have s:=hm.gv;have q:=hm.a6.1;have p:=(lV.1 g).1;have c:(m.a6.take i).length=i:=uZ
 have ag:=cd (f:=uy n) (m.a6.take i) (λj (_:Unit)=>[aa (i:Int),aa (j:Int),aM m.vars,ay m.ao,al m.bb,al m.bc,ay m.next,al m.trans,al m.a1,bg m.a6]) (λr _=>(if(j4 r d.name).isSome=true then .inr (.inr (.inr (.inr (.az [aa (i:Int),aa 6]))))else .inl [aa (i:Int),aM m.vars,ay m.ao,al m.bb,al m.bc,ay m.next,al m.trans,al m.a1,bg m.a6]:lZ⊕(lZ⊕(lZ⊕(lZ⊕D))))) (λ_ _=>True) (λ_ _=>by rw[c];simp only[uy,go_sem,yF ((i:Int)<i)];rfl) ?_ n 0 () trivial oZ (xah _);.exact ag
 intro j a _ e k _;rw[c]at k;rw[xco k]at e;have b:=yT ((j:Int)<(i:Int));have o:j4 (a::(m.a6.take i).drop (j+1)) d.name=if decide (a.name=d.name)=true then some 0 else(j4 ((m.a6.take i).drop (j+1)) d.name).map (·+1):=findIdx_cons _ a _
 rw[o];by_cases h:a.name=d.name;.right;rw[xac (xap h)];simp only[uy,go_sem,b,jo e,jo g,xap h,Option.isSome_some]
 left;refine⟨(),?_,?_,trivial⟩;.simp only[uy,go_sem,b,jo e,jo g,xaB h,bu j]
 have l:¬(decide (a.name=d.name)=true):=by simpa using h
 rw[xab l,Option.isSome_map]
theorem ahM:yb n [m.d]=some (dT (bL (gE m) m.next.length 0)):=by
 have E:=hm.gv;have C:=hm.next.1
 have D:=hm.aO.eg;have ag:=jr (f:=qf n) (λi=>[aa (i:Int),aM m.vars,ay m.ao,al m.bb,al m.bc,ay m.next,al m.trans,al m.a1,bg m.a6]) (gE m) m.next.length [] dT ?_ ?_ m.next.length 0 n oZ oZ
 .have B:(aa ((0:Nat):Int))=aa 0:=rfl;rw[B]at ag;by_cases c:(bL (gE m) m.next.length 0).2=0;.rw[xac c]at ag;rw[mE _ _ _ c];simp only[yb,Ii,go_sem,ag,dT]
  rw[xab c]at ag;simp only[yb,Ii,go_sem,ag]
 .intro i ag;obtain⟨d,g⟩:∃d,m.next[i]?=some d:=⟨m.next[i],xaa ag⟩
  have s:=hm.next.2 d (xad g)
  have w:=JV hm.aO n oZ s.1 s.2 false;have h:=Tn n m d.name oZ oZ;have a:=yT ((i:Int)<(m.next.length:Int));simp only[gE,g];cases ab:cX m.vars d.name with
  |none=>rw[ab]at h;have ak:decide (dY none<0)=true:=rfl;simp only[qf,go_sem,a,dM g,h,ak,xab (show¬(12:Int)=0 by decide),dT]
  |some k=>
   rw[ab]at h;have q:=ahK hm i (dY (some k)) g;have ak:decide (dY (some k)<0)=false:=by rw[S0];rfl
   have x:k<m.vars.length:=by have:=xbu.1 ab;exact this.1
   obtain⟨v,A⟩:∃v,m.vars[k]?=some v:=⟨m.vars[k],xaa x⟩;have o:a8 4 (aM m.vars) (aa (dY (some k)))=some v.cells:=eH A;have l:aN false 1 1 v.cells=some (aD v.bool):=rfl;simp only[A,xaH,xbm];cases ai:(cq (m.next.take i) d.name).isSome with
   |true=>rw[ai,xac rfl]at q;simp only[qf,go_sem,a,dM g,h,ak,q,xab (show¬(6:Int)=0 by decide),dT]
   |false=>
    rw[ai,xab dZ]at q;generalize eN m false d.e=y at*;have j:aP true .neq (aD y.1.b) (aD v.bool)=some (aD (y.1.b !=v.bool)):=rfl;have u:((13:Int) !=0)=true:=rfl;by_cases z:(y.2==0&&(y.1.b !=v.bool))=true
    .simp only[qf,go_sem,a,dM g,h,ak,q,w,nW,o,l,j,z,u,xab (show¬(13:Int)=0 by decide),dT]
    have r:(y.2==0&&(y.1.b !=v.bool))=false:=by simpa using z
    by_cases t:y.2=0
    .have p:(y.2 !=0)=false:=by simp[t]
     simp only[qf,go_sem,a,dM g,h,ak,q,w,nW,o,l,j,r,p,xac t,bu i]
    have p:(y.2 !=0)=true:=by simpa using t
    simp only[qf,go_sem,a,dM g,h,ak,q,w,nW,o,l,j,r,p,xab t,dT]
 simp only[qf,go_sem,yF ((m.next.length:Int)<m.next.length)]
theorem ahN:yg n [m.d]=some (dT (bL (gF m) m.a6.length 0)):=by
 have y:=hm.gv;have x:=hm.a6.1;have ag:=jr (f:=qh n) (λi=>[aa (i:Int),aM m.vars,ay m.ao,al m.bb,al m.bc,ay m.next,al m.trans,al m.a1,bg m.a6]) (gF m) m.a6.length [] dT ?_ ?_ m.a6.length 0 n oZ oZ
 .have u:(aa ((0:Nat):Int))=aa 0:=rfl;rw[u]at ag;by_cases c:(bL (gF m) m.a6.length 0).2=0;.rw[xac c]at ag;rw[mE _ _ _ c];simp only[yg,Ik,go_sem,ag,dT]
  rw[xab c]at ag;simp only[yg,Ik,go_sem,ag]
 .intro i ag;obtain⟨s,aj⟩:∃s,m.a6[i]?=some s:=⟨m.a6[i],xaa ag⟩;obtain⟨⟨t,p⟩,w,q⟩:=hm.a6.2 s (xad aj);have k:=JK n s.name oZ q;have h:=ahL hm i aj;have o:=Jw n s.f oZ t oZ;have r:=Ts hm.aO n s.f oZ t p;have a:=yT ((i:Int)<(m.a6.length:Int));simp only[gF,aj];cases ab:isName s.name with
  |false=>simp only[qh,go_sem,a,jo aj,k,ab,xab (show¬(12:Int)=0 by decide),dT]
  |true=>
   cases ai:(j4 (m.a6.take i) s.name).isSome with
   |true=>rw[ai,xac rfl]at h;simp only[qh,go_sem,a,jo aj,k,ab,h,xab (show¬(6:Int)=0 by decide),dT]
   |false=>
    rw[ai,xab dZ]at h;by_cases g:hX s.f=0
    .have b:(hX s.f==0)=true:=by simp[g]
     by_cases l:im m s.f=0
     .have e:(im m s.f !=0)=false:=by simp[l]
      simp only[qh,go_sem,a,jo aj,k,ab,h,o,b,xac g,r,e,xac l,bu i]
     have e:(im m s.f !=0)=true:=by simpa using l
     simp only[qh,go_sem,a,jo aj,k,ab,h,o,b,xac g,r,e,xab l,dT]
    have b:(hX s.f==0)=false:=by simpa using g
    have j:(hX s.f !=0)=true:=by simpa using g
    simp only[qh,go_sem,a,jo aj,k,ab,h,o,b,j,xab g,dT]
 simp only[qh,go_sem,yF ((m.a6.length:Int)<m.a6.length)]
end
def jH:List V->Nat
 |[]=>0|v::r=>bitsOf v.span+jH r
theorem V.ahO(v:V):D.agg [ae v.d 0,ae v.d 1,ae v.d 2,ae v.d 3]=v.d:=rfl
attribute [go_sem] V.ahO
def ahP(n:Nat)(m:bA)(k:gT m.vars)(ah:m.vars.length<=100)(l:200<n):yB n [m.d]=some (aa (jH m.vars:Nat)):=by
 have ag:=cd (f:=CY n) m.vars (λi (s:Nat)=>[aa (s:Int),aM m.vars,aa m.vars.length,aa (i:Int)]) (λr s=>(.inl [aa ((s+jH r:Nat):Int)]:lZ⊕D)) (λi s=>s<=62*i) ?_ ?_ n 0 0 sZ oZ (xah _);.have g:(aa ((0:Nat):Int))=aa 0:=rfl;rw[g,xak,xaw]at ag;simp only[yB,Pm,go_sem,ag]
 .intro s aj;simp only[CY,go_sem,yF ((m.vars.length:Int)<m.vars.length),jH,xbv]
 intro i v s b ag aj;obtain⟨ab,ad,_⟩:=k.2 v (xad b);have e:=JO n v ab ad;have h:=ag4 n v.span (V.sw v).2 oZ;have j:=(vL (V.sw v).2).1;have c:=yT ((i:Int)<(m.vars.length:Int));have a:aP false .add (aa (s:Int)) (aa (bitsOf v.span:Nat))=some (aa ((s+bitsOf v.span:Nat):Int)):=by rw[ds oZ oZ];rfl
 left;refine⟨s+bitsOf v.span,?_,by rw[jH,xbk],by omega⟩;simp only[CY,go_sem,c,eH b,V.g4,e,h,a,bu i]
def ahQ(n:Nat)(m:bA)(k:gT m.vars)(ah:m.vars.length<=100)(l:200<n):Cv n [m.d]=some (aa (jH m.vars:Nat)):=by
 have ag:=cd (f:=Cu n) m.vars (λi (s:Nat)=>[aa (s:Int),aa (i:Int),aM m.vars,ay m.ao,al m.bb,al m.bc,ay m.next,al m.trans,al m.a1,bg m.a6]) (λr s=>(.inl [aa ((s+jH r:Nat):Int)]:lZ⊕D)) (λi s=>s<=62*i) ?_ ?_ n 0 0 sZ oZ (xah _);.have g:(aa ((0:Nat):Int))=aa 0:=rfl;rw[g,xak,xaw]at ag;simp only[Cv,OP,go_sem,ag]
 .intro s aj;simp only[Cu,go_sem,yF ((m.vars.length:Int)<m.vars.length),jH,xbv]
 intro i v s b ag aj;obtain⟨ab,ad,_⟩:=k.2 v (xad b);have e:=vK n v ab ad;have h:=ag5 n v.span (by have:=(V.sw v).1;omega) (V.sw v).2 oZ;have j:=(vL (V.sw v).2).1;have c:=yT ((i:Int)<(m.vars.length:Int));have a:aP false .add (aa (s:Int)) (aa (bitsOf v.span:Nat))=some (aa ((s+bitsOf v.span:Nat):Int)):=by rw[ds oZ oZ];rfl
 left;refine⟨s+bitsOf v.span,?_,by rw[jH,xbk],by omega⟩;simp only[Cu,go_sem,c,eH b,e,h,a,bu i]
def iu:List V->Int->Int
 |[],a=>a|v::r,a=>iu r (if a<=1073741824 then a*max v.span 1 else a)
def Tt:∀(l:List V)(a:Int),¬a<=1073741824->iu l a=a
 |[],a,_=>rfl|v::r,a,h=>by rw[iu,xab h,Tt r a h]
def j5(l:List V):Bool:=l.any λv=>v.span==0
def stM(l:List V):Int×Bool:=if j5 l=true then(0,true)else if iu l 1>1073741824 then(0,false)else(iu l 1,true)
def ahR{a:Int}:ht true [aa a,aa 1]=some (aa (max a 1)):=by
 rw[Hy]
 congr 2
 split<;>omega
def Tu{a k:Int}(ab:1<=a)(ad:a<=1073741824)(ai:0<=k)(d:k<=1073741825):1<=a*max k 1/\a*max k 1<=1152921505680588800:=by
 have b:1<=max k 1:=oZ
 have c:max k 1<=1073741825:=oZ
 generalize max k 1=q at*;constructor;.have:=xci ab b oZ oZ;simpa using this
 have:=xci ad c oZ oZ;exact this
def ahS(n:Nat)(m:bA)(p:gT m.vars)(ah:m.vars.length<=100)(q:200<n):u9 n [m.d]=some (.az [aa (stM m.vars).1,aD (stM m.vars).2]):=by
 have ag:=cd (f:=zb n) m.vars (λi (s:Int×Bool)=>[aa s.1,aD s.2,aM m.vars,aa m.vars.length,aa (i:Int)]) (λr s=>(.inl [aa (iu r s.1),aD (s.2||j5 r)]:lZ⊕D)) (λi s=>1<=s.1/\s.1<=1152921505680588800) ?_ ?_ n 0 (1,false) sZ oZ (xah _)
 .have l:(aa ((0:Nat):Int))=aa 0:=rfl;rw[l,xak,xbG]at ag;unfold stM;cases ab:j5 m.vars with
  |true=>rw[ab]at ag;simp only[u9,Dy,go_sem,ag]
  |false=>
   rw[ab]at ag;by_cases ad:iu m.vars 1>1073741824;.simp only[u9,Dy,go_sem,ag,xap ad,xac ad]
   simp only[u9,Dy,go_sem,ag,xaB ad,xab ad]
 .intro s aj;simp only[zb,go_sem,yF ((m.vars.length:Int)<m.vars.length),iu,j5,List.any_nil,Bool.or_false]
 intro i v s e ag aj;obtain⟨ab,ad,_⟩:=p.2 v (xad e);have k:=JO n v ab ad;have j:=V.sw v;have h:=yT ((i:Int)<(m.vars.length:Int));have c:∀r,j5 (v::r)=(v.span==0||j5 r):=λr=>rfl;left;by_cases g:s.1<=1073741824
 .have o:=Tu aj.1 g j.1 j.2;refine⟨(s.1*max v.span 1,s.2||v.span==0),?_,by rw[iu,xac g,c,Bool.or_assoc],o⟩;simp only[zb,go_sem,h,eH e,V.g4,k,xap g,ahR,p3 (bt:=false) (a:=s.1) (b:=max v.span 1) oZ oZ,bu i]
 refine⟨(s.1,s.2||v.span==0),?_,by rw[iu,xab g,c,Bool.or_assoc],aj⟩;simp only[zb,go_sem,h,eH e,V.g4,k,xaB g,bu i]
def fu:List (Int×(Int×Int))->Int×(Int×Int)
 |[]=>(0,(0,0))|a::r=>if a.2.2=0 then fu r else a
def Tv{b:Type}{f:lZ->Option (lZ⊕(lZ⊕b))}(L:List (Int×(Int×Int)))(I:Nat->lZ)(E:lZ)(W:Int×(Int×Int)->b) (aj:∀i a,L[i]?=some a->f (I i)=some (if a.2.2=0 then .inl (I (i+1))else .inr (.inr (W a)))) (d:f (I L.length)=some (.inr (.inl E))) (n:Nat) (e:L.length<n):aS f n (I 0)=some (if(fu L).2.2=0 then .inl E else .inr (W (fu L))):=by
 have h:=cd (f:=f) L (λi (_:Unit)=>I i) (λr _=>(if(fu r).2.2=0 then .inl E else .inr (W (fu r)):lZ⊕b)) (λ_ _=>True) (λ_ _=>by rw[d];rfl) ?_ n 0 () trivial oZ (xah _);.exact h
 intro i a _ c ag _;have ab:=aj i a c;by_cases ak:a.2.2=0
 .left;rw[xac ak]at ab;exact⟨(),ab,by rw[fu,xac ak],trivial⟩
 right;rw[xab ak]at ab;rw[ab,fu,xab ak,xab ak]
def fC(m:bA):lX:=[m.vars.length,m.ao.length,m.bb.length,m.bc.length,m.next.length,m.trans.length,m.a1.length,m.a6.length]
def fD(m:bA)(i:Nat):Int:=if 64<(fC m)[i]?.getD 0 then 18 else 0
noncomputable def jI(m:bA):List (Int×(Int×Int)):=[(2,bL (iq m) m.ao.length 0),(2,bL (iQ m) m.ao.length 0),(2,bL (ir m) m.ao.length 0),(3,bL (dv m m.bb false) m.bb.length 0),(4,bL (dv m m.bc false) m.bc.length 0),(5,bL (gE m) m.next.length 0),(6,bL (dv m m.trans true) m.trans.length 0),(7,bL (dv m m.a1 false) m.a1.length 0),(8,bL (gF m) m.a6.length 0)]
noncomputable def JY(m:bA):List (Int×(Int×Int)):=[(2,mF m),(3,bL (dv m m.bb false) m.bb.length 0),(4,bL (dv m m.bc false) m.bc.length 0),(5,bL (gE m) m.next.length 0),(6,bL (dv m m.trans true) m.trans.length 0),(7,bL (dv m m.a1 false) m.a1.length 0),(8,bL (gF m) m.a6.length 0)]
def Tw{a b:Int×Int}:(pg a b).2=0↔a.2=0/\b.2=0:=by unfold pg;by_cases h:a.2=0<;>simp[h]
def Tx(k:Int)(a b:Int×Int)(r:List (Int×(Int×Int))):fu ((k,pg a b)::r)=fu ((k,a)::(k,b)::r):=by simp only[fu];unfold pg;by_cases h:a.2=0<;>simp[h]
def ahT(a:Int×(Int×Int)){r b:List (Int×(Int×Int))}(h:fu r=fu b):fu (a::r)=fu (a::b):=by rw[fu,fu,h]
def ahU(m:bA):fu (JY m)=fu (jI m):=by unfold JY mF;rw[Tx];exact ahT _ (Tx _ _ _ _)
noncomputable def fE(m:bA):Int×(Int×Int):=if(bL (fD m) 8 0).2=0 then
  if(hs m.vars).2=0 then
   if 30<jH m.vars then(1,(0,18))else fu (jI m)
  else(1,hs m.vars)
 else((bL (fD m) 8 0).1+1,(64,18))
def cK(q:Int×(Int×Int)):D:= .az [.agg [aa q.1,aa q.2.1],aa q.2.2]
def ahV{l:List V}(h:(hs l).2=0):hs l=(0,0):=by unfold hs at h⊢;cases a:(List.range l.length).find? (λi=>gm l i !=0)with|none=>rw[a]at h|some i=>rw[a]at h;have:=List.find?_some a;simp only at h;rw[h]at this;cases this
def Ty(L:List (Int×(Int×Int)))(h:(fu L).2.2=0):fu L=(0,(0,0)):=by
 induction L with
 |nil=>rfl
 |cons a r ih=>
  rw[fu]at h⊢;by_cases ak:a.2.2=0;.rw[xac ak]at h⊢;exact ih h
  rw[xab ak]at h;exact absurd h ak
theorem fF{t:Nat}{x:D}:tl (.cP t x)=some (t,x):=rfl
def nX(m:bA):D:= .agg ((fC m).map λ(k:Nat)=>aa (k:Int))
def ez(m:bA):D:= .agg [.cP 166 (ay m.ao),.cP 167 (ay m.ao),.cP 168 (ay m.ao),.cP 170 (.agg [aa 3,al m.bb,aD false]),.cP 170 (.agg [aa 4,al m.bc,aD false]),.cP 171 (ay m.next),.cP 170 (.agg [aa 6,al m.trans,aD true]),.cP 170 (.agg [aa 7,al m.a1,aD false]),.cP 172 (bg m.a6)]
theorem EE{c:Type}{a b:Option c}:en 166 166 a b=a:=rfl
theorem EF{c:Type}{a b:Option c}:en 167 166 a b=b:=rfl
theorem EG{c:Type}{a b:Option c}:en 167 167 a b=a:=rfl
theorem EH{c:Type}{a b:Option c}:en 168 166 a b=b:=rfl
theorem EI{c:Type}{a b:Option c}:en 168 167 a b=b:=rfl
theorem EJ{c:Type}{a b:Option c}:en 168 168 a b=a:=rfl
theorem nY{c:Type}{a b:Option c}:en 170 166 a b=b:=rfl
theorem nZ{c:Type}{a b:Option c}:en 170 167 a b=b:=rfl
theorem n0{c:Type}{a b:Option c}:en 170 168 a b=b:=rfl
theorem n1{c:Type}{a b:Option c}:en 170 170 a b=a:=rfl
theorem EK{c:Type}{a b:Option c}:en 171 166 a b=b:=rfl
theorem EL{c:Type}{a b:Option c}:en 171 167 a b=b:=rfl
theorem EM{c:Type}{a b:Option c}:en 171 168 a b=b:=rfl
theorem EN{c:Type}{a b:Option c}:en 171 170 a b=b:=rfl
theorem EO{c:Type}{a b:Option c}:en 171 171 a b=a:=rfl
theorem EP{c:Type}{a b:Option c}:en 172 166 a b=b:=rfl
theorem ER{c:Type}{a b:Option c}:en 172 167 a b=b:=rfl
theorem ES{c:Type}{a b:Option c}:en 172 168 a b=b:=rfl
theorem ET{c:Type}{a b:Option c}:en 172 170 a b=b:=rfl
theorem EU{c:Type}{a b:Option c}:en 172 171 a b=b:=rfl
theorem EV{c:Type}{a b:Option c}:en 172 172 a b=a:=rfl
section
variable{m:bA}{n:Nat}(hm:EC m n)
include hm
theorem ahW:aS (my n) n [nX m,aa 0,aM m.vars,ay m.ao,al m.bb,al m.bc,ay m.next,al m.trans,al m.a1,bg m.a6,aa 0,aa 0]=some (if(bL (fD m) 8 0).2=0 then .inl [aM m.vars,ay m.ao,al m.bb,al m.bc,ay m.next,al m.trans,al m.a1,bg m.a6,aa 0,aa 0]else .inr (cK ((bL (fD m) 8 0).1+1,(64,18)))):=by
 have j:=hm.gv;refine jr (f:=my n) (λi=>[nX m,aa (i:Int),aM m.vars,ay m.ao,al m.bb,al m.bc,ay m.next,al m.trans,al m.a1,bg m.a6,aa 0,aa 0]) (fD m) 8 _ (λp=>cK (p.1+1,(64,18))) ?_ ?_ 8 0 n oZ oZ
 .intro i ag;obtain⟨k,h⟩:∃k,(fC m)[i]?=some k:=⟨_,xaa ag⟩;have a:=yT ((i:Int)<8);have b:cS 8 (aa (i:Int))=some i:=oE ag;have g:iE false 1 (i*1) (nX m)=some (aa (k:Int)):=by
   unfold nX;rw[Nat.mul_one,Nq,fW,xag,h];rfl
  have c:aP false .add (aa 1) (aa (i:Int))=some (aa ((i:Int)+1)):=by rw[ds oZ oZ];congr 2;omega
  have d:fD m i=if 64<k then 18 else 0:=by unfold fD;rw[h];rfl
  by_cases e:64<k;.rw[d,xac e,xab dZ];simp only[my,go_sem,a,b,g,yT ((k:Int)>64),c,cK]
  rw[d,xab e,xac rfl];simp only[my,go_sem,a,b,g,yF ((k:Int)>64),bu i]
 simp only[my,go_sem,show decide (((8:Nat):Int)<8)=false from rfl]
theorem ahX:aS (mq n) n [aa 0,aM m.vars,ay m.ao,al m.bb,al m.bc,ay m.next,al m.trans,al m.a1,bg m.a6,aa 0,aa 0,D.aw 1 ((fC m).map λ(k:Nat)=>[aa (k:Int)])]=some (if(bL (fD m) 8 0).2=0 then .inl [aM m.vars,ay m.ao,al m.bb,al m.bc,ay m.next,al m.trans,al m.a1,bg m.a6,aa 0,aa 0]else .inr (cK ((bL (fD m) 8 0).1+1,(64,18)))):=by
 have o:=hm.gv;refine jr (f:=mq n) (λi=>[aa (i:Int),aM m.vars,ay m.ao,al m.bb,al m.bc,ay m.next,al m.trans,al m.a1,bg m.a6,aa 0,aa 0,D.aw 1 ((fC m).map λ(k:Nat)=>[aa (k:Int)])]) (fD m) 8 _ (λp=>cK (p.1+1,(64,18))) ?_ ?_ 8 0 n oZ oZ
 .intro i ag;obtain⟨k,j⟩:∃k,(fC m)[i]?=some k:=⟨_,xaa ag⟩;have a:((fC m).map λ(k:Nat)=>[aa (k:Int)]).length=8:=rfl;have b:=yT ((i:Int)<((8:Nat):Int));have c:cS 8 (aa (i:Int))=some i:=oE ag;have h:((fC m).map λ(k:Nat)=>[aa (k:Int)])[i]?=some [aa (k:Int)]:=by rw[xag,j];rfl
  have d:aP false .add (aa (i:Int)) (aa 1)=some (aa ((i:Int)+1)):=by rw[ds oZ oZ]
  have e:fD m i=if 64<k then 18 else 0:=by unfold fD;rw[j];rfl
  generalize ((fC m).map λ(k:Nat)=>[aa (k:Int)])=l at*;by_cases g:64<k;.rw[e,xac g,xab dZ];simp only[mq,go_sem,a,b,c,h,vP,yT ((k:Int)>64),d,cK]
  rw[e,xab g,xac rfl];simp only[mq,go_sem,a,b,c,h,vP,yF ((k:Int)>64),bu i]
 have a:((fC m).map λ(k:Nat)=>[aa (k:Int)]).length=8:=rfl;simp only[mq,go_sem,a,show decide (((8:Nat):Int)<((8:Nat):Int))=false from rfl]
theorem ahY(A hk:D):aS (fs n) n [D.cP 166 (ay m.ao),A,hk,aa m.ao.length,aa 0,aM m.vars,ay m.ao,al m.bb,al m.bc,ay m.next,al m.trans,al m.a1,bg m.a6,aa 0,aa 0]=some (if(bL (iq m) m.ao.length 0).2=0 then .inl [A,hk,aM m.vars,ay m.ao,al m.bb,al m.bc,ay m.next,al m.trans,al m.a1,bg m.a6,aa 0,aa 0]else .inr (.inr (.inr (.inr (cK (2,bL (iq m) m.ao.length 0)))))):=by
 have h:=hm.gv;have g:=hm.aO.dl;refine jr (f:=fs n) (λi=>[D.cP 166 (ay m.ao),A,hk,aa m.ao.length,aa (i:Int),aM m.vars,ay m.ao,al m.bb,al m.bc,ay m.next,al m.trans,al m.a1,bg m.a6,aa 0,aa 0]) (iq m) (m.ao.length) _ (λp=> .inr (.inr (.inr (cK (2,p))))) ?_ ?_ _ 0 n oZ oZ
 .intro i ag;have b:=yT ((i:Int)<((m.ao.length:Nat):Int));have e:=ahB hm i ag;change o1 n [_,m.d,aa (i:Int)]=some (aa (iq m i))at e;by_cases c:iq m i=0
  .have a:(iq m i !=0)=false:=by simp[c]
   rw[xac c];simp only[fs,go_sem,b,fF,EE,e,a,bu i]
  have a:(iq m i !=0)=true:=by simpa using c
  rw[xab c];simp only[fs,go_sem,b,fF,EE,e,a,Dx,PI,cK]
 simp only[fs,go_sem,yF (((m.ao.length:Nat):Int)<((m.ao.length:Nat):Int))]
theorem ahZ(A hk:D):aS (fs n) n [D.cP 167 (ay m.ao),A,hk,aa m.ao.length,aa 0,aM m.vars,ay m.ao,al m.bb,al m.bc,ay m.next,al m.trans,al m.a1,bg m.a6,aa 0,aa 0]=some (if(bL (iQ m) m.ao.length 0).2=0 then .inl [A,hk,aM m.vars,ay m.ao,al m.bb,al m.bc,ay m.next,al m.trans,al m.a1,bg m.a6,aa 0,aa 0]else .inr (.inr (.inr (.inr (cK (2,bL (iQ m) m.ao.length 0)))))):=by
 have h:=hm.gv;have g:=hm.aO.dl;refine jr (f:=fs n) (λi=>[D.cP 167 (ay m.ao),A,hk,aa m.ao.length,aa (i:Int),aM m.vars,ay m.ao,al m.bb,al m.bc,ay m.next,al m.trans,al m.a1,bg m.a6,aa 0,aa 0]) (iQ m) (m.ao.length) _ (λp=> .inr (.inr (.inr (cK (2,p))))) ?_ ?_ _ 0 n oZ oZ
 .intro i ag;have b:=yT ((i:Int)<((m.ao.length:Nat):Int));have e:=ahx n m hm.aO.d i ag oZ;change u3 n [_,m.d,aa (i:Int)]=some (aa (iQ m i))at e;by_cases c:iQ m i=0
  .have a:(iQ m i !=0)=false:=by simp[c]
   rw[xac c];simp only[fs,go_sem,b,fF,EF,EG,e,a,bu i]
  have a:(iQ m i !=0)=true:=by simpa using c
  rw[xab c];simp only[fs,go_sem,b,fF,EF,EG,e,a,Dw,PH,cK]
 simp only[fs,go_sem,yF (((m.ao.length:Nat):Int)<((m.ao.length:Nat):Int))]
theorem ah0(A hk:D):aS (fs n) n [D.cP 168 (ay m.ao),A,hk,aa m.ao.length,aa 0,aM m.vars,ay m.ao,al m.bb,al m.bc,ay m.next,al m.trans,al m.a1,bg m.a6,aa 0,aa 0]=some (if(bL (ir m) m.ao.length 0).2=0 then .inl [A,hk,aM m.vars,ay m.ao,al m.bb,al m.bc,ay m.next,al m.trans,al m.a1,bg m.a6,aa 0,aa 0]else .inr (.inr (.inr (.inr (cK (2,bL (ir m) m.ao.length 0)))))):=by
 have h:=hm.gv;have g:=hm.aO.dl;refine jr (f:=fs n) (λi=>[D.cP 168 (ay m.ao),A,hk,aa m.ao.length,aa (i:Int),aM m.vars,ay m.ao,al m.bb,al m.bc,ay m.next,al m.trans,al m.a1,bg m.a6,aa 0,aa 0]) (ir m) (m.ao.length) _ (λp=> .inr (.inr (.inr (cK (2,p))))) ?_ ?_ _ 0 n oZ oZ
 .intro i ag;have b:=yT ((i:Int)<((m.ao.length:Nat):Int));have e:=ahC hm i ag;change u1 n [_,m.d,aa (i:Int)]=some (aa (ir m i))at e;by_cases c:ir m i=0
  .have a:(ir m i !=0)=false:=by simp[c]
   rw[xac c];simp only[fs,go_sem,b,fF,EH,EI,EJ,e,a,bu i]
  have a:(ir m i !=0)=true:=by simpa using c
  rw[xab c];simp only[fs,go_sem,b,fF,EH,EI,EJ,e,a,Dv,PG,cK]
 simp only[fs,go_sem,yF (((m.ao.length:Nat):Int)<((m.ao.length:Nat):Int))]
theorem EW(l:List Tm)(ah:l.length<=100/\∀t∈l,t.Ok/\t.aO<=660000)(k:Int)(nx:Bool)(A hk:D):aS (fs n) n [D.cP 170 (D.agg [aa k,al l,aD nx]),A,hk,aa l.length,aa 0,aM m.vars,ay m.ao,al m.bb,al m.bc,ay m.next,al m.trans,al m.a1,bg m.a6,aa 0,aa 0]=some (if(bL (dv m l nx) l.length 0).2=0 then .inl [A,hk,aM m.vars,ay m.ao,al m.bb,al m.bc,ay m.next,al m.trans,al m.a1,bg m.a6,aa 0,aa 0]else .inr (.inr (.inr (.inr (cK (k,bL (dv m l nx) l.length 0)))))):=by
 have o:=hm.gv;have j:=ah.1;have g:ae (D.agg [aa k,al l,aD nx]) 0=aa k:=rfl;have e:cw 3 (D.agg [aa k,al l,aD nx])=true:=rfl;refine jr (f:=fs n) (λi=>[D.cP 170 (D.agg [aa k,al l,aD nx]),A,hk,aa l.length,aa (i:Int),aM m.vars,ay m.ao,al m.bb,al m.bc,ay m.next,al m.trans,al m.a1,bg m.a6,aa 0,aa 0]) (dv m l nx) (l.length) _ (λp=> .inr (.inr (.inr (cK (k,p))))) ?_ ?_ _ 0 n oZ oZ
 .intro i ag;have b:=yT ((i:Int)<((l.length:Nat):Int));have h:=ahD hm l ah.2 k nx i ag;change u0 n [_,m.d,aa (i:Int)]=some (aa (dv m l nx i))at h;by_cases c:dv m l nx i=0
  .have a:(dv m l nx i !=0)=false:=by simp[c]
   rw[xac c];simp only[fs,go_sem,b,fF,nY,nZ,n0,n1,h,a,bu i]
  have a:(dv m l nx i !=0)=true:=by simpa using c
  rw[xab c];simp only[fs,go_sem,b,fF,nY,nZ,n0,n1,h,a,Du,PF,g,e,cK]
 simp only[fs,go_sem,yF (((l.length:Nat):Int)<((l.length:Nat):Int))]
theorem ah1(A hk:D):aS (fs n) n [D.cP 171 (ay m.next),A,hk,aa m.next.length,aa 0,aM m.vars,ay m.ao,al m.bb,al m.bc,ay m.next,al m.trans,al m.a1,bg m.a6,aa 0,aa 0]=some (if(bL (gE m) m.next.length 0).2=0 then .inl [A,hk,aM m.vars,ay m.ao,al m.bb,al m.bc,ay m.next,al m.trans,al m.a1,bg m.a6,aa 0,aa 0]else .inr (.inr (.inr (.inr (cK (5,bL (gE m) m.next.length 0)))))):=by
 have h:=hm.gv;have g:=hm.next.1
 refine jr (f:=fs n) (λi=>[D.cP 171 (ay m.next),A,hk,aa m.next.length,aa (i:Int),aM m.vars,ay m.ao,al m.bb,al m.bc,ay m.next,al m.trans,al m.a1,bg m.a6,aa 0,aa 0]) (gE m) (m.next.length) _ (λp=> .inr (.inr (.inr (cK (5,p))))) ?_ ?_ _ 0 n oZ oZ
 .intro i ag;have b:=yT ((i:Int)<((m.next.length:Nat):Int));have e:=ahE hm i ag;change qp n [_,m.d,aa (i:Int)]=some (aa (gE m i))at e;by_cases c:gE m i=0
  .have a:(gE m i !=0)=false:=by simp[c]
   rw[xac c];simp only[fs,go_sem,b,fF,EK,EL,EM,EN,EO,e,a,bu i]
  have a:(gE m i !=0)=true:=by simpa using c
  rw[xab c];simp only[fs,go_sem,b,fF,EK,EL,EM,EN,EO,e,a,Dt,PE,cK]
 simp only[fs,go_sem,yF (((m.next.length:Nat):Int)<((m.next.length:Nat):Int))]
theorem ah2(A hk:D):aS (fs n) n [D.cP 172 (bg m.a6),A,hk,aa m.a6.length,aa 0,aM m.vars,ay m.ao,al m.bb,al m.bc,ay m.next,al m.trans,al m.a1,bg m.a6,aa 0,aa 0]=some (if(bL (gF m) m.a6.length 0).2=0 then .inl [A,hk,aM m.vars,ay m.ao,al m.bb,al m.bc,ay m.next,al m.trans,al m.a1,bg m.a6,aa 0,aa 0]else .inr (.inr (.inr (.inr (cK (8,bL (gF m) m.a6.length 0)))))):=by
 have h:=hm.gv;have g:=hm.a6.1;refine jr (f:=fs n) (λi=>[D.cP 172 (bg m.a6),A,hk,aa m.a6.length,aa (i:Int),aM m.vars,ay m.ao,al m.bb,al m.bc,ay m.next,al m.trans,al m.a1,bg m.a6,aa 0,aa 0]) (gF m) (m.a6.length) _ (λp=> .inr (.inr (.inr (cK (8,p))))) ?_ ?_ _ 0 n oZ oZ
 .intro i ag;have b:=yT ((i:Int)<((m.a6.length:Nat):Int));have e:=ahF hm i ag;change o0 n [_,m.d,aa (i:Int)]=some (aa (gF m i))at e;by_cases c:gF m i=0
  .have a:(gF m i !=0)=false:=by simp[c]
   rw[xac c];simp only[fs,go_sem,b,fF,EP,ER,ES,ET,EU,EV,e,a,bu i]
  have a:(gF m i !=0)=true:=by simpa using c
  rw[xab c];simp only[fs,go_sem,b,fF,EP,ER,ES,ET,EU,EV,e,a,Ds,PD,cK]
 simp only[fs,go_sem,yF (((m.a6.length:Nat):Int)<((m.a6.length:Nat):Int))]
theorem ah3:fh n [ez m,aa 0,aM m.vars,ay m.ao,al m.bb,al m.bc,ay m.next,al m.trans,al m.a1,bg m.a6,aa 0,aa 0]=some (if(bL (iq m) m.ao.length 0).2=0 then .inl [ez m,aa 1,aM m.vars,ay m.ao,al m.bb,al m.bc,ay m.next,al m.trans,al m.a1,bg m.a6,aa 0,aa 0]else .inr (.inr (cK (2,bL (iq m) m.ao.length 0)))):=by
 have a:=ahY hm (ez m) (aa 0);have c:decide ((0:Int)<9)=true:=rfl;have e:cS 9 (aa 0)=some 0:=rfl;have g:iE false 1 (0*1) (ez m)=some (D.cP 166 (ay m.ao)):=rfl;have d:yI n [ay m.ao]=some (aa m.ao.length):=by simp only[yI,Pr,go_sem]
 have b:aP false .add (aa 0) (aa 1)=some (aa 1):=ds dZ dZ;by_cases f:(bL (iq m) m.ao.length 0).2=0;.rw[xac f]at a⊢;simp only[fh,go_sem,c,e,g,fF,EE,d,a,b]
 rw[xab f]at a⊢;simp only[fh,go_sem,c,e,g,fF,EE,d,a]
theorem ah4:fh n [ez m,aa 1,aM m.vars,ay m.ao,al m.bb,al m.bc,ay m.next,al m.trans,al m.a1,bg m.a6,aa 0,aa 0]=some (if(bL (iQ m) m.ao.length 0).2=0 then .inl [ez m,aa 2,aM m.vars,ay m.ao,al m.bb,al m.bc,ay m.next,al m.trans,al m.a1,bg m.a6,aa 0,aa 0]else .inr (.inr (cK (2,bL (iQ m) m.ao.length 0)))):=by
 have a:=ahZ hm (ez m) (aa 1);have c:decide ((1:Int)<9)=true:=rfl;have e:cS 9 (aa 1)=some 1:=rfl;have g:iE false 1 (1*1) (ez m)=some (D.cP 167 (ay m.ao)):=rfl;have d:yH n [ay m.ao]=some (aa m.ao.length):=by simp only[yH,Pq,go_sem]
 have b:aP false .add (aa 1) (aa 1)=some (aa 2):=ds dZ dZ;by_cases f:(bL (iQ m) m.ao.length 0).2=0;.rw[xac f]at a⊢;simp only[fh,go_sem,c,e,g,fF,EF,EG,d,a,b]
 rw[xab f]at a⊢;simp only[fh,go_sem,c,e,g,fF,EF,EG,d,a]
theorem ah5:fh n [ez m,aa 2,aM m.vars,ay m.ao,al m.bb,al m.bc,ay m.next,al m.trans,al m.a1,bg m.a6,aa 0,aa 0]=some (if(bL (ir m) m.ao.length 0).2=0 then .inl [ez m,aa 3,aM m.vars,ay m.ao,al m.bb,al m.bc,ay m.next,al m.trans,al m.a1,bg m.a6,aa 0,aa 0]else .inr (.inr (cK (2,bL (ir m) m.ao.length 0)))):=by
 have a:=ah0 hm (ez m) (aa 2);have c:decide ((2:Int)<9)=true:=rfl;have e:cS 9 (aa 2)=some 2:=rfl;have g:iE false 1 (2*1) (ez m)=some (D.cP 168 (ay m.ao)):=rfl;have d:yG n [ay m.ao]=some (aa m.ao.length):=by simp only[yG,Pp,go_sem]
 have b:aP false .add (aa 2) (aa 1)=some (aa 3):=ds dZ dZ;by_cases f:(bL (ir m) m.ao.length 0).2=0;.rw[xac f]at a⊢;simp only[fh,go_sem,c,e,g,fF,EH,EI,EJ,d,a,b]
 rw[xab f]at a⊢;simp only[fh,go_sem,c,e,g,fF,EH,EI,EJ,d,a]
theorem ah6:fh n [ez m,aa 3,aM m.vars,ay m.ao,al m.bb,al m.bc,ay m.next,al m.trans,al m.a1,bg m.a6,aa 0,aa 0]=some (if(bL (dv m m.bb false) m.bb.length 0).2=0 then .inl [ez m,aa 4,aM m.vars,ay m.ao,al m.bb,al m.bc,ay m.next,al m.trans,al m.a1,bg m.a6,aa 0,aa 0]else .inr (.inr (cK (3,bL (dv m m.bb false) m.bb.length 0)))):=by
 have a:=EW hm m.bb hm.bb 3 false (ez m) (aa 3);have c:decide ((3:Int)<9)=true:=rfl;have e:cS 9 (aa 3)=some 3:=rfl;have g:iE false 1 (3*1) (ez m)=some (D.cP 170 (D.agg [aa 3,al m.bb,aD false])):=rfl;have d:mw n [D.agg [aa 3,al m.bb,aD false]]=some (aa m.bb.length):=by have ai:cw 3 (D.agg [aa 3,al m.bb,aD false])=true:=rfl;have h:ae (D.agg [aa 3,al m.bb,aD false]) 1=al m.bb:=rfl;simp only[mw,yE,go_sem,ai,h]
 have b:aP false .add (aa 3) (aa 1)=some (aa 4):=ds dZ dZ;by_cases f:(bL (dv m m.bb false) m.bb.length 0).2=0;.rw[xac f]at a⊢;simp only[fh,go_sem,c,e,g,fF,nY,nZ,n0,n1,d,a,b]
 rw[xab f]at a⊢;simp only[fh,go_sem,c,e,g,fF,nY,nZ,n0,n1,d,a]
theorem ah7:fh n [ez m,aa 4,aM m.vars,ay m.ao,al m.bb,al m.bc,ay m.next,al m.trans,al m.a1,bg m.a6,aa 0,aa 0]=some (if(bL (dv m m.bc false) m.bc.length 0).2=0 then .inl [ez m,aa 5,aM m.vars,ay m.ao,al m.bb,al m.bc,ay m.next,al m.trans,al m.a1,bg m.a6,aa 0,aa 0]else .inr (.inr (cK (4,bL (dv m m.bc false) m.bc.length 0)))):=by
 have a:=EW hm m.bc hm.bc 4 false (ez m) (aa 4);have c:decide ((4:Int)<9)=true:=rfl;have e:cS 9 (aa 4)=some 4:=rfl;have g:iE false 1 (4*1) (ez m)=some (D.cP 170 (D.agg [aa 4,al m.bc,aD false])):=rfl;have d:mw n [D.agg [aa 4,al m.bc,aD false]]=some (aa m.bc.length):=by have ai:cw 3 (D.agg [aa 4,al m.bc,aD false])=true:=rfl;have h:ae (D.agg [aa 4,al m.bc,aD false]) 1=al m.bc:=rfl;simp only[mw,yE,go_sem,ai,h]
 have b:aP false .add (aa 4) (aa 1)=some (aa 5):=ds dZ dZ;by_cases f:(bL (dv m m.bc false) m.bc.length 0).2=0;.rw[xac f]at a⊢;simp only[fh,go_sem,c,e,g,fF,nY,nZ,n0,n1,d,a,b]
 rw[xab f]at a⊢;simp only[fh,go_sem,c,e,g,fF,nY,nZ,n0,n1,d,a]
theorem ah8:fh n [ez m,aa 5,aM m.vars,ay m.ao,al m.bb,al m.bc,ay m.next,al m.trans,al m.a1,bg m.a6,aa 0,aa 0]=some (if(bL (gE m) m.next.length 0).2=0 then .inl [ez m,aa 6,aM m.vars,ay m.ao,al m.bb,al m.bc,ay m.next,al m.trans,al m.a1,bg m.a6,aa 0,aa 0]else .inr (.inr (cK (5,bL (gE m) m.next.length 0)))):=by
 have a:=ah1 hm (ez m) (aa 5);have c:decide ((5:Int)<9)=true:=rfl;have e:cS 9 (aa 5)=some 5:=rfl;have g:iE false 1 (5*1) (ez m)=some (D.cP 171 (ay m.next)):=rfl;have d:yD n [ay m.next]=some (aa m.next.length):=by simp only[yD,Po,go_sem]
 have b:aP false .add (aa 5) (aa 1)=some (aa 6):=ds dZ dZ;by_cases f:(bL (gE m) m.next.length 0).2=0;.rw[xac f]at a⊢;simp only[fh,go_sem,c,e,g,fF,EK,EL,EM,EN,EO,d,a,b]
 rw[xab f]at a⊢;simp only[fh,go_sem,c,e,g,fF,EK,EL,EM,EN,EO,d,a]
theorem ah9:fh n [ez m,aa 6,aM m.vars,ay m.ao,al m.bb,al m.bc,ay m.next,al m.trans,al m.a1,bg m.a6,aa 0,aa 0]=some (if(bL (dv m m.trans true) m.trans.length 0).2=0 then .inl [ez m,aa 7,aM m.vars,ay m.ao,al m.bb,al m.bc,ay m.next,al m.trans,al m.a1,bg m.a6,aa 0,aa 0]else .inr (.inr (cK (6,bL (dv m m.trans true) m.trans.length 0)))):=by
 have a:=EW hm m.trans hm.trans 6 true (ez m) (aa 6);have c:decide ((6:Int)<9)=true:=rfl;have e:cS 9 (aa 6)=some 6:=rfl;have g:iE false 1 (6*1) (ez m)=some (D.cP 170 (D.agg [aa 6,al m.trans,aD true])):=rfl;have d:mw n [D.agg [aa 6,al m.trans,aD true]]=some (aa m.trans.length):=by have ai:cw 3 (D.agg [aa 6,al m.trans,aD true])=true:=rfl;have h:ae (D.agg [aa 6,al m.trans,aD true]) 1=al m.trans:=rfl;simp only[mw,yE,go_sem,ai,h]
 have b:aP false .add (aa 6) (aa 1)=some (aa 7):=ds dZ dZ;by_cases f:(bL (dv m m.trans true) m.trans.length 0).2=0;.rw[xac f]at a⊢;simp only[fh,go_sem,c,e,g,fF,nY,nZ,n0,n1,d,a,b]
 rw[xab f]at a⊢;simp only[fh,go_sem,c,e,g,fF,nY,nZ,n0,n1,d,a]
theorem aia:fh n [ez m,aa 7,aM m.vars,ay m.ao,al m.bb,al m.bc,ay m.next,al m.trans,al m.a1,bg m.a6,aa 0,aa 0]=some (if(bL (dv m m.a1 false) m.a1.length 0).2=0 then .inl [ez m,aa 8,aM m.vars,ay m.ao,al m.bb,al m.bc,ay m.next,al m.trans,al m.a1,bg m.a6,aa 0,aa 0]else .inr (.inr (cK (7,bL (dv m m.a1 false) m.a1.length 0)))):=by
 have a:=EW hm m.a1 hm.a1 7 false (ez m) (aa 7);have c:decide ((7:Int)<9)=true:=rfl;have e:cS 9 (aa 7)=some 7:=rfl;have g:iE false 1 (7*1) (ez m)=some (D.cP 170 (D.agg [aa 7,al m.a1,aD false])):=rfl;have d:mw n [D.agg [aa 7,al m.a1,aD false]]=some (aa m.a1.length):=by have ai:cw 3 (D.agg [aa 7,al m.a1,aD false])=true:=rfl;have h:ae (D.agg [aa 7,al m.a1,aD false]) 1=al m.a1:=rfl;simp only[mw,yE,go_sem,ai,h]
 have b:aP false .add (aa 7) (aa 1)=some (aa 8):=ds dZ dZ;by_cases f:(bL (dv m m.a1 false) m.a1.length 0).2=0;.rw[xac f]at a⊢;simp only[fh,go_sem,c,e,g,fF,nY,nZ,n0,n1,d,a,b]
 rw[xab f]at a⊢;simp only[fh,go_sem,c,e,g,fF,nY,nZ,n0,n1,d,a]
theorem aib:fh n [ez m,aa 8,aM m.vars,ay m.ao,al m.bb,al m.bc,ay m.next,al m.trans,al m.a1,bg m.a6,aa 0,aa 0]=some (if(bL (gF m) m.a6.length 0).2=0 then .inl [ez m,aa 9,aM m.vars,ay m.ao,al m.bb,al m.bc,ay m.next,al m.trans,al m.a1,bg m.a6,aa 0,aa 0]else .inr (.inr (cK (8,bL (gF m) m.a6.length 0)))):=by
 have a:=ah2 hm (ez m) (aa 8);have c:decide ((8:Int)<9)=true:=rfl;have e:cS 9 (aa 8)=some 8:=rfl;have g:iE false 1 (8*1) (ez m)=some (D.cP 172 (bg m.a6)):=rfl;have d:yC n [bg m.a6]=some (aa m.a6.length):=by simp only[yC,Pn,go_sem]
 have b:aP false .add (aa 8) (aa 1)=some (aa 9):=ds dZ dZ;by_cases f:(bL (gF m) m.a6.length 0).2=0;.rw[xac f]at a⊢;simp only[fh,go_sem,c,e,g,fF,EP,ER,ES,ET,EU,EV,d,a,b]
 rw[xab f]at a⊢;simp only[fh,go_sem,c,e,g,fF,EP,ER,ES,ET,EU,EV,d,a]
theorem aic:aS (fh n) n [ez m,aa 0,aM m.vars,ay m.ao,al m.bb,al m.bc,ay m.next,al m.trans,al m.a1,bg m.a6,aa 0,aa 0]=some (if(fu (jI m)).2.2=0 then .inl [aa 0,aa 0]else .inr (cK (fu (jI m)))):=by
 have c:=hm.gv;refine Tv (f:=fh n) (jI m) (λi=>[ez m,aa (i:Int),aM m.vars,ay m.ao,al m.bb,al m.bc,ay m.next,al m.trans,al m.a1,bg m.a6,aa 0,aa 0]) [aa 0,aa 0] cK ?_ ?_ n (by show 9<n;omega)
 .intro i a b
  match i,b with
  |0,b=>cases b;exact ah3 hm
  |1,b=>cases b;exact ah4 hm
  |2,b=>cases b;exact ah5 hm
  |3,b=>cases b;exact ah6 hm
  |4,b=>cases b;exact ah7 hm
  |5,b=>cases b;exact ah8 hm
  |6,b=>cases b;exact ah9 hm
  |7,b=>cases b;exact aia hm
  |8,b=>cases b;exact aib hm
  |j+9,b=>cases b
 show fh n [ez m,aa 9,aM m.vars,ay m.ao,al m.bb,al m.bc,ay m.next,al m.trans,al m.a1,bg m.a6,aa 0,aa 0]=_;simp only[fh,go_sem,show decide ((9:Int)<9)=false from rfl]
theorem aid:kA n [m.d]=some (cK (fE m)):=by
 have j:=hm.gv;have ad:=ahW hm;have c:=aic hm;have e:=ag2 n m.vars hm.hj (by have:=hm.aO.eg;omega) hm.zD;have f:=ahP n m hm.hj hm.aO.eg oZ;have fl:D.agg [aa (m.vars.length:Int),aa (m.ao.length:Int),aa (m.bb.length:Int),aa (m.bc.length:Int),aa (m.next.length:Int),aa (m.trans.length:Int),aa (m.a1.length:Int),aa (m.a6.length:Int)]=nX m:=rfl;have g:D.agg [.cP 166 (ay m.ao),.cP 167 (ay m.ao),.cP 168 (ay m.ao),.cP 170 (.agg [aa 3,al m.bb,aD false]),.cP 170 (.agg [aa 4,al m.bc,aD false]),.cP 171 (ay m.next),.cP 170 (.agg [aa 6,al m.trans,aD true]),.cP 170 (.agg [aa 7,al m.a1,aD false]),.cP 172 (bg m.a6)]=ez m:=rfl;have h:∀l,da (al l)=true:=λ_=>rfl;have i:∀t x,da (D.cP t x)=true:=λ_ _=>rfl;unfold fE;by_cases c1:(bL (fD m) 8 0).2=0
 case neg=>rw[xab c1]at ad⊢;simp only[kA,r5,go_sem,fl,ad]
 rw[xac c1]at ad⊢;by_cases c2:(hs m.vars).2=0
 case neg=>
  have a:((hs m.vars).2 !=0)=true:=by simpa using c2
  rw[xab c2];simp only[kA,r5,go_sem,fl,ad,e,a,cK]
 have a:((hs m.vars).2 !=0)=false:=by simp[c2]
 rw[xac c2];by_cases b3:30<jH m.vars;.have b:=yT (((jH m.vars:Nat):Int)>30);rw[xac b3];simp only[kA,r5,go_sem,fl,ad,e,a,f,b,cK]
 have b:=yF (((jH m.vars:Nat):Int)>30);rw[xab b3];by_cases eM:(fu (jI m)).2.2=0;.rw[xac eM]at c;rw[Ty _ eM];simp only[kA,r5,go_sem,fl,ad,e,a,f,b,h,i,g,c,cK]
 rw[xab eM]at c;simp only[kA,r5,go_sem,fl,ad,e,a,f,b,h,i,g,c]
theorem aie(h:(mF m).2=0):mF m=(0,0):=by unfold mF at h⊢;obtain⟨ab,ad⟩:=Tw.1 h;obtain⟨ai,a⟩:=Tw.1 ad;rw[pg,xac ab,pg,xac ai,mE _ _ _ a]
theorem aif:gr n [aa 0,aa 0,aa 2,aM m.vars,ay m.ao,al m.bb,al m.bc,ay m.next,al m.trans,al m.a1,bg m.a6,aa 0,aa 0]=some (if(mF m).2=0 then .inl [aa 0,aa 0,aa 3,aM m.vars,ay m.ao,al m.bb,al m.bc,ay m.next,al m.trans,al m.a1,bg m.a6,aa 0,aa 0]else .inr (.inr (cK (2,mF m)))):=by
 have d:=ahJ hm;have b:decide ((2:Int)<=8)=true:=rfl;have g:((2:Int)==2)=true:=rfl;have a:aP false .add (aa 2) (aa 1)=some (aa 3):=ds dZ dZ;by_cases e:(mF m).2=0
 .have h:=aie hm e;rw[h]at d⊢;have c:((0:Int) !=0)=false:=rfl;simp only[gr,go_sem,b,g,d,dT,c,a]
 rw[xab e];generalize mF m=p at*;have f:(p.2 !=0)=true:=by simpa using e
 simp only[gr,go_sem,b,g,d,dT,f,cK]
theorem aih:gr n [aa 0,aa 0,aa 3,aM m.vars,ay m.ao,al m.bb,al m.bc,ay m.next,al m.trans,al m.a1,bg m.a6,aa 0,aa 0]=some (if(bL (dv m m.bb false) m.bb.length 0).2=0 then .inl [aa 0,aa 0,aa 4,aM m.vars,ay m.ao,al m.bb,al m.bc,ay m.next,al m.trans,al m.a1,bg m.a6,aa 0,aa 0]else .inr (.inr (cK (3,bL (dv m m.bb false) m.bb.length 0)))):=by
 have d:=ED hm m.bb hm.bb false;have b:decide ((3:Int)<=8)=true:=rfl;have g:((3:Int)==2)=false:=rfl;have h:((3:Int)==3)=true:=rfl;have a:aP false .add (aa 3) (aa 1)=some (aa 4):=ds dZ dZ;by_cases e:(bL (dv m m.bb false) m.bb.length 0).2=0
 .have i:=mE _ _ _ e;rw[i]at d⊢;have c:((0:Int) !=0)=false:=rfl;simp only[gr,go_sem,b,g,h,d,dT,c,a]
 rw[xab e];generalize bL (dv m m.bb false) m.bb.length 0=p at*;have f:(p.2 !=0)=true:=by simpa using e
 simp only[gr,go_sem,b,g,h,d,dT,f,cK]
theorem aii:gr n [aa 0,aa 0,aa 4,aM m.vars,ay m.ao,al m.bb,al m.bc,ay m.next,al m.trans,al m.a1,bg m.a6,aa 0,aa 0]=some (if(bL (dv m m.bc false) m.bc.length 0).2=0 then .inl [aa 0,aa 0,aa 5,aM m.vars,ay m.ao,al m.bb,al m.bc,ay m.next,al m.trans,al m.a1,bg m.a6,aa 0,aa 0]else .inr (.inr (cK (4,bL (dv m m.bc false) m.bc.length 0)))):=by
 have d:=ED hm m.bc hm.bc false;have b:decide ((4:Int)<=8)=true:=rfl;have g:((4:Int)==2)=false:=rfl;have h:((4:Int)==3)=false:=rfl;have i:((4:Int)==4)=true:=rfl;have a:aP false .add (aa 4) (aa 1)=some (aa 5):=ds dZ dZ;by_cases e:(bL (dv m m.bc false) m.bc.length 0).2=0
 .have j:=mE _ _ _ e;rw[j]at d⊢;have c:((0:Int) !=0)=false:=rfl;simp only[gr,go_sem,b,g,h,i,d,dT,c,a]
 rw[xab e];generalize bL (dv m m.bc false) m.bc.length 0=p at*;have f:(p.2 !=0)=true:=by simpa using e
 simp only[gr,go_sem,b,g,h,i,d,dT,f,cK]
theorem aij:gr n [aa 0,aa 0,aa 5,aM m.vars,ay m.ao,al m.bb,al m.bc,ay m.next,al m.trans,al m.a1,bg m.a6,aa 0,aa 0]=some (if(bL (gE m) m.next.length 0).2=0 then .inl [aa 0,aa 0,aa 6,aM m.vars,ay m.ao,al m.bb,al m.bc,ay m.next,al m.trans,al m.a1,bg m.a6,aa 0,aa 0]else .inr (.inr (cK (5,bL (gE m) m.next.length 0)))):=by
 have d:=ahM hm;have b:decide ((5:Int)<=8)=true:=rfl;have g:((5:Int)==2)=false:=rfl;have h:((5:Int)==3)=false:=rfl;have i:((5:Int)==4)=false:=rfl;have j:((5:Int)==5)=true:=rfl;have a:aP false .add (aa 5) (aa 1)=some (aa 6):=ds dZ dZ;by_cases e:(bL (gE m) m.next.length 0).2=0
 .have k:=mE _ _ _ e;rw[k]at d⊢;have c:((0:Int) !=0)=false:=rfl;simp only[gr,go_sem,b,g,h,i,j,d,dT,c,a]
 rw[xab e];generalize bL (gE m) m.next.length 0=p at*
 have f:(p.2 !=0)=true:=by simpa using e
 simp only[gr,go_sem,b,g,h,i,j,d,dT,f,cK]
theorem aik:gr n [aa 0,aa 0,aa 6,aM m.vars,ay m.ao,al m.bb,al m.bc,ay m.next,al m.trans,al m.a1,bg m.a6,aa 0,aa 0]=some (if(bL (dv m m.trans true) m.trans.length 0).2=0 then .inl [aa 0,aa 0,aa 7,aM m.vars,ay m.ao,al m.bb,al m.bc,ay m.next,al m.trans,al m.a1,bg m.a6,aa 0,aa 0]else .inr (.inr (cK (6,bL (dv m m.trans true) m.trans.length 0)))):=by
 have d:=ED hm m.trans hm.trans true;have b:decide ((6:Int)<=8)=true:=rfl;have g:((6:Int)==2)=false:=rfl;have h:((6:Int)==3)=false:=rfl;have i:((6:Int)==4)=false:=rfl;have j:((6:Int)==5)=false:=rfl;have k:((6:Int)==6)=true:=rfl;have a:aP false .add (aa 6) (aa 1)=some (aa 7):=ds dZ dZ;by_cases e:(bL (dv m m.trans true) m.trans.length 0).2=0
 .have l:=mE _ _ _ e;rw[l]at d⊢;have c:((0:Int) !=0)=false:=rfl;simp only[gr,go_sem,b,g,h,i,j,k,d,dT,c,a]
 rw[xab e];generalize bL (dv m m.trans true) m.trans.length 0=p at*;have f:(p.2 !=0)=true:=by simpa using e
 simp only[gr,go_sem,b,g,h,i,j,k,d,dT,f,cK]
theorem ail:gr n [aa 0,aa 0,aa 7,aM m.vars,ay m.ao,al m.bb,al m.bc,ay m.next,al m.trans,al m.a1,bg m.a6,aa 0,aa 0]=some (if(bL (dv m m.a1 false) m.a1.length 0).2=0 then .inl [aa 0,aa 0,aa 8,aM m.vars,ay m.ao,al m.bb,al m.bc,ay m.next,al m.trans,al m.a1,bg m.a6,aa 0,aa 0]else .inr (.inr (cK (7,bL (dv m m.a1 false) m.a1.length 0)))):=by
 have d:=ED hm m.a1 hm.a1 false;have b:decide ((7:Int)<=8)=true:=rfl;have g:((7:Int)==2)=false:=rfl;have h:((7:Int)==3)=false:=rfl;have i:((7:Int)==4)=false:=rfl;have j:((7:Int)==5)=false:=rfl;have k:((7:Int)==6)=false:=rfl;have l:((7:Int)==7)=true:=rfl;have a:aP false .add (aa 7) (aa 1)=some (aa 8):=ds dZ dZ;by_cases e:(bL (dv m m.a1 false) m.a1.length 0).2=0
 .have o:=mE _ _ _ e;rw[o]at d⊢;have c:((0:Int) !=0)=false:=rfl;simp only[gr,go_sem,b,g,h,i,j,k,l,d,dT,c,a]
 rw[xab e];generalize bL (dv m m.a1 false) m.a1.length 0=p at*;have f:(p.2 !=0)=true:=by simpa using e
 simp only[gr,go_sem,b,g,h,i,j,k,l,d,dT,f,cK]
theorem aim:gr n [aa 0,aa 0,aa 8,aM m.vars,ay m.ao,al m.bb,al m.bc,ay m.next,al m.trans,al m.a1,bg m.a6,aa 0,aa 0]=some (if(bL (gF m) m.a6.length 0).2=0 then .inl [aa 0,aa 0,aa 9,aM m.vars,ay m.ao,al m.bb,al m.bc,ay m.next,al m.trans,al m.a1,bg m.a6,aa 0,aa 0]else .inr (.inr (cK (8,bL (gF m) m.a6.length 0)))):=by
 have d:=ahN hm;have b:decide ((8:Int)<=8)=true:=rfl;have g:((8:Int)==2)=false:=rfl;have h:((8:Int)==3)=false:=rfl;have i:((8:Int)==4)=false:=rfl;have j:((8:Int)==5)=false:=rfl;have k:((8:Int)==6)=false:=rfl;have l:((8:Int)==7)=false:=rfl;have o:((8:Int)==8)=true:=rfl;have a:aP false .add (aa 8) (aa 1)=some (aa 9):=ds dZ dZ;by_cases e:(bL (gF m) m.a6.length 0).2=0
 .have q:=mE _ _ _ e;rw[q]at d⊢;have c:((0:Int) !=0)=false:=rfl;simp only[gr,go_sem,b,g,h,i,j,k,l,o,d,dT,c,a]
 rw[xab e];generalize bL (gF m) m.a6.length 0=p at*;have f:(p.2 !=0)=true:=by simpa using e
 simp only[gr,go_sem,b,g,h,i,j,k,l,o,d,dT,f,cK]
theorem ain:aS (gr n) n [aa 0,aa 0,aa 2,aM m.vars,ay m.ao,al m.bb,al m.bc,ay m.next,al m.trans,al m.a1,bg m.a6,aa 0,aa 0]=some (if(fu (jI m)).2.2=0 then .inl [aa 0,aa 0]else .inr (cK (fu (jI m)))):=by
 have c:=hm.gv;rw[<-ahU];refine Tv (f:=gr n) (JY m) (λi=>[aa 0,aa 0,aa ((i+2:Nat):Int),aM m.vars,ay m.ao,al m.bb,al m.bc,ay m.next,al m.trans,al m.a1,bg m.a6,aa 0,aa 0]) [aa 0,aa 0] cK ?_ ?_ n (by show 7<n;omega)
 .intro i a b
  match i,b with
  |0,b=>cases b;exact aif hm
  |1,b=>cases b;exact aih hm
  |2,b=>cases b;exact aii hm
  |3,b=>cases b;exact aij hm
  |4,b=>cases b;exact aik hm
  |5,b=>cases b;exact ail hm
  |6,b=>cases b;exact aim hm
  |j+7,b=>cases b
 show gr n [aa 0,aa 0,aa 9,aM m.vars,ay m.ao,al m.bb,al m.bc,ay m.next,al m.trans,al m.a1,bg m.a6,aa 0,aa 0]=_;simp only[gr,go_sem,show decide ((9:Int)<=8)=false from rfl]
theorem aio:ly n [m.d]=some (cK (fE m)):=by
 have g:=hm.gv;have ad:=ahX hm;have c:=ain hm;have e:=ag8 n m.vars hm.hj (by have:=hm.aO.eg;omega) hm.zD;have f:=ahQ n m hm.hj hm.aO.eg oZ;have fl:D.aw 1 [[aa (m.vars.length:Int)],[aa (m.ao.length:Int)],[aa (m.bb.length:Int)],[aa (m.bc.length:Int)],[aa (m.next.length:Int)],[aa (m.trans.length:Int)],[aa (m.a1.length:Int)],[aa (m.a6.length:Int)]]=D.aw 1 ((fC m).map λ(k:Nat)=>[aa (k:Int)]):=rfl;unfold fE;by_cases c1:(bL (fD m) 8 0).2=0
 case neg=>rw[xab c1]at ad⊢;simp only[ly,rT,go_sem,fl,ad]
 rw[xac c1]at ad⊢;by_cases c2:(hs m.vars).2=0
 case neg=>
  have a:((hs m.vars).2 !=0)=true:=by simpa using c2
  rw[xab c2];simp only[ly,rT,go_sem,fl,ad,e,a,cK]
 rw[ahV c2]at e;have a:((0:Int) !=0)=false:=rfl;rw[xac c2];by_cases b3:30<jH m.vars
 .have b:=yT (((jH m.vars:Nat):Int)>30);rw[xac b3];simp only[ly,rT,go_sem,fl,ad,e,a,f,b,cK]
 have b:=yF (((jH m.vars:Nat):Int)>30);rw[xab b3];by_cases eM:(fu (jI m)).2.2=0;.rw[xac eM]at c;rw[Ty _ eM];simp only[ly,rT,go_sem,fl,ad,e,a,f,b,c,cK]
 rw[xab eM]at c;simp only[ly,rT,go_sem,fl,ad,e,a,f,b,c]
end
def sy(n:Nat):c4:= .slice 4 56 (gD n)
def zZ(n:Nat):c4:= .slice 7 104 (.struct [.str,iL n])
def qJ(n:Nat):c4:= .struct [BR,p5 n,sy n,sy n,p5 n,sy n,sy n,zZ n]
def aip(n:Nat):∀m,m<=n->(sy n).e8 m=true
 |0,_=>rfl|m+1,h=>by have:=tK n m oZ;simp only[sy,c4.e8,this]
def aiq(n:Nat):∀m,m<=n->(zZ n).e8 m=true
 |0,_=>rfl|1,_=>by simp[zZ,c4.e8]|m+2,h=>by have ab:=HG n m oZ;have ad:c4.e8 m .str=true:=p4 m .str rfl;simp only[zZ,c4.e8,lr,ab,ad,xby]
def air(n:Nat):∀m,m<=n->(qJ n).e8 m=true
 |0,_=>rfl|m+1,h=>by have ak:c4.e8 m BR=true:=p4 m BR rfl;simp only[qJ,c4.e8,lr,ak,NZ n m oZ,aip n m oZ,aiq n m oZ,xby]
theorem ais{P:Program}{t tv td tt ts tm tf:TypeId}(h:∀a b c d e f g i,c5 P (.struct [a,b,c,d,e,f,g,i]) t=(c5 P a tv&&(c5 P b td&&(c5 P c tt&&(c5 P d tt&&(c5 P e td&&(c5 P f tt&&(c5 P g tt&&(c5 P i ts&&true))))))))) (o:c5 P BR tv=true) (j:nr P p5 td) (m:∀y,c5 P (.slice 4 56 y) tt=c5 P y tm) (l:nr P gD tm) (aj:∀y,c5 P (.slice 7 104 (.struct [.str,y])) ts=(c5 P y tf&&true)) (k:nr P iL tf) (ah:decide (t<P.types.size)=true):nr P qJ t:=⟨λn=>air n n (xaQ _),λn=>by rw[qJ,h,o,j.ok n,sy,m,l.ok n,zZ,aj,k.ok n];rfl,xbe ah,λn=>rfl⟩
structure ph(m:bA):Prop where
 v:∀x∈m.vars,V.ok x
 d:∀x∈m.ao,x.Ok
 i:∀x∈m.bb,x.Ok
 mG:∀x∈m.bc,x.Ok
 n:∀x∈m.next,x.Ok
 t:∀x∈m.trans,x.Ok
 f:∀x∈m.a1,x.Ok
 s:∀x∈m.a6,x.name.size<=140737488351232/\x.f.Ok
def ait{n:Nat}{x:lZ}(h:iK (.struct [.str,iL n]) x):∃d:cp,x=d.cells/\d.name.size<=140737488351232/\d.f.Ok:=by obtain⟨a,b,rfl,g,c,e,rfl,i,rfl⟩:=h;obtain⟨s,rfl,aj⟩:=BS g;obtain⟨t,rfl,j⟩:=NY n i;exact⟨⟨s,t⟩,by simp[cp.cells,Fm.hU],aj,j⟩
end Go.Am
