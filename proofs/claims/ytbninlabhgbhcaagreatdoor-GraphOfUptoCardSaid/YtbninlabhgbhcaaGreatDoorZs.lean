/- Laws, on data. No condition. -/
import Derived.Test.YtbninlabhgbhcaaGreatDoorEngC
import Derived.Test.YtbninlabhgbhcaaGreatDoorCode
import Derived.Test.YtbninlabhgbhcaaGreatDoorEngS
import Derived.Test.YtbninlabhgbhcaaGreatDoorEngD
import Derived.Test.YtbninlabhgbhcaaGreatDoorWs
import Derived.Test.YtbninlabhgbhcaaGreatDoorLaws
set_option linter.all false
set_option linter.unnecessarySimpa false
attribute [simp] Go.Am.y8
namespace Go.Am
section
variable{bt:Bool}{a b:Int}
@[simp] theorem aDK:ag bt .lss (pw a) (.val (.int .u8 b))=some (ax (decide (a<b))):=rfl
@[simp] theorem Nx:ag bt .leq (pw a) (.val (.int .u8 b))=some (ax (decide (a<=b))):=rfl
@[simp] theorem aDL:ag bt .gtr (pw a) (.val (.int .u8 b))=some (ax (decide (a>b))):=rfl
@[simp] theorem Ny:ag bt .geq (pw a) (.val (.int .u8 b))=some (ax (decide (a>=b))):=rfl
@[simp] theorem ax5:ag bt .eql (pw a) (.val (.int .u8 b))=some (ax (a==b)):=rfl
end
def Nz{s:ByteArray}{i:Nat}{b:UInt8}(h:s[i]?=some b):qk (aT s) (R (i:Int))=some (pw b.toNat):=by simp[qk,aT,R,JI,h,nK,pw]
def ae4{s:ByteArray}{b:UInt8}(h:s[0]?=some b):qk (aT s) (R 0)=some (pw b.toNat):=Nz (i:=0) h
theorem ae5(n:Nat)(c:Int):zI n [pw c]=some (ax (sL c)):=by simp only[zI,aaB,sL,Ny,Nx,dS];cases decide (c>=97)<;>cases decide (c<=122)<;>cases decide (c>=65)<;>cases decide (c<=90)<;>rfl
theorem ax6(n:Nat)(c:Int):GI n [pw c]=some (ax (yM c)):=by simp only[GI,aaC,yM,Ny,Nx,dS];cases decide (c>=48)<;>cases decide (c<=57)<;>rfl
theorem ae6(n:Nat)(c:Int):GJ n [pw c]=some (ax (mG c)):=by simp only[GJ,aaD,mG,ae5,ax6,ax5,dS];cases sL c<;>cases yM c<;>cases(c==95)<;>rfl
theorem ae7(n:Nat)(c:Int):zf n [pw c]=some (ax (sL c)):=by simp only[zf,aac,sL,Ny,Nx,dS];cases decide (c>=97)<;>cases decide (c<=122)<;>cases decide (c>=65)<;>cases decide (c<=90)<;>rfl
theorem ax7(n:Nat)(c:Int):FP n [pw c]=some (ax (yM c)):=by simp only[FP,aad,yM,Ny,Nx,dS];cases decide (c>=48)<;>cases decide (c<=57)<;>rfl
def ae8(p:Int->Bool)(s:ByteArray):(∀j:Nat,j<nJ p s->oL p s j=true)/\oL p s (nJ p s)=false/\nJ p s<=s.size:=by
 unfold nJ;cases h:(List.range (s.size+1)).find? (λi=>!oL p s i)with
 |none=>
  exfalso;have aa:=List.find?_eq_none.1 h s.size (by simp);have:oL p s s.size=true:=by simpa using aa
  exact absurd (aj4 this) (xbZ _)
 |some m=>rw[List.find?_range_eq_some]at h;obtain⟨aa,ae,ay⟩:=h;refine⟨λj aI=>by simpa using ay j aI,by simpa using aa,by show m<=s.size;simp at ae;omega⟩
def ae9{p:Int->Bool}{s:ByteArray}{i:Nat}(h:oL p s i=true):∃b:UInt8,s[i]?=some b/\p b.toNat=true:=by
 unfold oL at h;split at h;.exact⟨_,by assumption,h⟩
 cases h
def afa{p:Int->Bool}{s:ByteArray}{i:Nat}(h:oL p s i=false):(s[i]?=none/\s.size<=i)\/∃b:UInt8,s[i]?=some b/\i<s.size/\p b.toNat=false:=by
 unfold oL at h;split at h
 .rename_i b ao;refine .inr ⟨b,ao,?_,h⟩;rw[Kz]at ao;by_cases aa:i<s.size;.exact aa
  rw[dif_neg aa]at ao;cases ao
 rename_i ao;refine .inl ⟨ao,?_⟩;rw[Kz]at ao;by_cases aa:i<s.size;.rw[dif_pos aa]at ao;cases ao
 omega
def ax8(n:Nat)(s:ByteArray)(aM:s.size<n)(aE:s.size<=9223372036854775807):CJ n [aT s,.val (.func (.func FO) #[] #[])]=some (R (nJ mG s)):=by
 obtain⟨aa,ae,ay⟩:=ae8 mG s;have key:bq (GK n) n [aT s,R 0]=some (.inl [R (nJ mG s)]):=by
  refine mi (λi=>[aT s,R i]) (nJ mG s) rfl ?_ ?_ (by omega);.intro i aj;obtain⟨b,ao,a1⟩:=ae9 (aa i aj);simp(disch:=omega) [GK,Nz ao,ae6,a1,eZ,show i<s.size by omega]
  rcases afa ae with⟨ao,a1⟩|⟨b,ao,b5,a1⟩;.simp[GK,show¬(nJ mG s<s.size) by omega]
  simp[GK,Nz ao,ae6,a1,b5]
 simp[CJ,R5,key]
def ax9(n:Nat)(s:ByteArray)(aM:s.size<n)(aE:s.size<=9223372036854775807):FR n [aT s,R 0,ax false]=some (R (nJ mG s)):=by
 obtain⟨aa,ae,ay⟩:=ae8 mG s;have one:∀(i:Nat)(b:UInt8),s[i]?=some b->i<s.size->FQ n [aT s,R i,ax false]=if mG b.toNat=true then some (.inl [aT s,R (i+1:Nat),ax false])else some (.inr (.inl [R i])):=by intro i b ao aj;simp(disch:=omega) [FQ,Nz ao,ax7,ae7,mG,eZ,aj];by_cases aya:((b.toNat:Int)=95)<;>cases yM b.toNat<;>cases sL b.toNat<;>simp[aya]
 have key:bq (FQ n) n [aT s,R 0,ax false]=some (.inl [R (nJ mG s)]):=by
  refine mi (λi=>[aT s,R i,ax false]) (nJ mG s) rfl ?_ ?_ (by omega);.intro i aj;obtain⟨b,ao,a1⟩:=ae9 (aa i aj);rw[one i b ao (by omega),xaa a1]
  rcases afa ae with⟨ao,a1⟩|⟨b,ao,b5,a1⟩;.simp[FQ,show¬(nJ mG s<s.size) by omega]
  rw[one _ b ao b5,xac (by simp[a1])]
 simp[FR,aae,key]
def vS(p:Nat->Prop)[DecidablePred p]:∀m:Nat,(∀j:Nat,j<m->¬p j)\/∃i,i<m/\p i/\∀j:Nat,j<i->¬p j
 |0=> .inl (by intro j aI;omega)
 |m+1=>by
  rcases vS p m with h|⟨i,aa,ae,ay⟩
  .by_cases hm:p m;.exact .inr ⟨m,by omega,hm,h⟩
   refine .inl λj aI=>?_;by_cases ayb:j=m;.subst ayb;exact hm
   exact h j (by omega)
  exact .inr ⟨i,by omega,ae,ay⟩
def ayc(n:Nat)(l:List ByteArray)(x:ByteArray)(aM:l.length<n)(aq:l.length<4000000000000000000):CL n [du l,aT x]=some (R (idxOf x l)):=by
 have step:∀(i:Nat)(y:ByteArray),l[i]?=some y->i<l.length->CK n [du l,aT x,R l.length,R i]=if x=y then some (.inr (.inr (R i)))else some (.inl [du l,aT x,R l.length,R (i+1:Nat)]):=by intro i y aK aj;obtain⟨_,rfl⟩:=xae.1 aK;simp(disch:=omega) [CK,du,aK,aj,eZ]
 rcases vS (λi=>l[i]?=some x) l.length with h|⟨i,aa,ae,ay⟩
 .have key:bq (CK n) n [du l,aT x,R l.length,R 0]=some (.inl []):=by
   refine mi (λi=>[du l,aT x,R l.length,R i]) l.length rfl ?_ ?_ aM;.intro i aj;have aK:=xab aj;rw[step i _ aK aj,xac];intro he;exact h i aj (by rw[aK,he])
   simp[CK]
  have e:(du l)= .ak 1 (l.map λs=>[aT s]):=rfl;simp[CL,R6,X3 h];rw[e]at key⊢;simp[key]
 have key:bq (CK n) n [du l,aT x,R l.length,R 0]=some (.inr (R i)):=by
  refine mi (λi=>[du l,aT x,R l.length,R i]) i rfl ?_ ?_ (by omega);.intro j aI;have aK:=xab (show j<l.length by omega);rw[step j _ aK (by omega),xac];intro he;exact ay j aI (by rw[aK,he])
  rw[step i x ae aa,xaa rfl]
 simp[CL,R6,X4 ay ae];have e:(du l)= .ak 1 (l.map λs=>[aT s]):=rfl;rw[e]at key⊢;simp[key]
def ayd(n:Nat)(l:List ByteArray)(x:ByteArray)(aM:l.length<n)(aq:l.length<4000000000000000000):GL n [du l,aT x]=some (ax (has x l)):=by simp[GL,aaE,ayc n l x aM aq,X5]
def aye(n:Nat)(l:List ByteArray)(x:ByteArray)(aM:l.length<n)(aq:l.length<4000000000000000000):Cr n [du l,aT x]=some (ax (has x l)):=by
 have step:∀(i:Nat)(y:ByteArray),l[i]?=some y->i<l.length->Cq n [du l,aT x,R i]=if y=x then some (.inr (.inr (ax true)))else some (.inl [du l,aT x,R (i+1:Nat)]):=by intro i y aK aj;obtain⟨_,rfl⟩:=xae.1 aK;simp(disch:=omega) [Cq,du,aK,aj,eZ]
 rcases vS (λi=>l[i]?=some x) l.length with h|⟨i,aa,ae,ay⟩
 .have key:bq (Cq n) n [du l,aT x,R 0]=some (.inl []):=by
   refine mi (λi=>[du l,aT x,R i]) l.length rfl ?_ ?_ aM;.intro i aj;have aK:=xab aj;rw[step i _ aK aj,xac];intro he;exact h i aj (by rw[aK,he])
   simp[Cq,du]
  simp[Cr,Rn,key,X7 h]
 have key:bq (Cq n) n [du l,aT x,R 0]=some (.inr (ax true)):=by
  refine mi (λi=>[du l,aT x,R i]) i rfl ?_ ?_ (by omega);.intro j aI;have aK:=xab (show j<l.length by omega);rw[step j _ aK (by omega),xac];intro he;exact ay j aI (by rw[aK,he])
  rw[step i x ae aa,xaa rfl]
 simp[Cr,Rn,key,X6 ae]
theorem ayf(n:Nat):Lr n []=some (du words):=rfl
theorem ayg:(D.ak 1 (FN.map λc=>[c]))=du words:=rfl
def U8(n:Nat)(s:ByteArray)(aM:s.size+24<n)(aE:s.size<=9223372036854775807):tg n [aT s]=some (ax (isName s)):=by
 have hw:words.length=24:=rfl;have aa:=ax8 n s (by omega) aE;have ae:=ayd n words s (by omega) (by omega);rcases X8 s with⟨fO,bP⟩|⟨b,fO,bP,ao⟩
 .simp[tg,R7,fO,isName,bP]
 simp only[tg,R7,isName,oL,ao,ae4 ao,ae5,aa,ae,ayg,ZA,fO,bP,QZ,Lc,Cf,Cg,dS];cases decide ((s.size:Int)<=24)<;>cases sL b.toNat<;>cases((nJ mG s:Int)==(s.size:Int))<;>cases has s words<;>rfl
def U9(n:Nat)(s:ByteArray)(aM:s.size+24<n)(aE:s.size<=9223372036854775807):s6 n [aT s]=some (ax (isName s)):=by
 have hw:words.length=24:=rfl;have aa:=ax9 n s (by omega) aE;have ae:=aye n words s (by omega) (by omega);rcases X8 s with⟨fO,bP⟩|⟨b,fO,bP,ao⟩
 .simp only[s6,Ro,QZ,Ce,dS,bP];simp[isName,bP]
 simp only[s6,Ro,isName,oL,ao,ae4 ao,ae7,aa,ae,ayf,bP,QZ,Lc,Ce,Cf,Cg,dS];cases decide ((s.size:Int)<=24)<;>cases sL b.toNat<;>cases((nJ mG s:Int)==(s.size:Int))<;>cases has s words<;>rfl
def ayh(n:Nat)(w v:V):CM n [w.d,.ref v.cells 0]=some (ax (decide (w.name=v.name))):=by simp[CM,R8,V.d,V.cells]
def ayi(n:Nat)(l:List V)(v:V)(aM:l.length<n)(aq:l.length<4000000000000000000):zK n [bd l,.fn (.func s5) [] [.ref v.cells 0]]=some (R (idxOf v.name (l.map V.name))):=by
 have hle:(l.map V.name).length=l.length:=by simp
 have step:∀(i:Nat)(y:V),l[i]?=some y->i<l.length->zJ n [bd l,.ref v.cells 0,R l.length,R i]=if y.name=v.name then some (.inr (.inr (R i)))else some (.inl [bd l,.ref v.cells 0,R l.length,R (i+1:Nat)]):=by intro i y aK aj;obtain⟨_,rfl⟩:=xae.1 aK;have aa:=ayh n l[i] v;simp only[V.d,V.cells]at aa;simp(disch:=omega) [zJ,bd,aj,eZ,V.cells,aa]
 have bU:∀x,zK n [bd l,.fn (.func s5) [] [x]]=J (bq (zJ n) n [bd l,x,R l.length,R 0]) (a5 λls=>some (R (-1))):=by intro x;simp only[zK,nS,R9];simp[bd]
 rw[bU];rcases vS (λi=>(l.map V.name)[i]?=some v.name) l.length with h|⟨i,aa,ae,ay⟩
 .have key:bq (zJ n) n [bd l,.ref v.cells 0,R l.length,R 0]=some (.inl []):=by
   refine mi (λi=>[bd l,.ref v.cells 0,R l.length,R i]) l.length rfl ?_ ?_ aM;.intro i aj;have aK:=xab aj;rw[step i _ aK aj,xac];intro he;exact h i aj (by rw[xai,aK,<-he];rfl)
   simp[zJ]
  rw[key,X3 (by rw[hle];exact h)];rfl
 have key:bq (zJ n) n [bd l,.ref v.cells 0,R l.length,R 0]=some (.inr (R i)):=by
  refine mi (λi=>[bd l,.ref v.cells 0,R l.length,R i]) i rfl ?_ ?_ (by omega);.intro j aI;have aK:=xab (show j<l.length by omega);rw[step j _ aK (by omega),xac];intro he;exact ay j aI (by rw[xai,aK,<-he];rfl)
  have aK:=xab aa;rw[step i _ aK aa,xaa];rw[xai,aK]at ae;simpa using ae
 rw[key,X4 ay ae];rfl
def ayj(n:Nat)(l:List V)(v:V)(aM:l.length<n)(aq:l.length<4000000000000000000):CN n [bd l,.fn (.func s5) [] [.ref v.cells 0]]=some (ax (has v.name (l.map V.name))):=by simp only[CN,nS,Sa,ayi n l v aM aq];simp[X5]
def Va{k:Nat}{es:List (List D)}{i:Nat}(h:i<=es.length):mc k (.ak k es) none (some (R (i:Int)))=some (.ak k (es.take i)):=by simp[mc,re,R,h]
def Vb(v:V):Bool:=v.bool&&(v.lo !=0||v.aj !=0)
def Vc(v:V):Bool:=!v.bool&&(decide (v.lo>v.aj)||uD v||decide (IntKind.i64.wrap (v.aj-v.lo)>=64))
theorem afb(seen:List V)(v:V):BW seen v=if !isName v.name then 12 else if has v.name (seen.map V.name)then 6 else if Vb v then 3 else if Vc v then 2 else 0:=rfl
def ln(l:List V):Prop:=l.length<1000000000000/\∀v∈l,m6 v.lo/\m6 v.aj/\v.name.size<=9223372036854775807
def Vd(n:Nat)(l:List V)(aq:ln l)(aM:l.length<n)(kJ:∀v∈l,v.name.size+24<n)(i:Nat)(aj:i<l.length):zL n [bd l,bd l,R l.length,R i]=if jo l i=0 then some (.inl [bd l,bd l,R l.length,R (i+1:Nat)])else some (.inr (.inr (.aR [R i,R (jo l i)]))):=by
 have aK:=xab aj;have aN:=aq.2 _ (xba aj);have bB:=aq.1;have e:jo l i=BW (l.take i) l[i]:=by simp only[jo,aK]
 rw[e];generalize hw:l[i]=v at*;have aa:=U8 n v.name (kJ v (hw▸xba aj)) (by omega);have ae:=ayj n (l.take i) v (by rw[xbu];omega) (by rw[xbu];omega);have ay:mc 4 (bd l) none (some (R (i:Int)))=some (bd (l.take i)):=by rw[bd,Va (by simp;omega),List.map_take.symm];rfl
 have a7:bh 4 (bd l) (R (i:Int))=some v.cells:=by simp[bd,aK,hw]
 have bZ:ag false .lss (R (i:Int)) (R (l.length:Int))=some (ax true):=by simp[aj]
 have cG:ag false .add (R (i:Int)) (R 1)=some (R (i+1:Nat)):=by rw[eZ (by omega) (by omega)];rfl
 have e7:ag false .sub (R v.aj) (R v.lo)=some (R (IntKind.i64.wrap (v.aj-v.lo))):=rfl;have hd:aQ true 4 0 v.cells=some v.d:=rfl;have h8:a6 4 v.d=true:=rfl;have aY:ab v.d 0=aT v.name:=rfl;have bw:ab v.d 1=ax v.bool:=rfl;have bO:ab v.d 2=R v.lo:=rfl;have b0:ab v.d 3=R v.aj:=rfl;have cZ:(D.ref [aT v.name,ax v.bool,R v.lo,R v.aj] 0)= .ref v.cells 0:=rfl;have a9:uD v=(decide ((if v.aj>v.lo then v.aj else v.lo)>255)||decide ((if v.aj<v.lo then v.aj else v.lo)< -255)):=rfl;rw[afb];simp only[zL,pE,ru,bZ,dS,lF,xav,a7,hd,h8,qq,aY,bw,bO,b0,cZ,Re,ZM,aa,ae,ay,Cg,oT,Fv,ZN,y9,cG,e7,Ce];rw[Vb,Vc,a9];cases isName v.name
 .cases decide ((if v.aj>v.lo then v.aj else v.lo)>255)<;>simp
 cases has v.name ((l.take i).map V.name)
 rotate_left
 .cases decide ((if v.aj>v.lo then v.aj else v.lo)>255)<;>simp
 generalize decide ((if v.aj>v.lo then v.aj else v.lo)>255)=eQ;generalize decide ((if v.aj<v.lo then v.aj else v.lo)< -255)=ez;generalize decide (v.lo>v.aj)=ho;generalize decide (IntKind.i64.wrap (v.aj-v.lo)>=64)=sH;generalize (v.lo !=0)=wG;generalize (v.aj !=0)=wH;cases v.bool<;>cases eQ<;>cases ez<;>cases ho<;>cases sH<;>cases wG<;>cases wH<;>rfl
def ayk(n:Nat)(l:List V)(aq:ln l)(aM:l.length<n)(kJ:∀v∈l,v.name.size+24<n):CO n [bd l]=some (.aR [R (kp l).1,R (kp l).2]):=by
 have bU:CO n [bd l]=J (bq (zL n) n [bd l,bd l,R l.length,R 0]) (a5 λls=>some (D.aR [R 0,R 0])):=by simp[CO,aaF,bd]
 rw[bU];rcases vS (λi=>jo l i≠0) l.length with h|⟨i,aa,ae,ay⟩
 .have bD:∀j:Nat,j<l.length->jo l j=0:=λj aI=>by simpa using h j aI
  have key:bq (zL n) n [bd l,bd l,R l.length,R 0]=some (.inl []):=by
   refine mi (λi=>[bd l,bd l,R l.length,R i]) l.length rfl ?_ ?_ aM;.intro i aj;rw[Vd n l aq aM kJ i aj,xaa (bD i aj)]
   simp[zL]
  rw[key,Ya bD];rfl
 have bD:∀j:Nat,j<i->jo l j=0:=λj aI=>by simpa using ay j aI
 have key:bq (zL n) n [bd l,bd l,R l.length,R 0]=some (.inr (.aR [R i,R (jo l i)])):=by
  refine mi (λi=>[bd l,bd l,R l.length,R i]) i rfl ?_ ?_ (by omega);.intro j aI;rw[Vd n l aq aM kJ j (by omega),xaa (bD j aI)]
  rw[Vd n l aq aM kJ i aa,xac ae]
 rw[key,X9 bD aa rfl ae];rfl
@[simp] theorem afc {a:Int}:ix .u64 (R a)=some (.val (.int .u64 (IntKind.u64.wrap a))):=rfl
theorem NA{k:IntKind}{a:Int}:ix .i64 (.val (.int k a))=some (R (IntKind.i64.wrap a)):=rfl
def Ve(n:Nat)(v:V)(aa:m6 v.lo)(ae:m6 v.aj):u7 n [v.d]=some (R v.span):=by
 have bw:ab v.d 1=ax v.bool:=rfl;have bO:ab v.d 2=R v.lo:=rfl;have b0:ab v.d 3=R v.aj:=rfl;have h8:a6 4 v.d=true:=rfl;simp only[u7,aaG,h8,qq,bw,bO,b0,lF,oT,dS,afc,NA];cases ao:v.bool with
 |true=>simp[V.X1 ao]
 |false=>
  by_cases b5:v.lo>v.aj;.simp[V.X2 ao b5,b5]
  have hle:v.lo<=v.aj:=by omega
  have aP:ag false .sub (.val (.int .u64 (IntKind.u64.wrap v.aj))) (.val (.int .u64 (IntKind.u64.wrap v.lo)))=some (.val (.int .u64 (v.aj-v.lo))):=by show some (D.val (.int .u64 (IntKind.u64.wrap (IntKind.u64.wrap v.aj-IntKind.u64.wrap v.lo))))=_;rw[X0 aa ae hle]
  have a2:ag false .lss (.val (.int .u64 (v.aj-v.lo))) (.val (.int .u64 1073741824))=some (ax (decide (v.aj-v.lo<1073741824))):=rfl;simp only[b5,decide_false,xan,xaz,aP,a2,dS,lF];by_cases hm:v.aj-v.lo<1073741824;.rw[V.PF ao hle hm];simp only[hm,decide_true,xav,NA,dS,wrap64 _ (show-9223372036854775808<=v.aj-v.lo by omega) (by omega)];rw[eZ (by omega) (by omega)];rfl
  rw[V.PG ao hle (by omega)];simp[hm]
def DP(n:Nat)(v:V)(aa:m6 v.lo)(ae:m6 v.aj):oV n [v.d]=some (R v.span):=by
 have bw:ab v.d 1=ax v.bool:=rfl;have bO:ab v.d 2=R v.lo:=rfl;have b0:ab v.d 3=R v.aj:=rfl;have h8:a6 4 v.d=true:=rfl;simp only[oV,aag,h8,qq,bw,bO,b0,lF,oT,dS,afc];cases ao:v.bool with
 |true=>simp[V.X1 ao]
 |false=>
  by_cases b5:v.lo>v.aj;.simp[V.X2 ao b5,b5]
  have hle:v.lo<=v.aj:=by omega
  have aP:ag false .sub (.val (.int .u64 (IntKind.u64.wrap v.aj))) (.val (.int .u64 (IntKind.u64.wrap v.lo)))=some (.val (.int .u64 (v.aj-v.lo))):=by show some (D.val (.int .u64 (IntKind.u64.wrap (IntKind.u64.wrap v.aj-IntKind.u64.wrap v.lo))))=_;rw[X0 aa ae hle]
  have a2:ag false .gtr (.val (.int .u64 (v.aj-v.lo))) (.val (.int .u64 1073741824))=some (ax (decide (v.aj-v.lo>1073741824))):=rfl;simp only[b5,decide_false,xan,xaz,aP,a2,dS,lF];by_cases hm:v.aj-v.lo>1073741824;.rw[V.PG ao hle (by omega)];simp only[hm,decide_true,xav,dS,qs,pE,NA];rfl
  simp only[hm,decide_false,xan,xaz,dS,qs,pE,NA,wrap64 _ (show-9223372036854775808<=v.aj-v.lo by omega) (by omega)];rw[eZ (by omega) (by omega)];simp only[dS];by_cases he:v.aj-v.lo=1073741824;.rw[V.PG ao hle (by omega),he];rfl
  rw[V.PF ao hle (by omega)]
def V.Bc(v:V):0<=v.span/\v.span<=1073741825:=by
 unfold V.span;split;.omega
 split;.omega
 split<;>omega
def ayl{i:Nat}(h:i<=62):((2:Int)^i)<=4611686018427387904/\0<(2:Int)^i:=by
 have aa:(2:Nat)^i<=2^62:=Nat.pow_le_pow_right (by omega) h;have ay:((2^i:Nat):Int)=2^i:=by simp
 have ae:(0:Int)<2^i:=Int.pow_pos (by omega);omega
def afd{bt:Bool}{i:Nat}(h:i<=62):ag bt .shl (R 1) (R (i:Int))=some (R ((2:Int)^i)):=by
 have UW:¬((i:Int)<0):=by omega
 have hm:min i IntKind.i64.bits=i:=by simp[IntKind.bits];omega
 obtain⟨aa,ae⟩:=ayl h;have e:IntKind.i64.wrap (1*2^(min i IntKind.i64.bits))=2^i:=by rw[hm,Int.one_mul];exact wrap64 _ (by omega) (by omega)
 simp only[ag,R,nK,UW,xaz,Int.toNat_natCast];rw[e]
def DQ{n:Int}(h:n<=1073741825):bitsOf n<=62/\(∀j:Nat,j<bitsOf n->(2:Int)^j<n)/\n<=2^bitsOf n:=by
 rcases vS (λi=>n<=(2:Int)^i) 40 with aa|⟨i,aa,ae,ay⟩;.exact absurd h (by have:=aa 39 (by omega);simp at this;omega)
 have h4:∀j:Nat,j<i->(2:Int)^j<n:=λj aI=>by have:=ay j aI;omega
 rw[aj3 h4 ae];exact⟨by omega,h4,ae⟩
def aym(n:Nat)(k:Int)(al:k<=1073741825)(aM:63<n):GN n [R k]=some (R (bitsOf k)):=by
 obtain⟨aa,ae,ay⟩:=DQ al;have key:bq (LC n) n [R k,R 0]=some (.inr (R (bitsOf k))):=by
  refine mi (λi=>[R k,R i]) (bitsOf k) rfl ?_ ?_ (by omega);.intro i aj;have:=ae i aj;simp(disch:=omega) [LC,afd,eZ,show((i:Int)<63) by omega,show¬(k<=(2:Int)^i) by omega]
  simp(disch:=omega) [LC,afd,show((bitsOf k:Int)<63) by omega,ay]
 simp[GN,aaH,key]
def ayn(n:Nat)(k:Int)(ar:-1000<=k)(al:k<=1073741825)(aM:63<n):FZ n [R k]=some (R (bitsOf k)):=by
 have key:∀(m:Nat)(k:Int)(acc gb:Nat),bitsOf k=m->k<=1073741825->acc+m<=1000->m<gb->bq (Ls n) gb [R k,R acc]=some (.inl [R (acc+m:Nat)]):=by
  intro m
  induction m with
  |zero=>
   intro k acc gb hm al aG yt;obtain⟨gb,rfl⟩:∃q,gb=q+1:=⟨gb-1,by omega⟩;have rp:¬k>1:=by intro an;have:=XZ an;omega
   rw[k7];simp[Ls,rp]
  |succ m ih=>
   intro k acc gb hm al aG yt;obtain⟨gb,rfl⟩:∃q,gb=q+1:=⟨gb-1,by omega⟩;have rp:k>1:=by
    refine xaY λan=>?_;have:bitsOf k=0:=by unfold bitsOf;rw[xaa (by omega)]
    omega
   have bA:=XZ rp;have aP:k.tdiv 2=k/2:=Int.tdiv_eq_ediv_of_nonneg (by omega);have a2:k.tmod 2=k%2:=Int.tmod_eq_emod_of_nonneg (by omega);have hle:=(DQ al).1;have yd:=ih (k/2+k%2) (acc+1) gb (by omega) (by omega) (by omega) (by omega);rw[k7];simp(disch:=omega) [Ls,rp,Zz,Fw,aP,a2,wrap64,eZ];have bS:((acc:Int)+1)=((acc+1:Nat):Int):=by omega
   rw[bS,yd]
   congr 4
   omega
 have:=key (bitsOf k) k 0 n rfl al (by have:=(DQ al).1;omega) (by have:=(DQ al).1;omega);simp only[xaB]at this;have e:(R ((0:Nat):Int))=R 0:=rfl;rw[e]at this;simp[FZ,aah,this]
theorem afe(n:Nat)(k:Int):Cs n [R k]=some (ax (decide (k>=-255)&&decide (k<=255))):=by simp only[Cs,aaf,Ce,Lc,dS];cases decide (k>=-255)<;>cases decide (k<=255)<;>rfl
def Vf(n:Nat)(l:List V)(i k:Nat)(aj:i<l.length)(al:k<i)(bB:l.length<1000000000000):FT n [bd l,R i,R k]=if(l[k]'(by omega)).name=l[i].name then some (.inr (.inr (.inr (.inr (.inr (.aR [R i,R 6]))))))else some (.inl [bd l,R i,R (k+1:Nat)]):=by
 have ra:k<l.length:=by omega
 have aa:l[k]?=some l[k]:=xab ra;have ae:l[i]?=some l[i]:=xab aj;simp(disch:=omega) [FT,bd,al,eZ,ra,aj,V.cells]
def ayo(n:Nat)(l:List V)(i:Nat)(aj:i<l.length)(bB:l.length<1000000000000)(aM:l.length<n):bq (FT n) n [bd l,R i,R 0]=if has l[i].name ((l.take i).map V.name)=true then some (.inr (.inr (.inr (.inr (.aR [R i,R 6])))))else some (.inl [bd l,R i]):=by
 rcases vS (λk=>(l.map V.name)[k]?=some l[i].name) i with h|⟨k,aa,ae,ay⟩
 .rw[aj6 h,xac (by simp)];refine mi (λk=>[bd l,R i,R k]) i rfl ?_ ?_ (by omega);.intro k al;rw[Vf n l i k aj al bB,xac];intro he;refine h k al ?_;rw[xai,xab (show k<l.length by omega),<-he];rfl
  simp[FT]
 have lC:k<l.length:=by omega
 have hw:=xab lC;have Kp:(l[k]).name=l[i].name:=by rw[xai,hw]at ae;simpa using ae
 rw[<-Kp,aj7 aa hw,xaa rfl];refine mi (λk=>[bd l,R i,R k]) k rfl ?_ ?_ (by omega);.intro j aI;rw[Vf n l i j aj (by omega) bB,xac];intro he;refine ay j aI ?_;rw[xai,xab (show j<l.length by omega),<-he];rfl
 rw[Vf n l i k aj aa bB,xaa Kp]
def Vg(n:Nat)(l:List V)(aq:ln l)(aM:l.length<n)(kJ:∀v∈l,v.name.size+24<n)(i:Nat)(aj:i<l.length):zg n [bd l,R i]=if jo l i=0 then some (.inl [bd l,R (i+1:Nat)])else some (.inr (.inr (.aR [R i,R (jo l i)]))):=by
 have aK:=xab aj;have aN:=aq.2 _ (xba aj);have bB:=aq.1;have e7:=ayo n l i aj aq.1 aM;have e:jo l i=BW (l.take i) l[i]:=by simp only[jo,aK]
 rw[e];generalize hw:l[i]=v at*;have aa:=U9 n v.name (kJ v (hw▸xba aj)) (by omega);have a7:bh 4 (bd l) (R (i:Int))=some v.cells:=by simp[bd,aK,hw]
 have bZ:ag false .lss (R (i:Int)) (R (l.length:Int))=some (ax true):=by simp[aj]
 have ayp:bJ (bd l)=some (R l.length):=by simp[bd]
 have cG:ag false .add (R (i:Int)) (R 1)=some (R (i+1:Nat)):=by rw[eZ (by omega) (by omega)];rfl
 have hd:aQ true 4 0 v.cells=some v.d:=rfl;have aY:aQ false 1 0 v.cells=some (aT v.name):=rfl;have bw:aQ false 1 1 v.cells=some (ax v.bool):=rfl;have bO:aQ false 1 2 v.cells=some (R v.lo):=rfl;have b0:aQ false 1 3 v.cells=some (R v.aj):=rfl;have h8:=DP n v aN.1 aN.2.1;rw[afb];rw[show Vc v=_ from aj5 ⟨aN.1,aN.2.1,by omega⟩];simp only[zg,pE,ru,ayp,bZ,dS,lF,xav,a7,hd,aY,bw,bO,b0,aa,e7,Cg,oT,Fv,y9,cG,Ce,afe,h8];rw[Vb];cases isName v.name
 .simp
 cases has v.name ((l.take i).map V.name)
 rotate_left
 .simp
 simp only[Bool.not_true,xan,xaz,dS,qs,pE,ru,a7,hd,aY,bw,bO,b0,oT,y9,afe,h8,Cg];generalize (decide (v.lo>=-255)&&decide (v.lo<=255))=eQ;generalize (decide (v.aj>=-255)&&decide (v.aj<=255))=ez;generalize decide (v.lo>v.aj)=ho;generalize decide (v.span>64)=sH;generalize (v.lo !=0)=wG;generalize (v.aj !=0)=wH;cases v.bool<;>cases eQ<;>cases ez<;>cases ho<;>cases sH<;>cases wG<;>cases wH<;>simp[cG]
def ayq(n:Nat)(l:List V)(aq:ln l)(aM:l.length<n)(kJ:∀v∈l,v.name.size+24<n):FY n [bd l]=some (.aR [R (kp l).1,R (kp l).2]):=by
 have bU:FY n [bd l]=J (bq (zg n) n [bd l,R 0]) (a5 λls=>some (D.aR [R 0,R 0])):=rfl;rw[bU];rcases vS (λi=>jo l i≠0) l.length with h|⟨i,aa,ae,ay⟩
 .have bD:∀j:Nat,j<l.length->jo l j=0:=λj aI=>by simpa using h j aI
  have key:bq (zg n) n [bd l,R 0]=some (.inl []):=by
   refine mi (λi=>[bd l,R i]) l.length rfl ?_ ?_ aM;.intro i aj;rw[Vg n l aq aM kJ i aj,xaa (bD i aj)]
   simp[zg,bd]
  rw[key,Ya bD];rfl
 have bD:∀j:Nat,j<i->jo l j=0:=λj aI=>by simpa using ay j aI
 have key:bq (zg n) n [bd l,R 0]=some (.inr (.aR [R i,R (jo l i)])):=by
  refine mi (λi=>[bd l,R i]) i rfl ?_ ?_ (by omega);.intro j aI;rw[Vg n l aq aM kJ j (by omega),xaa (bD j aI)]
  rw[Vg n l aq aM kJ i aa,xac ae]
 rw[key,X9 bD aa rfl ae];rfl
def n4(l:List cM)(x:ByteArray):Option Nat:=l.findIdx? (λd=>decide (d.name=x))
def fZ:Option Nat->Int
 |some i=>(i:Int)|none=>-1
def DR(o:Option Nat):decide (fZ o>=0)=o.isSome:=by cases o with|none=>rfl|some i=>simp[fZ]
def aff(o:Option Nat):decide (fZ o<0)=o.isNone:=by cases o with|none=>rfl|some i=>exact yF ((i:Int)<0)
def findIdx_cons{α:Type}(p:α->Bool)(a:α)(r:List α):(a::r).findIdx? p=if p a then some 0 else(r.findIdx? p).map (·+1):=by rw[xbN]
theorem V.lD(v:V):ab v.d 0=aT v.name:=rfl
theorem V.ef(v:V):aQ true 4 0 v.cells=some v.d:=rfl
theorem V.eU(v:V):a6 4 v.d=true:=rfl
theorem bl.lD(v:bl):ab v.d 0=aT v.name:=rfl
theorem bl.hn(v:bl):aQ true 5 0 v.cells=some v.d:=rfl
def bl.h7(v:bl):a6 5 v.d=true:=by unfold bl.d bl.cells;simp
theorem cM.lD(v:cM):ab v.d 0=aT v.name:=rfl
theorem cM.lH(v:cM):aQ true 7 0 v.cells=some v.d:=rfl
def cM.nO(v:cM):a6 7 v.d=true:=cM.agg v
def ayr(n:Nat)(d:V)(x:ByteArray):Hw n [d.d,.ref [aT x] 0]=some (ax (decide (d.name=x))):=by show L0 n d.d [aT x]=_;simp only[L0,go_sem,iK,V.eU,V.lD]
def ays(n:Nat)(l:List V)(x:ByteArray)(aM:l.length<n)(ao:l.length<1000000000):Ac n [bd l,D.fn (.func rA) [] [.ref [aT x] 0]]=some (R (fZ (eh l x))):=by
 have bU:(R ((0:Nat):Int))=R 0:=rfl;have aj:=dm (f:=Hx n) l (λi (_:Unit)=>[bd l,.ref [aT x] 0,R l.length,R (i:Int)]) (λr _=>match eh r x with|some j=>(Sum.inr (R ((l.length-r.length+j:Nat):Int)):List D⊕D)|none=> .inl []) (λ_ _=>True) ?_ ?_ n 0 () trivial (by omega) (xaj _)
 .rw[bU,xam,Nat.sub_self]at aj;have bA:Ac n [bd l,D.fn (.func rA) [] [.ref [aT x] 0]]=Hy n (bd l) (.ref [aT x] 0):=by
   simp only[Ac,nS]
  rw[bA];cases bQ:eh l x with|none=>rw[bQ]at aj;simp only[Hy,go_sem,eT,aj,fZ]|some j=>rw[bQ]at aj;simp only[xaB]at aj;simp only[Hy,go_sem,eT,aj,fZ]
 .intro _ _;have:eh [] x=none:=rfl;simp only[Hx,go_sem,yF ((l.length:Int)<l.length),this]
 intro i a _ aG aj _;have cD:=yT ((i:Int)<(l.length:Int));have an:eh (a::l.drop (i+1)) x=if decide (a.name=x)=true then some 0 else(eh (l.drop (i+1)) x).map (·+1):=findIdx_cons _ a _
 have e:l.length-(a::l.drop (i+1)).length=i:=by simp;omega
 have dq:l.length-(l.drop (i+1)).length=i+1:=by simp;omega
 have aa:=ayr n a x;by_cases ah:a.name=x;.right;rw[xao ah]at aa an;rw[an,xaa rfl,e];simp only[Hx,go_sem,cD,gS aG,V.ef,aa,xbp]
 left;rw[xaw ah]at aa an;rw[an,xac (by simp),e,dq];refine⟨(),?_,?_,trivial⟩;.simp only[Hx,go_sem,cD,gS aG,V.ef,aa,cr (bt:=false) (i:=i) (by omega)]
 cases eh (l.drop (i+1)) x with|none=>rfl|some j=>simp;omega
def ayt(n:Nat)(l:List V)(x:ByteArray)(aM:l.length<n)(ao:l.length<1000000000):Ad n [bd l,D.fn (.func rA) [] [.ref [aT x] 0]]=some (ax (eh l x).isSome):=by
 have bA:Ad n [bd l,D.fn (.func rA) [] [.ref [aT x] 0]]=L1 n (bd l) (.ref [aT x] 0):=by simp only[Ad,nS]
 rw[bA];simp only[L1,go_sem,ays n l x aM ao,DR]
def ayu(n:Nat)(d:bl)(x:ByteArray):Hz n [d.d,.ref [aT x] 0]=some (ax (decide (d.name=x))):=by show L2 n d.d [aT x]=_;simp only[L2,go_sem,iK,bl.h7,bl.lD]
def ayv(n:Nat)(l:List bl)(x:ByteArray)(aM:l.length<n)(ao:l.length<1000000000):Ae n [aU l,D.fn (.func rB) [] [.ref [aT x] 0]]=some (R (fZ (dg l x))):=by
 have bU:(R ((0:Nat):Int))=R 0:=rfl;have aj:=dm (f:=HA n) l (λi (_:Unit)=>[aU l,.ref [aT x] 0,R l.length,R (i:Int)]) (λr _=>match dg r x with|some j=>(Sum.inr (R ((l.length-r.length+j:Nat):Int)):List D⊕D)|none=> .inl []) (λ_ _=>True) ?_ ?_ n 0 () trivial (by omega) (xaj _)
 .rw[bU,xam,Nat.sub_self]at aj;have bA:Ae n [aU l,D.fn (.func rB) [] [.ref [aT x] 0]]=HB n (aU l) (.ref [aT x] 0):=by
   simp only[Ae,nS]
  rw[bA];cases bQ:dg l x with|none=>rw[bQ]at aj;simp only[HB,go_sem,eA,aj,fZ]|some j=>rw[bQ]at aj;simp only[xaB]at aj;simp only[HB,go_sem,eA,aj,fZ]
 .intro _ _;have:dg [] x=none:=rfl;simp only[HA,go_sem,yF ((l.length:Int)<l.length),this]
 intro i a _ aG aj _;have cD:=yT ((i:Int)<(l.length:Int));have an:dg (a::l.drop (i+1)) x=if decide (a.name=x)=true then some 0 else(dg (l.drop (i+1)) x).map (·+1):=findIdx_cons _ a _
 have e:l.length-(a::l.drop (i+1)).length=i:=by simp;omega
 have dq:l.length-(l.drop (i+1)).length=i+1:=by simp;omega
 have aa:=ayu n a x;by_cases ah:a.name=x;.right;rw[xao ah]at aa an;rw[an,xaa rfl,e];simp only[HA,go_sem,cD,fE aG,bl.hn,aa,xbp]
 left;rw[xaw ah]at aa an;rw[an,xac (by simp),e,dq];refine⟨(),?_,?_,trivial⟩;.simp only[HA,go_sem,cD,fE aG,bl.hn,aa,cr (bt:=false) (i:=i) (by omega)]
 cases dg (l.drop (i+1)) x with|none=>rfl|some j=>simp;omega
def ayw(n:Nat)(l:List bl)(x:ByteArray)(aM:l.length<n)(ao:l.length<1000000000):Af n [aU l,D.fn (.func rB) [] [.ref [aT x] 0]]=some (ax (dg l x).isSome):=by
 have bA:Af n [aU l,D.fn (.func rB) [] [.ref [aT x] 0]]=L3 n (aU l) (.ref [aT x] 0):=by simp only[Af,nS]
 rw[bA];simp only[L3,go_sem,ayv n l x aM ao,DR]
def ayx(n:Nat)(d:V)(x:ByteArray):Hm n [d.d,.ref [aT x] 0]=some (ax (decide (d.name=x))):=by show LS n d.d [aT x]=_;simp only[LS,go_sem,iK,V.eU,V.lD]
def ayy(n:Nat)(l:List V)(x:ByteArray)(aM:l.length<n)(ao:l.length<1000000000):z7 n [bd l,D.fn (.func Cp) [] [.ref [aT x] 0]]=some (R (fZ (eh l x))):=by
 have bU:(R ((0:Nat):Int))=R 0:=rfl;have aj:=dm (f:=Hn n) l (λi (_:Unit)=>[bd l,.ref [aT x] 0,R l.length,R (i:Int)]) (λr _=>match eh r x with|some j=>(Sum.inr (R ((l.length-r.length+j:Nat):Int)):List D⊕D)|none=> .inl []) (λ_ _=>True) ?_ ?_ n 0 () trivial (by omega) (xaj _)
 .rw[bU,xam,Nat.sub_self]at aj;have bA:z7 n [bd l,D.fn (.func Cp) [] [.ref [aT x] 0]]=Ho n (bd l) (.ref [aT x] 0):=by
   simp only[z7,nS]
  rw[bA];cases bQ:eh l x with|none=>rw[bQ]at aj;simp only[Ho,go_sem,eT,aj,fZ]|some j=>rw[bQ]at aj;simp only[xaB]at aj;simp only[Ho,go_sem,eT,aj,fZ]
 .intro _ _;have:eh [] x=none:=rfl;simp only[Hn,go_sem,yF ((l.length:Int)<l.length),this]
 intro i a _ aG aj _;have cD:=yT ((i:Int)<(l.length:Int));have an:eh (a::l.drop (i+1)) x=if decide (a.name=x)=true then some 0 else(eh (l.drop (i+1)) x).map (·+1):=findIdx_cons _ a _
 have e:l.length-(a::l.drop (i+1)).length=i:=by simp;omega
 have dq:l.length-(l.drop (i+1)).length=i+1:=by simp;omega
 have aa:=ayx n a x;by_cases ah:a.name=x;.right;rw[xao ah]at aa an;rw[an,xaa rfl,e];simp only[Hn,go_sem,cD,gS aG,V.ef,aa,xbp]
 left;rw[xaw ah]at aa an;rw[an,xac (by simp),e,dq];refine⟨(),?_,?_,trivial⟩;.simp only[Hn,go_sem,cD,gS aG,V.ef,aa,cr (bt:=false) (i:=i) (by omega)]
 cases eh (l.drop (i+1)) x with|none=>rfl|some j=>simp;omega
def ayz(n:Nat)(d:bl)(x:ByteArray):Hp n [d.d,.ref [aT x] 0]=some (ax (decide (d.name=x))):=by show LU n d.d [aT x]=_;simp only[LU,go_sem,iK,bl.h7,bl.lD]
def ayA(n:Nat)(l:List bl)(x:ByteArray)(aM:l.length<n)(ao:l.length<1000000000):z8 n [aU l,D.fn (.func rC) [] [.ref [aT x] 0]]=some (R (fZ (dg l x))):=by
 have bU:(R ((0:Nat):Int))=R 0:=rfl;have aj:=dm (f:=Hq n) l (λi (_:Unit)=>[aU l,.ref [aT x] 0,R l.length,R (i:Int)]) (λr _=>match dg r x with|some j=>(Sum.inr (R ((l.length-r.length+j:Nat):Int)):List D⊕D)|none=> .inl []) (λ_ _=>True) ?_ ?_ n 0 () trivial (by omega) (xaj _)
 .rw[bU,xam,Nat.sub_self]at aj;have bA:z8 n [aU l,D.fn (.func rC) [] [.ref [aT x] 0]]=Hr n (aU l) (.ref [aT x] 0):=by
   simp only[z8,nS]
  rw[bA];cases bQ:dg l x with|none=>rw[bQ]at aj;simp only[Hr,go_sem,eA,aj,fZ]|some j=>rw[bQ]at aj;simp only[xaB]at aj;simp only[Hr,go_sem,eA,aj,fZ]
 .intro _ _;have:dg [] x=none:=rfl;simp only[Hq,go_sem,yF ((l.length:Int)<l.length),this]
 intro i a _ aG aj _;have cD:=yT ((i:Int)<(l.length:Int));have an:dg (a::l.drop (i+1)) x=if decide (a.name=x)=true then some 0 else(dg (l.drop (i+1)) x).map (·+1):=findIdx_cons _ a _
 have e:l.length-(a::l.drop (i+1)).length=i:=by simp;omega
 have dq:l.length-(l.drop (i+1)).length=i+1:=by simp;omega
 have aa:=ayz n a x;by_cases ah:a.name=x;.right;rw[xao ah]at aa an;rw[an,xaa rfl,e];simp only[Hq,go_sem,cD,fE aG,bl.hn,aa,xbp]
 left;rw[xaw ah]at aa an;rw[an,xac (by simp),e,dq];refine⟨(),?_,?_,trivial⟩;.simp only[Hq,go_sem,cD,fE aG,bl.hn,aa,cr (bt:=false) (i:=i) (by omega)]
 cases dg (l.drop (i+1)) x with|none=>rfl|some j=>simp;omega
def ayB(n:Nat)(l:List bl)(x:ByteArray)(aM:l.length<n)(ao:l.length<1000000000):z9 n [aU l,D.fn (.func rC) [] [.ref [aT x] 0]]=some (ax (dg l x).isSome):=by
 have bA:z9 n [aU l,D.fn (.func rC) [] [.ref [aT x] 0]]=LV n (aU l) (.ref [aT x] 0):=by simp only[z9,nS]
 rw[bA];simp only[LV,go_sem,ayA n l x aM ao,DR]
def ayC(n:Nat)(d:bl)(x:ByteArray):Hs n [d.d,.ref [aT x] 0]=some (ax (decide (d.name=x))):=by show LX n d.d [aT x]=_;simp only[LX,go_sem,iK,bl.h7,bl.lD]
def ayD(n:Nat)(l:List bl)(x:ByteArray)(aM:l.length<n)(ao:l.length<1000000000):Aa n [aU l,D.fn (.func Co) [] [.ref [aT x] 0]]=some (R (fZ (dg l x))):=by
 have bU:(R ((0:Nat):Int))=R 0:=rfl;have aj:=dm (f:=Ht n) l (λi (_:Unit)=>[aU l,.ref [aT x] 0,R l.length,R (i:Int)]) (λr _=>match dg r x with|some j=>(Sum.inr (R ((l.length-r.length+j:Nat):Int)):List D⊕D)|none=> .inl []) (λ_ _=>True) ?_ ?_ n 0 () trivial (by omega) (xaj _)
 .rw[bU,xam,Nat.sub_self]at aj;have bA:Aa n [aU l,D.fn (.func Co) [] [.ref [aT x] 0]]=Hu n (aU l) (.ref [aT x] 0):=by
   simp only[Aa,nS]
  rw[bA];cases bQ:dg l x with|none=>rw[bQ]at aj;simp only[Hu,go_sem,eA,aj,fZ]|some j=>rw[bQ]at aj;simp only[xaB]at aj;simp only[Hu,go_sem,eA,aj,fZ]
 .intro _ _;have:dg [] x=none:=rfl;simp only[Ht,go_sem,yF ((l.length:Int)<l.length),this]
 intro i a _ aG aj _;have cD:=yT ((i:Int)<(l.length:Int));have an:dg (a::l.drop (i+1)) x=if decide (a.name=x)=true then some 0 else(dg (l.drop (i+1)) x).map (·+1):=findIdx_cons _ a _
 have e:l.length-(a::l.drop (i+1)).length=i:=by simp;omega
 have dq:l.length-(l.drop (i+1)).length=i+1:=by simp;omega
 have aa:=ayC n a x;by_cases ah:a.name=x;.right;rw[xao ah]at aa an;rw[an,xaa rfl,e];simp only[Ht,go_sem,cD,fE aG,bl.hn,aa,xbp]
 left;rw[xaw ah]at aa an;rw[an,xac (by simp),e,dq];refine⟨(),?_,?_,trivial⟩;.simp only[Ht,go_sem,cD,fE aG,bl.hn,aa,cr (bt:=false) (i:=i) (by omega)]
 cases dg (l.drop (i+1)) x with|none=>rfl|some j=>simp;omega
def ayE(n:Nat)(d:cM)(x:ByteArray):GW n [d.d,.ref [aT x] 0]=some (ax (decide (d.name=x))):=by show LF n d.d [aT x]=_;simp only[LF,go_sem,iK,cM.nO,cM.lD]
def ayF(n:Nat)(l:List cM)(x:ByteArray)(aM:l.length<n)(ao:l.length<1000000000):zN n [bR l,D.fn (.func rD) [] [.ref [aT x] 0]]=some (R (fZ (n4 l x))):=by
 have bU:(R ((0:Nat):Int))=R 0:=rfl;have aj:=dm (f:=GX n) l (λi (_:Unit)=>[bR l,.ref [aT x] 0,R l.length,R (i:Int)]) (λr _=>match n4 r x with|some j=>(Sum.inr (R ((l.length-r.length+j:Nat):Int)):List D⊕D)|none=> .inl []) (λ_ _=>True) ?_ ?_ n 0 () trivial (by omega) (xaj _)
 .rw[bU,xam,Nat.sub_self]at aj;have bA:zN n [bR l,D.fn (.func rD) [] [.ref [aT x] 0]]=GY n (bR l) (.ref [aT x] 0):=by
   simp only[zN,nS]
  rw[bA];cases bQ:n4 l x with|none=>rw[bQ]at aj;simp only[GY,go_sem,iT,aj,fZ]|some j=>rw[bQ]at aj;simp only[xaB]at aj;simp only[GY,go_sem,iT,aj,fZ]
 .intro _ _;have:n4 [] x=none:=rfl;simp only[GX,go_sem,yF ((l.length:Int)<l.length),this]
 intro i a _ aG aj _;have cD:=yT ((i:Int)<(l.length:Int));have an:n4 (a::l.drop (i+1)) x=if decide (a.name=x)=true then some 0 else(n4 (l.drop (i+1)) x).map (·+1):=findIdx_cons _ a _
 have e:l.length-(a::l.drop (i+1)).length=i:=by simp;omega
 have dq:l.length-(l.drop (i+1)).length=i+1:=by simp;omega
 have aa:=ayE n a x;by_cases ah:a.name=x;.right;rw[xao ah]at aa an;rw[an,xaa rfl,e];simp only[GX,go_sem,cD,mV aG,cM.lH,aa,xbp]
 left;rw[xaw ah]at aa an;rw[an,xac (by simp),e,dq];refine⟨(),?_,?_,trivial⟩;.simp only[GX,go_sem,cD,mV aG,cM.lH,aa,cr (bt:=false) (i:=i) (by omega)]
 cases n4 (l.drop (i+1)) x with|none=>rfl|some j=>simp;omega
def ayG(n:Nat)(l:List cM)(x:ByteArray)(aM:l.length<n)(ao:l.length<1000000000):zO n [bR l,D.fn (.func rD) [] [.ref [aT x] 0]]=some (ax (n4 l x).isSome):=by
 have bA:zO n [bR l,D.fn (.func rD) [] [.ref [aT x] 0]]=LG n (bR l) (.ref [aT x] 0):=by simp only[zO,nS]
 rw[bA];simp only[LG,go_sem,ayF n l x aM ao,DR]
structure tJ(f:Tm->Tm):Prop where
 op:∀t,(f t).op=t.op
 num:∀t,(f t).num=t.num
 name:∀t,(f t).name=t.name
 a4:∀t,(f t).a4=t.a4.map f
theorem Vh:tJ kC:=⟨λt=>by rw[IT];rfl,λt=>by rw[IT];rfl,λt=>by rw[IT];rfl,λt=>by rw[IT];rfl⟩
theorem afg:tJ gx:=⟨λt=>by rw[DE];rfl,λt=>by rw[DE];rfl,λt=>by rw[DE];rfl,λt=>by rw[DE];rfl⟩
def afh(vs:List V)(nx:Bool)(f:Tm->Tm):∀(ks:List Tm),(∀k∈ks,dQ vs nx (f k)=dQ vs nx k)->ed vs nx (ks.map f)=ed vs nx ks
 |[],_=>rfl|k::r,h=>by rw[xaA,ed,ed,h k (by simp),afh vs nx f r λk al=>h k (by simp[al])]
def ayH{f:Tm->Tm}(a8:tJ f)(t:Tm)(l:List Y):gR (f t) l=gR t l:=by unfold gR;rw[a8.op,a8.a4,xai];cases al:t.a4[1]? with|none=>rfl|some k=>simp only[xaC,a8.op,a8.num]
def ayI{f:Tm->Tm}(a8:tJ f)(vs:List V)(nx:Bool)(t:Tm):dQ vs nx (f t)=dQ vs nx t:=by
 refine Tm.ind (P:=λt=>dQ vs nx (f t)=dQ vs nx t) ?_ t;intro t ih;have ay:kD vs nx (f t)=kD vs nx t:=by simp only[kD,a8.op,a8.num,a8.name]
 rw[n1,n1 vs nx t,a8.op,a8.a4,ay,afh vs nx f t.a4 ih,ayH a8]
def ayJ{f:Tm->Tm}(a8:tJ f)(t:Tm):ia (f t)=ia t:=by simp only[ia,a8.op,a8.num,a8.name,a8.a4,xaW]
def afi(f:Tm->Tm):∀(ks:List Tm),(∀k∈ks,∀d n,c9 (f k) d n=c9 k d n)->∀d n,fm (ks.map f) d n=fm ks d n
 |[],_,_,_=>rfl|k::r,h,d,n=>by rw[xaA,fm,fm,h k (by simp),afi f r λk al=>h k (by simp[al])]
def ayK{f:Tm->Tm}(a8:tJ f)(t:Tm):∀d n,c9 (f t) d n=c9 t d n:=by refine Tm.ind (P:=λt=>∀d n,c9 (f t) d n=c9 t d n) ?_ t;intro t ih d n;rw[vF,vF t,ayJ a8,a8.a4,afi f t.a4 ih]
def Vi{f:Tm->Tm}(a8:tJ f)(vs:List V)(nx:Bool)(t:Tm):jI vs nx (f t)=jI vs nx t:=by unfold jI;rw[ayK a8,ayI a8]
structure DS(l:List bl)(t:Tm)(p:Tm×Int):Prop where
 a:∀n,13301000000<n->mq n [t.d,aU l]=some (.aR [(if p.2=0 then kC p.1 else fD).d,R p.2])
 b:∀n,13301000000<n->mm n [t.d,aU l]=some (.aR [(if p.2=0 then gx p.1 else fD).d,R p.2])
 x:p.2=0->p.1.cB/\p.1.bp<=660000/\(c9 p.1 1 0).1=0/\(kC p.1).cB/\(gx p.1).cB/\∃h,kc l h t p.1
def afj{l:List bl}(aq:hV 660000 l)(DT:l.length<=100)(t:Tm)(bs:t.cB)(aJ:t.bp<=660000):∃p,DS l t p:=by
 by_cases ar:(c9 t 1 0).1=0
 case neg=>exact⟨(fD,(c9 t 1 0).1),λn aM=>by rw[xac ar];exact(UD aq n t bs aJ (by omega)).1 ar,λn aM=>by rw[xac ar];exact(UF aq n t bs aJ (by omega)).1 ar,λh=>absurd h ar⟩
 cases aw:r5 l t with
 |false=>exact⟨(fD,14),λn aM=>(UD aq n t bs aJ (by omega)).2.1 ar aw,λn aM=>(UF aq n t bs aJ (by omega)).2.1 ar aw,λh=>by cases h⟩
 |true=>
  obtain⟨X,kB⟩:=awt aq aJ ((awF l t).1 aw);have fH:(l.length+1)*(660000+1)+660000<=70000000:=by omega
  generalize (l.length+1)*(660000+1)+660000=bA at*;have A:∀n,13301000000<n->_:=λn aM=>(UD aq n t bs aJ (by omega)).2.2 _ X ar aw kB (by omega);have B:∀n,13301000000<n->_:=λn aM=>(UF aq n t bs aJ (by omega)).2.2 _ X ar aw kB (by omega);obtain⟨bw,bO⟩:=Uv X 1 0 (by omega);rw[bw]at A;by_cases ay:(c9 X 1 0).1=0
  case neg=>simp only[ay,xaz]at A B;exact⟨(fD,(c9 X 1 0).1),λn aM=>by rw[xac ay];exact A n aM,λn aM=>by rw[xac ay];exact B n aM,λh=>absurd h ay⟩
  simp only[ay,xav]at A B;have a8:=adY X 1 0 (by omega) ay;have afk:=kB.ok aq bs aJ;have gT:=awM X 1 0 ay;have FE:=(Dm X 1 0).2 ay;have afl:=(adT aq kB bs aJ).1;rw[a8]at A afl;exact⟨(X,0),A,B,λ_=>⟨afk.1,by simp only;omega,ay,afl,axh X afk.1,bA,kB⟩⟩
open Classical in
noncomputable def dF(l:List bl)(t:Tm):Tm×Int:=if h:∃p,DS l t p then Classical.choose h else(fD,0)
def afm{l:List bl}{t:Tm}(h:∃p,DS l t p):DS l t (dF l t):=by unfold dF;rw[dif_pos h];exact Classical.choose_spec h
noncomputable def gY(m:av)(nx:Bool)(t:Tm):Y×Int:=if(dF m.aB t).2≠0 then(fo,(dF m.aB t).2)else jI m.vars nx (dF m.aB t).1
noncomputable def pc(m:av)(nx:Bool)(t:Tm):Int:=if((gY m nx t).2==0&&!(gY m nx t).1.b)=true then 13 else(gY m nx t).2
structure DU(m:av):Prop where
 d:hV 660000 m.aB
 dl:m.aB.length<=100
 iB:m.vars.length<=100
def DU.Vj{m:av}(h:DU m){t:Tm}(bs:t.cB)(aJ:t.bp<=660000):DS m.aB t (dF m.aB t):=afm (afj h.d h.dl t bs aJ)
theorem afn:D.agg [ax false,R 0,R 0]=fo.d:=rfl
theorem tK(y:Y):ab y.d 0=ax y.b:=rfl
theorem afo(y:Y):ab y.d 1=R y.lo:=rfl
theorem afp(y:Y):ab y.d 2=R y.aj:=rfl
theorem pZ(y:Y):a6 3 y.d=true:=rfl
theorem afq(y:Y):D.agg [ax y.b,R y.lo,R y.aj]=y.d:=rfl
section
variable{m:av}(hm:DU m)(n:Nat)(aM:13301000000<n)
include hm aM
theorem Vk{t:Tm}(bs:t.cB)(aJ:t.bp<=660000)(nx:Bool):tl n [m.d,t.d,ax nx]=some (.aR [(gY m nx t).1.d,R (gY m nx t).2]):=by
 have oG:=hm.Vj bs aJ;have ke:=hm.iB;unfold gY;generalize dF m.aB t=p at*;have dB:=oG.a n aM;by_cases ar:p.2=0
 .obtain⟨x1,vQ,NB,afr,afs,_⟩:=oG.x ar;have bP:(p.2 !=0)=false:=by simp[ar]
  rw[xaa ar]at dB;have bb:=aeg n m.vars (kC p.1) nx (by rw[UH];omega) afr (by omega);rw[Vi Vh]at bb;rw[xac (by simpa using ar)];simp only[tl,Sn,go_sem,av.agg,av.aY,av.bw,dB,bP,bb,pZ,tK,afo,afp,afq]
 have bP:(p.2 !=0)=true:=by simpa using ar
 rw[xac ar]at dB;rw[xaa ar];simp only[tl,Sn,go_sem,av.agg,av.aY,av.bw,dB,bP,afn]
theorem Vl{t:Tm}(bs:t.cB)(aJ:t.bp<=660000)(nx:Bool):s9 n [m.d,t.d,ax nx]=some (.aR [(gY m nx t).1.d,R (gY m nx t).2]):=by
 have oG:=hm.Vj bs aJ;have ke:=hm.iB;unfold gY;generalize dF m.aB t=p at*;have dB:=oG.b n aM;by_cases ar:p.2=0
 .obtain⟨x1,vQ,NB,afr,afs,_⟩:=oG.x ar;have bP:(p.2 !=0)=false:=by simp[ar]
  rw[xaa ar]at dB;have bb:=aeh n m.vars (gx p.1) nx (by rw[Nj];omega) afs (by omega);rw[Vi afg]at bb;rw[xac (by simpa using ar)];simp only[s9,RV,go_sem,av.agg,av.aY,av.bw,dB,bP,bb,pZ,tK,afo,afp,afq]
 have bP:(p.2 !=0)=true:=by simpa using ar
 rw[xac ar]at dB;rw[xaa ar];simp only[s9,RV,go_sem,av.agg,av.aY,av.bw,dB,bP,afn]
theorem aft{t:Tm}(bs:t.cB)(aJ:t.bp<=660000)(nx:Bool):xu n [m.d,t.d,ax nx]=some (R (pc m nx t)):=by
 have bb:=Vk hm n aM bs aJ nx;unfold pc;by_cases h:((gY m nx t).2==0&&!(gY m nx t).1.b)=true;.rw[xaa h];simp only[xu,So,go_sem,av.agg,av.aY,av.bw,av.bO,av.b0,av.cZ,av.dd,av.de,av.dp,av.eta,bb,pZ,tK,h]
 have bD:((gY m nx t).2==0&&!(gY m nx t).1.b)=false:=by simpa using h
 rw[xac h];simp only[xu,So,go_sem,av.agg,av.aY,av.bw,av.bO,av.b0,av.cZ,av.dd,av.de,av.dp,av.eta,bb,pZ,tK,bD]
theorem afu{t:Tm}(bs:t.cB)(aJ:t.bp<=660000)(nx:Bool):xm n [m.d,t.d,ax nx]=some (R (pc m nx t)):=by
 have bb:=Vl hm n aM bs aJ nx;unfold pc;by_cases h:((gY m nx t).2==0&&!(gY m nx t).1.b)=true;.rw[xaa h];simp only[xm,RW,go_sem,av.agg,av.aY,av.bw,av.bO,av.b0,av.cZ,av.dd,av.de,av.dp,av.eta,bb,pZ,tK,h]
 have bD:((gY m nx t).2==0&&!(gY m nx t).1.b)=false:=by simpa using h
 rw[xac h];simp only[xm,RW,go_sem,av.agg,av.aY,av.bw,av.bO,av.b0,av.cZ,av.dd,av.de,av.dp,av.eta,bb,pZ,tK,bD]
end
def vT(N:Nat)(S:List Nat):List (List D):=(List.range N).map λj=>[ax (decide (j∈S))]
def kf(N:Nat)(S:List Nat):D:= .ak 1 (vT N S)
def I8(N:Nat)(S:List Nat):(vT N S).length=N:=by simp[vT]
def I9{N:Nat}{S:List Nat}{k:Nat}(h:k<N):(vT N S)[k]?=some [ax (decide (k∈S))]:=by simp[vT,h]
def afv(N:Nat):List.replicate N [ax false]=vT N []:=by
 apply xbX;intro j;by_cases h:j<N;.rw[I9 h];simp[h]
 rw[xaZ (by simp;omega),xaZ (by rw[I8];omega)]
def ayL{N:Nat}{S:List Nat}{k:Nat}(h:k<N):(vT N S).set k [ax true]=vT N (S++[k]):=by
 apply xbX;intro j;by_cases aI:j<N
 .rw[I9 aI,List.getElem?_set];by_cases e:k=j;.subst e;simp[I8,h]
  rw[xac e,I9 aI];have:(j∈S++[k])↔j∈S:=by simp;omega
  simp only[this]
 rw[xaZ (by simp[I8];omega),xaZ (by rw[I8];omega)]
def ig(S:List Nat)(ks:List Nat):List Nat:=ks.foldl (λS k=>if k∈S then S else S++[k]) S
theorem Ja(S:List Nat)(k:Nat)(r:List Nat):ig S (k::r)=ig (if k∈S then S else S++[k]) r:=rfl
structure ayM(N:Nat)(S ks e8:List Nat):Prop where
 inv:iR N e8
 pre:∃T,e8=S++T
 mem:∀k∈ks,k∈e8
 of:∀x∈e8,x∈S\/x∈ks
def NC{N:Nat}:∀(ks S:List Nat),iR N S->(∀k∈ks,k<N)->ayM N S ks (ig S ks)
 |[],S,h,_=>⟨h,⟨[],by simp[ig]⟩,by simp,λx ah=> .inl ah⟩
 |k::r,S,h,al=>by
  rw[Ja];by_cases eI:k∈S
  .rw[xaa eI];have g:=NC r S h λx ah=>al x (by simp[ah]);obtain⟨T,bb⟩:=g.pre;refine⟨g.inv,g.pre,λx ah=>?_,λx ah=>(g.of x ah).elim .inl λh=> .inr (by simp[h])⟩;rcases xap.1 ah with rfl|ah
   .rw[bb];simp[eI]
   exact g.mem x ah
  rw[xac eI];have g:=NC r (S++[k]) (h.snoc (al k (by simp)) eI) λx ah=>al x (by simp[ah]);obtain⟨T,bb⟩:=g.pre;refine⟨g.inv,⟨[k]++T,by rw[bb];simp⟩,λx ah=>?_,λx ah=>?_⟩
  .rcases xap.1 ah with rfl|ah;.rw[bb];simp
   exact g.mem x ah
  rcases g.of x ah with h|h
  .rcases xaM.1 h with h|h;.exact .inl h
   simp at h;subst h;exact .inr (by simp)
  exact .inr (by simp[h])
def vU(to:Nat->List Nat)(i:Nat):Nat->Nat->List Nat->List Nat
 |0,_,S=>S|m+1,k,S=>match(i::S)[k]? with|some x=>vU to i m (k+1) (ig S (to x))|none=>S
structure qM(to:Nat->List Nat)(N i k:Nat)(S:List Nat):Prop where
 inv:iR N S
 le:k<=S.length+1
 vH:∀j x,j<k->(i::S)[j]?=some x->∀y∈to x,y∈S
 r3:∀x∈S,∃j∈to i,kb to j x
def kb.snoc{to:Nat->List Nat}{i j k:Nat}(h:kb to i j)(bD:k∈to j):kb to i k:=h.trans (.step j k k bD (.refl k))
def qM.next{to:Nat->List Nat}{N i k:Nat}{S:List Nat}(h:qM to N i k S)(kM:∀i,∀k∈to i,k<N){x:Nat}(ah:(i::S)[k]?=some x):qM to N i (k+1) (ig S (to x)):=by
 have g:=NC (to x) S h.inv (kM x);obtain⟨T,bb⟩:=g.pre;have al:k<S.length+1:=by have:=(xae.1 ah).1;simpa using this
 have ayN:∀j y,j<=k->(i::ig S (to x))[j]?=some y->(i::S)[j]?=some y:=by intro j y aI aK;rw[bb,<-xbw,xaF (by simp;omega)]at aK;exact aK
 refine⟨g.inv,by rw[bb];simp;omega,?_,?_⟩
 .intro j y aI aK z bP;have uf:=ayN j y (by omega) aK;by_cases e:j=k
  .subst e;rw[ah]at uf;cases uf;exact g.mem z bP
  have:=h.vH j y (by omega) uf z bP;rw[bb];simp[this]
 intro y aK;rcases g.of y aK with aa|aa
 .exact h.r3 y aa
 cases k with|zero=>simp at ah;subst ah;exact⟨y,aa,.refl y⟩|succ k=>have Un:x∈S:=xad (by simpa using ah);obtain⟨j,aI,aw⟩:=h.r3 x Un;exact⟨j,aI,aw.snoc aa⟩
def Vm{to:Nat->List Nat}{N i:Nat}(kM:∀i,∀k∈to i,k<N):∀(m k:Nat)(S:List Nat),qM to N i k S->N+1-k<m->(i∈vU to i m k S↔∃j∈to i,kb to j i)
 |0,_,_,_,h=>absurd h (xaI _)
 |m+1,k,S,h,hm=>by
  rw[vU];have bB:=h.inv.len;cases ah:(i::S)[k]? with
  |some x=>
   have al:k<S.length+1:=by have:=(xae.1 ah).1;simpa using this
   exact Vm kM m (k+1) _ (h.next kM ah) (by omega)
  |none=>
   have al:S.length+1<=k:=by have:=List.getElem?_eq_none_iff.1 ah;simpa using this
   refine⟨λaj=>h.r3 i aj,?_⟩;have g1:∀a b,kb to a b->a∈S->b∈S:=by
    intro a b ka
    induction ka with|refl=>exact λh=>h|step p q r Ep _ ih=>intro a1;obtain⟨j,aI⟩:=xaK.1 a1;have cD:=(xae.1 aI).1;exact ih (h.vH (j+1) p (by omega) (by simpa using aI) q Ep)
   rintro⟨j,aI,aw⟩;exact g1 j i aw (h.vH 0 i (by omega) (by simp) j aI)
def qM.start(to:Nat->List Nat)(N i:Nat):qM to N i 0 []:=⟨⟨by simp,by simp⟩,by simp,by intro j x h;omega,by simp⟩
theorem sb(x:List Nat):D.ak 1 (af (c8 x))=c8 x:=rfl
def Jb(x:List Nat):(af (c8 x)).length=x.length:=by simp[c8]
def afw(x:List Nat)(k:Nat):D.ak 1 (af (c8 x)++[[R (k:Int)]])=c8 (x++[k]):=by simp[c8]
def afx{x:List Nat}{j k:Nat}(h:x[j]?=some k):(af (c8 x))[j]?=some [R (k:Int)]:=by simp[c8,h]
theorem pd(N:Nat)(x:List Nat):D.ak 1 (af (kf N x))=kf N x:=rfl
def Jc(N:Nat)(x:List Nat):(af (kf N x)).length=N:=I8 N x
def Jd{N:Nat}{S:List Nat}{k:Nat}(h:k<N):(af (kf N S))[k]?=some [ax (decide (k∈S))]:=I9 h
theorem afy{N:Nat}{S:List Nat}{k:Nat}(h:k<N){w:Bool}:D.ak 1 ((af (kf N S)).set k (cg [ax w] 0 [ax true]))=kf N (S++[k]):=by show D.ak 1 ((vT N S).set k [ax true])=_;rw[ayL h];rfl
theorem Bd(b:Bool):aQ false 1 0 [ax b]=some (ax b):=rfl
theorem DV(i:Int):aQ false 1 0 [R i]=some (R i):=rfl
theorem DW(s:ByteArray):aQ false 1 0 [aT s]=some (aT s):=rfl
theorem ND{p:Option D}:bE (ax true) true p=p:=rfl
theorem afz{p:Option D}:bE (ax false) true p=some j6:=rfl
theorem NF{a b:D}:bT (ax true) a b=some a:=rfl
theorem afA{a b:D}:bT (ax false) a b=some b:=rfl
def afB{l:List bl}{x:ByteArray}{k:Nat}(h:dg l x=some k):k<l.length:=by obtain⟨_,_,_,h⟩:=Rl h;exact h
def ayO(n:Nat)(l:List bl){B:Nat}(aq:hV B l)(i k:Nat)(fS:List ByteArray)(S:List Nat)(cI:iR l.length S)(al:k<=S.length+1)(gN:fS.length<=B)(aM:2*B+100<n):bq (Ab n) n [aU l,R (i:Int),du fS,R fS.length,R 0,kf l.length S,c8 ((i::S).drop k)]=some (.inl [aU l,R (i:Int),kf l.length (ig S (fS.filterMap (dg l))),c8 ((i::ig S (fS.filterMap (dg l))).drop k)]):=by
 have bB:=aq.len;have ao:=aq.b;have aj:=dm (f:=Ab n) fS (λj (s:List Nat)=>[aU l,R (i:Int),du fS,R fS.length,R (j:Int),kf l.length s,c8 ((i::s).drop k)]) (λr s=>(.inl [aU l,R (i:Int),kf l.length (ig s (r.filterMap (dg l))),c8 ((i::ig s (r.filterMap (dg l))).drop k)]:List D⊕(List D⊕(List D⊕(List D⊕D))))) (λj s=>iR l.length s/\k<=s.length+1) (λs _=>by simp only[Ab,go_sem,yF ((fS.length:Int)<fS.length),pd,sb];rfl) ?_ n 0 S ⟨cI,al⟩ (by omega) (xaj _)
 .exact aj
 rintro j x s ah aI ⟨aa,ae⟩;have fC:=ayD n l x (by omega) (by omega);have lQ:=aa.len;have cD:=yT ((j:Int)<(fS.length:Int));left;cases aA:dg l x with
 |none=>rw[aA]at fC;refine⟨s,?_,by simp[aA],aa,ae⟩;have iv:decide (fZ none>=0)=false:=rfl;simp only[Ab,go_sem,cD,II ah,DW,fC,iv,afz,afA,pd,sb,cr (bt:=false) (i:=j) (by omega)]
 |some y=>
  have aK:=afB aA;rw[aA]at fC;have iv:decide ((y:Int)>=0)=true:=xao (by omega);have eD:bj l.length (R (y:Int))=some y:=by rw[lG,xaa aK]
  have Je:fZ (some y)=(y:Int):=rfl;by_cases nQ:y∈s;.refine⟨s,?_,by simp[aA,Ja,nQ],aa,ae⟩;simp only[Ab,go_sem,cD,II ah,DW,fC,Je,iv,Jc,eD,Jd aK,Bd,xao nQ,ND,NF,pd,sb,cr (bt:=false) (i:=j) (by omega)]
  have ay:=aa.snoc aK nQ;refine⟨s++[y],?_,by simp only[xbK,aA,Ja,xac nQ],ay,by simp;omega⟩;have aP:(i::(s++[y])).drop k=(i::s).drop k++[y]:=by rw[<-xbw,List.drop_append_of_le_length (by simpa using ae)]
  have eo:cW (((i::s).drop k).length+1) 8=true:=gd (by simp;omega) (by simp;omega);rw[aP];simp only[Ab,go_sem,cD,II ah,DW,fC,Je,iv,Jc,eD,Jd aK,Bd,xaw nQ,ND,NF,Jb,xat,xaG,xaB,eo,afy aK,afw,pd,sb,cr (bt:=false) (i:=j) (by omega)]
def afC(n:Nat)(l:List bl){B:Nat}(aq:hV B l)(i:Nat)(b2:i<l.length)(aM:4*B+200<n):∀(m k:Nat)(S:List Nat),qM (to l) l.length i k S->l.length+1-k<m->bq (LY n) m [aU l,R (i:Int),kf l.length S,c8 ((i::S).drop k)]=some (.inl [R (i:Int),kf l.length (vU (to l) i m k S)])
 |0,_,_,_,h=>absurd h (xaI _)
 |m+1,k,S,h,hm=>by
  have bB:=aq.len;have ao:=aq.b;rw[k7,vU];have ayP:=h.inv.len;have hle:=h.le;cases ah:(i::S)[k]? with
  |none=>
   have al:S.length+1<=k:=by have:=List.getElem?_eq_none_iff.1 ah;simpa using this
   have bU:(i::S).drop k=[]:=xcd (by simpa using al);rw[bU];have aP:(af (c8 [])).length=0:=rfl;have a2:decide (((0:Nat):Int)>0)=false:=rfl;simp only[LY,go_sem,aP,a2,pd]
  |some x=>
   have al:k<S.length+1:=by have:=(xae.1 ah).1;simpa using this
   have pn:x<l.length:=by cases k with|zero=>simp at ah;omega|succ k=>exact h.inv.2 x (xad (by simpa using ah))
   obtain⟨d,aA⟩:∃d,l[x]?=some d:=⟨l[x],xab pn⟩;have hF:=aq.e d (xad aA);have m2:=h.next (λi k al=>lh i k al) ah
   have ih:=afC n l aq i b2 aM m (k+1) _ m2 (by omega);have ca:=M0 n d.e (by omega) hF.1 (by omega);have Vn:=Dn d.e;have e7:=ayO n l aq i k (fY 3 d.e []) S h.inv hle (by omega) (by omega);have kM:(fY 3 d.e []).filterMap (dg l)=to l x:=by rw[Dp aA];rfl
   rw[kM]at e7;obtain⟨T,bb⟩:=(NC (N:=l.length) (to l x) S h.inv (lh x)).pre;have BA:((i::ig S (to l x)).drop k).length=(ig S (to l x)).length+1-k:=by simp
   have Lb:=m2.le;have afD:((i::S).drop k).length=S.length+1-k:=by simp
   have wj:decide (((((i::S).drop k).length:Nat):Int)>0)=true:=xao (by rw[afD];omega);have ayQ:((i::S).drop k)[0]?=some x:=by rw[xaS];exact ah
   have eD:bj ((i::S).drop k).length (R 0)=some 0:=by have:(R 0)=R ((0:Nat):Int):=rfl;rw[this,lG,xaa (by rw[afD];omega)]
   have ayR:m7 ((i::ig S (to l x)).drop k).length (some (R 1)) none=some (1,((i::ig S (to l x)).drop k).length-1):=by
    have aa:1<=((i::ig S (to l x)).drop k).length:=by rw[BA];omega
    generalize ((i::ig S (to l x)).drop k).length=q at*;have:(R 1)=R ((1:Nat):Int):=rfl;rw[this];simp[m7,re,R,aa]
   have Vo:decide (1+(((i::ig S (to l x)).drop k).length-1)<=((i::ig S (to l x)).drop k).length)=true:=xao (by rw[BA];omega);have ayS:D.ak 1 (((af (c8 ((i::ig S (to l x)).drop k))).drop 1).take (((i::ig S (to l x)).drop k).length-1))=c8 ((i::ig S (to l x)).drop (k+1)):=by
    have bS:((((i::ig S (to l x)).drop k).drop 1).take (((i::ig S (to l x)).drop k).length-1))=(i::ig S (to l x)).drop (k+1):=by rw[List.drop_drop,xbH];simp;omega
    show D.ak 1 (((((i::ig S (to l x)).drop k).map λ(i:Nat)=>[R (i:Int)]).drop 1).take _)=c8 _;rw[<-bS];unfold c8;simp only[List.map_take,List.map_drop]
   simp only[LY,go_sem,Jb,wj,eD,afx ayQ,DV,fE aA,bl.iy,ca,IJ,pd,sb,e7,ayR,Vo,ayS,ih]
def ayT(n:Nat)(m:av){l:List bl}{B:Nat}(aq:hV B l)(i:Nat)(aj:i<l.length)(aM:4*B+200<n):CV n [aU l,m.d,R (i:Int)]=some (R (if jw l i=true then 14 else 0)):=by
 have bB:=aq.len;have ao:=aq.b;have ay:=afC n l aq i aj aM n 0 [] (qM.start _ _ _) (by omega);have DX:=Vm (λi k al=>lh i k al) n 0 [] (qM.start (to l) l.length i) (by omega);rw[<-Up l i]at DX;generalize vU (to l) i n 0 []=S at*;have IQ:nL 1 (R (l.length:Int)) (R (l.length:Int))=some l.length:=by simp[nL,R];omega
 have aP:D.ak 1 (List.replicate l.length [ax false])=kf l.length []:=by rw[afv];rfl
 have a2:D.ak 1 [[R (i:Int)]]=c8 ((i::[]).drop 0):=rfl;have eD:bj l.length (R (i:Int))=some i:=by rw[lG,xaa aj]
 simp only[CV,aa4,go_sem,av.agg,eA,IQ,aP,a2,ay,Jc,eD,Jd aj,Bd];by_cases h:jw l i=true;.rw[xaa h,xaa (xao (DX.2 h))]
 rw[xac h,xac (by simpa usingλbA=>h (DX.1 bA))]
def afE(n:Nat)(m:av)(x:ByteArray)(aM:m.aB.length<n)(aq:m.aB.length<1000000000):zl n [m.d,aT x]=some (R (fZ (dg m.aB x))):=by
 have aj:=dm (f:=F2 n) m.aB (λi (_:Unit)=>[aT x,R (i:Int),bd m.vars,aU m.aB,az m.bK,az m.bL,aU m.next,az m.trans,az m.bH,bR m.bI]) (λr _=>match dg r x with|some j=>(Sum.inr (R ((m.aB.length-r.length+j:Nat):Int)):List D⊕D)|none=> .inl []) (λ_ _=>True) (λ_ _=>by simp[F2,eA,dg]) ?_ n 0 () trivial (by omega) (xaj _);.have bU:(R ((0:Nat):Int))=R 0:=rfl;rw[bU]at aj;simp only[zl,aak,go_sem,av.agg,av.aY,av.bw,av.bO,av.b0,av.cZ,av.dd,av.de,av.dp,aj,xam];cases dg m.aB x<;>simp[fZ]
 intro i a _ aG aj _;have e:m.aB.length-(a::m.aB.drop (i+1)).length=i:=by simp;omega
 have dq:m.aB.length-(m.aB.drop (i+1)).length=i+1:=by simp;omega
 have nB:dg (a::m.aB.drop (i+1)) x=if a.name=x then some 0 else(dg (m.aB.drop (i+1)) x).map (·+1):=by simp[dg,xbN]
 have ad:a.cells[0]?=some (aT a.name):=rfl;by_cases ah:a.name=x;.right;rw[nB,xaa ah,e];simp[F2,eA,aj,fE aG,ad,ah]
 left;refine⟨(),by simp[F2,eA,aj,fE aG,ad,ah,cr (bt:=false) (i:=i) (by omega)],?_,trivial⟩;rw[nB,xac ah,e,dq];cases dg (m.aB.drop (i+1)) x with|none=>rfl|some j=>simp;omega
def afF(n:Nat)(m:av)(x:ByteArray)(aM:m.vars.length<n)(aq:m.vars.length<1000000000):zk n [m.d,aT x]=some (R (fZ (eh m.vars x))):=by
 have aj:=dm (f:=F1 n) m.vars (λi (_:Unit)=>[aT x,R (i:Int),bd m.vars,aU m.aB,az m.bK,az m.bL,aU m.next,az m.trans,az m.bH,bR m.bI]) (λr _=>match eh r x with|some j=>(Sum.inr (R ((m.vars.length-r.length+j:Nat):Int)):List D⊕D)|none=> .inl []) (λ_ _=>True) (λ_ _=>by simp[F1,eT,eh]) ?_ n 0 () trivial (by omega) (xaj _);.have bU:(R ((0:Nat):Int))=R 0:=rfl;rw[bU]at aj;simp only[zk,aaj,go_sem,av.agg,av.aY,av.bw,av.bO,av.b0,av.cZ,av.dd,av.de,av.dp,aj,xam];cases eh m.vars x<;>simp[fZ]
 intro i a _ aG aj _;have e:m.vars.length-(a::m.vars.drop (i+1)).length=i:=by simp;omega
 have dq:m.vars.length-(m.vars.drop (i+1)).length=i+1:=by simp;omega
 have nB:eh (a::m.vars.drop (i+1)) x=if a.name=x then some 0 else(eh (m.vars.drop (i+1)) x).map (·+1):=by simp[eh,xbN]
 have ad:a.cells[0]?=some (aT a.name):=rfl;by_cases ah:a.name=x;.right;rw[nB,xaa ah,e];simp[F1,eT,aj,gS aG,ad,ah]
 left;refine⟨(),by simp[F1,eT,aj,gS aG,ad,ah,cr (bt:=false) (i:=i) (by omega)],?_,trivial⟩;rw[nB,xac ah,e,dq];cases eh (m.vars.drop (i+1)) x with|none=>rfl|some j=>simp;omega
def ayU(n:Nat)(m:av){B:Nat}(aq:hV B m.aB)(i:Nat)(k:Int)(fS:List ByteArray)(S:List Nat)(cI:iR m.aB.length S)(gN:fS.length<=B)(aM:2*B+100<n):bq (zp n) n [R k,j9 true fS,R 0,bd m.vars,aU m.aB,az m.bK,az m.bL,aU m.next,az m.trans,az m.bH,bR m.bI,kf m.aB.length S,c8 (i::S)]=some (.inl [R k,bd m.vars,aU m.aB,az m.bK,az m.bL,aU m.next,az m.trans,az m.bH,bR m.bI,kf m.aB.length (ig S (fS.filterMap (dg m.aB))),c8 (i::ig S (fS.filterMap (dg m.aB)))]):=by
 have bB:=aq.len;have ao:=aq.b;have aj:=dm (f:=zp n) fS (λj (s:List Nat)=>[R k,j9 true fS,R (j:Int),bd m.vars,aU m.aB,az m.bK,az m.bL,aU m.next,az m.trans,az m.bH,bR m.bI,kf m.aB.length s,c8 (i::s)]) (λr s=>(.inl [R k,bd m.vars,aU m.aB,az m.bK,az m.bL,aU m.next,az m.trans,az m.bH,bR m.bI,kf m.aB.length (ig s (r.filterMap (dg m.aB))),c8 (i::ig s (r.filterMap (dg m.aB)))]:List D⊕(List D⊕(List D⊕(List D⊕D))))) (λj s=>iR m.aB.length s) (λs _=>by simp only[zp,go_sem,nX,yF ((fS.length:Int)<fS.length),pd,sb];rfl) ?_ n 0 S cI (by omega) (xaj _)
 .exact aj
 rintro j x s ah aI aa;have fC:=afE n m x (by omega) (by omega);have lQ:=aa.len;have fA:=AZ (nl:=true) ah;have cD:=yT ((j:Int)<(fS.length:Int));left;cases aA:dg m.aB x with
 |none=>rw[aA]at fC;refine⟨s,?_,by simp[aA],aa⟩;have iv:decide (fZ none>=0)=false:=rfl;simp only[zp,go_sem,nX,cD,fA,DW,av.eta,fC,iv,afz,afA,pd,sb,cr (bt:=false) (i:=j) (by omega)]
 |some y=>
  have aK:=afB aA;rw[aA]at fC;have iv:decide ((y:Int)>=0)=true:=xao (by omega);have eD:bj m.aB.length (R (y:Int))=some y:=by rw[lG,xaa aK]
  have Je:fZ (some y)=(y:Int):=rfl;by_cases nQ:y∈s;.refine⟨s,?_,by simp[aA,Ja,nQ],aa⟩;simp only[zp,go_sem,nX,cD,fA,DW,av.eta,fC,Je,iv,Jc,eD,Jd aK,Bd,xao nQ,ND,NF,pd,sb,cr (bt:=false) (i:=j) (by omega)]
  have ay:=aa.snoc aK nQ;refine⟨s++[y],?_,by simp only[xbK,aA,Ja,xac nQ],ay⟩;have aP:i::(s++[y])=(i::s)++[y]:=rfl;have eo:cW ((i::s).length+1) 8=true:=gd (by simp;omega) (by simp;omega);rw[aP];simp only[zp,go_sem,nX,cD,fA,DW,av.eta,fC,Je,iv,Jc,eD,Jd aK,Bd,xaw nQ,ND,NF,Jb,xat,xaG,xaB,afy aK,afw,pd,sb,cr (bt:=false) (i:=j) (by omega)]at eo⊢;simp only[eo,qq,dS,qs,pE,ru,cr (bt:=false) (i:=j) (by omega),pd,sb]
def afG(n:Nat)(kg:av){B:Nat}(aq:hV B kg.aB)(i:Nat)(b2:i<kg.aB.length)(aM:4*B+200<n):∀(m k:Nat)(S:List Nat),qM (to kg.aB) kg.aB.length i k S->kg.aB.length+1-k<m->bq (Lw n) m [R (k:Int),bd kg.vars,aU kg.aB,az kg.bK,az kg.bL,aU kg.next,az kg.trans,az kg.bH,bR kg.bI,kf kg.aB.length S,c8 (i::S)]=some (.inl [kf kg.aB.length (vU (to kg.aB) i m k S)])
 |0,_,_,_,h=>absurd h (xaI _)
 |m+1,k,S,h,hm=>by
  have bB:=aq.len;have ao:=aq.b;rw[k7,vU];have ayP:=h.inv.len;have hle:=h.le;cases ah:(i::S)[k]? with
  |none=>
   have al:S.length+1<=k:=by have:=List.getElem?_eq_none_iff.1 ah;simpa using this
   have a2:decide ((k:Int)<(((i::S).length:Nat):Int))=false:=xaw (by simp;omega);simp only[Lw,go_sem,Jb,a2,pd]
  |some x=>
   have al:k<S.length+1:=by have:=(xae.1 ah).1;simpa using this
   have pn:x<kg.aB.length:=by cases k with|zero=>simp at ah;omega|succ k=>exact h.inv.2 x (xad (by simpa using ah))
   obtain⟨d,aA⟩:∃d,kg.aB[x]?=some d:=⟨kg.aB[x],xab pn⟩;have hF:=aq.e d (xad aA);have m2:=h.next (λi k al=>lh i k al) ah
   have ih:=afG n kg aq i b2 aM m (k+1) _ m2 (by omega);have ca:=Uk n d.e (by omega) hF.1 (by omega);have Vn:=Dn d.e;have e7:=ayU n kg aq i k (fY 3 d.e []) S h.inv (by omega) (by omega);have kM:(fY 3 d.e []).filterMap (dg kg.aB)=to kg.aB x:=by rw[Dp aA];rfl
   rw[kM]at e7;have wj:decide ((k:Int)<(((i::S).length:Nat):Int))=true:=xao (by simp;omega);have eD:bj (i::S).length (R (k:Int))=some k:=by rw[lG,xaa (by simpa using al)]
   have rp:((k:Int)+1)=((k+1:Nat):Int):=by omega
   simp only[Lw,go_sem,Jb,wj,eD,afx ah,DV,fE aA,bl.iy,ca,pd,sb,e7,cr (bt:=false) (i:=k) (by omega),ih]
def ayV(n:Nat)(m:av){B:Nat}(aq:hV B m.aB)(i:Nat)(aj:i<m.aB.length)(aM:4*B+200<n):∃S,F6 n [m.d,R (i:Int)]=some (kf m.aB.length S)/\(i∈S↔jw m.aB i=true):=by
 have bB:=aq.len;have ao:=aq.b;have ay:=afG n m aq i aj aM n 0 [] (qM.start _ _ _) (by omega);have DX:=Vm (λi k al=>lh i k al) n 0 [] (qM.start (to m.aB) m.aB.length i) (by omega);rw[<-Up m.aB i]at DX;generalize vU (to m.aB) i n 0 []=S at*;refine⟨S,?_,DX⟩;have IQ:nL 1 (R (m.aB.length:Int)) (R (m.aB.length:Int))=some m.aB.length:=by simp[nL,R];omega
 have aP:D.ak 1 (List.replicate m.aB.length [ax false])=kf m.aB.length []:=by rw[afv];rfl
 have a2:D.ak 1 [[R (i:Int)]]=c8 (i::[]):=rfl;have bU:(R ((0:Nat):Int))=R 0:=rfl;rw[bU]at ay;simp only[F6,aan,go_sem,av.agg,av.aY,av.bw,av.bO,av.b0,av.cZ,av.dd,av.de,av.dp,eA,IQ,aP,a2,ay,pd]
def cy(e:Nat->Int):Nat->Nat->Int×Int
 |0,_=>(0,0)|m+1,i=>if e i=0 then cy e m (i+1)else((i:Int),e i)
def Jf(e:Nat->Int):∀(m i:Nat),(cy e m i).2=0↔∀j,i<=j->j<i+m->e j=0
 |0,i=>by simp[cy];intro j aa ae;omega
 |m+1,i=>by
  rw[cy];by_cases h:e i=0
  .rw[xaa h,Jf e m (i+1)];constructor
   .intro aa j ae ay;by_cases aI:j=i;.subst aI;exact h
    exact aa j (by omega) (by omega)
   intro aa j ae ay;exact aa j (by omega) (by omega)
  rw[xac h];exact⟨λaa=>absurd aa h,λaa=>absurd (aa i (xbe _) (by omega)) h⟩
def sc(e:Nat->Int)(m i:Nat)(h:(cy e m i).2=0):cy e m i=(0,0):=by
 induction m generalizing i with
 |zero=>rfl
 |succ m ih=>
  rw[cy]at h⊢;by_cases ar:e i=0;.rw[xaa ar]at h⊢;exact ih (i+1) h
  rw[xac ar]at h;exact absurd h ar
def mX{eG:Type}{f:List D->Option (List D⊕(List D⊕eG))}(gA:Nat->List D)(e:Nat->Int)(N:Nat)(L:List D)(W:Int×Int->eG) (aE:∀i,i<N->f (gA i)=some (if e i=0 then .inl (gA (i+1))else .inr (.inr (W ((i:Int),e i))))) (he:f (gA N)=some (.inr (.inl L))): ∀(m i n:Nat),i+m=N->m<n->bq f n (gA i)=some (if(cy e m i).2=0 then .inl L else .inr (W (cy e m i)))
 |0,i,n,h,aM=>by
  obtain⟨k,rfl⟩:∃k,n=k+1:=⟨n-1,by omega⟩;have:i=N:=by omega
  subst this;rw[k7,he];rfl
 |m+1,i,n,h,aM=>by
  obtain⟨k,rfl⟩:∃k,n=k+1:=⟨n-1,by omega⟩;rw[k7,aE i (by omega),cy];by_cases ar:e i=0;.rw[xaa ar,xaa ar];exact mX gA e N L W aE he m (i+1) k (by omega) (by omega)
  rw[xac ar,xac ar];simp only[dS,xac ar]
structure NG(m:av)(n:Nat):Prop where
 bp:DU m
 jx:13302000000<n
 kh:ln m.vars
 afH:∀v∈m.vars,v.name.size+24<n
 afI:∀d∈m.aB,d.name.size+24<n/\d.name.size<=9223372036854775807
 bK:m.bK.length<=100/\∀t∈m.bK,t.cB/\t.bp<=660000
 bL:m.bL.length<=100/\∀t∈m.bL,t.cB/\t.bp<=660000
 next:m.next.length<=100/\∀d∈m.next,d.e.cB/\d.e.bp<=660000
 trans:m.trans.length<=100/\∀t∈m.trans,t.cB/\t.bp<=660000
 bH:m.bH.length<=100/\∀t∈m.bH,t.cB/\t.bp<=660000
 bI:m.bI.length<=100/\∀s∈m.bI,(s.f.cB/\s.f.bp<=660000)/\s.name.size+24<n/\s.name.size<=9223372036854775807
noncomputable section
mutual
def lS(m:av):Fm->Int
 | .mk o t b ks=>if o=1 then pc m false t else mY m ks
def mY(m:av):List Fm->Int
 |[]=>0|k::r=>if lS m k=0 then mY m r else lS m k
end
theorem Vp(m:av)(f:Fm):lS m f=if f.op=1 then pc m false f.e else mY m f.a4:=by cases f;rw[lS];rfl
def lT(m:av)(i:Nat):Int:=match m.aB[i]? with
 |some d=>if isName d.name=true then(if((eh m.vars d.name).isSome||(dg (m.aB.take i) d.name).isSome)=true then 6 else 0)else 12
 |none=>0
def mx(m:av)(i:Nat):Int:=if jw m.aB i=true then 14 else 0
def lU(m:av)(i:Nat):Int:=match m.aB[i]? with|some d=>(gY m false d.e).2|none=>0
def e6(m:av)(l:List Tm)(nx:Bool)(i:Nat):Int:=match l[i]? with|some t=>pc m nx t|none=>0
def jJ(m:av)(i:Nat):Int:=match m.next[i]? with
 |some d=>match eh m.vars d.name with|none=>12|some k=>if(dg (m.next.take i) d.name).isSome=true then 6 else if((gY m false d.e).2==0&&((gY m false d.e).1.b !=(m.vars[k]?.map V.bool).getD false))=true then 13 else(gY m false d.e).2
 |none=>0
def jK(m:av)(i:Nat):Int:=match m.bI[i]? with
 |some s=>if isName s.name=true then(if(n4 (m.bI.take i) s.name).isSome=true then 6 else if lj s.f=0 then lS m s.f else lj s.f)else 12
 |none=>0
end
def afJ{l:List bl}{i:Nat}(h:i<=l.length):mc 5 (aU l) none (some (R (i:Int)))=some (aU (l.take i)):=by rw[aU,Va (by simpa using h)];simp[aU,List.map_take]
def ayW{l:List cM}{i:Nat}(h:i<=l.length):mc 7 (bR l) none (some (R (i:Int)))=some (bR (l.take i)):=by rw[bR,Va (by simpa using h)];simp[bR,List.map_take]
def afK{m:av}(hm:DU m):∀(n:Nat)(f:Fm),13301000000+f.bp<n->f.cB->f.bp<=660000->tn n [m.d,f.d]=some (R (lS m f))
 |0,_,h,_,_=>absurd h (xaI _)
 |n+1,f,aM,bs,aE=>by
  have UI:=f.FM;have lC:=f.lI;rw[Vp];have bb:=aft hm n (by omega) bs.e (by omega) false;have bB:bJ (cA 6 f.nl (Fm.rows f.a4))=some (R f.a4.length):=by simp
  have aq:=dm (f:=Hj (tn n) n) f.a4 (λi (_:Unit)=>[cA 6 f.nl (Fm.rows f.a4),R f.a4.length,R (i:Int),bd m.vars,aU m.aB,az m.bK,az m.bL,aU m.next,az m.trans,az m.bH,bR m.bI]) (λr _=>if mY m r=0 then(.inl []:List D⊕D)else .inr (R (mY m r))) (λ_ _=>True) ?_ ?_ n 0 () trivial (by have:=f.lI;omega) (xaj _)
  .have bU:(R ((0:Nat):Int))=R 0:=rfl;rw[bU,xam]at aq;show Hk (tn n) n m.d f.d=_;by_cases aa:f.op=1
   .have ej:(f.op==1)=true:=by simp[aa]
    simp only[Hk,go_sem,av.agg,ej,xaa aa,av.aY,av.bw,av.bO,av.b0,av.cZ,av.dd,av.de,av.dp,av.eta,bb]
   have ej:(f.op==1)=false:=by simpa using aa
   simp only[Hk,go_sem,av.agg,ej,xac aa,av.aY,av.bw,av.bO,av.b0,av.cZ,av.dd,av.de,av.dp,av.eta,bB,aq];by_cases ar:mY m f.a4=0;.rw[xaa ar,ar,qs]
   rw[xac ar,Fu]
  .intro _ _;simp only[Hj,go_sem,yF ((f.a4.length:Int)<f.a4.length),mY]
  intro i a _ aG aj _;have h2:=xad aG;have bP:=Fm.jS h2;have aw:=afK hm n a (by omega) (bs.fu h2) (by omega);have cD:=yT ((i:Int)<(f.a4.length:Int));by_cases ar:lS m a=0
  .left;rw[ar]at aw;refine⟨(),?_,by simp only[mY,ar,xav],trivial⟩;have bP:((0:Int) !=0)=false:=rfl;simp only[Hj,go_sem,cD,Fm.hz aG,av.eta,aw,bP,cr (bt:=false) (i:=i) (by omega)]
  right;have bP:(lS m a !=0)=true:=by simpa using ar
  simp only[Hj,go_sem,cD,Fm.hz aG,av.eta,aw,bP,mY,xac ar]
def afL{m:av}(hm:DU m):∀(n:Nat)(f:Fm),13301000000+f.bp<n->f.cB->f.bp<=660000->tb n [m.d,f.d]=some (R (lS m f))
 |0,_,h,_,_=>absurd h (xaI _)
 |n+1,f,aM,bs,aE=>by
  have UI:=f.FM;have lC:=f.lI;rw[Vp];have bb:=afu hm n (by omega) bs.e (by omega) false;have bB:bJ (cA 6 f.nl (Fm.rows f.a4))=some (R f.a4.length):=by simp
  have aq:=dm (f:=GD (tb n) n) f.a4 (λi (_:Unit)=>[R (i:Int),bd m.vars,aU m.aB,az m.bK,az m.bL,aU m.next,az m.trans,az m.bH,bR m.bI,R f.op,R f.e.op,R f.e.num,aT f.e.name,cA 4 f.e.nl (Tm.rows f.e.a4),cA 6 f.nl (Fm.rows f.a4)]) (λr _=>if mY m r=0 then(.inl []:List D⊕D)else .inr (R (mY m r))) (λ_ _=>True) ?_ ?_ n 0 () trivial (by have:=f.lI;omega) (xaj _)
  .have bU:(R ((0:Nat):Int))=R 0:=rfl;rw[bU,xam]at aq;show GF (tb n) n m.d f.d=_;by_cases aa:f.op=1
   .have ej:(f.op==1)=true:=by simp[aa]
    simp only[GF,go_sem,av.agg,ej,xaa aa,av.aY,av.bw,av.bO,av.b0,av.cZ,av.dd,av.de,av.dp,av.eta,bb]
   have ej:(f.op==1)=false:=by simpa using aa
   simp only[GF,go_sem,av.agg,ej,xac aa,av.aY,av.bw,av.bO,av.b0,av.cZ,av.dd,av.de,av.dp,av.eta,bB,aq];by_cases ar:mY m f.a4=0;.rw[xaa ar,ar,qs]
   rw[xac ar,Fu]
  .intro _ _;simp only[GD,go_sem,bB,yF ((f.a4.length:Int)<f.a4.length),mY]
  intro i a _ aG aj _;have h2:=xad aG;have bP:=Fm.jS h2;have aw:=afL hm n a (by omega) (bs.fu h2) (by omega);have cD:=yT ((i:Int)<(f.a4.length:Int));by_cases ar:lS m a=0
  .left;rw[ar]at aw;refine⟨(),?_,by simp only[mY,ar,xav],trivial⟩;have bP:((0:Int) !=0)=false:=rfl;simp only[GD,go_sem,bB,cD,Fm.hz aG,av.eta,aw,bP,cr (bt:=false) (i:=i) (by omega)]
  right;have bP:(lS m a !=0)=true:=by simpa using ar
  simp only[GD,go_sem,bB,cD,Fm.hz aG,av.eta,aw,bP,mY,xac ar]
section
variable{m:av}{n:Nat}(hm:NG m n)
include hm
theorem ayX(i:Nat)(aj:i<m.aB.length):vi n [aU m.aB,m.d,R (i:Int)]=some (R (lT m i)):=by have ao:=hm.jx;have Bv:=hm.bp.dl;have ke:=hm.bp.iB;obtain⟨d,aA⟩:∃d,m.aB[i]?=some d:=⟨m.aB[i],xab aj⟩;have Vq:=hm.afI d (xad aA);have ca:=U8 n d.name (by omega) Vq.2;have hy:=ayt n m.vars d.name (by omega) (by omega);have cU:=ayw n (m.aB.take i) d.name (by simp;omega) (by simp;omega);have aE:=afJ (l:=m.aB) (i:=i) (by omega);simp only[lT,aA];cases aa:isName d.name with|false=>simp only[vi,HC,go_sem,av.agg,fE aA,bl.gI,ca,aa]|true=>cases ae:(eh m.vars d.name).isSome with|true=>simp only[vi,HC,go_sem,av.agg,av.aY,fE aA,bl.gI,ca,aa,hy,ae]|false=>cases ay:(dg (m.aB.take i) d.name).isSome with|true=>simp only[vi,HC,go_sem,av.agg,av.aY,fE aA,bl.gI,ca,aa,hy,ae,aE,cU,ay,Bool.or_false,xbz]|false=>simp only[vi,HC,go_sem,av.agg,av.aY,fE aA,bl.gI,ca,aa,hy,ae,aE,cU,ay,Bool.or_false,xbz]
theorem ayY(i:Nat)(aj:i<m.aB.length):CU n [aU m.aB,m.d,R (i:Int)]=some (R (lU m i)):=by have ao:=hm.jx;obtain⟨d,aA⟩:∃d,m.aB[i]?=some d:=⟨m.aB[i],xab aj⟩;have hF:=hm.bp.d.e d (xad aA);have bb:=Vk hm.bp n (by omega) hF.1 hF.2 false;simp only[lU,aA];simp only[CU,aa2,go_sem,av.agg,av.aY,av.bw,av.bO,av.b0,av.cZ,av.dd,av.de,av.dp,av.eta,fE aA,bl.iy,bb,pZ]
theorem ayZ(l:List Tm)(aq:∀t∈l,t.cB/\t.bp<=660000)(k:Int)(nx:Bool)(i:Nat)(aj:i<l.length):CT n [.agg [R k,az l,ax nx],m.d,R (i:Int)]=some (R (e6 m l nx i)):=by have ao:=hm.jx;obtain⟨t,aJ⟩:∃t,l[i]?=some t:=⟨l[i],xab aj⟩;have Jg:=aq t (xad aJ);have bb:=aft hm.bp n (by omega) Jg.1 Jg.2 nx;have aG:a6 3 (.agg [R k,az l,ax nx])=true:=rfl;have bw:ab (.agg [R k,az l,ax nx]) 1=az l:=rfl;have bO:ab (.agg [R k,az l,ax nx]) 2=ax nx:=rfl;simp only[e6,aJ];simp only[CT,aa1,go_sem,aG,bw,bO,av.agg,av.aY,av.bw,av.bO,av.b0,av.cZ,av.dd,av.de,av.dp,av.eta,xX aJ,bb]
theorem ay0(i:Nat)(aj:i<m.next.length):xv n [aU m.next,m.d,R (i:Int)]=some (R (jJ m i)):=by
 have ao:=hm.jx;have oU:=hm.next.1
 have ke:=hm.bp.iB;obtain⟨d,aA⟩:∃d,m.next[i]?=some d:=⟨m.next[i],xab aj⟩
 have hF:=hm.next.2 d (xad aA)
 have bb:=Vk hm.bp n (by omega) hF.1 hF.2 false;have hy:=ayy n m.vars d.name (by omega) (by omega);have cU:=ayB n (m.next.take i) d.name (by simp;omega) (by simp;omega);have aE:=afJ (l:=m.next) (i:=i) (by omega);simp only[jJ,aA];cases aa:eh m.vars d.name with
 |none=>have ar:decide (fZ none<0)=true:=rfl;simp only[xv,LW,go_sem,av.agg,av.aY,fE aA,bl.gI,hy,aa,ar]
 |some k=>
  have ar:decide (fZ (some k)<0)=false:=by rw[aff];rfl
  have lC:k<m.vars.length:=by have:=xbn.1 aa;exact this.1
  obtain⟨v,aN⟩:∃v,m.vars[k]?=some v:=⟨m.vars[k],xab lC⟩;have kY:bh 4 (bd m.vars) (R (fZ (some k)))=some v.cells:=gS aN;have zb:aQ false 1 1 v.cells=some (ax v.bool):=rfl;simp only[aN,xaC,xbk];cases ay:(dg (m.next.take i) d.name).isSome with
  |true=>simp only[xv,LW,go_sem,av.agg,av.aY,fE aA,bl.gI,hy,aa,ar,aE,cU,ay]
  |false=>
   generalize gY m false d.e=y at*;have cv:ag true .neq (ax y.1.b) (ax v.bool)=some (ax (y.1.b !=v.bool)):=rfl;simp only[xv,LW,go_sem,av.agg,av.aY,av.bw,av.bO,av.b0,av.cZ,av.dd,av.de,av.dp,av.eta,fE aA,bl.gI,bl.iy,hy,aa,ar,aE,cU,ay,bb,pZ,tK,kY,zb,cv];by_cases an:(y.2==0&&(y.1.b !=v.bool))=true
   .rw[xaa an,xaa an]
   rw[xac an,xac an]
theorem ay1(i:Nat)(aj:i<m.bI.length):vh n [bR m.bI,m.d,R (i:Int)]=some (R (jK m i)):=by
 have ao:=hm.jx;have lQ:=hm.bI.1;obtain⟨s,aE⟩:∃s,m.bI[i]?=some s:=⟨m.bI[i],xab aj⟩;obtain⟨⟨a8,Cj⟩,ay2,Vr⟩:=hm.bI.2 s (xad aE);have ca:=U8 n s.name (by omega) Vr;have cU:=ayG n (m.bI.take i) s.name (by simp;omega) (by simp;omega);have lP:=ayW (l:=m.bI) (i:=i) (by omega);have ch:=UL n s.f (by omega) a8 (by omega);have iH:=afK hm.bp n s.f (by omega) a8 Cj;simp only[jK,aE];cases aa:isName s.name with
 |false=>simp only[vh,Hl,go_sem,av.agg,mV aE,cM.gI,ca,aa]
 |true=>
  cases ay:(n4 (m.bI.take i) s.name).isSome with
  |true=>simp only[vh,Hl,go_sem,av.agg,mV aE,cM.gI,ca,aa,lP,cU,ay]
  |false=>
   by_cases a7:lj s.f=0
   .have mL:(lj s.f !=0)=false:=by simp[a7]
    simp only[vh,Hl,go_sem,av.agg,av.aY,av.bw,av.bO,av.b0,av.cZ,av.dd,av.de,av.dp,av.eta,mV aE,cM.gI,cM.iy,ca,aa,lP,cU,ay,ch,mL,xaa a7,iH]
   have mL:(lj s.f !=0)=true:=by simpa using a7
   simp only[vh,Hl,go_sem,av.agg,av.aY,av.bw,av.bO,av.b0,av.cZ,av.dd,av.de,av.dp,av.eta,mV aE,cM.gI,cM.iy,ca,aa,lP,cU,ay,ch,mL,xac a7]
end
def fQ(p:Int×Int):D:= .aR [R p.1,R p.2]
def vV(a b:Int×Int):Int×Int:=if a.2=0 then b else a
def findIdx_take{α:Type}{l:List α}{p:α->Bool}{i:Nat}{d:α}(aA:l[i]?=some d)(a1:p d=true):decide (fZ (l.findIdx? p)<(i:Int))=((l.take i).findIdx? p).isSome:=by
 obtain⟨aj,ay3⟩:=xae.1 aA;cases h:l.findIdx? p with
 |none=>have:=List.findIdx?_eq_none_iff.1 h d (xad aA);rw[a1]at this;cases this
 |some k=>
  obtain⟨al,ay4,Bz⟩:=xbn.1 h;rw[List.findIdx?_isSome];have ra:k<=i:=by
   rcases Nat.lt_or_ge i k with aa|aa;.have:=Bz i aa;rw[ay3]at this;exact absurd a1 this
   exact aa
  by_cases he:k<i;.have aa:decide (fZ (some k)<(i:Int))=true:=xao (by show(k:Int)<(i:Int);omega);rw[aa];symm;rw[xbv];refine⟨l[k],xaK.2 ⟨k,?_⟩,ay4⟩;rw[List.getElem?_take_of_lt he];exact xab al
  have aa:decide (fZ (some k)<(i:Int))=false:=xaw (by show¬(k:Int)<(i:Int);omega);rw[aa];symm;rw[Bool.eq_false_iff,ne_eq,xbv];rintro⟨a,aG,ay5⟩;obtain⟨j,aI⟩:=xaK.1 aG;have cD:=(xae.1 aI).1;simp only[xbu]at cD;rw[List.getElem?_take_of_lt (by omega)]at aI;obtain⟨aDM,ay6⟩:=xae.1 aI;have:=Bz j (by omega);rw[ay6]at this;exact this ay5
noncomputable def sd(m:av):Int×Int:=vV (cy (lT m) m.aB.length 0) (vV (cy (mx m) m.aB.length 0) (cy (lU m) m.aB.length 0))
section
variable{m:av}{n:Nat}(hm:NG m n)
include hm
theorem ay7:bq (zB n) n [R 0,bd m.vars,aU m.aB,az m.bK,az m.bL,aU m.next,az m.trans,az m.bH,bR m.bI]=some (if(cy (lT m) m.aB.length 0).2=0 then .inl [bd m.vars,aU m.aB,az m.bK,az m.bL,aU m.next,az m.trans,az m.bH,bR m.bI]else .inr (fQ (cy (lT m) m.aB.length 0))):=by
 have ao:=hm.jx;have Bv:=hm.bp.dl;have ke:=hm.bp.iB;refine mX (λi=>[R (i:Int),bd m.vars,aU m.aB,az m.bK,az m.bL,aU m.next,az m.trans,az m.bH,bR m.bI]) (lT m) m.aB.length _ fQ ?_ ?_ _ 0 n (by omega) (by omega)
 .intro i aj;obtain⟨d,aA⟩:∃d,m.aB[i]?=some d:=⟨m.aB[i],xab aj⟩;have Vq:=hm.afI d (xad aA);have ca:=U9 n d.name (by omega) Vq.2;have hy:=afF n m d.name (by omega) (by omega);have cU:=afE n m d.name (by omega) (by omega);have b2:=yT ((i:Int)<(m.aB.length:Int));have Jh:=findIdx_take (p:=λe:bl=>decide (e.name=d.name)) aA (by simp);change decide (fZ (dg m.aB d.name)<(i:Int))=(dg (m.aB.take i) d.name).isSome at Jh;simp only[lT,aA];cases aa:isName d.name with
  |false=>simp only[zB,go_sem,eA,b2,fE aA,bl.gI,ca,aa,xac (show¬(12:Int)=0 by decide),fQ]
  |true=>
   cases ae:(eh m.vars d.name).isSome with
   |true=>have iv:=DR (eh m.vars d.name);rw[ae]at iv;simp only[zB,go_sem,eA,b2,fE aA,bl.gI,ca,aa,av.eta,hy,iv,uO,xac (show¬(true=false) by decide),uP,xac (show¬(6:Int)=0 by decide),fQ]
   |false=>
    have iv:=DR (eh m.vars d.name);rw[ae]at iv;cases ay:(dg (m.aB.take i) d.name).isSome with
    |true=>rw[ay]at Jh;simp only[zB,go_sem,eA,b2,fE aA,bl.gI,ca,aa,av.eta,hy,iv,uO,cU,Jh,uP,xac (show¬(6:Int)=0 by decide),fQ,Bool.or_true]
    |false=>rw[ay]at Jh;simp only[zB,go_sem,eA,b2,fE aA,bl.gI,ca,aa,av.eta,hy,iv,uO,cU,Jh,uP,Bool.or_false,cr (bt:=false) (i:=i) (by omega)]
 simp only[zB,go_sem,eA,yF ((m.aB.length:Int)<m.aB.length)]
theorem ay8:bq (Gw n) n [R 0,bd m.vars,aU m.aB,az m.bK,az m.bL,aU m.next,az m.trans,az m.bH,bR m.bI]=some (if(cy (mx m) m.aB.length 0).2=0 then .inl [bd m.vars,aU m.aB,az m.bK,az m.bL,aU m.next,az m.trans,az m.bH,bR m.bI]else .inr (fQ (cy (mx m) m.aB.length 0))):=by
 have ao:=hm.jx;have Bv:=hm.bp.dl;refine mX (λi=>[R (i:Int),bd m.vars,aU m.aB,az m.bK,az m.bL,aU m.next,az m.trans,az m.bH,bR m.bI]) (mx m) m.aB.length _ fQ ?_ ?_ _ 0 n (by omega) (by omega)
 .intro i aj;obtain⟨S,cI,afM⟩:=ayV n m hm.bp.d i aj (by omega);have b2:=yT ((i:Int)<(m.aB.length:Int));have ah:bh 1 (kf m.aB.length S) (R (i:Int))=some [ax (decide (i∈S))]:=by
   rw[kf,Zy,I9 aj]
  cases aa:jw m.aB i with
  |true=>have ae:=xao (afM.2 aa);simp only[Gw,go_sem,eA,b2,av.eta,cI,ah,Bd,ae,mx,aa,xac (show¬(14:Int)=0 by decide),fQ]
  |false=>have ae:=xaw (show¬i∈S fromλh=>by rw[afM.1 h]at aa;cases aa);simp only[Gw,go_sem,eA,b2,av.eta,cI,ah,Bd,ae,mx,aa,cr (bt:=false) (i:=i) (by omega)]
 simp only[Gw,go_sem,eA,yF ((m.aB.length:Int)<m.aB.length)]
theorem ay9:bq (Gx n) n [R 0,bd m.vars,aU m.aB,az m.bK,az m.bL,aU m.next,az m.trans,az m.bH,bR m.bI]=some (if(cy (lU m) m.aB.length 0).2=0 then .inl []else .inr (fQ (cy (lU m) m.aB.length 0))):=by
 have ao:=hm.jx;have Bv:=hm.bp.dl;refine mX (λi=>[R (i:Int),bd m.vars,aU m.aB,az m.bK,az m.bL,aU m.next,az m.trans,az m.bH,bR m.bI]) (lU m) m.aB.length _ fQ ?_ ?_ _ 0 n (by omega) (by omega)
 .intro i aj;obtain⟨d,aA⟩:∃d,m.aB[i]?=some d:=⟨m.aB[i],xab aj⟩;have hF:=hm.bp.d.e d (xad aA);have bb:=Vl hm.bp n (by omega) hF.1 hF.2 false;have b2:=yT ((i:Int)<(m.aB.length:Int));simp only[lU,aA];by_cases aa:(gY m false d.e).2=0
  .have ej:((gY m false d.e).2 !=0)=false:=by simp[aa]
   simp only[Gx,go_sem,eA,b2,av.eta,fE aA,bl.iy,bb,pZ,ej,xaa aa,cr (bt:=false) (i:=i) (by omega)]
  have ej:((gY m false d.e).2 !=0)=true:=by simpa using aa
  simp only[Gx,go_sem,eA,b2,av.eta,fE aA,bl.iy,bb,pZ,ej,xac aa,fQ]
 simp only[Gx,go_sem,eA,yF ((m.aB.length:Int)<m.aB.length)]
theorem aza:xl n [m.d]=some (fQ (sd m)):=by
 have ae:=ay7 hm;have h8:=ay8 hm;have mr:=ay9 hm;have bP:∀e k,(cy e k 0).2=0->cy e k 0=(0,0):=λe k=>sc e k 0;unfold sd vV;by_cases bw:(cy (lT m) m.aB.length 0).2=0
 case neg=>rw[xac bw]at ae⊢;simp only[xl,Gy,go_sem,av.agg,av.aY,av.bw,av.bO,av.b0,av.cZ,av.dd,av.de,av.dp,ae]
 rw[xaa bw]at ae⊢;by_cases bO:(cy (mx m) m.aB.length 0).2=0
 case neg=>rw[xac bO]at h8⊢;simp only[xl,Gy,go_sem,av.agg,av.aY,av.bw,av.bO,av.b0,av.cZ,av.dd,av.de,av.dp,ae,h8]
 rw[xaa bO]at h8⊢;by_cases b0:(cy (lU m) m.aB.length 0).2=0;.rw[xaa b0]at mr;rw[bP _ _ b0];simp only[xl,Gy,go_sem,av.agg,av.aY,av.bw,av.bO,av.b0,av.cZ,av.dd,av.de,av.dp,ae,h8,mr,fQ]
 rw[xac b0]at mr;simp only[xl,Gy,go_sem,av.agg,av.aY,av.bw,av.bO,av.b0,av.cZ,av.dd,av.de,av.dp,ae,h8,mr]
theorem NH(l:List Tm)(aq:l.length<=100/\∀t∈l,t.cB/\t.bp<=660000)(nx:Bool):u4 n [m.d,az l,ax nx]=some (fQ (cy (e6 m l nx) l.length 0)):=by
 have ao:=hm.jx;have aj:=mX (f:=Gz n) (λi=>[az l,ax nx,R (i:Int),bd m.vars,aU m.aB,az m.bK,az m.bL,aU m.next,az m.trans,az m.bH,bR m.bI]) (e6 m l nx) l.length [] fQ ?_ ?_ l.length 0 n (by omega) (by omega)
 .have bU:(R ((0:Nat):Int))=R 0:=rfl;rw[bU]at aj;by_cases c:(cy (e6 m l nx) l.length 0).2=0;.rw[xaa c]at aj;rw[sc _ _ _ c];simp only[u4,RX,go_sem,av.agg,av.aY,av.bw,av.bO,av.b0,av.cZ,av.dd,av.de,av.dp,aj,fQ]
  rw[xac c]at aj;simp only[u4,RX,go_sem,av.agg,av.aY,av.bw,av.bO,av.b0,av.cZ,av.dd,av.de,av.dp,aj]
 .intro i aj;obtain⟨t,aJ⟩:∃t,l[i]?=some t:=⟨l[i],xab aj⟩;have Jg:=aq.2 t (xad aJ);have bb:=afu hm.bp n (by omega) Jg.1 Jg.2 nx;have b2:=yT ((i:Int)<(l.length:Int));simp only[e6,aJ];by_cases aa:pc m nx t=0
  .have ej:(pc m nx t !=0)=false:=by simp[aa]
   simp only[Gz,go_sem,hW,b2,av.eta,xX aJ,bb,ej,xaa aa,cr (bt:=false) (i:=i) (by have:=aq.1;omega)]
  have ej:(pc m nx t !=0)=true:=by simpa using aa
  simp only[Gz,go_sem,hW,b2,av.eta,xX aJ,bb,ej,xac aa,fQ]
 simp only[Gz,go_sem,hW,yF ((l.length:Int)<l.length)]
theorem azb(i:Nat)(k:Int){d:bl}(aA:m.next[i]?=some d):bq (CB n) n [R (i:Int),R k,R 0,bd m.vars,aU m.aB,az m.bK,az m.bL,aU m.next,az m.trans,az m.bH,bR m.bI]=some (if(dg (m.next.take i) d.name).isSome=true then .inr (.inr (.inr (.inr (.aR [R (i:Int),R 6]))))else .inl [R (i:Int),R k,bd m.vars,aU m.aB,az m.bK,az m.bL,aU m.next,az m.trans,az m.bH,bR m.bI]):=by
 have ao:=hm.jx;have oU:=hm.next.1
 have b2:=(xae.1 aA).1;have b5:(m.next.take i).length=i:=by simp;omega
 have aj:=dm (f:=CB n) (m.next.take i) (λj (_:Unit)=>[R (i:Int),R k,R (j:Int),bd m.vars,aU m.aB,az m.bK,az m.bL,aU m.next,az m.trans,az m.bH,bR m.bI]) (λr _=>(if(dg r d.name).isSome=true then .inr (.inr (.inr (.inr (.aR [R (i:Int),R 6]))))else .inl [R (i:Int),R k,bd m.vars,aU m.aB,az m.bK,az m.bL,aU m.next,az m.trans,az m.bH,bR m.bI]:List D⊕(List D⊕(List D⊕(List D⊕D))))) (λ_ _=>True) (λ_ _=>by rw[b5];simp only[CB,go_sem,yF ((i:Int)<i)];rfl) ?_ n 0 () trivial (by omega) (xaj _);.exact aj
 intro j a _ aG aI _;rw[b5]at aI;rw[List.getElem?_take_of_lt aI]at aG;have cD:=yT ((j:Int)<(i:Int));have an:dg (a::(m.next.take i).drop (j+1)) d.name=if decide (a.name=d.name)=true then some 0 else(dg ((m.next.take i).drop (j+1)) d.name).map (·+1):=findIdx_cons _ a _
 rw[an];by_cases h:a.name=d.name;.right;rw[xaa (xao h)];simp only[CB,go_sem,cD,fE aG,fE aA,bl.gI,xao h,Option.isSome_some]
 left;refine⟨(),?_,?_,trivial⟩;.simp only[CB,go_sem,cD,fE aG,fE aA,bl.gI,xaw h,cr (bt:=false) (i:=j) (by omega)]
 have bD:¬(decide (a.name=d.name)=true):=by simpa using h
 rw[xac bD,Option.isSome_map]
theorem azc(i:Nat){d:cM}(aA:m.bI[i]?=some d):bq (CF n) n [R (i:Int),R 0,bd m.vars,aU m.aB,az m.bK,az m.bL,aU m.next,az m.trans,az m.bH,bR m.bI]=some (if(n4 (m.bI.take i) d.name).isSome=true then .inr (.inr (.inr (.inr (.aR [R (i:Int),R 6]))))else .inl [R (i:Int),bd m.vars,aU m.aB,az m.bK,az m.bL,aU m.next,az m.trans,az m.bH,bR m.bI]):=by
 have ao:=hm.jx;have oU:=hm.bI.1;have b2:=(xae.1 aA).1;have b5:(m.bI.take i).length=i:=by simp;omega
 have aj:=dm (f:=CF n) (m.bI.take i) (λj (_:Unit)=>[R (i:Int),R (j:Int),bd m.vars,aU m.aB,az m.bK,az m.bL,aU m.next,az m.trans,az m.bH,bR m.bI]) (λr _=>(if(n4 r d.name).isSome=true then .inr (.inr (.inr (.inr (.aR [R (i:Int),R 6]))))else .inl [R (i:Int),bd m.vars,aU m.aB,az m.bK,az m.bL,aU m.next,az m.trans,az m.bH,bR m.bI]:List D⊕(List D⊕(List D⊕(List D⊕D))))) (λ_ _=>True) (λ_ _=>by rw[b5];simp only[CF,go_sem,yF ((i:Int)<i)];rfl) ?_ n 0 () trivial (by omega) (xaj _);.exact aj
 intro j a _ aG aI _;rw[b5]at aI;rw[List.getElem?_take_of_lt aI]at aG;have cD:=yT ((j:Int)<(i:Int));have an:n4 (a::(m.bI.take i).drop (j+1)) d.name=if decide (a.name=d.name)=true then some 0 else(n4 ((m.bI.take i).drop (j+1)) d.name).map (·+1):=findIdx_cons _ a _
 rw[an];by_cases h:a.name=d.name;.right;rw[xaa (xao h)];simp only[CF,go_sem,cD,mV aG,mV aA,cM.gI,xao h,Option.isSome_some]
 left;refine⟨(),?_,?_,trivial⟩;.simp only[CF,go_sem,cD,mV aG,mV aA,cM.gI,xaw h,cr (bt:=false) (i:=j) (by omega)]
 have bD:¬(decide (a.name=d.name)=true):=by simpa using h
 rw[xac bD,Option.isSome_map]
theorem azd:CC n [m.d]=some (fQ (cy (jJ m) m.next.length 0)):=by
 have ao:=hm.jx;have oU:=hm.next.1
 have ke:=hm.bp.iB;have aj:=mX (f:=xn n) (λi=>[R (i:Int),bd m.vars,aU m.aB,az m.bK,az m.bL,aU m.next,az m.trans,az m.bH,bR m.bI]) (jJ m) m.next.length [] fQ ?_ ?_ m.next.length 0 n (by omega) (by omega)
 .have bU:(R ((0:Nat):Int))=R 0:=rfl;rw[bU]at aj;by_cases c:(cy (jJ m) m.next.length 0).2=0;.rw[xaa c]at aj;rw[sc _ _ _ c];simp only[CC,RY,go_sem,av.agg,av.aY,av.bw,av.bO,av.b0,av.cZ,av.dd,av.de,av.dp,aj,fQ]
  rw[xac c]at aj;simp only[CC,RY,go_sem,av.agg,av.aY,av.bw,av.bO,av.b0,av.cZ,av.dd,av.de,av.dp,aj]
 .intro i aj;obtain⟨d,aA⟩:∃d,m.next[i]?=some d:=⟨m.next[i],xab aj⟩
  have hF:=hm.next.2 d (xad aA)
  have bb:=Vl hm.bp n (by omega) hF.1 hF.2 false;have hy:=afF n m d.name (by omega) (by omega);have b2:=yT ((i:Int)<(m.next.length:Int));simp only[jJ,aA];cases aa:eh m.vars d.name with
  |none=>rw[aa]at hy;have ar:decide (fZ none<0)=true:=rfl;simp only[xn,go_sem,eA,b2,av.eta,fE aA,bl.gI,hy,ar,xac (show¬(12:Int)=0 by decide),fQ]
  |some k=>
   rw[aa]at hy;have hd:=azb hm i (fZ (some k)) aA;have ar:decide (fZ (some k)<0)=false:=by rw[aff];rfl
   have lC:k<m.vars.length:=by have:=xbn.1 aa;exact this.1
   obtain⟨v,aN⟩:∃v,m.vars[k]?=some v:=⟨m.vars[k],xab lC⟩;have kY:bh 4 (bd m.vars) (R (fZ (some k)))=some v.cells:=gS aN;have zb:aQ false 1 1 v.cells=some (ax v.bool):=rfl;simp only[aN,xaC,xbk];cases ay:(dg (m.next.take i) d.name).isSome with
   |true=>rw[ay,xaa rfl]at hd;simp only[xn,go_sem,eA,b2,av.eta,fE aA,bl.gI,hy,ar,hd,xac (show¬(6:Int)=0 by decide),fQ]
   |false=>
    rw[ay,xac (by decide)]at hd;generalize gY m false d.e=y at*;have cv:ag true .neq (ax y.1.b) (ax v.bool)=some (ax (y.1.b !=v.bool)):=rfl;have ll:((13:Int) !=0)=true:=rfl;by_cases an:(y.2==0&&(y.1.b !=v.bool))=true
    .simp only[xn,go_sem,eA,b2,av.eta,fE aA,bl.gI,bl.iy,hy,ar,hd,bb,pZ,tK,kY,zb,cv,an,ll,xac (show¬(13:Int)=0 by decide),fQ]
    have eH:(y.2==0&&(y.1.b !=v.bool))=false:=by simpa using an
    by_cases aK:y.2=0
    .have uf:(y.2 !=0)=false:=by simp[aK]
     simp only[xn,go_sem,eA,b2,av.eta,fE aA,bl.gI,bl.iy,hy,ar,hd,bb,pZ,tK,kY,zb,cv,eH,uf,xaa aK,cr (bt:=false) (i:=i) (by omega)]
    have uf:(y.2 !=0)=true:=by simpa using aK
    simp only[xn,go_sem,eA,b2,av.eta,fE aA,bl.gI,bl.iy,hy,ar,hd,bb,pZ,tK,kY,zb,cv,eH,uf,xac aK,fQ]
 simp only[xn,go_sem,eA,yF ((m.next.length:Int)<m.next.length)]
theorem aze:CG n [m.d]=some (fQ (cy (jK m) m.bI.length 0)):=by
 have ao:=hm.jx;have lQ:=hm.bI.1;have aj:=mX (f:=xo n) (λi=>[R (i:Int),bd m.vars,aU m.aB,az m.bK,az m.bL,aU m.next,az m.trans,az m.bH,bR m.bI]) (jK m) m.bI.length [] fQ ?_ ?_ m.bI.length 0 n (by omega) (by omega)
 .have bU:(R ((0:Nat):Int))=R 0:=rfl;rw[bU]at aj;by_cases c:(cy (jK m) m.bI.length 0).2=0;.rw[xaa c]at aj;rw[sc _ _ _ c];simp only[CG,R1,go_sem,av.agg,av.aY,av.bw,av.bO,av.b0,av.cZ,av.dd,av.de,av.dp,aj,fQ]
  rw[xac c]at aj;simp only[CG,R1,go_sem,av.agg,av.aY,av.bw,av.bO,av.b0,av.cZ,av.dd,av.de,av.dp,aj]
 .intro i aj;obtain⟨s,aE⟩:∃s,m.bI[i]?=some s:=⟨m.bI[i],xab aj⟩;obtain⟨⟨a8,Cj⟩,ay2,Vr⟩:=hm.bI.2 s (xad aE);have ca:=U9 n s.name (by omega) Vr;have e7:=azc hm i aE;have ch:=UK n s.f (by omega) a8 (by omega);have iH:=afL hm.bp n s.f (by omega) a8 Cj;have b2:=yT ((i:Int)<(m.bI.length:Int));simp only[jK,aE];cases aa:isName s.name with
  |false=>simp only[xo,go_sem,iT,b2,mV aE,cM.gI,ca,aa,xac (show¬(12:Int)=0 by decide),fQ]
  |true=>
   cases ay:(n4 (m.bI.take i) s.name).isSome with
   |true=>rw[ay,xaa rfl]at e7;simp only[xo,go_sem,iT,b2,mV aE,cM.gI,ca,aa,e7,xac (show¬(6:Int)=0 by decide),fQ]
   |false=>
    rw[ay,xac (by decide)]at e7;by_cases a7:lj s.f=0
    .have mL:(lj s.f==0)=true:=by simp[a7]
     by_cases bZ:lS m s.f=0
     .have uJ:(lS m s.f !=0)=false:=by simp[bZ]
      simp only[xo,go_sem,iT,b2,av.eta,mV aE,cM.gI,cM.iy,ca,aa,e7,ch,mL,xaa a7,iH,uJ,xaa bZ,cr (bt:=false) (i:=i) (by omega)]
     have uJ:(lS m s.f !=0)=true:=by simpa using bZ
     simp only[xo,go_sem,iT,b2,av.eta,mV aE,cM.gI,cM.iy,ca,aa,e7,ch,mL,xaa a7,iH,uJ,xac bZ,fQ]
    have mL:(lj s.f==0)=false:=by simpa using a7
    have azf:(lj s.f !=0)=true:=by simpa using a7
    simp only[xo,go_sem,iT,b2,av.eta,mV aE,cM.gI,cM.iy,ca,aa,e7,ch,mL,azf,xac a7,fQ]
 simp only[xo,go_sem,iT,yF ((m.bI.length:Int)<m.bI.length)]
end
def nr:List V->Nat
 |[]=>0|v::r=>bitsOf v.span+nr r
theorem V.NI(v:V):D.agg [ab v.d 0,ab v.d 1,ab v.d 2,ab v.d 3]=v.d:=rfl
def azg(n:Nat)(m:av)(aN:ln m.vars)(aq:m.vars.length<=100)(aM:200<n):GO n [m.d]=some (R (nr m.vars:Nat)):=by
 have aj:=dm (f:=LD n) m.vars (λi (s:Nat)=>[R (s:Int),bd m.vars,R m.vars.length,R (i:Int)]) (λr s=>(.inl [R ((s+nr r:Nat):Int)]:List D⊕D)) (λi s=>s<=62*i) ?_ ?_ n 0 0 (by simp) (by omega) (xaj _);.have bU:(R ((0:Nat):Int))=R 0:=rfl;rw[bU,xam,xaB]at aj;simp only[GO,aaI,go_sem,av.agg,av.aY,eT,aj]
 .intro s aE;simp only[LD,go_sem,yF ((m.vars.length:Int)<m.vars.length),nr,xbp]
 intro i v s gX aj aE;obtain⟨aa,ae,_⟩:=aN.2 v (xad gX);have gl:=Ve n v aa ae;have ao:=aym n v.span (V.Bc v).2 (by omega);have sx:=(DQ (V.Bc v).2).1;have b2:=yT ((i:Int)<(m.vars.length:Int));have fw:ag false .add (R (s:Int)) (R (bitsOf v.span:Nat))=some (R ((s+bitsOf v.span:Nat):Int)):=by rw[eZ (by omega) (by omega)];rfl
 left;refine⟨s+bitsOf v.span,?_,by rw[nr,xbc],by omega⟩;simp only[LD,go_sem,b2,gS gX,V.ef,V.eU,V.NI,gl,ao,fw,cr (bt:=false) (i:=i) (by omega)]
def azh(n:Nat)(m:av)(aN:ln m.vars)(aq:m.vars.length<=100)(aM:200<n):F0 n [m.d]=some (R (nr m.vars:Nat)):=by
 have aj:=dm (f:=Lt n) m.vars (λi (s:Nat)=>[R (s:Int),R (i:Int),bd m.vars,aU m.aB,az m.bK,az m.bL,aU m.next,az m.trans,az m.bH,bR m.bI]) (λr s=>(.inl [R ((s+nr r:Nat):Int)]:List D⊕D)) (λi s=>s<=62*i) ?_ ?_ n 0 0 (by simp) (by omega) (xaj _);.have bU:(R ((0:Nat):Int))=R 0:=rfl;rw[bU,xam,xaB]at aj;simp only[F0,aai,go_sem,av.agg,av.aY,av.bw,av.bO,av.b0,av.cZ,av.dd,av.de,av.dp,aj]
 .intro s aE;simp only[Lt,go_sem,eT,yF ((m.vars.length:Int)<m.vars.length),nr,xbp]
 intro i v s gX aj aE;obtain⟨aa,ae,_⟩:=aN.2 v (xad gX);have gl:=DP n v aa ae;have ao:=ayn n v.span (by have:=(V.Bc v).1;omega) (V.Bc v).2 (by omega);have sx:=(DQ (V.Bc v).2).1;have b2:=yT ((i:Int)<(m.vars.length:Int));have fw:ag false .add (R (s:Int)) (R (bitsOf v.span:Nat))=some (R ((s+bitsOf v.span:Nat):Int)):=by rw[eZ (by omega) (by omega)];rfl
 left;refine⟨s+bitsOf v.span,?_,by rw[nr,xbc],by omega⟩;simp only[Lt,go_sem,eT,b2,gS gX,V.ef,gl,ao,fw,cr (bt:=false) (i:=i) (by omega)]
def lV:List V->Int->Int
 |[],a=>a|v::r,a=>lV r (if a<=1073741824 then a*max v.span 1 else a)
def afN:∀(l:List V)(a:Int),¬a<=1073741824->lV l a=a
 |[],a,_=>rfl|v::r,a,h=>by rw[lV,xac h,afN r a h]
def n5(l:List V):Bool:=l.any λv=>v.span==0
def stM(l:List V):Int×Bool:=if n5 l=true then(0,true)else if lV l 1>1073741824 then(0,false)else(lV l 1,true)
def azi{a:Int}:kq true [R a,R 1]=some (R (max a 1)):=by
 rw[Re]
 congr 2
 split<;>omega
def afO{a k:Int}(aa:1<=a)(ae:a<=1073741824)(ay:0<=k)(a7:k<=1073741825):1<=a*max k 1/\a*max k 1<=1152921505680588800:=by
 have bZ:1<=max k 1:=by omega
 have cG:max k 1<=1073741825:=by omega
 generalize max k 1=q at*;constructor;.have:=xbV aa bZ (by omega) (by omega);simpa using this
 have:=xbV ae cG (by omega) (by omega);exact this
def azj(n:Nat)(m:av)(aN:ln m.vars)(aq:m.vars.length<=100)(aM:200<n):Ah n [m.d]=some (.aR [R (stM m.vars).1,ax (stM m.vars).2]):=by
 have aj:=dm (f:=HD n) m.vars (λi (s:Int×Bool)=>[R s.1,ax s.2,bd m.vars,R m.vars.length,R (i:Int)]) (λr s=>(.inl [R (lV r s.1),ax (s.2||n5 r)]:List D⊕D)) (λi s=>1<=s.1/\s.1<=1152921505680588800) ?_ ?_ n 0 (1,false) (by simp) (by omega) (xaj _)
 .have bU:(R ((0:Nat):Int))=R 0:=rfl;rw[bU,xam,xbz]at aj;unfold stM;cases aa:n5 m.vars with
  |true=>rw[aa]at aj;simp only[Ah,Ma,go_sem,av.agg,av.aY,eT,aj]
  |false=>
   rw[aa]at aj;by_cases ae:lV m.vars 1>1073741824;.simp only[Ah,Ma,go_sem,av.agg,av.aY,eT,aj,xao ae,xaa ae]
   simp only[Ah,Ma,go_sem,av.agg,av.aY,eT,aj,xaw ae,xac ae]
 .intro s aE;simp only[HD,go_sem,yF ((m.vars.length:Int)<m.vars.length),lV,n5,List.any_nil,Bool.or_false]
 intro i v s gX aj aE;obtain⟨aa,ae,_⟩:=aN.2 v (xad gX);have gl:=Ve n v aa ae;have lQ:=V.Bc v;have b2:=yT ((i:Int)<(m.vars.length:Int));have ud:∀r,n5 (v::r)=(v.span==0||n5 r):=λr=>rfl;left;by_cases an:s.1<=1073741824
 .have ao:=afO aE.1 an lQ.1 lQ.2;refine⟨(s.1*max v.span 1,s.2||v.span==0),?_,by rw[lV,xaa an,ud,Bool.or_assoc],ao⟩;simp only[HD,go_sem,b2,gS gX,V.ef,V.eU,V.NI,gl,xao an,azi,w6 (bt:=false) (a:=s.1) (b:=max v.span 1) (by omega) (by omega),cr (bt:=false) (i:=i) (by omega)]
 refine⟨(s.1,s.2||v.span==0),?_,by rw[lV,xac an,ud,Bool.or_assoc],aE⟩;simp only[HD,go_sem,b2,gS gX,V.ef,V.eU,V.NI,gl,xaw an,cr (bt:=false) (i:=i) (by omega)]
def hX:List (Int×(Int×Int))->Int×(Int×Int)
 |[]=>(0,(0,0))|a::r=>if a.2.2=0 then hX r else a
def afP{eG:Type}{f:List D->Option (List D⊕(List D⊕eG))}(L:List (Int×(Int×Int)))(gA:Nat->List D)(E:List D)(W:Int×(Int×Int)->eG) (aE:∀i a,L[i]?=some a->f (gA i)=some (if a.2.2=0 then .inl (gA (i+1))else .inr (.inr (W a)))) (he:f (gA L.length)=some (.inr (.inl E))) (n:Nat) (aM:L.length<n):bq f n (gA 0)=some (if(hX L).2.2=0 then .inl E else .inr (W (hX L))):=by
 have h:=dm (f:=f) L (λi (_:Unit)=>gA i) (λr _=>(if(hX r).2.2=0 then .inl E else .inr (W (hX r)):List D⊕eG)) (λ_ _=>True) (λ_ _=>by rw[he];rfl) ?_ n 0 () trivial (by omega) (xaj _);.exact h
 intro i a _ aG aj _;have aa:=aE i a aG;by_cases ar:a.2.2=0
 .left;rw[xaa ar]at aa;exact⟨(),aa,by rw[hX,xaa ar],trivial⟩
 right;rw[xac ar]at aa;rw[aa,hX,xac ar,xac ar]
def ij(m:av):List Nat:=[m.vars.length,m.aB.length,m.bK.length,m.bL.length,m.next.length,m.trans.length,m.bH.length,m.bI.length]
def ik(m:av)(i:Nat):Int:=if 64<(ij m)[i]?.getD 0 then 18 else 0
noncomputable def ns(m:av):List (Int×(Int×Int)):=[(2,cy (lT m) m.aB.length 0),(2,cy (mx m) m.aB.length 0),(2,cy (lU m) m.aB.length 0),(3,cy (e6 m m.bK false) m.bK.length 0),(4,cy (e6 m m.bL false) m.bL.length 0),(5,cy (jJ m) m.next.length 0),(6,cy (e6 m m.trans true) m.trans.length 0),(7,cy (e6 m m.bH false) m.bH.length 0),(8,cy (jK m) m.bI.length 0)]
noncomputable def Vs(m:av):List (Int×(Int×Int)):=[(2,sd m),(3,cy (e6 m m.bK false) m.bK.length 0),(4,cy (e6 m m.bL false) m.bL.length 0),(5,cy (jJ m) m.next.length 0),(6,cy (e6 m m.trans true) m.trans.length 0),(7,cy (e6 m m.bH false) m.bH.length 0),(8,cy (jK m) m.bI.length 0)]
def afQ{a b:Int×Int}:(vV a b).2=0↔a.2=0/\b.2=0:=by unfold vV;by_cases h:a.2=0<;>simp[h]
def afR(k:Int)(a b:Int×Int)(r:List (Int×(Int×Int))):hX ((k,vV a b)::r)=hX ((k,a)::(k,b)::r):=by simp only[hX];unfold vV;by_cases h:a.2=0<;>simp[h]
def azk(a:Int×(Int×Int)){r uc:List (Int×(Int×Int))}(h:hX r=hX uc):hX (a::r)=hX (a::uc):=by rw[hX,hX,h]
def azl(m:av):hX (Vs m)=hX (ns m):=by unfold Vs sd;rw[afR];exact azk _ (afR _ _ _ _)
noncomputable def iU(m:av):Int×(Int×Int):=if(cy (ik m) 8 0).2=0 then
  if(kp m.vars).2=0 then
   if 30<nr m.vars then(1,(0,18))else hX (ns m)
  else(1,kp m.vars)
 else((cy (ik m) 8 0).1+1,(64,18))
def dJ(q:Int×(Int×Int)):D:= .aR [.agg [R q.1,R q.2.1],R q.2.2]
def azm{l:List V}(h:(kp l).2=0):kp l=(0,0):=by unfold kp at h⊢;cases a8:(List.range l.length).find? (λi=>jo l i !=0)with|none=>rw[a8]at h|some i=>rw[a8]at h;have:=List.find?_some a8;simp only at h;rw[h]at this;cases this
def afS(L:List (Int×(Int×Int)))(h:(hX L).2.2=0):hX L=(0,(0,0)):=by
 induction L with
 |nil=>rfl
 |cons a r ih=>
  rw[hX]at h⊢;by_cases ar:a.2.2=0;.rw[xaa ar]at h⊢;exact ih h
  rw[xac ar]at h;exact absurd h ar
theorem il{t:Nat}{x:D}:B8 (.dU t x)=some (t,x):=rfl
def tL(m:av):D:= .agg ((ij m).map λ(k:Nat)=>R (k:Int))
def gC(m:av):D:= .agg [.dU 117 (aU m.aB),.dU 118 (aU m.aB),.dU 119 (aU m.aB),.dU 121 (.agg [R 3,az m.bK,ax false]),.dU 121 (.agg [R 4,az m.bL,ax false]),.dU 122 (aU m.next),.dU 121 (.agg [R 6,az m.trans,ax true]),.dU 121 (.agg [R 7,az m.bH,ax false]),.dU 123 (bR m.bI)]
theorem NJ{eG:Type}{a b:Option eG}:gw 117 117 a b=a:=rfl
theorem NK{eG:Type}{a b:Option eG}:gw 118 117 a b=b:=rfl
theorem NL{eG:Type}{a b:Option eG}:gw 118 118 a b=a:=rfl
theorem NM{eG:Type}{a b:Option eG}:gw 119 117 a b=b:=rfl
theorem NN{eG:Type}{a b:Option eG}:gw 119 118 a b=b:=rfl
theorem NO{eG:Type}{a b:Option eG}:gw 119 119 a b=a:=rfl
theorem tM{eG:Type}{a b:Option eG}:gw 121 117 a b=b:=rfl
theorem tN{eG:Type}{a b:Option eG}:gw 121 118 a b=b:=rfl
theorem tO{eG:Type}{a b:Option eG}:gw 121 119 a b=b:=rfl
theorem tP{eG:Type}{a b:Option eG}:gw 121 121 a b=a:=rfl
theorem NP{eG:Type}{a b:Option eG}:gw 122 117 a b=b:=rfl
theorem NQ{eG:Type}{a b:Option eG}:gw 122 118 a b=b:=rfl
theorem NR{eG:Type}{a b:Option eG}:gw 122 119 a b=b:=rfl
theorem NS{eG:Type}{a b:Option eG}:gw 122 121 a b=b:=rfl
theorem NT{eG:Type}{a b:Option eG}:gw 122 122 a b=a:=rfl
theorem NU{eG:Type}{a b:Option eG}:gw 123 117 a b=b:=rfl
theorem NV{eG:Type}{a b:Option eG}:gw 123 118 a b=b:=rfl
theorem NW{eG:Type}{a b:Option eG}:gw 123 119 a b=b:=rfl
theorem NX{eG:Type}{a b:Option eG}:gw 123 121 a b=b:=rfl
theorem NY{eG:Type}{a b:Option eG}:gw 123 122 a b=b:=rfl
theorem NZ{eG:Type}{a b:Option eG}:gw 123 123 a b=a:=rfl
section
variable{m:av}{n:Nat}(hm:NG m n)
include hm
theorem azn:bq (rV n) n [tL m,R 0,bd m.vars,aU m.aB,az m.bK,az m.bL,aU m.next,az m.trans,az m.bH,bR m.bI,R 0,R 0]=some (if(cy (ik m) 8 0).2=0 then .inl [bd m.vars,aU m.aB,az m.bK,az m.bL,aU m.next,az m.trans,az m.bH,bR m.bI,R 0,R 0]else .inr (dJ ((cy (ik m) 8 0).1+1,(64,18)))):=by
 have ao:=hm.jx;refine mX (f:=rV n) (λi=>[tL m,R (i:Int),bd m.vars,aU m.aB,az m.bK,az m.bL,aU m.next,az m.trans,az m.bH,bR m.bI,R 0,R 0]) (ik m) 8 _ (λp=>dJ (p.1+1,(64,18))) ?_ ?_ 8 0 n (by omega) (by omega)
 .intro i aj;obtain⟨k,al⟩:∃k,(ij m)[i]?=some k:=⟨_,xab aj⟩;have b2:=yT ((i:Int)<8);have eD:bj 8 (R (i:Int))=some i:=by rw[lG,xaa aj]
  have a8:mb false 1 (i*1) (tL m)=some (R (k:Int)):=by unfold tL;rw[Nat.mul_one,Zx,iK,xai,al];rfl
  have Be:ag false .add (R 1) (R (i:Int))=some (R ((i:Int)+1)):=by rw[eZ (by omega) (by omega)];congr 2;omega
  have b9:ik m i=if 64<k then 18 else 0:=by unfold ik;rw[al];rfl
  by_cases an:64<k;.rw[b9,xaa an,xac (by decide)];simp only[rV,go_sem,b2,eD,a8,yT ((k:Int)>64),Be,dJ]
  rw[b9,xac an,xaa rfl];simp only[rV,go_sem,b2,eD,a8,yF ((k:Int)>64),cr (bt:=false) (i:=i) (by omega)]
 simp only[rV,go_sem,show decide (((8:Nat):Int)<8)=false from rfl]
theorem azo:bq (rN n) n [R 0,bd m.vars,aU m.aB,az m.bK,az m.bL,aU m.next,az m.trans,az m.bH,bR m.bI,R 0,R 0,D.ak 1 ((ij m).map λ(k:Nat)=>[R (k:Int)])]=some (if(cy (ik m) 8 0).2=0 then .inl [bd m.vars,aU m.aB,az m.bK,az m.bL,aU m.next,az m.trans,az m.bH,bR m.bI,R 0,R 0]else .inr (dJ ((cy (ik m) 8 0).1+1,(64,18)))):=by
 have ao:=hm.jx;refine mX (f:=rN n) (λi=>[R (i:Int),bd m.vars,aU m.aB,az m.bK,az m.bL,aU m.next,az m.trans,az m.bH,bR m.bI,R 0,R 0,D.ak 1 ((ij m).map λ(k:Nat)=>[R (k:Int)])]) (ik m) 8 _ (λp=>dJ (p.1+1,(64,18))) ?_ ?_ 8 0 n (by omega) (by omega)
 .intro i aj;obtain⟨k,al⟩:∃k,(ij m)[i]?=some k:=⟨_,xab aj⟩;have bB:((ij m).map λ(k:Nat)=>[R (k:Int)]).length=8:=rfl;have b2:=yT ((i:Int)<((8:Nat):Int));have eD:bj 8 (R (i:Int))=some i:=by rw[lG,xaa aj]
  have a8:((ij m).map λ(k:Nat)=>[R (k:Int)])[i]?=some [R (k:Int)]:=by rw[xai,al];rfl
  have Be:ag false .add (R (i:Int)) (R 1)=some (R ((i:Int)+1)):=by rw[eZ (by omega) (by omega)]
  have b9:ik m i=if 64<k then 18 else 0:=by unfold ik;rw[al];rfl
  generalize ((ij m).map λ(k:Nat)=>[R (k:Int)])=azp at*;by_cases an:64<k;.rw[b9,xaa an,xac (by decide)];simp only[rN,go_sem,bB,b2,eD,a8,DV,yT ((k:Int)>64),Be,dJ]
  rw[b9,xac an,xaa rfl];simp only[rN,go_sem,bB,b2,eD,a8,DV,yF ((k:Int)>64),cr (bt:=false) (i:=i) (by omega)]
 have bB:((ij m).map λ(k:Nat)=>[R (k:Int)]).length=8:=rfl;simp only[rN,go_sem,bB,show decide (((8:Nat):Int)<((8:Nat):Int))=false from rfl]
theorem azq(A ki:D):bq (hU n) n [D.dU 117 (aU m.aB),A,ki,R m.aB.length,R 0,bd m.vars,aU m.aB,az m.bK,az m.bL,aU m.next,az m.trans,az m.bH,bR m.bI,R 0,R 0]=some (if(cy (lT m) m.aB.length 0).2=0 then .inl [A,ki,bd m.vars,aU m.aB,az m.bK,az m.bL,aU m.next,az m.trans,az m.bH,bR m.bI,R 0,R 0]else .inr (.inr (.inr (.inr (dJ (2,cy (lT m) m.aB.length 0)))))):=by
 have ao:=hm.jx;have ca:=hm.bp.dl;refine mX (f:=hU n) (λi=>[D.dU 117 (aU m.aB),A,ki,R m.aB.length,R (i:Int),bd m.vars,aU m.aB,az m.bK,az m.bL,aU m.next,az m.trans,az m.bH,bR m.bI,R 0,R 0]) (lT m) (m.aB.length) _ (λp=> .inr (.inr (.inr (dJ (2,p))))) ?_ ?_ _ 0 n (by omega) (by omega)
 .intro i aj;have b2:=yT ((i:Int)<((m.aB.length:Nat):Int));have hw:=ayX hm i aj;change vi n [_,m.d,R (i:Int)]=some (R (lT m i))at hw;by_cases an:lT m i=0
  .have eH:(lT m i !=0)=false:=by simp[an]
   rw[xaa an];simp only[hU,go_sem,b2,il,NJ,av.eta,hw,eH,cr (bt:=false) (i:=i) (by omega)]
  have eH:(lT m i !=0)=true:=by simpa using an
  rw[xac an];simp only[hU,go_sem,b2,il,NJ,av.eta,hw,eH,L9,aba,dJ]
 simp only[hU,go_sem,yF (((m.aB.length:Nat):Int)<((m.aB.length:Nat):Int))]
theorem azr(A ki:D):bq (hU n) n [D.dU 118 (aU m.aB),A,ki,R m.aB.length,R 0,bd m.vars,aU m.aB,az m.bK,az m.bL,aU m.next,az m.trans,az m.bH,bR m.bI,R 0,R 0]=some (if(cy (mx m) m.aB.length 0).2=0 then .inl [A,ki,bd m.vars,aU m.aB,az m.bK,az m.bL,aU m.next,az m.trans,az m.bH,bR m.bI,R 0,R 0]else .inr (.inr (.inr (.inr (dJ (2,cy (mx m) m.aB.length 0)))))):=by
 have ao:=hm.jx;have ca:=hm.bp.dl;refine mX (f:=hU n) (λi=>[D.dU 118 (aU m.aB),A,ki,R m.aB.length,R (i:Int),bd m.vars,aU m.aB,az m.bK,az m.bL,aU m.next,az m.trans,az m.bH,bR m.bI,R 0,R 0]) (mx m) (m.aB.length) _ (λp=> .inr (.inr (.inr (dJ (2,p))))) ?_ ?_ _ 0 n (by omega) (by omega)
 .intro i aj;have b2:=yT ((i:Int)<((m.aB.length:Nat):Int));have hw:=ayT n m hm.bp.d i aj (by omega);change CV n [_,m.d,R (i:Int)]=some (R (mx m i))at hw;by_cases an:mx m i=0
  .have eH:(mx m i !=0)=false:=by simp[an]
   rw[xaa an];simp only[hU,go_sem,b2,il,NK,NL,av.eta,hw,eH,cr (bt:=false) (i:=i) (by omega)]
  have eH:(mx m i !=0)=true:=by simpa using an
  rw[xac an];simp only[hU,go_sem,b2,il,NK,NL,av.eta,hw,eH,L8,aa9,dJ]
 simp only[hU,go_sem,yF (((m.aB.length:Nat):Int)<((m.aB.length:Nat):Int))]
theorem azs(A ki:D):bq (hU n) n [D.dU 119 (aU m.aB),A,ki,R m.aB.length,R 0,bd m.vars,aU m.aB,az m.bK,az m.bL,aU m.next,az m.trans,az m.bH,bR m.bI,R 0,R 0]=some (if(cy (lU m) m.aB.length 0).2=0 then .inl [A,ki,bd m.vars,aU m.aB,az m.bK,az m.bL,aU m.next,az m.trans,az m.bH,bR m.bI,R 0,R 0]else .inr (.inr (.inr (.inr (dJ (2,cy (lU m) m.aB.length 0)))))):=by
 have ao:=hm.jx;have ca:=hm.bp.dl;refine mX (f:=hU n) (λi=>[D.dU 119 (aU m.aB),A,ki,R m.aB.length,R (i:Int),bd m.vars,aU m.aB,az m.bK,az m.bL,aU m.next,az m.trans,az m.bH,bR m.bI,R 0,R 0]) (lU m) (m.aB.length) _ (λp=> .inr (.inr (.inr (dJ (2,p))))) ?_ ?_ _ 0 n (by omega) (by omega)
 .intro i aj;have b2:=yT ((i:Int)<((m.aB.length:Nat):Int));have hw:=ayY hm i aj;change CU n [_,m.d,R (i:Int)]=some (R (lU m i))at hw;by_cases an:lU m i=0
  .have eH:(lU m i !=0)=false:=by simp[an]
   rw[xaa an];simp only[hU,go_sem,b2,il,NM,NN,NO,av.eta,hw,eH,cr (bt:=false) (i:=i) (by omega)]
  have eH:(lU m i !=0)=true:=by simpa using an
  rw[xac an];simp only[hU,go_sem,b2,il,NM,NN,NO,av.eta,hw,eH,L7,aa8,dJ]
 simp only[hU,go_sem,yF (((m.aB.length:Nat):Int)<((m.aB.length:Nat):Int))]
theorem N0(l:List Tm)(aq:l.length<=100/\∀t∈l,t.cB/\t.bp<=660000)(k:Int)(nx:Bool)(A ki:D):bq (hU n) n [D.dU 121 (D.agg [R k,az l,ax nx]),A,ki,R l.length,R 0,bd m.vars,aU m.aB,az m.bK,az m.bL,aU m.next,az m.trans,az m.bH,bR m.bI,R 0,R 0]=some (if(cy (e6 m l nx) l.length 0).2=0 then .inl [A,ki,bd m.vars,aU m.aB,az m.bK,az m.bL,aU m.next,az m.trans,az m.bH,bR m.bI,R 0,R 0]else .inr (.inr (.inr (.inr (dJ (k,cy (e6 m l nx) l.length 0)))))):=by
 have ao:=hm.jx;have ca:=aq.1;have azt:ab (D.agg [R k,az l,ax nx]) 0=R k:=rfl;have azu:a6 3 (D.agg [R k,az l,ax nx])=true:=rfl;refine mX (f:=hU n) (λi=>[D.dU 121 (D.agg [R k,az l,ax nx]),A,ki,R l.length,R (i:Int),bd m.vars,aU m.aB,az m.bK,az m.bL,aU m.next,az m.trans,az m.bH,bR m.bI,R 0,R 0]) (e6 m l nx) (l.length) _ (λp=> .inr (.inr (.inr (dJ (k,p))))) ?_ ?_ _ 0 n (by omega) (by omega)
 .intro i aj;have b2:=yT ((i:Int)<((l.length:Nat):Int));have hw:=ayZ hm l aq.2 k nx i aj;change CT n [_,m.d,R (i:Int)]=some (R (e6 m l nx i))at hw;by_cases an:e6 m l nx i=0
  .have eH:(e6 m l nx i !=0)=false:=by simp[an]
   rw[xaa an];simp only[hU,go_sem,b2,il,tM,tN,tO,tP,av.eta,hw,eH,cr (bt:=false) (i:=i) (by omega)]
  have eH:(e6 m l nx i !=0)=true:=by simpa using an
  rw[xac an];simp only[hU,go_sem,b2,il,tM,tN,tO,tP,av.eta,hw,eH,L6,aa7,azt,azu,dJ]
 simp only[hU,go_sem,yF (((l.length:Nat):Int)<((l.length:Nat):Int))]
theorem azv(A ki:D):bq (hU n) n [D.dU 122 (aU m.next),A,ki,R m.next.length,R 0,bd m.vars,aU m.aB,az m.bK,az m.bL,aU m.next,az m.trans,az m.bH,bR m.bI,R 0,R 0]=some (if(cy (jJ m) m.next.length 0).2=0 then .inl [A,ki,bd m.vars,aU m.aB,az m.bK,az m.bL,aU m.next,az m.trans,az m.bH,bR m.bI,R 0,R 0]else .inr (.inr (.inr (.inr (dJ (5,cy (jJ m) m.next.length 0)))))):=by
 have ao:=hm.jx;have ca:=hm.next.1
 refine mX (f:=hU n) (λi=>[D.dU 122 (aU m.next),A,ki,R m.next.length,R (i:Int),bd m.vars,aU m.aB,az m.bK,az m.bL,aU m.next,az m.trans,az m.bH,bR m.bI,R 0,R 0]) (jJ m) (m.next.length) _ (λp=> .inr (.inr (.inr (dJ (5,p))))) ?_ ?_ _ 0 n (by omega) (by omega)
 .intro i aj;have b2:=yT ((i:Int)<((m.next.length:Nat):Int));have hw:=ay0 hm i aj;change xv n [_,m.d,R (i:Int)]=some (R (jJ m i))at hw;by_cases an:jJ m i=0
  .have eH:(jJ m i !=0)=false:=by simp[an]
   rw[xaa an];simp only[hU,go_sem,b2,il,NP,NQ,NR,NS,NT,av.eta,hw,eH,cr (bt:=false) (i:=i) (by omega)]
  have eH:(jJ m i !=0)=true:=by simpa using an
  rw[xac an];simp only[hU,go_sem,b2,il,NP,NQ,NR,NS,NT,av.eta,hw,eH,L5,aa6,dJ]
 simp only[hU,go_sem,yF (((m.next.length:Nat):Int)<((m.next.length:Nat):Int))]
theorem azw(A ki:D):bq (hU n) n [D.dU 123 (bR m.bI),A,ki,R m.bI.length,R 0,bd m.vars,aU m.aB,az m.bK,az m.bL,aU m.next,az m.trans,az m.bH,bR m.bI,R 0,R 0]=some (if(cy (jK m) m.bI.length 0).2=0 then .inl [A,ki,bd m.vars,aU m.aB,az m.bK,az m.bL,aU m.next,az m.trans,az m.bH,bR m.bI,R 0,R 0]else .inr (.inr (.inr (.inr (dJ (8,cy (jK m) m.bI.length 0)))))):=by
 have ao:=hm.jx;have ca:=hm.bI.1;refine mX (f:=hU n) (λi=>[D.dU 123 (bR m.bI),A,ki,R m.bI.length,R (i:Int),bd m.vars,aU m.aB,az m.bK,az m.bL,aU m.next,az m.trans,az m.bH,bR m.bI,R 0,R 0]) (jK m) (m.bI.length) _ (λp=> .inr (.inr (.inr (dJ (8,p))))) ?_ ?_ _ 0 n (by omega) (by omega)
 .intro i aj;have b2:=yT ((i:Int)<((m.bI.length:Nat):Int));have hw:=ay1 hm i aj;change vh n [_,m.d,R (i:Int)]=some (R (jK m i))at hw;by_cases an:jK m i=0
  .have eH:(jK m i !=0)=false:=by simp[an]
   rw[xaa an];simp only[hU,go_sem,b2,il,NU,NV,NW,NX,NY,NZ,av.eta,hw,eH,cr (bt:=false) (i:=i) (by omega)]
  have eH:(jK m i !=0)=true:=by simpa using an
  rw[xac an];simp only[hU,go_sem,b2,il,NU,NV,NW,NX,NY,NZ,av.eta,hw,eH,L4,aa5,dJ]
 simp only[hU,go_sem,yF (((m.bI.length:Nat):Int)<((m.bI.length:Nat):Int))]
theorem azx:hN n [gC m,R 0,bd m.vars,aU m.aB,az m.bK,az m.bL,aU m.next,az m.trans,az m.bH,bR m.bI,R 0,R 0]=some (if(cy (lT m) m.aB.length 0).2=0 then .inl [gC m,R 1,bd m.vars,aU m.aB,az m.bK,az m.bL,aU m.next,az m.trans,az m.bH,bR m.bI,R 0,R 0]else .inr (.inr (dJ (2,cy (lT m) m.aB.length 0)))):=by
 have e2:=azq hm (gC m) (R 0);have b2:decide ((0:Int)<9)=true:=rfl;have eD:bj 9 (R 0)=some 0:=rfl;have a8:mb false 1 (0*1) (gC m)=some (D.dU 117 (aU m.aB)):=rfl;have jg:GV n [aU m.aB]=some (R m.aB.length):=by simp only[GV,aaN,go_sem,eA]
 have fw:ag false .add (R 0) (R 1)=some (R 1):=eZ (by decide) (by decide);by_cases an:(cy (lT m) m.aB.length 0).2=0;.rw[xaa an]at e2⊢;simp only[hN,go_sem,b2,eD,a8,il,NJ,jg,e2,fw]
 rw[xac an]at e2⊢;simp only[hN,go_sem,b2,eD,a8,il,NJ,jg,e2]
theorem azy:hN n [gC m,R 1,bd m.vars,aU m.aB,az m.bK,az m.bL,aU m.next,az m.trans,az m.bH,bR m.bI,R 0,R 0]=some (if(cy (mx m) m.aB.length 0).2=0 then .inl [gC m,R 2,bd m.vars,aU m.aB,az m.bK,az m.bL,aU m.next,az m.trans,az m.bH,bR m.bI,R 0,R 0]else .inr (.inr (dJ (2,cy (mx m) m.aB.length 0)))):=by
 have e2:=azr hm (gC m) (R 1);have b2:decide ((1:Int)<9)=true:=rfl;have eD:bj 9 (R 1)=some 1:=rfl;have a8:mb false 1 (1*1) (gC m)=some (D.dU 118 (aU m.aB)):=rfl;have jg:GU n [aU m.aB]=some (R m.aB.length):=by simp only[GU,aaM,go_sem,eA]
 have fw:ag false .add (R 1) (R 1)=some (R 2):=eZ (by decide) (by decide);by_cases an:(cy (mx m) m.aB.length 0).2=0;.rw[xaa an]at e2⊢;simp only[hN,go_sem,b2,eD,a8,il,NK,NL,jg,e2,fw]
 rw[xac an]at e2⊢;simp only[hN,go_sem,b2,eD,a8,il,NK,NL,jg,e2]
theorem azz:hN n [gC m,R 2,bd m.vars,aU m.aB,az m.bK,az m.bL,aU m.next,az m.trans,az m.bH,bR m.bI,R 0,R 0]=some (if(cy (lU m) m.aB.length 0).2=0 then .inl [gC m,R 3,bd m.vars,aU m.aB,az m.bK,az m.bL,aU m.next,az m.trans,az m.bH,bR m.bI,R 0,R 0]else .inr (.inr (dJ (2,cy (lU m) m.aB.length 0)))):=by
 have e2:=azs hm (gC m) (R 2);have b2:decide ((2:Int)<9)=true:=rfl;have eD:bj 9 (R 2)=some 2:=rfl;have a8:mb false 1 (2*1) (gC m)=some (D.dU 119 (aU m.aB)):=rfl;have jg:GS n [aU m.aB]=some (R m.aB.length):=by simp only[GS,aaL,go_sem,eA]
 have fw:ag false .add (R 2) (R 1)=some (R 3):=eZ (by decide) (by decide);by_cases an:(cy (lU m) m.aB.length 0).2=0;.rw[xaa an]at e2⊢;simp only[hN,go_sem,b2,eD,a8,il,NM,NN,NO,jg,e2,fw]
 rw[xac an]at e2⊢;simp only[hN,go_sem,b2,eD,a8,il,NM,NN,NO,jg,e2]
theorem azA:hN n [gC m,R 3,bd m.vars,aU m.aB,az m.bK,az m.bL,aU m.next,az m.trans,az m.bH,bR m.bI,R 0,R 0]=some (if(cy (e6 m m.bK false) m.bK.length 0).2=0 then .inl [gC m,R 4,bd m.vars,aU m.aB,az m.bK,az m.bL,aU m.next,az m.trans,az m.bH,bR m.bI,R 0,R 0]else .inr (.inr (dJ (3,cy (e6 m m.bK false) m.bK.length 0)))):=by
 have e2:=N0 hm m.bK hm.bK 3 false (gC m) (R 3);have b2:decide ((3:Int)<9)=true:=rfl;have eD:bj 9 (R 3)=some 3:=rfl;have a8:mb false 1 (3*1) (gC m)=some (D.dU 121 (D.agg [R 3,az m.bK,ax false])):=rfl;have jg:rP n [D.agg [R 3,az m.bK,ax false]]=some (R m.bK.length):=by have ay:a6 3 (D.agg [R 3,az m.bK,ax false])=true:=rfl;have a7:ab (D.agg [R 3,az m.bK,ax false]) 1=az m.bK:=rfl;simp only[rP,GR,go_sem,ay,a7,hW]
 have fw:ag false .add (R 3) (R 1)=some (R 4):=eZ (by decide) (by decide);by_cases an:(cy (e6 m m.bK false) m.bK.length 0).2=0;.rw[xaa an]at e2⊢;simp only[hN,go_sem,b2,eD,a8,il,tM,tN,tO,tP,jg,e2,fw]
 rw[xac an]at e2⊢;simp only[hN,go_sem,b2,eD,a8,il,tM,tN,tO,tP,jg,e2]
theorem azB:hN n [gC m,R 4,bd m.vars,aU m.aB,az m.bK,az m.bL,aU m.next,az m.trans,az m.bH,bR m.bI,R 0,R 0]=some (if(cy (e6 m m.bL false) m.bL.length 0).2=0 then .inl [gC m,R 5,bd m.vars,aU m.aB,az m.bK,az m.bL,aU m.next,az m.trans,az m.bH,bR m.bI,R 0,R 0]else .inr (.inr (dJ (4,cy (e6 m m.bL false) m.bL.length 0)))):=by
 have e2:=N0 hm m.bL hm.bL 4 false (gC m) (R 4);have b2:decide ((4:Int)<9)=true:=rfl;have eD:bj 9 (R 4)=some 4:=rfl;have a8:mb false 1 (4*1) (gC m)=some (D.dU 121 (D.agg [R 4,az m.bL,ax false])):=rfl;have jg:rP n [D.agg [R 4,az m.bL,ax false]]=some (R m.bL.length):=by have ay:a6 3 (D.agg [R 4,az m.bL,ax false])=true:=rfl;have a7:ab (D.agg [R 4,az m.bL,ax false]) 1=az m.bL:=rfl;simp only[rP,GR,go_sem,ay,a7,hW]
 have fw:ag false .add (R 4) (R 1)=some (R 5):=eZ (by decide) (by decide);by_cases an:(cy (e6 m m.bL false) m.bL.length 0).2=0;.rw[xaa an]at e2⊢;simp only[hN,go_sem,b2,eD,a8,il,tM,tN,tO,tP,jg,e2,fw]
 rw[xac an]at e2⊢;simp only[hN,go_sem,b2,eD,a8,il,tM,tN,tO,tP,jg,e2]
theorem azC:hN n [gC m,R 5,bd m.vars,aU m.aB,az m.bK,az m.bL,aU m.next,az m.trans,az m.bH,bR m.bI,R 0,R 0]=some (if(cy (jJ m) m.next.length 0).2=0 then .inl [gC m,R 6,bd m.vars,aU m.aB,az m.bK,az m.bL,aU m.next,az m.trans,az m.bH,bR m.bI,R 0,R 0]else .inr (.inr (dJ (5,cy (jJ m) m.next.length 0)))):=by
 have e2:=azv hm (gC m) (R 5);have b2:decide ((5:Int)<9)=true:=rfl;have eD:bj 9 (R 5)=some 5:=rfl;have a8:mb false 1 (5*1) (gC m)=some (D.dU 122 (aU m.next)):=rfl;have jg:GQ n [aU m.next]=some (R m.next.length):=by simp only[GQ,aaK,go_sem,eA]
 have fw:ag false .add (R 5) (R 1)=some (R 6):=eZ (by decide) (by decide);by_cases an:(cy (jJ m) m.next.length 0).2=0;.rw[xaa an]at e2⊢;simp only[hN,go_sem,b2,eD,a8,il,NP,NQ,NR,NS,NT,jg,e2,fw]
 rw[xac an]at e2⊢;simp only[hN,go_sem,b2,eD,a8,il,NP,NQ,NR,NS,NT,jg,e2]
theorem azD:hN n [gC m,R 6,bd m.vars,aU m.aB,az m.bK,az m.bL,aU m.next,az m.trans,az m.bH,bR m.bI,R 0,R 0]=some (if(cy (e6 m m.trans true) m.trans.length 0).2=0 then .inl [gC m,R 7,bd m.vars,aU m.aB,az m.bK,az m.bL,aU m.next,az m.trans,az m.bH,bR m.bI,R 0,R 0]else .inr (.inr (dJ (6,cy (e6 m m.trans true) m.trans.length 0)))):=by
 have e2:=N0 hm m.trans hm.trans 6 true (gC m) (R 6);have b2:decide ((6:Int)<9)=true:=rfl;have eD:bj 9 (R 6)=some 6:=rfl;have a8:mb false 1 (6*1) (gC m)=some (D.dU 121 (D.agg [R 6,az m.trans,ax true])):=rfl;have jg:rP n [D.agg [R 6,az m.trans,ax true]]=some (R m.trans.length):=by have ay:a6 3 (D.agg [R 6,az m.trans,ax true])=true:=rfl;have a7:ab (D.agg [R 6,az m.trans,ax true]) 1=az m.trans:=rfl;simp only[rP,GR,go_sem,ay,a7,hW]
 have fw:ag false .add (R 6) (R 1)=some (R 7):=eZ (by decide) (by decide);by_cases an:(cy (e6 m m.trans true) m.trans.length 0).2=0;.rw[xaa an]at e2⊢;simp only[hN,go_sem,b2,eD,a8,il,tM,tN,tO,tP,jg,e2,fw]
 rw[xac an]at e2⊢;simp only[hN,go_sem,b2,eD,a8,il,tM,tN,tO,tP,jg,e2]
theorem azE:hN n [gC m,R 7,bd m.vars,aU m.aB,az m.bK,az m.bL,aU m.next,az m.trans,az m.bH,bR m.bI,R 0,R 0]=some (if(cy (e6 m m.bH false) m.bH.length 0).2=0 then .inl [gC m,R 8,bd m.vars,aU m.aB,az m.bK,az m.bL,aU m.next,az m.trans,az m.bH,bR m.bI,R 0,R 0]else .inr (.inr (dJ (7,cy (e6 m m.bH false) m.bH.length 0)))):=by
 have e2:=N0 hm m.bH hm.bH 7 false (gC m) (R 7);have b2:decide ((7:Int)<9)=true:=rfl;have eD:bj 9 (R 7)=some 7:=rfl;have a8:mb false 1 (7*1) (gC m)=some (D.dU 121 (D.agg [R 7,az m.bH,ax false])):=rfl;have jg:rP n [D.agg [R 7,az m.bH,ax false]]=some (R m.bH.length):=by have ay:a6 3 (D.agg [R 7,az m.bH,ax false])=true:=rfl;have a7:ab (D.agg [R 7,az m.bH,ax false]) 1=az m.bH:=rfl;simp only[rP,GR,go_sem,ay,a7,hW]
 have fw:ag false .add (R 7) (R 1)=some (R 8):=eZ (by decide) (by decide);by_cases an:(cy (e6 m m.bH false) m.bH.length 0).2=0;.rw[xaa an]at e2⊢;simp only[hN,go_sem,b2,eD,a8,il,tM,tN,tO,tP,jg,e2,fw]
 rw[xac an]at e2⊢;simp only[hN,go_sem,b2,eD,a8,il,tM,tN,tO,tP,jg,e2]
theorem azF:hN n [gC m,R 8,bd m.vars,aU m.aB,az m.bK,az m.bL,aU m.next,az m.trans,az m.bH,bR m.bI,R 0,R 0]=some (if(cy (jK m) m.bI.length 0).2=0 then .inl [gC m,R 9,bd m.vars,aU m.aB,az m.bK,az m.bL,aU m.next,az m.trans,az m.bH,bR m.bI,R 0,R 0]else .inr (.inr (dJ (8,cy (jK m) m.bI.length 0)))):=by
 have e2:=azw hm (gC m) (R 8);have b2:decide ((8:Int)<9)=true:=rfl;have eD:bj 9 (R 8)=some 8:=rfl;have a8:mb false 1 (8*1) (gC m)=some (D.dU 123 (bR m.bI)):=rfl;have jg:GP n [bR m.bI]=some (R m.bI.length):=by simp only[GP,aaJ,go_sem,iT]
 have fw:ag false .add (R 8) (R 1)=some (R 9):=eZ (by decide) (by decide);by_cases an:(cy (jK m) m.bI.length 0).2=0;.rw[xaa an]at e2⊢;simp only[hN,go_sem,b2,eD,a8,il,NU,NV,NW,NX,NY,NZ,jg,e2,fw]
 rw[xac an]at e2⊢;simp only[hN,go_sem,b2,eD,a8,il,NU,NV,NW,NX,NY,NZ,jg,e2]
theorem azG:bq (hN n) n [gC m,R 0,bd m.vars,aU m.aB,az m.bK,az m.bL,aU m.next,az m.trans,az m.bH,bR m.bI,R 0,R 0]=some (if(hX (ns m)).2.2=0 then .inl [R 0,R 0]else .inr (dJ (hX (ns m)))):=by
 have ao:=hm.jx;refine afP (f:=hN n) (ns m) (λi=>[gC m,R (i:Int),bd m.vars,aU m.aB,az m.bK,az m.bL,aU m.next,az m.trans,az m.bH,bR m.bI,R 0,R 0]) [R 0,R 0] dJ ?_ ?_ n (by show 9<n;omega)
 .intro i a aG
  match i,aG with
  |0,aG=>cases aG;exact azx hm
  |1,aG=>cases aG;exact azy hm
  |2,aG=>cases aG;exact azz hm
  |3,aG=>cases aG;exact azA hm
  |4,aG=>cases aG;exact azB hm
  |5,aG=>cases aG;exact azC hm
  |6,aG=>cases aG;exact azD hm
  |7,aG=>cases aG;exact azE hm
  |8,aG=>cases aG;exact azF hm
  |j+9,aG=>cases aG
 show hN n [gC m,R 9,bd m.vars,aU m.aB,az m.bK,az m.bL,aU m.next,az m.trans,az m.bH,bR m.bI,R 0,R 0]=_;simp only[hN,go_sem,show decide ((9:Int)<9)=false from rfl]
theorem azH:nj n [m.d]=some (dJ (iU m)):=by
 have ao:=hm.jx;have ae:=azn hm;have ll:=azG hm;have hy:=ayk n m.vars hm.kh (by have:=hm.bp.iB;omega) hm.afH;have gN:=azg n m hm.kh hm.bp.iB (by omega);have iX:D.agg [R (m.vars.length:Int),R (m.aB.length:Int),R (m.bK.length:Int),R (m.bL.length:Int),R (m.next.length:Int),R (m.trans.length:Int),R (m.bH.length:Int),R (m.bI.length:Int)]=tL m:=rfl;have afT:D.agg [.dU 117 (aU m.aB),.dU 118 (aU m.aB),.dU 119 (aU m.aB),.dU 121 (.agg [R 3,az m.bK,ax false]),.dU 121 (.agg [R 4,az m.bL,ax false]),.dU 122 (aU m.next),.dU 121 (.agg [R 6,az m.trans,ax true]),.dU 121 (.agg [R 7,az m.bH,ax false]),.dU 123 (bR m.bI)]=gC m:=rfl;have afU:∀l,bm (az l)=true:=λ_=>rfl;have fc:∀t x,bm (D.dU t x)=true:=λ_ _=>rfl;unfold iU;by_cases bw:(cy (ik m) 8 0).2=0
 case neg=>rw[xac bw]at ae⊢;simp only[nj,Ag,go_sem,av.agg,av.aY,av.bw,av.bO,av.b0,av.cZ,av.dd,av.de,av.dp,av.eta,eT,eA,hW,iT,iX,ae]
 rw[xaa bw]at ae⊢;by_cases bO:(kp m.vars).2=0
 case neg=>
  have se:((kp m.vars).2 !=0)=true:=by simpa using bO
  rw[xac bO];simp only[nj,Ag,go_sem,av.agg,av.aY,av.bw,av.bO,av.b0,av.cZ,av.dd,av.de,av.dp,av.eta,eT,eA,hW,iT,iX,ae,hy,se,dJ]
 have se:((kp m.vars).2 !=0)=false:=by simp[bO]
 rw[xaa bO];by_cases b0:30<nr m.vars;.have vW:=yT (((nr m.vars:Nat):Int)>30);rw[xaa b0];simp only[nj,Ag,go_sem,av.agg,av.aY,av.bw,av.bO,av.b0,av.cZ,av.dd,av.de,av.dp,av.eta,eT,eA,hW,iT,iX,ae,hy,se,gN,vW,dJ]
 have vW:=yF (((nr m.vars:Nat):Int)>30);rw[xac b0];by_cases cZ:(hX (ns m)).2.2=0;.rw[xaa cZ]at ll;rw[afS _ cZ];simp only[nj,Ag,go_sem,av.agg,av.aY,av.bw,av.bO,av.b0,av.cZ,av.dd,av.de,av.dp,av.eta,eT,eA,hW,iT,iX,ae,hy,se,gN,vW,afU,fc,afT,ll,dJ]
 rw[xac cZ]at ll;simp only[nj,Ag,go_sem,av.agg,av.aY,av.bw,av.bO,av.b0,av.cZ,av.dd,av.de,av.dp,av.eta,eT,eA,hW,iT,iX,ae,hy,se,gN,vW,afU,fc,afT,ll]
theorem azI(h:(sd m).2=0):sd m=(0,0):=by unfold sd at h⊢;obtain⟨aa,ae⟩:=afQ.1 h;obtain⟨ay,a7⟩:=afQ.1 ae;rw[vV,xaa aa,vV,xaa ay,sc _ _ _ a7]
theorem azJ:jv n [R 0,R 0,R 2,bd m.vars,aU m.aB,az m.bK,az m.bL,aU m.next,az m.trans,az m.bH,bR m.bI,R 0,R 0]=some (if(sd m).2=0 then .inl [R 0,R 0,R 3,bd m.vars,aU m.aB,az m.bK,az m.bL,aU m.next,az m.trans,az m.bH,bR m.bI,R 0,R 0]else .inr (.inr (dJ (2,sd m)))):=by
 have hQ:=aza hm;have b2:decide ((2:Int)<=8)=true:=rfl;have bN:((2:Int)==2)=true:=rfl;have fw:ag false .add (R 2) (R 1)=some (R 3):=eZ (by decide) (by decide);by_cases an:(sd m).2=0
 .have bP:=azI hm an;rw[bP]at hQ⊢;have hl:((0:Int) !=0)=false:=rfl;simp only[jv,go_sem,b2,bN,av.eta,hQ,fQ,hl,fw]
 rw[xac an];generalize sd m=p at*;have eH:(p.2 !=0)=true:=by simpa using an
 simp only[jv,go_sem,b2,bN,av.eta,hQ,fQ,eH,dJ]
theorem azK:jv n [R 0,R 0,R 3,bd m.vars,aU m.aB,az m.bK,az m.bL,aU m.next,az m.trans,az m.bH,bR m.bI,R 0,R 0]=some (if(cy (e6 m m.bK false) m.bK.length 0).2=0 then .inl [R 0,R 0,R 4,bd m.vars,aU m.aB,az m.bK,az m.bL,aU m.next,az m.trans,az m.bH,bR m.bI,R 0,R 0]else .inr (.inr (dJ (3,cy (e6 m m.bK false) m.bK.length 0)))):=by
 have hQ:=NH hm m.bK hm.bK false;have b2:decide ((3:Int)<=8)=true:=rfl;have bN:((3:Int)==2)=false:=rfl;have cC:((3:Int)==3)=true:=rfl;have fw:ag false .add (R 3) (R 1)=some (R 4):=eZ (by decide) (by decide);by_cases an:(cy (e6 m m.bK false) m.bK.length 0).2=0
 .have bP:=sc _ _ _ an;rw[bP]at hQ⊢;have hl:((0:Int) !=0)=false:=rfl;simp only[jv,go_sem,b2,bN,cC,av.eta,hQ,fQ,hl,fw]
 rw[xac an];generalize cy (e6 m m.bK false) m.bK.length 0=p at*;have eH:(p.2 !=0)=true:=by simpa using an
 simp only[jv,go_sem,b2,bN,cC,av.eta,hQ,fQ,eH,dJ]
theorem azL:jv n [R 0,R 0,R 4,bd m.vars,aU m.aB,az m.bK,az m.bL,aU m.next,az m.trans,az m.bH,bR m.bI,R 0,R 0]=some (if(cy (e6 m m.bL false) m.bL.length 0).2=0 then .inl [R 0,R 0,R 5,bd m.vars,aU m.aB,az m.bK,az m.bL,aU m.next,az m.trans,az m.bH,bR m.bI,R 0,R 0]else .inr (.inr (dJ (4,cy (e6 m m.bL false) m.bL.length 0)))):=by
 have hQ:=NH hm m.bL hm.bL false;have b2:decide ((4:Int)<=8)=true:=rfl;have bN:((4:Int)==2)=false:=rfl;have cC:((4:Int)==3)=false:=rfl;have dK:((4:Int)==4)=true:=rfl;have fw:ag false .add (R 4) (R 1)=some (R 5):=eZ (by decide) (by decide);by_cases an:(cy (e6 m m.bL false) m.bL.length 0).2=0
 .have bP:=sc _ _ _ an;rw[bP]at hQ⊢;have hl:((0:Int) !=0)=false:=rfl;simp only[jv,go_sem,b2,bN,cC,dK,av.eta,hQ,fQ,hl,fw]
 rw[xac an];generalize cy (e6 m m.bL false) m.bL.length 0=p at*;have eH:(p.2 !=0)=true:=by simpa using an
 simp only[jv,go_sem,b2,bN,cC,dK,av.eta,hQ,fQ,eH,dJ]
theorem azM:jv n [R 0,R 0,R 5,bd m.vars,aU m.aB,az m.bK,az m.bL,aU m.next,az m.trans,az m.bH,bR m.bI,R 0,R 0]=some (if(cy (jJ m) m.next.length 0).2=0 then .inl [R 0,R 0,R 6,bd m.vars,aU m.aB,az m.bK,az m.bL,aU m.next,az m.trans,az m.bH,bR m.bI,R 0,R 0]else .inr (.inr (dJ (5,cy (jJ m) m.next.length 0)))):=by
 have hQ:=azd hm;have b2:decide ((5:Int)<=8)=true:=rfl;have bN:((5:Int)==2)=false:=rfl;have cC:((5:Int)==3)=false:=rfl;have dK:((5:Int)==4)=false:=rfl;have et:((5:Int)==5)=true:=rfl;have fw:ag false .add (R 5) (R 1)=some (R 6):=eZ (by decide) (by decide);by_cases an:(cy (jJ m) m.next.length 0).2=0
 .have bP:=sc _ _ _ an;rw[bP]at hQ⊢;have hl:((0:Int) !=0)=false:=rfl;simp only[jv,go_sem,b2,bN,cC,dK,et,av.eta,hQ,fQ,hl,fw]
 rw[xac an];generalize cy (jJ m) m.next.length 0=p at*
 have eH:(p.2 !=0)=true:=by simpa using an
 simp only[jv,go_sem,b2,bN,cC,dK,et,av.eta,hQ,fQ,eH,dJ]
theorem azN:jv n [R 0,R 0,R 6,bd m.vars,aU m.aB,az m.bK,az m.bL,aU m.next,az m.trans,az m.bH,bR m.bI,R 0,R 0]=some (if(cy (e6 m m.trans true) m.trans.length 0).2=0 then .inl [R 0,R 0,R 7,bd m.vars,aU m.aB,az m.bK,az m.bL,aU m.next,az m.trans,az m.bH,bR m.bI,R 0,R 0]else .inr (.inr (dJ (6,cy (e6 m m.trans true) m.trans.length 0)))):=by
 have hQ:=NH hm m.trans hm.trans true;have b2:decide ((6:Int)<=8)=true:=rfl;have bN:((6:Int)==2)=false:=rfl;have cC:((6:Int)==3)=false:=rfl;have dK:((6:Int)==4)=false:=rfl;have et:((6:Int)==5)=false:=rfl;have fi:((6:Int)==6)=true:=rfl;have fw:ag false .add (R 6) (R 1)=some (R 7):=eZ (by decide) (by decide);by_cases an:(cy (e6 m m.trans true) m.trans.length 0).2=0
 .have bP:=sc _ _ _ an;rw[bP]at hQ⊢;have hl:((0:Int) !=0)=false:=rfl;simp only[jv,go_sem,b2,bN,cC,dK,et,fi,av.eta,hQ,fQ,hl,fw]
 rw[xac an];generalize cy (e6 m m.trans true) m.trans.length 0=p at*;have eH:(p.2 !=0)=true:=by simpa using an
 simp only[jv,go_sem,b2,bN,cC,dK,et,fi,av.eta,hQ,fQ,eH,dJ]
theorem azO:jv n [R 0,R 0,R 7,bd m.vars,aU m.aB,az m.bK,az m.bL,aU m.next,az m.trans,az m.bH,bR m.bI,R 0,R 0]=some (if(cy (e6 m m.bH false) m.bH.length 0).2=0 then .inl [R 0,R 0,R 8,bd m.vars,aU m.aB,az m.bK,az m.bL,aU m.next,az m.trans,az m.bH,bR m.bI,R 0,R 0]else .inr (.inr (dJ (7,cy (e6 m m.bH false) m.bH.length 0)))):=by
 have hQ:=NH hm m.bH hm.bH false;have b2:decide ((7:Int)<=8)=true:=rfl;have bN:((7:Int)==2)=false:=rfl;have cC:((7:Int)==3)=false:=rfl;have dK:((7:Int)==4)=false:=rfl;have et:((7:Int)==5)=false:=rfl;have fi:((7:Int)==6)=false:=rfl;have nk:((7:Int)==7)=true:=rfl;have fw:ag false .add (R 7) (R 1)=some (R 8):=eZ (by decide) (by decide);by_cases an:(cy (e6 m m.bH false) m.bH.length 0).2=0
 .have bP:=sc _ _ _ an;rw[bP]at hQ⊢;have hl:((0:Int) !=0)=false:=rfl;simp only[jv,go_sem,b2,bN,cC,dK,et,fi,nk,av.eta,hQ,fQ,hl,fw]
 rw[xac an];generalize cy (e6 m m.bH false) m.bH.length 0=p at*;have eH:(p.2 !=0)=true:=by simpa using an
 simp only[jv,go_sem,b2,bN,cC,dK,et,fi,nk,av.eta,hQ,fQ,eH,dJ]
theorem azP:jv n [R 0,R 0,R 8,bd m.vars,aU m.aB,az m.bK,az m.bL,aU m.next,az m.trans,az m.bH,bR m.bI,R 0,R 0]=some (if(cy (jK m) m.bI.length 0).2=0 then .inl [R 0,R 0,R 9,bd m.vars,aU m.aB,az m.bK,az m.bL,aU m.next,az m.trans,az m.bH,bR m.bI,R 0,R 0]else .inr (.inr (dJ (8,cy (jK m) m.bI.length 0)))):=by
 have hQ:=aze hm;have b2:decide ((8:Int)<=8)=true:=rfl;have bN:((8:Int)==2)=false:=rfl;have cC:((8:Int)==3)=false:=rfl;have dK:((8:Int)==4)=false:=rfl;have et:((8:Int)==5)=false:=rfl;have fi:((8:Int)==6)=false:=rfl;have nk:((8:Int)==7)=false:=rfl;have N1:((8:Int)==8)=true:=rfl;have fw:ag false .add (R 8) (R 1)=some (R 9):=eZ (by decide) (by decide);by_cases an:(cy (jK m) m.bI.length 0).2=0
 .have bP:=sc _ _ _ an;rw[bP]at hQ⊢;have hl:((0:Int) !=0)=false:=rfl;simp only[jv,go_sem,b2,bN,cC,dK,et,fi,nk,N1,av.eta,hQ,fQ,hl,fw]
 rw[xac an];generalize cy (jK m) m.bI.length 0=p at*;have eH:(p.2 !=0)=true:=by simpa using an
 simp only[jv,go_sem,b2,bN,cC,dK,et,fi,nk,N1,av.eta,hQ,fQ,eH,dJ]
theorem azQ:bq (jv n) n [R 0,R 0,R 2,bd m.vars,aU m.aB,az m.bK,az m.bL,aU m.next,az m.trans,az m.bH,bR m.bI,R 0,R 0]=some (if(hX (ns m)).2.2=0 then .inl [R 0,R 0]else .inr (dJ (hX (ns m)))):=by
 have ao:=hm.jx;rw[<-azl];refine afP (f:=jv n) (Vs m) (λi=>[R 0,R 0,R ((i+2:Nat):Int),bd m.vars,aU m.aB,az m.bK,az m.bL,aU m.next,az m.trans,az m.bH,bR m.bI,R 0,R 0]) [R 0,R 0] dJ ?_ ?_ n (by show 7<n;omega)
 .intro i a aG
  match i,aG with
  |0,aG=>cases aG;exact azJ hm
  |1,aG=>cases aG;exact azK hm
  |2,aG=>cases aG;exact azL hm
  |3,aG=>cases aG;exact azM hm
  |4,aG=>cases aG;exact azN hm
  |5,aG=>cases aG;exact azO hm
  |6,aG=>cases aG;exact azP hm
  |j+7,aG=>cases aG
 show jv n [R 0,R 0,R 9,bd m.vars,aU m.aB,az m.bK,az m.bL,aU m.next,az m.trans,az m.bH,bR m.bI,R 0,R 0]=_;simp only[jv,go_sem,show decide ((9:Int)<=8)=false from rfl]
theorem azR:oZ n [m.d]=some (dJ (iU m)):=by
 have ao:=hm.jx;have ae:=azo hm;have ll:=azQ hm;have hy:=ayq n m.vars hm.kh (by have:=hm.bp.iB;omega) hm.afH;have gN:=azh n m hm.kh hm.bp.iB (by omega);have iX:D.ak 1 [[R (m.vars.length:Int)],[R (m.aB.length:Int)],[R (m.bK.length:Int)],[R (m.bL.length:Int)],[R (m.next.length:Int)],[R (m.trans.length:Int)],[R (m.bH.length:Int)],[R (m.bI.length:Int)]]=D.ak 1 ((ij m).map λ(k:Nat)=>[R (k:Int)]):=rfl;unfold iU;by_cases bw:(cy (ik m) 8 0).2=0
 case neg=>rw[xac bw]at ae⊢;simp only[oZ,zH,go_sem,av.agg,av.aY,av.bw,av.bO,av.b0,av.cZ,av.dd,av.de,av.dp,av.eta,eT,eA,hW,iT,iX,ae]
 rw[xaa bw]at ae⊢;by_cases bO:(kp m.vars).2=0
 case neg=>
  have se:((kp m.vars).2 !=0)=true:=by simpa using bO
  rw[xac bO];simp only[oZ,zH,go_sem,av.agg,av.aY,av.bw,av.bO,av.b0,av.cZ,av.dd,av.de,av.dp,av.eta,eT,eA,hW,iT,iX,ae,hy,se,dJ]
 rw[azm bO]at hy;have se:((0:Int) !=0)=false:=rfl;rw[xaa bO];by_cases b0:30<nr m.vars
 .have vW:=yT (((nr m.vars:Nat):Int)>30);rw[xaa b0];simp only[oZ,zH,go_sem,av.agg,av.aY,av.bw,av.bO,av.b0,av.cZ,av.dd,av.de,av.dp,av.eta,eT,eA,hW,iT,iX,ae,hy,se,gN,vW,dJ]
 have vW:=yF (((nr m.vars:Nat):Int)>30);rw[xac b0];by_cases cZ:(hX (ns m)).2.2=0;.rw[xaa cZ]at ll;rw[afS _ cZ];simp only[oZ,zH,go_sem,av.agg,av.aY,av.bw,av.bO,av.b0,av.cZ,av.dd,av.de,av.dp,av.eta,eT,eA,hW,iT,iX,ae,hy,se,gN,vW,ll,dJ]
 rw[xac cZ]at ll;simp only[oZ,zH,go_sem,av.agg,av.aY,av.bw,av.bO,av.b0,av.cZ,av.dd,av.de,av.dp,av.eta,eT,eA,hW,iT,iX,ae,hy,se,gN,vW,ll]
end
def Bf(n:Nat):eJ:= .slice 4 56 (jE n)
def Ji(n:Nat):eJ:= .slice 7 104 (.struct [.str,ml n])
def vX(n:Nat):eJ:= .struct [Li,w8 n,Bf n,Bf n,w8 n,Bf n,Bf n,Ji n]
def azS(n:Nat):∀m,m<=n->(Bf n).hx m=true
 |0,_=>rfl|m+1,h=>by have:=Cm n m (by omega);simp only[Bf,eJ.hx,this]
def azT(n:Nat):∀m,m<=n->(Ji n).hx m=true
 |0,_=>rfl|1,_=>by simp[Ji,eJ.hx]|m+2,h=>by have aa:=Rk n m (by omega);have ae:eJ.hx m .str=true:=w7 m .str rfl;simp only[Ji,eJ.hx,qu,aa,ae,xbl]
def azU(n:Nat):∀m,m<=n->(vX n).hx m=true
 |0,_=>rfl|m+1,h=>by have ar:eJ.hx m Li=true:=w7 m Li rfl;simp only[vX,eJ.hx,qu,ar,Z6 n m (by omega),azS n m (by omega),azT n m (by omega),xbl]
theorem azV{P:Program}{t tv td tt ts tm tf:TypeId}(h:∀a b c d e f g i,ew P (.struct [a,b,c,d,e,f,g,i]) t=(ew P a tv&&(ew P b td&&(ew P c tt&&(ew P d tt&&(ew P e td&&(ew P f tt&&(ew P g tt&&(ew P i ts&&true))))))))) (aN:ew P Li tv=true) (aA:sY P w8 td) (aJ:∀y,ew P (.slice 4 56 y) tt=ew P y tm) (hm:sY P jE tm) (aE:∀y,ew P (.slice 7 104 (.struct [.str,y])) ts=(ew P y tf&&true)) (a8:sY P ml tf) (aq:decide (t<P.types.size)=true):sY P vX t:=⟨λn=>azU n n (xbe _),λn=>by rw[vX,h,aN,aA.ok n,Bf,aJ,hm.ok n,Ji,aE,a8.ok n];rfl,xaX aq,λn=>rfl⟩
structure vY(m:av):Prop where
 v:∀x∈m.vars,V.ok x
 d:∀x∈m.aB,x.cB
 i:∀x∈m.bK,x.cB
 qN:∀x∈m.bL,x.cB
 n:∀x∈m.next,x.cB
 t:∀x∈m.trans,x.cB
 f:∀x∈m.bH,x.cB
 s:∀x∈m.bI,x.name.size<=140737488351232/\x.f.cB
def azW{n:Nat}{x:List D}(h:nc (.struct [.str,ml n]) x):∃d:cM,x=d.cells/\d.name.size<=140737488351232/\d.f.cB:=by obtain⟨a,b,rfl,aG,c,e,rfl,an,rfl⟩:=h;obtain⟨s,rfl,aE⟩:=Lj aG;obtain⟨t,rfl,aJ⟩:=Z5 n an;exact⟨⟨s,t⟩,by simp[cM.cells,Fm.la],aE,aJ⟩
end Go.Am
