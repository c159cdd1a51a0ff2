/- Laws, on data. No condition. -/
import Derived.Test.YtnaahibhhibijaaGreatDoorEngC
import Derived.Test.YtnaahibhhibijaaGreatDoorCode
import Derived.Test.YtnaahibhhibijaaGreatDoorEngS
import Derived.Test.YtnaahibhhibijaaGreatDoorEngD
import Derived.Test.YtnaahibhhibijaaGreatDoorWs
import Derived.Test.YtnaahibhhibijaaGreatDoorLaws
set_option linter.all false
set_option linter.unnecessarySimpa false
attribute [simp] Go.Am.yW
namespace Go.Am
section
variable{bt:Bool}{a b:Int}
@[simp] theorem aBB:aj bt .lss (pe a) (.val (.int .u8 b))=some (ay (decide (a<b))):=rfl
@[simp] theorem NY:aj bt .leq (pe a) (.val (.int .u8 b))=some (ay (decide (a<=b))):=rfl
@[simp] theorem aBC:aj bt .gtr (pe a) (.val (.int .u8 b))=some (ay (decide (a>b))):=rfl
@[simp] theorem NZ:aj bt .geq (pe a) (.val (.int .u8 b))=some (ay (decide (a>=b))):=rfl
@[simp] theorem avD:aj bt .eql (pe a) (.val (.int .u8 b))=some (ay (a==b)):=rfl
end
def N0{s:ByteArray}{i:Nat}{b:UInt8}(h:s[i]?=some b):q9 (aQ s) (J (i:Int))=some (pe b.toNat):=by simp[q9,aQ,J,JR,h,oj,pe]
def ad0{s:ByteArray}{b:UInt8}(h:s[0]?=some b):q9 (aQ s) (J 0)=some (pe b.toNat):=N0 (i:=0) h
theorem ad1(n:Nat)(c:Int):y4 n [pe c]=some (ay (sR c)):=by simp only[y4,Zt,sR,NZ,NY,dx];cases decide (c>=97)<;>cases decide (c<=122)<;>cases decide (c>=65)<;>cases decide (c<=90)<;>rfl
theorem avE(n:Nat)(c:Int):F5 n [pe c]=some (ay (yy c)):=by simp only[F5,Zu,yy,NZ,NY,dx];cases decide (c>=48)<;>cases decide (c<=57)<;>rfl
theorem ad2(n:Nat)(c:Int):F6 n [pe c]=some (ay (my c)):=by simp only[F6,Zv,my,ad1,avE,avD,dx];cases sR c<;>cases yy c<;>cases(c==95)<;>rfl
theorem ad3(n:Nat)(c:Int):zL n [pe c]=some (ay (sR c)):=by simp only[zL,Z4,sR,NZ,NY,dx];cases decide (c>=97)<;>cases decide (c<=122)<;>cases decide (c>=65)<;>cases decide (c<=90)<;>rfl
theorem avF(n:Nat)(c:Int):Hj n [pe c]=some (ay (yy c)):=by simp only[Hj,Z5,yy,NZ,NY,dx];cases decide (c>=48)<;>cases decide (c<=57)<;>rfl
def ad4(p:Int->Bool)(s:ByteArray):(∀j:Nat,j<nv p s->oi p s j=true)/\oi p s (nv p s)=false/\nv p s<=s.size:=by
 unfold nv;cases h:(List.range (s.size+1)).find? (λi=>!oi p s i)with
 |none=>
  exfalso;have ab:=List.find?_eq_none.1 h s.size (by simp);have:oi p s s.size=true:=by simpa using ab
  exact absurd (ajn this) (xcg _)
 |some m=>rw[List.find?_range_eq_some]at h;obtain⟨ab,ad,ax⟩:=h;refine⟨λj aG=>by simpa using ax j aG,by simpa using ab,by show m<=s.size;simp at ad;omega⟩
def ad5{p:Int->Bool}{s:ByteArray}{i:Nat}(h:oi p s i=true):∃b:UInt8,s[i]?=some b/\p b.toNat=true:=by
 unfold oi at h;split at h;.exact⟨_,by assumption,h⟩
 cases h
def ad6{p:Int->Bool}{s:ByteArray}{i:Nat}(h:oi p s i=false):(s[i]?=none/\s.size<=i)\/∃b:UInt8,s[i]?=some b/\i<s.size/\p b.toNat=false:=by
 unfold oi at h;split at h
 .rename_i b ak;refine .inr ⟨b,ak,?_,h⟩;rw[KJ]at ak;by_cases ab:i<s.size;.exact ab
  rw[dif_neg ab]at ak;cases ak
 rename_i ak;refine .inl ⟨ak,?_⟩;rw[KJ]at ak;by_cases ab:i<s.size;.rw[dif_pos ab]at ak;cases ak
 omega
def avG(n:Nat)(s:ByteArray)(aC:s.size<n)(av:s.size<=9223372036854775807):Co n [aQ s,.val (.func (.func F4) #[] #[])]=some (J (nv my s)):=by
 obtain⟨ab,ad,ax⟩:=ad4 my s;have key:bI (F7 n) n [aQ s,J 0]=some (.inl [J (nv my s)]):=by
  refine l7 (λi=>[aQ s,J i]) (nv my s) rfl ?_ ?_ (by omega);.intro i ag;obtain⟨b,ak,aU⟩:=ad5 (ab i ag);simp(disch:=omega) [F7,N0 ak,ad2,aU,er,show i<s.size by omega]
  rcases ad6 ad with⟨ak,aU⟩|⟨b,ak,bZ,aU⟩;.simp[F7,show¬(nv my s<s.size) by omega]
  simp[F7,N0 ak,ad2,aU,bZ]
 simp[Co,RF,key]
def avH(n:Nat)(s:ByteArray)(aC:s.size<n)(av:s.size<=9223372036854775807):Hl n [aQ s,J 0,ay false]=some (J (nv my s)):=by
 obtain⟨ab,ad,ax⟩:=ad4 my s;have one:∀(i:Nat)(b:UInt8),s[i]?=some b->i<s.size->Hk n [aQ s,J i,ay false]=if my b.toNat=true then some (.inl [aQ s,J (i+1:Nat),ay false])else some (.inr (.inl [J i])):=by intro i b ak ag;simp(disch:=omega) [Hk,N0 ak,avF,ad3,my,er,ag];by_cases avI:((b.toNat:Int)=95)<;>cases yy b.toNat<;>cases sR b.toNat<;>simp[avI]
 have key:bI (Hk n) n [aQ s,J 0,ay false]=some (.inl [J (nv my s)]):=by
  refine l7 (λi=>[aQ s,J i,ay false]) (nv my s) rfl ?_ ?_ (by omega);.intro i ag;obtain⟨b,ak,aU⟩:=ad5 (ab i ag);rw[one i b ak (by omega),xaa aU]
  rcases ad6 ad with⟨ak,aU⟩|⟨b,ak,bZ,aU⟩;.simp[Hk,show¬(nv my s<s.size) by omega]
  rw[one _ b ak bZ,xab (by simp[aU])]
 simp[Hl,Z6,key]
def vK(p:Nat->Prop)[DecidablePred p]:∀m:Nat,(∀j:Nat,j<m->¬p j)\/∃i,i<m/\p i/\∀j:Nat,j<i->¬p j
 |0=> .inl (by intro j aG;omega)
 |m+1=>by
  rcases vK p m with h|⟨i,ab,ad,ax⟩
  .by_cases hm:p m;.exact .inr ⟨m,by omega,hm,h⟩
   refine .inl λj aG=>?_;by_cases avJ:j=m;.subst avJ;exact hm
   exact h j (by omega)
  exact .inr ⟨i,by omega,ad,ax⟩
def avK(n:Nat)(l:List ByteArray)(x:ByteArray)(aC:l.length<n)(an:l.length<4000000000000000000):Cq n [dk l,aQ x]=some (J (idxOf x l)):=by
 have step:∀(i:Nat)(y:ByteArray),l[i]?=some y->i<l.length->Cp n [dk l,aQ x,J l.length,J i]=if x=y then some (.inr (.inr (J i)))else some (.inl [dk l,aQ x,J l.length,J (i+1:Nat)]):=by intro i y aP ag;obtain⟨_,rfl⟩:=xae.1 aP;simp(disch:=omega) [Cp,dk,aP,ag,er]
 rcases vK (λi=>l[i]?=some x) l.length with h|⟨i,ab,ad,ax⟩
 .have key:bI (Cp n) n [dk l,aQ x,J l.length,J 0]=some (.inl []):=by
   refine l7 (λi=>[dk l,aQ x,J l.length,J i]) l.length rfl ?_ ?_ aC;.intro i ag;have aP:=xad ag;rw[step i _ aP ag,xab];intro he;exact h i ag (by rw[aP,he])
   simp[Cp]
  have e:(dk l)= .aA 1 (l.map λs=>[aQ s]):=rfl;simp[Cq,RG,Xl h];rw[e]at key⊢;simp[key]
 have key:bI (Cp n) n [dk l,aQ x,J l.length,J 0]=some (.inr (J i)):=by
  refine l7 (λi=>[dk l,aQ x,J l.length,J i]) i rfl ?_ ?_ (by omega);.intro j aG;have aP:=xad (show j<l.length by omega);rw[step j _ aP (by omega),xab];intro he;exact ax j aG (by rw[aP,he])
  rw[step i x ad ab,xaa rfl]
 simp[Cq,RG,Xm ax ad];have e:(dk l)= .aA 1 (l.map λs=>[aQ s]):=rfl;rw[e]at key⊢;simp[key]
def avL(n:Nat)(l:List ByteArray)(x:ByteArray)(aC:l.length<n)(an:l.length<4000000000000000000):F8 n [dk l,aQ x]=some (ay (has x l)):=by simp[F8,Zw,avK n l x aC an,Xn]
def avM(n:Nat)(l:List ByteArray)(x:ByteArray)(aC:l.length<n)(an:l.length<4000000000000000000):CL n [dk l,aQ x]=some (ay (has x l)):=by
 have step:∀(i:Nat)(y:ByteArray),l[i]?=some y->i<l.length->CK n [dk l,aQ x,J i]=if y=x then some (.inr (.inr (ay true)))else some (.inl [dk l,aQ x,J (i+1:Nat)]):=by intro i y aP ag;obtain⟨_,rfl⟩:=xae.1 aP;simp(disch:=omega) [CK,dk,aP,ag,er]
 rcases vK (λi=>l[i]?=some x) l.length with h|⟨i,ab,ad,ax⟩
 .have key:bI (CK n) n [dk l,aQ x,J 0]=some (.inl []):=by
   refine l7 (λi=>[dk l,aQ x,J i]) l.length rfl ?_ ?_ aC;.intro i ag;have aP:=xad ag;rw[step i _ aP ag,xab];intro he;exact h i ag (by rw[aP,he])
   simp[CK,dk]
  simp[CL,R9,key,Xp h]
 have key:bI (CK n) n [dk l,aQ x,J 0]=some (.inr (ay true)):=by
  refine l7 (λi=>[dk l,aQ x,J i]) i rfl ?_ ?_ (by omega);.intro j aG;have aP:=xad (show j<l.length by omega);rw[step j _ aP (by omega),xab];intro he;exact ax j aG (by rw[aP,he])
  rw[step i x ad ab,xaa rfl]
 simp[CL,R9,key,Xo ad]
theorem avN(n:Nat):Mn n []=some (dk words):=rfl
theorem avO:(D.aA 1 (F3.map λc=>[c]))=dk words:=rfl
def Ul(n:Nat)(s:ByteArray)(aC:s.size+24<n)(av:s.size<=9223372036854775807):tb n [aQ s]=some (ay (isName s)):=by
 have hw:words.length=24:=rfl;have ab:=avG n s (by omega) av;have ad:=avL n words s (by omega) (by omega);rcases Xq s with⟨e3,bm⟩|⟨b,e3,bm,ak⟩
 .simp[tb,RH,e3,isName,bm]
 simp only[tb,RH,isName,oi,ak,ad0 ak,ad1,ab,ad,avO,YT,e3,bm,Rk,Lj,Ca,Cc,dx];cases decide ((s.size:Int)<=24)<;>cases sR b.toNat<;>cases((nv my s:Int)==(s.size:Int))<;>cases has s words<;>rfl
def Um(n:Nat)(s:ByteArray)(aC:s.size+24<n)(av:s.size<=9223372036854775807):tn n [aQ s]=some (ay (isName s)):=by
 have hw:words.length=24:=rfl;have ab:=avH n s (by omega) av;have ad:=avM n words s (by omega) (by omega);rcases Xq s with⟨e3,bm⟩|⟨b,e3,bm,ak⟩
 .simp only[tn,Sa,Rk,B9,dx,bm];simp[isName,bm]
 simp only[tn,Sa,isName,oi,ak,ad0 ak,ad3,ab,ad,avN,bm,Rk,Lj,B9,Ca,Cc,dx];cases decide ((s.size:Int)<=24)<;>cases sR b.toNat<;>cases((nv my s:Int)==(s.size:Int))<;>cases has s words<;>rfl
def avP(n:Nat)(w v:V):Cr n [w.d,.ref v.cells 0]=some (ay (decide (w.name=v.name))):=by simp[Cr,RI,V.d,V.cells]
def avQ(n:Nat)(l:List V)(v:V)(aC:l.length<n)(an:l.length<4000000000000000000):y6 n [bd l,.fn (.func ta) [] [.ref v.cells 0]]=some (J (idxOf v.name (l.map V.name))):=by
 have hle:(l.map V.name).length=l.length:=by simp
 have step:∀(i:Nat)(y:V),l[i]?=some y->i<l.length->y5 n [bd l,.ref v.cells 0,J l.length,J i]=if y.name=v.name then some (.inr (.inr (J i)))else some (.inl [bd l,.ref v.cells 0,J l.length,J (i+1:Nat)]):=by intro i y aP ag;obtain⟨_,rfl⟩:=xae.1 aP;have ab:=avP n l[i] v;simp only[V.d,V.cells]at ab;simp(disch:=omega) [y5,bd,ag,er,V.cells,ab]
 have bO:∀x,y6 n [bd l,.fn (.func ta) [] [x]]=R (bI (y5 n) n [bd l,x,J l.length,J 0]) (bg λls=>some (J (-1))):=by intro x;simp only[y6,nC,RJ];simp[bd]
 rw[bO];rcases vK (λi=>(l.map V.name)[i]?=some v.name) l.length with h|⟨i,ab,ad,ax⟩
 .have key:bI (y5 n) n [bd l,.ref v.cells 0,J l.length,J 0]=some (.inl []):=by
   refine l7 (λi=>[bd l,.ref v.cells 0,J l.length,J i]) l.length rfl ?_ ?_ aC;.intro i ag;have aP:=xad ag;rw[step i _ aP ag,xab];intro he;exact h i ag (by rw[xag,aP,<-he];rfl)
   simp[y5]
  rw[key,Xl (by rw[hle];exact h)];rfl
 have key:bI (y5 n) n [bd l,.ref v.cells 0,J l.length,J 0]=some (.inr (J i)):=by
  refine l7 (λi=>[bd l,.ref v.cells 0,J l.length,J i]) i rfl ?_ ?_ (by omega);.intro j aG;have aP:=xad (show j<l.length by omega);rw[step j _ aP (by omega),xab];intro he;exact ax j aG (by rw[xag,aP,<-he];rfl)
  have aP:=xad ab;rw[step i _ aP ab,xaa];rw[xag,aP]at ad;simpa using ad
 rw[key,Xm ax ad];rfl
def avR(n:Nat)(l:List V)(v:V)(aC:l.length<n)(an:l.length<4000000000000000000):Cs n [bd l,.fn (.func ta) [] [.ref v.cells 0]]=some (ay (has v.name (l.map V.name))):=by simp only[Cs,nC,RK,avQ n l v aC an];simp[Xn]
def Un{k:Nat}{es:List (List D)}{i:Nat}(h:i<=es.length):mA k (.aA k es) none (some (J (i:Int)))=some (.aA k (es.take i)):=by simp[mA,qe,J,h]
def Uo(v:V):Bool:=v.bool&&(v.lo !=0||v.ag !=0)
def Up(v:V):Bool:=!v.bool&&(decide (v.lo>v.ag)||uC v||decide (IntKind.i64.wrap (v.ag-v.lo)>=64))
theorem Uq(seen:List V)(v:V):BT seen v=if !isName v.name then 12 else if has v.name (seen.map V.name)then 6 else if Uo v then 3 else if Up v then 2 else 0:=rfl
def lg(l:List V):Prop:=l.length<1000000000000/\∀v∈l,gL v.lo/\gL v.ag/\v.name.size<=9223372036854775807
def Ur(n:Nat)(l:List V)(an:lg l)(aC:l.length<n)(kB:∀v∈l,v.name.size+24<n)(i:Nat)(ag:i<l.length):y7 n [bd l,bd l,J l.length,J i]=if iV l i=0 then some (.inl [bd l,bd l,J l.length,J (i+1:Nat)])else some (.inr (.inr (.aO [J i,J (iV l i)]))):=by
 have aP:=xad ag;have aK:=an.2 _ (xbd ag);have bH:=an.1;have e:iV l i=BT (l.take i) l[i]:=by simp only[iV,aP]
 rw[e];generalize hw:l[i]=v at*;have ab:=Ul n v.name (kB v (hw▸xbd ag)) (by omega);have ad:=avR n (l.take i) v (by rw[xbi];omega) (by rw[xbi];omega);have ax:mA 4 (bd l) none (some (J (i:Int)))=some (bd (l.take i)):=by rw[bd,Un (by simp;omega),List.map_take.symm];rfl
 have a8:bk 4 (bd l) (J (i:Int))=some v.cells:=by simp[bd,aP,hw]
 have b3:aj false .lss (J (i:Int)) (J (l.length:Int))=some (ay true):=by simp[ag]
 have cI:aj false .add (J (i:Int)) (J 1)=some (J (i+1:Nat)):=by rw[er (by omega) (by omega)];rfl
 have fo:aj false .sub (J v.ag) (J v.lo)=some (J (IntKind.i64.wrap (v.ag-v.lo))):=rfl;have gD:a7 true 4 0 v.cells=some v.d:=rfl;have jW:aX 4 v.d=true:=rfl;have aL:aa v.d 0=aQ v.name:=rfl;have bh:aa v.d 1=ay v.bool:=rfl;have bo:aa v.d 2=J v.lo:=rfl;have bC:aa v.d 3=J v.ag:=rfl;have b5:(D.ref [aQ v.name,ay v.bool,J v.lo,J v.ag] 0)= .ref v.cells 0:=rfl;have g1:uC v=(decide ((if v.ag>v.lo then v.ag else v.lo)>255)||decide ((if v.ag<v.lo then v.ag else v.lo)< -255)):=rfl;rw[Uq];simp only[y7,ps,rn,b3,dx,lF,xaz,a8,gD,jW,qi,aL,bh,bo,bC,b5,FZ,Y5,ab,ad,ax,Cc,oA,FM,Y6,yX,cI,fo,B9];rw[Uo,Up,g1];cases isName v.name
 .cases decide ((if v.ag>v.lo then v.ag else v.lo)>255)<;>simp
 cases has v.name ((l.take i).map V.name)
 rotate_left
 .cases decide ((if v.ag>v.lo then v.ag else v.lo)>255)<;>simp
 generalize decide ((if v.ag>v.lo then v.ag else v.lo)>255)=eJ;generalize decide ((if v.ag<v.lo then v.ag else v.lo)< -255)=dV;generalize decide (v.lo>v.ag)=hJ;generalize decide (IntKind.i64.wrap (v.ag-v.lo)>=64)=q6;generalize (v.lo !=0)=yp;generalize (v.ag !=0)=yq;cases v.bool<;>cases eJ<;>cases dV<;>cases hJ<;>cases q6<;>cases yp<;>cases yq<;>rfl
def avS(n:Nat)(l:List V)(an:lg l)(aC:l.length<n)(kB:∀v∈l,v.name.size+24<n):Ct n [bd l]=some (.aO [J (jX l).1,J (jX l).2]):=by
 have bO:Ct n [bd l]=R (bI (y7 n) n [bd l,bd l,J l.length,J 0]) (bg λls=>some (D.aO [J 0,J 0])):=by simp[Ct,Zx,bd]
 rw[bO];rcases vK (λi=>iV l i≠0) l.length with h|⟨i,ab,ad,ax⟩
 .have bs:∀j:Nat,j<l.length->iV l j=0:=λj aG=>by simpa using h j aG
  have key:bI (y7 n) n [bd l,bd l,J l.length,J 0]=some (.inl []):=by
   refine l7 (λi=>[bd l,bd l,J l.length,J i]) l.length rfl ?_ ?_ aC;.intro i ag;rw[Ur n l an aC kB i ag,xaa (bs i ag)]
   simp[y7]
  rw[key,Xs bs];rfl
 have bs:∀j:Nat,j<i->iV l j=0:=λj aG=>by simpa using ax j aG
 have key:bI (y7 n) n [bd l,bd l,J l.length,J 0]=some (.inr (.aO [J i,J (iV l i)])):=by
  refine l7 (λi=>[bd l,bd l,J l.length,J i]) i rfl ?_ ?_ (by omega);.intro j aG;rw[Ur n l an aC kB j (by omega),xaa (bs j aG)]
  rw[Ur n l an aC kB i ab,xab ad]
 rw[key,Xr bs ab rfl ad];rfl
@[simp] theorem ad7 {a:Int}:iz .u64 (J a)=some (.val (.int .u64 (IntKind.u64.wrap a))):=rfl
theorem N1{k:IntKind}{a:Int}:iz .i64 (.val (.int k a))=some (J (IntKind.i64.wrap a)):=rfl
def Us(n:Nat)(v:V)(ab:gL v.lo)(ad:gL v.ag):uU n [v.d]=some (J v.span):=by
 have bh:aa v.d 1=ay v.bool:=rfl;have bo:aa v.d 2=J v.lo:=rfl;have bC:aa v.d 3=J v.ag:=rfl;have jW:aX 4 v.d=true:=rfl;simp only[uU,Zy,jW,qi,bh,bo,bC,lF,oA,dx,ad7,N1];cases ak:v.bool with
 |true=>simp[V.Xj ak]
 |false=>
  by_cases bZ:v.lo>v.ag;.simp[V.Xk ak bZ,bZ]
  have hle:v.lo<=v.ag:=by omega
  have aN:aj false .sub (.val (.int .u64 (IntKind.u64.wrap v.ag))) (.val (.int .u64 (IntKind.u64.wrap v.lo)))=some (.val (.int .u64 (v.ag-v.lo))):=by show some (D.val (.int .u64 (IntKind.u64.wrap (IntKind.u64.wrap v.ag-IntKind.u64.wrap v.lo))))=_;rw[Xi ab ad hle]
  have aV:aj false .lss (.val (.int .u64 (v.ag-v.lo))) (.val (.int .u64 1073741824))=some (ay (decide (v.ag-v.lo<1073741824))):=rfl;simp only[bZ,decide_false,xaq,xaA,aN,aV,dx,lF];by_cases hm:v.ag-v.lo<1073741824;.rw[V.PX ak hle hm];simp only[hm,decide_true,xaz,N1,dx,wrap64 _ (show-9223372036854775808<=v.ag-v.lo by omega) (by omega)];rw[er (by omega) (by omega)];rfl
  rw[V.PY ak hle (by omega)];simp[hm]
def A4(n:Nat)(v:V)(ab:gL v.lo)(ad:gL v.ag):qq n [v.d]=some (J v.span):=by
 have bh:aa v.d 1=ay v.bool:=rfl;have bo:aa v.d 2=J v.lo:=rfl;have bC:aa v.d 3=J v.ag:=rfl;have jW:aX 4 v.d=true:=rfl;simp only[qq,Z8,jW,qi,bh,bo,bC,lF,oA,dx,ad7];cases ak:v.bool with
 |true=>simp[V.Xj ak]
 |false=>
  by_cases bZ:v.lo>v.ag;.simp[V.Xk ak bZ,bZ]
  have hle:v.lo<=v.ag:=by omega
  have aN:aj false .sub (.val (.int .u64 (IntKind.u64.wrap v.ag))) (.val (.int .u64 (IntKind.u64.wrap v.lo)))=some (.val (.int .u64 (v.ag-v.lo))):=by show some (D.val (.int .u64 (IntKind.u64.wrap (IntKind.u64.wrap v.ag-IntKind.u64.wrap v.lo))))=_;rw[Xi ab ad hle]
  have aV:aj false .gtr (.val (.int .u64 (v.ag-v.lo))) (.val (.int .u64 1073741824))=some (ay (decide (v.ag-v.lo>1073741824))):=rfl;simp only[bZ,decide_false,xaq,xaA,aN,aV,dx,lF];by_cases hm:v.ag-v.lo>1073741824;.rw[V.PY ak hle (by omega)];simp only[hm,decide_true,xaz,dx,qj,ps,N1];rfl
  simp only[hm,decide_false,xaq,xaA,dx,qj,ps,N1,wrap64 _ (show-9223372036854775808<=v.ag-v.lo by omega) (by omega)];rw[er (by omega) (by omega)];simp only[dx];by_cases he:v.ag-v.lo=1073741824;.rw[V.PY ak hle (by omega),he];rfl
  rw[V.PX ak hle (by omega)]
def V.xR(v:V):0<=v.span/\v.span<=1073741825:=by
 unfold V.span;split;.omega
 split;.omega
 split<;>omega
def avT{i:Nat}(h:i<=62):((2:Int)^i)<=4611686018427387904/\0<(2:Int)^i:=by
 have ab:(2:Nat)^i<=2^62:=Nat.pow_le_pow_right (by omega) h;have ax:((2^i:Nat):Int)=2^i:=by simp
 have ad:(0:Int)<2^i:=Int.pow_pos (by omega);omega
def ad8{bt:Bool}{i:Nat}(h:i<=62):aj bt .shl (J 1) (J (i:Int))=some (J ((2:Int)^i)):=by
 have T9:¬((i:Int)<0):=by omega
 have hm:min i IntKind.i64.bits=i:=by simp[IntKind.bits];omega
 obtain⟨ab,ad⟩:=avT h;have e:IntKind.i64.wrap (1*2^(min i IntKind.i64.bits))=2^i:=by rw[hm,Int.one_mul];exact wrap64 _ (by omega) (by omega)
 simp only[aj,J,oj,T9,xaA,Int.toNat_natCast];rw[e]
def DY{n:Int}(h:n<=1073741825):bitsOf n<=62/\(∀j:Nat,j<bitsOf n->(2:Int)^j<n)/\n<=2^bitsOf n:=by
 rcases vK (λi=>n<=(2:Int)^i) 40 with ab|⟨i,ab,ad,ax⟩;.exact absurd h (by have:=ab 39 (by omega);simp at this;omega)
 have ix:∀j:Nat,j<i->(2:Int)^j<n:=λj aG=>by have:=ax j aG;omega
 rw[ajm ix ad];exact⟨by omega,ix,ad⟩
def avU(n:Nat)(k:Int)(ah:k<=1073741825)(aC:63<n):Ga n [J k]=some (J (bitsOf k)):=by
 obtain⟨ab,ad,ax⟩:=DY ah;have key:bI (LG n) n [J k,J 0]=some (.inr (J (bitsOf k))):=by
  refine l7 (λi=>[J k,J i]) (bitsOf k) rfl ?_ ?_ (by omega);.intro i ag;have:=ad i ag;simp(disch:=omega) [LG,ad8,er,show((i:Int)<63) by omega,show¬(k<=(2:Int)^i) by omega]
  simp(disch:=omega) [LG,ad8,show((bitsOf k:Int)<63) by omega,ax]
 simp[Ga,Zz,key]
def avV(n:Nat)(k:Int)(aq:-1000<=k)(ah:k<=1073741825)(aC:63<n):Hp n [J k]=some (J (bitsOf k)):=by
 have key:∀(m:Nat)(k:Int)(acc fI:Nat),bitsOf k=m->k<=1073741825->acc+m<=1000->m<fI->bI (Mo n) fI [J k,J acc]=some (.inl [J (acc+m:Nat)]):=by
  intro m
  induction m with
  |zero=>
   intro k acc fI hm ah aH yf;obtain⟨fI,rfl⟩:∃q,fI=q+1:=⟨fI-1,by omega⟩;have rl:¬k>1:=by intro ai;have:=Xh ai;omega
   rw[kK];simp[Mo,rl]
  |succ m ih=>
   intro k acc fI hm ah aH yf;obtain⟨fI,rfl⟩:∃q,fI=q+1:=⟨fI-1,by omega⟩;have rl:k>1:=by
    refine xbb λai=>?_;have:bitsOf k=0:=by unfold bitsOf;rw[xaa (by omega)]
    omega
   have bU:=Xh rl;have aN:k.tdiv 2=k/2:=Int.tdiv_eq_ediv_of_nonneg (by omega);have aV:k.tmod 2=k%2:=Int.tmod_eq_emod_of_nonneg (by omega);have hle:=(DY ah).1;have ss:=ih (k/2+k%2) (acc+1) fI (by omega) (by omega) (by omega) (by omega);rw[kK];simp(disch:=omega) [Mo,rl,YS,Cb,aN,aV,wrap64,er];have bS:((acc:Int)+1)=((acc+1:Nat):Int):=by omega
   rw[bS,ss]
   congr 4
   omega
 have:=key (bitsOf k) k 0 n rfl ah (by have:=(DY ah).1;omega) (by have:=(DY ah).1;omega);simp only[xaE]at this;have e:(J ((0:Nat):Int))=J 0:=rfl;rw[e]at this;simp[Hp,Z9,this]
theorem ad9(n:Nat)(k:Int):CM n [J k]=some (ay (decide (k>=-255)&&decide (k<=255))):=by simp only[CM,Z7,B9,Lj,dx];cases decide (k>=-255)<;>cases decide (k<=255)<;>rfl
def Ut(n:Nat)(l:List V)(i k:Nat)(ag:i<l.length)(ah:k<i)(bH:l.length<1000000000000):Hm n [bd l,J i,J k]=if(l[k]'(by omega)).name=l[i].name then some (.inr (.inr (.inr (.inr (.inr (.aO [J i,J 6]))))))else some (.inl [bd l,J i,J (k+1:Nat)]):=by
 have q4:k<l.length:=by omega
 have ab:l[k]?=some l[k]:=xad q4;have ad:l[i]?=some l[i]:=xad ag;simp(disch:=omega) [Hm,bd,ah,er,q4,ag,V.cells]
def avW(n:Nat)(l:List V)(i:Nat)(ag:i<l.length)(bH:l.length<1000000000000)(aC:l.length<n):bI (Hm n) n [bd l,J i,J 0]=if has l[i].name ((l.take i).map V.name)=true then some (.inr (.inr (.inr (.inr (.aO [J i,J 6])))))else some (.inl [bd l,J i]):=by
 rcases vK (λk=>(l.map V.name)[k]?=some l[i].name) i with h|⟨k,ab,ad,ax⟩
 .rw[ajp h,xab (by simp)];refine l7 (λk=>[bd l,J i,J k]) i rfl ?_ ?_ (by omega);.intro k ah;rw[Ut n l i k ag ah bH,xab];intro he;refine h k ah ?_;rw[xag,xad (show k<l.length by omega),<-he];rfl
  simp[Hm]
 have jD:k<l.length:=by omega
 have hw:=xad jD;have Ky:(l[k]).name=l[i].name:=by rw[xag,hw]at ad;simpa using ad
 rw[<-Ky,ajq ab hw,xaa rfl];refine l7 (λk=>[bd l,J i,J k]) k rfl ?_ ?_ (by omega);.intro j aG;rw[Ut n l i j ag (by omega) bH,xab];intro he;refine ax j aG ?_;rw[xag,xad (show j<l.length by omega),<-he];rfl
 rw[Ut n l i k ag ab bH,xaa Ky]
def Uu(n:Nat)(l:List V)(an:lg l)(aC:l.length<n)(kB:∀v∈l,v.name.size+24<n)(i:Nat)(ag:i<l.length):zM n [bd l,J i]=if iV l i=0 then some (.inl [bd l,J (i+1:Nat)])else some (.inr (.inr (.aO [J i,J (iV l i)]))):=by
 have aP:=xad ag;have aK:=an.2 _ (xbd ag);have bH:=an.1;have fo:=avW n l i ag an.1 aC;have e:iV l i=BT (l.take i) l[i]:=by simp only[iV,aP]
 rw[e];generalize hw:l[i]=v at*;have ab:=Um n v.name (kB v (hw▸xbd ag)) (by omega);have a8:bk 4 (bd l) (J (i:Int))=some v.cells:=by simp[bd,aP,hw]
 have b3:aj false .lss (J (i:Int)) (J (l.length:Int))=some (ay true):=by simp[ag]
 have avX:bF (bd l)=some (J l.length):=by simp[bd]
 have cI:aj false .add (J (i:Int)) (J 1)=some (J (i+1:Nat)):=by rw[er (by omega) (by omega)];rfl
 have gD:a7 true 4 0 v.cells=some v.d:=rfl;have aL:a7 false 1 0 v.cells=some (aQ v.name):=rfl;have bh:a7 false 1 1 v.cells=some (ay v.bool):=rfl;have bo:a7 false 1 2 v.cells=some (J v.lo):=rfl;have bC:a7 false 1 3 v.cells=some (J v.ag):=rfl;have jW:=A4 n v aK.1 aK.2.1;rw[Uq];rw[show Up v=_ from ajo ⟨aK.1,aK.2.1,by omega⟩];simp only[zM,ps,rn,avX,b3,dx,lF,xaz,a8,gD,aL,bh,bo,bC,ab,fo,Cc,oA,FM,yX,cI,B9,ad9,jW];rw[Uo];cases isName v.name
 .simp
 cases has v.name ((l.take i).map V.name)
 rotate_left
 .simp
 simp only[Bool.not_true,xaq,xaA,dx,qj,ps,rn,a8,gD,aL,bh,bo,bC,oA,yX,ad9,jW,Cc];generalize (decide (v.lo>=-255)&&decide (v.lo<=255))=eJ;generalize (decide (v.ag>=-255)&&decide (v.ag<=255))=dV;generalize decide (v.lo>v.ag)=hJ;generalize decide (v.span>64)=q6;generalize (v.lo !=0)=yp;generalize (v.ag !=0)=yq;cases v.bool<;>cases eJ<;>cases dV<;>cases hJ<;>cases q6<;>cases yp<;>cases yq<;>simp[cI]
def avY(n:Nat)(l:List V)(an:lg l)(aC:l.length<n)(kB:∀v∈l,v.name.size+24<n):Ho n [bd l]=some (.aO [J (jX l).1,J (jX l).2]):=by
 have bO:Ho n [bd l]=R (bI (zM n) n [bd l,J 0]) (bg λls=>some (D.aO [J 0,J 0])):=rfl;rw[bO];rcases vK (λi=>iV l i≠0) l.length with h|⟨i,ab,ad,ax⟩
 .have bs:∀j:Nat,j<l.length->iV l j=0:=λj aG=>by simpa using h j aG
  have key:bI (zM n) n [bd l,J 0]=some (.inl []):=by
   refine l7 (λi=>[bd l,J i]) l.length rfl ?_ ?_ aC;.intro i ag;rw[Uu n l an aC kB i ag,xaa (bs i ag)]
   simp[zM,bd]
  rw[key,Xs bs];rfl
 have bs:∀j:Nat,j<i->iV l j=0:=λj aG=>by simpa using ax j aG
 have key:bI (zM n) n [bd l,J 0]=some (.inr (.aO [J i,J (iV l i)])):=by
  refine l7 (λi=>[bd l,J i]) i rfl ?_ ?_ (by omega);.intro j aG;rw[Uu n l an aC kB j (by omega),xaa (bs j aG)]
  rw[Uu n l an aC kB i ab,xab ad]
 rw[key,Xr bs ab rfl ad];rfl
def nM(l:List cL)(x:ByteArray):Option Nat:=l.findIdx? (λd=>decide (d.name=x))
def fF:Option Nat->Int
 |some i=>(i:Int)|none=>-1
def DZ(o:Option Nat):decide (fF o>=0)=o.isSome:=by cases o with|none=>rfl|some i=>simp[fF]
def aea(o:Option Nat):decide (fF o<0)=o.isNone:=by cases o with|none=>rfl|some i=>exact yF ((i:Int)<0)
def findIdx_cons{α:Type}(p:α->Bool)(a:α)(r:List α):(a::r).findIdx? p=if p a then some 0 else(r.findIdx? p).map (·+1):=by rw[xbT]
theorem V.kJ(v:V):aa v.d 0=aQ v.name:=rfl
theorem V.a4(v:V):a7 true 4 0 v.cells=some v.d:=rfl
theorem V.g4(v:V):aX 4 v.d=true:=rfl
theorem bl.kJ(v:bl):aa v.d 0=aQ v.name:=rfl
theorem bl.a5(v:bl):a7 true 5 0 v.cells=some v.d:=rfl
def bl.g5(v:bl):aX 5 v.d=true:=by unfold bl.d bl.cells;simp
theorem cL.kJ(v:cL):aa v.d 0=aQ v.name:=rfl
theorem cL.kM(v:cL):a7 true 7 0 v.cells=some v.d:=rfl
def cL.g7(v:cL):aX 7 v.d=true:=cL.agg v
def avZ(n:Nat)(d:V)(x:ByteArray):G3 n [d.d,.ref [aQ x] 0]=some (ay (decide (d.name=x))):=by show L4 n d.d [aQ x]=_;simp only[L4,go_sem,iA,V.g4,V.kJ]
def av0(n:Nat)(l:List V)(x:ByteArray)(aC:l.length<n)(ak:l.length<1000000000):zB n [bd l,D.fn (.func rv) [] [.ref [aQ x] 0]]=some (J (fF (dO l x))):=by
 have bO:(J ((0:Nat):Int))=J 0:=rfl;have ag:=c8 (f:=G4 n) l (λi (_:Unit)=>[bd l,.ref [aQ x] 0,J l.length,J (i:Int)]) (λr _=>match dO r x with|some j=>(Sum.inr (J ((l.length-r.length+j:Nat):Int)):List D⊕D)|none=> .inl []) (λ_ _=>True) ?_ ?_ n 0 () trivial (by omega) (xai _)
 .rw[bO,xap,Nat.sub_self]at ag;have bU:zB n [bd l,D.fn (.func rv) [] [.ref [aQ x] 0]]=G5 n (bd l) (.ref [aQ x] 0):=by
   simp only[zB,nC]
  rw[bU];cases bP:dO l x with|none=>rw[bP]at ag;simp only[G5,go_sem,eg,ag,fF]|some j=>rw[bP]at ag;simp only[xaE]at ag;simp only[G5,go_sem,eg,ag,fF]
 .intro _ _;have:dO [] x=none:=rfl;simp only[G4,go_sem,yF ((l.length:Int)<l.length),this]
 intro i a _ aH ag _;have cn:=yT ((i:Int)<(l.length:Int));have ai:dO (a::l.drop (i+1)) x=if decide (a.name=x)=true then some 0 else(dO (l.drop (i+1)) x).map (·+1):=findIdx_cons _ a _
 have e:l.length-(a::l.drop (i+1)).length=i:=by simp;omega
 have c1:l.length-(l.drop (i+1)).length=i+1:=by simp;omega
 have ab:=avZ n a x;by_cases ae:a.name=x;.right;rw[xal ae]at ab ai;rw[ai,xaa rfl,e];simp only[G4,go_sem,cn,fM aH,V.a4,ab,xbo]
 left;rw[xan ae]at ab ai;rw[ai,xab (by simp),e,c1];refine⟨(),?_,?_,trivial⟩;.simp only[G4,go_sem,cn,fM aH,V.a4,ab,cc (bt:=false) (i:=i) (by omega)]
 cases dO (l.drop (i+1)) x with|none=>rfl|some j=>simp;omega
def av1(n:Nat)(l:List V)(x:ByteArray)(aC:l.length<n)(ak:l.length<1000000000):zC n [bd l,D.fn (.func rv) [] [.ref [aQ x] 0]]=some (ay (dO l x).isSome):=by
 have bU:zC n [bd l,D.fn (.func rv) [] [.ref [aQ x] 0]]=L5 n (bd l) (.ref [aQ x] 0):=by simp only[zC,nC]
 rw[bU];simp only[L5,go_sem,av0 n l x aC ak,DZ]
def av2(n:Nat)(d:bl)(x:ByteArray):G6 n [d.d,.ref [aQ x] 0]=some (ay (decide (d.name=x))):=by show L6 n d.d [aQ x]=_;simp only[L6,go_sem,iA,bl.g5,bl.kJ]
def av3(n:Nat)(l:List bl)(x:ByteArray)(aC:l.length<n)(ak:l.length<1000000000):zD n [aM l,D.fn (.func ry) [] [.ref [aQ x] 0]]=some (J (fF (db l x))):=by
 have bO:(J ((0:Nat):Int))=J 0:=rfl;have ag:=c8 (f:=G7 n) l (λi (_:Unit)=>[aM l,.ref [aQ x] 0,J l.length,J (i:Int)]) (λr _=>match db r x with|some j=>(Sum.inr (J ((l.length-r.length+j:Nat):Int)):List D⊕D)|none=> .inl []) (λ_ _=>True) ?_ ?_ n 0 () trivial (by omega) (xai _)
 .rw[bO,xap,Nat.sub_self]at ag;have bU:zD n [aM l,D.fn (.func ry) [] [.ref [aQ x] 0]]=G8 n (aM l) (.ref [aQ x] 0):=by
   simp only[zD,nC]
  rw[bU];cases bP:db l x with|none=>rw[bP]at ag;simp only[G8,go_sem,dT,ag,fF]|some j=>rw[bP]at ag;simp only[xaE]at ag;simp only[G8,go_sem,dT,ag,fF]
 .intro _ _;have:db [] x=none:=rfl;simp only[G7,go_sem,yF ((l.length:Int)<l.length),this]
 intro i a _ aH ag _;have cn:=yT ((i:Int)<(l.length:Int));have ai:db (a::l.drop (i+1)) x=if decide (a.name=x)=true then some 0 else(db (l.drop (i+1)) x).map (·+1):=findIdx_cons _ a _
 have e:l.length-(a::l.drop (i+1)).length=i:=by simp;omega
 have c1:l.length-(l.drop (i+1)).length=i+1:=by simp;omega
 have ab:=av2 n a x;by_cases ae:a.name=x;.right;rw[xal ae]at ab ai;rw[ai,xaa rfl,e];simp only[G7,go_sem,cn,e2 aH,bl.a5,ab,xbo]
 left;rw[xan ae]at ab ai;rw[ai,xab (by simp),e,c1];refine⟨(),?_,?_,trivial⟩;.simp only[G7,go_sem,cn,e2 aH,bl.a5,ab,cc (bt:=false) (i:=i) (by omega)]
 cases db (l.drop (i+1)) x with|none=>rfl|some j=>simp;omega
def av4(n:Nat)(l:List bl)(x:ByteArray)(aC:l.length<n)(ak:l.length<1000000000):zE n [aM l,D.fn (.func ry) [] [.ref [aQ x] 0]]=some (ay (db l x).isSome):=by
 have bU:zE n [aM l,D.fn (.func ry) [] [.ref [aQ x] 0]]=L7 n (aM l) (.ref [aQ x] 0):=by simp only[zE,nC]
 rw[bU];simp only[L7,go_sem,av3 n l x aC ak,DZ]
def av5(n:Nat)(d:V)(x:ByteArray):GS n [d.d,.ref [aQ x] 0]=some (ay (decide (d.name=x))):=by show LX n d.d [aQ x]=_;simp only[LX,go_sem,iA,V.g4,V.kJ]
def av6(n:Nat)(l:List V)(x:ByteArray)(aC:l.length<n)(ak:l.length<1000000000):zv n [bd l,D.fn (.func Cn) [] [.ref [aQ x] 0]]=some (J (fF (dO l x))):=by
 have bO:(J ((0:Nat):Int))=J 0:=rfl;have ag:=c8 (f:=GU n) l (λi (_:Unit)=>[bd l,.ref [aQ x] 0,J l.length,J (i:Int)]) (λr _=>match dO r x with|some j=>(Sum.inr (J ((l.length-r.length+j:Nat):Int)):List D⊕D)|none=> .inl []) (λ_ _=>True) ?_ ?_ n 0 () trivial (by omega) (xai _)
 .rw[bO,xap,Nat.sub_self]at ag;have bU:zv n [bd l,D.fn (.func Cn) [] [.ref [aQ x] 0]]=GV n (bd l) (.ref [aQ x] 0):=by
   simp only[zv,nC]
  rw[bU];cases bP:dO l x with|none=>rw[bP]at ag;simp only[GV,go_sem,eg,ag,fF]|some j=>rw[bP]at ag;simp only[xaE]at ag;simp only[GV,go_sem,eg,ag,fF]
 .intro _ _;have:dO [] x=none:=rfl;simp only[GU,go_sem,yF ((l.length:Int)<l.length),this]
 intro i a _ aH ag _;have cn:=yT ((i:Int)<(l.length:Int));have ai:dO (a::l.drop (i+1)) x=if decide (a.name=x)=true then some 0 else(dO (l.drop (i+1)) x).map (·+1):=findIdx_cons _ a _
 have e:l.length-(a::l.drop (i+1)).length=i:=by simp;omega
 have c1:l.length-(l.drop (i+1)).length=i+1:=by simp;omega
 have ab:=av5 n a x;by_cases ae:a.name=x;.right;rw[xal ae]at ab ai;rw[ai,xaa rfl,e];simp only[GU,go_sem,cn,fM aH,V.a4,ab,xbo]
 left;rw[xan ae]at ab ai;rw[ai,xab (by simp),e,c1];refine⟨(),?_,?_,trivial⟩;.simp only[GU,go_sem,cn,fM aH,V.a4,ab,cc (bt:=false) (i:=i) (by omega)]
 cases dO (l.drop (i+1)) x with|none=>rfl|some j=>simp;omega
def av7(n:Nat)(d:bl)(x:ByteArray):GW n [d.d,.ref [aQ x] 0]=some (ay (decide (d.name=x))):=by show LY n d.d [aQ x]=_;simp only[LY,go_sem,iA,bl.g5,bl.kJ]
def av8(n:Nat)(l:List bl)(x:ByteArray)(aC:l.length<n)(ak:l.length<1000000000):zw n [aM l,D.fn (.func rz) [] [.ref [aQ x] 0]]=some (J (fF (db l x))):=by
 have bO:(J ((0:Nat):Int))=J 0:=rfl;have ag:=c8 (f:=GX n) l (λi (_:Unit)=>[aM l,.ref [aQ x] 0,J l.length,J (i:Int)]) (λr _=>match db r x with|some j=>(Sum.inr (J ((l.length-r.length+j:Nat):Int)):List D⊕D)|none=> .inl []) (λ_ _=>True) ?_ ?_ n 0 () trivial (by omega) (xai _)
 .rw[bO,xap,Nat.sub_self]at ag;have bU:zw n [aM l,D.fn (.func rz) [] [.ref [aQ x] 0]]=GY n (aM l) (.ref [aQ x] 0):=by
   simp only[zw,nC]
  rw[bU];cases bP:db l x with|none=>rw[bP]at ag;simp only[GY,go_sem,dT,ag,fF]|some j=>rw[bP]at ag;simp only[xaE]at ag;simp only[GY,go_sem,dT,ag,fF]
 .intro _ _;have:db [] x=none:=rfl;simp only[GX,go_sem,yF ((l.length:Int)<l.length),this]
 intro i a _ aH ag _;have cn:=yT ((i:Int)<(l.length:Int));have ai:db (a::l.drop (i+1)) x=if decide (a.name=x)=true then some 0 else(db (l.drop (i+1)) x).map (·+1):=findIdx_cons _ a _
 have e:l.length-(a::l.drop (i+1)).length=i:=by simp;omega
 have c1:l.length-(l.drop (i+1)).length=i+1:=by simp;omega
 have ab:=av7 n a x;by_cases ae:a.name=x;.right;rw[xal ae]at ab ai;rw[ai,xaa rfl,e];simp only[GX,go_sem,cn,e2 aH,bl.a5,ab,xbo]
 left;rw[xan ae]at ab ai;rw[ai,xab (by simp),e,c1];refine⟨(),?_,?_,trivial⟩;.simp only[GX,go_sem,cn,e2 aH,bl.a5,ab,cc (bt:=false) (i:=i) (by omega)]
 cases db (l.drop (i+1)) x with|none=>rfl|some j=>simp;omega
def av9(n:Nat)(l:List bl)(x:ByteArray)(aC:l.length<n)(ak:l.length<1000000000):zx n [aM l,D.fn (.func rz) [] [.ref [aQ x] 0]]=some (ay (db l x).isSome):=by
 have bU:zx n [aM l,D.fn (.func rz) [] [.ref [aQ x] 0]]=LZ n (aM l) (.ref [aQ x] 0):=by simp only[zx,nC]
 rw[bU];simp only[LZ,go_sem,av8 n l x aC ak,DZ]
def awa(n:Nat)(d:bl)(x:ByteArray):G0 n [d.d,.ref [aQ x] 0]=some (ay (decide (d.name=x))):=by show L1 n d.d [aQ x]=_;simp only[L1,go_sem,iA,bl.g5,bl.kJ]
def awb(n:Nat)(l:List bl)(x:ByteArray)(aC:l.length<n)(ak:l.length<1000000000):zz n [aM l,D.fn (.func Cm) [] [.ref [aQ x] 0]]=some (J (fF (db l x))):=by
 have bO:(J ((0:Nat):Int))=J 0:=rfl;have ag:=c8 (f:=G1 n) l (λi (_:Unit)=>[aM l,.ref [aQ x] 0,J l.length,J (i:Int)]) (λr _=>match db r x with|some j=>(Sum.inr (J ((l.length-r.length+j:Nat):Int)):List D⊕D)|none=> .inl []) (λ_ _=>True) ?_ ?_ n 0 () trivial (by omega) (xai _)
 .rw[bO,xap,Nat.sub_self]at ag;have bU:zz n [aM l,D.fn (.func Cm) [] [.ref [aQ x] 0]]=G2 n (aM l) (.ref [aQ x] 0):=by
   simp only[zz,nC]
  rw[bU];cases bP:db l x with|none=>rw[bP]at ag;simp only[G2,go_sem,dT,ag,fF]|some j=>rw[bP]at ag;simp only[xaE]at ag;simp only[G2,go_sem,dT,ag,fF]
 .intro _ _;have:db [] x=none:=rfl;simp only[G1,go_sem,yF ((l.length:Int)<l.length),this]
 intro i a _ aH ag _;have cn:=yT ((i:Int)<(l.length:Int));have ai:db (a::l.drop (i+1)) x=if decide (a.name=x)=true then some 0 else(db (l.drop (i+1)) x).map (·+1):=findIdx_cons _ a _
 have e:l.length-(a::l.drop (i+1)).length=i:=by simp;omega
 have c1:l.length-(l.drop (i+1)).length=i+1:=by simp;omega
 have ab:=awa n a x;by_cases ae:a.name=x;.right;rw[xal ae]at ab ai;rw[ai,xaa rfl,e];simp only[G1,go_sem,cn,e2 aH,bl.a5,ab,xbo]
 left;rw[xan ae]at ab ai;rw[ai,xab (by simp),e,c1];refine⟨(),?_,?_,trivial⟩;.simp only[G1,go_sem,cn,e2 aH,bl.a5,ab,cc (bt:=false) (i:=i) (by omega)]
 cases db (l.drop (i+1)) x with|none=>rfl|some j=>simp;omega
def awc(n:Nat)(d:cL)(x:ByteArray):Gj n [d.d,.ref [aQ x] 0]=some (ay (decide (d.name=x))):=by show LI n d.d [aQ x]=_;simp only[LI,go_sem,iA,cL.g7,cL.kJ]
def awd(n:Nat)(l:List cL)(x:ByteArray)(aC:l.length<n)(ak:l.length<1000000000):y8 n [bL l,D.fn (.func rA) [] [.ref [aQ x] 0]]=some (J (fF (nM l x))):=by
 have bO:(J ((0:Nat):Int))=J 0:=rfl;have ag:=c8 (f:=Gk n) l (λi (_:Unit)=>[bL l,.ref [aQ x] 0,J l.length,J (i:Int)]) (λr _=>match nM r x with|some j=>(Sum.inr (J ((l.length-r.length+j:Nat):Int)):List D⊕D)|none=> .inl []) (λ_ _=>True) ?_ ?_ n 0 () trivial (by omega) (xai _)
 .rw[bO,xap,Nat.sub_self]at ag;have bU:y8 n [bL l,D.fn (.func rA) [] [.ref [aQ x] 0]]=Gl n (bL l) (.ref [aQ x] 0):=by
   simp only[y8,nC]
  rw[bU];cases bP:nM l x with|none=>rw[bP]at ag;simp only[Gl,go_sem,il,ag,fF]|some j=>rw[bP]at ag;simp only[xaE]at ag;simp only[Gl,go_sem,il,ag,fF]
 .intro _ _;have:nM [] x=none:=rfl;simp only[Gk,go_sem,yF ((l.length:Int)<l.length),this]
 intro i a _ aH ag _;have cn:=yT ((i:Int)<(l.length:Int));have ai:nM (a::l.drop (i+1)) x=if decide (a.name=x)=true then some 0 else(nM (l.drop (i+1)) x).map (·+1):=findIdx_cons _ a _
 have e:l.length-(a::l.drop (i+1)).length=i:=by simp;omega
 have c1:l.length-(l.drop (i+1)).length=i+1:=by simp;omega
 have ab:=awc n a x;by_cases ae:a.name=x;.right;rw[xal ae]at ab ai;rw[ai,xaa rfl,e];simp only[Gk,go_sem,cn,mi aH,cL.kM,ab,xbo]
 left;rw[xan ae]at ab ai;rw[ai,xab (by simp),e,c1];refine⟨(),?_,?_,trivial⟩;.simp only[Gk,go_sem,cn,mi aH,cL.kM,ab,cc (bt:=false) (i:=i) (by omega)]
 cases nM (l.drop (i+1)) x with|none=>rfl|some j=>simp;omega
def awe(n:Nat)(l:List cL)(x:ByteArray)(aC:l.length<n)(ak:l.length<1000000000):y9 n [bL l,D.fn (.func rA) [] [.ref [aQ x] 0]]=some (ay (nM l x).isSome):=by
 have bU:y9 n [bL l,D.fn (.func rA) [] [.ref [aQ x] 0]]=LJ n (bL l) (.ref [aQ x] 0):=by simp only[y9,nC]
 rw[bU];simp only[LJ,go_sem,awd n l x aC ak,DZ]
structure tN(f:Tm->Tm):Prop where
 op:∀t,(f t).op=t.op
 num:∀t,(f t).num=t.num
 name:∀t,(f t).name=t.name
 aW:∀t,(f t).aW=t.aW.map f
theorem Uv:tN kr:=⟨λt=>by rw[IV];rfl,λt=>by rw[IV];rfl,λt=>by rw[IV];rfl,λt=>by rw[IV];rfl⟩
theorem aeb:tN ga:=⟨λt=>by rw[DN];rfl,λt=>by rw[DN];rfl,λt=>by rw[DN];rfl,λt=>by rw[DN];rfl⟩
def aec(vs:List V)(nx:Bool)(f:Tm->Tm):∀(ks:List Tm),(∀k∈ks,dE vs nx (f k)=dE vs nx k)->dK vs nx (ks.map f)=dK vs nx ks
 |[],_=>rfl|k::r,h=>by rw[xay,dK,dK,h k (by simp),aec vs nx f r λk ah=>h k (by simp[ah])]
def awf{f:Tm->Tm}(ba:tN f)(t:Tm)(l:List Y):gx (f t) l=gx t l:=by unfold gx;rw[ba.op,ba.aW,xag];cases ah:t.aW[1]? with|none=>rfl|some k=>simp only[xaK,ba.op,ba.num]
def awg{f:Tm->Tm}(ba:tN f)(vs:List V)(nx:Bool)(t:Tm):dE vs nx (f t)=dE vs nx t:=by
 refine Tm.ind (P:=λt=>dE vs nx (f t)=dE vs nx t) ?_ t;intro t ih;have ax:kt vs nx (f t)=kt vs nx t:=by simp only[kt,ba.op,ba.num,ba.name]
 rw[nJ,nJ vs nx t,ba.op,ba.aW,ax,aec vs nx f t.aW ih,awf ba]
def awh{f:Tm->Tm}(ba:tN f)(t:Tm):h0 (f t)=h0 t:=by simp only[h0,ba.op,ba.num,ba.name,ba.aW,xaV]
def aed(f:Tm->Tm):∀(ks:List Tm),(∀k∈ks,∀d n,c4 (f k) d n=c4 k d n)->∀d n,eZ (ks.map f) d n=eZ ks d n
 |[],_,_,_=>rfl|k::r,h,d,n=>by rw[xay,eZ,eZ,h k (by simp),aed f r λk ah=>h k (by simp[ah])]
def awi{f:Tm->Tm}(ba:tN f)(t:Tm):∀d n,c4 (f t) d n=c4 t d n:=by refine Tm.ind (P:=λt=>∀d n,c4 (f t) d n=c4 t d n) ?_ t;intro t ih d n;rw[vB,vB t,awh ba,ba.aW,aed f t.aW ih]
def Uw{f:Tm->Tm}(ba:tN f)(vs:List V)(nx:Bool)(t:Tm):jr vs nx (f t)=jr vs nx t:=by unfold jr;rw[awi ba,awg ba]
structure D0(l:List bl)(t:Tm)(p:Tm×Int):Prop where
 a:∀n,301000000<n->ma n [t.d,aM l]=some (.aO [(if p.2=0 then kr p.1 else e9).d,J p.2])
 b:∀n,301000000<n->me n [t.d,aM l]=some (.aO [(if p.2=0 then ga p.1 else e9).d,J p.2])
 x:p.2=0->p.1.cz/\p.1.bD<=12300/\(c4 p.1 1 0).1=0/\(kr p.1).cz/\(ga p.1).cz/\∃h,j7 l h t p.1
def aee{l:List bl}(an:hQ 12300 l)(D1:l.length<=100)(t:Tm)(bq:t.cz)(aF:t.bD<=12300):∃p,D0 l t p:=by
 by_cases aq:(c4 t 1 0).1=0
 case neg=>exact⟨(e9,(c4 t 1 0).1),λn aC=>by rw[xab aq];exact(TQ an n t bq aF (by omega)).1 aq,λn aC=>by rw[xab aq];exact(TS an n t bq aF (by omega)).1 aq,λh=>absurd h aq⟩
 cases au:r7 l t with
 |false=>exact⟨(e9,14),λn aC=>(TQ an n t bq aF (by omega)).2.1 aq au,λn aC=>(TS an n t bq aF (by omega)).2.1 aq au,λh=>by cases h⟩
 |true=>
  obtain⟨X,kq⟩:=at0 an aF ((aue l t).1 au);have fh:(l.length+1)*(12300+1)+12300<=1300000:=by omega
  generalize (l.length+1)*(12300+1)+12300=bU at*;have A:∀n,301000000<n->_:=λn aC=>(TQ an n t bq aF (by omega)).2.2 _ X aq au kq (by omega);have B:∀n,301000000<n->_:=λn aC=>(TS an n t bq aF (by omega)).2.2 _ X aq au kq (by omega);obtain⟨bh,bo⟩:=TI X 1 0 (by omega);rw[bh]at A;by_cases ax:(c4 X 1 0).1=0
  case neg=>simp only[ax,xaA]at A B;exact⟨(e9,(c4 X 1 0).1),λn aC=>by rw[xab ax];exact A n aC,λn aC=>by rw[xab ax];exact B n aC,λh=>absurd h ax⟩
  simp only[ax,xaz]at A B;have ba:=acY X 1 0 (by omega) ax;have aef:=kq.ok an bq aF;have fl:=aul X 1 0 ax;have FU:=(Dv X 1 0).2 ax;have aeg:=(acT an kq bq aF).1;rw[ba]at A aeg;exact⟨(X,0),A,B,λ_=>⟨aef.1,by simp only;omega,ax,aeg,auQ X aef.1,bU,kq⟩⟩
open Classical in
noncomputable def dF(l:List bl)(t:Tm):Tm×Int:=if h:∃p,D0 l t p then Classical.choose h else(e9,0)
def aeh{l:List bl}{t:Tm}(h:∃p,D0 l t p):D0 l t (dF l t):=by unfold dF;rw[dif_pos h];exact Classical.choose_spec h
noncomputable def gH(m:af)(nx:Bool)(t:Tm):Y×Int:=if(dF m.aw t).2≠0 then(e0,(dF m.aw t).2)else jr m.vars nx (dF m.aw t).1
noncomputable def oU(m:af)(nx:Bool)(t:Tm):Int:=if((gH m nx t).2==0&&!(gH m nx t).1.b)=true then 13 else(gH m nx t).2
structure D2(m:af):Prop where
 d:hQ 12300 m.aw
 dl:m.aw.length<=100
 hH:m.vars.length<=100
def D2.Ux{m:af}(h:D2 m){t:Tm}(bq:t.cz)(aF:t.bD<=12300):D0 m.aw t (dF m.aw t):=aeh (aee h.d h.dl t bq aF)
theorem aei:D.agg [ay false,J 0,J 0]=e0.d:=rfl
theorem tO(y:Y):aa y.d 0=ay y.b:=rfl
theorem aej(y:Y):aa y.d 1=J y.lo:=rfl
theorem aek(y:Y):aa y.d 2=J y.ag:=rfl
theorem pQ(y:Y):aX 3 y.d=true:=rfl
theorem ael(y:Y):D.agg [ay y.b,J y.lo,J y.ag]=y.d:=rfl
section
variable{m:af}(hm:D2 m)(n:Nat)(aC:301000000<n)
include hm aC
theorem Uy{t:Tm}(bq:t.cz)(aF:t.bD<=12300)(nx:Bool):ti n [m.d,t.d,ay nx]=some (.aO [(gH m nx t).1.d,J (gH m nx t).2]):=by
 have jA:=hm.Ux bq aF;have j9:=hm.hH;unfold gH;generalize dF m.aw t=p at*;have di:=jA.a n aC;by_cases aq:p.2=0
 .obtain⟨x1,sa,awj,aem,aen,_⟩:=jA.x aq;have bm:(p.2 !=0)=false:=by simp[aq]
  rw[xaa aq]at di;have bb:=adi n m.vars (kr p.1) nx (by rw[TU];omega) aem (by omega);rw[Uw Uv]at bb;rw[xab (by simpa using aq)];simp only[ti,R1,go_sem,af.agg,af.aL,af.bh,di,bm,bb,pQ,tO,aej,aek,ael]
 have bm:(p.2 !=0)=true:=by simpa using aq
 rw[xab aq]at di;rw[xaa aq];simp only[ti,R1,go_sem,af.agg,af.aL,af.bh,di,bm,aei]
theorem Uz{t:Tm}(bq:t.cz)(aF:t.bD<=12300)(nx:Bool):tq n [m.d,t.d,ay nx]=some (.aO [(gH m nx t).1.d,J (gH m nx t).2]):=by
 have jA:=hm.Ux bq aF;have j9:=hm.hH;unfold gH;generalize dF m.aw t=p at*;have di:=jA.b n aC;by_cases aq:p.2=0
 .obtain⟨x1,sa,awj,aem,aen,_⟩:=jA.x aq;have bm:(p.2 !=0)=false:=by simp[aq]
  rw[xaa aq]at di;have bb:=adj n m.vars (ga p.1) nx (by rw[NM];omega) aen (by omega);rw[Uw aeb]at bb;rw[xab (by simpa using aq)];simp only[tq,Su,go_sem,af.agg,af.aL,af.bh,di,bm,bb,pQ,tO,aej,aek,ael]
 have bm:(p.2 !=0)=true:=by simpa using aq
 rw[xab aq]at di;rw[xaa aq];simp only[tq,Su,go_sem,af.agg,af.aL,af.bh,di,bm,aei]
theorem aeo{t:Tm}(bq:t.cz)(aF:t.bD<=12300)(nx:Bool):xb n [m.d,t.d,ay nx]=some (J (oU m nx t)):=by
 have bb:=Uy hm n aC bq aF nx;unfold oU;by_cases h:((gH m nx t).2==0&&!(gH m nx t).1.b)=true;.rw[xaa h];simp only[xb,R2,go_sem,af.agg,af.aL,af.bh,af.bo,af.bC,af.b5,af.ct,af.cu,af.cy,af.eta,bb,pQ,tO,h]
 have bs:((gH m nx t).2==0&&!(gH m nx t).1.b)=false:=by simpa using h
 rw[xab h];simp only[xb,R2,go_sem,af.agg,af.aL,af.bh,af.bo,af.bC,af.b5,af.ct,af.cu,af.cy,af.eta,bb,pQ,tO,bs]
theorem aep{t:Tm}(bq:t.cz)(aF:t.bD<=12300)(nx:Bool):xm n [m.d,t.d,ay nx]=some (J (oU m nx t)):=by
 have bb:=Uz hm n aC bq aF nx;unfold oU;by_cases h:((gH m nx t).2==0&&!(gH m nx t).1.b)=true;.rw[xaa h];simp only[xm,Sv,go_sem,af.agg,af.aL,af.bh,af.bo,af.bC,af.b5,af.ct,af.cu,af.cy,af.eta,bb,pQ,tO,h]
 have bs:((gH m nx t).2==0&&!(gH m nx t).1.b)=false:=by simpa using h
 rw[xab h];simp only[xm,Sv,go_sem,af.agg,af.aL,af.bh,af.bo,af.bC,af.b5,af.ct,af.cu,af.cy,af.eta,bb,pQ,tO,bs]
end
def vL(N:Nat)(S:List Nat):List (List D):=(List.range N).map λj=>[ay (decide (j∈S))]
def ka(N:Nat)(S:List Nat):D:= .aA 1 (vL N S)
def Jc(N:Nat)(S:List Nat):(vL N S).length=N:=by simp[vL]
def Jd{N:Nat}{S:List Nat}{k:Nat}(h:k<N):(vL N S)[k]?=some [ay (decide (k∈S))]:=by simp[vL,h]
def aeq(N:Nat):List.replicate N [ay false]=vL N []:=by
 apply xcc;intro j;by_cases h:j<N;.rw[Jd h];simp[h]
 rw[xaY (by simp;omega),xaY (by rw[Jc];omega)]
def awk{N:Nat}{S:List Nat}{k:Nat}(h:k<N):(vL N S).set k [ay true]=vL N (S++[k]):=by
 apply xcc;intro j;by_cases aG:j<N
 .rw[Jd aG,List.getElem?_set];by_cases e:k=j;.subst e;simp[Jc,h]
  rw[xab e,Jd aG];have:(j∈S++[k])↔j∈S:=by simp;omega
  simp only[this]
 rw[xaY (by simp[Jc];omega),xaY (by rw[Jc];omega)]
def h3(S:List Nat)(ks:List Nat):List Nat:=ks.foldl (λS k=>if k∈S then S else S++[k]) S
theorem Je(S:List Nat)(k:Nat)(r:List Nat):h3 S (k::r)=h3 (if k∈S then S else S++[k]) r:=rfl
structure awl(N:Nat)(S ks eE:List Nat):Prop where
 inv:iD N eE
 pre:∃T,eE=S++T
 mem:∀k∈ks,k∈eE
 of:∀x∈eE,x∈S\/x∈ks
def N2{N:Nat}:∀(ks S:List Nat),iD N S->(∀k∈ks,k<N)->awl N S ks (h3 S ks)
 |[],S,h,_=>⟨h,⟨[],by simp[h3]⟩,by simp,λx ae=> .inl ae⟩
 |k::r,S,h,ah=>by
  rw[Je];by_cases ea:k∈S
  .rw[xaa ea];have g:=N2 r S h λx ae=>ah x (by simp[ae]);obtain⟨T,bb⟩:=g.pre;refine⟨g.inv,g.pre,λx ae=>?_,λx ae=>(g.of x ae).elim .inl λh=> .inr (by simp[h])⟩;rcases xas.1 ae with rfl|ae
   .rw[bb];simp[ea]
   exact g.mem x ae
  rw[xab ea];have g:=N2 r (S++[k]) (h.snoc (ah k (by simp)) ea) λx ae=>ah x (by simp[ae]);obtain⟨T,bb⟩:=g.pre;refine⟨g.inv,⟨[k]++T,by rw[bb];simp⟩,λx ae=>?_,λx ae=>?_⟩
  .rcases xas.1 ae with rfl|ae;.rw[bb];simp
   exact g.mem x ae
  rcases g.of x ae with h|h
  .rcases xaL.1 h with h|h;.exact .inl h
   simp at h;subst h;exact .inr (by simp)
  exact .inr (by simp[h])
def vM(to:Nat->List Nat)(i:Nat):Nat->Nat->List Nat->List Nat
 |0,_,S=>S|m+1,k,S=>match(i::S)[k]? with|some x=>vM to i m (k+1) (h3 S (to x))|none=>S
structure qF(to:Nat->List Nat)(N i k:Nat)(S:List Nat):Prop where
 inv:iD N S
 le:k<=S.length+1
 vC:∀j x,j<k->(i::S)[j]?=some x->∀y∈to x,y∈S
 r5:∀x∈S,∃j∈to i,j6 to j x
def j6.snoc{to:Nat->List Nat}{i j k:Nat}(h:j6 to i j)(bs:k∈to j):j6 to i k:=h.trans (.step j k k bs (.refl k))
def qF.next{to:Nat->List Nat}{N i k:Nat}{S:List Nat}(h:qF to N i k S)(kH:∀i,∀k∈to i,k<N){x:Nat}(ae:(i::S)[k]?=some x):qF to N i (k+1) (h3 S (to x)):=by
 have g:=N2 (to x) S h.inv (kH x);obtain⟨T,bb⟩:=g.pre;have ah:k<S.length+1:=by have:=(xae.1 ae).1;simpa using this
 have awm:∀j y,j<=k->(i::h3 S (to x))[j]?=some y->(i::S)[j]?=some y:=by intro j y aG aP;rw[bb,<-xbv,xaC (by simp;omega)]at aP;exact aP
 refine⟨g.inv,by rw[bb];simp;omega,?_,?_⟩
 .intro j y aG aP z bm;have ud:=awm j y (by omega) aP;by_cases e:j=k
  .subst e;rw[ae]at ud;cases ud;exact g.mem z bm
  have:=h.vC j y (by omega) ud z bm;rw[bb];simp[this]
 intro y aP;rcases g.of y aP with ab|ab
 .exact h.r5 y ab
 cases k with|zero=>simp at ae;subst ae;exact⟨y,ab,.refl y⟩|succ k=>have TA:x∈S:=xac (by simpa using ae);obtain⟨j,aG,au⟩:=h.r5 x TA;exact⟨j,aG,au.snoc ab⟩
def UA{to:Nat->List Nat}{N i:Nat}(kH:∀i,∀k∈to i,k<N):∀(m k:Nat)(S:List Nat),qF to N i k S->N+1-k<m->(i∈vM to i m k S↔∃j∈to i,j6 to j i)
 |0,_,_,_,h=>absurd h (xaF _)
 |m+1,k,S,h,hm=>by
  rw[vM];have bH:=h.inv.len;cases ae:(i::S)[k]? with
  |some x=>
   have ah:k<S.length+1:=by have:=(xae.1 ae).1;simpa using this
   exact UA kH m (k+1) _ (h.next kH ae) (by omega)
  |none=>
   have ah:S.length+1<=k:=by have:=List.getElem?_eq_none_iff.1 ae;simpa using this
   refine⟨λag=>h.r5 i ag,?_⟩;have gA:∀a b,j6 to a b->a∈S->b∈S:=by
    intro a b jK
    induction jK with|refl=>exact λh=>h|step p q r EC _ ih=>intro aU;obtain⟨j,aG⟩:=xaJ.1 aU;have cn:=(xae.1 aG).1;exact ih (h.vC (j+1) p (by omega) (by simpa using aG) q EC)
   rintro⟨j,aG,au⟩;exact gA j i au (h.vC 0 i (by omega) (by simp) j aG)
def qF.start(to:Nat->List Nat)(N i:Nat):qF to N i 0 []:=⟨⟨by simp,by simp⟩,by simp,by intro j x h;omega,by simp⟩
theorem sd(x:List Nat):D.aA 1 (aB (c2 x))=c2 x:=rfl
def Jf(x:List Nat):(aB (c2 x)).length=x.length:=by simp[c2]
def aer(x:List Nat)(k:Nat):D.aA 1 (aB (c2 x)++[[J (k:Int)]])=c2 (x++[k]):=by simp[c2]
def aes{x:List Nat}{j k:Nat}(h:x[j]?=some k):(aB (c2 x))[j]?=some [J (k:Int)]:=by simp[c2,h]
theorem oV(N:Nat)(x:List Nat):D.aA 1 (aB (ka N x))=ka N x:=rfl
def Jg(N:Nat)(x:List Nat):(aB (ka N x)).length=N:=Jc N x
def Jh{N:Nat}{S:List Nat}{k:Nat}(h:k<N):(aB (ka N S))[k]?=some [ay (decide (k∈S))]:=Jd h
theorem aet{N:Nat}{S:List Nat}{k:Nat}(h:k<N){w:Bool}:D.aA 1 ((aB (ka N S)).set k (lV [ay w] 0 [ay true]))=ka N (S++[k]):=by show D.aA 1 ((vL N S).set k [ay true])=_;rw[awk h];rfl
theorem A5(b:Bool):a7 false 1 0 [ay b]=some (ay b):=rfl
theorem D3(i:Int):a7 false 1 0 [J i]=some (J i):=rfl
theorem D4(s:ByteArray):a7 false 1 0 [aQ s]=some (aQ s):=rfl
theorem N3{p:Option D}:bN (ay true) true p=p:=rfl
theorem aeu{p:Option D}:bN (ay false) true p=some jY:=rfl
theorem N4{a b:D}:b1 (ay true) a b=some a:=rfl
theorem aev{a b:D}:b1 (ay false) a b=some b:=rfl
def aew{l:List bl}{x:ByteArray}{k:Nat}(h:db l x=some k):k<l.length:=by obtain⟨_,_,_,h⟩:=RE h;exact h
def awn(n:Nat)(l:List bl){B:Nat}(an:hQ B l)(i k:Nat)(fx:List ByteArray)(S:List Nat)(cb:iD l.length S)(ah:k<=S.length+1)(ep:fx.length<=B)(aC:2*B+100<n):bI (zA n) n [aM l,J (i:Int),dk fx,J fx.length,J 0,ka l.length S,c2 ((i::S).drop k)]=some (.inl [aM l,J (i:Int),ka l.length (h3 S (fx.filterMap (db l))),c2 ((i::h3 S (fx.filterMap (db l))).drop k)]):=by
 have bH:=an.len;have ak:=an.b;have ag:=c8 (f:=zA n) fx (λj (s:List Nat)=>[aM l,J (i:Int),dk fx,J fx.length,J (j:Int),ka l.length s,c2 ((i::s).drop k)]) (λr s=>(.inl [aM l,J (i:Int),ka l.length (h3 s (r.filterMap (db l))),c2 ((i::h3 s (r.filterMap (db l))).drop k)]:List D⊕(List D⊕(List D⊕(List D⊕D))))) (λj s=>iD l.length s/\k<=s.length+1) (λs _=>by simp only[zA,go_sem,yF ((fx.length:Int)<fx.length),oV,sd];rfl) ?_ n 0 S ⟨cb,ah⟩ (by omega) (xai _)
 .exact ag
 rintro j x s ae aG ⟨ab,ad⟩;have e8:=awb n l x (by omega) (by omega);have hF:=ab.len;have cn:=yT ((j:Int)<(fx.length:Int));left;cases az:db l x with
 |none=>rw[az]at e8;refine⟨s,?_,by simp[az],ab,ad⟩;have gq:decide (fF none>=0)=false:=rfl;simp only[zA,go_sem,cn,IL ae,D4,e8,gq,aeu,aev,oV,sd,cc (bt:=false) (i:=j) (by omega)]
 |some y=>
  have aP:=aew az;rw[az]at e8;have gq:decide ((y:Int)>=0)=true:=xal (by omega);have dN:cV l.length (J (y:Int))=some y:=by rw[kn,xaa aP]
  have Ji:fF (some y)=(y:Int):=rfl;by_cases nA:y∈s;.refine⟨s,?_,by simp[az,Je,nA],ab,ad⟩;simp only[zA,go_sem,cn,IL ae,D4,e8,Ji,gq,Jg,dN,Jh aP,A5,xal nA,N3,N4,oV,sd,cc (bt:=false) (i:=j) (by omega)]
  have ax:=ab.snoc aP nA;refine⟨s++[y],?_,by simp only[xbP,az,Je,xab nA],ax,by simp;omega⟩;have aN:(i::(s++[y])).drop k=(i::s).drop k++[y]:=by rw[<-xbv,List.drop_append_of_le_length (by simpa using ad)]
  have dw:cJ (((i::s).drop k).length+1) 8=true:=eW (by simp;omega) (by simp;omega);rw[aN];simp only[zA,go_sem,cn,IL ae,D4,e8,Ji,gq,Jg,dN,Jh aP,A5,xan nA,N3,N4,Jf,xak,xar,xaE,dw,aet aP,aer,oV,sd,cc (bt:=false) (i:=j) (by omega)]
def aex(n:Nat)(l:List bl){B:Nat}(an:hQ B l)(i:Nat)(bX:i<l.length)(aC:4*B+200<n):∀(m k:Nat)(S:List Nat),qF (to l) l.length i k S->l.length+1-k<m->bI (L2 n) m [aM l,J (i:Int),ka l.length S,c2 ((i::S).drop k)]=some (.inl [J (i:Int),ka l.length (vM (to l) i m k S)])
 |0,_,_,_,h=>absurd h (xaF _)
 |m+1,k,S,h,hm=>by
  have bH:=an.len;have ak:=an.b;rw[kK,vM];have awo:=h.inv.len;have hle:=h.le;cases ae:(i::S)[k]? with
  |none=>
   have ah:S.length+1<=k:=by have:=List.getElem?_eq_none_iff.1 ae;simpa using this
   have bO:(i::S).drop k=[]:=xck (by simpa using ah);rw[bO];have aN:(aB (c2 [])).length=0:=rfl;have aV:decide (((0:Nat):Int)>0)=false:=rfl;simp only[L2,go_sem,aN,aV,oV]
  |some x=>
   have ah:k<S.length+1:=by have:=(xae.1 ae).1;simpa using this
   have o7:x<l.length:=by cases k with|zero=>simp at ae;omega|succ k=>exact h.inv.2 x (xac (by simpa using ae))
   obtain⟨d,az⟩:∃d,l[x]?=some d:=⟨l[x],xad o7⟩;have hs:=an.e d (xac az);have lT:=h.next (λi k ah=>lb i k ah) ae
   have ih:=aex n l an i bX aC m (k+1) _ lT (by omega);have cd:=No n d.e (by omega) hs.1 (by omega);have vN:=Dx d.e;have fo:=awn n l an i k (fE 3 d.e []) S h.inv hle (by omega) (by omega);have kH:(fE 3 d.e []).filterMap (db l)=to l x:=by rw[Dy az];rfl
   rw[kH]at fo;obtain⟨T,bb⟩:=(N2 (N:=l.length) (to l x) S h.inv (lb x)).pre;have By:((i::h3 S (to l x)).drop k).length=(h3 S (to l x)).length+1-k:=by simp
   have Li:=lT.le;have aey:((i::S).drop k).length=S.length+1-k:=by simp
   have n7:decide (((((i::S).drop k).length:Nat):Int)>0)=true:=xal (by rw[aey];omega);have awp:((i::S).drop k)[0]?=some x:=by rw[xaW];exact ae
   have dN:cV ((i::S).drop k).length (J 0)=some 0:=by have:(J 0)=J ((0:Nat):Int):=rfl;rw[this,kn,xaa (by rw[aey];omega)]
   have awq:pf ((i::h3 S (to l x)).drop k).length (some (J 1)) none=some (1,((i::h3 S (to l x)).drop k).length-1):=by
    have ab:1<=((i::h3 S (to l x)).drop k).length:=by rw[By];omega
    generalize ((i::h3 S (to l x)).drop k).length=q at*;have:(J 1)=J ((1:Nat):Int):=rfl;rw[this];simp[pf,qe,J,ab]
   have awr:decide (1+(((i::h3 S (to l x)).drop k).length-1)<=((i::h3 S (to l x)).drop k).length)=true:=xal (by rw[By];omega);have aws:D.aA 1 (((aB (c2 ((i::h3 S (to l x)).drop k))).drop 1).take (((i::h3 S (to l x)).drop k).length-1))=c2 ((i::h3 S (to l x)).drop (k+1)):=by
    have bS:((((i::h3 S (to l x)).drop k).drop 1).take (((i::h3 S (to l x)).drop k).length-1))=(i::h3 S (to l x)).drop (k+1):=by rw[List.drop_drop,xbw];simp;omega
    show D.aA 1 (((((i::h3 S (to l x)).drop k).map λ(i:Nat)=>[J (i:Int)]).drop 1).take _)=c2 _;rw[<-bS];unfold c2;simp only[List.map_take,List.map_drop]
   simp only[L2,go_sem,Jf,n7,dN,aes awp,D3,e2 az,bl.hB,cd,IM,oV,sd,fo,awq,awr,aws,ih]
def awt(n:Nat)(m:af){l:List bl}{B:Nat}(an:hQ B l)(i:Nat)(ag:i<l.length)(aC:4*B+200<n):CF n [aM l,m.d,J (i:Int)]=some (J (if jb l i=true then 14 else 0)):=by
 have bH:=an.len;have ak:=an.b;have ax:=aex n l an i ag aC n 0 [] (qF.start _ _ _) (by omega);have D5:=UA (λi k ah=>lb i k ah) n 0 [] (qF.start (to l) l.length i) (by omega);rw[<-TC l i]at D5;generalize vM (to l) i n 0 []=S at*;have AS:om 1 (J (l.length:Int)) (J (l.length:Int))=some l.length:=by simp[om,J];omega
 have aN:D.aA 1 (List.replicate l.length [ay false])=ka l.length []:=by rw[aeq];rfl
 have aV:D.aA 1 [[J (i:Int)]]=c2 ((i::[]).drop 0):=rfl;have dN:cV l.length (J (i:Int))=some i:=by rw[kn,xaa ag]
 simp only[CF,ZX,go_sem,af.agg,dT,AS,aN,aV,ax,Jg,dN,Jh ag,A5];by_cases h:jb l i=true;.rw[xaa h,xaa (xal (D5.2 h))]
 rw[xab h,xab (by simpa usingλbU=>h (D5.1 bU))]
def aez(n:Nat)(m:af)(x:ByteArray)(aC:m.aw.length<n)(an:m.aw.length<1000000000):zP n [m.d,aQ x]=some (J (fF (db m.aw x))):=by
 have ag:=c8 (f:=Hs n) m.aw (λi (_:Unit)=>[aQ x,J (i:Int),bd m.vars,aM m.aw,ar m.bA,ar m.bE,aM m.next,ar m.trans,ar m.bz,bL m.bp]) (λr _=>match db r x with|some j=>(Sum.inr (J ((m.aw.length-r.length+j:Nat):Int)):List D⊕D)|none=> .inl []) (λ_ _=>True) (λ_ _=>by simp[Hs,dT,db]) ?_ n 0 () trivial (by omega) (xai _);.have bO:(J ((0:Nat):Int))=J 0:=rfl;rw[bO]at ag;simp only[zP,aac,go_sem,af.agg,af.aL,af.bh,af.bo,af.bC,af.b5,af.ct,af.cu,af.cy,ag,xap];cases db m.aw x<;>simp[fF]
 intro i a _ aH ag _;have e:m.aw.length-(a::m.aw.drop (i+1)).length=i:=by simp;omega
 have c1:m.aw.length-(m.aw.drop (i+1)).length=i+1:=by simp;omega
 have nq:db (a::m.aw.drop (i+1)) x=if a.name=x then some 0 else(db (m.aw.drop (i+1)) x).map (·+1):=by simp[db,xbT]
 have a0:a.cells[0]?=some (aQ a.name):=rfl;by_cases ae:a.name=x;.right;rw[nq,xaa ae,e];simp[Hs,dT,ag,e2 aH,a0,ae]
 left;refine⟨(),by simp[Hs,dT,ag,e2 aH,a0,ae,cc (bt:=false) (i:=i) (by omega)],?_,trivial⟩;rw[nq,xab ae,e,c1];cases db (m.aw.drop (i+1)) x with|none=>rfl|some j=>simp;omega
def aeA(n:Nat)(m:af)(x:ByteArray)(aC:m.vars.length<n)(an:m.vars.length<1000000000):zO n [m.d,aQ x]=some (J (fF (dO m.vars x))):=by
 have ag:=c8 (f:=Hr n) m.vars (λi (_:Unit)=>[aQ x,J (i:Int),bd m.vars,aM m.aw,ar m.bA,ar m.bE,aM m.next,ar m.trans,ar m.bz,bL m.bp]) (λr _=>match dO r x with|some j=>(Sum.inr (J ((m.vars.length-r.length+j:Nat):Int)):List D⊕D)|none=> .inl []) (λ_ _=>True) (λ_ _=>by simp[Hr,eg,dO]) ?_ n 0 () trivial (by omega) (xai _);.have bO:(J ((0:Nat):Int))=J 0:=rfl;rw[bO]at ag;simp only[zO,aab,go_sem,af.agg,af.aL,af.bh,af.bo,af.bC,af.b5,af.ct,af.cu,af.cy,ag,xap];cases dO m.vars x<;>simp[fF]
 intro i a _ aH ag _;have e:m.vars.length-(a::m.vars.drop (i+1)).length=i:=by simp;omega
 have c1:m.vars.length-(m.vars.drop (i+1)).length=i+1:=by simp;omega
 have nq:dO (a::m.vars.drop (i+1)) x=if a.name=x then some 0 else(dO (m.vars.drop (i+1)) x).map (·+1):=by simp[dO,xbT]
 have a0:a.cells[0]?=some (aQ a.name):=rfl;by_cases ae:a.name=x;.right;rw[nq,xaa ae,e];simp[Hr,eg,ag,fM aH,a0,ae]
 left;refine⟨(),by simp[Hr,eg,ag,fM aH,a0,ae,cc (bt:=false) (i:=i) (by omega)],?_,trivial⟩;rw[nq,xab ae,e,c1];cases dO (m.vars.drop (i+1)) x with|none=>rfl|some j=>simp;omega
def awu(n:Nat)(m:af){B:Nat}(an:hQ B m.aw)(i:Nat)(k:Int)(fx:List ByteArray)(S:List Nat)(cb:iD m.aw.length S)(ep:fx.length<=B)(aC:2*B+100<n):bI (zS n) n [J k,j5 true fx,J 0,bd m.vars,aM m.aw,ar m.bA,ar m.bE,aM m.next,ar m.trans,ar m.bz,bL m.bp,ka m.aw.length S,c2 (i::S)]=some (.inl [J k,bd m.vars,aM m.aw,ar m.bA,ar m.bE,aM m.next,ar m.trans,ar m.bz,bL m.bp,ka m.aw.length (h3 S (fx.filterMap (db m.aw))),c2 (i::h3 S (fx.filterMap (db m.aw)))]):=by
 have bH:=an.len;have ak:=an.b;have ag:=c8 (f:=zS n) fx (λj (s:List Nat)=>[J k,j5 true fx,J (j:Int),bd m.vars,aM m.aw,ar m.bA,ar m.bE,aM m.next,ar m.trans,ar m.bz,bL m.bp,ka m.aw.length s,c2 (i::s)]) (λr s=>(.inl [J k,bd m.vars,aM m.aw,ar m.bA,ar m.bE,aM m.next,ar m.trans,ar m.bz,bL m.bp,ka m.aw.length (h3 s (r.filterMap (db m.aw))),c2 (i::h3 s (r.filterMap (db m.aw)))]:List D⊕(List D⊕(List D⊕(List D⊕D))))) (λj s=>iD m.aw.length s) (λs _=>by simp only[zS,go_sem,nG,yF ((fx.length:Int)<fx.length),oV,sd];rfl) ?_ n 0 S cb (by omega) (xai _)
 .exact ag
 rintro j x s ae aG ab;have e8:=aez n m x (by omega) (by omega);have hF:=ab.len;have e7:=AN (nl:=true) ae;have cn:=yT ((j:Int)<(fx.length:Int));left;cases az:db m.aw x with
 |none=>rw[az]at e8;refine⟨s,?_,by simp[az],ab⟩;have gq:decide (fF none>=0)=false:=rfl;simp only[zS,go_sem,nG,cn,e7,D4,af.eta,e8,gq,aeu,aev,oV,sd,cc (bt:=false) (i:=j) (by omega)]
 |some y=>
  have aP:=aew az;rw[az]at e8;have gq:decide ((y:Int)>=0)=true:=xal (by omega);have dN:cV m.aw.length (J (y:Int))=some y:=by rw[kn,xaa aP]
  have Ji:fF (some y)=(y:Int):=rfl;by_cases nA:y∈s;.refine⟨s,?_,by simp[az,Je,nA],ab⟩;simp only[zS,go_sem,nG,cn,e7,D4,af.eta,e8,Ji,gq,Jg,dN,Jh aP,A5,xal nA,N3,N4,oV,sd,cc (bt:=false) (i:=j) (by omega)]
  have ax:=ab.snoc aP nA;refine⟨s++[y],?_,by simp only[xbP,az,Je,xab nA],ax⟩;have aN:i::(s++[y])=(i::s)++[y]:=rfl;have dw:cJ ((i::s).length+1) 8=true:=eW (by simp;omega) (by simp;omega);rw[aN];simp only[zS,go_sem,nG,cn,e7,D4,af.eta,e8,Ji,gq,Jg,dN,Jh aP,A5,xan nA,N3,N4,Jf,xak,xar,xaE,aet aP,aer,oV,sd,cc (bt:=false) (i:=j) (by omega)]at dw⊢;simp only[dw,qi,dx,qj,ps,rn,cc (bt:=false) (i:=j) (by omega),oV,sd]
def aeB(n:Nat)(kb:af){B:Nat}(an:hQ B kb.aw)(i:Nat)(bX:i<kb.aw.length)(aC:4*B+200<n):∀(m k:Nat)(S:List Nat),qF (to kb.aw) kb.aw.length i k S->kb.aw.length+1-k<m->bI (Ms n) m [J (k:Int),bd kb.vars,aM kb.aw,ar kb.bA,ar kb.bE,aM kb.next,ar kb.trans,ar kb.bz,bL kb.bp,ka kb.aw.length S,c2 (i::S)]=some (.inl [ka kb.aw.length (vM (to kb.aw) i m k S)])
 |0,_,_,_,h=>absurd h (xaF _)
 |m+1,k,S,h,hm=>by
  have bH:=an.len;have ak:=an.b;rw[kK,vM];have awo:=h.inv.len;have hle:=h.le;cases ae:(i::S)[k]? with
  |none=>
   have ah:S.length+1<=k:=by have:=List.getElem?_eq_none_iff.1 ae;simpa using this
   have aV:decide ((k:Int)<(((i::S).length:Nat):Int))=false:=xan (by simp;omega);simp only[Ms,go_sem,Jf,aV,oV]
  |some x=>
   have ah:k<S.length+1:=by have:=(xae.1 ae).1;simpa using this
   have o7:x<kb.aw.length:=by cases k with|zero=>simp at ae;omega|succ k=>exact h.inv.2 x (xac (by simpa using ae))
   obtain⟨d,az⟩:∃d,kb.aw[x]?=some d:=⟨kb.aw[x],xad o7⟩;have hs:=an.e d (xac az);have lT:=h.next (λi k ah=>lb i k ah) ae
   have ih:=aeB n kb an i bX aC m (k+1) _ lT (by omega);have cd:=Tx n d.e (by omega) hs.1 (by omega);have vN:=Dx d.e;have fo:=awu n kb an i k (fE 3 d.e []) S h.inv (by omega) (by omega);have kH:(fE 3 d.e []).filterMap (db kb.aw)=to kb.aw x:=by rw[Dy az];rfl
   rw[kH]at fo;have n7:decide ((k:Int)<(((i::S).length:Nat):Int))=true:=xal (by simp;omega);have dN:cV (i::S).length (J (k:Int))=some k:=by rw[kn,xaa (by simpa using ah)]
   have rl:((k:Int)+1)=((k+1:Nat):Int):=by omega
   simp only[Ms,go_sem,Jf,n7,dN,aes ae,D3,e2 az,bl.hB,cd,oV,sd,fo,cc (bt:=false) (i:=k) (by omega),ih]
def awv(n:Nat)(m:af){B:Nat}(an:hQ B m.aw)(i:Nat)(ag:i<m.aw.length)(aC:4*B+200<n):∃S,Hw n [m.d,J (i:Int)]=some (ka m.aw.length S)/\(i∈S↔jb m.aw i=true):=by
 have bH:=an.len;have ak:=an.b;have ax:=aeB n m an i ag aC n 0 [] (qF.start _ _ _) (by omega);have D5:=UA (λi k ah=>lb i k ah) n 0 [] (qF.start (to m.aw) m.aw.length i) (by omega);rw[<-TC m.aw i]at D5;generalize vM (to m.aw) i n 0 []=S at*;refine⟨S,?_,D5⟩;have AS:om 1 (J (m.aw.length:Int)) (J (m.aw.length:Int))=some m.aw.length:=by simp[om,J];omega
 have aN:D.aA 1 (List.replicate m.aw.length [ay false])=ka m.aw.length []:=by rw[aeq];rfl
 have aV:D.aA 1 [[J (i:Int)]]=c2 (i::[]):=rfl;have bO:(J ((0:Nat):Int))=J 0:=rfl;rw[bO]at ax;simp only[Hw,aag,go_sem,af.agg,af.aL,af.bh,af.bo,af.bC,af.b5,af.ct,af.cu,af.cy,dT,AS,aN,aV,ax,oV]
def cD(e:Nat->Int):Nat->Nat->Int×Int
 |0,_=>(0,0)|m+1,i=>if e i=0 then cD e m (i+1)else((i:Int),e i)
def Jj(e:Nat->Int):∀(m i:Nat),(cD e m i).2=0↔∀j,i<=j->j<i+m->e j=0
 |0,i=>by simp[cD];intro j ab ad;omega
 |m+1,i=>by
  rw[cD];by_cases h:e i=0
  .rw[xaa h,Jj e m (i+1)];constructor
   .intro ab j ad ax;by_cases aG:j=i;.subst aG;exact h
    exact ab j (by omega) (by omega)
   intro ab j ad ax;exact ab j (by omega) (by omega)
  rw[xab h];exact⟨λab=>absurd ab h,λab=>absurd (ab i (xaQ _) (by omega)) h⟩
def se(e:Nat->Int)(m i:Nat)(h:(cD e m i).2=0):cD e m i=(0,0):=by
 induction m generalizing i with
 |zero=>rfl
 |succ m ih=>
  rw[cD]at h⊢;by_cases aq:e i=0;.rw[xaa aq]at h⊢;exact ih (i+1) h
  rw[xab aq]at h;exact absurd h aq
def mR{ei:Type}{f:List D->Option (List D⊕(List D⊕ei))}(eF:Nat->List D)(e:Nat->Int)(N:Nat)(L:List D)(W:Int×Int->ei) (av:∀i,i<N->f (eF i)=some (if e i=0 then .inl (eF (i+1))else .inr (.inr (W ((i:Int),e i))))) (he:f (eF N)=some (.inr (.inl L))): ∀(m i n:Nat),i+m=N->m<n->bI f n (eF i)=some (if(cD e m i).2=0 then .inl L else .inr (W (cD e m i)))
 |0,i,n,h,aC=>by
  obtain⟨k,rfl⟩:∃k,n=k+1:=⟨n-1,by omega⟩;have:i=N:=by omega
  subst this;rw[kK,he];rfl
 |m+1,i,n,h,aC=>by
  obtain⟨k,rfl⟩:∃k,n=k+1:=⟨n-1,by omega⟩;rw[kK,av i (by omega),cD];by_cases aq:e i=0;.rw[xaa aq,xaa aq];exact mR eF e N L W av he m (i+1) k (by omega) (by omega)
  rw[xab aq,xab aq];simp only[dx,xab aq]
structure N5(m:af)(n:Nat):Prop where
 bD:D2 m
 jc:302000000<n
 kc:lg m.vars
 aeC:∀v∈m.vars,v.name.size+24<n
 aeD:∀d∈m.aw,d.name.size+24<n/\d.name.size<=9223372036854775807
 bA:m.bA.length<=100/\∀t∈m.bA,t.cz/\t.bD<=12300
 bE:m.bE.length<=100/\∀t∈m.bE,t.cz/\t.bD<=12300
 next:m.next.length<=100/\∀d∈m.next,d.e.cz/\d.e.bD<=12300
 trans:m.trans.length<=100/\∀t∈m.trans,t.cz/\t.bD<=12300
 bz:m.bz.length<=100/\∀t∈m.bz,t.cz/\t.bD<=12300
 bp:m.bp.length<=100/\∀s∈m.bp,(s.f.cz/\s.f.bD<=12300)/\s.name.size+24<n/\s.name.size<=9223372036854775807
noncomputable section
mutual
def lN(m:af):Fm->Int
 | .mk o t b ks=>if o=1 then oU m false t else mS m ks
def mS(m:af):List Fm->Int
 |[]=>0|k::r=>if lN m k=0 then mS m r else lN m k
end
theorem UB(m:af)(f:Fm):lN m f=if f.op=1 then oU m false f.e else mS m f.aW:=by cases f;rw[lN];rfl
def lO(m:af)(i:Nat):Int:=match m.aw[i]? with
 |some d=>if isName d.name=true then(if((dO m.vars d.name).isSome||(db (m.aw.take i) d.name).isSome)=true then 6 else 0)else 12
 |none=>0
def mj(m:af)(i:Nat):Int:=if jb m.aw i=true then 14 else 0
def lP(m:af)(i:Nat):Int:=match m.aw[i]? with|some d=>(gH m false d.e).2|none=>0
def eG(m:af)(l:List Tm)(nx:Bool)(i:Nat):Int:=match l[i]? with|some t=>oU m nx t|none=>0
def js(m:af)(i:Nat):Int:=match m.next[i]? with
 |some d=>match dO m.vars d.name with|none=>12|some k=>if(db (m.next.take i) d.name).isSome=true then 6 else if((gH m false d.e).2==0&&((gH m false d.e).1.b !=(m.vars[k]?.map V.bool).getD false))=true then 13 else(gH m false d.e).2
 |none=>0
def jt(m:af)(i:Nat):Int:=match m.bp[i]? with
 |some s=>if isName s.name=true then(if(nM (m.bp.take i) s.name).isSome=true then 6 else if ld s.f=0 then lN m s.f else ld s.f)else 12
 |none=>0
end
def aeE{l:List bl}{i:Nat}(h:i<=l.length):mA 5 (aM l) none (some (J (i:Int)))=some (aM (l.take i)):=by rw[aM,Un (by simpa using h)];simp[aM,List.map_take]
def aww{l:List cL}{i:Nat}(h:i<=l.length):mA 7 (bL l) none (some (J (i:Int)))=some (bL (l.take i)):=by rw[bL,Un (by simpa using h)];simp[bL,List.map_take]
def aeF{m:af}(hm:D2 m):∀(n:Nat)(f:Fm),301000000+f.bD<n->f.cz->f.bD<=12300->tj n [m.d,f.d]=some (J (lN m f))
 |0,_,h,_,_=>absurd h (xaF _)
 |n+1,f,aC,bq,av=>by
  have TV:=f.Ci;have jD:=f.kO;rw[UB];have bb:=aeo hm n (by omega) bq.e (by omega) false;have bH:bF (cF 6 f.nl (Fm.rows f.aW))=some (J f.aW.length):=by simp
  have an:=c8 (f:=GP (tj n) n) f.aW (λi (_:Unit)=>[cF 6 f.nl (Fm.rows f.aW),J f.aW.length,J (i:Int),bd m.vars,aM m.aw,ar m.bA,ar m.bE,aM m.next,ar m.trans,ar m.bz,bL m.bp]) (λr _=>if mS m r=0 then(.inl []:List D⊕D)else .inr (J (mS m r))) (λ_ _=>True) ?_ ?_ n 0 () trivial (by have:=f.kO;omega) (xai _)
  .have bO:(J ((0:Nat):Int))=J 0:=rfl;rw[bO,xap]at an;show GQ (tj n) n m.d f.d=_;by_cases ab:f.op=1
   .have dQ:(f.op==1)=true:=by simp[ab]
    simp only[GQ,go_sem,af.agg,dQ,xaa ab,af.aL,af.bh,af.bo,af.bC,af.b5,af.ct,af.cu,af.cy,af.eta,bb]
   have dQ:(f.op==1)=false:=by simpa using ab
   simp only[GQ,go_sem,af.agg,dQ,xab ab,af.aL,af.bh,af.bo,af.bC,af.b5,af.ct,af.cu,af.cy,af.eta,bH,an];by_cases aq:mS m f.aW=0;.rw[xaa aq,aq,qj]
   rw[xab aq,FL]
  .intro _ _;simp only[GP,go_sem,yF ((f.aW.length:Int)<f.aW.length),mS]
  intro i a _ aH ag _;have fJ:=xac aH;have bm:=Fm.iZ fJ;have au:=aeF hm n a (by omega) (bq.eY fJ) (by omega);have cn:=yT ((i:Int)<(f.aW.length:Int));by_cases aq:lN m a=0
  .left;rw[aq]at au;refine⟨(),?_,by simp only[mS,aq,xaz],trivial⟩;have bm:((0:Int) !=0)=false:=rfl;simp only[GP,go_sem,cn,Fm.gW aH,af.eta,au,bm,cc (bt:=false) (i:=i) (by omega)]
  right;have bm:(lN m a !=0)=true:=by simpa using aq
  simp only[GP,go_sem,cn,Fm.gW aH,af.eta,au,bm,mS,xab aq]
def aeG{m:af}(hm:D2 m):∀(n:Nat)(f:Fm),301000000+f.bD<n->f.cz->f.bD<=12300->tw n [m.d,f.d]=some (J (lN m f))
 |0,_,h,_,_=>absurd h (xaF _)
 |n+1,f,aC,bq,av=>by
  have TV:=f.Ci;have jD:=f.kO;rw[UB];have bb:=aep hm n (by omega) bq.e (by omega) false;have bH:bF (cF 6 f.nl (Fm.rows f.aW))=some (J f.aW.length):=by simp
  have an:=c8 (f:=HT (tw n) n) f.aW (λi (_:Unit)=>[J (i:Int),bd m.vars,aM m.aw,ar m.bA,ar m.bE,aM m.next,ar m.trans,ar m.bz,bL m.bp,J f.op,J f.e.op,J f.e.num,aQ f.e.name,cF 4 f.e.nl (Tm.rows f.e.aW),cF 6 f.nl (Fm.rows f.aW)]) (λr _=>if mS m r=0 then(.inl []:List D⊕D)else .inr (J (mS m r))) (λ_ _=>True) ?_ ?_ n 0 () trivial (by have:=f.kO;omega) (xai _)
  .have bO:(J ((0:Nat):Int))=J 0:=rfl;rw[bO,xap]at an;show HU (tw n) n m.d f.d=_;by_cases ab:f.op=1
   .have dQ:(f.op==1)=true:=by simp[ab]
    simp only[HU,go_sem,af.agg,dQ,xaa ab,af.aL,af.bh,af.bo,af.bC,af.b5,af.ct,af.cu,af.cy,af.eta,bb]
   have dQ:(f.op==1)=false:=by simpa using ab
   simp only[HU,go_sem,af.agg,dQ,xab ab,af.aL,af.bh,af.bo,af.bC,af.b5,af.ct,af.cu,af.cy,af.eta,bH,an];by_cases aq:mS m f.aW=0;.rw[xaa aq,aq,qj]
   rw[xab aq,FL]
  .intro _ _;simp only[HT,go_sem,bH,yF ((f.aW.length:Int)<f.aW.length),mS]
  intro i a _ aH ag _;have fJ:=xac aH;have bm:=Fm.iZ fJ;have au:=aeG hm n a (by omega) (bq.eY fJ) (by omega);have cn:=yT ((i:Int)<(f.aW.length:Int));by_cases aq:lN m a=0
  .left;rw[aq]at au;refine⟨(),?_,by simp only[mS,aq,xaz],trivial⟩;have bm:((0:Int) !=0)=false:=rfl;simp only[HT,go_sem,bH,cn,Fm.gW aH,af.eta,au,bm,cc (bt:=false) (i:=i) (by omega)]
  right;have bm:(lN m a !=0)=true:=by simpa using aq
  simp only[HT,go_sem,bH,cn,Fm.gW aH,af.eta,au,bm,mS,xab aq]
section
variable{m:af}{n:Nat}(hm:N5 m n)
include hm
theorem awx(i:Nat)(ag:i<m.aw.length):vb n [aM m.aw,m.d,J (i:Int)]=some (J (lO m i)):=by have ak:=hm.jc;have Bs:=hm.bD.dl;have j9:=hm.bD.hH;obtain⟨d,az⟩:∃d,m.aw[i]?=some d:=⟨m.aw[i],xad ag⟩;have UC:=hm.aeD d (xac az);have cd:=Ul n d.name (by omega) UC.2;have hp:=av1 n m.vars d.name (by omega) (by omega);have cK:=av4 n (m.aw.take i) d.name (by simp;omega) (by simp;omega);have av:=aeE (l:=m.aw) (i:=i) (by omega);simp only[lO,az];cases ab:isName d.name with|false=>simp only[vb,G9,go_sem,af.agg,e2 az,bl.gn,cd,ab]|true=>cases ad:(dO m.vars d.name).isSome with|true=>simp only[vb,G9,go_sem,af.agg,af.aL,e2 az,bl.gn,cd,ab,hp,ad]|false=>cases ax:(db (m.aw.take i) d.name).isSome with|true=>simp only[vb,G9,go_sem,af.agg,af.aL,e2 az,bl.gn,cd,ab,hp,ad,av,cK,ax,Bool.or_false,xbx]|false=>simp only[vb,G9,go_sem,af.agg,af.aL,e2 az,bl.gn,cd,ab,hp,ad,av,cK,ax,Bool.or_false,xbx]
theorem awy(i:Nat)(ag:i<m.aw.length):CE n [aM m.aw,m.d,J (i:Int)]=some (J (lP m i)):=by have ak:=hm.jc;obtain⟨d,az⟩:∃d,m.aw[i]?=some d:=⟨m.aw[i],xad ag⟩;have hs:=hm.bD.d.e d (xac az);have bb:=Uy hm.bD n (by omega) hs.1 hs.2 false;simp only[lP,az];simp only[CE,ZV,go_sem,af.agg,af.aL,af.bh,af.bo,af.bC,af.b5,af.ct,af.cu,af.cy,af.eta,e2 az,bl.hB,bb,pQ]
theorem awz(l:List Tm)(an:∀t∈l,t.cz/\t.bD<=12300)(k:Int)(nx:Bool)(i:Nat)(ag:i<l.length):CD n [.agg [J k,ar l,ay nx],m.d,J (i:Int)]=some (J (eG m l nx i)):=by have ak:=hm.jc;obtain⟨t,aF⟩:∃t,l[i]?=some t:=⟨l[i],xad ag⟩;have Jk:=an t (xac aF);have bb:=aeo hm.bD n (by omega) Jk.1 Jk.2 nx;have aH:aX 3 (.agg [J k,ar l,ay nx])=true:=rfl;have bh:aa (.agg [J k,ar l,ay nx]) 1=ar l:=rfl;have bo:aa (.agg [J k,ar l,ay nx]) 2=ay nx:=rfl;simp only[eG,aF];simp only[CD,ZU,go_sem,aH,bh,bo,af.agg,af.aL,af.bh,af.bo,af.bC,af.b5,af.ct,af.cu,af.cy,af.eta,xN aF,bb]
theorem awA(i:Nat)(ag:i<m.next.length):xc n [aM m.next,m.d,J (i:Int)]=some (J (js m i)):=by
 have ak:=hm.jc;have oD:=hm.next.1
 have j9:=hm.bD.hH;obtain⟨d,az⟩:∃d,m.next[i]?=some d:=⟨m.next[i],xad ag⟩
 have hs:=hm.next.2 d (xac az)
 have bb:=Uy hm.bD n (by omega) hs.1 hs.2 false;have hp:=av6 n m.vars d.name (by omega) (by omega);have cK:=av9 n (m.next.take i) d.name (by simp;omega) (by simp;omega);have av:=aeE (l:=m.next) (i:=i) (by omega);simp only[js,az];cases ab:dO m.vars d.name with
 |none=>have aq:decide (fF none<0)=true:=rfl;simp only[xc,L0,go_sem,af.agg,af.aL,e2 az,bl.gn,hp,ab,aq]
 |some k=>
  have aq:decide (fF (some k)<0)=false:=by rw[aea];rfl
  have jD:k<m.vars.length:=by have:=xbn.1 ab;exact this.1
  obtain⟨v,aK⟩:∃v,m.vars[k]?=some v:=⟨m.vars[k],xad jD⟩;have k1:bk 4 (bd m.vars) (J (fF (some k)))=some v.cells:=fM aK;have yZ:a7 false 1 1 v.cells=some (ay v.bool):=rfl;simp only[aK,xaK,xbm];cases ax:(db (m.next.take i) d.name).isSome with
  |true=>simp only[xc,L0,go_sem,af.agg,af.aL,e2 az,bl.gn,hp,ab,aq,av,cK,ax]
  |false=>
   generalize gH m false d.e=y at*;have cf:aj true .neq (ay y.1.b) (ay v.bool)=some (ay (y.1.b !=v.bool)):=rfl;simp only[xc,L0,go_sem,af.agg,af.aL,af.bh,af.bo,af.bC,af.b5,af.ct,af.cu,af.cy,af.eta,e2 az,bl.gn,bl.hB,hp,ab,aq,av,cK,ax,bb,pQ,tO,k1,yZ,cf];by_cases ai:(y.2==0&&(y.1.b !=v.bool))=true
   .rw[xaa ai,xaa ai]
   rw[xab ai,xab ai]
theorem awB(i:Nat)(ag:i<m.bp.length):u7 n [bL m.bp,m.d,J (i:Int)]=some (J (jt m i)):=by
 have ak:=hm.jc;have hF:=hm.bp.1;obtain⟨s,av⟩:∃s,m.bp[i]?=some s:=⟨m.bp[i],xad ag⟩;obtain⟨⟨ba,Cf⟩,awC,UD⟩:=hm.bp.2 s (xac av);have cd:=Ul n s.name (by omega) UD;have cK:=awe n (m.bp.take i) s.name (by simp;omega) (by simp;omega);have kS:=aww (l:=m.bp) (i:=i) (by omega);have cg:=TY n s.f (by omega) ba (by omega);have hN:=aeF hm.bD n s.f (by omega) ba Cf;simp only[jt,av];cases ab:isName s.name with
 |false=>simp only[u7,GR,go_sem,af.agg,mi av,cL.gn,cd,ab]
 |true=>
  cases ax:(nM (m.bp.take i) s.name).isSome with
  |true=>simp only[u7,GR,go_sem,af.agg,mi av,cL.gn,cd,ab,kS,cK,ax]
  |false=>
   by_cases a8:ld s.f=0
   .have mF:(ld s.f !=0)=false:=by simp[a8]
    simp only[u7,GR,go_sem,af.agg,af.aL,af.bh,af.bo,af.bC,af.b5,af.ct,af.cu,af.cy,af.eta,mi av,cL.gn,cL.hB,cd,ab,kS,cK,ax,cg,mF,xaa a8,hN]
   have mF:(ld s.f !=0)=true:=by simpa using a8
   simp only[u7,GR,go_sem,af.agg,af.aL,af.bh,af.bo,af.bC,af.b5,af.ct,af.cu,af.cy,af.eta,mi av,cL.gn,cL.hB,cd,ab,kS,cK,ax,cg,mF,xab a8]
end
def ft(p:Int×Int):D:= .aO [J p.1,J p.2]
def vO(a b:Int×Int):Int×Int:=if a.2=0 then b else a
def findIdx_take{α:Type}{l:List α}{p:α->Bool}{i:Nat}{d:α}(az:l[i]?=some d)(aU:p d=true):decide (fF (l.findIdx? p)<(i:Int))=((l.take i).findIdx? p).isSome:=by
 obtain⟨ag,awD⟩:=xae.1 az;cases h:l.findIdx? p with
 |none=>have:=List.findIdx?_eq_none_iff.1 h d (xac az);rw[aU]at this;cases this
 |some k=>
  obtain⟨ah,awE,Bx⟩:=xbn.1 h;rw[List.findIdx?_isSome];have q4:k<=i:=by
   rcases xbC i k with ab|ab;.have:=Bx i ab;rw[awD]at this;exact absurd aU this
   exact ab
  by_cases he:k<i;.have ab:decide (fF (some k)<(i:Int))=true:=xal (by show(k:Int)<(i:Int);omega);rw[ab];symm;rw[xbu];refine⟨l[k],xaJ.2 ⟨k,?_⟩,awE⟩;rw[List.getElem?_take_of_lt he];exact xad ah
  have ab:decide (fF (some k)<(i:Int))=false:=xan (by show¬(k:Int)<(i:Int);omega);rw[ab];symm;rw[Bool.eq_false_iff,ne_eq,xbu];rintro⟨a,aH,awF⟩;obtain⟨j,aG⟩:=xaJ.1 aH;have cn:=(xae.1 aG).1;simp only[xbi]at cn;rw[List.getElem?_take_of_lt (by omega)]at aG;obtain⟨aBD,awG⟩:=xae.1 aG;have:=Bx j (by omega);rw[awG]at this;exact this awF
noncomputable def sf(m:af):Int×Int:=vO (cD (lO m) m.aw.length 0) (vO (cD (mj m) m.aw.length 0) (cD (lP m) m.aw.length 0))
section
variable{m:af}{n:Nat}(hm:N5 m n)
include hm
theorem awH:bI (z6 n) n [J 0,bd m.vars,aM m.aw,ar m.bA,ar m.bE,aM m.next,ar m.trans,ar m.bz,bL m.bp]=some (if(cD (lO m) m.aw.length 0).2=0 then .inl [bd m.vars,aM m.aw,ar m.bA,ar m.bE,aM m.next,ar m.trans,ar m.bz,bL m.bp]else .inr (ft (cD (lO m) m.aw.length 0))):=by
 have ak:=hm.jc;have Bs:=hm.bD.dl;have j9:=hm.bD.hH;refine mR (λi=>[J (i:Int),bd m.vars,aM m.aw,ar m.bA,ar m.bE,aM m.next,ar m.trans,ar m.bz,bL m.bp]) (lO m) m.aw.length _ ft ?_ ?_ _ 0 n (by omega) (by omega)
 .intro i ag;obtain⟨d,az⟩:∃d,m.aw[i]?=some d:=⟨m.aw[i],xad ag⟩;have UC:=hm.aeD d (xac az);have cd:=Um n d.name (by omega) UC.2;have hp:=aeA n m d.name (by omega) (by omega);have cK:=aez n m d.name (by omega) (by omega);have bX:=yT ((i:Int)<(m.aw.length:Int));have Jl:=findIdx_take (p:=λe:bl=>decide (e.name=d.name)) az (by simp);change decide (fF (db m.aw d.name)<(i:Int))=(db (m.aw.take i) d.name).isSome at Jl;simp only[lO,az];cases ab:isName d.name with
  |false=>simp only[z6,go_sem,dT,bX,e2 az,bl.gn,cd,ab,xab (show¬(12:Int)=0 by decide),ft]
  |true=>
   cases ad:(dO m.vars d.name).isSome with
   |true=>have gq:=DZ (dO m.vars d.name);rw[ad]at gq;simp only[z6,go_sem,dT,bX,e2 az,bl.gn,cd,ab,af.eta,hp,gq,uO,xab (show¬(true=false) by decide),uP,xab (show¬(6:Int)=0 by decide),ft]
   |false=>
    have gq:=DZ (dO m.vars d.name);rw[ad]at gq;cases ax:(db (m.aw.take i) d.name).isSome with
    |true=>rw[ax]at Jl;simp only[z6,go_sem,dT,bX,e2 az,bl.gn,cd,ab,af.eta,hp,gq,uO,cK,Jl,uP,xab (show¬(6:Int)=0 by decide),ft,Bool.or_true]
    |false=>rw[ax]at Jl;simp only[z6,go_sem,dT,bX,e2 az,bl.gn,cd,ab,af.eta,hp,gq,uO,cK,Jl,uP,Bool.or_false,cc (bt:=false) (i:=i) (by omega)]
 simp only[z6,go_sem,dT,yF ((m.aw.length:Int)<m.aw.length)]
theorem awI:bI (HN n) n [J 0,bd m.vars,aM m.aw,ar m.bA,ar m.bE,aM m.next,ar m.trans,ar m.bz,bL m.bp]=some (if(cD (mj m) m.aw.length 0).2=0 then .inl [bd m.vars,aM m.aw,ar m.bA,ar m.bE,aM m.next,ar m.trans,ar m.bz,bL m.bp]else .inr (ft (cD (mj m) m.aw.length 0))):=by
 have ak:=hm.jc;have Bs:=hm.bD.dl;refine mR (λi=>[J (i:Int),bd m.vars,aM m.aw,ar m.bA,ar m.bE,aM m.next,ar m.trans,ar m.bz,bL m.bp]) (mj m) m.aw.length _ ft ?_ ?_ _ 0 n (by omega) (by omega)
 .intro i ag;obtain⟨S,cb,aeH⟩:=awv n m hm.bD.d i ag (by omega);have bX:=yT ((i:Int)<(m.aw.length:Int));have ae:bk 1 (ka m.aw.length S) (J (i:Int))=some [ay (decide (i∈S))]:=by
   rw[ka,YR,Jd ag]
  cases ab:jb m.aw i with
  |true=>have ad:=xal (aeH.2 ab);simp only[HN,go_sem,dT,bX,af.eta,cb,ae,A5,ad,mj,ab,xab (show¬(14:Int)=0 by decide),ft]
  |false=>have ad:=xan (show¬i∈S fromλh=>by rw[aeH.1 h]at ab;cases ab);simp only[HN,go_sem,dT,bX,af.eta,cb,ae,A5,ad,mj,ab,cc (bt:=false) (i:=i) (by omega)]
 simp only[HN,go_sem,dT,yF ((m.aw.length:Int)<m.aw.length)]
theorem awJ:bI (HO n) n [J 0,bd m.vars,aM m.aw,ar m.bA,ar m.bE,aM m.next,ar m.trans,ar m.bz,bL m.bp]=some (if(cD (lP m) m.aw.length 0).2=0 then .inl []else .inr (ft (cD (lP m) m.aw.length 0))):=by
 have ak:=hm.jc;have Bs:=hm.bD.dl;refine mR (λi=>[J (i:Int),bd m.vars,aM m.aw,ar m.bA,ar m.bE,aM m.next,ar m.trans,ar m.bz,bL m.bp]) (lP m) m.aw.length _ ft ?_ ?_ _ 0 n (by omega) (by omega)
 .intro i ag;obtain⟨d,az⟩:∃d,m.aw[i]?=some d:=⟨m.aw[i],xad ag⟩;have hs:=hm.bD.d.e d (xac az);have bb:=Uz hm.bD n (by omega) hs.1 hs.2 false;have bX:=yT ((i:Int)<(m.aw.length:Int));simp only[lP,az];by_cases ab:(gH m false d.e).2=0
  .have dQ:((gH m false d.e).2 !=0)=false:=by simp[ab]
   simp only[HO,go_sem,dT,bX,af.eta,e2 az,bl.hB,bb,pQ,dQ,xaa ab,cc (bt:=false) (i:=i) (by omega)]
  have dQ:((gH m false d.e).2 !=0)=true:=by simpa using ab
  simp only[HO,go_sem,dT,bX,af.eta,e2 az,bl.hB,bb,pQ,dQ,xab ab,ft]
 simp only[HO,go_sem,dT,yF ((m.aw.length:Int)<m.aw.length)]
theorem awK:xl n [m.d]=some (ft (sf m)):=by
 have ad:=awH hm;have jW:=awI hm;have qD:=awJ hm;have bm:∀e k,(cD e k 0).2=0->cD e k 0=(0,0):=λe k=>se e k 0;unfold sf vO;by_cases bh:(cD (lO m) m.aw.length 0).2=0
 case neg=>rw[xab bh]at ad⊢;simp only[xl,HP,go_sem,af.agg,af.aL,af.bh,af.bo,af.bC,af.b5,af.ct,af.cu,af.cy,ad]
 rw[xaa bh]at ad⊢;by_cases bo:(cD (mj m) m.aw.length 0).2=0
 case neg=>rw[xab bo]at jW⊢;simp only[xl,HP,go_sem,af.agg,af.aL,af.bh,af.bo,af.bC,af.b5,af.ct,af.cu,af.cy,ad,jW]
 rw[xaa bo]at jW⊢;by_cases bC:(cD (lP m) m.aw.length 0).2=0;.rw[xaa bC]at qD;rw[bm _ _ bC];simp only[xl,HP,go_sem,af.agg,af.aL,af.bh,af.bo,af.bC,af.b5,af.ct,af.cu,af.cy,ad,jW,qD,ft]
 rw[xab bC]at qD;simp only[xl,HP,go_sem,af.agg,af.aL,af.bh,af.bo,af.bC,af.b5,af.ct,af.cu,af.cy,ad,jW,qD]
theorem N6(l:List Tm)(an:l.length<=100/\∀t∈l,t.cz/\t.bD<=12300)(nx:Bool):vm n [m.d,ar l,ay nx]=some (ft (cD (eG m l nx) l.length 0)):=by
 have ak:=hm.jc;have ag:=mR (f:=HQ n) (λi=>[ar l,ay nx,J (i:Int),bd m.vars,aM m.aw,ar m.bA,ar m.bE,aM m.next,ar m.trans,ar m.bz,bL m.bp]) (eG m l nx) l.length [] ft ?_ ?_ l.length 0 n (by omega) (by omega)
 .have bO:(J ((0:Nat):Int))=J 0:=rfl;rw[bO]at ag;by_cases c:(cD (eG m l nx) l.length 0).2=0;.rw[xaa c]at ag;rw[se _ _ _ c];simp only[vm,Sw,go_sem,af.agg,af.aL,af.bh,af.bo,af.bC,af.b5,af.ct,af.cu,af.cy,ag,ft]
  rw[xab c]at ag;simp only[vm,Sw,go_sem,af.agg,af.aL,af.bh,af.bo,af.bC,af.b5,af.ct,af.cu,af.cy,ag]
 .intro i ag;obtain⟨t,aF⟩:∃t,l[i]?=some t:=⟨l[i],xad ag⟩;have Jk:=an.2 t (xac aF);have bb:=aep hm.bD n (by omega) Jk.1 Jk.2 nx;have bX:=yT ((i:Int)<(l.length:Int));simp only[eG,aF];by_cases ab:oU m nx t=0
  .have dQ:(oU m nx t !=0)=false:=by simp[ab]
   simp only[HQ,go_sem,iF,bX,af.eta,xN aF,bb,dQ,xaa ab,cc (bt:=false) (i:=i) (by have:=an.1;omega)]
  have dQ:(oU m nx t !=0)=true:=by simpa using ab
  simp only[HQ,go_sem,iF,bX,af.eta,xN aF,bb,dQ,xab ab,ft]
 simp only[HQ,go_sem,iF,yF ((l.length:Int)<l.length)]
theorem awL(i:Nat)(k:Int){d:bl}(az:m.next[i]?=some d):bI (CS n) n [J (i:Int),J k,J 0,bd m.vars,aM m.aw,ar m.bA,ar m.bE,aM m.next,ar m.trans,ar m.bz,bL m.bp]=some (if(db (m.next.take i) d.name).isSome=true then .inr (.inr (.inr (.inr (.aO [J (i:Int),J 6]))))else .inl [J (i:Int),J k,bd m.vars,aM m.aw,ar m.bA,ar m.bE,aM m.next,ar m.trans,ar m.bz,bL m.bp]):=by
 have ak:=hm.jc;have oD:=hm.next.1
 have bX:=(xae.1 az).1;have bZ:(m.next.take i).length=i:=by simp;omega
 have ag:=c8 (f:=CS n) (m.next.take i) (λj (_:Unit)=>[J (i:Int),J k,J (j:Int),bd m.vars,aM m.aw,ar m.bA,ar m.bE,aM m.next,ar m.trans,ar m.bz,bL m.bp]) (λr _=>(if(db r d.name).isSome=true then .inr (.inr (.inr (.inr (.aO [J (i:Int),J 6]))))else .inl [J (i:Int),J k,bd m.vars,aM m.aw,ar m.bA,ar m.bE,aM m.next,ar m.trans,ar m.bz,bL m.bp]:List D⊕(List D⊕(List D⊕(List D⊕D))))) (λ_ _=>True) (λ_ _=>by rw[bZ];simp only[CS,go_sem,yF ((i:Int)<i)];rfl) ?_ n 0 () trivial (by omega) (xai _);.exact ag
 intro j a _ aH aG _;rw[bZ]at aG;rw[List.getElem?_take_of_lt aG]at aH;have cn:=yT ((j:Int)<(i:Int));have ai:db (a::(m.next.take i).drop (j+1)) d.name=if decide (a.name=d.name)=true then some 0 else(db ((m.next.take i).drop (j+1)) d.name).map (·+1):=findIdx_cons _ a _
 rw[ai];by_cases h:a.name=d.name;.right;rw[xaa (xal h)];simp only[CS,go_sem,cn,e2 aH,e2 az,bl.gn,xal h,Option.isSome_some]
 left;refine⟨(),?_,?_,trivial⟩;.simp only[CS,go_sem,cn,e2 aH,e2 az,bl.gn,xan h,cc (bt:=false) (i:=j) (by omega)]
 have bs:¬(decide (a.name=d.name)=true):=by simpa using h
 rw[xab bs,Option.isSome_map]
theorem awM(i:Nat){d:cL}(az:m.bp[i]?=some d):bI (CW n) n [J (i:Int),J 0,bd m.vars,aM m.aw,ar m.bA,ar m.bE,aM m.next,ar m.trans,ar m.bz,bL m.bp]=some (if(nM (m.bp.take i) d.name).isSome=true then .inr (.inr (.inr (.inr (.aO [J (i:Int),J 6]))))else .inl [J (i:Int),bd m.vars,aM m.aw,ar m.bA,ar m.bE,aM m.next,ar m.trans,ar m.bz,bL m.bp]):=by
 have ak:=hm.jc;have oD:=hm.bp.1;have bX:=(xae.1 az).1;have bZ:(m.bp.take i).length=i:=by simp;omega
 have ag:=c8 (f:=CW n) (m.bp.take i) (λj (_:Unit)=>[J (i:Int),J (j:Int),bd m.vars,aM m.aw,ar m.bA,ar m.bE,aM m.next,ar m.trans,ar m.bz,bL m.bp]) (λr _=>(if(nM r d.name).isSome=true then .inr (.inr (.inr (.inr (.aO [J (i:Int),J 6]))))else .inl [J (i:Int),bd m.vars,aM m.aw,ar m.bA,ar m.bE,aM m.next,ar m.trans,ar m.bz,bL m.bp]:List D⊕(List D⊕(List D⊕(List D⊕D))))) (λ_ _=>True) (λ_ _=>by rw[bZ];simp only[CW,go_sem,yF ((i:Int)<i)];rfl) ?_ n 0 () trivial (by omega) (xai _);.exact ag
 intro j a _ aH aG _;rw[bZ]at aG;rw[List.getElem?_take_of_lt aG]at aH;have cn:=yT ((j:Int)<(i:Int));have ai:nM (a::(m.bp.take i).drop (j+1)) d.name=if decide (a.name=d.name)=true then some 0 else(nM ((m.bp.take i).drop (j+1)) d.name).map (·+1):=findIdx_cons _ a _
 rw[ai];by_cases h:a.name=d.name;.right;rw[xaa (xal h)];simp only[CW,go_sem,cn,mi aH,mi az,cL.gn,xal h,Option.isSome_some]
 left;refine⟨(),?_,?_,trivial⟩;.simp only[CW,go_sem,cn,mi aH,mi az,cL.gn,xan h,cc (bt:=false) (i:=j) (by omega)]
 have bs:¬(decide (a.name=d.name)=true):=by simpa using h
 rw[xab bs,Option.isSome_map]
theorem awN:CT n [m.d]=some (ft (cD (js m) m.next.length 0)):=by
 have ak:=hm.jc;have oD:=hm.next.1
 have j9:=hm.bD.hH;have ag:=mR (f:=xn n) (λi=>[J (i:Int),bd m.vars,aM m.aw,ar m.bA,ar m.bE,aM m.next,ar m.trans,ar m.bz,bL m.bp]) (js m) m.next.length [] ft ?_ ?_ m.next.length 0 n (by omega) (by omega)
 .have bO:(J ((0:Nat):Int))=J 0:=rfl;rw[bO]at ag;by_cases c:(cD (js m) m.next.length 0).2=0;.rw[xaa c]at ag;rw[se _ _ _ c];simp only[CT,Sy,go_sem,af.agg,af.aL,af.bh,af.bo,af.bC,af.b5,af.ct,af.cu,af.cy,ag,ft]
  rw[xab c]at ag;simp only[CT,Sy,go_sem,af.agg,af.aL,af.bh,af.bo,af.bC,af.b5,af.ct,af.cu,af.cy,ag]
 .intro i ag;obtain⟨d,az⟩:∃d,m.next[i]?=some d:=⟨m.next[i],xad ag⟩
  have hs:=hm.next.2 d (xac az)
  have bb:=Uz hm.bD n (by omega) hs.1 hs.2 false;have hp:=aeA n m d.name (by omega) (by omega);have bX:=yT ((i:Int)<(m.next.length:Int));simp only[js,az];cases ab:dO m.vars d.name with
  |none=>rw[ab]at hp;have aq:decide (fF none<0)=true:=rfl;simp only[xn,go_sem,dT,bX,af.eta,e2 az,bl.gn,hp,aq,xab (show¬(12:Int)=0 by decide),ft]
  |some k=>
   rw[ab]at hp;have gD:=awL hm i (fF (some k)) az;have aq:decide (fF (some k)<0)=false:=by rw[aea];rfl
   have jD:k<m.vars.length:=by have:=xbn.1 ab;exact this.1
   obtain⟨v,aK⟩:∃v,m.vars[k]?=some v:=⟨m.vars[k],xad jD⟩;have k1:bk 4 (bd m.vars) (J (fF (some k)))=some v.cells:=fM aK;have yZ:a7 false 1 1 v.cells=some (ay v.bool):=rfl;simp only[aK,xaK,xbm];cases ax:(db (m.next.take i) d.name).isSome with
   |true=>rw[ax,xaa rfl]at gD;simp only[xn,go_sem,dT,bX,af.eta,e2 az,bl.gn,hp,aq,gD,xab (show¬(6:Int)=0 by decide),ft]
   |false=>
    rw[ax,xab (by decide)]at gD;generalize gH m false d.e=y at*;have cf:aj true .neq (ay y.1.b) (ay v.bool)=some (ay (y.1.b !=v.bool)):=rfl;have lf:((13:Int) !=0)=true:=rfl;by_cases ai:(y.2==0&&(y.1.b !=v.bool))=true
    .simp only[xn,go_sem,dT,bX,af.eta,e2 az,bl.gn,bl.hB,hp,aq,gD,bb,pQ,tO,k1,yZ,cf,ai,lf,xab (show¬(13:Int)=0 by decide),ft]
    have dX:(y.2==0&&(y.1.b !=v.bool))=false:=by simpa using ai
    by_cases aP:y.2=0
    .have ud:(y.2 !=0)=false:=by simp[aP]
     simp only[xn,go_sem,dT,bX,af.eta,e2 az,bl.gn,bl.hB,hp,aq,gD,bb,pQ,tO,k1,yZ,cf,dX,ud,xaa aP,cc (bt:=false) (i:=i) (by omega)]
    have ud:(y.2 !=0)=true:=by simpa using aP
    simp only[xn,go_sem,dT,bX,af.eta,e2 az,bl.gn,bl.hB,hp,aq,gD,bb,pQ,tO,k1,yZ,cf,dX,ud,xab aP,ft]
 simp only[xn,go_sem,dT,yF ((m.next.length:Int)<m.next.length)]
theorem awO:CX n [m.d]=some (ft (cD (jt m) m.bp.length 0)):=by
 have ak:=hm.jc;have hF:=hm.bp.1;have ag:=mR (f:=xo n) (λi=>[J (i:Int),bd m.vars,aM m.aw,ar m.bA,ar m.bE,aM m.next,ar m.trans,ar m.bz,bL m.bp]) (jt m) m.bp.length [] ft ?_ ?_ m.bp.length 0 n (by omega) (by omega)
 .have bO:(J ((0:Nat):Int))=J 0:=rfl;rw[bO]at ag;by_cases c:(cD (jt m) m.bp.length 0).2=0;.rw[xaa c]at ag;rw[se _ _ _ c];simp only[CX,SB,go_sem,af.agg,af.aL,af.bh,af.bo,af.bC,af.b5,af.ct,af.cu,af.cy,ag,ft]
  rw[xab c]at ag;simp only[CX,SB,go_sem,af.agg,af.aL,af.bh,af.bo,af.bC,af.b5,af.ct,af.cu,af.cy,ag]
 .intro i ag;obtain⟨s,av⟩:∃s,m.bp[i]?=some s:=⟨m.bp[i],xad ag⟩;obtain⟨⟨ba,Cf⟩,awC,UD⟩:=hm.bp.2 s (xac av);have cd:=Um n s.name (by omega) UD;have fo:=awM hm i av;have cg:=TX n s.f (by omega) ba (by omega);have hN:=aeG hm.bD n s.f (by omega) ba Cf;have bX:=yT ((i:Int)<(m.bp.length:Int));simp only[jt,av];cases ab:isName s.name with
  |false=>simp only[xo,go_sem,il,bX,mi av,cL.gn,cd,ab,xab (show¬(12:Int)=0 by decide),ft]
  |true=>
   cases ax:(nM (m.bp.take i) s.name).isSome with
   |true=>rw[ax,xaa rfl]at fo;simp only[xo,go_sem,il,bX,mi av,cL.gn,cd,ab,fo,xab (show¬(6:Int)=0 by decide),ft]
   |false=>
    rw[ax,xab (by decide)]at fo;by_cases a8:ld s.f=0
    .have mF:(ld s.f==0)=true:=by simp[a8]
     by_cases b3:lN m s.f=0
     .have uL:(lN m s.f !=0)=false:=by simp[b3]
      simp only[xo,go_sem,il,bX,af.eta,mi av,cL.gn,cL.hB,cd,ab,fo,cg,mF,xaa a8,hN,uL,xaa b3,cc (bt:=false) (i:=i) (by omega)]
     have uL:(lN m s.f !=0)=true:=by simpa using b3
     simp only[xo,go_sem,il,bX,af.eta,mi av,cL.gn,cL.hB,cd,ab,fo,cg,mF,xaa a8,hN,uL,xab b3,ft]
    have mF:(ld s.f==0)=false:=by simpa using a8
    have awP:(ld s.f !=0)=true:=by simpa using a8
    simp only[xo,go_sem,il,bX,af.eta,mi av,cL.gn,cL.hB,cd,ab,fo,cg,mF,awP,xab a8,ft]
 simp only[xo,go_sem,il,yF ((m.bp.length:Int)<m.bp.length)]
end
def nf:List V->Nat
 |[]=>0|v::r=>bitsOf v.span+nf r
theorem V.N7(v:V):D.agg [aa v.d 0,aa v.d 1,aa v.d 2,aa v.d 3]=v.d:=rfl
def awQ(n:Nat)(m:af)(aK:lg m.vars)(an:m.vars.length<=100)(aC:200<n):Gc n [m.d]=some (J (nf m.vars:Nat)):=by
 have ag:=c8 (f:=LH n) m.vars (λi (s:Nat)=>[J (s:Int),bd m.vars,J m.vars.length,J (i:Int)]) (λr s=>(.inl [J ((s+nf r:Nat):Int)]:List D⊕D)) (λi s=>s<=62*i) ?_ ?_ n 0 0 (by simp) (by omega) (xai _);.have bO:(J ((0:Nat):Int))=J 0:=rfl;rw[bO,xap,xaE]at ag;simp only[Gc,ZA,go_sem,af.agg,af.aL,eg,ag]
 .intro s av;simp only[LH,go_sem,yF ((m.vars.length:Int)<m.vars.length),nf,xbo]
 intro i v s gy ag av;obtain⟨ab,ad,_⟩:=aK.2 v (xac gy);have fb:=Us n v ab ad;have ak:=avU n v.span (V.xR v).2 (by omega);have sE:=(DY (V.xR v).2).1;have bX:=yT ((i:Int)<(m.vars.length:Int));have e6:aj false .add (J (s:Int)) (J (bitsOf v.span:Nat))=some (J ((s+bitsOf v.span:Nat):Int)):=by rw[er (by omega) (by omega)];rfl
 left;refine⟨s+bitsOf v.span,?_,by rw[nf,xbg],by omega⟩;simp only[LH,go_sem,bX,fM gy,V.a4,V.g4,V.N7,fb,ak,e6,cc (bt:=false) (i:=i) (by omega)]
def awR(n:Nat)(m:af)(aK:lg m.vars)(an:m.vars.length<=100)(aC:200<n):Hq n [m.d]=some (J (nf m.vars:Nat)):=by
 have ag:=c8 (f:=Mp n) m.vars (λi (s:Nat)=>[J (s:Int),J (i:Int),bd m.vars,aM m.aw,ar m.bA,ar m.bE,aM m.next,ar m.trans,ar m.bz,bL m.bp]) (λr s=>(.inl [J ((s+nf r:Nat):Int)]:List D⊕D)) (λi s=>s<=62*i) ?_ ?_ n 0 0 (by simp) (by omega) (xai _);.have bO:(J ((0:Nat):Int))=J 0:=rfl;rw[bO,xap,xaE]at ag;simp only[Hq,aaa,go_sem,af.agg,af.aL,af.bh,af.bo,af.bC,af.b5,af.ct,af.cu,af.cy,ag]
 .intro s av;simp only[Mp,go_sem,eg,yF ((m.vars.length:Int)<m.vars.length),nf,xbo]
 intro i v s gy ag av;obtain⟨ab,ad,_⟩:=aK.2 v (xac gy);have fb:=A4 n v ab ad;have ak:=avV n v.span (by have:=(V.xR v).1;omega) (V.xR v).2 (by omega);have sE:=(DY (V.xR v).2).1;have bX:=yT ((i:Int)<(m.vars.length:Int));have e6:aj false .add (J (s:Int)) (J (bitsOf v.span:Nat))=some (J ((s+bitsOf v.span:Nat):Int)):=by rw[er (by omega) (by omega)];rfl
 left;refine⟨s+bitsOf v.span,?_,by rw[nf,xbg],by omega⟩;simp only[Mp,go_sem,eg,bX,fM gy,V.a4,fb,ak,e6,cc (bt:=false) (i:=i) (by omega)]
def iO:List V->Int->Int
 |[],a=>a|v::r,a=>iO r (if a<=1073741824 then a*max v.span 1 else a)
def N8:∀(l:List V)(a:Int),¬a<=1073741824->iO l a=a
 |[],a,_=>rfl|v::r,a,h=>by rw[iO,xab h,N8 r a h]
def kv(l:List V):Bool:=l.any λv=>v.span==0
def stM(l:List V):Int×Bool:=if kv l=true then(0,true)else if iO l 1>1073741824 then(0,false)else(iO l 1,true)
def awS{a:Int}:iW true [J a,J 1]=some (J (max a 1)):=by
 rw[FZ]
 congr 2
 split<;>omega
def UE{a k:Int}(ab:1<=a)(ad:a<=1073741824)(ax:0<=k)(a8:k<=1073741825):1<=a*max k 1/\a*max k 1<=1152921505680588800:=by
 have b3:1<=max k 1:=by omega
 have cI:max k 1<=1073741825:=by omega
 generalize max k 1=q at*;constructor;.have:=Int.mul_le_mul ab b3 (by omega) (by omega);simpa using this
 have:=Int.mul_le_mul ad cI (by omega) (by omega);exact this
def aeI(n:Nat)(m:af)(aK:lg m.vars)(an:m.vars.length<=100)(aC:200<n):vd n [m.d]=some (.aO [J (stM m.vars).1,ay (stM m.vars).2]):=by
 have ag:=c8 (f:=Ha n) m.vars (λi (s:Int×Bool)=>[J s.1,ay s.2,bd m.vars,J m.vars.length,J (i:Int)]) (λr s=>(.inl [J (iO r s.1),ay (s.2||kv r)]:List D⊕D)) (λi s=>1<=s.1/\s.1<=1152921505680588800) ?_ ?_ n 0 (1,false) (by simp) (by omega) (xai _)
 .have bO:(J ((0:Nat):Int))=J 0:=rfl;rw[bO,xap,xbx]at ag;unfold stM;cases ab:kv m.vars with
  |true=>rw[ab]at ag;simp only[vd,Me,go_sem,af.agg,af.aL,eg,ag]
  |false=>
   rw[ab]at ag;by_cases ad:iO m.vars 1>1073741824;.simp only[vd,Me,go_sem,af.agg,af.aL,eg,ag,xal ad,xaa ad]
   simp only[vd,Me,go_sem,af.agg,af.aL,eg,ag,xan ad,xab ad]
 .intro s av;simp only[Ha,go_sem,yF ((m.vars.length:Int)<m.vars.length),iO,kv,List.any_nil,Bool.or_false]
 intro i v s gy ag av;obtain⟨ab,ad,_⟩:=aK.2 v (xac gy);have fb:=Us n v ab ad;have hF:=V.xR v;have bX:=yT ((i:Int)<(m.vars.length:Int));have p4:∀r,kv (v::r)=(v.span==0||kv r):=λr=>rfl;left;by_cases ai:s.1<=1073741824
 .have ak:=UE av.1 ai hF.1 hF.2;refine⟨(s.1*max v.span 1,s.2||v.span==0),?_,by rw[iO,xaa ai,p4,Bool.or_assoc],ak⟩;simp only[Ha,go_sem,bX,fM gy,V.a4,V.g4,V.N7,fb,xal ai,awS,uQ (bt:=false) (a:=s.1) (b:=max v.span 1) (by omega) (by omega),cc (bt:=false) (i:=i) (by omega)]
 refine⟨(s.1,s.2||v.span==0),?_,by rw[iO,xab ai,p4,Bool.or_assoc],av⟩;simp only[Ha,go_sem,bX,fM gy,V.a4,V.g4,V.N7,fb,xan ai,cc (bt:=false) (i:=i) (by omega)]
def aeJ(n:Nat)(m:af)(aK:lg m.vars)(an:m.vars.length<=100)(aC:200<n):nF n [m.d]=some (.aO [J (stM m.vars).1,ay (stM m.vars).2]):=by
 have ax:=c8 (f:=vp n) m.vars (λi (_:Unit)=>[J 1,J (i:Int),bd m.vars,aM m.aw,ar m.bA,ar m.bE,aM m.next,ar m.trans,ar m.bz,bL m.bp]) (λr _=>(if kv r=true then .inr (.aO [J 0,ay true])else .inl [J 1,bd m.vars,aM m.aw,ar m.bA,ar m.bE,aM m.next,ar m.trans,ar m.bz,bL m.bp]:List D⊕D)) (λ_ _=>True) ?_ ?_ n 0 () trivial (by omega) (xai _)
 .have bO:(J ((0:Nat):Int))=J 0:=rfl;rw[bO,xap]at ax;unfold stM;by_cases ab:kv m.vars=true;.rw[xaa ab]at ax⊢;simp only[nF,Ae,go_sem,af.agg,af.aL,af.bh,af.bo,af.bC,af.b5,af.ct,af.cu,af.cy,ax]
  rw[xab ab]at ax⊢;have hL:∀v∈m.vars,v.span≠0:=by intro v aK bm;apply ab;unfold kv;rw[xbu];exact⟨v,aK,by simp[bm]⟩
  have gD:=c8 (f:=vq n) m.vars (λi (s:Int)=>[J s,J (i:Int),bd m.vars,aM m.aw,ar m.bA,ar m.bE,aM m.next,ar m.trans,ar m.bz,bL m.bp]) (λr s=>(if iO r s>1073741824 then .inr (.aO [J 0,ay false])else .inl [J (iO r s)]:List D⊕D)) (λi s=>1<=s/\s<=1073741824) ?_ ?_ n 0 1 (by simp) (by omega) (xai _)
  .rw[bO,xap]at gD;by_cases ad:iO m.vars 1>1073741824;.rw[xaa ad]at gD⊢;simp only[nF,Ae,go_sem,af.agg,af.aL,af.bh,af.bo,af.bC,af.b5,af.ct,af.cu,af.cy,ax,gD]
   rw[xab ad]at gD⊢;simp only[nF,Ae,go_sem,af.agg,af.aL,af.bh,af.bo,af.bC,af.b5,af.ct,af.cu,af.cy,ax,gD]
  .intro s av;have:¬s>1073741824:=by omega
   rw[iO,xab this];simp only[vq,go_sem,eg,yF ((m.vars.length:Int)<m.vars.length)]
  intro i v s gy ag av;have fJ:=xac gy;obtain⟨ab,ad,_⟩:=aK.2 v fJ;have fb:=A4 n v ab ad;have hF:=V.xR v;have aU:=hL v fJ;have sO:max v.span 1=v.span:=by omega
  have ak:=UE av.1 av.2 hF.1 hF.2;rw[sO]at ak;have bX:=yT ((i:Int)<(m.vars.length:Int));by_cases ai:s*v.span>1073741824
  .right;rw[iO,xaa av.2,sO,N8 _ _ (by omega),xaa ai];simp only[vq,go_sem,eg,bX,fM gy,V.a4,fb,uQ (bt:=false) (a:=s) (b:=v.span) (by omega) (by omega),xal ai]
  left;refine⟨s*v.span,?_,by rw[iO,xaa av.2,sO],by omega⟩;simp only[vq,go_sem,eg,bX,fM gy,V.a4,fb,uQ (bt:=false) (a:=s) (b:=v.span) (by omega) (by omega),xan ai,cc (bt:=false) (i:=i) (by omega)]
 .intro _ _;have:¬(kv []=true):=by simp[kv]
  simp only[vp,go_sem,eg,yF ((m.vars.length:Int)<m.vars.length),xab this]
 intro i v _ gy ag _;obtain⟨ab,ad,_⟩:=aK.2 v (xac gy);have fb:=A4 n v ab ad;have bX:=yT ((i:Int)<(m.vars.length:Int));have p4:kv (v::m.vars.drop (i+1))=(v.span==0||kv (m.vars.drop (i+1))):=rfl;by_cases bm:v.span=0
 .right;have pR:(v.span==0)=true:=by simp[bm]
  rw[p4,pR,Bool.true_or,xaa rfl];simp only[vp,go_sem,eg,bX,fM gy,V.a4,fb,pR]
 left;have pR:(v.span==0)=false:=by simpa using bm
 rw[p4,pR,xbx];exact⟨(),by simp only[vp,go_sem,eg,bX,fM gy,V.a4,fb,pR,cc (bt:=false) (i:=i) (by omega)],rfl,trivial⟩
def hR:List (Int×(Int×Int))->Int×(Int×Int)
 |[]=>(0,(0,0))|a::r=>if a.2.2=0 then hR r else a
def aeK{ei:Type}{f:List D->Option (List D⊕(List D⊕ei))}(L:List (Int×(Int×Int)))(eF:Nat->List D)(E:List D)(W:Int×(Int×Int)->ei) (av:∀i a,L[i]?=some a->f (eF i)=some (if a.2.2=0 then .inl (eF (i+1))else .inr (.inr (W a)))) (he:f (eF L.length)=some (.inr (.inl E))) (n:Nat) (aC:L.length<n):bI f n (eF 0)=some (if(hR L).2.2=0 then .inl E else .inr (W (hR L))):=by
 have h:=c8 (f:=f) L (λi (_:Unit)=>eF i) (λr _=>(if(hR r).2.2=0 then .inl E else .inr (W (hR r)):List D⊕ei)) (λ_ _=>True) (λ_ _=>by rw[he];rfl) ?_ n 0 () trivial (by omega) (xai _);.exact h
 intro i a _ aH ag _;have ab:=av i a aH;by_cases aq:a.2.2=0
 .left;rw[xaa aq]at ab;exact⟨(),ab,by rw[hR,xaa aq],trivial⟩
 right;rw[xab aq]at ab;rw[ab,hR,xab aq,xab aq]
def h4(m:af):List Nat:=[m.vars.length,m.aw.length,m.bA.length,m.bE.length,m.next.length,m.trans.length,m.bz.length,m.bp.length]
def h5(m:af)(i:Nat):Int:=if 64<(h4 m)[i]?.getD 0 then 18 else 0
noncomputable def ng(m:af):List (Int×(Int×Int)):=[(2,cD (lO m) m.aw.length 0),(2,cD (mj m) m.aw.length 0),(2,cD (lP m) m.aw.length 0),(3,cD (eG m m.bA false) m.bA.length 0),(4,cD (eG m m.bE false) m.bE.length 0),(5,cD (js m) m.next.length 0),(6,cD (eG m m.trans true) m.trans.length 0),(7,cD (eG m m.bz false) m.bz.length 0),(8,cD (jt m) m.bp.length 0)]
noncomputable def UF(m:af):List (Int×(Int×Int)):=[(2,sf m),(3,cD (eG m m.bA false) m.bA.length 0),(4,cD (eG m m.bE false) m.bE.length 0),(5,cD (js m) m.next.length 0),(6,cD (eG m m.trans true) m.trans.length 0),(7,cD (eG m m.bz false) m.bz.length 0),(8,cD (jt m) m.bp.length 0)]
def aeL{a b:Int×Int}:(vO a b).2=0↔a.2=0/\b.2=0:=by unfold vO;by_cases h:a.2=0<;>simp[h]
def aeM(k:Int)(a b:Int×Int)(r:List (Int×(Int×Int))):hR ((k,vO a b)::r)=hR ((k,a)::(k,b)::r):=by simp only[hR];unfold vO;by_cases h:a.2=0<;>simp[h]
def awT(a:Int×(Int×Int)){r sz:List (Int×(Int×Int))}(h:hR r=hR sz):hR (a::r)=hR (a::sz):=by rw[hR,hR,h]
def awU(m:af):hR (UF m)=hR (ng m):=by unfold UF sf;rw[aeM];exact awT _ (aeM _ _ _ _)
noncomputable def ml(m:af):Int×(Int×Int):=if(cD (h5 m) 8 0).2=0 then
  if(jX m.vars).2=0 then
   if 30<nf m.vars then(1,(0,18))else hR (ng m)
  else(1,jX m.vars)
 else((cD (h5 m) 8 0).1+1,(64,18))
def dG(q:Int×(Int×Int)):D:= .aO [.agg [J q.1,J q.2.1],J q.2.2]
def awV{l:List V}(h:(jX l).2=0):jX l=(0,0):=by unfold jX at h⊢;cases ba:(List.range l.length).find? (λi=>iV l i !=0)with|none=>rw[ba]at h|some i=>rw[ba]at h;have:=List.find?_some ba;simp only at h;rw[h]at this;cases this
def aeN(L:List (Int×(Int×Int)))(h:(hR L).2.2=0):hR L=(0,(0,0)):=by
 induction L with
 |nil=>rfl
 |cons a r ih=>
  rw[hR]at h⊢;by_cases aq:a.2.2=0;.rw[xaa aq]at h⊢;exact ih h
  rw[xab aq]at h;exact absurd h aq
theorem h6{t:Nat}{x:D}:B4 (.dH t x)=some (t,x):=rfl
def tP(m:af):D:= .agg ((h4 m).map λ(k:Nat)=>J (k:Int))
def gi(m:af):D:= .agg [.dH 153 (aM m.aw),.dH 154 (aM m.aw),.dH 155 (aM m.aw),.dH 157 (.agg [J 3,ar m.bA,ay false]),.dH 157 (.agg [J 4,ar m.bE,ay false]),.dH 158 (aM m.next),.dH 157 (.agg [J 6,ar m.trans,ay true]),.dH 157 (.agg [J 7,ar m.bz,ay false]),.dH 159 (bL m.bp)]
theorem N9{ei:Type}{a b:Option ei}:fY 153 153 a b=a:=rfl
theorem Oa{ei:Type}{a b:Option ei}:fY 154 153 a b=b:=rfl
theorem Ob{ei:Type}{a b:Option ei}:fY 154 154 a b=a:=rfl
theorem Oc{ei:Type}{a b:Option ei}:fY 155 153 a b=b:=rfl
theorem Od{ei:Type}{a b:Option ei}:fY 155 154 a b=b:=rfl
theorem Oe{ei:Type}{a b:Option ei}:fY 155 155 a b=a:=rfl
theorem tQ{ei:Type}{a b:Option ei}:fY 157 153 a b=b:=rfl
theorem tR{ei:Type}{a b:Option ei}:fY 157 154 a b=b:=rfl
theorem tS{ei:Type}{a b:Option ei}:fY 157 155 a b=b:=rfl
theorem tT{ei:Type}{a b:Option ei}:fY 157 157 a b=a:=rfl
theorem Of{ei:Type}{a b:Option ei}:fY 158 153 a b=b:=rfl
theorem Og{ei:Type}{a b:Option ei}:fY 158 154 a b=b:=rfl
theorem Oh{ei:Type}{a b:Option ei}:fY 158 155 a b=b:=rfl
theorem Oi{ei:Type}{a b:Option ei}:fY 158 157 a b=b:=rfl
theorem Oj{ei:Type}{a b:Option ei}:fY 158 158 a b=a:=rfl
theorem Ok{ei:Type}{a b:Option ei}:fY 159 153 a b=b:=rfl
theorem Ol{ei:Type}{a b:Option ei}:fY 159 154 a b=b:=rfl
theorem Om{ei:Type}{a b:Option ei}:fY 159 155 a b=b:=rfl
theorem On{ei:Type}{a b:Option ei}:fY 159 157 a b=b:=rfl
theorem Oo{ei:Type}{a b:Option ei}:fY 159 158 a b=b:=rfl
theorem Oq{ei:Type}{a b:Option ei}:fY 159 159 a b=a:=rfl
section
variable{m:af}{n:Nat}(hm:N5 m n)
include hm
theorem awW:bI (rK n) n [tP m,J 0,bd m.vars,aM m.aw,ar m.bA,ar m.bE,aM m.next,ar m.trans,ar m.bz,bL m.bp,J 0,J 0]=some (if(cD (h5 m) 8 0).2=0 then .inl [bd m.vars,aM m.aw,ar m.bA,ar m.bE,aM m.next,ar m.trans,ar m.bz,bL m.bp,J 0,J 0]else .inr (dG ((cD (h5 m) 8 0).1+1,(64,18)))):=by
 have ak:=hm.jc;refine mR (f:=rK n) (λi=>[tP m,J (i:Int),bd m.vars,aM m.aw,ar m.bA,ar m.bE,aM m.next,ar m.trans,ar m.bz,bL m.bp,J 0,J 0]) (h5 m) 8 _ (λp=>dG (p.1+1,(64,18))) ?_ ?_ 8 0 n (by omega) (by omega)
 .intro i ag;obtain⟨k,ah⟩:∃k,(h4 m)[i]?=some k:=⟨_,xad ag⟩;have bX:=yT ((i:Int)<8);have dN:cV 8 (J (i:Int))=some i:=by rw[kn,xaa ag]
  have ba:l2 false 1 (i*1) (tP m)=some (J (k:Int)):=by unfold tP;rw[Nat.mul_one,YQ,iA,xag,ah];rfl
  have A6:aj false .add (J 1) (J (i:Int))=some (J ((i:Int)+1)):=by rw[er (by omega) (by omega)];congr 2;omega
  have bW:h5 m i=if 64<k then 18 else 0:=by unfold h5;rw[ah];rfl
  by_cases ai:64<k;.rw[bW,xaa ai,xab (by decide)];simp only[rK,go_sem,bX,dN,ba,yT ((k:Int)>64),A6,dG]
  rw[bW,xab ai,xaa rfl];simp only[rK,go_sem,bX,dN,ba,yF ((k:Int)>64),cc (bt:=false) (i:=i) (by omega)]
 simp only[rK,go_sem,show decide (((8:Nat):Int)<8)=false from rfl]
theorem awX:bI (rQ n) n [J 0,bd m.vars,aM m.aw,ar m.bA,ar m.bE,aM m.next,ar m.trans,ar m.bz,bL m.bp,J 0,J 0,D.aA 1 ((h4 m).map λ(k:Nat)=>[J (k:Int)])]=some (if(cD (h5 m) 8 0).2=0 then .inl [bd m.vars,aM m.aw,ar m.bA,ar m.bE,aM m.next,ar m.trans,ar m.bz,bL m.bp,J 0,J 0]else .inr (dG ((cD (h5 m) 8 0).1+1,(64,18)))):=by
 have ak:=hm.jc;refine mR (f:=rQ n) (λi=>[J (i:Int),bd m.vars,aM m.aw,ar m.bA,ar m.bE,aM m.next,ar m.trans,ar m.bz,bL m.bp,J 0,J 0,D.aA 1 ((h4 m).map λ(k:Nat)=>[J (k:Int)])]) (h5 m) 8 _ (λp=>dG (p.1+1,(64,18))) ?_ ?_ 8 0 n (by omega) (by omega)
 .intro i ag;obtain⟨k,ah⟩:∃k,(h4 m)[i]?=some k:=⟨_,xad ag⟩;have bH:((h4 m).map λ(k:Nat)=>[J (k:Int)]).length=8:=rfl;have bX:=yT ((i:Int)<((8:Nat):Int));have dN:cV 8 (J (i:Int))=some i:=by rw[kn,xaa ag]
  have ba:((h4 m).map λ(k:Nat)=>[J (k:Int)])[i]?=some [J (k:Int)]:=by rw[xag,ah];rfl
  have A6:aj false .add (J (i:Int)) (J 1)=some (J ((i:Int)+1)):=by rw[er (by omega) (by omega)]
  have bW:h5 m i=if 64<k then 18 else 0:=by unfold h5;rw[ah];rfl
  generalize ((h4 m).map λ(k:Nat)=>[J (k:Int)])=awY at*;by_cases ai:64<k;.rw[bW,xaa ai,xab (by decide)];simp only[rQ,go_sem,bH,bX,dN,ba,D3,yT ((k:Int)>64),A6,dG]
  rw[bW,xab ai,xaa rfl];simp only[rQ,go_sem,bH,bX,dN,ba,D3,yF ((k:Int)>64),cc (bt:=false) (i:=i) (by omega)]
 have bH:((h4 m).map λ(k:Nat)=>[J (k:Int)]).length=8:=rfl;simp only[rQ,go_sem,bH,show decide (((8:Nat):Int)<((8:Nat):Int))=false from rfl]
theorem awZ(A kd:D):bI (hP n) n [D.dH 153 (aM m.aw),A,kd,J m.aw.length,J 0,bd m.vars,aM m.aw,ar m.bA,ar m.bE,aM m.next,ar m.trans,ar m.bz,bL m.bp,J 0,J 0]=some (if(cD (lO m) m.aw.length 0).2=0 then .inl [A,kd,bd m.vars,aM m.aw,ar m.bA,ar m.bE,aM m.next,ar m.trans,ar m.bz,bL m.bp,J 0,J 0]else .inr (.inr (.inr (.inr (dG (2,cD (lO m) m.aw.length 0)))))):=by
 have ak:=hm.jc;have cd:=hm.bD.dl;refine mR (f:=hP n) (λi=>[D.dH 153 (aM m.aw),A,kd,J m.aw.length,J (i:Int),bd m.vars,aM m.aw,ar m.bA,ar m.bE,aM m.next,ar m.trans,ar m.bz,bL m.bp,J 0,J 0]) (lO m) (m.aw.length) _ (λp=> .inr (.inr (.inr (dG (2,p))))) ?_ ?_ _ 0 n (by omega) (by omega)
 .intro i ag;have bX:=yT ((i:Int)<((m.aw.length:Nat):Int));have hw:=awx hm i ag;change vb n [_,m.d,J (i:Int)]=some (J (lO m i))at hw;by_cases ai:lO m i=0
  .have dX:(lO m i !=0)=false:=by simp[ai]
   rw[xaa ai];simp only[hP,go_sem,bX,h6,N9,af.eta,hw,dX,cc (bt:=false) (i:=i) (by omega)]
  have dX:(lO m i !=0)=true:=by simpa using ai
  rw[xab ai];simp only[hP,go_sem,bX,h6,N9,af.eta,hw,dX,Md,Z3,dG]
 simp only[hP,go_sem,yF (((m.aw.length:Nat):Int)<((m.aw.length:Nat):Int))]
theorem aw0(A kd:D):bI (hP n) n [D.dH 154 (aM m.aw),A,kd,J m.aw.length,J 0,bd m.vars,aM m.aw,ar m.bA,ar m.bE,aM m.next,ar m.trans,ar m.bz,bL m.bp,J 0,J 0]=some (if(cD (mj m) m.aw.length 0).2=0 then .inl [A,kd,bd m.vars,aM m.aw,ar m.bA,ar m.bE,aM m.next,ar m.trans,ar m.bz,bL m.bp,J 0,J 0]else .inr (.inr (.inr (.inr (dG (2,cD (mj m) m.aw.length 0)))))):=by
 have ak:=hm.jc;have cd:=hm.bD.dl;refine mR (f:=hP n) (λi=>[D.dH 154 (aM m.aw),A,kd,J m.aw.length,J (i:Int),bd m.vars,aM m.aw,ar m.bA,ar m.bE,aM m.next,ar m.trans,ar m.bz,bL m.bp,J 0,J 0]) (mj m) (m.aw.length) _ (λp=> .inr (.inr (.inr (dG (2,p))))) ?_ ?_ _ 0 n (by omega) (by omega)
 .intro i ag;have bX:=yT ((i:Int)<((m.aw.length:Nat):Int));have hw:=awt n m hm.bD.d i ag (by omega);change CF n [_,m.d,J (i:Int)]=some (J (mj m i))at hw;by_cases ai:mj m i=0
  .have dX:(mj m i !=0)=false:=by simp[ai]
   rw[xaa ai];simp only[hP,go_sem,bX,h6,Oa,Ob,af.eta,hw,dX,cc (bt:=false) (i:=i) (by omega)]
  have dX:(mj m i !=0)=true:=by simpa using ai
  rw[xab ai];simp only[hP,go_sem,bX,h6,Oa,Ob,af.eta,hw,dX,Mc,Z2,dG]
 simp only[hP,go_sem,yF (((m.aw.length:Nat):Int)<((m.aw.length:Nat):Int))]
theorem aw1(A kd:D):bI (hP n) n [D.dH 155 (aM m.aw),A,kd,J m.aw.length,J 0,bd m.vars,aM m.aw,ar m.bA,ar m.bE,aM m.next,ar m.trans,ar m.bz,bL m.bp,J 0,J 0]=some (if(cD (lP m) m.aw.length 0).2=0 then .inl [A,kd,bd m.vars,aM m.aw,ar m.bA,ar m.bE,aM m.next,ar m.trans,ar m.bz,bL m.bp,J 0,J 0]else .inr (.inr (.inr (.inr (dG (2,cD (lP m) m.aw.length 0)))))):=by
 have ak:=hm.jc;have cd:=hm.bD.dl;refine mR (f:=hP n) (λi=>[D.dH 155 (aM m.aw),A,kd,J m.aw.length,J (i:Int),bd m.vars,aM m.aw,ar m.bA,ar m.bE,aM m.next,ar m.trans,ar m.bz,bL m.bp,J 0,J 0]) (lP m) (m.aw.length) _ (λp=> .inr (.inr (.inr (dG (2,p))))) ?_ ?_ _ 0 n (by omega) (by omega)
 .intro i ag;have bX:=yT ((i:Int)<((m.aw.length:Nat):Int));have hw:=awy hm i ag;change CE n [_,m.d,J (i:Int)]=some (J (lP m i))at hw;by_cases ai:lP m i=0
  .have dX:(lP m i !=0)=false:=by simp[ai]
   rw[xaa ai];simp only[hP,go_sem,bX,h6,Oc,Od,Oe,af.eta,hw,dX,cc (bt:=false) (i:=i) (by omega)]
  have dX:(lP m i !=0)=true:=by simpa using ai
  rw[xab ai];simp only[hP,go_sem,bX,h6,Oc,Od,Oe,af.eta,hw,dX,Mb,Z1,dG]
 simp only[hP,go_sem,yF (((m.aw.length:Nat):Int)<((m.aw.length:Nat):Int))]
theorem Ot(l:List Tm)(an:l.length<=100/\∀t∈l,t.cz/\t.bD<=12300)(k:Int)(nx:Bool)(A kd:D):bI (hP n) n [D.dH 157 (D.agg [J k,ar l,ay nx]),A,kd,J l.length,J 0,bd m.vars,aM m.aw,ar m.bA,ar m.bE,aM m.next,ar m.trans,ar m.bz,bL m.bp,J 0,J 0]=some (if(cD (eG m l nx) l.length 0).2=0 then .inl [A,kd,bd m.vars,aM m.aw,ar m.bA,ar m.bE,aM m.next,ar m.trans,ar m.bz,bL m.bp,J 0,J 0]else .inr (.inr (.inr (.inr (dG (k,cD (eG m l nx) l.length 0)))))):=by
 have ak:=hm.jc;have cd:=an.1;have M8:aa (D.agg [J k,ar l,ay nx]) 0=J k:=rfl;have Ou:aX 3 (D.agg [J k,ar l,ay nx])=true:=rfl;refine mR (f:=hP n) (λi=>[D.dH 157 (D.agg [J k,ar l,ay nx]),A,kd,J l.length,J (i:Int),bd m.vars,aM m.aw,ar m.bA,ar m.bE,aM m.next,ar m.trans,ar m.bz,bL m.bp,J 0,J 0]) (eG m l nx) (l.length) _ (λp=> .inr (.inr (.inr (dG (k,p))))) ?_ ?_ _ 0 n (by omega) (by omega)
 .intro i ag;have bX:=yT ((i:Int)<((l.length:Nat):Int));have hw:=awz hm l an.2 k nx i ag;change CD n [_,m.d,J (i:Int)]=some (J (eG m l nx i))at hw;by_cases ai:eG m l nx i=0
  .have dX:(eG m l nx i !=0)=false:=by simp[ai]
   rw[xaa ai];simp only[hP,go_sem,bX,h6,tQ,tR,tS,tT,af.eta,hw,dX,cc (bt:=false) (i:=i) (by omega)]
  have dX:(eG m l nx i !=0)=true:=by simpa using ai
  rw[xab ai];simp only[hP,go_sem,bX,h6,tQ,tR,tS,tT,af.eta,hw,dX,Ma,Z0,M8,Ou,dG]
 simp only[hP,go_sem,yF (((l.length:Nat):Int)<((l.length:Nat):Int))]
theorem aw2(A kd:D):bI (hP n) n [D.dH 158 (aM m.next),A,kd,J m.next.length,J 0,bd m.vars,aM m.aw,ar m.bA,ar m.bE,aM m.next,ar m.trans,ar m.bz,bL m.bp,J 0,J 0]=some (if(cD (js m) m.next.length 0).2=0 then .inl [A,kd,bd m.vars,aM m.aw,ar m.bA,ar m.bE,aM m.next,ar m.trans,ar m.bz,bL m.bp,J 0,J 0]else .inr (.inr (.inr (.inr (dG (5,cD (js m) m.next.length 0)))))):=by
 have ak:=hm.jc;have cd:=hm.next.1
 refine mR (f:=hP n) (λi=>[D.dH 158 (aM m.next),A,kd,J m.next.length,J (i:Int),bd m.vars,aM m.aw,ar m.bA,ar m.bE,aM m.next,ar m.trans,ar m.bz,bL m.bp,J 0,J 0]) (js m) (m.next.length) _ (λp=> .inr (.inr (.inr (dG (5,p))))) ?_ ?_ _ 0 n (by omega) (by omega)
 .intro i ag;have bX:=yT ((i:Int)<((m.next.length:Nat):Int));have hw:=awA hm i ag;change xc n [_,m.d,J (i:Int)]=some (J (js m i))at hw;by_cases ai:js m i=0
  .have dX:(js m i !=0)=false:=by simp[ai]
   rw[xaa ai];simp only[hP,go_sem,bX,h6,Of,Og,Oh,Oi,Oj,af.eta,hw,dX,cc (bt:=false) (i:=i) (by omega)]
  have dX:(js m i !=0)=true:=by simpa using ai
  rw[xab ai];simp only[hP,go_sem,bX,h6,Of,Og,Oh,Oi,Oj,af.eta,hw,dX,L9,ZZ,dG]
 simp only[hP,go_sem,yF (((m.next.length:Nat):Int)<((m.next.length:Nat):Int))]
theorem aw3(A kd:D):bI (hP n) n [D.dH 159 (bL m.bp),A,kd,J m.bp.length,J 0,bd m.vars,aM m.aw,ar m.bA,ar m.bE,aM m.next,ar m.trans,ar m.bz,bL m.bp,J 0,J 0]=some (if(cD (jt m) m.bp.length 0).2=0 then .inl [A,kd,bd m.vars,aM m.aw,ar m.bA,ar m.bE,aM m.next,ar m.trans,ar m.bz,bL m.bp,J 0,J 0]else .inr (.inr (.inr (.inr (dG (8,cD (jt m) m.bp.length 0)))))):=by
 have ak:=hm.jc;have cd:=hm.bp.1;refine mR (f:=hP n) (λi=>[D.dH 159 (bL m.bp),A,kd,J m.bp.length,J (i:Int),bd m.vars,aM m.aw,ar m.bA,ar m.bE,aM m.next,ar m.trans,ar m.bz,bL m.bp,J 0,J 0]) (jt m) (m.bp.length) _ (λp=> .inr (.inr (.inr (dG (8,p))))) ?_ ?_ _ 0 n (by omega) (by omega)
 .intro i ag;have bX:=yT ((i:Int)<((m.bp.length:Nat):Int));have hw:=awB hm i ag;change u7 n [_,m.d,J (i:Int)]=some (J (jt m i))at hw;by_cases ai:jt m i=0
  .have dX:(jt m i !=0)=false:=by simp[ai]
   rw[xaa ai];simp only[hP,go_sem,bX,h6,Ok,Ol,Om,On,Oo,Oq,af.eta,hw,dX,cc (bt:=false) (i:=i) (by omega)]
  have dX:(jt m i !=0)=true:=by simpa using ai
  rw[xab ai];simp only[hP,go_sem,bX,h6,Ok,Ol,Om,On,Oo,Oq,af.eta,hw,dX,L8,ZY,dG]
 simp only[hP,go_sem,yF (((m.bp.length:Nat):Int)<((m.bp.length:Nat):Int))]
theorem aw4:hE n [gi m,J 0,bd m.vars,aM m.aw,ar m.bA,ar m.bE,aM m.next,ar m.trans,ar m.bz,bL m.bp,J 0,J 0]=some (if(cD (lO m) m.aw.length 0).2=0 then .inl [gi m,J 1,bd m.vars,aM m.aw,ar m.bA,ar m.bE,aM m.next,ar m.trans,ar m.bz,bL m.bp,J 0,J 0]else .inr (.inr (dG (2,cD (lO m) m.aw.length 0)))):=by
 have eR:=awZ hm (gi m) (J 0);have bX:decide ((0:Int)<9)=true:=rfl;have dN:cV 9 (J 0)=some 0:=rfl;have ba:l2 false 1 (0*1) (gi m)=some (D.dH 153 (aM m.aw)):=rfl;have iN:Gi n [aM m.aw]=some (J m.aw.length):=by simp only[Gi,ZF,go_sem,dT]
 have e6:aj false .add (J 0) (J 1)=some (J 1):=er (by decide) (by decide);by_cases ai:(cD (lO m) m.aw.length 0).2=0;.rw[xaa ai]at eR⊢;simp only[hE,go_sem,bX,dN,ba,h6,N9,iN,eR,e6]
 rw[xab ai]at eR⊢;simp only[hE,go_sem,bX,dN,ba,h6,N9,iN,eR]
theorem aw5:hE n [gi m,J 1,bd m.vars,aM m.aw,ar m.bA,ar m.bE,aM m.next,ar m.trans,ar m.bz,bL m.bp,J 0,J 0]=some (if(cD (mj m) m.aw.length 0).2=0 then .inl [gi m,J 2,bd m.vars,aM m.aw,ar m.bA,ar m.bE,aM m.next,ar m.trans,ar m.bz,bL m.bp,J 0,J 0]else .inr (.inr (dG (2,cD (mj m) m.aw.length 0)))):=by
 have eR:=aw0 hm (gi m) (J 1);have bX:decide ((1:Int)<9)=true:=rfl;have dN:cV 9 (J 1)=some 1:=rfl;have ba:l2 false 1 (1*1) (gi m)=some (D.dH 154 (aM m.aw)):=rfl;have iN:Gh n [aM m.aw]=some (J m.aw.length):=by simp only[Gh,ZE,go_sem,dT]
 have e6:aj false .add (J 1) (J 1)=some (J 2):=er (by decide) (by decide);by_cases ai:(cD (mj m) m.aw.length 0).2=0;.rw[xaa ai]at eR⊢;simp only[hE,go_sem,bX,dN,ba,h6,Oa,Ob,iN,eR,e6]
 rw[xab ai]at eR⊢;simp only[hE,go_sem,bX,dN,ba,h6,Oa,Ob,iN,eR]
theorem aw6:hE n [gi m,J 2,bd m.vars,aM m.aw,ar m.bA,ar m.bE,aM m.next,ar m.trans,ar m.bz,bL m.bp,J 0,J 0]=some (if(cD (lP m) m.aw.length 0).2=0 then .inl [gi m,J 3,bd m.vars,aM m.aw,ar m.bA,ar m.bE,aM m.next,ar m.trans,ar m.bz,bL m.bp,J 0,J 0]else .inr (.inr (dG (2,cD (lP m) m.aw.length 0)))):=by
 have eR:=aw1 hm (gi m) (J 2);have bX:decide ((2:Int)<9)=true:=rfl;have dN:cV 9 (J 2)=some 2:=rfl;have ba:l2 false 1 (2*1) (gi m)=some (D.dH 155 (aM m.aw)):=rfl;have iN:Gg n [aM m.aw]=some (J m.aw.length):=by simp only[Gg,ZD,go_sem,dT]
 have e6:aj false .add (J 2) (J 1)=some (J 3):=er (by decide) (by decide);by_cases ai:(cD (lP m) m.aw.length 0).2=0;.rw[xaa ai]at eR⊢;simp only[hE,go_sem,bX,dN,ba,h6,Oc,Od,Oe,iN,eR,e6]
 rw[xab ai]at eR⊢;simp only[hE,go_sem,bX,dN,ba,h6,Oc,Od,Oe,iN,eR]
theorem aw7:hE n [gi m,J 3,bd m.vars,aM m.aw,ar m.bA,ar m.bE,aM m.next,ar m.trans,ar m.bz,bL m.bp,J 0,J 0]=some (if(cD (eG m m.bA false) m.bA.length 0).2=0 then .inl [gi m,J 4,bd m.vars,aM m.aw,ar m.bA,ar m.bE,aM m.next,ar m.trans,ar m.bz,bL m.bp,J 0,J 0]else .inr (.inr (dG (3,cD (eG m m.bA false) m.bA.length 0)))):=by
 have eR:=Ot hm m.bA hm.bA 3 false (gi m) (J 3);have bX:decide ((3:Int)<9)=true:=rfl;have dN:cV 9 (J 3)=some 3:=rfl;have ba:l2 false 1 (3*1) (gi m)=some (D.dH 157 (D.agg [J 3,ar m.bA,ay false])):=rfl;have iN:rB n [D.agg [J 3,ar m.bA,ay false]]=some (J m.bA.length):=by have ax:aX 3 (D.agg [J 3,ar m.bA,ay false])=true:=rfl;have a8:aa (D.agg [J 3,ar m.bA,ay false]) 1=ar m.bA:=rfl;simp only[rB,Gf,go_sem,ax,a8,iF]
 have e6:aj false .add (J 3) (J 1)=some (J 4):=er (by decide) (by decide);by_cases ai:(cD (eG m m.bA false) m.bA.length 0).2=0;.rw[xaa ai]at eR⊢;simp only[hE,go_sem,bX,dN,ba,h6,tQ,tR,tS,tT,iN,eR,e6]
 rw[xab ai]at eR⊢;simp only[hE,go_sem,bX,dN,ba,h6,tQ,tR,tS,tT,iN,eR]
theorem aw8:hE n [gi m,J 4,bd m.vars,aM m.aw,ar m.bA,ar m.bE,aM m.next,ar m.trans,ar m.bz,bL m.bp,J 0,J 0]=some (if(cD (eG m m.bE false) m.bE.length 0).2=0 then .inl [gi m,J 5,bd m.vars,aM m.aw,ar m.bA,ar m.bE,aM m.next,ar m.trans,ar m.bz,bL m.bp,J 0,J 0]else .inr (.inr (dG (4,cD (eG m m.bE false) m.bE.length 0)))):=by
 have eR:=Ot hm m.bE hm.bE 4 false (gi m) (J 4);have bX:decide ((4:Int)<9)=true:=rfl;have dN:cV 9 (J 4)=some 4:=rfl;have ba:l2 false 1 (4*1) (gi m)=some (D.dH 157 (D.agg [J 4,ar m.bE,ay false])):=rfl;have iN:rB n [D.agg [J 4,ar m.bE,ay false]]=some (J m.bE.length):=by have ax:aX 3 (D.agg [J 4,ar m.bE,ay false])=true:=rfl;have a8:aa (D.agg [J 4,ar m.bE,ay false]) 1=ar m.bE:=rfl;simp only[rB,Gf,go_sem,ax,a8,iF]
 have e6:aj false .add (J 4) (J 1)=some (J 5):=er (by decide) (by decide);by_cases ai:(cD (eG m m.bE false) m.bE.length 0).2=0;.rw[xaa ai]at eR⊢;simp only[hE,go_sem,bX,dN,ba,h6,tQ,tR,tS,tT,iN,eR,e6]
 rw[xab ai]at eR⊢;simp only[hE,go_sem,bX,dN,ba,h6,tQ,tR,tS,tT,iN,eR]
theorem aw9:hE n [gi m,J 5,bd m.vars,aM m.aw,ar m.bA,ar m.bE,aM m.next,ar m.trans,ar m.bz,bL m.bp,J 0,J 0]=some (if(cD (js m) m.next.length 0).2=0 then .inl [gi m,J 6,bd m.vars,aM m.aw,ar m.bA,ar m.bE,aM m.next,ar m.trans,ar m.bz,bL m.bp,J 0,J 0]else .inr (.inr (dG (5,cD (js m) m.next.length 0)))):=by
 have eR:=aw2 hm (gi m) (J 5);have bX:decide ((5:Int)<9)=true:=rfl;have dN:cV 9 (J 5)=some 5:=rfl;have ba:l2 false 1 (5*1) (gi m)=some (D.dH 158 (aM m.next)):=rfl;have iN:Ge n [aM m.next]=some (J m.next.length):=by simp only[Ge,ZC,go_sem,dT]
 have e6:aj false .add (J 5) (J 1)=some (J 6):=er (by decide) (by decide);by_cases ai:(cD (js m) m.next.length 0).2=0;.rw[xaa ai]at eR⊢;simp only[hE,go_sem,bX,dN,ba,h6,Of,Og,Oh,Oi,Oj,iN,eR,e6]
 rw[xab ai]at eR⊢;simp only[hE,go_sem,bX,dN,ba,h6,Of,Og,Oh,Oi,Oj,iN,eR]
theorem axa:hE n [gi m,J 6,bd m.vars,aM m.aw,ar m.bA,ar m.bE,aM m.next,ar m.trans,ar m.bz,bL m.bp,J 0,J 0]=some (if(cD (eG m m.trans true) m.trans.length 0).2=0 then .inl [gi m,J 7,bd m.vars,aM m.aw,ar m.bA,ar m.bE,aM m.next,ar m.trans,ar m.bz,bL m.bp,J 0,J 0]else .inr (.inr (dG (6,cD (eG m m.trans true) m.trans.length 0)))):=by
 have eR:=Ot hm m.trans hm.trans 6 true (gi m) (J 6);have bX:decide ((6:Int)<9)=true:=rfl;have dN:cV 9 (J 6)=some 6:=rfl;have ba:l2 false 1 (6*1) (gi m)=some (D.dH 157 (D.agg [J 6,ar m.trans,ay true])):=rfl;have iN:rB n [D.agg [J 6,ar m.trans,ay true]]=some (J m.trans.length):=by have ax:aX 3 (D.agg [J 6,ar m.trans,ay true])=true:=rfl;have a8:aa (D.agg [J 6,ar m.trans,ay true]) 1=ar m.trans:=rfl;simp only[rB,Gf,go_sem,ax,a8,iF]
 have e6:aj false .add (J 6) (J 1)=some (J 7):=er (by decide) (by decide);by_cases ai:(cD (eG m m.trans true) m.trans.length 0).2=0;.rw[xaa ai]at eR⊢;simp only[hE,go_sem,bX,dN,ba,h6,tQ,tR,tS,tT,iN,eR,e6]
 rw[xab ai]at eR⊢;simp only[hE,go_sem,bX,dN,ba,h6,tQ,tR,tS,tT,iN,eR]
theorem axb:hE n [gi m,J 7,bd m.vars,aM m.aw,ar m.bA,ar m.bE,aM m.next,ar m.trans,ar m.bz,bL m.bp,J 0,J 0]=some (if(cD (eG m m.bz false) m.bz.length 0).2=0 then .inl [gi m,J 8,bd m.vars,aM m.aw,ar m.bA,ar m.bE,aM m.next,ar m.trans,ar m.bz,bL m.bp,J 0,J 0]else .inr (.inr (dG (7,cD (eG m m.bz false) m.bz.length 0)))):=by
 have eR:=Ot hm m.bz hm.bz 7 false (gi m) (J 7);have bX:decide ((7:Int)<9)=true:=rfl;have dN:cV 9 (J 7)=some 7:=rfl;have ba:l2 false 1 (7*1) (gi m)=some (D.dH 157 (D.agg [J 7,ar m.bz,ay false])):=rfl;have iN:rB n [D.agg [J 7,ar m.bz,ay false]]=some (J m.bz.length):=by have ax:aX 3 (D.agg [J 7,ar m.bz,ay false])=true:=rfl;have a8:aa (D.agg [J 7,ar m.bz,ay false]) 1=ar m.bz:=rfl;simp only[rB,Gf,go_sem,ax,a8,iF]
 have e6:aj false .add (J 7) (J 1)=some (J 8):=er (by decide) (by decide);by_cases ai:(cD (eG m m.bz false) m.bz.length 0).2=0;.rw[xaa ai]at eR⊢;simp only[hE,go_sem,bX,dN,ba,h6,tQ,tR,tS,tT,iN,eR,e6]
 rw[xab ai]at eR⊢;simp only[hE,go_sem,bX,dN,ba,h6,tQ,tR,tS,tT,iN,eR]
theorem axc:hE n [gi m,J 8,bd m.vars,aM m.aw,ar m.bA,ar m.bE,aM m.next,ar m.trans,ar m.bz,bL m.bp,J 0,J 0]=some (if(cD (jt m) m.bp.length 0).2=0 then .inl [gi m,J 9,bd m.vars,aM m.aw,ar m.bA,ar m.bE,aM m.next,ar m.trans,ar m.bz,bL m.bp,J 0,J 0]else .inr (.inr (dG (8,cD (jt m) m.bp.length 0)))):=by
 have eR:=aw3 hm (gi m) (J 8);have bX:decide ((8:Int)<9)=true:=rfl;have dN:cV 9 (J 8)=some 8:=rfl;have ba:l2 false 1 (8*1) (gi m)=some (D.dH 159 (bL m.bp)):=rfl;have iN:Gd n [bL m.bp]=some (J m.bp.length):=by simp only[Gd,ZB,go_sem,il]
 have e6:aj false .add (J 8) (J 1)=some (J 9):=er (by decide) (by decide);by_cases ai:(cD (jt m) m.bp.length 0).2=0;.rw[xaa ai]at eR⊢;simp only[hE,go_sem,bX,dN,ba,h6,Ok,Ol,Om,On,Oo,Oq,iN,eR,e6]
 rw[xab ai]at eR⊢;simp only[hE,go_sem,bX,dN,ba,h6,Ok,Ol,Om,On,Oo,Oq,iN,eR]
theorem axd:bI (hE n) n [gi m,J 0,bd m.vars,aM m.aw,ar m.bA,ar m.bE,aM m.next,ar m.trans,ar m.bz,bL m.bp,J 0,J 0]=some (if(hR (ng m)).2.2=0 then .inl [J 0,J 0]else .inr (dG (hR (ng m)))):=by
 have ak:=hm.jc;refine aeK (f:=hE n) (ng m) (λi=>[gi m,J (i:Int),bd m.vars,aM m.aw,ar m.bA,ar m.bE,aM m.next,ar m.trans,ar m.bz,bL m.bp,J 0,J 0]) [J 0,J 0] dG ?_ ?_ n (by show 9<n;omega)
 .intro i a aH
  match i,aH with
  |0,aH=>cases aH;exact aw4 hm
  |1,aH=>cases aH;exact aw5 hm
  |2,aH=>cases aH;exact aw6 hm
  |3,aH=>cases aH;exact aw7 hm
  |4,aH=>cases aH;exact aw8 hm
  |5,aH=>cases aH;exact aw9 hm
  |6,aH=>cases aH;exact axa hm
  |7,aH=>cases aH;exact axb hm
  |8,aH=>cases aH;exact axc hm
  |j+9,aH=>cases aH
 show hE n [gi m,J 9,bd m.vars,aM m.aw,ar m.bA,ar m.bE,aM m.next,ar m.trans,ar m.bz,bL m.bp,J 0,J 0]=_;simp only[hE,go_sem,show decide ((9:Int)<9)=false from rfl]
theorem axe:na n [m.d]=some (dG (ml m)):=by
 have ak:=hm.jc;have ad:=awW hm;have lf:=axd hm;have hp:=avS n m.vars hm.kc (by have:=hm.bD.hH;omega) hm.aeC;have ep:=awQ n m hm.kc hm.bD.hH (by omega);have iI:D.agg [J (m.vars.length:Int),J (m.aw.length:Int),J (m.bA.length:Int),J (m.bE.length:Int),J (m.next.length:Int),J (m.trans.length:Int),J (m.bz.length:Int),J (m.bp.length:Int)]=tP m:=rfl;have aeO:D.agg [.dH 153 (aM m.aw),.dH 154 (aM m.aw),.dH 155 (aM m.aw),.dH 157 (.agg [J 3,ar m.bA,ay false]),.dH 157 (.agg [J 4,ar m.bE,ay false]),.dH 158 (aM m.next),.dH 157 (.agg [J 6,ar m.trans,ay true]),.dH 157 (.agg [J 7,ar m.bz,ay false]),.dH 159 (bL m.bp)]=gi m:=rfl;have aeP:∀l,bT (ar l)=true:=λ_=>rfl;have eO:∀t x,bT (D.dH t x)=true:=λ_ _=>rfl;unfold ml;by_cases bh:(cD (h5 m) 8 0).2=0
 case neg=>rw[xab bh]at ad⊢;simp only[na,zG,go_sem,af.agg,af.aL,af.bh,af.bo,af.bC,af.b5,af.ct,af.cu,af.cy,af.eta,eg,dT,iF,il,iI,ad]
 rw[xaa bh]at ad⊢;by_cases bo:(jX m.vars).2=0
 case neg=>
  have sg:((jX m.vars).2 !=0)=true:=by simpa using bo
  rw[xab bo];simp only[na,zG,go_sem,af.agg,af.aL,af.bh,af.bo,af.bC,af.b5,af.ct,af.cu,af.cy,af.eta,eg,dT,iF,il,iI,ad,hp,sg,dG]
 have sg:((jX m.vars).2 !=0)=false:=by simp[bo]
 rw[xaa bo];by_cases bC:30<nf m.vars;.have vP:=yT (((nf m.vars:Nat):Int)>30);rw[xaa bC];simp only[na,zG,go_sem,af.agg,af.aL,af.bh,af.bo,af.bC,af.b5,af.ct,af.cu,af.cy,af.eta,eg,dT,iF,il,iI,ad,hp,sg,ep,vP,dG]
 have vP:=yF (((nf m.vars:Nat):Int)>30);rw[xab bC];by_cases b5:(hR (ng m)).2.2=0;.rw[xaa b5]at lf;rw[aeN _ b5];simp only[na,zG,go_sem,af.agg,af.aL,af.bh,af.bo,af.bC,af.b5,af.ct,af.cu,af.cy,af.eta,eg,dT,iF,il,iI,ad,hp,sg,ep,vP,aeP,eO,aeO,lf,dG]
 rw[xab b5]at lf;simp only[na,zG,go_sem,af.agg,af.aL,af.bh,af.bo,af.bC,af.b5,af.ct,af.cu,af.cy,af.eta,eg,dT,iF,il,iI,ad,hp,sg,ep,vP,aeP,eO,aeO,lf]
theorem axf(h:(sf m).2=0):sf m=(0,0):=by unfold sf at h⊢;obtain⟨ab,ad⟩:=aeL.1 h;obtain⟨ax,a8⟩:=aeL.1 ad;rw[vO,xaa ab,vO,xaa ax,se _ _ _ a8]
theorem axg:ja n [J 0,J 0,J 2,bd m.vars,aM m.aw,ar m.bA,ar m.bE,aM m.next,ar m.trans,ar m.bz,bL m.bp,J 0,J 0]=some (if(sf m).2=0 then .inl [J 0,J 0,J 3,bd m.vars,aM m.aw,ar m.bA,ar m.bE,aM m.next,ar m.trans,ar m.bz,bL m.bp,J 0,J 0]else .inr (.inr (dG (2,sf m)))):=by
 have ey:=awK hm;have bX:decide ((2:Int)<=8)=true:=rfl;have bw:((2:Int)==2)=true:=rfl;have e6:aj false .add (J 2) (J 1)=some (J 3):=er (by decide) (by decide);by_cases ai:(sf m).2=0
 .have bm:=axf hm ai;rw[bm]at ey⊢;have hg:((0:Int) !=0)=false:=rfl;simp only[ja,go_sem,bX,bw,af.eta,ey,ft,hg,e6]
 rw[xab ai];generalize sf m=p at*;have dX:(p.2 !=0)=true:=by simpa using ai
 simp only[ja,go_sem,bX,bw,af.eta,ey,ft,dX,dG]
theorem axh:ja n [J 0,J 0,J 3,bd m.vars,aM m.aw,ar m.bA,ar m.bE,aM m.next,ar m.trans,ar m.bz,bL m.bp,J 0,J 0]=some (if(cD (eG m m.bA false) m.bA.length 0).2=0 then .inl [J 0,J 0,J 4,bd m.vars,aM m.aw,ar m.bA,ar m.bE,aM m.next,ar m.trans,ar m.bz,bL m.bp,J 0,J 0]else .inr (.inr (dG (3,cD (eG m m.bA false) m.bA.length 0)))):=by
 have ey:=N6 hm m.bA hm.bA false;have bX:decide ((3:Int)<=8)=true:=rfl;have bw:((3:Int)==2)=false:=rfl;have cl:((3:Int)==3)=true:=rfl;have e6:aj false .add (J 3) (J 1)=some (J 4):=er (by decide) (by decide);by_cases ai:(cD (eG m m.bA false) m.bA.length 0).2=0
 .have bm:=se _ _ _ ai;rw[bm]at ey⊢;have hg:((0:Int) !=0)=false:=rfl;simp only[ja,go_sem,bX,bw,cl,af.eta,ey,ft,hg,e6]
 rw[xab ai];generalize cD (eG m m.bA false) m.bA.length 0=p at*;have dX:(p.2 !=0)=true:=by simpa using ai
 simp only[ja,go_sem,bX,bw,cl,af.eta,ey,ft,dX,dG]
theorem axi:ja n [J 0,J 0,J 4,bd m.vars,aM m.aw,ar m.bA,ar m.bE,aM m.next,ar m.trans,ar m.bz,bL m.bp,J 0,J 0]=some (if(cD (eG m m.bE false) m.bE.length 0).2=0 then .inl [J 0,J 0,J 5,bd m.vars,aM m.aw,ar m.bA,ar m.bE,aM m.next,ar m.trans,ar m.bz,bL m.bp,J 0,J 0]else .inr (.inr (dG (4,cD (eG m m.bE false) m.bE.length 0)))):=by
 have ey:=N6 hm m.bE hm.bE false;have bX:decide ((4:Int)<=8)=true:=rfl;have bw:((4:Int)==2)=false:=rfl;have cl:((4:Int)==3)=false:=rfl;have dA:((4:Int)==4)=true:=rfl;have e6:aj false .add (J 4) (J 1)=some (J 5):=er (by decide) (by decide);by_cases ai:(cD (eG m m.bE false) m.bE.length 0).2=0
 .have bm:=se _ _ _ ai;rw[bm]at ey⊢;have hg:((0:Int) !=0)=false:=rfl;simp only[ja,go_sem,bX,bw,cl,dA,af.eta,ey,ft,hg,e6]
 rw[xab ai];generalize cD (eG m m.bE false) m.bE.length 0=p at*;have dX:(p.2 !=0)=true:=by simpa using ai
 simp only[ja,go_sem,bX,bw,cl,dA,af.eta,ey,ft,dX,dG]
theorem axj:ja n [J 0,J 0,J 5,bd m.vars,aM m.aw,ar m.bA,ar m.bE,aM m.next,ar m.trans,ar m.bz,bL m.bp,J 0,J 0]=some (if(cD (js m) m.next.length 0).2=0 then .inl [J 0,J 0,J 6,bd m.vars,aM m.aw,ar m.bA,ar m.bE,aM m.next,ar m.trans,ar m.bz,bL m.bp,J 0,J 0]else .inr (.inr (dG (5,cD (js m) m.next.length 0)))):=by
 have ey:=awN hm;have bX:decide ((5:Int)<=8)=true:=rfl;have bw:((5:Int)==2)=false:=rfl;have cl:((5:Int)==3)=false:=rfl;have dA:((5:Int)==4)=false:=rfl;have dZ:((5:Int)==5)=true:=rfl;have e6:aj false .add (J 5) (J 1)=some (J 6):=er (by decide) (by decide);by_cases ai:(cD (js m) m.next.length 0).2=0
 .have bm:=se _ _ _ ai;rw[bm]at ey⊢;have hg:((0:Int) !=0)=false:=rfl;simp only[ja,go_sem,bX,bw,cl,dA,dZ,af.eta,ey,ft,hg,e6]
 rw[xab ai];generalize cD (js m) m.next.length 0=p at*
 have dX:(p.2 !=0)=true:=by simpa using ai
 simp only[ja,go_sem,bX,bw,cl,dA,dZ,af.eta,ey,ft,dX,dG]
theorem axk:ja n [J 0,J 0,J 6,bd m.vars,aM m.aw,ar m.bA,ar m.bE,aM m.next,ar m.trans,ar m.bz,bL m.bp,J 0,J 0]=some (if(cD (eG m m.trans true) m.trans.length 0).2=0 then .inl [J 0,J 0,J 7,bd m.vars,aM m.aw,ar m.bA,ar m.bE,aM m.next,ar m.trans,ar m.bz,bL m.bp,J 0,J 0]else .inr (.inr (dG (6,cD (eG m m.trans true) m.trans.length 0)))):=by
 have ey:=N6 hm m.trans hm.trans true;have bX:decide ((6:Int)<=8)=true:=rfl;have bw:((6:Int)==2)=false:=rfl;have cl:((6:Int)==3)=false:=rfl;have dA:((6:Int)==4)=false:=rfl;have dZ:((6:Int)==5)=false:=rfl;have eU:((6:Int)==6)=true:=rfl;have e6:aj false .add (J 6) (J 1)=some (J 7):=er (by decide) (by decide);by_cases ai:(cD (eG m m.trans true) m.trans.length 0).2=0
 .have bm:=se _ _ _ ai;rw[bm]at ey⊢;have hg:((0:Int) !=0)=false:=rfl;simp only[ja,go_sem,bX,bw,cl,dA,dZ,eU,af.eta,ey,ft,hg,e6]
 rw[xab ai];generalize cD (eG m m.trans true) m.trans.length 0=p at*;have dX:(p.2 !=0)=true:=by simpa using ai
 simp only[ja,go_sem,bX,bw,cl,dA,dZ,eU,af.eta,ey,ft,dX,dG]
theorem axl:ja n [J 0,J 0,J 7,bd m.vars,aM m.aw,ar m.bA,ar m.bE,aM m.next,ar m.trans,ar m.bz,bL m.bp,J 0,J 0]=some (if(cD (eG m m.bz false) m.bz.length 0).2=0 then .inl [J 0,J 0,J 8,bd m.vars,aM m.aw,ar m.bA,ar m.bE,aM m.next,ar m.trans,ar m.bz,bL m.bp,J 0,J 0]else .inr (.inr (dG (7,cD (eG m m.bz false) m.bz.length 0)))):=by
 have ey:=N6 hm m.bz hm.bz false;have bX:decide ((7:Int)<=8)=true:=rfl;have bw:((7:Int)==2)=false:=rfl;have cl:((7:Int)==3)=false:=rfl;have dA:((7:Int)==4)=false:=rfl;have dZ:((7:Int)==5)=false:=rfl;have eU:((7:Int)==6)=false:=rfl;have nb:((7:Int)==7)=true:=rfl;have e6:aj false .add (J 7) (J 1)=some (J 8):=er (by decide) (by decide);by_cases ai:(cD (eG m m.bz false) m.bz.length 0).2=0
 .have bm:=se _ _ _ ai;rw[bm]at ey⊢;have hg:((0:Int) !=0)=false:=rfl;simp only[ja,go_sem,bX,bw,cl,dA,dZ,eU,nb,af.eta,ey,ft,hg,e6]
 rw[xab ai];generalize cD (eG m m.bz false) m.bz.length 0=p at*;have dX:(p.2 !=0)=true:=by simpa using ai
 simp only[ja,go_sem,bX,bw,cl,dA,dZ,eU,nb,af.eta,ey,ft,dX,dG]
theorem axm:ja n [J 0,J 0,J 8,bd m.vars,aM m.aw,ar m.bA,ar m.bE,aM m.next,ar m.trans,ar m.bz,bL m.bp,J 0,J 0]=some (if(cD (jt m) m.bp.length 0).2=0 then .inl [J 0,J 0,J 9,bd m.vars,aM m.aw,ar m.bA,ar m.bE,aM m.next,ar m.trans,ar m.bz,bL m.bp,J 0,J 0]else .inr (.inr (dG (8,cD (jt m) m.bp.length 0)))):=by
 have ey:=awO hm;have bX:decide ((8:Int)<=8)=true:=rfl;have bw:((8:Int)==2)=false:=rfl;have cl:((8:Int)==3)=false:=rfl;have dA:((8:Int)==4)=false:=rfl;have dZ:((8:Int)==5)=false:=rfl;have eU:((8:Int)==6)=false:=rfl;have nb:((8:Int)==7)=false:=rfl;have Ov:((8:Int)==8)=true:=rfl;have e6:aj false .add (J 8) (J 1)=some (J 9):=er (by decide) (by decide);by_cases ai:(cD (jt m) m.bp.length 0).2=0
 .have bm:=se _ _ _ ai;rw[bm]at ey⊢;have hg:((0:Int) !=0)=false:=rfl;simp only[ja,go_sem,bX,bw,cl,dA,dZ,eU,nb,Ov,af.eta,ey,ft,hg,e6]
 rw[xab ai];generalize cD (jt m) m.bp.length 0=p at*;have dX:(p.2 !=0)=true:=by simpa using ai
 simp only[ja,go_sem,bX,bw,cl,dA,dZ,eU,nb,Ov,af.eta,ey,ft,dX,dG]
theorem axn:bI (ja n) n [J 0,J 0,J 2,bd m.vars,aM m.aw,ar m.bA,ar m.bE,aM m.next,ar m.trans,ar m.bz,bL m.bp,J 0,J 0]=some (if(hR (ng m)).2.2=0 then .inl [J 0,J 0]else .inr (dG (hR (ng m)))):=by
 have ak:=hm.jc;rw[<-awU];refine aeK (f:=ja n) (UF m) (λi=>[J 0,J 0,J ((i+2:Nat):Int),bd m.vars,aM m.aw,ar m.bA,ar m.bE,aM m.next,ar m.trans,ar m.bz,bL m.bp,J 0,J 0]) [J 0,J 0] dG ?_ ?_ n (by show 7<n;omega)
 .intro i a aH
  match i,aH with
  |0,aH=>cases aH;exact axg hm
  |1,aH=>cases aH;exact axh hm
  |2,aH=>cases aH;exact axi hm
  |3,aH=>cases aH;exact axj hm
  |4,aH=>cases aH;exact axk hm
  |5,aH=>cases aH;exact axl hm
  |6,aH=>cases aH;exact axm hm
  |j+7,aH=>cases aH
 show ja n [J 0,J 0,J 9,bd m.vars,aM m.aw,ar m.bA,ar m.bE,aM m.next,ar m.trans,ar m.bz,bL m.bp,J 0,J 0]=_;simp only[ja,go_sem,show decide ((9:Int)<=8)=false from rfl]
theorem axo:qu n [m.d]=some (dG (ml m)):=by
 have ak:=hm.jc;have ad:=awX hm;have lf:=axn hm;have hp:=avY n m.vars hm.kc (by have:=hm.bD.hH;omega) hm.aeC;have ep:=awR n m hm.kc hm.bD.hH (by omega);have iI:D.aA 1 [[J (m.vars.length:Int)],[J (m.aw.length:Int)],[J (m.bA.length:Int)],[J (m.bE.length:Int)],[J (m.next.length:Int)],[J (m.trans.length:Int)],[J (m.bz.length:Int)],[J (m.bp.length:Int)]]=D.aA 1 ((h4 m).map λ(k:Nat)=>[J (k:Int)]):=rfl;unfold ml;by_cases bh:(cD (h5 m) 8 0).2=0
 case neg=>rw[xab bh]at ad⊢;simp only[qu,Ad,go_sem,af.agg,af.aL,af.bh,af.bo,af.bC,af.b5,af.ct,af.cu,af.cy,af.eta,eg,dT,iF,il,iI,ad]
 rw[xaa bh]at ad⊢;by_cases bo:(jX m.vars).2=0
 case neg=>
  have sg:((jX m.vars).2 !=0)=true:=by simpa using bo
  rw[xab bo];simp only[qu,Ad,go_sem,af.agg,af.aL,af.bh,af.bo,af.bC,af.b5,af.ct,af.cu,af.cy,af.eta,eg,dT,iF,il,iI,ad,hp,sg,dG]
 rw[awV bo]at hp;have sg:((0:Int) !=0)=false:=rfl;rw[xaa bo];by_cases bC:30<nf m.vars
 .have vP:=yT (((nf m.vars:Nat):Int)>30);rw[xaa bC];simp only[qu,Ad,go_sem,af.agg,af.aL,af.bh,af.bo,af.bC,af.b5,af.ct,af.cu,af.cy,af.eta,eg,dT,iF,il,iI,ad,hp,sg,ep,vP,dG]
 have vP:=yF (((nf m.vars:Nat):Int)>30);rw[xab bC];by_cases b5:(hR (ng m)).2.2=0;.rw[xaa b5]at lf;rw[aeN _ b5];simp only[qu,Ad,go_sem,af.agg,af.aL,af.bh,af.bo,af.bC,af.b5,af.ct,af.cu,af.cy,af.eta,eg,dT,iF,il,iI,ad,hp,sg,ep,vP,lf,dG]
 rw[xab b5]at lf;simp only[qu,Ad,go_sem,af.agg,af.aL,af.bh,af.bo,af.bC,af.b5,af.ct,af.cu,af.cy,af.eta,eg,dT,iF,il,iI,ad,hp,sg,ep,vP,lf]
end
def A7(n:Nat):eu:= .slice 4 56 (py n)
def Jm(n:Nat):eu:= .slice 7 104 (.struct [.str,rr n])
def pS(n:Nat):eu:= .struct [Ls,w3 n,A7 n,A7 n,w3 n,A7 n,A7 n,Jm n]
def axp(n:Nat):∀m,m<=n->(A7 n).ho m=true
 |0,_=>rfl|m+1,h=>by have:=Ch n m (by omega);simp only[A7,eu.ho,this]
def axq(n:Nat):∀m,m<=n->(Jm n).ho m=true
 |0,_=>rfl|1,_=>by simp[Jm,eu.ho]|m+2,h=>by have ab:=RD n m (by omega);have ad:eu.ho m .str=true:=w1 m .str rfl;simp only[Jm,eu.ho,qk,ab,ad,xbt]
def axr(n:Nat):∀m,m<=n->(pS n).ho m=true
 |0,_=>rfl|m+1,h=>by have aq:eu.ho m Ls=true:=w1 m Ls rfl;simp only[pS,eu.ho,qk,aq,Zo n m (by omega),axp n m (by omega),axq n m (by omega),xbt]
theorem Ow{P:Program}{t tv td tt ts tm tf:TypeId}(h:∀a b c d e f g i,eb P (.struct [a,b,c,d,e,f,g,i]) t=(eb P a tv&&(eb P b td&&(eb P c tt&&(eb P d tt&&(eb P e td&&(eb P f tt&&(eb P g tt&&(eb P i ts&&true))))))))) (aK:eb P Ls tv=true) (az:s5 P w3 td) (aF:∀y,eb P (.slice 4 56 y) tt=eb P y tm) (hm:s5 P py tm) (av:∀y,eb P (.slice 7 104 (.struct [.str,y])) ts=(eb P y tf&&true)) (ba:s5 P rr tf) (an:decide (t<P.types.size)=true):s5 P pS t:=⟨λn=>axr n n (xaQ _),λn=>by rw[pS,h,aK,az.ok n,A7,aF,hm.ok n,Jm,av,ba.ok n];rfl,xaX an,λn=>rfl⟩
structure qG(m:af):Prop where
 v:∀x∈m.vars,V.ok x
 d:∀x∈m.aw,x.cz
 i:∀x∈m.bA,x.cz
 qH:∀x∈m.bE,x.cz
 n:∀x∈m.next,x.cz
 t:∀x∈m.trans,x.cz
 f:∀x∈m.bz,x.cz
 s:∀x∈m.bp,x.name.size<=140737488351232/\x.f.cz
def axs{n:Nat}{x:List D}(h:l8 (.struct [.str,rr n]) x):∃d:cL,x=d.cells/\d.name.size<=140737488351232/\d.f.cz:=by obtain⟨a,b,rfl,aH,c,e,rfl,ai,rfl⟩:=h;obtain⟨s,rfl,av⟩:=Lt aH;obtain⟨t,rfl,aF⟩:=Zn n ai;exact⟨⟨s,t⟩,by simp[cL.cells,Fm.oC],av,aF⟩
end Go.Am
