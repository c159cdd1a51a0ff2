/- Laws, on data. No condition. -/
import Derived.Test.YtknmgdnhongcnaaGreatDoorEngC
import Derived.Test.YtknmgdnhongcnaaGreatDoorCode
import Derived.Test.YtknmgdnhongcnaaGreatDoorEngS
import Derived.Test.YtknmgdnhongcnaaGreatDoorEngD
import Derived.Test.YtknmgdnhongcnaaGreatDoorWs
import Derived.Test.YtknmgdnhongcnaaGreatDoorLaws
set_option linter.all false
set_option linter.unnecessarySimpa false
attribute [simp] Go.Am.A6
namespace Go.Am
section
variable{bt:Bool}{a b:Int}
@[simp] theorem aF4:b9 bt .lss (qH a) (.val (.int .u8 b))=some (ax (decide (a<b))):=rfl
@[simp] theorem Qh:b9 bt .leq (qH a) (.val (.int .u8 b))=some (ax (decide (a<=b))):=rfl
@[simp] theorem aF5:b9 bt .gtr (qH a) (.val (.int .u8 b))=some (ax (decide (a>b))):=rfl
@[simp] theorem Qi:b9 bt .geq (qH a) (.val (.int .u8 b))=some (ax (decide (a>=b))):=rfl
@[simp] theorem azA:b9 bt .eql (qH a) (.val (.int .u8 b))=some (ax (a==b)):=rfl
end
def Qj{s:ByteArray}{i:Nat}{b:UInt8}(h:s[i]?=some b):sZ (aI s) (J (i:Int))=some (qH b.toNat):=by simp[sZ,aI,J,Mk,h,p2,qH]
def agO{s:ByteArray}{b:UInt8}(h:s[0]?=some b):sZ (aI s) (J 0)=some (qH b.toNat):=Qj (i:=0) h
theorem agP(n:Nat)(c:Int):Bp n [qH c]=some (ax (uW c)):=by simp only[Bp,ab9,uW,Qi,Qh,et,ck,ch,b7,aG,a7,bJ,cV,dC,dW,b1,bB,eh,dX,c1,cA,fl,di,dT,eO];cases decide (c>=97)<;>cases decide (c<=122)<;>cases decide (c>=65)<;>cases decide (c<=90)<;>rfl
theorem azB(n:Nat)(c:Int):Ie n [qH c]=some (ax (AK c)):=by simp only[Ie,aca,AK,Qi,Qh,et,ck,ch,b7,aG,a7,bJ,cV,dC,dW,b1,bB,eh,dX,c1,cA,fl,di,dT,eO];cases decide (c>=48)<;>cases decide (c<=57)<;>rfl
theorem agQ(n:Nat)(c:Int):Ig n [qH c]=some (ax (nN c)):=by simp only[Ig,acb,nN,agP,azB,azA,et,ck,ch,b7,aG,a7,bJ,cV,dC,dW,b1,bB,eh,dX,c1,cA,fl,di,dT,eO];cases uW c<;>cases AK c<;>cases(c==95)<;>rfl
theorem agR(n:Nat)(c:Int):Ce n [qH c]=some (ax (uW c)):=by simp only[Ce,acW,uW,Qi,Qh,et,ck,ch,b7,aG,a7,bJ,cV,dC,dW,b1,bB,eh,dX,c1,cA,fl,di,dT,eO];cases decide (c>=97)<;>cases decide (c<=122)<;>cases decide (c>=65)<;>cases decide (c<=90)<;>rfl
theorem azC(n:Nat)(c:Int):JU n [qH c]=some (ax (AK c)):=by simp only[JU,acX,AK,Qi,Qh,et,ck,ch,b7,aG,a7,bJ,cV,dC,dW,b1,bB,eh,dX,c1,cA,fl,di,dT,eO];cases decide (c>=48)<;>cases decide (c<=57)<;>rfl
def agS(p:Int->Bool)(s:ByteArray):(∀j:Nat,j<o2 p s->p1 p s j=true)/\p1 p s (o2 p s)=false/\o2 p s<=s.size:=by
 unfold o2;cases h:(List.range (s.size+1)).find? (λi=>!p1 p s i)with
 |none=>
  exfalso;have ad:=List.find?_eq_none.1 h s.size (by simp);have:p1 p s s.size=true:=by simpa using ad
  exact absurd (al8 this) (xca _)
 |some m=>rw[List.find?_range_eq_some]at h;obtain⟨ad,ae,az⟩:=h;refine⟨λj aR=>by simpa using az j aR,by simpa using ad,by show m<=s.size;simp at ae;omega⟩
def agT{p:Int->Bool}{s:ByteArray}{i:Nat}(h:p1 p s i=true):∃b:UInt8,s[i]?=some b/\p b.toNat=true:=by
 unfold p1 at h;split at h;.exact⟨_,by assumption,h⟩
 cases h
def agU{p:Int->Bool}{s:ByteArray}{i:Nat}(h:p1 p s i=false):(s[i]?=none/\s.size<=i)\/∃b:UInt8,s[i]?=some b/\i<s.size/\p b.toNat=false:=by
 unfold p1 at h;split at h
 .rename_i b an;refine .inr ⟨b,an,?_,h⟩;rw[M7]at an;by_cases ad:i<s.size;.exact ad
  rw[dif_neg ad]at an;cases an
 rename_i an;refine .inl ⟨an,?_⟩;rw[M7]at an;by_cases ad:i<s.size;.rw[dif_pos ad]at an;cases an
 omega
def azD(n:Nat)(s:ByteArray)(aH:s.size<n)(aD:s.size<=9223372036854775807):Ey n [aI s,.val (.func (.func H4) #[] #[])]=some (J (o2 nN s)):=by
 obtain⟨ad,ae,az⟩:=agS nN s;have key:bA (Ih n) n [aI s,J 0]=some (.inl [J (o2 nN s)]):=by
  refine l2 (λi=>[aI s,J i]) (o2 nN s) rfl ?_ ?_ (by omega);.intro i ag;obtain⟨b,an,a1⟩:=agT (ad i ag);simp(disch:=omega) [Ih,Qj an,agQ,a1,fg,show i<s.size by omega]
  rcases agU ae with⟨an,a1⟩|⟨b,an,bY,a1⟩;.simp[Ih,show¬(o2 nN s<s.size) by omega]
  simp[Ih,Qj an,agQ,a1,bY]
 simp[Ey,Ul,key]
def azE(n:Nat)(s:ByteArray)(aH:s.size<n)(aD:s.size<=9223372036854775807):JW n [aI s,J 0,ax false]=some (J (o2 nN s)):=by
 obtain⟨ad,ae,az⟩:=agS nN s;have one:∀(i:Nat)(b:UInt8),s[i]?=some b->i<s.size->JV n [aI s,J i,ax false]=if nN b.toNat=true then some (.inl [aI s,J (i+1:Nat),ax false])else some (.inr (.inl [J i])):=by intro i b an ag;simp(disch:=omega) [JV,Qj an,azC,agR,nN,fg,ag];by_cases azF:((b.toNat:Int)=95)<;>cases AK b.toNat<;>cases uW b.toNat<;>simp[azF]
 have key:bA (JV n) n [aI s,J 0,ax false]=some (.inl [J (o2 nN s)]):=by
  refine l2 (λi=>[aI s,J i,ax false]) (o2 nN s) rfl ?_ ?_ (by omega);.intro i ag;obtain⟨b,an,a1⟩:=agT (ad i ag);rw[one i b an (by omega),xac a1]
  rcases agU ae with⟨an,a1⟩|⟨b,an,bY,a1⟩;.simp[JV,show¬(o2 nN s<s.size) by omega]
  rw[one _ b an bY,xaa (by simp[a1])]
 simp[JW,acY,key]
def vZ(p:Nat->Prop)[DecidablePred p]:∀m:Nat,(∀j:Nat,j<m->¬p j)\/∃i,i<m/\p i/\∀j:Nat,j<i->¬p j
 |0=> .inl (by intro j aR;omega)
 |m+1=>by
  rcases vZ p m with h|⟨i,ad,ae,az⟩
  .by_cases hm:p m;.exact .inr ⟨m,by omega,hm,h⟩
   refine .inl λj aR=>?_;by_cases azG:j=m;.subst azG;exact hm
   exact h j (by omega)
  exact .inr ⟨i,by omega,ae,az⟩
def azH(n:Nat)(l:List ByteArray)(x:ByteArray)(aH:l.length<n)(ak:l.length<4000000000000000000):EA n [dP l,aI x]=some (J (idxOf x l)):=by
 have step:∀(i:Nat)(y:ByteArray),l[i]?=some y->i<l.length->Ez n [dP l,aI x,J l.length,J i]=if x=y then some (.inr (.inr (J i)))else some (.inl [dP l,aI x,J l.length,J (i+1:Nat)]):=by intro i y aO ag;obtain⟨_,rfl⟩:=xae.1 aO;simp(disch:=omega) [Ez,dP,aO,ag,fg]
 rcases vZ (λi=>l[i]?=some x) l.length with h|⟨i,ad,ae,az⟩
 .have key:bA (Ez n) n [dP l,aI x,J l.length,J 0]=some (.inl []):=by
   refine l2 (λi=>[dP l,aI x,J l.length,J i]) l.length rfl ?_ ?_ aH;.intro i ag;have aO:=xab ag;rw[step i _ aO ag,xaa];intro he;exact h i ag (by rw[aO,he])
   simp[Ez]
  have e:(dP l)= .aE 1 (l.map λs=>[aI s]):=rfl;simp[EA,Um,Z5 h];rw[e]at key⊢;simp[key]
 have key:bA (Ez n) n [dP l,aI x,J l.length,J 0]=some (.inr (J i)):=by
  refine l2 (λi=>[dP l,aI x,J l.length,J i]) i rfl ?_ ?_ (by omega);.intro j aR;have aO:=xab (show j<l.length by omega);rw[step j _ aO (by omega),xaa];intro he;exact az j aR (by rw[aO,he])
  rw[step i x ae ad,xac rfl]
 simp[EA,Um,Z6 az ae];have e:(dP l)= .aE 1 (l.map λs=>[aI s]):=rfl;rw[e]at key⊢;simp[key]
def azI(n:Nat)(l:List ByteArray)(x:ByteArray)(aH:l.length<n)(ak:l.length<4000000000000000000):Ii n [dP l,aI x]=some (ax (has x l)):=by simp[Ii,acd,azH n l x aH ak,Z7]
def azJ(n:Nat)(l:List ByteArray)(x:ByteArray)(aH:l.length<n)(ak:l.length<4000000000000000000):E8 n [dP l,aI x]=some (ax (has x l)):=by
 have step:∀(i:Nat)(y:ByteArray),l[i]?=some y->i<l.length->E7 n [dP l,aI x,J i]=if y=x then some (.inr (.inr (ax true)))else some (.inl [dP l,aI x,J (i+1:Nat)]):=by intro i y aO ag;obtain⟨_,rfl⟩:=xae.1 aO;simp(disch:=omega) [E7,dP,aO,ag,fg]
 rcases vZ (λi=>l[i]?=some x) l.length with h|⟨i,ad,ae,az⟩
 .have key:bA (E7 n) n [dP l,aI x,J 0]=some (.inl []):=by
   refine l2 (λi=>[dP l,aI x,J i]) l.length rfl ?_ ?_ aH;.intro i ag;have aO:=xab ag;rw[step i _ aO ag,xaa];intro he;exact h i ag (by rw[aO,he])
   simp[E7,dP]
  simp[E8,U7,key,Z9 h]
 have key:bA (E7 n) n [dP l,aI x,J 0]=some (.inr (ax true)):=by
  refine l2 (λi=>[dP l,aI x,J i]) i rfl ?_ ?_ (by omega);.intro j aR;have aO:=xab (show j<l.length by omega);rw[step j _ aO (by omega),xaa];intro he;exact az j aR (by rw[aO,he])
  rw[step i x ae ad,xac rfl]
 simp[E8,U7,key,Z8 ae]
theorem azK(n:Nat):O2 n []=some (dP words):=rfl
theorem azL:(D.aE 1 (H3.map λc=>[c]))=dP words:=rfl
def W0(n:Nat)(s:ByteArray)(aH:s.size+24<n)(aD:s.size<=9223372036854775807):vl n [aI s]=some (ax (isName s)):=by
 have hw:words.length=24:=rfl;have ad:=azD n s (by omega) aD;have ae:=azI n words s (by omega) (by omega);rcases aaa s with⟨fv,bF⟩|⟨b,fv,bF,an⟩
 .simp[vl,Un,fv,isName,bF]
 simp only[vl,Un,isName,p1,an,agO an,agP,ad,ae,azL,aby,fv,bF,TQ,NI,Ej,Ek,et,ck,ch,b7,aG,a7,bJ,cV,dC,dW,b1,bB,eh,dX,c1,cA,fl,di,dT,eO];cases decide ((s.size:Int)<=24)<;>cases uW b.toNat<;>cases((o2 nN s:Int)==(s.size:Int))<;>cases has s words<;>rfl
def W1(n:Nat)(s:ByteArray)(aH:s.size+24<n)(aD:s.size<=9223372036854775807):vz n [aI s]=some (ax (isName s)):=by
 have hw:words.length=24:=rfl;have ad:=azE n s (by omega) aD;have ae:=azJ n words s (by omega) (by omega);rcases aaa s with⟨fv,bF⟩|⟨b,fv,bF,an⟩
 .simp only[vz,U8,TQ,Ei,et,bF,ck,ch,b7,aG,a7,bJ,cV,dC,dW,b1,bB,eh,dX,c1,cA,fl,di,dT,eO];simp[isName,bF]
 simp only[vz,U8,isName,p1,an,agO an,agR,ad,ae,azK,bF,TQ,NI,Ei,Ej,Ek,et,ck,ch,b7,aG,a7,bJ,cV,dC,dW,b1,bB,eh,dX,c1,cA,fl,di,dT,eO];cases decide ((s.size:Int)<=24)<;>cases uW b.toNat<;>cases((o2 nN s:Int)==(s.size:Int))<;>cases has s words<;>rfl
def azM(n:Nat)(w v:V):EB n [w.d,.ref v.cells 0]=some (ax (decide (w.name=v.name))):=by simp[EB,Uo,V.d,V.cells]
def azN(n:Nat)(l:List V)(v:V)(aH:l.length<n)(ak:l.length<4000000000000000000):Br n [bg l,.fn (.func vh) [] [.ref v.cells 0]]=some (J (idxOf v.name (l.map V.name))):=by
 have hle:(l.map V.name).length=l.length:=by simp
 have step:∀(i:Nat)(y:V),l[i]?=some y->i<l.length->Bq n [bg l,.ref v.cells 0,J l.length,J i]=if y.name=v.name then some (.inr (.inr (J i)))else some (.inl [bg l,.ref v.cells 0,J l.length,J (i+1:Nat)]):=by intro i y aO ag;obtain⟨_,rfl⟩:=xae.1 aO;have ad:=azM n l[i] v;simp only[V.d,V.cells]at ad;simp(disch:=omega) [Bq,bg,ag,fg,V.cells,ad]
 have bK:∀x,Br n [bg l,.fn (.func vh) [] [x]]=R (bA (Bq n) n [bg l,x,J l.length,J 0]) (bj λls=>some (J (-1))):=by intro x;simp only[Br,mC,Up];simp[bg]
 rw[bK];rcases vZ (λi=>(l.map V.name)[i]?=some v.name) l.length with h|⟨i,ad,ae,az⟩
 .have key:bA (Bq n) n [bg l,.ref v.cells 0,J l.length,J 0]=some (.inl []):=by
   refine l2 (λi=>[bg l,.ref v.cells 0,J l.length,J i]) l.length rfl ?_ ?_ aH;.intro i ag;have aO:=xab ag;rw[step i _ aO ag,xaa];intro he;exact h i ag (by rw[xaj,aO,<-he];rfl)
   simp[Bq]
  rw[key,Z5 (by rw[hle];exact h)];rfl
 have key:bA (Bq n) n [bg l,.ref v.cells 0,J l.length,J 0]=some (.inr (J i)):=by
  refine l2 (λi=>[bg l,.ref v.cells 0,J l.length,J i]) i rfl ?_ ?_ (by omega);.intro j aR;have aO:=xab (show j<l.length by omega);rw[step j _ aO (by omega),xaa];intro he;exact az j aR (by rw[xaj,aO,<-he];rfl)
  have aO:=xab ad;rw[step i _ aO ad,xac];rw[xaj,aO]at ae;simpa using ae
 rw[key,Z6 az ae];rfl
def azO(n:Nat)(l:List V)(v:V)(aH:l.length<n)(ak:l.length<4000000000000000000):EC n [bg l,.fn (.func vh) [] [.ref v.cells 0]]=some (ax (has v.name (l.map V.name))):=by simp only[EC,mC,Uq,azN n l v aH ak];simp[Z7]
def W2{k:Nat}{es:List (List D)}{i:Nat}(h:i<=es.length):kt k (.aE k es) none (some (J (i:Int)))=some (.aE k (es.take i)):=by simp[kt,qI,J,h]
def W3(v:V):Bool:=v.bool&&(v.lo !=0||v.ag !=0)
def W4(v:V):Bool:=!v.bool&&(decide (v.lo>v.ag)||yG v||decide (IntKind.i64.wrap (v.ag-v.lo)>=64))
theorem agV(seen:List V)(v:V):M8 seen v=if !isName v.name then 12 else if has v.name (seen.map V.name)then 6 else if W3 v then 3 else if W4 v then 2 else 0:=rfl
def qt(l:List V):Prop:=l.length<1000000000000/\∀v∈l,ow v.lo/\ow v.ag/\v.name.size<=9223372036854775807
def W5(n:Nat)(l:List V)(ak:qt l)(aH:l.length<n)(ln:∀v∈l,v.name.size+24<n)(i:Nat)(ag:i<l.length):Bs n [bg l,bg l,J l.length,J i]=if kr l i=0 then some (.inl [bg l,bg l,J l.length,J (i+1:Nat)])else some (.inr (.inr (.aU [J i,J (kr l i)]))):=by
 have aO:=xab ag;have aN:=ak.2 _ (xbb ag);have bz:=ak.1;have e:kr l i=M8 (l.take i) l[i]:=by simp only[kr,aO]
 rw[e];generalize hw:l[i]=v at*;have ad:=W0 n v.name (ln v (hw▸xbb ag)) (by omega);have ae:=azO n (l.take i) v (by rw[xbq];omega) (by rw[xbq];omega);have az:kt 4 (bg l) none (some (J (i:Int)))=some (bg (l.take i)):=by rw[bg,W2 (by simp;omega),xcb.symm];rfl
 have a3:bp 4 (bg l) (J (i:Int))=some v.cells:=by simp[bg,aO,hw]
 have bx:b9 false .lss (J (i:Int)) (J (l.length:Int))=some (ax true):=by simp[ag]
 have cq:b9 false .add (J (i:Int)) (J 1)=some (J (i+1:Nat)):=by rw[fg (by omega) (by omega)];rfl
 have fs:b9 false .sub (J v.ag) (J v.lo)=some (J (IntKind.i64.wrap (v.ag-v.lo))):=rfl;have hE:bh true 4 0 v.cells=some v.d:=rfl;have ic:aL 4 v.d=true:=rfl;have aX:aa v.d 0=aI v.name:=rfl;have bl:aa v.d 1=ax v.bool:=rfl;have bu:aa v.d 2=J v.lo:=rfl;have bT:aa v.d 3=J v.ag:=rfl;have cM:(D.ref [aI v.name,ax v.bool,J v.lo,J v.ag] 0)= .ref v.cells 0:=rfl;have bb:yG v=(decide ((if v.ag>v.lo then v.ag else v.lo)>255)||decide ((if v.ag<v.lo then v.ag else v.lo)< -255)):=rfl;rw[agV];simp only[Bs,p9,rT,bx,et,ly,xay,a3,hE,ic,p8,aX,bl,bu,bT,cM,abK,abL,ad,ae,az,Ek,o8,Eh,abM,yZ,cq,fs,Ei,ck,ch,b7,aG,a7,bJ,cV,dC,dW,b1,bB,eh,dX,c1,cA,fl,di,dT,eO];rw[W3,W4,bb];cases isName v.name
 .cases decide ((if v.ag>v.lo then v.ag else v.lo)>255)<;>simp
 cases has v.name ((l.take i).map V.name)
 rotate_left
 .cases decide ((if v.ag>v.lo then v.ag else v.lo)>255)<;>simp
 generalize decide ((if v.ag>v.lo then v.ag else v.lo)>255)=fu;generalize decide ((if v.ag<v.lo then v.ag else v.lo)< -255)=eQ;generalize decide (v.lo>v.ag)=iv;generalize decide (IntKind.i64.wrap (v.ag-v.lo)>=64)=sW;generalize (v.lo !=0)=AB;generalize (v.ag !=0)=AD;cases v.bool<;>cases fu<;>cases eQ<;>cases iv<;>cases sW<;>cases AB<;>cases AD<;>rfl
def azP(n:Nat)(l:List V)(ak:qt l)(aH:l.length<n)(ln:∀v∈l,v.name.size+24<n):ED n [bg l]=some (.aU [J (mq l).1,J (mq l).2]):=by
 have bK:ED n [bg l]=R (bA (Bs n) n [bg l,bg l,J l.length,J 0]) (bj λls=>some (D.aU [J 0,J 0])):=by simp[ED,ace,bg]
 rw[bK];rcases vZ (λi=>kr l i≠0) l.length with h|⟨i,ad,ae,az⟩
 .have bL:∀j:Nat,j<l.length->kr l j=0:=λj aR=>by simpa using h j aR
  have key:bA (Bs n) n [bg l,bg l,J l.length,J 0]=some (.inl []):=by
   refine l2 (λi=>[bg l,bg l,J l.length,J i]) l.length rfl ?_ ?_ aH;.intro i ag;rw[W5 n l ak aH ln i ag,xac (bL i ag)]
   simp[Bs]
  rw[key,aac bL];rfl
 have bL:∀j:Nat,j<i->kr l j=0:=λj aR=>by simpa using az j aR
 have key:bA (Bs n) n [bg l,bg l,J l.length,J 0]=some (.inr (.aU [J i,J (kr l i)])):=by
  refine l2 (λi=>[bg l,bg l,J l.length,J i]) i rfl ?_ ?_ (by omega);.intro j aR;rw[W5 n l ak aH ln j (by omega),xac (bL j aR)]
  rw[W5 n l ak aH ln i ad,xaa ae]
 rw[key,aab bL ad rfl ae];rfl
@[simp] theorem agW {a:Int}:ox .u64 (J a)=some (.val (.int .u64 (IntKind.u64.wrap a))):=rfl
theorem Qk{k:IntKind}{a:Int}:ox .i64 (.val (.int k a))=some (J (IntKind.i64.wrap a)):=rfl
def azQ(n:Nat)(v:V)(ad:ow v.lo)(ae:ow v.ag):Ij n [v.d]=some (J v.span):=by
 have bl:aa v.d 1=ax v.bool:=rfl;have bu:aa v.d 2=J v.lo:=rfl;have bT:aa v.d 3=J v.ag:=rfl;have ic:aL 4 v.d=true:=rfl;simp only[Ij,acf,ic,p8,bl,bu,bT,ly,o8,et,agW,Qk,ck,ch,b7,aG,a7,bJ,cV,dC,dW,b1,bB,eh,dX,c1,cA,fl,di,dT,eO];cases an:v.bool with
 |true=>simp[V.Z3 an]
 |false=>
  by_cases bY:v.lo>v.ag;.simp[V.Z4 an bY,bY]
  have hle:v.lo<=v.ag:=by omega
  have aZ:b9 false .sub (.val (.int .u64 (IntKind.u64.wrap v.ag))) (.val (.int .u64 (IntKind.u64.wrap v.lo)))=some (.val (.int .u64 (v.ag-v.lo))):=by show some (D.val (.int .u64 (IntKind.u64.wrap (IntKind.u64.wrap v.ag-IntKind.u64.wrap v.lo))))=_;rw[Z2 ad ae hle]
  have a6:b9 false .lss (.val (.int .u64 (v.ag-v.lo))) (.val (.int .u64 1073741824))=some (ax (decide (v.ag-v.lo<1073741824))):=rfl;simp only[bY,decide_false,xaq,xaB,aZ,a6,et,ly,ck,ch,b7,aG,a7,bJ,cV,dC,dW,b1,bB,eh,dX,c1,cA,fl,di,dT,eO];by_cases hm:v.ag-v.lo<1073741824;.rw[V.Su an hle hm];simp only[hm,decide_true,xay,Qk,et,wrap64 _ (show-9223372036854775808<=v.ag-v.lo by omega) (by omega),ck,ch,b7,aG,a7,bJ,cV,dC,dW,b1,bB,eh,dX,c1,cA,fl,di,dT,eO];rw[fg (by omega) (by omega)];rfl
  rw[V.Sv an hle (by omega)];simp[hm]
def agX(n:Nat)(v:V)(ad:ow v.lo)(ae:ow v.ag):Cf n [v.d]=some (J v.span):=by
 have bl:aa v.d 1=ax v.bool:=rfl;have bu:aa v.d 2=J v.lo:=rfl;have bT:aa v.d 3=J v.ag:=rfl;have ic:aL 4 v.d=true:=rfl;simp only[Cf,ac0,ic,p8,bl,bu,bT,ly,o8,et,agW,ck,ch,b7,aG,a7,bJ,cV,dC,dW,b1,bB,eh,dX,c1,cA,fl,di,dT,eO];cases an:v.bool with
 |true=>simp[V.Z3 an]
 |false=>
  by_cases bY:v.lo>v.ag;.simp[V.Z4 an bY,bY]
  have hle:v.lo<=v.ag:=by omega
  have aZ:b9 false .sub (.val (.int .u64 (IntKind.u64.wrap v.ag))) (.val (.int .u64 (IntKind.u64.wrap v.lo)))=some (.val (.int .u64 (v.ag-v.lo))):=by show some (D.val (.int .u64 (IntKind.u64.wrap (IntKind.u64.wrap v.ag-IntKind.u64.wrap v.lo))))=_;rw[Z2 ad ae hle]
  have a6:b9 false .gtr (.val (.int .u64 (v.ag-v.lo))) (.val (.int .u64 1073741824))=some (ax (decide (v.ag-v.lo>1073741824))):=rfl;simp only[bY,decide_false,xaq,xaB,aZ,a6,et,ly,ck,ch,b7,aG,a7,bJ,cV,dC,dW,b1,bB,eh,dX,c1,cA,fl,di,dT,eO];by_cases hm:v.ag-v.lo>1073741824;.rw[V.Sv an hle (by omega)];simp only[hm,decide_true,xay,et,qR,p9,Qk,ck,ch,b7,aG,a7,bJ,cV,dC,dW,b1,bB,eh,dX,c1,cA,fl,di,dT,eO];rfl
  simp only[hm,decide_false,xaq,xaB,et,qR,p9,Qk,wrap64 _ (show-9223372036854775808<=v.ag-v.lo by omega) (by omega),ck,ch,b7,aG,a7,bJ,cV,dC,dW,b1,bB,eh,dX,c1,cA,fl,di,dT,eO];rw[fg (by omega) (by omega)];simp only[et,ck,ch,b7,aG,a7,bJ,cV,dC,dW,b1,bB,eh,dX,c1,cA,fl,di,dT,eO];by_cases he:v.ag-v.lo=1073741824;.rw[V.Sv an hle (by omega),he];rfl
  rw[V.Su an hle (by omega)]
def V.Lk(v:V):0<=v.span/\v.span<=1073741825:=by
 unfold V.span;split;.omega
 split;.omega
 split<;>omega
def azR{i:Nat}(h:i<=62):((2:Int)^i)<=4611686018427387904/\0<(2:Int)^i:=by
 have ad:(2:Nat)^i<=2^62:=Nat.pow_le_pow_right (by omega) h;have az:((2^i:Nat):Int)=2^i:=by simp
 have ae:(0:Int)<2^i:=Int.pow_pos (by omega);omega
def agY{bt:Bool}{i:Nat}(h:i<=62):b9 bt .shl (J 1) (J (i:Int))=some (J ((2:Int)^i)):=by
 have WN:¬((i:Int)<0):=by omega
 have hm:min i IntKind.i64.bits=i:=by simp[IntKind.bits];omega
 obtain⟨ad,ae⟩:=azR h;have e:IntKind.i64.wrap (1*2^(min i IntKind.i64.bits))=2^i:=by rw[hm,Int.one_mul];exact wrap64 _ (by omega) (by omega)
 simp only[b9,J,p2,WN,xaB,xbZ];rw[e]
def Gf{n:Int}(h:n<=1073741825):bitsOf n<=62/\(∀j:Nat,j<bitsOf n->(2:Int)^j<n)/\n<=2^bitsOf n:=by
 rcases vZ (λi=>n<=(2:Int)^i) 40 with ad|⟨i,ad,ae,az⟩;.exact absurd h (by have:=ad 39 (by omega);simp at this;omega)
 have ji:∀j:Nat,j<i->(2:Int)^j<n:=λj aR=>by have:=az j aR;omega
 rw[al7 ji ae];exact⟨by omega,ji,ae⟩
def azS(n:Nat)(k:Int)(ai:k<=1073741825)(aH:63<n):Ik n [J k]=some (J (bitsOf k)):=by
 obtain⟨ad,ae,az⟩:=Gf ai;have key:bA (N7 n) n [J k,J 0]=some (.inr (J (bitsOf k))):=by
  refine l2 (λi=>[J k,J i]) (bitsOf k) rfl ?_ ?_ (by omega);.intro i ag;have:=ae i ag;simp(disch:=omega) [N7,agY,fg,show((i:Int)<63) by omega,show¬(k<=(2:Int)^i) by omega]
  simp(disch:=omega) [N7,agY,show((bitsOf k:Int)<63) by omega,az]
 simp[Ik,acg,key]
def azT(n:Nat)(k:Int)(ao:-1000<=k)(ai:k<=1073741825)(aH:63<n):J0 n [J k]=some (J (bitsOf k)):=by
 have key:∀(m:Nat)(k:Int)(acc eI:Nat),bitsOf k=m->k<=1073741825->acc+m<=1000->m<eI->bA (O3 n) eI [J k,J acc]=some (.inl [J (acc+m:Nat)]):=by
  intro m
  induction m with
  |zero=>
   intro k acc eI hm ai aB Aq;obtain⟨eI,rfl⟩:∃q,eI=q+1:=⟨eI-1,by omega⟩;have te:¬k>1:=by intro aj;have:=Z1 aj;omega
   rw[l1];simp[O3,te]
  |succ m ih=>
   intro k acc eI hm ai aB Aq;obtain⟨eI,rfl⟩:∃q,eI=q+1:=⟨eI-1,by omega⟩;have te:k>1:=by
    refine xbf λaj=>?_;have:bitsOf k=0:=by unfold bitsOf;rw[xac (by omega)]
    omega
   have bH:=Z1 te;have aZ:k.tdiv 2=k/2:=Int.tdiv_eq_ediv_of_nonneg (by omega);have a6:k.tmod 2=k%2:=Int.tmod_eq_emod_of_nonneg (by omega);have hle:=(Gf ai).1;have z4:=ih (k/2+k%2) (acc+1) eI (by omega) (by omega) (by omega) (by omega);rw[l1];simp(disch:=omega) [O3,te,abx,HV,aZ,a6,wrap64,fg];have b2:((acc:Int)+1)=((acc+1:Nat):Int):=by omega
   rw[b2,z4]
   congr 4
   omega
 have:=key (bitsOf k) k 0 n rfl ai (by have:=(Gf ai).1;omega) (by have:=(Gf ai).1;omega);simp only[xaz]at this;have e:(J ((0:Nat):Int))=J 0:=rfl;rw[e]at this;simp[J0,ac1,this]
theorem agZ(n:Nat)(k:Int):E9 n [J k]=some (ax (decide (k>=-255)&&decide (k<=255))):=by simp only[E9,acZ,Ei,NI,et,ck,ch,b7,aG,a7,bJ,cV,dC,dW,b1,bB,eh,dX,c1,cA,fl,di,dT,eO];cases decide (k>=-255)<;>cases decide (k<=255)<;>rfl
def W6(n:Nat)(l:List V)(i k:Nat)(ag:i<l.length)(ai:k<i)(bz:l.length<1000000000000):JX n [bg l,J i,J k]=if(l[k]'(by omega)).name=l[i].name then some (.inr (.inr (.inr (.inr (.inr (.aU [J i,J 6]))))))else some (.inl [bg l,J i,J (k+1:Nat)]):=by
 have sT:k<l.length:=by omega
 have ad:l[k]?=some l[k]:=xab sT;have ae:l[i]?=some l[i]:=xab ag;simp(disch:=omega) [JX,bg,ai,fg,sT,ag,V.cells]
def azU(n:Nat)(l:List V)(i:Nat)(ag:i<l.length)(bz:l.length<1000000000000)(aH:l.length<n):bA (JX n) n [bg l,J i,J 0]=if has l[i].name ((l.take i).map V.name)=true then some (.inr (.inr (.inr (.inr (.aU [J i,J 6])))))else some (.inl [bg l,J i]):=by
 rcases vZ (λk=>(l.map V.name)[k]?=some l[i].name) i with h|⟨k,ad,ae,az⟩
 .rw[ama h,xaa (by simp)];refine l2 (λk=>[bg l,J i,J k]) i rfl ?_ ?_ (by omega);.intro k ai;rw[W6 n l i k ag ai bz,xaa];intro he;refine h k ai ?_;rw[xaj,xab (show k<l.length by omega),<-he];rfl
  simp[JX]
 have g6:k<l.length:=by omega
 have hw:=xab g6;have MW:(l[k]).name=l[i].name:=by rw[xaj,hw]at ae;simpa using ae
 rw[<-MW,amb ad hw,xac rfl];refine l2 (λk=>[bg l,J i,J k]) k rfl ?_ ?_ (by omega);.intro j aR;rw[W6 n l i j ag (by omega) bz,xaa];intro he;refine az j aR ?_;rw[xaj,xab (show j<l.length by omega),<-he];rfl
 rw[W6 n l i k ag ad bz,xac MW]
def W7(n:Nat)(l:List V)(ak:qt l)(aH:l.length<n)(ln:∀v∈l,v.name.size+24<n)(i:Nat)(ag:i<l.length):Cg n [bg l,J i]=if kr l i=0 then some (.inl [bg l,J (i+1:Nat)])else some (.inr (.inr (.aU [J i,J (kr l i)]))):=by
 have aO:=xab ag;have aN:=ak.2 _ (xbb ag);have bz:=ak.1;have fs:=azU n l i ag ak.1 aH;have e:kr l i=M8 (l.take i) l[i]:=by simp only[kr,aO]
 rw[e];generalize hw:l[i]=v at*;have ad:=W1 n v.name (ln v (hw▸xbb ag)) (by omega);have a3:bp 4 (bg l) (J (i:Int))=some v.cells:=by simp[bg,aO,hw]
 have bx:b9 false .lss (J (i:Int)) (J (l.length:Int))=some (ax true):=by simp[ag]
 have azV:bs (bg l)=some (J l.length):=by simp[bg]
 have cq:b9 false .add (J (i:Int)) (J 1)=some (J (i+1:Nat)):=by rw[fg (by omega) (by omega)];rfl
 have hE:bh true 4 0 v.cells=some v.d:=rfl;have aX:bh false 1 0 v.cells=some (aI v.name):=rfl;have bl:bh false 1 1 v.cells=some (ax v.bool):=rfl;have bu:bh false 1 2 v.cells=some (J v.lo):=rfl;have bT:bh false 1 3 v.cells=some (J v.ag):=rfl;have ic:=agX n v aN.1 aN.2.1;rw[agV];rw[show W4 v=_ from al9 ⟨aN.1,aN.2.1,by omega⟩];simp only[Cg,p9,rT,azV,bx,et,ly,xay,a3,hE,aX,bl,bu,bT,ad,fs,Ek,o8,Eh,yZ,cq,Ei,agZ,ic,ck,ch,b7,aG,a7,bJ,cV,dC,dW,b1,bB,eh,dX,c1,cA,fl,di,dT,eO];rw[W3];cases isName v.name
 .simp
 cases has v.name ((l.take i).map V.name)
 rotate_left
 .simp
 simp only[xbT,xaq,xaB,et,qR,p9,rT,a3,hE,aX,bl,bu,bT,o8,yZ,agZ,ic,Ek,ck,ch,b7,aG,a7,bJ,cV,dC,dW,b1,bB,eh,dX,c1,cA,fl,di,dT,eO];generalize (decide (v.lo>=-255)&&decide (v.lo<=255))=fu;generalize (decide (v.ag>=-255)&&decide (v.ag<=255))=eQ;generalize decide (v.lo>v.ag)=iv;generalize decide (v.span>64)=sW;generalize (v.lo !=0)=AB;generalize (v.ag !=0)=AD;cases v.bool<;>cases fu<;>cases eQ<;>cases iv<;>cases sW<;>cases AB<;>cases AD<;>simp[cq]
def azW(n:Nat)(l:List V)(ak:qt l)(aH:l.length<n)(ln:∀v∈l,v.name.size+24<n):JZ n [bg l]=some (.aU [J (mq l).1,J (mq l).2]):=by
 have bK:JZ n [bg l]=R (bA (Cg n) n [bg l,J 0]) (bj λls=>some (D.aU [J 0,J 0])):=rfl;rw[bK];rcases vZ (λi=>kr l i≠0) l.length with h|⟨i,ad,ae,az⟩
 .have bL:∀j:Nat,j<l.length->kr l j=0:=λj aR=>by simpa using h j aR
  have key:bA (Cg n) n [bg l,J 0]=some (.inl []):=by
   refine l2 (λi=>[bg l,J i]) l.length rfl ?_ ?_ aH;.intro i ag;rw[W7 n l ak aH ln i ag,xac (bL i ag)]
   simp[Cg,bg]
  rw[key,aac bL];rfl
 have bL:∀j:Nat,j<i->kr l j=0:=λj aR=>by simpa using az j aR
 have key:bA (Cg n) n [bg l,J 0]=some (.inr (.aU [J i,J (kr l i)])):=by
  refine l2 (λi=>[bg l,J i]) i rfl ?_ ?_ (by omega);.intro j aR;rw[W7 n l ak aH ln j (by omega),xac (bL j aR)]
  rw[W7 n l ak aH ln i ad,xaa ae]
 rw[key,aab bL ad rfl ae];rfl
def pw(l:List cU)(x:ByteArray):Option Nat:=l.findIdx? (λd=>decide (d.name=x))
def fz:Option Nat->Int
 |some i=>(i:Int)|none=>-1
def xU(o:Option Nat):decide (fz o>=0)=o.isSome:=by cases o with|none=>rfl|some i=>simp[fz]
def ag0(o:Option Nat):decide (fz o<0)=o.isNone:=by cases o with|none=>rfl|some i=>exact yF ((i:Int)<0)
def findIdx_cons{α:Type}(p:α->Bool)(a:α)(r:List α):(a::r).findIdx? p=if p a then some 0 else(r.findIdx? p).map (·+1):=by rw[xbN]
theorem V.nf(v:V):aa v.d 0=aI v.name:=rfl
theorem V.dx(v:V):bh true 4 0 v.cells=some v.d:=rfl
theorem V.eR(v:V):aL 4 v.d=true:=rfl
theorem bm.nf(v:bm):aa v.d 0=aI v.name:=rfl
theorem bm.gw(v:bm):bh true 5 0 v.cells=some v.d:=rfl
def bm.gY(v:bm):aL 5 v.d=true:=by unfold bm.d bm.cells;simp
theorem cU.nf(v:cU):aa v.d 0=aI v.name:=rfl
theorem cU.lz(v:cU):bh true 7 0 v.cells=some v.d:=rfl
def cU.ie(v:cU):aL 7 v.d=true:=cU.agg v
def azX(n:Nat)(d:V)(x:ByteArray):Ji n [d.d,.ref [aI x] 0]=some (ax (decide (d.name=x))):=by show Oy n d.d [aI x]=_;simp only[Oy,go_sem,jk,V.eR,V.nf]
def azY(n:Nat)(l:List V)(x:ByteArray)(aH:l.length<n)(an:l.length<1000000000):BQ n [bg l,D.fn (.func tu) [] [.ref [aI x] 0]]=some (J (fz (eU l x))):=by
 have bK:(J ((0:Nat):Int))=J 0:=rfl;have ag:=dp (f:=Jj n) l (λi (_:Unit)=>[bg l,.ref [aI x] 0,J l.length,J (i:Int)]) (λr _=>match eU r x with|some j=>(Sum.inr (J ((l.length-r.length+j:Nat):Int)):List D⊕D)|none=> .inl []) (λ_ _=>True) ?_ ?_ n 0 () trivial (by omega) (xah _)
 .rw[bK,xak,xbF]at ag;have bH:BQ n [bg l,D.fn (.func tu) [] [.ref [aI x] 0]]=Jk n (bg l) (.ref [aI x] 0):=by
   simp only[BQ,mC]
  rw[bH];cases b4:eU l x with|none=>rw[b4]at ag;simp only[Jk,go_sem,g3,ag,fz]|some j=>rw[b4]at ag;simp only[xaz]at ag;simp only[Jk,go_sem,g3,ag,fz]
 .intro _ _;have:eU [] x=none:=rfl;simp only[Jj,go_sem,yF ((l.length:Int)<l.length),this]
 intro i a _ aB ag _;have cE:=yT ((i:Int)<(l.length:Int));have aj:eU (a::l.drop (i+1)) x=if decide (a.name=x)=true then some 0 else(eU (l.drop (i+1)) x).map (·+1):=findIdx_cons _ a _
 have e:l.length-(a::l.drop (i+1)).length=i:=by simp;omega
 have dj:l.length-(l.drop (i+1)).length=i+1:=by simp;omega
 have ad:=azX n a x;by_cases af:a.name=x;.right;rw[xag af]at ad aj;rw[aj,xac rfl,e];simp only[Jj,go_sem,cE,kz aB,V.dx,ad,xbw]
 left;rw[xao af]at ad aj;rw[aj,xaa (by simp),e,dj];refine⟨(),?_,?_,trivial⟩;.simp only[Jj,go_sem,cE,kz aB,V.dx,ad,cl (bt:=false) (i:=i) (by omega)]
 cases eU (l.drop (i+1)) x with|none=>rfl|some j=>simp;omega
def azZ(n:Nat)(l:List V)(x:ByteArray)(aH:l.length<n)(an:l.length<1000000000):BR n [bg l,D.fn (.func tu) [] [.ref [aI x] 0]]=some (ax (eU l x).isSome):=by
 have bH:BR n [bg l,D.fn (.func tu) [] [.ref [aI x] 0]]=Oz n (bg l) (.ref [aI x] 0):=by simp only[BR,mC]
 rw[bH];simp only[Oz,go_sem,azY n l x aH an,xU]
def az0(n:Nat)(d:bm)(x:ByteArray):Jl n [d.d,.ref [aI x] 0]=some (ax (decide (d.name=x))):=by show OA n d.d [aI x]=_;simp only[OA,go_sem,jk,bm.gY,bm.nf]
def az1(n:Nat)(l:List bm)(x:ByteArray)(aH:l.length<n)(an:l.length<1000000000):BS n [aJ l,D.fn (.func tw) [] [.ref [aI x] 0]]=some (J (fz (dB l x))):=by
 have bK:(J ((0:Nat):Int))=J 0:=rfl;have ag:=dp (f:=Jm n) l (λi (_:Unit)=>[aJ l,.ref [aI x] 0,J l.length,J (i:Int)]) (λr _=>match dB r x with|some j=>(Sum.inr (J ((l.length-r.length+j:Nat):Int)):List D⊕D)|none=> .inl []) (λ_ _=>True) ?_ ?_ n 0 () trivial (by omega) (xah _)
 .rw[bK,xak,xbF]at ag;have bH:BS n [aJ l,D.fn (.func tw) [] [.ref [aI x] 0]]=Jn n (aJ l) (.ref [aI x] 0):=by
   simp only[BS,mC]
  rw[bH];cases b4:dB l x with|none=>rw[b4]at ag;simp only[Jn,go_sem,eT,ag,fz]|some j=>rw[b4]at ag;simp only[xaz]at ag;simp only[Jn,go_sem,eT,ag,fz]
 .intro _ _;have:dB [] x=none:=rfl;simp only[Jm,go_sem,yF ((l.length:Int)<l.length),this]
 intro i a _ aB ag _;have cE:=yT ((i:Int)<(l.length:Int));have aj:dB (a::l.drop (i+1)) x=if decide (a.name=x)=true then some 0 else(dB (l.drop (i+1)) x).map (·+1):=findIdx_cons _ a _
 have e:l.length-(a::l.drop (i+1)).length=i:=by simp;omega
 have dj:l.length-(l.drop (i+1)).length=i+1:=by simp;omega
 have ad:=az0 n a x;by_cases af:a.name=x;.right;rw[xag af]at ad aj;rw[aj,xac rfl,e];simp only[Jm,go_sem,cE,fJ aB,bm.gw,ad,xbw]
 left;rw[xao af]at ad aj;rw[aj,xaa (by simp),e,dj];refine⟨(),?_,?_,trivial⟩;.simp only[Jm,go_sem,cE,fJ aB,bm.gw,ad,cl (bt:=false) (i:=i) (by omega)]
 cases dB (l.drop (i+1)) x with|none=>rfl|some j=>simp;omega
def az2(n:Nat)(l:List bm)(x:ByteArray)(aH:l.length<n)(an:l.length<1000000000):BT n [aJ l,D.fn (.func tw) [] [.ref [aI x] 0]]=some (ax (dB l x).isSome):=by
 have bH:BT n [aJ l,D.fn (.func tw) [] [.ref [aI x] 0]]=OB n (aJ l) (.ref [aI x] 0):=by simp only[BT,mC]
 rw[bH];simp only[OB,go_sem,az1 n l x aH an,xU]
def az3(n:Nat)(d:V)(x:ByteArray):I8 n [d.d,.ref [aI x] 0]=some (ax (decide (d.name=x))):=by show Oo n d.d [aI x]=_;simp only[Oo,go_sem,jk,V.eR,V.nf]
def az4(n:Nat)(l:List V)(x:ByteArray)(aH:l.length<n)(an:l.length<1000000000):BL n [bg l,D.fn (.func Es) [] [.ref [aI x] 0]]=some (J (fz (eU l x))):=by
 have bK:(J ((0:Nat):Int))=J 0:=rfl;have ag:=dp (f:=I9 n) l (λi (_:Unit)=>[bg l,.ref [aI x] 0,J l.length,J (i:Int)]) (λr _=>match eU r x with|some j=>(Sum.inr (J ((l.length-r.length+j:Nat):Int)):List D⊕D)|none=> .inl []) (λ_ _=>True) ?_ ?_ n 0 () trivial (by omega) (xah _)
 .rw[bK,xak,xbF]at ag;have bH:BL n [bg l,D.fn (.func Es) [] [.ref [aI x] 0]]=Ja n (bg l) (.ref [aI x] 0):=by
   simp only[BL,mC]
  rw[bH];cases b4:eU l x with|none=>rw[b4]at ag;simp only[Ja,go_sem,g3,ag,fz]|some j=>rw[b4]at ag;simp only[xaz]at ag;simp only[Ja,go_sem,g3,ag,fz]
 .intro _ _;have:eU [] x=none:=rfl;simp only[I9,go_sem,yF ((l.length:Int)<l.length),this]
 intro i a _ aB ag _;have cE:=yT ((i:Int)<(l.length:Int));have aj:eU (a::l.drop (i+1)) x=if decide (a.name=x)=true then some 0 else(eU (l.drop (i+1)) x).map (·+1):=findIdx_cons _ a _
 have e:l.length-(a::l.drop (i+1)).length=i:=by simp;omega
 have dj:l.length-(l.drop (i+1)).length=i+1:=by simp;omega
 have ad:=az3 n a x;by_cases af:a.name=x;.right;rw[xag af]at ad aj;rw[aj,xac rfl,e];simp only[I9,go_sem,cE,kz aB,V.dx,ad,xbw]
 left;rw[xao af]at ad aj;rw[aj,xaa (by simp),e,dj];refine⟨(),?_,?_,trivial⟩;.simp only[I9,go_sem,cE,kz aB,V.dx,ad,cl (bt:=false) (i:=i) (by omega)]
 cases eU (l.drop (i+1)) x with|none=>rfl|some j=>simp;omega
def az5(n:Nat)(d:bm)(x:ByteArray):Jb n [d.d,.ref [aI x] 0]=some (ax (decide (d.name=x))):=by show Oq n d.d [aI x]=_;simp only[Oq,go_sem,jk,bm.gY,bm.nf]
def az6(n:Nat)(l:List bm)(x:ByteArray)(aH:l.length<n)(an:l.length<1000000000):BM n [aJ l,D.fn (.func tx) [] [.ref [aI x] 0]]=some (J (fz (dB l x))):=by
 have bK:(J ((0:Nat):Int))=J 0:=rfl;have ag:=dp (f:=Jc n) l (λi (_:Unit)=>[aJ l,.ref [aI x] 0,J l.length,J (i:Int)]) (λr _=>match dB r x with|some j=>(Sum.inr (J ((l.length-r.length+j:Nat):Int)):List D⊕D)|none=> .inl []) (λ_ _=>True) ?_ ?_ n 0 () trivial (by omega) (xah _)
 .rw[bK,xak,xbF]at ag;have bH:BM n [aJ l,D.fn (.func tx) [] [.ref [aI x] 0]]=Jd n (aJ l) (.ref [aI x] 0):=by
   simp only[BM,mC]
  rw[bH];cases b4:dB l x with|none=>rw[b4]at ag;simp only[Jd,go_sem,eT,ag,fz]|some j=>rw[b4]at ag;simp only[xaz]at ag;simp only[Jd,go_sem,eT,ag,fz]
 .intro _ _;have:dB [] x=none:=rfl;simp only[Jc,go_sem,yF ((l.length:Int)<l.length),this]
 intro i a _ aB ag _;have cE:=yT ((i:Int)<(l.length:Int));have aj:dB (a::l.drop (i+1)) x=if decide (a.name=x)=true then some 0 else(dB (l.drop (i+1)) x).map (·+1):=findIdx_cons _ a _
 have e:l.length-(a::l.drop (i+1)).length=i:=by simp;omega
 have dj:l.length-(l.drop (i+1)).length=i+1:=by simp;omega
 have ad:=az5 n a x;by_cases af:a.name=x;.right;rw[xag af]at ad aj;rw[aj,xac rfl,e];simp only[Jc,go_sem,cE,fJ aB,bm.gw,ad,xbw]
 left;rw[xao af]at ad aj;rw[aj,xaa (by simp),e,dj];refine⟨(),?_,?_,trivial⟩;.simp only[Jc,go_sem,cE,fJ aB,bm.gw,ad,cl (bt:=false) (i:=i) (by omega)]
 cases dB (l.drop (i+1)) x with|none=>rfl|some j=>simp;omega
def az7(n:Nat)(l:List bm)(x:ByteArray)(aH:l.length<n)(an:l.length<1000000000):BN n [aJ l,D.fn (.func tx) [] [.ref [aI x] 0]]=some (ax (dB l x).isSome):=by
 have bH:BN n [aJ l,D.fn (.func tx) [] [.ref [aI x] 0]]=Ot n (aJ l) (.ref [aI x] 0):=by simp only[BN,mC]
 rw[bH];simp only[Ot,go_sem,az6 n l x aH an,xU]
def az8(n:Nat)(d:bm)(x:ByteArray):Jf n [d.d,.ref [aI x] 0]=some (ax (decide (d.name=x))):=by show Ov n d.d [aI x]=_;simp only[Ov,go_sem,jk,bm.gY,bm.nf]
def az9(n:Nat)(l:List bm)(x:ByteArray)(aH:l.length<n)(an:l.length<1000000000):BO n [aJ l,D.fn (.func Er) [] [.ref [aI x] 0]]=some (J (fz (dB l x))):=by
 have bK:(J ((0:Nat):Int))=J 0:=rfl;have ag:=dp (f:=Jg n) l (λi (_:Unit)=>[aJ l,.ref [aI x] 0,J l.length,J (i:Int)]) (λr _=>match dB r x with|some j=>(Sum.inr (J ((l.length-r.length+j:Nat):Int)):List D⊕D)|none=> .inl []) (λ_ _=>True) ?_ ?_ n 0 () trivial (by omega) (xah _)
 .rw[bK,xak,xbF]at ag;have bH:BO n [aJ l,D.fn (.func Er) [] [.ref [aI x] 0]]=Jh n (aJ l) (.ref [aI x] 0):=by
   simp only[BO,mC]
  rw[bH];cases b4:dB l x with|none=>rw[b4]at ag;simp only[Jh,go_sem,eT,ag,fz]|some j=>rw[b4]at ag;simp only[xaz]at ag;simp only[Jh,go_sem,eT,ag,fz]
 .intro _ _;have:dB [] x=none:=rfl;simp only[Jg,go_sem,yF ((l.length:Int)<l.length),this]
 intro i a _ aB ag _;have cE:=yT ((i:Int)<(l.length:Int));have aj:dB (a::l.drop (i+1)) x=if decide (a.name=x)=true then some 0 else(dB (l.drop (i+1)) x).map (·+1):=findIdx_cons _ a _
 have e:l.length-(a::l.drop (i+1)).length=i:=by simp;omega
 have dj:l.length-(l.drop (i+1)).length=i+1:=by simp;omega
 have ad:=az8 n a x;by_cases af:a.name=x;.right;rw[xag af]at ad aj;rw[aj,xac rfl,e];simp only[Jg,go_sem,cE,fJ aB,bm.gw,ad,xbw]
 left;rw[xao af]at ad aj;rw[aj,xaa (by simp),e,dj];refine⟨(),?_,?_,trivial⟩;.simp only[Jg,go_sem,cE,fJ aB,bm.gw,ad,cl (bt:=false) (i:=i) (by omega)]
 cases dB (l.drop (i+1)) x with|none=>rfl|some j=>simp;omega
def aAa(n:Nat)(d:cU)(x:ByteArray):It n [d.d,.ref [aI x] 0]=some (ax (decide (d.name=x))):=by show N9 n d.d [aI x]=_;simp only[N9,go_sem,jk,cU.ie,cU.nf]
def aAb(n:Nat)(l:List cU)(x:ByteArray)(aH:l.length<n)(an:l.length<1000000000):Bt n [bQ l,D.fn (.func tz) [] [.ref [aI x] 0]]=some (J (fz (pw l x))):=by
 have bK:(J ((0:Nat):Int))=J 0:=rfl;have ag:=dp (f:=Iu n) l (λi (_:Unit)=>[bQ l,.ref [aI x] 0,J l.length,J (i:Int)]) (λr _=>match pw r x with|some j=>(Sum.inr (J ((l.length-r.length+j:Nat):Int)):List D⊕D)|none=> .inl []) (λ_ _=>True) ?_ ?_ n 0 () trivial (by omega) (xah _)
 .rw[bK,xak,xbF]at ag;have bH:Bt n [bQ l,D.fn (.func tz) [] [.ref [aI x] 0]]=Iv n (bQ l) (.ref [aI x] 0):=by
   simp only[Bt,mC]
  rw[bH];cases b4:pw l x with|none=>rw[b4]at ag;simp only[Iv,go_sem,jc,ag,fz]|some j=>rw[b4]at ag;simp only[xaz]at ag;simp only[Iv,go_sem,jc,ag,fz]
 .intro _ _;have:pw [] x=none:=rfl;simp only[Iu,go_sem,yF ((l.length:Int)<l.length),this]
 intro i a _ aB ag _;have cE:=yT ((i:Int)<(l.length:Int));have aj:pw (a::l.drop (i+1)) x=if decide (a.name=x)=true then some 0 else(pw (l.drop (i+1)) x).map (·+1):=findIdx_cons _ a _
 have e:l.length-(a::l.drop (i+1)).length=i:=by simp;omega
 have dj:l.length-(l.drop (i+1)).length=i+1:=by simp;omega
 have ad:=aAa n a x;by_cases af:a.name=x;.right;rw[xag af]at ad aj;rw[aj,xac rfl,e];simp only[Iu,go_sem,cE,nt aB,cU.lz,ad,xbw]
 left;rw[xao af]at ad aj;rw[aj,xaa (by simp),e,dj];refine⟨(),?_,?_,trivial⟩;.simp only[Iu,go_sem,cE,nt aB,cU.lz,ad,cl (bt:=false) (i:=i) (by omega)]
 cases pw (l.drop (i+1)) x with|none=>rfl|some j=>simp;omega
def aAc(n:Nat)(l:List cU)(x:ByteArray)(aH:l.length<n)(an:l.length<1000000000):Bu n [bQ l,D.fn (.func tz) [] [.ref [aI x] 0]]=some (ax (pw l x).isSome):=by
 have bH:Bu n [bQ l,D.fn (.func tz) [] [.ref [aI x] 0]]=Oa n (bQ l) (.ref [aI x] 0):=by simp only[Bu,mC]
 rw[bH];simp only[Oa,go_sem,aAb n l x aH an,xU]
structure su(f:Tm->Tm):Prop where
 op:∀t,(f t).op=t.op
 num:∀t,(f t).num=t.num
 name:∀t,(f t).name=t.name
 al:∀t,(f t).al=t.al.map f
theorem C2:su kQ:=⟨λt=>by rw[K3];rfl,λt=>by rw[K3];rfl,λt=>by rw[K3];rfl,λt=>by rw[K3];rfl⟩
theorem W8:su dn:=⟨λt=>by rw[F6];rfl,λt=>by rw[F6];rfl,λt=>by rw[F6];rfl,λt=>by rw[F6];rfl⟩
def ag1(vs:List V)(nx:Bool)(f:Tm->Tm):∀(ks:List Tm),(∀k∈ks,dR vs nx (f k)=dR vs nx k)->er vs nx (ks.map f)=er vs nx ks
 |[],_=>rfl|k::r,h=>by rw[xaA,er,er,h k (by simp),ag1 vs nx f r λk ai=>h k (by simp[ai])]
def aAd{f:Tm->Tm}(ba:su f)(t:Tm)(l:List Y):g2 (f t) l=g2 t l:=by unfold g2;rw[ba.op,ba.al,xaj];cases ai:t.al[1]? with|none=>rfl|some k=>simp only[xaQ,ba.op,ba.num]
def aAe{f:Tm->Tm}(ba:su f)(vs:List V)(nx:Bool)(t:Tm):dR vs nx (f t)=dR vs nx t:=by
 refine Tm.ind (P:=λt=>dR vs nx (f t)=dR vs nx t) ?_ t;intro t ih;have az:lb vs nx (f t)=lb vs nx t:=by simp only[lb,ba.op,ba.num,ba.name]
 rw[oJ,oJ vs nx t,ba.op,ba.al,az,ag1 vs nx f t.al ih,aAd ba]
def aAf{f:Tm->Tm}(ba:su f)(t:Tm):iq (f t)=iq t:=by simp only[iq,ba.op,ba.num,ba.name,ba.al,xbg]
def ag2(f:Tm->Tm):∀(ks:List Tm),(∀k∈ks,∀d n,cT (f k) d n=cT k d n)->∀d n,e4 (ks.map f) d n=e4 ks d n
 |[],_,_,_=>rfl|k::r,h,d,n=>by rw[xaA,e4,e4,h k (by simp),ag2 f r λk ai=>h k (by simp[ai])]
def aAg{f:Tm->Tm}(ba:su f)(t:Tm):∀d n,cT (f t) d n=cT t d n:=by refine Tm.ind (P:=λt=>∀d n,cT (f t) d n=cT t d n) ?_ t;intro t ih d n;rw[rb,rb t,aAf ba,ba.al,ag2 f t.al ih]
def Gg{f:Tm->Tm}(ba:su f)(vs:List V)(nx:Bool)(t:Tm):gb vs nx (f t)=gb vs nx t:=by unfold gb;rw[aAg ba,aAe ba]
structure Gh(l:List bm)(t:Tm)(p:Tm×Int):Prop where
 a:∀n,301000000<n->ni n [t.d,aJ l]=some (.aU [(if p.2=0 then kQ p.1 else eS).d,J p.2])
 b:∀n,301000000<n->np n [t.d,aJ l]=some (.aU [(if p.2=0 then dn p.1 else eS).d,J p.2])
 x:p.2=0->p.1.bR/\p.1.a9<=12300/\(cT p.1 1 0).1=0/\(kQ p.1).bR/\(dn p.1).bR/\∃h,jX l h t p.1
def Ql{l:List bm}(ak:h4 12300 l)(xV:l.length<=100)(t:Tm)(a4:t.bR)(aQ:t.a9<=12300):∃p,Gh l t p:=by
 by_cases ao:(cT t 1 0).1=0
 case neg=>exact⟨(eS,(cT t 1 0).1),λn aH=>by rw[xaa ao];exact(K2 ak n t a4 aQ (by omega)).1 ao,λn aH=>by rw[xaa ao];exact(Wl ak n t a4 aQ (by omega)).1 ao,λh=>absurd h ao⟩
 cases aw:po l t with
 |false=>exact⟨(eS,14),λn aH=>(K2 ak n t a4 aQ (by omega)).2.1 ao aw,λn aH=>(Wl ak n t a4 aQ (by omega)).2.1 ao aw,λh=>by cases h⟩
 |true=>
  obtain⟨X,h3⟩:=afh ak aQ ((afv l t).1 aw);have gh:(l.length+1)*(12300+1)+12300<=1300000:=by omega
  generalize (l.length+1)*(12300+1)+12300=bH at*;have A:∀n,301000000<n->_:=λn aH=>(K2 ak n t a4 aQ (by omega)).2.2 _ X ao aw h3 (by omega);have B:∀n,301000000<n->_:=λn aH=>(Wl ak n t a4 aQ (by omega)).2.2 _ X ao aw h3 (by omega);obtain⟨bl,bu⟩:=PO X 1 0 (by omega);rw[bl]at A;by_cases az:(cT X 1 0).1=0
  case neg=>simp only[az,xaB]at A B;exact⟨(eS,(cT X 1 0).1),λn aH=>by rw[xaa az];exact A n aH,λn aH=>by rw[xaa az];exact B n aH,λh=>absurd h az⟩
  simp only[az,xay]at A B;have ba:=afC X 1 0 (by omega) az;have ag3:=h3.ok ak a4 aQ;have fi:=ax4 X 1 0 az;have aF6:=(FI X 1 0).2 az;have ag4:=(afx ak h3 a4 aQ).1;rw[ba]at A ag4;exact⟨(X,0),A,B,λ_=>⟨ag3.1,by simp only;omega,az,ag4,ayL X ag3.1,bH,h3⟩⟩
open Classical in
noncomputable def cX(l:List bm)(t:Tm):Tm×Int:=if h:∃p,Gh l t p then Classical.choose h else(eS,0)
def Qm{l:List bm}{t:Tm}(h:∃p,Gh l t p):Gh l t (cX l t):=by unfold cX;rw[dif_pos h];exact Classical.choose_spec h
noncomputable def hl(m:av)(nx:Bool)(t:Tm):Y×Int:=if(cX m.au t).2≠0 then(fK,(cX m.au t).2)else gb m.vars nx (cX m.au t).1
noncomputable def qu(m:av)(nx:Bool)(t:Tm):Int:=if((hl m nx t).2==0&&!(hl m nx t).1.b)=true then 13 else(hl m nx t).2
structure Gi(m:av):Prop where
 d:h4 12300 m.au
 dl:m.au.length<=100
 jL:m.vars.length<=100
def Gi.W9{m:av}(h:Gi m){t:Tm}(a4:t.bR)(aQ:t.a9<=12300):Gh m.au t (cX m.au t):=Qm (Ql h.d h.dl t a4 aQ)
theorem ag5:D.agg [ax false,J 0,J 0]=fK.d:=rfl
theorem px(y:Y):aa y.d 0=ax y.b:=rfl
theorem ag6(y:Y):aa y.d 1=J y.lo:=rfl
theorem ag7(y:Y):aa y.d 2=J y.ag:=rfl
theorem nw(y:Y):aL 3 y.d=true:=rfl
theorem ag8(y:Y):D.agg [ax y.b,J y.lo,J y.ag]=y.d:=rfl
section
variable{m:av}(hm:Gi m)(n:Nat)(aH:301000000<n)
include hm aH
theorem Xa{t:Tm}(a4:t.bR)(aQ:t.a9<=12300)(nx:Bool):vr n [m.d,t.d,ax nx]=some (.aU [(hl m nx t).1.d,J (hl m nx t).2]):=by
 have ov:=hm.W9 a4 aQ;have kS:=hm.jL;unfold hl;generalize cX m.au t=p at*;have ef:=ov.a n aH;by_cases ao:p.2=0
 .obtain⟨x1,js,q1,Xb,Xc,_⟩:=ov.x ao;have bF:(p.2 !=0)=false:=by simp[ao]
  rw[xac ao]at ef;have bd:=WI n m.vars (kQ p.1) nx (by rw[Wn];omega) Xb (by omega);rw[Gg C2]at bd;rw[xaa (by simpa using ao)];simp only[vr,UG,go_sem,av.agg,av.aX,av.bl,ef,bF,bd,nw,px,ag6,ag7,ag8]
 have bF:(p.2 !=0)=true:=by simpa using ao
 rw[xaa ao]at ef;rw[xac ao];simp only[vr,UG,go_sem,av.agg,av.aX,av.bl,ef,bF,ag5]
theorem Xd{t:Tm}(a4:t.bR)(aQ:t.a9<=12300)(nx:Bool):vB n [m.d,t.d,ax nx]=some (.aU [(hl m nx t).1.d,J (hl m nx t).2]):=by
 have ov:=hm.W9 a4 aQ;have kS:=hm.jL;unfold hl;generalize cX m.au t=p at*;have ef:=ov.b n aH;by_cases ao:p.2=0
 .obtain⟨x1,js,q1,Xb,Xc,_⟩:=ov.x ao;have bF:(p.2 !=0)=false:=by simp[ao]
  rw[xac ao]at ef;have bd:=P0 n m.vars (dn p.1) nx (by rw[P1];omega) Xc (by omega);rw[Gg W8]at bd;rw[xaa (by simpa using ao)];simp only[vB,Vo,go_sem,av.agg,av.aX,av.bl,ef,bF,bd,nw,px,ag6,ag7,ag8]
 have bF:(p.2 !=0)=true:=by simpa using ao
 rw[xaa ao]at ef;rw[xac ao];simp only[vB,Vo,go_sem,av.agg,av.aX,av.bl,ef,bF,ag5]
theorem ag9{t:Tm}(a4:t.bR)(aQ:t.a9<=12300)(nx:Bool):y7 n [m.d,t.d,ax nx]=some (J (qu m nx t)):=by
 have bd:=Xa hm n aH a4 aQ nx;unfold qu;by_cases h:((hl m nx t).2==0&&!(hl m nx t).1.b)=true;.rw[xac h];simp only[y7,UH,go_sem,av.agg,av.aX,av.bl,av.bu,av.bT,av.cM,av.cR,av.dc,av.du,av.eta,bd,nw,px,h]
 have bL:((hl m nx t).2==0&&!(hl m nx t).1.b)=false:=by simpa using h
 rw[xaa h];simp only[y7,UH,go_sem,av.agg,av.aX,av.bl,av.bu,av.bT,av.cM,av.cR,av.dc,av.du,av.eta,bd,nw,px,bL]
theorem aha{t:Tm}(a4:t.bR)(aQ:t.a9<=12300)(nx:Bool):zm n [m.d,t.d,ax nx]=some (J (qu m nx t)):=by
 have bd:=Xd hm n aH a4 aQ nx;unfold qu;by_cases h:((hl m nx t).2==0&&!(hl m nx t).1.b)=true;.rw[xac h];simp only[zm,Vp,go_sem,av.agg,av.aX,av.bl,av.bu,av.bT,av.cM,av.cR,av.dc,av.du,av.eta,bd,nw,px,h]
 have bL:((hl m nx t).2==0&&!(hl m nx t).1.b)=false:=by simpa using h
 rw[xaa h];simp only[zm,Vp,go_sem,av.agg,av.aX,av.bl,av.bu,av.bT,av.cM,av.cR,av.dc,av.du,av.eta,bd,nw,px,bL]
end
def xW(N:Nat)(S:List Nat):List (List D):=(List.range N).map λj=>[ax (decide (j∈S))]
def kU(N:Nat)(S:List Nat):D:= .aE 1 (xW N S)
def Ll(N:Nat)(S:List Nat):(xW N S).length=N:=by simp[xW]
def Lm{N:Nat}{S:List Nat}{k:Nat}(h:k<N):(xW N S)[k]?=some [ax (decide (k∈S))]:=by simp[xW,h]
def ahb(N:Nat):List.replicate N [ax false]=xW N []:=by
 apply xbR;intro j;by_cases h:j<N;.rw[Lm h];simp[h]
 rw[xaT (by simp;omega),xaT (by rw[Ll];omega)]
def aAh{N:Nat}{S:List Nat}{k:Nat}(h:k<N):(xW N S).set k [ax true]=xW N (S++[k]):=by
 apply xbR;intro j;by_cases aR:j<N
 .rw[Lm aR,List.getElem?_set];by_cases e:k=j;.subst e;simp[Ll,h]
  rw[xaa e,Lm aR];have:(j∈S++[k])↔j∈S:=by simp;omega
  simp only[this]
 rw[xaT (by simp[Ll];omega),xaT (by rw[Ll];omega)]
def iQ(S:List Nat)(ks:List Nat):List Nat:=ks.foldl (λS k=>if k∈S then S else S++[k]) S
theorem Ln(S:List Nat)(k:Nat)(r:List Nat):iQ S (k::r)=iQ (if k∈S then S else S++[k]) r:=rfl
structure aAi(N:Nat)(S ks e8:List Nat):Prop where
 inv:ju N e8
 pre:∃T,e8=S++T
 mem:∀k∈ks,k∈e8
 of:∀x∈e8,x∈S\/x∈ks
def Qn{N:Nat}:∀(ks S:List Nat),ju N S->(∀k∈ks,k<N)->aAi N S ks (iQ S ks)
 |[],S,h,_=>⟨h,⟨[],by simp[iQ]⟩,by simp,λx af=> .inl af⟩
 |k::r,S,h,ai=>by
  rw[Ln];by_cases eH:k∈S
  .rw[xac eH];have g:=Qn r S h λx af=>ai x (by simp[af]);obtain⟨T,bd⟩:=g.pre;refine⟨g.inv,g.pre,λx af=>?_,λx af=>(g.of x af).elim .inl λh=> .inr (by simp[h])⟩;rcases xas.1 af with rfl|af
   .rw[bd];simp[eH]
   exact g.mem x af
  rw[xaa eH];have g:=Qn r (S++[k]) (h.snoc (ai k (by simp)) eH) λx af=>ai x (by simp[af]);obtain⟨T,bd⟩:=g.pre;refine⟨g.inv,⟨[k]++T,by rw[bd];simp⟩,λx af=>?_,λx af=>?_⟩
  .rcases xas.1 af with rfl|af;.rw[bd];simp
   exact g.mem x af
  rcases g.of x af with h|h
  .rcases xaJ.1 h with h|h;.exact .inl h
   simp at h;subst h;exact .inr (by simp)
  exact .inr (by simp[h])
def xX(to:Nat->List Nat)(i:Nat):Nat->Nat->List Nat->List Nat
 |0,_,S=>S|m+1,k,S=>match(i::S)[k]? with|some x=>xX to i m (k+1) (iQ S (to x))|none=>S
structure sw(to:Nat->List Nat)(N i k:Nat)(S:List Nat):Prop where
 inv:ju N S
 le:k<=S.length+1
 xI:∀j x,j<k->(i::S)[j]?=some x->∀y∈to x,y∈S
 ui:∀x∈S,∃j∈to i,kP to j x
def kP.snoc{to:Nat->List Nat}{i j k:Nat}(h:kP to i j)(bL:k∈to j):kP to i k:=h.trans (.step j k k bL (.refl k))
def sw.next{to:Nat->List Nat}{N i k:Nat}{S:List Nat}(h:sw to N i k S)(lv:∀i,∀k∈to i,k<N){x:Nat}(af:(i::S)[k]?=some x):sw to N i (k+1) (iQ S (to x)):=by
 have g:=Qn (to x) S h.inv (lv x);obtain⟨T,bd⟩:=g.pre;have ai:k<S.length+1:=by have:=(xae.1 af).1;simpa using this
 have aAj:∀j y,j<=k->(i::iQ S (to x))[j]?=some y->(i::S)[j]?=some y:=by intro j y aR aO;rw[bd,<-List.cons_append,xaM (by simp;omega)]at aO;exact aO
 refine⟨g.inv,by rw[bd];simp;omega,?_,?_⟩
 .intro j y aR aO z bF;have wu:=aAj j y (by omega) aO;by_cases e:j=k
  .subst e;rw[af]at wu;cases wu;exact g.mem z bF
  have:=h.xI j y (by omega) wu z bF;rw[bd];simp[this]
 intro y aO;rcases g.of y aO with ad|ad
 .exact h.ui y ad
 cases k with|zero=>simp at af;subst af;exact⟨y,ad,.refl y⟩|succ k=>have V4:x∈S:=xad (by simpa using af);obtain⟨j,aR,aw⟩:=h.ui x V4;exact⟨j,aR,aw.snoc ad⟩
def Xe{to:Nat->List Nat}{N i:Nat}(lv:∀i,∀k∈to i,k<N):∀(m k:Nat)(S:List Nat),sw to N i k S->N+1-k<m->(i∈xX to i m k S↔∃j∈to i,kP to j i)
 |0,_,_,_,h=>absurd h (xar _)
 |m+1,k,S,h,hm=>by
  rw[xX];have bz:=h.inv.len;cases af:(i::S)[k]? with
  |some x=>
   have ai:k<S.length+1:=by have:=(xae.1 af).1;simpa using this
   exact Xe lv m (k+1) _ (h.next lv af) (by omega)
  |none=>
   have ai:S.length+1<=k:=by have:=List.getElem?_eq_none_iff.1 af;simpa using this
   refine⟨λag=>h.ui i ag,?_⟩;have jh:∀a b,kP to a b->a∈S->b∈S:=by
    intro a b mP
    induction mP with|refl=>exact λh=>h|step p q r GY _ ih=>intro a1;obtain⟨j,aR⟩:=xaK.1 a1;have cE:=(xae.1 aR).1;exact ih (h.xI (j+1) p (by omega) (by simpa using aR) q GY)
   rintro⟨j,aR,aw⟩;exact jh j i aw (h.xI 0 i (by omega) (by simp) j aR)
def sw.start(to:Nat->List Nat)(N i:Nat):sw to N i 0 []:=⟨⟨by simp,by simp⟩,by simp,by intro j x h;omega,by simp⟩
theorem uv(x:List Nat):D.aE 1 (aP (dr x))=dr x:=rfl
def Lo(x:List Nat):(aP (dr x)).length=x.length:=by simp[dr]
def ahc(x:List Nat)(k:Nat):D.aE 1 (aP (dr x)++[[J (k:Int)]])=dr (x++[k]):=by simp[dr]
def ahd{x:List Nat}{j k:Nat}(h:x[j]?=some k):(aP (dr x))[j]?=some [J (k:Int)]:=by simp[dr,h]
theorem qv(N:Nat)(x:List Nat):D.aE 1 (aP (kU N x))=kU N x:=rfl
def Lp(N:Nat)(x:List Nat):(aP (kU N x)).length=N:=Ll N x
def Lq{N:Nat}{S:List Nat}{k:Nat}(h:k<N):(aP (kU N S))[k]?=some [ax (decide (k∈S))]:=Lm h
theorem ahe{N:Nat}{S:List Nat}{k:Nat}(h:k<N){w:Bool}:D.aE 1 ((aP (kU N S)).set k (om [ax w] 0 [ax true]))=kU N (S++[k]):=by show D.aE 1 ((xW N S).set k [ax true])=_;rw[aAh h];rfl
theorem C3(b:Bool):bh false 1 0 [ax b]=some (ax b):=rfl
theorem Gj(i:Int):bh false 1 0 [J i]=some (J i):=rfl
theorem Gk(s:ByteArray):bh false 1 0 [aI s]=some (aI s):=rfl
theorem Qo{p:Option D}:dA (ax true) true p=p:=rfl
theorem ahf{p:Option D}:dA (ax false) true p=some kG:=rfl
theorem Qp{a b:D}:fW (ax true) a b=some a:=rfl
theorem ahg{a b:D}:fW (ax false) a b=some b:=rfl
def ahh{l:List bm}{x:ByteArray}{k:Nat}(h:dB l x=some k):k<l.length:=by obtain⟨_,_,_,h⟩:=Ub h;exact h
def aAk(n:Nat)(l:List bm){B:Nat}(ak:h4 B l)(i k:Nat)(lK:List ByteArray)(S:List Nat)(c3:ju l.length S)(ai:k<=S.length+1)(fM:lK.length<=B)(aH:2*B+100<n):bA (BP n) n [aJ l,J (i:Int),dP lK,J lK.length,J 0,kU l.length S,dr ((i::S).drop k)]=some (.inl [aJ l,J (i:Int),kU l.length (iQ S (lK.filterMap (dB l))),dr ((i::iQ S (lK.filterMap (dB l))).drop k)]):=by
 have bz:=ak.len;have an:=ak.b;have ag:=dp (f:=BP n) lK (λj (s:List Nat)=>[aJ l,J (i:Int),dP lK,J lK.length,J (j:Int),kU l.length s,dr ((i::s).drop k)]) (λr s=>(.inl [aJ l,J (i:Int),kU l.length (iQ s (r.filterMap (dB l))),dr ((i::iQ s (r.filterMap (dB l))).drop k)]:List D⊕(List D⊕(List D⊕(List D⊕D))))) (λj s=>ju l.length s/\k<=s.length+1) (λs _=>by simp only[BP,go_sem,yF ((lK.length:Int)<lK.length),qv,uv];rfl) ?_ n 0 S ⟨c3,ai⟩ (by omega) (xah _)
 .exact ag
 rintro j x s af aR ⟨ad,ae⟩;have e5:=az9 n l x (by omega) (by omega);have nr:=ad.len;have cE:=yT ((j:Int)<(lK.length:Int));left;cases aF:dB l x with
 |none=>rw[aF]at e5;refine⟨s,?_,by simp[aF],ad,ae⟩;have hg:decide (fz none>=0)=false:=rfl;simp only[BP,go_sem,cE,KT af,Gk,e5,hg,ahf,ahg,qv,uv,cl (bt:=false) (i:=j) (by omega)]
 |some y=>
  have aO:=ahh aF;rw[aF]at e5;have hg:decide ((y:Int)>=0)=true:=xag (by omega);have fy:c4 l.length (J (y:Int))=some y:=by rw[oD,xac aO]
  have Lr:fz (some y)=(y:Int):=rfl;by_cases o6:y∈s;.refine⟨s,?_,by simp[aF,Ln,o6],ad,ae⟩;simp only[BP,go_sem,cE,KT af,Gk,e5,Lr,hg,Lp,fy,Lq aO,C3,xag o6,Qo,Qp,qv,uv,cl (bt:=false) (i:=j) (by omega)]
  have az:=ad.snoc aO o6;refine⟨s++[y],?_,by simp only[xbM,aF,Ln,xaa o6],az,by simp;omega⟩;have aZ:(i::(s++[y])).drop k=(i::s).drop k++[y]:=by rw[<-List.cons_append,List.drop_append_of_le_length (by simpa using ae)]
  have eo:dd (((i::s).drop k).length+1) 8=true:=gC (by simp;omega) (by simp;omega);rw[aZ];simp only[BP,go_sem,cE,KT af,Gk,e5,Lr,hg,Lp,fy,Lq aO,C3,xao o6,Qo,Qp,Lo,xax,xaP,xaz,eo,ahe aO,ahc,qv,uv,cl (bt:=false) (i:=j) (by omega)]
def ahi(n:Nat)(l:List bm){B:Nat}(ak:h4 B l)(i:Nat)(cb:i<l.length)(aH:4*B+200<n):∀(m k:Nat)(S:List Nat),sw (to l) l.length i k S->l.length+1-k<m->bA (Ow n) m [aJ l,J (i:Int),kU l.length S,dr ((i::S).drop k)]=some (.inl [J (i:Int),kU l.length (xX (to l) i m k S)])
 |0,_,_,_,h=>absurd h (xar _)
 |m+1,k,S,h,hm=>by
  have bz:=ak.len;have an:=ak.b;rw[l1,xX];have aAl:=h.inv.len;have hle:=h.le;cases af:(i::S)[k]? with
  |none=>
   have ai:S.length+1<=k:=by have:=List.getElem?_eq_none_iff.1 af;simpa using this
   have bK:(i::S).drop k=[]:=xch (by simpa using ai);rw[bK];have aZ:(aP (dr [])).length=0:=rfl;have a6:decide (((0:Nat):Int)>0)=false:=rfl;simp only[Ow,go_sem,aZ,a6,qv]
  |some x=>
   have ai:k<S.length+1:=by have:=(xae.1 af).1;simpa using this
   have uO:x<l.length:=by cases k with|zero=>simp at af;omega|succ k=>exact h.inv.2 x (xad (by simpa using af))
   obtain⟨d,aF⟩:∃d,l[x]?=some d:=⟨l[x],xab uO⟩;have h6:=ak.e d (xad aF);have m3:=h.next (λi k ai=>ma i k ai) af
   have ih:=ahi n l ak i cb aH m (k+1) _ m3 (by omega);have cj:=PE n d.e (by omega) h6.1 (by omega);have aAm:=FM d.e;have fs:=aAk n l ak i k (ga 3 d.e []) S h.inv hle (by omega) (by omega);have lv:(ga 3 d.e []).filterMap (dB l)=to l x:=by rw[FN aF];rfl
   rw[lv]at fs;obtain⟨T,bd⟩:=(Qn (N:=l.length) (to l x) S h.inv (ma x)).pre;have Ap:((i::iQ S (to l x)).drop k).length=(iQ S (to l x)).length+1-k:=by simp
   have HT:=m3.le;have ahj:((i::S).drop k).length=S.length+1-k:=by simp
   have yj:decide (((((i::S).drop k).length:Nat):Int)>0)=true:=xag (by rw[ahj];omega);have aAn:((i::S).drop k)[0]?=some x:=by rw[xbk];exact af
   have fy:c4 ((i::S).drop k).length (J 0)=some 0:=by have:(J 0)=J ((0:Nat):Int):=rfl;rw[this,oD,xac (by rw[ahj];omega)]
   have aAo:qJ ((i::iQ S (to l x)).drop k).length (some (J 1)) none=some (1,((i::iQ S (to l x)).drop k).length-1):=by
    have ad:1<=((i::iQ S (to l x)).drop k).length:=by rw[Ap];omega
    generalize ((i::iQ S (to l x)).drop k).length=q at*;have:(J 1)=J ((1:Nat):Int):=rfl;rw[this];simp[qJ,qI,J,ad]
   have aAp:decide (1+(((i::iQ S (to l x)).drop k).length-1)<=((i::iQ S (to l x)).drop k).length)=true:=xag (by rw[Ap];omega);have aAq:D.aE 1 (((aP (dr ((i::iQ S (to l x)).drop k))).drop 1).take (((i::iQ S (to l x)).drop k).length-1))=dr ((i::iQ S (to l x)).drop (k+1)):=by
    have b2:((((i::iQ S (to l x)).drop k).drop 1).take (((i::iQ S (to l x)).drop k).length-1))=(i::iQ S (to l x)).drop (k+1):=by rw[List.drop_drop,xbB];simp;omega
    show D.aE 1 (((((i::iQ S (to l x)).drop k).map λ(i:Nat)=>[J (i:Int)]).drop 1).take _)=dr _;rw[<-b2];unfold dr;simp only[xcb,List.map_drop]
   simp only[Ow,go_sem,Lo,yj,fy,ahd aAn,Gj,fJ aF,bm.hH,cj,KU,qv,uv,fs,aAo,aAp,aAq,ih]
def aAr(n:Nat)(m:av){l:List bm}{B:Nat}(ak:h4 B l)(i:Nat)(ag:i<l.length)(aH:4*B+200<n):EN n [aJ l,m.d,J (i:Int)]=some (J (if jW l i=true then 14 else 0)):=by
 have bz:=ak.len;have an:=ak.b;have az:=ahi n l ak i ag aH n 0 [] (sw.start _ _ _) (by omega);have Gl:=Xe (λi k ai=>ma i k ai) n 0 [] (sw.start (to l) l.length i) (by omega);rw[<-V6 l i]at Gl;generalize xX (to l) i n 0 []=S at*;have K0:s3 1 (J (l.length:Int)) (J (l.length:Int))=some l.length:=by simp[s3,J];omega
 have aZ:D.aE 1 (List.replicate l.length [ax false])=kU l.length []:=by rw[ahb];rfl
 have a6:D.aE 1 [[J (i:Int)]]=dr ((i::[]).drop 0):=rfl;have fy:c4 l.length (J (i:Int))=some i:=by rw[oD,xac ag]
 simp only[EN,acH,go_sem,av.agg,eT,K0,aZ,a6,az,Lp,fy,Lq ag,C3];by_cases h:jW l i=true;.rw[xac h,xac (xag (Gl.2 h))]
 rw[xaa h,xaa (by simpa usingλbH=>h (Gl.1 bH))]
def ahk(n:Nat)(m:av)(x:ByteArray)(aH:m.au.length<n)(ak:m.au.length<1000000000):Ci n [m.d,aI x]=some (J (fz (dB m.au x))):=by
 have ag:=dp (f:=J3 n) m.au (λi (_:Unit)=>[aI x,J (i:Int),bg m.vars,aJ m.au,ar m.bG,ar m.bE,aJ m.next,ar m.trans,ar m.br,bQ m.bw]) (λr _=>match dB r x with|some j=>(Sum.inr (J ((m.au.length-r.length+j:Nat):Int)):List D⊕D)|none=> .inl []) (λ_ _=>True) (λ_ _=>by simp[J3,eT,dB]) ?_ n 0 () trivial (by omega) (xah _);.have bK:(J ((0:Nat):Int))=J 0:=rfl;rw[bK]at ag;simp only[Ci,ac4,go_sem,av.agg,av.aX,av.bl,av.bu,av.bT,av.cM,av.cR,av.dc,av.du,ag,xak];cases dB m.au x<;>simp[fz]
 intro i a _ aB ag _;have e:m.au.length-(a::m.au.drop (i+1)).length=i:=by simp;omega
 have dj:m.au.length-(m.au.drop (i+1)).length=i+1:=by simp;omega
 have oW:dB (a::m.au.drop (i+1)) x=if a.name=x then some 0 else(dB (m.au.drop (i+1)) x).map (·+1):=by simp[dB,xbN]
 have ab:a.cells[0]?=some (aI a.name):=rfl;by_cases af:a.name=x;.right;rw[oW,xac af,e];simp[J3,eT,ag,fJ aB,ab,af]
 left;refine⟨(),by simp[J3,eT,ag,fJ aB,ab,af,cl (bt:=false) (i:=i) (by omega)],?_,trivial⟩;rw[oW,xaa af,e,dj];cases dB (m.au.drop (i+1)) x with|none=>rfl|some j=>simp;omega
def ahl(n:Nat)(m:av)(x:ByteArray)(aH:m.vars.length<n)(ak:m.vars.length<1000000000):Ch n [m.d,aI x]=some (J (fz (eU m.vars x))):=by
 have ag:=dp (f:=J2 n) m.vars (λi (_:Unit)=>[aI x,J (i:Int),bg m.vars,aJ m.au,ar m.bG,ar m.bE,aJ m.next,ar m.trans,ar m.br,bQ m.bw]) (λr _=>match eU r x with|some j=>(Sum.inr (J ((m.vars.length-r.length+j:Nat):Int)):List D⊕D)|none=> .inl []) (λ_ _=>True) (λ_ _=>by simp[J2,g3,eU]) ?_ n 0 () trivial (by omega) (xah _);.have bK:(J ((0:Nat):Int))=J 0:=rfl;rw[bK]at ag;simp only[Ch,ac3,go_sem,av.agg,av.aX,av.bl,av.bu,av.bT,av.cM,av.cR,av.dc,av.du,ag,xak];cases eU m.vars x<;>simp[fz]
 intro i a _ aB ag _;have e:m.vars.length-(a::m.vars.drop (i+1)).length=i:=by simp;omega
 have dj:m.vars.length-(m.vars.drop (i+1)).length=i+1:=by simp;omega
 have oW:eU (a::m.vars.drop (i+1)) x=if a.name=x then some 0 else(eU (m.vars.drop (i+1)) x).map (·+1):=by simp[eU,xbN]
 have ab:a.cells[0]?=some (aI a.name):=rfl;by_cases af:a.name=x;.right;rw[oW,xac af,e];simp[J2,g3,ag,kz aB,ab,af]
 left;refine⟨(),by simp[J2,g3,ag,kz aB,ab,af,cl (bt:=false) (i:=i) (by omega)],?_,trivial⟩;rw[oW,xaa af,e,dj];cases eU (m.vars.drop (i+1)) x with|none=>rfl|some j=>simp;omega
def aAs(n:Nat)(m:av){B:Nat}(ak:h4 B m.au)(i:Nat)(k:Int)(lK:List ByteArray)(S:List Nat)(c3:ju m.au.length S)(fM:lK.length<=B)(aH:2*B+100<n):bA (Cl n) n [J k,kO true lK,J 0,bg m.vars,aJ m.au,ar m.bG,ar m.bE,aJ m.next,ar m.trans,ar m.br,bQ m.bw,kU m.au.length S,dr (i::S)]=some (.inl [J k,bg m.vars,aJ m.au,ar m.bG,ar m.bE,aJ m.next,ar m.trans,ar m.br,bQ m.bw,kU m.au.length (iQ S (lK.filterMap (dB m.au))),dr (i::iQ S (lK.filterMap (dB m.au)))]):=by
 have bz:=ak.len;have an:=ak.b;have ag:=dp (f:=Cl n) lK (λj (s:List Nat)=>[J k,kO true lK,J (j:Int),bg m.vars,aJ m.au,ar m.bG,ar m.bE,aJ m.next,ar m.trans,ar m.br,bQ m.bw,kU m.au.length s,dr (i::s)]) (λr s=>(.inl [J k,bg m.vars,aJ m.au,ar m.bG,ar m.bE,aJ m.next,ar m.trans,ar m.br,bQ m.bw,kU m.au.length (iQ s (r.filterMap (dB m.au))),dr (i::iQ s (r.filterMap (dB m.au)))]:List D⊕(List D⊕(List D⊕(List D⊕D))))) (λj s=>ju m.au.length s) (λs _=>by simp only[Cl,go_sem,pk,yF ((lK.length:Int)<lK.length),qv,uv];rfl) ?_ n 0 S c3 (by omega) (xah _)
 .exact ag
 rintro j x s af aR ad;have e5:=ahk n m x (by omega) (by omega);have nr:=ad.len;have gd:=CQ (nl:=true) af;have cE:=yT ((j:Int)<(lK.length:Int));left;cases aF:dB m.au x with
 |none=>rw[aF]at e5;refine⟨s,?_,by simp[aF],ad⟩;have hg:decide (fz none>=0)=false:=rfl;simp only[Cl,go_sem,pk,cE,gd,Gk,av.eta,e5,hg,ahf,ahg,qv,uv,cl (bt:=false) (i:=j) (by omega)]
 |some y=>
  have aO:=ahh aF;rw[aF]at e5;have hg:decide ((y:Int)>=0)=true:=xag (by omega);have fy:c4 m.au.length (J (y:Int))=some y:=by rw[oD,xac aO]
  have Lr:fz (some y)=(y:Int):=rfl;by_cases o6:y∈s;.refine⟨s,?_,by simp[aF,Ln,o6],ad⟩;simp only[Cl,go_sem,pk,cE,gd,Gk,av.eta,e5,Lr,hg,Lp,fy,Lq aO,C3,xag o6,Qo,Qp,qv,uv,cl (bt:=false) (i:=j) (by omega)]
  have az:=ad.snoc aO o6;refine⟨s++[y],?_,by simp only[xbM,aF,Ln,xaa o6],az⟩;have aZ:i::(s++[y])=(i::s)++[y]:=rfl;have eo:dd ((i::s).length+1) 8=true:=gC (by simp;omega) (by simp;omega);rw[aZ];simp only[Cl,go_sem,pk,cE,gd,Gk,av.eta,e5,Lr,hg,Lp,fy,Lq aO,C3,xao o6,Qo,Qp,Lo,xax,xaP,xaz,ahe aO,ahc,qv,uv,cl (bt:=false) (i:=j) (by omega)]at eo⊢;simp only[eo,p8,et,qR,p9,rT,cl (bt:=false) (i:=j) (by omega),qv,uv,ck,ch,b7,aG,a7,bJ,cV,dC,dW,b1,bB,eh,dX,c1,cA,fl,di,dT,eO]
def ahm(n:Nat)(kV:av){B:Nat}(ak:h4 B kV.au)(i:Nat)(cb:i<kV.au.length)(aH:4*B+200<n):∀(m k:Nat)(S:List Nat),sw (to kV.au) kV.au.length i k S->kV.au.length+1-k<m->bA (O7 n) m [J (k:Int),bg kV.vars,aJ kV.au,ar kV.bG,ar kV.bE,aJ kV.next,ar kV.trans,ar kV.br,bQ kV.bw,kU kV.au.length S,dr (i::S)]=some (.inl [kU kV.au.length (xX (to kV.au) i m k S)])
 |0,_,_,_,h=>absurd h (xar _)
 |m+1,k,S,h,hm=>by
  have bz:=ak.len;have an:=ak.b;rw[l1,xX];have aAl:=h.inv.len;have hle:=h.le;cases af:(i::S)[k]? with
  |none=>
   have ai:S.length+1<=k:=by have:=List.getElem?_eq_none_iff.1 af;simpa using this
   have a6:decide ((k:Int)<(((i::S).length:Nat):Int))=false:=xao (by simp;omega);simp only[O7,go_sem,Lo,a6,qv]
  |some x=>
   have ai:k<S.length+1:=by have:=(xae.1 af).1;simpa using this
   have uO:x<kV.au.length:=by cases k with|zero=>simp at af;omega|succ k=>exact h.inv.2 x (xad (by simpa using af))
   obtain⟨d,aF⟩:∃d,kV.au[x]?=some d:=⟨kV.au[x],xab uO⟩;have h6:=ak.e d (xad aF);have m3:=h.next (λi k ai=>ma i k ai) af
   have ih:=ahm n kV ak i cb aH m (k+1) _ m3 (by omega);have cj:=V1 n d.e (by omega) h6.1 (by omega);have aAm:=FM d.e;have fs:=aAs n kV ak i k (ga 3 d.e []) S h.inv (by omega) (by omega);have lv:(ga 3 d.e []).filterMap (dB kV.au)=to kV.au x:=by rw[FN aF];rfl
   rw[lv]at fs;have yj:decide ((k:Int)<(((i::S).length:Nat):Int))=true:=xag (by simp;omega);have fy:c4 (i::S).length (J (k:Int))=some k:=by rw[oD,xac (by simpa using ai)]
   have te:((k:Int)+1)=((k+1:Nat):Int):=by omega
   simp only[O7,go_sem,Lo,yj,fy,ahd af,Gj,fJ aF,bm.hH,cj,qv,uv,fs,cl (bt:=false) (i:=k) (by omega),ih]
def aAt(n:Nat)(m:av){B:Nat}(ak:h4 B m.au)(i:Nat)(ag:i<m.au.length)(aH:4*B+200<n):∃S,J7 n [m.d,J (i:Int)]=some (kU m.au.length S)/\(i∈S↔jW m.au i=true):=by
 have bz:=ak.len;have an:=ak.b;have az:=ahm n m ak i ag aH n 0 [] (sw.start _ _ _) (by omega);have Gl:=Xe (λi k ai=>ma i k ai) n 0 [] (sw.start (to m.au) m.au.length i) (by omega);rw[<-V6 m.au i]at Gl;generalize xX (to m.au) i n 0 []=S at*;refine⟨S,?_,Gl⟩;have K0:s3 1 (J (m.au.length:Int)) (J (m.au.length:Int))=some m.au.length:=by simp[s3,J];omega
 have aZ:D.aE 1 (List.replicate m.au.length [ax false])=kU m.au.length []:=by rw[ahb];rfl
 have a6:D.aE 1 [[J (i:Int)]]=dr (i::[]):=rfl;have bK:(J ((0:Nat):Int))=J 0:=rfl;rw[bK]at az;simp only[J7,ac8,go_sem,av.agg,av.aX,av.bl,av.bu,av.bT,av.cM,av.cR,av.dc,av.du,eT,K0,aZ,a6,az,qv]
def cB(e:Nat->Int):Nat->Nat->Int×Int
 |0,_=>(0,0)|m+1,i=>if e i=0 then cB e m (i+1)else((i:Int),e i)
def Ls(e:Nat->Int):∀(m i:Nat),(cB e m i).2=0↔∀j,i<=j->j<i+m->e j=0
 |0,i=>by simp[cB];intro j ad ae;omega
 |m+1,i=>by
  rw[cB];by_cases h:e i=0
  .rw[xac h,Ls e m (i+1)];constructor
   .intro ad j ae az;by_cases aR:j=i;.subst aR;exact h
    exact ad j (by omega) (by omega)
   intro ad j ae az;exact ad j (by omega) (by omega)
  rw[xaa h];exact⟨λad=>absurd ad h,λad=>absurd (ad i (xaX _) (by omega)) h⟩
def uw(e:Nat->Int)(m i:Nat)(h:(cB e m i).2=0):cB e m i=(0,0):=by
 induction m generalizing i with
 |zero=>rfl
 |succ m ih=>
  rw[cB]at h⊢;by_cases ao:e i=0;.rw[xac ao]at h⊢;exact ih (i+1) h
  rw[xaa ao]at h;exact absurd h ao
def n6{e3:Type}{f:List D->Option (List D⊕(List D⊕e3))}(fk:Nat->List D)(e:Nat->Int)(N:Nat)(L:List D)(W:Int×Int->e3) (aD:∀i,i<N->f (fk i)=some (if e i=0 then .inl (fk (i+1))else .inr (.inr (W ((i:Int),e i))))) (he:f (fk N)=some (.inr (.inl L))): ∀(m i n:Nat),i+m=N->m<n->bA f n (fk i)=some (if(cB e m i).2=0 then .inl L else .inr (W (cB e m i)))
 |0,i,n,h,aH=>by
  obtain⟨k,rfl⟩:∃k,n=k+1:=⟨n-1,by omega⟩;have:i=N:=by omega
  subst this;rw[l1,he];rfl
 |m+1,i,n,h,aH=>by
  obtain⟨k,rfl⟩:∃k,n=k+1:=⟨n-1,by omega⟩;rw[l1,aD i (by omega),cB];by_cases ao:e i=0;.rw[xac ao,xac ao];exact n6 fk e N L W aD he m (i+1) k (by omega) (by omega)
  rw[xaa ao,xaa ao];simp only[et,xaa ao,ck,ch,b7,aG,a7,bJ,cV,dC,dW,b1,bB,eh,dX,c1,cA,fl,di,dT,eO]
structure Qq(m:av)(n:Nat):Prop where
 a9:Gi m
 jY:302000000<n
 mc:qt m.vars
 ahn:∀v∈m.vars,v.name.size+24<n
 aho:∀d∈m.au,d.name.size+24<n/\d.name.size<=9223372036854775807
 bG:m.bG.length<=100/\∀t∈m.bG,t.bR/\t.a9<=12300
 bE:m.bE.length<=100/\∀t∈m.bE,t.bR/\t.a9<=12300
 next:m.next.length<=100/\∀d∈m.next,d.e.bR/\d.e.a9<=12300
 trans:m.trans.length<=100/\∀t∈m.trans,t.bR/\t.a9<=12300
 br:m.br.length<=100/\∀t∈m.br,t.bR/\t.a9<=12300
 bw:m.bw.length<=100/\∀s∈m.bw,(s.f.bR/\s.f.a9<=12300)/\s.name.size+24<n/\s.name.size<=9223372036854775807
noncomputable section
mutual
def mU(m:av):Fm->Int
 | .mk o t b ks=>if o=1 then qu m false t else n7 m ks
def n7(m:av):List Fm->Int
 |[]=>0|k::r=>if mU m k=0 then n7 m r else mU m k
end
theorem Xf(m:av)(f:Fm):mU m f=if f.op=1 then qu m false f.e else n7 m f.al:=by cases f;rw[mU];rfl
def mV(m:av)(i:Nat):Int:=match m.au[i]? with
 |some d=>if isName d.name=true then(if((eU m.vars d.name).isSome||(dB (m.au.take i) d.name).isSome)=true then 6 else 0)else 12
 |none=>0
def ny(m:av)(i:Nat):Int:=if jW m.au i=true then 14 else 0
def mW(m:av)(i:Nat):Int:=match m.au[i]? with|some d=>(hl m false d.e).2|none=>0
def ft(m:av)(l:List Tm)(nx:Bool)(i:Nat):Int:=match l[i]? with|some t=>qu m nx t|none=>0
def kg(m:av)(i:Nat):Int:=match m.next[i]? with
 |some d=>match eU m.vars d.name with|none=>12|some k=>if(dB (m.next.take i) d.name).isSome=true then 6 else if((hl m false d.e).2==0&&((hl m false d.e).1.b !=(m.vars[k]?.map V.bool).getD false))=true then 13 else(hl m false d.e).2
 |none=>0
def kh(m:av)(i:Nat):Int:=match m.bw[i]? with
 |some s=>if isName s.name=true then(if(pw (m.bw.take i) s.name).isSome=true then 6 else if iF s.f=0 then mU m s.f else iF s.f)else 12
 |none=>0
end
def ahp{l:List bm}{i:Nat}(h:i<=l.length):kt 5 (aJ l) none (some (J (i:Int)))=some (aJ (l.take i)):=by rw[aJ,W2 (by simpa using h)];simp[aJ,xcb]
def aAu{l:List cU}{i:Nat}(h:i<=l.length):kt 7 (bQ l) none (some (J (i:Int)))=some (bQ (l.take i)):=by rw[bQ,W2 (by simpa using h)];simp[bQ,xcb]
def ahq{m:av}(hm:Gi m):∀(n:Nat)(f:Fm),301000000+f.a9<n->f.bR->f.a9<=12300->vt n [m.d,f.d]=some (J (mU m f))
 |0,_,h,_,_=>absurd h (xar _)
 |n+1,f,aH,a4,aD=>by
  have zJ:=f.tn;have g6:=f.g9;rw[Xf];have bd:=ag9 hm n (by omega) a4.e (by omega) false;have bz:bs (bc 6 f.nl (Fm.rows f.al))=some (J f.al.length):=by simp
  have ak:=dp (f:=I4 (vt n) n) f.al (λi (_:Unit)=>[bc 6 f.nl (Fm.rows f.al),J f.al.length,J (i:Int),bg m.vars,aJ m.au,ar m.bG,ar m.bE,aJ m.next,ar m.trans,ar m.br,bQ m.bw]) (λr _=>if n7 m r=0 then(.inl []:List D⊕D)else .inr (J (n7 m r))) (λ_ _=>True) ?_ ?_ n 0 () trivial (by have:=f.g9;omega) (xah _)
  .have bK:(J ((0:Nat):Int))=J 0:=rfl;rw[bK,xak]at ak;show I5 (vt n) n m.d f.d=_;by_cases ad:f.op=1
   .have dN:(f.op==1)=true:=by simp[ad]
    simp only[I5,go_sem,av.agg,dN,xac ad,av.aX,av.bl,av.bu,av.bT,av.cM,av.cR,av.dc,av.du,av.eta,bd]
   have dN:(f.op==1)=false:=by simpa using ad
   simp only[I5,go_sem,av.agg,dN,xaa ad,av.aX,av.bl,av.bu,av.bT,av.cM,av.cR,av.dc,av.du,av.eta,bz,ak];by_cases ao:n7 m f.al=0;.rw[xac ao,ao,qR]
   rw[xaa ao,HU]
  .intro _ _;simp only[I4,go_sem,yF ((f.al.length:Int)<f.al.length),n7]
  intro i a _ aB ag _;have mm:=xad aB;have bF:=Fm.fb mm;have aw:=ahq hm n a (by omega) (a4.cL mm) (by omega);have cE:=yT ((i:Int)<(f.al.length:Int));by_cases ao:mU m a=0
  .left;rw[ao]at aw;refine⟨(),?_,by simp only[n7,ao,xay],trivial⟩;have bF:((0:Int) !=0)=false:=rfl;simp only[I4,go_sem,cE,Fm.dz aB,av.eta,aw,bF,cl (bt:=false) (i:=i) (by omega)]
  right;have bF:(mU m a !=0)=true:=by simpa using ao
  simp only[I4,go_sem,cE,Fm.dz aB,av.eta,aw,bF,n7,xaa ao]
def ahr{m:av}(hm:Gi m):∀(n:Nat)(f:Fm),301000000+f.a9<n->f.bR->f.a9<=12300->vD n [m.d,f.d]=some (J (mU m f))
 |0,_,h,_,_=>absurd h (xar _)
 |n+1,f,aH,a4,aD=>by
  have zJ:=f.tn;have g6:=f.g9;rw[Xf];have bd:=aha hm n (by omega) a4.e (by omega) false;have bz:bs (bc 6 f.nl (Fm.rows f.al))=some (J f.al.length):=by simp
  have ak:=dp (f:=Kt (vD n) n) f.al (λi (_:Unit)=>[J (i:Int),bg m.vars,aJ m.au,ar m.bG,ar m.bE,aJ m.next,ar m.trans,ar m.br,bQ m.bw,J f.op,J f.e.op,J f.e.num,aI f.e.name,bc 4 f.e.nl (Tm.rows f.e.al),bc 6 f.nl (Fm.rows f.al)]) (λr _=>if n7 m r=0 then(.inl []:List D⊕D)else .inr (J (n7 m r))) (λ_ _=>True) ?_ ?_ n 0 () trivial (by have:=f.g9;omega) (xah _)
  .have bK:(J ((0:Nat):Int))=J 0:=rfl;rw[bK,xak]at ak;show Ku (vD n) n m.d f.d=_;by_cases ad:f.op=1
   .have dN:(f.op==1)=true:=by simp[ad]
    simp only[Ku,go_sem,av.agg,dN,xac ad,av.aX,av.bl,av.bu,av.bT,av.cM,av.cR,av.dc,av.du,av.eta,bd]
   have dN:(f.op==1)=false:=by simpa using ad
   simp only[Ku,go_sem,av.agg,dN,xaa ad,av.aX,av.bl,av.bu,av.bT,av.cM,av.cR,av.dc,av.du,av.eta,bz,ak];by_cases ao:n7 m f.al=0;.rw[xac ao,ao,qR]
   rw[xaa ao,HU]
  .intro _ _;simp only[Kt,go_sem,bz,yF ((f.al.length:Int)<f.al.length),n7]
  intro i a _ aB ag _;have mm:=xad aB;have bF:=Fm.fb mm;have aw:=ahr hm n a (by omega) (a4.cL mm) (by omega);have cE:=yT ((i:Int)<(f.al.length:Int));by_cases ao:mU m a=0
  .left;rw[ao]at aw;refine⟨(),?_,by simp only[n7,ao,xay],trivial⟩;have bF:((0:Int) !=0)=false:=rfl;simp only[Kt,go_sem,bz,cE,Fm.dz aB,av.eta,aw,bF,cl (bt:=false) (i:=i) (by omega)]
  right;have bF:(mU m a !=0)=true:=by simpa using ao
  simp only[Kt,go_sem,bz,cE,Fm.dz aB,av.eta,aw,bF,n7,xaa ao]
section
variable{m:av}{n:Nat}(hm:Qq m n)
include hm
theorem aAv(i:Nat)(ag:i<m.au.length):xh n [aJ m.au,m.d,J (i:Int)]=some (J (mV m i)):=by have an:=hm.jY;have Ak:=hm.a9.dl;have kS:=hm.a9.jL;obtain⟨d,aF⟩:∃d,m.au[i]?=some d:=⟨m.au[i],xab ag⟩;have Xg:=hm.aho d (xad aF);have cj:=W0 n d.name (by omega) Xg.2;have g8:=azZ n m.vars d.name (by omega) (by omega);have de:=az2 n (m.au.take i) d.name (by simp;omega) (by simp;omega);have aD:=ahp (l:=m.au) (i:=i) (by omega);simp only[mV,aF];cases ad:isName d.name with|false=>simp only[xh,Jo,go_sem,av.agg,fJ aF,bm.gx,cj,ad]|true=>cases ae:(eU m.vars d.name).isSome with|true=>simp only[xh,Jo,go_sem,av.agg,av.aX,fJ aF,bm.gx,cj,ad,g8,ae]|false=>cases az:(dB (m.au.take i) d.name).isSome with|true=>simp only[xh,Jo,go_sem,av.agg,av.aX,fJ aF,bm.gx,cj,ad,g8,ae,aD,de,az,Bool.or_false,xbv]|false=>simp only[xh,Jo,go_sem,av.agg,av.aX,fJ aF,bm.gx,cj,ad,g8,ae,aD,de,az,Bool.or_false,xbv]
theorem aAw(i:Nat)(ag:i<m.au.length):EM n [aJ m.au,m.d,J (i:Int)]=some (J (mW m i)):=by have an:=hm.jY;obtain⟨d,aF⟩:∃d,m.au[i]?=some d:=⟨m.au[i],xab ag⟩;have h6:=hm.a9.d.e d (xad aF);have bd:=Xa hm.a9 n (by omega) h6.1 h6.2 false;simp only[mW,aF];simp only[EM,acF,go_sem,av.agg,av.aX,av.bl,av.bu,av.bT,av.cM,av.cR,av.dc,av.du,av.eta,fJ aF,bm.hH,bd,nw]
theorem aAx(l:List Tm)(ak:∀t∈l,t.bR/\t.a9<=12300)(k:Int)(nx:Bool)(i:Nat)(ag:i<l.length):EL n [.agg [J k,ar l,ax nx],m.d,J (i:Int)]=some (J (ft m l nx i)):=by have an:=hm.jY;obtain⟨t,aQ⟩:∃t,l[i]?=some t:=⟨l[i],xab ag⟩;have Lt:=ak t (xad aQ);have bd:=ag9 hm.a9 n (by omega) Lt.1 Lt.2 nx;have aB:aL 3 (.agg [J k,ar l,ax nx])=true:=rfl;have bl:aa (.agg [J k,ar l,ax nx]) 1=ar l:=rfl;have bu:aa (.agg [J k,ar l,ax nx]) 2=ax nx:=rfl;simp only[ft,aQ];simp only[EL,acE,go_sem,aB,bl,bu,av.agg,av.aX,av.bl,av.bu,av.bT,av.cM,av.cR,av.dc,av.du,av.eta,uq aQ,bd]
theorem aAy(i:Nat)(ag:i<m.next.length):y8 n [aJ m.next,m.d,J (i:Int)]=some (J (kg m i)):=by
 have an:=hm.jY;have vf:=hm.next.1
 have kS:=hm.a9.jL;obtain⟨d,aF⟩:∃d,m.next[i]?=some d:=⟨m.next[i],xab ag⟩
 have h6:=hm.next.2 d (xad aF)
 have bd:=Xa hm.a9 n (by omega) h6.1 h6.2 false;have g8:=az4 n m.vars d.name (by omega) (by omega);have de:=az7 n (m.next.take i) d.name (by simp;omega) (by simp;omega);have aD:=ahp (l:=m.next) (i:=i) (by omega);simp only[kg,aF];cases ad:eU m.vars d.name with
 |none=>have ao:decide (fz none<0)=true:=rfl;simp only[y8,Ou,go_sem,av.agg,av.aX,fJ aF,bm.gx,g8,ad,ao]
 |some k=>
  have ao:decide (fz (some k)<0)=false:=by rw[ag0];rfl
  have g6:k<m.vars.length:=by have:=xbp.1 ad;exact this.1
  obtain⟨v,aN⟩:∃v,m.vars[k]?=some v:=⟨m.vars[k],xab g6⟩;have lS:bp 4 (bg m.vars) (J (fz (some k)))=some v.cells:=kz aN;have A9:bh false 1 1 v.cells=some (ax v.bool):=rfl;simp only[aN,xaQ,xbn];cases az:(dB (m.next.take i) d.name).isSome with
  |true=>simp only[y8,Ou,go_sem,av.agg,av.aX,fJ aF,bm.gx,g8,ad,ao,aD,de,az]
  |false=>
   generalize hl m false d.e=y at*;have cm:b9 true .neq (ax y.1.b) (ax v.bool)=some (ax (y.1.b !=v.bool)):=rfl;simp only[y8,Ou,go_sem,av.agg,av.aX,av.bl,av.bu,av.bT,av.cM,av.cR,av.dc,av.du,av.eta,fJ aF,bm.gx,bm.hH,g8,ad,ao,aD,de,az,bd,nw,px,lS,A9,cm];by_cases aj:(y.2==0&&(y.1.b !=v.bool))=true
   .rw[xac aj,xac aj]
   rw[xaa aj,xaa aj]
theorem aAz(i:Nat)(ag:i<m.bw.length):xf n [bQ m.bw,m.d,J (i:Int)]=some (J (kh m i)):=by
 have an:=hm.jY;have nr:=hm.bw.1;obtain⟨s,aD⟩:∃s,m.bw[i]?=some s:=⟨m.bw[i],xab ag⟩;obtain⟨⟨ba,A8⟩,Gm,Xh⟩:=hm.bw.2 s (xad aD);have cj:=W0 n s.name (by omega) Xh;have de:=aAc n (m.bw.take i) s.name (by simp;omega) (by simp;omega);have jJ:=aAu (l:=m.bw) (i:=i) (by omega);have b5:=FY n s.f (by omega) ba (by omega);have hk:=ahq hm.a9 n s.f (by omega) ba A8;simp only[kh,aD];cases ad:isName s.name with
 |false=>simp only[xf,I6,go_sem,av.agg,nt aD,cU.gx,cj,ad]
 |true=>
  cases az:(pw (m.bw.take i) s.name).isSome with
  |true=>simp only[xf,I6,go_sem,av.agg,nt aD,cU.gx,cj,ad,jJ,de,az]
  |false=>
   by_cases a3:iF s.f=0
   .have lZ:(iF s.f !=0)=false:=by simp[a3]
    simp only[xf,I6,go_sem,av.agg,av.aX,av.bl,av.bu,av.bT,av.cM,av.cR,av.dc,av.du,av.eta,nt aD,cU.gx,cU.hH,cj,ad,jJ,de,az,b5,lZ,xac a3,hk]
   have lZ:(iF s.f !=0)=true:=by simpa using a3
   simp only[xf,I6,go_sem,av.agg,av.aX,av.bl,av.bu,av.bT,av.cM,av.cR,av.dc,av.du,av.eta,nt aD,cU.gx,cU.hH,cj,ad,jJ,de,az,b5,lZ,xaa a3]
end
def gn(p:Int×Int):D:= .aU [J p.1,J p.2]
def xY(a b:Int×Int):Int×Int:=if a.2=0 then b else a
def findIdx_take{α:Type}{l:List α}{p:α->Bool}{i:Nat}{d:α}(aF:l[i]?=some d)(a1:p d=true):decide (fz (l.findIdx? p)<(i:Int))=((l.take i).findIdx? p).isSome:=by
 obtain⟨ag,aAA⟩:=xae.1 aF;cases h:l.findIdx? p with
 |none=>have:=List.findIdx?_eq_none_iff.1 h d (xad aF);rw[a1]at this;cases this
 |some k=>
  obtain⟨ai,aAB,DD⟩:=xbp.1 h;rw[List.findIdx?_isSome];have sT:k<=i:=by
   rcases Nat.lt_or_ge i k with ad|ad;.have:=DD i ad;rw[aAA]at this;exact absurd a1 this
   exact ad
  by_cases he:k<i;.have ad:decide (fz (some k)<(i:Int))=true:=xag (by show(k:Int)<(i:Int);omega);rw[ad];symm;rw[xbI];refine⟨l[k],xaK.2 ⟨k,?_⟩,aAB⟩;rw[List.getElem?_take_of_lt he];exact xab ai
  have ad:decide (fz (some k)<(i:Int))=false:=xao (by show¬(k:Int)<(i:Int);omega);rw[ad];symm;rw[Bool.eq_false_iff,ne_eq,xbI];rintro⟨a,aB,aAC⟩;obtain⟨j,aR⟩:=xaK.1 aB;have cE:=(xae.1 aR).1;simp only[xbq]at cE;rw[List.getElem?_take_of_lt (by omega)]at aR;obtain⟨aF7,aAD⟩:=xae.1 aR;have:=DD j (by omega);rw[aAD]at this;exact this aAC
noncomputable def ux(m:av):Int×Int:=xY (cB (mV m) m.au.length 0) (xY (cB (ny m) m.au.length 0) (cB (mW m) m.au.length 0))
section
variable{m:av}{n:Nat}(hm:Qq m n)
include hm
theorem aAE:bA (Cr n) n [J 0,bg m.vars,aJ m.au,ar m.bG,ar m.bE,aJ m.next,ar m.trans,ar m.br,bQ m.bw]=some (if(cB (mV m) m.au.length 0).2=0 then .inl [bg m.vars,aJ m.au,ar m.bG,ar m.bE,aJ m.next,ar m.trans,ar m.br,bQ m.bw]else .inr (gn (cB (mV m) m.au.length 0))):=by
 have an:=hm.jY;have Ak:=hm.a9.dl;have kS:=hm.a9.jL;refine n6 (λi=>[J (i:Int),bg m.vars,aJ m.au,ar m.bG,ar m.bE,aJ m.next,ar m.trans,ar m.br,bQ m.bw]) (mV m) m.au.length _ gn ?_ ?_ _ 0 n (by omega) (by omega)
 .intro i ag;obtain⟨d,aF⟩:∃d,m.au[i]?=some d:=⟨m.au[i],xab ag⟩;have Xg:=hm.aho d (xad aF);have cj:=W1 n d.name (by omega) Xg.2;have g8:=ahl n m d.name (by omega) (by omega);have de:=ahk n m d.name (by omega) (by omega);have cb:=yT ((i:Int)<(m.au.length:Int));have Lu:=findIdx_take (p:=λe:bm=>decide (e.name=d.name)) aF (by simp);change decide (fz (dB m.au d.name)<(i:Int))=(dB (m.au.take i) d.name).isSome at Lu;simp only[mV,aF];cases ad:isName d.name with
  |false=>simp only[Cr,go_sem,eT,cb,fJ aF,bm.gx,cj,ad,xaa (show¬(12:Int)=0 by decide),gn]
  |true=>
   cases ae:(eU m.vars d.name).isSome with
   |true=>have hg:=xU (eU m.vars d.name);rw[ae]at hg;simp only[Cr,go_sem,eT,cb,fJ aF,bm.gx,cj,ad,av.eta,g8,hg,wW,xaa (show¬(true=false) by decide),wX,xaa (show¬(6:Int)=0 by decide),gn]
   |false=>
    have hg:=xU (eU m.vars d.name);rw[ae]at hg;cases az:(dB (m.au.take i) d.name).isSome with
    |true=>rw[az]at Lu;simp only[Cr,go_sem,eT,cb,fJ aF,bm.gx,cj,ad,av.eta,g8,hg,wW,de,Lu,wX,xaa (show¬(6:Int)=0 by decide),gn,Bool.or_true]
    |false=>rw[az]at Lu;simp only[Cr,go_sem,eT,cb,fJ aF,bm.gx,cj,ad,av.eta,g8,hg,wW,de,Lu,wX,Bool.or_false,cl (bt:=false) (i:=i) (by omega)]
 simp only[Cr,go_sem,eT,yF ((m.au.length:Int)<m.au.length)]
theorem aAF:bA (Ko n) n [J 0,bg m.vars,aJ m.au,ar m.bG,ar m.bE,aJ m.next,ar m.trans,ar m.br,bQ m.bw]=some (if(cB (ny m) m.au.length 0).2=0 then .inl [bg m.vars,aJ m.au,ar m.bG,ar m.bE,aJ m.next,ar m.trans,ar m.br,bQ m.bw]else .inr (gn (cB (ny m) m.au.length 0))):=by
 have an:=hm.jY;have Ak:=hm.a9.dl;refine n6 (λi=>[J (i:Int),bg m.vars,aJ m.au,ar m.bG,ar m.bE,aJ m.next,ar m.trans,ar m.br,bQ m.bw]) (ny m) m.au.length _ gn ?_ ?_ _ 0 n (by omega) (by omega)
 .intro i ag;obtain⟨S,c3,ahs⟩:=aAt n m hm.a9.d i ag (by omega);have cb:=yT ((i:Int)<(m.au.length:Int));have af:bp 1 (kU m.au.length S) (J (i:Int))=some [ax (decide (i∈S))]:=by
   rw[kU,abw,Lm ag]
  cases ad:jW m.au i with
  |true=>have ae:=xag (ahs.2 ad);simp only[Ko,go_sem,eT,cb,av.eta,c3,af,C3,ae,ny,ad,xaa (show¬(14:Int)=0 by decide),gn]
  |false=>have ae:=xao (show¬i∈S fromλh=>by rw[ahs.1 h]at ad;cases ad);simp only[Ko,go_sem,eT,cb,av.eta,c3,af,C3,ae,ny,ad,cl (bt:=false) (i:=i) (by omega)]
 simp only[Ko,go_sem,eT,yF ((m.au.length:Int)<m.au.length)]
theorem aAG:bA (Kp n) n [J 0,bg m.vars,aJ m.au,ar m.bG,ar m.bE,aJ m.next,ar m.trans,ar m.br,bQ m.bw]=some (if(cB (mW m) m.au.length 0).2=0 then .inl []else .inr (gn (cB (mW m) m.au.length 0))):=by
 have an:=hm.jY;have Ak:=hm.a9.dl;refine n6 (λi=>[J (i:Int),bg m.vars,aJ m.au,ar m.bG,ar m.bE,aJ m.next,ar m.trans,ar m.br,bQ m.bw]) (mW m) m.au.length _ gn ?_ ?_ _ 0 n (by omega) (by omega)
 .intro i ag;obtain⟨d,aF⟩:∃d,m.au[i]?=some d:=⟨m.au[i],xab ag⟩;have h6:=hm.a9.d.e d (xad aF);have bd:=Xd hm.a9 n (by omega) h6.1 h6.2 false;have cb:=yT ((i:Int)<(m.au.length:Int));simp only[mW,aF];by_cases ad:(hl m false d.e).2=0
  .have dN:((hl m false d.e).2 !=0)=false:=by simp[ad]
   simp only[Kp,go_sem,eT,cb,av.eta,fJ aF,bm.hH,bd,nw,dN,xac ad,cl (bt:=false) (i:=i) (by omega)]
  have dN:((hl m false d.e).2 !=0)=true:=by simpa using ad
  simp only[Kp,go_sem,eT,cb,av.eta,fJ aF,bm.hH,bd,nw,dN,xaa ad,gn]
 simp only[Kp,go_sem,eT,yF ((m.au.length:Int)<m.au.length)]
theorem aAH:zl n [m.d]=some (gn (ux m)):=by
 have ae:=aAE hm;have ic:=aAF hm;have n5:=aAG hm;have bF:∀e k,(cB e k 0).2=0->cB e k 0=(0,0):=λe k=>uw e k 0;unfold ux xY;by_cases bl:(cB (mV m) m.au.length 0).2=0
 case neg=>rw[xaa bl]at ae⊢;simp only[zl,Kq,go_sem,av.agg,av.aX,av.bl,av.bu,av.bT,av.cM,av.cR,av.dc,av.du,ae]
 rw[xac bl]at ae⊢;by_cases bu:(cB (ny m) m.au.length 0).2=0
 case neg=>rw[xaa bu]at ic⊢;simp only[zl,Kq,go_sem,av.agg,av.aX,av.bl,av.bu,av.bT,av.cM,av.cR,av.dc,av.du,ae,ic]
 rw[xac bu]at ic⊢;by_cases bT:(cB (mW m) m.au.length 0).2=0;.rw[xac bT]at n5;rw[bF _ _ bT];simp only[zl,Kq,go_sem,av.agg,av.aX,av.bl,av.bu,av.bT,av.cM,av.cR,av.dc,av.du,ae,ic,n5,gn]
 rw[xaa bT]at n5;simp only[zl,Kq,go_sem,av.agg,av.aX,av.bl,av.bu,av.bT,av.cM,av.cR,av.dc,av.du,ae,ic,n5]
theorem Qr(l:List Tm)(ak:l.length<=100/\∀t∈l,t.bR/\t.a9<=12300)(nx:Bool):xy n [m.d,ar l,ax nx]=some (gn (cB (ft m l nx) l.length 0)):=by
 have an:=hm.jY;have ag:=n6 (f:=Kr n) (λi=>[ar l,ax nx,J (i:Int),bg m.vars,aJ m.au,ar m.bG,ar m.bE,aJ m.next,ar m.trans,ar m.br,bQ m.bw]) (ft m l nx) l.length [] gn ?_ ?_ l.length 0 n (by omega) (by omega)
 .have bK:(J ((0:Nat):Int))=J 0:=rfl;rw[bK]at ag;by_cases c:(cB (ft m l nx) l.length 0).2=0;.rw[xac c]at ag;rw[uw _ _ _ c];simp only[xy,Vq,go_sem,av.agg,av.aX,av.bl,av.bu,av.bT,av.cM,av.cR,av.dc,av.du,ag,gn]
  rw[xaa c]at ag;simp only[xy,Vq,go_sem,av.agg,av.aX,av.bl,av.bu,av.bT,av.cM,av.cR,av.dc,av.du,ag]
 .intro i ag;obtain⟨t,aQ⟩:∃t,l[i]?=some t:=⟨l[i],xab ag⟩;have Lt:=ak.2 t (xad aQ);have bd:=aha hm.a9 n (by omega) Lt.1 Lt.2 nx;have cb:=yT ((i:Int)<(l.length:Int));simp only[ft,aQ];by_cases ad:qu m nx t=0
  .have dN:(qu m nx t !=0)=false:=by simp[ad]
   simp only[Kr,go_sem,iP,cb,av.eta,uq aQ,bd,dN,xac ad,cl (bt:=false) (i:=i) (by have:=ak.1;omega)]
  have dN:(qu m nx t !=0)=true:=by simpa using ad
  simp only[Kr,go_sem,iP,cb,av.eta,uq aQ,bd,dN,xaa ad,gn]
 simp only[Kr,go_sem,iP,yF ((l.length:Int)<l.length)]
theorem aAI(i:Nat)(k:Int){d:bm}(aF:m.next[i]?=some d):bA (Fh n) n [J (i:Int),J k,J 0,bg m.vars,aJ m.au,ar m.bG,ar m.bE,aJ m.next,ar m.trans,ar m.br,bQ m.bw]=some (if(dB (m.next.take i) d.name).isSome=true then .inr (.inr (.inr (.inr (.aU [J (i:Int),J 6]))))else .inl [J (i:Int),J k,bg m.vars,aJ m.au,ar m.bG,ar m.bE,aJ m.next,ar m.trans,ar m.br,bQ m.bw]):=by
 have an:=hm.jY;have vf:=hm.next.1
 have cb:=(xae.1 aF).1;have bY:(m.next.take i).length=i:=by simp;omega
 have ag:=dp (f:=Fh n) (m.next.take i) (λj (_:Unit)=>[J (i:Int),J k,J (j:Int),bg m.vars,aJ m.au,ar m.bG,ar m.bE,aJ m.next,ar m.trans,ar m.br,bQ m.bw]) (λr _=>(if(dB r d.name).isSome=true then .inr (.inr (.inr (.inr (.aU [J (i:Int),J 6]))))else .inl [J (i:Int),J k,bg m.vars,aJ m.au,ar m.bG,ar m.bE,aJ m.next,ar m.trans,ar m.br,bQ m.bw]:List D⊕(List D⊕(List D⊕(List D⊕D))))) (λ_ _=>True) (λ_ _=>by rw[bY];simp only[Fh,go_sem,yF ((i:Int)<i)];rfl) ?_ n 0 () trivial (by omega) (xah _);.exact ag
 intro j a _ aB aR _;rw[bY]at aR;rw[List.getElem?_take_of_lt aR]at aB;have cE:=yT ((j:Int)<(i:Int));have aj:dB (a::(m.next.take i).drop (j+1)) d.name=if decide (a.name=d.name)=true then some 0 else(dB ((m.next.take i).drop (j+1)) d.name).map (·+1):=findIdx_cons _ a _
 rw[aj];by_cases h:a.name=d.name;.right;rw[xac (xag h)];simp only[Fh,go_sem,cE,fJ aB,fJ aF,bm.gx,xag h,xaI]
 left;refine⟨(),?_,?_,trivial⟩;.simp only[Fh,go_sem,cE,fJ aB,fJ aF,bm.gx,xao h,cl (bt:=false) (i:=j) (by omega)]
 have bL:¬(decide (a.name=d.name)=true):=by simpa using h
 rw[xaa bL,Option.isSome_map]
theorem aAJ(i:Nat){d:cU}(aF:m.bw[i]?=some d):bA (Fl n) n [J (i:Int),J 0,bg m.vars,aJ m.au,ar m.bG,ar m.bE,aJ m.next,ar m.trans,ar m.br,bQ m.bw]=some (if(pw (m.bw.take i) d.name).isSome=true then .inr (.inr (.inr (.inr (.aU [J (i:Int),J 6]))))else .inl [J (i:Int),bg m.vars,aJ m.au,ar m.bG,ar m.bE,aJ m.next,ar m.trans,ar m.br,bQ m.bw]):=by
 have an:=hm.jY;have vf:=hm.bw.1;have cb:=(xae.1 aF).1;have bY:(m.bw.take i).length=i:=by simp;omega
 have ag:=dp (f:=Fl n) (m.bw.take i) (λj (_:Unit)=>[J (i:Int),J (j:Int),bg m.vars,aJ m.au,ar m.bG,ar m.bE,aJ m.next,ar m.trans,ar m.br,bQ m.bw]) (λr _=>(if(pw r d.name).isSome=true then .inr (.inr (.inr (.inr (.aU [J (i:Int),J 6]))))else .inl [J (i:Int),bg m.vars,aJ m.au,ar m.bG,ar m.bE,aJ m.next,ar m.trans,ar m.br,bQ m.bw]:List D⊕(List D⊕(List D⊕(List D⊕D))))) (λ_ _=>True) (λ_ _=>by rw[bY];simp only[Fl,go_sem,yF ((i:Int)<i)];rfl) ?_ n 0 () trivial (by omega) (xah _);.exact ag
 intro j a _ aB aR _;rw[bY]at aR;rw[List.getElem?_take_of_lt aR]at aB;have cE:=yT ((j:Int)<(i:Int));have aj:pw (a::(m.bw.take i).drop (j+1)) d.name=if decide (a.name=d.name)=true then some 0 else(pw ((m.bw.take i).drop (j+1)) d.name).map (·+1):=findIdx_cons _ a _
 rw[aj];by_cases h:a.name=d.name;.right;rw[xac (xag h)];simp only[Fl,go_sem,cE,nt aB,nt aF,cU.gx,xag h,xaI]
 left;refine⟨(),?_,?_,trivial⟩;.simp only[Fl,go_sem,cE,nt aB,nt aF,cU.gx,xao h,cl (bt:=false) (i:=j) (by omega)]
 have bL:¬(decide (a.name=d.name)=true):=by simpa using h
 rw[xaa bL,Option.isSome_map]
theorem aAK:Fi n [m.d]=some (gn (cB (kg m) m.next.length 0)):=by
 have an:=hm.jY;have vf:=hm.next.1
 have kS:=hm.a9.jL;have ag:=n6 (f:=zn n) (λi=>[J (i:Int),bg m.vars,aJ m.au,ar m.bG,ar m.bE,aJ m.next,ar m.trans,ar m.br,bQ m.bw]) (kg m) m.next.length [] gn ?_ ?_ m.next.length 0 n (by omega) (by omega)
 .have bK:(J ((0:Nat):Int))=J 0:=rfl;rw[bK]at ag;by_cases c:(cB (kg m) m.next.length 0).2=0;.rw[xac c]at ag;rw[uw _ _ _ c];simp only[Fi,Vs,go_sem,av.agg,av.aX,av.bl,av.bu,av.bT,av.cM,av.cR,av.dc,av.du,ag,gn]
  rw[xaa c]at ag;simp only[Fi,Vs,go_sem,av.agg,av.aX,av.bl,av.bu,av.bT,av.cM,av.cR,av.dc,av.du,ag]
 .intro i ag;obtain⟨d,aF⟩:∃d,m.next[i]?=some d:=⟨m.next[i],xab ag⟩
  have h6:=hm.next.2 d (xad aF)
  have bd:=Xd hm.a9 n (by omega) h6.1 h6.2 false;have g8:=ahl n m d.name (by omega) (by omega);have cb:=yT ((i:Int)<(m.next.length:Int));simp only[kg,aF];cases ad:eU m.vars d.name with
  |none=>rw[ad]at g8;have ao:decide (fz none<0)=true:=rfl;simp only[zn,go_sem,eT,cb,av.eta,fJ aF,bm.gx,g8,ao,xaa (show¬(12:Int)=0 by decide),gn]
  |some k=>
   rw[ad]at g8;have hE:=aAI hm i (fz (some k)) aF;have ao:decide (fz (some k)<0)=false:=by rw[ag0];rfl
   have g6:k<m.vars.length:=by have:=xbp.1 ad;exact this.1
   obtain⟨v,aN⟩:∃v,m.vars[k]?=some v:=⟨m.vars[k],xab g6⟩;have lS:bp 4 (bg m.vars) (J (fz (some k)))=some v.cells:=kz aN;have A9:bh false 1 1 v.cells=some (ax v.bool):=rfl;simp only[aN,xaQ,xbn];cases az:(dB (m.next.take i) d.name).isSome with
   |true=>rw[az,xac rfl]at hE;simp only[zn,go_sem,eT,cb,av.eta,fJ aF,bm.gx,g8,ao,hE,xaa (show¬(6:Int)=0 by decide),gn]
   |false=>
    rw[az,xaa (by decide)]at hE;generalize hl m false d.e=y at*;have cm:b9 true .neq (ax y.1.b) (ax v.bool)=some (ax (y.1.b !=v.bool)):=rfl;have je:((13:Int) !=0)=true:=rfl;by_cases aj:(y.2==0&&(y.1.b !=v.bool))=true
    .simp only[zn,go_sem,eT,cb,av.eta,fJ aF,bm.gx,bm.hH,g8,ao,hE,bd,nw,px,lS,A9,cm,aj,je,xaa (show¬(13:Int)=0 by decide),gn]
    have dZ:(y.2==0&&(y.1.b !=v.bool))=false:=by simpa using aj
    by_cases aO:y.2=0
    .have wu:(y.2 !=0)=false:=by simp[aO]
     simp only[zn,go_sem,eT,cb,av.eta,fJ aF,bm.gx,bm.hH,g8,ao,hE,bd,nw,px,lS,A9,cm,dZ,wu,xac aO,cl (bt:=false) (i:=i) (by omega)]
    have wu:(y.2 !=0)=true:=by simpa using aO
    simp only[zn,go_sem,eT,cb,av.eta,fJ aF,bm.gx,bm.hH,g8,ao,hE,bd,nw,px,lS,A9,cm,dZ,wu,xaa aO,gn]
 simp only[zn,go_sem,eT,yF ((m.next.length:Int)<m.next.length)]
theorem aAL:Fo n [m.d]=some (gn (cB (kh m) m.bw.length 0)):=by
 have an:=hm.jY;have nr:=hm.bw.1;have ag:=n6 (f:=zo n) (λi=>[J (i:Int),bg m.vars,aJ m.au,ar m.bG,ar m.bE,aJ m.next,ar m.trans,ar m.br,bQ m.bw]) (kh m) m.bw.length [] gn ?_ ?_ m.bw.length 0 n (by omega) (by omega)
 .have bK:(J ((0:Nat):Int))=J 0:=rfl;rw[bK]at ag;by_cases c:(cB (kh m) m.bw.length 0).2=0;.rw[xac c]at ag;rw[uw _ _ _ c];simp only[Fo,Vu,go_sem,av.agg,av.aX,av.bl,av.bu,av.bT,av.cM,av.cR,av.dc,av.du,ag,gn]
  rw[xaa c]at ag;simp only[Fo,Vu,go_sem,av.agg,av.aX,av.bl,av.bu,av.bT,av.cM,av.cR,av.dc,av.du,ag]
 .intro i ag;obtain⟨s,aD⟩:∃s,m.bw[i]?=some s:=⟨m.bw[i],xab ag⟩;obtain⟨⟨ba,A8⟩,Gm,Xh⟩:=hm.bw.2 s (xad aD);have cj:=W1 n s.name (by omega) Xh;have fs:=aAJ hm i aD;have b5:=FW n s.f (by omega) ba (by omega);have hk:=ahr hm.a9 n s.f (by omega) ba A8;have cb:=yT ((i:Int)<(m.bw.length:Int));simp only[kh,aD];cases ad:isName s.name with
  |false=>simp only[zo,go_sem,jc,cb,nt aD,cU.gx,cj,ad,xaa (show¬(12:Int)=0 by decide),gn]
  |true=>
   cases az:(pw (m.bw.take i) s.name).isSome with
   |true=>rw[az,xac rfl]at fs;simp only[zo,go_sem,jc,cb,nt aD,cU.gx,cj,ad,fs,xaa (show¬(6:Int)=0 by decide),gn]
   |false=>
    rw[az,xaa (by decide)]at fs;by_cases a3:iF s.f=0
    .have lZ:(iF s.f==0)=true:=by simp[a3]
     by_cases bx:mU m s.f=0
     .have kH:(mU m s.f !=0)=false:=by simp[bx]
      simp only[zo,go_sem,jc,cb,av.eta,nt aD,cU.gx,cU.hH,cj,ad,fs,b5,lZ,xac a3,hk,kH,xac bx,cl (bt:=false) (i:=i) (by omega)]
     have kH:(mU m s.f !=0)=true:=by simpa using bx
     simp only[zo,go_sem,jc,cb,av.eta,nt aD,cU.gx,cU.hH,cj,ad,fs,b5,lZ,xac a3,hk,kH,xaa bx,gn]
    have lZ:(iF s.f==0)=false:=by simpa using a3
    have aAM:(iF s.f !=0)=true:=by simpa using a3
    simp only[zo,go_sem,jc,cb,av.eta,nt aD,cU.gx,cU.hH,cj,ad,fs,b5,lZ,aAM,xaa a3,gn]
 simp only[zo,go_sem,jc,yF ((m.bw.length:Int)<m.bw.length)]
end
def oK:List V->Nat
 |[]=>0|v::r=>bitsOf v.span+oK r
theorem V.aAN(v:V):D.agg [aa v.d 0,aa v.d 1,aa v.d 2,aa v.d 3]=v.d:=rfl
def aAO(n:Nat)(m:av)(aN:qt m.vars)(ak:m.vars.length<=100)(aH:200<n):Il n [m.d]=some (J (oK m.vars:Nat)):=by
 have ag:=dp (f:=N8 n) m.vars (λi (s:Nat)=>[J (s:Int),bg m.vars,J m.vars.length,J (i:Int)]) (λr s=>(.inl [J ((s+oK r:Nat):Int)]:List D⊕D)) (λi s=>s<=62*i) ?_ ?_ n 0 0 (by simp) (by omega) (xah _);.have bK:(J ((0:Nat):Int))=J 0:=rfl;rw[bK,xak,xaz]at ag;simp only[Il,ach,go_sem,av.agg,av.aX,g3,ag]
 .intro s aD;simp only[N8,go_sem,yF ((m.vars.length:Int)<m.vars.length),oK,xbw]
 intro i v s kT ag aD;obtain⟨ad,ae,_⟩:=aN.2 v (xad kT);have lX:=azQ n v ad ae;have an:=azS n v.span (V.Lk v).2 (by omega);have pR:=(Gf (V.Lk v).2).1;have cb:=yT ((i:Int)<(m.vars.length:Int));have gF:b9 false .add (J (s:Int)) (J (bitsOf v.span:Nat))=some (J ((s+bitsOf v.span:Nat):Int)):=by rw[fg (by omega) (by omega)];rfl
 left;refine⟨s+bitsOf v.span,?_,by rw[oK,xbl],by omega⟩;simp only[N8,go_sem,cb,kz kT,V.dx,V.eR,V.aAN,lX,an,gF,cl (bt:=false) (i:=i) (by omega)]
def aAP(n:Nat)(m:av)(aN:qt m.vars)(ak:m.vars.length<=100)(aH:200<n):J1 n [m.d]=some (J (oK m.vars:Nat)):=by
 have ag:=dp (f:=O4 n) m.vars (λi (s:Nat)=>[J (s:Int),J (i:Int),bg m.vars,aJ m.au,ar m.bG,ar m.bE,aJ m.next,ar m.trans,ar m.br,bQ m.bw]) (λr s=>(.inl [J ((s+oK r:Nat):Int)]:List D⊕D)) (λi s=>s<=62*i) ?_ ?_ n 0 0 (by simp) (by omega) (xah _);.have bK:(J ((0:Nat):Int))=J 0:=rfl;rw[bK,xak,xaz]at ag;simp only[J1,ac2,go_sem,av.agg,av.aX,av.bl,av.bu,av.bT,av.cM,av.cR,av.dc,av.du,ag]
 .intro s aD;simp only[O4,go_sem,g3,yF ((m.vars.length:Int)<m.vars.length),oK,xbw]
 intro i v s kT ag aD;obtain⟨ad,ae,_⟩:=aN.2 v (xad kT);have lX:=agX n v ad ae;have an:=azT n v.span (by have:=(V.Lk v).1;omega) (V.Lk v).2 (by omega);have pR:=(Gf (V.Lk v).2).1;have cb:=yT ((i:Int)<(m.vars.length:Int));have gF:b9 false .add (J (s:Int)) (J (bitsOf v.span:Nat))=some (J ((s+bitsOf v.span:Nat):Int)):=by rw[fg (by omega) (by omega)];rfl
 left;refine⟨s+bitsOf v.span,?_,by rw[oK,xbl],by omega⟩;simp only[O4,go_sem,g3,cb,kz kT,V.dx,lX,an,gF,cl (bt:=false) (i:=i) (by omega)]
def iH:List (Int×(Int×Int))->Int×(Int×Int)
 |[]=>(0,(0,0))|a::r=>if a.2.2=0 then iH r else a
def aht{e3:Type}{f:List D->Option (List D⊕(List D⊕e3))}(L:List (Int×(Int×Int)))(fk:Nat->List D)(E:List D)(W:Int×(Int×Int)->e3) (aD:∀i a,L[i]?=some a->f (fk i)=some (if a.2.2=0 then .inl (fk (i+1))else .inr (.inr (W a)))) (he:f (fk L.length)=some (.inr (.inl E))) (n:Nat) (aH:L.length<n):bA f n (fk 0)=some (if(iH L).2.2=0 then .inl E else .inr (W (iH L))):=by
 have h:=dp (f:=f) L (λi (_:Unit)=>fk i) (λr _=>(if(iH r).2.2=0 then .inl E else .inr (W (iH r)):List D⊕e3)) (λ_ _=>True) (λ_ _=>by rw[he];rfl) ?_ n 0 () trivial (by omega) (xah _);.exact h
 intro i a _ aB ag _;have ad:=aD i a aB;by_cases ao:a.2.2=0
 .left;rw[xac ao]at ad;exact⟨(),ad,by rw[iH,xac ao],trivial⟩
 right;rw[xaa ao]at ad;rw[ad,iH,xaa ao,xaa ao]
def iR(m:av):List Nat:=[m.vars.length,m.au.length,m.bG.length,m.bE.length,m.next.length,m.trans.length,m.br.length,m.bw.length]
def iS(m:av)(i:Nat):Int:=if 64<(iR m)[i]?.getD 0 then 18 else 0
noncomputable def oL(m:av):List (Int×(Int×Int)):=[(2,cB (mV m) m.au.length 0),(2,cB (ny m) m.au.length 0),(2,cB (mW m) m.au.length 0),(3,cB (ft m m.bG false) m.bG.length 0),(4,cB (ft m m.bE false) m.bE.length 0),(5,cB (kg m) m.next.length 0),(6,cB (ft m m.trans true) m.trans.length 0),(7,cB (ft m m.br false) m.br.length 0),(8,cB (kh m) m.bw.length 0)]
noncomputable def Xi(m:av):List (Int×(Int×Int)):=[(2,ux m),(3,cB (ft m m.bG false) m.bG.length 0),(4,cB (ft m m.bE false) m.bE.length 0),(5,cB (kg m) m.next.length 0),(6,cB (ft m m.trans true) m.trans.length 0),(7,cB (ft m m.br false) m.br.length 0),(8,cB (kh m) m.bw.length 0)]
def ahu{a b:Int×Int}:(xY a b).2=0↔a.2=0/\b.2=0:=by unfold xY;by_cases h:a.2=0<;>simp[h]
def ahv(k:Int)(a b:Int×Int)(r:List (Int×(Int×Int))):iH ((k,xY a b)::r)=iH ((k,a)::(k,b)::r):=by simp only[iH];unfold xY;by_cases h:a.2=0<;>simp[h]
def aAQ(a:Int×(Int×Int)){r yb:List (Int×(Int×Int))}(h:iH r=iH yb):iH (a::r)=iH (a::yb):=by rw[iH,iH,h]
def aAR(m:av):iH (Xi m)=iH (oL m):=by unfold Xi ux;rw[ahv];exact aAQ _ (ahv _ _ _ _)
noncomputable def lf(m:av):Int×(Int×Int):=if(cB (iS m) 8 0).2=0 then
  if(mq m.vars).2=0 then
   if 30<oK m.vars then(1,(0,18))else iH (oL m)
  else(1,mq m.vars)
 else((cB (iS m) 8 0).1+1,(64,18))
def ew(q:Int×(Int×Int)):D:= .aU [.agg [J q.1,J q.2.1],J q.2.2]
def aAS{l:List V}(h:(mq l).2=0):mq l=(0,0):=by unfold mq at h⊢;cases ba:(List.range l.length).find? (λi=>kr l i !=0)with|none=>rw[ba]at h|some i=>rw[ba]at h;have:=List.find?_some ba;simp only at h;rw[h]at this;cases this
def ahw(L:List (Int×(Int×Int)))(h:(iH L).2.2=0):iH L=(0,(0,0)):=by
 induction L with
 |nil=>rfl
 |cons a r ih=>
  rw[iH]at h⊢;by_cases ao:a.2.2=0;.rw[xac ao]at h⊢;exact ih h
  rw[xaa ao]at h;exact absurd h ao
theorem iT{t:Nat}{x:D}:Eb (.eD t x)=some (t,x):=rfl
def v3(m:av):D:= .agg ((iR m).map λ(k:Nat)=>J (k:Int))
def gX(m:av):D:= .agg [.eD 151 (aJ m.au),.eD 152 (aJ m.au),.eD 153 (aJ m.au),.eD 155 (.agg [J 3,ar m.bG,ax false]),.eD 155 (.agg [J 4,ar m.bE,ax false]),.eD 156 (aJ m.next),.eD 155 (.agg [J 6,ar m.trans,ax true]),.eD 155 (.agg [J 7,ar m.br,ax false]),.eD 157 (bQ m.bw)]
theorem Qs{e3:Type}{a b:Option e3}:gP 151 151 a b=a:=rfl
theorem Qt{e3:Type}{a b:Option e3}:gP 152 151 a b=b:=rfl
theorem Qu{e3:Type}{a b:Option e3}:gP 152 152 a b=a:=rfl
theorem Qv{e3:Type}{a b:Option e3}:gP 153 151 a b=b:=rfl
theorem Qw{e3:Type}{a b:Option e3}:gP 153 152 a b=b:=rfl
theorem Qx{e3:Type}{a b:Option e3}:gP 153 153 a b=a:=rfl
theorem v5{e3:Type}{a b:Option e3}:gP 155 151 a b=b:=rfl
theorem v7{e3:Type}{a b:Option e3}:gP 155 152 a b=b:=rfl
theorem v8{e3:Type}{a b:Option e3}:gP 155 153 a b=b:=rfl
theorem v9{e3:Type}{a b:Option e3}:gP 155 155 a b=a:=rfl
theorem Qy{e3:Type}{a b:Option e3}:gP 156 151 a b=b:=rfl
theorem Qz{e3:Type}{a b:Option e3}:gP 156 152 a b=b:=rfl
theorem QA{e3:Type}{a b:Option e3}:gP 156 153 a b=b:=rfl
theorem QB{e3:Type}{a b:Option e3}:gP 156 155 a b=b:=rfl
theorem QC{e3:Type}{a b:Option e3}:gP 156 156 a b=a:=rfl
theorem QD{e3:Type}{a b:Option e3}:gP 157 151 a b=b:=rfl
theorem QE{e3:Type}{a b:Option e3}:gP 157 152 a b=b:=rfl
theorem QF{e3:Type}{a b:Option e3}:gP 157 153 a b=b:=rfl
theorem QG{e3:Type}{a b:Option e3}:gP 157 155 a b=b:=rfl
theorem QH{e3:Type}{a b:Option e3}:gP 157 156 a b=b:=rfl
theorem QI{e3:Type}{a b:Option e3}:gP 157 157 a b=a:=rfl
section
variable{m:av}{n:Nat}(hm:Qq m n)
include hm
theorem aAT:bA (tJ n) n [v3 m,J 0,bg m.vars,aJ m.au,ar m.bG,ar m.bE,aJ m.next,ar m.trans,ar m.br,bQ m.bw,J 0,J 0]=some (if(cB (iS m) 8 0).2=0 then .inl [bg m.vars,aJ m.au,ar m.bG,ar m.bE,aJ m.next,ar m.trans,ar m.br,bQ m.bw,J 0,J 0]else .inr (ew ((cB (iS m) 8 0).1+1,(64,18)))):=by
 have an:=hm.jY;refine n6 (f:=tJ n) (λi=>[v3 m,J (i:Int),bg m.vars,aJ m.au,ar m.bG,ar m.bE,aJ m.next,ar m.trans,ar m.br,bQ m.bw,J 0,J 0]) (iS m) 8 _ (λp=>ew (p.1+1,(64,18))) ?_ ?_ 8 0 n (by omega) (by omega)
 .intro i ag;obtain⟨k,ai⟩:∃k,(iR m)[i]?=some k:=⟨_,xab ag⟩;have cb:=yT ((i:Int)<8);have fy:c4 8 (J (i:Int))=some i:=by rw[oD,xac ag]
  have ba:mr false 1 (i*1) (v3 m)=some (J (k:Int)):=by unfold v3;rw[Nat.mul_one,abv,jk,xaj,ai];rfl
  have C4:b9 false .add (J 1) (J (i:Int))=some (J ((i:Int)+1)):=by rw[fg (by omega) (by omega)];congr 2;omega
  have cg:iS m i=if 64<k then 18 else 0:=by unfold iS;rw[ai];rfl
  by_cases aj:64<k;.rw[cg,xac aj,xaa (by decide)];simp only[tJ,go_sem,cb,fy,ba,yT ((k:Int)>64),C4,ew]
  rw[cg,xaa aj,xac rfl];simp only[tJ,go_sem,cb,fy,ba,yF ((k:Int)>64),cl (bt:=false) (i:=i) (by omega)]
 simp only[tJ,go_sem,show decide (((8:Nat):Int)<8)=false from rfl]
theorem aAU:bA (tX n) n [J 0,bg m.vars,aJ m.au,ar m.bG,ar m.bE,aJ m.next,ar m.trans,ar m.br,bQ m.bw,J 0,J 0,D.aE 1 ((iR m).map λ(k:Nat)=>[J (k:Int)])]=some (if(cB (iS m) 8 0).2=0 then .inl [bg m.vars,aJ m.au,ar m.bG,ar m.bE,aJ m.next,ar m.trans,ar m.br,bQ m.bw,J 0,J 0]else .inr (ew ((cB (iS m) 8 0).1+1,(64,18)))):=by
 have an:=hm.jY;refine n6 (f:=tX n) (λi=>[J (i:Int),bg m.vars,aJ m.au,ar m.bG,ar m.bE,aJ m.next,ar m.trans,ar m.br,bQ m.bw,J 0,J 0,D.aE 1 ((iR m).map λ(k:Nat)=>[J (k:Int)])]) (iS m) 8 _ (λp=>ew (p.1+1,(64,18))) ?_ ?_ 8 0 n (by omega) (by omega)
 .intro i ag;obtain⟨k,ai⟩:∃k,(iR m)[i]?=some k:=⟨_,xab ag⟩;have bz:((iR m).map λ(k:Nat)=>[J (k:Int)]).length=8:=rfl;have cb:=yT ((i:Int)<((8:Nat):Int));have fy:c4 8 (J (i:Int))=some i:=by rw[oD,xac ag]
  have ba:((iR m).map λ(k:Nat)=>[J (k:Int)])[i]?=some [J (k:Int)]:=by rw[xaj,ai];rfl
  have C4:b9 false .add (J (i:Int)) (J 1)=some (J ((i:Int)+1)):=by rw[fg (by omega) (by omega)]
  have cg:iS m i=if 64<k then 18 else 0:=by unfold iS;rw[ai];rfl
  generalize ((iR m).map λ(k:Nat)=>[J (k:Int)])=aAV at*;by_cases aj:64<k;.rw[cg,xac aj,xaa (by decide)];simp only[tX,go_sem,bz,cb,fy,ba,Gj,yT ((k:Int)>64),C4,ew]
  rw[cg,xaa aj,xac rfl];simp only[tX,go_sem,bz,cb,fy,ba,Gj,yF ((k:Int)>64),cl (bt:=false) (i:=i) (by omega)]
 have bz:((iR m).map λ(k:Nat)=>[J (k:Int)]).length=8:=rfl;simp only[tX,go_sem,bz,show decide (((8:Nat):Int)<((8:Nat):Int))=false from rfl]
theorem aAW(A kW:D):bA (iD n) n [D.eD 151 (aJ m.au),A,kW,J m.au.length,J 0,bg m.vars,aJ m.au,ar m.bG,ar m.bE,aJ m.next,ar m.trans,ar m.br,bQ m.bw,J 0,J 0]=some (if(cB (mV m) m.au.length 0).2=0 then .inl [A,kW,bg m.vars,aJ m.au,ar m.bG,ar m.bE,aJ m.next,ar m.trans,ar m.br,bQ m.bw,J 0,J 0]else .inr (.inr (.inr (.inr (ew (2,cB (mV m) m.au.length 0)))))):=by
 have an:=hm.jY;have cj:=hm.a9.dl;refine n6 (f:=iD n) (λi=>[D.eD 151 (aJ m.au),A,kW,J m.au.length,J (i:Int),bg m.vars,aJ m.au,ar m.bG,ar m.bE,aJ m.next,ar m.trans,ar m.br,bQ m.bw,J 0,J 0]) (mV m) (m.au.length) _ (λp=> .inr (.inr (.inr (ew (2,p))))) ?_ ?_ _ 0 n (by omega) (by omega)
 .intro i ag;have cb:=yT ((i:Int)<((m.au.length:Nat):Int));have hw:=aAv hm i ag;change xh n [_,m.d,J (i:Int)]=some (J (mV m i))at hw;by_cases aj:mV m i=0
  .have dZ:(mV m i !=0)=false:=by simp[aj]
   rw[xac aj];simp only[iD,go_sem,cb,iT,Qs,av.eta,hw,dZ,cl (bt:=false) (i:=i) (by omega)]
  have dZ:(mV m i !=0)=true:=by simpa using aj
  rw[xaa aj];simp only[iD,go_sem,cb,iT,Qs,av.eta,hw,dZ,OH,acN,ew]
 simp only[iD,go_sem,yF (((m.au.length:Nat):Int)<((m.au.length:Nat):Int))]
theorem aAX(A kW:D):bA (iD n) n [D.eD 152 (aJ m.au),A,kW,J m.au.length,J 0,bg m.vars,aJ m.au,ar m.bG,ar m.bE,aJ m.next,ar m.trans,ar m.br,bQ m.bw,J 0,J 0]=some (if(cB (ny m) m.au.length 0).2=0 then .inl [A,kW,bg m.vars,aJ m.au,ar m.bG,ar m.bE,aJ m.next,ar m.trans,ar m.br,bQ m.bw,J 0,J 0]else .inr (.inr (.inr (.inr (ew (2,cB (ny m) m.au.length 0)))))):=by
 have an:=hm.jY;have cj:=hm.a9.dl;refine n6 (f:=iD n) (λi=>[D.eD 152 (aJ m.au),A,kW,J m.au.length,J (i:Int),bg m.vars,aJ m.au,ar m.bG,ar m.bE,aJ m.next,ar m.trans,ar m.br,bQ m.bw,J 0,J 0]) (ny m) (m.au.length) _ (λp=> .inr (.inr (.inr (ew (2,p))))) ?_ ?_ _ 0 n (by omega) (by omega)
 .intro i ag;have cb:=yT ((i:Int)<((m.au.length:Nat):Int));have hw:=aAr n m hm.a9.d i ag (by omega);change EN n [_,m.d,J (i:Int)]=some (J (ny m i))at hw;by_cases aj:ny m i=0
  .have dZ:(ny m i !=0)=false:=by simp[aj]
   rw[xac aj];simp only[iD,go_sem,cb,iT,Qt,Qu,av.eta,hw,dZ,cl (bt:=false) (i:=i) (by omega)]
  have dZ:(ny m i !=0)=true:=by simpa using aj
  rw[xaa aj];simp only[iD,go_sem,cb,iT,Qt,Qu,av.eta,hw,dZ,OG,acM,ew]
 simp only[iD,go_sem,yF (((m.au.length:Nat):Int)<((m.au.length:Nat):Int))]
theorem aAY(A kW:D):bA (iD n) n [D.eD 153 (aJ m.au),A,kW,J m.au.length,J 0,bg m.vars,aJ m.au,ar m.bG,ar m.bE,aJ m.next,ar m.trans,ar m.br,bQ m.bw,J 0,J 0]=some (if(cB (mW m) m.au.length 0).2=0 then .inl [A,kW,bg m.vars,aJ m.au,ar m.bG,ar m.bE,aJ m.next,ar m.trans,ar m.br,bQ m.bw,J 0,J 0]else .inr (.inr (.inr (.inr (ew (2,cB (mW m) m.au.length 0)))))):=by
 have an:=hm.jY;have cj:=hm.a9.dl;refine n6 (f:=iD n) (λi=>[D.eD 153 (aJ m.au),A,kW,J m.au.length,J (i:Int),bg m.vars,aJ m.au,ar m.bG,ar m.bE,aJ m.next,ar m.trans,ar m.br,bQ m.bw,J 0,J 0]) (mW m) (m.au.length) _ (λp=> .inr (.inr (.inr (ew (2,p))))) ?_ ?_ _ 0 n (by omega) (by omega)
 .intro i ag;have cb:=yT ((i:Int)<((m.au.length:Nat):Int));have hw:=aAw hm i ag;change EM n [_,m.d,J (i:Int)]=some (J (mW m i))at hw;by_cases aj:mW m i=0
  .have dZ:(mW m i !=0)=false:=by simp[aj]
   rw[xac aj];simp only[iD,go_sem,cb,iT,Qv,Qw,Qx,av.eta,hw,dZ,cl (bt:=false) (i:=i) (by omega)]
  have dZ:(mW m i !=0)=true:=by simpa using aj
  rw[xaa aj];simp only[iD,go_sem,cb,iT,Qv,Qw,Qx,av.eta,hw,dZ,OF,acL,ew]
 simp only[iD,go_sem,yF (((m.au.length:Nat):Int)<((m.au.length:Nat):Int))]
theorem QJ(l:List Tm)(ak:l.length<=100/\∀t∈l,t.bR/\t.a9<=12300)(k:Int)(nx:Bool)(A kW:D):bA (iD n) n [D.eD 155 (D.agg [J k,ar l,ax nx]),A,kW,J l.length,J 0,bg m.vars,aJ m.au,ar m.bG,ar m.bE,aJ m.next,ar m.trans,ar m.br,bQ m.bw,J 0,J 0]=some (if(cB (ft m l nx) l.length 0).2=0 then .inl [A,kW,bg m.vars,aJ m.au,ar m.bG,ar m.bE,aJ m.next,ar m.trans,ar m.br,bQ m.bw,J 0,J 0]else .inr (.inr (.inr (.inr (ew (k,cB (ft m l nx) l.length 0)))))):=by
 have an:=hm.jY;have cj:=ak.1;have aAZ:aa (D.agg [J k,ar l,ax nx]) 0=J k:=rfl;have aA0:aL 3 (D.agg [J k,ar l,ax nx])=true:=rfl;refine n6 (f:=iD n) (λi=>[D.eD 155 (D.agg [J k,ar l,ax nx]),A,kW,J l.length,J (i:Int),bg m.vars,aJ m.au,ar m.bG,ar m.bE,aJ m.next,ar m.trans,ar m.br,bQ m.bw,J 0,J 0]) (ft m l nx) (l.length) _ (λp=> .inr (.inr (.inr (ew (k,p))))) ?_ ?_ _ 0 n (by omega) (by omega)
 .intro i ag;have cb:=yT ((i:Int)<((l.length:Nat):Int));have hw:=aAx hm l ak.2 k nx i ag;change EL n [_,m.d,J (i:Int)]=some (J (ft m l nx i))at hw;by_cases aj:ft m l nx i=0
  .have dZ:(ft m l nx i !=0)=false:=by simp[aj]
   rw[xac aj];simp only[iD,go_sem,cb,iT,v5,v7,v8,v9,av.eta,hw,dZ,cl (bt:=false) (i:=i) (by omega)]
  have dZ:(ft m l nx i !=0)=true:=by simpa using aj
  rw[xaa aj];simp only[iD,go_sem,cb,iT,v5,v7,v8,v9,av.eta,hw,dZ,OE,acK,aAZ,aA0,ew]
 simp only[iD,go_sem,yF (((l.length:Nat):Int)<((l.length:Nat):Int))]
theorem aA1(A kW:D):bA (iD n) n [D.eD 156 (aJ m.next),A,kW,J m.next.length,J 0,bg m.vars,aJ m.au,ar m.bG,ar m.bE,aJ m.next,ar m.trans,ar m.br,bQ m.bw,J 0,J 0]=some (if(cB (kg m) m.next.length 0).2=0 then .inl [A,kW,bg m.vars,aJ m.au,ar m.bG,ar m.bE,aJ m.next,ar m.trans,ar m.br,bQ m.bw,J 0,J 0]else .inr (.inr (.inr (.inr (ew (5,cB (kg m) m.next.length 0)))))):=by
 have an:=hm.jY;have cj:=hm.next.1
 refine n6 (f:=iD n) (λi=>[D.eD 156 (aJ m.next),A,kW,J m.next.length,J (i:Int),bg m.vars,aJ m.au,ar m.bG,ar m.bE,aJ m.next,ar m.trans,ar m.br,bQ m.bw,J 0,J 0]) (kg m) (m.next.length) _ (λp=> .inr (.inr (.inr (ew (5,p))))) ?_ ?_ _ 0 n (by omega) (by omega)
 .intro i ag;have cb:=yT ((i:Int)<((m.next.length:Nat):Int));have hw:=aAy hm i ag;change y8 n [_,m.d,J (i:Int)]=some (J (kg m i))at hw;by_cases aj:kg m i=0
  .have dZ:(kg m i !=0)=false:=by simp[aj]
   rw[xac aj];simp only[iD,go_sem,cb,iT,Qy,Qz,QA,QB,QC,av.eta,hw,dZ,cl (bt:=false) (i:=i) (by omega)]
  have dZ:(kg m i !=0)=true:=by simpa using aj
  rw[xaa aj];simp only[iD,go_sem,cb,iT,Qy,Qz,QA,QB,QC,av.eta,hw,dZ,OD,acJ,ew]
 simp only[iD,go_sem,yF (((m.next.length:Nat):Int)<((m.next.length:Nat):Int))]
theorem aA2(A kW:D):bA (iD n) n [D.eD 157 (bQ m.bw),A,kW,J m.bw.length,J 0,bg m.vars,aJ m.au,ar m.bG,ar m.bE,aJ m.next,ar m.trans,ar m.br,bQ m.bw,J 0,J 0]=some (if(cB (kh m) m.bw.length 0).2=0 then .inl [A,kW,bg m.vars,aJ m.au,ar m.bG,ar m.bE,aJ m.next,ar m.trans,ar m.br,bQ m.bw,J 0,J 0]else .inr (.inr (.inr (.inr (ew (8,cB (kh m) m.bw.length 0)))))):=by
 have an:=hm.jY;have cj:=hm.bw.1;refine n6 (f:=iD n) (λi=>[D.eD 157 (bQ m.bw),A,kW,J m.bw.length,J (i:Int),bg m.vars,aJ m.au,ar m.bG,ar m.bE,aJ m.next,ar m.trans,ar m.br,bQ m.bw,J 0,J 0]) (kh m) (m.bw.length) _ (λp=> .inr (.inr (.inr (ew (8,p))))) ?_ ?_ _ 0 n (by omega) (by omega)
 .intro i ag;have cb:=yT ((i:Int)<((m.bw.length:Nat):Int));have hw:=aAz hm i ag;change xf n [_,m.d,J (i:Int)]=some (J (kh m i))at hw;by_cases aj:kh m i=0
  .have dZ:(kh m i !=0)=false:=by simp[aj]
   rw[xac aj];simp only[iD,go_sem,cb,iT,QD,QE,QF,QG,QH,QI,av.eta,hw,dZ,cl (bt:=false) (i:=i) (by omega)]
  have dZ:(kh m i !=0)=true:=by simpa using aj
  rw[xaa aj];simp only[iD,go_sem,cb,iT,QD,QE,QF,QG,QH,QI,av.eta,hw,dZ,OC,acI,ew]
 simp only[iD,go_sem,yF (((m.bw.length:Nat):Int)<((m.bw.length:Nat):Int))]
theorem aA3:im n [gX m,J 0,bg m.vars,aJ m.au,ar m.bG,ar m.bE,aJ m.next,ar m.trans,ar m.br,bQ m.bw,J 0,J 0]=some (if(cB (mV m) m.au.length 0).2=0 then .inl [gX m,J 1,bg m.vars,aJ m.au,ar m.bG,ar m.bE,aJ m.next,ar m.trans,ar m.br,bQ m.bw,J 0,J 0]else .inr (.inr (ew (2,cB (mV m) m.au.length 0)))):=by
 have fO:=aAW hm (gX m) (J 0);have cb:decide ((0:Int)<9)=true:=rfl;have fy:c4 9 (J 0)=some 0:=rfl;have ba:mr false 1 (0*1) (gX m)=some (D.eD 151 (aJ m.au)):=rfl;have jd:Is n [aJ m.au]=some (J m.au.length):=by simp only[Is,acn,go_sem,eT]
 have gF:b9 false .add (J 0) (J 1)=some (J 1):=fg (by decide) (by decide);by_cases aj:(cB (mV m) m.au.length 0).2=0;.rw[xac aj]at fO⊢;simp only[im,go_sem,cb,fy,ba,iT,Qs,jd,fO,gF]
 rw[xaa aj]at fO⊢;simp only[im,go_sem,cb,fy,ba,iT,Qs,jd,fO]
theorem aA4:im n [gX m,J 1,bg m.vars,aJ m.au,ar m.bG,ar m.bE,aJ m.next,ar m.trans,ar m.br,bQ m.bw,J 0,J 0]=some (if(cB (ny m) m.au.length 0).2=0 then .inl [gX m,J 2,bg m.vars,aJ m.au,ar m.bG,ar m.bE,aJ m.next,ar m.trans,ar m.br,bQ m.bw,J 0,J 0]else .inr (.inr (ew (2,cB (ny m) m.au.length 0)))):=by
 have fO:=aAX hm (gX m) (J 1);have cb:decide ((1:Int)<9)=true:=rfl;have fy:c4 9 (J 1)=some 1:=rfl;have ba:mr false 1 (1*1) (gX m)=some (D.eD 152 (aJ m.au)):=rfl;have jd:Ir n [aJ m.au]=some (J m.au.length):=by simp only[Ir,acm,go_sem,eT]
 have gF:b9 false .add (J 1) (J 1)=some (J 2):=fg (by decide) (by decide);by_cases aj:(cB (ny m) m.au.length 0).2=0;.rw[xac aj]at fO⊢;simp only[im,go_sem,cb,fy,ba,iT,Qt,Qu,jd,fO,gF]
 rw[xaa aj]at fO⊢;simp only[im,go_sem,cb,fy,ba,iT,Qt,Qu,jd,fO]
theorem aA5:im n [gX m,J 2,bg m.vars,aJ m.au,ar m.bG,ar m.bE,aJ m.next,ar m.trans,ar m.br,bQ m.bw,J 0,J 0]=some (if(cB (mW m) m.au.length 0).2=0 then .inl [gX m,J 3,bg m.vars,aJ m.au,ar m.bG,ar m.bE,aJ m.next,ar m.trans,ar m.br,bQ m.bw,J 0,J 0]else .inr (.inr (ew (2,cB (mW m) m.au.length 0)))):=by
 have fO:=aAY hm (gX m) (J 2);have cb:decide ((2:Int)<9)=true:=rfl;have fy:c4 9 (J 2)=some 2:=rfl;have ba:mr false 1 (2*1) (gX m)=some (D.eD 153 (aJ m.au)):=rfl;have jd:Iq n [aJ m.au]=some (J m.au.length):=by simp only[Iq,ack,go_sem,eT]
 have gF:b9 false .add (J 2) (J 1)=some (J 3):=fg (by decide) (by decide);by_cases aj:(cB (mW m) m.au.length 0).2=0;.rw[xac aj]at fO⊢;simp only[im,go_sem,cb,fy,ba,iT,Qv,Qw,Qx,jd,fO,gF]
 rw[xaa aj]at fO⊢;simp only[im,go_sem,cb,fy,ba,iT,Qv,Qw,Qx,jd,fO]
theorem aA6:im n [gX m,J 3,bg m.vars,aJ m.au,ar m.bG,ar m.bE,aJ m.next,ar m.trans,ar m.br,bQ m.bw,J 0,J 0]=some (if(cB (ft m m.bG false) m.bG.length 0).2=0 then .inl [gX m,J 4,bg m.vars,aJ m.au,ar m.bG,ar m.bE,aJ m.next,ar m.trans,ar m.br,bQ m.bw,J 0,J 0]else .inr (.inr (ew (3,cB (ft m m.bG false) m.bG.length 0)))):=by
 have fO:=QJ hm m.bG hm.bG 3 false (gX m) (J 3);have cb:decide ((3:Int)<9)=true:=rfl;have fy:c4 9 (J 3)=some 3:=rfl;have ba:mr false 1 (3*1) (gX m)=some (D.eD 155 (D.agg [J 3,ar m.bG,ax false])):=rfl;have jd:tB n [D.agg [J 3,ar m.bG,ax false]]=some (J m.bG.length):=by have az:aL 3 (D.agg [J 3,ar m.bG,ax false])=true:=rfl;have a3:aa (D.agg [J 3,ar m.bG,ax false]) 1=ar m.bG:=rfl;simp only[tB,Ip,go_sem,az,a3,iP]
 have gF:b9 false .add (J 3) (J 1)=some (J 4):=fg (by decide) (by decide);by_cases aj:(cB (ft m m.bG false) m.bG.length 0).2=0;.rw[xac aj]at fO⊢;simp only[im,go_sem,cb,fy,ba,iT,v5,v7,v8,v9,jd,fO,gF]
 rw[xaa aj]at fO⊢;simp only[im,go_sem,cb,fy,ba,iT,v5,v7,v8,v9,jd,fO]
theorem aA7:im n [gX m,J 4,bg m.vars,aJ m.au,ar m.bG,ar m.bE,aJ m.next,ar m.trans,ar m.br,bQ m.bw,J 0,J 0]=some (if(cB (ft m m.bE false) m.bE.length 0).2=0 then .inl [gX m,J 5,bg m.vars,aJ m.au,ar m.bG,ar m.bE,aJ m.next,ar m.trans,ar m.br,bQ m.bw,J 0,J 0]else .inr (.inr (ew (4,cB (ft m m.bE false) m.bE.length 0)))):=by
 have fO:=QJ hm m.bE hm.bE 4 false (gX m) (J 4);have cb:decide ((4:Int)<9)=true:=rfl;have fy:c4 9 (J 4)=some 4:=rfl;have ba:mr false 1 (4*1) (gX m)=some (D.eD 155 (D.agg [J 4,ar m.bE,ax false])):=rfl;have jd:tB n [D.agg [J 4,ar m.bE,ax false]]=some (J m.bE.length):=by have az:aL 3 (D.agg [J 4,ar m.bE,ax false])=true:=rfl;have a3:aa (D.agg [J 4,ar m.bE,ax false]) 1=ar m.bE:=rfl;simp only[tB,Ip,go_sem,az,a3,iP]
 have gF:b9 false .add (J 4) (J 1)=some (J 5):=fg (by decide) (by decide);by_cases aj:(cB (ft m m.bE false) m.bE.length 0).2=0;.rw[xac aj]at fO⊢;simp only[im,go_sem,cb,fy,ba,iT,v5,v7,v8,v9,jd,fO,gF]
 rw[xaa aj]at fO⊢;simp only[im,go_sem,cb,fy,ba,iT,v5,v7,v8,v9,jd,fO]
theorem aA8:im n [gX m,J 5,bg m.vars,aJ m.au,ar m.bG,ar m.bE,aJ m.next,ar m.trans,ar m.br,bQ m.bw,J 0,J 0]=some (if(cB (kg m) m.next.length 0).2=0 then .inl [gX m,J 6,bg m.vars,aJ m.au,ar m.bG,ar m.bE,aJ m.next,ar m.trans,ar m.br,bQ m.bw,J 0,J 0]else .inr (.inr (ew (5,cB (kg m) m.next.length 0)))):=by
 have fO:=aA1 hm (gX m) (J 5);have cb:decide ((5:Int)<9)=true:=rfl;have fy:c4 9 (J 5)=some 5:=rfl;have ba:mr false 1 (5*1) (gX m)=some (D.eD 156 (aJ m.next)):=rfl;have jd:Io n [aJ m.next]=some (J m.next.length):=by simp only[Io,acj,go_sem,eT]
 have gF:b9 false .add (J 5) (J 1)=some (J 6):=fg (by decide) (by decide);by_cases aj:(cB (kg m) m.next.length 0).2=0;.rw[xac aj]at fO⊢;simp only[im,go_sem,cb,fy,ba,iT,Qy,Qz,QA,QB,QC,jd,fO,gF]
 rw[xaa aj]at fO⊢;simp only[im,go_sem,cb,fy,ba,iT,Qy,Qz,QA,QB,QC,jd,fO]
theorem aA9:im n [gX m,J 6,bg m.vars,aJ m.au,ar m.bG,ar m.bE,aJ m.next,ar m.trans,ar m.br,bQ m.bw,J 0,J 0]=some (if(cB (ft m m.trans true) m.trans.length 0).2=0 then .inl [gX m,J 7,bg m.vars,aJ m.au,ar m.bG,ar m.bE,aJ m.next,ar m.trans,ar m.br,bQ m.bw,J 0,J 0]else .inr (.inr (ew (6,cB (ft m m.trans true) m.trans.length 0)))):=by
 have fO:=QJ hm m.trans hm.trans 6 true (gX m) (J 6);have cb:decide ((6:Int)<9)=true:=rfl;have fy:c4 9 (J 6)=some 6:=rfl;have ba:mr false 1 (6*1) (gX m)=some (D.eD 155 (D.agg [J 6,ar m.trans,ax true])):=rfl;have jd:tB n [D.agg [J 6,ar m.trans,ax true]]=some (J m.trans.length):=by have az:aL 3 (D.agg [J 6,ar m.trans,ax true])=true:=rfl;have a3:aa (D.agg [J 6,ar m.trans,ax true]) 1=ar m.trans:=rfl;simp only[tB,Ip,go_sem,az,a3,iP]
 have gF:b9 false .add (J 6) (J 1)=some (J 7):=fg (by decide) (by decide);by_cases aj:(cB (ft m m.trans true) m.trans.length 0).2=0;.rw[xac aj]at fO⊢;simp only[im,go_sem,cb,fy,ba,iT,v5,v7,v8,v9,jd,fO,gF]
 rw[xaa aj]at fO⊢;simp only[im,go_sem,cb,fy,ba,iT,v5,v7,v8,v9,jd,fO]
theorem aBa:im n [gX m,J 7,bg m.vars,aJ m.au,ar m.bG,ar m.bE,aJ m.next,ar m.trans,ar m.br,bQ m.bw,J 0,J 0]=some (if(cB (ft m m.br false) m.br.length 0).2=0 then .inl [gX m,J 8,bg m.vars,aJ m.au,ar m.bG,ar m.bE,aJ m.next,ar m.trans,ar m.br,bQ m.bw,J 0,J 0]else .inr (.inr (ew (7,cB (ft m m.br false) m.br.length 0)))):=by
 have fO:=QJ hm m.br hm.br 7 false (gX m) (J 7);have cb:decide ((7:Int)<9)=true:=rfl;have fy:c4 9 (J 7)=some 7:=rfl;have ba:mr false 1 (7*1) (gX m)=some (D.eD 155 (D.agg [J 7,ar m.br,ax false])):=rfl;have jd:tB n [D.agg [J 7,ar m.br,ax false]]=some (J m.br.length):=by have az:aL 3 (D.agg [J 7,ar m.br,ax false])=true:=rfl;have a3:aa (D.agg [J 7,ar m.br,ax false]) 1=ar m.br:=rfl;simp only[tB,Ip,go_sem,az,a3,iP]
 have gF:b9 false .add (J 7) (J 1)=some (J 8):=fg (by decide) (by decide);by_cases aj:(cB (ft m m.br false) m.br.length 0).2=0;.rw[xac aj]at fO⊢;simp only[im,go_sem,cb,fy,ba,iT,v5,v7,v8,v9,jd,fO,gF]
 rw[xaa aj]at fO⊢;simp only[im,go_sem,cb,fy,ba,iT,v5,v7,v8,v9,jd,fO]
theorem aBb:im n [gX m,J 8,bg m.vars,aJ m.au,ar m.bG,ar m.bE,aJ m.next,ar m.trans,ar m.br,bQ m.bw,J 0,J 0]=some (if(cB (kh m) m.bw.length 0).2=0 then .inl [gX m,J 9,bg m.vars,aJ m.au,ar m.bG,ar m.bE,aJ m.next,ar m.trans,ar m.br,bQ m.bw,J 0,J 0]else .inr (.inr (ew (8,cB (kh m) m.bw.length 0)))):=by
 have fO:=aA2 hm (gX m) (J 8);have cb:decide ((8:Int)<9)=true:=rfl;have fy:c4 9 (J 8)=some 8:=rfl;have ba:mr false 1 (8*1) (gX m)=some (D.eD 157 (bQ m.bw)):=rfl;have jd:Im n [bQ m.bw]=some (J m.bw.length):=by simp only[Im,aci,go_sem,jc]
 have gF:b9 false .add (J 8) (J 1)=some (J 9):=fg (by decide) (by decide);by_cases aj:(cB (kh m) m.bw.length 0).2=0;.rw[xac aj]at fO⊢;simp only[im,go_sem,cb,fy,ba,iT,QD,QE,QF,QG,QH,QI,jd,fO,gF]
 rw[xaa aj]at fO⊢;simp only[im,go_sem,cb,fy,ba,iT,QD,QE,QF,QG,QH,QI,jd,fO]
theorem aBc:bA (im n) n [gX m,J 0,bg m.vars,aJ m.au,ar m.bG,ar m.bE,aJ m.next,ar m.trans,ar m.br,bQ m.bw,J 0,J 0]=some (if(iH (oL m)).2.2=0 then .inl [J 0,J 0]else .inr (ew (iH (oL m)))):=by
 have an:=hm.jY;refine aht (f:=im n) (oL m) (λi=>[gX m,J (i:Int),bg m.vars,aJ m.au,ar m.bG,ar m.bE,aJ m.next,ar m.trans,ar m.br,bQ m.bw,J 0,J 0]) [J 0,J 0] ew ?_ ?_ n (by show 9<n;omega)
 .intro i a aB
  match i,aB with
  |0,aB=>cases aB;exact aA3 hm
  |1,aB=>cases aB;exact aA4 hm
  |2,aB=>cases aB;exact aA5 hm
  |3,aB=>cases aB;exact aA6 hm
  |4,aB=>cases aB;exact aA7 hm
  |5,aB=>cases aB;exact aA8 hm
  |6,aB=>cases aB;exact aA9 hm
  |7,aB=>cases aB;exact aBa hm
  |8,aB=>cases aB;exact aBb hm
  |j+9,aB=>cases aB
 show im n [gX m,J 9,bg m.vars,aJ m.au,ar m.bG,ar m.bE,aJ m.next,ar m.trans,ar m.br,bQ m.bw,J 0,J 0]=_;simp only[im,go_sem,show decide ((9:Int)<9)=false from rfl]
theorem aBd:r8 n [m.d]=some (ew (lf m)):=by
 have an:=hm.jY;have ae:=aAT hm;have je:=aBc hm;have g8:=azP n m.vars hm.mc (by have:=hm.a9.jL;omega) hm.ahn;have fM:=aAO n m hm.mc hm.a9.jL (by omega);have hh:D.agg [J (m.vars.length:Int),J (m.au.length:Int),J (m.bG.length:Int),J (m.bE.length:Int),J (m.next.length:Int),J (m.trans.length:Int),J (m.br.length:Int),J (m.bw.length:Int)]=v3 m:=rfl;have ahx:D.agg [.eD 151 (aJ m.au),.eD 152 (aJ m.au),.eD 153 (aJ m.au),.eD 155 (.agg [J 3,ar m.bG,ax false]),.eD 155 (.agg [J 4,ar m.bE,ax false]),.eD 156 (aJ m.next),.eD 155 (.agg [J 6,ar m.trans,ax true]),.eD 155 (.agg [J 7,ar m.br,ax false]),.eD 157 (bQ m.bw)]=gX m:=rfl;have QK:∀l,bZ (ar l)=true:=λ_=>rfl;have fD:∀t x,bZ (D.eD t x)=true:=λ_ _=>rfl;unfold lf;by_cases bl:(cB (iS m) 8 0).2=0
 case neg=>rw[xaa bl]at ae⊢;simp only[r8,BV,go_sem,av.agg,av.aX,av.bl,av.bu,av.bT,av.cM,av.cR,av.dc,av.du,av.eta,g3,eT,iP,jc,hh,ae]
 rw[xac bl]at ae⊢;by_cases bu:(mq m.vars).2=0
 case neg=>
  have py:((mq m.vars).2 !=0)=true:=by simpa using bu
  rw[xaa bu];simp only[r8,BV,go_sem,av.agg,av.aX,av.bl,av.bu,av.bT,av.cM,av.cR,av.dc,av.du,av.eta,g3,eT,iP,jc,hh,ae,g8,py,ew]
 have py:((mq m.vars).2 !=0)=false:=by simp[bu]
 rw[xac bu];by_cases bT:30<oK m.vars;.have rj:=yT (((oK m.vars:Nat):Int)>30);rw[xac bT];simp only[r8,BV,go_sem,av.agg,av.aX,av.bl,av.bu,av.bT,av.cM,av.cR,av.dc,av.du,av.eta,g3,eT,iP,jc,hh,ae,g8,py,fM,rj,ew]
 have rj:=yF (((oK m.vars:Nat):Int)>30);rw[xaa bT];by_cases cM:(iH (oL m)).2.2=0;.rw[xac cM]at je;rw[ahw _ cM];simp only[r8,BV,go_sem,av.agg,av.aX,av.bl,av.bu,av.bT,av.cM,av.cR,av.dc,av.du,av.eta,g3,eT,iP,jc,hh,ae,g8,py,fM,rj,QK,fD,ahx,je,ew]
 rw[xaa cM]at je;simp only[r8,BV,go_sem,av.agg,av.aX,av.bl,av.bu,av.bT,av.cM,av.cR,av.dc,av.du,av.eta,g3,eT,iP,jc,hh,ae,g8,py,fM,rj,QK,fD,ahx,je]
theorem aBe(h:(ux m).2=0):ux m=(0,0):=by unfold ux at h⊢;obtain⟨ad,ae⟩:=ahu.1 h;obtain⟨az,a3⟩:=ahu.1 ae;rw[xY,xac ad,xY,xac az,uw _ _ _ a3]
theorem aBf:jV n [J 0,J 0,J 2,bg m.vars,aJ m.au,ar m.bG,ar m.bE,aJ m.next,ar m.trans,ar m.br,bQ m.bw,J 0,J 0]=some (if(ux m).2=0 then .inl [J 0,J 0,J 3,bg m.vars,aJ m.au,ar m.bG,ar m.bE,aJ m.next,ar m.trans,ar m.br,bQ m.bw,J 0,J 0]else .inr (.inr (ew (2,ux m)))):=by
 have hs:=aAH hm;have cb:decide ((2:Int)<=8)=true:=rfl;have bP:((2:Int)==2)=true:=rfl;have gF:b9 false .add (J 2) (J 1)=some (J 3):=fg (by decide) (by decide);by_cases aj:(ux m).2=0
 .have bF:=aBe hm aj;rw[bF]at hs⊢;have hP:((0:Int) !=0)=false:=rfl;simp only[jV,go_sem,cb,bP,av.eta,hs,gn,hP,gF]
 rw[xaa aj];generalize ux m=p at*;have dZ:(p.2 !=0)=true:=by simpa using aj
 simp only[jV,go_sem,cb,bP,av.eta,hs,gn,dZ,ew]
theorem aBg:jV n [J 0,J 0,J 3,bg m.vars,aJ m.au,ar m.bG,ar m.bE,aJ m.next,ar m.trans,ar m.br,bQ m.bw,J 0,J 0]=some (if(cB (ft m m.bG false) m.bG.length 0).2=0 then .inl [J 0,J 0,J 4,bg m.vars,aJ m.au,ar m.bG,ar m.bE,aJ m.next,ar m.trans,ar m.br,bQ m.bw,J 0,J 0]else .inr (.inr (ew (3,cB (ft m m.bG false) m.bG.length 0)))):=by
 have hs:=Qr hm m.bG hm.bG false;have cb:decide ((3:Int)<=8)=true:=rfl;have bP:((3:Int)==2)=false:=rfl;have ca:((3:Int)==3)=true:=rfl;have gF:b9 false .add (J 3) (J 1)=some (J 4):=fg (by decide) (by decide);by_cases aj:(cB (ft m m.bG false) m.bG.length 0).2=0
 .have bF:=uw _ _ _ aj;rw[bF]at hs⊢;have hP:((0:Int) !=0)=false:=rfl;simp only[jV,go_sem,cb,bP,ca,av.eta,hs,gn,hP,gF]
 rw[xaa aj];generalize cB (ft m m.bG false) m.bG.length 0=p at*;have dZ:(p.2 !=0)=true:=by simpa using aj
 simp only[jV,go_sem,cb,bP,ca,av.eta,hs,gn,dZ,ew]
theorem aBh:jV n [J 0,J 0,J 4,bg m.vars,aJ m.au,ar m.bG,ar m.bE,aJ m.next,ar m.trans,ar m.br,bQ m.bw,J 0,J 0]=some (if(cB (ft m m.bE false) m.bE.length 0).2=0 then .inl [J 0,J 0,J 5,bg m.vars,aJ m.au,ar m.bG,ar m.bE,aJ m.next,ar m.trans,ar m.br,bQ m.bw,J 0,J 0]else .inr (.inr (ew (4,cB (ft m m.bE false) m.bE.length 0)))):=by
 have hs:=Qr hm m.bE hm.bE false;have cb:decide ((4:Int)<=8)=true:=rfl;have bP:((4:Int)==2)=false:=rfl;have ca:((4:Int)==3)=false:=rfl;have ee:((4:Int)==4)=true:=rfl;have gF:b9 false .add (J 4) (J 1)=some (J 5):=fg (by decide) (by decide);by_cases aj:(cB (ft m m.bE false) m.bE.length 0).2=0
 .have bF:=uw _ _ _ aj;rw[bF]at hs⊢;have hP:((0:Int) !=0)=false:=rfl;simp only[jV,go_sem,cb,bP,ca,ee,av.eta,hs,gn,hP,gF]
 rw[xaa aj];generalize cB (ft m m.bE false) m.bE.length 0=p at*;have dZ:(p.2 !=0)=true:=by simpa using aj
 simp only[jV,go_sem,cb,bP,ca,ee,av.eta,hs,gn,dZ,ew]
theorem aBi:jV n [J 0,J 0,J 5,bg m.vars,aJ m.au,ar m.bG,ar m.bE,aJ m.next,ar m.trans,ar m.br,bQ m.bw,J 0,J 0]=some (if(cB (kg m) m.next.length 0).2=0 then .inl [J 0,J 0,J 6,bg m.vars,aJ m.au,ar m.bG,ar m.bE,aJ m.next,ar m.trans,ar m.br,bQ m.bw,J 0,J 0]else .inr (.inr (ew (5,cB (kg m) m.next.length 0)))):=by
 have hs:=aAK hm;have cb:decide ((5:Int)<=8)=true:=rfl;have bP:((5:Int)==2)=false:=rfl;have ca:((5:Int)==3)=false:=rfl;have ee:((5:Int)==4)=false:=rfl;have eJ:((5:Int)==5)=true:=rfl;have gF:b9 false .add (J 5) (J 1)=some (J 6):=fg (by decide) (by decide);by_cases aj:(cB (kg m) m.next.length 0).2=0
 .have bF:=uw _ _ _ aj;rw[bF]at hs⊢;have hP:((0:Int) !=0)=false:=rfl;simp only[jV,go_sem,cb,bP,ca,ee,eJ,av.eta,hs,gn,hP,gF]
 rw[xaa aj];generalize cB (kg m) m.next.length 0=p at*
 have dZ:(p.2 !=0)=true:=by simpa using aj
 simp only[jV,go_sem,cb,bP,ca,ee,eJ,av.eta,hs,gn,dZ,ew]
theorem aBj:jV n [J 0,J 0,J 6,bg m.vars,aJ m.au,ar m.bG,ar m.bE,aJ m.next,ar m.trans,ar m.br,bQ m.bw,J 0,J 0]=some (if(cB (ft m m.trans true) m.trans.length 0).2=0 then .inl [J 0,J 0,J 7,bg m.vars,aJ m.au,ar m.bG,ar m.bE,aJ m.next,ar m.trans,ar m.br,bQ m.bw,J 0,J 0]else .inr (.inr (ew (6,cB (ft m m.trans true) m.trans.length 0)))):=by
 have hs:=Qr hm m.trans hm.trans true;have cb:decide ((6:Int)<=8)=true:=rfl;have bP:((6:Int)==2)=false:=rfl;have ca:((6:Int)==3)=false:=rfl;have ee:((6:Int)==4)=false:=rfl;have eJ:((6:Int)==5)=false:=rfl;have fB:((6:Int)==6)=true:=rfl;have gF:b9 false .add (J 6) (J 1)=some (J 7):=fg (by decide) (by decide);by_cases aj:(cB (ft m m.trans true) m.trans.length 0).2=0
 .have bF:=uw _ _ _ aj;rw[bF]at hs⊢;have hP:((0:Int) !=0)=false:=rfl;simp only[jV,go_sem,cb,bP,ca,ee,eJ,fB,av.eta,hs,gn,hP,gF]
 rw[xaa aj];generalize cB (ft m m.trans true) m.trans.length 0=p at*;have dZ:(p.2 !=0)=true:=by simpa using aj
 simp only[jV,go_sem,cb,bP,ca,ee,eJ,fB,av.eta,hs,gn,dZ,ew]
theorem aBk:jV n [J 0,J 0,J 7,bg m.vars,aJ m.au,ar m.bG,ar m.bE,aJ m.next,ar m.trans,ar m.br,bQ m.bw,J 0,J 0]=some (if(cB (ft m m.br false) m.br.length 0).2=0 then .inl [J 0,J 0,J 8,bg m.vars,aJ m.au,ar m.bG,ar m.bE,aJ m.next,ar m.trans,ar m.br,bQ m.bw,J 0,J 0]else .inr (.inr (ew (7,cB (ft m m.br false) m.br.length 0)))):=by
 have hs:=Qr hm m.br hm.br false;have cb:decide ((7:Int)<=8)=true:=rfl;have bP:((7:Int)==2)=false:=rfl;have ca:((7:Int)==3)=false:=rfl;have ee:((7:Int)==4)=false:=rfl;have eJ:((7:Int)==5)=false:=rfl;have fB:((7:Int)==6)=false:=rfl;have rq:((7:Int)==7)=true:=rfl;have gF:b9 false .add (J 7) (J 1)=some (J 8):=fg (by decide) (by decide);by_cases aj:(cB (ft m m.br false) m.br.length 0).2=0
 .have bF:=uw _ _ _ aj;rw[bF]at hs⊢;have hP:((0:Int) !=0)=false:=rfl;simp only[jV,go_sem,cb,bP,ca,ee,eJ,fB,rq,av.eta,hs,gn,hP,gF]
 rw[xaa aj];generalize cB (ft m m.br false) m.br.length 0=p at*;have dZ:(p.2 !=0)=true:=by simpa using aj
 simp only[jV,go_sem,cb,bP,ca,ee,eJ,fB,rq,av.eta,hs,gn,dZ,ew]
theorem aBl:jV n [J 0,J 0,J 8,bg m.vars,aJ m.au,ar m.bG,ar m.bE,aJ m.next,ar m.trans,ar m.br,bQ m.bw,J 0,J 0]=some (if(cB (kh m) m.bw.length 0).2=0 then .inl [J 0,J 0,J 9,bg m.vars,aJ m.au,ar m.bG,ar m.bE,aJ m.next,ar m.trans,ar m.br,bQ m.bw,J 0,J 0]else .inr (.inr (ew (8,cB (kh m) m.bw.length 0)))):=by
 have hs:=aAL hm;have cb:decide ((8:Int)<=8)=true:=rfl;have bP:((8:Int)==2)=false:=rfl;have ca:((8:Int)==3)=false:=rfl;have ee:((8:Int)==4)=false:=rfl;have eJ:((8:Int)==5)=false:=rfl;have fB:((8:Int)==6)=false:=rfl;have rq:((8:Int)==7)=false:=rfl;have Gn:((8:Int)==8)=true:=rfl;have gF:b9 false .add (J 8) (J 1)=some (J 9):=fg (by decide) (by decide);by_cases aj:(cB (kh m) m.bw.length 0).2=0
 .have bF:=uw _ _ _ aj;rw[bF]at hs⊢;have hP:((0:Int) !=0)=false:=rfl;simp only[jV,go_sem,cb,bP,ca,ee,eJ,fB,rq,Gn,av.eta,hs,gn,hP,gF]
 rw[xaa aj];generalize cB (kh m) m.bw.length 0=p at*;have dZ:(p.2 !=0)=true:=by simpa using aj
 simp only[jV,go_sem,cb,bP,ca,ee,eJ,fB,rq,Gn,av.eta,hs,gn,dZ,ew]
theorem aBm:bA (jV n) n [J 0,J 0,J 2,bg m.vars,aJ m.au,ar m.bG,ar m.bE,aJ m.next,ar m.trans,ar m.br,bQ m.bw,J 0,J 0]=some (if(iH (oL m)).2.2=0 then .inl [J 0,J 0]else .inr (ew (iH (oL m)))):=by
 have an:=hm.jY;rw[<-aAR];refine aht (f:=jV n) (Xi m) (λi=>[J 0,J 0,J ((i+2:Nat):Int),bg m.vars,aJ m.au,ar m.bG,ar m.bE,aJ m.next,ar m.trans,ar m.br,bQ m.bw,J 0,J 0]) [J 0,J 0] ew ?_ ?_ n (by show 7<n;omega)
 .intro i a aB
  match i,aB with
  |0,aB=>cases aB;exact aBf hm
  |1,aB=>cases aB;exact aBg hm
  |2,aB=>cases aB;exact aBh hm
  |3,aB=>cases aB;exact aBi hm
  |4,aB=>cases aB;exact aBj hm
  |5,aB=>cases aB;exact aBk hm
  |6,aB=>cases aB;exact aBl hm
  |j+7,aB=>cases aB
 show jV n [J 0,J 0,J 9,bg m.vars,aJ m.au,ar m.bG,ar m.bE,aJ m.next,ar m.trans,ar m.br,bQ m.bw,J 0,J 0]=_;simp only[jV,go_sem,show decide ((9:Int)<=8)=false from rfl]
theorem aBn:sj n [m.d]=some (ew (lf m)):=by
 have an:=hm.jY;have ae:=aAU hm;have je:=aBm hm;have g8:=azW n m.vars hm.mc (by have:=hm.a9.jL;omega) hm.ahn;have fM:=aAP n m hm.mc hm.a9.jL (by omega);have hh:D.aE 1 [[J (m.vars.length:Int)],[J (m.au.length:Int)],[J (m.bG.length:Int)],[J (m.bE.length:Int)],[J (m.next.length:Int)],[J (m.trans.length:Int)],[J (m.br.length:Int)],[J (m.bw.length:Int)]]=D.aE 1 ((iR m).map λ(k:Nat)=>[J (k:Int)]):=rfl;unfold lf;by_cases bl:(cB (iS m) 8 0).2=0
 case neg=>rw[xaa bl]at ae⊢;simp only[sj,Cu,go_sem,av.agg,av.aX,av.bl,av.bu,av.bT,av.cM,av.cR,av.dc,av.du,av.eta,g3,eT,iP,jc,hh,ae]
 rw[xac bl]at ae⊢;by_cases bu:(mq m.vars).2=0
 case neg=>
  have py:((mq m.vars).2 !=0)=true:=by simpa using bu
  rw[xaa bu];simp only[sj,Cu,go_sem,av.agg,av.aX,av.bl,av.bu,av.bT,av.cM,av.cR,av.dc,av.du,av.eta,g3,eT,iP,jc,hh,ae,g8,py,ew]
 rw[aAS bu]at g8;have py:((0:Int) !=0)=false:=rfl;rw[xac bu];by_cases bT:30<oK m.vars
 .have rj:=yT (((oK m.vars:Nat):Int)>30);rw[xac bT];simp only[sj,Cu,go_sem,av.agg,av.aX,av.bl,av.bu,av.bT,av.cM,av.cR,av.dc,av.du,av.eta,g3,eT,iP,jc,hh,ae,g8,py,fM,rj,ew]
 have rj:=yF (((oK m.vars:Nat):Int)>30);rw[xaa bT];by_cases cM:(iH (oL m)).2.2=0;.rw[xac cM]at je;rw[ahw _ cM];simp only[sj,Cu,go_sem,av.agg,av.aX,av.bl,av.bu,av.bT,av.cM,av.cR,av.dc,av.du,av.eta,g3,eT,iP,jc,hh,ae,g8,py,fM,rj,je,ew]
 rw[xaa cM]at je;simp only[sj,Cu,go_sem,av.agg,av.aX,av.bl,av.bu,av.bT,av.cM,av.cR,av.dc,av.du,av.eta,g3,eT,iP,jc,hh,ae,g8,py,fM,rj,je]
end
def C5(n:Nat):eY:= .slice 4 56 (qS n)
def Lv(n:Nat):eY:= .slice 7 104 (.struct [.str,nX n])
def C6(n:Nat):eY:= .struct [NR,y2 n,C5 n,C5 n,y2 n,C5 n,C5 n,Lv n]
def aBo(n:Nat):∀m,m<=n->(C5 n).g1 m=true
 |0,_=>rfl|m+1,h=>by have:=Eo n m (by omega);simp only[C5,eY.g1,this]
def aBp(n:Nat):∀m,m<=n->(Lv n).g1 m=true
 |0,_=>rfl|1,_=>by simp[Lv,eY.g1]|m+2,h=>by have ad:=NZ n m (by omega);have ae:eY.g1 m .str=true:=vc m .str rfl;simp only[Lv,eY.g1,o9,ad,ae,xbt]
def aBq(n:Nat):∀m,m<=n->(C6 n).g1 m=true
 |0,_=>rfl|m+1,h=>by have ao:eY.g1 m NR=true:=vc m NR rfl;simp only[C6,eY.g1,o9,ao,ab3 n m (by omega),aBo n m (by omega),aBp n m (by omega),xbt]
theorem aBr{P:Program}{t tv td tt ts tm tf:TypeId}(h:∀a b c d e f g i,dJ P (.struct [a,b,c,d,e,f,g,i]) t=(dJ P a tv&&(dJ P b td&&(dJ P c tt&&(dJ P d tt&&(dJ P e td&&(dJ P f tt&&(dJ P g tt&&(dJ P i ts&&true))))))))) (aN:dJ P NR tv=true) (aF:rU P y2 td) (aQ:∀y,dJ P (.slice 4 56 y) tt=dJ P y tm) (hm:rU P qS tm) (aD:∀y,dJ P (.slice 7 104 (.struct [.str,y])) ts=(dJ P y tf&&true)) (ba:rU P nX tf) (ak:decide (t<P.types.size)=true):rU P C6 t:=⟨λn=>aBq n n (xaX _),λn=>by rw[C6,h,aN,aF.ok n,C5,aQ,hm.ok n,Lv,aD,ba.ok n];rfl,xbj ak,λn=>rfl⟩
structure mX(m:av):Prop where
 v:∀x∈m.vars,V.ok x
 d:∀x∈m.au,x.bR
 i:∀x∈m.bG,x.bR
 sx:∀x∈m.bE,x.bR
 n:∀x∈m.next,x.bR
 t:∀x∈m.trans,x.bR
 f:∀x∈m.br,x.bR
 s:∀x∈m.bw,x.name.size<=140737488351232/\x.f.bR
def aBs{n:Nat}{x:List D}(h:mB (.struct [.str,nX n]) x):∃d:cU,x=d.cells/\d.name.size<=140737488351232/\d.f.bR:=by obtain⟨a,b,rfl,aB,c,e,rfl,aj,rfl⟩:=h;obtain⟨s,rfl,aD⟩:=NS aB;obtain⟨t,rfl,aQ⟩:=N0 n aj;exact⟨⟨s,t⟩,by simp[cU.cells,Fm.nh],aD,aQ⟩
end Go.Am
