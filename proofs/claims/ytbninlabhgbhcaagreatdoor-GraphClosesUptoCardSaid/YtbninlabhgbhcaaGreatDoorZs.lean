/- Laws, on data. No condition. -/
import Derived.Test.YtbninlabhgbhcaaGreatDoorEngC
import Derived.Test.YtbninlabhgbhcaaGreatDoorCode
import Derived.Test.YtbninlabhgbhcaaGreatDoorEngS
import Derived.Test.YtbninlabhgbhcaaGreatDoorEngD
import Derived.Test.YtbninlabhgbhcaaGreatDoorWs
import Derived.Test.YtbninlabhgbhcaaGreatDoorLaws
set_option linter.all false
set_option linter.unnecessarySimpa false
attribute [simp] Go.Am.zu
namespace Go.Am
section
variable{bt:Bool}{a b:Int}
@[simp] theorem aCP:bB bt .lss (p2 a) (.val (.int .u8 b))=some (aI (decide (a<b))):=rfl
@[simp] theorem Oa:bB bt .leq (p2 a) (.val (.int .u8 b))=some (aI (decide (a<=b))):=rfl
@[simp] theorem aCQ:bB bt .gtr (p2 a) (.val (.int .u8 b))=some (aI (decide (a>b))):=rfl
@[simp] theorem Ob:bB bt .geq (p2 a) (.val (.int .u8 b))=some (aI (decide (a>=b))):=rfl
@[simp] theorem awn:bB bt .eql (p2 a) (.val (.int .u8 b))=some (aI (a==b)):=rfl
end
def Oc{s:ByteArray}{i:Nat}{b:UInt8}(h:s[i]?=some b):rF (a1 s) (I (i:Int))=some (p2 b.toNat):=by simp[rF,a1,I,Kn,h,pk,p2]
def aeZ{s:ByteArray}{b:UInt8}(h:s[0]?=some b):rF (a1 s) (I 0)=some (p2 b.toNat):=Oc (i:=0) h
theorem ae0(n:Nat)(c:Int):z7 n [p2 c]=some (aI (ti c)):=by simp only[z7,aa0,ti,Ob,Oa,dT,dO,aw,bI,dM,oy];cases decide (c>=97)<;>cases decide (c<=122)<;>cases decide (c>=65)<;>cases decide (c<=90)<;>rfl
theorem awo(n:Nat)(c:Int):Hp n [p2 c]=some (aI (y6 c)):=by simp only[Hp,aa1,y6,Ob,Oa,dT,dO,aw,bI,oy];cases decide (c>=48)<;>cases decide (c<=57)<;>rfl
theorem ae1(n:Nat)(c:Int):Hq n [p2 c]=some (aI (nf c)):=by simp only[Hq,aa2,nf,ae0,awo,awn,dT,bI,dM,oy];cases ti c<;>cases y6 c<;>cases(c==95)<;>rfl
theorem ae2(n:Nat)(c:Int):zG n [p2 c]=some (aI (ti c)):=by simp only[zG,aaA,ti,Ob,Oa,dT,dO,aw,bI,dM,oy];cases decide (c>=97)<;>cases decide (c<=122)<;>cases decide (c>=65)<;>cases decide (c<=90)<;>rfl
theorem awp(n:Nat)(c:Int):GF n [p2 c]=some (aI (y6 c)):=by simp only[GF,aaB,y6,Ob,Oa,dT,dO,aw,bI,oy];cases decide (c>=48)<;>cases decide (c<=57)<;>rfl
def ae3(p:Int->Bool)(s:ByteArray):(∀j:Nat,j<oq p s->pj p s j=true)/\pj p s (oq p s)=false/\oq p s<=s.size:=by
 unfold oq;cases h:(List.range (s.size+1)).find? (λi=>!pj p s i)with
 |none=>
  exfalso;have J:=List.find?_eq_none.1 h s.size (by simp);have:pj p s s.size=true:=by simpa using J
  exact absurd (akt this) (xbQ _)
 |some m=>rw[List.find?_range_eq_some]at h;obtain⟨J,aa,ax⟩:=h;refine⟨λj aB=>by simpa using ax j aB,by simpa using J,by show m<=s.size;simp at aa;omega⟩
def ae4{p:Int->Bool}{s:ByteArray}{i:Nat}(h:pj p s i=true):∃b:UInt8,s[i]?=some b/\p b.toNat=true:=by
 unfold pj at h;split at h;.exact⟨_,by assumption,h⟩
 cases h
def ae5{p:Int->Bool}{s:ByteArray}{i:Nat}(h:pj p s i=false):(s[i]?=none/\s.size<=i)\/∃b:UInt8,s[i]?=some b/\i<s.size/\p b.toNat=false:=by
 unfold pj at h;split at h
 .rename_i b aj;refine .inr ⟨b,aj,?_,h⟩;rw[La]at aj;by_cases J:i<s.size;.exact J
  rw[dif_neg J]at aj;cases aj
 rename_i aj;refine .inl ⟨aj,?_⟩;rw[La]at aj;by_cases J:i<s.size;.rw[dif_pos J]at aj;cases aj
 omega
def awq(n:Nat)(s:ByteArray)(aN:s.size<n)(aC:s.size<=9223372036854775807):C7 n [a1 s,.val (.func (.func GD) #[] #[])]=some (I (oq nf s)):=by
 obtain⟨J,aa,ax⟩:=ae3 nf s;have key:bL (Hr n) n [a1 s,I 0]=some (.inl [I (oq nf s)]):=by
  refine mH (λi=>[a1 s,I i]) (oq nf s) rfl ?_ ?_ (by omega);.intro i af;obtain⟨b,aj,aU⟩:=ae4 (J i af);simp(disch:=omega) [Hr,Oc aj,ae1,aU,e5,show i<s.size by omega]
  rcases ae5 aa with⟨aj,aU⟩|⟨b,aj,b5,aU⟩;.simp[Hr,show¬(oq nf s<s.size) by omega]
  simp[Hr,Oc aj,ae1,aU,b5]
 simp[C7,SY,key]
def awr(n:Nat)(s:ByteArray)(aN:s.size<n)(aC:s.size<=9223372036854775807):GH n [a1 s,I 0,aI false]=some (I (oq nf s)):=by
 obtain⟨J,aa,ax⟩:=ae3 nf s;have one:∀(i:Nat)(b:UInt8),s[i]?=some b->i<s.size->GG n [a1 s,I i,aI false]=if nf b.toNat=true then some (.inl [a1 s,I (i+1:Nat),aI false])else some (.inr (.inl [I i])):=by intro i b aj af;simp(disch:=omega) [GG,Oc aj,awp,ae2,nf,e5,af];by_cases aws:((b.toNat:Int)=95)<;>cases y6 b.toNat<;>cases ti b.toNat<;>simp[aws]
 have key:bL (GG n) n [a1 s,I 0,aI false]=some (.inl [I (oq nf s)]):=by
  refine mH (λi=>[a1 s,I i,aI false]) (oq nf s) rfl ?_ ?_ (by omega);.intro i af;obtain⟨b,aj,aU⟩:=ae4 (J i af);rw[one i b aj (by omega),xac aU]
  rcases ae5 aa with⟨aj,aU⟩|⟨b,aj,b5,aU⟩;.simp[GG,show¬(oq nf s<s.size) by omega]
  rw[one _ b aj b5,xae (by simp[aU])]
 simp[GH,aaC,key]
def wg(p:Nat->Prop)[DecidablePred p]:∀m:Nat,(∀j:Nat,j<m->¬p j)\/∃i,i<m/\p i/\∀j:Nat,j<i->¬p j
 |0=> .inl (by intro j aB;omega)
 |m+1=>by
  rcases wg p m with h|⟨i,J,aa,ax⟩
  .by_cases hm:p m;.exact .inr ⟨m,by omega,hm,h⟩
   refine .inl λj aB=>?_;by_cases awt:j=m;.subst awt;exact hm
   exact h j (by omega)
  exact .inr ⟨i,by omega,aa,ax⟩
def awu(n:Nat)(l:List ByteArray)(x:ByteArray)(aN:l.length<n)(al:l.length<4000000000000000000):C9 n [dG l,a1 x]=some (I (idxOf x l)):=by
 have step:∀(i:Nat)(y:ByteArray),l[i]?=some y->i<l.length->C8 n [dG l,a1 x,I l.length,I i]=if x=y then some (.inr (.inr (I i)))else some (.inl [dG l,a1 x,I l.length,I (i+1:Nat)]):=by intro i y aE af;obtain⟨_,rfl⟩:=xaa.1 aE;simp(disch:=omega) [C8,dG,aE,af,e5]
 rcases wg (λi=>l[i]?=some x) l.length with h|⟨i,J,aa,ax⟩
 .have key:bL (C8 n) n [dG l,a1 x,I l.length,I 0]=some (.inl []):=by
   refine mH (λi=>[dG l,a1 x,I l.length,I i]) l.length rfl ?_ ?_ aN;.intro i af;have aE:=xab af;rw[step i _ aE af,xae];intro he;exact h i af (by rw[aE,he])
   simp[C8]
  have e:(dG l)= .aV 1 (l.map λs=>[a1 s]):=rfl;simp[C9,SZ,Yr h];rw[e]at key⊢;simp[key]
 have key:bL (C8 n) n [dG l,a1 x,I l.length,I 0]=some (.inr (I i)):=by
  refine mH (λi=>[dG l,a1 x,I l.length,I i]) i rfl ?_ ?_ (by omega);.intro j aB;have aE:=xab (show j<l.length by omega);rw[step j _ aE (by omega),xae];intro he;exact ax j aB (by rw[aE,he])
  rw[step i x aa J,xac rfl]
 simp[C9,SZ,Ys ax aa];have e:(dG l)= .aV 1 (l.map λs=>[a1 s]):=rfl;rw[e]at key⊢;simp[key]
def awv(n:Nat)(l:List ByteArray)(x:ByteArray)(aN:l.length<n)(al:l.length<4000000000000000000):Hs n [dG l,a1 x]=some (aI (has x l)):=by simp[Hs,aa3,awu n l x aN al,Yt]
def aww(n:Nat)(l:List ByteArray)(x:ByteArray)(aN:l.length<n)(al:l.length<4000000000000000000):CR n [dG l,a1 x]=some (aI (has x l)):=by
 have step:∀(i:Nat)(y:ByteArray),l[i]?=some y->i<l.length->CQ n [dG l,a1 x,I i]=if y=x then some (.inr (.inr (aI true)))else some (.inl [dG l,a1 x,I (i+1:Nat)]):=by intro i y aE af;obtain⟨_,rfl⟩:=xaa.1 aE;simp(disch:=omega) [CQ,dG,aE,af,e5]
 rcases wg (λi=>l[i]?=some x) l.length with h|⟨i,J,aa,ax⟩
 .have key:bL (CQ n) n [dG l,a1 x,I 0]=some (.inl []):=by
   refine mH (λi=>[dG l,a1 x,I i]) l.length rfl ?_ ?_ aN;.intro i af;have aE:=xab af;rw[step i _ aE af,xae];intro he;exact h i af (by rw[aE,he])
   simp[CQ,dG]
  simp[CR,Sh,key,Yv h]
 have key:bL (CQ n) n [dG l,a1 x,I 0]=some (.inr (aI true)):=by
  refine mH (λi=>[dG l,a1 x,I i]) i rfl ?_ ?_ (by omega);.intro j aB;have aE:=xab (show j<l.length by omega);rw[step j _ aE (by omega),xae];intro he;exact ax j aB (by rw[aE,he])
  rw[step i x aa J,xac rfl]
 simp[CR,Sh,key,Yu aa]
theorem awx(n:Nat):L9 n []=some (dG words):=rfl
theorem awy:(D.aV 1 (GC.map λc=>[c]))=dG words:=rfl
def Ve(n:Nat)(s:ByteArray)(aN:s.size+24<n)(aC:s.size<=9223372036854775807):tS n [a1 s]=some (aI (isName s)):=by
 have hw:words.length=24:=rfl;have J:=awq n s (by omega) aC;have aa:=awv n words s (by omega) (by omega);rcases Yw s with⟨fJ,bG⟩|⟨b,fJ,bG,aj⟩
 .simp[tS,S0,fJ,isName,bG]
 simp only[tS,S0,isName,pj,aj,aeZ aj,ae0,J,aa,awy,ZV,fJ,bG,RN,LP,CC,CD,dT,dO,aw,bI,oy];cases decide ((s.size:Int)<=24)<;>cases ti b.toNat<;>cases((oq nf s:Int)==(s.size:Int))<;>cases has s words<;>rfl
def Vf(n:Nat)(s:ByteArray)(aN:s.size+24<n)(aC:s.size<=9223372036854775807):tJ n [a1 s]=some (aI (isName s)):=by
 have hw:words.length=24:=rfl;have J:=awr n s (by omega) aC;have aa:=aww n words s (by omega) (by omega);rcases Yw s with⟨fJ,bG⟩|⟨b,fJ,bG,aj⟩
 .simp only[tJ,Si,RN,CB,dT,bG,dO,aw,bI,oy];simp[isName,bG]
 simp only[tJ,Si,isName,pj,aj,aeZ aj,ae2,J,aa,awx,bG,RN,LP,CB,CC,CD,dT,dO,aw,bI,oy];cases decide ((s.size:Int)<=24)<;>cases ti b.toNat<;>cases((oq nf s:Int)==(s.size:Int))<;>cases has s words<;>rfl
def awz(n:Nat)(w v:V):Da n [w.d,.ref v.cells 0]=some (aI (decide (w.name=v.name))):=by simp[Da,S1,V.d,V.cells]
def awA(n:Nat)(l:List V)(v:V)(aN:l.length<n)(al:l.length<4000000000000000000):Aa n [br l,.fn (.func tI) [] [.ref v.cells 0]]=some (I (idxOf v.name (l.map V.name))):=by
 have hle:(l.map V.name).length=l.length:=by simp
 have step:∀(i:Nat)(y:V),l[i]?=some y->i<l.length->z8 n [br l,.ref v.cells 0,I l.length,I i]=if y.name=v.name then some (.inr (.inr (I i)))else some (.inl [br l,.ref v.cells 0,I l.length,I (i+1:Nat)]):=by intro i y aE af;obtain⟨_,rfl⟩:=xaa.1 aE;have J:=awz n l[i] v;simp only[V.d,V.cells]at J;simp(disch:=omega) [z8,br,af,e5,V.cells,J]
 have b1:∀x,Aa n [br l,.fn (.func tI) [] [x]]=ab (bL (z8 n) n [br l,x,I l.length,I 0]) (bo λls=>some (I (-1))):=by intro x;simp only[Aa,nW,S2,b3];simp[br]
 rw[b1];rcases wg (λi=>(l.map V.name)[i]?=some v.name) l.length with h|⟨i,J,aa,ax⟩
 .have key:bL (z8 n) n [br l,.ref v.cells 0,I l.length,I 0]=some (.inl []):=by
   refine mH (λi=>[br l,.ref v.cells 0,I l.length,I i]) l.length rfl ?_ ?_ aN;.intro i af;have aE:=xab af;rw[step i _ aE af,xae];intro he;exact h i af (by rw[xah,aE,<-he];rfl)
   simp[z8]
  rw[key,Yr (by rw[hle];exact h)];rfl
 have key:bL (z8 n) n [br l,.ref v.cells 0,I l.length,I 0]=some (.inr (I i)):=by
  refine mH (λi=>[br l,.ref v.cells 0,I l.length,I i]) i rfl ?_ ?_ (by omega);.intro j aB;have aE:=xab (show j<l.length by omega);rw[step j _ aE (by omega),xae];intro he;exact ax j aB (by rw[xah,aE,<-he];rfl)
  have aE:=xab J;rw[step i _ aE J,xac];rw[xah,aE]at aa;simpa using aa
 rw[key,Ys ax aa];rfl
def awB(n:Nat)(l:List V)(v:V)(aN:l.length<n)(al:l.length<4000000000000000000):Db n [br l,.fn (.func tI) [] [.ref v.cells 0]]=some (aI (has v.name (l.map V.name))):=by simp only[Db,nW,S3,awA n l v aN al,bI];simp[Yt]
def Vg{k:Nat}{es:List (List D)}{i:Nat}(h:i<=es.length):nP k (.aV k es) none (some (I (i:Int)))=some (.aV k (es.take i)):=by simp[nP,p3,I,h]
def Vh(v:V):Bool:=v.bool&&(v.lo !=0||v.af !=0)
def Vi(v:V):Bool:=!v.bool&&(decide (v.lo>v.af)||u9 v||decide (IntKind.i64.wrap (v.af-v.lo)>=64))
theorem ae6(seen:List V)(v:V):Ci seen v=if !isName v.name then 12 else if has v.name (seen.map V.name)then 6 else if Vh v then 3 else if Vi v then 2 else 0:=rfl
def lQ(l:List V):Prop:=l.length<1000000000000/\∀v∈l,nd v.lo/\nd v.af/\v.name.size<=9223372036854775807
def Vj(n:Nat)(l:List V)(al:lQ l)(aN:l.length<n)(jt:∀v∈l,v.name.size+24<n)(i:Nat)(af:i<l.length):Ab n [br l,br l,I l.length,I i]=if jz l i=0 then some (.inl [br l,br l,I l.length,I (i+1:Nat)])else some (.inr (.inr (.a6 [I i,I (jz l i)]))):=by
 have aE:=xab af;have aS:=al.2 _ (xaZ af);have bJ:=al.1;have e:jz l i=Ci (l.take i) l[i]:=by simp only[jz,aE]
 rw[e];generalize hw:l[i]=v at*;have J:=Ve n v.name (jt v (hw▸xaZ af)) (by omega);have aa:=awB n (l.take i) v (by rw[xbz];omega) (by rw[xbz];omega);have ax:nP 4 (br l) none (some (I (i:Int)))=some (br (l.take i)):=by rw[br,Vg (by simp;omega),List.map_take.symm];rfl
 have bh:bX 4 (br l) (I (i:Int))=some v.cells:=by simp[br,aE,hw]
 have b9:bB false .lss (I (i:Int)) (I (l.length:Int))=some (aI true):=by simp[af]
 have cN:bB false .add (I (i:Int)) (I 1)=some (I (i+1:Nat)):=by rw[e5 (by omega) (by omega)];rfl
 have fP:bB false .sub (I v.af) (I v.lo)=some (I (IntKind.i64.wrap (v.af-v.lo))):=rfl;have il:bN true 4 0 v.cells=some v.d:=rfl;have k8:dV 4 v.d=true:=rfl;have bf:ae v.d 0=a1 v.name:=rfl;have c1:ae v.d 1=aI v.bool:=rfl;have c2:ae v.d 2=I v.lo:=rfl;have b4:ae v.d 3=I v.af:=rfl;have cT:(D.ref [a1 v.name,aI v.bool,I v.lo,I v.af] 0)= .ref v.cells 0:=rfl;have g1:u9 v=(decide ((if v.af>v.lo then v.af else v.lo)>255)||decide ((if v.af<v.lo then v.af else v.lo)< -255)):=rfl;rw[ae6];simp only[Ab,qb,rP,b9,dT,l2,xaF,bh,il,k8,qK,bf,c1,c2,b4,cT,R1,Z8,J,aa,ax,CD,px,Gd,Z9,zv,cN,fP,CB,dO,aw,aF,bs,bI,dM,fR];rw[Vh,Vi,g1];cases isName v.name
 .cases decide ((if v.af>v.lo then v.af else v.lo)>255)<;>simp
 cases has v.name ((l.take i).map V.name)
 rotate_left
 .cases decide ((if v.af>v.lo then v.af else v.lo)>255)<;>simp
 generalize decide ((if v.af>v.lo then v.af else v.lo)>255)=eQ;generalize decide ((if v.af<v.lo then v.af else v.lo)< -255)=eE;generalize decide (v.lo>v.af)=hR;generalize decide (IntKind.i64.wrap (v.af-v.lo)>=64)=tc;generalize (v.lo !=0)=wX;generalize (v.af !=0)=wY;cases v.bool<;>cases eQ<;>cases eE<;>cases hR<;>cases tc<;>cases wX<;>cases wY<;>rfl
def awC(n:Nat)(l:List V)(al:lQ l)(aN:l.length<n)(jt:∀v∈l,v.name.size+24<n):Dc n [br l]=some (.a6 [I (kM l).1,I (kM l).2]):=by
 have b1:Dc n [br l]=ab (bL (Ab n) n [br l,br l,I l.length,I 0]) (bo λls=>some (D.a6 [I 0,I 0])):=by simp[Dc,aa4,br]
 rw[b1];rcases wg (λi=>jz l i≠0) l.length with h|⟨i,J,aa,ax⟩
 .have bC:∀j:Nat,j<l.length->jz l j=0:=λj aB=>by simpa using h j aB
  have key:bL (Ab n) n [br l,br l,I l.length,I 0]=some (.inl []):=by
   refine mH (λi=>[br l,br l,I l.length,I i]) l.length rfl ?_ ?_ aN;.intro i af;rw[Vj n l al aN jt i af,xac (bC i af)]
   simp[Ab]
  rw[key,Yy bC];rfl
 have bC:∀j:Nat,j<i->jz l j=0:=λj aB=>by simpa using ax j aB
 have key:bL (Ab n) n [br l,br l,I l.length,I 0]=some (.inr (.a6 [I i,I (jz l i)])):=by
  refine mH (λi=>[br l,br l,I l.length,I i]) i rfl ?_ ?_ (by omega);.intro j aB;rw[Vj n l al aN jt j (by omega),xac (bC j aB)]
  rw[Vj n l al aN jt i J,xae aa]
 rw[key,Yx bC J rfl aa];rfl
@[simp] theorem ae7 {a:Int}:nO .u64 (I a)=some (.val (.int .u64 (IntKind.u64.wrap a))):=rfl
theorem Od{k:IntKind}{a:Int}:nO .i64 (.val (.int k a))=some (I (IntKind.i64.wrap a)):=rfl
def Vk(n:Nat)(v:V)(J:nd v.lo)(aa:nd v.af):vC n [v.d]=some (I v.span):=by
 have c1:ae v.d 1=aI v.bool:=rfl;have c2:ae v.d 2=I v.lo:=rfl;have b4:ae v.d 3=I v.af:=rfl;have k8:dV 4 v.d=true:=rfl;simp only[vC,aa5,k8,qK,c1,c2,b4,l2,px,dT,ae7,Od,aw,bs,bI,oy];cases aj:v.bool with
 |true=>simp[V.Yp aj]
 |false=>
  by_cases b5:v.lo>v.af;.simp[V.Yq aj b5,b5]
  have hle:v.lo<=v.af:=by omega
  have aL:bB false .sub (.val (.int .u64 (IntKind.u64.wrap v.af))) (.val (.int .u64 (IntKind.u64.wrap v.lo)))=some (.val (.int .u64 (v.af-v.lo))):=by show some (D.val (.int .u64 (IntKind.u64.wrap (IntKind.u64.wrap v.af-IntKind.u64.wrap v.lo))))=_;rw[Yo J aa hle]
  have a7:bB false .lss (.val (.int .u64 (v.af-v.lo))) (.val (.int .u64 1073741824))=some (aI (decide (v.af-v.lo<1073741824))):=rfl;simp only[b5,decide_false,xar,xaH,aL,a7,dT,l2];by_cases hm:v.af-v.lo<1073741824;.rw[V.Qz aj hle hm];simp only[hm,decide_true,xaF,Od,dT,wrap64 _ (show-9223372036854775808<=v.af-v.lo by omega) (by omega)];rw[e5 (by omega) (by omega)];rfl
  rw[V.QA aj hle (by omega)];simp[hm]
def Ej(n:Nat)(v:V)(J:nd v.lo)(aa:nd v.af):qQ n [v.d]=some (I v.span):=by
 have c1:ae v.d 1=aI v.bool:=rfl;have c2:ae v.d 2=I v.lo:=rfl;have b4:ae v.d 3=I v.af:=rfl;have k8:dV 4 v.d=true:=rfl;simp only[qQ,aaE,k8,qK,c1,c2,b4,l2,px,dT,ae7,aw,aF,bs,bI,dW,oy];cases aj:v.bool with
 |true=>simp[V.Yp aj]
 |false=>
  by_cases b5:v.lo>v.af;.simp[V.Yq aj b5,b5]
  have hle:v.lo<=v.af:=by omega
  have aL:bB false .sub (.val (.int .u64 (IntKind.u64.wrap v.af))) (.val (.int .u64 (IntKind.u64.wrap v.lo)))=some (.val (.int .u64 (v.af-v.lo))):=by show some (D.val (.int .u64 (IntKind.u64.wrap (IntKind.u64.wrap v.af-IntKind.u64.wrap v.lo))))=_;rw[Yo J aa hle]
  have a7:bB false .gtr (.val (.int .u64 (v.af-v.lo))) (.val (.int .u64 1073741824))=some (aI (decide (v.af-v.lo>1073741824))):=rfl;simp only[b5,decide_false,xar,xaH,aL,a7,dT,l2];by_cases hm:v.af-v.lo>1073741824;.rw[V.QA aj hle (by omega)];simp only[hm,decide_true,xaF,dT,qL,qb,Od];rfl
  simp only[hm,decide_false,xar,xaH,dT,qL,qb,Od,dW,aw,bI,wrap64 _ (show-9223372036854775808<=v.af-v.lo by omega) (by omega)];rw[e5 (by omega) (by omega)];simp only[dT];by_cases he:v.af-v.lo=1073741824;.rw[V.QA aj hle (by omega),he];rfl
  rw[V.Qz aj hle (by omega)]
def V.Br(v:V):0<=v.span/\v.span<=1073741825:=by
 unfold V.span;split;.omega
 split;.omega
 split<;>omega
def awD{i:Nat}(h:i<=62):((2:Int)^i)<=4611686018427387904/\0<(2:Int)^i:=by
 have J:(2:Nat)^i<=2^62:=Nat.pow_le_pow_right (by omega) h;have ax:((2^i:Nat):Int)=2^i:=by simp
 have aa:(0:Int)<2^i:=Int.pow_pos (by omega);omega
def ae8{bt:Bool}{i:Nat}(h:i<=62):bB bt .shl (I 1) (I (i:Int))=some (I ((2:Int)^i)):=by
 have U3:¬((i:Int)<0):=by omega
 have hm:min i IntKind.i64.bits=i:=by simp[IntKind.bits];omega
 obtain⟨J,aa⟩:=awD h;have e:IntKind.i64.wrap (1*2^(min i IntKind.i64.bits))=2^i:=by rw[hm,Int.one_mul];exact wrap64 _ (by omega) (by omega)
 simp only[bB,I,pk,U3,xaH,Int.toNat_natCast];rw[e]
def Ek{n:Int}(h:n<=1073741825):bitsOf n<=62/\(∀j:Nat,j<bitsOf n->(2:Int)^j<n)/\n<=2^bitsOf n:=by
 rcases wg (λi=>n<=(2:Int)^i) 40 with J|⟨i,J,aa,ax⟩;.exact absurd h (by have:=J 39 (by omega);simp at this;omega)
 have iA:∀j:Nat,j<i->(2:Int)^j<n:=λj aB=>by have:=ax j aB;omega
 rw[aks iA aa];exact⟨by omega,iA,aa⟩
def awE(n:Nat)(k:Int)(ah:k<=1073741825)(aN:63<n):Hu n [I k]=some (I (bitsOf k)):=by
 obtain⟨J,aa,ax⟩:=Ek ah;have key:bL (Mm n) n [I k,I 0]=some (.inr (I (bitsOf k))):=by
  refine mH (λi=>[I k,I i]) (bitsOf k) rfl ?_ ?_ (by omega);.intro i af;have:=aa i af;simp(disch:=omega) [Mm,ae8,e5,show((i:Int)<63) by omega,show¬(k<=(2:Int)^i) by omega]
  simp(disch:=omega) [Mm,ae8,show((bitsOf k:Int)<63) by omega,ax]
 simp[Hu,aa6,key]
def awF(n:Nat)(k:Int)(au:-1000<=k)(ah:k<=1073741825)(aN:63<n):GM n [I k]=some (I (bitsOf k)):=by
 have key:∀(m:Nat)(k:Int)(acc gj:Nat),bitsOf k=m->k<=1073741825->acc+m<=1000->m<gj->bL (Ma n) gj [I k,I acc]=some (.inl [I (acc+m:Nat)]):=by
  intro m
  induction m with
  |zero=>
   intro k acc gj hm ah aH yO;obtain⟨gj,rfl⟩:∃q,gj=q+1:=⟨gj-1,by omega⟩;have ou:¬k>1:=by intro ai;have:=Yn ai;omega
   rw[la];simp[Ma,ou]
  |succ m ih=>
   intro k acc gj hm ah aH yO;obtain⟨gj,rfl⟩:∃q,gj=q+1:=⟨gj-1,by omega⟩;have ou:k>1:=by
    refine xbf λai=>?_;have:bitsOf k=0:=by unfold bitsOf;rw[xac (by omega)]
    omega
   have bS:=Yn ou;have aL:k.tdiv 2=k/2:=Int.tdiv_eq_ediv_of_nonneg (by omega);have a7:k.tmod 2=k%2:=Int.tmod_eq_emod_of_nonneg (by omega);have hle:=(Ek ah).1;have yx:=ih (k/2+k%2) (acc+1) gj (by omega) (by omega) (by omega) (by omega);rw[la];simp(disch:=omega) [Ma,ou,ZU,Ge,aL,a7,wrap64,e5];have bV:((acc:Int)+1)=((acc+1:Nat):Int):=by omega
   rw[bV,yx]
   congr 4
   omega
 have:=key (bitsOf k) k 0 n rfl ah (by have:=(Ek ah).1;omega) (by have:=(Ek ah).1;omega);simp only[xay]at this;have e:(I ((0:Nat):Int))=I 0:=rfl;rw[e]at this;simp[GM,aaF,this]
theorem ae9(n:Nat)(k:Int):CS n [I k]=some (aI (decide (k>=-255)&&decide (k<=255))):=by simp only[CS,aaD,CB,LP,dT,dO,aw,bI,oy];cases decide (k>=-255)<;>cases decide (k<=255)<;>rfl
def Vl(n:Nat)(l:List V)(i k:Nat)(af:i<l.length)(ah:k<i)(bJ:l.length<1000000000000):GI n [br l,I i,I k]=if(l[k]'(by omega)).name=l[i].name then some (.inr (.inr (.inr (.inr (.inr (.a6 [I i,I 6]))))))else some (.inl [br l,I i,I (k+1:Nat)]):=by
 have rC:k<l.length:=by omega
 have J:l[k]?=some l[k]:=xab rC;have aa:l[i]?=some l[i]:=xab af;simp(disch:=omega) [GI,br,ah,e5,rC,af,V.cells]
def awG(n:Nat)(l:List V)(i:Nat)(af:i<l.length)(bJ:l.length<1000000000000)(aN:l.length<n):bL (GI n) n [br l,I i,I 0]=if has l[i].name ((l.take i).map V.name)=true then some (.inr (.inr (.inr (.inr (.a6 [I i,I 6])))))else some (.inl [br l,I i]):=by
 rcases wg (λk=>(l.map V.name)[k]?=some l[i].name) i with h|⟨k,J,aa,ax⟩
 .rw[akv h,xae (by simp)];refine mH (λk=>[br l,I i,I k]) i rfl ?_ ?_ (by omega);.intro k ah;rw[Vl n l i k af ah bJ,xae];intro he;refine h k ah ?_;rw[xah,xab (show k<l.length by omega),<-he];rfl
  simp[GI]
 have jY:k<l.length:=by omega
 have hw:=xab jY;have K0:(l[k]).name=l[i].name:=by rw[xah,hw]at aa;simpa using aa
 rw[<-K0,akw J hw,xac rfl];refine mH (λk=>[br l,I i,I k]) k rfl ?_ ?_ (by omega);.intro j aB;rw[Vl n l i j af (by omega) bJ,xae];intro he;refine ax j aB ?_;rw[xah,xab (show j<l.length by omega),<-he];rfl
 rw[Vl n l i k af J bJ,xac K0]
def Vm(n:Nat)(l:List V)(al:lQ l)(aN:l.length<n)(jt:∀v∈l,v.name.size+24<n)(i:Nat)(af:i<l.length):zH n [br l,I i]=if jz l i=0 then some (.inl [br l,I (i+1:Nat)])else some (.inr (.inr (.a6 [I i,I (jz l i)]))):=by
 have aE:=xab af;have aS:=al.2 _ (xaZ af);have bJ:=al.1;have fP:=awG n l i af al.1 aN;have e:jz l i=Ci (l.take i) l[i]:=by simp only[jz,aE]
 rw[e];generalize hw:l[i]=v at*;have J:=Vf n v.name (jt v (hw▸xaZ af)) (by omega);have bh:bX 4 (br l) (I (i:Int))=some v.cells:=by simp[br,aE,hw]
 have b9:bB false .lss (I (i:Int)) (I (l.length:Int))=some (aI true):=by simp[af]
 have awH:fA (br l)=some (I l.length):=by simp[br]
 have cN:bB false .add (I (i:Int)) (I 1)=some (I (i+1:Nat)):=by rw[e5 (by omega) (by omega)];rfl
 have il:bN true 4 0 v.cells=some v.d:=rfl;have bf:bN false 1 0 v.cells=some (a1 v.name):=rfl;have c1:bN false 1 1 v.cells=some (aI v.bool):=rfl;have c2:bN false 1 2 v.cells=some (I v.lo):=rfl;have b4:bN false 1 3 v.cells=some (I v.af):=rfl;have k8:=Ej n v aS.1 aS.2.1;rw[ae6];rw[show Vi v=_ from aku ⟨aS.1,aS.2.1,by omega⟩];simp only[zH,qb,rP,awH,b9,dT,l2,xaF,bh,il,bf,c1,c2,b4,J,fP,CD,px,Gd,zv,cN,CB,ae9,k8,dO,aw,aF,bI,b3,eh];rw[Vh];cases isName v.name
 .simp
 cases has v.name ((l.take i).map V.name)
 rotate_left
 .simp
 simp only[Bool.not_true,xar,xaH,dT,qL,dO,dM,bI,aw,b3,aF,dW,eh,h2,fR,j6,qb,rP,bh,il,bf,c1,c2,b4,px,zv,ae9,k8,CD];generalize (decide (v.lo>=-255)&&decide (v.lo<=255))=eQ;generalize (decide (v.af>=-255)&&decide (v.af<=255))=eE;generalize decide (v.lo>v.af)=hR;generalize decide (v.span>64)=tc;generalize (v.lo !=0)=wX;generalize (v.af !=0)=wY;cases v.bool<;>cases eQ<;>cases eE<;>cases hR<;>cases tc<;>cases wX<;>cases wY<;>simp[cN]
def awI(n:Nat)(l:List V)(al:lQ l)(aN:l.length<n)(jt:∀v∈l,v.name.size+24<n):GL n [br l]=some (.a6 [I (kM l).1,I (kM l).2]):=by
 have b1:GL n [br l]=ab (bL (zH n) n [br l,I 0]) (bo λls=>some (D.a6 [I 0,I 0])):=rfl;rw[b1];rcases wg (λi=>jz l i≠0) l.length with h|⟨i,J,aa,ax⟩
 .have bC:∀j:Nat,j<l.length->jz l j=0:=λj aB=>by simpa using h j aB
  have key:bL (zH n) n [br l,I 0]=some (.inl []):=by
   refine mH (λi=>[br l,I i]) l.length rfl ?_ ?_ aN;.intro i af;rw[Vm n l al aN jt i af,xac (bC i af)]
   simp[zH,br]
  rw[key,Yy bC];rfl
 have bC:∀j:Nat,j<i->jz l j=0:=λj aB=>by simpa using ax j aB
 have key:bL (zH n) n [br l,I 0]=some (.inr (.a6 [I i,I (jz l i)])):=by
  refine mH (λi=>[br l,I i]) i rfl ?_ ?_ (by omega);.intro j aB;rw[Vm n l al aN jt j (by omega),xac (bC j aB)]
  rw[Vm n l al aN jt i J,xae aa]
 rw[key,Yx bC J rfl aa];rfl
def oO(l:List cQ)(x:ByteArray):Option Nat:=l.findIdx? (λd=>decide (d.name=x))
def gi:Option Nat->Int
 |some i=>(i:Int)|none=>-1
def El(o:Option Nat):decide (gi o>=0)=o.isSome:=by cases o with|none=>rfl|some i=>simp[gi]
def afa(o:Option Nat):decide (gi o<0)=o.isNone:=by cases o with|none=>rfl|some i=>exact yF ((i:Int)<0)
def findIdx_cons{α:Type}(p:α->Bool)(a:α)(r:List α):(a::r).findIdx? p=if p a then some 0 else(r.findIdx? p).map (·+1):=by rw[xbW]
theorem V.mE(v:V):ae v.d 0=a1 v.name:=rfl
theorem V.a4(v:V):bN true 4 0 v.cells=some v.d:=rfl
theorem V.g4(v:V):dV 4 v.d=true:=rfl
theorem bw.mE(v:bw):ae v.d 0=a1 v.name:=rfl
theorem bw.a5(v:bw):bN true 5 0 v.cells=some v.d:=rfl
def bw.g5(v:bw):dV 5 v.d=true:=by unfold bw.d bw.cells;simp
theorem cQ.mE(v:cQ):ae v.d 0=a1 v.name:=rfl
theorem cQ.l4(v:cQ):bN true 7 0 v.cells=some v.d:=rfl
def cQ.g7(v:cQ):dV 7 v.d=true:=cQ.agg v
def awJ(n:Nat)(d:V)(x:ByteArray):Ig n [d.d,.ref [a1 x] 0]=some (aI (decide (d.name=x))):=by show MJ n d.d [a1 x]=_;simp only[MJ,go_sem,iY,V.g4,V.mE]
def awK(n:Nat)(l:List V)(x:ByteArray)(aN:l.length<n)(aj:l.length<1000000000):Az n [br l,D.fn (.func rV) [] [.ref [a1 x] 0]]=some (I (gi (eo l x))):=by
 have b1:(I ((0:Nat):Int))=I 0:=rfl;have af:=dC (f:=Ih n) l (λi (_:Unit)=>[br l,.ref [a1 x] 0,I l.length,I (i:Int)]) (λr _=>match eo r x with|some j=>(Sum.inr (I ((l.length-r.length+j:Nat):Int)):List D⊕D)|none=> .inl []) (λ_ _=>True) ?_ ?_ n 0 () trivial (by omega) (xaj _)
 .rw[b1,xam,Nat.sub_self]at af;have bS:Az n [br l,D.fn (.func rV) [] [.ref [a1 x] 0]]=Ii n (br l) (.ref [a1 x] 0):=by
   simp only[Az,nW]
  rw[bS];cases bM:eo l x with|none=>rw[bM]at af;simp only[Ii,go_sem,eY,af,gi]|some j=>rw[bM]at af;simp only[xay]at af;simp only[Ii,go_sem,eY,af,gi]
 .intro _ _;have:eo [] x=none:=rfl;simp only[Ih,go_sem,yF ((l.length:Int)<l.length),this]
 intro i a _ aH af _;have ct:=yT ((i:Int)<(l.length:Int));have ai:eo (a::l.drop (i+1)) x=if decide (a.name=x)=true then some 0 else(eo (l.drop (i+1)) x).map (·+1):=findIdx_cons _ a _
 have e:l.length-(a::l.drop (i+1)).length=i:=by simp;omega
 have du:l.length-(l.drop (i+1)).length=i+1:=by simp;omega
 have J:=awJ n a x;by_cases ad:a.name=x;.right;rw[xaq ad]at J ai;rw[ai,xac rfl,e];simp only[Ih,go_sem,ct,hj aH,V.a4,J,xbk]
 left;rw[xaD ad]at J ai;rw[ai,xae (by simp),e,du];refine⟨(),?_,?_,trivial⟩;.simp only[Ih,go_sem,ct,hj aH,V.a4,J,cm (bt:=false) (i:=i) (by omega)]
 cases eo (l.drop (i+1)) x with|none=>rfl|some j=>simp;omega
def awL(n:Nat)(l:List V)(x:ByteArray)(aN:l.length<n)(aj:l.length<1000000000):AA n [br l,D.fn (.func rV) [] [.ref [a1 x] 0]]=some (aI (eo l x).isSome):=by
 have bS:AA n [br l,D.fn (.func rV) [] [.ref [a1 x] 0]]=MK n (br l) (.ref [a1 x] 0):=by simp only[AA,nW]
 rw[bS];simp only[MK,go_sem,awK n l x aN aj,El]
def awM(n:Nat)(d:bw)(x:ByteArray):Ij n [d.d,.ref [a1 x] 0]=some (aI (decide (d.name=x))):=by show ML n d.d [a1 x]=_;simp only[ML,go_sem,iY,bw.g5,bw.mE]
def awN(n:Nat)(l:List bw)(x:ByteArray)(aN:l.length<n)(aj:l.length<1000000000):AB n [aY l,D.fn (.func rW) [] [.ref [a1 x] 0]]=some (I (gi (dw l x))):=by
 have b1:(I ((0:Nat):Int))=I 0:=rfl;have af:=dC (f:=Ik n) l (λi (_:Unit)=>[aY l,.ref [a1 x] 0,I l.length,I (i:Int)]) (λr _=>match dw r x with|some j=>(Sum.inr (I ((l.length-r.length+j:Nat):Int)):List D⊕D)|none=> .inl []) (λ_ _=>True) ?_ ?_ n 0 () trivial (by omega) (xaj _)
 .rw[b1,xam,Nat.sub_self]at af;have bS:AB n [aY l,D.fn (.func rW) [] [.ref [a1 x] 0]]=Il n (aY l) (.ref [a1 x] 0):=by
   simp only[AB,nW]
  rw[bS];cases bM:dw l x with|none=>rw[bM]at af;simp only[Il,go_sem,eJ,af,gi]|some j=>rw[bM]at af;simp only[xay]at af;simp only[Il,go_sem,eJ,af,gi]
 .intro _ _;have:dw [] x=none:=rfl;simp only[Ik,go_sem,yF ((l.length:Int)<l.length),this]
 intro i a _ aH af _;have ct:=yT ((i:Int)<(l.length:Int));have ai:dw (a::l.drop (i+1)) x=if decide (a.name=x)=true then some 0 else(dw (l.drop (i+1)) x).map (·+1):=findIdx_cons _ a _
 have e:l.length-(a::l.drop (i+1)).length=i:=by simp;omega
 have du:l.length-(l.drop (i+1)).length=i+1:=by simp;omega
 have J:=awM n a x;by_cases ad:a.name=x;.right;rw[xaq ad]at J ai;rw[ai,xac rfl,e];simp only[Ik,go_sem,ct,fH aH,bw.a5,J,xbk]
 left;rw[xaD ad]at J ai;rw[ai,xae (by simp),e,du];refine⟨(),?_,?_,trivial⟩;.simp only[Ik,go_sem,ct,fH aH,bw.a5,J,cm (bt:=false) (i:=i) (by omega)]
 cases dw (l.drop (i+1)) x with|none=>rfl|some j=>simp;omega
def awO(n:Nat)(l:List bw)(x:ByteArray)(aN:l.length<n)(aj:l.length<1000000000):AD n [aY l,D.fn (.func rW) [] [.ref [a1 x] 0]]=some (aI (dw l x).isSome):=by
 have bS:AD n [aY l,D.fn (.func rW) [] [.ref [a1 x] 0]]=MM n (aY l) (.ref [a1 x] 0):=by simp only[AD,nW]
 rw[bS];simp only[MM,go_sem,awN n l x aN aj,El]
def awP(n:Nat)(d:V)(x:ByteArray):H5 n [d.d,.ref [a1 x] 0]=some (aI (decide (d.name=x))):=by show MC n d.d [a1 x]=_;simp only[MC,go_sem,iY,V.g4,V.mE]
def awQ(n:Nat)(l:List V)(x:ByteArray)(aN:l.length<n)(aj:l.length<1000000000):Au n [br l,D.fn (.func CP) [] [.ref [a1 x] 0]]=some (I (gi (eo l x))):=by
 have b1:(I ((0:Nat):Int))=I 0:=rfl;have af:=dC (f:=H6 n) l (λi (_:Unit)=>[br l,.ref [a1 x] 0,I l.length,I (i:Int)]) (λr _=>match eo r x with|some j=>(Sum.inr (I ((l.length-r.length+j:Nat):Int)):List D⊕D)|none=> .inl []) (λ_ _=>True) ?_ ?_ n 0 () trivial (by omega) (xaj _)
 .rw[b1,xam,Nat.sub_self]at af;have bS:Au n [br l,D.fn (.func CP) [] [.ref [a1 x] 0]]=H7 n (br l) (.ref [a1 x] 0):=by
   simp only[Au,nW]
  rw[bS];cases bM:eo l x with|none=>rw[bM]at af;simp only[H7,go_sem,eY,af,gi]|some j=>rw[bM]at af;simp only[xay]at af;simp only[H7,go_sem,eY,af,gi]
 .intro _ _;have:eo [] x=none:=rfl;simp only[H6,go_sem,yF ((l.length:Int)<l.length),this]
 intro i a _ aH af _;have ct:=yT ((i:Int)<(l.length:Int));have ai:eo (a::l.drop (i+1)) x=if decide (a.name=x)=true then some 0 else(eo (l.drop (i+1)) x).map (·+1):=findIdx_cons _ a _
 have e:l.length-(a::l.drop (i+1)).length=i:=by simp;omega
 have du:l.length-(l.drop (i+1)).length=i+1:=by simp;omega
 have J:=awP n a x;by_cases ad:a.name=x;.right;rw[xaq ad]at J ai;rw[ai,xac rfl,e];simp only[H6,go_sem,ct,hj aH,V.a4,J,xbk]
 left;rw[xaD ad]at J ai;rw[ai,xae (by simp),e,du];refine⟨(),?_,?_,trivial⟩;.simp only[H6,go_sem,ct,hj aH,V.a4,J,cm (bt:=false) (i:=i) (by omega)]
 cases eo (l.drop (i+1)) x with|none=>rfl|some j=>simp;omega
def awR(n:Nat)(d:bw)(x:ByteArray):H8 n [d.d,.ref [a1 x] 0]=some (aI (decide (d.name=x))):=by show MD n d.d [a1 x]=_;simp only[MD,go_sem,iY,bw.g5,bw.mE]
def awS(n:Nat)(l:List bw)(x:ByteArray)(aN:l.length<n)(aj:l.length<1000000000):Av n [aY l,D.fn (.func rX) [] [.ref [a1 x] 0]]=some (I (gi (dw l x))):=by
 have b1:(I ((0:Nat):Int))=I 0:=rfl;have af:=dC (f:=H9 n) l (λi (_:Unit)=>[aY l,.ref [a1 x] 0,I l.length,I (i:Int)]) (λr _=>match dw r x with|some j=>(Sum.inr (I ((l.length-r.length+j:Nat):Int)):List D⊕D)|none=> .inl []) (λ_ _=>True) ?_ ?_ n 0 () trivial (by omega) (xaj _)
 .rw[b1,xam,Nat.sub_self]at af;have bS:Av n [aY l,D.fn (.func rX) [] [.ref [a1 x] 0]]=Ia n (aY l) (.ref [a1 x] 0):=by
   simp only[Av,nW]
  rw[bS];cases bM:dw l x with|none=>rw[bM]at af;simp only[Ia,go_sem,eJ,af,gi]|some j=>rw[bM]at af;simp only[xay]at af;simp only[Ia,go_sem,eJ,af,gi]
 .intro _ _;have:dw [] x=none:=rfl;simp only[H9,go_sem,yF ((l.length:Int)<l.length),this]
 intro i a _ aH af _;have ct:=yT ((i:Int)<(l.length:Int));have ai:dw (a::l.drop (i+1)) x=if decide (a.name=x)=true then some 0 else(dw (l.drop (i+1)) x).map (·+1):=findIdx_cons _ a _
 have e:l.length-(a::l.drop (i+1)).length=i:=by simp;omega
 have du:l.length-(l.drop (i+1)).length=i+1:=by simp;omega
 have J:=awR n a x;by_cases ad:a.name=x;.right;rw[xaq ad]at J ai;rw[ai,xac rfl,e];simp only[H9,go_sem,ct,fH aH,bw.a5,J,xbk]
 left;rw[xaD ad]at J ai;rw[ai,xae (by simp),e,du];refine⟨(),?_,?_,trivial⟩;.simp only[H9,go_sem,ct,fH aH,bw.a5,J,cm (bt:=false) (i:=i) (by omega)]
 cases dw (l.drop (i+1)) x with|none=>rfl|some j=>simp;omega
def awT(n:Nat)(l:List bw)(x:ByteArray)(aN:l.length<n)(aj:l.length<1000000000):Aw n [aY l,D.fn (.func rX) [] [.ref [a1 x] 0]]=some (aI (dw l x).isSome):=by
 have bS:Aw n [aY l,D.fn (.func rX) [] [.ref [a1 x] 0]]=ME n (aY l) (.ref [a1 x] 0):=by simp only[Aw,nW]
 rw[bS];simp only[ME,go_sem,awS n l x aN aj,El]
def awU(n:Nat)(d:bw)(x:ByteArray):Ib n [d.d,.ref [a1 x] 0]=some (aI (decide (d.name=x))):=by show MG n d.d [a1 x]=_;simp only[MG,go_sem,iY,bw.g5,bw.mE]
def awV(n:Nat)(l:List bw)(x:ByteArray)(aN:l.length<n)(aj:l.length<1000000000):Ax n [aY l,D.fn (.func CO) [] [.ref [a1 x] 0]]=some (I (gi (dw l x))):=by
 have b1:(I ((0:Nat):Int))=I 0:=rfl;have af:=dC (f:=Ic n) l (λi (_:Unit)=>[aY l,.ref [a1 x] 0,I l.length,I (i:Int)]) (λr _=>match dw r x with|some j=>(Sum.inr (I ((l.length-r.length+j:Nat):Int)):List D⊕D)|none=> .inl []) (λ_ _=>True) ?_ ?_ n 0 () trivial (by omega) (xaj _)
 .rw[b1,xam,Nat.sub_self]at af;have bS:Ax n [aY l,D.fn (.func CO) [] [.ref [a1 x] 0]]=Ie n (aY l) (.ref [a1 x] 0):=by
   simp only[Ax,nW]
  rw[bS];cases bM:dw l x with|none=>rw[bM]at af;simp only[Ie,go_sem,eJ,af,gi]|some j=>rw[bM]at af;simp only[xay]at af;simp only[Ie,go_sem,eJ,af,gi]
 .intro _ _;have:dw [] x=none:=rfl;simp only[Ic,go_sem,yF ((l.length:Int)<l.length),this]
 intro i a _ aH af _;have ct:=yT ((i:Int)<(l.length:Int));have ai:dw (a::l.drop (i+1)) x=if decide (a.name=x)=true then some 0 else(dw (l.drop (i+1)) x).map (·+1):=findIdx_cons _ a _
 have e:l.length-(a::l.drop (i+1)).length=i:=by simp;omega
 have du:l.length-(l.drop (i+1)).length=i+1:=by simp;omega
 have J:=awU n a x;by_cases ad:a.name=x;.right;rw[xaq ad]at J ai;rw[ai,xac rfl,e];simp only[Ic,go_sem,ct,fH aH,bw.a5,J,xbk]
 left;rw[xaD ad]at J ai;rw[ai,xae (by simp),e,du];refine⟨(),?_,?_,trivial⟩;.simp only[Ic,go_sem,ct,fH aH,bw.a5,J,cm (bt:=false) (i:=i) (by omega)]
 cases dw (l.drop (i+1)) x with|none=>rfl|some j=>simp;omega
def awW(n:Nat)(d:cQ)(x:ByteArray):HD n [d.d,.ref [a1 x] 0]=some (aI (decide (d.name=x))):=by show Mo n d.d [a1 x]=_;simp only[Mo,go_sem,iY,cQ.g7,cQ.mE]
def awX(n:Nat)(l:List cQ)(x:ByteArray)(aN:l.length<n)(aj:l.length<1000000000):Ac n [b2 l,D.fn (.func rY) [] [.ref [a1 x] 0]]=some (I (gi (oO l x))):=by
 have b1:(I ((0:Nat):Int))=I 0:=rfl;have af:=dC (f:=HE n) l (λi (_:Unit)=>[b2 l,.ref [a1 x] 0,I l.length,I (i:Int)]) (λr _=>match oO r x with|some j=>(Sum.inr (I ((l.length-r.length+j:Nat):Int)):List D⊕D)|none=> .inl []) (λ_ _=>True) ?_ ?_ n 0 () trivial (by omega) (xaj _)
 .rw[b1,xam,Nat.sub_self]at af;have bS:Ac n [b2 l,D.fn (.func rY) [] [.ref [a1 x] 0]]=HF n (b2 l) (.ref [a1 x] 0):=by
   simp only[Ac,nW]
  rw[bS];cases bM:oO l x with|none=>rw[bM]at af;simp only[HF,go_sem,jd,af,gi]|some j=>rw[bM]at af;simp only[xay]at af;simp only[HF,go_sem,jd,af,gi]
 .intro _ _;have:oO [] x=none:=rfl;simp only[HE,go_sem,yF ((l.length:Int)<l.length),this]
 intro i a _ aH af _;have ct:=yT ((i:Int)<(l.length:Int));have ai:oO (a::l.drop (i+1)) x=if decide (a.name=x)=true then some 0 else(oO (l.drop (i+1)) x).map (·+1):=findIdx_cons _ a _
 have e:l.length-(a::l.drop (i+1)).length=i:=by simp;omega
 have du:l.length-(l.drop (i+1)).length=i+1:=by simp;omega
 have J:=awW n a x;by_cases ad:a.name=x;.right;rw[xaq ad]at J ai;rw[ai,xac rfl,e];simp only[HE,go_sem,ct,ny aH,cQ.l4,J,xbk]
 left;rw[xaD ad]at J ai;rw[ai,xae (by simp),e,du];refine⟨(),?_,?_,trivial⟩;.simp only[HE,go_sem,ct,ny aH,cQ.l4,J,cm (bt:=false) (i:=i) (by omega)]
 cases oO (l.drop (i+1)) x with|none=>rfl|some j=>simp;omega
def awY(n:Nat)(l:List cQ)(x:ByteArray)(aN:l.length<n)(aj:l.length<1000000000):Ad n [b2 l,D.fn (.func rY) [] [.ref [a1 x] 0]]=some (aI (oO l x).isSome):=by
 have bS:Ad n [b2 l,D.fn (.func rY) [] [.ref [a1 x] 0]]=Mp n (b2 l) (.ref [a1 x] 0):=by simp only[Ad,nW]
 rw[bS];simp only[Mp,go_sem,awX n l x aN aj,El]
structure uq(f:Tm->Tm):Prop where
 op:∀t,(f t).op=t.op
 num:∀t,(f t).num=t.num
 name:∀t,(f t).name=t.name
 bc:∀t,(f t).bc=t.bc.map f
theorem Vn:uq kV:=⟨λt=>by rw[Jj];rfl,λt=>by rw[Jj];rfl,λt=>by rw[Jj];rfl,λt=>by rw[Jj];rfl⟩
theorem afb:uq gH:=⟨λt=>by rw[D8];rfl,λt=>by rw[D8];rfl,λt=>by rw[D8];rfl,λt=>by rw[D8];rfl⟩
def afc(vs:List V)(nx:Bool)(f:Tm->Tm):∀(ks:List Tm),(∀k∈ks,eb vs nx (f k)=eb vs nx k)->eg vs nx (ks.map f)=eg vs nx ks
 |[],_=>rfl|k::r,h=>by rw[xau,eg,eg,h k (by simp),afc vs nx f r λk ah=>h k (by simp[ah])]
def awZ{f:Tm->Tm}(bk:uq f)(t:Tm)(l:List Y):hi (f t) l=hi t l:=by unfold hi;rw[bk.op,bk.bc,xah];cases ah:t.bc[1]? with|none=>rfl|some k=>simp only[xaI,bk.op,bk.num]
def aw0{f:Tm->Tm}(bk:uq f)(vs:List V)(nx:Bool)(t:Tm):eb vs nx (f t)=eb vs nx t:=by
 refine Tm.ind (P:=λt=>eb vs nx (f t)=eb vs nx t) ?_ t;intro t ih;have ax:kW vs nx (f t)=kW vs nx t:=by simp only[kW,bk.op,bk.num,bk.name]
 rw[oK,oK vs nx t,bk.op,bk.bc,ax,afc vs nx f t.bc ih,awZ bk]
def aw1{f:Tm->Tm}(bk:uq f)(t:Tm):iD (f t)=iD t:=by simp only[iD,bk.op,bk.num,bk.name,bk.bc,xaY]
def afd(f:Tm->Tm):∀(ks:List Tm),(∀k∈ks,∀d n,dk (f k) d n=dk k d n)->∀d n,fq (ks.map f) d n=fq ks d n
 |[],_,_,_=>rfl|k::r,h,d,n=>by rw[xau,fq,fq,h k (by simp),afd f r λk ah=>h k (by simp[ah])]
def aw2{f:Tm->Tm}(bk:uq f)(t:Tm):∀d n,dk (f t) d n=dk t d n:=by refine Tm.ind (P:=λt=>∀d n,dk (f t) d n=dk t d n) ?_ t;intro t ih d n;rw[vU,vU t,aw1 bk,bk.bc,afd f t.bc ih]
def Vo{f:Tm->Tm}(bk:uq f)(vs:List V)(nx:Bool)(t:Tm):jP vs nx (f t)=jP vs nx t:=by unfold jP;rw[aw2 bk,aw0 bk]
structure Em(l:List bw)(t:Tm)(p:Tm×Int):Prop where
 a:∀n,13301000000<n->mM n [t.d,aY l]=some (.a6 [(if p.2=0 then kV p.1 else fG).d,I p.2])
 b:∀n,13301000000<n->oC n [t.d,aY l]=some (.a6 [(if p.2=0 then gH p.1 else fG).d,I p.2])
 x:p.2=0->p.1.Ok/\p.1.bA<=660000/\(dk p.1 1 0).1=0/\(kV p.1).Ok/\(gH p.1).Ok/\∃h,ky l h t p.1
def afe{l:List bw}(al:ir 660000 l)(En:l.length<=100)(t:Tm)(bD:t.Ok)(aP:t.bA<=660000):∃p,Em l t p:=by
 by_cases au:(dk t 1 0).1=0
 case neg=>exact⟨(fG,(dk t 1 0).1),λn aN=>by rw[xae au];exact(UJ al n t bD aP (by omega)).1 au,λn aN=>by rw[xae au];exact(UL al n t bD aP (by omega)).1 au,λh=>absurd h au⟩
 cases av:sw l t with
 |false=>exact⟨(fG,14),λn aN=>(UJ al n t bD aP (by omega)).2.1 au av,λn aN=>(UL al n t bD aP (by omega)).2.1 au av,λh=>by cases h⟩
 |true=>
  obtain⟨X,kU⟩:=auJ al aP ((auV l t).1 av);have hH:(l.length+1)*(660000+1)+660000<=70000000:=by omega
  generalize (l.length+1)*(660000+1)+660000=bS at*;have A:∀n,13301000000<n->_:=λn aN=>(UJ al n t bD aP (by omega)).2.2 _ X au av kU (by omega);have B:∀n,13301000000<n->_:=λn aN=>(UL al n t bD aP (by omega)).2.2 _ X au av kU (by omega);obtain⟨c1,c2⟩:=UB X 1 0 (by omega);rw[c1]at A;by_cases ax:(dk X 1 0).1=0
  case neg=>simp only[ax,xaH]at A B;exact⟨(fG,(dk X 1 0).1),λn aN=>by rw[xae ax];exact A n aN,λn aN=>by rw[xae ax];exact B n aN,λh=>absurd h ax⟩
  simp only[ax,xaF]at A B;have bk:=adY X 1 0 (by omega) ax;have aff:=kU.ok al bD aP;have fg:=au2 X 1 0 ax;have Gm:=(DR X 1 0).2 ax;have afg:=(adT al kU bD aP).1;rw[bk]at A afg;exact⟨(X,0),A,B,λ_=>⟨aff.1,by simp only;omega,ax,afg,avA X aff.1,bS,kU⟩⟩
open Classical in
noncomputable def dU(l:List bw)(t:Tm):Tm×Int:=if h:∃p,Em l t p then Classical.choose h else(fG,0)
def afh{l:List bw}{t:Tm}(h:∃p,Em l t p):Em l t (dU l t):=by unfold dU;rw[dif_pos h];exact Classical.choose_spec h
noncomputable def hr(m:ar)(nx:Bool)(t:Tm):Y×Int:=if(dU m.aA t).2≠0 then(fs,(dU m.aA t).2)else jP m.vars nx (dU m.aA t).1
noncomputable def pN(m:ar)(nx:Bool)(t:Tm):Int:=if((hr m nx t).2==0&&!(hr m nx t).1.b)=true then 13 else(hr m nx t).2
structure Eo(m:ar):Prop where
 d:ir 660000 m.aA
 dl:m.aA.length<=100
 gG:m.vars.length<=100
def Eo.Vp{m:ar}(h:Eo m){t:Tm}(bD:t.Ok)(aP:t.bA<=660000):Em m.aA t (dU m.aA t):=afh (afe h.d h.dl t bD aP)
theorem afi:D.agg [aI false,I 0,I 0]=fs.d:=rfl
theorem ur(y:Y):ae y.d 0=aI y.b:=rfl
theorem afj(y:Y):ae y.d 1=I y.lo:=rfl
theorem afk(y:Y):ae y.d 2=I y.af:=rfl
theorem ql(y:Y):dV 3 y.d=true:=rfl
theorem afl(y:Y):D.agg [aI y.b,I y.lo,I y.af]=y.d:=rfl
section
variable{m:ar}(hm:Eo m)(n:Nat)(aN:13301000000<n)
include hm aN
theorem Vq{t:Tm}(bD:t.Ok)(aP:t.bA<=660000)(nx:Bool):tW n [m.d,t.d,aI nx]=some (.a6 [(hr m nx t).1.d,I (hr m nx t).2]):=by
 have mz:=hm.Vp bD aP;have kz:=hm.gG;unfold hr;generalize dU m.aA t=p at*;have dr:=mz.a n aN;by_cases au:p.2=0
 .obtain⟨x1,q5,Jy,afm,afn,_⟩:=mz.x au;have bG:(p.2 !=0)=false:=by simp[au]
  rw[xac au]at dr;have bl:=aeg n m.vars (kV p.1) nx (by rw[UN];omega) afm (by omega);rw[Vo Vn]at bl;rw[xae (by simpa using au)];simp only[tW,Ti,go_sem,ar.agg,ar.bf,ar.c1,dr,bG,bl,ql,ur,afj,afk,afl]
 have bG:(p.2 !=0)=true:=by simpa using au
 rw[xae au]at dr;rw[xac au];simp only[tW,Ti,go_sem,ar.agg,ar.bf,ar.c1,dr,bG,afi]
theorem Vr{t:Tm}(bD:t.Ok)(aP:t.bA<=660000)(nx:Bool):tP n [m.d,t.d,aI nx]=some (.a6 [(hr m nx t).1.d,I (hr m nx t).2]):=by
 have mz:=hm.Vp bD aP;have kz:=hm.gG;unfold hr;generalize dU m.aA t=p at*;have dr:=mz.b n aN;by_cases au:p.2=0
 .obtain⟨x1,q5,Jy,afm,afn,_⟩:=mz.x au;have bG:(p.2 !=0)=false:=by simp[au]
  rw[xac au]at dr;have bl:=aeh n m.vars (gH p.1) nx (by rw[NV];omega) afn (by omega);rw[Vo afb]at bl;rw[xae (by simpa using au)];simp only[tP,SN,go_sem,ar.agg,ar.bf,ar.c1,dr,bG,bl,ql,ur,afj,afk,afl]
 have bG:(p.2 !=0)=true:=by simpa using au
 rw[xae au]at dr;rw[xac au];simp only[tP,SN,go_sem,ar.agg,ar.bf,ar.c1,dr,bG,afi]
theorem afo{t:Tm}(bD:t.Ok)(aP:t.bA<=660000)(nx:Bool):xM n [m.d,t.d,aI nx]=some (I (pN m nx t)):=by
 have bl:=Vq hm n aN bD aP nx;unfold pN;by_cases h:((hr m nx t).2==0&&!(hr m nx t).1.b)=true;.rw[xac h];simp only[xM,Tj,go_sem,ar.agg,ar.bf,ar.c1,ar.c2,ar.b4,ar.cT,ar.dp,ar.dq,ar.dE,ar.eta,bl,ql,ur,h]
 have bC:((hr m nx t).2==0&&!(hr m nx t).1.b)=false:=by simpa using h
 rw[xae h];simp only[xM,Tj,go_sem,ar.agg,ar.bf,ar.c1,ar.c2,ar.b4,ar.cT,ar.dp,ar.dq,ar.dE,ar.eta,bl,ql,ur,bC]
theorem afp{t:Tm}(bD:t.Ok)(aP:t.bA<=660000)(nx:Bool):xF n [m.d,t.d,aI nx]=some (I (pN m nx t)):=by
 have bl:=Vr hm n aN bD aP nx;unfold pN;by_cases h:((hr m nx t).2==0&&!(hr m nx t).1.b)=true;.rw[xac h];simp only[xF,SO,go_sem,ar.agg,ar.bf,ar.c1,ar.c2,ar.b4,ar.cT,ar.dp,ar.dq,ar.dE,ar.eta,bl,ql,ur,h]
 have bC:((hr m nx t).2==0&&!(hr m nx t).1.b)=false:=by simpa using h
 rw[xae h];simp only[xF,SO,go_sem,ar.agg,ar.bf,ar.c1,ar.c2,ar.b4,ar.cT,ar.dp,ar.dq,ar.dE,ar.eta,bl,ql,ur,bC]
end
def wh(N:Nat)(S:List Nat):List (List D):=(List.range N).map λj=>[aI (decide (j∈S))]
def kA(N:Nat)(S:List Nat):D:= .aV 1 (wh N S)
def Jz(N:Nat)(S:List Nat):(wh N S).length=N:=by simp[wh]
def JA{N:Nat}{S:List Nat}{k:Nat}(h:k<N):(wh N S)[k]?=some [aI (decide (k∈S))]:=by simp[wh,h]
def afq(N:Nat):List.replicate N [aI false]=wh N []:=by
 apply xbS;intro j;by_cases h:j<N;.rw[JA h];simp[h]
 rw[xaR (by simp;omega),xaR (by rw[Jz];omega)]
def aw3{N:Nat}{S:List Nat}{k:Nat}(h:k<N):(wh N S).set k [aI true]=wh N (S++[k]):=by
 apply xbS;intro j;by_cases aB:j<N
 .rw[JA aB,List.getElem?_set];by_cases e:k=j;.subst e;simp[Jz,h]
  rw[xae e,JA aB];have:(j∈S++[k])↔j∈S:=by simp;omega
  simp only[this]
 rw[xaR (by simp[Jz];omega),xaR (by rw[Jz];omega)]
def iG(S:List Nat)(ks:List Nat):List Nat:=ks.foldl (λS k=>if k∈S then S else S++[k]) S
theorem JB(S:List Nat)(k:Nat)(r:List Nat):iG S (k::r)=iG (if k∈S then S else S++[k]) r:=rfl
structure aw4(N:Nat)(S ks R:List Nat):Prop where
 inv:jb N R
 pre:∃T,R=S++T
 mem:∀k∈ks,k∈R
 of:∀x∈R,x∈S\/x∈ks
def Oe{N:Nat}:∀(ks S:List Nat),jb N S->(∀k∈ks,k<N)->aw4 N S ks (iG S ks)
 |[],S,h,_=>⟨h,⟨[],by simp[iG]⟩,by simp,λx ad=> .inl ad⟩
 |k::r,S,h,ah=>by
  rw[JB];by_cases eS:k∈S
  .rw[xac eS];have g:=Oe r S h λx ad=>ah x (by simp[ad]);obtain⟨T,bl⟩:=g.pre;refine⟨g.inv,g.pre,λx ad=>?_,λx ad=>(g.of x ad).elim .inl λh=> .inr (by simp[h])⟩;rcases xal.1 ad with rfl|ad
   .rw[bl];simp[eS]
   exact g.mem x ad
  rw[xae eS];have g:=Oe r (S++[k]) (h.snoc (ah k (by simp)) eS) λx ad=>ah x (by simp[ad]);obtain⟨T,bl⟩:=g.pre;refine⟨g.inv,⟨[k]++T,by rw[bl];simp⟩,λx ad=>?_,λx ad=>?_⟩
  .rcases xal.1 ad with rfl|ad;.rw[bl];simp
   exact g.mem x ad
  rcases g.of x ad with h|h
  .rcases xas.1 h with h|h;.exact .inl h
   simp at h;subst h;exact .inr (by simp)
  exact .inr (by simp[h])
def wi(to:Nat->List Nat)(i:Nat):Nat->Nat->List Nat->List Nat
 |0,_,S=>S|m+1,k,S=>match(i::S)[k]? with|some x=>wi to i m (k+1) (iG S (to x))|none=>S
structure q8(to:Nat->List Nat)(N i k:Nat)(S:List Nat):Prop where
 inv:jb N S
 le:k<=S.length+1
 vX:∀j x,j<k->(i::S)[j]?=some x->∀y∈to x,y∈S
 ss:∀x∈S,∃j∈to i,kx to j x
def kx.snoc{to:Nat->List Nat}{i j k:Nat}(h:kx to i j)(bC:k∈to j):kx to i k:=h.trans (.step j k k bC (.refl k))
def q8.next{to:Nat->List Nat}{N i k:Nat}{S:List Nat}(h:q8 to N i k S)(jj:∀i,∀k∈to i,k<N){x:Nat}(ad:(i::S)[k]?=some x):q8 to N i (k+1) (iG S (to x)):=by
 have g:=Oe (to x) S h.inv (jj x);obtain⟨T,bl⟩:=g.pre;have ah:k<S.length+1:=by have:=(xaa.1 ad).1;simpa using this
 have aw5:∀j y,j<=k->(i::iG S (to x))[j]?=some y->(i::S)[j]?=some y:=by intro j y aB aE;rw[bl,<-xbt,xap (by simp;omega)]at aE;exact aE
 refine⟨g.inv,by rw[bl];simp;omega,?_,?_⟩
 .intro j y aB aE z bG;have uQ:=aw5 j y (by omega) aE;by_cases e:j=k
  .subst e;rw[ad]at uQ;cases uQ;exact g.mem z bG
  have:=h.vX j y (by omega) uQ z bG;rw[bl];simp[this]
 intro y aE;rcases g.of y aE with J|J
 .exact h.ss y J
 cases k with|zero=>simp at ad;subst ad;exact⟨y,J,.refl y⟩|succ k=>have Ut:x∈S:=xad (by simpa using ad);obtain⟨j,aB,av⟩:=h.ss x Ut;exact⟨j,aB,av.snoc J⟩
def Vs{to:Nat->List Nat}{N i:Nat}(jj:∀i,∀k∈to i,k<N):∀(m k:Nat)(S:List Nat),q8 to N i k S->N+1-k<m->(i∈wi to i m k S↔∃j∈to i,kx to j i)
 |0,_,_,_,h=>absurd h (xaJ _)
 |m+1,k,S,h,hm=>by
  rw[wi];have bJ:=h.inv.len;cases ad:(i::S)[k]? with
  |some x=>
   have ah:k<S.length+1:=by have:=(xaa.1 ad).1;simpa using this
   exact Vs jj m (k+1) _ (h.next jj ad) (by omega)
  |none=>
   have ah:S.length+1<=k:=by have:=xch.1 ad;simpa using this
   refine⟨λaf=>h.ss i af,?_⟩;have ha:∀a b,kx to a b->a∈S->b∈S:=by
    intro a b hf
    induction hf with|refl=>exact λh=>h|step p q r kh _ ih=>intro aU;obtain⟨j,aB⟩:=xaG.1 aU;have ct:=(xaa.1 aB).1;exact ih (h.vX (j+1) p (by omega) (by simpa using aB) q kh)
   rintro⟨j,aB,av⟩;exact ha j i av (h.vX 0 i (by omega) (by simp) j aB)
def q8.start(to:Nat->List Nat)(N i:Nat):q8 to N i 0 []:=⟨⟨by simp,by simp⟩,by simp,by intro j x h;omega,by simp⟩
theorem sB(x:List Nat):D.aV 1 (ba (dg x))=dg x:=rfl
def JC(x:List Nat):(ba (dg x)).length=x.length:=by simp[dg]
def afr(x:List Nat)(k:Nat):D.aV 1 (ba (dg x)++[[I (k:Int)]])=dg (x++[k]):=by simp[dg]
def afs{x:List Nat}{j k:Nat}(h:x[j]?=some k):(ba (dg x))[j]?=some [I (k:Int)]:=by simp[dg,h]
theorem pO(N:Nat)(x:List Nat):D.aV 1 (ba (kA N x))=kA N x:=rfl
def JD(N:Nat)(x:List Nat):(ba (kA N x)).length=N:=Jz N x
def JE{N:Nat}{S:List Nat}{k:Nat}(h:k<N):(ba (kA N S))[k]?=some [aI (decide (k∈S))]:=JA h
theorem aft{N:Nat}{S:List Nat}{k:Nat}(h:k<N){w:Bool}:D.aV 1 ((ba (kA N S)).set k (iN [aI w] 0 [aI true]))=kA N (S++[k]):=by show D.aV 1 ((wh N S).set k [aI true])=_;rw[aw3 h];rfl
theorem Bs(b:Bool):bN false 1 0 [aI b]=some (aI b):=rfl
theorem Ep(i:Int):bN false 1 0 [I i]=some (I i):=rfl
theorem Er(s:ByteArray):bN false 1 0 [a1 s]=some (a1 s):=rfl
theorem Of{p:Option D}:dL (aI true) true p=p:=rfl
theorem afu{p:Option D}:dL (aI false) true p=some kl:=rfl
theorem Og{a b:D}:gp (aI true) a b=some a:=rfl
theorem afv{a b:D}:gp (aI false) a b=some b:=rfl
def afw{l:List bw}{x:ByteArray}{k:Nat}(h:dw l x=some k):k<l.length:=by obtain⟨_,_,_,h⟩:=R9 h;exact h
def aw6(n:Nat)(l:List bw){B:Nat}(al:ir B l)(i k:Nat)(fY:List ByteArray)(S:List Nat)(cK:jb l.length S)(ah:k<=S.length+1)(e3:fY.length<=B)(aN:2*B+100<n):bL (Ay n) n [aY l,I (i:Int),dG fY,I fY.length,I 0,kA l.length S,dg ((i::S).drop k)]=some (.inl [aY l,I (i:Int),kA l.length (iG S (fY.filterMap (dw l))),dg ((i::iG S (fY.filterMap (dw l))).drop k)]):=by
 have bJ:=al.len;have aj:=al.b;have af:=dC (f:=Ay n) fY (λj (s:List Nat)=>[aY l,I (i:Int),dG fY,I fY.length,I (j:Int),kA l.length s,dg ((i::s).drop k)]) (λr s=>(.inl [aY l,I (i:Int),kA l.length (iG s (r.filterMap (dw l))),dg ((i::iG s (r.filterMap (dw l))).drop k)]:List D⊕(List D⊕(List D⊕(List D⊕D))))) (λj s=>jb l.length s/\k<=s.length+1) (λs _=>by simp only[Ay,go_sem,yF ((fY.length:Int)<fY.length),pO,sB];rfl) ?_ n 0 S ⟨cK,ah⟩ (by omega) (xaj _)
 .exact af
 rintro j x s ad aB ⟨J,aa⟩;have fK:=awV n l x (by omega) (by omega);have mc:=J.len;have ct:=yT ((j:Int)<(fY.length:Int));left;cases ay:dw l x with
 |none=>rw[ay]at fK;refine⟨s,?_,by simp[ay],J,aa⟩;have gJ:decide (gi none>=0)=false:=rfl;simp only[Ay,go_sem,ct,Jb ad,Er,fK,gJ,afu,afv,pO,sB,cm (bt:=false) (i:=j) (by omega)]
 |some y=>
  have aE:=afw ay;rw[ay]at fK;have gJ:decide ((y:Int)>=0)=true:=xaq (by omega);have dR:cL l.length (I (y:Int))=some y:=by rw[jZ,xac aE]
  have JF:gi (some y)=(y:Int):=rfl;by_cases ow:y∈s;.refine⟨s,?_,by simp[ay,JB,ow],J,aa⟩;simp only[Ay,go_sem,ct,Jb ad,Er,fK,JF,gJ,JD,dR,JE aE,Bs,xaq ow,Of,Og,pO,sB,cm (bt:=false) (i:=j) (by omega)]
  have ax:=J.snoc aE ow;refine⟨s++[y],?_,by simp only[xbU,ay,JB,xae ow],ax,by simp;omega⟩;have aL:(i::(s++[y])).drop k=(i::s).drop k++[y]:=by rw[<-xbt,List.drop_append_of_le_length (by simpa using aa)]
  have eI:cZ (((i::s).drop k).length+1) 8=true:=fV (by simp;omega) (by simp;omega);rw[aL];simp only[Ay,go_sem,ct,Jb ad,Er,fK,JF,gJ,JD,dR,JE aE,Bs,xaD ow,Of,Og,JC,xan,xaA,xay,eI,aft aE,afr,pO,sB,cm (bt:=false) (i:=j) (by omega)]
def afx(n:Nat)(l:List bw){B:Nat}(al:ir B l)(i:Nat)(bY:i<l.length)(aN:4*B+200<n):∀(m k:Nat)(S:List Nat),q8 (to l) l.length i k S->l.length+1-k<m->bL (MH n) m [aY l,I (i:Int),kA l.length S,dg ((i::S).drop k)]=some (.inl [I (i:Int),kA l.length (wi (to l) i m k S)])
 |0,_,_,_,h=>absurd h (xaJ _)
 |m+1,k,S,h,hm=>by
  have bJ:=al.len;have aj:=al.b;rw[la,wi];have aw7:=h.inv.len;have hle:=h.le;cases ad:(i::S)[k]? with
  |none=>
   have ah:S.length+1<=k:=by have:=xch.1 ad;simpa using this
   have b1:(i::S).drop k=[]:=xcp (by simpa using ah);rw[b1];have aL:(ba (dg [])).length=0:=rfl;have a7:decide (((0:Nat):Int)>0)=false:=rfl;simp only[MH,go_sem,aL,a7,pO]
  |some x=>
   have ah:k<S.length+1:=by have:=(xaa.1 ad).1;simpa using this
   have pW:x<l.length:=by cases k with|zero=>simp at ad;omega|succ k=>exact h.inv.2 x (xad (by simpa using ad))
   obtain⟨d,ay⟩:∃d,l[x]?=some d:=⟨l[x],xab pW⟩;have h4:=al.e d (xad ay);have nI:=h.next (λi k ah=>lM i k ah) ad
   have ih:=afx n l al i bY aN m (k+1) _ nI (by omega);have cf:=NC n d.e (by omega) h4.1 (by omega);have aw8:=DT d.e;have fP:=aw6 n l al i k (gh 3 d.e []) S h.inv hle (by omega) (by omega);have jj:(gh 3 d.e []).filterMap (dw l)=to l x:=by rw[DU ay];rfl
   rw[jj]at fP;obtain⟨T,bl⟩:=(Oe (N:=l.length) (to l x) S h.inv (lM x)).pre;have BW:((i::iG S (to l x)).drop k).length=(iG S (to l x)).length+1-k:=by simp
   have zq:=nI.le;have afy:((i::S).drop k).length=S.length+1-k:=by simp
   have wG:decide (((((i::S).drop k).length:Nat):Int)>0)=true:=xaq (by rw[afy];omega);have aw9:((i::S).drop k)[0]?=some x:=by rw[xaW];exact ad
   have dR:cL ((i::S).drop k).length (I 0)=some 0:=by have:(I 0)=I ((0:Nat):Int):=rfl;rw[this,jZ,xac (by rw[afy];omega)]
   have axa:kN ((i::iG S (to l x)).drop k).length (some (I 1)) none=some (1,((i::iG S (to l x)).drop k).length-1):=by
    have J:1<=((i::iG S (to l x)).drop k).length:=by rw[BW];omega
    generalize ((i::iG S (to l x)).drop k).length=q at*;have:(I 1)=I ((1:Nat):Int):=rfl;rw[this];simp[kN,p3,I,J]
   have Vt:decide (1+(((i::iG S (to l x)).drop k).length-1)<=((i::iG S (to l x)).drop k).length)=true:=xaq (by rw[BW];omega);have axb:D.aV 1 (((ba (dg ((i::iG S (to l x)).drop k))).drop 1).take (((i::iG S (to l x)).drop k).length-1))=dg ((i::iG S (to l x)).drop (k+1)):=by
    have bV:((((i::iG S (to l x)).drop k).drop 1).take (((i::iG S (to l x)).drop k).length-1))=(i::iG S (to l x)).drop (k+1):=by rw[List.drop_drop,xbw];simp;omega
    show D.aV 1 (((((i::iG S (to l x)).drop k).map λ(i:Nat)=>[I (i:Int)]).drop 1).take _)=dg _;rw[<-bV];unfold dg;simp only[List.map_take,List.map_drop]
   simp only[MH,go_sem,JC,wG,dR,afs aw9,Ep,fH ay,bw.iQ,cf,Jc,pO,sB,fP,axa,Vt,axb,ih]
def axc(n:Nat)(m:ar){l:List bw}{B:Nat}(al:ir B l)(i:Nat)(af:i<l.length)(aN:4*B+200<n):Dk n [aY l,m.d,I (i:Int)]=some (I (if jF l i=true then 14 else 0)):=by
 have bJ:=al.len;have aj:=al.b;have ax:=afx n l al i af aN n 0 [] (q8.start _ _ _) (by omega);have Es:=Vs (λi k ah=>lM i k ah) n 0 [] (q8.start (to l) l.length i) (by omega);rw[<-Uv l i]at Es;generalize wi (to l) i n 0 []=S at*;have DO:mC 1 (I (l.length:Int)) (I (l.length:Int))=some l.length:=by simp[mC,I];omega
 have aL:D.aV 1 (List.replicate l.length [aI false])=kA l.length []:=by rw[afq];rfl
 have a7:D.aV 1 [[I (i:Int)]]=dg ((i::[]).drop 0):=rfl;have dR:cL l.length (I (i:Int))=some i:=by rw[jZ,xac af]
 simp only[Dk,abv,go_sem,ar.agg,eJ,DO,aL,a7,ax,JD,dR,JE af,Bs];by_cases h:jF l i=true;.rw[xac h,xac (xaq (Es.2 h))]
 rw[xae h,xae (by simpa usingλbS=>h (Es.1 bS))]
def afz(n:Nat)(m:ar)(x:ByteArray)(aN:m.aA.length<n)(al:m.aA.length<1000000000):zK n [m.d,a1 x]=some (I (gi (dw m.aA x))):=by
 have af:=dC (f:=GP n) m.aA (λi (_:Unit)=>[a1 x,I (i:Int),br m.vars,aY m.aA,az m.bU,az m.bW,aY m.next,az m.trans,az m.bO,b2 m.bP]) (λr _=>match dw r x with|some j=>(Sum.inr (I ((m.aA.length-r.length+j:Nat):Int)):List D⊕D)|none=> .inl []) (λ_ _=>True) (λ_ _=>by simp[GP,eJ,dw]) ?_ n 0 () trivial (by omega) (xaj _);.have b1:(I ((0:Nat):Int))=I 0:=rfl;rw[b1]at af;simp only[zK,aaI,go_sem,ar.agg,ar.bf,ar.c1,ar.c2,ar.b4,ar.cT,ar.dp,ar.dq,ar.dE,af,xam];cases dw m.aA x<;>simp[gi]
 intro i a _ aH af _;have e:m.aA.length-(a::m.aA.drop (i+1)).length=i:=by simp;omega
 have du:m.aA.length-(m.aA.drop (i+1)).length=i+1:=by simp;omega
 have oe:dw (a::m.aA.drop (i+1)) x=if a.name=x then some 0 else(dw (m.aA.drop (i+1)) x).map (·+1):=by simp[dw,xbW]
 have a0:a.cells[0]?=some (a1 a.name):=rfl;by_cases ad:a.name=x;.right;rw[oe,xac ad,e];simp[GP,eJ,af,fH aH,a0,ad]
 left;refine⟨(),by simp[GP,eJ,af,fH aH,a0,ad,cm (bt:=false) (i:=i) (by omega)],?_,trivial⟩;rw[oe,xae ad,e,du];cases dw (m.aA.drop (i+1)) x with|none=>rfl|some j=>simp;omega
def afA(n:Nat)(m:ar)(x:ByteArray)(aN:m.vars.length<n)(al:m.vars.length<1000000000):zJ n [m.d,a1 x]=some (I (gi (eo m.vars x))):=by
 have af:=dC (f:=GO n) m.vars (λi (_:Unit)=>[a1 x,I (i:Int),br m.vars,aY m.aA,az m.bU,az m.bW,aY m.next,az m.trans,az m.bO,b2 m.bP]) (λr _=>match eo r x with|some j=>(Sum.inr (I ((m.vars.length-r.length+j:Nat):Int)):List D⊕D)|none=> .inl []) (λ_ _=>True) (λ_ _=>by simp[GO,eY,eo]) ?_ n 0 () trivial (by omega) (xaj _);.have b1:(I ((0:Nat):Int))=I 0:=rfl;rw[b1]at af;simp only[zJ,aaH,go_sem,ar.agg,ar.bf,ar.c1,ar.c2,ar.b4,ar.cT,ar.dp,ar.dq,ar.dE,af,xam];cases eo m.vars x<;>simp[gi]
 intro i a _ aH af _;have e:m.vars.length-(a::m.vars.drop (i+1)).length=i:=by simp;omega
 have du:m.vars.length-(m.vars.drop (i+1)).length=i+1:=by simp;omega
 have oe:eo (a::m.vars.drop (i+1)) x=if a.name=x then some 0 else(eo (m.vars.drop (i+1)) x).map (·+1):=by simp[eo,xbW]
 have a0:a.cells[0]?=some (a1 a.name):=rfl;by_cases ad:a.name=x;.right;rw[oe,xac ad,e];simp[GO,eY,af,hj aH,a0,ad]
 left;refine⟨(),by simp[GO,eY,af,hj aH,a0,ad,cm (bt:=false) (i:=i) (by omega)],?_,trivial⟩;rw[oe,xae ad,e,du];cases eo (m.vars.drop (i+1)) x with|none=>rfl|some j=>simp;omega
def axd(n:Nat)(m:ar){B:Nat}(al:ir B m.aA)(i:Nat)(k:Int)(fY:List ByteArray)(S:List Nat)(cK:jb m.aA.length S)(e3:fY.length<=B)(aN:2*B+100<n):bL (zN n) n [I k,kv true fY,I 0,br m.vars,aY m.aA,az m.bU,az m.bW,aY m.next,az m.trans,az m.bO,b2 m.bP,kA m.aA.length S,dg (i::S)]=some (.inl [I k,br m.vars,aY m.aA,az m.bU,az m.bW,aY m.next,az m.trans,az m.bO,b2 m.bP,kA m.aA.length (iG S (fY.filterMap (dw m.aA))),dg (i::iG S (fY.filterMap (dw m.aA)))]):=by
 have bJ:=al.len;have aj:=al.b;have af:=dC (f:=zN n) fY (λj (s:List Nat)=>[I k,kv true fY,I (j:Int),br m.vars,aY m.aA,az m.bU,az m.bW,aY m.next,az m.trans,az m.bO,b2 m.bP,kA m.aA.length s,dg (i::s)]) (λr s=>(.inl [I k,br m.vars,aY m.aA,az m.bU,az m.bW,aY m.next,az m.trans,az m.bO,b2 m.bP,kA m.aA.length (iG s (r.filterMap (dw m.aA))),dg (i::iG s (r.filterMap (dw m.aA)))]:List D⊕(List D⊕(List D⊕(List D⊕D))))) (λj s=>jb m.aA.length s) (λs _=>by simp only[zN,go_sem,oG,yF ((fY.length:Int)<fY.length),pO,sB];rfl) ?_ n 0 S cK (by omega) (xaj _)
 .exact af
 rintro j x s ad aB J;have fK:=afz n m x (by omega) (by omega);have mc:=J.len;have eF:=Be (nl:=true) ad;have ct:=yT ((j:Int)<(fY.length:Int));left;cases ay:dw m.aA x with
 |none=>rw[ay]at fK;refine⟨s,?_,by simp[ay],J⟩;have gJ:decide (gi none>=0)=false:=rfl;simp only[zN,go_sem,oG,ct,eF,Er,ar.eta,fK,gJ,afu,afv,pO,sB,cm (bt:=false) (i:=j) (by omega)]
 |some y=>
  have aE:=afw ay;rw[ay]at fK;have gJ:decide ((y:Int)>=0)=true:=xaq (by omega);have dR:cL m.aA.length (I (y:Int))=some y:=by rw[jZ,xac aE]
  have JF:gi (some y)=(y:Int):=rfl;by_cases ow:y∈s;.refine⟨s,?_,by simp[ay,JB,ow],J⟩;simp only[zN,go_sem,oG,ct,eF,Er,ar.eta,fK,JF,gJ,JD,dR,JE aE,Bs,xaq ow,Of,Og,pO,sB,cm (bt:=false) (i:=j) (by omega)]
  have ax:=J.snoc aE ow;refine⟨s++[y],?_,by simp only[xbU,ay,JB,xae ow],ax⟩;have aL:i::(s++[y])=(i::s)++[y]:=rfl;have eI:cZ ((i::s).length+1) 8=true:=fV (by simp;omega) (by simp;omega);rw[aL];simp only[zN,go_sem,oG,ct,eF,Er,ar.eta,fK,JF,gJ,JD,dR,JE aE,Bs,xaD ow,Of,Og,JC,xan,xaA,xay,aft aE,afr,pO,sB,cm (bt:=false) (i:=j) (by omega)]at eI⊢;simp only[eI,qK,dT,qL,qb,rP,jO,aw,aF,bg,cm (bt:=false) (i:=j) (by omega),pO,sB]
def afB(n:Nat)(kB:ar){B:Nat}(al:ir B kB.aA)(i:Nat)(bY:i<kB.aA.length)(aN:4*B+200<n):∀(m k:Nat)(S:List Nat),q8 (to kB.aA) kB.aA.length i k S->kB.aA.length+1-k<m->bL (Me n) m [I (k:Int),br kB.vars,aY kB.aA,az kB.bU,az kB.bW,aY kB.next,az kB.trans,az kB.bO,b2 kB.bP,kA kB.aA.length S,dg (i::S)]=some (.inl [kA kB.aA.length (wi (to kB.aA) i m k S)])
 |0,_,_,_,h=>absurd h (xaJ _)
 |m+1,k,S,h,hm=>by
  have bJ:=al.len;have aj:=al.b;rw[la,wi];have aw7:=h.inv.len;have hle:=h.le;cases ad:(i::S)[k]? with
  |none=>
   have ah:S.length+1<=k:=by have:=xch.1 ad;simpa using this
   have a7:decide ((k:Int)<(((i::S).length:Nat):Int))=false:=xaD (by simp;omega);simp only[Me,go_sem,JC,a7,pO]
  |some x=>
   have ah:k<S.length+1:=by have:=(xaa.1 ad).1;simpa using this
   have pW:x<kB.aA.length:=by cases k with|zero=>simp at ad;omega|succ k=>exact h.inv.2 x (xad (by simpa using ad))
   obtain⟨d,ay⟩:∃d,kB.aA[x]?=some d:=⟨kB.aA[x],xab pW⟩;have h4:=al.e d (xad ay);have nI:=h.next (λi k ah=>lM i k ah) ad
   have ih:=afB n kB al i bY aN m (k+1) _ nI (by omega);have cf:=Uq n d.e (by omega) h4.1 (by omega);have aw8:=DT d.e;have fP:=axd n kB al i k (gh 3 d.e []) S h.inv (by omega) (by omega);have jj:(gh 3 d.e []).filterMap (dw kB.aA)=to kB.aA x:=by rw[DU ay];rfl
   rw[jj]at fP;have wG:decide ((k:Int)<(((i::S).length:Nat):Int))=true:=xaq (by simp;omega);have dR:cL (i::S).length (I (k:Int))=some k:=by rw[jZ,xac (by simpa using ah)]
   have ou:((k:Int)+1)=((k+1:Nat):Int):=by omega
   simp only[Me,go_sem,JC,wG,dR,afs ad,Ep,fH ay,bw.iQ,cf,pO,sB,fP,cm (bt:=false) (i:=k) (by omega),ih]
def axe(n:Nat)(m:ar){B:Nat}(al:ir B m.aA)(i:Nat)(af:i<m.aA.length)(aN:4*B+200<n):∃S,GU n [m.d,I (i:Int)]=some (kA m.aA.length S)/\(i∈S↔jF m.aA i=true):=by
 have bJ:=al.len;have aj:=al.b;have ax:=afB n m al i af aN n 0 [] (q8.start _ _ _) (by omega);have Es:=Vs (λi k ah=>lM i k ah) n 0 [] (q8.start (to m.aA) m.aA.length i) (by omega);rw[<-Uv m.aA i]at Es;generalize wi (to m.aA) i n 0 []=S at*;refine⟨S,?_,Es⟩;have DO:mC 1 (I (m.aA.length:Int)) (I (m.aA.length:Int))=some m.aA.length:=by simp[mC,I];omega
 have aL:D.aV 1 (List.replicate m.aA.length [aI false])=kA m.aA.length []:=by rw[afq];rfl
 have a7:D.aV 1 [[I (i:Int)]]=dg (i::[]):=rfl;have b1:(I ((0:Nat):Int))=I 0:=rfl;rw[b1]at ax;simp only[GU,aaM,go_sem,ar.agg,ar.bf,ar.c1,ar.c2,ar.b4,ar.cT,ar.dp,ar.dq,ar.dE,eJ,DO,aL,a7,ax,pO]
def cy(e:Nat->Int):Nat->Nat->Int×Int
 |0,_=>(0,0)|m+1,i=>if e i=0 then cy e m (i+1)else((i:Int),e i)
def JG(e:Nat->Int):∀(m i:Nat),(cy e m i).2=0↔∀j,i<=j->j<i+m->e j=0
 |0,i=>by simp[cy];intro j J aa;omega
 |m+1,i=>by
  rw[cy];by_cases h:e i=0
  .rw[xac h,JG e m (i+1)];constructor
   .intro J j aa ax;by_cases aB:j=i;.subst aB;exact h
    exact J j (by omega) (by omega)
   intro J j aa ax;exact J j (by omega) (by omega)
  rw[xae h];exact⟨λJ=>absurd J h,λJ=>absurd (J i (xaT _) (by omega)) h⟩
def sC(e:Nat->Int)(m i:Nat)(h:(cy e m i).2=0):cy e m i=(0,0):=by
 induction m generalizing i with
 |zero=>rfl
 |succ m ih=>
  rw[cy]at h⊢;by_cases au:e i=0;.rw[xac au]at h⊢;exact ih (i+1) h
  rw[xae au]at h;exact absurd h au
def nA{eO:Type}{f:List D->Option (List D⊕(List D⊕eO))}(fa:Nat->List D)(e:Nat->Int)(N:Nat)(L:List D)(W:Int×Int->eO) (aC:∀i,i<N->f (fa i)=some (if e i=0 then .inl (fa (i+1))else .inr (.inr (W ((i:Int),e i))))) (he:f (fa N)=some (.inr (.inl L))): ∀(m i n:Nat),i+m=N->m<n->bL f n (fa i)=some (if(cy e m i).2=0 then .inl L else .inr (W (cy e m i)))
 |0,i,n,h,aN=>by
  obtain⟨k,rfl⟩:∃k,n=k+1:=⟨n-1,by omega⟩;have:i=N:=by omega
  subst this;rw[la,he];rfl
 |m+1,i,n,h,aN=>by
  obtain⟨k,rfl⟩:∃k,n=k+1:=⟨n-1,by omega⟩;rw[la,aC i (by omega),cy];by_cases au:e i=0;.rw[xac au,xac au];exact nA fa e N L W aC he m (i+1) k (by omega) (by omega)
  rw[xae au,xae au];simp only[dT,xae au]
structure Oh(m:ar)(n:Nat):Prop where
 bA:Eo m
 jG:13302000000<n
 kC:lQ m.vars
 afC:∀v∈m.vars,v.name.size+24<n
 afD:∀d∈m.aA,d.name.size+24<n/\d.name.size<=9223372036854775807
 bU:m.bU.length<=100/\∀t∈m.bU,t.Ok/\t.bA<=660000
 bW:m.bW.length<=100/\∀t∈m.bW,t.Ok/\t.bA<=660000
 next:m.next.length<=100/\∀d∈m.next,d.e.Ok/\d.e.bA<=660000
 trans:m.trans.length<=100/\∀t∈m.trans,t.Ok/\t.bA<=660000
 bO:m.bO.length<=100/\∀t∈m.bO,t.Ok/\t.bA<=660000
 bP:m.bP.length<=100/\∀s∈m.bP,(s.f.Ok/\s.f.bA<=660000)/\s.name.size+24<n/\s.name.size<=9223372036854775807
noncomputable section
mutual
def mf(m:ar):Fm->Int
 | .mk o t b ks=>if o=1 then pN m false t else nB m ks
def nB(m:ar):List Fm->Int
 |[]=>0|k::r=>if mf m k=0 then nB m r else mf m k
end
theorem Vu(m:ar)(f:Fm):mf m f=if f.op=1 then pN m false f.e else nB m f.bc:=by cases f;rw[mf];rfl
def mg(m:ar)(i:Nat):Int:=match m.aA[i]? with
 |some d=>if isName d.name=true then(if((eo m.vars d.name).isSome||(dw (m.aA.take i) d.name).isSome)=true then 6 else 0)else 12
 |none=>0
def mR(m:ar)(i:Nat):Int:=if jF m.aA i=true then 14 else 0
def mh(m:ar)(i:Nat):Int:=match m.aA[i]? with|some d=>(hr m false d.e).2|none=>0
def fb(m:ar)(l:List Tm)(nx:Bool)(i:Nat):Int:=match l[i]? with|some t=>pN m nx t|none=>0
def jQ(m:ar)(i:Nat):Int:=match m.next[i]? with
 |some d=>match eo m.vars d.name with|none=>12|some k=>if(dw (m.next.take i) d.name).isSome=true then 6 else if((hr m false d.e).2==0&&((hr m false d.e).1.b !=(m.vars[k]?.map V.bool).getD false))=true then 13 else(hr m false d.e).2
 |none=>0
def jR(m:ar)(i:Nat):Int:=match m.bP[i]? with
 |some s=>if isName s.name=true then(if(oO (m.bP.take i) s.name).isSome=true then 6 else if lN s.f=0 then mf m s.f else lN s.f)else 12
 |none=>0
end
def afE{l:List bw}{i:Nat}(h:i<=l.length):nP 5 (aY l) none (some (I (i:Int)))=some (aY (l.take i)):=by rw[aY,Vg (by simpa using h)];simp[aY,List.map_take]
def axf{l:List cQ}{i:Nat}(h:i<=l.length):nP 7 (b2 l) none (some (I (i:Int)))=some (b2 (l.take i)):=by rw[b2,Vg (by simpa using h)];simp[b2,List.map_take]
def afF{m:ar}(hm:Eo m):∀(n:Nat)(f:Fm),13301000000+f.bA<n->f.Ok->f.bA<=660000->tX n [m.d,f.d]=some (I (mf m f))
 |0,_,h,_,_=>absurd h (xaJ _)
 |n+1,f,aN,bD,aC=>by
  have UO:=f.Gu;have jY:=f.l5;rw[Vu];have bl:=afo hm n (by omega) bD.e (by omega) false;have bJ:fA (cB 6 f.nl (Fm.rows f.bc))=some (I f.bc.length):=by simp
  have al:=dC (f:=H2 (tX n) n) f.bc (λi (_:Unit)=>[cB 6 f.nl (Fm.rows f.bc),I f.bc.length,I (i:Int),br m.vars,aY m.aA,az m.bU,az m.bW,aY m.next,az m.trans,az m.bO,b2 m.bP]) (λr _=>if nB m r=0 then(.inl []:List D⊕D)else .inr (I (nB m r))) (λ_ _=>True) ?_ ?_ n 0 () trivial (by have:=f.l5;omega) (xaj _)
  .have b1:(I ((0:Nat):Int))=I 0:=rfl;rw[b1,xam]at al;show H3 (tX n) n m.d f.d=_;by_cases J:f.op=1
   .have dS:(f.op==1)=true:=by simp[J]
    simp only[H3,go_sem,ar.agg,dS,xac J,ar.bf,ar.c1,ar.c2,ar.b4,ar.cT,ar.dp,ar.dq,ar.dE,ar.eta,bl]
   have dS:(f.op==1)=false:=by simpa using J
   simp only[H3,go_sem,ar.agg,dS,xae J,ar.bf,ar.c1,ar.c2,ar.b4,ar.cT,ar.dp,ar.dq,ar.dE,ar.eta,bJ,al];by_cases au:nB m f.bc=0;.rw[xac au,au,qL]
   rw[xae au,Gc]
  .intro _ _;simp only[H2,go_sem,yF ((f.bc.length:Int)<f.bc.length),nB]
  intro i a _ aH af _;have gA:=xad aH;have bG:=Fm.j2 gA;have av:=afF hm n a (by omega) (bD.fD gA) (by omega);have ct:=yT ((i:Int)<(f.bc.length:Int));by_cases au:mf m a=0
  .left;rw[au]at av;refine⟨(),?_,by simp only[nB,au,xaF],trivial⟩;have bG:((0:Int) !=0)=false:=rfl;simp only[H2,go_sem,ct,Fm.h0 aH,ar.eta,av,bG,cm (bt:=false) (i:=i) (by omega)]
  right;have bG:(mf m a !=0)=true:=by simpa using au
  simp only[H2,go_sem,ct,Fm.h0 aH,ar.eta,av,bG,nB,xae au]
def afG{m:ar}(hm:Eo m):∀(n:Nat)(f:Fm),13301000000+f.bA<n->f.Ok->f.bA<=660000->tR n [m.d,f.d]=some (I (mf m f))
 |0,_,h,_,_=>absurd h (xaJ _)
 |n+1,f,aN,bD,aC=>by
  have UO:=f.Gu;have jY:=f.l5;rw[Vu];have bl:=afp hm n (by omega) bD.e (by omega) false;have bJ:fA (cB 6 f.nl (Fm.rows f.bc))=some (I f.bc.length):=by simp
  have al:=dC (f:=Hj (tR n) n) f.bc (λi (_:Unit)=>[I (i:Int),br m.vars,aY m.aA,az m.bU,az m.bW,aY m.next,az m.trans,az m.bO,b2 m.bP,I f.op,I f.e.op,I f.e.num,a1 f.e.name,cB 4 f.e.nl (Tm.rows f.e.bc),cB 6 f.nl (Fm.rows f.bc)]) (λr _=>if nB m r=0 then(.inl []:List D⊕D)else .inr (I (nB m r))) (λ_ _=>True) ?_ ?_ n 0 () trivial (by have:=f.l5;omega) (xaj _)
  .have b1:(I ((0:Nat):Int))=I 0:=rfl;rw[b1,xam]at al;show Hk (tR n) n m.d f.d=_;by_cases J:f.op=1
   .have dS:(f.op==1)=true:=by simp[J]
    simp only[Hk,go_sem,ar.agg,dS,xac J,ar.bf,ar.c1,ar.c2,ar.b4,ar.cT,ar.dp,ar.dq,ar.dE,ar.eta,bl]
   have dS:(f.op==1)=false:=by simpa using J
   simp only[Hk,go_sem,ar.agg,dS,xae J,ar.bf,ar.c1,ar.c2,ar.b4,ar.cT,ar.dp,ar.dq,ar.dE,ar.eta,bJ,al];by_cases au:nB m f.bc=0;.rw[xac au,au,qL]
   rw[xae au,Gc]
  .intro _ _;simp only[Hj,go_sem,bJ,yF ((f.bc.length:Int)<f.bc.length),nB]
  intro i a _ aH af _;have gA:=xad aH;have bG:=Fm.j2 gA;have av:=afG hm n a (by omega) (bD.fD gA) (by omega);have ct:=yT ((i:Int)<(f.bc.length:Int));by_cases au:mf m a=0
  .left;rw[au]at av;refine⟨(),?_,by simp only[nB,au,xaF],trivial⟩;have bG:((0:Int) !=0)=false:=rfl;simp only[Hj,go_sem,bJ,ct,Fm.h0 aH,ar.eta,av,bG,cm (bt:=false) (i:=i) (by omega)]
  right;have bG:(mf m a !=0)=true:=by simpa using au
  simp only[Hj,go_sem,bJ,ct,Fm.h0 aH,ar.eta,av,bG,nB,xae au]
section
variable{m:ar}{n:Nat}(hm:Oh m n)
include hm
theorem axg(i:Nat)(af:i<m.aA.length):vJ n [aY m.aA,m.d,I (i:Int)]=some (I (mg m i)):=by have aj:=hm.jG;have wF:=hm.bA.dl;have kz:=hm.bA.gG;obtain⟨d,ay⟩:∃d,m.aA[i]?=some d:=⟨m.aA[i],xab af⟩;have Vv:=hm.afD d (xad ay);have cf:=Ve n d.name (by omega) Vv.2;have gW:=awL n m.vars d.name (by omega) (by omega);have cH:=awO n (m.aA.take i) d.name (by simp;omega) (by simp;omega);have aC:=afE (l:=m.aA) (i:=i) (by omega);simp only[mg,ay];cases J:isName d.name with|false=>simp only[vJ,Im,go_sem,ar.agg,fH ay,bw.gX,cf,J]|true=>cases aa:(eo m.vars d.name).isSome with|true=>simp only[vJ,Im,go_sem,ar.agg,ar.bf,fH ay,bw.gX,cf,J,gW,aa]|false=>cases ax:(dw (m.aA.take i) d.name).isSome with|true=>simp only[vJ,Im,go_sem,ar.agg,ar.bf,fH ay,bw.gX,cf,J,gW,aa,aC,cH,ax,Bool.or_false,xbE]|false=>simp only[vJ,Im,go_sem,ar.agg,ar.bf,fH ay,bw.gX,cf,J,gW,aa,aC,cH,ax,Bool.or_false,xbE]
theorem axh(i:Nat)(af:i<m.aA.length):Dj n [aY m.aA,m.d,I (i:Int)]=some (I (mh m i)):=by have aj:=hm.jG;obtain⟨d,ay⟩:∃d,m.aA[i]?=some d:=⟨m.aA[i],xab af⟩;have h4:=hm.bA.d.e d (xad ay);have bl:=Vq hm.bA n (by omega) h4.1 h4.2 false;simp only[mh,ay];simp only[Dj,abt,go_sem,ar.agg,ar.bf,ar.c1,ar.c2,ar.b4,ar.cT,ar.dp,ar.dq,ar.dE,ar.eta,fH ay,bw.iQ,bl,ql]
theorem axi(l:List Tm)(al:∀t∈l,t.Ok/\t.bA<=660000)(k:Int)(nx:Bool)(i:Nat)(af:i<l.length):Di n [.agg [I k,az l,aI nx],m.d,I (i:Int)]=some (I (fb m l nx i)):=by have aj:=hm.jG;obtain⟨t,aP⟩:∃t,l[i]?=some t:=⟨l[i],xab af⟩;have JH:=al t (xad aP);have bl:=afo hm.bA n (by omega) JH.1 JH.2 nx;have aH:dV 3 (.agg [I k,az l,aI nx])=true:=rfl;have c1:ae (.agg [I k,az l,aI nx]) 1=az l:=rfl;have c2:ae (.agg [I k,az l,aI nx]) 2=aI nx:=rfl;simp only[fb,aP];simp only[Di,abr,go_sem,aH,c1,c2,ar.agg,ar.bf,ar.c1,ar.c2,ar.b4,ar.cT,ar.dp,ar.dq,ar.dE,ar.eta,ya aP,bl]
theorem axj(i:Nat)(af:i<m.next.length):xN n [aY m.next,m.d,I (i:Int)]=some (I (jQ m i)):=by
 have aj:=hm.jG;have nX:=hm.next.1
 have kz:=hm.bA.gG;obtain⟨d,ay⟩:∃d,m.next[i]?=some d:=⟨m.next[i],xab af⟩
 have h4:=hm.next.2 d (xad ay)
 have bl:=Vq hm.bA n (by omega) h4.1 h4.2 false;have gW:=awQ n m.vars d.name (by omega) (by omega);have cH:=awT n (m.next.take i) d.name (by simp;omega) (by simp;omega);have aC:=afE (l:=m.next) (i:=i) (by omega);simp only[jQ,ay];cases J:eo m.vars d.name with
 |none=>have au:decide (gi none<0)=true:=rfl;simp only[xN,MF,go_sem,ar.agg,ar.bf,fH ay,bw.gX,gW,J,au]
 |some k=>
  have au:decide (gi (some k)<0)=false:=by rw[afa];rfl
  have jY:k<m.vars.length:=by have:=xbs.1 J;exact this.1
  obtain⟨v,aS⟩:∃v,m.vars[k]?=some v:=⟨m.vars[k],xab jY⟩;have lu:bX 4 (br m.vars) (I (gi (some k)))=some v.cells:=hj aS;have zy:bN false 1 1 v.cells=some (aI v.bool):=rfl;simp only[aS,xaI,xbp];cases ax:(dw (m.next.take i) d.name).isSome with
  |true=>simp only[xN,MF,go_sem,ar.agg,ar.bf,fH ay,bw.gX,gW,J,au,aC,cH,ax]
  |false=>
   generalize hr m false d.e=y at*;have cp:bB true .neq (aI y.1.b) (aI v.bool)=some (aI (y.1.b !=v.bool)):=rfl;simp only[xN,MF,go_sem,ar.agg,ar.bf,ar.c1,ar.c2,ar.b4,ar.cT,ar.dp,ar.dq,ar.dE,ar.eta,fH ay,bw.gX,bw.iQ,gW,J,au,aC,cH,ax,bl,ql,ur,lu,zy,cp];by_cases ai:(y.2==0&&(y.1.b !=v.bool))=true
   .rw[xac ai,xac ai]
   rw[xae ai,xae ai]
theorem axk(i:Nat)(af:i<m.bP.length):vI n [b2 m.bP,m.d,I (i:Int)]=some (I (jR m i)):=by
 have aj:=hm.jG;have mc:=hm.bP.1;obtain⟨s,aC⟩:∃s,m.bP[i]?=some s:=⟨m.bP[i],xab af⟩;obtain⟨⟨bk,CG⟩,afH,Vw⟩:=hm.bP.2 s (xad aC);have cf:=Ve n s.name (by omega) Vw;have cH:=awY n (m.bP.take i) s.name (by simp;omega) (by simp;omega);have nu:=axf (l:=m.bP) (i:=i) (by omega);have cn:=UR n s.f (by omega) bk (by omega);have fQ:=afF hm.bA n s.f (by omega) bk CG;simp only[jR,aC];cases J:isName s.name with
 |false=>simp only[vI,H4,go_sem,ar.agg,ny aC,cQ.gX,cf,J]
 |true=>
  cases ax:(oO (m.bP.take i) s.name).isSome with
  |true=>simp only[vI,H4,go_sem,ar.agg,ny aC,cQ.gX,cf,J,nu,cH,ax]
  |false=>
   by_cases bh:lN s.f=0
   .have nm:(lN s.f !=0)=false:=by simp[bh]
    simp only[vI,H4,go_sem,ar.agg,ar.bf,ar.c1,ar.c2,ar.b4,ar.cT,ar.dp,ar.dq,ar.dE,ar.eta,ny aC,cQ.gX,cQ.iQ,cf,J,nu,cH,ax,cn,nm,xac bh,fQ]
   have nm:(lN s.f !=0)=true:=by simpa using bh
   simp only[vI,H4,go_sem,ar.agg,ar.bf,ar.c1,ar.c2,ar.b4,ar.cT,ar.dp,ar.dq,ar.dE,ar.eta,ny aC,cQ.gX,cQ.iQ,cf,J,nu,cH,ax,cn,nm,xae bh]
end
def fW(p:Int×Int):D:= .a6 [I p.1,I p.2]
def wj(a b:Int×Int):Int×Int:=if a.2=0 then b else a
def findIdx_take{α:Type}{l:List α}{p:α->Bool}{i:Nat}{d:α}(ay:l[i]?=some d)(aU:p d=true):decide (gi (l.findIdx? p)<(i:Int))=((l.take i).findIdx? p).isSome:=by
 obtain⟨af,axl⟩:=xaa.1 ay;cases h:l.findIdx? p with
 |none=>have:=List.findIdx?_eq_none_iff.1 h d (xad ay);rw[aU]at this;cases this
 |some k=>
  obtain⟨ah,axm,BV⟩:=xbs.1 h;rw[List.findIdx?_isSome];have rC:k<=i:=by
   rcases xbe i k with J|J;.have:=BV i J;rw[axl]at this;exact absurd aU this
   exact J
  by_cases he:k<i;.have J:decide (gi (some k)<(i:Int))=true:=xaq (by show(k:Int)<(i:Int);omega);rw[J];symm;rw[xbC];refine⟨l[k],xaG.2 ⟨k,?_⟩,axm⟩;rw[List.getElem?_take_of_lt he];exact xab ah
  have J:decide (gi (some k)<(i:Int))=false:=xaD (by show¬(k:Int)<(i:Int);omega);rw[J];symm;rw[Bool.eq_false_iff,ne_eq,xbC];rintro⟨a,aH,axn⟩;obtain⟨j,aB⟩:=xaG.1 aH;have ct:=(xaa.1 aB).1;simp only[xbz]at ct;rw[List.getElem?_take_of_lt (by omega)]at aB;obtain⟨Vx,wk⟩:=xaa.1 aB;have:=BV j (by omega);rw[wk]at this;exact this axn
noncomputable def sD(m:ar):Int×Int:=wj (cy (mg m) m.aA.length 0) (wj (cy (mR m) m.aA.length 0) (cy (mh m) m.aA.length 0))
section
variable{m:ar}{n:Nat}(hm:Oh m n)
include hm
theorem axo:bL (zW n) n [I 0,br m.vars,aY m.aA,az m.bU,az m.bW,aY m.next,az m.trans,az m.bO,b2 m.bP]=some (if(cy (mg m) m.aA.length 0).2=0 then .inl [br m.vars,aY m.aA,az m.bU,az m.bW,aY m.next,az m.trans,az m.bO,b2 m.bP]else .inr (fW (cy (mg m) m.aA.length 0))):=by
 have aj:=hm.jG;have wF:=hm.bA.dl;have kz:=hm.bA.gG;refine nA (λi=>[I (i:Int),br m.vars,aY m.aA,az m.bU,az m.bW,aY m.next,az m.trans,az m.bO,b2 m.bP]) (mg m) m.aA.length _ fW ?_ ?_ _ 0 n (by omega) (by omega)
 .intro i af;obtain⟨d,ay⟩:∃d,m.aA[i]?=some d:=⟨m.aA[i],xab af⟩;have Vv:=hm.afD d (xad ay);have cf:=Vf n d.name (by omega) Vv.2;have gW:=afA n m d.name (by omega) (by omega);have cH:=afz n m d.name (by omega) (by omega);have bY:=yT ((i:Int)<(m.aA.length:Int));have Bd:=findIdx_take (p:=λe:bw=>decide (e.name=d.name)) ay (by simp);change decide (gi (dw m.aA d.name)<(i:Int))=(dw (m.aA.take i) d.name).isSome at Bd;simp only[mg,ay];cases J:isName d.name with
  |false=>simp only[zW,go_sem,eJ,bY,fH ay,bw.gX,cf,J,xae (show¬(12:Int)=0 by decide),fW]
  |true=>
   cases aa:(eo m.vars d.name).isSome with
   |true=>have gJ:=El (eo m.vars d.name);rw[aa]at gJ;simp only[zW,go_sem,eJ,bY,fH ay,bw.gX,cf,J,ar.eta,gW,gJ,vk,xae (show¬(true=false) by decide),vl,xae (show¬(6:Int)=0 by decide),fW]
   |false=>
    have gJ:=El (eo m.vars d.name);rw[aa]at gJ;cases ax:(dw (m.aA.take i) d.name).isSome with
    |true=>rw[ax]at Bd;simp only[zW,go_sem,eJ,bY,fH ay,bw.gX,cf,J,ar.eta,gW,gJ,vk,cH,Bd,vl,xae (show¬(6:Int)=0 by decide),fW,Bool.or_true]
    |false=>rw[ax]at Bd;simp only[zW,go_sem,eJ,bY,fH ay,bw.gX,cf,J,ar.eta,gW,gJ,vk,cH,Bd,vl,Bool.or_false,cm (bt:=false) (i:=i) (by omega)]
 simp only[zW,go_sem,eJ,yF ((m.aA.length:Int)<m.aA.length)]
theorem axp:bL (He n) n [I 0,br m.vars,aY m.aA,az m.bU,az m.bW,aY m.next,az m.trans,az m.bO,b2 m.bP]=some (if(cy (mR m) m.aA.length 0).2=0 then .inl [br m.vars,aY m.aA,az m.bU,az m.bW,aY m.next,az m.trans,az m.bO,b2 m.bP]else .inr (fW (cy (mR m) m.aA.length 0))):=by
 have aj:=hm.jG;have wF:=hm.bA.dl;refine nA (λi=>[I (i:Int),br m.vars,aY m.aA,az m.bU,az m.bW,aY m.next,az m.trans,az m.bO,b2 m.bP]) (mR m) m.aA.length _ fW ?_ ?_ _ 0 n (by omega) (by omega)
 .intro i af;obtain⟨S,cK,afI⟩:=axe n m hm.bA.d i af (by omega);have bY:=yT ((i:Int)<(m.aA.length:Int));have ad:bX 1 (kA m.aA.length S) (I (i:Int))=some [aI (decide (i∈S))]:=by
   rw[kA,ZT,JA af]
  cases J:jF m.aA i with
  |true=>have aa:=xaq (afI.2 J);simp only[He,go_sem,eJ,bY,ar.eta,cK,ad,Bs,aa,mR,J,xae (show¬(14:Int)=0 by decide),fW]
  |false=>have aa:=xaD (show¬i∈S fromλh=>by rw[afI.1 h]at J;cases J);simp only[He,go_sem,eJ,bY,ar.eta,cK,ad,Bs,aa,mR,J,cm (bt:=false) (i:=i) (by omega)]
 simp only[He,go_sem,eJ,yF ((m.aA.length:Int)<m.aA.length)]
theorem axq:bL (Hf n) n [I 0,br m.vars,aY m.aA,az m.bU,az m.bW,aY m.next,az m.trans,az m.bO,b2 m.bP]=some (if(cy (mh m) m.aA.length 0).2=0 then .inl []else .inr (fW (cy (mh m) m.aA.length 0))):=by
 have aj:=hm.jG;have wF:=hm.bA.dl;refine nA (λi=>[I (i:Int),br m.vars,aY m.aA,az m.bU,az m.bW,aY m.next,az m.trans,az m.bO,b2 m.bP]) (mh m) m.aA.length _ fW ?_ ?_ _ 0 n (by omega) (by omega)
 .intro i af;obtain⟨d,ay⟩:∃d,m.aA[i]?=some d:=⟨m.aA[i],xab af⟩;have h4:=hm.bA.d.e d (xad ay);have bl:=Vr hm.bA n (by omega) h4.1 h4.2 false;have bY:=yT ((i:Int)<(m.aA.length:Int));simp only[mh,ay];by_cases J:(hr m false d.e).2=0
  .have dS:((hr m false d.e).2 !=0)=false:=by simp[J]
   simp only[Hf,go_sem,eJ,bY,ar.eta,fH ay,bw.iQ,bl,ql,dS,xac J,cm (bt:=false) (i:=i) (by omega)]
  have dS:((hr m false d.e).2 !=0)=true:=by simpa using J
  simp only[Hf,go_sem,eJ,bY,ar.eta,fH ay,bw.iQ,bl,ql,dS,xae J,fW]
 simp only[Hf,go_sem,eJ,yF ((m.aA.length:Int)<m.aA.length)]
theorem axr:xE n [m.d]=some (fW (sD m)):=by
 have aa:=axo hm;have k8:=axp hm;have mN:=axq hm;have bG:∀e k,(cy e k 0).2=0->cy e k 0=(0,0):=λe k=>sC e k 0;unfold sD wj;by_cases c1:(cy (mg m) m.aA.length 0).2=0
 case neg=>rw[xae c1]at aa⊢;simp only[xE,Hg,go_sem,ar.agg,ar.bf,ar.c1,ar.c2,ar.b4,ar.cT,ar.dp,ar.dq,ar.dE,aa]
 rw[xac c1]at aa⊢;by_cases c2:(cy (mR m) m.aA.length 0).2=0
 case neg=>rw[xae c2]at k8⊢;simp only[xE,Hg,go_sem,ar.agg,ar.bf,ar.c1,ar.c2,ar.b4,ar.cT,ar.dp,ar.dq,ar.dE,aa,k8]
 rw[xac c2]at k8⊢;by_cases b4:(cy (mh m) m.aA.length 0).2=0;.rw[xac b4]at mN;rw[bG _ _ b4];simp only[xE,Hg,go_sem,ar.agg,ar.bf,ar.c1,ar.c2,ar.b4,ar.cT,ar.dp,ar.dq,ar.dE,aa,k8,mN,fW]
 rw[xae b4]at mN;simp only[xE,Hg,go_sem,ar.agg,ar.bf,ar.c1,ar.c2,ar.b4,ar.cT,ar.dp,ar.dq,ar.dE,aa,k8,mN]
theorem Oi(l:List Tm)(al:l.length<=100/\∀t∈l,t.Ok/\t.bA<=660000)(nx:Bool):vx n [m.d,az l,aI nx]=some (fW (cy (fb m l nx) l.length 0)):=by
 have aj:=hm.jG;have af:=nA (f:=Hh n) (λi=>[az l,aI nx,I (i:Int),br m.vars,aY m.aA,az m.bU,az m.bW,aY m.next,az m.trans,az m.bO,b2 m.bP]) (fb m l nx) l.length [] fW ?_ ?_ l.length 0 n (by omega) (by omega)
 .have b1:(I ((0:Nat):Int))=I 0:=rfl;rw[b1]at af;by_cases c:(cy (fb m l nx) l.length 0).2=0;.rw[xac c]at af;rw[sC _ _ _ c];simp only[vx,SP,go_sem,ar.agg,ar.bf,ar.c1,ar.c2,ar.b4,ar.cT,ar.dp,ar.dq,ar.dE,af,fW]
  rw[xae c]at af;simp only[vx,SP,go_sem,ar.agg,ar.bf,ar.c1,ar.c2,ar.b4,ar.cT,ar.dp,ar.dq,ar.dE,af]
 .intro i af;obtain⟨t,aP⟩:∃t,l[i]?=some t:=⟨l[i],xab af⟩;have JH:=al.2 t (xad aP);have bl:=afp hm.bA n (by omega) JH.1 JH.2 nx;have bY:=yT ((i:Int)<(l.length:Int));simp only[fb,aP];by_cases J:pN m nx t=0
  .have dS:(pN m nx t !=0)=false:=by simp[J]
   simp only[Hh,go_sem,iu,bY,ar.eta,ya aP,bl,dS,xac J,cm (bt:=false) (i:=i) (by have:=al.1;omega)]
  have dS:(pN m nx t !=0)=true:=by simpa using J
  simp only[Hh,go_sem,iu,bY,ar.eta,ya aP,bl,dS,xae J,fW]
 simp only[Hh,go_sem,iu,yF ((l.length:Int)<l.length)]
theorem axs(i:Nat)(k:Int){d:bw}(ay:m.next[i]?=some d):bL (CZ n) n [I (i:Int),I k,I 0,br m.vars,aY m.aA,az m.bU,az m.bW,aY m.next,az m.trans,az m.bO,b2 m.bP]=some (if(dw (m.next.take i) d.name).isSome=true then .inr (.inr (.inr (.inr (.a6 [I (i:Int),I 6]))))else .inl [I (i:Int),I k,br m.vars,aY m.aA,az m.bU,az m.bW,aY m.next,az m.trans,az m.bO,b2 m.bP]):=by
 have aj:=hm.jG;have nX:=hm.next.1
 have bY:=(xaa.1 ay).1;have b5:(m.next.take i).length=i:=by simp;omega
 have af:=dC (f:=CZ n) (m.next.take i) (λj (_:Unit)=>[I (i:Int),I k,I (j:Int),br m.vars,aY m.aA,az m.bU,az m.bW,aY m.next,az m.trans,az m.bO,b2 m.bP]) (λr _=>(if(dw r d.name).isSome=true then .inr (.inr (.inr (.inr (.a6 [I (i:Int),I 6]))))else .inl [I (i:Int),I k,br m.vars,aY m.aA,az m.bU,az m.bW,aY m.next,az m.trans,az m.bO,b2 m.bP]:List D⊕(List D⊕(List D⊕(List D⊕D))))) (λ_ _=>True) (λ_ _=>by rw[b5];simp only[CZ,go_sem,yF ((i:Int)<i)];rfl) ?_ n 0 () trivial (by omega) (xaj _);.exact af
 intro j a _ aH aB _;rw[b5]at aB;rw[List.getElem?_take_of_lt aB]at aH;have ct:=yT ((j:Int)<(i:Int));have ai:dw (a::(m.next.take i).drop (j+1)) d.name=if decide (a.name=d.name)=true then some 0 else(dw ((m.next.take i).drop (j+1)) d.name).map (·+1):=findIdx_cons _ a _
 rw[ai];by_cases h:a.name=d.name;.right;rw[xac (xaq h)];simp only[CZ,go_sem,ct,fH aH,fH ay,bw.gX,xaq h,Option.isSome_some]
 left;refine⟨(),?_,?_,trivial⟩;.simp only[CZ,go_sem,ct,fH aH,fH ay,bw.gX,xaD h,cm (bt:=false) (i:=j) (by omega)]
 have bC:¬(decide (a.name=d.name)=true):=by simpa using h
 rw[xae bC,Option.isSome_map]
theorem axt(i:Nat){d:cQ}(ay:m.bP[i]?=some d):bL (C4 n) n [I (i:Int),I 0,br m.vars,aY m.aA,az m.bU,az m.bW,aY m.next,az m.trans,az m.bO,b2 m.bP]=some (if(oO (m.bP.take i) d.name).isSome=true then .inr (.inr (.inr (.inr (.a6 [I (i:Int),I 6]))))else .inl [I (i:Int),br m.vars,aY m.aA,az m.bU,az m.bW,aY m.next,az m.trans,az m.bO,b2 m.bP]):=by
 have aj:=hm.jG;have nX:=hm.bP.1;have bY:=(xaa.1 ay).1;have b5:(m.bP.take i).length=i:=by simp;omega
 have af:=dC (f:=C4 n) (m.bP.take i) (λj (_:Unit)=>[I (i:Int),I (j:Int),br m.vars,aY m.aA,az m.bU,az m.bW,aY m.next,az m.trans,az m.bO,b2 m.bP]) (λr _=>(if(oO r d.name).isSome=true then .inr (.inr (.inr (.inr (.a6 [I (i:Int),I 6]))))else .inl [I (i:Int),br m.vars,aY m.aA,az m.bU,az m.bW,aY m.next,az m.trans,az m.bO,b2 m.bP]:List D⊕(List D⊕(List D⊕(List D⊕D))))) (λ_ _=>True) (λ_ _=>by rw[b5];simp only[C4,go_sem,yF ((i:Int)<i)];rfl) ?_ n 0 () trivial (by omega) (xaj _);.exact af
 intro j a _ aH aB _;rw[b5]at aB;rw[List.getElem?_take_of_lt aB]at aH;have ct:=yT ((j:Int)<(i:Int));have ai:oO (a::(m.bP.take i).drop (j+1)) d.name=if decide (a.name=d.name)=true then some 0 else(oO ((m.bP.take i).drop (j+1)) d.name).map (·+1):=findIdx_cons _ a _
 rw[ai];by_cases h:a.name=d.name;.right;rw[xac (xaq h)];simp only[C4,go_sem,ct,ny aH,ny ay,cQ.gX,xaq h,Option.isSome_some]
 left;refine⟨(),?_,?_,trivial⟩;.simp only[C4,go_sem,ct,ny aH,ny ay,cQ.gX,xaD h,cm (bt:=false) (i:=j) (by omega)]
 have bC:¬(decide (a.name=d.name)=true):=by simpa using h
 rw[xae bC,Option.isSome_map]
theorem axu:C0 n [m.d]=some (fW (cy (jQ m) m.next.length 0)):=by
 have aj:=hm.jG;have nX:=hm.next.1
 have kz:=hm.bA.gG;have af:=nA (f:=xG n) (λi=>[I (i:Int),br m.vars,aY m.aA,az m.bU,az m.bW,aY m.next,az m.trans,az m.bO,b2 m.bP]) (jQ m) m.next.length [] fW ?_ ?_ m.next.length 0 n (by omega) (by omega)
 .have b1:(I ((0:Nat):Int))=I 0:=rfl;rw[b1]at af;by_cases c:(cy (jQ m) m.next.length 0).2=0;.rw[xac c]at af;rw[sC _ _ _ c];simp only[C0,SR,go_sem,ar.agg,ar.bf,ar.c1,ar.c2,ar.b4,ar.cT,ar.dp,ar.dq,ar.dE,af,fW]
  rw[xae c]at af;simp only[C0,SR,go_sem,ar.agg,ar.bf,ar.c1,ar.c2,ar.b4,ar.cT,ar.dp,ar.dq,ar.dE,af]
 .intro i af;obtain⟨d,ay⟩:∃d,m.next[i]?=some d:=⟨m.next[i],xab af⟩
  have h4:=hm.next.2 d (xad ay)
  have bl:=Vr hm.bA n (by omega) h4.1 h4.2 false;have gW:=afA n m d.name (by omega) (by omega);have bY:=yT ((i:Int)<(m.next.length:Int));simp only[jQ,ay];cases J:eo m.vars d.name with
  |none=>rw[J]at gW;have au:decide (gi none<0)=true:=rfl;simp only[xG,go_sem,eJ,bY,ar.eta,fH ay,bw.gX,gW,au,xae (show¬(12:Int)=0 by decide),fW]
  |some k=>
   rw[J]at gW;have il:=axs hm i (gi (some k)) ay;have au:decide (gi (some k)<0)=false:=by rw[afa];rfl
   have jY:k<m.vars.length:=by have:=xbs.1 J;exact this.1
   obtain⟨v,aS⟩:∃v,m.vars[k]?=some v:=⟨m.vars[k],xab jY⟩;have lu:bX 4 (br m.vars) (I (gi (some k)))=some v.cells:=hj aS;have zy:bN false 1 1 v.cells=some (aI v.bool):=rfl;simp only[aS,xaI,xbp];cases ax:(dw (m.next.take i) d.name).isSome with
   |true=>rw[ax,xac rfl]at il;simp only[xG,go_sem,eJ,bY,ar.eta,fH ay,bw.gX,gW,au,il,xae (show¬(6:Int)=0 by decide),fW]
   |false=>
    rw[ax,xae (by decide)]at il;generalize hr m false d.e=y at*;have cp:bB true .neq (aI y.1.b) (aI v.bool)=some (aI (y.1.b !=v.bool)):=rfl;have lP:((13:Int) !=0)=true:=rfl;by_cases ai:(y.2==0&&(y.1.b !=v.bool))=true
    .simp only[xG,go_sem,eJ,bY,ar.eta,fH ay,bw.gX,bw.iQ,gW,au,il,bl,ql,ur,lu,zy,cp,ai,lP,xae (show¬(13:Int)=0 by decide),fW]
    have eR:(y.2==0&&(y.1.b !=v.bool))=false:=by simpa using ai
    by_cases aE:y.2=0
    .have uQ:(y.2 !=0)=false:=by simp[aE]
     simp only[xG,go_sem,eJ,bY,ar.eta,fH ay,bw.gX,bw.iQ,gW,au,il,bl,ql,ur,lu,zy,cp,eR,uQ,xac aE,cm (bt:=false) (i:=i) (by omega)]
    have uQ:(y.2 !=0)=true:=by simpa using aE
    simp only[xG,go_sem,eJ,bY,ar.eta,fH ay,bw.gX,bw.iQ,gW,au,il,bl,ql,ur,lu,zy,cp,eR,uQ,xae aE,fW]
 simp only[xG,go_sem,eJ,yF ((m.next.length:Int)<m.next.length)]
theorem axv:C5 n [m.d]=some (fW (cy (jR m) m.bP.length 0)):=by
 have aj:=hm.jG;have mc:=hm.bP.1;have af:=nA (f:=xH n) (λi=>[I (i:Int),br m.vars,aY m.aA,az m.bU,az m.bW,aY m.next,az m.trans,az m.bO,b2 m.bP]) (jR m) m.bP.length [] fW ?_ ?_ m.bP.length 0 n (by omega) (by omega)
 .have b1:(I ((0:Nat):Int))=I 0:=rfl;rw[b1]at af;by_cases c:(cy (jR m) m.bP.length 0).2=0;.rw[xac c]at af;rw[sC _ _ _ c];simp only[C5,SU,go_sem,ar.agg,ar.bf,ar.c1,ar.c2,ar.b4,ar.cT,ar.dp,ar.dq,ar.dE,af,fW]
  rw[xae c]at af;simp only[C5,SU,go_sem,ar.agg,ar.bf,ar.c1,ar.c2,ar.b4,ar.cT,ar.dp,ar.dq,ar.dE,af]
 .intro i af;obtain⟨s,aC⟩:∃s,m.bP[i]?=some s:=⟨m.bP[i],xab af⟩;obtain⟨⟨bk,CG⟩,afH,Vw⟩:=hm.bP.2 s (xad aC);have cf:=Vf n s.name (by omega) Vw;have fP:=axt hm i aC;have cn:=UQ n s.f (by omega) bk (by omega);have fQ:=afG hm.bA n s.f (by omega) bk CG;have bY:=yT ((i:Int)<(m.bP.length:Int));simp only[jR,aC];cases J:isName s.name with
  |false=>simp only[xH,go_sem,jd,bY,ny aC,cQ.gX,cf,J,xae (show¬(12:Int)=0 by decide),fW]
  |true=>
   cases ax:(oO (m.bP.take i) s.name).isSome with
   |true=>rw[ax,xac rfl]at fP;simp only[xH,go_sem,jd,bY,ny aC,cQ.gX,cf,J,fP,xae (show¬(6:Int)=0 by decide),fW]
   |false=>
    rw[ax,xae (by decide)]at fP;by_cases bh:lN s.f=0
    .have nm:(lN s.f==0)=true:=by simp[bh]
     by_cases b9:mf m s.f=0
     .have vh:(mf m s.f !=0)=false:=by simp[b9]
      simp only[xH,go_sem,jd,bY,ar.eta,ny aC,cQ.gX,cQ.iQ,cf,J,fP,cn,nm,xac bh,fQ,vh,xac b9,cm (bt:=false) (i:=i) (by omega)]
     have vh:(mf m s.f !=0)=true:=by simpa using b9
     simp only[xH,go_sem,jd,bY,ar.eta,ny aC,cQ.gX,cQ.iQ,cf,J,fP,cn,nm,xac bh,fQ,vh,xae b9,fW]
    have nm:(lN s.f==0)=false:=by simpa using bh
    have axw:(lN s.f !=0)=true:=by simpa using bh
    simp only[xH,go_sem,jd,bY,ar.eta,ny aC,cQ.gX,cQ.iQ,cf,J,fP,cn,nm,axw,xae bh,fW]
 simp only[xH,go_sem,jd,yF ((m.bP.length:Int)<m.bP.length)]
end
def n5:List V->Nat
 |[]=>0|v::r=>bitsOf v.span+n5 r
theorem V.Oj(v:V):D.agg [ae v.d 0,ae v.d 1,ae v.d 2,ae v.d 3]=v.d:=rfl
def axx(n:Nat)(m:ar)(aS:lQ m.vars)(al:m.vars.length<=100)(aN:200<n):Hw n [m.d]=some (I (n5 m.vars:Nat)):=by
 have af:=dC (f:=Mn n) m.vars (λi (s:Nat)=>[I (s:Int),br m.vars,I m.vars.length,I (i:Int)]) (λr s=>(.inl [I ((s+n5 r:Nat):Int)]:List D⊕D)) (λi s=>s<=62*i) ?_ ?_ n 0 0 (by simp) (by omega) (xaj _);.have b1:(I ((0:Nat):Int))=I 0:=rfl;rw[b1,xam,xay]at af;simp only[Hw,aa7,go_sem,ar.agg,ar.bf,eY,af]
 .intro s aC;simp only[Mn,go_sem,yF ((m.vars.length:Int)<m.vars.length),n5,xbk]
 intro i v s hI af aC;obtain⟨J,aa,_⟩:=aS.2 v (xad hI);have gq:=Vk n v J aa;have aj:=awE n v.span (V.Br v).2 (by omega);have sY:=(Ek (V.Br v).2).1;have bY:=yT ((i:Int)<(m.vars.length:Int));have fT:bB false .add (I (s:Int)) (I (bitsOf v.span:Nat))=some (I ((s+bitsOf v.span:Nat):Int)):=by rw[e5 (by omega) (by omega)];rfl
 left;refine⟨s+bitsOf v.span,?_,by rw[n5,xbi],by omega⟩;simp only[Mn,go_sem,bY,hj hI,V.a4,V.g4,V.Oj,gq,aj,fT,cm (bt:=false) (i:=i) (by omega)]
def axy(n:Nat)(m:ar)(aS:lQ m.vars)(al:m.vars.length<=100)(aN:200<n):GN n [m.d]=some (I (n5 m.vars:Nat)):=by
 have af:=dC (f:=Mb n) m.vars (λi (s:Nat)=>[I (s:Int),I (i:Int),br m.vars,aY m.aA,az m.bU,az m.bW,aY m.next,az m.trans,az m.bO,b2 m.bP]) (λr s=>(.inl [I ((s+n5 r:Nat):Int)]:List D⊕D)) (λi s=>s<=62*i) ?_ ?_ n 0 0 (by simp) (by omega) (xaj _);.have b1:(I ((0:Nat):Int))=I 0:=rfl;rw[b1,xam,xay]at af;simp only[GN,aaG,go_sem,ar.agg,ar.bf,ar.c1,ar.c2,ar.b4,ar.cT,ar.dp,ar.dq,ar.dE,af]
 .intro s aC;simp only[Mb,go_sem,eY,yF ((m.vars.length:Int)<m.vars.length),n5,xbk]
 intro i v s hI af aC;obtain⟨J,aa,_⟩:=aS.2 v (xad hI);have gq:=Ej n v J aa;have aj:=awF n v.span (by have:=(V.Br v).1;omega) (V.Br v).2 (by omega);have sY:=(Ek (V.Br v).2).1;have bY:=yT ((i:Int)<(m.vars.length:Int));have fT:bB false .add (I (s:Int)) (I (bitsOf v.span:Nat))=some (I ((s+bitsOf v.span:Nat):Int)):=by rw[e5 (by omega) (by omega)];rfl
 left;refine⟨s+bitsOf v.span,?_,by rw[n5,xbi],by omega⟩;simp only[Mb,go_sem,eY,bY,hj hI,V.a4,gq,aj,fT,cm (bt:=false) (i:=i) (by omega)]
def mi:List V->Int->Int
 |[],a=>a|v::r,a=>mi r (if a<=1073741824 then a*max v.span 1 else a)
def afJ:∀(l:List V)(a:Int),¬a<=1073741824->mi l a=a
 |[],a,_=>rfl|v::r,a,h=>by rw[mi,xae h,afJ r a h]
def oP(l:List V):Bool:=l.any λv=>v.span==0
def stM(l:List V):Int×Bool:=if oP l=true then(0,true)else if mi l 1>1073741824 then(0,false)else(mi l 1,true)
def axz{a:Int}:kO true [I a,I 1]=some (I (max a 1)):=by
 rw[R1]
 congr 2
 split<;>omega
def afK{a k:Int}(J:1<=a)(aa:a<=1073741824)(ax:0<=k)(bh:k<=1073741825):1<=a*max k 1/\a*max k 1<=1152921505680588800:=by
 have b9:1<=max k 1:=by omega
 have cN:max k 1<=1073741825:=by omega
 generalize max k 1=q at*;constructor;.have:=xcg J b9 (by omega) (by omega);simpa using this
 have:=xcg aa cN (by omega) (by omega);exact this
def axA(n:Nat)(m:ar)(aS:lQ m.vars)(al:m.vars.length<=100)(aN:200<n):AF n [m.d]=some (.a6 [I (stM m.vars).1,aI (stM m.vars).2]):=by
 have af:=dC (f:=Io n) m.vars (λi (s:Int×Bool)=>[I s.1,aI s.2,br m.vars,I m.vars.length,I (i:Int)]) (λr s=>(.inl [I (mi r s.1),aI (s.2||oP r)]:List D⊕D)) (λi s=>1<=s.1/\s.1<=1152921505680588800) ?_ ?_ n 0 (1,false) (by simp) (by omega) (xaj _)
 .have b1:(I ((0:Nat):Int))=I 0:=rfl;rw[b1,xam,xbE]at af;unfold stM;cases J:oP m.vars with
  |true=>rw[J]at af;simp only[AF,MT,go_sem,ar.agg,ar.bf,eY,af]
  |false=>
   rw[J]at af;by_cases aa:mi m.vars 1>1073741824;.simp only[AF,MT,go_sem,ar.agg,ar.bf,eY,af,xaq aa,xac aa]
   simp only[AF,MT,go_sem,ar.agg,ar.bf,eY,af,xaD aa,xae aa]
 .intro s aC;simp only[Io,go_sem,yF ((m.vars.length:Int)<m.vars.length),mi,oP,List.any_nil,Bool.or_false]
 intro i v s hI af aC;obtain⟨J,aa,_⟩:=aS.2 v (xad hI);have gq:=Vk n v J aa;have mc:=V.Br v;have bY:=yT ((i:Int)<(m.vars.length:Int));have uO:∀r,oP (v::r)=(v.span==0||oP r):=λr=>rfl;left;by_cases ai:s.1<=1073741824
 .have aj:=afK aC.1 ai mc.1 mc.2;refine⟨(s.1*max v.span 1,s.2||v.span==0),?_,by rw[mi,xac ai,uO,Bool.or_assoc],aj⟩;simp only[Io,go_sem,bY,hj hI,V.a4,V.g4,V.Oj,gq,xaq ai,axz,xo (bt:=false) (a:=s.1) (b:=max v.span 1) (by omega) (by omega),cm (bt:=false) (i:=i) (by omega)]
 refine⟨(s.1,s.2||v.span==0),?_,by rw[mi,xae ai,uO,Bool.or_assoc],aC⟩;simp only[Io,go_sem,bY,hj hI,V.a4,V.g4,V.Oj,gq,xaD ai,cm (bt:=false) (i:=i) (by omega)]
def iv:List (Int×(Int×Int))->Int×(Int×Int)
 |[]=>(0,(0,0))|a::r=>if a.2.2=0 then iv r else a
def afL{eO:Type}{f:List D->Option (List D⊕(List D⊕eO))}(L:List (Int×(Int×Int)))(fa:Nat->List D)(E:List D)(W:Int×(Int×Int)->eO) (aC:∀i a,L[i]?=some a->f (fa i)=some (if a.2.2=0 then .inl (fa (i+1))else .inr (.inr (W a)))) (he:f (fa L.length)=some (.inr (.inl E))) (n:Nat) (aN:L.length<n):bL f n (fa 0)=some (if(iv L).2.2=0 then .inl E else .inr (W (iv L))):=by
 have h:=dC (f:=f) L (λi (_:Unit)=>fa i) (λr _=>(if(iv r).2.2=0 then .inl E else .inr (W (iv r)):List D⊕eO)) (λ_ _=>True) (λ_ _=>by rw[he];rfl) ?_ n 0 () trivial (by omega) (xaj _);.exact h
 intro i a _ aH af _;have J:=aC i a aH;by_cases au:a.2.2=0
 .left;rw[xac au]at J;exact⟨(),J,by rw[iv,xac au],trivial⟩
 right;rw[xae au]at J;rw[J,iv,xae au,xae au]
def iH(m:ar):List Nat:=[m.vars.length,m.aA.length,m.bU.length,m.bW.length,m.next.length,m.trans.length,m.bO.length,m.bP.length]
def iI(m:ar)(i:Nat):Int:=if 64<(iH m)[i]?.getD 0 then 18 else 0
noncomputable def n7(m:ar):List (Int×(Int×Int)):=[(2,cy (mg m) m.aA.length 0),(2,cy (mR m) m.aA.length 0),(2,cy (mh m) m.aA.length 0),(3,cy (fb m m.bU false) m.bU.length 0),(4,cy (fb m m.bW false) m.bW.length 0),(5,cy (jQ m) m.next.length 0),(6,cy (fb m m.trans true) m.trans.length 0),(7,cy (fb m m.bO false) m.bO.length 0),(8,cy (jR m) m.bP.length 0)]
noncomputable def Vy(m:ar):List (Int×(Int×Int)):=[(2,sD m),(3,cy (fb m m.bU false) m.bU.length 0),(4,cy (fb m m.bW false) m.bW.length 0),(5,cy (jQ m) m.next.length 0),(6,cy (fb m m.trans true) m.trans.length 0),(7,cy (fb m m.bO false) m.bO.length 0),(8,cy (jR m) m.bP.length 0)]
def afM{a b:Int×Int}:(wj a b).2=0↔a.2=0/\b.2=0:=by unfold wj;by_cases h:a.2=0<;>simp[h]
def afN(k:Int)(a b:Int×Int)(r:List (Int×(Int×Int))):iv ((k,wj a b)::r)=iv ((k,a)::(k,b)::r):=by simp only[iv];unfold wj;by_cases h:a.2=0<;>simp[h]
def axB(a:Int×(Int×Int)){r sV:List (Int×(Int×Int))}(h:iv r=iv sV):iv (a::r)=iv (a::sV):=by rw[iv,iv,h]
def axC(m:ar):iv (Vy m)=iv (n7 m):=by unfold Vy sD;rw[afN];exact axB _ (afN _ _ _ _)
noncomputable def jo(m:ar):Int×(Int×Int):=if(cy (iI m) 8 0).2=0 then
  if(kM m.vars).2=0 then
   if 30<n5 m.vars then(1,(0,18))else iv (n7 m)
  else(1,kM m.vars)
 else((cy (iI m) 8 0).1+1,(64,18))
def ec(q:Int×(Int×Int)):D:= .a6 [.agg [I q.1,I q.2.1],I q.2.2]
def axD{l:List V}(h:(kM l).2=0):kM l=(0,0):=by unfold kM at h⊢;cases bk:(List.range l.length).find? (λi=>jz l i !=0)with|none=>rw[bk]at h|some i=>rw[bk]at h;have:=List.find?_some bk;simp only at h;rw[h]at this;cases this
def afO(L:List (Int×(Int×Int)))(h:(iv L).2.2=0):iv L=(0,(0,0)):=by
 induction L with
 |nil=>rfl
 |cons a r ih=>
  rw[iv]at h⊢;by_cases au:a.2.2=0;.rw[xac au]at h⊢;exact ih h
  rw[xae au]at h;exact absurd h au
theorem iJ{t:Nat}{x:D}:Cv (.ef t x)=some (t,x):=rfl
def uu(m:ar):D:= .agg ((iH m).map λ(k:Nat)=>I (k:Int))
def gN(m:ar):D:= .agg [.ef 117 (aY m.aA),.ef 118 (aY m.aA),.ef 119 (aY m.aA),.ef 121 (.agg [I 3,az m.bU,aI false]),.ef 121 (.agg [I 4,az m.bW,aI false]),.ef 122 (aY m.next),.ef 121 (.agg [I 6,az m.trans,aI true]),.ef 121 (.agg [I 7,az m.bO,aI false]),.ef 123 (b2 m.bP)]
theorem Ol{eO:Type}{a b:Option eO}:gD 117 117 a b=a:=rfl
theorem Om{eO:Type}{a b:Option eO}:gD 118 117 a b=b:=rfl
theorem On{eO:Type}{a b:Option eO}:gD 118 118 a b=a:=rfl
theorem Oo{eO:Type}{a b:Option eO}:gD 119 117 a b=b:=rfl
theorem Oq{eO:Type}{a b:Option eO}:gD 119 118 a b=b:=rfl
theorem Ot{eO:Type}{a b:Option eO}:gD 119 119 a b=a:=rfl
theorem uv{eO:Type}{a b:Option eO}:gD 121 117 a b=b:=rfl
theorem uw{eO:Type}{a b:Option eO}:gD 121 118 a b=b:=rfl
theorem ux{eO:Type}{a b:Option eO}:gD 121 119 a b=b:=rfl
theorem uy{eO:Type}{a b:Option eO}:gD 121 121 a b=a:=rfl
theorem Ou{eO:Type}{a b:Option eO}:gD 122 117 a b=b:=rfl
theorem Ov{eO:Type}{a b:Option eO}:gD 122 118 a b=b:=rfl
theorem Ow{eO:Type}{a b:Option eO}:gD 122 119 a b=b:=rfl
theorem Ox{eO:Type}{a b:Option eO}:gD 122 121 a b=b:=rfl
theorem Oy{eO:Type}{a b:Option eO}:gD 122 122 a b=a:=rfl
theorem Oz{eO:Type}{a b:Option eO}:gD 123 117 a b=b:=rfl
theorem OA{eO:Type}{a b:Option eO}:gD 123 118 a b=b:=rfl
theorem OB{eO:Type}{a b:Option eO}:gD 123 119 a b=b:=rfl
theorem OC{eO:Type}{a b:Option eO}:gD 123 121 a b=b:=rfl
theorem OD{eO:Type}{a b:Option eO}:gD 123 122 a b=b:=rfl
theorem OE{eO:Type}{a b:Option eO}:gD 123 123 a b=a:=rfl
section
variable{m:ar}{n:Nat}(hm:Oh m n)
include hm
theorem axE:bL (sj n) n [uu m,I 0,br m.vars,aY m.aA,az m.bU,az m.bW,aY m.next,az m.trans,az m.bO,b2 m.bP,I 0,I 0]=some (if(cy (iI m) 8 0).2=0 then .inl [br m.vars,aY m.aA,az m.bU,az m.bW,aY m.next,az m.trans,az m.bO,b2 m.bP,I 0,I 0]else .inr (ec ((cy (iI m) 8 0).1+1,(64,18)))):=by
 have aj:=hm.jG;refine nA (f:=sj n) (λi=>[uu m,I (i:Int),br m.vars,aY m.aA,az m.bU,az m.bW,aY m.next,az m.trans,az m.bO,b2 m.bP,I 0,I 0]) (iI m) 8 _ (λp=>ec (p.1+1,(64,18))) ?_ ?_ 8 0 n (by omega) (by omega)
 .intro i af;obtain⟨k,ah⟩:∃k,(iH m)[i]?=some k:=⟨_,xab af⟩;have bY:=yT ((i:Int)<8);have dR:cL 8 (I (i:Int))=some i:=by rw[jZ,xac af]
  have bk:mB false 1 (i*1) (uu m)=some (I (k:Int)):=by unfold uu;rw[Nat.mul_one,ZS,iY,xah,ah];rfl
  have Bt:bB false .add (I 1) (I (i:Int))=some (I ((i:Int)+1)):=by rw[e5 (by omega) (by omega)];congr 2;omega
  have ck:iI m i=if 64<k then 18 else 0:=by unfold iI;rw[ah];rfl
  by_cases ai:64<k;.rw[ck,xac ai,xae (by decide)];simp only[sj,go_sem,bY,dR,bk,yT ((k:Int)>64),Bt,ec]
  rw[ck,xae ai,xac rfl];simp only[sj,go_sem,bY,dR,bk,yF ((k:Int)>64),cm (bt:=false) (i:=i) (by omega)]
 simp only[sj,go_sem,show decide (((8:Nat):Int)<8)=false from rfl]
theorem axF:bL (r8 n) n [I 0,br m.vars,aY m.aA,az m.bU,az m.bW,aY m.next,az m.trans,az m.bO,b2 m.bP,I 0,I 0,D.aV 1 ((iH m).map λ(k:Nat)=>[I (k:Int)])]=some (if(cy (iI m) 8 0).2=0 then .inl [br m.vars,aY m.aA,az m.bU,az m.bW,aY m.next,az m.trans,az m.bO,b2 m.bP,I 0,I 0]else .inr (ec ((cy (iI m) 8 0).1+1,(64,18)))):=by
 have aj:=hm.jG;refine nA (f:=r8 n) (λi=>[I (i:Int),br m.vars,aY m.aA,az m.bU,az m.bW,aY m.next,az m.trans,az m.bO,b2 m.bP,I 0,I 0,D.aV 1 ((iH m).map λ(k:Nat)=>[I (k:Int)])]) (iI m) 8 _ (λp=>ec (p.1+1,(64,18))) ?_ ?_ 8 0 n (by omega) (by omega)
 .intro i af;obtain⟨k,ah⟩:∃k,(iH m)[i]?=some k:=⟨_,xab af⟩;have bJ:((iH m).map λ(k:Nat)=>[I (k:Int)]).length=8:=rfl;have bY:=yT ((i:Int)<((8:Nat):Int));have dR:cL 8 (I (i:Int))=some i:=by rw[jZ,xac af]
  have bk:((iH m).map λ(k:Nat)=>[I (k:Int)])[i]?=some [I (k:Int)]:=by rw[xah,ah];rfl
  have Bt:bB false .add (I (i:Int)) (I 1)=some (I ((i:Int)+1)):=by rw[e5 (by omega) (by omega)]
  have ck:iI m i=if 64<k then 18 else 0:=by unfold iI;rw[ah];rfl
  generalize ((iH m).map λ(k:Nat)=>[I (k:Int)])=axG at*;by_cases ai:64<k;.rw[ck,xac ai,xae (by decide)];simp only[r8,go_sem,bJ,bY,dR,bk,Ep,yT ((k:Int)>64),Bt,ec]
  rw[ck,xae ai,xac rfl];simp only[r8,go_sem,bJ,bY,dR,bk,Ep,yF ((k:Int)>64),cm (bt:=false) (i:=i) (by omega)]
 have bJ:((iH m).map λ(k:Nat)=>[I (k:Int)]).length=8:=rfl;simp only[r8,go_sem,bJ,show decide (((8:Nat):Int)<((8:Nat):Int))=false from rfl]
theorem axH(A kD:D):bL (iq n) n [D.ef 117 (aY m.aA),A,kD,I m.aA.length,I 0,br m.vars,aY m.aA,az m.bU,az m.bW,aY m.next,az m.trans,az m.bO,b2 m.bP,I 0,I 0]=some (if(cy (mg m) m.aA.length 0).2=0 then .inl [A,kD,br m.vars,aY m.aA,az m.bU,az m.bW,aY m.next,az m.trans,az m.bO,b2 m.bP,I 0,I 0]else .inr (.inr (.inr (.inr (ec (2,cy (mg m) m.aA.length 0)))))):=by
 have aj:=hm.jG;have cf:=hm.bA.dl;refine nA (f:=iq n) (λi=>[D.ef 117 (aY m.aA),A,kD,I m.aA.length,I (i:Int),br m.vars,aY m.aA,az m.bU,az m.bW,aY m.next,az m.trans,az m.bO,b2 m.bP,I 0,I 0]) (mg m) (m.aA.length) _ (λp=> .inr (.inr (.inr (ec (2,p))))) ?_ ?_ _ 0 n (by omega) (by omega)
 .intro i af;have bY:=yT ((i:Int)<((m.aA.length:Nat):Int));have hw:=axg hm i af;change vJ n [_,m.d,I (i:Int)]=some (I (mg m i))at hw;by_cases ai:mg m i=0
  .have eR:(mg m i !=0)=false:=by simp[ai]
   rw[xac ai];simp only[iq,go_sem,bY,iJ,Ol,ar.eta,hw,eR,cm (bt:=false) (i:=i) (by omega)]
  have eR:(mg m i !=0)=true:=by simpa using ai
  rw[xae ai];simp only[iq,go_sem,bY,iJ,Ol,ar.eta,hw,eR,MS,abB,ec]
 simp only[iq,go_sem,yF (((m.aA.length:Nat):Int)<((m.aA.length:Nat):Int))]
theorem axI(A kD:D):bL (iq n) n [D.ef 118 (aY m.aA),A,kD,I m.aA.length,I 0,br m.vars,aY m.aA,az m.bU,az m.bW,aY m.next,az m.trans,az m.bO,b2 m.bP,I 0,I 0]=some (if(cy (mR m) m.aA.length 0).2=0 then .inl [A,kD,br m.vars,aY m.aA,az m.bU,az m.bW,aY m.next,az m.trans,az m.bO,b2 m.bP,I 0,I 0]else .inr (.inr (.inr (.inr (ec (2,cy (mR m) m.aA.length 0)))))):=by
 have aj:=hm.jG;have cf:=hm.bA.dl;refine nA (f:=iq n) (λi=>[D.ef 118 (aY m.aA),A,kD,I m.aA.length,I (i:Int),br m.vars,aY m.aA,az m.bU,az m.bW,aY m.next,az m.trans,az m.bO,b2 m.bP,I 0,I 0]) (mR m) (m.aA.length) _ (λp=> .inr (.inr (.inr (ec (2,p))))) ?_ ?_ _ 0 n (by omega) (by omega)
 .intro i af;have bY:=yT ((i:Int)<((m.aA.length:Nat):Int));have hw:=axc n m hm.bA.d i af (by omega);change Dk n [_,m.d,I (i:Int)]=some (I (mR m i))at hw;by_cases ai:mR m i=0
  .have eR:(mR m i !=0)=false:=by simp[ai]
   rw[xac ai];simp only[iq,go_sem,bY,iJ,Om,On,ar.eta,hw,eR,cm (bt:=false) (i:=i) (by omega)]
  have eR:(mR m i !=0)=true:=by simpa using ai
  rw[xae ai];simp only[iq,go_sem,bY,iJ,Om,On,ar.eta,hw,eR,MR,abA,ec]
 simp only[iq,go_sem,yF (((m.aA.length:Nat):Int)<((m.aA.length:Nat):Int))]
theorem axJ(A kD:D):bL (iq n) n [D.ef 119 (aY m.aA),A,kD,I m.aA.length,I 0,br m.vars,aY m.aA,az m.bU,az m.bW,aY m.next,az m.trans,az m.bO,b2 m.bP,I 0,I 0]=some (if(cy (mh m) m.aA.length 0).2=0 then .inl [A,kD,br m.vars,aY m.aA,az m.bU,az m.bW,aY m.next,az m.trans,az m.bO,b2 m.bP,I 0,I 0]else .inr (.inr (.inr (.inr (ec (2,cy (mh m) m.aA.length 0)))))):=by
 have aj:=hm.jG;have cf:=hm.bA.dl;refine nA (f:=iq n) (λi=>[D.ef 119 (aY m.aA),A,kD,I m.aA.length,I (i:Int),br m.vars,aY m.aA,az m.bU,az m.bW,aY m.next,az m.trans,az m.bO,b2 m.bP,I 0,I 0]) (mh m) (m.aA.length) _ (λp=> .inr (.inr (.inr (ec (2,p))))) ?_ ?_ _ 0 n (by omega) (by omega)
 .intro i af;have bY:=yT ((i:Int)<((m.aA.length:Nat):Int));have hw:=axh hm i af;change Dj n [_,m.d,I (i:Int)]=some (I (mh m i))at hw;by_cases ai:mh m i=0
  .have eR:(mh m i !=0)=false:=by simp[ai]
   rw[xac ai];simp only[iq,go_sem,bY,iJ,Oo,Oq,Ot,ar.eta,hw,eR,cm (bt:=false) (i:=i) (by omega)]
  have eR:(mh m i !=0)=true:=by simpa using ai
  rw[xae ai];simp only[iq,go_sem,bY,iJ,Oo,Oq,Ot,ar.eta,hw,eR,MQ,abz,ec]
 simp only[iq,go_sem,yF (((m.aA.length:Nat):Int)<((m.aA.length:Nat):Int))]
theorem OF(l:List Tm)(al:l.length<=100/\∀t∈l,t.Ok/\t.bA<=660000)(k:Int)(nx:Bool)(A kD:D):bL (iq n) n [D.ef 121 (D.agg [I k,az l,aI nx]),A,kD,I l.length,I 0,br m.vars,aY m.aA,az m.bU,az m.bW,aY m.next,az m.trans,az m.bO,b2 m.bP,I 0,I 0]=some (if(cy (fb m l nx) l.length 0).2=0 then .inl [A,kD,br m.vars,aY m.aA,az m.bU,az m.bW,aY m.next,az m.trans,az m.bO,b2 m.bP,I 0,I 0]else .inr (.inr (.inr (.inr (ec (k,cy (fb m l nx) l.length 0)))))):=by
 have aj:=hm.jG;have cf:=al.1;have axK:ae (D.agg [I k,az l,aI nx]) 0=I k:=rfl;have axL:dV 3 (D.agg [I k,az l,aI nx])=true:=rfl;refine nA (f:=iq n) (λi=>[D.ef 121 (D.agg [I k,az l,aI nx]),A,kD,I l.length,I (i:Int),br m.vars,aY m.aA,az m.bU,az m.bW,aY m.next,az m.trans,az m.bO,b2 m.bP,I 0,I 0]) (fb m l nx) (l.length) _ (λp=> .inr (.inr (.inr (ec (k,p))))) ?_ ?_ _ 0 n (by omega) (by omega)
 .intro i af;have bY:=yT ((i:Int)<((l.length:Nat):Int));have hw:=axi hm l al.2 k nx i af;change Di n [_,m.d,I (i:Int)]=some (I (fb m l nx i))at hw;by_cases ai:fb m l nx i=0
  .have eR:(fb m l nx i !=0)=false:=by simp[ai]
   rw[xac ai];simp only[iq,go_sem,bY,iJ,uv,uw,ux,uy,ar.eta,hw,eR,cm (bt:=false) (i:=i) (by omega)]
  have eR:(fb m l nx i !=0)=true:=by simpa using ai
  rw[xae ai];simp only[iq,go_sem,bY,iJ,uv,uw,ux,uy,ar.eta,hw,eR,MP,aby,axK,axL,ec]
 simp only[iq,go_sem,yF (((l.length:Nat):Int)<((l.length:Nat):Int))]
theorem axM(A kD:D):bL (iq n) n [D.ef 122 (aY m.next),A,kD,I m.next.length,I 0,br m.vars,aY m.aA,az m.bU,az m.bW,aY m.next,az m.trans,az m.bO,b2 m.bP,I 0,I 0]=some (if(cy (jQ m) m.next.length 0).2=0 then .inl [A,kD,br m.vars,aY m.aA,az m.bU,az m.bW,aY m.next,az m.trans,az m.bO,b2 m.bP,I 0,I 0]else .inr (.inr (.inr (.inr (ec (5,cy (jQ m) m.next.length 0)))))):=by
 have aj:=hm.jG;have cf:=hm.next.1
 refine nA (f:=iq n) (λi=>[D.ef 122 (aY m.next),A,kD,I m.next.length,I (i:Int),br m.vars,aY m.aA,az m.bU,az m.bW,aY m.next,az m.trans,az m.bO,b2 m.bP,I 0,I 0]) (jQ m) (m.next.length) _ (λp=> .inr (.inr (.inr (ec (5,p))))) ?_ ?_ _ 0 n (by omega) (by omega)
 .intro i af;have bY:=yT ((i:Int)<((m.next.length:Nat):Int));have hw:=axj hm i af;change xN n [_,m.d,I (i:Int)]=some (I (jQ m i))at hw;by_cases ai:jQ m i=0
  .have eR:(jQ m i !=0)=false:=by simp[ai]
   rw[xac ai];simp only[iq,go_sem,bY,iJ,Ou,Ov,Ow,Ox,Oy,ar.eta,hw,eR,cm (bt:=false) (i:=i) (by omega)]
  have eR:(jQ m i !=0)=true:=by simpa using ai
  rw[xae ai];simp only[iq,go_sem,bY,iJ,Ou,Ov,Ow,Ox,Oy,ar.eta,hw,eR,MO,abx,ec]
 simp only[iq,go_sem,yF (((m.next.length:Nat):Int)<((m.next.length:Nat):Int))]
theorem axN(A kD:D):bL (iq n) n [D.ef 123 (b2 m.bP),A,kD,I m.bP.length,I 0,br m.vars,aY m.aA,az m.bU,az m.bW,aY m.next,az m.trans,az m.bO,b2 m.bP,I 0,I 0]=some (if(cy (jR m) m.bP.length 0).2=0 then .inl [A,kD,br m.vars,aY m.aA,az m.bU,az m.bW,aY m.next,az m.trans,az m.bO,b2 m.bP,I 0,I 0]else .inr (.inr (.inr (.inr (ec (8,cy (jR m) m.bP.length 0)))))):=by
 have aj:=hm.jG;have cf:=hm.bP.1;refine nA (f:=iq n) (λi=>[D.ef 123 (b2 m.bP),A,kD,I m.bP.length,I (i:Int),br m.vars,aY m.aA,az m.bU,az m.bW,aY m.next,az m.trans,az m.bO,b2 m.bP,I 0,I 0]) (jR m) (m.bP.length) _ (λp=> .inr (.inr (.inr (ec (8,p))))) ?_ ?_ _ 0 n (by omega) (by omega)
 .intro i af;have bY:=yT ((i:Int)<((m.bP.length:Nat):Int));have hw:=axk hm i af;change vI n [_,m.d,I (i:Int)]=some (I (jR m i))at hw;by_cases ai:jR m i=0
  .have eR:(jR m i !=0)=false:=by simp[ai]
   rw[xac ai];simp only[iq,go_sem,bY,iJ,Oz,OA,OB,OC,OD,OE,ar.eta,hw,eR,cm (bt:=false) (i:=i) (by omega)]
  have eR:(jR m i !=0)=true:=by simpa using ai
  rw[xae ai];simp only[iq,go_sem,bY,iJ,Oz,OA,OB,OC,OD,OE,ar.eta,hw,eR,MN,abw,ec]
 simp only[iq,go_sem,yF (((m.bP.length:Nat):Int)<((m.bP.length:Nat):Int))]
theorem axO:h9 n [gN m,I 0,br m.vars,aY m.aA,az m.bU,az m.bW,aY m.next,az m.trans,az m.bO,b2 m.bP,I 0,I 0]=some (if(cy (mg m) m.aA.length 0).2=0 then .inl [gN m,I 1,br m.vars,aY m.aA,az m.bU,az m.bW,aY m.next,az m.trans,az m.bO,b2 m.bP,I 0,I 0]else .inr (.inr (ec (2,cy (mg m) m.aA.length 0)))):=by
 have e6:=axH hm (gN m) (I 0);have bY:decide ((0:Int)<9)=true:=rfl;have dR:cL 9 (I 0)=some 0:=rfl;have bk:mB false 1 (0*1) (gN m)=some (D.ef 117 (aY m.aA)):=rfl;have jn:HC n [aY m.aA]=some (I m.aA.length):=by simp only[HC,abc,go_sem,eJ]
 have fT:bB false .add (I 0) (I 1)=some (I 1):=e5 (by decide) (by decide);by_cases ai:(cy (mg m) m.aA.length 0).2=0;.rw[xac ai]at e6⊢;simp only[h9,go_sem,bY,dR,bk,iJ,Ol,jn,e6,fT]
 rw[xae ai]at e6⊢;simp only[h9,go_sem,bY,dR,bk,iJ,Ol,jn,e6]
theorem axP:h9 n [gN m,I 1,br m.vars,aY m.aA,az m.bU,az m.bW,aY m.next,az m.trans,az m.bO,b2 m.bP,I 0,I 0]=some (if(cy (mR m) m.aA.length 0).2=0 then .inl [gN m,I 2,br m.vars,aY m.aA,az m.bU,az m.bW,aY m.next,az m.trans,az m.bO,b2 m.bP,I 0,I 0]else .inr (.inr (ec (2,cy (mR m) m.aA.length 0)))):=by
 have e6:=axI hm (gN m) (I 1);have bY:decide ((1:Int)<9)=true:=rfl;have dR:cL 9 (I 1)=some 1:=rfl;have bk:mB false 1 (1*1) (gN m)=some (D.ef 118 (aY m.aA)):=rfl;have jn:HB n [aY m.aA]=some (I m.aA.length):=by simp only[HB,abb,go_sem,eJ]
 have fT:bB false .add (I 1) (I 1)=some (I 2):=e5 (by decide) (by decide);by_cases ai:(cy (mR m) m.aA.length 0).2=0;.rw[xac ai]at e6⊢;simp only[h9,go_sem,bY,dR,bk,iJ,Om,On,jn,e6,fT]
 rw[xae ai]at e6⊢;simp only[h9,go_sem,bY,dR,bk,iJ,Om,On,jn,e6]
theorem axQ:h9 n [gN m,I 2,br m.vars,aY m.aA,az m.bU,az m.bW,aY m.next,az m.trans,az m.bO,b2 m.bP,I 0,I 0]=some (if(cy (mh m) m.aA.length 0).2=0 then .inl [gN m,I 3,br m.vars,aY m.aA,az m.bU,az m.bW,aY m.next,az m.trans,az m.bO,b2 m.bP,I 0,I 0]else .inr (.inr (ec (2,cy (mh m) m.aA.length 0)))):=by
 have e6:=axJ hm (gN m) (I 2);have bY:decide ((2:Int)<9)=true:=rfl;have dR:cL 9 (I 2)=some 2:=rfl;have bk:mB false 1 (2*1) (gN m)=some (D.ef 119 (aY m.aA)):=rfl;have jn:HA n [aY m.aA]=some (I m.aA.length):=by simp only[HA,aba,go_sem,eJ]
 have fT:bB false .add (I 2) (I 1)=some (I 3):=e5 (by decide) (by decide);by_cases ai:(cy (mh m) m.aA.length 0).2=0;.rw[xac ai]at e6⊢;simp only[h9,go_sem,bY,dR,bk,iJ,Oo,Oq,Ot,jn,e6,fT]
 rw[xae ai]at e6⊢;simp only[h9,go_sem,bY,dR,bk,iJ,Oo,Oq,Ot,jn,e6]
theorem axR:h9 n [gN m,I 3,br m.vars,aY m.aA,az m.bU,az m.bW,aY m.next,az m.trans,az m.bO,b2 m.bP,I 0,I 0]=some (if(cy (fb m m.bU false) m.bU.length 0).2=0 then .inl [gN m,I 4,br m.vars,aY m.aA,az m.bU,az m.bW,aY m.next,az m.trans,az m.bO,b2 m.bP,I 0,I 0]else .inr (.inr (ec (3,cy (fb m m.bU false) m.bU.length 0)))):=by
 have e6:=OF hm m.bU hm.bU 3 false (gN m) (I 3);have bY:decide ((3:Int)<9)=true:=rfl;have dR:cL 9 (I 3)=some 3:=rfl;have bk:mB false 1 (3*1) (gN m)=some (D.ef 121 (D.agg [I 3,az m.bU,aI false])):=rfl;have jn:sc n [D.agg [I 3,az m.bU,aI false]]=some (I m.bU.length):=by have ax:dV 3 (D.agg [I 3,az m.bU,aI false])=true:=rfl;have bh:ae (D.agg [I 3,az m.bU,aI false]) 1=az m.bU:=rfl;simp only[sc,Hz,go_sem,ax,bh,iu]
 have fT:bB false .add (I 3) (I 1)=some (I 4):=e5 (by decide) (by decide);by_cases ai:(cy (fb m m.bU false) m.bU.length 0).2=0;.rw[xac ai]at e6⊢;simp only[h9,go_sem,bY,dR,bk,iJ,uv,uw,ux,uy,jn,e6,fT]
 rw[xae ai]at e6⊢;simp only[h9,go_sem,bY,dR,bk,iJ,uv,uw,ux,uy,jn,e6]
theorem axS:h9 n [gN m,I 4,br m.vars,aY m.aA,az m.bU,az m.bW,aY m.next,az m.trans,az m.bO,b2 m.bP,I 0,I 0]=some (if(cy (fb m m.bW false) m.bW.length 0).2=0 then .inl [gN m,I 5,br m.vars,aY m.aA,az m.bU,az m.bW,aY m.next,az m.trans,az m.bO,b2 m.bP,I 0,I 0]else .inr (.inr (ec (4,cy (fb m m.bW false) m.bW.length 0)))):=by
 have e6:=OF hm m.bW hm.bW 4 false (gN m) (I 4);have bY:decide ((4:Int)<9)=true:=rfl;have dR:cL 9 (I 4)=some 4:=rfl;have bk:mB false 1 (4*1) (gN m)=some (D.ef 121 (D.agg [I 4,az m.bW,aI false])):=rfl;have jn:sc n [D.agg [I 4,az m.bW,aI false]]=some (I m.bW.length):=by have ax:dV 3 (D.agg [I 4,az m.bW,aI false])=true:=rfl;have bh:ae (D.agg [I 4,az m.bW,aI false]) 1=az m.bW:=rfl;simp only[sc,Hz,go_sem,ax,bh,iu]
 have fT:bB false .add (I 4) (I 1)=some (I 5):=e5 (by decide) (by decide);by_cases ai:(cy (fb m m.bW false) m.bW.length 0).2=0;.rw[xac ai]at e6⊢;simp only[h9,go_sem,bY,dR,bk,iJ,uv,uw,ux,uy,jn,e6,fT]
 rw[xae ai]at e6⊢;simp only[h9,go_sem,bY,dR,bk,iJ,uv,uw,ux,uy,jn,e6]
theorem axT:h9 n [gN m,I 5,br m.vars,aY m.aA,az m.bU,az m.bW,aY m.next,az m.trans,az m.bO,b2 m.bP,I 0,I 0]=some (if(cy (jQ m) m.next.length 0).2=0 then .inl [gN m,I 6,br m.vars,aY m.aA,az m.bU,az m.bW,aY m.next,az m.trans,az m.bO,b2 m.bP,I 0,I 0]else .inr (.inr (ec (5,cy (jQ m) m.next.length 0)))):=by
 have e6:=axM hm (gN m) (I 5);have bY:decide ((5:Int)<9)=true:=rfl;have dR:cL 9 (I 5)=some 5:=rfl;have bk:mB false 1 (5*1) (gN m)=some (D.ef 122 (aY m.next)):=rfl;have jn:Hy n [aY m.next]=some (I m.next.length):=by simp only[Hy,aa9,go_sem,eJ]
 have fT:bB false .add (I 5) (I 1)=some (I 6):=e5 (by decide) (by decide);by_cases ai:(cy (jQ m) m.next.length 0).2=0;.rw[xac ai]at e6⊢;simp only[h9,go_sem,bY,dR,bk,iJ,Ou,Ov,Ow,Ox,Oy,jn,e6,fT]
 rw[xae ai]at e6⊢;simp only[h9,go_sem,bY,dR,bk,iJ,Ou,Ov,Ow,Ox,Oy,jn,e6]
theorem axU:h9 n [gN m,I 6,br m.vars,aY m.aA,az m.bU,az m.bW,aY m.next,az m.trans,az m.bO,b2 m.bP,I 0,I 0]=some (if(cy (fb m m.trans true) m.trans.length 0).2=0 then .inl [gN m,I 7,br m.vars,aY m.aA,az m.bU,az m.bW,aY m.next,az m.trans,az m.bO,b2 m.bP,I 0,I 0]else .inr (.inr (ec (6,cy (fb m m.trans true) m.trans.length 0)))):=by
 have e6:=OF hm m.trans hm.trans 6 true (gN m) (I 6);have bY:decide ((6:Int)<9)=true:=rfl;have dR:cL 9 (I 6)=some 6:=rfl;have bk:mB false 1 (6*1) (gN m)=some (D.ef 121 (D.agg [I 6,az m.trans,aI true])):=rfl;have jn:sc n [D.agg [I 6,az m.trans,aI true]]=some (I m.trans.length):=by have ax:dV 3 (D.agg [I 6,az m.trans,aI true])=true:=rfl;have bh:ae (D.agg [I 6,az m.trans,aI true]) 1=az m.trans:=rfl;simp only[sc,Hz,go_sem,ax,bh,iu]
 have fT:bB false .add (I 6) (I 1)=some (I 7):=e5 (by decide) (by decide);by_cases ai:(cy (fb m m.trans true) m.trans.length 0).2=0;.rw[xac ai]at e6⊢;simp only[h9,go_sem,bY,dR,bk,iJ,uv,uw,ux,uy,jn,e6,fT]
 rw[xae ai]at e6⊢;simp only[h9,go_sem,bY,dR,bk,iJ,uv,uw,ux,uy,jn,e6]
theorem axV:h9 n [gN m,I 7,br m.vars,aY m.aA,az m.bU,az m.bW,aY m.next,az m.trans,az m.bO,b2 m.bP,I 0,I 0]=some (if(cy (fb m m.bO false) m.bO.length 0).2=0 then .inl [gN m,I 8,br m.vars,aY m.aA,az m.bU,az m.bW,aY m.next,az m.trans,az m.bO,b2 m.bP,I 0,I 0]else .inr (.inr (ec (7,cy (fb m m.bO false) m.bO.length 0)))):=by
 have e6:=OF hm m.bO hm.bO 7 false (gN m) (I 7);have bY:decide ((7:Int)<9)=true:=rfl;have dR:cL 9 (I 7)=some 7:=rfl;have bk:mB false 1 (7*1) (gN m)=some (D.ef 121 (D.agg [I 7,az m.bO,aI false])):=rfl;have jn:sc n [D.agg [I 7,az m.bO,aI false]]=some (I m.bO.length):=by have ax:dV 3 (D.agg [I 7,az m.bO,aI false])=true:=rfl;have bh:ae (D.agg [I 7,az m.bO,aI false]) 1=az m.bO:=rfl;simp only[sc,Hz,go_sem,ax,bh,iu]
 have fT:bB false .add (I 7) (I 1)=some (I 8):=e5 (by decide) (by decide);by_cases ai:(cy (fb m m.bO false) m.bO.length 0).2=0;.rw[xac ai]at e6⊢;simp only[h9,go_sem,bY,dR,bk,iJ,uv,uw,ux,uy,jn,e6,fT]
 rw[xae ai]at e6⊢;simp only[h9,go_sem,bY,dR,bk,iJ,uv,uw,ux,uy,jn,e6]
theorem axW:h9 n [gN m,I 8,br m.vars,aY m.aA,az m.bU,az m.bW,aY m.next,az m.trans,az m.bO,b2 m.bP,I 0,I 0]=some (if(cy (jR m) m.bP.length 0).2=0 then .inl [gN m,I 9,br m.vars,aY m.aA,az m.bU,az m.bW,aY m.next,az m.trans,az m.bO,b2 m.bP,I 0,I 0]else .inr (.inr (ec (8,cy (jR m) m.bP.length 0)))):=by
 have e6:=axN hm (gN m) (I 8);have bY:decide ((8:Int)<9)=true:=rfl;have dR:cL 9 (I 8)=some 8:=rfl;have bk:mB false 1 (8*1) (gN m)=some (D.ef 123 (b2 m.bP)):=rfl;have jn:Hx n [b2 m.bP]=some (I m.bP.length):=by simp only[Hx,aa8,go_sem,jd]
 have fT:bB false .add (I 8) (I 1)=some (I 9):=e5 (by decide) (by decide);by_cases ai:(cy (jR m) m.bP.length 0).2=0;.rw[xac ai]at e6⊢;simp only[h9,go_sem,bY,dR,bk,iJ,Oz,OA,OB,OC,OD,OE,jn,e6,fT]
 rw[xae ai]at e6⊢;simp only[h9,go_sem,bY,dR,bk,iJ,Oz,OA,OB,OC,OD,OE,jn,e6]
theorem axX:bL (h9 n) n [gN m,I 0,br m.vars,aY m.aA,az m.bU,az m.bW,aY m.next,az m.trans,az m.bO,b2 m.bP,I 0,I 0]=some (if(iv (n7 m)).2.2=0 then .inl [I 0,I 0]else .inr (ec (iv (n7 m)))):=by
 have aj:=hm.jG;refine afL (f:=h9 n) (n7 m) (λi=>[gN m,I (i:Int),br m.vars,aY m.aA,az m.bU,az m.bW,aY m.next,az m.trans,az m.bO,b2 m.bP,I 0,I 0]) [I 0,I 0] ec ?_ ?_ n (by show 9<n;omega)
 .intro i a aH
  match i,aH with
  |0,aH=>cases aH;exact axO hm
  |1,aH=>cases aH;exact axP hm
  |2,aH=>cases aH;exact axQ hm
  |3,aH=>cases aH;exact axR hm
  |4,aH=>cases aH;exact axS hm
  |5,aH=>cases aH;exact axT hm
  |6,aH=>cases aH;exact axU hm
  |7,aH=>cases aH;exact axV hm
  |8,aH=>cases aH;exact axW hm
  |j+9,aH=>cases aH
 show h9 n [gN m,I 9,br m.vars,aY m.aA,az m.bU,az m.bW,aY m.next,az m.trans,az m.bO,b2 m.bP,I 0,I 0]=_;simp only[h9,go_sem,show decide ((9:Int)<9)=false from rfl]
theorem axY:oD n [m.d]=some (ec (jo m)):=by
 have aj:=hm.jG;have aa:=axE hm;have lP:=axX hm;have gW:=awC n m.vars hm.kC (by have:=hm.bA.gG;omega) hm.afC;have e3:=axx n m hm.kC hm.bA.gG (by omega);have hC:D.agg [I (m.vars.length:Int),I (m.aA.length:Int),I (m.bU.length:Int),I (m.bW.length:Int),I (m.next.length:Int),I (m.trans.length:Int),I (m.bO.length:Int),I (m.bP.length:Int)]=uu m:=rfl;have afP:D.agg [.ef 117 (aY m.aA),.ef 118 (aY m.aA),.ef 119 (aY m.aA),.ef 121 (.agg [I 3,az m.bU,aI false]),.ef 121 (.agg [I 4,az m.bW,aI false]),.ef 122 (aY m.next),.ef 121 (.agg [I 6,az m.trans,aI true]),.ef 121 (.agg [I 7,az m.bO,aI false]),.ef 123 (b2 m.bP)]=gN m:=rfl;have OG:∀l,bZ (az l)=true:=λ_=>rfl;have fk:∀t x,bZ (D.ef t x)=true:=λ_ _=>rfl;unfold jo;by_cases c1:(cy (iI m) 8 0).2=0
 case neg=>rw[xae c1]at aa⊢;simp only[oD,AE,go_sem,ar.agg,ar.bf,ar.c1,ar.c2,ar.b4,ar.cT,ar.dp,ar.dq,ar.dE,ar.eta,eY,eJ,iu,jd,hC,aa]
 rw[xac c1]at aa⊢;by_cases c2:(kM m.vars).2=0
 case neg=>
  have sE:((kM m.vars).2 !=0)=true:=by simpa using c2
  rw[xae c2];simp only[oD,AE,go_sem,ar.agg,ar.bf,ar.c1,ar.c2,ar.b4,ar.cT,ar.dp,ar.dq,ar.dE,ar.eta,eY,eJ,iu,jd,hC,aa,gW,sE,ec]
 have sE:((kM m.vars).2 !=0)=false:=by simp[c2]
 rw[xac c2];by_cases b4:30<n5 m.vars;.have wm:=yT (((n5 m.vars:Nat):Int)>30);rw[xac b4];simp only[oD,AE,go_sem,ar.agg,ar.bf,ar.c1,ar.c2,ar.b4,ar.cT,ar.dp,ar.dq,ar.dE,ar.eta,eY,eJ,iu,jd,hC,aa,gW,sE,e3,wm,ec]
 have wm:=yF (((n5 m.vars:Nat):Int)>30);rw[xae b4];by_cases cT:(iv (n7 m)).2.2=0;.rw[xac cT]at lP;rw[afO _ cT];simp only[oD,AE,go_sem,ar.agg,ar.bf,ar.c1,ar.c2,ar.b4,ar.cT,ar.dp,ar.dq,ar.dE,ar.eta,eY,eJ,iu,jd,hC,aa,gW,sE,e3,wm,OG,fk,afP,lP,ec]
 rw[xae cT]at lP;simp only[oD,AE,go_sem,ar.agg,ar.bf,ar.c1,ar.c2,ar.b4,ar.cT,ar.dp,ar.dq,ar.dE,ar.eta,eY,eJ,iu,jd,hC,aa,gW,sE,e3,wm,OG,fk,afP,lP]
theorem axZ(h:(sD m).2=0):sD m=(0,0):=by unfold sD at h⊢;obtain⟨J,aa⟩:=afM.1 h;obtain⟨ax,bh⟩:=afM.1 aa;rw[wj,xac J,wj,xac ax,sC _ _ _ bh]
theorem ax0:jD n [I 0,I 0,I 2,br m.vars,aY m.aA,az m.bU,az m.bW,aY m.next,az m.trans,az m.bO,b2 m.bP,I 0,I 0]=some (if(sD m).2=0 then .inl [I 0,I 0,I 3,br m.vars,aY m.aA,az m.bU,az m.bW,aY m.next,az m.trans,az m.bO,b2 m.bP,I 0,I 0]else .inr (.inr (ec (2,sD m)))):=by
 have gQ:=axr hm;have bY:decide ((2:Int)<=8)=true:=rfl;have bR:((2:Int)==2)=true:=rfl;have fT:bB false .add (I 2) (I 1)=some (I 3):=e5 (by decide) (by decide);by_cases ai:(sD m).2=0
 .have bG:=axZ hm ai;rw[bG]at gQ⊢;have hN:((0:Int) !=0)=false:=rfl;simp only[jD,go_sem,bY,bR,ar.eta,gQ,fW,hN,fT]
 rw[xae ai];generalize sD m=p at*;have eR:(p.2 !=0)=true:=by simpa using ai
 simp only[jD,go_sem,bY,bR,ar.eta,gQ,fW,eR,ec]
theorem ax1:jD n [I 0,I 0,I 3,br m.vars,aY m.aA,az m.bU,az m.bW,aY m.next,az m.trans,az m.bO,b2 m.bP,I 0,I 0]=some (if(cy (fb m m.bU false) m.bU.length 0).2=0 then .inl [I 0,I 0,I 4,br m.vars,aY m.aA,az m.bU,az m.bW,aY m.next,az m.trans,az m.bO,b2 m.bP,I 0,I 0]else .inr (.inr (ec (3,cy (fb m m.bU false) m.bU.length 0)))):=by
 have gQ:=Oi hm m.bU hm.bU false;have bY:decide ((3:Int)<=8)=true:=rfl;have bR:((3:Int)==2)=false:=rfl;have cw:((3:Int)==3)=true:=rfl;have fT:bB false .add (I 3) (I 1)=some (I 4):=e5 (by decide) (by decide);by_cases ai:(cy (fb m m.bU false) m.bU.length 0).2=0
 .have bG:=sC _ _ _ ai;rw[bG]at gQ⊢;have hN:((0:Int) !=0)=false:=rfl;simp only[jD,go_sem,bY,bR,cw,ar.eta,gQ,fW,hN,fT]
 rw[xae ai];generalize cy (fb m m.bU false) m.bU.length 0=p at*;have eR:(p.2 !=0)=true:=by simpa using ai
 simp only[jD,go_sem,bY,bR,cw,ar.eta,gQ,fW,eR,ec]
theorem ax2:jD n [I 0,I 0,I 4,br m.vars,aY m.aA,az m.bU,az m.bW,aY m.next,az m.trans,az m.bO,b2 m.bP,I 0,I 0]=some (if(cy (fb m m.bW false) m.bW.length 0).2=0 then .inl [I 0,I 0,I 5,br m.vars,aY m.aA,az m.bU,az m.bW,aY m.next,az m.trans,az m.bO,b2 m.bP,I 0,I 0]else .inr (.inr (ec (4,cy (fb m m.bW false) m.bW.length 0)))):=by
 have gQ:=Oi hm m.bW hm.bW false;have bY:decide ((4:Int)<=8)=true:=rfl;have bR:((4:Int)==2)=false:=rfl;have cw:((4:Int)==3)=false:=rfl;have dX:((4:Int)==4)=true:=rfl;have fT:bB false .add (I 4) (I 1)=some (I 5):=e5 (by decide) (by decide);by_cases ai:(cy (fb m m.bW false) m.bW.length 0).2=0
 .have bG:=sC _ _ _ ai;rw[bG]at gQ⊢;have hN:((0:Int) !=0)=false:=rfl;simp only[jD,go_sem,bY,bR,cw,dX,ar.eta,gQ,fW,hN,fT]
 rw[xae ai];generalize cy (fb m m.bW false) m.bW.length 0=p at*;have eR:(p.2 !=0)=true:=by simpa using ai
 simp only[jD,go_sem,bY,bR,cw,dX,ar.eta,gQ,fW,eR,ec]
theorem ax3:jD n [I 0,I 0,I 5,br m.vars,aY m.aA,az m.bU,az m.bW,aY m.next,az m.trans,az m.bO,b2 m.bP,I 0,I 0]=some (if(cy (jQ m) m.next.length 0).2=0 then .inl [I 0,I 0,I 6,br m.vars,aY m.aA,az m.bU,az m.bW,aY m.next,az m.trans,az m.bO,b2 m.bP,I 0,I 0]else .inr (.inr (ec (5,cy (jQ m) m.next.length 0)))):=by
 have gQ:=axu hm;have bY:decide ((5:Int)<=8)=true:=rfl;have bR:((5:Int)==2)=false:=rfl;have cw:((5:Int)==3)=false:=rfl;have dX:((5:Int)==4)=false:=rfl;have eB:((5:Int)==5)=true:=rfl;have fT:bB false .add (I 5) (I 1)=some (I 6):=e5 (by decide) (by decide);by_cases ai:(cy (jQ m) m.next.length 0).2=0
 .have bG:=sC _ _ _ ai;rw[bG]at gQ⊢;have hN:((0:Int) !=0)=false:=rfl;simp only[jD,go_sem,bY,bR,cw,dX,eB,ar.eta,gQ,fW,hN,fT]
 rw[xae ai];generalize cy (jQ m) m.next.length 0=p at*
 have eR:(p.2 !=0)=true:=by simpa using ai
 simp only[jD,go_sem,bY,bR,cw,dX,eB,ar.eta,gQ,fW,eR,ec]
theorem ax4:jD n [I 0,I 0,I 6,br m.vars,aY m.aA,az m.bU,az m.bW,aY m.next,az m.trans,az m.bO,b2 m.bP,I 0,I 0]=some (if(cy (fb m m.trans true) m.trans.length 0).2=0 then .inl [I 0,I 0,I 7,br m.vars,aY m.aA,az m.bU,az m.bW,aY m.next,az m.trans,az m.bO,b2 m.bP,I 0,I 0]else .inr (.inr (ec (6,cy (fb m m.trans true) m.trans.length 0)))):=by
 have gQ:=Oi hm m.trans hm.trans true;have bY:decide ((6:Int)<=8)=true:=rfl;have bR:((6:Int)==2)=false:=rfl;have cw:((6:Int)==3)=false:=rfl;have dX:((6:Int)==4)=false:=rfl;have eB:((6:Int)==5)=false:=rfl;have fo:((6:Int)==6)=true:=rfl;have fT:bB false .add (I 6) (I 1)=some (I 7):=e5 (by decide) (by decide);by_cases ai:(cy (fb m m.trans true) m.trans.length 0).2=0
 .have bG:=sC _ _ _ ai;rw[bG]at gQ⊢;have hN:((0:Int) !=0)=false:=rfl;simp only[jD,go_sem,bY,bR,cw,dX,eB,fo,ar.eta,gQ,fW,hN,fT]
 rw[xae ai];generalize cy (fb m m.trans true) m.trans.length 0=p at*;have eR:(p.2 !=0)=true:=by simpa using ai
 simp only[jD,go_sem,bY,bR,cw,dX,eB,fo,ar.eta,gQ,fW,eR,ec]
theorem ax5:jD n [I 0,I 0,I 7,br m.vars,aY m.aA,az m.bU,az m.bW,aY m.next,az m.trans,az m.bO,b2 m.bP,I 0,I 0]=some (if(cy (fb m m.bO false) m.bO.length 0).2=0 then .inl [I 0,I 0,I 8,br m.vars,aY m.aA,az m.bU,az m.bW,aY m.next,az m.trans,az m.bO,b2 m.bP,I 0,I 0]else .inr (.inr (ec (7,cy (fb m m.bO false) m.bO.length 0)))):=by
 have gQ:=Oi hm m.bO hm.bO false;have bY:decide ((7:Int)<=8)=true:=rfl;have bR:((7:Int)==2)=false:=rfl;have cw:((7:Int)==3)=false:=rfl;have dX:((7:Int)==4)=false:=rfl;have eB:((7:Int)==5)=false:=rfl;have fo:((7:Int)==6)=false:=rfl;have n3:((7:Int)==7)=true:=rfl;have fT:bB false .add (I 7) (I 1)=some (I 8):=e5 (by decide) (by decide);by_cases ai:(cy (fb m m.bO false) m.bO.length 0).2=0
 .have bG:=sC _ _ _ ai;rw[bG]at gQ⊢;have hN:((0:Int) !=0)=false:=rfl;simp only[jD,go_sem,bY,bR,cw,dX,eB,fo,n3,ar.eta,gQ,fW,hN,fT]
 rw[xae ai];generalize cy (fb m m.bO false) m.bO.length 0=p at*;have eR:(p.2 !=0)=true:=by simpa using ai
 simp only[jD,go_sem,bY,bR,cw,dX,eB,fo,n3,ar.eta,gQ,fW,eR,ec]
theorem ax6:jD n [I 0,I 0,I 8,br m.vars,aY m.aA,az m.bU,az m.bW,aY m.next,az m.trans,az m.bO,b2 m.bP,I 0,I 0]=some (if(cy (jR m) m.bP.length 0).2=0 then .inl [I 0,I 0,I 9,br m.vars,aY m.aA,az m.bU,az m.bW,aY m.next,az m.trans,az m.bO,b2 m.bP,I 0,I 0]else .inr (.inr (ec (8,cy (jR m) m.bP.length 0)))):=by
 have gQ:=axv hm;have bY:decide ((8:Int)<=8)=true:=rfl;have bR:((8:Int)==2)=false:=rfl;have cw:((8:Int)==3)=false:=rfl;have dX:((8:Int)==4)=false:=rfl;have eB:((8:Int)==5)=false:=rfl;have fo:((8:Int)==6)=false:=rfl;have n3:((8:Int)==7)=false:=rfl;have OH:((8:Int)==8)=true:=rfl;have fT:bB false .add (I 8) (I 1)=some (I 9):=e5 (by decide) (by decide);by_cases ai:(cy (jR m) m.bP.length 0).2=0
 .have bG:=sC _ _ _ ai;rw[bG]at gQ⊢;have hN:((0:Int) !=0)=false:=rfl;simp only[jD,go_sem,bY,bR,cw,dX,eB,fo,n3,OH,ar.eta,gQ,fW,hN,fT]
 rw[xae ai];generalize cy (jR m) m.bP.length 0=p at*;have eR:(p.2 !=0)=true:=by simpa using ai
 simp only[jD,go_sem,bY,bR,cw,dX,eB,fo,n3,OH,ar.eta,gQ,fW,eR,ec]
theorem ax7:bL (jD n) n [I 0,I 0,I 2,br m.vars,aY m.aA,az m.bU,az m.bW,aY m.next,az m.trans,az m.bO,b2 m.bP,I 0,I 0]=some (if(iv (n7 m)).2.2=0 then .inl [I 0,I 0]else .inr (ec (iv (n7 m)))):=by
 have aj:=hm.jG;rw[<-axC];refine afL (f:=jD n) (Vy m) (λi=>[I 0,I 0,I ((i+2:Nat):Int),br m.vars,aY m.aA,az m.bU,az m.bW,aY m.next,az m.trans,az m.bO,b2 m.bP,I 0,I 0]) [I 0,I 0] ec ?_ ?_ n (by show 7<n;omega)
 .intro i a aH
  match i,aH with
  |0,aH=>cases aH;exact ax0 hm
  |1,aH=>cases aH;exact ax1 hm
  |2,aH=>cases aH;exact ax2 hm
  |3,aH=>cases aH;exact ax3 hm
  |4,aH=>cases aH;exact ax4 hm
  |5,aH=>cases aH;exact ax5 hm
  |6,aH=>cases aH;exact ax6 hm
  |j+7,aH=>cases aH
 show jD n [I 0,I 0,I 9,br m.vars,aY m.aA,az m.bU,az m.bW,aY m.next,az m.trans,az m.bO,b2 m.bP,I 0,I 0]=_;simp only[jD,go_sem,show decide ((9:Int)<=8)=false from rfl]
theorem ax8:qf n [m.d]=some (ec (jo m)):=by
 have aj:=hm.jG;have aa:=axF hm;have lP:=ax7 hm;have gW:=awI n m.vars hm.kC (by have:=hm.bA.gG;omega) hm.afC;have e3:=axy n m hm.kC hm.bA.gG (by omega);have hC:D.aV 1 [[I (m.vars.length:Int)],[I (m.aA.length:Int)],[I (m.bU.length:Int)],[I (m.bW.length:Int)],[I (m.next.length:Int)],[I (m.trans.length:Int)],[I (m.bO.length:Int)],[I (m.bP.length:Int)]]=D.aV 1 ((iH m).map λ(k:Nat)=>[I (k:Int)]):=rfl;unfold jo;by_cases c1:(cy (iI m) 8 0).2=0
 case neg=>rw[xae c1]at aa⊢;simp only[qf,z1,go_sem,ar.agg,ar.bf,ar.c1,ar.c2,ar.b4,ar.cT,ar.dp,ar.dq,ar.dE,ar.eta,eY,eJ,iu,jd,hC,aa]
 rw[xac c1]at aa⊢;by_cases c2:(kM m.vars).2=0
 case neg=>
  have sE:((kM m.vars).2 !=0)=true:=by simpa using c2
  rw[xae c2];simp only[qf,z1,go_sem,ar.agg,ar.bf,ar.c1,ar.c2,ar.b4,ar.cT,ar.dp,ar.dq,ar.dE,ar.eta,eY,eJ,iu,jd,hC,aa,gW,sE,ec]
 rw[axD c2]at gW;have sE:((0:Int) !=0)=false:=rfl;rw[xac c2];by_cases b4:30<n5 m.vars
 .have wm:=yT (((n5 m.vars:Nat):Int)>30);rw[xac b4];simp only[qf,z1,go_sem,ar.agg,ar.bf,ar.c1,ar.c2,ar.b4,ar.cT,ar.dp,ar.dq,ar.dE,ar.eta,eY,eJ,iu,jd,hC,aa,gW,sE,e3,wm,ec]
 have wm:=yF (((n5 m.vars:Nat):Int)>30);rw[xae b4];by_cases cT:(iv (n7 m)).2.2=0;.rw[xac cT]at lP;rw[afO _ cT];simp only[qf,z1,go_sem,ar.agg,ar.bf,ar.c1,ar.c2,ar.b4,ar.cT,ar.dp,ar.dq,ar.dE,ar.eta,eY,eJ,iu,jd,hC,aa,gW,sE,e3,wm,lP,ec]
 rw[xae cT]at lP;simp only[qf,z1,go_sem,ar.agg,ar.bf,ar.c1,ar.c2,ar.b4,ar.cT,ar.dp,ar.dq,ar.dE,ar.eta,eY,eJ,iu,jd,hC,aa,gW,sE,e3,wm,lP]
end
def Bu(n:Nat):eC:= .slice 4 56 (jN n)
def JI(n:Nat):eC:= .slice 7 104 (.struct [.str,mK n])
def wo(n:Nat):eC:= .struct [LW,xr n,Bu n,Bu n,xr n,Bu n,Bu n,JI n]
def ax9(n:Nat):∀m,m<=n->(Bu n).hZ m=true
 |0,_=>rfl|m+1,h=>by have:=CK n m (by omega);simp only[Bu,eC.hZ,this]
def aya(n:Nat):∀m,m<=n->(JI n).hZ m=true
 |0,_=>rfl|1,_=>by simp[JI,eC.hZ]|m+2,h=>by have J:=R8 n m (by omega);have aa:eC.hZ m .str=true:=xq m .str rfl;simp only[JI,eC.hZ,qM,J,aa,xbu]
def ayb(n:Nat):∀m,m<=n->(wo n).hZ m=true
 |0,_=>rfl|m+1,h=>by have au:eC.hZ m LW=true:=xq m LW rfl;simp only[wo,eC.hZ,qM,au,aaq n m (by omega),ax9 n m (by omega),aya n m (by omega),xbu]
theorem ayc{P:Program}{t tv td tt ts tm tf:TypeId}(h:∀a b c d e f g i,eD P (.struct [a,b,c,d,e,f,g,i]) t=(eD P a tv&&(eD P b td&&(eD P c tt&&(eD P d tt&&(eD P e td&&(eD P f tt&&(eD P g tt&&(eD P i ts&&true))))))))) (aS:eD P LW tv=true) (ay:tD P xr td) (aP:∀y,eD P (.slice 4 56 y) tt=eD P y tm) (hm:tD P jN tm) (aC:∀y,eD P (.slice 7 104 (.struct [.str,y])) ts=(eD P y tf&&true)) (bk:tD P mK tf) (al:decide (t<P.types.size)=true):tD P wo t:=⟨λn=>ayb n n (xaT _),λn=>by rw[wo,h,aS,ay.ok n,Bu,aP,hm.ok n,JI,aC,bk.ok n];rfl,xbd al,λn=>rfl⟩
structure yd(m:ar):Prop where
 v:∀x∈m.vars,V.ok x
 d:∀x∈m.aA,x.Ok
 i:∀x∈m.bU,x.Ok
 sF:∀x∈m.bW,x.Ok
 n:∀x∈m.next,x.Ok
 t:∀x∈m.trans,x.Ok
 f:∀x∈m.bO,x.Ok
 s:∀x∈m.bP,x.name.size<=140737488351232/\x.f.Ok
def ayd{n:Nat}{x:List D}(h:mI (.struct [.str,mK n]) x):∃d:cQ,x=d.cells/\d.name.size<=140737488351232/\d.f.Ok:=by obtain⟨a,b,rfl,aH,c,e,rfl,ai,rfl⟩:=h;obtain⟨s,rfl,aC⟩:=LY aH;obtain⟨t,rfl,aP⟩:=aap n ai;exact⟨⟨s,t⟩,by simp[cQ.cells,Fm.lG],aC,aP⟩
end Go.Am
