/- Laws, on data. No condition. -/
import Derived.Test.YtbninlabhgbhcaaGreatDoorEngC
import Derived.Test.YtbninlabhgbhcaaGreatDoorCode
import Derived.Test.YtbninlabhgbhcaaGreatDoorEngS
import Derived.Test.YtbninlabhgbhcaaGreatDoorEngD
import Derived.Test.YtbninlabhgbhcaaGreatDoorWs
import Derived.Test.YtbninlabhgbhcaaGreatDoorLaws
set_option linter.all false
set_option linter.unnecessarySimpa false
attribute [simp] Go.Am.Ab
namespace Go.Am
section
variable{bt:Bool}{a b:Int}
@[simp] theorem aEB:bD bt .lss (qq a) (.val (.int .u8 b))=some (aK (decide (a<b))):=rfl
@[simp] theorem Pt:bD bt .leq (qq a) (.val (.int .u8 b))=some (aK (decide (a<=b))):=rfl
@[simp] theorem aEC:bD bt .gtr (qq a) (.val (.int .u8 b))=some (aK (decide (a>b))):=rfl
@[simp] theorem Pu:bD bt .geq (qq a) (.val (.int .u8 b))=some (aK (decide (a>=b))):=rfl
@[simp] theorem ax0:bD bt .eql (qq a) (.val (.int .u8 b))=some (aK (a==b)):=rfl
end
def Pv{s:ByteArray}{i:Nat}{b:UInt8}(h:s[i]?=some b):sf (a6 s) (I (i:Int))=some (qq b.toNat):=by simp[sf,a6,I,Lp,h,pM,qq]
def agn{s:ByteArray}{b:UInt8}(h:s[0]?=some b):sf (a6 s) (I 0)=some (qq b.toNat):=Pv (i:=0) h
theorem ago(n:Nat)(c:Int):AQ n [qq c]=some (aK (tS c)):=by simp only[AQ,ab0,tS,Pu,Pt,dQ,dF,aw,bK,ef,oT];cases decide (c>=97)<;>cases decide (c<=122)<;>cases decide (c>=65)<;>cases decide (c<=90)<;>rfl
theorem ax1(n:Nat)(c:Int):Il n [qq c]=some (aK (zH c)):=by simp only[Il,ab1,zH,Pu,Pt,dQ,dF,aw,bK,oT];cases decide (c>=48)<;>cases decide (c<=57)<;>rfl
theorem agp(n:Nat)(c:Int):Im n [qq c]=some (aK (nF c)):=by simp only[Im,ab2,nF,ago,ax1,ax0,dQ,bK,ef,oT];cases tS c<;>cases zH c<;>cases(c==95)<;>rfl
theorem agq(n:Nat)(c:Int):As n [qq c]=some (aK (tS c)):=by simp only[As,abz,tS,Pu,Pt,dQ,dF,aw,bK,ef,oT];cases decide (c>=97)<;>cases decide (c<=122)<;>cases decide (c>=65)<;>cases decide (c<=90)<;>rfl
theorem ax2(n:Nat)(c:Int):Hz n [qq c]=some (aK (zH c)):=by simp only[Hz,abA,zH,Pu,Pt,dQ,dF,aw,bK,oT];cases decide (c>=48)<;>cases decide (c<=57)<;>rfl
def agr(p:Int->Bool)(s:ByteArray):(∀j:Nat,j<oN p s->pL p s j=true)/\pL p s (oN p s)=false/\oN p s<=s.size:=by
 unfold oN;cases h:(List.range (s.size+1)).find? (λi=>!pL p s i)with
 |none=>
  exfalso;have J:=List.find?_eq_none.1 h s.size (by simp);have:pL p s s.size=true:=by simpa using J
  exact absurd (alY this) (xcb _)
 |some m=>rw[List.find?_range_eq_some]at h;obtain⟨J,aa,ax⟩:=h;refine⟨λj aA=>by simpa using ax j aA,by simpa using J,by show m<=s.size;simp at aa;omega⟩
def ags{p:Int->Bool}{s:ByteArray}{i:Nat}(h:pL p s i=true):∃b:UInt8,s[i]?=some b/\p b.toNat=true:=by
 unfold pL at h;split at h;.exact⟨_,by assumption,h⟩
 cases h
def agt{p:Int->Bool}{s:ByteArray}{i:Nat}(h:pL p s i=false):(s[i]?=none/\s.size<=i)\/∃b:UInt8,s[i]?=some b/\i<s.size/\p b.toNat=false:=by
 unfold pL at h;split at h
 .rename_i b aj;refine .inr ⟨b,aj,?_,h⟩;rw[Mi]at aj;by_cases J:i<s.size;.exact J
  rw[dif_neg J]at aj;cases aj
 rename_i aj;refine .inl ⟨aj,?_⟩;rw[Mi]at aj;by_cases J:i<s.size;.rw[dif_pos J]at aj;cases aj
 omega
def ax3(n:Nat)(s:ByteArray)(aN:s.size<n)(az:s.size<=9223372036854775807):DY n [a6 s,.val (.func (.func Hy) #[] #[])]=some (I (oN nF s)):=by
 obtain⟨J,aa,ax⟩:=agr nF s;have key:bJ (Io n) n [a6 s,I 0]=some (.inl [I (oN nF s)]):=by
  refine nd (λi=>[a6 s,I i]) (oN nF s) rfl ?_ ?_ (by omega);.intro i ag;obtain⟨b,aj,aU⟩:=ags (J i ag);simp(disch:=omega) [Io,Pv aj,agp,aU,e9,show i<s.size by omega]
  rcases agt aa with⟨aj,aU⟩|⟨b,aj,b6,aU⟩;.simp[Io,show¬(oN nF s<s.size) by omega]
  simp[Io,Pv aj,agp,aU,b6]
 simp[DY,T0,key]
def ax4(n:Nat)(s:ByteArray)(aN:s.size<n)(az:s.size<=9223372036854775807):HB n [a6 s,I 0,aK false]=some (I (oN nF s)):=by
 obtain⟨J,aa,ax⟩:=agr nF s;have one:∀(i:Nat)(b:UInt8),s[i]?=some b->i<s.size->HA n [a6 s,I i,aK false]=if nF b.toNat=true then some (.inl [a6 s,I (i+1:Nat),aK false])else some (.inr (.inl [I i])):=by intro i b aj ag;simp(disch:=omega) [HA,Pv aj,ax2,agq,nF,e9,ag];by_cases ax5:((b.toNat:Int)=95)<;>cases zH b.toNat<;>cases tS b.toNat<;>simp[ax5]
 have key:bJ (HA n) n [a6 s,I 0,aK false]=some (.inl [I (oN nF s)]):=by
  refine nd (λi=>[a6 s,I i,aK false]) (oN nF s) rfl ?_ ?_ (by omega);.intro i ag;obtain⟨b,aj,aU⟩:=ags (J i ag);rw[one i b aj (by omega),xac aU]
  rcases agt aa with⟨aj,aU⟩|⟨b,aj,b6,aU⟩;.simp[HA,show¬(oN nF s<s.size) by omega]
  rw[one _ b aj b6,xae (by simp[aU])]
 simp[HB,abB,key]
def wO(p:Nat->Prop)[DecidablePred p]:∀m:Nat,(∀j:Nat,j<m->¬p j)\/∃i,i<m/\p i/\∀j:Nat,j<i->¬p j
 |0=> .inl (by intro j aA;omega)
 |m+1=>by
  rcases wO p m with h|⟨i,J,aa,ax⟩
  .by_cases hm:p m;.exact .inr ⟨m,by omega,hm,h⟩
   refine .inl λj aA=>?_;by_cases ax6:j=m;.subst ax6;exact hm
   exact h j (by omega)
  exact .inr ⟨i,by omega,aa,ax⟩
def ax7(n:Nat)(l:List ByteArray)(x:ByteArray)(aN:l.length<n)(al:l.length<4000000000000000000):D0 n [dH l,a6 x]=some (I (idxOf x l)):=by
 have step:∀(i:Nat)(y:ByteArray),l[i]?=some y->i<l.length->DZ n [dH l,a6 x,I l.length,I i]=if x=y then some (.inr (.inr (I i)))else some (.inl [dH l,a6 x,I l.length,I (i+1:Nat)]):=by intro i y aH ag;obtain⟨_,rfl⟩:=xaa.1 aH;simp(disch:=omega) [DZ,dH,aH,ag,e9]
 rcases wO (λi=>l[i]?=some x) l.length with h|⟨i,J,aa,ax⟩
 .have key:bJ (DZ n) n [dH l,a6 x,I l.length,I 0]=some (.inl []):=by
   refine nd (λi=>[dH l,a6 x,I l.length,I i]) l.length rfl ?_ ?_ aN;.intro i ag;have aH:=xab ag;rw[step i _ aH ag,xae];intro he;exact h i ag (by rw[aH,he])
   simp[DZ]
  have e:(dH l)= .aW 1 (l.map λs=>[a6 s]):=rfl;simp[D0,T1,Zq h];rw[e]at key⊢;simp[key]
 have key:bJ (DZ n) n [dH l,a6 x,I l.length,I 0]=some (.inr (I i)):=by
  refine nd (λi=>[dH l,a6 x,I l.length,I i]) i rfl ?_ ?_ (by omega);.intro j aA;have aH:=xab (show j<l.length by omega);rw[step j _ aH (by omega),xae];intro he;exact ax j aA (by rw[aH,he])
  rw[step i x aa J,xac rfl]
 simp[D0,T1,Zr ax aa];have e:(dH l)= .aW 1 (l.map λs=>[a6 s]):=rfl;rw[e]at key⊢;simp[key]
def ax8(n:Nat)(l:List ByteArray)(x:ByteArray)(aN:l.length<n)(al:l.length<4000000000000000000):Ip n [dH l,a6 x]=some (aK (has x l)):=by simp[Ip,ab3,ax7 n l x aN al,Zs]
def ax9(n:Nat)(l:List ByteArray)(x:ByteArray)(aN:l.length<n)(al:l.length<4000000000000000000):DH n [dH l,a6 x]=some (aK (has x l)):=by
 have step:∀(i:Nat)(y:ByteArray),l[i]?=some y->i<l.length->DG n [dH l,a6 x,I i]=if y=x then some (.inr (.inr (aK true)))else some (.inl [dH l,a6 x,I (i+1:Nat)]):=by intro i y aH ag;obtain⟨_,rfl⟩:=xaa.1 aH;simp(disch:=omega) [DG,dH,aH,ag,e9]
 rcases wO (λi=>l[i]?=some x) l.length with h|⟨i,J,aa,ax⟩
 .have key:bJ (DG n) n [dH l,a6 x,I 0]=some (.inl []):=by
   refine nd (λi=>[dH l,a6 x,I i]) l.length rfl ?_ ?_ aN;.intro i ag;have aH:=xab ag;rw[step i _ aH ag,xae];intro he;exact h i ag (by rw[aH,he])
   simp[DG,dH]
  simp[DH,Tn,key,Zu h]
 have key:bJ (DG n) n [dH l,a6 x,I 0]=some (.inr (aK true)):=by
  refine nd (λi=>[dH l,a6 x,I i]) i rfl ?_ ?_ (by omega);.intro j aA;have aH:=xab (show j<l.length by omega);rw[step j _ aH (by omega),xae];intro he;exact ax j aA (by rw[aH,he])
  rw[step i x aa J,xac rfl]
 simp[DH,Tn,key,Zt aa]
theorem aya(n:Nat):Ni n []=some (dH words):=rfl
theorem ayb:(D.aW 1 (Hx.map λc=>[c]))=dH words:=rfl
def Wh(n:Nat)(s:ByteArray)(aN:s.size+24<n)(az:s.size<=9223372036854775807):ux n [a6 s]=some (aK (isName s)):=by
 have hw:words.length=24:=rfl;have J:=ax3 n s (by omega) az;have aa:=ax8 n words s (by omega) (by omega);rcases Zv s with⟨fH,bF⟩|⟨b,fH,bF,aj⟩
 .simp[ux,T2,fH,isName,bF]
 simp only[ux,T2,isName,pL,aj,agn aj,ago,J,aa,ayb,aaU,fH,bF,SU,MX,Dt,Du,dQ,dF,aw,bK,oT];cases decide ((s.size:Int)<=24)<;>cases tS b.toNat<;>cases((oN nF s:Int)==(s.size:Int))<;>cases has s words<;>rfl
def Wi(n:Nat)(s:ByteArray)(aN:s.size+24<n)(az:s.size<=9223372036854775807):um n [a6 s]=some (aK (isName s)):=by
 have hw:words.length=24:=rfl;have J:=ax4 n s (by omega) az;have aa:=ax9 n words s (by omega) (by omega);rcases Zv s with⟨fH,bF⟩|⟨b,fH,bF,aj⟩
 .simp only[um,To,SU,Ds,dQ,bF,dF,aw,bK,oT];simp[isName,bF]
 simp only[um,To,isName,pL,aj,agn aj,agq,J,aa,aya,bF,SU,MX,Ds,Dt,Du,dQ,dF,aw,bK,oT];cases decide ((s.size:Int)<=24)<;>cases tS b.toNat<;>cases((oN nF s:Int)==(s.size:Int))<;>cases has s words<;>rfl
def ayc(n:Nat)(w v:V):D1 n [w.d,.ref v.cells 0]=some (aK (decide (w.name=v.name))):=by simp[D1,T3,V.d,V.cells]
def ayd(n:Nat)(l:List V)(v:V)(aN:l.length<n)(al:l.length<4000000000000000000):AS n [bu l,.fn (.func uk) [] [.ref v.cells 0]]=some (I (idxOf v.name (l.map V.name))):=by
 have hle:(l.map V.name).length=l.length:=by simp
 have step:∀(i:Nat)(y:V),l[i]?=some y->i<l.length->AR n [bu l,.ref v.cells 0,I l.length,I i]=if y.name=v.name then some (.inr (.inr (I i)))else some (.inl [bu l,.ref v.cells 0,I l.length,I (i+1:Nat)]):=by intro i y aH ag;obtain⟨_,rfl⟩:=xaa.1 aH;have J:=ayc n l[i] v;simp only[V.d,V.cells]at J;simp(disch:=omega) [AR,bu,ag,e9,V.cells,J]
 have bT:∀x,AS n [bu l,.fn (.func uk) [] [x]]=ab (bJ (AR n) n [bu l,x,I l.length,I 0]) (bo λls=>some (I (-1))):=by intro x;simp only[AS,ot,T4,b7];simp[bu]
 rw[bT];rcases wO (λi=>(l.map V.name)[i]?=some v.name) l.length with h|⟨i,J,aa,ax⟩
 .have key:bJ (AR n) n [bu l,.ref v.cells 0,I l.length,I 0]=some (.inl []):=by
   refine nd (λi=>[bu l,.ref v.cells 0,I l.length,I i]) l.length rfl ?_ ?_ aN;.intro i ag;have aH:=xab ag;rw[step i _ aH ag,xae];intro he;exact h i ag (by rw[xah,aH,<-he];rfl)
   simp[AR]
  rw[key,Zq (by rw[hle];exact h)];rfl
 have key:bJ (AR n) n [bu l,.ref v.cells 0,I l.length,I 0]=some (.inr (I i)):=by
  refine nd (λi=>[bu l,.ref v.cells 0,I l.length,I i]) i rfl ?_ ?_ (by omega);.intro j aA;have aH:=xab (show j<l.length by omega);rw[step j _ aH (by omega),xae];intro he;exact ax j aA (by rw[xah,aH,<-he];rfl)
  have aH:=xab J;rw[step i _ aH J,xac];rw[xah,aH]at aa;simpa using aa
 rw[key,Zr ax aa];rfl
def aye(n:Nat)(l:List V)(v:V)(aN:l.length<n)(al:l.length<4000000000000000000):D2 n [bu l,.fn (.func uk) [] [.ref v.cells 0]]=some (aK (has v.name (l.map V.name))):=by simp only[D2,ot,T5,ayd n l v aN al,bK];simp[Zs]
def Wj{k:Nat}{es:List (List D)}{i:Nat}(h:i<=es.length):og k (.aW k es) none (some (I (i:Int)))=some (.aW k (es.take i)):=by simp[og,qs,I,h]
def Wk(v:V):Bool:=v.bool&&(v.lo !=0||v.ag !=0)
def Wl(v:V):Bool:=!v.bool&&(decide (v.lo>v.ag)||vF v||decide (IntKind.i64.wrap (v.ag-v.lo)>=64))
theorem agu(seen:List V)(v:V):C7 seen v=if !isName v.name then 12 else if has v.name (seen.map V.name)then 6 else if Wk v then 3 else if Wl v then 2 else 0:=rfl
def l6(l:List V):Prop:=l.length<1000000000000/\∀v∈l,mX v.lo/\mX v.ag/\v.name.size<=9223372036854775807
def Wm(n:Nat)(l:List V)(al:l6 l)(aN:l.length<n)(jF:∀v∈l,v.name.size+24<n)(i:Nat)(ag:i<l.length):AT n [bu l,bu l,I l.length,I i]=if jL l i=0 then some (.inl [bu l,bu l,I l.length,I (i+1:Nat)])else some (.inr (.inr (.aZ [I i,I (jL l i)]))):=by
 have aH:=xab ag;have aS:=al.2 _ (xbc ag);have bI:=al.1;have e:jL l i=C7 (l.take i) l[i]:=by simp only[jL,aH]
 rw[e];generalize hw:l[i]=v at*;have J:=Wh n v.name (jF v (hw▸xbc ag)) (by omega);have aa:=aye n (l.take i) v (by rw[xbB];omega) (by rw[xbB];omega);have ax:og 4 (bu l) none (some (I (i:Int)))=some (bu (l.take i)):=by rw[bu,Wj (by simp;omega),List.map_take.symm];rfl
 have bj:b3 4 (bu l) (I (i:Int))=some v.cells:=by simp[bu,aH,hw]
 have ca:bD false .lss (I (i:Int)) (I (l.length:Int))=some (aK true):=by simp[ag]
 have cR:bD false .add (I (i:Int)) (I 1)=some (I (i+1:Nat)):=by rw[e9 (by omega) (by omega)];rfl
 have fP:bD false .sub (I v.ag) (I v.lo)=some (I (IntKind.i64.wrap (v.ag-v.lo))):=rfl;have iu:bM true 4 0 v.cells=some v.d:=rfl;have iV:dO 4 v.d=true:=rfl;have bc:ae v.d 0=a6 v.name:=rfl;have c1:ae v.d 1=aK v.bool:=rfl;have c2:ae v.d 2=I v.lo:=rfl;have b8:ae v.d 3=I v.ag:=rfl;have c3:(D.ref [a6 v.name,aK v.bool,I v.lo,I v.ag] 0)= .ref v.cells 0:=rfl;have g1:vF v=(decide ((if v.ag>v.lo then v.ag else v.lo)>255)||decide ((if v.ag<v.lo then v.ag else v.lo)< -255)):=rfl;rw[agu];simp only[AT,qB,sr,ca,dQ,mo,xaG,bj,iu,iV,rm,bc,c1,c2,b8,c3,S8,aa7,J,aa,ax,Du,pU,G9,aa8,Ac,cR,fP,Ds,dF,aw,aF,bw,bK,ef,gh];rw[Wk,Wl,g1];cases isName v.name
 .cases decide ((if v.ag>v.lo then v.ag else v.lo)>255)<;>simp
 cases has v.name ((l.take i).map V.name)
 rotate_left
 .cases decide ((if v.ag>v.lo then v.ag else v.lo)>255)<;>simp
 generalize decide ((if v.ag>v.lo then v.ag else v.lo)>255)=ei;generalize decide ((if v.ag<v.lo then v.ag else v.lo)< -255)=eu;generalize decide (v.lo>v.ag)=gS;generalize decide (IntKind.i64.wrap (v.ag-v.lo)>=64)=tP;generalize (v.lo !=0)=xp;generalize (v.ag !=0)=xq;cases v.bool<;>cases ei<;>cases eu<;>cases gS<;>cases tP<;>cases xp<;>cases xq<;>rfl
def ayf(n:Nat)(l:List V)(al:l6 l)(aN:l.length<n)(jF:∀v∈l,v.name.size+24<n):D3 n [bu l]=some (.aZ [I (k1 l).1,I (k1 l).2]):=by
 have bT:D3 n [bu l]=ab (bJ (AT n) n [bu l,bu l,I l.length,I 0]) (bo λls=>some (D.aZ [I 0,I 0])):=by simp[D3,ab4,bu]
 rw[bT];rcases wO (λi=>jL l i≠0) l.length with h|⟨i,J,aa,ax⟩
 .have bB:∀j:Nat,j<l.length->jL l j=0:=λj aA=>by simpa using h j aA
  have key:bJ (AT n) n [bu l,bu l,I l.length,I 0]=some (.inl []):=by
   refine nd (λi=>[bu l,bu l,I l.length,I i]) l.length rfl ?_ ?_ aN;.intro i ag;rw[Wm n l al aN jF i ag,xac (bB i ag)]
   simp[AT]
  rw[key,Zx bB];rfl
 have bB:∀j:Nat,j<i->jL l j=0:=λj aA=>by simpa using ax j aA
 have key:bJ (AT n) n [bu l,bu l,I l.length,I 0]=some (.inr (.aZ [I i,I (jL l i)])):=by
  refine nd (λi=>[bu l,bu l,I l.length,I i]) i rfl ?_ ?_ (by omega);.intro j aA;rw[Wm n l al aN jF j (by omega),xac (bB j aA)]
  rw[Wm n l al aN jF i J,xae aa]
 rw[key,Zw bB J rfl aa];rfl
@[simp] theorem agv {a:Int}:k2 .u64 (I a)=some (.val (.int .u64 (IntKind.u64.wrap a))):=rfl
theorem Pw{k:IntKind}{a:Int}:k2 .i64 (.val (.int k a))=some (I (IntKind.i64.wrap a)):=rfl
def Wn(n:Nat)(v:V)(J:mX v.lo)(aa:mX v.ag):wh n [v.d]=some (I v.span):=by
 have c1:ae v.d 1=aK v.bool:=rfl;have c2:ae v.d 2=I v.lo:=rfl;have b8:ae v.d 3=I v.ag:=rfl;have iV:dO 4 v.d=true:=rfl;simp only[wh,ab5,iV,rm,c1,c2,b8,mo,pU,dQ,agv,Pw,aw,bw,bK,oT];cases aj:v.bool with
 |true=>simp[V.Zo aj]
 |false=>
  by_cases b6:v.lo>v.ag;.simp[V.Zp aj b6,b6]
  have hle:v.lo<=v.ag:=by omega
  have aM:bD false .sub (.val (.int .u64 (IntKind.u64.wrap v.ag))) (.val (.int .u64 (IntKind.u64.wrap v.lo)))=some (.val (.int .u64 (v.ag-v.lo))):=by show some (D.val (.int .u64 (IntKind.u64.wrap (IntKind.u64.wrap v.ag-IntKind.u64.wrap v.lo))))=_;rw[Zn J aa hle]
  have a8:bD false .lss (.val (.int .u64 (v.ag-v.lo))) (.val (.int .u64 1073741824))=some (aK (decide (v.ag-v.lo<1073741824))):=rfl;simp only[b6,decide_false,xar,xaI,aM,a8,dQ,mo];by_cases hm:v.ag-v.lo<1073741824;.rw[V.RG aj hle hm];simp only[hm,decide_true,xaG,Pw,dQ,wrap64 _ (show-9223372036854775808<=v.ag-v.lo by omega) (by omega)];rw[e9 (by omega) (by omega)];rfl
  rw[V.RH aj hle (by omega)];simp[hm]
def Ff(n:Nat)(v:V)(J:mX v.lo)(aa:mX v.ag):pW n [v.d]=some (I v.span):=by
 have c1:ae v.d 1=aK v.bool:=rfl;have c2:ae v.d 2=I v.lo:=rfl;have b8:ae v.d 3=I v.ag:=rfl;have iV:dO 4 v.d=true:=rfl;simp only[pW,abD,iV,rm,c1,c2,b8,mo,pU,dQ,agv,aw,aF,bw,bK,dP,oT];cases aj:v.bool with
 |true=>simp[V.Zo aj]
 |false=>
  by_cases b6:v.lo>v.ag;.simp[V.Zp aj b6,b6]
  have hle:v.lo<=v.ag:=by omega
  have aM:bD false .sub (.val (.int .u64 (IntKind.u64.wrap v.ag))) (.val (.int .u64 (IntKind.u64.wrap v.lo)))=some (.val (.int .u64 (v.ag-v.lo))):=by show some (D.val (.int .u64 (IntKind.u64.wrap (IntKind.u64.wrap v.ag-IntKind.u64.wrap v.lo))))=_;rw[Zn J aa hle]
  have a8:bD false .gtr (.val (.int .u64 (v.ag-v.lo))) (.val (.int .u64 1073741824))=some (aK (decide (v.ag-v.lo>1073741824))):=rfl;simp only[b6,decide_false,xar,xaI,aM,a8,dQ,mo];by_cases hm:v.ag-v.lo>1073741824;.rw[V.RH aj hle (by omega)];simp only[hm,decide_true,xaG,dQ,rn,qB,Pw];rfl
  simp only[hm,decide_false,xar,xaI,dQ,rn,qB,Pw,dP,aw,bK,wrap64 _ (show-9223372036854775808<=v.ag-v.lo by omega) (by omega)];rw[e9 (by omega) (by omega)];simp only[dQ];by_cases he:v.ag-v.lo=1073741824;.rw[V.RH aj hle (by omega),he];rfl
  rw[V.RG aj hle (by omega)]
def V.Cd(v:V):0<=v.span/\v.span<=1073741825:=by
 unfold V.span;split;.omega
 split;.omega
 split<;>omega
def ayg{i:Nat}(h:i<=62):((2:Int)^i)<=4611686018427387904/\0<(2:Int)^i:=by
 have J:(2:Nat)^i<=2^62:=Nat.pow_le_pow_right (by omega) h;have ax:((2^i:Nat):Int)=2^i:=by simp
 have aa:(0:Int)<2^i:=Int.pow_pos (by omega);omega
def agw{bt:Bool}{i:Nat}(h:i<=62):bD bt .shl (I 1) (I (i:Int))=some (I ((2:Int)^i)):=by
 have V6:¬((i:Int)<0):=by omega
 have hm:min i IntKind.i64.bits=i:=by simp[IntKind.bits];omega
 obtain⟨J,aa⟩:=ayg h;have e:IntKind.i64.wrap (1*2^(min i IntKind.i64.bits))=2^i:=by rw[hm,Int.one_mul];exact wrap64 _ (by omega) (by omega)
 simp only[bD,I,pM,V6,xaI,Int.toNat_natCast];rw[e]
def Fg{n:Int}(h:n<=1073741825):bitsOf n<=62/\(∀j:Nat,j<bitsOf n->(2:Int)^j<n)/\n<=2^bitsOf n:=by
 rcases wO (λi=>n<=(2:Int)^i) 40 with J|⟨i,J,aa,ax⟩;.exact absurd h (by have:=J 39 (by omega);simp at this;omega)
 have iH:∀j:Nat,j<i->(2:Int)^j<n:=λj aA=>by have:=ax j aA;omega
 rw[alX iH aa];exact⟨by omega,iH,aa⟩
def ayh(n:Nat)(k:Int)(ai:k<=1073741825)(aN:63<n):Ir n [I k]=some (I (bitsOf k)):=by
 obtain⟨J,aa,ax⟩:=Fg ai;have key:bJ (Nw n) n [I k,I 0]=some (.inr (I (bitsOf k))):=by
  refine nd (λi=>[I k,I i]) (bitsOf k) rfl ?_ ?_ (by omega);.intro i ag;have:=aa i ag;simp(disch:=omega) [Nw,agw,e9,show((i:Int)<63) by omega,show¬(k<=(2:Int)^i) by omega]
  simp(disch:=omega) [Nw,agw,show((bitsOf k:Int)<63) by omega,ax]
 simp[Ir,ab6,key]
def ayi(n:Nat)(k:Int)(ar:-1000<=k)(ai:k<=1073741825)(aN:63<n):HG n [I k]=some (I (bitsOf k)):=by
 have key:∀(m:Nat)(k:Int)(acc gz:Nat),bitsOf k=m->k<=1073741825->acc+m<=1000->m<gz->bJ (Nj n) gz [I k,I acc]=some (.inl [I (acc+m:Nat)]):=by
  intro m
  induction m with
  |zero=>
   intro k acc gz hm ai aG zq;obtain⟨gz,rfl⟩:∃q,gz=q+1:=⟨gz-1,by omega⟩;have lS:¬k>1:=by intro ah;have:=Zm ah;omega
   rw[lx];simp[Nj,lS]
  |succ m ih=>
   intro k acc gz hm ai aG zq;obtain⟨gz,rfl⟩:∃q,gz=q+1:=⟨gz-1,by omega⟩;have lS:k>1:=by
    refine xbi λah=>?_;have:bitsOf k=0:=by unfold bitsOf;rw[xac (by omega)]
    omega
   have bQ:=Zm lS;have aM:k.tdiv 2=k/2:=Int.tdiv_eq_ediv_of_nonneg (by omega);have a8:k.tmod 2=k%2:=Int.tmod_eq_emod_of_nonneg (by omega);have hle:=(Fg ai).1;have zb:=ih (k/2+k%2) (acc+1) gz (by omega) (by omega) (by omega) (by omega);rw[lx];simp(disch:=omega) [Nj,lS,aaT,Ha,aM,a8,wrap64,e9];have b0:((acc:Int)+1)=((acc+1:Nat):Int):=by omega
   rw[b0,zb]
   congr 4
   omega
 have:=key (bitsOf k) k 0 n rfl ai (by have:=(Fg ai).1;omega) (by have:=(Fg ai).1;omega);simp only[xax]at this;have e:(I ((0:Nat):Int))=I 0:=rfl;rw[e]at this;simp[HG,abE,this]
theorem agx(n:Nat)(k:Int):DI n [I k]=some (aK (decide (k>=-255)&&decide (k<=255))):=by simp only[DI,abC,Ds,MX,dQ,dF,aw,bK,oT];cases decide (k>=-255)<;>cases decide (k<=255)<;>rfl
def Wo(n:Nat)(l:List V)(i k:Nat)(ag:i<l.length)(ai:k<i)(bI:l.length<1000000000000):HC n [bu l,I i,I k]=if(l[k]'(by omega)).name=l[i].name then some (.inr (.inr (.inr (.inr (.inr (.aZ [I i,I 6]))))))else some (.inl [bu l,I i,I (k+1:Nat)]):=by
 have sc:k<l.length:=by omega
 have J:l[k]?=some l[k]:=xab sc;have aa:l[i]?=some l[i]:=xab ag;simp(disch:=omega) [HC,bu,ai,e9,sc,ag,V.cells]
def ayj(n:Nat)(l:List V)(i:Nat)(ag:i<l.length)(bI:l.length<1000000000000)(aN:l.length<n):bJ (HC n) n [bu l,I i,I 0]=if has l[i].name ((l.take i).map V.name)=true then some (.inr (.inr (.inr (.inr (.aZ [I i,I 6])))))else some (.inl [bu l,I i]):=by
 rcases wO (λk=>(l.map V.name)[k]?=some l[i].name) i with h|⟨k,J,aa,ax⟩
 .rw[al0 h,xae (by simp)];refine nd (λk=>[bu l,I i,I k]) i rfl ?_ ?_ (by omega);.intro k ai;rw[Wo n l i k ag ai bI,xae];intro he;refine h k ai ?_;rw[xah,xab (show k<l.length by omega),<-he];rfl
  simp[HC]
 have iY:k<l.length:=by omega
 have hw:=xab iY;have L7:(l[k]).name=l[i].name:=by rw[xah,hw]at aa;simpa using aa
 rw[<-L7,al1 J hw,xac rfl];refine nd (λk=>[bu l,I i,I k]) k rfl ?_ ?_ (by omega);.intro j aA;rw[Wo n l i j ag (by omega) bI,xae];intro he;refine ax j aA ?_;rw[xah,xab (show j<l.length by omega),<-he];rfl
 rw[Wo n l i k ag J bI,xac L7]
def Wp(n:Nat)(l:List V)(al:l6 l)(aN:l.length<n)(jF:∀v∈l,v.name.size+24<n)(i:Nat)(ag:i<l.length):Au n [bu l,I i]=if jL l i=0 then some (.inl [bu l,I (i+1:Nat)])else some (.inr (.inr (.aZ [I i,I (jL l i)]))):=by
 have aH:=xab ag;have aS:=al.2 _ (xbc ag);have bI:=al.1;have fP:=ayj n l i ag al.1 aN;have e:jL l i=C7 (l.take i) l[i]:=by simp only[jL,aH]
 rw[e];generalize hw:l[i]=v at*;have J:=Wi n v.name (jF v (hw▸xbc ag)) (by omega);have bj:b3 4 (bu l) (I (i:Int))=some v.cells:=by simp[bu,aH,hw]
 have ca:bD false .lss (I (i:Int)) (I (l.length:Int))=some (aK true):=by simp[ag]
 have ayk:fW (bu l)=some (I l.length):=by simp[bu]
 have cR:bD false .add (I (i:Int)) (I 1)=some (I (i+1:Nat)):=by rw[e9 (by omega) (by omega)];rfl
 have iu:bM true 4 0 v.cells=some v.d:=rfl;have bc:bM false 1 0 v.cells=some (a6 v.name):=rfl;have c1:bM false 1 1 v.cells=some (aK v.bool):=rfl;have c2:bM false 1 2 v.cells=some (I v.lo):=rfl;have b8:bM false 1 3 v.cells=some (I v.ag):=rfl;have iV:=Ff n v aS.1 aS.2.1;rw[agu];rw[show Wl v=_ from alZ ⟨aS.1,aS.2.1,by omega⟩];simp only[Au,qB,sr,ayk,ca,dQ,mo,xaG,bj,iu,bc,c1,c2,b8,J,fP,Du,pU,G9,Ac,cR,Ds,agx,iV,dF,aw,aF,bK,b7,ek];rw[Wk];cases isName v.name
 .simp
 cases has v.name ((l.take i).map V.name)
 rotate_left
 .simp
 simp only[Bool.not_true,xar,xaI,dQ,rn,dF,ef,bK,aw,b7,aF,dP,ek,hU,gh,jP,qB,sr,bj,iu,bc,c1,c2,b8,pU,Ac,agx,iV,Du];generalize (decide (v.lo>=-255)&&decide (v.lo<=255))=ei;generalize (decide (v.ag>=-255)&&decide (v.ag<=255))=eu;generalize decide (v.lo>v.ag)=gS;generalize decide (v.span>64)=tP;generalize (v.lo !=0)=xp;generalize (v.ag !=0)=xq;cases v.bool<;>cases ei<;>cases eu<;>cases gS<;>cases tP<;>cases xp<;>cases xq<;>simp[cR]
def ayl(n:Nat)(l:List V)(al:l6 l)(aN:l.length<n)(jF:∀v∈l,v.name.size+24<n):HF n [bu l]=some (.aZ [I (k1 l).1,I (k1 l).2]):=by
 have bT:HF n [bu l]=ab (bJ (Au n) n [bu l,I 0]) (bo λls=>some (D.aZ [I 0,I 0])):=rfl;rw[bT];rcases wO (λi=>jL l i≠0) l.length with h|⟨i,J,aa,ax⟩
 .have bB:∀j:Nat,j<l.length->jL l j=0:=λj aA=>by simpa using h j aA
  have key:bJ (Au n) n [bu l,I 0]=some (.inl []):=by
   refine nd (λi=>[bu l,I i]) l.length rfl ?_ ?_ aN;.intro i ag;rw[Wp n l al aN jF i ag,xac (bB i ag)]
   simp[Au,bu]
  rw[key,Zx bB];rfl
 have bB:∀j:Nat,j<i->jL l j=0:=λj aA=>by simpa using ax j aA
 have key:bJ (Au n) n [bu l,I 0]=some (.inr (.aZ [I i,I (jL l i)])):=by
  refine nd (λi=>[bu l,I i]) i rfl ?_ ?_ (by omega);.intro j aA;rw[Wp n l al aN jF j (by omega),xac (bB j aA)]
  rw[Wp n l al aN jF i J,xae aa]
 rw[key,Zw bB J rfl aa];rfl
def o7(l:List cU)(x:ByteArray):Option Nat:=l.findIdx? (λd=>decide (d.name=x))
def gx:Option Nat->Int
 |some i=>(i:Int)|none=>-1
def Fh(o:Option Nat):decide (gx o>=0)=o.isSome:=by cases o with|none=>rfl|some i=>simp[gx]
def agy(o:Option Nat):decide (gx o<0)=o.isNone:=by cases o with|none=>rfl|some i=>exact yF ((i:Int)<0)
def findIdx_cons{α:Type}(p:α->Bool)(a:α)(r:List α):(a::r).findIdx? p=if p a then some 0 else(r.findIdx? p).map (·+1):=by rw[xbZ]
theorem V.na(v:V):ae v.d 0=a6 v.name:=rfl
theorem V.a4(v:V):bM true 4 0 v.cells=some v.d:=rfl
theorem V.g4(v:V):dO 4 v.d=true:=rfl
theorem bA.na(v:bA):ae v.d 0=a6 v.name:=rfl
theorem bA.a5(v:bA):bM true 5 0 v.cells=some v.d:=rfl
def bA.g5(v:bA):dO 5 v.d=true:=by unfold bA.d bA.cells;simp
theorem cU.na(v:cU):ae v.d 0=a6 v.name:=rfl
theorem cU.mr(v:cU):bM true 7 0 v.cells=some v.d:=rfl
def cU.g7(v:cU):dO 7 v.d=true:=cU.agg v
def aym(n:Nat)(d:V)(x:ByteArray):Jc n [d.d,.ref [a6 x] 0]=some (aK (decide (d.name=x))):=by show NV n d.d [a6 x]=_;simp only[NV,go_sem,jj,V.g4,V.na]
def ayn(n:Nat)(l:List V)(x:ByteArray)(aN:l.length<n)(aj:l.length<1000000000):Be n [bu l,D.fn (.func sA) [] [.ref [a6 x] 0]]=some (I (gx (eB l x))):=by
 have bT:(I ((0:Nat):Int))=I 0:=rfl;have ag:=dy (f:=Jd n) l (λi (_:Unit)=>[bu l,.ref [a6 x] 0,I l.length,I (i:Int)]) (λr _=>match eB r x with|some j=>(Sum.inr (I ((l.length-r.length+j:Nat):Int)):List D⊕D)|none=> .inl []) (λ_ _=>True) ?_ ?_ n 0 () trivial (by omega) (xai _)
 .rw[bT,xal,xca]at ag;have bQ:Be n [bu l,D.fn (.func sA) [] [.ref [a6 x] 0]]=Je n (bu l) (.ref [a6 x] 0):=by
   simp only[Be,ot]
  rw[bQ];cases bU:eB l x with|none=>rw[bU]at ag;simp only[Je,go_sem,e5,ag,gx]|some j=>rw[bU]at ag;simp only[xax]at ag;simp only[Je,go_sem,e5,ag,gx]
 .intro _ _;have:eB [] x=none:=rfl;simp only[Jd,go_sem,yF ((l.length:Int)<l.length),this]
 intro i a _ aG ag _;have cq:=yT ((i:Int)<(l.length:Int));have ah:eB (a::l.drop (i+1)) x=if decide (a.name=x)=true then some 0 else(eB (l.drop (i+1)) x).map (·+1):=findIdx_cons _ a _
 have e:l.length-(a::l.drop (i+1)).length=i:=by simp;omega
 have dx:l.length-(l.drop (i+1)).length=i+1:=by simp;omega
 have J:=aym n a x;by_cases ad:a.name=x;.right;rw[xao ad]at J ah;rw[ah,xac rfl,e];simp only[Jd,go_sem,cq,hk aG,V.a4,J,xbo]
 left;rw[xat ad]at J ah;rw[ah,xae (by simp),e,dx];refine⟨(),?_,?_,trivial⟩;.simp only[Jd,go_sem,cq,hk aG,V.a4,J,cf (bt:=false) (i:=i) (by omega)]
 cases eB (l.drop (i+1)) x with|none=>rfl|some j=>simp;omega
def ayo(n:Nat)(l:List V)(x:ByteArray)(aN:l.length<n)(aj:l.length<1000000000):Bf n [bu l,D.fn (.func sA) [] [.ref [a6 x] 0]]=some (aK (eB l x).isSome):=by
 have bQ:Bf n [bu l,D.fn (.func sA) [] [.ref [a6 x] 0]]=NW n (bu l) (.ref [a6 x] 0):=by simp only[Bf,ot]
 rw[bQ];simp only[NW,go_sem,ayn n l x aN aj,Fh]
def ayp(n:Nat)(d:bA)(x:ByteArray):Jf n [d.d,.ref [a6 x] 0]=some (aK (decide (d.name=x))):=by show NX n d.d [a6 x]=_;simp only[NX,go_sem,jj,bA.g5,bA.na]
def ayq(n:Nat)(l:List bA)(x:ByteArray)(aN:l.length<n)(aj:l.length<1000000000):Bg n [aY l,D.fn (.func sB) [] [.ref [a6 x] 0]]=some (I (gx (dz l x))):=by
 have bT:(I ((0:Nat):Int))=I 0:=rfl;have ag:=dy (f:=Jg n) l (λi (_:Unit)=>[aY l,.ref [a6 x] 0,I l.length,I (i:Int)]) (λr _=>match dz r x with|some j=>(Sum.inr (I ((l.length-r.length+j:Nat):Int)):List D⊕D)|none=> .inl []) (λ_ _=>True) ?_ ?_ n 0 () trivial (by omega) (xai _)
 .rw[bT,xal,xca]at ag;have bQ:Bg n [aY l,D.fn (.func sB) [] [.ref [a6 x] 0]]=Jh n (aY l) (.ref [a6 x] 0):=by
   simp only[Bg,ot]
  rw[bQ];cases bU:dz l x with|none=>rw[bU]at ag;simp only[Jh,go_sem,eV,ag,gx]|some j=>rw[bU]at ag;simp only[xax]at ag;simp only[Jh,go_sem,eV,ag,gx]
 .intro _ _;have:dz [] x=none:=rfl;simp only[Jg,go_sem,yF ((l.length:Int)<l.length),this]
 intro i a _ aG ag _;have cq:=yT ((i:Int)<(l.length:Int));have ah:dz (a::l.drop (i+1)) x=if decide (a.name=x)=true then some 0 else(dz (l.drop (i+1)) x).map (·+1):=findIdx_cons _ a _
 have e:l.length-(a::l.drop (i+1)).length=i:=by simp;omega
 have dx:l.length-(l.drop (i+1)).length=i+1:=by simp;omega
 have J:=ayp n a x;by_cases ad:a.name=x;.right;rw[xao ad]at J ah;rw[ah,xac rfl,e];simp only[Jg,go_sem,cq,fR aG,bA.a5,J,xbo]
 left;rw[xat ad]at J ah;rw[ah,xae (by simp),e,dx];refine⟨(),?_,?_,trivial⟩;.simp only[Jg,go_sem,cq,fR aG,bA.a5,J,cf (bt:=false) (i:=i) (by omega)]
 cases dz (l.drop (i+1)) x with|none=>rfl|some j=>simp;omega
def ayr(n:Nat)(l:List bA)(x:ByteArray)(aN:l.length<n)(aj:l.length<1000000000):Bh n [aY l,D.fn (.func sB) [] [.ref [a6 x] 0]]=some (aK (dz l x).isSome):=by
 have bQ:Bh n [aY l,D.fn (.func sB) [] [.ref [a6 x] 0]]=NY n (aY l) (.ref [a6 x] 0):=by simp only[Bh,ot]
 rw[bQ];simp only[NY,go_sem,ayq n l x aN aj,Fh]
def ays(n:Nat)(d:V)(x:ByteArray):I3 n [d.d,.ref [a6 x] 0]=some (aK (decide (d.name=x))):=by show NO n d.d [a6 x]=_;simp only[NO,go_sem,jj,V.g4,V.na]
def ayt(n:Nat)(l:List V)(x:ByteArray)(aN:l.length<n)(aj:l.length<1000000000):A9 n [bu l,D.fn (.func DF) [] [.ref [a6 x] 0]]=some (I (gx (eB l x))):=by
 have bT:(I ((0:Nat):Int))=I 0:=rfl;have ag:=dy (f:=I4 n) l (λi (_:Unit)=>[bu l,.ref [a6 x] 0,I l.length,I (i:Int)]) (λr _=>match eB r x with|some j=>(Sum.inr (I ((l.length-r.length+j:Nat):Int)):List D⊕D)|none=> .inl []) (λ_ _=>True) ?_ ?_ n 0 () trivial (by omega) (xai _)
 .rw[bT,xal,xca]at ag;have bQ:A9 n [bu l,D.fn (.func DF) [] [.ref [a6 x] 0]]=I5 n (bu l) (.ref [a6 x] 0):=by
   simp only[A9,ot]
  rw[bQ];cases bU:eB l x with|none=>rw[bU]at ag;simp only[I5,go_sem,e5,ag,gx]|some j=>rw[bU]at ag;simp only[xax]at ag;simp only[I5,go_sem,e5,ag,gx]
 .intro _ _;have:eB [] x=none:=rfl;simp only[I4,go_sem,yF ((l.length:Int)<l.length),this]
 intro i a _ aG ag _;have cq:=yT ((i:Int)<(l.length:Int));have ah:eB (a::l.drop (i+1)) x=if decide (a.name=x)=true then some 0 else(eB (l.drop (i+1)) x).map (·+1):=findIdx_cons _ a _
 have e:l.length-(a::l.drop (i+1)).length=i:=by simp;omega
 have dx:l.length-(l.drop (i+1)).length=i+1:=by simp;omega
 have J:=ays n a x;by_cases ad:a.name=x;.right;rw[xao ad]at J ah;rw[ah,xac rfl,e];simp only[I4,go_sem,cq,hk aG,V.a4,J,xbo]
 left;rw[xat ad]at J ah;rw[ah,xae (by simp),e,dx];refine⟨(),?_,?_,trivial⟩;.simp only[I4,go_sem,cq,hk aG,V.a4,J,cf (bt:=false) (i:=i) (by omega)]
 cases eB (l.drop (i+1)) x with|none=>rfl|some j=>simp;omega
def ayu(n:Nat)(d:bA)(x:ByteArray):I6 n [d.d,.ref [a6 x] 0]=some (aK (decide (d.name=x))):=by show NP n d.d [a6 x]=_;simp only[NP,go_sem,jj,bA.g5,bA.na]
def ayv(n:Nat)(l:List bA)(x:ByteArray)(aN:l.length<n)(aj:l.length<1000000000):Ba n [aY l,D.fn (.func sC) [] [.ref [a6 x] 0]]=some (I (gx (dz l x))):=by
 have bT:(I ((0:Nat):Int))=I 0:=rfl;have ag:=dy (f:=I7 n) l (λi (_:Unit)=>[aY l,.ref [a6 x] 0,I l.length,I (i:Int)]) (λr _=>match dz r x with|some j=>(Sum.inr (I ((l.length-r.length+j:Nat):Int)):List D⊕D)|none=> .inl []) (λ_ _=>True) ?_ ?_ n 0 () trivial (by omega) (xai _)
 .rw[bT,xal,xca]at ag;have bQ:Ba n [aY l,D.fn (.func sC) [] [.ref [a6 x] 0]]=I8 n (aY l) (.ref [a6 x] 0):=by
   simp only[Ba,ot]
  rw[bQ];cases bU:dz l x with|none=>rw[bU]at ag;simp only[I8,go_sem,eV,ag,gx]|some j=>rw[bU]at ag;simp only[xax]at ag;simp only[I8,go_sem,eV,ag,gx]
 .intro _ _;have:dz [] x=none:=rfl;simp only[I7,go_sem,yF ((l.length:Int)<l.length),this]
 intro i a _ aG ag _;have cq:=yT ((i:Int)<(l.length:Int));have ah:dz (a::l.drop (i+1)) x=if decide (a.name=x)=true then some 0 else(dz (l.drop (i+1)) x).map (·+1):=findIdx_cons _ a _
 have e:l.length-(a::l.drop (i+1)).length=i:=by simp;omega
 have dx:l.length-(l.drop (i+1)).length=i+1:=by simp;omega
 have J:=ayu n a x;by_cases ad:a.name=x;.right;rw[xao ad]at J ah;rw[ah,xac rfl,e];simp only[I7,go_sem,cq,fR aG,bA.a5,J,xbo]
 left;rw[xat ad]at J ah;rw[ah,xae (by simp),e,dx];refine⟨(),?_,?_,trivial⟩;.simp only[I7,go_sem,cq,fR aG,bA.a5,J,cf (bt:=false) (i:=i) (by omega)]
 cases dz (l.drop (i+1)) x with|none=>rfl|some j=>simp;omega
def ayw(n:Nat)(l:List bA)(x:ByteArray)(aN:l.length<n)(aj:l.length<1000000000):Bb n [aY l,D.fn (.func sC) [] [.ref [a6 x] 0]]=some (aK (dz l x).isSome):=by
 have bQ:Bb n [aY l,D.fn (.func sC) [] [.ref [a6 x] 0]]=NQ n (aY l) (.ref [a6 x] 0):=by simp only[Bb,ot]
 rw[bQ];simp only[NQ,go_sem,ayv n l x aN aj,Fh]
def ayx(n:Nat)(d:bA)(x:ByteArray):I9 n [d.d,.ref [a6 x] 0]=some (aK (decide (d.name=x))):=by show NS n d.d [a6 x]=_;simp only[NS,go_sem,jj,bA.g5,bA.na]
def ayy(n:Nat)(l:List bA)(x:ByteArray)(aN:l.length<n)(aj:l.length<1000000000):Bc n [aY l,D.fn (.func DE) [] [.ref [a6 x] 0]]=some (I (gx (dz l x))):=by
 have bT:(I ((0:Nat):Int))=I 0:=rfl;have ag:=dy (f:=Ja n) l (λi (_:Unit)=>[aY l,.ref [a6 x] 0,I l.length,I (i:Int)]) (λr _=>match dz r x with|some j=>(Sum.inr (I ((l.length-r.length+j:Nat):Int)):List D⊕D)|none=> .inl []) (λ_ _=>True) ?_ ?_ n 0 () trivial (by omega) (xai _)
 .rw[bT,xal,xca]at ag;have bQ:Bc n [aY l,D.fn (.func DE) [] [.ref [a6 x] 0]]=Jb n (aY l) (.ref [a6 x] 0):=by
   simp only[Bc,ot]
  rw[bQ];cases bU:dz l x with|none=>rw[bU]at ag;simp only[Jb,go_sem,eV,ag,gx]|some j=>rw[bU]at ag;simp only[xax]at ag;simp only[Jb,go_sem,eV,ag,gx]
 .intro _ _;have:dz [] x=none:=rfl;simp only[Ja,go_sem,yF ((l.length:Int)<l.length),this]
 intro i a _ aG ag _;have cq:=yT ((i:Int)<(l.length:Int));have ah:dz (a::l.drop (i+1)) x=if decide (a.name=x)=true then some 0 else(dz (l.drop (i+1)) x).map (·+1):=findIdx_cons _ a _
 have e:l.length-(a::l.drop (i+1)).length=i:=by simp;omega
 have dx:l.length-(l.drop (i+1)).length=i+1:=by simp;omega
 have J:=ayx n a x;by_cases ad:a.name=x;.right;rw[xao ad]at J ah;rw[ah,xac rfl,e];simp only[Ja,go_sem,cq,fR aG,bA.a5,J,xbo]
 left;rw[xat ad]at J ah;rw[ah,xae (by simp),e,dx];refine⟨(),?_,?_,trivial⟩;.simp only[Ja,go_sem,cq,fR aG,bA.a5,J,cf (bt:=false) (i:=i) (by omega)]
 cases dz (l.drop (i+1)) x with|none=>rfl|some j=>simp;omega
def ayz(n:Nat)(d:cU)(x:ByteArray):IA n [d.d,.ref [a6 x] 0]=some (aK (decide (d.name=x))):=by show Ny n d.d [a6 x]=_;simp only[Ny,go_sem,jj,cU.g7,cU.na]
def ayA(n:Nat)(l:List cU)(x:ByteArray)(aN:l.length<n)(aj:l.length<1000000000):AU n [b5 l,D.fn (.func sD) [] [.ref [a6 x] 0]]=some (I (gx (o7 l x))):=by
 have bT:(I ((0:Nat):Int))=I 0:=rfl;have ag:=dy (f:=IB n) l (λi (_:Unit)=>[b5 l,.ref [a6 x] 0,I l.length,I (i:Int)]) (λr _=>match o7 r x with|some j=>(Sum.inr (I ((l.length-r.length+j:Nat):Int)):List D⊕D)|none=> .inl []) (λ_ _=>True) ?_ ?_ n 0 () trivial (by omega) (xai _)
 .rw[bT,xal,xca]at ag;have bQ:AU n [b5 l,D.fn (.func sD) [] [.ref [a6 x] 0]]=IC n (b5 l) (.ref [a6 x] 0):=by
   simp only[AU,ot]
  rw[bQ];cases bU:o7 l x with|none=>rw[bU]at ag;simp only[IC,go_sem,jr,ag,gx]|some j=>rw[bU]at ag;simp only[xax]at ag;simp only[IC,go_sem,jr,ag,gx]
 .intro _ _;have:o7 [] x=none:=rfl;simp only[IB,go_sem,yF ((l.length:Int)<l.length),this]
 intro i a _ aG ag _;have cq:=yT ((i:Int)<(l.length:Int));have ah:o7 (a::l.drop (i+1)) x=if decide (a.name=x)=true then some 0 else(o7 (l.drop (i+1)) x).map (·+1):=findIdx_cons _ a _
 have e:l.length-(a::l.drop (i+1)).length=i:=by simp;omega
 have dx:l.length-(l.drop (i+1)).length=i+1:=by simp;omega
 have J:=ayz n a x;by_cases ad:a.name=x;.right;rw[xao ad]at J ah;rw[ah,xac rfl,e];simp only[IB,go_sem,cq,nX aG,cU.mr,J,xbo]
 left;rw[xat ad]at J ah;rw[ah,xae (by simp),e,dx];refine⟨(),?_,?_,trivial⟩;.simp only[IB,go_sem,cq,nX aG,cU.mr,J,cf (bt:=false) (i:=i) (by omega)]
 cases o7 (l.drop (i+1)) x with|none=>rfl|some j=>simp;omega
def ayB(n:Nat)(l:List cU)(x:ByteArray)(aN:l.length<n)(aj:l.length<1000000000):AV n [b5 l,D.fn (.func sD) [] [.ref [a6 x] 0]]=some (aK (o7 l x).isSome):=by
 have bQ:AV n [b5 l,D.fn (.func sD) [] [.ref [a6 x] 0]]=Nz n (b5 l) (.ref [a6 x] 0):=by simp only[AV,ot]
 rw[bQ];simp only[Nz,go_sem,ayA n l x aN aj,Fh]
structure uT(f:Tm->Tm):Prop where
 op:∀t,(f t).op=t.op
 num:∀t,(f t).num=t.num
 name:∀t,(f t).name=t.name
 bf:∀t,(f t).bf=t.bf.map f
theorem Wq:uT lb:=⟨λt=>by rw[Kj];rfl,λt=>by rw[Kj];rfl,λt=>by rw[Kj];rfl,λt=>by rw[Kj];rfl⟩
theorem agz:uT gN:=⟨λt=>by rw[E2];rfl,λt=>by rw[E2];rfl,λt=>by rw[E2];rfl,λt=>by rw[E2];rfl⟩
def agA(vs:List V)(nx:Bool)(f:Tm->Tm):∀(ks:List Tm),(∀k∈ks,ed vs nx (f k)=ed vs nx k)->er vs nx (ks.map f)=er vs nx ks
 |[],_=>rfl|k::r,h=>by rw[xaw,er,er,h k (by simp),agA vs nx f r λk ai=>h k (by simp[ai])]
def ayC{f:Tm->Tm}(bm:uT f)(t:Tm)(l:List Y):hj (f t) l=hj t l:=by unfold hj;rw[bm.op,bm.bf,xah];cases ai:t.bf[1]? with|none=>rfl|some k=>simp only[xaJ,bm.op,bm.num]
def ayD{f:Tm->Tm}(bm:uT f)(vs:List V)(nx:Bool)(t:Tm):ed vs nx (f t)=ed vs nx t:=by
 refine Tm.ind (P:=λt=>ed vs nx (f t)=ed vs nx t) ?_ t;intro t ih;have ax:ld vs nx (f t)=ld vs nx t:=by simp only[ld,bm.op,bm.num,bm.name]
 rw[o4,o4 vs nx t,bm.op,bm.bf,ax,agA vs nx f t.bf ih,ayC bm]
def ayE{f:Tm->Tm}(bm:uT f)(t:Tm):iJ (f t)=iJ t:=by simp only[iJ,bm.op,bm.num,bm.name,bm.bf,xaW]
def agB(f:Tm->Tm):∀(ks:List Tm),(∀k∈ks,∀d n,dn (f k) d n=dn k d n)->∀d n,fD (ks.map f) d n=fD ks d n
 |[],_,_,_=>rfl|k::r,h,d,n=>by rw[xaw,fD,fD,h k (by simp),agB f r λk ai=>h k (by simp[ai])]
def ayF{f:Tm->Tm}(bm:uT f)(t:Tm):∀d n,dn (f t) d n=dn t d n:=by refine Tm.ind (P:=λt=>∀d n,dn (f t) d n=dn t d n) ?_ t;intro t ih d n;rw[wD,wD t,ayE bm,bm.bf,agB f t.bf ih]
def Wr{f:Tm->Tm}(bm:uT f)(vs:List V)(nx:Bool)(t:Tm):j6 vs nx (f t)=j6 vs nx t:=by unfold j6;rw[ayF bm,ayD bm]
structure Fi(l:List bA)(t:Tm)(p:Tm×Int):Prop where
 a:∀n,13301000000<n->np n [t.d,aY l]=some (.aZ [(if p.2=0 then lb p.1 else fQ).d,I p.2])
 b:∀n,13301000000<n->nm n [t.d,aY l]=some (.aZ [(if p.2=0 then gN p.1 else fQ).d,I p.2])
 x:p.2=0->p.1.Ok/\p.1.bC<=660000/\(dn p.1 1 0).1=0/\(lb p.1).Ok/\(gN p.1).Ok/\∃h,kO l h t p.1
def agC{l:List bA}(al:iw 660000 l)(Fj:l.length<=100)(t:Tm)(bE:t.Ok)(aP:t.bC<=660000):∃p,Fi l t p:=by
 by_cases ar:(dn t 1 0).1=0
 case neg=>exact⟨(fQ,(dn t 1 0).1),λn aN=>by rw[xae ar];exact(VN al n t bE aP (by omega)).1 ar,λn aN=>by rw[xae ar];exact(VP al n t bE aP (by omega)).1 ar,λh=>absurd h ar⟩
 cases av:s6 l t with
 |false=>exact⟨(fQ,14),λn aN=>(VN al n t bE aP (by omega)).2.1 ar av,λn aN=>(VP al n t bE aP (by omega)).2.1 ar av,λh=>by cases h⟩
 |true=>
  obtain⟨X,la⟩:=awo al aP ((awA l t).1 av);have hH:(l.length+1)*(660000+1)+660000<=70000000:=by omega
  generalize (l.length+1)*(660000+1)+660000=bQ at*;have A:∀n,13301000000<n->_:=λn aN=>(VN al n t bE aP (by omega)).2.2 _ X ar av la (by omega);have B:∀n,13301000000<n->_:=λn aN=>(VP al n t bE aP (by omega)).2.2 _ X ar av la (by omega);obtain⟨c1,c2⟩:=VF X 1 0 (by omega);rw[c1]at A;by_cases ax:(dn X 1 0).1=0
  case neg=>simp only[ax,xaI]at A B;exact⟨(fQ,(dn X 1 0).1),λn aN=>by rw[xae ax];exact A n aN,λn aN=>by rw[xae ax];exact B n aN,λh=>absurd h ax⟩
  simp only[ax,xaG]at A B;have bm:=afl X 1 0 (by omega) ax;have agD:=la.ok al bE aP;have e7:=awH X 1 0 ax;have Hi:=(EL X 1 0).2 ax;have agE:=(afg al la bE aP).1;rw[bm]at A agE;exact⟨(X,0),A,B,λ_=>⟨agD.1,by simp only;omega,ax,agE,axf X agD.1,bQ,la⟩⟩
open Classical in
noncomputable def dT(l:List bA)(t:Tm):Tm×Int:=if h:∃p,Fi l t p then Classical.choose h else(fQ,0)
def agF{l:List bA}{t:Tm}(h:∃p,Fi l t p):Fi l t (dT l t):=by unfold dT;rw[dif_pos h];exact Classical.choose_spec h
noncomputable def hr(m:au)(nx:Bool)(t:Tm):Y×Int:=if(dT m.aD t).2≠0 then(fE,(dT m.aD t).2)else j6 m.vars nx (dT m.aD t).1
noncomputable def p9(m:au)(nx:Bool)(t:Tm):Int:=if((hr m nx t).2==0&&!(hr m nx t).1.b)=true then 13 else(hr m nx t).2
structure Fk(m:au):Prop where
 d:iw 660000 m.aD
 dl:m.aD.length<=100
 gB:m.vars.length<=100
def Fk.Ws{m:au}(h:Fk m){t:Tm}(bE:t.Ok)(aP:t.bC<=660000):Fi m.aD t (dT m.aD t):=agF (agC h.d h.dl t bE aP)
theorem agG:D.agg [aK false,I 0,I 0]=fE.d:=rfl
theorem uU(y:Y):ae y.d 0=aK y.b:=rfl
theorem agH(y:Y):ae y.d 1=I y.lo:=rfl
theorem agI(y:Y):ae y.d 2=I y.ag:=rfl
theorem qS(y:Y):dO 3 y.d=true:=rfl
theorem agJ(y:Y):D.agg [aK y.b,I y.lo,I y.ag]=y.d:=rfl
section
variable{m:au}(hm:Fk m)(n:Nat)(aN:13301000000<n)
include hm aN
theorem Wt{t:Tm}(bE:t.Ok)(aP:t.bC<=660000)(nx:Bool):uC n [m.d,t.d,aK nx]=some (.aZ [(hr m nx t).1.d,I (hr m nx t).2]):=by
 have lP:=hm.Ws bE aP;have kP:=hm.gB;unfold hr;generalize dT m.aD t=p at*;have dm:=lP.a n aN;by_cases ar:p.2=0
 .obtain⟨x1,rN,Kz,agK,agL,_⟩:=lP.x ar;have bF:(p.2 !=0)=false:=by simp[ar]
  rw[xac ar]at dm;have bp:=afD n m.vars (lb p.1) nx (by rw[VR];omega) agK (by omega);rw[Wr Wq]at bp;rw[xae (by simpa using ar)];simp only[uC,Ui,go_sem,au.agg,au.bc,au.c1,dm,bF,bp,qS,uU,agH,agI,agJ]
 have bF:(p.2 !=0)=true:=by simpa using ar
 rw[xae ar]at dm;rw[xac ar];simp only[uC,Ui,go_sem,au.agg,au.bc,au.c1,dm,bF,agG]
theorem Wu{t:Tm}(bE:t.Ok)(aP:t.bC<=660000)(nx:Bool):uu n [m.d,t.d,aK nx]=some (.aZ [(hr m nx t).1.d,I (hr m nx t).2]):=by
 have lP:=hm.Ws bE aP;have kP:=hm.gB;unfold hr;generalize dT m.aD t=p at*;have dm:=lP.b n aN;by_cases ar:p.2=0
 .obtain⟨x1,rN,Kz,agK,agL,_⟩:=lP.x ar;have bF:(p.2 !=0)=false:=by simp[ar]
  rw[xac ar]at dm;have bp:=afE n m.vars (gN p.1) nx (by rw[Pd];omega) agL (by omega);rw[Wr agz]at bp;rw[xae (by simpa using ar)];simp only[uu,TR,go_sem,au.agg,au.bc,au.c1,dm,bF,bp,qS,uU,agH,agI,agJ]
 have bF:(p.2 !=0)=true:=by simpa using ar
 rw[xae ar]at dm;rw[xac ar];simp only[uu,TR,go_sem,au.agg,au.bc,au.c1,dm,bF,agG]
theorem agM{t:Tm}(bE:t.Ok)(aP:t.bC<=660000)(nx:Bool):yh n [m.d,t.d,aK nx]=some (I (p9 m nx t)):=by
 have bp:=Wt hm n aN bE aP nx;unfold p9;by_cases h:((hr m nx t).2==0&&!(hr m nx t).1.b)=true;.rw[xac h];simp only[yh,Uj,go_sem,au.agg,au.bc,au.c1,au.c2,au.b8,au.c3,au.dq,au.dr,au.dG,au.eta,bp,qS,uU,h]
 have bB:((hr m nx t).2==0&&!(hr m nx t).1.b)=false:=by simpa using h
 rw[xae h];simp only[yh,Uj,go_sem,au.agg,au.bc,au.c1,au.c2,au.b8,au.c3,au.dq,au.dr,au.dG,au.eta,bp,qS,uU,bB]
theorem agN{t:Tm}(bE:t.Ok)(aP:t.bC<=660000)(nx:Bool):x8 n [m.d,t.d,aK nx]=some (I (p9 m nx t)):=by
 have bp:=Wu hm n aN bE aP nx;unfold p9;by_cases h:((hr m nx t).2==0&&!(hr m nx t).1.b)=true;.rw[xac h];simp only[x8,TS,go_sem,au.agg,au.bc,au.c1,au.c2,au.b8,au.c3,au.dq,au.dr,au.dG,au.eta,bp,qS,uU,h]
 have bB:((hr m nx t).2==0&&!(hr m nx t).1.b)=false:=by simpa using h
 rw[xae h];simp only[x8,TS,go_sem,au.agg,au.bc,au.c1,au.c2,au.b8,au.c3,au.dq,au.dr,au.dG,au.eta,bp,qS,uU,bB]
end
def wP(N:Nat)(S:List Nat):List (List D):=(List.range N).map λj=>[aK (decide (j∈S))]
def kQ(N:Nat)(S:List Nat):D:= .aW 1 (wP N S)
def KA(N:Nat)(S:List Nat):(wP N S).length=N:=by simp[wP]
def KB{N:Nat}{S:List Nat}{k:Nat}(h:k<N):(wP N S)[k]?=some [aK (decide (k∈S))]:=by simp[wP,h]
def agO(N:Nat):List.replicate N [aK false]=wP N []:=by
 apply xbQ;intro j;by_cases h:j<N;.rw[KB h];simp[h]
 rw[xaM (by simp;omega),xaM (by rw[KA];omega)]
def ayG{N:Nat}{S:List Nat}{k:Nat}(h:k<N):(wP N S).set k [aK true]=wP N (S++[k]):=by
 apply xbQ;intro j;by_cases aA:j<N
 .rw[KB aA,List.getElem?_set];by_cases e:k=j;.subst e;simp[KA,h]
  rw[xae e,KB aA];have:(j∈S++[k])↔j∈S:=by simp;omega
  simp only[this]
 rw[xaM (by simp[KA];omega),xaM (by rw[KA];omega)]
def iM(S:List Nat)(ks:List Nat):List Nat:=ks.foldl (λS k=>if k∈S then S else S++[k]) S
theorem KC(S:List Nat)(k:Nat)(r:List Nat):iM S (k::r)=iM (if k∈S then S else S++[k]) r:=rfl
structure ayH(N:Nat)(S ks R:List Nat):Prop where
 inv:jo N R
 pre:∃T,R=S++T
 mem:∀k∈ks,k∈R
 of:∀x∈R,x∈S\/x∈ks
def Px{N:Nat}:∀(ks S:List Nat),jo N S->(∀k∈ks,k<N)->ayH N S ks (iM S ks)
 |[],S,h,_=>⟨h,⟨[],by simp[iM]⟩,by simp,λx ad=> .inl ad⟩
 |k::r,S,h,ai=>by
  rw[KC];by_cases eP:k∈S
  .rw[xac eP];have g:=Px r S h λx ad=>ai x (by simp[ad]);obtain⟨T,bp⟩:=g.pre;refine⟨g.inv,g.pre,λx ad=>?_,λx ad=>(g.of x ad).elim .inl λh=> .inr (by simp[h])⟩;rcases xam.1 ad with rfl|ad
   .rw[bp];simp[eP]
   exact g.mem x ad
  rw[xae eP];have g:=Px r (S++[k]) (h.snoc (ai k (by simp)) eP) λx ad=>ai x (by simp[ad]);obtain⟨T,bp⟩:=g.pre;refine⟨g.inv,⟨[k]++T,by rw[bp];simp⟩,λx ad=>?_,λx ad=>?_⟩
  .rcases xam.1 ad with rfl|ad;.rw[bp];simp
   exact g.mem x ad
  rcases g.of x ad with h|h
  .rcases xas.1 h with h|h;.exact .inl h
   simp at h;subst h;exact .inr (by simp)
  exact .inr (by simp[h])
def wQ(to:Nat->List Nat)(i:Nat):Nat->Nat->List Nat->List Nat
 |0,_,S=>S|m+1,k,S=>match(i::S)[k]? with|some x=>wQ to i m (k+1) (iM S (to x))|none=>S
structure rQ(to:Nat->List Nat)(N i k:Nat)(S:List Nat):Prop where
 inv:jo N S
 le:k<=S.length+1
 wF:∀j x,j<k->(i::S)[j]?=some x->∀y∈to x,y∈S
 s4:∀x∈S,∃j∈to i,kN to j x
def kN.snoc{to:Nat->List Nat}{i j k:Nat}(h:kN to i j)(bB:k∈to j):kN to i k:=h.trans (.step j k k bB (.refl k))
def rQ.next{to:Nat->List Nat}{N i k:Nat}{S:List Nat}(h:rQ to N i k S)(j1:∀i,∀k∈to i,k<N){x:Nat}(ad:(i::S)[k]?=some x):rQ to N i (k+1) (iM S (to x)):=by
 have g:=Px (to x) S h.inv (j1 x);obtain⟨T,bp⟩:=g.pre;have ai:k<S.length+1:=by have:=(xaa.1 ad).1;simpa using this
 have ayI:∀j y,j<=k->(i::iM S (to x))[j]?=some y->(i::S)[j]?=some y:=by intro j y aA aH;rw[bp,<-xbd,xaq (by simp;omega)]at aH;exact aH
 refine⟨g.inv,by rw[bp];simp;omega,?_,?_⟩
 .intro j y aA aH z bF;have vm:=ayI j y (by omega) aH;by_cases e:j=k
  .subst e;rw[ad]at vm;cases vm;exact g.mem z bF
  have:=h.wF j y (by omega) vm z bF;rw[bp];simp[this]
 intro y aH;rcases g.of y aH with J|J
 .exact h.s4 y J
 cases k with|zero=>simp at ad;subst ad;exact⟨y,J,.refl y⟩|succ k=>have Vw:x∈S:=xad (by simpa using ad);obtain⟨j,aA,av⟩:=h.s4 x Vw;exact⟨j,aA,av.snoc J⟩
def Wv{to:Nat->List Nat}{N i:Nat}(j1:∀i,∀k∈to i,k<N):∀(m k:Nat)(S:List Nat),rQ to N i k S->N+1-k<m->(i∈wQ to i m k S↔∃j∈to i,kN to j i)
 |0,_,_,_,h=>absurd h (xaH _)
 |m+1,k,S,h,hm=>by
  rw[wQ];have bI:=h.inv.len;cases ad:(i::S)[k]? with
  |some x=>
   have ai:k<S.length+1:=by have:=(xaa.1 ad).1;simpa using this
   exact Wv j1 m (k+1) _ (h.next j1 ad) (by omega)
  |none=>
   have ai:S.length+1<=k:=by have:=xcj.1 ad;simpa using this
   refine⟨λag=>h.s4 i ag,?_⟩;have ht:∀a b,kN to a b->a∈S->b∈S:=by
    intro a b gg
    induction gg with|refl=>exact λh=>h|step p q r kB _ ih=>intro aU;obtain⟨j,aA⟩:=xaF.1 aU;have cq:=(xaa.1 aA).1;exact ih (h.wF (j+1) p (by omega) (by simpa using aA) q kB)
   rintro⟨j,aA,av⟩;exact ht j i av (h.wF 0 i (by omega) (by simp) j aA)
def rQ.start(to:Nat->List Nat)(N i:Nat):rQ to N i 0 []:=⟨⟨by simp,by simp⟩,by simp,by intro j x h;omega,by simp⟩
theorem tb(x:List Nat):D.aW 1 (bb (di x))=di x:=rfl
def KD(x:List Nat):(bb (di x)).length=x.length:=by simp[di]
def agP(x:List Nat)(k:Nat):D.aW 1 (bb (di x)++[[I (k:Int)]])=di (x++[k]):=by simp[di]
def agQ{x:List Nat}{j k:Nat}(h:x[j]?=some k):(bb (di x))[j]?=some [I (k:Int)]:=by simp[di,h]
theorem qa(N:Nat)(x:List Nat):D.aW 1 (bb (kQ N x))=kQ N x:=rfl
def KE(N:Nat)(x:List Nat):(bb (kQ N x)).length=N:=KA N x
def KF{N:Nat}{S:List Nat}{k:Nat}(h:k<N):(bb (kQ N S))[k]?=some [aK (decide (k∈S))]:=KB h
theorem agR{N:Nat}{S:List Nat}{k:Nat}(h:k<N){w:Bool}:D.aW 1 ((bb (kQ N S)).set k (h9 [aK w] 0 [aK true]))=kQ N (S++[k]):=by show D.aW 1 ((wP N S).set k [aK true])=_;rw[ayG h];rfl
theorem Ce(b:Bool):bM false 1 0 [aK b]=some (aK b):=rfl
theorem Fl(i:Int):bM false 1 0 [I i]=some (I i):=rfl
theorem Fo(s:ByteArray):bM false 1 0 [a6 s]=some (a6 s):=rfl
theorem Py{p:Option D}:ec (aK true) true p=p:=rfl
theorem agS{p:Option D}:ec (aK false) true p=some kD:=rfl
theorem Pz{a b:D}:gW (aK true) a b=some a:=rfl
theorem agT{a b:D}:gW (aK false) a b=some b:=rfl
def agU{l:List bA}{x:ByteArray}{k:Nat}(h:dz l x=some k):k<l.length:=by obtain⟨_,_,_,h⟩:=Tg h;exact h
def ayJ(n:Nat)(l:List bA){B:Nat}(al:iw B l)(i k:Nat)(gk:List ByteArray)(S:List Nat)(cL:jo l.length S)(ai:k<=S.length+1)(eU:gk.length<=B)(aN:2*B+100<n):bJ (Bd n) n [aY l,I (i:Int),dH gk,I gk.length,I 0,kQ l.length S,di ((i::S).drop k)]=some (.inl [aY l,I (i:Int),kQ l.length (iM S (gk.filterMap (dz l))),di ((i::iM S (gk.filterMap (dz l))).drop k)]):=by
 have bI:=al.len;have aj:=al.b;have ag:=dy (f:=Bd n) gk (λj (s:List Nat)=>[aY l,I (i:Int),dH gk,I gk.length,I (j:Int),kQ l.length s,di ((i::s).drop k)]) (λr s=>(.inl [aY l,I (i:Int),kQ l.length (iM s (r.filterMap (dz l))),di ((i::iM s (r.filterMap (dz l))).drop k)]:List D⊕(List D⊕(List D⊕(List D⊕D))))) (λj s=>jo l.length s/\k<=s.length+1) (λs _=>by simp only[Bd,go_sem,yF ((gk.length:Int)<gk.length),qa,tb];rfl) ?_ n 0 S ⟨cL,ai⟩ (by omega) (xai _)
 .exact ag
 rintro j x s ad aA ⟨J,aa⟩;have fS:=ayy n l x (by omega) (by omega);have kp:=J.len;have cq:=yT ((j:Int)<(gk.length:Int));left;cases ay:dz l x with
 |none=>rw[ay]at fS;refine⟨s,?_,by simp[ay],J,aa⟩;have fM:decide (gx none>=0)=false:=rfl;simp only[Bd,go_sem,cq,Kd ad,Fo,fS,fM,agS,agT,qa,tb,cf (bt:=false) (i:=j) (by omega)]
 |some y=>
  have aH:=agU ay;rw[ay]at fS;have fM:decide ((y:Int)>=0)=true:=xao (by omega);have dt:cC l.length (I (y:Int))=some y:=by rw[j2,xac aH]
  have KG:gx (some y)=(y:Int):=rfl;by_cases oR:y∈s;.refine⟨s,?_,by simp[ay,KC,oR],J,aa⟩;simp only[Bd,go_sem,cq,Kd ad,Fo,fS,KG,fM,KE,dt,KF aH,Ce,xao oR,Py,Pz,qa,tb,cf (bt:=false) (i:=j) (by omega)]
  have ax:=J.snoc aH oR;refine⟨s++[y],?_,by simp only[xbW,ay,KC,xae oR],ax,by simp;omega⟩;have aM:(i::(s++[y])).drop k=(i::s).drop k++[y]:=by rw[<-xbd,List.drop_append_of_le_length (by simpa using aa)]
  have eL:cT (((i::s).drop k).length+1) 8=true:=fX (by simp;omega) (by simp;omega);rw[aM];simp only[Bd,go_sem,cq,Kd ad,Fo,fS,KG,fM,KE,dt,KF aH,Ce,xat oR,Py,Pz,KD,xan,xay,xax,eL,agR aH,agP,qa,tb,cf (bt:=false) (i:=j) (by omega)]
def agV(n:Nat)(l:List bA){B:Nat}(al:iw B l)(i:Nat)(bX:i<l.length)(aN:4*B+200<n):∀(m k:Nat)(S:List Nat),rQ (to l) l.length i k S->l.length+1-k<m->bJ (NT n) m [aY l,I (i:Int),kQ l.length S,di ((i::S).drop k)]=some (.inl [I (i:Int),kQ l.length (wQ (to l) i m k S)])
 |0,_,_,_,h=>absurd h (xaH _)
 |m+1,k,S,h,hm=>by
  have bI:=al.len;have aj:=al.b;rw[lx,wQ];have ayK:=h.inv.len;have hle:=h.le;cases ad:(i::S)[k]? with
  |none=>
   have ai:S.length+1<=k:=by have:=xcj.1 ad;simpa using this
   have bT:(i::S).drop k=[]:=xcu (by simpa using ai);rw[bT];have aM:(bb (di [])).length=0:=rfl;have a8:decide (((0:Nat):Int)>0)=false:=rfl;simp only[NT,go_sem,aM,a8,qa]
  |some x=>
   have ai:k<S.length+1:=by have:=(xaa.1 ad).1;simpa using this
   have qj:x<l.length:=by cases k with|zero=>simp at ad;omega|succ k=>exact h.inv.2 x (xad (by simpa using ad))
   obtain⟨d,ay⟩:∃d,l[x]?=some d:=⟨l[x],xab qj⟩;have h7:=al.e d (xad ay);have n9:=h.next (λi k ai=>l2 i k ai) ad
   have ih:=agV n l al i bX aN m (k+1) _ n9 (by omega);have cj:=OW n d.e (by omega) h7.1 (by omega);have ayL:=EM d.e;have fP:=ayJ n l al i k (gw 3 d.e []) S h.inv hle (by omega) (by omega);have j1:(gw 3 d.e []).filterMap (dz l)=to l x:=by rw[EN ay];rfl
   rw[j1]at fP;obtain⟨T,bp⟩:=(Px (N:=l.length) (to l x) S h.inv (l2 x)).pre;have CK:((i::iM S (to l x)).drop k).length=(iM S (to l x)).length+1-k:=by simp
   have z6:=n9.le;have agW:((i::S).drop k).length=S.length+1-k:=by simp
   have tE:decide (((((i::S).drop k).length:Nat):Int)>0)=true:=xao (by rw[agW];omega);have ayM:((i::S).drop k)[0]?=some x:=by rw[xaY];exact ad
   have dt:cC ((i::S).drop k).length (I 0)=some 0:=by have:(I 0)=I ((0:Nat):Int):=rfl;rw[this,j2,xac (by rw[agW];omega)]
   have ayN:kE ((i::iM S (to l x)).drop k).length (some (I 1)) none=some (1,((i::iM S (to l x)).drop k).length-1):=by
    have J:1<=((i::iM S (to l x)).drop k).length:=by rw[CK];omega
    generalize ((i::iM S (to l x)).drop k).length=q at*;have:(I 1)=I ((1:Nat):Int):=rfl;rw[this];simp[kE,qs,I,J]
   have Ww:decide (1+(((i::iM S (to l x)).drop k).length-1)<=((i::iM S (to l x)).drop k).length)=true:=xao (by rw[CK];omega);have ayO:D.aW 1 (((bb (di ((i::iM S (to l x)).drop k))).drop 1).take (((i::iM S (to l x)).drop k).length-1))=di ((i::iM S (to l x)).drop (k+1)):=by
    have b0:((((i::iM S (to l x)).drop k).drop 1).take (((i::iM S (to l x)).drop k).length-1))=(i::iM S (to l x)).drop (k+1):=by rw[List.drop_drop,xbx];simp;omega
    show D.aW 1 (((((i::iM S (to l x)).drop k).map λ(i:Nat)=>[I (i:Int)]).drop 1).take _)=di _;rw[<-b0];unfold di;simp only[List.map_take,List.map_drop]
   simp only[NT,go_sem,KD,tE,dt,agQ ayM,Fl,fR ay,bA.iZ,cj,Ke,qa,tb,fP,ayN,Ww,ayO,ih]
def ayP(n:Nat)(m:au){l:List bA}{B:Nat}(al:iw B l)(i:Nat)(ag:i<l.length)(aN:4*B+200<n):Ea n [aY l,m.d,I (i:Int)]=some (I (if jT l i=true then 14 else 0)):=by
 have bI:=al.len;have aj:=al.b;have ax:=agV n l al i ag aN n 0 [] (rQ.start _ _ _) (by omega);have Fp:=Wv (λi k ai=>l2 i k ai) n 0 [] (rQ.start (to l) l.length i) (by omega);rw[<-Vy l i]at Fp;generalize wQ (to l) i n 0 []=S at*;have BU:lr 1 (I (l.length:Int)) (I (l.length:Int))=some l.length:=by simp[lr,I];omega
 have aM:D.aW 1 (List.replicate l.length [aK false])=kQ l.length []:=by rw[agO];rfl
 have a8:D.aW 1 [[I (i:Int)]]=di ((i::[]).drop 0):=rfl;have dt:cC l.length (I (i:Int))=some i:=by rw[j2,xac ag]
 simp only[Ea,acx,go_sem,au.agg,eV,BU,aM,a8,ax,KE,dt,KF ag,Ce];by_cases h:jT l i=true;.rw[xac h,xac (xao (Fp.2 h))]
 rw[xae h,xae (by simpa usingλbQ=>h (Fp.1 bQ))]
def agX(n:Nat)(m:au)(x:ByteArray)(aN:m.aD.length<n)(al:m.aD.length<1000000000):Ax n [m.d,a6 x]=some (I (gx (dz m.aD x))):=by
 have ag:=dy (f:=HJ n) m.aD (λi (_:Unit)=>[a6 x,I (i:Int),bu m.vars,aY m.aD,aC m.bZ,aC m.b1,aY m.next,aC m.trans,aC m.bR,b5 m.bS]) (λr _=>match dz r x with|some j=>(Sum.inr (I ((m.aD.length-r.length+j:Nat):Int)):List D⊕D)|none=> .inl []) (λ_ _=>True) (λ_ _=>by simp[HJ,eV,dz]) ?_ n 0 () trivial (by omega) (xai _);.have bT:(I ((0:Nat):Int))=I 0:=rfl;rw[bT]at ag;simp only[Ax,abH,go_sem,au.agg,au.bc,au.c1,au.c2,au.b8,au.c3,au.dq,au.dr,au.dG,ag,xal];cases dz m.aD x<;>simp[gx]
 intro i a _ aG ag _;have e:m.aD.length-(a::m.aD.drop (i+1)).length=i:=by simp;omega
 have dx:m.aD.length-(m.aD.drop (i+1)).length=i+1:=by simp;omega
 have oH:dz (a::m.aD.drop (i+1)) x=if a.name=x then some 0 else(dz (m.aD.drop (i+1)) x).map (·+1):=by simp[dz,xbZ]
 have a0:a.cells[0]?=some (a6 a.name):=rfl;by_cases ad:a.name=x;.right;rw[oH,xac ad,e];simp[HJ,eV,ag,fR aG,a0,ad]
 left;refine⟨(),by simp[HJ,eV,ag,fR aG,a0,ad,cf (bt:=false) (i:=i) (by omega)],?_,trivial⟩;rw[oH,xae ad,e,dx];cases dz (m.aD.drop (i+1)) x with|none=>rfl|some j=>simp;omega
def agY(n:Nat)(m:au)(x:ByteArray)(aN:m.vars.length<n)(al:m.vars.length<1000000000):Aw n [m.d,a6 x]=some (I (gx (eB m.vars x))):=by
 have ag:=dy (f:=HI n) m.vars (λi (_:Unit)=>[a6 x,I (i:Int),bu m.vars,aY m.aD,aC m.bZ,aC m.b1,aY m.next,aC m.trans,aC m.bR,b5 m.bS]) (λr _=>match eB r x with|some j=>(Sum.inr (I ((m.vars.length-r.length+j:Nat):Int)):List D⊕D)|none=> .inl []) (λ_ _=>True) (λ_ _=>by simp[HI,e5,eB]) ?_ n 0 () trivial (by omega) (xai _);.have bT:(I ((0:Nat):Int))=I 0:=rfl;rw[bT]at ag;simp only[Aw,abG,go_sem,au.agg,au.bc,au.c1,au.c2,au.b8,au.c3,au.dq,au.dr,au.dG,ag,xal];cases eB m.vars x<;>simp[gx]
 intro i a _ aG ag _;have e:m.vars.length-(a::m.vars.drop (i+1)).length=i:=by simp;omega
 have dx:m.vars.length-(m.vars.drop (i+1)).length=i+1:=by simp;omega
 have oH:eB (a::m.vars.drop (i+1)) x=if a.name=x then some 0 else(eB (m.vars.drop (i+1)) x).map (·+1):=by simp[eB,xbZ]
 have a0:a.cells[0]?=some (a6 a.name):=rfl;by_cases ad:a.name=x;.right;rw[oH,xac ad,e];simp[HI,e5,ag,hk aG,a0,ad]
 left;refine⟨(),by simp[HI,e5,ag,hk aG,a0,ad,cf (bt:=false) (i:=i) (by omega)],?_,trivial⟩;rw[oH,xae ad,e,dx];cases eB (m.vars.drop (i+1)) x with|none=>rfl|some j=>simp;omega
def ayQ(n:Nat)(m:au){B:Nat}(al:iw B m.aD)(i:Nat)(k:Int)(gk:List ByteArray)(S:List Nat)(cL:jo m.aD.length S)(eU:gk.length<=B)(aN:2*B+100<n):bJ (AA n) n [I k,kM true gk,I 0,bu m.vars,aY m.aD,aC m.bZ,aC m.b1,aY m.next,aC m.trans,aC m.bR,b5 m.bS,kQ m.aD.length S,di (i::S)]=some (.inl [I k,bu m.vars,aY m.aD,aC m.bZ,aC m.b1,aY m.next,aC m.trans,aC m.bR,b5 m.bS,kQ m.aD.length (iM S (gk.filterMap (dz m.aD))),di (i::iM S (gk.filterMap (dz m.aD)))]):=by
 have bI:=al.len;have aj:=al.b;have ag:=dy (f:=AA n) gk (λj (s:List Nat)=>[I k,kM true gk,I (j:Int),bu m.vars,aY m.aD,aC m.bZ,aC m.b1,aY m.next,aC m.trans,aC m.bR,b5 m.bS,kQ m.aD.length s,di (i::s)]) (λr s=>(.inl [I k,bu m.vars,aY m.aD,aC m.bZ,aC m.b1,aY m.next,aC m.trans,aC m.bR,b5 m.bS,kQ m.aD.length (iM s (r.filterMap (dz m.aD))),di (i::iM s (r.filterMap (dz m.aD)))]:List D⊕(List D⊕(List D⊕(List D⊕D))))) (λj s=>jo m.aD.length s) (λs _=>by simp only[AA,go_sem,o1,yF ((gk.length:Int)<gk.length),qa,tb];rfl) ?_ n 0 S cL (by omega) (xai _)
 .exact ag
 rintro j x s ad aA J;have fS:=agX n m x (by omega) (by omega);have kp:=J.len;have eE:=BZ (nl:=true) ad;have cq:=yT ((j:Int)<(gk.length:Int));left;cases ay:dz m.aD x with
 |none=>rw[ay]at fS;refine⟨s,?_,by simp[ay],J⟩;have fM:decide (gx none>=0)=false:=rfl;simp only[AA,go_sem,o1,cq,eE,Fo,au.eta,fS,fM,agS,agT,qa,tb,cf (bt:=false) (i:=j) (by omega)]
 |some y=>
  have aH:=agU ay;rw[ay]at fS;have fM:decide ((y:Int)>=0)=true:=xao (by omega);have dt:cC m.aD.length (I (y:Int))=some y:=by rw[j2,xac aH]
  have KG:gx (some y)=(y:Int):=rfl;by_cases oR:y∈s;.refine⟨s,?_,by simp[ay,KC,oR],J⟩;simp only[AA,go_sem,o1,cq,eE,Fo,au.eta,fS,KG,fM,KE,dt,KF aH,Ce,xao oR,Py,Pz,qa,tb,cf (bt:=false) (i:=j) (by omega)]
  have ax:=J.snoc aH oR;refine⟨s++[y],?_,by simp only[xbW,ay,KC,xae oR],ax⟩;have aM:i::(s++[y])=(i::s)++[y]:=rfl;have eL:cT ((i::s).length+1) 8=true:=fX (by simp;omega) (by simp;omega);rw[aM];simp only[AA,go_sem,o1,cq,eE,Fo,au.eta,fS,KG,fM,KE,dt,KF aH,Ce,xat oR,Py,Pz,KD,xan,xay,xax,agR aH,agP,qa,tb,cf (bt:=false) (i:=j) (by omega)]at eL⊢;simp only[eL,rm,dQ,rn,qB,sr,kn,aw,aF,ba,cf (bt:=false) (i:=j) (by omega),qa,tb]
def agZ(n:Nat)(kR:au){B:Nat}(al:iw B kR.aD)(i:Nat)(bX:i<kR.aD.length)(aN:4*B+200<n):∀(m k:Nat)(S:List Nat),rQ (to kR.aD) kR.aD.length i k S->kR.aD.length+1-k<m->bJ (No n) m [I (k:Int),bu kR.vars,aY kR.aD,aC kR.bZ,aC kR.b1,aY kR.next,aC kR.trans,aC kR.bR,b5 kR.bS,kQ kR.aD.length S,di (i::S)]=some (.inl [kQ kR.aD.length (wQ (to kR.aD) i m k S)])
 |0,_,_,_,h=>absurd h (xaH _)
 |m+1,k,S,h,hm=>by
  have bI:=al.len;have aj:=al.b;rw[lx,wQ];have ayK:=h.inv.len;have hle:=h.le;cases ad:(i::S)[k]? with
  |none=>
   have ai:S.length+1<=k:=by have:=xcj.1 ad;simpa using this
   have a8:decide ((k:Int)<(((i::S).length:Nat):Int))=false:=xat (by simp;omega);simp only[No,go_sem,KD,a8,qa]
  |some x=>
   have ai:k<S.length+1:=by have:=(xaa.1 ad).1;simpa using this
   have qj:x<kR.aD.length:=by cases k with|zero=>simp at ad;omega|succ k=>exact h.inv.2 x (xad (by simpa using ad))
   obtain⟨d,ay⟩:∃d,kR.aD[x]?=some d:=⟨kR.aD[x],xab qj⟩;have h7:=al.e d (xad ay);have n9:=h.next (λi k ai=>l2 i k ai) ad
   have ih:=agZ n kR al i bX aN m (k+1) _ n9 (by omega);have cj:=Vt n d.e (by omega) h7.1 (by omega);have ayL:=EM d.e;have fP:=ayQ n kR al i k (gw 3 d.e []) S h.inv (by omega) (by omega);have j1:(gw 3 d.e []).filterMap (dz kR.aD)=to kR.aD x:=by rw[EN ay];rfl
   rw[j1]at fP;have tE:decide ((k:Int)<(((i::S).length:Nat):Int))=true:=xao (by simp;omega);have dt:cC (i::S).length (I (k:Int))=some k:=by rw[j2,xac (by simpa using ai)]
   have lS:((k:Int)+1)=((k+1:Nat):Int):=by omega
   simp only[No,go_sem,KD,tE,dt,agQ ad,Fl,fR ay,bA.iZ,cj,qa,tb,fP,cf (bt:=false) (i:=k) (by omega),ih]
def ayR(n:Nat)(m:au){B:Nat}(al:iw B m.aD)(i:Nat)(ag:i<m.aD.length)(aN:4*B+200<n):∃S,HN n [m.d,I (i:Int)]=some (kQ m.aD.length S)/\(i∈S↔jT m.aD i=true):=by
 have bI:=al.len;have aj:=al.b;have ax:=agZ n m al i ag aN n 0 [] (rQ.start _ _ _) (by omega);have Fp:=Wv (λi k ai=>l2 i k ai) n 0 [] (rQ.start (to m.aD) m.aD.length i) (by omega);rw[<-Vy m.aD i]at Fp;generalize wQ (to m.aD) i n 0 []=S at*;refine⟨S,?_,Fp⟩;have BU:lr 1 (I (m.aD.length:Int)) (I (m.aD.length:Int))=some m.aD.length:=by simp[lr,I];omega
 have aM:D.aW 1 (List.replicate m.aD.length [aK false])=kQ m.aD.length []:=by rw[agO];rfl
 have a8:D.aW 1 [[I (i:Int)]]=di (i::[]):=rfl;have bT:(I ((0:Nat):Int))=I 0:=rfl;rw[bT]at ax;simp only[HN,abL,go_sem,au.agg,au.bc,au.c1,au.c2,au.b8,au.c3,au.dq,au.dr,au.dG,eV,BU,aM,a8,ax,qa]
def cE(e:Nat->Int):Nat->Nat->Int×Int
 |0,_=>(0,0)|m+1,i=>if e i=0 then cE e m (i+1)else((i:Int),e i)
def KH(e:Nat->Int):∀(m i:Nat),(cE e m i).2=0↔∀j,i<=j->j<i+m->e j=0
 |0,i=>by simp[cE];intro j J aa;omega
 |m+1,i=>by
  rw[cE];by_cases h:e i=0
  .rw[xac h,KH e m (i+1)];constructor
   .intro J j aa ax;by_cases aA:j=i;.subst aA;exact h
    exact J j (by omega) (by omega)
   intro J j aa ax;exact J j (by omega) (by omega)
  rw[xae h];exact⟨λJ=>absurd J h,λJ=>absurd (J i (xaU _) (by omega)) h⟩
def tc(e:Nat->Int)(m i:Nat)(h:(cE e m i).2=0):cE e m i=(0,0):=by
 induction m generalizing i with
 |zero=>rfl
 |succ m ih=>
  rw[cE]at h⊢;by_cases ar:e i=0;.rw[xac ar]at h⊢;exact ih (i+1) h
  rw[xae ar]at h;exact absurd h ar
def nZ{eZ:Type}{f:List D->Option (List D⊕(List D⊕eZ))}(eG:Nat->List D)(e:Nat->Int)(N:Nat)(L:List D)(W:Int×Int->eZ) (az:∀i,i<N->f (eG i)=some (if e i=0 then .inl (eG (i+1))else .inr (.inr (W ((i:Int),e i))))) (he:f (eG N)=some (.inr (.inl L))): ∀(m i n:Nat),i+m=N->m<n->bJ f n (eG i)=some (if(cE e m i).2=0 then .inl L else .inr (W (cE e m i)))
 |0,i,n,h,aN=>by
  obtain⟨k,rfl⟩:∃k,n=k+1:=⟨n-1,by omega⟩;have:i=N:=by omega
  subst this;rw[lx,he];rfl
 |m+1,i,n,h,aN=>by
  obtain⟨k,rfl⟩:∃k,n=k+1:=⟨n-1,by omega⟩;rw[lx,az i (by omega),cE];by_cases ar:e i=0;.rw[xac ar,xac ar];exact nZ eG e N L W az he m (i+1) k (by omega) (by omega)
  rw[xae ar,xae ar];simp only[dQ,xae ar]
structure PA(m:au)(n:Nat):Prop where
 bC:Fk m
 jU:13302000000<n
 kS:l6 m.vars
 ag0:∀v∈m.vars,v.name.size+24<n
 hV:∀d∈m.aD,d.name.size+24<n/\d.name.size<=9223372036854775807
 bZ:m.bZ.length<=100/\∀t∈m.bZ,t.Ok/\t.bC<=660000
 b1:m.b1.length<=100/\∀t∈m.b1,t.Ok/\t.bC<=660000
 next:m.next.length<=100/\∀d∈m.next,d.e.Ok/\d.e.bC<=660000
 trans:m.trans.length<=100/\∀t∈m.trans,t.Ok/\t.bC<=660000
 bR:m.bR.length<=100/\∀t∈m.bR,t.Ok/\t.bC<=660000
 bS:m.bS.length<=100/\∀s∈m.bS,(s.f.Ok/\s.f.bC<=660000)/\s.name.size+24<n/\s.name.size<=9223372036854775807
noncomputable section
mutual
def mF(m:au):Fm->Int
 | .mk o t b ks=>if o=1 then p9 m false t else n0 m ks
def n0(m:au):List Fm->Int
 |[]=>0|k::r=>if mF m k=0 then n0 m r else mF m k
end
theorem Wx(m:au)(f:Fm):mF m f=if f.op=1 then p9 m false f.e else n0 m f.bf:=by cases f;rw[mF];rfl
def mG(m:au)(i:Nat):Int:=match m.aD[i]? with
 |some d=>if isName d.name=true then(if((eB m.vars d.name).isSome||(dz (m.aD.take i) d.name).isSome)=true then 6 else 0)else 12
 |none=>0
def ns(m:au)(i:Nat):Int:=if jT m.aD i=true then 14 else 0
def mH(m:au)(i:Nat):Int:=match m.aD[i]? with|some d=>(hr m false d.e).2|none=>0
def fk(m:au)(l:List Tm)(nx:Bool)(i:Nat):Int:=match l[i]? with|some t=>p9 m nx t|none=>0
def j7(m:au)(i:Nat):Int:=match m.next[i]? with
 |some d=>match eB m.vars d.name with|none=>12|some k=>if(dz (m.next.take i) d.name).isSome=true then 6 else if((hr m false d.e).2==0&&((hr m false d.e).1.b !=(m.vars[k]?.map V.bool).getD false))=true then 13 else(hr m false d.e).2
 |none=>0
def j8(m:au)(i:Nat):Int:=match m.bS[i]? with
 |some s=>if isName s.name=true then(if(o7 (m.bS.take i) s.name).isSome=true then 6 else if l3 s.f=0 then mF m s.f else l3 s.f)else 12
 |none=>0
end
def ag1{l:List bA}{i:Nat}(h:i<=l.length):og 5 (aY l) none (some (I (i:Int)))=some (aY (l.take i)):=by rw[aY,Wj (by simpa using h)];simp[aY,List.map_take]
def ayS{l:List cU}{i:Nat}(h:i<=l.length):og 7 (b5 l) none (some (I (i:Int)))=some (b5 (l.take i)):=by rw[b5,Wj (by simpa using h)];simp[b5,List.map_take]
def ag2{m:au}(hm:Fk m):∀(n:Nat)(f:Fm),13301000000+f.bC<n->f.Ok->f.bC<=660000->uD n [m.d,f.d]=some (I (mF m f))
 |0,_,h,_,_=>absurd h (xaH _)
 |n+1,f,aN,bE,az=>by
  have VS:=f.Hp;have iY:=f.mu;rw[Wx];have bp:=agM hm n (by omega) bE.e (by omega) false;have bI:fW (cH 6 f.nl (Fm.rows f.bf))=some (I f.bf.length):=by simp
  have al:=dy (f:=I0 (uD n) n) f.bf (λi (_:Unit)=>[cH 6 f.nl (Fm.rows f.bf),I f.bf.length,I (i:Int),bu m.vars,aY m.aD,aC m.bZ,aC m.b1,aY m.next,aC m.trans,aC m.bR,b5 m.bS]) (λr _=>if n0 m r=0 then(.inl []:List D⊕D)else .inr (I (n0 m r))) (λ_ _=>True) ?_ ?_ n 0 () trivial (by have:=f.mu;omega) (xai _)
  .have bT:(I ((0:Nat):Int))=I 0:=rfl;rw[bT,xal]at al;show I1 (uD n) n m.d f.d=_;by_cases J:f.op=1
   .have dS:(f.op==1)=true:=by simp[J]
    simp only[I1,go_sem,au.agg,dS,xac J,au.bc,au.c1,au.c2,au.b8,au.c3,au.dq,au.dr,au.dG,au.eta,bp]
   have dS:(f.op==1)=false:=by simpa using J
   simp only[I1,go_sem,au.agg,dS,xae J,au.bc,au.c1,au.c2,au.b8,au.c3,au.dq,au.dr,au.dG,au.eta,bI,al];by_cases ar:n0 m f.bf=0;.rw[xac ar,ar,rn]
   rw[xae ar,G8]
  .intro _ _;simp only[I0,go_sem,yF ((f.bf.length:Int)<f.bf.length),n0]
  intro i a _ aG ag _;have fT:=xad aG;have bF:=Fm.ki fT;have av:=ag2 hm n a (by omega) (bE.fO fT) (by omega);have cq:=yT ((i:Int)<(f.bf.length:Int));by_cases ar:mF m a=0
  .left;rw[ar]at av;refine⟨(),?_,by simp only[n0,ar,xaG],trivial⟩;have bF:((0:Int) !=0)=false:=rfl;simp only[I0,go_sem,cq,Fm.h4 aG,au.eta,av,bF,cf (bt:=false) (i:=i) (by omega)]
  right;have bF:(mF m a !=0)=true:=by simpa using ar
  simp only[I0,go_sem,cq,Fm.h4 aG,au.eta,av,bF,n0,xae ar]
def ag3{m:au}(hm:Fk m):∀(n:Nat)(f:Fm),13301000000+f.bC<n->f.Ok->f.bC<=660000->uw n [m.d,f.d]=some (I (mF m f))
 |0,_,h,_,_=>absurd h (xaH _)
 |n+1,f,aN,bE,az=>by
  have VS:=f.Hp;have iY:=f.mu;rw[Wx];have bp:=agN hm n (by omega) bE.e (by omega) false;have bI:fW (cH 6 f.nl (Fm.rows f.bf))=some (I f.bf.length):=by simp
  have al:=dy (f:=Ie (uw n) n) f.bf (λi (_:Unit)=>[I (i:Int),bu m.vars,aY m.aD,aC m.bZ,aC m.b1,aY m.next,aC m.trans,aC m.bR,b5 m.bS,I f.op,I f.e.op,I f.e.num,a6 f.e.name,cH 4 f.e.nl (Tm.rows f.e.bf),cH 6 f.nl (Fm.rows f.bf)]) (λr _=>if n0 m r=0 then(.inl []:List D⊕D)else .inr (I (n0 m r))) (λ_ _=>True) ?_ ?_ n 0 () trivial (by have:=f.mu;omega) (xai _)
  .have bT:(I ((0:Nat):Int))=I 0:=rfl;rw[bT,xal]at al;show Ig (uw n) n m.d f.d=_;by_cases J:f.op=1
   .have dS:(f.op==1)=true:=by simp[J]
    simp only[Ig,go_sem,au.agg,dS,xac J,au.bc,au.c1,au.c2,au.b8,au.c3,au.dq,au.dr,au.dG,au.eta,bp]
   have dS:(f.op==1)=false:=by simpa using J
   simp only[Ig,go_sem,au.agg,dS,xae J,au.bc,au.c1,au.c2,au.b8,au.c3,au.dq,au.dr,au.dG,au.eta,bI,al];by_cases ar:n0 m f.bf=0;.rw[xac ar,ar,rn]
   rw[xae ar,G8]
  .intro _ _;simp only[Ie,go_sem,bI,yF ((f.bf.length:Int)<f.bf.length),n0]
  intro i a _ aG ag _;have fT:=xad aG;have bF:=Fm.ki fT;have av:=ag3 hm n a (by omega) (bE.fO fT) (by omega);have cq:=yT ((i:Int)<(f.bf.length:Int));by_cases ar:mF m a=0
  .left;rw[ar]at av;refine⟨(),?_,by simp only[n0,ar,xaG],trivial⟩;have bF:((0:Int) !=0)=false:=rfl;simp only[Ie,go_sem,bI,cq,Fm.h4 aG,au.eta,av,bF,cf (bt:=false) (i:=i) (by omega)]
  right;have bF:(mF m a !=0)=true:=by simpa using ar
  simp only[Ie,go_sem,bI,cq,Fm.h4 aG,au.eta,av,bF,n0,xae ar]
section
variable{m:au}{n:Nat}(hm:PA m n)
include hm
theorem ayT(i:Nat)(ag:i<m.aD.length):wx n [aY m.aD,m.d,I (i:Int)]=some (I (mG m i)):=by have aj:=hm.jU;have tD:=hm.bC.dl;have kP:=hm.bC.gB;obtain⟨d,ay⟩:∃d,m.aD[i]?=some d:=⟨m.aD[i],xab ag⟩;have Wy:=hm.hV d (xad ay);have cj:=Wh n d.name (by omega) Wy.2;have ha:=ayo n m.vars d.name (by omega) (by omega);have hD:=ayr n (m.aD.take i) d.name (by simp;omega) (by simp;omega);have az:=ag1 (l:=m.aD) (i:=i) (by omega);simp only[mG,ay];cases J:isName d.name with|false=>simp only[wx,Ji,go_sem,au.agg,fR ay,bA.hb,cj,J]|true=>cases aa:(eB m.vars d.name).isSome with|true=>simp only[wx,Ji,go_sem,au.agg,au.bc,fR ay,bA.hb,cj,J,ha,aa]|false=>cases ax:(dz (m.aD.take i) d.name).isSome with|true=>simp only[wx,Ji,go_sem,au.agg,au.bc,fR ay,bA.hb,cj,J,ha,aa,az,hD,ax,Bool.or_false,xbG]|false=>simp only[wx,Ji,go_sem,au.agg,au.bc,fR ay,bA.hb,cj,J,ha,aa,az,hD,ax,Bool.or_false,xbG]
theorem ayU(i:Nat)(ag:i<m.aD.length):D9 n [aY m.aD,m.d,I (i:Int)]=some (I (mH m i)):=by have aj:=hm.jU;obtain⟨d,ay⟩:∃d,m.aD[i]?=some d:=⟨m.aD[i],xab ag⟩;have h7:=hm.bC.d.e d (xad ay);have bp:=Wt hm.bC n (by omega) h7.1 h7.2 false;simp only[mH,ay];simp only[D9,acv,go_sem,au.agg,au.bc,au.c1,au.c2,au.b8,au.c3,au.dq,au.dr,au.dG,au.eta,fR ay,bA.iZ,bp,qS]
theorem ayV(l:List Tm)(al:∀t∈l,t.Ok/\t.bC<=660000)(k:Int)(nx:Bool)(i:Nat)(ag:i<l.length):D8 n [.agg [I k,aC l,aK nx],m.d,I (i:Int)]=some (I (fk m l nx i)):=by have aj:=hm.jU;obtain⟨t,aP⟩:∃t,l[i]?=some t:=⟨l[i],xab ag⟩;have KI:=al t (xad aP);have bp:=agM hm.bC n (by omega) KI.1 KI.2 nx;have aG:dO 3 (.agg [I k,aC l,aK nx])=true:=rfl;have c1:ae (.agg [I k,aC l,aK nx]) 1=aC l:=rfl;have c2:ae (.agg [I k,aC l,aK nx]) 2=aK nx:=rfl;simp only[fk,aP];simp only[D8,acu,go_sem,aG,c1,c2,au.agg,au.bc,au.c1,au.c2,au.b8,au.c3,au.dq,au.dr,au.dG,au.eta,yR aP,bp]
theorem ayW(i:Nat)(ag:i<m.next.length):yi n [aY m.next,m.d,I (i:Int)]=some (I (j7 m i)):=by
 have aj:=hm.jU;have nO:=hm.next.1
 have kP:=hm.bC.gB;obtain⟨d,ay⟩:∃d,m.next[i]?=some d:=⟨m.next[i],xab ag⟩
 have h7:=hm.next.2 d (xad ay)
 have bp:=Wt hm.bC n (by omega) h7.1 h7.2 false;have ha:=ayt n m.vars d.name (by omega) (by omega);have hD:=ayw n (m.next.take i) d.name (by simp;omega) (by simp;omega);have az:=ag1 (l:=m.next) (i:=i) (by omega);simp only[j7,ay];cases J:eB m.vars d.name with
 |none=>have ar:decide (gx none<0)=true:=rfl;simp only[yi,NR,go_sem,au.agg,au.bc,fR ay,bA.hb,ha,J,ar]
 |some k=>
  have ar:decide (gx (some k)<0)=false:=by rw[agy];rfl
  have iY:k<m.vars.length:=by have:=xbv.1 J;exact this.1
  obtain⟨v,aS⟩:∃v,m.vars[k]?=some v:=⟨m.vars[k],xab iY⟩;have lK:b3 4 (bu m.vars) (I (gx (some k)))=some v.cells:=hk aS;have Ag:bM false 1 1 v.cells=some (aK v.bool):=rfl;simp only[aS,xaJ,xbr];cases ax:(dz (m.next.take i) d.name).isSome with
  |true=>simp only[yi,NR,go_sem,au.agg,au.bc,fR ay,bA.hb,ha,J,ar,az,hD,ax]
  |false=>
   generalize hr m false d.e=y at*;have cp:bD true .neq (aK y.1.b) (aK v.bool)=some (aK (y.1.b !=v.bool)):=rfl;simp only[yi,NR,go_sem,au.agg,au.bc,au.c1,au.c2,au.b8,au.c3,au.dq,au.dr,au.dG,au.eta,fR ay,bA.hb,bA.iZ,ha,J,ar,az,hD,ax,bp,qS,uU,lK,Ag,cp];by_cases ah:(y.2==0&&(y.1.b !=v.bool))=true
   .rw[xac ah,xac ah]
   rw[xae ah,xae ah]
theorem ayX(i:Nat)(ag:i<m.bS.length):wv n [b5 m.bS,m.d,I (i:Int)]=some (I (j8 m i)):=by
 have aj:=hm.jU;have kp:=hm.bS.1;obtain⟨s,az⟩:∃s,m.bS[i]?=some s:=⟨m.bS[i],xab ag⟩;obtain⟨⟨bm,Dw⟩,ag4,Wz⟩:=hm.bS.2 s (xad az);have cj:=Wh n s.name (by omega) Wz;have hD:=ayB n (m.bS.take i) s.name (by simp;omega) (by simp;omega);have nU:=ayS (l:=m.bS) (i:=i) (by omega);have ck:=VV n s.f (by omega) bm (by omega);have fI:=ag2 hm.bC n s.f (by omega) bm Dw;simp only[j8,az];cases J:isName s.name with
 |false=>simp only[wv,I2,go_sem,au.agg,nX az,cU.hb,cj,J]
 |true=>
  cases ax:(o7 (m.bS.take i) s.name).isSome with
  |true=>simp only[wv,I2,go_sem,au.agg,nX az,cU.hb,cj,J,nU,hD,ax]
  |false=>
   by_cases bj:l3 s.f=0
   .have nL:(l3 s.f !=0)=false:=by simp[bj]
    simp only[wv,I2,go_sem,au.agg,au.bc,au.c1,au.c2,au.b8,au.c3,au.dq,au.dr,au.dG,au.eta,nX az,cU.hb,cU.iZ,cj,J,nU,hD,ax,ck,nL,xac bj,fI]
   have nL:(l3 s.f !=0)=true:=by simpa using bj
   simp only[wv,I2,go_sem,au.agg,au.bc,au.c1,au.c2,au.b8,au.c3,au.dq,au.dr,au.dG,au.eta,nX az,cU.hb,cU.iZ,cj,J,nU,hD,ax,ck,nL,xae bj]
end
def gi(p:Int×Int):D:= .aZ [I p.1,I p.2]
def wR(a b:Int×Int):Int×Int:=if a.2=0 then b else a
def findIdx_take{α:Type}{l:List α}{p:α->Bool}{i:Nat}{d:α}(ay:l[i]?=some d)(aU:p d=true):decide (gx (l.findIdx? p)<(i:Int))=((l.take i).findIdx? p).isSome:=by
 obtain⟨ag,ayY⟩:=xaa.1 ay;cases h:l.findIdx? p with
 |none=>have:=List.findIdx?_eq_none_iff.1 h d (xad ay);rw[aU]at this;cases this
 |some k=>
  obtain⟨ai,ayZ,CJ⟩:=xbv.1 h;rw[List.findIdx?_isSome];have sc:k<=i:=by
   rcases xaT i k with J|J;.have:=CJ i J;rw[ayY]at this;exact absurd aU this
   exact J
  by_cases he:k<i;.have J:decide (gx (some k)<(i:Int))=true:=xao (by show(k:Int)<(i:Int);omega);rw[J];symm;rw[xbH];refine⟨l[k],xaF.2 ⟨k,?_⟩,ayZ⟩;rw[List.getElem?_take_of_lt he];exact xab ai
  have J:decide (gx (some k)<(i:Int))=false:=xat (by show¬(k:Int)<(i:Int);omega);rw[J];symm;rw[Bool.eq_false_iff,ne_eq,xbH];rintro⟨a,aG,ay0⟩;obtain⟨j,aA⟩:=xaF.1 aG;have cq:=(xaa.1 aA).1;simp only[xbB]at cq;rw[List.getElem?_take_of_lt (by omega)]at aA;obtain⟨WA,wS⟩:=xaa.1 aA;have:=CJ j (by omega);rw[wS]at this;exact this ay0
noncomputable def te(m:au):Int×Int:=wR (cE (mG m) m.aD.length 0) (wR (cE (ns m) m.aD.length 0) (cE (mH m) m.aD.length 0))
section
variable{m:au}{n:Nat}(hm:PA m n)
include hm
theorem ay1:bJ (AJ n) n [I 0,bu m.vars,aY m.aD,aC m.bZ,aC m.b1,aY m.next,aC m.trans,aC m.bR,b5 m.bS]=some (if(cE (mG m) m.aD.length 0).2=0 then .inl [bu m.vars,aY m.aD,aC m.bZ,aC m.b1,aY m.next,aC m.trans,aC m.bR,b5 m.bS]else .inr (gi (cE (mG m) m.aD.length 0))):=by
 have aj:=hm.jU;have tD:=hm.bC.dl;have kP:=hm.bC.gB;refine nZ (λi=>[I (i:Int),bu m.vars,aY m.aD,aC m.bZ,aC m.b1,aY m.next,aC m.trans,aC m.bR,b5 m.bS]) (mG m) m.aD.length _ gi ?_ ?_ _ 0 n (by omega) (by omega)
 .intro i ag;obtain⟨d,ay⟩:∃d,m.aD[i]?=some d:=⟨m.aD[i],xab ag⟩;have Wy:=hm.hV d (xad ay);have cj:=Wi n d.name (by omega) Wy.2;have ha:=agY n m d.name (by omega) (by omega);have hD:=agX n m d.name (by omega) (by omega);have bX:=yT ((i:Int)<(m.aD.length:Int));have BY:=findIdx_take (p:=λe:bA=>decide (e.name=d.name)) ay (by simp);change decide (gx (dz m.aD d.name)<(i:Int))=(dz (m.aD.take i) d.name).isSome at BY;simp only[mG,ay];cases J:isName d.name with
  |false=>simp only[AJ,go_sem,eV,bX,fR ay,bA.hb,cj,J,xae (show¬(12:Int)=0 by decide),gi]
  |true=>
   cases aa:(eB m.vars d.name).isSome with
   |true=>have fM:=Fh (eB m.vars d.name);rw[aa]at fM;simp only[AJ,go_sem,eV,bX,fR ay,bA.hb,cj,J,au.eta,ha,fM,vO,xae (show¬(true=false) by decide),vP,xae (show¬(6:Int)=0 by decide),gi]
   |false=>
    have fM:=Fh (eB m.vars d.name);rw[aa]at fM;cases ax:(dz (m.aD.take i) d.name).isSome with
    |true=>rw[ax]at BY;simp only[AJ,go_sem,eV,bX,fR ay,bA.hb,cj,J,au.eta,ha,fM,vO,hD,BY,vP,xae (show¬(6:Int)=0 by decide),gi,Bool.or_true]
    |false=>rw[ax]at BY;simp only[AJ,go_sem,eV,bX,fR ay,bA.hb,cj,J,au.eta,ha,fM,vO,hD,BY,vP,Bool.or_false,cf (bt:=false) (i:=i) (by omega)]
 simp only[AJ,go_sem,eV,yF ((m.aD.length:Int)<m.aD.length)]
theorem ay2:bJ (H8 n) n [I 0,bu m.vars,aY m.aD,aC m.bZ,aC m.b1,aY m.next,aC m.trans,aC m.bR,b5 m.bS]=some (if(cE (ns m) m.aD.length 0).2=0 then .inl [bu m.vars,aY m.aD,aC m.bZ,aC m.b1,aY m.next,aC m.trans,aC m.bR,b5 m.bS]else .inr (gi (cE (ns m) m.aD.length 0))):=by
 have aj:=hm.jU;have tD:=hm.bC.dl;refine nZ (λi=>[I (i:Int),bu m.vars,aY m.aD,aC m.bZ,aC m.b1,aY m.next,aC m.trans,aC m.bR,b5 m.bS]) (ns m) m.aD.length _ gi ?_ ?_ _ 0 n (by omega) (by omega)
 .intro i ag;obtain⟨S,cL,ag5⟩:=ayR n m hm.bC.d i ag (by omega);have bX:=yT ((i:Int)<(m.aD.length:Int));have ad:b3 1 (kQ m.aD.length S) (I (i:Int))=some [aK (decide (i∈S))]:=by
   rw[kQ,aaS,KB ag]
  cases J:jT m.aD i with
  |true=>have aa:=xao (ag5.2 J);simp only[H8,go_sem,eV,bX,au.eta,cL,ad,Ce,aa,ns,J,xae (show¬(14:Int)=0 by decide),gi]
  |false=>have aa:=xat (show¬i∈S fromλh=>by rw[ag5.1 h]at J;cases J);simp only[H8,go_sem,eV,bX,au.eta,cL,ad,Ce,aa,ns,J,cf (bt:=false) (i:=i) (by omega)]
 simp only[H8,go_sem,eV,yF ((m.aD.length:Int)<m.aD.length)]
theorem ay3:bJ (H9 n) n [I 0,bu m.vars,aY m.aD,aC m.bZ,aC m.b1,aY m.next,aC m.trans,aC m.bR,b5 m.bS]=some (if(cE (mH m) m.aD.length 0).2=0 then .inl []else .inr (gi (cE (mH m) m.aD.length 0))):=by
 have aj:=hm.jU;have tD:=hm.bC.dl;refine nZ (λi=>[I (i:Int),bu m.vars,aY m.aD,aC m.bZ,aC m.b1,aY m.next,aC m.trans,aC m.bR,b5 m.bS]) (mH m) m.aD.length _ gi ?_ ?_ _ 0 n (by omega) (by omega)
 .intro i ag;obtain⟨d,ay⟩:∃d,m.aD[i]?=some d:=⟨m.aD[i],xab ag⟩;have h7:=hm.bC.d.e d (xad ay);have bp:=Wu hm.bC n (by omega) h7.1 h7.2 false;have bX:=yT ((i:Int)<(m.aD.length:Int));simp only[mH,ay];by_cases J:(hr m false d.e).2=0
  .have dS:((hr m false d.e).2 !=0)=false:=by simp[J]
   simp only[H9,go_sem,eV,bX,au.eta,fR ay,bA.iZ,bp,qS,dS,xac J,cf (bt:=false) (i:=i) (by omega)]
  have dS:((hr m false d.e).2 !=0)=true:=by simpa using J
  simp only[H9,go_sem,eV,bX,au.eta,fR ay,bA.iZ,bp,qS,dS,xae J,gi]
 simp only[H9,go_sem,eV,yF ((m.aD.length:Int)<m.aD.length)]
theorem ay4:x7 n [m.d]=some (gi (te m)):=by
 have aa:=ay1 hm;have iV:=ay2 hm;have nq:=ay3 hm;have bF:∀e k,(cE e k 0).2=0->cE e k 0=(0,0):=λe k=>tc e k 0;unfold te wR;by_cases c1:(cE (mG m) m.aD.length 0).2=0
 case neg=>rw[xae c1]at aa⊢;simp only[x7,Ia,go_sem,au.agg,au.bc,au.c1,au.c2,au.b8,au.c3,au.dq,au.dr,au.dG,aa]
 rw[xac c1]at aa⊢;by_cases c2:(cE (ns m) m.aD.length 0).2=0
 case neg=>rw[xae c2]at iV⊢;simp only[x7,Ia,go_sem,au.agg,au.bc,au.c1,au.c2,au.b8,au.c3,au.dq,au.dr,au.dG,aa,iV]
 rw[xac c2]at iV⊢;by_cases b8:(cE (mH m) m.aD.length 0).2=0;.rw[xac b8]at nq;rw[bF _ _ b8];simp only[x7,Ia,go_sem,au.agg,au.bc,au.c1,au.c2,au.b8,au.c3,au.dq,au.dr,au.dG,aa,iV,nq,gi]
 rw[xae b8]at nq;simp only[x7,Ia,go_sem,au.agg,au.bc,au.c1,au.c2,au.b8,au.c3,au.dq,au.dr,au.dG,aa,iV,nq]
theorem PB(l:List Tm)(al:l.length<=100/\∀t∈l,t.Ok/\t.bC<=660000)(nx:Bool):wb n [m.d,aC l,aK nx]=some (gi (cE (fk m l nx) l.length 0)):=by
 have aj:=hm.jU;have ag:=nZ (f:=Ib n) (λi=>[aC l,aK nx,I (i:Int),bu m.vars,aY m.aD,aC m.bZ,aC m.b1,aY m.next,aC m.trans,aC m.bR,b5 m.bS]) (fk m l nx) l.length [] gi ?_ ?_ l.length 0 n (by omega) (by omega)
 .have bT:(I ((0:Nat):Int))=I 0:=rfl;rw[bT]at ag;by_cases c:(cE (fk m l nx) l.length 0).2=0;.rw[xac c]at ag;rw[tc _ _ _ c];simp only[wb,TT,go_sem,au.agg,au.bc,au.c1,au.c2,au.b8,au.c3,au.dq,au.dr,au.dG,ag,gi]
  rw[xae c]at ag;simp only[wb,TT,go_sem,au.agg,au.bc,au.c1,au.c2,au.b8,au.c3,au.dq,au.dr,au.dG,ag]
 .intro i ag;obtain⟨t,aP⟩:∃t,l[i]?=some t:=⟨l[i],xab ag⟩;have KI:=al.2 t (xad aP);have bp:=agN hm.bC n (by omega) KI.1 KI.2 nx;have bX:=yT ((i:Int)<(l.length:Int));simp only[fk,aP];by_cases J:p9 m nx t=0
  .have dS:(p9 m nx t !=0)=false:=by simp[J]
   simp only[Ib,go_sem,ix,bX,au.eta,yR aP,bp,dS,xac J,cf (bt:=false) (i:=i) (by have:=al.1;omega)]
  have dS:(p9 m nx t !=0)=true:=by simpa using J
  simp only[Ib,go_sem,ix,bX,au.eta,yR aP,bp,dS,xae J,gi]
 simp only[Ib,go_sem,ix,yF ((l.length:Int)<l.length)]
theorem ay5(i:Nat)(k:Int){d:bA}(ay:m.next[i]?=some d):bJ (DQ n) n [I (i:Int),I k,I 0,bu m.vars,aY m.aD,aC m.bZ,aC m.b1,aY m.next,aC m.trans,aC m.bR,b5 m.bS]=some (if(dz (m.next.take i) d.name).isSome=true then .inr (.inr (.inr (.inr (.aZ [I (i:Int),I 6]))))else .inl [I (i:Int),I k,bu m.vars,aY m.aD,aC m.bZ,aC m.b1,aY m.next,aC m.trans,aC m.bR,b5 m.bS]):=by
 have aj:=hm.jU;have nO:=hm.next.1
 have bX:=(xaa.1 ay).1;have b6:(m.next.take i).length=i:=by simp;omega
 have ag:=dy (f:=DQ n) (m.next.take i) (λj (_:Unit)=>[I (i:Int),I k,I (j:Int),bu m.vars,aY m.aD,aC m.bZ,aC m.b1,aY m.next,aC m.trans,aC m.bR,b5 m.bS]) (λr _=>(if(dz r d.name).isSome=true then .inr (.inr (.inr (.inr (.aZ [I (i:Int),I 6]))))else .inl [I (i:Int),I k,bu m.vars,aY m.aD,aC m.bZ,aC m.b1,aY m.next,aC m.trans,aC m.bR,b5 m.bS]:List D⊕(List D⊕(List D⊕(List D⊕D))))) (λ_ _=>True) (λ_ _=>by rw[b6];simp only[DQ,go_sem,yF ((i:Int)<i)];rfl) ?_ n 0 () trivial (by omega) (xai _);.exact ag
 intro j a _ aG aA _;rw[b6]at aA;rw[List.getElem?_take_of_lt aA]at aG;have cq:=yT ((j:Int)<(i:Int));have ah:dz (a::(m.next.take i).drop (j+1)) d.name=if decide (a.name=d.name)=true then some 0 else(dz ((m.next.take i).drop (j+1)) d.name).map (·+1):=findIdx_cons _ a _
 rw[ah];by_cases h:a.name=d.name;.right;rw[xac (xao h)];simp only[DQ,go_sem,cq,fR aG,fR ay,bA.hb,xao h,Option.isSome_some]
 left;refine⟨(),?_,?_,trivial⟩;.simp only[DQ,go_sem,cq,fR aG,fR ay,bA.hb,xat h,cf (bt:=false) (i:=j) (by omega)]
 have bB:¬(decide (a.name=d.name)=true):=by simpa using h
 rw[xae bB,Option.isSome_map]
theorem ay6(i:Nat){d:cU}(ay:m.bS[i]?=some d):bJ (DU n) n [I (i:Int),I 0,bu m.vars,aY m.aD,aC m.bZ,aC m.b1,aY m.next,aC m.trans,aC m.bR,b5 m.bS]=some (if(o7 (m.bS.take i) d.name).isSome=true then .inr (.inr (.inr (.inr (.aZ [I (i:Int),I 6]))))else .inl [I (i:Int),bu m.vars,aY m.aD,aC m.bZ,aC m.b1,aY m.next,aC m.trans,aC m.bR,b5 m.bS]):=by
 have aj:=hm.jU;have nO:=hm.bS.1;have bX:=(xaa.1 ay).1;have b6:(m.bS.take i).length=i:=by simp;omega
 have ag:=dy (f:=DU n) (m.bS.take i) (λj (_:Unit)=>[I (i:Int),I (j:Int),bu m.vars,aY m.aD,aC m.bZ,aC m.b1,aY m.next,aC m.trans,aC m.bR,b5 m.bS]) (λr _=>(if(o7 r d.name).isSome=true then .inr (.inr (.inr (.inr (.aZ [I (i:Int),I 6]))))else .inl [I (i:Int),bu m.vars,aY m.aD,aC m.bZ,aC m.b1,aY m.next,aC m.trans,aC m.bR,b5 m.bS]:List D⊕(List D⊕(List D⊕(List D⊕D))))) (λ_ _=>True) (λ_ _=>by rw[b6];simp only[DU,go_sem,yF ((i:Int)<i)];rfl) ?_ n 0 () trivial (by omega) (xai _);.exact ag
 intro j a _ aG aA _;rw[b6]at aA;rw[List.getElem?_take_of_lt aA]at aG;have cq:=yT ((j:Int)<(i:Int));have ah:o7 (a::(m.bS.take i).drop (j+1)) d.name=if decide (a.name=d.name)=true then some 0 else(o7 ((m.bS.take i).drop (j+1)) d.name).map (·+1):=findIdx_cons _ a _
 rw[ah];by_cases h:a.name=d.name;.right;rw[xac (xao h)];simp only[DU,go_sem,cq,nX aG,nX ay,cU.hb,xao h,Option.isSome_some]
 left;refine⟨(),?_,?_,trivial⟩;.simp only[DU,go_sem,cq,nX aG,nX ay,cU.hb,xat h,cf (bt:=false) (i:=j) (by omega)]
 have bB:¬(decide (a.name=d.name)=true):=by simpa using h
 rw[xae bB,Option.isSome_map]
theorem ay7:DR n [m.d]=some (gi (cE (j7 m) m.next.length 0)):=by
 have aj:=hm.jU;have nO:=hm.next.1
 have kP:=hm.bC.gB;have ag:=nZ (f:=x9 n) (λi=>[I (i:Int),bu m.vars,aY m.aD,aC m.bZ,aC m.b1,aY m.next,aC m.trans,aC m.bR,b5 m.bS]) (j7 m) m.next.length [] gi ?_ ?_ m.next.length 0 n (by omega) (by omega)
 .have bT:(I ((0:Nat):Int))=I 0:=rfl;rw[bT]at ag;by_cases c:(cE (j7 m) m.next.length 0).2=0;.rw[xac c]at ag;rw[tc _ _ _ c];simp only[DR,TV,go_sem,au.agg,au.bc,au.c1,au.c2,au.b8,au.c3,au.dq,au.dr,au.dG,ag,gi]
  rw[xae c]at ag;simp only[DR,TV,go_sem,au.agg,au.bc,au.c1,au.c2,au.b8,au.c3,au.dq,au.dr,au.dG,ag]
 .intro i ag;obtain⟨d,ay⟩:∃d,m.next[i]?=some d:=⟨m.next[i],xab ag⟩
  have h7:=hm.next.2 d (xad ay)
  have bp:=Wu hm.bC n (by omega) h7.1 h7.2 false;have ha:=agY n m d.name (by omega) (by omega);have bX:=yT ((i:Int)<(m.next.length:Int));simp only[j7,ay];cases J:eB m.vars d.name with
  |none=>rw[J]at ha;have ar:decide (gx none<0)=true:=rfl;simp only[x9,go_sem,eV,bX,au.eta,fR ay,bA.hb,ha,ar,xae (show¬(12:Int)=0 by decide),gi]
  |some k=>
   rw[J]at ha;have iu:=ay5 hm i (gx (some k)) ay;have ar:decide (gx (some k)<0)=false:=by rw[agy];rfl
   have iY:k<m.vars.length:=by have:=xbv.1 J;exact this.1
   obtain⟨v,aS⟩:∃v,m.vars[k]?=some v:=⟨m.vars[k],xab iY⟩;have lK:b3 4 (bu m.vars) (I (gx (some k)))=some v.cells:=hk aS;have Ag:bM false 1 1 v.cells=some (aK v.bool):=rfl;simp only[aS,xaJ,xbr];cases ax:(dz (m.next.take i) d.name).isSome with
   |true=>rw[ax,xac rfl]at iu;simp only[x9,go_sem,eV,bX,au.eta,fR ay,bA.hb,ha,ar,iu,xae (show¬(6:Int)=0 by decide),gi]
   |false=>
    rw[ax,xae (by decide)]at iu;generalize hr m false d.e=y at*;have cp:bD true .neq (aK y.1.b) (aK v.bool)=some (aK (y.1.b !=v.bool)):=rfl;have l5:((13:Int) !=0)=true:=rfl;by_cases ah:(y.2==0&&(y.1.b !=v.bool))=true
    .simp only[x9,go_sem,eV,bX,au.eta,fR ay,bA.hb,bA.iZ,ha,ar,iu,bp,qS,uU,lK,Ag,cp,ah,l5,xae (show¬(13:Int)=0 by decide),gi]
    have e1:(y.2==0&&(y.1.b !=v.bool))=false:=by simpa using ah
    by_cases aH:y.2=0
    .have vm:(y.2 !=0)=false:=by simp[aH]
     simp only[x9,go_sem,eV,bX,au.eta,fR ay,bA.hb,bA.iZ,ha,ar,iu,bp,qS,uU,lK,Ag,cp,e1,vm,xac aH,cf (bt:=false) (i:=i) (by omega)]
    have vm:(y.2 !=0)=true:=by simpa using aH
    simp only[x9,go_sem,eV,bX,au.eta,fR ay,bA.hb,bA.iZ,ha,ar,iu,bp,qS,uU,lK,Ag,cp,e1,vm,xae aH,gi]
 simp only[x9,go_sem,eV,yF ((m.next.length:Int)<m.next.length)]
theorem ay8:DV n [m.d]=some (gi (cE (j8 m) m.bS.length 0)):=by
 have aj:=hm.jU;have kp:=hm.bS.1;have ag:=nZ (f:=ya n) (λi=>[I (i:Int),bu m.vars,aY m.aD,aC m.bZ,aC m.b1,aY m.next,aC m.trans,aC m.bR,b5 m.bS]) (j8 m) m.bS.length [] gi ?_ ?_ m.bS.length 0 n (by omega) (by omega)
 .have bT:(I ((0:Nat):Int))=I 0:=rfl;rw[bT]at ag;by_cases c:(cE (j8 m) m.bS.length 0).2=0;.rw[xac c]at ag;rw[tc _ _ _ c];simp only[DV,TX,go_sem,au.agg,au.bc,au.c1,au.c2,au.b8,au.c3,au.dq,au.dr,au.dG,ag,gi]
  rw[xae c]at ag;simp only[DV,TX,go_sem,au.agg,au.bc,au.c1,au.c2,au.b8,au.c3,au.dq,au.dr,au.dG,ag]
 .intro i ag;obtain⟨s,az⟩:∃s,m.bS[i]?=some s:=⟨m.bS[i],xab ag⟩;obtain⟨⟨bm,Dw⟩,ag4,Wz⟩:=hm.bS.2 s (xad az);have cj:=Wi n s.name (by omega) Wz;have fP:=ay6 hm i az;have ck:=VU n s.f (by omega) bm (by omega);have fI:=ag3 hm.bC n s.f (by omega) bm Dw;have bX:=yT ((i:Int)<(m.bS.length:Int));simp only[j8,az];cases J:isName s.name with
  |false=>simp only[ya,go_sem,jr,bX,nX az,cU.hb,cj,J,xae (show¬(12:Int)=0 by decide),gi]
  |true=>
   cases ax:(o7 (m.bS.take i) s.name).isSome with
   |true=>rw[ax,xac rfl]at fP;simp only[ya,go_sem,jr,bX,nX az,cU.hb,cj,J,fP,xae (show¬(6:Int)=0 by decide),gi]
   |false=>
    rw[ax,xae (by decide)]at fP;by_cases bj:l3 s.f=0
    .have nL:(l3 s.f==0)=true:=by simp[bj]
     by_cases ca:mF m s.f=0
     .have vL:(mF m s.f !=0)=false:=by simp[ca]
      simp only[ya,go_sem,jr,bX,au.eta,nX az,cU.hb,cU.iZ,cj,J,fP,ck,nL,xac bj,fI,vL,xac ca,cf (bt:=false) (i:=i) (by omega)]
     have vL:(mF m s.f !=0)=true:=by simpa using ca
     simp only[ya,go_sem,jr,bX,au.eta,nX az,cU.hb,cU.iZ,cj,J,fP,ck,nL,xac bj,fI,vL,xae ca,gi]
    have nL:(l3 s.f==0)=false:=by simpa using bj
    have ay9:(l3 s.f !=0)=true:=by simpa using bj
    simp only[ya,go_sem,jr,bX,au.eta,nX az,cU.hb,cU.iZ,cj,J,fP,ck,nL,ay9,xae bj,gi]
 simp only[ya,go_sem,jr,yF ((m.bS.length:Int)<m.bS.length)]
end
def oA:List V->Nat
 |[]=>0|v::r=>bitsOf v.span+oA r
theorem V.PC(v:V):D.agg [ae v.d 0,ae v.d 1,ae v.d 2,ae v.d 3]=v.d:=rfl
def aza(n:Nat)(m:au)(aS:l6 m.vars)(al:m.vars.length<=100)(aN:200<n):It n [m.d]=some (I (oA m.vars:Nat)):=by
 have ag:=dy (f:=Nx n) m.vars (λi (s:Nat)=>[I (s:Int),bu m.vars,I m.vars.length,I (i:Int)]) (λr s=>(.inl [I ((s+oA r:Nat):Int)]:List D⊕D)) (λi s=>s<=62*i) ?_ ?_ n 0 0 (by simp) (by omega) (xai _);.have bT:(I ((0:Nat):Int))=I 0:=rfl;rw[bT,xal,xax]at ag;simp only[It,ab7,go_sem,au.agg,au.bc,e5,ag]
 .intro s az;simp only[Nx,go_sem,yF ((m.vars.length:Int)<m.vars.length),oA,xbo]
 intro i v s hK ag az;obtain⟨J,aa,_⟩:=aS.2 v (xad hK);have gF:=Wn n v J aa;have aj:=ayh n v.span (V.Cd v).2 (by omega);have tF:=(Fg (V.Cd v).2).1;have bX:=yT ((i:Int)<(m.vars.length:Int));have fZ:bD false .add (I (s:Int)) (I (bitsOf v.span:Nat))=some (I ((s+bitsOf v.span:Nat):Int)):=by rw[e9 (by omega) (by omega)];rfl
 left;refine⟨s+bitsOf v.span,?_,by rw[oA,xbl],by omega⟩;simp only[Nx,go_sem,bX,hk hK,V.a4,V.g4,V.PC,gF,aj,fZ,cf (bt:=false) (i:=i) (by omega)]
def azb(n:Nat)(m:au)(aS:l6 m.vars)(al:m.vars.length<=100)(aN:200<n):HH n [m.d]=some (I (oA m.vars:Nat)):=by
 have ag:=dy (f:=Nk n) m.vars (λi (s:Nat)=>[I (s:Int),I (i:Int),bu m.vars,aY m.aD,aC m.bZ,aC m.b1,aY m.next,aC m.trans,aC m.bR,b5 m.bS]) (λr s=>(.inl [I ((s+oA r:Nat):Int)]:List D⊕D)) (λi s=>s<=62*i) ?_ ?_ n 0 0 (by simp) (by omega) (xai _);.have bT:(I ((0:Nat):Int))=I 0:=rfl;rw[bT,xal,xax]at ag;simp only[HH,abF,go_sem,au.agg,au.bc,au.c1,au.c2,au.b8,au.c3,au.dq,au.dr,au.dG,ag]
 .intro s az;simp only[Nk,go_sem,e5,yF ((m.vars.length:Int)<m.vars.length),oA,xbo]
 intro i v s hK ag az;obtain⟨J,aa,_⟩:=aS.2 v (xad hK);have gF:=Ff n v J aa;have aj:=ayi n v.span (by have:=(V.Cd v).1;omega) (V.Cd v).2 (by omega);have tF:=(Fg (V.Cd v).2).1;have bX:=yT ((i:Int)<(m.vars.length:Int));have fZ:bD false .add (I (s:Int)) (I (bitsOf v.span:Nat))=some (I ((s+bitsOf v.span:Nat):Int)):=by rw[e9 (by omega) (by omega)];rfl
 left;refine⟨s+bitsOf v.span,?_,by rw[oA,xbl],by omega⟩;simp only[Nk,go_sem,e5,bX,hk hK,V.a4,gF,aj,fZ,cf (bt:=false) (i:=i) (by omega)]
def mI:List V->Int->Int
 |[],a=>a|v::r,a=>mI r (if a<=1073741824 then a*max v.span 1 else a)
def ag6:∀(l:List V)(a:Int),¬a<=1073741824->mI l a=a
 |[],a,_=>rfl|v::r,a,h=>by rw[mI,xae h,ag6 r a h]
def o8(l:List V):Bool:=l.any λv=>v.span==0
def stM(l:List V):Int×Bool:=if o8 l=true then(0,true)else if mI l 1>1073741824 then(0,false)else(mI l 1,true)
def azc{a:Int}:k3 true [I a,I 1]=some (I (max a 1)):=by
 rw[S8]
 congr 2
 split<;>omega
def ag7{a k:Int}(J:1<=a)(aa:a<=1073741824)(ax:0<=k)(bj:k<=1073741825):1<=a*max k 1/\a*max k 1<=1152921505680588800:=by
 have ca:1<=max k 1:=by omega
 have cR:max k 1<=1073741825:=by omega
 generalize max k 1=q at*;constructor;.have:=xci J ca (by omega) (by omega);simpa using this
 have:=xci aa cR (by omega) (by omega);exact this
def azd(n:Nat)(m:au)(aS:l6 m.vars)(al:m.vars.length<=100)(aN:200<n):Bj n [m.d]=some (.aZ [I (stM m.vars).1,aK (stM m.vars).2]):=by
 have ag:=dy (f:=Jj n) m.vars (λi (s:Int×Bool)=>[I s.1,aK s.2,bu m.vars,I m.vars.length,I (i:Int)]) (λr s=>(.inl [I (mI r s.1),aK (s.2||o8 r)]:List D⊕D)) (λi s=>1<=s.1/\s.1<=1152921505680588800) ?_ ?_ n 0 (1,false) (by simp) (by omega) (xai _)
 .have bT:(I ((0:Nat):Int))=I 0:=rfl;rw[bT,xal,xbG]at ag;unfold stM;cases J:o8 m.vars with
  |true=>rw[J]at ag;simp only[Bj,N5,go_sem,au.agg,au.bc,e5,ag]
  |false=>
   rw[J]at ag;by_cases aa:mI m.vars 1>1073741824;.simp only[Bj,N5,go_sem,au.agg,au.bc,e5,ag,xao aa,xac aa]
   simp only[Bj,N5,go_sem,au.agg,au.bc,e5,ag,xat aa,xae aa]
 .intro s az;simp only[Jj,go_sem,yF ((m.vars.length:Int)<m.vars.length),mI,o8,List.any_nil,Bool.or_false]
 intro i v s hK ag az;obtain⟨J,aa,_⟩:=aS.2 v (xad hK);have gF:=Wn n v J aa;have kp:=V.Cd v;have bX:=yT ((i:Int)<(m.vars.length:Int));have vk:∀r,o8 (v::r)=(v.span==0||o8 r):=λr=>rfl;left;by_cases ah:s.1<=1073741824
 .have aj:=ag7 az.1 ah kp.1 kp.2;refine⟨(s.1*max v.span 1,s.2||v.span==0),?_,by rw[mI,xac ah,vk,Bool.or_assoc],aj⟩;simp only[Jj,go_sem,bX,hk hK,V.a4,V.g4,V.PC,gF,xao ah,azc,xQ (bt:=false) (a:=s.1) (b:=max v.span 1) (by omega) (by omega),cf (bt:=false) (i:=i) (by omega)]
 refine⟨(s.1,s.2||v.span==0),?_,by rw[mI,xae ah,vk,Bool.or_assoc],az⟩;simp only[Jj,go_sem,bX,hk hK,V.a4,V.g4,V.PC,gF,xat ah,cf (bt:=false) (i:=i) (by omega)]
def iz:List (Int×(Int×Int))->Int×(Int×Int)
 |[]=>(0,(0,0))|a::r=>if a.2.2=0 then iz r else a
def ag8{eZ:Type}{f:List D->Option (List D⊕(List D⊕eZ))}(L:List (Int×(Int×Int)))(eG:Nat->List D)(E:List D)(W:Int×(Int×Int)->eZ) (az:∀i a,L[i]?=some a->f (eG i)=some (if a.2.2=0 then .inl (eG (i+1))else .inr (.inr (W a)))) (he:f (eG L.length)=some (.inr (.inl E))) (n:Nat) (aN:L.length<n):bJ f n (eG 0)=some (if(iz L).2.2=0 then .inl E else .inr (W (iz L))):=by
 have h:=dy (f:=f) L (λi (_:Unit)=>eG i) (λr _=>(if(iz r).2.2=0 then .inl E else .inr (W (iz r)):List D⊕eZ)) (λ_ _=>True) (λ_ _=>by rw[he];rfl) ?_ n 0 () trivial (by omega) (xai _);.exact h
 intro i a _ aG ag _;have J:=az i a aG;by_cases ar:a.2.2=0
 .left;rw[xac ar]at J;exact⟨(),J,by rw[iz,xac ar],trivial⟩
 right;rw[xae ar]at J;rw[J,iz,xae ar,xae ar]
def iN(m:au):List Nat:=[m.vars.length,m.aD.length,m.bZ.length,m.b1.length,m.next.length,m.trans.length,m.bR.length,m.bS.length]
def iO(m:au)(i:Nat):Int:=if 64<(iN m)[i]?.getD 0 then 18 else 0
noncomputable def oB(m:au):List (Int×(Int×Int)):=[(2,cE (mG m) m.aD.length 0),(2,cE (ns m) m.aD.length 0),(2,cE (mH m) m.aD.length 0),(3,cE (fk m m.bZ false) m.bZ.length 0),(4,cE (fk m m.b1 false) m.b1.length 0),(5,cE (j7 m) m.next.length 0),(6,cE (fk m m.trans true) m.trans.length 0),(7,cE (fk m m.bR false) m.bR.length 0),(8,cE (j8 m) m.bS.length 0)]
noncomputable def WB(m:au):List (Int×(Int×Int)):=[(2,te m),(3,cE (fk m m.bZ false) m.bZ.length 0),(4,cE (fk m m.b1 false) m.b1.length 0),(5,cE (j7 m) m.next.length 0),(6,cE (fk m m.trans true) m.trans.length 0),(7,cE (fk m m.bR false) m.bR.length 0),(8,cE (j8 m) m.bS.length 0)]
def ag9{a b:Int×Int}:(wR a b).2=0↔a.2=0/\b.2=0:=by unfold wR;by_cases h:a.2=0<;>simp[h]
def aha(k:Int)(a b:Int×Int)(r:List (Int×(Int×Int))):iz ((k,wR a b)::r)=iz ((k,a)::(k,b)::r):=by simp only[iz];unfold wR;by_cases h:a.2=0<;>simp[h]
def aze(a:Int×(Int×Int)){r tA:List (Int×(Int×Int))}(h:iz r=iz tA):iz (a::r)=iz (a::tA):=by rw[iz,iz,h]
def azf(m:au):iz (WB m)=iz (oB m):=by unfold WB te;rw[aha];exact aze _ (aha _ _ _ _)
noncomputable def jC(m:au):Int×(Int×Int):=if(cE (iO m) 8 0).2=0 then
  if(k1 m.vars).2=0 then
   if 30<oA m.vars then(1,(0,18))else iz (oB m)
  else(1,k1 m.vars)
 else((cE (iO m) 8 0).1+1,(64,18))
def ee(q:Int×(Int×Int)):D:= .aZ [.agg [I q.1,I q.2.1],I q.2.2]
def azg{l:List V}(h:(k1 l).2=0):k1 l=(0,0):=by unfold k1 at h⊢;cases bm:(List.range l.length).find? (λi=>jL l i !=0)with|none=>rw[bm]at h|some i=>rw[bm]at h;have:=List.find?_some bm;simp only at h;rw[h]at this;cases this
def ahb(L:List (Int×(Int×Int)))(h:(iz L).2.2=0):iz L=(0,(0,0)):=by
 induction L with
 |nil=>rfl
 |cons a r ih=>
  rw[iz]at h⊢;by_cases ar:a.2.2=0;.rw[xac ar]at h⊢;exact ih h
  rw[xae ar]at h;exact absurd h ar
theorem iP{t:Nat}{x:D}:Dl (.eh t x)=some (t,x):=rfl
def uV(m:au):D:= .agg ((iN m).map λ(k:Nat)=>I (k:Int))
def gR(m:au):D:= .agg [.eh 117 (aY m.aD),.eh 118 (aY m.aD),.eh 119 (aY m.aD),.eh 121 (.agg [I 3,aC m.bZ,aK false]),.eh 121 (.agg [I 4,aC m.b1,aK false]),.eh 122 (aY m.next),.eh 121 (.agg [I 6,aC m.trans,aK true]),.eh 121 (.agg [I 7,aC m.bR,aK false]),.eh 123 (b5 m.bS)]
theorem PD{eZ:Type}{a b:Option eZ}:gM 117 117 a b=a:=rfl
theorem PE{eZ:Type}{a b:Option eZ}:gM 118 117 a b=b:=rfl
theorem PF{eZ:Type}{a b:Option eZ}:gM 118 118 a b=a:=rfl
theorem PG{eZ:Type}{a b:Option eZ}:gM 119 117 a b=b:=rfl
theorem PH{eZ:Type}{a b:Option eZ}:gM 119 118 a b=b:=rfl
theorem PI{eZ:Type}{a b:Option eZ}:gM 119 119 a b=a:=rfl
theorem uW{eZ:Type}{a b:Option eZ}:gM 121 117 a b=b:=rfl
theorem uX{eZ:Type}{a b:Option eZ}:gM 121 118 a b=b:=rfl
theorem uY{eZ:Type}{a b:Option eZ}:gM 121 119 a b=b:=rfl
theorem uZ{eZ:Type}{a b:Option eZ}:gM 121 121 a b=a:=rfl
theorem PJ{eZ:Type}{a b:Option eZ}:gM 122 117 a b=b:=rfl
theorem PK{eZ:Type}{a b:Option eZ}:gM 122 118 a b=b:=rfl
theorem PL{eZ:Type}{a b:Option eZ}:gM 122 119 a b=b:=rfl
theorem PM{eZ:Type}{a b:Option eZ}:gM 122 121 a b=b:=rfl
theorem PN{eZ:Type}{a b:Option eZ}:gM 122 122 a b=a:=rfl
theorem PO{eZ:Type}{a b:Option eZ}:gM 123 117 a b=b:=rfl
theorem PQ{eZ:Type}{a b:Option eZ}:gM 123 118 a b=b:=rfl
theorem PR{eZ:Type}{a b:Option eZ}:gM 123 119 a b=b:=rfl
theorem PS{eZ:Type}{a b:Option eZ}:gM 123 121 a b=b:=rfl
theorem PT{eZ:Type}{a b:Option eZ}:gM 123 122 a b=b:=rfl
theorem PU{eZ:Type}{a b:Option eZ}:gM 123 123 a b=a:=rfl
section
variable{m:au}{n:Nat}(hm:PA m n)
include hm
theorem azh:bJ (sS n) n [uV m,I 0,bu m.vars,aY m.aD,aC m.bZ,aC m.b1,aY m.next,aC m.trans,aC m.bR,b5 m.bS,I 0,I 0]=some (if(cE (iO m) 8 0).2=0 then .inl [bu m.vars,aY m.aD,aC m.bZ,aC m.b1,aY m.next,aC m.trans,aC m.bR,b5 m.bS,I 0,I 0]else .inr (ee ((cE (iO m) 8 0).1+1,(64,18)))):=by
 have aj:=hm.jU;refine nZ (f:=sS n) (λi=>[uV m,I (i:Int),bu m.vars,aY m.aD,aC m.bZ,aC m.b1,aY m.next,aC m.trans,aC m.bR,b5 m.bS,I 0,I 0]) (iO m) 8 _ (λp=>ee (p.1+1,(64,18))) ?_ ?_ 8 0 n (by omega) (by omega)
 .intro i ag;obtain⟨k,ai⟩:∃k,(iN m)[i]?=some k:=⟨_,xab ag⟩;have bX:=yT ((i:Int)<8);have dt:cC 8 (I (i:Int))=some i:=by rw[j2,xac ag]
  have bm:mY false 1 (i*1) (uV m)=some (I (k:Int)):=by unfold uV;rw[Nat.mul_one,aaR,jj,xah,ai];rfl
  have Cf:bD false .add (I 1) (I (i:Int))=some (I ((i:Int)+1)):=by rw[e9 (by omega) (by omega)];congr 2;omega
  have ct:iO m i=if 64<k then 18 else 0:=by unfold iO;rw[ai];rfl
  by_cases ah:64<k;.rw[ct,xac ah,xae (by decide)];simp only[sS,go_sem,bX,dt,bm,yT ((k:Int)>64),Cf,ee]
  rw[ct,xae ah,xac rfl];simp only[sS,go_sem,bX,dt,bm,yF ((k:Int)>64),cf (bt:=false) (i:=i) (by omega)]
 simp only[sS,go_sem,show decide (((8:Nat):Int)<8)=false from rfl]
theorem azi:bJ (sK n) n [I 0,bu m.vars,aY m.aD,aC m.bZ,aC m.b1,aY m.next,aC m.trans,aC m.bR,b5 m.bS,I 0,I 0,D.aW 1 ((iN m).map λ(k:Nat)=>[I (k:Int)])]=some (if(cE (iO m) 8 0).2=0 then .inl [bu m.vars,aY m.aD,aC m.bZ,aC m.b1,aY m.next,aC m.trans,aC m.bR,b5 m.bS,I 0,I 0]else .inr (ee ((cE (iO m) 8 0).1+1,(64,18)))):=by
 have aj:=hm.jU;refine nZ (f:=sK n) (λi=>[I (i:Int),bu m.vars,aY m.aD,aC m.bZ,aC m.b1,aY m.next,aC m.trans,aC m.bR,b5 m.bS,I 0,I 0,D.aW 1 ((iN m).map λ(k:Nat)=>[I (k:Int)])]) (iO m) 8 _ (λp=>ee (p.1+1,(64,18))) ?_ ?_ 8 0 n (by omega) (by omega)
 .intro i ag;obtain⟨k,ai⟩:∃k,(iN m)[i]?=some k:=⟨_,xab ag⟩;have bI:((iN m).map λ(k:Nat)=>[I (k:Int)]).length=8:=rfl;have bX:=yT ((i:Int)<((8:Nat):Int));have dt:cC 8 (I (i:Int))=some i:=by rw[j2,xac ag]
  have bm:((iN m).map λ(k:Nat)=>[I (k:Int)])[i]?=some [I (k:Int)]:=by rw[xah,ai];rfl
  have Cf:bD false .add (I (i:Int)) (I 1)=some (I ((i:Int)+1)):=by rw[e9 (by omega) (by omega)]
  have ct:iO m i=if 64<k then 18 else 0:=by unfold iO;rw[ai];rfl
  generalize ((iN m).map λ(k:Nat)=>[I (k:Int)])=azj at*;by_cases ah:64<k;.rw[ct,xac ah,xae (by decide)];simp only[sK,go_sem,bI,bX,dt,bm,Fl,yT ((k:Int)>64),Cf,ee]
  rw[ct,xae ah,xac rfl];simp only[sK,go_sem,bI,bX,dt,bm,Fl,yF ((k:Int)>64),cf (bt:=false) (i:=i) (by omega)]
 have bI:((iN m).map λ(k:Nat)=>[I (k:Int)]).length=8:=rfl;simp only[sK,go_sem,bI,show decide (((8:Nat):Int)<((8:Nat):Int))=false from rfl]
theorem azk(A kT:D):bJ (iv n) n [D.eh 117 (aY m.aD),A,kT,I m.aD.length,I 0,bu m.vars,aY m.aD,aC m.bZ,aC m.b1,aY m.next,aC m.trans,aC m.bR,b5 m.bS,I 0,I 0]=some (if(cE (mG m) m.aD.length 0).2=0 then .inl [A,kT,bu m.vars,aY m.aD,aC m.bZ,aC m.b1,aY m.next,aC m.trans,aC m.bR,b5 m.bS,I 0,I 0]else .inr (.inr (.inr (.inr (ee (2,cE (mG m) m.aD.length 0)))))):=by
 have aj:=hm.jU;have cj:=hm.bC.dl;refine nZ (f:=iv n) (λi=>[D.eh 117 (aY m.aD),A,kT,I m.aD.length,I (i:Int),bu m.vars,aY m.aD,aC m.bZ,aC m.b1,aY m.next,aC m.trans,aC m.bR,b5 m.bS,I 0,I 0]) (mG m) (m.aD.length) _ (λp=> .inr (.inr (.inr (ee (2,p))))) ?_ ?_ _ 0 n (by omega) (by omega)
 .intro i ag;have bX:=yT ((i:Int)<((m.aD.length:Nat):Int));have hw:=ayT hm i ag;change wx n [_,m.d,I (i:Int)]=some (I (mG m i))at hw;by_cases ah:mG m i=0
  .have e1:(mG m i !=0)=false:=by simp[ah]
   rw[xac ah];simp only[iv,go_sem,bX,iP,PD,au.eta,hw,e1,cf (bt:=false) (i:=i) (by omega)]
  have e1:(mG m i !=0)=true:=by simpa using ah
  rw[xae ah];simp only[iv,go_sem,bX,iP,PD,au.eta,hw,e1,N4,acD,ee]
 simp only[iv,go_sem,yF (((m.aD.length:Nat):Int)<((m.aD.length:Nat):Int))]
theorem azl(A kT:D):bJ (iv n) n [D.eh 118 (aY m.aD),A,kT,I m.aD.length,I 0,bu m.vars,aY m.aD,aC m.bZ,aC m.b1,aY m.next,aC m.trans,aC m.bR,b5 m.bS,I 0,I 0]=some (if(cE (ns m) m.aD.length 0).2=0 then .inl [A,kT,bu m.vars,aY m.aD,aC m.bZ,aC m.b1,aY m.next,aC m.trans,aC m.bR,b5 m.bS,I 0,I 0]else .inr (.inr (.inr (.inr (ee (2,cE (ns m) m.aD.length 0)))))):=by
 have aj:=hm.jU;have cj:=hm.bC.dl;refine nZ (f:=iv n) (λi=>[D.eh 118 (aY m.aD),A,kT,I m.aD.length,I (i:Int),bu m.vars,aY m.aD,aC m.bZ,aC m.b1,aY m.next,aC m.trans,aC m.bR,b5 m.bS,I 0,I 0]) (ns m) (m.aD.length) _ (λp=> .inr (.inr (.inr (ee (2,p))))) ?_ ?_ _ 0 n (by omega) (by omega)
 .intro i ag;have bX:=yT ((i:Int)<((m.aD.length:Nat):Int));have hw:=ayP n m hm.bC.d i ag (by omega);change Ea n [_,m.d,I (i:Int)]=some (I (ns m i))at hw;by_cases ah:ns m i=0
  .have e1:(ns m i !=0)=false:=by simp[ah]
   rw[xac ah];simp only[iv,go_sem,bX,iP,PE,PF,au.eta,hw,e1,cf (bt:=false) (i:=i) (by omega)]
  have e1:(ns m i !=0)=true:=by simpa using ah
  rw[xae ah];simp only[iv,go_sem,bX,iP,PE,PF,au.eta,hw,e1,N3,acC,ee]
 simp only[iv,go_sem,yF (((m.aD.length:Nat):Int)<((m.aD.length:Nat):Int))]
theorem azm(A kT:D):bJ (iv n) n [D.eh 119 (aY m.aD),A,kT,I m.aD.length,I 0,bu m.vars,aY m.aD,aC m.bZ,aC m.b1,aY m.next,aC m.trans,aC m.bR,b5 m.bS,I 0,I 0]=some (if(cE (mH m) m.aD.length 0).2=0 then .inl [A,kT,bu m.vars,aY m.aD,aC m.bZ,aC m.b1,aY m.next,aC m.trans,aC m.bR,b5 m.bS,I 0,I 0]else .inr (.inr (.inr (.inr (ee (2,cE (mH m) m.aD.length 0)))))):=by
 have aj:=hm.jU;have cj:=hm.bC.dl;refine nZ (f:=iv n) (λi=>[D.eh 119 (aY m.aD),A,kT,I m.aD.length,I (i:Int),bu m.vars,aY m.aD,aC m.bZ,aC m.b1,aY m.next,aC m.trans,aC m.bR,b5 m.bS,I 0,I 0]) (mH m) (m.aD.length) _ (λp=> .inr (.inr (.inr (ee (2,p))))) ?_ ?_ _ 0 n (by omega) (by omega)
 .intro i ag;have bX:=yT ((i:Int)<((m.aD.length:Nat):Int));have hw:=ayU hm i ag;change D9 n [_,m.d,I (i:Int)]=some (I (mH m i))at hw;by_cases ah:mH m i=0
  .have e1:(mH m i !=0)=false:=by simp[ah]
   rw[xac ah];simp only[iv,go_sem,bX,iP,PG,PH,PI,au.eta,hw,e1,cf (bt:=false) (i:=i) (by omega)]
  have e1:(mH m i !=0)=true:=by simpa using ah
  rw[xae ah];simp only[iv,go_sem,bX,iP,PG,PH,PI,au.eta,hw,e1,N2,acB,ee]
 simp only[iv,go_sem,yF (((m.aD.length:Nat):Int)<((m.aD.length:Nat):Int))]
theorem PV(l:List Tm)(al:l.length<=100/\∀t∈l,t.Ok/\t.bC<=660000)(k:Int)(nx:Bool)(A kT:D):bJ (iv n) n [D.eh 121 (D.agg [I k,aC l,aK nx]),A,kT,I l.length,I 0,bu m.vars,aY m.aD,aC m.bZ,aC m.b1,aY m.next,aC m.trans,aC m.bR,b5 m.bS,I 0,I 0]=some (if(cE (fk m l nx) l.length 0).2=0 then .inl [A,kT,bu m.vars,aY m.aD,aC m.bZ,aC m.b1,aY m.next,aC m.trans,aC m.bR,b5 m.bS,I 0,I 0]else .inr (.inr (.inr (.inr (ee (k,cE (fk m l nx) l.length 0)))))):=by
 have aj:=hm.jU;have cj:=al.1;have azn:ae (D.agg [I k,aC l,aK nx]) 0=I k:=rfl;have PW:dO 3 (D.agg [I k,aC l,aK nx])=true:=rfl;refine nZ (f:=iv n) (λi=>[D.eh 121 (D.agg [I k,aC l,aK nx]),A,kT,I l.length,I (i:Int),bu m.vars,aY m.aD,aC m.bZ,aC m.b1,aY m.next,aC m.trans,aC m.bR,b5 m.bS,I 0,I 0]) (fk m l nx) (l.length) _ (λp=> .inr (.inr (.inr (ee (k,p))))) ?_ ?_ _ 0 n (by omega) (by omega)
 .intro i ag;have bX:=yT ((i:Int)<((l.length:Nat):Int));have hw:=ayV hm l al.2 k nx i ag;change D8 n [_,m.d,I (i:Int)]=some (I (fk m l nx i))at hw;by_cases ah:fk m l nx i=0
  .have e1:(fk m l nx i !=0)=false:=by simp[ah]
   rw[xac ah];simp only[iv,go_sem,bX,iP,uW,uX,uY,uZ,au.eta,hw,e1,cf (bt:=false) (i:=i) (by omega)]
  have e1:(fk m l nx i !=0)=true:=by simpa using ah
  rw[xae ah];simp only[iv,go_sem,bX,iP,uW,uX,uY,uZ,au.eta,hw,e1,N1,acA,azn,PW,ee]
 simp only[iv,go_sem,yF (((l.length:Nat):Int)<((l.length:Nat):Int))]
theorem azo(A kT:D):bJ (iv n) n [D.eh 122 (aY m.next),A,kT,I m.next.length,I 0,bu m.vars,aY m.aD,aC m.bZ,aC m.b1,aY m.next,aC m.trans,aC m.bR,b5 m.bS,I 0,I 0]=some (if(cE (j7 m) m.next.length 0).2=0 then .inl [A,kT,bu m.vars,aY m.aD,aC m.bZ,aC m.b1,aY m.next,aC m.trans,aC m.bR,b5 m.bS,I 0,I 0]else .inr (.inr (.inr (.inr (ee (5,cE (j7 m) m.next.length 0)))))):=by
 have aj:=hm.jU;have cj:=hm.next.1
 refine nZ (f:=iv n) (λi=>[D.eh 122 (aY m.next),A,kT,I m.next.length,I (i:Int),bu m.vars,aY m.aD,aC m.bZ,aC m.b1,aY m.next,aC m.trans,aC m.bR,b5 m.bS,I 0,I 0]) (j7 m) (m.next.length) _ (λp=> .inr (.inr (.inr (ee (5,p))))) ?_ ?_ _ 0 n (by omega) (by omega)
 .intro i ag;have bX:=yT ((i:Int)<((m.next.length:Nat):Int));have hw:=ayW hm i ag;change yi n [_,m.d,I (i:Int)]=some (I (j7 m i))at hw;by_cases ah:j7 m i=0
  .have e1:(j7 m i !=0)=false:=by simp[ah]
   rw[xac ah];simp only[iv,go_sem,bX,iP,PJ,PK,PL,PM,PN,au.eta,hw,e1,cf (bt:=false) (i:=i) (by omega)]
  have e1:(j7 m i !=0)=true:=by simpa using ah
  rw[xae ah];simp only[iv,go_sem,bX,iP,PJ,PK,PL,PM,PN,au.eta,hw,e1,N0,acz,ee]
 simp only[iv,go_sem,yF (((m.next.length:Nat):Int)<((m.next.length:Nat):Int))]
theorem azp(A kT:D):bJ (iv n) n [D.eh 123 (b5 m.bS),A,kT,I m.bS.length,I 0,bu m.vars,aY m.aD,aC m.bZ,aC m.b1,aY m.next,aC m.trans,aC m.bR,b5 m.bS,I 0,I 0]=some (if(cE (j8 m) m.bS.length 0).2=0 then .inl [A,kT,bu m.vars,aY m.aD,aC m.bZ,aC m.b1,aY m.next,aC m.trans,aC m.bR,b5 m.bS,I 0,I 0]else .inr (.inr (.inr (.inr (ee (8,cE (j8 m) m.bS.length 0)))))):=by
 have aj:=hm.jU;have cj:=hm.bS.1;refine nZ (f:=iv n) (λi=>[D.eh 123 (b5 m.bS),A,kT,I m.bS.length,I (i:Int),bu m.vars,aY m.aD,aC m.bZ,aC m.b1,aY m.next,aC m.trans,aC m.bR,b5 m.bS,I 0,I 0]) (j8 m) (m.bS.length) _ (λp=> .inr (.inr (.inr (ee (8,p))))) ?_ ?_ _ 0 n (by omega) (by omega)
 .intro i ag;have bX:=yT ((i:Int)<((m.bS.length:Nat):Int));have hw:=ayX hm i ag;change wv n [_,m.d,I (i:Int)]=some (I (j8 m i))at hw;by_cases ah:j8 m i=0
  .have e1:(j8 m i !=0)=false:=by simp[ah]
   rw[xac ah];simp only[iv,go_sem,bX,iP,PO,PQ,PR,PS,PT,PU,au.eta,hw,e1,cf (bt:=false) (i:=i) (by omega)]
  have e1:(j8 m i !=0)=true:=by simpa using ah
  rw[xae ah];simp only[iv,go_sem,bX,iP,PO,PQ,PR,PS,PT,PU,au.eta,hw,e1,NZ,acy,ee]
 simp only[iv,go_sem,yF (((m.bS.length:Nat):Int)<((m.bS.length:Nat):Int))]
theorem azq:ig n [gR m,I 0,bu m.vars,aY m.aD,aC m.bZ,aC m.b1,aY m.next,aC m.trans,aC m.bR,b5 m.bS,I 0,I 0]=some (if(cE (mG m) m.aD.length 0).2=0 then .inl [gR m,I 1,bu m.vars,aY m.aD,aC m.bZ,aC m.b1,aY m.next,aC m.trans,aC m.bR,b5 m.bS,I 0,I 0]else .inr (.inr (ee (2,cE (mG m) m.aD.length 0)))):=by
 have fg:=azk hm (gR m) (I 0);have bX:decide ((0:Int)<9)=true:=rfl;have dt:cC 9 (I 0)=some 0:=rfl;have bm:mY false 1 (0*1) (gR m)=some (D.eh 117 (aY m.aD)):=rfl;have jB:Iz n [aY m.aD]=some (I m.aD.length):=by simp only[Iz,acd,go_sem,eV]
 have fZ:bD false .add (I 0) (I 1)=some (I 1):=e9 (by decide) (by decide);by_cases ah:(cE (mG m) m.aD.length 0).2=0;.rw[xac ah]at fg⊢;simp only[ig,go_sem,bX,dt,bm,iP,PD,jB,fg,fZ]
 rw[xae ah]at fg⊢;simp only[ig,go_sem,bX,dt,bm,iP,PD,jB,fg]
theorem azr:ig n [gR m,I 1,bu m.vars,aY m.aD,aC m.bZ,aC m.b1,aY m.next,aC m.trans,aC m.bR,b5 m.bS,I 0,I 0]=some (if(cE (ns m) m.aD.length 0).2=0 then .inl [gR m,I 2,bu m.vars,aY m.aD,aC m.bZ,aC m.b1,aY m.next,aC m.trans,aC m.bR,b5 m.bS,I 0,I 0]else .inr (.inr (ee (2,cE (ns m) m.aD.length 0)))):=by
 have fg:=azl hm (gR m) (I 1);have bX:decide ((1:Int)<9)=true:=rfl;have dt:cC 9 (I 1)=some 1:=rfl;have bm:mY false 1 (1*1) (gR m)=some (D.eh 118 (aY m.aD)):=rfl;have jB:Iy n [aY m.aD]=some (I m.aD.length):=by simp only[Iy,acb,go_sem,eV]
 have fZ:bD false .add (I 1) (I 1)=some (I 2):=e9 (by decide) (by decide);by_cases ah:(cE (ns m) m.aD.length 0).2=0;.rw[xac ah]at fg⊢;simp only[ig,go_sem,bX,dt,bm,iP,PE,PF,jB,fg,fZ]
 rw[xae ah]at fg⊢;simp only[ig,go_sem,bX,dt,bm,iP,PE,PF,jB,fg]
theorem azs:ig n [gR m,I 2,bu m.vars,aY m.aD,aC m.bZ,aC m.b1,aY m.next,aC m.trans,aC m.bR,b5 m.bS,I 0,I 0]=some (if(cE (mH m) m.aD.length 0).2=0 then .inl [gR m,I 3,bu m.vars,aY m.aD,aC m.bZ,aC m.b1,aY m.next,aC m.trans,aC m.bR,b5 m.bS,I 0,I 0]else .inr (.inr (ee (2,cE (mH m) m.aD.length 0)))):=by
 have fg:=azm hm (gR m) (I 2);have bX:decide ((2:Int)<9)=true:=rfl;have dt:cC 9 (I 2)=some 2:=rfl;have bm:mY false 1 (2*1) (gR m)=some (D.eh 119 (aY m.aD)):=rfl;have jB:Ix n [aY m.aD]=some (I m.aD.length):=by simp only[Ix,aca,go_sem,eV]
 have fZ:bD false .add (I 2) (I 1)=some (I 3):=e9 (by decide) (by decide);by_cases ah:(cE (mH m) m.aD.length 0).2=0;.rw[xac ah]at fg⊢;simp only[ig,go_sem,bX,dt,bm,iP,PG,PH,PI,jB,fg,fZ]
 rw[xae ah]at fg⊢;simp only[ig,go_sem,bX,dt,bm,iP,PG,PH,PI,jB,fg]
theorem azt:ig n [gR m,I 3,bu m.vars,aY m.aD,aC m.bZ,aC m.b1,aY m.next,aC m.trans,aC m.bR,b5 m.bS,I 0,I 0]=some (if(cE (fk m m.bZ false) m.bZ.length 0).2=0 then .inl [gR m,I 4,bu m.vars,aY m.aD,aC m.bZ,aC m.b1,aY m.next,aC m.trans,aC m.bR,b5 m.bS,I 0,I 0]else .inr (.inr (ee (3,cE (fk m m.bZ false) m.bZ.length 0)))):=by
 have fg:=PV hm m.bZ hm.bZ 3 false (gR m) (I 3);have bX:decide ((3:Int)<9)=true:=rfl;have dt:cC 9 (I 3)=some 3:=rfl;have bm:mY false 1 (3*1) (gR m)=some (D.eh 121 (D.agg [I 3,aC m.bZ,aK false])):=rfl;have jB:sM n [D.agg [I 3,aC m.bZ,aK false]]=some (I m.bZ.length):=by have ax:dO 3 (D.agg [I 3,aC m.bZ,aK false])=true:=rfl;have bj:ae (D.agg [I 3,aC m.bZ,aK false]) 1=aC m.bZ:=rfl;simp only[sM,Iw,go_sem,ax,bj,ix]
 have fZ:bD false .add (I 3) (I 1)=some (I 4):=e9 (by decide) (by decide);by_cases ah:(cE (fk m m.bZ false) m.bZ.length 0).2=0;.rw[xac ah]at fg⊢;simp only[ig,go_sem,bX,dt,bm,iP,uW,uX,uY,uZ,jB,fg,fZ]
 rw[xae ah]at fg⊢;simp only[ig,go_sem,bX,dt,bm,iP,uW,uX,uY,uZ,jB,fg]
theorem azu:ig n [gR m,I 4,bu m.vars,aY m.aD,aC m.bZ,aC m.b1,aY m.next,aC m.trans,aC m.bR,b5 m.bS,I 0,I 0]=some (if(cE (fk m m.b1 false) m.b1.length 0).2=0 then .inl [gR m,I 5,bu m.vars,aY m.aD,aC m.bZ,aC m.b1,aY m.next,aC m.trans,aC m.bR,b5 m.bS,I 0,I 0]else .inr (.inr (ee (4,cE (fk m m.b1 false) m.b1.length 0)))):=by
 have fg:=PV hm m.b1 hm.b1 4 false (gR m) (I 4);have bX:decide ((4:Int)<9)=true:=rfl;have dt:cC 9 (I 4)=some 4:=rfl;have bm:mY false 1 (4*1) (gR m)=some (D.eh 121 (D.agg [I 4,aC m.b1,aK false])):=rfl;have jB:sM n [D.agg [I 4,aC m.b1,aK false]]=some (I m.b1.length):=by have ax:dO 3 (D.agg [I 4,aC m.b1,aK false])=true:=rfl;have bj:ae (D.agg [I 4,aC m.b1,aK false]) 1=aC m.b1:=rfl;simp only[sM,Iw,go_sem,ax,bj,ix]
 have fZ:bD false .add (I 4) (I 1)=some (I 5):=e9 (by decide) (by decide);by_cases ah:(cE (fk m m.b1 false) m.b1.length 0).2=0;.rw[xac ah]at fg⊢;simp only[ig,go_sem,bX,dt,bm,iP,uW,uX,uY,uZ,jB,fg,fZ]
 rw[xae ah]at fg⊢;simp only[ig,go_sem,bX,dt,bm,iP,uW,uX,uY,uZ,jB,fg]
theorem azv:ig n [gR m,I 5,bu m.vars,aY m.aD,aC m.bZ,aC m.b1,aY m.next,aC m.trans,aC m.bR,b5 m.bS,I 0,I 0]=some (if(cE (j7 m) m.next.length 0).2=0 then .inl [gR m,I 6,bu m.vars,aY m.aD,aC m.bZ,aC m.b1,aY m.next,aC m.trans,aC m.bR,b5 m.bS,I 0,I 0]else .inr (.inr (ee (5,cE (j7 m) m.next.length 0)))):=by
 have fg:=azo hm (gR m) (I 5);have bX:decide ((5:Int)<9)=true:=rfl;have dt:cC 9 (I 5)=some 5:=rfl;have bm:mY false 1 (5*1) (gR m)=some (D.eh 122 (aY m.next)):=rfl;have jB:Iv n [aY m.next]=some (I m.next.length):=by simp only[Iv,ab9,go_sem,eV]
 have fZ:bD false .add (I 5) (I 1)=some (I 6):=e9 (by decide) (by decide);by_cases ah:(cE (j7 m) m.next.length 0).2=0;.rw[xac ah]at fg⊢;simp only[ig,go_sem,bX,dt,bm,iP,PJ,PK,PL,PM,PN,jB,fg,fZ]
 rw[xae ah]at fg⊢;simp only[ig,go_sem,bX,dt,bm,iP,PJ,PK,PL,PM,PN,jB,fg]
theorem azw:ig n [gR m,I 6,bu m.vars,aY m.aD,aC m.bZ,aC m.b1,aY m.next,aC m.trans,aC m.bR,b5 m.bS,I 0,I 0]=some (if(cE (fk m m.trans true) m.trans.length 0).2=0 then .inl [gR m,I 7,bu m.vars,aY m.aD,aC m.bZ,aC m.b1,aY m.next,aC m.trans,aC m.bR,b5 m.bS,I 0,I 0]else .inr (.inr (ee (6,cE (fk m m.trans true) m.trans.length 0)))):=by
 have fg:=PV hm m.trans hm.trans 6 true (gR m) (I 6);have bX:decide ((6:Int)<9)=true:=rfl;have dt:cC 9 (I 6)=some 6:=rfl;have bm:mY false 1 (6*1) (gR m)=some (D.eh 121 (D.agg [I 6,aC m.trans,aK true])):=rfl;have jB:sM n [D.agg [I 6,aC m.trans,aK true]]=some (I m.trans.length):=by have ax:dO 3 (D.agg [I 6,aC m.trans,aK true])=true:=rfl;have bj:ae (D.agg [I 6,aC m.trans,aK true]) 1=aC m.trans:=rfl;simp only[sM,Iw,go_sem,ax,bj,ix]
 have fZ:bD false .add (I 6) (I 1)=some (I 7):=e9 (by decide) (by decide);by_cases ah:(cE (fk m m.trans true) m.trans.length 0).2=0;.rw[xac ah]at fg⊢;simp only[ig,go_sem,bX,dt,bm,iP,uW,uX,uY,uZ,jB,fg,fZ]
 rw[xae ah]at fg⊢;simp only[ig,go_sem,bX,dt,bm,iP,uW,uX,uY,uZ,jB,fg]
theorem azx:ig n [gR m,I 7,bu m.vars,aY m.aD,aC m.bZ,aC m.b1,aY m.next,aC m.trans,aC m.bR,b5 m.bS,I 0,I 0]=some (if(cE (fk m m.bR false) m.bR.length 0).2=0 then .inl [gR m,I 8,bu m.vars,aY m.aD,aC m.bZ,aC m.b1,aY m.next,aC m.trans,aC m.bR,b5 m.bS,I 0,I 0]else .inr (.inr (ee (7,cE (fk m m.bR false) m.bR.length 0)))):=by
 have fg:=PV hm m.bR hm.bR 7 false (gR m) (I 7);have bX:decide ((7:Int)<9)=true:=rfl;have dt:cC 9 (I 7)=some 7:=rfl;have bm:mY false 1 (7*1) (gR m)=some (D.eh 121 (D.agg [I 7,aC m.bR,aK false])):=rfl;have jB:sM n [D.agg [I 7,aC m.bR,aK false]]=some (I m.bR.length):=by have ax:dO 3 (D.agg [I 7,aC m.bR,aK false])=true:=rfl;have bj:ae (D.agg [I 7,aC m.bR,aK false]) 1=aC m.bR:=rfl;simp only[sM,Iw,go_sem,ax,bj,ix]
 have fZ:bD false .add (I 7) (I 1)=some (I 8):=e9 (by decide) (by decide);by_cases ah:(cE (fk m m.bR false) m.bR.length 0).2=0;.rw[xac ah]at fg⊢;simp only[ig,go_sem,bX,dt,bm,iP,uW,uX,uY,uZ,jB,fg,fZ]
 rw[xae ah]at fg⊢;simp only[ig,go_sem,bX,dt,bm,iP,uW,uX,uY,uZ,jB,fg]
theorem azy:ig n [gR m,I 8,bu m.vars,aY m.aD,aC m.bZ,aC m.b1,aY m.next,aC m.trans,aC m.bR,b5 m.bS,I 0,I 0]=some (if(cE (j8 m) m.bS.length 0).2=0 then .inl [gR m,I 9,bu m.vars,aY m.aD,aC m.bZ,aC m.b1,aY m.next,aC m.trans,aC m.bR,b5 m.bS,I 0,I 0]else .inr (.inr (ee (8,cE (j8 m) m.bS.length 0)))):=by
 have fg:=azp hm (gR m) (I 8);have bX:decide ((8:Int)<9)=true:=rfl;have dt:cC 9 (I 8)=some 8:=rfl;have bm:mY false 1 (8*1) (gR m)=some (D.eh 123 (b5 m.bS)):=rfl;have jB:Iu n [b5 m.bS]=some (I m.bS.length):=by simp only[Iu,ab8,go_sem,jr]
 have fZ:bD false .add (I 8) (I 1)=some (I 9):=e9 (by decide) (by decide);by_cases ah:(cE (j8 m) m.bS.length 0).2=0;.rw[xac ah]at fg⊢;simp only[ig,go_sem,bX,dt,bm,iP,PO,PQ,PR,PS,PT,PU,jB,fg,fZ]
 rw[xae ah]at fg⊢;simp only[ig,go_sem,bX,dt,bm,iP,PO,PQ,PR,PS,PT,PU,jB,fg]
theorem azz:bJ (ig n) n [gR m,I 0,bu m.vars,aY m.aD,aC m.bZ,aC m.b1,aY m.next,aC m.trans,aC m.bR,b5 m.bS,I 0,I 0]=some (if(iz (oB m)).2.2=0 then .inl [I 0,I 0]else .inr (ee (iz (oB m)))):=by
 have aj:=hm.jU;refine ag8 (f:=ig n) (oB m) (λi=>[gR m,I (i:Int),bu m.vars,aY m.aD,aC m.bZ,aC m.b1,aY m.next,aC m.trans,aC m.bR,b5 m.bS,I 0,I 0]) [I 0,I 0] ee ?_ ?_ n (by show 9<n;omega)
 .intro i a aG
  match i,aG with
  |0,aG=>cases aG;exact azq hm
  |1,aG=>cases aG;exact azr hm
  |2,aG=>cases aG;exact azs hm
  |3,aG=>cases aG;exact azt hm
  |4,aG=>cases aG;exact azu hm
  |5,aG=>cases aG;exact azv hm
  |6,aG=>cases aG;exact azw hm
  |7,aG=>cases aG;exact azx hm
  |8,aG=>cases aG;exact azy hm
  |j+9,aG=>cases aG
 show ig n [gR m,I 9,bu m.vars,aY m.aD,aC m.bZ,aC m.b1,aY m.next,aC m.trans,aC m.bR,b5 m.bS,I 0,I 0]=_;simp only[ig,go_sem,show decide ((9:Int)<9)=false from rfl]
theorem azA:oY n [m.d]=some (ee (jC m)):=by
 have aj:=hm.jU;have aa:=azh hm;have l5:=azz hm;have ha:=ayf n m.vars hm.kS (by have:=hm.bC.gB;omega) hm.ag0;have eU:=aza n m hm.kS hm.bC.gB (by omega);have hx:D.agg [I (m.vars.length:Int),I (m.aD.length:Int),I (m.bZ.length:Int),I (m.b1.length:Int),I (m.next.length:Int),I (m.trans.length:Int),I (m.bR.length:Int),I (m.bS.length:Int)]=uV m:=rfl;have ahc:D.agg [.eh 117 (aY m.aD),.eh 118 (aY m.aD),.eh 119 (aY m.aD),.eh 121 (.agg [I 3,aC m.bZ,aK false]),.eh 121 (.agg [I 4,aC m.b1,aK false]),.eh 122 (aY m.next),.eh 121 (.agg [I 6,aC m.trans,aK true]),.eh 121 (.agg [I 7,aC m.bR,aK false]),.eh 123 (b5 m.bS)]=gR m:=rfl;have PX:∀l,bV (aC l)=true:=λ_=>rfl;have fw:∀t x,bV (D.eh t x)=true:=λ_ _=>rfl;unfold jC;by_cases c1:(cE (iO m) 8 0).2=0
 case neg=>rw[xae c1]at aa⊢;simp only[oY,Bi,go_sem,au.agg,au.bc,au.c1,au.c2,au.b8,au.c3,au.dq,au.dr,au.dG,au.eta,e5,eV,ix,jr,hx,aa]
 rw[xac c1]at aa⊢;by_cases c2:(k1 m.vars).2=0
 case neg=>
  have tg:((k1 m.vars).2 !=0)=true:=by simpa using c2
  rw[xae c2];simp only[oY,Bi,go_sem,au.agg,au.bc,au.c1,au.c2,au.b8,au.c3,au.dq,au.dr,au.dG,au.eta,e5,eV,ix,jr,hx,aa,ha,tg,ee]
 have tg:((k1 m.vars).2 !=0)=false:=by simp[c2]
 rw[xac c2];by_cases b8:30<oA m.vars;.have wT:=yT (((oA m.vars:Nat):Int)>30);rw[xac b8];simp only[oY,Bi,go_sem,au.agg,au.bc,au.c1,au.c2,au.b8,au.c3,au.dq,au.dr,au.dG,au.eta,e5,eV,ix,jr,hx,aa,ha,tg,eU,wT,ee]
 have wT:=yF (((oA m.vars:Nat):Int)>30);rw[xae b8];by_cases c3:(iz (oB m)).2.2=0;.rw[xac c3]at l5;rw[ahb _ c3];simp only[oY,Bi,go_sem,au.agg,au.bc,au.c1,au.c2,au.b8,au.c3,au.dq,au.dr,au.dG,au.eta,e5,eV,ix,jr,hx,aa,ha,tg,eU,wT,PX,fw,ahc,l5,ee]
 rw[xae c3]at l5;simp only[oY,Bi,go_sem,au.agg,au.bc,au.c1,au.c2,au.b8,au.c3,au.dq,au.dr,au.dG,au.eta,e5,eV,ix,jr,hx,aa,ha,tg,eU,wT,PX,fw,ahc,l5]
theorem azB(h:(te m).2=0):te m=(0,0):=by unfold te at h⊢;obtain⟨J,aa⟩:=ag9.1 h;obtain⟨ax,bj⟩:=ag9.1 aa;rw[wR,xac J,wR,xac ax,tc _ _ _ bj]
theorem azC:jR n [I 0,I 0,I 2,bu m.vars,aY m.aD,aC m.bZ,aC m.b1,aY m.next,aC m.trans,aC m.bR,b5 m.bS,I 0,I 0]=some (if(te m).2=0 then .inl [I 0,I 0,I 3,bu m.vars,aY m.aD,aC m.bZ,aC m.b1,aY m.next,aC m.trans,aC m.bR,b5 m.bS,I 0,I 0]else .inr (.inr (ee (2,te m)))):=by
 have hS:=ay4 hm;have bX:decide ((2:Int)<=8)=true:=rfl;have bO:((2:Int)==2)=true:=rfl;have fZ:bD false .add (I 2) (I 1)=some (I 3):=e9 (by decide) (by decide);by_cases ah:(te m).2=0
 .have bF:=azB hm ah;rw[bF]at hS⊢;have hR:((0:Int) !=0)=false:=rfl;simp only[jR,go_sem,bX,bO,au.eta,hS,gi,hR,fZ]
 rw[xae ah];generalize te m=p at*;have e1:(p.2 !=0)=true:=by simpa using ah
 simp only[jR,go_sem,bX,bO,au.eta,hS,gi,e1,ee]
theorem azD:jR n [I 0,I 0,I 3,bu m.vars,aY m.aD,aC m.bZ,aC m.b1,aY m.next,aC m.trans,aC m.bR,b5 m.bS,I 0,I 0]=some (if(cE (fk m m.bZ false) m.bZ.length 0).2=0 then .inl [I 0,I 0,I 4,bu m.vars,aY m.aD,aC m.bZ,aC m.b1,aY m.next,aC m.trans,aC m.bR,b5 m.bS,I 0,I 0]else .inr (.inr (ee (3,cE (fk m m.bZ false) m.bZ.length 0)))):=by
 have hS:=PB hm m.bZ hm.bZ false;have bX:decide ((3:Int)<=8)=true:=rfl;have bO:((3:Int)==2)=false:=rfl;have cx:((3:Int)==3)=true:=rfl;have fZ:bD false .add (I 3) (I 1)=some (I 4):=e9 (by decide) (by decide);by_cases ah:(cE (fk m m.bZ false) m.bZ.length 0).2=0
 .have bF:=tc _ _ _ ah;rw[bF]at hS⊢;have hR:((0:Int) !=0)=false:=rfl;simp only[jR,go_sem,bX,bO,cx,au.eta,hS,gi,hR,fZ]
 rw[xae ah];generalize cE (fk m m.bZ false) m.bZ.length 0=p at*;have e1:(p.2 !=0)=true:=by simpa using ah
 simp only[jR,go_sem,bX,bO,cx,au.eta,hS,gi,e1,ee]
theorem azE:jR n [I 0,I 0,I 4,bu m.vars,aY m.aD,aC m.bZ,aC m.b1,aY m.next,aC m.trans,aC m.bR,b5 m.bS,I 0,I 0]=some (if(cE (fk m m.b1 false) m.b1.length 0).2=0 then .inl [I 0,I 0,I 5,bu m.vars,aY m.aD,aC m.bZ,aC m.b1,aY m.next,aC m.trans,aC m.bR,b5 m.bS,I 0,I 0]else .inr (.inr (ee (4,cE (fk m m.b1 false) m.b1.length 0)))):=by
 have hS:=PB hm m.b1 hm.b1 false;have bX:decide ((4:Int)<=8)=true:=rfl;have bO:((4:Int)==2)=false:=rfl;have cx:((4:Int)==3)=false:=rfl;have dX:((4:Int)==4)=true:=rfl;have fZ:bD false .add (I 4) (I 1)=some (I 5):=e9 (by decide) (by decide);by_cases ah:(cE (fk m m.b1 false) m.b1.length 0).2=0
 .have bF:=tc _ _ _ ah;rw[bF]at hS⊢;have hR:((0:Int) !=0)=false:=rfl;simp only[jR,go_sem,bX,bO,cx,dX,au.eta,hS,gi,hR,fZ]
 rw[xae ah];generalize cE (fk m m.b1 false) m.b1.length 0=p at*;have e1:(p.2 !=0)=true:=by simpa using ah
 simp only[jR,go_sem,bX,bO,cx,dX,au.eta,hS,gi,e1,ee]
theorem azF:jR n [I 0,I 0,I 5,bu m.vars,aY m.aD,aC m.bZ,aC m.b1,aY m.next,aC m.trans,aC m.bR,b5 m.bS,I 0,I 0]=some (if(cE (j7 m) m.next.length 0).2=0 then .inl [I 0,I 0,I 6,bu m.vars,aY m.aD,aC m.bZ,aC m.b1,aY m.next,aC m.trans,aC m.bR,b5 m.bS,I 0,I 0]else .inr (.inr (ee (5,cE (j7 m) m.next.length 0)))):=by
 have hS:=ay7 hm;have bX:decide ((5:Int)<=8)=true:=rfl;have bO:((5:Int)==2)=false:=rfl;have cx:((5:Int)==3)=false:=rfl;have dX:((5:Int)==4)=false:=rfl;have eO:((5:Int)==5)=true:=rfl;have fZ:bD false .add (I 5) (I 1)=some (I 6):=e9 (by decide) (by decide);by_cases ah:(cE (j7 m) m.next.length 0).2=0
 .have bF:=tc _ _ _ ah;rw[bF]at hS⊢;have hR:((0:Int) !=0)=false:=rfl;simp only[jR,go_sem,bX,bO,cx,dX,eO,au.eta,hS,gi,hR,fZ]
 rw[xae ah];generalize cE (j7 m) m.next.length 0=p at*
 have e1:(p.2 !=0)=true:=by simpa using ah
 simp only[jR,go_sem,bX,bO,cx,dX,eO,au.eta,hS,gi,e1,ee]
theorem azG:jR n [I 0,I 0,I 6,bu m.vars,aY m.aD,aC m.bZ,aC m.b1,aY m.next,aC m.trans,aC m.bR,b5 m.bS,I 0,I 0]=some (if(cE (fk m m.trans true) m.trans.length 0).2=0 then .inl [I 0,I 0,I 7,bu m.vars,aY m.aD,aC m.bZ,aC m.b1,aY m.next,aC m.trans,aC m.bR,b5 m.bS,I 0,I 0]else .inr (.inr (ee (6,cE (fk m m.trans true) m.trans.length 0)))):=by
 have hS:=PB hm m.trans hm.trans true;have bX:decide ((6:Int)<=8)=true:=rfl;have bO:((6:Int)==2)=false:=rfl;have cx:((6:Int)==3)=false:=rfl;have dX:((6:Int)==4)=false:=rfl;have eO:((6:Int)==5)=false:=rfl;have fB:((6:Int)==6)=true:=rfl;have fZ:bD false .add (I 6) (I 1)=some (I 7):=e9 (by decide) (by decide);by_cases ah:(cE (fk m m.trans true) m.trans.length 0).2=0
 .have bF:=tc _ _ _ ah;rw[bF]at hS⊢;have hR:((0:Int) !=0)=false:=rfl;simp only[jR,go_sem,bX,bO,cx,dX,eO,fB,au.eta,hS,gi,hR,fZ]
 rw[xae ah];generalize cE (fk m m.trans true) m.trans.length 0=p at*;have e1:(p.2 !=0)=true:=by simpa using ah
 simp only[jR,go_sem,bX,bO,cx,dX,eO,fB,au.eta,hS,gi,e1,ee]
theorem azH:jR n [I 0,I 0,I 7,bu m.vars,aY m.aD,aC m.bZ,aC m.b1,aY m.next,aC m.trans,aC m.bR,b5 m.bS,I 0,I 0]=some (if(cE (fk m m.bR false) m.bR.length 0).2=0 then .inl [I 0,I 0,I 8,bu m.vars,aY m.aD,aC m.bZ,aC m.b1,aY m.next,aC m.trans,aC m.bR,b5 m.bS,I 0,I 0]else .inr (.inr (ee (7,cE (fk m m.bR false) m.bR.length 0)))):=by
 have hS:=PB hm m.bR hm.bR false;have bX:decide ((7:Int)<=8)=true:=rfl;have bO:((7:Int)==2)=false:=rfl;have cx:((7:Int)==3)=false:=rfl;have dX:((7:Int)==4)=false:=rfl;have eO:((7:Int)==5)=false:=rfl;have fB:((7:Int)==6)=false:=rfl;have ow:((7:Int)==7)=true:=rfl;have fZ:bD false .add (I 7) (I 1)=some (I 8):=e9 (by decide) (by decide);by_cases ah:(cE (fk m m.bR false) m.bR.length 0).2=0
 .have bF:=tc _ _ _ ah;rw[bF]at hS⊢;have hR:((0:Int) !=0)=false:=rfl;simp only[jR,go_sem,bX,bO,cx,dX,eO,fB,ow,au.eta,hS,gi,hR,fZ]
 rw[xae ah];generalize cE (fk m m.bR false) m.bR.length 0=p at*;have e1:(p.2 !=0)=true:=by simpa using ah
 simp only[jR,go_sem,bX,bO,cx,dX,eO,fB,ow,au.eta,hS,gi,e1,ee]
theorem azI:jR n [I 0,I 0,I 8,bu m.vars,aY m.aD,aC m.bZ,aC m.b1,aY m.next,aC m.trans,aC m.bR,b5 m.bS,I 0,I 0]=some (if(cE (j8 m) m.bS.length 0).2=0 then .inl [I 0,I 0,I 9,bu m.vars,aY m.aD,aC m.bZ,aC m.b1,aY m.next,aC m.trans,aC m.bR,b5 m.bS,I 0,I 0]else .inr (.inr (ee (8,cE (j8 m) m.bS.length 0)))):=by
 have hS:=ay8 hm;have bX:decide ((8:Int)<=8)=true:=rfl;have bO:((8:Int)==2)=false:=rfl;have cx:((8:Int)==3)=false:=rfl;have dX:((8:Int)==4)=false:=rfl;have eO:((8:Int)==5)=false:=rfl;have fB:((8:Int)==6)=false:=rfl;have ow:((8:Int)==7)=false:=rfl;have PY:((8:Int)==8)=true:=rfl;have fZ:bD false .add (I 8) (I 1)=some (I 9):=e9 (by decide) (by decide);by_cases ah:(cE (j8 m) m.bS.length 0).2=0
 .have bF:=tc _ _ _ ah;rw[bF]at hS⊢;have hR:((0:Int) !=0)=false:=rfl;simp only[jR,go_sem,bX,bO,cx,dX,eO,fB,ow,PY,au.eta,hS,gi,hR,fZ]
 rw[xae ah];generalize cE (j8 m) m.bS.length 0=p at*;have e1:(p.2 !=0)=true:=by simpa using ah
 simp only[jR,go_sem,bX,bO,cx,dX,eO,fB,ow,PY,au.eta,hS,gi,e1,ee]
theorem azJ:bJ (jR n) n [I 0,I 0,I 2,bu m.vars,aY m.aD,aC m.bZ,aC m.b1,aY m.next,aC m.trans,aC m.bR,b5 m.bS,I 0,I 0]=some (if(iz (oB m)).2.2=0 then .inl [I 0,I 0]else .inr (ee (iz (oB m)))):=by
 have aj:=hm.jU;rw[<-azf];refine ag8 (f:=jR n) (WB m) (λi=>[I 0,I 0,I ((i+2:Nat):Int),bu m.vars,aY m.aD,aC m.bZ,aC m.b1,aY m.next,aC m.trans,aC m.bR,b5 m.bS,I 0,I 0]) [I 0,I 0] ee ?_ ?_ n (by show 7<n;omega)
 .intro i a aG
  match i,aG with
  |0,aG=>cases aG;exact azC hm
  |1,aG=>cases aG;exact azD hm
  |2,aG=>cases aG;exact azE hm
  |3,aG=>cases aG;exact azF hm
  |4,aG=>cases aG;exact azG hm
  |5,aG=>cases aG;exact azH hm
  |6,aG=>cases aG;exact azI hm
  |j+7,aG=>cases aG
 show jR n [I 0,I 0,I 9,bu m.vars,aY m.aD,aC m.bZ,aC m.b1,aY m.next,aC m.trans,aC m.bR,b5 m.bS,I 0,I 0]=_;simp only[jR,go_sem,show decide ((9:Int)<=8)=false from rfl]
theorem azK:pX n [m.d]=some (ee (jC m)):=by
 have aj:=hm.jU;have aa:=azi hm;have l5:=azJ hm;have ha:=ayl n m.vars hm.kS (by have:=hm.bC.gB;omega) hm.ag0;have eU:=azb n m hm.kS hm.bC.gB (by omega);have hx:D.aW 1 [[I (m.vars.length:Int)],[I (m.aD.length:Int)],[I (m.bZ.length:Int)],[I (m.b1.length:Int)],[I (m.next.length:Int)],[I (m.trans.length:Int)],[I (m.bR.length:Int)],[I (m.bS.length:Int)]]=D.aW 1 ((iN m).map λ(k:Nat)=>[I (k:Int)]):=rfl;unfold jC;by_cases c1:(cE (iO m) 8 0).2=0
 case neg=>rw[xae c1]at aa⊢;simp only[pX,AP,go_sem,au.agg,au.bc,au.c1,au.c2,au.b8,au.c3,au.dq,au.dr,au.dG,au.eta,e5,eV,ix,jr,hx,aa]
 rw[xac c1]at aa⊢;by_cases c2:(k1 m.vars).2=0
 case neg=>
  have tg:((k1 m.vars).2 !=0)=true:=by simpa using c2
  rw[xae c2];simp only[pX,AP,go_sem,au.agg,au.bc,au.c1,au.c2,au.b8,au.c3,au.dq,au.dr,au.dG,au.eta,e5,eV,ix,jr,hx,aa,ha,tg,ee]
 rw[azg c2]at ha;have tg:((0:Int) !=0)=false:=rfl;rw[xac c2];by_cases b8:30<oA m.vars
 .have wT:=yT (((oA m.vars:Nat):Int)>30);rw[xac b8];simp only[pX,AP,go_sem,au.agg,au.bc,au.c1,au.c2,au.b8,au.c3,au.dq,au.dr,au.dG,au.eta,e5,eV,ix,jr,hx,aa,ha,tg,eU,wT,ee]
 have wT:=yF (((oA m.vars:Nat):Int)>30);rw[xae b8];by_cases c3:(iz (oB m)).2.2=0;.rw[xac c3]at l5;rw[ahb _ c3];simp only[pX,AP,go_sem,au.agg,au.bc,au.c1,au.c2,au.b8,au.c3,au.dq,au.dr,au.dG,au.eta,e5,eV,ix,jr,hx,aa,ha,tg,eU,wT,l5,ee]
 rw[xae c3]at l5;simp only[pX,AP,go_sem,au.agg,au.bc,au.c1,au.c2,au.b8,au.c3,au.dq,au.dr,au.dG,au.eta,e5,eV,ix,jr,hx,aa,ha,tg,eU,wT,l5]
end
def Cg(n:Nat):eH:= .slice 4 56 (j3 n)
def KJ(n:Nat):eH:= .slice 7 104 (.struct [.str,nh n])
def wU(n:Nat):eH:= .struct [M4,xT n,Cg n,Cg n,xT n,Cg n,Cg n,KJ n]
def azL(n:Nat):∀m,m<=n->(Cg n).h3 m=true
 |0,_=>rfl|m+1,h=>by have:=Dz n m (by omega);simp only[Cg,eH.h3,this]
def azM(n:Nat):∀m,m<=n->(KJ n).h3 m=true
 |0,_=>rfl|1,_=>by simp[KJ,eH.h3]|m+2,h=>by have J:=Tf n m (by omega);have aa:eH.h3 m .str=true:=xS m .str rfl;simp only[KJ,eH.h3,rp,J,aa,xbw]
def azN(n:Nat):∀m,m<=n->(wU n).h3 m=true
 |0,_=>rfl|m+1,h=>by have ar:eH.h3 m M4=true:=xS m M4 rfl;simp only[wU,eH.h3,rp,ar,abp n m (by omega),azL n m (by omega),azM n m (by omega),xbw]
theorem azO{P:Program}{t tv td tt ts tm tf:TypeId}(h:∀a b c d e f g i,eQ P (.struct [a,b,c,d,e,f,g,i]) t=(eQ P a tv&&(eQ P b td&&(eQ P c tt&&(eQ P d tt&&(eQ P e td&&(eQ P f tt&&(eQ P g tt&&(eQ P i ts&&true))))))))) (aS:eQ P M4 tv=true) (ay:uf P xT td) (aP:∀y,eQ P (.slice 4 56 y) tt=eQ P y tm) (hm:uf P j3 tm) (az:∀y,eQ P (.slice 7 104 (.struct [.str,y])) ts=(eQ P y tf&&true)) (bm:uf P nh tf) (al:decide (t<P.types.size)=true):uf P wU t:=⟨λn=>azN n n (xaU _),λn=>by rw[wU,h,aS,ay.ok n,Cg,aP,hm.ok n,KJ,az,bm.ok n];rfl,xbf al,λn=>rfl⟩
structure yV(m:au):Prop where
 v:∀x∈m.vars,V.ok x
 d:∀x∈m.aD,x.Ok
 i:∀x∈m.bZ,x.Ok
 th:∀x∈m.b1,x.Ok
 n:∀x∈m.next,x.Ok
 t:∀x∈m.trans,x.Ok
 f:∀x∈m.bR,x.Ok
 s:∀x∈m.bS,x.name.size<=140737488351232/\x.f.Ok
def azP{n:Nat}{x:List D}(h:nf (.struct [.str,nh n]) x):∃d:cU,x=d.cells/\d.name.size<=140737488351232/\d.f.Ok:=by obtain⟨a,b,rfl,aG,c,e,rfl,ah,rfl⟩:=h;obtain⟨s,rfl,az⟩:=M7 aG;obtain⟨t,rfl,aP⟩:=abo n ah;exact⟨⟨s,t⟩,by simp[cU.cells,Fm.lV],az,aP⟩
end Go.Am
