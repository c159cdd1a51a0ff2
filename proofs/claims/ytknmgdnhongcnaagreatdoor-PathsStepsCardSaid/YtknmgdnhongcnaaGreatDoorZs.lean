/- Laws, on data. No condition. -/
import Derived.Test.YtknmgdnhongcnaaGreatDoorEngC
import Derived.Test.YtknmgdnhongcnaaGreatDoorCode
import Derived.Test.YtknmgdnhongcnaaGreatDoorEngS
import Derived.Test.YtknmgdnhongcnaaGreatDoorEngD
import Derived.Test.YtknmgdnhongcnaaGreatDoorWs
import Derived.Test.YtknmgdnhongcnaaGreatDoorLaws
set_option linter.all false
set_option linter.unnecessarySimpa false
attribute [simp] Go.Am.vl
namespace Go.Am
set_option linter.unusedVariables false
set_option linter.unusedSimpArgs false
section
variable{bt:Bool}{a b:Int}
@[simp] theorem aue:binP bt .lss (nh a) (.val (.int .u8 b))=some (ar (decide (a<b))):=rfl
@[simp] theorem Iy:binP bt .leq (nh a) (.val (.int .u8 b))=some (ar (decide (a≤b))):=rfl
@[simp] theorem auf:binP bt .gtr (nh a) (.val (.int .u8 b))=some (ar (decide (a>b))):=rfl
@[simp] theorem Iz:binP bt .geq (nh a) (.val (.int .u8 b))=some (ar (decide (a≥b))):=rfl
@[simp] theorem aoG:binP bt .eql (nh a) (.val (.int .u8 b))=some (ar (a==b)):=rfl
end
theorem IA{s:ByteArray}{i:Nat}{b:UInt8}(h:s[i]?=some b):sixP (aJ s) (J (i:Int))=some (nh b.toNat):=by
 simp [sixP,aJ,J,E1,h,toDo,nh]
theorem Xs{s:ByteArray}{b:UInt8}(h:s[0]?=some b):sixP (aJ s) (J 0)=some (nh b.toNat):=IA (i:=0) h
theorem Xt(n:Nat)(c:Int):vE n [nh c]=some (ar (qm c)):=by
 simp only [vE,SU,qm,Iz,Iy,c8]
 cases decide (c≥97)<;>cases decide (c≤122)<;>cases decide (c≥65)<;>cases decide (c≤90)<;>rfl
theorem aoH(n:Nat)(c:Int):BP n [nh c]=some (ar (u1 c)):=by
 simp only [BP,SV,u1,Iz,Iy,c8]
 cases decide (c≥48)<;>cases decide (c≤57)<;>rfl
theorem Xu(n:Nat)(c:Int):BQ n [nh c]=some (ar (kM c)):=by
 simp only [BQ,SW,kM,Xt,aoH,aoG,c8]
 cases qm c<;>cases u1 c<;>cases (c==95)<;>rfl
theorem Xv(n:Nat)(c:Int):wP n [nh c]=some (ar (qm c)):=by
 simp only [wP,TU,qm,Iz,Iy,c8]
 cases decide (c≥97)<;>cases decide (c≤122)<;>cases decide (c≥65)<;>cases decide (c≤90)<;>rfl
theorem aoI(n:Nat)(c:Int):Dh n [nh c]=some (ar (u1 c)):=by
 simp only [Dh,TV,u1,Iz,Iy,c8]
 cases decide (c≥48)<;>cases decide (c≤57)<;>rfl
theorem Xw(p:Int→Bool)(s:ByteArray):(∀j:Nat,j<lP p s→mI p s j=true)∧mI p s (lP p s)=false∧lP p s≤s.size:=by
 unfold lP
 cases h:(List.range (s.size+1)).find? (fun i=>!mI p s i) with
 |none=>
  exfalso
  have ad:=List.find?_eq_none.1 h s.size (by simp)
  have:mI p s s.size=true:=by simpa using ad
  exact absurd (abI this) (Nat.lt_irrefl _)
 |some m=>
  rw [List.find?_range_eq_some] at h
  obtain ⟨ad,ae,ay⟩:=h
  refine ⟨fun j aH=>by simpa using ay j aH,by simpa using ad,by show m≤s.size;simp at ae;omega⟩
theorem Xx{p:Int→Bool}{s:ByteArray}{i:Nat}(h:mI p s i=true):∃b:UInt8,s[i]?=some b∧p b.toNat=true:=by
 unfold mI at h
 split at h
 ·exact ⟨_,by assumption,h⟩
 ·cases h
theorem Xy{p:Int→Bool}{s:ByteArray}{i:Nat}(h:mI p s i=false):(s[i]?=none∧s.size≤i)∨∃b:UInt8,s[i]?=some b∧i<s.size∧p b.toNat=false:=by
 unfold mI at h
 split at h
 ·rename_i b ak
  refine .inr ⟨b,ak,?_,h⟩
  rw [FQ] at ak
  by_cases ad:i<s.size
  ·exact ad
  ·rw [dif_neg ad] at ak;cases ak
 ·rename_i ak
  refine .inl ⟨ak,?_⟩
  rw [FQ] at ak
  by_cases ad:i<s.size
  ·rw [dif_pos ad] at ak;cases ak
  ·omega
theorem aoJ(n:Nat)(s:ByteArray)(aI:s.size<n)(az:s.size≤9223372036854775807):yQ n [aJ s,.val (.func (.func BH) #[] #[])]=some (J (lP kM s)):=by
 obtain ⟨ad,ae,ay⟩:=Xw kM s
 have key:bm (BR n) n [aJ s,J 0]=some (.inl [J (lP kM s)]):=by
  refine jD (fun i=>[aJ s,J i]) (lP kM s) rfl ?_ ?_ (by omega)
  ·intro i ag
   obtain ⟨b,ak,aX⟩:=Xx (ad i ag)
   simp (disch:=omega) [BR,IA ak,Xu,aX,dY,show i<s.size by omega]
  ·rcases Xy ae with⟨ak,aX⟩|⟨b,ak,bW,aX⟩
   ·simp [BR,show¬(lP kM s<s.size) by omega]
   ·simp [BR,IA ak,Xu,aX,bW]
 simp [yQ,LG,key]
theorem aoK(n:Nat)(s:ByteArray)(aI:s.size<n)(az:s.size≤9223372036854775807):Dj n [aJ s,J 0,ar false]=some (J (lP kM s)):=by
 obtain ⟨ad,ae,ay⟩:=Xw kM s
 have one:∀(i:Nat) (b:UInt8),s[i]?=some b→i<s.size→Di n [aJ s,J i,ar false]=if kM b.toNat=true then some (.inl [aJ s,J (i+1:Nat),ar false]) else some (.inr (.inl [J i])):=by
  intro i b ak ag
  simp (disch:=omega) [Di,IA ak,aoI,Xv,kM,dY,ag]
  by_cases aoL:((b.toNat:Int)=95)<;>cases u1 b.toNat<;>cases qm b.toNat<;>simp [aoL]
 have key:bm (Di n) n [aJ s,J 0,ar false]=some (.inl [J (lP kM s)]):=by
  refine jD (fun i=>[aJ s,J i,ar false]) (lP kM s) rfl ?_ ?_ (by omega)
  ·intro i ag
   obtain ⟨b,ak,aX⟩:=Xx (ad i ag)
   rw [one i b ak (by omega),if_pos aX]
  ·rcases Xy ae with⟨ak,aX⟩|⟨b,ak,bW,aX⟩
   ·simp [Di,show¬(lP kM s<s.size) by omega]
   ·rw [one _ b ak bW,if_neg (by simp [aX])]
 simp [Dj,TW,key]
theorem q5(p:Nat→Prop)[DecidablePred p]:∀m:Nat,(∀j:Nat,j<m→¬p j)∨∃i,i<m∧p i∧∀j:Nat,j<i→¬p j
 |0=> .inl (by intro j aH;omega)
 |m+1=>by
  rcases q5 p m with h|⟨i,ad,ae,ay⟩
  ·by_cases hm:p m
   ·exact .inr ⟨m,by omega,hm,h⟩
   ·refine .inl fun j aH=>?_
    by_cases aoM:j=m
    ·subst aoM;exact hm
    ·exact h j (by omega)
  ·exact .inr ⟨i,by omega,ae,ay⟩
theorem aoN(n:Nat)(l:List ByteArray)(x:ByteArray)(aI:l.length<n)(an:l.length<4000000000000000000):yS n [c0 l,aJ x]=some (J (idxOf x l)):=by
 have step:∀(i:Nat) (y:ByteArray),l[i]?=some y→i<l.length→yR n [c0 l,aJ x,J l.length,J i]=if x=y then some (.inr (.inr (J i))) else some (.inl [c0 l,aJ x,J l.length,J (i+1:Nat)]):=by
  intro i y aN ag
  obtain ⟨_,rfl⟩:=List.getElem?_eq_some_iff.1 aN
  simp (disch:=omega) [yR,c0,aN,ag,dY]
 rcases q5 (fun i=>l[i]?=some x) l.length with h|⟨i,ad,ae,ay⟩
 ·have key:bm (yR n) n [c0 l,aJ x,J l.length,J 0]=some (.inl []):=by
   refine jD (fun i=>[c0 l,aJ x,J l.length,J i]) l.length rfl ?_ ?_ aI
   ·intro i ag
    have aN:=List.getElem?_eq_getElem ag
    rw [step i _ aN ag,if_neg]
    intro he
    exact h i ag (by rw [aN,he])
   ·simp [yR]
  have e:(c0 l)= .aC 1 (l.map fun s=>[aJ s]):=rfl
  simp [yS,LH,QU h]
  rw [e] at key⊢
  simp [key]
 ·have key:bm (yR n) n [c0 l,aJ x,J l.length,J 0]=some (.inr (J i)):=by
   refine jD (fun i=>[c0 l,aJ x,J l.length,J i]) i rfl ?_ ?_ (by omega)
   ·intro j aH
    have aN:=List.getElem?_eq_getElem (show j<l.length by omega)
    rw [step j _ aN (by omega),if_neg]
    intro he
    exact ay j aH (by rw [aN,he])
   ·rw [step i x ae ad,if_pos rfl]
  simp [yS,LH,QV ay ae]
  have e:(c0 l)= .aC 1 (l.map fun s=>[aJ s]):=rfl
  rw [e] at key⊢
  simp [key]
theorem aoO(n:Nat)(l:List ByteArray)(x:ByteArray)(aI:l.length<n)(an:l.length<4000000000000000000):BS n [c0 l,aJ x]=some (ar (has x l)):=by
 simp [BS,SX,aoN n l x aI an,QW]
theorem aoP(n:Nat)(l:List ByteArray)(x:ByteArray)(aI:l.length<n)(an:l.length<4000000000000000000):zm n [c0 l,aJ x]=some (ar (has x l)):=by
 have step:∀(i:Nat) (y:ByteArray),l[i]?=some y→i<l.length→zl n [c0 l,aJ x,J i]=if y=x then some (.inr (.inr (ar true))) else some (.inl [c0 l,aJ x,J (i+1:Nat)]):=by
  intro i y aN ag
  obtain ⟨_,rfl⟩:=List.getElem?_eq_some_iff.1 aN
  simp (disch:=omega) [zl,c0,aN,ag,dY]
 rcases q5 (fun i=>l[i]?=some x) l.length with h|⟨i,ad,ae,ay⟩
 ·have key:bm (zl n) n [c0 l,aJ x,J 0]=some (.inl []):=by
   refine jD (fun i=>[c0 l,aJ x,J i]) l.length rfl ?_ ?_ aI
   ·intro i ag
    have aN:=List.getElem?_eq_getElem ag
    rw [step i _ aN ag,if_neg]
    intro he
    exact h i ag (by rw [aN,he])
   ·simp [zl,c0]
  simp [zm,MF,key,QY h]
 ·have key:bm (zl n) n [c0 l,aJ x,J 0]=some (.inr (ar true)):=by
   refine jD (fun i=>[c0 l,aJ x,J i]) i rfl ?_ ?_ (by omega)
   ·intro j aH
    have aN:=List.getElem?_eq_getElem (show j<l.length by omega)
    rw [step j _ aN (by omega),if_neg]
    intro he
    exact ay j aH (by rw [aN,he])
   ·rw [step i x ae ad,if_pos rfl]
  simp [zm,MF,key,QX ae]
theorem aoQ(n:Nat):Hp n []=some (c0 words):=rfl
theorem aoR:(D.aC 1 (BF.map fun c=>[c]))=c0 words:=rfl
theorem Oj(n:Nat)(s:ByteArray)(aI:s.size+24<n)(az:s.size≤9223372036854775807):qB n [aJ s]=some (ar (isName s)):=by
 have hw:words.length=24:=rfl
 have ad:=aoJ n s (by omega) az
 have ae:=aoO n words s (by omega) (by omega)
 rcases QZ s with⟨fo,bM⟩|⟨b,fo,bM,ak⟩
 ·simp [qB,LI,fo,isName,bM]
 ·simp only [qB,LI,isName,mI,ak,Xs ak,Xt,ad,ae,aoR,Sf,fo,bM,Le,Gh,yA,yB,c8]
  cases decide ((s.size:Int)≤24)<;>cases qm b.toNat<;>cases ((lP kM s:Int)==(s.size:Int))<;>cases has s words<;>rfl
theorem Ok(n:Nat)(s:ByteArray)(aI:s.size+24<n)(az:s.size≤9223372036854775807):qQ n [aJ s]=some (ar (isName s)):=by
 have hw:words.length=24:=rfl
 have ad:=aoK n s (by omega) az
 have ae:=aoP n words s (by omega) (by omega)
 rcases QZ s with⟨fo,bM⟩|⟨b,fo,bM,ak⟩
 ·simp only [qQ,MG,Le,yz,c8,bM]
  simp [isName,bM]
 ·simp only [qQ,MG,isName,mI,ak,Xs ak,Xv,ad,ae,aoQ,bM,Le,Gh,yz,yA,yB,c8]
  cases decide ((s.size:Int)≤24)<;>cases qm b.toNat<;>cases ((lP kM s:Int)==(s.size:Int))<;>cases has s words<;>rfl
end Go.Am
namespace Go.Am
set_option linter.unusedVariables false
set_option linter.unusedSimpArgs false
theorem aoS(n:Nat)(w v:V):yT n [w.d,.ref v.cells 0]=some (ar (decide (w.name=v.name))):=by
 simp [yT,LJ,V.d,V.cells]
theorem aoT(n:Nat)(l:List V)(v:V)(aI:l.length<n)(an:l.length<4000000000000000000):
  vG n [a6 l,.fn (.func qw) [] [.ref v.cells 0]]=some (J (idxOf v.name (l.map V.name))):=by
 have hle:(l.map V.name).length=l.length:=by simp
 have step:∀(i:Nat) (y:V),l[i]?=some y→i<l.length→vF n [a6 l,.ref v.cells 0,J l.length,J i]=if y.name=v.name then some (.inr (.inr (J i))) else some (.inl [a6 l,.ref v.cells 0,J l.length,J (i+1:Nat)]):=by
  intro i y aN ag
  obtain ⟨_,rfl⟩:=List.getElem?_eq_some_iff.1 aN
  have ad:=aoS n l[i] v
  simp only [V.d,V.cells] at ad
  simp (disch:=omega) [vF,a6,ag,dY,V.cells,ad]
 have bF:∀x,vG n [a6 l,.fn (.func qw) [] [x]]=R (bm (vF n) n [a6 l,x,J l.length,J 0]) (a7 fun ls=>some (J (-1))):=by
  intro x
  simp only [vG,lX,LK]
  simp [a6]
 rw [bF]
 rcases q5 (fun i=>(l.map V.name)[i]?=some v.name) l.length with h|⟨i,ad,ae,ay⟩
 ·have key:bm (vF n) n [a6 l,.ref v.cells 0,J l.length,J 0]=some (.inl []):=by
   refine jD (fun i=>[a6 l,.ref v.cells 0,J l.length,J i]) l.length rfl ?_ ?_ aI
   ·intro i ag
    have aN:=List.getElem?_eq_getElem ag
    rw [step i _ aN ag,if_neg]
    intro he
    exact h i ag (by rw [List.getElem?_map,aN,←he];rfl)
   ·simp [vF]
  rw [key,QU (by rw [hle];exact h)]
  rfl
 ·have key:bm (vF n) n [a6 l,.ref v.cells 0,J l.length,J 0]=some (.inr (J i)):=by
   refine jD (fun i=>[a6 l,.ref v.cells 0,J l.length,J i]) i rfl ?_ ?_ (by omega)
   ·intro j aH
    have aN:=List.getElem?_eq_getElem (show j<l.length by omega)
    rw [step j _ aN (by omega),if_neg]
    intro he
    exact ay j aH (by rw [List.getElem?_map,aN,←he];rfl)
   ·have aN:=List.getElem?_eq_getElem ad
    rw [step i _ aN ad,if_pos]
    rw [List.getElem?_map,aN] at ae
    simpa using ae
  rw [key,QV ay ae]
  rfl
theorem aoU(n:Nat)(l:List V)(v:V)(aI:l.length<n)(an:l.length<4000000000000000000):
  yU n [a6 l,.fn (.func qw) [] [.ref v.cells 0]]=some (ar (has v.name (l.map V.name))):=by
 simp only [yU,lX,LL,aoT n l v aI an]
 simp [QW]
theorem Ol{k:Nat}{es:List (List D)}{i:Nat}(h:i≤es.length):ko k (.aC k es) none (some (J (i:Int)))=some (.aC k (es.take i)):=by
 simp [ko,oW,J,h]
def Om(v:V):Bool:=v.bool&&(v.lo !=0||v.ag !=0)
def On(v:V):Bool:=!v.bool&&(decide (v.lo>v.ag)||s8 v||decide (IntKind.i64.wrap (v.ag-v.lo)≥64))
theorem Xz(seen:List V)(v:V):FR seen v=if !isName v.name then 12 else if has v.name (seen.map V.name) then 6 else if Om v then 3 else if On v then 2 else 0:=rfl
def pW(l:List V):Prop:=l.length<1000000000000∧∀v∈l,ln v.lo∧ln v.ag∧v.name.size≤9223372036854775807
theorem Oo(n:Nat)(l:List V)(an:pW l)(aI:l.length<n)(iZ:∀v∈l,v.name.size+24<n)(i:Nat)(ag:i<l.length):
  vH n [a6 l,a6 l,J l.length,J i]=if h4 l i=0 then some (.inl [a6 l,a6 l,J l.length,J (i+1:Nat)]) else some (.inr (.inr (.aQ [J i,J (h4 l i)]))):=by
 have aN:=List.getElem?_eq_getElem ag
 have aM:=an.2 _ (List.getElem_mem ag)
 have hlen:=an.1
 have e:h4 l i=FR (l.take i) l[i]:=by simp only [h4,aN]
 rw [e]
 generalize hw:l[i]=v at*
 have ad:=Oj n v.name (iZ v (hw▸List.getElem_mem ag)) (by omega)
 have ae:=aoU n (l.take i) v (by rw [List.length_take];omega) (by rw [List.length_take];omega)
 have ay:ko 4 (a6 l) none (some (J (i:Int)))=some (a6 (l.take i)):=by
  rw [a6,Ol (by simp;omega),List.map_take.symm];rfl
 have aZ:a3 4 (a6 l) (J (i:Int))=some v.cells:=by simp [a6,aN,hw]
 have bL:binP false .lss (J (i:Int)) (J (l.length:Int))=some (ar true):=by simp [ag]
 have ch:binP false .add (J (i:Int)) (J 1)=some (J (i+1:Nat)):=by rw [dY (by omega) (by omega)];rfl
 have fj:binP false .sub (J v.ag) (J v.lo)=some (J (IntKind.i64.wrap (v.ag-v.lo))):=rfl
 have hT:aW true 4 0 v.cells=some v.d:=rfl
 have jb:aK 4 v.d=true:=rfl
 have aL:aa v.d 0=aJ v.name:=rfl
 have bb:aa v.d 1=ar v.bool:=rfl
 have bl:aa v.d 2=J v.lo:=rfl
 have bs:aa v.d 3=J v.ag:=rfl
 have cf:(D.ref [aJ v.name,ar v.bool,J v.lo,J v.ag] 0)= .ref v.cells 0:=rfl
 have a1:s8 v=(decide ((if v.ag>v.lo then v.ag else v.lo)>255)||decide ((if v.ag<v.lo then v.ag else v.lo)< -255)):=rfl
 rw [Xz]
 simp only [vH,mO,n9,bL,c8,jg,if_true,aZ,hT,jb,mN,aL,bb,bl,bs,cf,Su,Sv,ad,ae,ay,yB,lW,yy,Sw,tp,ch,fj,yz]
 rw [Om,On,a1]
 cases isName v.name
 ·cases decide ((if v.ag>v.lo then v.ag else v.lo)>255)<;>simp
 cases has v.name ((l.take i).map V.name)
 rotate_left
 ·cases decide ((if v.ag>v.lo then v.ag else v.lo)>255)<;>simp
 generalize decide ((if v.ag>v.lo then v.ag else v.lo)>255)=eD
 generalize decide ((if v.ag<v.lo then v.ag else v.lo)< -255)=dM
 generalize decide (v.lo>v.ag)=gH
 generalize decide (IntKind.i64.wrap (v.ag-v.lo)≥64)=oV
 generalize (v.lo !=0)=uW
 generalize (v.ag !=0)=uX
 cases v.bool<;>cases eD<;>cases dM<;>cases gH<;>cases oV<;>cases uW<;>cases uX<;>rfl
theorem aoV(n:Nat)(l:List V)(an:pW l)(aI:l.length<n)(iZ:∀v∈l,v.name.size+24<n):
  yV n [a6 l]=some (.aQ [J (jQ l).1,J (jQ l).2]):=by
 have bF:yV n [a6 l]=R (bm (vH n) n [a6 l,a6 l,J l.length,J 0]) (a7 fun ls=>some (D.aQ [J 0,J 0])):=by
  simp [yV,SY,a6]
 rw [bF]
 rcases q5 (fun i=>h4 l i≠0) l.length with h|⟨i,ad,ae,ay⟩
 ·have bj:∀j:Nat,j<l.length→h4 l j=0:=fun j aH=>by simpa using h j aH
  have key:bm (vH n) n [a6 l,a6 l,J l.length,J 0]=some (.inl []):=by
   refine jD (fun i=>[a6 l,a6 l,J l.length,J i]) l.length rfl ?_ ?_ aI
   ·intro i ag
    rw [Oo n l an aI iZ i ag,if_pos (bj i ag)]
   ·simp [vH]
  rw [key,Q1 bj]
  rfl
 ·have bj:∀j:Nat,j<i→h4 l j=0:=fun j aH=>by simpa using ay j aH
  have key:bm (vH n) n [a6 l,a6 l,J l.length,J 0]=some (.inr (.aQ [J i,J (h4 l i)])):=by
   refine jD (fun i=>[a6 l,a6 l,J l.length,J i]) i rfl ?_ ?_ (by omega)
   ·intro j aH
    rw [Oo n l an aI iZ j (by omega),if_pos (bj j aH)]
   ·rw [Oo n l an aI iZ i ad,if_neg ae]
  rw [key,Q0 bj ad rfl ae]
  rfl
@[simp] theorem XA {a:Int}:cvP .u64 (J a)=some (.val (.int .u64 (IntKind.u64.wrap a))):=rfl
theorem IB{k:IntKind}{a:Int}:cvP .i64 (.val (.int k a))=some (J (IntKind.i64.wrap a)):=rfl
theorem aoW(n:Nat)(v:V)(ad:ln v.lo)(ae:ln v.ag):BU n [v.d]=some (J v.span):=by
 have bb:aa v.d 1=ar v.bool:=rfl
 have bl:aa v.d 2=J v.lo:=rfl
 have bs:aa v.d 3=J v.ag:=rfl
 have jb:aK 4 v.d=true:=rfl
 simp only [BU,SZ,jb,mN,bb,bl,bs,jg,lW,c8,XA,IB]
 cases ak:v.bool with
 |true=>simp [V.QS ak]
 |false=>
  by_cases bW:v.lo>v.ag
  ·simp [V.QT ak bW,bW]
  ·have hle:v.lo≤v.ag:=by omega
   have aS:binP false .sub (.val (.int .u64 (IntKind.u64.wrap v.ag))) (.val (.int .u64 (IntKind.u64.wrap v.lo)))=some (.val (.int .u64 (v.ag-v.lo))):=by
    show some (D.val (.int .u64 (IntKind.u64.wrap (IntKind.u64.wrap v.ag-IntKind.u64.wrap v.lo))))=_
    rw [QR ad ae hle]
   have aV:binP false .lss (.val (.int .u64 (v.ag-v.lo))) (.val (.int .u64 1073741824))=some (ar (decide (v.ag-v.lo<1073741824))):=rfl
   simp only [bW,decide_false,Bool.false_eq_true,if_false,aS,aV,c8,jg]
   by_cases hm:v.ag-v.lo<1073741824
   ·rw [V.Kn ak hle hm]
    simp only [hm,decide_true,if_true,IB,c8,wrap64 _ (show-9223372036854775808≤v.ag-v.lo by omega) (by omega)]
    rw [dY (by omega) (by omega)]
    rfl
   ·rw [V.Ko ak hle (by omega)]
    simp [hm]
theorem XB(n:Nat)(v:V)(ad:ln v.lo)(ae:ln v.ag):wQ n [v.d]=some (J v.span):=by
 have bb:aa v.d 1=ar v.bool:=rfl
 have bl:aa v.d 2=J v.lo:=rfl
 have bs:aa v.d 3=J v.ag:=rfl
 have jb:aK 4 v.d=true:=rfl
 simp only [wQ,TY,jb,mN,bb,bl,bs,jg,lW,c8,XA]
 cases ak:v.bool with
 |true=>simp [V.QS ak]
 |false=>
  by_cases bW:v.lo>v.ag
  ·simp [V.QT ak bW,bW]
  ·have hle:v.lo≤v.ag:=by omega
   have aS:binP false .sub (.val (.int .u64 (IntKind.u64.wrap v.ag))) (.val (.int .u64 (IntKind.u64.wrap v.lo)))=some (.val (.int .u64 (v.ag-v.lo))):=by
    show some (D.val (.int .u64 (IntKind.u64.wrap (IntKind.u64.wrap v.ag-IntKind.u64.wrap v.lo))))=_
    rw [QR ad ae hle]
   have aV:binP false .gtr (.val (.int .u64 (v.ag-v.lo))) (.val (.int .u64 1073741824))=some (ar (decide (v.ag-v.lo>1073741824))):=rfl
   simp only [bW,decide_false,Bool.false_eq_true,if_false,aS,aV,c8,jg]
   by_cases hm:v.ag-v.lo>1073741824
   ·rw [V.Ko ak hle (by omega)]
    simp only [hm,decide_true,if_true,c8,nu,mO,IB]
    rfl
   ·simp only [hm,decide_false,Bool.false_eq_true,if_false,c8,nu,mO,IB,wrap64 _ (show-9223372036854775808≤v.ag-v.lo by omega) (by omega)]
    rw [dY (by omega) (by omega)]
    simp only [c8]
    by_cases he:v.ag-v.lo=1073741824
    ·rw [V.Ko ak hle (by omega),he];rfl
    ·rw [V.Kn ak hle (by omega)]
theorem V.Eu(v:V):0≤v.span∧v.span≤1073741825:=by
 unfold V.span
 split
 ·omega
 ·split
  ·omega
  ·split<;>omega
theorem aoX{i:Nat}(h:i≤62):((2:Int)^i)≤4611686018427387904∧0<(2:Int)^i:=by
 have ad:(2:Nat)^i≤2^62:=Nat.pow_le_pow_right (by omega) h
 have ay:((2^i:Nat):Int)=2^i:=by simp
 have ae:(0:Int)<2^i:=Int.pow_pos (by omega)
 omega
theorem XC{bt:Bool}{i:Nat}(h:i≤62):binP bt .shl (J 1) (J (i:Int))=some (J ((2:Int)^i)):=by
 have N7:¬((i:Int)<0):=by omega
 have hm:min i IntKind.i64.bits=i:=by simp [IntKind.bits];omega
 obtain ⟨ad,ae⟩:=aoX h
 have e:IntKind.i64.wrap (1*2^(min i IntKind.i64.bits))=2^i:=by
  rw [hm,Int.one_mul];exact wrap64 _ (by omega) (by omega)
 simp only [binP,J,toDo,N7,if_false,Int.toNat_natCast]
 rw [e]
theorem Ad{n:Int}(h:n≤1073741825):bitsOf n≤62∧(∀j:Nat,j<bitsOf n→(2:Int)^j<n)∧n≤2^bitsOf n:=by
 rcases q5 (fun i=>n≤(2:Int)^i) 40 with ad|⟨i,ad,ae,ay⟩
 ·exact absurd h (by have:=ad 39 (by omega);simp at this;omega)
 ·have hg:∀j:Nat,j<i→(2:Int)^j<n:=fun j aH=>by have:=ay j aH;omega
  rw [abH hg ae]
  exact ⟨by omega,hg,ae⟩
theorem aoY(n:Nat)(k:Int)(ai:k≤1073741825)(aI:63<n):BV n [J k]=some (J (bitsOf k)):=by
 obtain ⟨ad,ae,ay⟩:=Ad ai
 have key:bm (GD n) n [J k,J 0]=some (.inr (J (bitsOf k))):=by
  refine jD (fun i=>[J k,J i]) (bitsOf k) rfl ?_ ?_ (by omega)
  ·intro i ag
   have:=ae i ag
   simp (disch:=omega) [GD,XC,dY,show((i:Int)<63) by omega,show¬(k≤(2:Int)^i) by omega]
  ·simp (disch:=omega) [GD,XC,show((bitsOf k:Int)<63) by omega,ay]
 simp [BV,S0,key]
theorem aoZ(n:Nat)(k:Int)(aq:-1000≤k)(ai:k≤1073741825)(aI:63<n):Dn n [J k]=some (J (bitsOf k)):=by
 have key:∀(m:Nat) (k:Int) (acc fm:Nat),bitsOf k=m→k≤1073741825→acc+m≤1000→m<fm→bm (Hq n) fm [J k,J acc]=some (.inl [J (acc+m:Nat)]):=by
  intro m
  induction m with
  |zero=>
   intro k acc fm hm ai aB uL
   obtain ⟨fm,rfl⟩:∃q,fm=q+1:=⟨fm-1,by omega⟩
   have o5:¬k>1:=by
    intro aj
    have:=QQ aj
    omega
   rw [iterL_s]
   simp [Hq,o5]
  |succ m ih=>
   intro k acc fm hm ai aB uL
   obtain ⟨fm,rfl⟩:∃q,fm=q+1:=⟨fm-1,by omega⟩
   have o5:k>1:=by
    refine Classical.byContradiction fun aj=>?_
    have:bitsOf k=0:=by unfold bitsOf;rw [if_pos (by omega)]
    omega
   have bw:=QQ o5
   have aS:k.tdiv 2=k/2:=Int.tdiv_eq_ediv_of_nonneg (by omega)
   have aV:k.tmod 2=k%2:=Int.tmod_eq_emod_of_nonneg (by omega)
   have hle:=(Ad ai).1
   have uw:=ih (k/2+k%2) (acc+1) fm (by omega) (by omega) (by omega) (by omega)
   rw [iterL_s]
   simp (disch:=omega) [Hq,o5,Se,Bq,aS,aV,wrap64,dY]
   have bz:((acc:Int)+1)=((acc+1:Nat):Int):=by omega
   rw [bz,uw]
   congr 4
   omega
 have:=key (bitsOf k) k 0 n rfl ai (by have:=(Ad ai).1;omega) (by have:=(Ad ai).1;omega)
 simp only [Nat.zero_add] at this
 have e:(J ((0:Nat):Int))=J 0:=rfl
 rw [e] at this
 simp [Dn,TZ,this]
end Go.Am
namespace Go.Am
set_option linter.unusedVariables false
set_option linter.unusedSimpArgs false
theorem XD(n:Nat)(k:Int):zn n [J k]=some (ar (decide (k≥-255)&&decide (k≤255))):=by
 simp only [zn,TX,yz,Gh,c8]
 cases decide (k≥-255)<;>cases decide (k≤255)<;>rfl
theorem Oq(n:Nat)(l:List V)(i k:Nat)(ag:i<l.length)(ai:k<i)(hlen:l.length<1000000000000):
  Dk n [a6 l,J i,J k]=if(l[k]'(by omega)).name=l[i].name then some (.inr (.inr (.inr (.inr (.inr (.aQ [J i,J 6])))))) else some (.inl [a6 l,J i,J (k+1:Nat)]):=by
 have oT:k<l.length:=by omega
 have ad:l[k]?=some l[k]:=List.getElem?_eq_getElem oT
 have ae:l[i]?=some l[i]:=List.getElem?_eq_getElem ag
 simp (disch:=omega) [Dk,a6,ai,dY,oT,ag,V.cells]
theorem ao0(n:Nat)(l:List V)(i:Nat)(ag:i<l.length)(hlen:l.length<1000000000000)(aI:l.length<n):
  bm (Dk n) n [a6 l,J i,J 0]=if has l[i].name ((l.take i).map V.name)=true then some (.inr (.inr (.inr (.inr (.aQ [J i,J 6]))))) else some (.inl [a6 l,J i]):=by
 rcases q5 (fun k=>(l.map V.name)[k]?=some l[i].name) i with h|⟨k,ad,ae,ay⟩
 ·rw [abK h,if_neg (by simp)]
  refine jD (fun k=>[a6 l,J i,J k]) i rfl ?_ ?_ (by omega)
  ·intro k ai
   rw [Oq n l i k ag ai hlen,if_neg]
   intro he
   refine h k ai ?_
   rw [List.getElem?_map,List.getElem?_eq_getElem (show k<l.length by omega),←he];rfl
  ·simp [Dk]
 ·have lr:k<l.length:=by omega
  have hw:=List.getElem?_eq_getElem lr
  have FI:(l[k]).name=l[i].name:=by
   rw [List.getElem?_map,hw] at ae;simpa using ae
  rw [←FI,abL ad hw,if_pos rfl]
  refine jD (fun k=>[a6 l,J i,J k]) k rfl ?_ ?_ (by omega)
  ·intro j aH
   rw [Oq n l i j ag (by omega) hlen,if_neg]
   intro he
   refine ay j aH ?_
   rw [List.getElem?_map,List.getElem?_eq_getElem (show j<l.length by omega),←he];rfl
  ·rw [Oq n l i k ag ad hlen,if_pos FI]
theorem Ot(n:Nat)(l:List V)(an:pW l)(aI:l.length<n)(iZ:∀v∈l,v.name.size+24<n)(i:Nat)(ag:i<l.length):
  wR n [a6 l,J i]=if h4 l i=0 then some (.inl [a6 l,J (i+1:Nat)]) else some (.inr (.inr (.aQ [J i,J (h4 l i)]))):=by
 have aN:=List.getElem?_eq_getElem ag
 have aM:=an.2 _ (List.getElem_mem ag)
 have hlen:=an.1
 have fj:=ao0 n l i ag an.1 aI
 have e:h4 l i=FR (l.take i) l[i]:=by simp only [h4,aN]
 rw [e]
 generalize hw:l[i]=v at*
 have ad:=Ok n v.name (iZ v (hw▸List.getElem_mem ag)) (by omega)
 have aZ:a3 4 (a6 l) (J (i:Int))=some v.cells:=by simp [a6,aN,hw]
 have bL:binP false .lss (J (i:Int)) (J (l.length:Int))=some (ar true):=by simp [ag]
 have ao1:lenP (a6 l)=some (J l.length):=by simp [a6]
 have ch:binP false .add (J (i:Int)) (J 1)=some (J (i+1:Nat)):=by rw [dY (by omega) (by omega)];rfl
 have hT:aW true 4 0 v.cells=some v.d:=rfl
 have aL:aW false 1 0 v.cells=some (aJ v.name):=rfl
 have bb:aW false 1 1 v.cells=some (ar v.bool):=rfl
 have bl:aW false 1 2 v.cells=some (J v.lo):=rfl
 have bs:aW false 1 3 v.cells=some (J v.ag):=rfl
 have jb:=XB n v aM.1 aM.2.1
 rw [Xz]
 rw [show On v=_ from abJ ⟨aM.1,aM.2.1,by omega⟩]
 simp only [wR,mO,n9,ao1,bL,c8,jg,if_true,aZ,hT,aL,bb,bl,bs,ad,fj,yB,lW,yy,tp,ch,yz,XD,jb]
 rw [Om]
 cases isName v.name
 ·simp
 cases has v.name ((l.take i).map V.name)
 rotate_left
 ·simp
 simp only [Bool.not_true,Bool.false_eq_true,if_false,c8,nu,mO,n9,aZ,hT,aL,bb,bl,bs,lW,tp,XD,jb,yB]
 generalize (decide (v.lo≥-255)&&decide (v.lo≤255))=eD
 generalize (decide (v.ag≥-255)&&decide (v.ag≤255))=dM
 generalize decide (v.lo>v.ag)=gH
 generalize decide (v.span>64)=oV
 generalize (v.lo !=0)=uW
 generalize (v.ag !=0)=uX
 cases v.bool<;>cases eD<;>cases dM<;>cases gH<;>cases oV<;>cases uW<;>cases uX<;>simp [ch]
theorem ao2(n:Nat)(l:List V)(an:pW l)(aI:l.length<n)(iZ:∀v∈l,v.name.size+24<n):
  Dm n [a6 l]=some (.aQ [J (jQ l).1,J (jQ l).2]):=by
 have bF:Dm n [a6 l]=R (bm (wR n) n [a6 l,J 0]) (a7 fun ls=>some (D.aQ [J 0,J 0])):=rfl
 rw [bF]
 rcases q5 (fun i=>h4 l i≠0) l.length with h|⟨i,ad,ae,ay⟩
 ·have bj:∀j:Nat,j<l.length→h4 l j=0:=fun j aH=>by simpa using h j aH
  have key:bm (wR n) n [a6 l,J 0]=some (.inl []):=by
   refine jD (fun i=>[a6 l,J i]) l.length rfl ?_ ?_ aI
   ·intro i ag
    rw [Ot n l an aI iZ i ag,if_pos (bj i ag)]
   ·simp [wR,a6]
  rw [key,Q1 bj]
  rfl
 ·have bj:∀j:Nat,j<i→h4 l j=0:=fun j aH=>by simpa using ay j aH
  have key:bm (wR n) n [a6 l,J 0]=some (.inr (.aQ [J i,J (h4 l i)])):=by
   refine jD (fun i=>[a6 l,J i]) i rfl ?_ ?_ (by omega)
   ·intro j aH
    rw [Ot n l an aI iZ j (by omega),if_pos (bj j aH)]
   ·rw [Ot n l an aI iZ i ad,if_neg ae]
  rw [key,Q0 bj ad rfl ae]
  rfl
end Go.Am
namespace Go.Am
set_option linter.unusedVariables false
set_option linter.unusedSimpArgs false
def l5(l:List cl)(x:ByteArray):Option Nat:=l.findIdx? (fun d=>decide (d.name=x))
def eI:Option Nat→Int
 |some i=>(i:Int)
 |none=>-1
theorem xD(o:Option Nat):decide (eI o≥0)=o.isSome:=by
 cases o with
 |none=>rfl
 |some i=>simp [eI]
theorem XE(o:Option Nat):decide (eI o<0)=o.isNone:=by
 cases o with
 |none=>rfl
 |some i=>exact decide_eq_false (show¬((i:Int)<0) by omega)
theorem findIdx_cons{α:Type}(p:α→Bool)(a:α)(r:List α):(a::r).findIdx? p=if p a then some 0 else(r.findIdx? p).map (·+1):=by
 rw [List.findIdx?_cons]
theorem V.kr(v:V):aa v.d 0=aJ v.name:=rfl
theorem V.ed(v:V):aW true 4 0 v.cells=some v.d:=rfl
theorem V.ee(v:V):aK 4 v.d=true:=rfl
theorem a5.kr(v:a5):aa v.d 0=aJ v.name:=rfl
theorem a5.fX(v:a5):aW true 5 0 v.cells=some v.d:=rfl
theorem a5.hz(v:a5):aK 5 v.d=true:=by unfold a5.d a5.cells;simp
theorem cl.kr(v:cl):aa v.d 0=aJ v.name:=rfl
theorem cl.ji(v:cl):aW true 7 0 v.cells=some v.d:=rfl
theorem cl.nq(v:cl):aK 7 v.d=true:=cl.agg v
theorem ao3(n:Nat)(d:V)(x:ByteArray):CO n [d.d,.ref [aJ x] 0]=some (ar (decide (d.name=x))):=by
 show G2 n d.d [aJ x]=_
 simp only [G2,go_sem,hi,V.ee,V.kr]
theorem ao4(n:Nat)(l:List V)(x:ByteArray)(aI:l.length<n)(ak:l.length<1000000000):wb n [a6 l,D.fn (.func pc) [] [.ref [aJ x] 0]]=some (J (eI (dz l x))):=by
 have bF:(J ((0:Nat):Int))=J 0:=rfl
 have ag:=dq (f:=CP n) l (fun i (_:Unit)=>[a6 l,.ref [aJ x] 0,J l.length,J (i:Int)]) (fun r _=>match dz r x with
  |some j=>(Sum.inr (J ((l.length-r.length+j:Nat):Int)):List D⊕D)
  |none=> .inl []) (fun _ _=>True) ?_ ?_ n 0 () trivial (by omega) (Nat.zero_le _)
 ·rw [bF,List.drop_zero,Nat.sub_self] at ag
  have bw:wb n [a6 l,D.fn (.func pc) [] [.ref [aJ x] 0]]=CQ n (a6 l) (.ref [aJ x] 0):=by
   simp only [wb,lX]
  rw [bw]
  cases bK:dz l x with
  |none=>
   rw [bK] at ag
   simp only [CQ,go_sem,fw,ag,eI]
  |some j=>
   rw [bK] at ag
   simp only [Nat.zero_add] at ag
   simp only [CQ,go_sem,fw,ag,eI]
 ·intro _ _
  have:dz [] x=none:=rfl
  simp only [CP,go_sem,decide_eq_false (show¬((l.length:Int)<l.length) by omega),this]
 ·intro i a _ aB ag _
  have cU:=decide_eq_true (show((i:Int)<(l.length:Int)) by omega)
  have aj:dz (a::l.drop (i+1)) x=if decide (a.name=x)=true then some 0 else(dz (l.drop (i+1)) x).map (·+1):=findIdx_cons _ a _
  have e:l.length-(a::l.drop (i+1)).length=i:=by simp;omega
  have cW:l.length-(l.drop (i+1)).length=i+1:=by simp;omega
  have ad:=ao3 n a x
  by_cases af:a.name=x
  ·right
   rw [decide_eq_true af] at ad aj
   rw [aj,if_pos rfl,e]
   simp only [CP,go_sem,cU,h7 aB,V.ed,ad,Nat.add_zero]
  ·left
   rw [decide_eq_false af] at ad aj
   rw [aj,if_neg (by simp),e,cW]
   refine ⟨(),?_,?_,trivial⟩
   ·simp only [CP,go_sem,cU,h7 aB,V.ed,ad,cj (bt:=false) (i:=i) (by omega)]
   ·cases dz (l.drop (i+1)) x with
    |none=>rfl
    |some j=>simp;omega
theorem ao5(n:Nat)(l:List V)(x:ByteArray)(aI:l.length<n)(ak:l.length<1000000000):wc n [a6 l,D.fn (.func pc) [] [.ref [aJ x] 0]]=some (ar (dz l x).isSome):=by
 have bw:wc n [a6 l,D.fn (.func pc) [] [.ref [aJ x] 0]]=G3 n (a6 l) (.ref [aJ x] 0):=by
  simp only [wc,lX]
 rw [bw]
 simp only [G3,go_sem,ao4 n l x aI ak,xD]
theorem ao6(n:Nat)(d:a5)(x:ByteArray):CR n [d.d,.ref [aJ x] 0]=some (ar (decide (d.name=x))):=by
 show G4 n d.d [aJ x]=_
 simp only [G4,go_sem,hi,a5.hz,a5.kr]
theorem ao7(n:Nat)(l:List a5)(x:ByteArray)(aI:l.length<n)(ak:l.length<1000000000):we n [aE l,D.fn (.func pd) [] [.ref [aJ x] 0]]=some (J (eI (cP l x))):=by
 have bF:(J ((0:Nat):Int))=J 0:=rfl
 have ag:=dq (f:=CS n) l (fun i (_:Unit)=>[aE l,.ref [aJ x] 0,J l.length,J (i:Int)]) (fun r _=>match cP r x with
  |some j=>(Sum.inr (J ((l.length-r.length+j:Nat):Int)):List D⊕D)
  |none=> .inl []) (fun _ _=>True) ?_ ?_ n 0 () trivial (by omega) (Nat.zero_le _)
 ·rw [bF,List.drop_zero,Nat.sub_self] at ag
  have bw:we n [aE l,D.fn (.func pd) [] [.ref [aJ x] 0]]=CT n (aE l) (.ref [aJ x] 0):=by
   simp only [we,lX]
  rw [bw]
  cases bK:cP l x with
  |none=>
   rw [bK] at ag
   simp only [CT,go_sem,dy,ag,eI]
  |some j=>
   rw [bK] at ag
   simp only [Nat.zero_add] at ag
   simp only [CT,go_sem,dy,ag,eI]
 ·intro _ _
  have:cP [] x=none:=rfl
  simp only [CS,go_sem,decide_eq_false (show¬((l.length:Int)<l.length) by omega),this]
 ·intro i a _ aB ag _
  have cU:=decide_eq_true (show((i:Int)<(l.length:Int)) by omega)
  have aj:cP (a::l.drop (i+1)) x=if decide (a.name=x)=true then some 0 else(cP (l.drop (i+1)) x).map (·+1):=findIdx_cons _ a _
  have e:l.length-(a::l.drop (i+1)).length=i:=by simp;omega
  have cW:l.length-(l.drop (i+1)).length=i+1:=by simp;omega
  have ad:=ao6 n a x
  by_cases af:a.name=x
  ·right
   rw [decide_eq_true af] at ad aj
   rw [aj,if_pos rfl,e]
   simp only [CS,go_sem,cU,en aB,a5.fX,ad,Nat.add_zero]
  ·left
   rw [decide_eq_false af] at ad aj
   rw [aj,if_neg (by simp),e,cW]
   refine ⟨(),?_,?_,trivial⟩
   ·simp only [CS,go_sem,cU,en aB,a5.fX,ad,cj (bt:=false) (i:=i) (by omega)]
   ·cases cP (l.drop (i+1)) x with
    |none=>rfl
    |some j=>simp;omega
theorem ao8(n:Nat)(l:List a5)(x:ByteArray)(aI:l.length<n)(ak:l.length<1000000000):wg n [aE l,D.fn (.func pd) [] [.ref [aJ x] 0]]=some (ar (cP l x).isSome):=by
 have bw:wg n [aE l,D.fn (.func pd) [] [.ref [aJ x] 0]]=G5 n (aE l) (.ref [aJ x] 0):=by
  simp only [wg,lX]
 rw [bw]
 simp only [G5,go_sem,ao7 n l x aI ak,xD]
theorem ao9(n:Nat)(d:V)(x:ByteArray):CF n [d.d,.ref [aJ x] 0]=some (ar (decide (d.name=x))):=by
 show GV n d.d [aJ x]=_
 simp only [GV,go_sem,hi,V.ee,V.kr]
theorem apa(n:Nat)(l:List V)(x:ByteArray)(aI:l.length<n)(ak:l.length<1000000000):v3 n [a6 l,D.fn (.func yK) [] [.ref [aJ x] 0]]=some (J (eI (dz l x))):=by
 have bF:(J ((0:Nat):Int))=J 0:=rfl
 have ag:=dq (f:=CG n) l (fun i (_:Unit)=>[a6 l,.ref [aJ x] 0,J l.length,J (i:Int)]) (fun r _=>match dz r x with
  |some j=>(Sum.inr (J ((l.length-r.length+j:Nat):Int)):List D⊕D)
  |none=> .inl []) (fun _ _=>True) ?_ ?_ n 0 () trivial (by omega) (Nat.zero_le _)
 ·rw [bF,List.drop_zero,Nat.sub_self] at ag
  have bw:v3 n [a6 l,D.fn (.func yK) [] [.ref [aJ x] 0]]=CH n (a6 l) (.ref [aJ x] 0):=by
   simp only [v3,lX]
  rw [bw]
  cases bK:dz l x with
  |none=>
   rw [bK] at ag
   simp only [CH,go_sem,fw,ag,eI]
  |some j=>
   rw [bK] at ag
   simp only [Nat.zero_add] at ag
   simp only [CH,go_sem,fw,ag,eI]
 ·intro _ _
  have:dz [] x=none:=rfl
  simp only [CG,go_sem,decide_eq_false (show¬((l.length:Int)<l.length) by omega),this]
 ·intro i a _ aB ag _
  have cU:=decide_eq_true (show((i:Int)<(l.length:Int)) by omega)
  have aj:dz (a::l.drop (i+1)) x=if decide (a.name=x)=true then some 0 else(dz (l.drop (i+1)) x).map (·+1):=findIdx_cons _ a _
  have e:l.length-(a::l.drop (i+1)).length=i:=by simp;omega
  have cW:l.length-(l.drop (i+1)).length=i+1:=by simp;omega
  have ad:=ao9 n a x
  by_cases af:a.name=x
  ·right
   rw [decide_eq_true af] at ad aj
   rw [aj,if_pos rfl,e]
   simp only [CG,go_sem,cU,h7 aB,V.ed,ad,Nat.add_zero]
  ·left
   rw [decide_eq_false af] at ad aj
   rw [aj,if_neg (by simp),e,cW]
   refine ⟨(),?_,?_,trivial⟩
   ·simp only [CG,go_sem,cU,h7 aB,V.ed,ad,cj (bt:=false) (i:=i) (by omega)]
   ·cases dz (l.drop (i+1)) x with
    |none=>rfl
    |some j=>simp;omega
theorem apb(n:Nat)(d:a5)(x:ByteArray):CI n [d.d,.ref [aJ x] 0]=some (ar (decide (d.name=x))):=by
 show GW n d.d [aJ x]=_
 simp only [GW,go_sem,hi,a5.hz,a5.kr]
theorem apc(n:Nat)(l:List a5)(x:ByteArray)(aI:l.length<n)(ak:l.length<1000000000):v5 n [aE l,D.fn (.func pe) [] [.ref [aJ x] 0]]=some (J (eI (cP l x))):=by
 have bF:(J ((0:Nat):Int))=J 0:=rfl
 have ag:=dq (f:=CJ n) l (fun i (_:Unit)=>[aE l,.ref [aJ x] 0,J l.length,J (i:Int)]) (fun r _=>match cP r x with
  |some j=>(Sum.inr (J ((l.length-r.length+j:Nat):Int)):List D⊕D)
  |none=> .inl []) (fun _ _=>True) ?_ ?_ n 0 () trivial (by omega) (Nat.zero_le _)
 ·rw [bF,List.drop_zero,Nat.sub_self] at ag
  have bw:v5 n [aE l,D.fn (.func pe) [] [.ref [aJ x] 0]]=CK n (aE l) (.ref [aJ x] 0):=by
   simp only [v5,lX]
  rw [bw]
  cases bK:cP l x with
  |none=>
   rw [bK] at ag
   simp only [CK,go_sem,dy,ag,eI]
  |some j=>
   rw [bK] at ag
   simp only [Nat.zero_add] at ag
   simp only [CK,go_sem,dy,ag,eI]
 ·intro _ _
  have:cP [] x=none:=rfl
  simp only [CJ,go_sem,decide_eq_false (show¬((l.length:Int)<l.length) by omega),this]
 ·intro i a _ aB ag _
  have cU:=decide_eq_true (show((i:Int)<(l.length:Int)) by omega)
  have aj:cP (a::l.drop (i+1)) x=if decide (a.name=x)=true then some 0 else(cP (l.drop (i+1)) x).map (·+1):=findIdx_cons _ a _
  have e:l.length-(a::l.drop (i+1)).length=i:=by simp;omega
  have cW:l.length-(l.drop (i+1)).length=i+1:=by simp;omega
  have ad:=apb n a x
  by_cases af:a.name=x
  ·right
   rw [decide_eq_true af] at ad aj
   rw [aj,if_pos rfl,e]
   simp only [CJ,go_sem,cU,en aB,a5.fX,ad,Nat.add_zero]
  ·left
   rw [decide_eq_false af] at ad aj
   rw [aj,if_neg (by simp),e,cW]
   refine ⟨(),?_,?_,trivial⟩
   ·simp only [CJ,go_sem,cU,en aB,a5.fX,ad,cj (bt:=false) (i:=i) (by omega)]
   ·cases cP (l.drop (i+1)) x with
    |none=>rfl
    |some j=>simp;omega
theorem apd(n:Nat)(l:List a5)(x:ByteArray)(aI:l.length<n)(ak:l.length<1000000000):v7 n [aE l,D.fn (.func pe) [] [.ref [aJ x] 0]]=some (ar (cP l x).isSome):=by
 have bw:v7 n [aE l,D.fn (.func pe) [] [.ref [aJ x] 0]]=GX n (aE l) (.ref [aJ x] 0):=by
  simp only [v7,lX]
 rw [bw]
 simp only [GX,go_sem,apc n l x aI ak,xD]
theorem ape(n:Nat)(d:a5)(x:ByteArray):CL n [d.d,.ref [aJ x] 0]=some (ar (decide (d.name=x))):=by
 show GZ n d.d [aJ x]=_
 simp only [GZ,go_sem,hi,a5.hz,a5.kr]
theorem apf(n:Nat)(l:List a5)(x:ByteArray)(aI:l.length<n)(ak:l.length<1000000000):v9 n [aE l,D.fn (.func yJ) [] [.ref [aJ x] 0]]=some (J (eI (cP l x))):=by
 have bF:(J ((0:Nat):Int))=J 0:=rfl
 have ag:=dq (f:=CM n) l (fun i (_:Unit)=>[aE l,.ref [aJ x] 0,J l.length,J (i:Int)]) (fun r _=>match cP r x with
  |some j=>(Sum.inr (J ((l.length-r.length+j:Nat):Int)):List D⊕D)
  |none=> .inl []) (fun _ _=>True) ?_ ?_ n 0 () trivial (by omega) (Nat.zero_le _)
 ·rw [bF,List.drop_zero,Nat.sub_self] at ag
  have bw:v9 n [aE l,D.fn (.func yJ) [] [.ref [aJ x] 0]]=CN n (aE l) (.ref [aJ x] 0):=by
   simp only [v9,lX]
  rw [bw]
  cases bK:cP l x with
  |none=>
   rw [bK] at ag
   simp only [CN,go_sem,dy,ag,eI]
  |some j=>
   rw [bK] at ag
   simp only [Nat.zero_add] at ag
   simp only [CN,go_sem,dy,ag,eI]
 ·intro _ _
  have:cP [] x=none:=rfl
  simp only [CM,go_sem,decide_eq_false (show¬((l.length:Int)<l.length) by omega),this]
 ·intro i a _ aB ag _
  have cU:=decide_eq_true (show((i:Int)<(l.length:Int)) by omega)
  have aj:cP (a::l.drop (i+1)) x=if decide (a.name=x)=true then some 0 else(cP (l.drop (i+1)) x).map (·+1):=findIdx_cons _ a _
  have e:l.length-(a::l.drop (i+1)).length=i:=by simp;omega
  have cW:l.length-(l.drop (i+1)).length=i+1:=by simp;omega
  have ad:=ape n a x
  by_cases af:a.name=x
  ·right
   rw [decide_eq_true af] at ad aj
   rw [aj,if_pos rfl,e]
   simp only [CM,go_sem,cU,en aB,a5.fX,ad,Nat.add_zero]
  ·left
   rw [decide_eq_false af] at ad aj
   rw [aj,if_neg (by simp),e,cW]
   refine ⟨(),?_,?_,trivial⟩
   ·simp only [CM,go_sem,cU,en aB,a5.fX,ad,cj (bt:=false) (i:=i) (by omega)]
   ·cases cP (l.drop (i+1)) x with
    |none=>rfl
    |some j=>simp;omega
theorem apg(n:Nat)(d:cl)(x:ByteArray):B3 n [d.d,.ref [aJ x] 0]=some (ar (decide (d.name=x))):=by
 show GG n d.d [aJ x]=_
 simp only [GG,go_sem,hi,cl.nq,cl.kr]
theorem aph(n:Nat)(l:List cl)(x:ByteArray)(aI:l.length<n)(ak:l.length<1000000000):vI n [bo l,D.fn (.func pf) [] [.ref [aJ x] 0]]=some (J (eI (l5 l x))):=by
 have bF:(J ((0:Nat):Int))=J 0:=rfl
 have ag:=dq (f:=B4 n) l (fun i (_:Unit)=>[bo l,.ref [aJ x] 0,J l.length,J (i:Int)]) (fun r _=>match l5 r x with
  |some j=>(Sum.inr (J ((l.length-r.length+j:Nat):Int)):List D⊕D)
  |none=> .inl []) (fun _ _=>True) ?_ ?_ n 0 () trivial (by omega) (Nat.zero_le _)
 ·rw [bF,List.drop_zero,Nat.sub_self] at ag
  have bw:vI n [bo l,D.fn (.func pf) [] [.ref [aJ x] 0]]=B5 n (bo l) (.ref [aJ x] 0):=by
   simp only [vI,lX]
  rw [bw]
  cases bK:l5 l x with
  |none=>
   rw [bK] at ag
   simp only [B5,go_sem,g9,ag,eI]
  |some j=>
   rw [bK] at ag
   simp only [Nat.zero_add] at ag
   simp only [B5,go_sem,g9,ag,eI]
 ·intro _ _
  have:l5 [] x=none:=rfl
  simp only [B4,go_sem,decide_eq_false (show¬((l.length:Int)<l.length) by omega),this]
 ·intro i a _ aB ag _
  have cU:=decide_eq_true (show((i:Int)<(l.length:Int)) by omega)
  have aj:l5 (a::l.drop (i+1)) x=if decide (a.name=x)=true then some 0 else(l5 (l.drop (i+1)) x).map (·+1):=findIdx_cons _ a _
  have e:l.length-(a::l.drop (i+1)).length=i:=by simp;omega
  have cW:l.length-(l.drop (i+1)).length=i+1:=by simp;omega
  have ad:=apg n a x
  by_cases af:a.name=x
  ·right
   rw [decide_eq_true af] at ad aj
   rw [aj,if_pos rfl,e]
   simp only [B4,go_sem,cU,kB aB,cl.ji,ad,Nat.add_zero]
  ·left
   rw [decide_eq_false af] at ad aj
   rw [aj,if_neg (by simp),e,cW]
   refine ⟨(),?_,?_,trivial⟩
   ·simp only [B4,go_sem,cU,kB aB,cl.ji,ad,cj (bt:=false) (i:=i) (by omega)]
   ·cases l5 (l.drop (i+1)) x with
    |none=>rfl
    |some j=>simp;omega
theorem api(n:Nat)(l:List cl)(x:ByteArray)(aI:l.length<n)(ak:l.length<1000000000):vJ n [bo l,D.fn (.func pf) [] [.ref [aJ x] 0]]=some (ar (l5 l x).isSome):=by
 have bw:vJ n [bo l,D.fn (.func pf) [] [.ref [aJ x] 0]]=GH n (bo l) (.ref [aJ x] 0):=by
  simp only [vJ,lX]
 rw [bw]
 simp only [GH,go_sem,aph n l x aI ak,xD]
end Go.Am
namespace Go.Am
set_option linter.unusedVariables false
set_option linter.unusedSimpArgs false
structure q6(f:Tm→Tm):Prop where
 op:∀t,(f t).op=t.op
 num:∀t,(f t).num=t.num
 name:∀t,(f t).name=t.name
 kids:∀t,(f t).kids=t.kids.map f
theorem Ou:q6 iS:=⟨fun t=>by rw [Eb];rfl,fun t=>by rw [Eb];rfl,fun t=>by rw [Eb];rfl,fun t=>by rw [Eb];rfl⟩
theorem XF:q6 fq:=⟨fun t=>by rw [z2];rfl,fun t=>by rw [z2];rfl,fun t=>by rw [z2];rfl,fun t=>by rw [z2];rfl⟩
theorem XG(vs:List V)(nx:Bool)(f:Tm→Tm):∀(ks:List Tm),(∀k∈ks,de vs nx (f k)=de vs nx k)→dm vs nx (ks.map f)=dm vs nx ks
 |[],_=>rfl
 |k::r,h=>by rw [List.map_cons,dm,dm,h k (by simp),XG vs nx f r fun k ai=>h k (by simp [ai])]
theorem apj{f:Tm→Tm}(a4:q6 f)(t:Tm)(l:List Y):fA (f t) l=fA t l:=by
 unfold fA
 rw [a4.op,a4.kids,List.getElem?_map]
 cases ai:t.kids[1]? with
 |none=>rfl
 |some k=>simp only [Option.map_some,a4.op,a4.num]
theorem apk{f:Tm→Tm}(a4:q6 f)(vs:List V)(nx:Bool)(t:Tm):de vs nx (f t)=de vs nx t:=by
 refine Tm.ind (P:=fun t=>de vs nx (f t)=de vs nx t) ?_ t
 intro t ih
 have ay:iT vs nx (f t)=iT vs nx t:=by simp only [iT,a4.op,a4.num,a4.name]
 rw [l4,l4 vs nx t,a4.op,a4.kids,ay,XG vs nx f t.kids ih,apj a4]
theorem apl{f:Tm→Tm}(a4:q6 f)(t:Tm):gV (f t)=gV t:=by
 simp only [gV,a4.op,a4.num,a4.name,a4.kids,List.length_map]
theorem XH(f:Tm→Tm):∀(ks:List Tm),(∀k∈ks,∀d n,cL (f k) d n=cL k d n)→∀d n,er (ks.map f) d n=er ks d n
 |[],_,_,_=>rfl
 |k::r,h,d,n=>by rw [List.map_cons,er,er,h k (by simp),XH f r fun k ai=>h k (by simp [ai])]
theorem apm{f:Tm→Tm}(a4:q6 f)(t:Tm):∀d n,cL (f t) d n=cL t d n:=by
 refine Tm.ind (P:=fun t=>∀d n,cL (f t) d n=cL t d n) ?_ t
 intro t ih d n
 rw [sh,sh t,apl a4,a4.kids,XH f t.kids ih]
theorem Ov{f:Tm→Tm}(a4:q6 f)(vs:List V)(nx:Bool)(t:Tm):hW vs nx (f t)=hW vs nx t:=by
 unfold hW;rw [apm a4,apk a4]
structure Ae(l:List a5)(t:Tm)(p:Tm×Int):Prop where
 a:∀n,301000000<n→kv n [t.d,aE l]=some (.aQ [(if p.2=0 then iS p.1 else eF).d,J p.2])
 b:∀n,301000000<n→ky n [t.d,aE l]=some (.aQ [(if p.2=0 then fq p.1 else eF).d,J p.2])
 x:p.2=0→p.1.b1∧p.1.bc≤12300∧(cL p.1 1 0).1=0∧(iS p.1).b1∧(fq p.1).b1∧∃h,iy l h t p.1
theorem XI{l:List a5}(an:gQ 12300 l)(Af:l.length≤100)(t:Tm)(ba:t.b1)(aG:t.bc≤12300):∃p,Ae l t p:=by
 by_cases aq:(cL t 1 0).1=0
 case neg=>exact ⟨(eF,(cL t 1 0).1),fun n aI=>by rw [if_neg aq];exact (NO an n t ba aG (by omega)).1 aq,fun n aI=>by rw [if_neg aq];exact (NQ an n t ba aG (by omega)).1 aq,fun h=>absurd h aq⟩
 cases av:pQ l t with
 |false=>exact ⟨(eF,14),fun n aI=>(NO an n t ba aG (by omega)).2.1 aq av,fun n aI=>(NQ an n t ba aG (by omega)).2.1 aq av,fun h=>by cases h⟩
 |true=>
  obtain ⟨X,iR⟩:=amU an aG ((am6 l t).1 av)
  have eO:(l.length+1)*(12300+1)+12300≤1300000:=by omega
  generalize (l.length+1)*(12300+1)+12300=bw at*
  have A:∀n,301000000<n→_:=fun n aI=>(NO an n t ba aG (by omega)).2.2 _ X aq av iR (by omega)
  have B:∀n,301000000<n→_:=fun n aI=>(NQ an n t ba aG (by omega)).2.2 _ X aq av iR (by omega)
  obtain ⟨bb,bl⟩:=NF X 1 0 (by omega)
  rw [bb] at A
  by_cases ay:(cL X 1 0).1=0
  case neg=>
   simp only [ay,if_false] at A B
   exact ⟨(eF,(cL X 1 0).1),fun n aI=>by rw [if_neg ay];exact A n aI,fun n aI=>by rw [if_neg ay];exact B n aI,fun h=>absurd h ay⟩
  simp only [ay,if_true] at A B
  have a4:=Wn X 1 0 (by omega) ay
  have XJ:=iR.ok an ba aG
  have fC:=ane X 1 0 ay
  have aug:=(zJ X 1 0).2 ay
  have XK:=(Wi an iR ba aG).1
  rw [a4] at A XK
  exact ⟨(X,0),A,B,fun _=>⟨XJ.1,by simp only;omega,ay,XK,anP X XJ.1,bw,iR⟩⟩
open Classical in
noncomputable def c9(l:List a5)(t:Tm):Tm×Int:=if h:∃p,Ae l t p then Classical.choose h else(eF,0)
theorem XL{l:List a5}{t:Tm}(h:∃p,Ae l t p):Ae l t (c9 l t):=by
 unfold c9
 rw [dif_pos h]
 exact Classical.choose_spec h
noncomputable def fJ(m:al)(nx:Bool)(t:Tm):Y×Int:=if(c9 m.defs t).2≠0 then(et,(c9 m.defs t).2) else hW m.vars nx (c9 m.defs t).1
noncomputable def m3(m:al)(nx:Bool)(t:Tm):Int:=if((fJ m nx t).2==0&&!(fJ m nx t).1.b)=true then 13 else(fJ m nx t).2
structure Ag(m:al):Prop where
 d:gQ 12300 m.defs
 dl:m.defs.length≤100
 hX:m.vars.length≤100
theorem Ag.Ow{m:al}(h:Ag m){t:Tm}(ba:t.b1)(aG:t.bc≤12300):Ae m.defs t (c9 m.defs t):=XL (XI h.d h.dl t ba aG)
theorem XM:D.agg [ar false,J 0,J 0]=et.d:=rfl
theorem q7(y:Y):aa y.d 0=ar y.b:=rfl
theorem XN(y:Y):aa y.d 1=J y.lo:=rfl
theorem XO(y:Y):aa y.d 2=J y.ag:=rfl
theorem nQ(y:Y):aK 3 y.d=true:=rfl
theorem XP(y:Y):D.agg [ar y.b,J y.lo,J y.ag]=y.d:=rfl
section
variable{m:al}(hm:Ag m)(n:Nat)(aI:301000000<n)
include hm aI
theorem Ox{t:Tm}(ba:t.b1)(aG:t.bc≤12300)(nx:Bool):qJ n [m.d,t.d,ar nx]=some (.aQ [(fJ m nx t).1.d,J (fJ m nx t).2]):=by
 have mC:=hm.Ow ba aG
 have iz:=hm.hX
 unfold fJ
 generalize c9 m.defs t=p at*
 have dN:=mC.a n aI
 by_cases aq:p.2=0
 ·obtain ⟨x1,h6,tH,XQ,XR,_⟩:=mC.x aq
  have bM:(p.2 !=0)=false:=by simp [aq]
  rw [if_pos aq] at dN
  have a2:=WH n m.vars (iS p.1) nx (by rw [NS];omega) XQ (by omega)
  rw [Ov Ou] at a2
  rw [if_neg (by simpa using aq)]
  simp only [qJ,L5,go_sem,al.agg,al.aL,al.bb,dN,bM,a2,nQ,q7,XN,XO,XP]
 ·have bM:(p.2 !=0)=true:=by simpa using aq
  rw [if_neg aq] at dN
  rw [if_pos aq]
  simp only [qJ,L5,go_sem,al.agg,al.aL,al.bb,dN,bM,XM]
theorem Oy{t:Tm}(ba:t.b1)(aG:t.bc≤12300)(nx:Bool):qS n [m.d,t.d,ar nx]=some (.aQ [(fJ m nx t).1.d,J (fJ m nx t).2]):=by
 have mC:=hm.Ow ba aG
 have iz:=hm.hX
 unfold fJ
 generalize c9 m.defs t=p at*
 have dN:=mC.b n aI
 by_cases aq:p.2=0
 ·obtain ⟨x1,h6,tH,XQ,XR,_⟩:=mC.x aq
  have bM:(p.2 !=0)=false:=by simp [aq]
  rw [if_pos aq] at dN
  have a2:=WI n m.vars (fq p.1) nx (by rw [Ij];omega) XR (by omega)
  rw [Ov XF] at a2
  rw [if_neg (by simpa using aq)]
  simp only [qS,MV,go_sem,al.agg,al.aL,al.bb,dN,bM,a2,nQ,q7,XN,XO,XP]
 ·have bM:(p.2 !=0)=true:=by simpa using aq
  rw [if_neg aq] at dN
  rw [if_pos aq]
  simp only [qS,MV,go_sem,al.agg,al.aL,al.bb,dN,bM,XM]
theorem XS{t:Tm}(ba:t.b1)(aG:t.bc≤12300)(nx:Bool):tB n [m.d,t.d,ar nx]=some (J (m3 m nx t)):=by
 have a2:=Ox hm n aI ba aG nx
 unfold m3
 by_cases h:((fJ m nx t).2==0&&!(fJ m nx t).1.b)=true
 ·rw [if_pos h]
  simp only [tB,L6,go_sem,al.agg,al.aL,al.bb,al.bl,al.bs,al.cf,al.cB,al.cC,al.cK,al.eta,a2,nQ,q7,h]
 ·have bj:((fJ m nx t).2==0&&!(fJ m nx t).1.b)=false:=by simpa using h
  rw [if_neg h]
  simp only [tB,L6,go_sem,al.agg,al.aL,al.bb,al.bl,al.bs,al.cf,al.cB,al.cC,al.cK,al.eta,a2,nQ,q7,bj]
theorem XT{t:Tm}(ba:t.b1)(aG:t.bc≤12300)(nx:Bool):tP n [m.d,t.d,ar nx]=some (J (m3 m nx t)):=by
 have a2:=Oy hm n aI ba aG nx
 unfold m3
 by_cases h:((fJ m nx t).2==0&&!(fJ m nx t).1.b)=true
 ·rw [if_pos h]
  simp only [tP,MW,go_sem,al.agg,al.aL,al.bb,al.bl,al.bs,al.cf,al.cB,al.cC,al.cK,al.eta,a2,nQ,q7,h]
 ·have bj:((fJ m nx t).2==0&&!(fJ m nx t).1.b)=false:=by simpa using h
  rw [if_neg h]
  simp only [tP,MW,go_sem,al.agg,al.aL,al.bb,al.bl,al.bs,al.cf,al.cB,al.cC,al.cK,al.eta,a2,nQ,q7,bj]
end
end Go.Am
namespace Go.Am
set_option linter.unusedVariables false
set_option linter.unusedSimpArgs false
def sr(N:Nat)(S:List Nat):List (List D):=(List.range N).map fun j=>[ar (decide (j∈S))]
def iA(N:Nat)(S:List Nat):D:= .aC 1 (sr N S)
theorem Ev(N:Nat)(S:List Nat):(sr N S).length=N:=by simp [sr]
theorem Ew{N:Nat}{S:List Nat}{k:Nat}(h:k<N):(sr N S)[k]?=some [ar (decide (k∈S))]:=by simp [sr,h]
theorem XU(N:Nat):List.replicate N [ar false]=sr N []:=by
 apply List.ext_getElem?
 intro j
 by_cases h:j<N
 ·rw [Ew h];simp [h]
 ·rw [List.getElem?_eq_none (by simp;omega),List.getElem?_eq_none (by rw [Ev];omega)]
theorem apn{N:Nat}{S:List Nat}{k:Nat}(h:k<N):(sr N S).set k [ar true]=sr N (S++[k]):=by
 apply List.ext_getElem?
 intro j
 by_cases aH:j<N
 ·rw [Ew aH,List.getElem?_set]
  by_cases e:k=j
  ·subst e;simp [Ev,h]
  ·rw [if_neg e,Ew aH]
   have:(j∈S++[k])↔j∈S:=by simp;omega
   simp only [this]
 ·rw [List.getElem?_eq_none (by simp [Ev];omega),List.getElem?_eq_none (by rw [Ev];omega)]
def gX(S:List Nat)(ks:List Nat):List Nat:=ks.foldl (fun S k=>if k∈S then S else S++[k]) S
theorem Ex(S:List Nat)(k:Nat)(r:List Nat):gX S (k::r)=gX (if k∈S then S else S++[k]) r:=rfl
structure apo(N:Nat)(S ks dV:List Nat):Prop where
 inv:hn N dV
 pre:∃T,dV=S++T
 mem:∀k∈ks,k∈dV
 of:∀x∈dV,x∈S∨x∈ks
theorem IC{N:Nat}:∀(ks S:List Nat),hn N S→(∀k∈ks,k<N)→apo N S ks (gX S ks)
 |[],S,h,_=>⟨h,⟨[],by simp [gX]⟩,by simp,fun x af=> .inl af⟩
 |k::r,S,h,ai=>by
  rw [Ex]
  by_cases dI:k∈S
  ·rw [if_pos dI]
   have g:=IC r S h fun x af=>ai x (by simp [af])
   obtain ⟨T,a2⟩:=g.pre
   refine ⟨g.inv,g.pre,fun x af=>?_,fun x af=>(g.of x af).elim .inl fun h=> .inr (by simp [h])⟩
   rcases List.mem_cons.1 af with rfl|af
   ·rw [a2];simp [dI]
   ·exact g.mem x af
  ·rw [if_neg dI]
   have g:=IC r (S++[k]) (h.snoc (ai k (by simp)) dI) fun x af=>ai x (by simp [af])
   obtain ⟨T,a2⟩:=g.pre
   refine ⟨g.inv,⟨[k]++T,by rw [a2];simp⟩,fun x af=>?_,fun x af=>?_⟩
   ·rcases List.mem_cons.1 af with rfl|af
    ·rw [a2];simp
    ·exact g.mem x af
   ·rcases g.of x af with h|h
    ·rcases List.mem_append.1 h with h|h
     ·exact .inl h
     ·simp at h;subst h;exact .inr (by simp)
    ·exact .inr (by simp [h])
def ss(to:Nat→List Nat)(i:Nat):Nat→Nat→List Nat→List Nat
 |0,_,S=>S
 |m+1,k,S=>match(i::S)[k]? with
  |some x=>ss to i m (k+1) (gX S (to x))
  |none=>S
structure oD(to:Nat→List Nat)(N i k:Nat)(S:List Nat):Prop where
 inv:hn N S
 le:k≤S.length+1
 si:∀j x,j<k→(i::S)[j]?=some x→∀y∈to x,y∈S
 pO:∀x∈S,∃j∈to i,ix to j x
theorem ix.snoc{to:Nat→List Nat}{i j k:Nat}(h:ix to i j)(bj:k∈to j):ix to i k:=h.trans (.step j k k bj (.refl k))
theorem oD.next{to:Nat→List Nat}{N i k:Nat}{S:List Nat}(h:oD to N i k S)(je:∀i,∀k∈to i,k<N){x:Nat}(af:(i::S)[k]?=some x):oD to N i (k+1) (gX S (to x)):=by
 have g:=IC (to x) S h.inv (je x)
 obtain ⟨T,a2⟩:=g.pre
 have ai:k<S.length+1:=by
  have:=(List.getElem?_eq_some_iff.1 af).1
  simpa using this
 have apq:∀j y,j≤k→(i::gX S (to x))[j]?=some y→(i::S)[j]?=some y:=by
  intro j y aH aN
  rw [a2,←List.cons_append,List.getElem?_append_left (by simp;omega)] at aN
  exact aN
 refine ⟨g.inv,by rw [a2];simp;omega,?_,?_⟩
 ·intro j y aH aN z bM
  have rm:=apq j y (by omega) aN
  by_cases e:j=k
  ·subst e
   rw [af] at rm
   cases rm
   exact g.mem z bM
  ·have:=h.si j y (by omega) rm z bM
   rw [a2];simp [this]
 ·intro y aN
  rcases g.of y aN with ad|ad
  ·exact h.pO y ad
  ·cases k with
   |zero=>
    simp at af;subst af
    exact ⟨y,ad,.refl y⟩
   |succ k=>
    have Nw:x∈S:=List.mem_of_getElem? (by simpa using af)
    obtain ⟨j,aH,av⟩:=h.pO x Nw
    exact ⟨j,aH,av.snoc ad⟩
theorem Oz{to:Nat→List Nat}{N i:Nat}(je:∀i,∀k∈to i,k<N):∀(m k:Nat) (S:List Nat),oD to N i k S→N+1-k<m→(i∈ss to i m k S↔∃j∈to i,ix to j i)
 |0,_,_,_,h=>absurd h (Nat.not_lt_zero _)
 |m+1,k,S,h,hm=>by
  rw [ss]
  have hlen:=h.inv.len
  cases af:(i::S)[k]? with
  |some x=>
   have ai:k<S.length+1:=by
    have:=(List.getElem?_eq_some_iff.1 af).1
    simpa using this
   exact Oz je m (k+1) _ (h.next je af) (by omega)
  |none=>
   have ai:S.length+1≤k:=by
    have:=List.getElem?_eq_none_iff.1 af
    simpa using this
   refine ⟨fun ag=>h.pO i ag,?_⟩
   have hf:∀a b,ix to a b→a∈S→b∈S:=by
    intro a b j9
    induction j9 with
    |refl=>exact fun h=>h
    |step p q r Ax _ ih=>
     intro aX
     obtain ⟨j,aH⟩:=List.mem_iff_getElem?.1 aX
     have cU:=(List.getElem?_eq_some_iff.1 aH).1
     exact ih (h.si (j+1) p (by omega) (by simpa using aH) q Ax)
   rintro ⟨j,aH,av⟩
   exact hf j i av (h.si 0 i (by omega) (by simp) j aH)
theorem oD.start(to:Nat→List Nat)(N i:Nat):oD to N i 0 []:=⟨⟨by simp,by simp⟩,by simp,by intro j x h;omega,by simp⟩
theorem pX(x:List Nat):D.aC 1 (esD (cI x))=cI x:=rfl
theorem Ey(x:List Nat):(esD (cI x)).length=x.length:=by simp [cI]
theorem XV(x:List Nat)(k:Nat):D.aC 1 (esD (cI x)++[[J (k:Int)]])=cI (x++[k]):=by simp [cI]
theorem XW{x:List Nat}{j k:Nat}(h:x[j]?=some k):(esD (cI x))[j]?=some [J (k:Int)]:=by simp [cI,h]
theorem m4(N:Nat)(x:List Nat):D.aC 1 (esD (iA N x))=iA N x:=rfl
theorem Ez(N:Nat)(x:List Nat):(esD (iA N x)).length=N:=Ev N x
theorem EA{N:Nat}{S:List Nat}{k:Nat}(h:k<N):(esD (iA N S))[k]?=some [ar (decide (k∈S))]:=Ew h
theorem XX{N:Nat}{S:List Nat}{k:Nat}(h:k<N){w:Bool}:D.aC 1 ((esD (iA N S)).set k (k9 [ar w] 0 [ar true]))=iA N (S++[k]):=by
 show D.aC 1 ((sr N S).set k [ar true])=_
 rw [apn h];rfl
theorem xE(b:Bool):aW false 1 0 [ar b]=some (ar b):=rfl
theorem Ah(i:Int):aW false 1 0 [J i]=some (J i):=rfl
theorem Ai(s:ByteArray):aW false 1 0 [aJ s]=some (aJ s):=rfl
theorem ID{p:Option D}:gD (ar true) true p=p:=rfl
theorem XY{p:Option D}:gD (ar false) true p=some jc:=rfl
theorem IE{a b:D}:pickP (ar true) a b=some a:=rfl
theorem XZ{a b:D}:pickP (ar false) a b=some b:=rfl
theorem X0{l:List a5}{x:ByteArray}{k:Nat}(h:cP l x=some k):k<l.length:=by
 obtain ⟨_,_,_,h⟩:=Lz h
 exact h
theorem apr(n:Nat)(l:List a5){B:Nat}(an:gQ B l)(i k:Nat)(jr:List ByteArray)(S:List Nat)(cz:hn l.length S)(ai:k≤S.length+1)(gf:jr.length≤B)(aI:2*B+100<n):
  bm (wa n) n [aE l,J (i:Int),c0 jr,J jr.length,J 0,iA l.length S,cI ((i::S).drop k)]=some (.inl [aE l,J (i:Int),iA l.length (gX S (jr.filterMap (cP l))),cI ((i::gX S (jr.filterMap (cP l))).drop k)]):=by
 have hlen:=an.len
 have ak:=an.b
 have ag:=dq (f:=wa n) jr (fun j (s:List Nat)=>[aE l,J (i:Int),c0 jr,J jr.length,J (j:Int),iA l.length s,cI ((i::s).drop k)])
  (fun r s=>(.inl [aE l,J (i:Int),iA l.length (gX s (r.filterMap (cP l))),cI ((i::gX s (r.filterMap (cP l))).drop k)]:List D⊕(List D⊕(List D⊕(List D⊕D)))))
  (fun j s=>hn l.length s∧k≤s.length+1)
  (fun s _=>by simp only [wa,go_sem,decide_eq_false (show¬((jr.length:Int)<jr.length) by omega),m4,pX];rfl) ?_ n 0 S ⟨cz,ai⟩ (by omega) (Nat.zero_le _)
 ·exact ag
 ·rintro j x s af aH ⟨ad,ae⟩
  have eE:=apf n l x (by omega) (by omega)
  have zP:=ad.len
  have cU:=decide_eq_true (show((j:Int)<(jr.length:Int)) by omega)
  left
  cases ax:cP l x with
  |none=>
   rw [ax] at eE
   refine ⟨s,?_,by simp [ax],ad,ae⟩
   have gK:decide (eI none≥0)=false:=rfl
   simp only [wa,go_sem,cU,D2 af,Ai,eE,gK,XY,XZ,m4,pX,cj (bt:=false) (i:=j) (by omega)]
  |some y=>
   have aN:=X0 ax
   rw [ax] at eE
   have gK:decide ((y:Int)≥0)=true:=decide_eq_true (by omega)
   have ea:cG l.length (J (y:Int))=some y:=by rw [lv,if_pos aN]
   have EB:eI (some y)=(y:Int):=rfl
   by_cases lT:y∈s
   ·refine ⟨s,?_,by simp [ax,Ex,lT],ad,ae⟩
    simp only [wa,go_sem,cU,D2 af,Ai,eE,EB,gK,Ez,ea,EA aN,xE,decide_eq_true lT,ID,IE,m4,pX,cj (bt:=false) (i:=j) (by omega)]
   ·have ay:=ad.snoc aN lT
    refine ⟨s++[y],?_,by simp only [List.filterMap_cons,ax,Ex,if_neg lT],ay,by simp;omega⟩
    have aS:(i::(s++[y])).drop k=(i::s).drop k++[y]:=by rw [←List.cons_append,List.drop_append_of_le_length (by simpa using ae)]
    have dS:cY (((i::s).drop k).length+1) 8=true:=gB (by simp;omega) (by simp;omega)
    rw [aS]
    simp only [wa,go_sem,cU,D2 af,Ai,eE,EB,gK,Ez,ea,EA aN,xE,decide_eq_false lT,ID,IE,Ey,List.length_cons,List.length_nil,Nat.zero_add,dS,XX aN,XV,m4,pX,cj (bt:=false) (i:=j) (by omega)]
theorem X1(n:Nat)(l:List a5){B:Nat}(an:gQ B l)(i:Nat)(bQ:i<l.length)(aI:4*B+200<n):∀(m k:Nat) (S:List Nat),oD (to l) l.length i k S→l.length+1-k<m→
  bm (G0 n) m [aE l,J (i:Int),iA l.length S,cI ((i::S).drop k)]=some (.inl [J (i:Int),iA l.length (ss (to l) i m k S)])
 |0,_,_,_,h=>absurd h (Nat.not_lt_zero _)
 |m+1,k,S,h,hm=>by
  have hlen:=an.len
  have ak:=an.b
  rw [iterL_s,ss]
  have aps:=h.inv.len
  have hle:=h.le
  cases af:(i::S)[k]? with
  |none=>
   have ai:S.length+1≤k:=by
    have:=List.getElem?_eq_none_iff.1 af
    simpa using this
   have bF:(i::S).drop k=[]:=List.drop_eq_nil_of_le (by simpa using ai)
   rw [bF]
   have aS:(esD (cI [])).length=0:=rfl
   have aV:decide (((0:Nat):Int)>0)=false:=rfl
   simp only [G0,go_sem,aS,aV,m4]
  |some x=>
   have ai:k<S.length+1:=by
    have:=(List.getElem?_eq_some_iff.1 af).1
    simpa using this
   have qd:x<l.length:=by
    cases k with
    |zero=>simp at af;omega
    |succ k=>exact h.inv.2 x (List.mem_of_getElem? (by simpa using af))
   obtain ⟨d,ax⟩:∃d,l[x]?=some d:=⟨l[x],List.getElem?_eq_getElem qd⟩
   have gx:=an.e d (List.mem_of_getElem? ax)
   have kg:=h.next (fun i k ai=>jJ i k ai) af
   have ih:=X1 n l an i bQ aI m (k+1) _ kg (by omega)
   have bV:=HZ n d.e (by omega) gx.1 (by omega)
   have apt:=zL d.e
   have fj:=apr n l an i k (eY 3 d.e []) S h.inv hle (by omega) (by omega)
   have je:(eY 3 d.e []).filterMap (cP l)=to l x:=by rw [zM ax];rfl
   rw [je] at fj
   obtain ⟨T,a2⟩:=(IC (N:=l.length) (to l x) S h.inv (jJ x)).pre
   have JR:((i::gX S (to l x)).drop k).length=(gX S (to l x)).length+1-k:=by simp
   have K9:=kg.le
   have X2:((i::S).drop k).length=S.length+1-k:=by simp
   have sM:decide (((((i::S).drop k).length:Nat):Int)>0)=true:=decide_eq_true (by rw [X2];omega)
   have apu:((i::S).drop k)[0]?=some x:=by rw [List.getElem?_drop];exact af
   have ea:cG ((i::S).drop k).length (J 0)=some 0:=by
    have:(J 0)=J ((0:Nat):Int):=rfl
    rw [this,lv,if_pos (by rw [X2];omega)]
   have apv:ni ((i::gX S (to l x)).drop k).length (some (J 1)) none=some (1,((i::gX S (to l x)).drop k).length-1):=by
    have ad:1≤((i::gX S (to l x)).drop k).length:=by rw [JR];omega
    generalize ((i::gX S (to l x)).drop k).length=q at*
    have:(J 1)=J ((1:Nat):Int):=rfl
    rw [this]
    simp [ni,oW,J,ad]
   have apw:decide (1+(((i::gX S (to l x)).drop k).length-1)≤((i::gX S (to l x)).drop k).length)=true:=decide_eq_true (by rw [JR];omega)
   have apx:D.aC 1 (((esD (cI ((i::gX S (to l x)).drop k))).drop 1).take (((i::gX S (to l x)).drop k).length-1))=cI ((i::gX S (to l x)).drop (k+1)):=by
    have bz:((((i::gX S (to l x)).drop k).drop 1).take (((i::gX S (to l x)).drop k).length-1))=(i::gX S (to l x)).drop (k+1):=by
     rw [List.drop_drop,List.take_of_length_le]
     simp;omega
    show D.aC 1 (((((i::gX S (to l x)).drop k).map fun(i:Nat)=>[J (i:Int)]).drop 1).take _)=cI _
    rw [←bz]
    unfold cI
    simp only [List.map_take,List.map_drop]
   simp only [G0,go_sem,Ey,sM,ea,XW apu,Ah,en ax,a5.gp,bV,D3,m4,pX,fj,apv,apw,apx,ih]
theorem apy(n:Nat)(m:al){l:List a5}{B:Nat}(an:gQ B l)(i:Nat)(ag:i<l.length)(aI:4*B+200<n):y6 n [aE l,m.d,J (i:Int)]=some (J (if hO l i=true then 14 else 0)):=by
 have hlen:=an.len
 have ak:=an.b
 have ay:=X1 n l an i ag aI n 0 [] (oD.start _ _ _) (by omega)
 have Aj:=Oz (fun i k ai=>jJ i k ai) n 0 [] (oD.start (to l) l.length i) (by omega)
 rw [←Ny l i] at Aj
 generalize ss (to l) i n 0 []=S at*
 have D9:makeP 1 (J (l.length:Int)) (J (l.length:Int))=some l.length:=by simp [makeP,J];omega
 have aS:D.aC 1 (List.replicate l.length [ar false])=iA l.length []:=by rw [XU];rfl
 have aV:D.aC 1 [[J (i:Int)]]=cI ((i::[]).drop 0):=rfl
 have ea:cG l.length (J (i:Int))=some i:=by rw [lv,if_pos ag]
 simp only [y6,Tp,go_sem,al.agg,dy,D9,aS,aV,ay,Ez,ea,EA ag,xE]
 by_cases h:hO l i=true
 ·rw [if_pos h,if_pos (decide_eq_true (Aj.2 h))]
 ·rw [if_neg h,if_neg (by simpa using fun bw=>h (Aj.1 bw))]
theorem X3(n:Nat)(m:al)(x:ByteArray)(aI:m.defs.length<n)(an:m.defs.length<1000000000):wT n [m.d,aJ x]=some (J (eI (cP m.defs x))):=by
 have ag:=dq (f:=Dr n) m.defs (fun i (_:Unit)=>[aJ x,J (i:Int),a6 m.vars,aE m.defs,au m.init,au m.bh,aE m.next,au m.trans,au m.fair,bo m.specs]) (fun r _=>match cP r x with
  |some j=>(Sum.inr (J ((m.defs.length-r.length+j:Nat):Int)):List D⊕D)
  |none=> .inl []) (fun _ _=>True)
  (fun _ _=>by simp [Dr,dy,cP]) ?_ n 0 () trivial (by omega) (Nat.zero_le _)
 ·have bF:(J ((0:Nat):Int))=J 0:=rfl
  rw [bF] at ag
  simp only [wT,T2,go_sem,al.agg,al.aL,al.bb,al.bl,al.bs,al.cf,al.cB,al.cC,al.cK,ag,List.drop_zero]
  cases cP m.defs x<;>simp [eI]
 ·intro i a _ aB ag _
  have e:m.defs.length-(a::m.defs.drop (i+1)).length=i:=by simp;omega
  have cW:m.defs.length-(m.defs.drop (i+1)).length=i+1:=by simp;omega
  have lK:cP (a::m.defs.drop (i+1)) x=if a.name=x then some 0 else(cP (m.defs.drop (i+1)) x).map (·+1):=by simp [cP,List.findIdx?_cons]
  have ab:a.cells[0]?=some (aJ a.name):=rfl
  by_cases af:a.name=x
  ·right
   rw [lK,if_pos af,e]
   simp [Dr,dy,ag,en aB,ab,af]
  ·left
   refine ⟨(),by simp [Dr,dy,ag,en aB,ab,af,cj (bt:=false) (i:=i) (by omega)],?_,trivial⟩
   rw [lK,if_neg af,e,cW]
   cases cP (m.defs.drop (i+1)) x with
   |none=>rfl
   |some j=>simp;omega
theorem X4(n:Nat)(m:al)(x:ByteArray)(aI:m.vars.length<n)(an:m.vars.length<1000000000):wS n [m.d,aJ x]=some (J (eI (dz m.vars x))):=by
 have ag:=dq (f:=Dq n) m.vars (fun i (_:Unit)=>[aJ x,J (i:Int),a6 m.vars,aE m.defs,au m.init,au m.bh,aE m.next,au m.trans,au m.fair,bo m.specs]) (fun r _=>match dz r x with
  |some j=>(Sum.inr (J ((m.vars.length-r.length+j:Nat):Int)):List D⊕D)
  |none=> .inl []) (fun _ _=>True)
  (fun _ _=>by simp [Dq,fw,dz]) ?_ n 0 () trivial (by omega) (Nat.zero_le _)
 ·have bF:(J ((0:Nat):Int))=J 0:=rfl
  rw [bF] at ag
  simp only [wS,T1,go_sem,al.agg,al.aL,al.bb,al.bl,al.bs,al.cf,al.cB,al.cC,al.cK,ag,List.drop_zero]
  cases dz m.vars x<;>simp [eI]
 ·intro i a _ aB ag _
  have e:m.vars.length-(a::m.vars.drop (i+1)).length=i:=by simp;omega
  have cW:m.vars.length-(m.vars.drop (i+1)).length=i+1:=by simp;omega
  have lK:dz (a::m.vars.drop (i+1)) x=if a.name=x then some 0 else(dz (m.vars.drop (i+1)) x).map (·+1):=by simp [dz,List.findIdx?_cons]
  have ab:a.cells[0]?=some (aJ a.name):=rfl
  by_cases af:a.name=x
  ·right
   rw [lK,if_pos af,e]
   simp [Dq,fw,ag,h7 aB,ab,af]
  ·left
   refine ⟨(),by simp [Dq,fw,ag,h7 aB,ab,af,cj (bt:=false) (i:=i) (by omega)],?_,trivial⟩
   rw [lK,if_neg af,e,cW]
   cases dz (m.vars.drop (i+1)) x with
   |none=>rfl
   |some j=>simp;omega
theorem apz(n:Nat)(m:al){B:Nat}(an:gQ B m.defs)(i:Nat)(k:Int)(jr:List ByteArray)(S:List Nat)(cz:hn m.defs.length S)(gf:jr.length≤B)(aI:2*B+100<n):
  bm (wW n) n [J k,iw true jr,J 0,a6 m.vars,aE m.defs,au m.init,au m.bh,aE m.next,au m.trans,au m.fair,bo m.specs,iA m.defs.length S,cI (i::S)]=some (.inl [J k,a6 m.vars,aE m.defs,au m.init,au m.bh,aE m.next,au m.trans,au m.fair,bo m.specs,iA m.defs.length (gX S (jr.filterMap (cP m.defs))),cI (i::gX S (jr.filterMap (cP m.defs)))]):=by
 have hlen:=an.len
 have ak:=an.b
 have ag:=dq (f:=wW n) jr (fun j (s:List Nat)=>[J k,iw true jr,J (j:Int),a6 m.vars,aE m.defs,au m.init,au m.bh,aE m.next,au m.trans,au m.fair,bo m.specs,iA m.defs.length s,cI (i::s)])
  (fun r s=>(.inl [J k,a6 m.vars,aE m.defs,au m.init,au m.bh,aE m.next,au m.trans,au m.fair,bo m.specs,iA m.defs.length (gX s (r.filterMap (cP m.defs))),cI (i::gX s (r.filterMap (cP m.defs)))]:List D⊕(List D⊕(List D⊕(List D⊕D)))))
  (fun j s=>hn m.defs.length s)
  (fun s _=>by simp only [wW,go_sem,l1,decide_eq_false (show¬((jr.length:Int)<jr.length) by omega),m4,pX];rfl) ?_ n 0 S cz (by omega) (Nat.zero_le _)
 ·exact ag
 ·rintro j x s af aH ad
  have eE:=X3 n m x (by omega) (by omega)
  have zP:=ad.len
  have eL:=xq (nl:=true) af
  have cU:=decide_eq_true (show((j:Int)<(jr.length:Int)) by omega)
  left
  cases ax:cP m.defs x with
  |none=>
   rw [ax] at eE
   refine ⟨s,?_,by simp [ax],ad⟩
   have gK:decide (eI none≥0)=false:=rfl
   simp only [wW,go_sem,l1,cU,eL,Ai,al.eta,eE,gK,XY,XZ,m4,pX,cj (bt:=false) (i:=j) (by omega)]
  |some y=>
   have aN:=X0 ax
   rw [ax] at eE
   have gK:decide ((y:Int)≥0)=true:=decide_eq_true (by omega)
   have ea:cG m.defs.length (J (y:Int))=some y:=by rw [lv,if_pos aN]
   have EB:eI (some y)=(y:Int):=rfl
   by_cases lT:y∈s
   ·refine ⟨s,?_,by simp [ax,Ex,lT],ad⟩
    simp only [wW,go_sem,l1,cU,eL,Ai,al.eta,eE,EB,gK,Ez,ea,EA aN,xE,decide_eq_true lT,ID,IE,m4,pX,cj (bt:=false) (i:=j) (by omega)]
   ·have ay:=ad.snoc aN lT
    refine ⟨s++[y],?_,by simp only [List.filterMap_cons,ax,Ex,if_neg lT],ay⟩
    have aS:i::(s++[y])=(i::s)++[y]:=rfl
    have dS:cY ((i::s).length+1) 8=true:=gB (by simp;omega) (by simp;omega)
    rw [aS]
    simp only [wW,go_sem,l1,cU,eL,Ai,al.eta,eE,EB,gK,Ez,ea,EA aN,xE,decide_eq_false lT,ID,IE,Ey,List.length_cons,List.length_nil,Nat.zero_add,XX aN,XV,m4,pX,cj (bt:=false) (i:=j) (by omega)] at dS⊢
    simp only [dS,mN,c8,nu,mO,n9,cj (bt:=false) (i:=j) (by omega),m4,pX]
theorem X5(n:Nat)(iB:al){B:Nat}(an:gQ B iB.defs)(i:Nat)(bQ:i<iB.defs.length)(aI:4*B+200<n):∀(m k:Nat) (S:List Nat),oD (to iB.defs) iB.defs.length i k S→iB.defs.length+1-k<m→
  bm (Hu n) m [J (k:Int),a6 iB.vars,aE iB.defs,au iB.init,au iB.bh,aE iB.next,au iB.trans,au iB.fair,bo iB.specs,iA iB.defs.length S,cI (i::S)]=some (.inl [iA iB.defs.length (ss (to iB.defs) i m k S)])
 |0,_,_,_,h=>absurd h (Nat.not_lt_zero _)
 |m+1,k,S,h,hm=>by
  have hlen:=an.len
  have ak:=an.b
  rw [iterL_s,ss]
  have aps:=h.inv.len
  have hle:=h.le
  cases af:(i::S)[k]? with
  |none=>
   have ai:S.length+1≤k:=by
    have:=List.getElem?_eq_none_iff.1 af
    simpa using this
   have aV:decide ((k:Int)<(((i::S).length:Nat):Int))=false:=decide_eq_false (by simp;omega)
   simp only [Hu,go_sem,Ey,aV,m4]
  |some x=>
   have ai:k<S.length+1:=by
    have:=(List.getElem?_eq_some_iff.1 af).1
    simpa using this
   have qd:x<iB.defs.length:=by
    cases k with
    |zero=>simp at af;omega
    |succ k=>exact h.inv.2 x (List.mem_of_getElem? (by simpa using af))
   obtain ⟨d,ax⟩:∃d,iB.defs[x]?=some d:=⟨iB.defs[x],List.getElem?_eq_getElem qd⟩
   have gx:=an.e d (List.mem_of_getElem? ax)
   have kg:=h.next (fun i k ai=>jJ i k ai) af
   have ih:=X5 n iB an i bQ aI m (k+1) _ kg (by omega)
   have bV:=Nt n d.e (by omega) gx.1 (by omega)
   have apt:=zL d.e
   have fj:=apz n iB an i k (eY 3 d.e []) S h.inv (by omega) (by omega)
   have je:(eY 3 d.e []).filterMap (cP iB.defs)=to iB.defs x:=by rw [zM ax];rfl
   rw [je] at fj
   have sM:decide ((k:Int)<(((i::S).length:Nat):Int))=true:=decide_eq_true (by simp;omega)
   have ea:cG (i::S).length (J (k:Int))=some k:=by rw [lv,if_pos (by simpa using ai)]
   have o5:((k:Int)+1)=((k+1:Nat):Int):=by omega
   simp only [Hu,go_sem,Ey,sM,ea,XW af,Ah,en ax,a5.gp,bV,m4,pX,fj,cj (bt:=false) (i:=k) (by omega),ih]
theorem apA(n:Nat)(m:al){B:Nat}(an:gQ B m.defs)(i:Nat)(ag:i<m.defs.length)(aI:4*B+200<n):∃S,Dv n [m.d,J (i:Int)]=some (iA m.defs.length S)∧(i∈S↔hO m.defs i=true):=by
 have hlen:=an.len
 have ak:=an.b
 have ay:=X5 n m an i ag aI n 0 [] (oD.start _ _ _) (by omega)
 have Aj:=Oz (fun i k ai=>jJ i k ai) n 0 [] (oD.start (to m.defs) m.defs.length i) (by omega)
 rw [←Ny m.defs i] at Aj
 generalize ss (to m.defs) i n 0 []=S at*
 refine ⟨S,?_,Aj⟩
 have D9:makeP 1 (J (m.defs.length:Int)) (J (m.defs.length:Int))=some m.defs.length:=by simp [makeP,J];omega
 have aS:D.aC 1 (List.replicate m.defs.length [ar false])=iA m.defs.length []:=by rw [XU];rfl
 have aV:D.aC 1 [[J (i:Int)]]=cI (i::[]):=rfl
 have bF:(J ((0:Nat):Int))=J 0:=rfl
 rw [bF] at ay
 simp only [Dv,T6,go_sem,al.agg,al.aL,al.bb,al.bl,al.bs,al.cf,al.cB,al.cC,al.cK,dy,D9,aS,aV,ay,m4]
end Go.Am
namespace Go.Am
set_option linter.unusedVariables false
set_option linter.unusedSimpArgs false
def b2(e:Nat→Int):Nat→Nat→Int×Int
 |0,_=>(0,0)
 |m+1,i=>if e i=0 then b2 e m (i+1) else((i:Int),e i)
theorem EC(e:Nat→Int):∀(m i:Nat),(b2 e m i).2=0↔∀j,i≤j→j<i+m→e j=0
 |0,i=>by simp [b2];intro j ad ae;omega
 |m+1,i=>by
  rw [b2]
  by_cases h:e i=0
  ·rw [if_pos h,EC e m (i+1)]
   constructor
   ·intro ad j ae ay
    by_cases aH:j=i
    ·subst aH;exact h
    ·exact ad j (by omega) (by omega)
   ·intro ad j ae ay;exact ad j (by omega) (by omega)
  ·rw [if_neg h]
   exact ⟨fun ad=>absurd ad h,fun ad=>absurd (ad i (Nat.le_refl _) (by omega)) h⟩
theorem pY(e:Nat→Int)(m i:Nat)(h:(b2 e m i).2=0):b2 e m i=(0,0):=by
 induction m generalizing i with
 |zero=>rfl
 |succ m ih=>
  rw [b2] at h⊢
  by_cases aq:e i=0
  ·rw [if_pos aq] at h⊢;exact ih (i+1) h
  ·rw [if_neg aq] at h;exact absurd h aq
theorem k3{dG:Type}{f:List D→Option (List D⊕(List D⊕dG))}(ez:Nat→List D)(e:Nat→Int)(N:Nat)(L:List D)(W:Int×Int→dG)
  (az:∀i,i<N→f (ez i)=some (if e i=0 then .inl (ez (i+1)) else .inr (.inr (W ((i:Int),e i))))) (he:f (ez N)=some (.inr (.inl L))):
  ∀(m i n:Nat),i+m=N→m<n→bm f n (ez i)=some (if(b2 e m i).2=0 then .inl L else .inr (W (b2 e m i)))
 |0,i,n,h,aI=>by
  obtain ⟨k,rfl⟩:∃k,n=k+1:=⟨n-1,by omega⟩
  have:i=N:=by omega
  subst this
  rw [iterL_s,he];rfl
 |m+1,i,n,h,aI=>by
  obtain ⟨k,rfl⟩:∃k,n=k+1:=⟨n-1,by omega⟩
  rw [iterL_s,az i (by omega),b2]
  by_cases aq:e i=0
  ·rw [if_pos aq,if_pos aq]
   exact k3 ez e N L W az he m (i+1) k (by omega) (by omega)
  ·rw [if_neg aq,if_neg aq]
   simp only [c8,if_neg aq]
structure IF(m:al)(n:Nat):Prop where
 bc:Ag m
 hP:302000000<n
 kD:pW m.vars
 X6:∀v∈m.vars,v.name.size+24<n
 X7:∀d∈m.defs,d.name.size+24<n∧d.name.size≤9223372036854775807
 init:m.init.length≤100∧∀t∈m.init,t.b1∧t.bc≤12300
 bh:m.bh.length≤100∧∀t∈m.bh,t.b1∧t.bc≤12300
 next:m.next.length≤100∧∀d∈m.next,d.e.b1∧d.e.bc≤12300
 trans:m.trans.length≤100∧∀t∈m.trans,t.b1∧t.bc≤12300
 fair:m.fair.length≤100∧∀t∈m.fair,t.b1∧t.bc≤12300
 specs:m.specs.length≤100∧∀s∈m.specs,(s.f.b1∧s.f.bc≤12300)∧s.name.size+24<n∧s.name.size≤9223372036854775807
noncomputable section
mutual
def kb(m:al):Fm→Int
 | .mk o t b ks=>if o=1 then m3 m false t else k4 m ks
def k4(m:al):List Fm→Int
 |[]=>0
 |k::r=>if kb m k=0 then k4 m r else kb m k
end
theorem OA(m:al)(f:Fm):kb m f=if f.op=1 then m3 m false f.e else k4 m f.kids:=by cases f;rw [kb];rfl
def kc(m:al)(i:Nat):Int:=match m.defs[i]? with
 |some d=>if isName d.name=true then(if((dz m.vars d.name).isSome||(cP (m.defs.take i) d.name).isSome)=true then 6 else 0) else 12
 |none=>0
def kE(m:al)(i:Nat):Int:=if hO m.defs i=true then 14 else 0
def kd(m:al)(i:Nat):Int:=match m.defs[i]? with
 |some d=>(fJ m false d.e).2
 |none=>0
def dX(m:al)(l:List Tm)(nx:Bool)(i:Nat):Int:=match l[i]? with
 |some t=>m3 m nx t
 |none=>0
def hY(m:al)(i:Nat):Int:=match m.next[i]? with
 |some d=>match dz m.vars d.name with
  |none=>12
  |some k=>if(cP (m.next.take i) d.name).isSome=true then 6 else if((fJ m false d.e).2==0&&((fJ m false d.e).1.b !=(m.vars[k]?.map V.bool).getD false))=true then 13 else(fJ m false d.e).2
 |none=>0
def hZ(m:al)(i:Nat):Int:=match m.specs[i]? with
 |some s=>if isName s.name=true then(if(l5 (m.specs.take i) s.name).isSome=true then 6 else if jK s.f=0 then kb m s.f else jK s.f) else 12
 |none=>0
end
theorem X8{l:List a5}{i:Nat}(h:i≤l.length):ko 5 (aE l) none (some (J (i:Int)))=some (aE (l.take i)):=by
 rw [aE,Ol (by simpa using h)]
 simp [aE,List.map_take]
theorem apB{l:List cl}{i:Nat}(h:i≤l.length):ko 7 (bo l) none (some (J (i:Int)))=some (bo (l.take i)):=by
 rw [bo,Ol (by simpa using h)]
 simp [bo,List.map_take]
theorem X9{m:al}(hm:Ag m):∀(n:Nat) (f:Fm),301000000+f.bc<n→f.b1→f.bc≤12300→qK n [m.d,f.d]=some (J (kb m f))
 |0,_,h,_,_=>absurd h (Nat.not_lt_zero _)
 |n+1,f,aI,ba,az=>by
  have NT:=f.yH
  have lr:=f.jk
  rw [OA]
  have a2:=XS hm n (by omega) ba.e (by omega) false
  have hlen:lenP (b5 6 f.nl (Fm.rows f.kids))=some (J f.kids.length):=by simp
  have an:=dq (f:=CC (qK n) n) f.kids (fun i (_:Unit)=>[b5 6 f.nl (Fm.rows f.kids),J f.kids.length,J (i:Int),a6 m.vars,aE m.defs,au m.init,au m.bh,aE m.next,au m.trans,au m.fair,bo m.specs])
   (fun r _=>if k4 m r=0 then(.inl []:List D⊕D) else .inr (J (k4 m r))) (fun _ _=>True) ?_ ?_ n 0 () trivial (by have:=f.jk;omega) (Nat.zero_le _)
  ·have bF:(J ((0:Nat):Int))=J 0:=rfl
   rw [bF,List.drop_zero] at an
   show CD (qK n) n m.d f.d=_
   by_cases ad:f.op=1
   ·have dv:(f.op==1)=true:=by simp [ad]
    simp only [CD,go_sem,al.agg,dv,if_pos ad,al.aL,al.bb,al.bl,al.bs,al.cf,al.cB,al.cC,al.cK,al.eta,a2]
   ·have dv:(f.op==1)=false:=by simpa using ad
    simp only [CD,go_sem,al.agg,dv,if_neg ad,al.aL,al.bb,al.bl,al.bs,al.cf,al.cB,al.cC,al.cK,al.eta,hlen,an]
    by_cases aq:k4 m f.kids=0
    ·rw [if_pos aq,aq,nu]
    ·rw [if_neg aq,Bp]
  ·intro _ _
   simp only [CC,go_sem,decide_eq_false (show¬((f.kids.length:Int)<f.kids.length) by omega),k4]
  ·intro i a _ aB ag _
   have jM:=List.mem_of_getElem? aB
   have bM:=Fm.hK jM
   have av:=X9 hm n a (by omega) (ba.ek jM) (by omega)
   have cU:=decide_eq_true (show((i:Int)<(f.kids.length:Int)) by omega)
   by_cases aq:kb m a=0
   ·left
    rw [aq] at av
    refine ⟨(),?_,by simp only [k4,aq,if_true],trivial⟩
    have bM:((0:Int) !=0)=false:=rfl
    simp only [CC,go_sem,cU,Fm.fY aB,al.eta,av,bM,cj (bt:=false) (i:=i) (by omega)]
   ·right
    have bM:(kb m a !=0)=true:=by simpa using aq
    simp only [CC,go_sem,cU,Fm.fY aB,al.eta,av,bM,k4,if_neg aq]
theorem Ya{m:al}(hm:Ag m):∀(n:Nat) (f:Fm),301000000+f.bc<n→f.b1→f.bc≤12300→qU n [m.d,f.d]=some (J (kb m f))
 |0,_,h,_,_=>absurd h (Nat.not_lt_zero _)
 |n+1,f,aI,ba,az=>by
  have NT:=f.yH
  have lr:=f.jk
  rw [OA]
  have a2:=XT hm n (by omega) ba.e (by omega) false
  have hlen:lenP (b5 6 f.nl (Fm.rows f.kids))=some (J f.kids.length):=by simp
  have an:=dq (f:=DO (qU n) n) f.kids (fun i (_:Unit)=>[J (i:Int),a6 m.vars,aE m.defs,au m.init,au m.bh,aE m.next,au m.trans,au m.fair,bo m.specs,J f.op,J f.e.op,J f.e.num,aJ f.e.name,b5 4 f.e.nl (Tm.rows f.e.kids),b5 6 f.nl (Fm.rows f.kids)])
   (fun r _=>if k4 m r=0 then(.inl []:List D⊕D) else .inr (J (k4 m r))) (fun _ _=>True) ?_ ?_ n 0 () trivial (by have:=f.jk;omega) (Nat.zero_le _)
  ·have bF:(J ((0:Nat):Int))=J 0:=rfl
   rw [bF,List.drop_zero] at an
   show DP (qU n) n m.d f.d=_
   by_cases ad:f.op=1
   ·have dv:(f.op==1)=true:=by simp [ad]
    simp only [DP,go_sem,al.agg,dv,if_pos ad,al.aL,al.bb,al.bl,al.bs,al.cf,al.cB,al.cC,al.cK,al.eta,a2]
   ·have dv:(f.op==1)=false:=by simpa using ad
    simp only [DP,go_sem,al.agg,dv,if_neg ad,al.aL,al.bb,al.bl,al.bs,al.cf,al.cB,al.cC,al.cK,al.eta,hlen,an]
    by_cases aq:k4 m f.kids=0
    ·rw [if_pos aq,aq,nu]
    ·rw [if_neg aq,Bp]
  ·intro _ _
   simp only [DO,go_sem,hlen,decide_eq_false (show¬((f.kids.length:Int)<f.kids.length) by omega),k4]
  ·intro i a _ aB ag _
   have jM:=List.mem_of_getElem? aB
   have bM:=Fm.hK jM
   have av:=Ya hm n a (by omega) (ba.ek jM) (by omega)
   have cU:=decide_eq_true (show((i:Int)<(f.kids.length:Int)) by omega)
   by_cases aq:kb m a=0
   ·left
    rw [aq] at av
    refine ⟨(),?_,by simp only [k4,aq,if_true],trivial⟩
    have bM:((0:Int) !=0)=false:=rfl
    simp only [DO,go_sem,hlen,cU,Fm.fY aB,al.eta,av,bM,cj (bt:=false) (i:=i) (by omega)]
   ·right
    have bM:(kb m a !=0)=true:=by simpa using aq
    simp only [DO,go_sem,hlen,cU,Fm.fY aB,al.eta,av,bM,k4,if_neg aq]
section
variable{m:al}{n:Nat}(hm:IF m n)
include hm
theorem apC(i:Nat)(ag:i<m.defs.length):r0 n [aE m.defs,m.d,J (i:Int)]=some (J (kc m i)):=by
 have ak:=hm.hP
 have x2:=hm.bc.dl
 have iz:=hm.bc.hX
 obtain ⟨d,ax⟩:∃d,m.defs[i]?=some d:=⟨m.defs[i],List.getElem?_eq_getElem ag⟩
 have OB:=hm.X7 d (List.mem_of_getElem? ax)
 have bV:=Oj n d.name (by omega) OB.2
 have gn:=ao5 n m.vars d.name (by omega) (by omega)
 have cv:=ao8 n (m.defs.take i) d.name (by simp;omega) (by simp;omega)
 have az:=X8 (l:=m.defs) (i:=i) (by omega)
 simp only [kc,ax]
 cases ad:isName d.name with
 |false=>simp only [r0,CU,go_sem,al.agg,en ax,a5.fp,bV,ad]
 |true=>
  cases ae:(dz m.vars d.name).isSome with
  |true=>simp only [r0,CU,go_sem,al.agg,al.aL,en ax,a5.fp,bV,ad,gn,ae]
  |false=>
   cases ay:(cP (m.defs.take i) d.name).isSome with
   |true=>simp only [r0,CU,go_sem,al.agg,al.aL,en ax,a5.fp,bV,ad,gn,ae,az,cv,ay,Bool.or_false,Bool.false_or]
   |false=>simp only [r0,CU,go_sem,al.agg,al.aL,en ax,a5.fp,bV,ad,gn,ae,az,cv,ay,Bool.or_false,Bool.false_or]
theorem apD(i:Nat)(ag:i<m.defs.length):y5 n [aE m.defs,m.d,J (i:Int)]=some (J (kd m i)):=by
 have ak:=hm.hP
 obtain ⟨d,ax⟩:∃d,m.defs[i]?=some d:=⟨m.defs[i],List.getElem?_eq_getElem ag⟩
 have gx:=hm.bc.d.e d (List.mem_of_getElem? ax)
 have a2:=Ox hm.bc n (by omega) gx.1 gx.2 false
 simp only [kd,ax]
 simp only [y5,Tn,go_sem,al.agg,al.aL,al.bb,al.bl,al.bs,al.cf,al.cB,al.cC,al.cK,al.eta,en ax,a5.gp,a2,nQ]
theorem apE(l:List Tm)(an:∀t∈l,t.b1∧t.bc≤12300)(k:Int)(nx:Bool)(i:Nat)(ag:i<l.length):y4 n [.agg [J k,au l,ar nx],m.d,J (i:Int)]=some (J (dX m l nx i)):=by
 have ak:=hm.hP
 obtain ⟨t,aG⟩:∃t,l[i]?=some t:=⟨l[i],List.getElem?_eq_getElem ag⟩
 have ED:=an t (List.mem_of_getElem? aG)
 have a2:=XS hm.bc n (by omega) ED.1 ED.2 nx
 have aB:aK 3 (.agg [J k,au l,ar nx])=true:=rfl
 have bb:aa (.agg [J k,au l,ar nx]) 1=au l:=rfl
 have bl:aa (.agg [J k,au l,ar nx]) 2=ar nx:=rfl
 simp only [dX,aG]
 simp only [y4,Tl,go_sem,aB,bb,bl,al.agg,al.aL,al.bb,al.bl,al.bs,al.cf,al.cB,al.cC,al.cK,al.eta,q2 aG,a2]
theorem apF(i:Nat)(ag:i<m.next.length):tC n [aE m.next,m.d,J (i:Int)]=some (J (hY m i)):=by
 have ak:=hm.hP
 have qv:=hm.next.1
 have iz:=hm.bc.hX
 obtain ⟨d,ax⟩:∃d,m.next[i]?=some d:=⟨m.next[i],List.getElem?_eq_getElem ag⟩
 have gx:=hm.next.2 d (List.mem_of_getElem? ax)
 have a2:=Ox hm.bc n (by omega) gx.1 gx.2 false
 have gn:=apa n m.vars d.name (by omega) (by omega)
 have cv:=apd n (m.next.take i) d.name (by simp;omega) (by simp;omega)
 have az:=X8 (l:=m.next) (i:=i) (by omega)
 simp only [hY,ax]
 cases ad:dz m.vars d.name with
 |none=>
  have aq:decide (eI none<0)=true:=rfl
  simp only [tC,GY,go_sem,al.agg,al.aL,en ax,a5.fp,gn,ad,aq]
 |some k=>
  have aq:decide (eI (some k)<0)=false:=by rw [XE];rfl
  have lr:k<m.vars.length:=by
   have:=List.findIdx?_eq_some_iff_getElem.1 ad
   exact this.1
  obtain ⟨v,aM⟩:∃v,m.vars[k]?=some v:=⟨m.vars[k],List.getElem?_eq_getElem lr⟩
  have jv:a3 4 (a6 m.vars) (J (eI (some k)))=some v.cells:=h7 aM
  have vm:aW false 1 1 v.cells=some (ar v.bool):=rfl
  simp only [aM,Option.map_some,Option.getD_some]
  cases ay:(cP (m.next.take i) d.name).isSome with
  |true=>simp only [tC,GY,go_sem,al.agg,al.aL,en ax,a5.fp,gn,ad,aq,az,cv,ay]
  |false=>
   generalize fJ m false d.e=y at*
   have b9:binP true .neq (ar y.1.b) (ar v.bool)=some (ar (y.1.b !=v.bool)):=rfl
   simp only [tC,GY,go_sem,al.agg,al.aL,al.bb,al.bl,al.bs,al.cf,al.cB,al.cC,al.cK,al.eta,en ax,a5.fp,a5.gp,gn,ad,aq,az,cv,ay,a2,nQ,q7,jv,vm,b9]
   by_cases aj:(y.2==0&&(y.1.b !=v.bool))=true
   ·rw [if_pos aj,if_pos aj]
   ·rw [if_neg aj,if_neg aj]
theorem apG(i:Nat)(ag:i<m.specs.length):rY n [bo m.specs,m.d,J (i:Int)]=some (J (hZ m i)):=by
 have ak:=hm.hP
 have zP:=hm.specs.1
 obtain ⟨s,az⟩:∃s,m.specs[i]?=some s:=⟨m.specs[i],List.getElem?_eq_getElem ag⟩
 obtain ⟨⟨a4,Gp⟩,apH,OC⟩:=hm.specs.2 s (List.mem_of_getElem? az)
 have bV:=Oj n s.name (by omega) OC
 have cv:=api n (m.specs.take i) s.name (by simp;omega) (by simp;omega)
 have kY:=apB (l:=m.specs) (i:=i) (by omega)
 have bY:=NW n s.f (by omega) a4 (by omega)
 have hV:=X9 hm.bc n s.f (by omega) a4 Gp
 simp only [hZ,az]
 cases ad:isName s.name with
 |false=>simp only [rY,CE,go_sem,al.agg,kB az,cl.fp,bV,ad]
 |true=>
  cases ay:(l5 (m.specs.take i) s.name).isSome with
  |true=>simp only [rY,CE,go_sem,al.agg,kB az,cl.fp,bV,ad,kY,cv,ay]
  |false=>
   by_cases aZ:jK s.f=0
   ·have kS:(jK s.f !=0)=false:=by simp [aZ]
    simp only [rY,CE,go_sem,al.agg,al.aL,al.bb,al.bl,al.bs,al.cf,al.cB,al.cC,al.cK,al.eta,kB az,cl.fp,cl.gp,bV,ad,kY,cv,ay,bY,kS,if_pos aZ,hV]
   ·have kS:(jK s.f !=0)=true:=by simpa using aZ
    simp only [rY,CE,go_sem,al.agg,al.aL,al.bb,al.bl,al.bs,al.cf,al.cB,al.cC,al.cK,al.eta,kB az,cl.fp,cl.gp,bV,ad,kY,cv,ay,bY,kS,if_neg aZ]
end
end Go.Am
namespace Go.Am
set_option linter.unusedVariables false
set_option linter.unusedSimpArgs false
def eT(p:Int×Int):D:= .aQ [J p.1,J p.2]
def su(a b:Int×Int):Int×Int:=if a.2=0 then b else a
theorem findIdx_take{α:Type}{l:List α}{p:α→Bool}{i:Nat}{d:α}(ax:l[i]?=some d)(aX:p d=true):decide (eI (l.findIdx? p)<(i:Int))=((l.take i).findIdx? p).isSome:=by
 obtain ⟨ag,apI⟩:=List.getElem?_eq_some_iff.1 ax
 cases h:l.findIdx? p with
 |none=>
  have:=List.findIdx?_eq_none_iff.1 h d (List.mem_of_getElem? ax)
  rw [aX] at this;cases this
 |some k=>
  obtain ⟨ai,apJ,x4⟩:=List.findIdx?_eq_some_iff_getElem.1 h
  rw [List.findIdx?_isSome]
  have oT:k≤i:=by
   rcases Nat.lt_or_ge i k with ad|ad
   ·have:=x4 i ad;rw [apI] at this;exact absurd aX this
   ·exact ad
  by_cases he:k<i
  ·have ad:decide (eI (some k)<(i:Int))=true:=decide_eq_true (by show(k:Int)<(i:Int);omega)
   rw [ad];symm
   rw [List.any_eq_true]
   refine ⟨l[k],List.mem_iff_getElem?.2 ⟨k,?_⟩,apJ⟩
   rw [List.getElem?_take_of_lt he];exact List.getElem?_eq_getElem ai
  ·have ad:decide (eI (some k)<(i:Int))=false:=decide_eq_false (by show¬(k:Int)<(i:Int);omega)
   rw [ad];symm
   rw [Bool.eq_false_iff,ne_eq,List.any_eq_true]
   rintro ⟨a,aB,apK⟩
   obtain ⟨j,aH⟩:=List.mem_iff_getElem?.1 aB
   have cU:=(List.getElem?_eq_some_iff.1 aH).1
   simp only [List.length_take] at cU
   rw [List.getElem?_take_of_lt (by omega)] at aH
   obtain ⟨auh,apL⟩:=List.getElem?_eq_some_iff.1 aH
   have:=x4 j (by omega)
   rw [apL] at this;exact this apK
noncomputable def pZ(m:al):Int×Int:=su (b2 (kc m) m.defs.length 0) (su (b2 (kE m) m.defs.length 0) (b2 (kd m) m.defs.length 0))
section
variable{m:al}{n:Nat}(hm:IF m n)
include hm
theorem apM:bm (w3 n) n [J 0,a6 m.vars,aE m.defs,au m.init,au m.bh,aE m.next,au m.trans,au m.fair,bo m.specs]=some (if(b2 (kc m) m.defs.length 0).2=0 then .inl [a6 m.vars,aE m.defs,au m.init,au m.bh,aE m.next,au m.trans,au m.fair,bo m.specs] else .inr (eT (b2 (kc m) m.defs.length 0))):=by
 have ak:=hm.hP
 have x2:=hm.bc.dl
 have iz:=hm.bc.hX
 refine k3 (fun i=>[J (i:Int),a6 m.vars,aE m.defs,au m.init,au m.bh,aE m.next,au m.trans,au m.fair,bo m.specs]) (kc m) m.defs.length _ eT ?_ ?_ _ 0 n (by omega) (by omega)
 ·intro i ag
  obtain ⟨d,ax⟩:∃d,m.defs[i]?=some d:=⟨m.defs[i],List.getElem?_eq_getElem ag⟩
  have OB:=hm.X7 d (List.mem_of_getElem? ax)
  have bV:=Ok n d.name (by omega) OB.2
  have gn:=X4 n m d.name (by omega) (by omega)
  have cv:=X3 n m d.name (by omega) (by omega)
  have bQ:=decide_eq_true (show((i:Int)<(m.defs.length:Int)) by omega)
  have EE:=findIdx_take (p:=fun e:a5=>decide (e.name=d.name)) ax (by simp)
  change decide (eI (cP m.defs d.name)<(i:Int))=(cP (m.defs.take i) d.name).isSome at EE
  simp only [kc,ax]
  cases ad:isName d.name with
  |false=>simp only [w3,go_sem,dy,bQ,en ax,a5.fp,bV,ad,if_neg (show¬(12:Int)=0 by decide),eT]
  |true=>
   cases ae:(dz m.vars d.name).isSome with
   |true=>
    have gK:=xD (dz m.vars d.name)
    rw [ae] at gK
    simp only [w3,go_sem,dy,bQ,en ax,a5.fp,bV,ad,al.eta,gn,gK,rK,if_neg (show¬(true=false) by decide),rL,if_neg (show¬(6:Int)=0 by decide),eT]
   |false=>
    have gK:=xD (dz m.vars d.name)
    rw [ae] at gK
    cases ay:(cP (m.defs.take i) d.name).isSome with
    |true=>
     rw [ay] at EE
     simp only [w3,go_sem,dy,bQ,en ax,a5.fp,bV,ad,al.eta,gn,gK,rK,cv,EE,rL,if_neg (show¬(6:Int)=0 by decide),eT,Bool.or_true]
    |false=>
     rw [ay] at EE
     simp only [w3,go_sem,dy,bQ,en ax,a5.fp,bV,ad,al.eta,gn,gK,rK,cv,EE,rL,Bool.or_false,cj (bt:=false) (i:=i) (by omega)]
 ·simp only [w3,go_sem,dy,decide_eq_false (show¬((m.defs.length:Int)<m.defs.length) by omega)]
theorem apN:bm (DJ n) n [J 0,a6 m.vars,aE m.defs,au m.init,au m.bh,aE m.next,au m.trans,au m.fair,bo m.specs]=some (if(b2 (kE m) m.defs.length 0).2=0 then .inl [a6 m.vars,aE m.defs,au m.init,au m.bh,aE m.next,au m.trans,au m.fair,bo m.specs] else .inr (eT (b2 (kE m) m.defs.length 0))):=by
 have ak:=hm.hP
 have x2:=hm.bc.dl
 refine k3 (fun i=>[J (i:Int),a6 m.vars,aE m.defs,au m.init,au m.bh,aE m.next,au m.trans,au m.fair,bo m.specs]) (kE m) m.defs.length _ eT ?_ ?_ _ 0 n (by omega) (by omega)
 ·intro i ag
  obtain ⟨S,cz,Yb⟩:=apA n m hm.bc.d i ag (by omega)
  have bQ:=decide_eq_true (show((i:Int)<(m.defs.length:Int)) by omega)
  have af:a3 1 (iA m.defs.length S) (J (i:Int))=some [ar (decide (i∈S))]:=by
   rw [iA,Sd,Ew ag]
  cases ad:hO m.defs i with
  |true=>
   have ae:=decide_eq_true (Yb.2 ad)
   simp only [DJ,go_sem,dy,bQ,al.eta,cz,af,xE,ae,kE,ad,if_neg (show¬(14:Int)=0 by decide),eT]
  |false=>
   have ae:=decide_eq_false (show¬i∈S from fun h=>by rw [Yb.1 h] at ad;cases ad)
   simp only [DJ,go_sem,dy,bQ,al.eta,cz,af,xE,ae,kE,ad,cj (bt:=false) (i:=i) (by omega)]
 ·simp only [DJ,go_sem,dy,decide_eq_false (show¬((m.defs.length:Int)<m.defs.length) by omega)]
theorem apO:bm (DK n) n [J 0,a6 m.vars,aE m.defs,au m.init,au m.bh,aE m.next,au m.trans,au m.fair,bo m.specs]=some (if(b2 (kd m) m.defs.length 0).2=0 then .inl [] else .inr (eT (b2 (kd m) m.defs.length 0))):=by
 have ak:=hm.hP
 have x2:=hm.bc.dl
 refine k3 (fun i=>[J (i:Int),a6 m.vars,aE m.defs,au m.init,au m.bh,aE m.next,au m.trans,au m.fair,bo m.specs]) (kd m) m.defs.length _ eT ?_ ?_ _ 0 n (by omega) (by omega)
 ·intro i ag
  obtain ⟨d,ax⟩:∃d,m.defs[i]?=some d:=⟨m.defs[i],List.getElem?_eq_getElem ag⟩
  have gx:=hm.bc.d.e d (List.mem_of_getElem? ax)
  have a2:=Oy hm.bc n (by omega) gx.1 gx.2 false
  have bQ:=decide_eq_true (show((i:Int)<(m.defs.length:Int)) by omega)
  simp only [kd,ax]
  by_cases ad:(fJ m false d.e).2=0
  ·have dv:((fJ m false d.e).2 !=0)=false:=by simp [ad]
   simp only [DK,go_sem,dy,bQ,al.eta,en ax,a5.gp,a2,nQ,dv,if_pos ad,cj (bt:=false) (i:=i) (by omega)]
  ·have dv:((fJ m false d.e).2 !=0)=true:=by simpa using ad
   simp only [DK,go_sem,dy,bQ,al.eta,en ax,a5.gp,a2,nQ,dv,if_neg ad,eT]
 ·simp only [DK,go_sem,dy,decide_eq_false (show¬((m.defs.length:Int)<m.defs.length) by omega)]
theorem apP:tO n [m.d]=some (eT (pZ m)):=by
 have ae:=apM hm
 have jb:=apN hm
 have oB:=apO hm
 have bM:∀e k,(b2 e k 0).2=0→b2 e k 0=(0,0):=fun e k=>pY e k 0
 unfold pZ su
 by_cases bb:(b2 (kc m) m.defs.length 0).2=0
 case neg=>
  rw [if_neg bb] at ae⊢
  simp only [tO,DL,go_sem,al.agg,al.aL,al.bb,al.bl,al.bs,al.cf,al.cB,al.cC,al.cK,ae]
 rw [if_pos bb] at ae⊢
 by_cases bl:(b2 (kE m) m.defs.length 0).2=0
 case neg=>
  rw [if_neg bl] at jb⊢
  simp only [tO,DL,go_sem,al.agg,al.aL,al.bb,al.bl,al.bs,al.cf,al.cB,al.cC,al.cK,ae,jb]
 rw [if_pos bl] at jb⊢
 by_cases bs:(b2 (kd m) m.defs.length 0).2=0
 ·rw [if_pos bs] at oB
  rw [bM _ _ bs]
  simp only [tO,DL,go_sem,al.agg,al.aL,al.bb,al.bl,al.bs,al.cf,al.cB,al.cC,al.cK,ae,jb,oB,eT]
 ·rw [if_neg bs] at oB
  simp only [tO,DL,go_sem,al.agg,al.aL,al.bb,al.bl,al.bs,al.cf,al.cB,al.cC,al.cK,ae,jb,oB]
theorem IG(l:List Tm)(an:l.length≤100∧∀t∈l,t.b1∧t.bc≤12300)(nx:Bool):sf n [m.d,au l,ar nx]=some (eT (b2 (dX m l nx) l.length 0)):=by
 have ak:=hm.hP
 have ag:=k3 (f:=DM n) (fun i=>[au l,ar nx,J (i:Int),a6 m.vars,aE m.defs,au m.init,au m.bh,aE m.next,au m.trans,au m.fair,bo m.specs]) (dX m l nx) l.length [] eT ?_ ?_ l.length 0 n (by omega) (by omega)
 ·have bF:(J ((0:Nat):Int))=J 0:=rfl
  rw [bF] at ag
  by_cases c:(b2 (dX m l nx) l.length 0).2=0
  ·rw [if_pos c] at ag
   rw [pY _ _ _ c]
   simp only [sf,MX,go_sem,al.agg,al.aL,al.bb,al.bl,al.bs,al.cf,al.cB,al.cC,al.cK,ag,eT]
  ·rw [if_neg c] at ag
   simp only [sf,MX,go_sem,al.agg,al.aL,al.bb,al.bl,al.bs,al.cf,al.cB,al.cC,al.cK,ag]
 ·intro i ag
  obtain ⟨t,aG⟩:∃t,l[i]?=some t:=⟨l[i],List.getElem?_eq_getElem ag⟩
  have ED:=an.2 t (List.mem_of_getElem? aG)
  have a2:=XT hm.bc n (by omega) ED.1 ED.2 nx
  have bQ:=decide_eq_true (show((i:Int)<(l.length:Int)) by omega)
  simp only [dX,aG]
  by_cases ad:m3 m nx t=0
  ·have dv:(m3 m nx t !=0)=false:=by simp [ad]
   simp only [DM,go_sem,g8,bQ,al.eta,q2 aG,a2,dv,if_pos ad,cj (bt:=false) (i:=i) (by have:=an.1;omega)]
  ·have dv:(m3 m nx t !=0)=true:=by simpa using ad
   simp only [DM,go_sem,g8,bQ,al.eta,q2 aG,a2,dv,if_neg ad,eT]
 ·simp only [DM,go_sem,g8,decide_eq_false (show¬((l.length:Int)<l.length) by omega)]
theorem apQ(i:Nat)(k:Int){d:a5}(ax:m.next[i]?=some d):bm (zs n) n [J (i:Int),J k,J 0,a6 m.vars,aE m.defs,au m.init,au m.bh,aE m.next,au m.trans,au m.fair,bo m.specs]=some (if(cP (m.next.take i) d.name).isSome=true then .inr (.inr (.inr (.inr (.aQ [J (i:Int),J 6])))) else .inl [J (i:Int),J k,a6 m.vars,aE m.defs,au m.init,au m.bh,aE m.next,au m.trans,au m.fair,bo m.specs]):=by
 have ak:=hm.hP
 have qv:=hm.next.1
 have bQ:=(List.getElem?_eq_some_iff.1 ax).1
 have bW:(m.next.take i).length=i:=by simp;omega
 have ag:=dq (f:=zs n) (m.next.take i) (fun j (_:Unit)=>[J (i:Int),J k,J (j:Int),a6 m.vars,aE m.defs,au m.init,au m.bh,aE m.next,au m.trans,au m.fair,bo m.specs])
  (fun r _=>(if(cP r d.name).isSome=true then .inr (.inr (.inr (.inr (.aQ [J (i:Int),J 6])))) else .inl [J (i:Int),J k,a6 m.vars,aE m.defs,au m.init,au m.bh,aE m.next,au m.trans,au m.fair,bo m.specs]:List D⊕(List D⊕(List D⊕(List D⊕D))))) (fun _ _=>True)
  (fun _ _=>by rw [bW];simp only [zs,go_sem,decide_eq_false (show¬((i:Int)<i) by omega)];rfl) ?_ n 0 () trivial (by omega) (Nat.zero_le _)
 ·exact ag
 ·intro j a _ aB aH _
  rw [bW] at aH
  rw [List.getElem?_take_of_lt aH] at aB
  have cU:=decide_eq_true (show((j:Int)<(i:Int)) by omega)
  have aj:cP (a::(m.next.take i).drop (j+1)) d.name=if decide (a.name=d.name)=true then some 0 else(cP ((m.next.take i).drop (j+1)) d.name).map (·+1):=findIdx_cons _ a _
  rw [aj]
  by_cases h:a.name=d.name
  ·right
   rw [if_pos (decide_eq_true h)]
   simp only [zs,go_sem,cU,en aB,en ax,a5.fp,decide_eq_true h,Option.isSome_some]
  ·left
   refine ⟨(),?_,?_,trivial⟩
   ·simp only [zs,go_sem,cU,en aB,en ax,a5.fp,decide_eq_false h,cj (bt:=false) (i:=j) (by omega)]
   ·have bj:¬(decide (a.name=d.name)=true):=by simpa using h
    rw [if_neg bj,Option.isSome_map]
theorem apR(i:Nat){d:cl}(ax:m.specs[i]?=some d):bm (zw n) n [J (i:Int),J 0,a6 m.vars,aE m.defs,au m.init,au m.bh,aE m.next,au m.trans,au m.fair,bo m.specs]=some (if(l5 (m.specs.take i) d.name).isSome=true then .inr (.inr (.inr (.inr (.aQ [J (i:Int),J 6])))) else .inl [J (i:Int),a6 m.vars,aE m.defs,au m.init,au m.bh,aE m.next,au m.trans,au m.fair,bo m.specs]):=by
 have ak:=hm.hP
 have qv:=hm.specs.1
 have bQ:=(List.getElem?_eq_some_iff.1 ax).1
 have bW:(m.specs.take i).length=i:=by simp;omega
 have ag:=dq (f:=zw n) (m.specs.take i) (fun j (_:Unit)=>[J (i:Int),J (j:Int),a6 m.vars,aE m.defs,au m.init,au m.bh,aE m.next,au m.trans,au m.fair,bo m.specs])
  (fun r _=>(if(l5 r d.name).isSome=true then .inr (.inr (.inr (.inr (.aQ [J (i:Int),J 6])))) else .inl [J (i:Int),a6 m.vars,aE m.defs,au m.init,au m.bh,aE m.next,au m.trans,au m.fair,bo m.specs]:List D⊕(List D⊕(List D⊕(List D⊕D))))) (fun _ _=>True)
  (fun _ _=>by rw [bW];simp only [zw,go_sem,decide_eq_false (show¬((i:Int)<i) by omega)];rfl) ?_ n 0 () trivial (by omega) (Nat.zero_le _)
 ·exact ag
 ·intro j a _ aB aH _
  rw [bW] at aH
  rw [List.getElem?_take_of_lt aH] at aB
  have cU:=decide_eq_true (show((j:Int)<(i:Int)) by omega)
  have aj:l5 (a::(m.specs.take i).drop (j+1)) d.name=if decide (a.name=d.name)=true then some 0 else(l5 ((m.specs.take i).drop (j+1)) d.name).map (·+1):=findIdx_cons _ a _
  rw [aj]
  by_cases h:a.name=d.name
  ·right
   rw [if_pos (decide_eq_true h)]
   simp only [zw,go_sem,cU,kB aB,kB ax,cl.fp,decide_eq_true h,Option.isSome_some]
  ·left
   refine ⟨(),?_,?_,trivial⟩
   ·simp only [zw,go_sem,cU,kB aB,kB ax,cl.fp,decide_eq_false h,cj (bt:=false) (i:=j) (by omega)]
   ·have bj:¬(decide (a.name=d.name)=true):=by simpa using h
    rw [if_neg bj,Option.isSome_map]
theorem apS:zt n [m.d]=some (eT (b2 (hY m) m.next.length 0)):=by
 have ak:=hm.hP
 have qv:=hm.next.1
 have iz:=hm.bc.hX
 have ag:=k3 (f:=tQ n) (fun i=>[J (i:Int),a6 m.vars,aE m.defs,au m.init,au m.bh,aE m.next,au m.trans,au m.fair,bo m.specs]) (hY m) m.next.length [] eT ?_ ?_ m.next.length 0 n (by omega) (by omega)
 ·have bF:(J ((0:Nat):Int))=J 0:=rfl
  rw [bF] at ag
  by_cases c:(b2 (hY m) m.next.length 0).2=0
  ·rw [if_pos c] at ag
   rw [pY _ _ _ c]
   simp only [zt,MY,go_sem,al.agg,al.aL,al.bb,al.bl,al.bs,al.cf,al.cB,al.cC,al.cK,ag,eT]
  ·rw [if_neg c] at ag
   simp only [zt,MY,go_sem,al.agg,al.aL,al.bb,al.bl,al.bs,al.cf,al.cB,al.cC,al.cK,ag]
 ·intro i ag
  obtain ⟨d,ax⟩:∃d,m.next[i]?=some d:=⟨m.next[i],List.getElem?_eq_getElem ag⟩
  have gx:=hm.next.2 d (List.mem_of_getElem? ax)
  have a2:=Oy hm.bc n (by omega) gx.1 gx.2 false
  have gn:=X4 n m d.name (by omega) (by omega)
  have bQ:=decide_eq_true (show((i:Int)<(m.next.length:Int)) by omega)
  simp only [hY,ax]
  cases ad:dz m.vars d.name with
  |none=>
   rw [ad] at gn
   have aq:decide (eI none<0)=true:=rfl
   simp only [tQ,go_sem,dy,bQ,al.eta,en ax,a5.fp,gn,aq,if_neg (show¬(12:Int)=0 by decide),eT]
  |some k=>
   rw [ad] at gn
   have hT:=apQ hm i (eI (some k)) ax
   have aq:decide (eI (some k)<0)=false:=by rw [XE];rfl
   have lr:k<m.vars.length:=by
    have:=List.findIdx?_eq_some_iff_getElem.1 ad
    exact this.1
   obtain ⟨v,aM⟩:∃v,m.vars[k]?=some v:=⟨m.vars[k],List.getElem?_eq_getElem lr⟩
   have jv:a3 4 (a6 m.vars) (J (eI (some k)))=some v.cells:=h7 aM
   have vm:aW false 1 1 v.cells=some (ar v.bool):=rfl
   simp only [aM,Option.map_some,Option.getD_some]
   cases ay:(cP (m.next.take i) d.name).isSome with
   |true=>
    rw [ay,if_pos rfl] at hT
    simp only [tQ,go_sem,dy,bQ,al.eta,en ax,a5.fp,gn,aq,hT,if_neg (show¬(6:Int)=0 by decide),eT]
   |false=>
    rw [ay,if_neg (by decide)] at hT
    generalize fJ m false d.e=y at*
    have b9:binP true .neq (ar y.1.b) (ar v.bool)=some (ar (y.1.b !=v.bool)):=rfl
    have nP:((13:Int) !=0)=true:=rfl
    by_cases aj:(y.2==0&&(y.1.b !=v.bool))=true
    ·simp only [tQ,go_sem,dy,bQ,al.eta,en ax,a5.fp,a5.gp,gn,aq,hT,a2,nQ,q7,jv,vm,b9,aj,nP,if_neg (show¬(13:Int)=0 by decide),eT]
    ·have c4:(y.2==0&&(y.1.b !=v.bool))=false:=by simpa using aj
     by_cases aN:y.2=0
     ·have rm:(y.2 !=0)=false:=by simp [aN]
      simp only [tQ,go_sem,dy,bQ,al.eta,en ax,a5.fp,a5.gp,gn,aq,hT,a2,nQ,q7,jv,vm,b9,c4,rm,if_pos aN,cj (bt:=false) (i:=i) (by omega)]
     ·have rm:(y.2 !=0)=true:=by simpa using aN
      simp only [tQ,go_sem,dy,bQ,al.eta,en ax,a5.fp,a5.gp,gn,aq,hT,a2,nQ,q7,jv,vm,b9,c4,rm,if_neg aN,eT]
 ·simp only [tQ,go_sem,dy,decide_eq_false (show¬((m.next.length:Int)<m.next.length) by omega)]
theorem apT:zx n [m.d]=some (eT (b2 (hZ m) m.specs.length 0)):=by
 have ak:=hm.hP
 have zP:=hm.specs.1
 have ag:=k3 (f:=tR n) (fun i=>[J (i:Int),a6 m.vars,aE m.defs,au m.init,au m.bh,aE m.next,au m.trans,au m.fair,bo m.specs]) (hZ m) m.specs.length [] eT ?_ ?_ m.specs.length 0 n (by omega) (by omega)
 ·have bF:(J ((0:Nat):Int))=J 0:=rfl
  rw [bF] at ag
  by_cases c:(b2 (hZ m) m.specs.length 0).2=0
  ·rw [if_pos c] at ag
   rw [pY _ _ _ c]
   simp only [zx,M0,go_sem,al.agg,al.aL,al.bb,al.bl,al.bs,al.cf,al.cB,al.cC,al.cK,ag,eT]
  ·rw [if_neg c] at ag
   simp only [zx,M0,go_sem,al.agg,al.aL,al.bb,al.bl,al.bs,al.cf,al.cB,al.cC,al.cK,ag]
 ·intro i ag
  obtain ⟨s,az⟩:∃s,m.specs[i]?=some s:=⟨m.specs[i],List.getElem?_eq_getElem ag⟩
  obtain ⟨⟨a4,Gp⟩,apH,OC⟩:=hm.specs.2 s (List.mem_of_getElem? az)
  have bV:=Ok n s.name (by omega) OC
  have fj:=apR hm i az
  have bY:=NV n s.f (by omega) a4 (by omega)
  have hV:=Ya hm.bc n s.f (by omega) a4 Gp
  have bQ:=decide_eq_true (show((i:Int)<(m.specs.length:Int)) by omega)
  simp only [hZ,az]
  cases ad:isName s.name with
  |false=>simp only [tR,go_sem,g9,bQ,kB az,cl.fp,bV,ad,if_neg (show¬(12:Int)=0 by decide),eT]
  |true=>
   cases ay:(l5 (m.specs.take i) s.name).isSome with
   |true=>
    rw [ay,if_pos rfl] at fj
    simp only [tR,go_sem,g9,bQ,kB az,cl.fp,bV,ad,fj,if_neg (show¬(6:Int)=0 by decide),eT]
   |false=>
    rw [ay,if_neg (by decide)] at fj
    by_cases aZ:jK s.f=0
    ·have kS:(jK s.f==0)=true:=by simp [aZ]
     by_cases bL:kb m s.f=0
     ·have rI:(kb m s.f !=0)=false:=by simp [bL]
      simp only [tR,go_sem,g9,bQ,al.eta,kB az,cl.fp,cl.gp,bV,ad,fj,bY,kS,if_pos aZ,hV,rI,if_pos bL,cj (bt:=false) (i:=i) (by omega)]
     ·have rI:(kb m s.f !=0)=true:=by simpa using bL
      simp only [tR,go_sem,g9,bQ,al.eta,kB az,cl.fp,cl.gp,bV,ad,fj,bY,kS,if_pos aZ,hV,rI,if_neg bL,eT]
    ·have kS:(jK s.f==0)=false:=by simpa using aZ
     have apU:(jK s.f !=0)=true:=by simpa using aZ
     simp only [tR,go_sem,g9,bQ,al.eta,kB az,cl.fp,cl.gp,bV,ad,fj,bY,kS,apU,if_neg aZ,eT]
 ·simp only [tR,go_sem,g9,decide_eq_false (show¬((m.specs.length:Int)<m.specs.length) by omega)]
end
end Go.Am
namespace Go.Am
set_option linter.unusedVariables false
set_option linter.unusedSimpArgs false
def lE:List V→Nat
 |[]=>0
 |v::r=>bitsOf v.span+lE r
theorem V.apV(v:V):D.agg [aa v.d 0,aa v.d 1,aa v.d 2,aa v.d 3]=v.d:=rfl
theorem apW(n:Nat)(m:al)(aM:pW m.vars)(an:m.vars.length≤100)(aI:200<n):BW n [m.d]=some (J (lE m.vars:Nat)):=by
 have ag:=dq (f:=GF n) m.vars (fun i (s:Nat)=>[J (s:Int),a6 m.vars,J m.vars.length,J (i:Int)]) (fun r s=>(.inl [J ((s+lE r:Nat):Int)]:List D⊕D)) (fun i s=>s≤62*i) ?_ ?_ n 0 0 (by simp) (by omega) (Nat.zero_le _)
 ·have bF:(J ((0:Nat):Int))=J 0:=rfl
  rw [bF,List.drop_zero,Nat.zero_add] at ag
  simp only [BW,S1,go_sem,al.agg,al.aL,fw,ag]
 ·intro s az
  simp only [GF,go_sem,decide_eq_false (show¬((m.vars.length:Int)<m.vars.length) by omega),lE,Nat.add_zero]
 ·intro i v s kC ag az
  obtain ⟨ad,ae,_⟩:=aM.2 v (List.mem_of_getElem? kC)
  have jA:=aoW n v ad ae
  have ak:=aoY n v.span (V.Eu v).2 (by omega)
  have qb:=(Ad (V.Eu v).2).1
  have bQ:=decide_eq_true (show((i:Int)<(m.vars.length:Int)) by omega)
  have fc:binP false .add (J (s:Int)) (J (bitsOf v.span:Nat))=some (J ((s+bitsOf v.span:Nat):Int)):=by
   rw [dY (by omega) (by omega)];rfl
  left
  refine ⟨s+bitsOf v.span,?_,by rw [lE,Nat.add_assoc],by omega⟩
  simp only [GF,go_sem,bQ,h7 kC,V.ed,V.ee,V.apV,jA,ak,fc,cj (bt:=false) (i:=i) (by omega)]
theorem apX(n:Nat)(m:al)(aM:pW m.vars)(an:m.vars.length≤100)(aI:200<n):Dp n [m.d]=some (J (lE m.vars:Nat)):=by
 have ag:=dq (f:=Hr n) m.vars (fun i (s:Nat)=>[J (s:Int),J (i:Int),a6 m.vars,aE m.defs,au m.init,au m.bh,aE m.next,au m.trans,au m.fair,bo m.specs]) (fun r s=>(.inl [J ((s+lE r:Nat):Int)]:List D⊕D)) (fun i s=>s≤62*i) ?_ ?_ n 0 0 (by simp) (by omega) (Nat.zero_le _)
 ·have bF:(J ((0:Nat):Int))=J 0:=rfl
  rw [bF,List.drop_zero,Nat.zero_add] at ag
  simp only [Dp,T0,go_sem,al.agg,al.aL,al.bb,al.bl,al.bs,al.cf,al.cB,al.cC,al.cK,ag]
 ·intro s az
  simp only [Hr,go_sem,fw,decide_eq_false (show¬((m.vars.length:Int)<m.vars.length) by omega),lE,Nat.add_zero]
 ·intro i v s kC ag az
  obtain ⟨ad,ae,_⟩:=aM.2 v (List.mem_of_getElem? kC)
  have jA:=XB n v ad ae
  have ak:=aoZ n v.span (by have:=(V.Eu v).1;omega) (V.Eu v).2 (by omega)
  have qb:=(Ad (V.Eu v).2).1
  have bQ:=decide_eq_true (show((i:Int)<(m.vars.length:Int)) by omega)
  have fc:binP false .add (J (s:Int)) (J (bitsOf v.span:Nat))=some (J ((s+bitsOf v.span:Nat):Int)):=by
   rw [dY (by omega) (by omega)];rfl
  left
  refine ⟨s+bitsOf v.span,?_,by rw [lE,Nat.add_assoc],by omega⟩
  simp only [Hr,go_sem,fw,bQ,h7 kC,V.ed,jA,ak,fc,cj (bt:=false) (i:=i) (by omega)]
end Go.Am
namespace Go.Am
set_option linter.unusedVariables false
set_option linter.unusedSimpArgs false
def gR:List (Int×(Int×Int))→Int×(Int×Int)
 |[]=>(0,(0,0))
 |a::r=>if a.2.2=0 then gR r else a
theorem Yc{dG:Type}{f:List D→Option (List D⊕(List D⊕dG))}(L:List (Int×(Int×Int)))(ez:Nat→List D)(E:List D)(W:Int×(Int×Int)→dG)
  (az:∀i a,L[i]?=some a→f (ez i)=some (if a.2.2=0 then .inl (ez (i+1)) else .inr (.inr (W a)))) (he:f (ez L.length)=some (.inr (.inl E))) (n:Nat) (aI:L.length<n):
  bm f n (ez 0)=some (if(gR L).2.2=0 then .inl E else .inr (W (gR L))):=by
 have h:=dq (f:=f) L (fun i (_:Unit)=>ez i) (fun r _=>(if(gR r).2.2=0 then .inl E else .inr (W (gR r)):List D⊕dG)) (fun _ _=>True) (fun _ _=>by rw [he];rfl) ?_ n 0 () trivial (by omega) (Nat.zero_le _)
 ·exact h
 ·intro i a _ aB ag _
  have ad:=az i a aB
  by_cases aq:a.2.2=0
  ·left
   rw [if_pos aq] at ad
   exact ⟨(),ad,by rw [gR,if_pos aq],trivial⟩
  ·right
   rw [if_neg aq] at ad
   rw [ad,gR,if_neg aq,if_neg aq]
def gY(m:al):List Nat:=[m.vars.length,m.defs.length,m.init.length,m.bh.length,m.next.length,m.trans.length,m.fair.length,m.specs.length]
def gZ(m:al)(i:Nat):Int:=if 64<(gY m)[i]?.getD 0 then 18 else 0
noncomputable def lF(m:al):List (Int×(Int×Int)):=[(2,b2 (kc m) m.defs.length 0),(2,b2 (kE m) m.defs.length 0),(2,b2 (kd m) m.defs.length 0),(3,b2 (dX m m.init false) m.init.length 0),(4,b2 (dX m m.bh false) m.bh.length 0),(5,b2 (hY m) m.next.length 0),(6,b2 (dX m m.trans true) m.trans.length 0),(7,b2 (dX m m.fair false) m.fair.length 0),(8,b2 (hZ m) m.specs.length 0)]
noncomputable def OD(m:al):List (Int×(Int×Int)):=[(2,pZ m),(3,b2 (dX m m.init false) m.init.length 0),(4,b2 (dX m m.bh false) m.bh.length 0),(5,b2 (hY m) m.next.length 0),(6,b2 (dX m m.trans true) m.trans.length 0),(7,b2 (dX m m.fair false) m.fair.length 0),(8,b2 (hZ m) m.specs.length 0)]
theorem Yd{a b:Int×Int}:(su a b).2=0↔a.2=0∧b.2=0:=by
 unfold su
 by_cases h:a.2=0<;>simp [h]
theorem Ye(k:Int)(a b:Int×Int)(r:List (Int×(Int×Int))):gR ((k,su a b)::r)=gR ((k,a)::(k,b)::r):=by
 simp only [gR]
 unfold su
 by_cases h:a.2=0<;>simp [h]
theorem apY(a:Int×(Int×Int)){r sI:List (Int×(Int×Int))}(h:gR r=gR sI):gR (a::r)=gR (a::sI):=by rw [gR,gR,h]
theorem apZ(m:al):gR (OD m)=gR (lF m):=by
 unfold OD pZ
 rw [Ye]
 exact apY _ (Ye _ _ _ _)
noncomputable def js(m:al):Int×(Int×Int):=
 if(b2 (gZ m) 8 0).2=0 then
  if(jQ m.vars).2=0 then
   if 30<lE m.vars then(1,(0,18)) else gR (lF m)
  else(1,jQ m.vars)
 else((b2 (gZ m) 8 0).1+1,(64,18))
def da(q:Int×(Int×Int)):D:= .aQ [.agg [J q.1,J q.2.1],J q.2.2]
theorem ap0{l:List V}(h:(jQ l).2=0):jQ l=(0,0):=by
 unfold jQ at h⊢
 cases a4:(List.range l.length).find? (fun i=>h4 l i !=0) with
 |none=>rw [a4] at h
 |some i=>
  rw [a4] at h
  have:=List.find?_some a4
  simp only at h
  rw [h] at this
  cases this
theorem Yf(L:List (Int×(Int×Int)))(h:(gR L).2.2=0):gR L=(0,(0,0)):=by
 induction L with
 |nil=>rfl
 |cons a r ih=>
  rw [gR] at h⊢
  by_cases aq:a.2.2=0
  ·rw [if_pos aq] at h⊢;exact ih h
  ·rw [if_neg aq] at h;exact absurd h aq
theorem g0{t:Nat}{x:D}:ifcP (.dh t x)=some (t,x):=rfl
def q8(m:al):D:= .agg ((gY m).map fun(k:Nat)=>J (k:Int))
def fs(m:al):D:= .agg [.dh 151 (aE m.defs),.dh 152 (aE m.defs),.dh 153 (aE m.defs),.dh 155 (.agg [J 3,au m.init,ar false]),.dh 155 (.agg [J 4,au m.bh,ar false]),.dh 156 (aE m.next),.dh 155 (.agg [J 6,au m.trans,ar true]),.dh 155 (.agg [J 7,au m.fair,ar false]),.dh 157 (bo m.specs)]
theorem IH{dG:Type}{a b:Option dG}:fk 151 151 a b=a:=rfl
theorem II{dG:Type}{a b:Option dG}:fk 152 151 a b=b:=rfl
theorem IJ{dG:Type}{a b:Option dG}:fk 152 152 a b=a:=rfl
theorem IK{dG:Type}{a b:Option dG}:fk 153 151 a b=b:=rfl
theorem IL{dG:Type}{a b:Option dG}:fk 153 152 a b=b:=rfl
theorem IM{dG:Type}{a b:Option dG}:fk 153 153 a b=a:=rfl
theorem q9{dG:Type}{a b:Option dG}:fk 155 151 a b=b:=rfl
theorem ra{dG:Type}{a b:Option dG}:fk 155 152 a b=b:=rfl
theorem rb{dG:Type}{a b:Option dG}:fk 155 153 a b=b:=rfl
theorem re{dG:Type}{a b:Option dG}:fk 155 155 a b=a:=rfl
theorem IN{dG:Type}{a b:Option dG}:fk 156 151 a b=b:=rfl
theorem IP{dG:Type}{a b:Option dG}:fk 156 152 a b=b:=rfl
theorem IQ{dG:Type}{a b:Option dG}:fk 156 153 a b=b:=rfl
theorem IS{dG:Type}{a b:Option dG}:fk 156 155 a b=b:=rfl
theorem IT{dG:Type}{a b:Option dG}:fk 156 156 a b=a:=rfl
theorem IU{dG:Type}{a b:Option dG}:fk 157 151 a b=b:=rfl
theorem IV{dG:Type}{a b:Option dG}:fk 157 152 a b=b:=rfl
theorem IW{dG:Type}{a b:Option dG}:fk 157 153 a b=b:=rfl
theorem IX{dG:Type}{a b:Option dG}:fk 157 155 a b=b:=rfl
theorem IY{dG:Type}{a b:Option dG}:fk 157 156 a b=b:=rfl
theorem IZ{dG:Type}{a b:Option dG}:fk 157 157 a b=a:=rfl
section
variable{m:al}{n:Nat}(hm:IF m n)
include hm
theorem ap1:bm (pt n) n [q8 m,J 0,a6 m.vars,aE m.defs,au m.init,au m.bh,aE m.next,au m.trans,au m.fair,bo m.specs,J 0,J 0]=some (if(b2 (gZ m) 8 0).2=0 then .inl [a6 m.vars,aE m.defs,au m.init,au m.bh,aE m.next,au m.trans,au m.fair,bo m.specs,J 0,J 0] else .inr (da ((b2 (gZ m) 8 0).1+1,(64,18)))):=by
 have ak:=hm.hP
 refine k3 (f:=pt n) (fun i=>[q8 m,J (i:Int),a6 m.vars,aE m.defs,au m.init,au m.bh,aE m.next,au m.trans,au m.fair,bo m.specs,J 0,J 0]) (gZ m) 8 _ (fun p=>da (p.1+1,(64,18))) ?_ ?_ 8 0 n (by omega) (by omega)
 ·intro i ag
  obtain ⟨k,ai⟩:∃k,(gY m)[i]?=some k:=⟨_,List.getElem?_eq_getElem ag⟩
  have bQ:=decide_eq_true (show((i:Int)<8) by omega)
  have ea:cG 8 (J (i:Int))=some i:=by rw [lv,if_pos ag]
  have a4:jR false 1 (i*1) (q8 m)=some (J (k:Int)):=by
   unfold q8
   rw [Nat.mul_one,Sc,hi,List.getElem?_map,ai];rfl
  have xF:binP false .add (J 1) (J (i:Int))=some (J ((i:Int)+1)):=by rw [dY (by omega) (by omega)];congr 2;omega
  have bZ:gZ m i=if 64<k then 18 else 0:=by unfold gZ;rw [ai];rfl
  by_cases aj:64<k
  ·rw [bZ,if_pos aj,if_neg (by decide)]
   simp only [pt,go_sem,bQ,ea,a4,decide_eq_true (show((k:Int)>64) by omega),xF,da]
  ·rw [bZ,if_neg aj,if_pos rfl]
   simp only [pt,go_sem,bQ,ea,a4,decide_eq_false (show¬((k:Int)>64) by omega),cj (bt:=false) (i:=i) (by omega)]
 ·simp only [pt,go_sem,show decide (((8:Nat):Int)<8)=false from rfl]
theorem ap2:bm (pJ n) n [J 0,a6 m.vars,aE m.defs,au m.init,au m.bh,aE m.next,au m.trans,au m.fair,bo m.specs,J 0,J 0,D.aC 1 ((gY m).map fun(k:Nat)=>[J (k:Int)])]=some (if(b2 (gZ m) 8 0).2=0 then .inl [a6 m.vars,aE m.defs,au m.init,au m.bh,aE m.next,au m.trans,au m.fair,bo m.specs,J 0,J 0] else .inr (da ((b2 (gZ m) 8 0).1+1,(64,18)))):=by
 have ak:=hm.hP
 refine k3 (f:=pJ n) (fun i=>[J (i:Int),a6 m.vars,aE m.defs,au m.init,au m.bh,aE m.next,au m.trans,au m.fair,bo m.specs,J 0,J 0,D.aC 1 ((gY m).map fun(k:Nat)=>[J (k:Int)])]) (gZ m) 8 _ (fun p=>da (p.1+1,(64,18))) ?_ ?_ 8 0 n (by omega) (by omega)
 ·intro i ag
  obtain ⟨k,ai⟩:∃k,(gY m)[i]?=some k:=⟨_,List.getElem?_eq_getElem ag⟩
  have hlen:((gY m).map fun(k:Nat)=>[J (k:Int)]).length=8:=rfl
  have bQ:=decide_eq_true (show((i:Int)<((8:Nat):Int)) by omega)
  have ea:cG 8 (J (i:Int))=some i:=by rw [lv,if_pos ag]
  have a4:((gY m).map fun(k:Nat)=>[J (k:Int)])[i]?=some [J (k:Int)]:=by rw [List.getElem?_map,ai];rfl
  have xF:binP false .add (J (i:Int)) (J 1)=some (J ((i:Int)+1)):=by rw [dY (by omega) (by omega)]
  have bZ:gZ m i=if 64<k then 18 else 0:=by unfold gZ;rw [ai];rfl
  generalize ((gY m).map fun(k:Nat)=>[J (k:Int)])=ap3 at*
  by_cases aj:64<k
  ·rw [bZ,if_pos aj,if_neg (by decide)]
   simp only [pJ,go_sem,hlen,bQ,ea,a4,Ah,decide_eq_true (show((k:Int)>64) by omega),xF,da]
  ·rw [bZ,if_neg aj,if_pos rfl]
   simp only [pJ,go_sem,hlen,bQ,ea,a4,Ah,decide_eq_false (show¬((k:Int)>64) by omega),cj (bt:=false) (i:=i) (by omega)]
 ·have hlen:((gY m).map fun(k:Nat)=>[J (k:Int)]).length=8:=rfl
  simp only [pJ,go_sem,hlen,show decide (((8:Nat):Int)<((8:Nat):Int))=false from rfl]
theorem ap4(A iC:D):bm (gP n) n [D.dh 151 (aE m.defs),A,iC,J m.defs.length,J 0,a6 m.vars,aE m.defs,au m.init,au m.bh,aE m.next,au m.trans,au m.fair,bo m.specs,J 0,J 0]=some (if(b2 (kc m) m.defs.length 0).2=0 then .inl [A,iC,a6 m.vars,aE m.defs,au m.init,au m.bh,aE m.next,au m.trans,au m.fair,bo m.specs,J 0,J 0] else .inr (.inr (.inr (.inr (da (2,b2 (kc m) m.defs.length 0)))))):=by
 have ak:=hm.hP
 have bV:=hm.bc.dl
 refine k3 (f:=gP n) (fun i=>[D.dh 151 (aE m.defs),A,iC,J m.defs.length,J (i:Int),a6 m.vars,aE m.defs,au m.init,au m.bh,aE m.next,au m.trans,au m.fair,bo m.specs,J 0,J 0]) (kc m) (m.defs.length) _ (fun p=> .inr (.inr (.inr (da (2,p))))) ?_ ?_ _ 0 n (by omega) (by omega)
 ·intro i ag
  have bQ:=decide_eq_true (show((i:Int)<((m.defs.length:Nat):Int)) by omega)
  have hw:=apC hm i ag
  change r0 n [_,m.d,J (i:Int)]=some (J (kc m i)) at hw
  by_cases aj:kc m i=0
  ·have c4:(kc m i !=0)=false:=by simp [aj]
   rw [if_pos aj]
   simp only [gP,go_sem,bQ,g0,IH,al.eta,hw,c4,cj (bt:=false) (i:=i) (by omega)]
  ·have c4:(kc m i !=0)=true:=by simpa using aj
   rw [if_neg aj]
   simp only [gP,go_sem,bQ,g0,IH,al.eta,hw,c4,Hb,Tv,da]
 ·simp only [gP,go_sem,decide_eq_false (show¬(((m.defs.length:Nat):Int)<((m.defs.length:Nat):Int)) by omega)]
theorem ap5(A iC:D):bm (gP n) n [D.dh 152 (aE m.defs),A,iC,J m.defs.length,J 0,a6 m.vars,aE m.defs,au m.init,au m.bh,aE m.next,au m.trans,au m.fair,bo m.specs,J 0,J 0]=some (if(b2 (kE m) m.defs.length 0).2=0 then .inl [A,iC,a6 m.vars,aE m.defs,au m.init,au m.bh,aE m.next,au m.trans,au m.fair,bo m.specs,J 0,J 0] else .inr (.inr (.inr (.inr (da (2,b2 (kE m) m.defs.length 0)))))):=by
 have ak:=hm.hP
 have bV:=hm.bc.dl
 refine k3 (f:=gP n) (fun i=>[D.dh 152 (aE m.defs),A,iC,J m.defs.length,J (i:Int),a6 m.vars,aE m.defs,au m.init,au m.bh,aE m.next,au m.trans,au m.fair,bo m.specs,J 0,J 0]) (kE m) (m.defs.length) _ (fun p=> .inr (.inr (.inr (da (2,p))))) ?_ ?_ _ 0 n (by omega) (by omega)
 ·intro i ag
  have bQ:=decide_eq_true (show((i:Int)<((m.defs.length:Nat):Int)) by omega)
  have hw:=apy n m hm.bc.d i ag (by omega)
  change y6 n [_,m.d,J (i:Int)]=some (J (kE m i)) at hw
  by_cases aj:kE m i=0
  ·have c4:(kE m i !=0)=false:=by simp [aj]
   rw [if_pos aj]
   simp only [gP,go_sem,bQ,g0,II,IJ,al.eta,hw,c4,cj (bt:=false) (i:=i) (by omega)]
  ·have c4:(kE m i !=0)=true:=by simpa using aj
   rw [if_neg aj]
   simp only [gP,go_sem,bQ,g0,II,IJ,al.eta,hw,c4,Ha,Tu,da]
 ·simp only [gP,go_sem,decide_eq_false (show¬(((m.defs.length:Nat):Int)<((m.defs.length:Nat):Int)) by omega)]
theorem ap6(A iC:D):bm (gP n) n [D.dh 153 (aE m.defs),A,iC,J m.defs.length,J 0,a6 m.vars,aE m.defs,au m.init,au m.bh,aE m.next,au m.trans,au m.fair,bo m.specs,J 0,J 0]=some (if(b2 (kd m) m.defs.length 0).2=0 then .inl [A,iC,a6 m.vars,aE m.defs,au m.init,au m.bh,aE m.next,au m.trans,au m.fair,bo m.specs,J 0,J 0] else .inr (.inr (.inr (.inr (da (2,b2 (kd m) m.defs.length 0)))))):=by
 have ak:=hm.hP
 have bV:=hm.bc.dl
 refine k3 (f:=gP n) (fun i=>[D.dh 153 (aE m.defs),A,iC,J m.defs.length,J (i:Int),a6 m.vars,aE m.defs,au m.init,au m.bh,aE m.next,au m.trans,au m.fair,bo m.specs,J 0,J 0]) (kd m) (m.defs.length) _ (fun p=> .inr (.inr (.inr (da (2,p))))) ?_ ?_ _ 0 n (by omega) (by omega)
 ·intro i ag
  have bQ:=decide_eq_true (show((i:Int)<((m.defs.length:Nat):Int)) by omega)
  have hw:=apD hm i ag
  change y5 n [_,m.d,J (i:Int)]=some (J (kd m i)) at hw
  by_cases aj:kd m i=0
  ·have c4:(kd m i !=0)=false:=by simp [aj]
   rw [if_pos aj]
   simp only [gP,go_sem,bQ,g0,IK,IL,IM,al.eta,hw,c4,cj (bt:=false) (i:=i) (by omega)]
  ·have c4:(kd m i !=0)=true:=by simpa using aj
   rw [if_neg aj]
   simp only [gP,go_sem,bQ,g0,IK,IL,IM,al.eta,hw,c4,G9,Tt,da]
 ·simp only [gP,go_sem,decide_eq_false (show¬(((m.defs.length:Nat):Int)<((m.defs.length:Nat):Int)) by omega)]
theorem I0(l:List Tm)(an:l.length≤100∧∀t∈l,t.b1∧t.bc≤12300)(k:Int)(nx:Bool)(A iC:D):bm (gP n) n [D.dh 155 (D.agg [J k,au l,ar nx]),A,iC,J l.length,J 0,a6 m.vars,aE m.defs,au m.init,au m.bh,aE m.next,au m.trans,au m.fair,bo m.specs,J 0,J 0]=some (if(b2 (dX m l nx) l.length 0).2=0 then .inl [A,iC,a6 m.vars,aE m.defs,au m.init,au m.bh,aE m.next,au m.trans,au m.fair,bo m.specs,J 0,J 0] else .inr (.inr (.inr (.inr (da (k,b2 (dX m l nx) l.length 0)))))):=by
 have ak:=hm.hP
 have bV:=an.1
 have ap7:aa (D.agg [J k,au l,ar nx]) 0=J k:=rfl
 have ap8:aK 3 (D.agg [J k,au l,ar nx])=true:=rfl
 refine k3 (f:=gP n) (fun i=>[D.dh 155 (D.agg [J k,au l,ar nx]),A,iC,J l.length,J (i:Int),a6 m.vars,aE m.defs,au m.init,au m.bh,aE m.next,au m.trans,au m.fair,bo m.specs,J 0,J 0]) (dX m l nx) (l.length) _ (fun p=> .inr (.inr (.inr (da (k,p))))) ?_ ?_ _ 0 n (by omega) (by omega)
 ·intro i ag
  have bQ:=decide_eq_true (show((i:Int)<((l.length:Nat):Int)) by omega)
  have hw:=apE hm l an.2 k nx i ag
  change y4 n [_,m.d,J (i:Int)]=some (J (dX m l nx i)) at hw
  by_cases aj:dX m l nx i=0
  ·have c4:(dX m l nx i !=0)=false:=by simp [aj]
   rw [if_pos aj]
   simp only [gP,go_sem,bQ,g0,q9,ra,rb,re,al.eta,hw,c4,cj (bt:=false) (i:=i) (by omega)]
  ·have c4:(dX m l nx i !=0)=true:=by simpa using aj
   rw [if_neg aj]
   simp only [gP,go_sem,bQ,g0,q9,ra,rb,re,al.eta,hw,c4,G8,Ts,ap7,ap8,da]
 ·simp only [gP,go_sem,decide_eq_false (show¬(((l.length:Nat):Int)<((l.length:Nat):Int)) by omega)]
theorem ap9(A iC:D):bm (gP n) n [D.dh 156 (aE m.next),A,iC,J m.next.length,J 0,a6 m.vars,aE m.defs,au m.init,au m.bh,aE m.next,au m.trans,au m.fair,bo m.specs,J 0,J 0]=some (if(b2 (hY m) m.next.length 0).2=0 then .inl [A,iC,a6 m.vars,aE m.defs,au m.init,au m.bh,aE m.next,au m.trans,au m.fair,bo m.specs,J 0,J 0] else .inr (.inr (.inr (.inr (da (5,b2 (hY m) m.next.length 0)))))):=by
 have ak:=hm.hP
 have bV:=hm.next.1
 refine k3 (f:=gP n) (fun i=>[D.dh 156 (aE m.next),A,iC,J m.next.length,J (i:Int),a6 m.vars,aE m.defs,au m.init,au m.bh,aE m.next,au m.trans,au m.fair,bo m.specs,J 0,J 0]) (hY m) (m.next.length) _ (fun p=> .inr (.inr (.inr (da (5,p))))) ?_ ?_ _ 0 n (by omega) (by omega)
 ·intro i ag
  have bQ:=decide_eq_true (show((i:Int)<((m.next.length:Nat):Int)) by omega)
  have hw:=apF hm i ag
  change tC n [_,m.d,J (i:Int)]=some (J (hY m i)) at hw
  by_cases aj:hY m i=0
  ·have c4:(hY m i !=0)=false:=by simp [aj]
   rw [if_pos aj]
   simp only [gP,go_sem,bQ,g0,IN,IP,IQ,IS,IT,al.eta,hw,c4,cj (bt:=false) (i:=i) (by omega)]
  ·have c4:(hY m i !=0)=true:=by simpa using aj
   rw [if_neg aj]
   simp only [gP,go_sem,bQ,g0,IN,IP,IQ,IS,IT,al.eta,hw,c4,G7,Tr,da]
 ·simp only [gP,go_sem,decide_eq_false (show¬(((m.next.length:Nat):Int)<((m.next.length:Nat):Int)) by omega)]
theorem aqa(A iC:D):bm (gP n) n [D.dh 157 (bo m.specs),A,iC,J m.specs.length,J 0,a6 m.vars,aE m.defs,au m.init,au m.bh,aE m.next,au m.trans,au m.fair,bo m.specs,J 0,J 0]=some (if(b2 (hZ m) m.specs.length 0).2=0 then .inl [A,iC,a6 m.vars,aE m.defs,au m.init,au m.bh,aE m.next,au m.trans,au m.fair,bo m.specs,J 0,J 0] else .inr (.inr (.inr (.inr (da (8,b2 (hZ m) m.specs.length 0)))))):=by
 have ak:=hm.hP
 have bV:=hm.specs.1
 refine k3 (f:=gP n) (fun i=>[D.dh 157 (bo m.specs),A,iC,J m.specs.length,J (i:Int),a6 m.vars,aE m.defs,au m.init,au m.bh,aE m.next,au m.trans,au m.fair,bo m.specs,J 0,J 0]) (hZ m) (m.specs.length) _ (fun p=> .inr (.inr (.inr (da (8,p))))) ?_ ?_ _ 0 n (by omega) (by omega)
 ·intro i ag
  have bQ:=decide_eq_true (show((i:Int)<((m.specs.length:Nat):Int)) by omega)
  have hw:=apG hm i ag
  change rY n [_,m.d,J (i:Int)]=some (J (hZ m i)) at hw
  by_cases aj:hZ m i=0
  ·have c4:(hZ m i !=0)=false:=by simp [aj]
   rw [if_pos aj]
   simp only [gP,go_sem,bQ,g0,IU,IV,IW,IX,IY,IZ,al.eta,hw,c4,cj (bt:=false) (i:=i) (by omega)]
  ·have c4:(hZ m i !=0)=true:=by simpa using aj
   rw [if_neg aj]
   simp only [gP,go_sem,bQ,g0,IU,IV,IW,IX,IY,IZ,al.eta,hw,c4,G6,Tq,da]
 ·simp only [gP,go_sem,decide_eq_false (show¬(((m.specs.length:Nat):Int)<((m.specs.length:Nat):Int)) by omega)]
theorem aqb:gG n [fs m,J 0,a6 m.vars,aE m.defs,au m.init,au m.bh,aE m.next,au m.trans,au m.fair,bo m.specs,J 0,J 0]=some (if(b2 (kc m) m.defs.length 0).2=0 then .inl [fs m,J 1,a6 m.vars,aE m.defs,au m.init,au m.bh,aE m.next,au m.trans,au m.fair,bo m.specs,J 0,J 0] else .inr (.inr (da (2,b2 (kc m) m.defs.length 0)))):=by
 have ey:=ap4 hm (fs m) (J 0)
 have bQ:decide ((0:Int)<9)=true:=rfl
 have ea:cG 9 (J 0)=some 0:=rfl
 have a4:jR false 1 (0*1) (fs m)=some (D.dh 151 (aE m.defs)):=rfl
 have hD:B2 n [aE m.defs]=some (J m.defs.length):=by simp only [B2,S6,go_sem,dy]
 have fc:binP false .add (J 0) (J 1)=some (J 1):=dY (by decide) (by decide)
 by_cases aj:(b2 (kc m) m.defs.length 0).2=0
 ·rw [if_pos aj] at ey⊢
  simp only [gG,go_sem,bQ,ea,a4,g0,IH,hD,ey,fc]
 ·rw [if_neg aj] at ey⊢
  simp only [gG,go_sem,bQ,ea,a4,g0,IH,hD,ey]
theorem aqc:gG n [fs m,J 1,a6 m.vars,aE m.defs,au m.init,au m.bh,aE m.next,au m.trans,au m.fair,bo m.specs,J 0,J 0]=some (if(b2 (kE m) m.defs.length 0).2=0 then .inl [fs m,J 2,a6 m.vars,aE m.defs,au m.init,au m.bh,aE m.next,au m.trans,au m.fair,bo m.specs,J 0,J 0] else .inr (.inr (da (2,b2 (kE m) m.defs.length 0)))):=by
 have ey:=ap5 hm (fs m) (J 1)
 have bQ:decide ((1:Int)<9)=true:=rfl
 have ea:cG 9 (J 1)=some 1:=rfl
 have a4:jR false 1 (1*1) (fs m)=some (D.dh 152 (aE m.defs)):=rfl
 have hD:B1 n [aE m.defs]=some (J m.defs.length):=by simp only [B1,S5,go_sem,dy]
 have fc:binP false .add (J 1) (J 1)=some (J 2):=dY (by decide) (by decide)
 by_cases aj:(b2 (kE m) m.defs.length 0).2=0
 ·rw [if_pos aj] at ey⊢
  simp only [gG,go_sem,bQ,ea,a4,g0,II,IJ,hD,ey,fc]
 ·rw [if_neg aj] at ey⊢
  simp only [gG,go_sem,bQ,ea,a4,g0,II,IJ,hD,ey]
theorem aqd:gG n [fs m,J 2,a6 m.vars,aE m.defs,au m.init,au m.bh,aE m.next,au m.trans,au m.fair,bo m.specs,J 0,J 0]=some (if(b2 (kd m) m.defs.length 0).2=0 then .inl [fs m,J 3,a6 m.vars,aE m.defs,au m.init,au m.bh,aE m.next,au m.trans,au m.fair,bo m.specs,J 0,J 0] else .inr (.inr (da (2,b2 (kd m) m.defs.length 0)))):=by
 have ey:=ap6 hm (fs m) (J 2)
 have bQ:decide ((2:Int)<9)=true:=rfl
 have ea:cG 9 (J 2)=some 2:=rfl
 have a4:jR false 1 (2*1) (fs m)=some (D.dh 153 (aE m.defs)):=rfl
 have hD:B0 n [aE m.defs]=some (J m.defs.length):=by simp only [B0,S4,go_sem,dy]
 have fc:binP false .add (J 2) (J 1)=some (J 3):=dY (by decide) (by decide)
 by_cases aj:(b2 (kd m) m.defs.length 0).2=0
 ·rw [if_pos aj] at ey⊢
  simp only [gG,go_sem,bQ,ea,a4,g0,IK,IL,IM,hD,ey,fc]
 ·rw [if_neg aj] at ey⊢
  simp only [gG,go_sem,bQ,ea,a4,g0,IK,IL,IM,hD,ey]
theorem aqe:gG n [fs m,J 3,a6 m.vars,aE m.defs,au m.init,au m.bh,aE m.next,au m.trans,au m.fair,bo m.specs,J 0,J 0]=some (if(b2 (dX m m.init false) m.init.length 0).2=0 then .inl [fs m,J 4,a6 m.vars,aE m.defs,au m.init,au m.bh,aE m.next,au m.trans,au m.fair,bo m.specs,J 0,J 0] else .inr (.inr (da (3,b2 (dX m m.init false) m.init.length 0)))):=by
 have ey:=I0 hm m.init hm.init 3 false (fs m) (J 3)
 have bQ:decide ((3:Int)<9)=true:=rfl
 have ea:cG 9 (J 3)=some 3:=rfl
 have a4:jR false 1 (3*1) (fs m)=some (D.dh 155 (D.agg [J 3,au m.init,ar false])):=rfl
 have hD:ph n [D.agg [J 3,au m.init,ar false]]=some (J m.init.length):=by
  have ay:aK 3 (D.agg [J 3,au m.init,ar false])=true:=rfl
  have aZ:aa (D.agg [J 3,au m.init,ar false]) 1=au m.init:=rfl
  simp only [ph,BZ,go_sem,ay,aZ,g8]
 have fc:binP false .add (J 3) (J 1)=some (J 4):=dY (by decide) (by decide)
 by_cases aj:(b2 (dX m m.init false) m.init.length 0).2=0
 ·rw [if_pos aj] at ey⊢
  simp only [gG,go_sem,bQ,ea,a4,g0,q9,ra,rb,re,hD,ey,fc]
 ·rw [if_neg aj] at ey⊢
  simp only [gG,go_sem,bQ,ea,a4,g0,q9,ra,rb,re,hD,ey]
theorem aqf:gG n [fs m,J 4,a6 m.vars,aE m.defs,au m.init,au m.bh,aE m.next,au m.trans,au m.fair,bo m.specs,J 0,J 0]=some (if(b2 (dX m m.bh false) m.bh.length 0).2=0 then .inl [fs m,J 5,a6 m.vars,aE m.defs,au m.init,au m.bh,aE m.next,au m.trans,au m.fair,bo m.specs,J 0,J 0] else .inr (.inr (da (4,b2 (dX m m.bh false) m.bh.length 0)))):=by
 have ey:=I0 hm m.bh hm.bh 4 false (fs m) (J 4)
 have bQ:decide ((4:Int)<9)=true:=rfl
 have ea:cG 9 (J 4)=some 4:=rfl
 have a4:jR false 1 (4*1) (fs m)=some (D.dh 155 (D.agg [J 4,au m.bh,ar false])):=rfl
 have hD:ph n [D.agg [J 4,au m.bh,ar false]]=some (J m.bh.length):=by
  have ay:aK 3 (D.agg [J 4,au m.bh,ar false])=true:=rfl
  have aZ:aa (D.agg [J 4,au m.bh,ar false]) 1=au m.bh:=rfl
  simp only [ph,BZ,go_sem,ay,aZ,g8]
 have fc:binP false .add (J 4) (J 1)=some (J 5):=dY (by decide) (by decide)
 by_cases aj:(b2 (dX m m.bh false) m.bh.length 0).2=0
 ·rw [if_pos aj] at ey⊢
  simp only [gG,go_sem,bQ,ea,a4,g0,q9,ra,rb,re,hD,ey,fc]
 ·rw [if_neg aj] at ey⊢
  simp only [gG,go_sem,bQ,ea,a4,g0,q9,ra,rb,re,hD,ey]
theorem aqg:gG n [fs m,J 5,a6 m.vars,aE m.defs,au m.init,au m.bh,aE m.next,au m.trans,au m.fair,bo m.specs,J 0,J 0]=some (if(b2 (hY m) m.next.length 0).2=0 then .inl [fs m,J 6,a6 m.vars,aE m.defs,au m.init,au m.bh,aE m.next,au m.trans,au m.fair,bo m.specs,J 0,J 0] else .inr (.inr (da (5,b2 (hY m) m.next.length 0)))):=by
 have ey:=ap9 hm (fs m) (J 5)
 have bQ:decide ((5:Int)<9)=true:=rfl
 have ea:cG 9 (J 5)=some 5:=rfl
 have a4:jR false 1 (5*1) (fs m)=some (D.dh 156 (aE m.next)):=rfl
 have hD:BY n [aE m.next]=some (J m.next.length):=by simp only [BY,S3,go_sem,dy]
 have fc:binP false .add (J 5) (J 1)=some (J 6):=dY (by decide) (by decide)
 by_cases aj:(b2 (hY m) m.next.length 0).2=0
 ·rw [if_pos aj] at ey⊢
  simp only [gG,go_sem,bQ,ea,a4,g0,IN,IP,IQ,IS,IT,hD,ey,fc]
 ·rw [if_neg aj] at ey⊢
  simp only [gG,go_sem,bQ,ea,a4,g0,IN,IP,IQ,IS,IT,hD,ey]
theorem aqh:gG n [fs m,J 6,a6 m.vars,aE m.defs,au m.init,au m.bh,aE m.next,au m.trans,au m.fair,bo m.specs,J 0,J 0]=some (if(b2 (dX m m.trans true) m.trans.length 0).2=0 then .inl [fs m,J 7,a6 m.vars,aE m.defs,au m.init,au m.bh,aE m.next,au m.trans,au m.fair,bo m.specs,J 0,J 0] else .inr (.inr (da (6,b2 (dX m m.trans true) m.trans.length 0)))):=by
 have ey:=I0 hm m.trans hm.trans 6 true (fs m) (J 6)
 have bQ:decide ((6:Int)<9)=true:=rfl
 have ea:cG 9 (J 6)=some 6:=rfl
 have a4:jR false 1 (6*1) (fs m)=some (D.dh 155 (D.agg [J 6,au m.trans,ar true])):=rfl
 have hD:ph n [D.agg [J 6,au m.trans,ar true]]=some (J m.trans.length):=by
  have ay:aK 3 (D.agg [J 6,au m.trans,ar true])=true:=rfl
  have aZ:aa (D.agg [J 6,au m.trans,ar true]) 1=au m.trans:=rfl
  simp only [ph,BZ,go_sem,ay,aZ,g8]
 have fc:binP false .add (J 6) (J 1)=some (J 7):=dY (by decide) (by decide)
 by_cases aj:(b2 (dX m m.trans true) m.trans.length 0).2=0
 ·rw [if_pos aj] at ey⊢
  simp only [gG,go_sem,bQ,ea,a4,g0,q9,ra,rb,re,hD,ey,fc]
 ·rw [if_neg aj] at ey⊢
  simp only [gG,go_sem,bQ,ea,a4,g0,q9,ra,rb,re,hD,ey]
theorem aqi:gG n [fs m,J 7,a6 m.vars,aE m.defs,au m.init,au m.bh,aE m.next,au m.trans,au m.fair,bo m.specs,J 0,J 0]=some (if(b2 (dX m m.fair false) m.fair.length 0).2=0 then .inl [fs m,J 8,a6 m.vars,aE m.defs,au m.init,au m.bh,aE m.next,au m.trans,au m.fair,bo m.specs,J 0,J 0] else .inr (.inr (da (7,b2 (dX m m.fair false) m.fair.length 0)))):=by
 have ey:=I0 hm m.fair hm.fair 7 false (fs m) (J 7)
 have bQ:decide ((7:Int)<9)=true:=rfl
 have ea:cG 9 (J 7)=some 7:=rfl
 have a4:jR false 1 (7*1) (fs m)=some (D.dh 155 (D.agg [J 7,au m.fair,ar false])):=rfl
 have hD:ph n [D.agg [J 7,au m.fair,ar false]]=some (J m.fair.length):=by
  have ay:aK 3 (D.agg [J 7,au m.fair,ar false])=true:=rfl
  have aZ:aa (D.agg [J 7,au m.fair,ar false]) 1=au m.fair:=rfl
  simp only [ph,BZ,go_sem,ay,aZ,g8]
 have fc:binP false .add (J 7) (J 1)=some (J 8):=dY (by decide) (by decide)
 by_cases aj:(b2 (dX m m.fair false) m.fair.length 0).2=0
 ·rw [if_pos aj] at ey⊢
  simp only [gG,go_sem,bQ,ea,a4,g0,q9,ra,rb,re,hD,ey,fc]
 ·rw [if_neg aj] at ey⊢
  simp only [gG,go_sem,bQ,ea,a4,g0,q9,ra,rb,re,hD,ey]
theorem aqj:gG n [fs m,J 8,a6 m.vars,aE m.defs,au m.init,au m.bh,aE m.next,au m.trans,au m.fair,bo m.specs,J 0,J 0]=some (if(b2 (hZ m) m.specs.length 0).2=0 then .inl [fs m,J 9,a6 m.vars,aE m.defs,au m.init,au m.bh,aE m.next,au m.trans,au m.fair,bo m.specs,J 0,J 0] else .inr (.inr (da (8,b2 (hZ m) m.specs.length 0)))):=by
 have ey:=aqa hm (fs m) (J 8)
 have bQ:decide ((8:Int)<9)=true:=rfl
 have ea:cG 9 (J 8)=some 8:=rfl
 have a4:jR false 1 (8*1) (fs m)=some (D.dh 157 (bo m.specs)):=rfl
 have hD:BX n [bo m.specs]=some (J m.specs.length):=by simp only [BX,S2,go_sem,g9]
 have fc:binP false .add (J 8) (J 1)=some (J 9):=dY (by decide) (by decide)
 by_cases aj:(b2 (hZ m) m.specs.length 0).2=0
 ·rw [if_pos aj] at ey⊢
  simp only [gG,go_sem,bQ,ea,a4,g0,IU,IV,IW,IX,IY,IZ,hD,ey,fc]
 ·rw [if_neg aj] at ey⊢
  simp only [gG,go_sem,bQ,ea,a4,g0,IU,IV,IW,IX,IY,IZ,hD,ey]
theorem aqk:bm (gG n) n [fs m,J 0,a6 m.vars,aE m.defs,au m.init,au m.bh,aE m.next,au m.trans,au m.fair,bo m.specs,J 0,J 0]=some (if(gR (lF m)).2.2=0 then .inl [J 0,J 0] else .inr (da (gR (lF m)))):=by
 have ak:=hm.hP
 refine Yc (f:=gG n) (lF m) (fun i=>[fs m,J (i:Int),a6 m.vars,aE m.defs,au m.init,au m.bh,aE m.next,au m.trans,au m.fair,bo m.specs,J 0,J 0]) [J 0,J 0] da ?_ ?_ n (by show 9<n;omega)
 ·intro i a aB
  match i,aB with
  |0,aB=>cases aB;exact aqb hm
  |1,aB=>cases aB;exact aqc hm
  |2,aB=>cases aB;exact aqd hm
  |3,aB=>cases aB;exact aqe hm
  |4,aB=>cases aB;exact aqf hm
  |5,aB=>cases aB;exact aqg hm
  |6,aB=>cases aB;exact aqh hm
  |7,aB=>cases aB;exact aqi hm
  |8,aB=>cases aB;exact aqj hm
  |j+9,aB=>cases aB
 ·show gG n [fs m,J 9,a6 m.vars,aE m.defs,au m.init,au m.bh,aE m.next,au m.trans,au m.fair,bo m.specs,J 0,J 0]=_
  simp only [gG,go_sem,show decide ((9:Int)<9)=false from rfl]
theorem aql:oi n [m.d]=some (da (js m)):=by
 have ak:=hm.hP
 have ae:=ap1 hm
 have nP:=aqk hm
 have gn:=aoV n m.vars hm.kD (by have:=hm.bc.hX;omega) hm.X6
 have gf:=apW n m hm.kD hm.bc.hX (by omega)
 have ht:D.agg [J (m.vars.length:Int),J (m.defs.length:Int),J (m.init.length:Int),J (m.bh.length:Int),J (m.next.length:Int),J (m.trans.length:Int),J (m.fair.length:Int),J (m.specs.length:Int)]=q8 m:=rfl
 have Yg:D.agg [.dh 151 (aE m.defs),.dh 152 (aE m.defs),.dh 153 (aE m.defs),.dh 155 (.agg [J 3,au m.init,ar false]),.dh 155 (.agg [J 4,au m.bh,ar false]),.dh 156 (aE m.next),.dh 155 (.agg [J 6,au m.trans,ar true]),.dh 155 (.agg [J 7,au m.fair,ar false]),.dh 157 (bo m.specs)]=fs m:=rfl
 have Yh:∀l,bA (au l)=true:=fun _=>rfl
 have ef:∀t x,bA (D.dh t x)=true:=fun _ _=>rfl
 unfold js
 by_cases bb:(b2 (gZ m) 8 0).2=0
 case neg=>
  rw [if_neg bb] at ae⊢
  simp only [oi,wi,go_sem,al.agg,al.aL,al.bb,al.bl,al.bs,al.cf,al.cB,al.cC,al.cK,al.eta,fw,dy,g8,g9,ht,ae]
 rw [if_pos bb] at ae⊢
 by_cases bl:(jQ m.vars).2=0
 case neg=>
  have p0:((jQ m.vars).2 !=0)=true:=by simpa using bl
  rw [if_neg bl]
  simp only [oi,wi,go_sem,al.agg,al.aL,al.bb,al.bl,al.bs,al.cf,al.cB,al.cC,al.cK,al.eta,fw,dy,g8,g9,ht,ae,gn,p0,da]
 have p0:((jQ m.vars).2 !=0)=false:=by simp [bl]
 rw [if_pos bl]
 by_cases bs:30<lE m.vars
 ·have sw:=decide_eq_true (show((lE m.vars:Nat):Int)>30 by omega)
  rw [if_pos bs]
  simp only [oi,wi,go_sem,al.agg,al.aL,al.bb,al.bl,al.bs,al.cf,al.cB,al.cC,al.cK,al.eta,fw,dy,g8,g9,ht,ae,gn,p0,gf,sw,da]
 have sw:=decide_eq_false (show¬((lE m.vars:Nat):Int)>30 by omega)
 rw [if_neg bs]
 by_cases cf:(gR (lF m)).2.2=0
 ·rw [if_pos cf] at nP
  rw [Yf _ cf]
  simp only [oi,wi,go_sem,al.agg,al.aL,al.bb,al.bl,al.bs,al.cf,al.cB,al.cC,al.cK,al.eta,fw,dy,g8,g9,ht,ae,gn,p0,gf,sw,Yh,ef,Yg,nP,da]
 ·rw [if_neg cf] at nP
  simp only [oi,wi,go_sem,al.agg,al.aL,al.bb,al.bl,al.bs,al.cf,al.cB,al.cC,al.cK,al.eta,fw,dy,g8,g9,ht,ae,gn,p0,gf,sw,Yh,ef,Yg,nP]
theorem aqm(h:(pZ m).2=0):pZ m=(0,0):=by
 unfold pZ at h⊢
 obtain ⟨ad,ae⟩:=Yd.1 h
 obtain ⟨ay,aZ⟩:=Yd.1 ae
 rw [su,if_pos ad,su,if_pos ay,pY _ _ _ aZ]
theorem aqn:hN n [J 0,J 0,J 2,a6 m.vars,aE m.defs,au m.init,au m.bh,aE m.next,au m.trans,au m.fair,bo m.specs,J 0,J 0]=some (if(pZ m).2=0 then .inl [J 0,J 0,J 3,a6 m.vars,aE m.defs,au m.init,au m.bh,aE m.next,au m.trans,au m.fair,bo m.specs,J 0,J 0] else .inr (.inr (da (2,pZ m)))):=by
 have gM:=apP hm
 have bQ:decide ((2:Int)≤8)=true:=rfl
 have bk:((2:Int)==2)=true:=rfl
 have fc:binP false .add (J 2) (J 1)=some (J 3):=dY (by decide) (by decide)
 by_cases aj:(pZ m).2=0
 ·have bM:=aqm hm aj
  rw [bM] at gM⊢
  have gg:((0:Int) !=0)=false:=rfl
  simp only [hN,go_sem,bQ,bk,al.eta,gM,eT,gg,fc]
 ·rw [if_neg aj]
  generalize pZ m=p at*
  have c4:(p.2 !=0)=true:=by simpa using aj
  simp only [hN,go_sem,bQ,bk,al.eta,gM,eT,c4,da]
theorem aqo:hN n [J 0,J 0,J 3,a6 m.vars,aE m.defs,au m.init,au m.bh,aE m.next,au m.trans,au m.fair,bo m.specs,J 0,J 0]=some (if(b2 (dX m m.init false) m.init.length 0).2=0 then .inl [J 0,J 0,J 4,a6 m.vars,aE m.defs,au m.init,au m.bh,aE m.next,au m.trans,au m.fair,bo m.specs,J 0,J 0] else .inr (.inr (da (3,b2 (dX m m.init false) m.init.length 0)))):=by
 have gM:=IG hm m.init hm.init false
 have bQ:decide ((3:Int)≤8)=true:=rfl
 have bk:((3:Int)==2)=false:=rfl
 have bT:((3:Int)==3)=true:=rfl
 have fc:binP false .add (J 3) (J 1)=some (J 4):=dY (by decide) (by decide)
 by_cases aj:(b2 (dX m m.init false) m.init.length 0).2=0
 ·have bM:=pY _ _ _ aj
  rw [bM] at gM⊢
  have gg:((0:Int) !=0)=false:=rfl
  simp only [hN,go_sem,bQ,bk,bT,al.eta,gM,eT,gg,fc]
 ·rw [if_neg aj]
  generalize b2 (dX m m.init false) m.init.length 0=p at*
  have c4:(p.2 !=0)=true:=by simpa using aj
  simp only [hN,go_sem,bQ,bk,bT,al.eta,gM,eT,c4,da]
theorem aqp:hN n [J 0,J 0,J 4,a6 m.vars,aE m.defs,au m.init,au m.bh,aE m.next,au m.trans,au m.fair,bo m.specs,J 0,J 0]=some (if(b2 (dX m m.bh false) m.bh.length 0).2=0 then .inl [J 0,J 0,J 5,a6 m.vars,aE m.defs,au m.init,au m.bh,aE m.next,au m.trans,au m.fair,bo m.specs,J 0,J 0] else .inr (.inr (da (4,b2 (dX m m.bh false) m.bh.length 0)))):=by
 have gM:=IG hm m.bh hm.bh false
 have bQ:decide ((4:Int)≤8)=true:=rfl
 have bk:((4:Int)==2)=false:=rfl
 have bT:((4:Int)==3)=false:=rfl
 have db:((4:Int)==4)=true:=rfl
 have fc:binP false .add (J 4) (J 1)=some (J 5):=dY (by decide) (by decide)
 by_cases aj:(b2 (dX m m.bh false) m.bh.length 0).2=0
 ·have bM:=pY _ _ _ aj
  rw [bM] at gM⊢
  have gg:((0:Int) !=0)=false:=rfl
  simp only [hN,go_sem,bQ,bk,bT,db,al.eta,gM,eT,gg,fc]
 ·rw [if_neg aj]
  generalize b2 (dX m m.bh false) m.bh.length 0=p at*
  have c4:(p.2 !=0)=true:=by simpa using aj
  simp only [hN,go_sem,bQ,bk,bT,db,al.eta,gM,eT,c4,da]
theorem aqq:hN n [J 0,J 0,J 5,a6 m.vars,aE m.defs,au m.init,au m.bh,aE m.next,au m.trans,au m.fair,bo m.specs,J 0,J 0]=some (if(b2 (hY m) m.next.length 0).2=0 then .inl [J 0,J 0,J 6,a6 m.vars,aE m.defs,au m.init,au m.bh,aE m.next,au m.trans,au m.fair,bo m.specs,J 0,J 0] else .inr (.inr (da (5,b2 (hY m) m.next.length 0)))):=by
 have gM:=apS hm
 have bQ:decide ((5:Int)≤8)=true:=rfl
 have bk:((5:Int)==2)=false:=rfl
 have bT:((5:Int)==3)=false:=rfl
 have db:((5:Int)==4)=false:=rfl
 have dB:((5:Int)==5)=true:=rfl
 have fc:binP false .add (J 5) (J 1)=some (J 6):=dY (by decide) (by decide)
 by_cases aj:(b2 (hY m) m.next.length 0).2=0
 ·have bM:=pY _ _ _ aj
  rw [bM] at gM⊢
  have gg:((0:Int) !=0)=false:=rfl
  simp only [hN,go_sem,bQ,bk,bT,db,dB,al.eta,gM,eT,gg,fc]
 ·rw [if_neg aj]
  generalize b2 (hY m) m.next.length 0=p at*
  have c4:(p.2 !=0)=true:=by simpa using aj
  simp only [hN,go_sem,bQ,bk,bT,db,dB,al.eta,gM,eT,c4,da]
theorem aqr:hN n [J 0,J 0,J 6,a6 m.vars,aE m.defs,au m.init,au m.bh,aE m.next,au m.trans,au m.fair,bo m.specs,J 0,J 0]=some (if(b2 (dX m m.trans true) m.trans.length 0).2=0 then .inl [J 0,J 0,J 7,a6 m.vars,aE m.defs,au m.init,au m.bh,aE m.next,au m.trans,au m.fair,bo m.specs,J 0,J 0] else .inr (.inr (da (6,b2 (dX m m.trans true) m.trans.length 0)))):=by
 have gM:=IG hm m.trans hm.trans true
 have bQ:decide ((6:Int)≤8)=true:=rfl
 have bk:((6:Int)==2)=false:=rfl
 have bT:((6:Int)==3)=false:=rfl
 have db:((6:Int)==4)=false:=rfl
 have dB:((6:Int)==5)=false:=rfl
 have ei:((6:Int)==6)=true:=rfl
 have fc:binP false .add (J 6) (J 1)=some (J 7):=dY (by decide) (by decide)
 by_cases aj:(b2 (dX m m.trans true) m.trans.length 0).2=0
 ·have bM:=pY _ _ _ aj
  rw [bM] at gM⊢
  have gg:((0:Int) !=0)=false:=rfl
  simp only [hN,go_sem,bQ,bk,bT,db,dB,ei,al.eta,gM,eT,gg,fc]
 ·rw [if_neg aj]
  generalize b2 (dX m m.trans true) m.trans.length 0=p at*
  have c4:(p.2 !=0)=true:=by simpa using aj
  simp only [hN,go_sem,bQ,bk,bT,db,dB,ei,al.eta,gM,eT,c4,da]
theorem aqs:hN n [J 0,J 0,J 7,a6 m.vars,aE m.defs,au m.init,au m.bh,aE m.next,au m.trans,au m.fair,bo m.specs,J 0,J 0]=some (if(b2 (dX m m.fair false) m.fair.length 0).2=0 then .inl [J 0,J 0,J 8,a6 m.vars,aE m.defs,au m.init,au m.bh,aE m.next,au m.trans,au m.fair,bo m.specs,J 0,J 0] else .inr (.inr (da (7,b2 (dX m m.fair false) m.fair.length 0)))):=by
 have gM:=IG hm m.fair hm.fair false
 have bQ:decide ((7:Int)≤8)=true:=rfl
 have bk:((7:Int)==2)=false:=rfl
 have bT:((7:Int)==3)=false:=rfl
 have db:((7:Int)==4)=false:=rfl
 have dB:((7:Int)==5)=false:=rfl
 have ei:((7:Int)==6)=false:=rfl
 have p1:((7:Int)==7)=true:=rfl
 have fc:binP false .add (J 7) (J 1)=some (J 8):=dY (by decide) (by decide)
 by_cases aj:(b2 (dX m m.fair false) m.fair.length 0).2=0
 ·have bM:=pY _ _ _ aj
  rw [bM] at gM⊢
  have gg:((0:Int) !=0)=false:=rfl
  simp only [hN,go_sem,bQ,bk,bT,db,dB,ei,p1,al.eta,gM,eT,gg,fc]
 ·rw [if_neg aj]
  generalize b2 (dX m m.fair false) m.fair.length 0=p at*
  have c4:(p.2 !=0)=true:=by simpa using aj
  simp only [hN,go_sem,bQ,bk,bT,db,dB,ei,p1,al.eta,gM,eT,c4,da]
theorem aqt:hN n [J 0,J 0,J 8,a6 m.vars,aE m.defs,au m.init,au m.bh,aE m.next,au m.trans,au m.fair,bo m.specs,J 0,J 0]=some (if(b2 (hZ m) m.specs.length 0).2=0 then .inl [J 0,J 0,J 9,a6 m.vars,aE m.defs,au m.init,au m.bh,aE m.next,au m.trans,au m.fair,bo m.specs,J 0,J 0] else .inr (.inr (da (8,b2 (hZ m) m.specs.length 0)))):=by
 have gM:=apT hm
 have bQ:decide ((8:Int)≤8)=true:=rfl
 have bk:((8:Int)==2)=false:=rfl
 have bT:((8:Int)==3)=false:=rfl
 have db:((8:Int)==4)=false:=rfl
 have dB:((8:Int)==5)=false:=rfl
 have ei:((8:Int)==6)=false:=rfl
 have p1:((8:Int)==7)=false:=rfl
 have I1:((8:Int)==8)=true:=rfl
 have fc:binP false .add (J 8) (J 1)=some (J 9):=dY (by decide) (by decide)
 by_cases aj:(b2 (hZ m) m.specs.length 0).2=0
 ·have bM:=pY _ _ _ aj
  rw [bM] at gM⊢
  have gg:((0:Int) !=0)=false:=rfl
  simp only [hN,go_sem,bQ,bk,bT,db,dB,ei,p1,I1,al.eta,gM,eT,gg,fc]
 ·rw [if_neg aj]
  generalize b2 (hZ m) m.specs.length 0=p at*
  have c4:(p.2 !=0)=true:=by simpa using aj
  simp only [hN,go_sem,bQ,bk,bT,db,dB,ei,p1,I1,al.eta,gM,eT,c4,da]
theorem aqu:bm (hN n) n [J 0,J 0,J 2,a6 m.vars,aE m.defs,au m.init,au m.bh,aE m.next,au m.trans,au m.fair,bo m.specs,J 0,J 0]=some (if(gR (lF m)).2.2=0 then .inl [J 0,J 0] else .inr (da (gR (lF m)))):=by
 have ak:=hm.hP
 rw [←apZ]
 refine Yc (f:=hN n) (OD m) (fun i=>[J 0,J 0,J ((i+2:Nat):Int),a6 m.vars,aE m.defs,au m.init,au m.bh,aE m.next,au m.trans,au m.fair,bo m.specs,J 0,J 0]) [J 0,J 0] da ?_ ?_ n (by show 7<n;omega)
 ·intro i a aB
  match i,aB with
  |0,aB=>cases aB;exact aqn hm
  |1,aB=>cases aB;exact aqo hm
  |2,aB=>cases aB;exact aqp hm
  |3,aB=>cases aB;exact aqq hm
  |4,aB=>cases aB;exact aqr hm
  |5,aB=>cases aB;exact aqs hm
  |6,aB=>cases aB;exact aqt hm
  |j+7,aB=>cases aB
 ·show hN n [J 0,J 0,J 9,a6 m.vars,aE m.defs,au m.init,au m.bh,aE m.next,au m.trans,au m.fair,bo m.specs,J 0,J 0]=_
  simp only [hN,go_sem,show decide ((9:Int)≤8)=false from rfl]
theorem aqv:oo n [m.d]=some (da (js m)):=by
 have ak:=hm.hP
 have ae:=ap2 hm
 have nP:=aqu hm
 have gn:=ao2 n m.vars hm.kD (by have:=hm.bc.hX;omega) hm.X6
 have gf:=apX n m hm.kD hm.bc.hX (by omega)
 have ht:D.aC 1 [[J (m.vars.length:Int)],[J (m.defs.length:Int)],[J (m.init.length:Int)],[J (m.bh.length:Int)],[J (m.next.length:Int)],[J (m.trans.length:Int)],[J (m.fair.length:Int)],[J (m.specs.length:Int)]]=D.aC 1 ((gY m).map fun(k:Nat)=>[J (k:Int)]):=rfl
 unfold js
 by_cases bb:(b2 (gZ m) 8 0).2=0
 case neg=>
  rw [if_neg bb] at ae⊢
  simp only [oo,w7,go_sem,al.agg,al.aL,al.bb,al.bl,al.bs,al.cf,al.cB,al.cC,al.cK,al.eta,fw,dy,g8,g9,ht,ae]
 rw [if_pos bb] at ae⊢
 by_cases bl:(jQ m.vars).2=0
 case neg=>
  have p0:((jQ m.vars).2 !=0)=true:=by simpa using bl
  rw [if_neg bl]
  simp only [oo,w7,go_sem,al.agg,al.aL,al.bb,al.bl,al.bs,al.cf,al.cB,al.cC,al.cK,al.eta,fw,dy,g8,g9,ht,ae,gn,p0,da]
 rw [ap0 bl] at gn
 have p0:((0:Int) !=0)=false:=rfl
 rw [if_pos bl]
 by_cases bs:30<lE m.vars
 ·have sw:=decide_eq_true (show((lE m.vars:Nat):Int)>30 by omega)
  rw [if_pos bs]
  simp only [oo,w7,go_sem,al.agg,al.aL,al.bb,al.bl,al.bs,al.cf,al.cB,al.cC,al.cK,al.eta,fw,dy,g8,g9,ht,ae,gn,p0,gf,sw,da]
 have sw:=decide_eq_false (show¬((lE m.vars:Nat):Int)>30 by omega)
 rw [if_neg bs]
 by_cases cf:(gR (lF m)).2.2=0
 ·rw [if_pos cf] at nP
  rw [Yf _ cf]
  simp only [oo,w7,go_sem,al.agg,al.aL,al.bb,al.bl,al.bs,al.cf,al.cB,al.cC,al.cK,al.eta,fw,dy,g8,g9,ht,ae,gn,p0,gf,sw,nP,da]
 ·rw [if_neg cf] at nP
  simp only [oo,w7,go_sem,al.agg,al.aL,al.bb,al.bl,al.bs,al.cf,al.cB,al.cC,al.cK,al.eta,fw,dy,g8,g9,ht,ae,gn,p0,gf,sw,nP]
end
end Go.Am
namespace Go.Am
set_option linter.unusedVariables false
def xG(n:Nat):Ty:= .slice 4 56 (termTy n)
def EF(n:Nat):Ty:= .slice 7 104 (.struct [.str,formTy n])
def xH(n:Nat):Ty:= .struct [Gq,tu n,xG n,xG n,tu n,xG n,xG n,EF n]
theorem aqw(n:Nat):∀m,m≤n→(xG n).dp m=true
 |0,_=>rfl
 |m+1,h=>by
  have:=yG n m (by omega)
  simp only [xG,Ty.dp,this]
theorem aqx(n:Nat):∀m,m≤n→(EF n).dp m=true
 |0,_=>rfl
 |1,_=>by simp [EF,Ty.dp]
 |m+2,h=>by
  have ad:=Ly n m (by omega)
  have ae:Ty.dp m .str=true:=tq m .str rfl
  simp only [EF,Ty.dp,dpL,ad,ae,Bool.and_true]
theorem aqy(n:Nat):∀m,m≤n→(xH n).dp m=true
 |0,_=>rfl
 |m+1,h=>by
  have aq:Ty.dp m Gq=true:=tq m Gq rfl
  simp only [xH,Ty.dp,dpL,aq,SO n m (by omega),aqw n m (by omega),aqx n m (by omega),Bool.and_true]
theorem aqz{P:Program}{t tv td tt ts tm tf:TypeId}(h:∀a b c d e f g i,tyOk P (.struct [a,b,c,d,e,f,g,i]) t=(tyOk P a tv&&(tyOk P b td&&(tyOk P c tt&&(tyOk P d tt&&(tyOk P e td&&(tyOk P f tt&&(tyOk P g tt&&(tyOk P i ts&&true)))))))))
  (aM:tyOk P Gq tv=true) (ax:qt P tu td) (aG:∀y,tyOk P (.slice 4 56 y) tt=tyOk P y tm) (hm:qt P termTy tm) (az:∀y,tyOk P (.slice 7 104 (.struct [.str,y])) ts=(tyOk P y tf&&true)) (a4:qt P formTy tf) (an:decide (t<P.types.size)=true):qt P xH t:=
 ⟨fun n=>aqy n n (Nat.le_refl _),fun n=>by
  rw [xH,h,aM,ax.ok n,xG,aG,hm.ok n,EF,az,a4.ok n];rfl,of_decide_eq_true an,fun n=>rfl⟩
end Go.Am
namespace Go.Am
set_option linter.unusedVariables false
structure sx(m:al):Prop where
 v:∀x∈m.vars,V.ok x
 d:∀x∈m.defs,x.b1
 i:∀x∈m.init,x.b1
 oE:∀x∈m.bh,x.b1
 n:∀x∈m.next,x.b1
 t:∀x∈m.trans,x.b1
 f:∀x∈m.fair,x.b1
 s:∀x∈m.specs,x.name.size≤140737488351232∧x.f.b1
theorem aqA{n:Nat}{x:List D}(h:Wt (.struct [.str,formTy n]) x):∃d:cl,x=d.cells∧d.name.size≤140737488351232∧d.f.b1:=by
 obtain ⟨a,b,rfl,aB,c,e,rfl,aj,rfl⟩:=h
 obtain ⟨s,rfl,az⟩:=Gr aB
 obtain ⟨t,rfl,aG⟩:=SN n aj
 exact ⟨⟨s,t⟩,by simp [cl.cells,Fm.mR],az,aG⟩
end Go.Am
