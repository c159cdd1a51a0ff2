/- Laws, on data. No condition. -/
import Derived.Test.YtknmgdnhongcnaaGreatDoorEngC
import Derived.Test.YtknmgdnhongcnaaGreatDoorCode
import Derived.Test.YtknmgdnhongcnaaGreatDoorEngS
import Derived.Test.YtknmgdnhongcnaaGreatDoorEngD
import Derived.Test.YtknmgdnhongcnaaGreatDoorWs
import Derived.Test.YtknmgdnhongcnaaGreatDoorLaws
set_option linter.all false
set_option linter.unnecessarySimpa false
attribute [simp] Go.Am.vp
namespace Go.Am
set_option linter.unusedVariables false
set_option linter.unusedSimpArgs false
section
variable{bt:Bool}{a b:Int}
@[simp] theorem aue:binP bt .lss (np a) (.val (.int .u8 b))=some (au (decide (a<b))):=rfl
@[simp] theorem Iy:binP bt .leq (np a) (.val (.int .u8 b))=some (au (decide (a≤b))):=rfl
@[simp] theorem auf:binP bt .gtr (np a) (.val (.int .u8 b))=some (au (decide (a>b))):=rfl
@[simp] theorem Iz:binP bt .geq (np a) (.val (.int .u8 b))=some (au (decide (a≥b))):=rfl
@[simp] theorem aoC:binP bt .eql (np a) (.val (.int .u8 b))=some (au (a==b)):=rfl
end
theorem IA{s:ByteArray}{i:Nat}{b:UInt8}(h:s[i]?=some b):sixP (aJ s) (J (i:Int))=some (np b.toNat):=by
 simp [sixP,aJ,J,E6,h,toDo,np]
theorem Xp{s:ByteArray}{b:UInt8}(h:s[0]?=some b):sixP (aJ s) (J 0)=some (np b.toNat):=IA (i:=0) h
theorem Xq(n:Nat)(c:Int):vK n [np c]=some (au (qo c)):=by
 simp only [vK,SS,qo,Iz,Iy,db]
 cases decide (c≥97)<;>cases decide (c≤122)<;>cases decide (c≥65)<;>cases decide (c≤90)<;>rfl
theorem aoD(n:Nat)(c:Int):BS n [np c]=some (au (u5 c)):=by
 simp only [BS,SU,u5,Iz,Iy,db]
 cases decide (c≥48)<;>cases decide (c≤57)<;>rfl
theorem Xr(n:Nat)(c:Int):BT n [np c]=some (au (kT c)):=by
 simp only [BT,SV,kT,Xq,aoD,aoC,db]
 cases qo c<;>cases u5 c<;>cases (c==95)<;>rfl
theorem Xs(n:Nat)(c:Int):wV n [np c]=some (au (qo c)):=by
 simp only [wV,TT,qo,Iz,Iy,db]
 cases decide (c≥97)<;>cases decide (c≤122)<;>cases decide (c≥65)<;>cases decide (c≤90)<;>rfl
theorem aoE(n:Nat)(c:Int):Dn n [np c]=some (au (u5 c)):=by
 simp only [Dn,TU,u5,Iz,Iy,db]
 cases decide (c≥48)<;>cases decide (c≤57)<;>rfl
theorem Xt(p:Int→Bool)(s:ByteArray):(∀j:Nat,j<lW p s→mO p s j=true)∧mO p s (lW p s)=false∧lW p s≤s.size:=by
 unfold lW
 cases h:(List.range (s.size+1)).find? (fun i=>!mO p s i) with
 |none=>
  exfalso
  have ad:=List.find?_eq_none.1 h s.size (by simp)
  have:mO p s s.size=true:=by simpa using ad
  exact absurd (abM this) (Nat.lt_irrefl _)
 |some m=>
  rw [List.find?_range_eq_some] at h
  obtain ⟨ad,ae,ay⟩:=h
  refine ⟨fun j aH=>by simpa using ay j aH,by simpa using ad,by show m≤s.size;simp at ae;omega⟩
theorem Xu{p:Int→Bool}{s:ByteArray}{i:Nat}(h:mO p s i=true):∃b:UInt8,s[i]?=some b∧p b.toNat=true:=by
 unfold mO at h
 split at h
 ·exact ⟨_,by assumption,h⟩
 ·cases h
theorem Xv{p:Int→Bool}{s:ByteArray}{i:Nat}(h:mO p s i=false):(s[i]?=none∧s.size≤i)∨∃b:UInt8,s[i]?=some b∧i<s.size∧p b.toNat=false:=by
 unfold mO at h
 split at h
 ·rename_i b ak
  refine .inr ⟨b,ak,?_,h⟩
  rw [FW] at ak
  by_cases ad:i<s.size
  ·exact ad
  ·rw [dif_neg ad] at ak;cases ak
 ·rename_i ak
  refine .inl ⟨ak,?_⟩
  rw [FW] at ak
  by_cases ad:i<s.size
  ·rw [dif_pos ad] at ak;cases ak
  ·omega
theorem aoF(n:Nat)(s:ByteArray)(aI:s.size<n)(az:s.size≤9223372036854775807):yP n [aJ s,.val (.func (.func BK) #[] #[])]=some (J (lW kT s)):=by
 obtain ⟨ad,ae,ay⟩:=Xt kT s
 have key:bk (BU n) n [aJ s,J 0]=some (.inl [J (lW kT s)]):=by
  refine jM (fun i=>[aJ s,J i]) (lW kT s) rfl ?_ ?_ (by omega)
  ·intro i af
   obtain ⟨b,ak,aY⟩:=Xu (ad i af)
   simp (disch:=omega) [BU,IA ak,Xr,aY,ec,show i<s.size by omega]
  ·rcases Xv ae with⟨ak,aY⟩|⟨b,ak,bJ,aY⟩
   ·simp [BU,show¬(lW kT s<s.size) by omega]
   ·simp [BU,IA ak,Xr,aY,bJ]
 simp [yP,LG,key]
theorem aoG(n:Nat)(s:ByteArray)(aI:s.size<n)(az:s.size≤9223372036854775807):Dq n [aJ s,J 0,au false]=some (J (lW kT s)):=by
 obtain ⟨ad,ae,ay⟩:=Xt kT s
 have one:∀(i:Nat) (b:UInt8),s[i]?=some b→i<s.size→Dp n [aJ s,J i,au false]=if kT b.toNat=true then some (.inl [aJ s,J (i+1:Nat),au false]) else some (.inr (.inl [J i])):=by
  intro i b ak af
  simp (disch:=omega) [Dp,IA ak,aoE,Xs,kT,ec,af]
  by_cases aoH:((b.toNat:Int)=95)<;>cases u5 b.toNat<;>cases qo b.toNat<;>simp [aoH]
 have key:bk (Dp n) n [aJ s,J 0,au false]=some (.inl [J (lW kT s)]):=by
  refine jM (fun i=>[aJ s,J i,au false]) (lW kT s) rfl ?_ ?_ (by omega)
  ·intro i af
   obtain ⟨b,ak,aY⟩:=Xu (ad i af)
   rw [one i b ak (by omega),if_pos aY]
  ·rcases Xv ae with⟨ak,aY⟩|⟨b,ak,bJ,aY⟩
   ·simp [Dp,show¬(lW kT s<s.size) by omega]
   ·rw [one _ b ak bJ,if_neg (by simp [aY])]
 simp [Dq,TV,key]
theorem q9(p:Nat→Prop)[DecidablePred p]:∀m:Nat,(∀j:Nat,j<m→¬p j)∨∃i,i<m∧p i∧∀j:Nat,j<i→¬p j
 |0=> .inl (by intro j aH;omega)
 |m+1=>by
  rcases q9 p m with h|⟨i,ad,ae,ay⟩
  ·by_cases hm:p m
   ·exact .inr ⟨m,by omega,hm,h⟩
   ·refine .inl fun j aH=>?_
    by_cases aoI:j=m
    ·subst aoI;exact hm
    ·exact h j (by omega)
  ·exact .inr ⟨i,by omega,ae,ay⟩
theorem aoJ(n:Nat)(l:List ByteArray)(x:ByteArray)(aI:l.length<n)(aq:l.length<4000000000000000000):yR n [c1 l,aJ x]=some (J (idxOf x l)):=by
 have step:∀(i:Nat) (y:ByteArray),l[i]?=some y→i<l.length→yQ n [c1 l,aJ x,J l.length,J i]=if x=y then some (.inr (.inr (J i))) else some (.inl [c1 l,aJ x,J l.length,J (i+1:Nat)]):=by
  intro i y aN af
  obtain ⟨_,rfl⟩:=List.getElem?_eq_some_iff.1 aN
  simp (disch:=omega) [yQ,c1,aN,af,ec]
 rcases q9 (fun i=>l[i]?=some x) l.length with h|⟨i,ad,ae,ay⟩
 ·have key:bk (yQ n) n [c1 l,aJ x,J l.length,J 0]=some (.inl []):=by
   refine jM (fun i=>[c1 l,aJ x,J l.length,J i]) l.length rfl ?_ ?_ aI
   ·intro i af
    have aN:=List.getElem?_eq_getElem af
    rw [step i _ aN af,if_neg]
    intro he
    exact h i af (by rw [aN,he])
   ·simp [yQ]
  have e:(c1 l)= .aD 1 (l.map fun s=>[aJ s]):=rfl
  simp [yR,LH,QT h]
  rw [e] at key⊢
  simp [key]
 ·have key:bk (yQ n) n [c1 l,aJ x,J l.length,J 0]=some (.inr (J i)):=by
   refine jM (fun i=>[c1 l,aJ x,J l.length,J i]) i rfl ?_ ?_ (by omega)
   ·intro j aH
    have aN:=List.getElem?_eq_getElem (show j<l.length by omega)
    rw [step j _ aN (by omega),if_neg]
    intro he
    exact ay j aH (by rw [aN,he])
   ·rw [step i x ae ad,if_pos rfl]
  simp [yR,LH,QU ay ae]
  have e:(c1 l)= .aD 1 (l.map fun s=>[aJ s]):=rfl
  rw [e] at key⊢
  simp [key]
theorem aoK(n:Nat)(l:List ByteArray)(x:ByteArray)(aI:l.length<n)(aq:l.length<4000000000000000000):BV n [c1 l,aJ x]=some (au (has x l)):=by
 simp [BV,SW,aoJ n l x aI aq,QV]
theorem aoL(n:Nat)(l:List ByteArray)(x:ByteArray)(aI:l.length<n)(aq:l.length<4000000000000000000):zo n [c1 l,aJ x]=some (au (has x l)):=by
 have step:∀(i:Nat) (y:ByteArray),l[i]?=some y→i<l.length→zn n [c1 l,aJ x,J i]=if y=x then some (.inr (.inr (au true))) else some (.inl [c1 l,aJ x,J (i+1:Nat)]):=by
  intro i y aN af
  obtain ⟨_,rfl⟩:=List.getElem?_eq_some_iff.1 aN
  simp (disch:=omega) [zn,c1,aN,af,ec]
 rcases q9 (fun i=>l[i]?=some x) l.length with h|⟨i,ad,ae,ay⟩
 ·have key:bk (zn n) n [c1 l,aJ x,J 0]=some (.inl []):=by
   refine jM (fun i=>[c1 l,aJ x,J i]) l.length rfl ?_ ?_ aI
   ·intro i af
    have aN:=List.getElem?_eq_getElem af
    rw [step i _ aN af,if_neg]
    intro he
    exact h i af (by rw [aN,he])
   ·simp [zn,c1]
  simp [zo,MC,key,QX h]
 ·have key:bk (zn n) n [c1 l,aJ x,J 0]=some (.inr (au true)):=by
   refine jM (fun i=>[c1 l,aJ x,J i]) i rfl ?_ ?_ (by omega)
   ·intro j aH
    have aN:=List.getElem?_eq_getElem (show j<l.length by omega)
    rw [step j _ aN (by omega),if_neg]
    intro he
    exact ay j aH (by rw [aN,he])
   ·rw [step i x ae ad,if_pos rfl]
  simp [zo,MC,key,QW ae]
theorem aoM(n:Nat):Hu n []=some (c1 words):=rfl
theorem aoN:(D.aD 1 (BI.map fun c=>[c]))=c1 words:=rfl
theorem Of(n:Nat)(s:ByteArray)(aI:s.size+24<n)(az:s.size≤9223372036854775807):qD n [aJ s]=some (au (isName s)):=by
 have hw:words.length=24:=rfl
 have ad:=aoF n s (by omega) az
 have ae:=aoK n words s (by omega) (by omega)
 rcases QY s with⟨fp,bN⟩|⟨b,fp,bN,ak⟩
 ·simp [qD,LI,fp,isName,bN]
 ·simp only [qD,LI,isName,mO,ak,Xp ak,Xq,ad,ae,aoN,Se,fp,bN,Le,Gm,yB,yC,db]
  cases decide ((s.size:Int)≤24)<;>cases qo b.toNat<;>cases ((lW kT s:Int)==(s.size:Int))<;>cases has s words<;>rfl
theorem Og(n:Nat)(s:ByteArray)(aI:s.size+24<n)(az:s.size≤9223372036854775807):qT n [aJ s]=some (au (isName s)):=by
 have hw:words.length=24:=rfl
 have ad:=aoG n s (by omega) az
 have ae:=aoL n words s (by omega) (by omega)
 rcases QY s with⟨fp,bN⟩|⟨b,fp,bN,ak⟩
 ·simp only [qT,MD,Le,yA,db,bN]
  simp [isName,bN]
 ·simp only [qT,MD,isName,mO,ak,Xp ak,Xs,ad,ae,aoM,bN,Le,Gm,yA,yB,yC,db]
  cases decide ((s.size:Int)≤24)<;>cases qo b.toNat<;>cases ((lW kT s:Int)==(s.size:Int))<;>cases has s words<;>rfl
end Go.Am
namespace Go.Am
set_option linter.unusedVariables false
set_option linter.unusedSimpArgs false
theorem aoO(n:Nat)(w v:V):yS n [w.d,.ref v.cells 0]=some (au (decide (w.name=v.name))):=by
 simp [yS,LJ,V.d,V.cells]
theorem aoP(n:Nat)(l:List V)(v:V)(aI:l.length<n)(aq:l.length<4000000000000000000):
  vM n [a1 l,.fn (.func qy) [] [.ref v.cells 0]]=some (J (idxOf v.name (l.map V.name))):=by
 have hle:(l.map V.name).length=l.length:=by simp
 have step:∀(i:Nat) (y:V),l[i]?=some y→i<l.length→vL n [a1 l,.ref v.cells 0,J l.length,J i]=if y.name=v.name then some (.inr (.inr (J i))) else some (.inl [a1 l,.ref v.cells 0,J l.length,J (i+1:Nat)]):=by
  intro i y aN af
  obtain ⟨_,rfl⟩:=List.getElem?_eq_some_iff.1 aN
  have ad:=aoO n l[i] v
  simp only [V.d,V.cells] at ad
  simp (disch:=omega) [vL,a1,af,ec,V.cells,ad]
 have bB:∀x,vM n [a1 l,.fn (.func qy) [] [x]]=R (bk (vL n) n [a1 l,x,J l.length,J 0]) (a7 fun ls=>some (J (-1))):=by
  intro x
  simp only [vM,l4,LK]
  simp [a1]
 rw [bB]
 rcases q9 (fun i=>(l.map V.name)[i]?=some v.name) l.length with h|⟨i,ad,ae,ay⟩
 ·have key:bk (vL n) n [a1 l,.ref v.cells 0,J l.length,J 0]=some (.inl []):=by
   refine jM (fun i=>[a1 l,.ref v.cells 0,J l.length,J i]) l.length rfl ?_ ?_ aI
   ·intro i af
    have aN:=List.getElem?_eq_getElem af
    rw [step i _ aN af,if_neg]
    intro he
    exact h i af (by rw [List.getElem?_map,aN,←he];rfl)
   ·simp [vL]
  rw [key,QT (by rw [hle];exact h)]
  rfl
 ·have key:bk (vL n) n [a1 l,.ref v.cells 0,J l.length,J 0]=some (.inr (J i)):=by
   refine jM (fun i=>[a1 l,.ref v.cells 0,J l.length,J i]) i rfl ?_ ?_ (by omega)
   ·intro j aH
    have aN:=List.getElem?_eq_getElem (show j<l.length by omega)
    rw [step j _ aN (by omega),if_neg]
    intro he
    exact ay j aH (by rw [List.getElem?_map,aN,←he];rfl)
   ·have aN:=List.getElem?_eq_getElem ad
    rw [step i _ aN ad,if_pos]
    rw [List.getElem?_map,aN] at ae
    simpa using ae
  rw [key,QU ay ae]
  rfl
theorem aoQ(n:Nat)(l:List V)(v:V)(aI:l.length<n)(aq:l.length<4000000000000000000):
  yT n [a1 l,.fn (.func qy) [] [.ref v.cells 0]]=some (au (has v.name (l.map V.name))):=by
 simp only [yT,l4,LL,aoP n l v aI aq]
 simp [QV]
theorem Oh{k:Nat}{es:List (List D)}{i:Nat}(h:i≤es.length):ji k (.aD k es) none (some (J (i:Int)))=some (.aD k (es.take i)):=by
 simp [ji,oe,J,h]
def Oi(v:V):Bool:=v.bool&&(v.lo !=0||v.af !=0)
def Oj(v:V):Bool:=!v.bool&&(decide (v.lo>v.af)||tg v||decide (IntKind.i64.wrap (v.af-v.lo)≥64))
theorem Xw(seen:List V)(v:V):FX seen v=if !isName v.name then 12 else if has v.name (seen.map V.name) then 6 else if Oi v then 3 else if Oj v then 2 else 0:=rfl
def pZ(l:List V):Prop:=l.length<1000000000000∧∀v∈l,kS v.lo∧kS v.af∧v.name.size≤9223372036854775807
theorem Ok(n:Nat)(l:List V)(aq:pZ l)(aI:l.length<n)(je:∀v∈l,v.name.size+24<n)(i:Nat)(af:i<l.length):
  vN n [a1 l,a1 l,J l.length,J i]=if ia l i=0 then some (.inl [a1 l,a1 l,J l.length,J (i+1:Nat)]) else some (.inr (.inr (.aO [J i,J (ia l i)]))):=by
 have aN:=List.getElem?_eq_getElem af
 have aM:=aq.2 _ (List.getElem_mem af)
 have hlen:=aq.1
 have e:ia l i=FX (l.take i) l[i]:=by simp only [ia,aN]
 rw [e]
 generalize hw:l[i]=v at*
 have ad:=Of n v.name (je v (hw▸List.getElem_mem af)) (by omega)
 have ae:=aoQ n (l.take i) v (by rw [List.length_take];omega) (by rw [List.length_take];omega)
 have ay:ji 4 (a1 l) none (some (J (i:Int)))=some (a1 (l.take i)):=by
  rw [a1,Oh (by simp;omega),List.map_take.symm];rfl
 have aZ:a2 4 (a1 l) (J (i:Int))=some v.cells:=by simp [a1,aN,hw]
 have bG:binP false .lss (J (i:Int)) (J (l.length:Int))=some (au true):=by simp [af]
 have ch:binP false .add (J (i:Int)) (J 1)=some (J (i+1:Nat)):=by rw [ec (by omega) (by omega)];rfl
 have fi:binP false .sub (J v.af) (J v.lo)=some (J (IntKind.i64.wrap (v.af-v.lo))):=rfl
 have h0:aW true 4 0 v.cells=some v.d:=rfl
 have jg:aL 4 v.d=true:=rfl
 have aK:aa v.d 0=aJ v.name:=rfl
 have bb:aa v.d 1=au v.bool:=rfl
 have bp:aa v.d 2=J v.lo:=rfl
 have bs:aa v.d 3=J v.af:=rfl
 have cc:(D.ref [aJ v.name,au v.bool,J v.lo,J v.af] 0)= .ref v.cells 0:=rfl
 have a0:tg v=(decide ((if v.af>v.lo then v.af else v.lo)>255)||decide ((if v.af<v.lo then v.af else v.lo)< -255)):=rfl
 rw [Xw]
 simp only [vN,mU,oi,bG,db,jo,if_true,aZ,h0,jg,mT,aK,bb,bp,bs,cc,Ss,Su,ad,ae,ay,yC,l3,yz,Sv,tz,ch,fi,yA]
 rw [Oi,Oj,a0]
 cases isName v.name
 ·cases decide ((if v.af>v.lo then v.af else v.lo)>255)<;>simp
 cases has v.name ((l.take i).map V.name)
 rotate_left
 ·cases decide ((if v.af>v.lo then v.af else v.lo)>255)<;>simp
 generalize decide ((if v.af>v.lo then v.af else v.lo)>255)=eG
 generalize decide ((if v.af<v.lo then v.af else v.lo)< -255)=dR
 generalize decide (v.lo>v.af)=gH
 generalize decide (IntKind.i64.wrap (v.af-v.lo)≥64)=o1
 generalize (v.lo !=0)=u0
 generalize (v.af !=0)=u1
 cases v.bool<;>cases eG<;>cases dR<;>cases gH<;>cases o1<;>cases u0<;>cases u1<;>rfl
theorem aoR(n:Nat)(l:List V)(aq:pZ l)(aI:l.length<n)(je:∀v∈l,v.name.size+24<n):
  yU n [a1 l]=some (.aO [J (jZ l).1,J (jZ l).2]):=by
 have bB:yU n [a1 l]=R (bk (vN n) n [a1 l,a1 l,J l.length,J 0]) (a7 fun ls=>some (D.aO [J 0,J 0])):=by
  simp [yU,SX,a1]
 rw [bB]
 rcases q9 (fun i=>ia l i≠0) l.length with h|⟨i,ad,ae,ay⟩
 ·have bm:∀j:Nat,j<l.length→ia l j=0:=fun j aH=>by simpa using h j aH
  have key:bk (vN n) n [a1 l,a1 l,J l.length,J 0]=some (.inl []):=by
   refine jM (fun i=>[a1 l,a1 l,J l.length,J i]) l.length rfl ?_ ?_ aI
   ·intro i af
    rw [Ok n l aq aI je i af,if_pos (bm i af)]
   ·simp [vN]
  rw [key,Q0 bm]
  rfl
 ·have bm:∀j:Nat,j<i→ia l j=0:=fun j aH=>by simpa using ay j aH
  have key:bk (vN n) n [a1 l,a1 l,J l.length,J 0]=some (.inr (.aO [J i,J (ia l i)])):=by
   refine jM (fun i=>[a1 l,a1 l,J l.length,J i]) i rfl ?_ ?_ (by omega)
   ·intro j aH
    rw [Ok n l aq aI je j (by omega),if_pos (bm j aH)]
   ·rw [Ok n l aq aI je i ad,if_neg ae]
  rw [key,QZ bm ad rfl ae]
  rfl
@[simp] theorem Xx {a:Int}:cvP .u64 (J a)=some (.val (.int .u64 (IntKind.u64.wrap a))):=rfl
theorem IB{k:IntKind}{a:Int}:cvP .i64 (.val (.int k a))=some (J (IntKind.i64.wrap a)):=rfl
theorem aoS(n:Nat)(v:V)(ad:kS v.lo)(ae:kS v.af):BX n [v.d]=some (J v.span):=by
 have bb:aa v.d 1=au v.bool:=rfl
 have bp:aa v.d 2=J v.lo:=rfl
 have bs:aa v.d 3=J v.af:=rfl
 have jg:aL 4 v.d=true:=rfl
 simp only [BX,SY,jg,mT,bb,bp,bs,jo,l3,db,Xx,IB]
 cases ak:v.bool with
 |true=>simp [V.QR ak]
 |false=>
  by_cases bJ:v.lo>v.af
  ·simp [V.QS ak bJ,bJ]
  ·have hle:v.lo≤v.af:=by omega
   have aS:binP false .sub (.val (.int .u64 (IntKind.u64.wrap v.af))) (.val (.int .u64 (IntKind.u64.wrap v.lo)))=some (.val (.int .u64 (v.af-v.lo))):=by
    show some (D.val (.int .u64 (IntKind.u64.wrap (IntKind.u64.wrap v.af-IntKind.u64.wrap v.lo))))=_
    rw [QQ ad ae hle]
   have aV:binP false .lss (.val (.int .u64 (v.af-v.lo))) (.val (.int .u64 1073741824))=some (au (decide (v.af-v.lo<1073741824))):=rfl
   simp only [bJ,decide_false,Bool.false_eq_true,if_false,aS,aV,db,jo]
   by_cases hm:v.af-v.lo<1073741824
   ·rw [V.Kn ak hle hm]
    simp only [hm,decide_true,if_true,IB,db,wrap64 _ (show-9223372036854775808≤v.af-v.lo by omega) (by omega)]
    rw [ec (by omega) (by omega)]
    rfl
   ·rw [V.Ko ak hle (by omega)]
    simp [hm]
theorem Xy(n:Nat)(v:V)(ad:kS v.lo)(ae:kS v.af):wW n [v.d]=some (J v.span):=by
 have bb:aa v.d 1=au v.bool:=rfl
 have bp:aa v.d 2=J v.lo:=rfl
 have bs:aa v.d 3=J v.af:=rfl
 have jg:aL 4 v.d=true:=rfl
 simp only [wW,TX,jg,mT,bb,bp,bs,jo,l3,db,Xx]
 cases ak:v.bool with
 |true=>simp [V.QR ak]
 |false=>
  by_cases bJ:v.lo>v.af
  ·simp [V.QS ak bJ,bJ]
  ·have hle:v.lo≤v.af:=by omega
   have aS:binP false .sub (.val (.int .u64 (IntKind.u64.wrap v.af))) (.val (.int .u64 (IntKind.u64.wrap v.lo)))=some (.val (.int .u64 (v.af-v.lo))):=by
    show some (D.val (.int .u64 (IntKind.u64.wrap (IntKind.u64.wrap v.af-IntKind.u64.wrap v.lo))))=_
    rw [QQ ad ae hle]
   have aV:binP false .gtr (.val (.int .u64 (v.af-v.lo))) (.val (.int .u64 1073741824))=some (au (decide (v.af-v.lo>1073741824))):=rfl
   simp only [bJ,decide_false,Bool.false_eq_true,if_false,aS,aV,db,jo]
   by_cases hm:v.af-v.lo>1073741824
   ·rw [V.Ko ak hle (by omega)]
    simp only [hm,decide_true,if_true,db,nz,mU,IB]
    rfl
   ·simp only [hm,decide_false,Bool.false_eq_true,if_false,db,nz,mU,IB,wrap64 _ (show-9223372036854775808≤v.af-v.lo by omega) (by omega)]
    rw [ec (by omega) (by omega)]
    simp only [db]
    by_cases he:v.af-v.lo=1073741824
    ·rw [V.Ko ak hle (by omega),he];rfl
    ·rw [V.Kn ak hle (by omega)]
theorem V.Ey(v:V):0≤v.span∧v.span≤1073741825:=by
 unfold V.span
 split
 ·omega
 ·split
  ·omega
  ·split<;>omega
theorem aoT{i:Nat}(h:i≤62):((2:Int)^i)≤4611686018427387904∧0<(2:Int)^i:=by
 have ad:(2:Nat)^i≤2^62:=Nat.pow_le_pow_right (by omega) h
 have ay:((2^i:Nat):Int)=2^i:=by simp
 have ae:(0:Int)<2^i:=Int.pow_pos (by omega)
 omega
theorem Xz{bt:Bool}{i:Nat}(h:i≤62):binP bt .shl (J 1) (J (i:Int))=some (J ((2:Int)^i)):=by
 have N3:¬((i:Int)<0):=by omega
 have hm:min i IntKind.i64.bits=i:=by simp [IntKind.bits];omega
 obtain ⟨ad,ae⟩:=aoT h
 have e:IntKind.i64.wrap (1*2^(min i IntKind.i64.bits))=2^i:=by
  rw [hm,Int.one_mul];exact wrap64 _ (by omega) (by omega)
 simp only [binP,J,toDo,N3,if_false,Int.toNat_natCast]
 rw [e]
theorem Ad{n:Int}(h:n≤1073741825):bitsOf n≤62∧(∀j:Nat,j<bitsOf n→(2:Int)^j<n)∧n≤2^bitsOf n:=by
 rcases q9 (fun i=>n≤(2:Int)^i) 40 with ad|⟨i,ad,ae,ay⟩
 ·exact absurd h (by have:=ad 39 (by omega);simp at this;omega)
 ·have hi:∀j:Nat,j<i→(2:Int)^j<n:=fun j aH=>by have:=ay j aH;omega
  rw [abL hi ae]
  exact ⟨by omega,hi,ae⟩
theorem aoU(n:Nat)(k:Int)(ai:k≤1073741825)(aI:63<n):BY n [J k]=some (J (bitsOf k)):=by
 obtain ⟨ad,ae,ay⟩:=Ad ai
 have key:bk (GJ n) n [J k,J 0]=some (.inr (J (bitsOf k))):=by
  refine jM (fun i=>[J k,J i]) (bitsOf k) rfl ?_ ?_ (by omega)
  ·intro i af
   have:=ae i af
   simp (disch:=omega) [GJ,Xz,ec,show((i:Int)<63) by omega,show¬(k≤(2:Int)^i) by omega]
  ·simp (disch:=omega) [GJ,Xz,show((bitsOf k:Int)<63) by omega,ay]
 simp [BY,SZ,key]
theorem aoV(n:Nat)(k:Int)(ar:-1000≤k)(ai:k≤1073741825)(aI:63<n):Du n [J k]=some (J (bitsOf k)):=by
 have key:∀(m:Nat) (k:Int) (acc fm:Nat),bitsOf k=m→k≤1073741825→acc+m≤1000→m<fm→bk (Hv n) fm [J k,J acc]=some (.inl [J (acc+m:Nat)]):=by
  intro m
  induction m with
  |zero=>
   intro k acc fm hm ai aB uP
   obtain ⟨fm,rfl⟩:∃q,fm=q+1:=⟨fm-1,by omega⟩
   have pb:¬k>1:=by
    intro aj
    have:=QP aj
    omega
   rw [iterL_s]
   simp [Hv,pb]
  |succ m ih=>
   intro k acc fm hm ai aB uP
   obtain ⟨fm,rfl⟩:∃q,fm=q+1:=⟨fm-1,by omega⟩
   have pb:k>1:=by
    refine Classical.byContradiction fun aj=>?_
    have:bitsOf k=0:=by unfold bitsOf;rw [if_pos (by omega)]
    omega
   have bu:=QP pb
   have aS:k.tdiv 2=k/2:=Int.tdiv_eq_ediv_of_nonneg (by omega)
   have aV:k.tmod 2=k%2:=Int.tmod_eq_emod_of_nonneg (by omega)
   have hle:=(Ad ai).1
   have uz:=ih (k/2+k%2) (acc+1) fm (by omega) (by omega) (by omega) (by omega)
   rw [iterL_s]
   simp (disch:=omega) [Hv,pb,Sd,Bu,aS,aV,wrap64,ec]
   have bz:((acc:Int)+1)=((acc+1:Nat):Int):=by omega
   rw [bz,uz]
   congr 4
   omega
 have:=key (bitsOf k) k 0 n rfl ai (by have:=(Ad ai).1;omega) (by have:=(Ad ai).1;omega)
 simp only [Nat.zero_add] at this
 have e:(J ((0:Nat):Int))=J 0:=rfl
 rw [e] at this
 simp [Du,TY,this]
end Go.Am
namespace Go.Am
set_option linter.unusedVariables false
set_option linter.unusedSimpArgs false
theorem XA(n:Nat)(k:Int):zp n [J k]=some (au (decide (k≥-255)&&decide (k≤255))):=by
 simp only [zp,TW,yA,Gm,db]
 cases decide (k≥-255)<;>cases decide (k≤255)<;>rfl
theorem Ol(n:Nat)(l:List V)(i k:Nat)(af:i<l.length)(ai:k<i)(hlen:l.length<1000000000000):
  Dr n [a1 l,J i,J k]=if(l[k]'(by omega)).name=l[i].name then some (.inr (.inr (.inr (.inr (.inr (.aO [J i,J 6])))))) else some (.inl [a1 l,J i,J (k+1:Nat)]):=by
 have oZ:k<l.length:=by omega
 have ad:l[k]?=some l[k]:=List.getElem?_eq_getElem oZ
 have ae:l[i]?=some l[i]:=List.getElem?_eq_getElem af
 simp (disch:=omega) [Dr,a1,ai,ec,oZ,af,V.cells]
theorem aoW(n:Nat)(l:List V)(i:Nat)(af:i<l.length)(hlen:l.length<1000000000000)(aI:l.length<n):
  bk (Dr n) n [a1 l,J i,J 0]=if has l[i].name ((l.take i).map V.name)=true then some (.inr (.inr (.inr (.inr (.aO [J i,J 6]))))) else some (.inl [a1 l,J i]):=by
 rcases q9 (fun k=>(l.map V.name)[k]?=some l[i].name) i with h|⟨k,ad,ae,ay⟩
 ·rw [abO h,if_neg (by simp)]
  refine jM (fun k=>[a1 l,J i,J k]) i rfl ?_ ?_ (by omega)
  ·intro k ai
   rw [Ol n l i k af ai hlen,if_neg]
   intro he
   refine h k ai ?_
   rw [List.getElem?_map,List.getElem?_eq_getElem (show k<l.length by omega),←he];rfl
  ·simp [Dr]
 ·have jl:k<l.length:=by omega
  have hw:=List.getElem?_eq_getElem jl
  have FN:(l[k]).name=l[i].name:=by
   rw [List.getElem?_map,hw] at ae;simpa using ae
  rw [←FN,abP ad hw,if_pos rfl]
  refine jM (fun k=>[a1 l,J i,J k]) k rfl ?_ ?_ (by omega)
  ·intro j aH
   rw [Ol n l i j af (by omega) hlen,if_neg]
   intro he
   refine ay j aH ?_
   rw [List.getElem?_map,List.getElem?_eq_getElem (show j<l.length by omega),←he];rfl
  ·rw [Ol n l i k af ad hlen,if_pos FN]
theorem Om(n:Nat)(l:List V)(aq:pZ l)(aI:l.length<n)(je:∀v∈l,v.name.size+24<n)(i:Nat)(af:i<l.length):
  wX n [a1 l,J i]=if ia l i=0 then some (.inl [a1 l,J (i+1:Nat)]) else some (.inr (.inr (.aO [J i,J (ia l i)]))):=by
 have aN:=List.getElem?_eq_getElem af
 have aM:=aq.2 _ (List.getElem_mem af)
 have hlen:=aq.1
 have fi:=aoW n l i af aq.1 aI
 have e:ia l i=FX (l.take i) l[i]:=by simp only [ia,aN]
 rw [e]
 generalize hw:l[i]=v at*
 have ad:=Og n v.name (je v (hw▸List.getElem_mem af)) (by omega)
 have aZ:a2 4 (a1 l) (J (i:Int))=some v.cells:=by simp [a1,aN,hw]
 have bG:binP false .lss (J (i:Int)) (J (l.length:Int))=some (au true):=by simp [af]
 have aoX:lenP (a1 l)=some (J l.length):=by simp [a1]
 have ch:binP false .add (J (i:Int)) (J 1)=some (J (i+1:Nat)):=by rw [ec (by omega) (by omega)];rfl
 have h0:aW true 4 0 v.cells=some v.d:=rfl
 have aK:aW false 1 0 v.cells=some (aJ v.name):=rfl
 have bb:aW false 1 1 v.cells=some (au v.bool):=rfl
 have bp:aW false 1 2 v.cells=some (J v.lo):=rfl
 have bs:aW false 1 3 v.cells=some (J v.af):=rfl
 have jg:=Xy n v aM.1 aM.2.1
 rw [Xw]
 rw [show Oj v=_ from abN ⟨aM.1,aM.2.1,by omega⟩]
 simp only [wX,mU,oi,aoX,bG,db,jo,if_true,aZ,h0,aK,bb,bp,bs,ad,fi,yC,l3,yz,tz,ch,yA,XA,jg]
 rw [Oi]
 cases isName v.name
 ·simp
 cases has v.name ((l.take i).map V.name)
 rotate_left
 ·simp
 simp only [Bool.not_true,Bool.false_eq_true,if_false,db,nz,mU,oi,aZ,h0,aK,bb,bp,bs,l3,tz,XA,jg,yC]
 generalize (decide (v.lo≥-255)&&decide (v.lo≤255))=eG
 generalize (decide (v.af≥-255)&&decide (v.af≤255))=dR
 generalize decide (v.lo>v.af)=gH
 generalize decide (v.span>64)=o1
 generalize (v.lo !=0)=u0
 generalize (v.af !=0)=u1
 cases v.bool<;>cases eG<;>cases dR<;>cases gH<;>cases o1<;>cases u0<;>cases u1<;>simp [ch]
theorem aoY(n:Nat)(l:List V)(aq:pZ l)(aI:l.length<n)(je:∀v∈l,v.name.size+24<n):
  Dt n [a1 l]=some (.aO [J (jZ l).1,J (jZ l).2]):=by
 have bB:Dt n [a1 l]=R (bk (wX n) n [a1 l,J 0]) (a7 fun ls=>some (D.aO [J 0,J 0])):=rfl
 rw [bB]
 rcases q9 (fun i=>ia l i≠0) l.length with h|⟨i,ad,ae,ay⟩
 ·have bm:∀j:Nat,j<l.length→ia l j=0:=fun j aH=>by simpa using h j aH
  have key:bk (wX n) n [a1 l,J 0]=some (.inl []):=by
   refine jM (fun i=>[a1 l,J i]) l.length rfl ?_ ?_ aI
   ·intro i af
    rw [Om n l aq aI je i af,if_pos (bm i af)]
   ·simp [wX,a1]
  rw [key,Q0 bm]
  rfl
 ·have bm:∀j:Nat,j<i→ia l j=0:=fun j aH=>by simpa using ay j aH
  have key:bk (wX n) n [a1 l,J 0]=some (.inr (.aO [J i,J (ia l i)])):=by
   refine jM (fun i=>[a1 l,J i]) i rfl ?_ ?_ (by omega)
   ·intro j aH
    rw [Om n l aq aI je j (by omega),if_pos (bm j aH)]
   ·rw [Om n l aq aI je i ad,if_neg ae]
  rw [key,QZ bm ad rfl ae]
  rfl
end Go.Am
namespace Go.Am
set_option linter.unusedVariables false
set_option linter.unusedSimpArgs false
def me(l:List cm)(x:ByteArray):Option Nat:=l.findIdx? (fun d=>decide (d.name=x))
def eI:Option Nat→Int
 |some i=>(i:Int)
 |none=>-1
theorem xE(o:Option Nat):decide (eI o≥0)=o.isSome:=by
 cases o with
 |none=>rfl
 |some i=>simp [eI]
theorem XB(o:Option Nat):decide (eI o<0)=o.isNone:=by
 cases o with
 |none=>rfl
 |some i=>exact decide_eq_false (show¬((i:Int)<0) by omega)
theorem findIdx_cons{α:Type}(p:α→Bool)(a:α)(r:List α):(a::r).findIdx? p=if p a then some 0 else(r.findIdx? p).map (·+1):=by
 rw [List.findIdx?_cons]
theorem V.kz(v:V):aa v.d 0=aJ v.name:=rfl
theorem V.eg(v:V):aW true 4 0 v.cells=some v.d:=rfl
theorem V.ei(v:V):aL 4 v.d=true:=rfl
theorem a5.kz(v:a5):aa v.d 0=aJ v.name:=rfl
theorem a5.ga(v:a5):aW true 5 0 v.cells=some v.d:=rfl
theorem a5.hH(v:a5):aL 5 v.d=true:=by unfold a5.d a5.cells;simp
theorem cm.kz(v:cm):aa v.d 0=aJ v.name:=rfl
theorem cm.jr(v:cm):aW true 7 0 v.cells=some v.d:=rfl
theorem cm.nv(v:cm):aL 7 v.d=true:=cm.agg v
theorem aoZ(n:Nat)(d:V)(x:ByteArray):CS n [d.d,.ref [aJ x] 0]=some (au (decide (d.name=x))):=by
 show G7 n d.d [aJ x]=_
 simp only [G7,go_sem,hl,V.ei,V.kz]
theorem ao0(n:Nat)(l:List V)(x:ByteArray)(aI:l.length<n)(ak:l.length<1000000000):wj n [a1 l,D.fn (.func pj) [] [.ref [aJ x] 0]]=some (J (eI (dC l x))):=by
 have bB:(J ((0:Nat):Int))=J 0:=rfl
 have af:=dr (f:=CT n) l (fun i (_:Unit)=>[a1 l,.ref [aJ x] 0,J l.length,J (i:Int)]) (fun r _=>match dC r x with
  |some j=>(Sum.inr (J ((l.length-r.length+j:Nat):Int)):List D⊕D)
  |none=> .inl []) (fun _ _=>True) ?_ ?_ n 0 () trivial (by omega) (Nat.zero_le _)
 ·rw [bB,List.drop_zero,Nat.sub_self] at af
  have bu:wj n [a1 l,D.fn (.func pj) [] [.ref [aJ x] 0]]=CU n (a1 l) (.ref [aJ x] 0):=by
   simp only [wj,l4]
  rw [bu]
  cases bL:dC l x with
  |none=>
   rw [bL] at af
   simp only [CU,go_sem,fw,af,eI]
  |some j=>
   rw [bL] at af
   simp only [Nat.zero_add] at af
   simp only [CU,go_sem,fw,af,eI]
 ·intro _ _
  have:dC [] x=none:=rfl
  simp only [CT,go_sem,decide_eq_false (show¬((l.length:Int)<l.length) by omega),this]
 ·intro i a _ aB af _
  have cK:=decide_eq_true (show((i:Int)<(l.length:Int)) by omega)
  have aj:dC (a::l.drop (i+1)) x=if decide (a.name=x)=true then some 0 else(dC (l.drop (i+1)) x).map (·+1):=findIdx_cons _ a _
  have e:l.length-(a::l.drop (i+1)).length=i:=by simp;omega
  have cX:l.length-(l.drop (i+1)).length=i+1:=by simp;omega
  have ad:=aoZ n a x
  by_cases ag:a.name=x
  ·right
   rw [decide_eq_true ag] at ad aj
   rw [aj,if_pos rfl,e]
   simp only [CT,go_sem,cK,ij aB,V.eg,ad,Nat.add_zero]
  ·left
   rw [decide_eq_false ag] at ad aj
   rw [aj,if_neg (by simp),e,cX]
   refine ⟨(),?_,?_,trivial⟩
   ·simp only [CT,go_sem,cK,ij aB,V.eg,ad,cf (bt:=false) (i:=i) (by omega)]
   ·cases dC (l.drop (i+1)) x with
    |none=>rfl
    |some j=>simp;omega
theorem ao1(n:Nat)(l:List V)(x:ByteArray)(aI:l.length<n)(ak:l.length<1000000000):wk n [a1 l,D.fn (.func pj) [] [.ref [aJ x] 0]]=some (au (dC l x).isSome):=by
 have bu:wk n [a1 l,D.fn (.func pj) [] [.ref [aJ x] 0]]=G8 n (a1 l) (.ref [aJ x] 0):=by
  simp only [wk,l4]
 rw [bu]
 simp only [G8,go_sem,ao0 n l x aI ak,xE]
theorem ao2(n:Nat)(d:a5)(x:ByteArray):CV n [d.d,.ref [aJ x] 0]=some (au (decide (d.name=x))):=by
 show G9 n d.d [aJ x]=_
 simp only [G9,go_sem,hl,a5.hH,a5.kz]
theorem ao3(n:Nat)(l:List a5)(x:ByteArray)(aI:l.length<n)(ak:l.length<1000000000):wm n [aA l,D.fn (.func pk) [] [.ref [aJ x] 0]]=some (J (eI (cS l x))):=by
 have bB:(J ((0:Nat):Int))=J 0:=rfl
 have af:=dr (f:=CW n) l (fun i (_:Unit)=>[aA l,.ref [aJ x] 0,J l.length,J (i:Int)]) (fun r _=>match cS r x with
  |some j=>(Sum.inr (J ((l.length-r.length+j:Nat):Int)):List D⊕D)
  |none=> .inl []) (fun _ _=>True) ?_ ?_ n 0 () trivial (by omega) (Nat.zero_le _)
 ·rw [bB,List.drop_zero,Nat.sub_self] at af
  have bu:wm n [aA l,D.fn (.func pk) [] [.ref [aJ x] 0]]=CX n (aA l) (.ref [aJ x] 0):=by
   simp only [wm,l4]
  rw [bu]
  cases bL:cS l x with
  |none=>
   rw [bL] at af
   simp only [CX,go_sem,dA,af,eI]
  |some j=>
   rw [bL] at af
   simp only [Nat.zero_add] at af
   simp only [CX,go_sem,dA,af,eI]
 ·intro _ _
  have:cS [] x=none:=rfl
  simp only [CW,go_sem,decide_eq_false (show¬((l.length:Int)<l.length) by omega),this]
 ·intro i a _ aB af _
  have cK:=decide_eq_true (show((i:Int)<(l.length:Int)) by omega)
  have aj:cS (a::l.drop (i+1)) x=if decide (a.name=x)=true then some 0 else(cS (l.drop (i+1)) x).map (·+1):=findIdx_cons _ a _
  have e:l.length-(a::l.drop (i+1)).length=i:=by simp;omega
  have cX:l.length-(l.drop (i+1)).length=i+1:=by simp;omega
  have ad:=ao2 n a x
  by_cases ag:a.name=x
  ·right
   rw [decide_eq_true ag] at ad aj
   rw [aj,if_pos rfl,e]
   simp only [CW,go_sem,cK,et aB,a5.ga,ad,Nat.add_zero]
  ·left
   rw [decide_eq_false ag] at ad aj
   rw [aj,if_neg (by simp),e,cX]
   refine ⟨(),?_,?_,trivial⟩
   ·simp only [CW,go_sem,cK,et aB,a5.ga,ad,cf (bt:=false) (i:=i) (by omega)]
   ·cases cS (l.drop (i+1)) x with
    |none=>rfl
    |some j=>simp;omega
theorem ao4(n:Nat)(l:List a5)(x:ByteArray)(aI:l.length<n)(ak:l.length<1000000000):wo n [aA l,D.fn (.func pk) [] [.ref [aJ x] 0]]=some (au (cS l x).isSome):=by
 have bu:wo n [aA l,D.fn (.func pk) [] [.ref [aJ x] 0]]=Ha n (aA l) (.ref [aJ x] 0):=by
  simp only [wo,l4]
 rw [bu]
 simp only [Ha,go_sem,ao3 n l x aI ak,xE]
theorem ao5(n:Nat)(d:V)(x:ByteArray):CJ n [d.d,.ref [aJ x] 0]=some (au (decide (d.name=x))):=by
 show G0 n d.d [aJ x]=_
 simp only [G0,go_sem,hl,V.ei,V.kz]
theorem ao6(n:Nat)(l:List V)(x:ByteArray)(aI:l.length<n)(ak:l.length<1000000000):wb n [a1 l,D.fn (.func yJ) [] [.ref [aJ x] 0]]=some (J (eI (dC l x))):=by
 have bB:(J ((0:Nat):Int))=J 0:=rfl
 have af:=dr (f:=CK n) l (fun i (_:Unit)=>[a1 l,.ref [aJ x] 0,J l.length,J (i:Int)]) (fun r _=>match dC r x with
  |some j=>(Sum.inr (J ((l.length-r.length+j:Nat):Int)):List D⊕D)
  |none=> .inl []) (fun _ _=>True) ?_ ?_ n 0 () trivial (by omega) (Nat.zero_le _)
 ·rw [bB,List.drop_zero,Nat.sub_self] at af
  have bu:wb n [a1 l,D.fn (.func yJ) [] [.ref [aJ x] 0]]=CL n (a1 l) (.ref [aJ x] 0):=by
   simp only [wb,l4]
  rw [bu]
  cases bL:dC l x with
  |none=>
   rw [bL] at af
   simp only [CL,go_sem,fw,af,eI]
  |some j=>
   rw [bL] at af
   simp only [Nat.zero_add] at af
   simp only [CL,go_sem,fw,af,eI]
 ·intro _ _
  have:dC [] x=none:=rfl
  simp only [CK,go_sem,decide_eq_false (show¬((l.length:Int)<l.length) by omega),this]
 ·intro i a _ aB af _
  have cK:=decide_eq_true (show((i:Int)<(l.length:Int)) by omega)
  have aj:dC (a::l.drop (i+1)) x=if decide (a.name=x)=true then some 0 else(dC (l.drop (i+1)) x).map (·+1):=findIdx_cons _ a _
  have e:l.length-(a::l.drop (i+1)).length=i:=by simp;omega
  have cX:l.length-(l.drop (i+1)).length=i+1:=by simp;omega
  have ad:=ao5 n a x
  by_cases ag:a.name=x
  ·right
   rw [decide_eq_true ag] at ad aj
   rw [aj,if_pos rfl,e]
   simp only [CK,go_sem,cK,ij aB,V.eg,ad,Nat.add_zero]
  ·left
   rw [decide_eq_false ag] at ad aj
   rw [aj,if_neg (by simp),e,cX]
   refine ⟨(),?_,?_,trivial⟩
   ·simp only [CK,go_sem,cK,ij aB,V.eg,ad,cf (bt:=false) (i:=i) (by omega)]
   ·cases dC (l.drop (i+1)) x with
    |none=>rfl
    |some j=>simp;omega
theorem ao7(n:Nat)(d:a5)(x:ByteArray):CM n [d.d,.ref [aJ x] 0]=some (au (decide (d.name=x))):=by
 show G1 n d.d [aJ x]=_
 simp only [G1,go_sem,hl,a5.hH,a5.kz]
theorem ao8(n:Nat)(l:List a5)(x:ByteArray)(aI:l.length<n)(ak:l.length<1000000000):wc n [aA l,D.fn (.func pn) [] [.ref [aJ x] 0]]=some (J (eI (cS l x))):=by
 have bB:(J ((0:Nat):Int))=J 0:=rfl
 have af:=dr (f:=CN n) l (fun i (_:Unit)=>[aA l,.ref [aJ x] 0,J l.length,J (i:Int)]) (fun r _=>match cS r x with
  |some j=>(Sum.inr (J ((l.length-r.length+j:Nat):Int)):List D⊕D)
  |none=> .inl []) (fun _ _=>True) ?_ ?_ n 0 () trivial (by omega) (Nat.zero_le _)
 ·rw [bB,List.drop_zero,Nat.sub_self] at af
  have bu:wc n [aA l,D.fn (.func pn) [] [.ref [aJ x] 0]]=CO n (aA l) (.ref [aJ x] 0):=by
   simp only [wc,l4]
  rw [bu]
  cases bL:cS l x with
  |none=>
   rw [bL] at af
   simp only [CO,go_sem,dA,af,eI]
  |some j=>
   rw [bL] at af
   simp only [Nat.zero_add] at af
   simp only [CO,go_sem,dA,af,eI]
 ·intro _ _
  have:cS [] x=none:=rfl
  simp only [CN,go_sem,decide_eq_false (show¬((l.length:Int)<l.length) by omega),this]
 ·intro i a _ aB af _
  have cK:=decide_eq_true (show((i:Int)<(l.length:Int)) by omega)
  have aj:cS (a::l.drop (i+1)) x=if decide (a.name=x)=true then some 0 else(cS (l.drop (i+1)) x).map (·+1):=findIdx_cons _ a _
  have e:l.length-(a::l.drop (i+1)).length=i:=by simp;omega
  have cX:l.length-(l.drop (i+1)).length=i+1:=by simp;omega
  have ad:=ao7 n a x
  by_cases ag:a.name=x
  ·right
   rw [decide_eq_true ag] at ad aj
   rw [aj,if_pos rfl,e]
   simp only [CN,go_sem,cK,et aB,a5.ga,ad,Nat.add_zero]
  ·left
   rw [decide_eq_false ag] at ad aj
   rw [aj,if_neg (by simp),e,cX]
   refine ⟨(),?_,?_,trivial⟩
   ·simp only [CN,go_sem,cK,et aB,a5.ga,ad,cf (bt:=false) (i:=i) (by omega)]
   ·cases cS (l.drop (i+1)) x with
    |none=>rfl
    |some j=>simp;omega
theorem ao9(n:Nat)(l:List a5)(x:ByteArray)(aI:l.length<n)(ak:l.length<1000000000):we n [aA l,D.fn (.func pn) [] [.ref [aJ x] 0]]=some (au (cS l x).isSome):=by
 have bu:we n [aA l,D.fn (.func pn) [] [.ref [aJ x] 0]]=G2 n (aA l) (.ref [aJ x] 0):=by
  simp only [we,l4]
 rw [bu]
 simp only [G2,go_sem,ao8 n l x aI ak,xE]
theorem apa(n:Nat)(d:a5)(x:ByteArray):CP n [d.d,.ref [aJ x] 0]=some (au (decide (d.name=x))):=by
 show G4 n d.d [aJ x]=_
 simp only [G4,go_sem,hl,a5.hH,a5.kz]
theorem apb(n:Nat)(l:List a5)(x:ByteArray)(aI:l.length<n)(ak:l.length<1000000000):wh n [aA l,D.fn (.func yI) [] [.ref [aJ x] 0]]=some (J (eI (cS l x))):=by
 have bB:(J ((0:Nat):Int))=J 0:=rfl
 have af:=dr (f:=CQ n) l (fun i (_:Unit)=>[aA l,.ref [aJ x] 0,J l.length,J (i:Int)]) (fun r _=>match cS r x with
  |some j=>(Sum.inr (J ((l.length-r.length+j:Nat):Int)):List D⊕D)
  |none=> .inl []) (fun _ _=>True) ?_ ?_ n 0 () trivial (by omega) (Nat.zero_le _)
 ·rw [bB,List.drop_zero,Nat.sub_self] at af
  have bu:wh n [aA l,D.fn (.func yI) [] [.ref [aJ x] 0]]=CR n (aA l) (.ref [aJ x] 0):=by
   simp only [wh,l4]
  rw [bu]
  cases bL:cS l x with
  |none=>
   rw [bL] at af
   simp only [CR,go_sem,dA,af,eI]
  |some j=>
   rw [bL] at af
   simp only [Nat.zero_add] at af
   simp only [CR,go_sem,dA,af,eI]
 ·intro _ _
  have:cS [] x=none:=rfl
  simp only [CQ,go_sem,decide_eq_false (show¬((l.length:Int)<l.length) by omega),this]
 ·intro i a _ aB af _
  have cK:=decide_eq_true (show((i:Int)<(l.length:Int)) by omega)
  have aj:cS (a::l.drop (i+1)) x=if decide (a.name=x)=true then some 0 else(cS (l.drop (i+1)) x).map (·+1):=findIdx_cons _ a _
  have e:l.length-(a::l.drop (i+1)).length=i:=by simp;omega
  have cX:l.length-(l.drop (i+1)).length=i+1:=by simp;omega
  have ad:=apa n a x
  by_cases ag:a.name=x
  ·right
   rw [decide_eq_true ag] at ad aj
   rw [aj,if_pos rfl,e]
   simp only [CQ,go_sem,cK,et aB,a5.ga,ad,Nat.add_zero]
  ·left
   rw [decide_eq_false ag] at ad aj
   rw [aj,if_neg (by simp),e,cX]
   refine ⟨(),?_,?_,trivial⟩
   ·simp only [CQ,go_sem,cK,et aB,a5.ga,ad,cf (bt:=false) (i:=i) (by omega)]
   ·cases cS (l.drop (i+1)) x with
    |none=>rfl
    |some j=>simp;omega
theorem apc(n:Nat)(d:cm)(x:ByteArray):B6 n [d.d,.ref [aJ x] 0]=some (au (decide (d.name=x))):=by
 show GL n d.d [aJ x]=_
 simp only [GL,go_sem,hl,cm.nv,cm.kz]
theorem apd(n:Nat)(l:List cm)(x:ByteArray)(aI:l.length<n)(ak:l.length<1000000000):vO n [bj l,D.fn (.func po) [] [.ref [aJ x] 0]]=some (J (eI (me l x))):=by
 have bB:(J ((0:Nat):Int))=J 0:=rfl
 have af:=dr (f:=B7 n) l (fun i (_:Unit)=>[bj l,.ref [aJ x] 0,J l.length,J (i:Int)]) (fun r _=>match me r x with
  |some j=>(Sum.inr (J ((l.length-r.length+j:Nat):Int)):List D⊕D)
  |none=> .inl []) (fun _ _=>True) ?_ ?_ n 0 () trivial (by omega) (Nat.zero_le _)
 ·rw [bB,List.drop_zero,Nat.sub_self] at af
  have bu:vO n [bj l,D.fn (.func po) [] [.ref [aJ x] 0]]=B8 n (bj l) (.ref [aJ x] 0):=by
   simp only [vO,l4]
  rw [bu]
  cases bL:me l x with
  |none=>
   rw [bL] at af
   simp only [B8,go_sem,hc,af,eI]
  |some j=>
   rw [bL] at af
   simp only [Nat.zero_add] at af
   simp only [B8,go_sem,hc,af,eI]
 ·intro _ _
  have:me [] x=none:=rfl
  simp only [B7,go_sem,decide_eq_false (show¬((l.length:Int)<l.length) by omega),this]
 ·intro i a _ aB af _
  have cK:=decide_eq_true (show((i:Int)<(l.length:Int)) by omega)
  have aj:me (a::l.drop (i+1)) x=if decide (a.name=x)=true then some 0 else(me (l.drop (i+1)) x).map (·+1):=findIdx_cons _ a _
  have e:l.length-(a::l.drop (i+1)).length=i:=by simp;omega
  have cX:l.length-(l.drop (i+1)).length=i+1:=by simp;omega
  have ad:=apc n a x
  by_cases ag:a.name=x
  ·right
   rw [decide_eq_true ag] at ad aj
   rw [aj,if_pos rfl,e]
   simp only [B7,go_sem,cK,kH aB,cm.jr,ad,Nat.add_zero]
  ·left
   rw [decide_eq_false ag] at ad aj
   rw [aj,if_neg (by simp),e,cX]
   refine ⟨(),?_,?_,trivial⟩
   ·simp only [B7,go_sem,cK,kH aB,cm.jr,ad,cf (bt:=false) (i:=i) (by omega)]
   ·cases me (l.drop (i+1)) x with
    |none=>rfl
    |some j=>simp;omega
theorem ape(n:Nat)(l:List cm)(x:ByteArray)(aI:l.length<n)(ak:l.length<1000000000):vP n [bj l,D.fn (.func po) [] [.ref [aJ x] 0]]=some (au (me l x).isSome):=by
 have bu:vP n [bj l,D.fn (.func po) [] [.ref [aJ x] 0]]=GM n (bj l) (.ref [aJ x] 0):=by
  simp only [vP,l4]
 rw [bu]
 simp only [GM,go_sem,apd n l x aI ak,xE]
end Go.Am
namespace Go.Am
set_option linter.unusedVariables false
set_option linter.unusedSimpArgs false
structure ra(f:Tm→Tm):Prop where
 op:∀t,(f t).op=t.op
 num:∀t,(f t).num=t.num
 name:∀t,(f t).name=t.name
 kids:∀t,(f t).kids=t.kids.map f
theorem On:ra iX:=⟨fun t=>by rw [Ef];rfl,fun t=>by rw [Ef];rfl,fun t=>by rw [Ef];rfl,fun t=>by rw [Ef];rfl⟩
theorem XC:ra cG:=⟨fun t=>by rw [z3];rfl,fun t=>by rw [z3];rfl,fun t=>by rw [z3];rfl,fun t=>by rw [z3];rfl⟩
theorem XD(vs:List V)(nx:Bool)(f:Tm→Tm):∀(ks:List Tm),(∀k∈ks,dg vs nx (f k)=dg vs nx k)→dn vs nx (ks.map f)=dn vs nx ks
 |[],_=>rfl
 |k::r,h=>by rw [List.map_cons,dn,dn,h k (by simp),XD vs nx f r fun k ai=>h k (by simp [ai])]
theorem apf{f:Tm→Tm}(a6:ra f)(t:Tm)(l:List Y):fC (f t) l=fC t l:=by
 unfold fC
 rw [a6.op,a6.kids,List.getElem?_map]
 cases ai:t.kids[1]? with
 |none=>rfl
 |some k=>simp only [Option.map_some,a6.op,a6.num]
theorem apg{f:Tm→Tm}(a6:ra f)(vs:List V)(nx:Bool)(t:Tm):dg vs nx (f t)=dg vs nx t:=by
 refine Tm.ind (P:=fun t=>dg vs nx (f t)=dg vs nx t) ?_ t
 intro t ih
 have ay:iY vs nx (f t)=iY vs nx t:=by simp only [iY,a6.op,a6.num,a6.name]
 rw [mc,mc vs nx t,a6.op,a6.kids,ay,XD vs nx f t.kids ih,apf a6]
theorem aph{f:Tm→Tm}(a6:ra f)(t:Tm):gX (f t)=gX t:=by
 simp only [gX,a6.op,a6.num,a6.name,a6.kids,List.length_map]
theorem XE(f:Tm→Tm):∀(ks:List Tm),(∀k∈ks,∀d n,cN (f k) d n=cN k d n)→∀d n,eu (ks.map f) d n=eu ks d n
 |[],_,_,_=>rfl
 |k::r,h,d,n=>by rw [List.map_cons,eu,eu,h k (by simp),XE f r fun k ai=>h k (by simp [ai])]
theorem api{f:Tm→Tm}(a6:ra f)(t:Tm):∀d n,cN (f t) d n=cN t d n:=by
 refine Tm.ind (P:=fun t=>∀d n,cN (f t) d n=cN t d n) ?_ t
 intro t ih d n
 rw [so,so t,aph a6,a6.kids,XE f t.kids ih]
theorem Oo{f:Tm→Tm}(a6:ra f)(vs:List V)(nx:Bool)(t:Tm):h2 vs nx (f t)=h2 vs nx t:=by
 unfold h2;rw [api a6,apg a6]
structure Ae(l:List a5)(t:Tm)(p:Tm×Int):Prop where
 a:∀n,301000000<n→kC n [t.d,aA l]=some (.aO [(if p.2=0 then iX p.1 else eH).d,J p.2])
 b:∀n,301000000<n→kE n [t.d,aA l]=some (.aO [(if p.2=0 then cG p.1 else eH).d,J p.2])
 x:p.2=0→p.1.b2∧p.1.bd≤12300∧(cN p.1 1 0).1=0∧(iX p.1).b2∧(cG p.1).b2∧∃h,iE l h t p.1
theorem XF{l:List a5}(aq:gQ 12300 l)(Af:l.length≤100)(t:Tm)(ba:t.b2)(aE:t.bd≤12300):∃p,Ae l t p:=by
 by_cases ar:(cN t 1 0).1=0
 case neg=>exact ⟨(eH,(cN t 1 0).1),fun n aI=>by rw [if_neg ar];exact (NK aq n t ba aE (by omega)).1 ar,fun n aI=>by rw [if_neg ar];exact (NM aq n t ba aE (by omega)).1 ar,fun h=>absurd h ar⟩
 cases av:pT l t with
 |false=>exact ⟨(eH,14),fun n aI=>(NK aq n t ba aE (by omega)).2.1 ar av,fun n aI=>(NM aq n t ba aE (by omega)).2.1 ar av,fun h=>by cases h⟩
 |true=>
  obtain ⟨X,iW⟩:=amQ aq aE ((am2 l t).1 av)
  have eP:(l.length+1)*(12300+1)+12300≤1300000:=by omega
  generalize (l.length+1)*(12300+1)+12300=bu at*
  have A:∀n,301000000<n→_:=fun n aI=>(NK aq n t ba aE (by omega)).2.2 _ X ar av iW (by omega)
  have B:∀n,301000000<n→_:=fun n aI=>(NM aq n t ba aE (by omega)).2.2 _ X ar av iW (by omega)
  obtain ⟨bb,bp⟩:=NA X 1 0 (by omega)
  rw [bb] at A
  by_cases ay:(cN X 1 0).1=0
  case neg=>
   simp only [ay,if_false] at A B
   exact ⟨(eH,(cN X 1 0).1),fun n aI=>by rw [if_neg ay];exact A n aI,fun n aI=>by rw [if_neg ay];exact B n aI,fun h=>absurd h ay⟩
  simp only [ay,if_true] at A B
  have a6:=Wk X 1 0 (by omega) ay
  have XG:=iW.ok aq ba aE
  have fE:=am9 X 1 0 ay
  have aug:=(zK X 1 0).2 ay
  have XH:=(Wf aq iW ba aE).1
  rw [a6] at A XH
  exact ⟨(X,0),A,B,fun _=>⟨XG.1,by simp only;omega,ay,XH,anL X XG.1,bu,iW⟩⟩
open Classical in
noncomputable def c5(l:List a5)(t:Tm):Tm×Int:=if h:∃p,Ae l t p then Classical.choose h else(eH,0)
theorem XI{l:List a5}{t:Tm}(h:∃p,Ae l t p):Ae l t (c5 l t):=by
 unfold c5
 rw [dif_pos h]
 exact Classical.choose_spec h
noncomputable def fL(m:al)(nx:Bool)(t:Tm):Y×Int:=if(c5 m.defs t).2≠0 then(ew,(c5 m.defs t).2) else h2 m.vars nx (c5 m.defs t).1
noncomputable def m9(m:al)(nx:Bool)(t:Tm):Int:=if((fL m nx t).2==0&&!(fL m nx t).1.b)=true then 13 else(fL m nx t).2
structure Ag(m:al):Prop where
 d:gQ 12300 m.defs
 dl:m.defs.length≤100
 iG:m.vars.length≤100
theorem Ag.Oq{m:al}(h:Ag m){t:Tm}(ba:t.b2)(aE:t.bd≤12300):Ae m.defs t (c5 m.defs t):=XI (XF h.d h.dl t ba aE)
theorem XJ:D.agg [au false,J 0,J 0]=ew.d:=rfl
theorem rb(y:Y):aa y.d 0=au y.b:=rfl
theorem XK(y:Y):aa y.d 1=J y.lo:=rfl
theorem XL(y:Y):aa y.d 2=J y.af:=rfl
theorem nT(y:Y):aL 3 y.d=true:=rfl
theorem XM(y:Y):D.agg [au y.b,J y.lo,J y.af]=y.d:=rfl
section
variable{m:al}(hm:Ag m)(n:Nat)(aI:301000000<n)
include hm aI
theorem Ot{t:Tm}(ba:t.b2)(aE:t.bd≤12300)(nx:Bool):qL n [m.d,t.d,au nx]=some (.aO [(fL m nx t).1.d,J (fL m nx t).2]):=by
 have mJ:=hm.Oq ba aE
 have iF:=hm.iG
 unfold fL
 generalize c5 m.defs t=p at*
 have dG:=mJ.a n aI
 by_cases ar:p.2=0
 ·obtain ⟨x1,ig,tM,XN,XO,_⟩:=mJ.x ar
  have bN:(p.2 !=0)=false:=by simp [ar]
  rw [if_pos ar] at dG
  have a4:=WD n m.vars (iX p.1) nx (by rw [NO];omega) XN (by omega)
  rw [Oo On] at a4
  rw [if_neg (by simpa using ar)]
  simp only [qL,L5,go_sem,al.agg,al.aK,al.bb,dG,bN,a4,nT,rb,XK,XL,XM]
 ·have bN:(p.2 !=0)=true:=by simpa using ar
  rw [if_neg ar] at dG
  rw [if_pos ar]
  simp only [qL,L5,go_sem,al.agg,al.aK,al.bb,dG,bN,XJ]
theorem Ou{t:Tm}(ba:t.b2)(aE:t.bd≤12300)(nx:Bool):qV n [m.d,t.d,au nx]=some (.aO [(fL m nx t).1.d,J (fL m nx t).2]):=by
 have mJ:=hm.Oq ba aE
 have iF:=hm.iG
 unfold fL
 generalize c5 m.defs t=p at*
 have dG:=mJ.b n aI
 by_cases ar:p.2=0
 ·obtain ⟨x1,ig,tM,XN,XO,_⟩:=mJ.x ar
  have bN:(p.2 !=0)=false:=by simp [ar]
  rw [if_pos ar] at dG
  have a4:=WE n m.vars (cG p.1) nx (by rw [Ii];omega) XO (by omega)
  rw [Oo XC] at a4
  rw [if_neg (by simpa using ar)]
  simp only [qV,MT,go_sem,al.agg,al.aK,al.bb,dG,bN,a4,nT,rb,XK,XL,XM]
 ·have bN:(p.2 !=0)=true:=by simpa using ar
  rw [if_neg ar] at dG
  rw [if_pos ar]
  simp only [qV,MT,go_sem,al.agg,al.aK,al.bb,dG,bN,XJ]
theorem XP{t:Tm}(ba:t.b2)(aE:t.bd≤12300)(nx:Bool):tG n [m.d,t.d,au nx]=some (J (m9 m nx t)):=by
 have a4:=Ot hm n aI ba aE nx
 unfold m9
 by_cases h:((fL m nx t).2==0&&!(fL m nx t).1.b)=true
 ·rw [if_pos h]
  simp only [tG,L6,go_sem,al.agg,al.aK,al.bb,al.bp,al.bs,al.cc,al.cy,al.cz,al.cJ,al.eta,a4,nT,rb,h]
 ·have bm:((fL m nx t).2==0&&!(fL m nx t).1.b)=false:=by simpa using h
  rw [if_neg h]
  simp only [tG,L6,go_sem,al.agg,al.aK,al.bb,al.bp,al.bs,al.cc,al.cy,al.cz,al.cJ,al.eta,a4,nT,rb,bm]
theorem XQ{t:Tm}(ba:t.b2)(aE:t.bd≤12300)(nx:Bool):tU n [m.d,t.d,au nx]=some (J (m9 m nx t)):=by
 have a4:=Ou hm n aI ba aE nx
 unfold m9
 by_cases h:((fL m nx t).2==0&&!(fL m nx t).1.b)=true
 ·rw [if_pos h]
  simp only [tU,MU,go_sem,al.agg,al.aK,al.bb,al.bp,al.bs,al.cc,al.cy,al.cz,al.cJ,al.eta,a4,nT,rb,h]
 ·have bm:((fL m nx t).2==0&&!(fL m nx t).1.b)=false:=by simpa using h
  rw [if_neg h]
  simp only [tU,MU,go_sem,al.agg,al.aK,al.bb,al.bp,al.bs,al.cc,al.cy,al.cz,al.cJ,al.eta,a4,nT,rb,bm]
end
end Go.Am
namespace Go.Am
set_option linter.unusedVariables false
set_option linter.unusedSimpArgs false
def sA(N:Nat)(S:List Nat):List (List D):=(List.range N).map fun j=>[au (decide (j∈S))]
def iH(N:Nat)(S:List Nat):D:= .aD 1 (sA N S)
theorem Ez(N:Nat)(S:List Nat):(sA N S).length=N:=by simp [sA]
theorem EA{N:Nat}{S:List Nat}{k:Nat}(h:k<N):(sA N S)[k]?=some [au (decide (k∈S))]:=by simp [sA,h]
theorem XR(N:Nat):List.replicate N [au false]=sA N []:=by
 apply List.ext_getElem?
 intro j
 by_cases h:j<N
 ·rw [EA h];simp [h]
 ·rw [List.getElem?_eq_none (by simp;omega),List.getElem?_eq_none (by rw [Ez];omega)]
theorem apj{N:Nat}{S:List Nat}{k:Nat}(h:k<N):(sA N S).set k [au true]=sA N (S++[k]):=by
 apply List.ext_getElem?
 intro j
 by_cases aH:j<N
 ·rw [EA aH,List.getElem?_set]
  by_cases e:k=j
  ·subst e;simp [Ez,h]
  ·rw [if_neg e,EA aH]
   have:(j∈S++[k])↔j∈S:=by simp;omega
   simp only [this]
 ·rw [List.getElem?_eq_none (by simp [Ez];omega),List.getElem?_eq_none (by rw [Ez];omega)]
def g0(S:List Nat)(ks:List Nat):List Nat:=ks.foldl (fun S k=>if k∈S then S else S++[k]) S
theorem EB(S:List Nat)(k:Nat)(r:List Nat):g0 S (k::r)=g0 (if k∈S then S else S++[k]) r:=rfl
structure apk(N:Nat)(S ks dQ:List Nat):Prop where
 inv:hr N dQ
 pre:∃T,dQ=S++T
 mem:∀k∈ks,k∈dQ
 of:∀x∈dQ,x∈S∨x∈ks
theorem IC{N:Nat}:∀(ks S:List Nat),hr N S→(∀k∈ks,k<N)→apk N S ks (g0 S ks)
 |[],S,h,_=>⟨h,⟨[],by simp [g0]⟩,by simp,fun x ag=> .inl ag⟩
 |k::r,S,h,ai=>by
  rw [EB]
  by_cases dL:k∈S
  ·rw [if_pos dL]
   have g:=IC r S h fun x ag=>ai x (by simp [ag])
   obtain ⟨T,a4⟩:=g.pre
   refine ⟨g.inv,g.pre,fun x ag=>?_,fun x ag=>(g.of x ag).elim .inl fun h=> .inr (by simp [h])⟩
   rcases List.mem_cons.1 ag with rfl|ag
   ·rw [a4];simp [dL]
   ·exact g.mem x ag
  ·rw [if_neg dL]
   have g:=IC r (S++[k]) (h.snoc (ai k (by simp)) dL) fun x ag=>ai x (by simp [ag])
   obtain ⟨T,a4⟩:=g.pre
   refine ⟨g.inv,⟨[k]++T,by rw [a4];simp⟩,fun x ag=>?_,fun x ag=>?_⟩
   ·rcases List.mem_cons.1 ag with rfl|ag
    ·rw [a4];simp
    ·exact g.mem x ag
   ·rcases g.of x ag with h|h
    ·rcases List.mem_append.1 h with h|h
     ·exact .inl h
     ·simp at h;subst h;exact .inr (by simp)
    ·exact .inr (by simp [h])
def sB(to:Nat→List Nat)(i:Nat):Nat→Nat→List Nat→List Nat
 |0,_,S=>S
 |m+1,k,S=>match(i::S)[k]? with
  |some x=>sB to i m (k+1) (g0 S (to x))
  |none=>S
structure oJ(to:Nat→List Nat)(N i k:Nat)(S:List Nat):Prop where
 inv:hr N S
 le:k≤S.length+1
 sq:∀j x,j<k→(i::S)[j]?=some x→∀y∈to x,y∈S
 pR:∀x∈S,∃j∈to i,iD to j x
theorem iD.snoc{to:Nat→List Nat}{i j k:Nat}(h:iD to i j)(bm:k∈to j):iD to i k:=h.trans (.step j k k bm (.refl k))
theorem oJ.next{to:Nat→List Nat}{N i k:Nat}{S:List Nat}(h:oJ to N i k S)(jk:∀i,∀k∈to i,k<N){x:Nat}(ag:(i::S)[k]?=some x):oJ to N i (k+1) (g0 S (to x)):=by
 have g:=IC (to x) S h.inv (jk x)
 obtain ⟨T,a4⟩:=g.pre
 have ai:k<S.length+1:=by
  have:=(List.getElem?_eq_some_iff.1 ag).1
  simpa using this
 have apl:∀j y,j≤k→(i::g0 S (to x))[j]?=some y→(i::S)[j]?=some y:=by
  intro j y aH aN
  rw [a4,←List.cons_append,List.getElem?_append_left (by simp;omega)] at aN
  exact aN
 refine ⟨g.inv,by rw [a4];simp;omega,?_,?_⟩
 ·intro j y aH aN z bN
  have rv:=apl j y (by omega) aN
  by_cases e:j=k
  ·subst e
   rw [ag] at rv
   cases rv
   exact g.mem z bN
  ·have:=h.sq j y (by omega) rv z bN
   rw [a4];simp [this]
 ·intro y aN
  rcases g.of y aN with ad|ad
  ·exact h.pR y ad
  ·cases k with
   |zero=>
    simp at ag;subst ag
    exact ⟨y,ad,.refl y⟩
   |succ k=>
    have Ns:x∈S:=List.mem_of_getElem? (by simpa using ag)
    obtain ⟨j,aH,av⟩:=h.pR x Ns
    exact ⟨j,aH,av.snoc ad⟩
theorem Ov{to:Nat→List Nat}{N i:Nat}(jk:∀i,∀k∈to i,k<N):∀(m k:Nat) (S:List Nat),oJ to N i k S→N+1-k<m→(i∈sB to i m k S↔∃j∈to i,iD to j i)
 |0,_,_,_,h=>absurd h (Nat.not_lt_zero _)
 |m+1,k,S,h,hm=>by
  rw [sB]
  have hlen:=h.inv.len
  cases ag:(i::S)[k]? with
  |some x=>
   have ai:k<S.length+1:=by
    have:=(List.getElem?_eq_some_iff.1 ag).1
    simpa using this
   exact Ov jk m (k+1) _ (h.next jk ag) (by omega)
  |none=>
   have ai:S.length+1≤k:=by
    have:=List.getElem?_eq_none_iff.1 ag
    simpa using this
   refine ⟨fun af=>h.pR i af,?_⟩
   have hh:∀a b,iD to a b→a∈S→b∈S:=by
    intro a b kg
    induction kg with
    |refl=>exact fun h=>h
    |step p q r AA _ ih=>
     intro aY
     obtain ⟨j,aH⟩:=List.mem_iff_getElem?.1 aY
     have cK:=(List.getElem?_eq_some_iff.1 aH).1
     exact ih (h.sq (j+1) p (by omega) (by simpa using aH) q AA)
   rintro ⟨j,aH,av⟩
   exact hh j i av (h.sq 0 i (by omega) (by simp) j aH)
theorem oJ.start(to:Nat→List Nat)(N i:Nat):oJ to N i 0 []:=⟨⟨by simp,by simp⟩,by simp,by intro j x h;omega,by simp⟩
theorem p0(x:List Nat):D.aD 1 (esD (cL x))=cL x:=rfl
theorem EC(x:List Nat):(esD (cL x)).length=x.length:=by simp [cL]
theorem XS(x:List Nat)(k:Nat):D.aD 1 (esD (cL x)++[[J (k:Int)]])=cL (x++[k]):=by simp [cL]
theorem XT{x:List Nat}{j k:Nat}(h:x[j]?=some k):(esD (cL x))[j]?=some [J (k:Int)]:=by simp [cL,h]
theorem na(N:Nat)(x:List Nat):D.aD 1 (esD (iH N x))=iH N x:=rfl
theorem ED(N:Nat)(x:List Nat):(esD (iH N x)).length=N:=Ez N x
theorem EE{N:Nat}{S:List Nat}{k:Nat}(h:k<N):(esD (iH N S))[k]?=some [au (decide (k∈S))]:=EA h
theorem XU{N:Nat}{S:List Nat}{k:Nat}(h:k<N){w:Bool}:D.aD 1 ((esD (iH N S)).set k (lk [au w] 0 [au true]))=iH N (S++[k]):=by
 show D.aD 1 ((sA N S).set k [au true])=_
 rw [apj h];rfl
theorem xF(b:Bool):aW false 1 0 [au b]=some (au b):=rfl
theorem Ah(i:Int):aW false 1 0 [J i]=some (J i):=rfl
theorem Ai(s:ByteArray):aW false 1 0 [aJ s]=some (aJ s):=rfl
theorem ID{p:Option D}:gD (au true) true p=p:=rfl
theorem XV{p:Option D}:gD (au false) true p=some jh:=rfl
theorem IE{a b:D}:pickP (au true) a b=some a:=rfl
theorem XW{a b:D}:pickP (au false) a b=some b:=rfl
theorem XX{l:List a5}{x:ByteArray}{k:Nat}(h:cS l x=some k):k<l.length:=by
 obtain ⟨_,_,_,h⟩:=Lz h
 exact h
theorem apm(n:Nat)(l:List a5){B:Nat}(aq:gQ B l)(i k:Nat)(jA:List ByteArray)(S:List Nat)(cx:hr l.length S)(ai:k≤S.length+1)(fx:jA.length≤B)(aI:2*B+100<n):
  bk (wi n) n [aA l,J (i:Int),c1 jA,J jA.length,J 0,iH l.length S,cL ((i::S).drop k)]=some (.inl [aA l,J (i:Int),iH l.length (g0 S (jA.filterMap (cS l))),cL ((i::g0 S (jA.filterMap (cS l))).drop k)]):=by
 have hlen:=aq.len
 have ak:=aq.b
 have af:=dr (f:=wi n) jA (fun j (s:List Nat)=>[aA l,J (i:Int),c1 jA,J jA.length,J (j:Int),iH l.length s,cL ((i::s).drop k)])
  (fun r s=>(.inl [aA l,J (i:Int),iH l.length (g0 s (r.filterMap (cS l))),cL ((i::g0 s (r.filterMap (cS l))).drop k)]:List D⊕(List D⊕(List D⊕(List D⊕D)))))
  (fun j s=>hr l.length s∧k≤s.length+1)
  (fun s _=>by simp only [wi,go_sem,decide_eq_false (show¬((jA.length:Int)<jA.length) by omega),na,p0];rfl) ?_ n 0 S ⟨cx,ai⟩ (by omega) (Nat.zero_le _)
 ·exact af
 ·rintro j x s ag aH ⟨ad,ae⟩
  have dX:=apb n l x (by omega) (by omega)
  have zQ:=ad.len
  have cK:=decide_eq_true (show((j:Int)<(jA.length:Int)) by omega)
  left
  cases ax:cS l x with
  |none=>
   rw [ax] at dX
   refine ⟨s,?_,by simp [ax],ad,ae⟩
   have fF:decide (eI none≥0)=false:=rfl
   simp only [wi,go_sem,cK,D6 ag,Ai,dX,fF,XV,XW,na,p0,cf (bt:=false) (i:=j) (by omega)]
  |some y=>
   have aN:=XX ax
   rw [ax] at dX
   have fF:decide ((y:Int)≥0)=true:=decide_eq_true (by omega)
   have ee:cH l.length (J (y:Int))=some y:=by rw [lB,if_pos aN]
   have EF:eI (some y)=(y:Int):=rfl
   by_cases l0:y∈s
   ·refine ⟨s,?_,by simp [ax,EB,l0],ad,ae⟩
    simp only [wi,go_sem,cK,D6 ag,Ai,dX,EF,fF,ED,ee,EE aN,xF,decide_eq_true l0,ID,IE,na,p0,cf (bt:=false) (i:=j) (by omega)]
   ·have ay:=ad.snoc aN l0
    refine ⟨s++[y],?_,by simp only [List.filterMap_cons,ax,EB,if_neg l0],ay,by simp;omega⟩
    have aS:(i::(s++[y])).drop k=(i::s).drop k++[y]:=by rw [←List.cons_append,List.drop_append_of_le_length (by simpa using ae)]
    have eb:c7 (((i::s).drop k).length+1) 8=true:=gO (by simp;omega) (by simp;omega)
    rw [aS]
    simp only [wi,go_sem,cK,D6 ag,Ai,dX,EF,fF,ED,ee,EE aN,xF,decide_eq_false l0,ID,IE,EC,List.length_cons,List.length_nil,Nat.zero_add,eb,XU aN,XS,na,p0,cf (bt:=false) (i:=j) (by omega)]
theorem XY(n:Nat)(l:List a5){B:Nat}(aq:gQ B l)(i:Nat)(bS:i<l.length)(aI:4*B+200<n):∀(m k:Nat) (S:List Nat),oJ (to l) l.length i k S→l.length+1-k<m→
  bk (G5 n) m [aA l,J (i:Int),iH l.length S,cL ((i::S).drop k)]=some (.inl [J (i:Int),iH l.length (sB (to l) i m k S)])
 |0,_,_,_,h=>absurd h (Nat.not_lt_zero _)
 |m+1,k,S,h,hm=>by
  have hlen:=aq.len
  have ak:=aq.b
  rw [iterL_s,sB]
  have apn:=h.inv.len
  have hle:=h.le
  cases ag:(i::S)[k]? with
  |none=>
   have ai:S.length+1≤k:=by
    have:=List.getElem?_eq_none_iff.1 ag
    simpa using this
   have bB:(i::S).drop k=[]:=List.drop_eq_nil_of_le (by simpa using ai)
   rw [bB]
   have aS:(esD (cL [])).length=0:=rfl
   have aV:decide (((0:Nat):Int)>0)=false:=rfl
   simp only [G5,go_sem,aS,aV,na]
  |some x=>
   have ai:k<S.length+1:=by
    have:=(List.getElem?_eq_some_iff.1 ag).1
    simpa using this
   have qf:x<l.length:=by
    cases k with
    |zero=>simp at ag;omega
    |succ k=>exact h.inv.2 x (List.mem_of_getElem? (by simpa using ag))
   obtain ⟨d,ax⟩:∃d,l[x]?=some d:=⟨l[x],List.getElem?_eq_getElem qf⟩
   have gz:=aq.e d (List.mem_of_getElem? ax)
   have kn:=h.next (fun i k ai=>jS i k ai) ag
   have ih:=XY n l aq i bS aI m (k+1) _ kn (by omega)
   have bV:=HY n d.e (by omega) gz.1 (by omega)
   have apo:=zM d.e
   have fi:=apm n l aq i k (e2 3 d.e []) S h.inv hle (by omega) (by omega)
   have jk:(e2 3 d.e []).filterMap (cS l)=to l x:=by rw [zN ax];rfl
   rw [jk] at fi
   obtain ⟨T,a4⟩:=(IC (N:=l.length) (to l x) S h.inv (jS x)).pre
   have JR:((i::g0 S (to l x)).drop k).length=(g0 S (to l x)).length+1-k:=by simp
   have K9:=kn.le
   have XZ:((i::S).drop k).length=S.length+1-k:=by simp
   have sS:decide (((((i::S).drop k).length:Nat):Int)>0)=true:=decide_eq_true (by rw [XZ];omega)
   have apq:((i::S).drop k)[0]?=some x:=by rw [List.getElem?_drop];exact ag
   have ee:cH ((i::S).drop k).length (J 0)=some 0:=by
    have:(J 0)=J ((0:Nat):Int):=rfl
    rw [this,lB,if_pos (by rw [XZ];omega)]
   have apr:nq ((i::g0 S (to l x)).drop k).length (some (J 1)) none=some (1,((i::g0 S (to l x)).drop k).length-1):=by
    have ad:1≤((i::g0 S (to l x)).drop k).length:=by rw [JR];omega
    generalize ((i::g0 S (to l x)).drop k).length=q at*
    have:(J 1)=J ((1:Nat):Int):=rfl
    rw [this]
    simp [nq,oe,J,ad]
   have aps:decide (1+(((i::g0 S (to l x)).drop k).length-1)≤((i::g0 S (to l x)).drop k).length)=true:=decide_eq_true (by rw [JR];omega)
   have apt:D.aD 1 (((esD (cL ((i::g0 S (to l x)).drop k))).drop 1).take (((i::g0 S (to l x)).drop k).length-1))=cL ((i::g0 S (to l x)).drop (k+1)):=by
    have bz:((((i::g0 S (to l x)).drop k).drop 1).take (((i::g0 S (to l x)).drop k).length-1))=(i::g0 S (to l x)).drop (k+1):=by
     rw [List.drop_drop,List.take_of_length_le]
     simp;omega
    show D.aD 1 (((((i::g0 S (to l x)).drop k).map fun(i:Nat)=>[J (i:Int)]).drop 1).take _)=cL _
    rw [←bz]
    unfold cL
    simp only [List.map_take,List.map_drop]
   simp only [G5,go_sem,EC,sS,ee,XT apq,Ah,et ax,a5.gq,bV,D7,na,p0,fi,apr,aps,apt,ih]
theorem apu(n:Nat)(m:al){l:List a5}{B:Nat}(aq:gQ B l)(i:Nat)(af:i<l.length)(aI:4*B+200<n):y5 n [aA l,m.d,J (i:Int)]=some (J (if hV l i=true then 14 else 0)):=by
 have hlen:=aq.len
 have ak:=aq.b
 have ay:=XY n l aq i af aI n 0 [] (oJ.start _ _ _) (by omega)
 have Aj:=Ov (fun i k ai=>jS i k ai) n 0 [] (oJ.start (to l) l.length i) (by omega)
 rw [←Nu l i] at Aj
 generalize sB (to l) i n 0 []=S at*
 have Ed:makeP 1 (J (l.length:Int)) (J (l.length:Int))=some l.length:=by simp [makeP,J];omega
 have aS:D.aD 1 (List.replicate l.length [au false])=iH l.length []:=by rw [XR];rfl
 have aV:D.aD 1 [[J (i:Int)]]=cL ((i::[]).drop 0):=rfl
 have ee:cH l.length (J (i:Int))=some i:=by rw [lB,if_pos af]
 simp only [y5,To,go_sem,al.agg,dA,Ed,aS,aV,ay,ED,ee,EE af,xF]
 by_cases h:hV l i=true
 ·rw [if_pos h,if_pos (decide_eq_true (Aj.2 h))]
 ·rw [if_neg h,if_neg (by simpa using fun bu=>h (Aj.1 bu))]
theorem X0(n:Nat)(m:al)(x:ByteArray)(aI:m.defs.length<n)(aq:m.defs.length<1000000000):wZ n [m.d,aJ x]=some (J (eI (cS m.defs x))):=by
 have af:=dr (f:=Dx n) m.defs (fun i (_:Unit)=>[aJ x,J (i:Int),a1 m.vars,aA m.defs,an m.init,an m.bc,aA m.next,an m.trans,an m.fair,bj m.specs]) (fun r _=>match cS r x with
  |some j=>(Sum.inr (J ((m.defs.length-r.length+j:Nat):Int)):List D⊕D)
  |none=> .inl []) (fun _ _=>True)
  (fun _ _=>by simp [Dx,dA,cS]) ?_ n 0 () trivial (by omega) (Nat.zero_le _)
 ·have bB:(J ((0:Nat):Int))=J 0:=rfl
  rw [bB] at af
  simp only [wZ,T1,go_sem,al.agg,al.aK,al.bb,al.bp,al.bs,al.cc,al.cy,al.cz,al.cJ,af,List.drop_zero]
  cases cS m.defs x<;>simp [eI]
 ·intro i a _ aB af _
  have e:m.defs.length-(a::m.defs.drop (i+1)).length=i:=by simp;omega
  have cX:m.defs.length-(m.defs.drop (i+1)).length=i+1:=by simp;omega
  have lR:cS (a::m.defs.drop (i+1)) x=if a.name=x then some 0 else(cS (m.defs.drop (i+1)) x).map (·+1):=by simp [cS,List.findIdx?_cons]
  have ab:a.cells[0]?=some (aJ a.name):=rfl
  by_cases ag:a.name=x
  ·right
   rw [lR,if_pos ag,e]
   simp [Dx,dA,af,et aB,ab,ag]
  ·left
   refine ⟨(),by simp [Dx,dA,af,et aB,ab,ag,cf (bt:=false) (i:=i) (by omega)],?_,trivial⟩
   rw [lR,if_neg ag,e,cX]
   cases cS (m.defs.drop (i+1)) x with
   |none=>rfl
   |some j=>simp;omega
theorem X1(n:Nat)(m:al)(x:ByteArray)(aI:m.vars.length<n)(aq:m.vars.length<1000000000):wY n [m.d,aJ x]=some (J (eI (dC m.vars x))):=by
 have af:=dr (f:=Dw n) m.vars (fun i (_:Unit)=>[aJ x,J (i:Int),a1 m.vars,aA m.defs,an m.init,an m.bc,aA m.next,an m.trans,an m.fair,bj m.specs]) (fun r _=>match dC r x with
  |some j=>(Sum.inr (J ((m.vars.length-r.length+j:Nat):Int)):List D⊕D)
  |none=> .inl []) (fun _ _=>True)
  (fun _ _=>by simp [Dw,fw,dC]) ?_ n 0 () trivial (by omega) (Nat.zero_le _)
 ·have bB:(J ((0:Nat):Int))=J 0:=rfl
  rw [bB] at af
  simp only [wY,T0,go_sem,al.agg,al.aK,al.bb,al.bp,al.bs,al.cc,al.cy,al.cz,al.cJ,af,List.drop_zero]
  cases dC m.vars x<;>simp [eI]
 ·intro i a _ aB af _
  have e:m.vars.length-(a::m.vars.drop (i+1)).length=i:=by simp;omega
  have cX:m.vars.length-(m.vars.drop (i+1)).length=i+1:=by simp;omega
  have lR:dC (a::m.vars.drop (i+1)) x=if a.name=x then some 0 else(dC (m.vars.drop (i+1)) x).map (·+1):=by simp [dC,List.findIdx?_cons]
  have ab:a.cells[0]?=some (aJ a.name):=rfl
  by_cases ag:a.name=x
  ·right
   rw [lR,if_pos ag,e]
   simp [Dw,fw,af,ij aB,ab,ag]
  ·left
   refine ⟨(),by simp [Dw,fw,af,ij aB,ab,ag,cf (bt:=false) (i:=i) (by omega)],?_,trivial⟩
   rw [lR,if_neg ag,e,cX]
   cases dC (m.vars.drop (i+1)) x with
   |none=>rfl
   |some j=>simp;omega
theorem apv(n:Nat)(m:al){B:Nat}(aq:gQ B m.defs)(i:Nat)(k:Int)(jA:List ByteArray)(S:List Nat)(cx:hr m.defs.length S)(fx:jA.length≤B)(aI:2*B+100<n):
  bk (w3 n) n [J k,iC true jA,J 0,a1 m.vars,aA m.defs,an m.init,an m.bc,aA m.next,an m.trans,an m.fair,bj m.specs,iH m.defs.length S,cL (i::S)]=some (.inl [J k,a1 m.vars,aA m.defs,an m.init,an m.bc,aA m.next,an m.trans,an m.fair,bj m.specs,iH m.defs.length (g0 S (jA.filterMap (cS m.defs))),cL (i::g0 S (jA.filterMap (cS m.defs)))]):=by
 have hlen:=aq.len
 have ak:=aq.b
 have af:=dr (f:=w3 n) jA (fun j (s:List Nat)=>[J k,iC true jA,J (j:Int),a1 m.vars,aA m.defs,an m.init,an m.bc,aA m.next,an m.trans,an m.fair,bj m.specs,iH m.defs.length s,cL (i::s)])
  (fun r s=>(.inl [J k,a1 m.vars,aA m.defs,an m.init,an m.bc,aA m.next,an m.trans,an m.fair,bj m.specs,iH m.defs.length (g0 s (r.filterMap (cS m.defs))),cL (i::g0 s (r.filterMap (cS m.defs)))]:List D⊕(List D⊕(List D⊕(List D⊕D)))))
  (fun j s=>hr m.defs.length s)
  (fun s _=>by simp only [w3,go_sem,l9,decide_eq_false (show¬((jA.length:Int)<jA.length) by omega),na,p0];rfl) ?_ n 0 S cx (by omega) (Nat.zero_le _)
 ·exact af
 ·rintro j x s ag aH ad
  have dX:=X0 n m x (by omega) (by omega)
  have zQ:=ad.len
  have eM:=xr (nl:=true) ag
  have cK:=decide_eq_true (show((j:Int)<(jA.length:Int)) by omega)
  left
  cases ax:cS m.defs x with
  |none=>
   rw [ax] at dX
   refine ⟨s,?_,by simp [ax],ad⟩
   have fF:decide (eI none≥0)=false:=rfl
   simp only [w3,go_sem,l9,cK,eM,Ai,al.eta,dX,fF,XV,XW,na,p0,cf (bt:=false) (i:=j) (by omega)]
  |some y=>
   have aN:=XX ax
   rw [ax] at dX
   have fF:decide ((y:Int)≥0)=true:=decide_eq_true (by omega)
   have ee:cH m.defs.length (J (y:Int))=some y:=by rw [lB,if_pos aN]
   have EF:eI (some y)=(y:Int):=rfl
   by_cases l0:y∈s
   ·refine ⟨s,?_,by simp [ax,EB,l0],ad⟩
    simp only [w3,go_sem,l9,cK,eM,Ai,al.eta,dX,EF,fF,ED,ee,EE aN,xF,decide_eq_true l0,ID,IE,na,p0,cf (bt:=false) (i:=j) (by omega)]
   ·have ay:=ad.snoc aN l0
    refine ⟨s++[y],?_,by simp only [List.filterMap_cons,ax,EB,if_neg l0],ay⟩
    have aS:i::(s++[y])=(i::s)++[y]:=rfl
    have eb:c7 ((i::s).length+1) 8=true:=gO (by simp;omega) (by simp;omega)
    rw [aS]
    simp only [w3,go_sem,l9,cK,eM,Ai,al.eta,dX,EF,fF,ED,ee,EE aN,xF,decide_eq_false l0,ID,IE,EC,List.length_cons,List.length_nil,Nat.zero_add,XU aN,XS,na,p0,cf (bt:=false) (i:=j) (by omega)] at eb⊢
    simp only [eb,mT,db,nz,mU,oi,cf (bt:=false) (i:=j) (by omega),na,p0]
theorem X2(n:Nat)(iI:al){B:Nat}(aq:gQ B iI.defs)(i:Nat)(bS:i<iI.defs.length)(aI:4*B+200<n):∀(m k:Nat) (S:List Nat),oJ (to iI.defs) iI.defs.length i k S→iI.defs.length+1-k<m→
  bk (Hz n) m [J (k:Int),a1 iI.vars,aA iI.defs,an iI.init,an iI.bc,aA iI.next,an iI.trans,an iI.fair,bj iI.specs,iH iI.defs.length S,cL (i::S)]=some (.inl [iH iI.defs.length (sB (to iI.defs) i m k S)])
 |0,_,_,_,h=>absurd h (Nat.not_lt_zero _)
 |m+1,k,S,h,hm=>by
  have hlen:=aq.len
  have ak:=aq.b
  rw [iterL_s,sB]
  have apn:=h.inv.len
  have hle:=h.le
  cases ag:(i::S)[k]? with
  |none=>
   have ai:S.length+1≤k:=by
    have:=List.getElem?_eq_none_iff.1 ag
    simpa using this
   have aV:decide ((k:Int)<(((i::S).length:Nat):Int))=false:=decide_eq_false (by simp;omega)
   simp only [Hz,go_sem,EC,aV,na]
  |some x=>
   have ai:k<S.length+1:=by
    have:=(List.getElem?_eq_some_iff.1 ag).1
    simpa using this
   have qf:x<iI.defs.length:=by
    cases k with
    |zero=>simp at ag;omega
    |succ k=>exact h.inv.2 x (List.mem_of_getElem? (by simpa using ag))
   obtain ⟨d,ax⟩:∃d,iI.defs[x]?=some d:=⟨iI.defs[x],List.getElem?_eq_getElem qf⟩
   have gz:=aq.e d (List.mem_of_getElem? ax)
   have kn:=h.next (fun i k ai=>jS i k ai) ag
   have ih:=X2 n iI aq i bS aI m (k+1) _ kn (by omega)
   have bV:=Np n d.e (by omega) gz.1 (by omega)
   have apo:=zM d.e
   have fi:=apv n iI aq i k (e2 3 d.e []) S h.inv (by omega) (by omega)
   have jk:(e2 3 d.e []).filterMap (cS iI.defs)=to iI.defs x:=by rw [zN ax];rfl
   rw [jk] at fi
   have sS:decide ((k:Int)<(((i::S).length:Nat):Int))=true:=decide_eq_true (by simp;omega)
   have ee:cH (i::S).length (J (k:Int))=some k:=by rw [lB,if_pos (by simpa using ai)]
   have pb:((k:Int)+1)=((k+1:Nat):Int):=by omega
   simp only [Hz,go_sem,EC,sS,ee,XT ag,Ah,et ax,a5.gq,bV,na,p0,fi,cf (bt:=false) (i:=k) (by omega),ih]
theorem apw(n:Nat)(m:al){B:Nat}(aq:gQ B m.defs)(i:Nat)(af:i<m.defs.length)(aI:4*B+200<n):∃S,DB n [m.d,J (i:Int)]=some (iH m.defs.length S)∧(i∈S↔hV m.defs i=true):=by
 have hlen:=aq.len
 have ak:=aq.b
 have ay:=X2 n m aq i af aI n 0 [] (oJ.start _ _ _) (by omega)
 have Aj:=Ov (fun i k ai=>jS i k ai) n 0 [] (oJ.start (to m.defs) m.defs.length i) (by omega)
 rw [←Nu m.defs i] at Aj
 generalize sB (to m.defs) i n 0 []=S at*
 refine ⟨S,?_,Aj⟩
 have Ed:makeP 1 (J (m.defs.length:Int)) (J (m.defs.length:Int))=some m.defs.length:=by simp [makeP,J];omega
 have aS:D.aD 1 (List.replicate m.defs.length [au false])=iH m.defs.length []:=by rw [XR];rfl
 have aV:D.aD 1 [[J (i:Int)]]=cL (i::[]):=rfl
 have bB:(J ((0:Nat):Int))=J 0:=rfl
 rw [bB] at ay
 simp only [DB,T5,go_sem,al.agg,al.aK,al.bb,al.bp,al.bs,al.cc,al.cy,al.cz,al.cJ,dA,Ed,aS,aV,ay,na]
end Go.Am
namespace Go.Am
set_option linter.unusedVariables false
set_option linter.unusedSimpArgs false
def b4(e:Nat→Int):Nat→Nat→Int×Int
 |0,_=>(0,0)
 |m+1,i=>if e i=0 then b4 e m (i+1) else((i:Int),e i)
theorem EG(e:Nat→Int):∀(m i:Nat),(b4 e m i).2=0↔∀j,i≤j→j<i+m→e j=0
 |0,i=>by simp [b4];intro j ad ae;omega
 |m+1,i=>by
  rw [b4]
  by_cases h:e i=0
  ·rw [if_pos h,EG e m (i+1)]
   constructor
   ·intro ad j ae ay
    by_cases aH:j=i
    ·subst aH;exact h
    ·exact ad j (by omega) (by omega)
   ·intro ad j ae ay;exact ad j (by omega) (by omega)
  ·rw [if_neg h]
   exact ⟨fun ad=>absurd ad h,fun ad=>absurd (ad i (Nat.le_refl _) (by omega)) h⟩
theorem p1(e:Nat→Int)(m i:Nat)(h:(b4 e m i).2=0):b4 e m i=(0,0):=by
 induction m generalizing i with
 |zero=>rfl
 |succ m ih=>
  rw [b4] at h⊢
  by_cases ar:e i=0
  ·rw [if_pos ar] at h⊢;exact ih (i+1) h
  ·rw [if_neg ar] at h;exact absurd h ar
theorem k9{dI:Type}{f:List D→Option (List D⊕(List D⊕dI))}(dW:Nat→List D)(e:Nat→Int)(N:Nat)(L:List D)(W:Int×Int→dI)
  (az:∀i,i<N→f (dW i)=some (if e i=0 then .inl (dW (i+1)) else .inr (.inr (W ((i:Int),e i))))) (he:f (dW N)=some (.inr (.inl L))):
  ∀(m i n:Nat),i+m=N→m<n→bk f n (dW i)=some (if(b4 e m i).2=0 then .inl L else .inr (W (b4 e m i)))
 |0,i,n,h,aI=>by
  obtain ⟨k,rfl⟩:∃k,n=k+1:=⟨n-1,by omega⟩
  have:i=N:=by omega
  subst this
  rw [iterL_s,he];rfl
 |m+1,i,n,h,aI=>by
  obtain ⟨k,rfl⟩:∃k,n=k+1:=⟨n-1,by omega⟩
  rw [iterL_s,az i (by omega),b4]
  by_cases ar:e i=0
  ·rw [if_pos ar,if_pos ar]
   exact k9 dW e N L W az he m (i+1) k (by omega) (by omega)
  ·rw [if_neg ar,if_neg ar]
   simp only [db,if_neg ar]
structure IF(m:al)(n:Nat):Prop where
 bd:Ag m
 hW:302000000<n
 lK:pZ m.vars
 X3:∀v∈m.vars,v.name.size+24<n
 X4:∀d∈m.defs,d.name.size+24<n∧d.name.size≤9223372036854775807
 init:m.init.length≤100∧∀t∈m.init,t.b2∧t.bd≤12300
 bc:m.bc.length≤100∧∀t∈m.bc,t.b2∧t.bd≤12300
 next:m.next.length≤100∧∀d∈m.next,d.e.b2∧d.e.bd≤12300
 trans:m.trans.length≤100∧∀t∈m.trans,t.b2∧t.bd≤12300
 fair:m.fair.length≤100∧∀t∈m.fair,t.b2∧t.bd≤12300
 specs:m.specs.length≤100∧∀s∈m.specs,(s.f.b2∧s.f.bd≤12300)∧s.name.size+24<n∧s.name.size≤9223372036854775807
noncomputable section
mutual
def ki(m:al):Fm→Int
 | .mk o t b ks=>if o=1 then m9 m false t else la m ks
def la(m:al):List Fm→Int
 |[]=>0
 |k::r=>if ki m k=0 then la m r else ki m k
end
theorem Ow(m:al)(f:Fm):ki m f=if f.op=1 then m9 m false f.e else la m f.kids:=by cases f;rw [ki];rfl
def kj(m:al)(i:Nat):Int:=match m.defs[i]? with
 |some d=>if isName d.name=true then(if((dC m.vars d.name).isSome||(cS (m.defs.take i) d.name).isSome)=true then 6 else 0) else 12
 |none=>0
def kL(m:al)(i:Nat):Int:=if hV m.defs i=true then 14 else 0
def kk(m:al)(i:Nat):Int:=match m.defs[i]? with
 |some d=>(fL m false d.e).2
 |none=>0
def ea(m:al)(l:List Tm)(nx:Bool)(i:Nat):Int:=match l[i]? with
 |some t=>m9 m nx t
 |none=>0
def h3(m:al)(i:Nat):Int:=match m.next[i]? with
 |some d=>match dC m.vars d.name with
  |none=>12
  |some k=>if(cS (m.next.take i) d.name).isSome=true then 6 else if((fL m false d.e).2==0&&((fL m false d.e).1.b !=(m.vars[k]?.map V.bool).getD false))=true then 13 else(fL m false d.e).2
 |none=>0
def h4(m:al)(i:Nat):Int:=match m.specs[i]? with
 |some s=>if isName s.name=true then(if(me (m.specs.take i) s.name).isSome=true then 6 else if jT s.f=0 then ki m s.f else jT s.f) else 12
 |none=>0
end
theorem X5{l:List a5}{i:Nat}(h:i≤l.length):ji 5 (aA l) none (some (J (i:Int)))=some (aA (l.take i)):=by
 rw [aA,Oh (by simpa using h)]
 simp [aA,List.map_take]
theorem apx{l:List cm}{i:Nat}(h:i≤l.length):ji 7 (bj l) none (some (J (i:Int)))=some (bj (l.take i)):=by
 rw [bj,Oh (by simpa using h)]
 simp [bj,List.map_take]
theorem X6{m:al}(hm:Ag m):∀(n:Nat) (f:Fm),301000000+f.bd<n→f.b2→f.bd≤12300→qM n [m.d,f.d]=some (J (ki m f))
 |0,_,h,_,_=>absurd h (Nat.not_lt_zero _)
 |n+1,f,aI,ba,az=>by
  have NP:=f.yG
  have jl:=f.jt
  rw [Ow]
  have a4:=XP hm n (by omega) ba.e (by omega) false
  have hlen:lenP (b3 6 f.nl (Fm.rows f.kids))=some (J f.kids.length):=by simp
  have aq:=dr (f:=CG (qM n) n) f.kids (fun i (_:Unit)=>[b3 6 f.nl (Fm.rows f.kids),J f.kids.length,J (i:Int),a1 m.vars,aA m.defs,an m.init,an m.bc,aA m.next,an m.trans,an m.fair,bj m.specs])
   (fun r _=>if la m r=0 then(.inl []:List D⊕D) else .inr (J (la m r))) (fun _ _=>True) ?_ ?_ n 0 () trivial (by have:=f.jt;omega) (Nat.zero_le _)
  ·have bB:(J ((0:Nat):Int))=J 0:=rfl
   rw [bB,List.drop_zero] at aq
   show CH (qM n) n m.d f.d=_
   by_cases ad:f.op=1
   ·have dw:(f.op==1)=true:=by simp [ad]
    simp only [CH,go_sem,al.agg,dw,if_pos ad,al.aK,al.bb,al.bp,al.bs,al.cc,al.cy,al.cz,al.cJ,al.eta,a4]
   ·have dw:(f.op==1)=false:=by simpa using ad
    simp only [CH,go_sem,al.agg,dw,if_neg ad,al.aK,al.bb,al.bp,al.bs,al.cc,al.cy,al.cz,al.cJ,al.eta,hlen,aq]
    by_cases ar:la m f.kids=0
    ·rw [if_pos ar,ar,nz]
    ·rw [if_neg ar,Bt]
  ·intro _ _
   simp only [CG,go_sem,decide_eq_false (show¬((f.kids.length:Int)<f.kids.length) by omega),la]
  ·intro i a _ aB af _
   have jV:=List.mem_of_getElem? aB
   have bN:=Fm.hS jV
   have av:=X6 hm n a (by omega) (ba.er jV) (by omega)
   have cK:=decide_eq_true (show((i:Int)<(f.kids.length:Int)) by omega)
   by_cases ar:ki m a=0
   ·left
    rw [ar] at av
    refine ⟨(),?_,by simp only [la,ar,if_true],trivial⟩
    have bN:((0:Int) !=0)=false:=rfl
    simp only [CG,go_sem,cK,Fm.gb aB,al.eta,av,bN,cf (bt:=false) (i:=i) (by omega)]
   ·right
    have bN:(ki m a !=0)=true:=by simpa using ar
    simp only [CG,go_sem,cK,Fm.gb aB,al.eta,av,bN,la,if_neg ar]
theorem X7{m:al}(hm:Ag m):∀(n:Nat) (f:Fm),301000000+f.bd<n→f.b2→f.bd≤12300→qX n [m.d,f.d]=some (J (ki m f))
 |0,_,h,_,_=>absurd h (Nat.not_lt_zero _)
 |n+1,f,aI,ba,az=>by
  have NP:=f.yG
  have jl:=f.jt
  rw [Ow]
  have a4:=XQ hm n (by omega) ba.e (by omega) false
  have hlen:lenP (b3 6 f.nl (Fm.rows f.kids))=some (J f.kids.length):=by simp
  have aq:=dr (f:=DU (qX n) n) f.kids (fun i (_:Unit)=>[J (i:Int),a1 m.vars,aA m.defs,an m.init,an m.bc,aA m.next,an m.trans,an m.fair,bj m.specs,J f.op,J f.e.op,J f.e.num,aJ f.e.name,b3 4 f.e.nl (Tm.rows f.e.kids),b3 6 f.nl (Fm.rows f.kids)])
   (fun r _=>if la m r=0 then(.inl []:List D⊕D) else .inr (J (la m r))) (fun _ _=>True) ?_ ?_ n 0 () trivial (by have:=f.jt;omega) (Nat.zero_le _)
  ·have bB:(J ((0:Nat):Int))=J 0:=rfl
   rw [bB,List.drop_zero] at aq
   show DV (qX n) n m.d f.d=_
   by_cases ad:f.op=1
   ·have dw:(f.op==1)=true:=by simp [ad]
    simp only [DV,go_sem,al.agg,dw,if_pos ad,al.aK,al.bb,al.bp,al.bs,al.cc,al.cy,al.cz,al.cJ,al.eta,a4]
   ·have dw:(f.op==1)=false:=by simpa using ad
    simp only [DV,go_sem,al.agg,dw,if_neg ad,al.aK,al.bb,al.bp,al.bs,al.cc,al.cy,al.cz,al.cJ,al.eta,hlen,aq]
    by_cases ar:la m f.kids=0
    ·rw [if_pos ar,ar,nz]
    ·rw [if_neg ar,Bt]
  ·intro _ _
   simp only [DU,go_sem,hlen,decide_eq_false (show¬((f.kids.length:Int)<f.kids.length) by omega),la]
  ·intro i a _ aB af _
   have jV:=List.mem_of_getElem? aB
   have bN:=Fm.hS jV
   have av:=X7 hm n a (by omega) (ba.er jV) (by omega)
   have cK:=decide_eq_true (show((i:Int)<(f.kids.length:Int)) by omega)
   by_cases ar:ki m a=0
   ·left
    rw [ar] at av
    refine ⟨(),?_,by simp only [la,ar,if_true],trivial⟩
    have bN:((0:Int) !=0)=false:=rfl
    simp only [DU,go_sem,hlen,cK,Fm.gb aB,al.eta,av,bN,cf (bt:=false) (i:=i) (by omega)]
   ·right
    have bN:(ki m a !=0)=true:=by simpa using ar
    simp only [DU,go_sem,hlen,cK,Fm.gb aB,al.eta,av,bN,la,if_neg ar]
section
variable{m:al}{n:Nat}(hm:IF m n)
include hm
theorem apy(i:Nat)(af:i<m.defs.length):r6 n [aA m.defs,m.d,J (i:Int)]=some (J (kj m i)):=by
 have ak:=hm.hW
 have uM:=hm.bd.dl
 have iF:=hm.bd.iG
 obtain ⟨d,ax⟩:∃d,m.defs[i]?=some d:=⟨m.defs[i],List.getElem?_eq_getElem af⟩
 have Ox:=hm.X4 d (List.mem_of_getElem? ax)
 have bV:=Of n d.name (by omega) Ox.2
 have fR:=ao1 n m.vars d.name (by omega) (by omega)
 have cv:=ao4 n (m.defs.take i) d.name (by simp;omega) (by simp;omega)
 have az:=X5 (l:=m.defs) (i:=i) (by omega)
 simp only [kj,ax]
 cases ad:isName d.name with
 |false=>simp only [r6,CY,go_sem,al.agg,et ax,a5.fq,bV,ad]
 |true=>
  cases ae:(dC m.vars d.name).isSome with
  |true=>simp only [r6,CY,go_sem,al.agg,al.aK,et ax,a5.fq,bV,ad,fR,ae]
  |false=>
   cases ay:(cS (m.defs.take i) d.name).isSome with
   |true=>simp only [r6,CY,go_sem,al.agg,al.aK,et ax,a5.fq,bV,ad,fR,ae,az,cv,ay,Bool.or_false,Bool.false_or]
   |false=>simp only [r6,CY,go_sem,al.agg,al.aK,et ax,a5.fq,bV,ad,fR,ae,az,cv,ay,Bool.or_false,Bool.false_or]
theorem apz(i:Nat)(af:i<m.defs.length):y4 n [aA m.defs,m.d,J (i:Int)]=some (J (kk m i)):=by
 have ak:=hm.hW
 obtain ⟨d,ax⟩:∃d,m.defs[i]?=some d:=⟨m.defs[i],List.getElem?_eq_getElem af⟩
 have gz:=hm.bd.d.e d (List.mem_of_getElem? ax)
 have a4:=Ot hm.bd n (by omega) gz.1 gz.2 false
 simp only [kk,ax]
 simp only [y4,Tl,go_sem,al.agg,al.aK,al.bb,al.bp,al.bs,al.cc,al.cy,al.cz,al.cJ,al.eta,et ax,a5.gq,a4,nT]
theorem apA(l:List Tm)(aq:∀t∈l,t.b2∧t.bd≤12300)(k:Int)(nx:Bool)(i:Nat)(af:i<l.length):y3 n [.agg [J k,an l,au nx],m.d,J (i:Int)]=some (J (ea m l nx i)):=by
 have ak:=hm.hW
 obtain ⟨t,aE⟩:∃t,l[i]?=some t:=⟨l[i],List.getElem?_eq_getElem af⟩
 have EH:=aq t (List.mem_of_getElem? aE)
 have a4:=XP hm.bd n (by omega) EH.1 EH.2 nx
 have aB:aL 3 (.agg [J k,an l,au nx])=true:=rfl
 have bb:aa (.agg [J k,an l,au nx]) 1=an l:=rfl
 have bp:aa (.agg [J k,an l,au nx]) 2=au nx:=rfl
 simp only [ea,aE]
 simp only [y3,Tk,go_sem,aB,bb,bp,al.agg,al.aK,al.bb,al.bp,al.bs,al.cc,al.cy,al.cz,al.cJ,al.eta,pW aE,a4]
theorem apB(i:Nat)(af:i<m.next.length):tH n [aA m.next,m.d,J (i:Int)]=some (J (h3 m i)):=by
 have ak:=hm.hW
 have qx:=hm.next.1
 have iF:=hm.bd.iG
 obtain ⟨d,ax⟩:∃d,m.next[i]?=some d:=⟨m.next[i],List.getElem?_eq_getElem af⟩
 have gz:=hm.next.2 d (List.mem_of_getElem? ax)
 have a4:=Ot hm.bd n (by omega) gz.1 gz.2 false
 have fR:=ao6 n m.vars d.name (by omega) (by omega)
 have cv:=ao9 n (m.next.take i) d.name (by simp;omega) (by simp;omega)
 have az:=X5 (l:=m.next) (i:=i) (by omega)
 simp only [h3,ax]
 cases ad:dC m.vars d.name with
 |none=>
  have ar:decide (eI none<0)=true:=rfl
  simp only [tH,G3,go_sem,al.agg,al.aK,et ax,a5.fq,fR,ad,ar]
 |some k=>
  have ar:decide (eI (some k)<0)=false:=by rw [XB];rfl
  have jl:k<m.vars.length:=by
   have:=List.findIdx?_eq_some_iff_getElem.1 ad
   exact this.1
  obtain ⟨v,aM⟩:∃v,m.vars[k]?=some v:=⟨m.vars[k],List.getElem?_eq_getElem jl⟩
  have jF:a2 4 (a1 m.vars) (J (eI (some k)))=some v.cells:=ij aM
  have vq:aW false 1 1 v.cells=some (au v.bool):=rfl
  simp only [aM,Option.map_some,Option.getD_some]
  cases ay:(cS (m.next.take i) d.name).isSome with
  |true=>simp only [tH,G3,go_sem,al.agg,al.aK,et ax,a5.fq,fR,ad,ar,az,cv,ay]
  |false=>
   generalize fL m false d.e=y at*
   have ca:binP true .neq (au y.1.b) (au v.bool)=some (au (y.1.b !=v.bool)):=rfl
   simp only [tH,G3,go_sem,al.agg,al.aK,al.bb,al.bp,al.bs,al.cc,al.cy,al.cz,al.cJ,al.eta,et ax,a5.fq,a5.gq,fR,ad,ar,az,cv,ay,a4,nT,rb,jF,vq,ca]
   by_cases aj:(y.2==0&&(y.1.b !=v.bool))=true
   ·rw [if_pos aj,if_pos aj]
   ·rw [if_neg aj,if_neg aj]
theorem apC(i:Nat)(af:i<m.specs.length):r4 n [bj m.specs,m.d,J (i:Int)]=some (J (h4 m i)):=by
 have ak:=hm.hW
 have zQ:=hm.specs.1
 obtain ⟨s,az⟩:∃s,m.specs[i]?=some s:=⟨m.specs[i],List.getElem?_eq_getElem af⟩
 obtain ⟨⟨a6,Gu⟩,apD,Oy⟩:=hm.specs.2 s (List.mem_of_getElem? az)
 have bV:=Of n s.name (by omega) Oy
 have cv:=ape n (m.specs.take i) s.name (by simp;omega) (by simp;omega)
 have hK:=apx (l:=m.specs) (i:=i) (by omega)
 have bX:=NS n s.f (by omega) a6 (by omega)
 have gV:=X6 hm.bd n s.f (by omega) a6 Gu
 simp only [h4,az]
 cases ad:isName s.name with
 |false=>simp only [r4,CI,go_sem,al.agg,kH az,cm.fq,bV,ad]
 |true=>
  cases ay:(me (m.specs.take i) s.name).isSome with
  |true=>simp only [r4,CI,go_sem,al.agg,kH az,cm.fq,bV,ad,hK,cv,ay]
  |false=>
   by_cases aZ:jT s.f=0
   ·have kZ:(jT s.f !=0)=false:=by simp [aZ]
    simp only [r4,CI,go_sem,al.agg,al.aK,al.bb,al.bp,al.bs,al.cc,al.cy,al.cz,al.cJ,al.eta,kH az,cm.fq,cm.gq,bV,ad,hK,cv,ay,bX,kZ,if_pos aZ,gV]
   ·have kZ:(jT s.f !=0)=true:=by simpa using aZ
    simp only [r4,CI,go_sem,al.agg,al.aK,al.bb,al.bp,al.bs,al.cc,al.cy,al.cz,al.cJ,al.eta,kH az,cm.fq,cm.gq,bV,ad,hK,cv,ay,bX,kZ,if_neg aZ]
end
end Go.Am
namespace Go.Am
set_option linter.unusedVariables false
set_option linter.unusedSimpArgs false
def eW(p:Int×Int):D:= .aO [J p.1,J p.2]
def sC(a b:Int×Int):Int×Int:=if a.2=0 then b else a
theorem findIdx_take{α:Type}{l:List α}{p:α→Bool}{i:Nat}{d:α}(ax:l[i]?=some d)(aY:p d=true):decide (eI (l.findIdx? p)<(i:Int))=((l.take i).findIdx? p).isSome:=by
 obtain ⟨af,apE⟩:=List.getElem?_eq_some_iff.1 ax
 cases h:l.findIdx? p with
 |none=>
  have:=List.findIdx?_eq_none_iff.1 h d (List.mem_of_getElem? ax)
  rw [aY] at this;cases this
 |some k=>
  obtain ⟨ai,apF,x4⟩:=List.findIdx?_eq_some_iff_getElem.1 h
  rw [List.findIdx?_isSome]
  have oZ:k≤i:=by
   rcases Nat.lt_or_ge i k with ad|ad
   ·have:=x4 i ad;rw [apE] at this;exact absurd aY this
   ·exact ad
  by_cases he:k<i
  ·have ad:decide (eI (some k)<(i:Int))=true:=decide_eq_true (by show(k:Int)<(i:Int);omega)
   rw [ad];symm
   rw [List.any_eq_true]
   refine ⟨l[k],List.mem_iff_getElem?.2 ⟨k,?_⟩,apF⟩
   rw [List.getElem?_take_of_lt he];exact List.getElem?_eq_getElem ai
  ·have ad:decide (eI (some k)<(i:Int))=false:=decide_eq_false (by show¬(k:Int)<(i:Int);omega)
   rw [ad];symm
   rw [Bool.eq_false_iff,ne_eq,List.any_eq_true]
   rintro ⟨a,aB,apG⟩
   obtain ⟨j,aH⟩:=List.mem_iff_getElem?.1 aB
   have cK:=(List.getElem?_eq_some_iff.1 aH).1
   simp only [List.length_take] at cK
   rw [List.getElem?_take_of_lt (by omega)] at aH
   obtain ⟨auh,apH⟩:=List.getElem?_eq_some_iff.1 aH
   have:=x4 j (by omega)
   rw [apH] at this;exact this apG
noncomputable def p2(m:al):Int×Int:=sC (b4 (kj m) m.defs.length 0) (sC (b4 (kL m) m.defs.length 0) (b4 (kk m) m.defs.length 0))
section
variable{m:al}{n:Nat}(hm:IF m n)
include hm
theorem apI:bk (w9 n) n [J 0,a1 m.vars,aA m.defs,an m.init,an m.bc,aA m.next,an m.trans,an m.fair,bj m.specs]=some (if(b4 (kj m) m.defs.length 0).2=0 then .inl [a1 m.vars,aA m.defs,an m.init,an m.bc,aA m.next,an m.trans,an m.fair,bj m.specs] else .inr (eW (b4 (kj m) m.defs.length 0))):=by
 have ak:=hm.hW
 have uM:=hm.bd.dl
 have iF:=hm.bd.iG
 refine k9 (fun i=>[J (i:Int),a1 m.vars,aA m.defs,an m.init,an m.bc,aA m.next,an m.trans,an m.fair,bj m.specs]) (kj m) m.defs.length _ eW ?_ ?_ _ 0 n (by omega) (by omega)
 ·intro i af
  obtain ⟨d,ax⟩:∃d,m.defs[i]?=some d:=⟨m.defs[i],List.getElem?_eq_getElem af⟩
  have Ox:=hm.X4 d (List.mem_of_getElem? ax)
  have bV:=Og n d.name (by omega) Ox.2
  have fR:=X1 n m d.name (by omega) (by omega)
  have cv:=X0 n m d.name (by omega) (by omega)
  have bS:=decide_eq_true (show((i:Int)<(m.defs.length:Int)) by omega)
  have EI:=findIdx_take (p:=fun e:a5=>decide (e.name=d.name)) ax (by simp)
  change decide (eI (cS m.defs d.name)<(i:Int))=(cS (m.defs.take i) d.name).isSome at EI
  simp only [kj,ax]
  cases ad:isName d.name with
  |false=>simp only [w9,go_sem,dA,bS,et ax,a5.fq,bV,ad,if_neg (show¬(12:Int)=0 by decide),eW]
  |true=>
   cases ae:(dC m.vars d.name).isSome with
   |true=>
    have fF:=xE (dC m.vars d.name)
    rw [ae] at fF
    simp only [w9,go_sem,dA,bS,et ax,a5.fq,bV,ad,al.eta,fR,fF,rQ,if_neg (show¬(true=false) by decide),rR,if_neg (show¬(6:Int)=0 by decide),eW]
   |false=>
    have fF:=xE (dC m.vars d.name)
    rw [ae] at fF
    cases ay:(cS (m.defs.take i) d.name).isSome with
    |true=>
     rw [ay] at EI
     simp only [w9,go_sem,dA,bS,et ax,a5.fq,bV,ad,al.eta,fR,fF,rQ,cv,EI,rR,if_neg (show¬(6:Int)=0 by decide),eW,Bool.or_true]
    |false=>
     rw [ay] at EI
     simp only [w9,go_sem,dA,bS,et ax,a5.fq,bV,ad,al.eta,fR,fF,rQ,cv,EI,rR,Bool.or_false,cf (bt:=false) (i:=i) (by omega)]
 ·simp only [w9,go_sem,dA,decide_eq_false (show¬((m.defs.length:Int)<m.defs.length) by omega)]
theorem apJ:bk (DP n) n [J 0,a1 m.vars,aA m.defs,an m.init,an m.bc,aA m.next,an m.trans,an m.fair,bj m.specs]=some (if(b4 (kL m) m.defs.length 0).2=0 then .inl [a1 m.vars,aA m.defs,an m.init,an m.bc,aA m.next,an m.trans,an m.fair,bj m.specs] else .inr (eW (b4 (kL m) m.defs.length 0))):=by
 have ak:=hm.hW
 have uM:=hm.bd.dl
 refine k9 (fun i=>[J (i:Int),a1 m.vars,aA m.defs,an m.init,an m.bc,aA m.next,an m.trans,an m.fair,bj m.specs]) (kL m) m.defs.length _ eW ?_ ?_ _ 0 n (by omega) (by omega)
 ·intro i af
  obtain ⟨S,cx,X8⟩:=apw n m hm.bd.d i af (by omega)
  have bS:=decide_eq_true (show((i:Int)<(m.defs.length:Int)) by omega)
  have ag:a2 1 (iH m.defs.length S) (J (i:Int))=some [au (decide (i∈S))]:=by
   rw [iH,Sc,EA af]
  cases ad:hV m.defs i with
  |true=>
   have ae:=decide_eq_true (X8.2 ad)
   simp only [DP,go_sem,dA,bS,al.eta,cx,ag,xF,ae,kL,ad,if_neg (show¬(14:Int)=0 by decide),eW]
  |false=>
   have ae:=decide_eq_false (show¬i∈S from fun h=>by rw [X8.1 h] at ad;cases ad)
   simp only [DP,go_sem,dA,bS,al.eta,cx,ag,xF,ae,kL,ad,cf (bt:=false) (i:=i) (by omega)]
 ·simp only [DP,go_sem,dA,decide_eq_false (show¬((m.defs.length:Int)<m.defs.length) by omega)]
theorem apK:bk (DQ n) n [J 0,a1 m.vars,aA m.defs,an m.init,an m.bc,aA m.next,an m.trans,an m.fair,bj m.specs]=some (if(b4 (kk m) m.defs.length 0).2=0 then .inl [] else .inr (eW (b4 (kk m) m.defs.length 0))):=by
 have ak:=hm.hW
 have uM:=hm.bd.dl
 refine k9 (fun i=>[J (i:Int),a1 m.vars,aA m.defs,an m.init,an m.bc,aA m.next,an m.trans,an m.fair,bj m.specs]) (kk m) m.defs.length _ eW ?_ ?_ _ 0 n (by omega) (by omega)
 ·intro i af
  obtain ⟨d,ax⟩:∃d,m.defs[i]?=some d:=⟨m.defs[i],List.getElem?_eq_getElem af⟩
  have gz:=hm.bd.d.e d (List.mem_of_getElem? ax)
  have a4:=Ou hm.bd n (by omega) gz.1 gz.2 false
  have bS:=decide_eq_true (show((i:Int)<(m.defs.length:Int)) by omega)
  simp only [kk,ax]
  by_cases ad:(fL m false d.e).2=0
  ·have dw:((fL m false d.e).2 !=0)=false:=by simp [ad]
   simp only [DQ,go_sem,dA,bS,al.eta,et ax,a5.gq,a4,nT,dw,if_pos ad,cf (bt:=false) (i:=i) (by omega)]
  ·have dw:((fL m false d.e).2 !=0)=true:=by simpa using ad
   simp only [DQ,go_sem,dA,bS,al.eta,et ax,a5.gq,a4,nT,dw,if_neg ad,eW]
 ·simp only [DQ,go_sem,dA,decide_eq_false (show¬((m.defs.length:Int)<m.defs.length) by omega)]
theorem apL:tT n [m.d]=some (eW (p2 m)):=by
 have ae:=apI hm
 have jg:=apJ hm
 have k8:=apK hm
 have bN:∀e k,(b4 e k 0).2=0→b4 e k 0=(0,0):=fun e k=>p1 e k 0
 unfold p2 sC
 by_cases bb:(b4 (kj m) m.defs.length 0).2=0
 case neg=>
  rw [if_neg bb] at ae⊢
  simp only [tT,DR,go_sem,al.agg,al.aK,al.bb,al.bp,al.bs,al.cc,al.cy,al.cz,al.cJ,ae]
 rw [if_pos bb] at ae⊢
 by_cases bp:(b4 (kL m) m.defs.length 0).2=0
 case neg=>
  rw [if_neg bp] at jg⊢
  simp only [tT,DR,go_sem,al.agg,al.aK,al.bb,al.bp,al.bs,al.cc,al.cy,al.cz,al.cJ,ae,jg]
 rw [if_pos bp] at jg⊢
 by_cases bs:(b4 (kk m) m.defs.length 0).2=0
 ·rw [if_pos bs] at k8
  rw [bN _ _ bs]
  simp only [tT,DR,go_sem,al.agg,al.aK,al.bb,al.bp,al.bs,al.cc,al.cy,al.cz,al.cJ,ae,jg,k8,eW]
 ·rw [if_neg bs] at k8
  simp only [tT,DR,go_sem,al.agg,al.aK,al.bb,al.bp,al.bs,al.cc,al.cy,al.cz,al.cJ,ae,jg,k8]
theorem IG(l:List Tm)(aq:l.length≤100∧∀t∈l,t.b2∧t.bd≤12300)(nx:Bool):sl n [m.d,an l,au nx]=some (eW (b4 (ea m l nx) l.length 0)):=by
 have ak:=hm.hW
 have af:=k9 (f:=DS n) (fun i=>[an l,au nx,J (i:Int),a1 m.vars,aA m.defs,an m.init,an m.bc,aA m.next,an m.trans,an m.fair,bj m.specs]) (ea m l nx) l.length [] eW ?_ ?_ l.length 0 n (by omega) (by omega)
 ·have bB:(J ((0:Nat):Int))=J 0:=rfl
  rw [bB] at af
  by_cases c:(b4 (ea m l nx) l.length 0).2=0
  ·rw [if_pos c] at af
   rw [p1 _ _ _ c]
   simp only [sl,MV,go_sem,al.agg,al.aK,al.bb,al.bp,al.bs,al.cc,al.cy,al.cz,al.cJ,af,eW]
  ·rw [if_neg c] at af
   simp only [sl,MV,go_sem,al.agg,al.aK,al.bb,al.bp,al.bs,al.cc,al.cy,al.cz,al.cJ,af]
 ·intro i af
  obtain ⟨t,aE⟩:∃t,l[i]?=some t:=⟨l[i],List.getElem?_eq_getElem af⟩
  have EH:=aq.2 t (List.mem_of_getElem? aE)
  have a4:=XQ hm.bd n (by omega) EH.1 EH.2 nx
  have bS:=decide_eq_true (show((i:Int)<(l.length:Int)) by omega)
  simp only [ea,aE]
  by_cases ad:m9 m nx t=0
  ·have dw:(m9 m nx t !=0)=false:=by simp [ad]
   simp only [DS,go_sem,gZ,bS,al.eta,pW aE,a4,dw,if_pos ad,cf (bt:=false) (i:=i) (by have:=aq.1;omega)]
  ·have dw:(m9 m nx t !=0)=true:=by simpa using ad
   simp only [DS,go_sem,gZ,bS,al.eta,pW aE,a4,dw,if_neg ad,eW]
 ·simp only [DS,go_sem,gZ,decide_eq_false (show¬((l.length:Int)<l.length) by omega)]
theorem apM(i:Nat)(k:Int){d:a5}(ax:m.next[i]?=some d):bk (zu n) n [J (i:Int),J k,J 0,a1 m.vars,aA m.defs,an m.init,an m.bc,aA m.next,an m.trans,an m.fair,bj m.specs]=some (if(cS (m.next.take i) d.name).isSome=true then .inr (.inr (.inr (.inr (.aO [J (i:Int),J 6])))) else .inl [J (i:Int),J k,a1 m.vars,aA m.defs,an m.init,an m.bc,aA m.next,an m.trans,an m.fair,bj m.specs]):=by
 have ak:=hm.hW
 have qx:=hm.next.1
 have bS:=(List.getElem?_eq_some_iff.1 ax).1
 have bJ:(m.next.take i).length=i:=by simp;omega
 have af:=dr (f:=zu n) (m.next.take i) (fun j (_:Unit)=>[J (i:Int),J k,J (j:Int),a1 m.vars,aA m.defs,an m.init,an m.bc,aA m.next,an m.trans,an m.fair,bj m.specs])
  (fun r _=>(if(cS r d.name).isSome=true then .inr (.inr (.inr (.inr (.aO [J (i:Int),J 6])))) else .inl [J (i:Int),J k,a1 m.vars,aA m.defs,an m.init,an m.bc,aA m.next,an m.trans,an m.fair,bj m.specs]:List D⊕(List D⊕(List D⊕(List D⊕D))))) (fun _ _=>True)
  (fun _ _=>by rw [bJ];simp only [zu,go_sem,decide_eq_false (show¬((i:Int)<i) by omega)];rfl) ?_ n 0 () trivial (by omega) (Nat.zero_le _)
 ·exact af
 ·intro j a _ aB aH _
  rw [bJ] at aH
  rw [List.getElem?_take_of_lt aH] at aB
  have cK:=decide_eq_true (show((j:Int)<(i:Int)) by omega)
  have aj:cS (a::(m.next.take i).drop (j+1)) d.name=if decide (a.name=d.name)=true then some 0 else(cS ((m.next.take i).drop (j+1)) d.name).map (·+1):=findIdx_cons _ a _
  rw [aj]
  by_cases h:a.name=d.name
  ·right
   rw [if_pos (decide_eq_true h)]
   simp only [zu,go_sem,cK,et aB,et ax,a5.fq,decide_eq_true h,Option.isSome_some]
  ·left
   refine ⟨(),?_,?_,trivial⟩
   ·simp only [zu,go_sem,cK,et aB,et ax,a5.fq,decide_eq_false h,cf (bt:=false) (i:=j) (by omega)]
   ·have bm:¬(decide (a.name=d.name)=true):=by simpa using h
    rw [if_neg bm,Option.isSome_map]
theorem apN(i:Nat){d:cm}(ax:m.specs[i]?=some d):bk (zy n) n [J (i:Int),J 0,a1 m.vars,aA m.defs,an m.init,an m.bc,aA m.next,an m.trans,an m.fair,bj m.specs]=some (if(me (m.specs.take i) d.name).isSome=true then .inr (.inr (.inr (.inr (.aO [J (i:Int),J 6])))) else .inl [J (i:Int),a1 m.vars,aA m.defs,an m.init,an m.bc,aA m.next,an m.trans,an m.fair,bj m.specs]):=by
 have ak:=hm.hW
 have qx:=hm.specs.1
 have bS:=(List.getElem?_eq_some_iff.1 ax).1
 have bJ:(m.specs.take i).length=i:=by simp;omega
 have af:=dr (f:=zy n) (m.specs.take i) (fun j (_:Unit)=>[J (i:Int),J (j:Int),a1 m.vars,aA m.defs,an m.init,an m.bc,aA m.next,an m.trans,an m.fair,bj m.specs])
  (fun r _=>(if(me r d.name).isSome=true then .inr (.inr (.inr (.inr (.aO [J (i:Int),J 6])))) else .inl [J (i:Int),a1 m.vars,aA m.defs,an m.init,an m.bc,aA m.next,an m.trans,an m.fair,bj m.specs]:List D⊕(List D⊕(List D⊕(List D⊕D))))) (fun _ _=>True)
  (fun _ _=>by rw [bJ];simp only [zy,go_sem,decide_eq_false (show¬((i:Int)<i) by omega)];rfl) ?_ n 0 () trivial (by omega) (Nat.zero_le _)
 ·exact af
 ·intro j a _ aB aH _
  rw [bJ] at aH
  rw [List.getElem?_take_of_lt aH] at aB
  have cK:=decide_eq_true (show((j:Int)<(i:Int)) by omega)
  have aj:me (a::(m.specs.take i).drop (j+1)) d.name=if decide (a.name=d.name)=true then some 0 else(me ((m.specs.take i).drop (j+1)) d.name).map (·+1):=findIdx_cons _ a _
  rw [aj]
  by_cases h:a.name=d.name
  ·right
   rw [if_pos (decide_eq_true h)]
   simp only [zy,go_sem,cK,kH aB,kH ax,cm.fq,decide_eq_true h,Option.isSome_some]
  ·left
   refine ⟨(),?_,?_,trivial⟩
   ·simp only [zy,go_sem,cK,kH aB,kH ax,cm.fq,decide_eq_false h,cf (bt:=false) (i:=j) (by omega)]
   ·have bm:¬(decide (a.name=d.name)=true):=by simpa using h
    rw [if_neg bm,Option.isSome_map]
theorem apO:zv n [m.d]=some (eW (b4 (h3 m) m.next.length 0)):=by
 have ak:=hm.hW
 have qx:=hm.next.1
 have iF:=hm.bd.iG
 have af:=k9 (f:=tV n) (fun i=>[J (i:Int),a1 m.vars,aA m.defs,an m.init,an m.bc,aA m.next,an m.trans,an m.fair,bj m.specs]) (h3 m) m.next.length [] eW ?_ ?_ m.next.length 0 n (by omega) (by omega)
 ·have bB:(J ((0:Nat):Int))=J 0:=rfl
  rw [bB] at af
  by_cases c:(b4 (h3 m) m.next.length 0).2=0
  ·rw [if_pos c] at af
   rw [p1 _ _ _ c]
   simp only [zv,MW,go_sem,al.agg,al.aK,al.bb,al.bp,al.bs,al.cc,al.cy,al.cz,al.cJ,af,eW]
  ·rw [if_neg c] at af
   simp only [zv,MW,go_sem,al.agg,al.aK,al.bb,al.bp,al.bs,al.cc,al.cy,al.cz,al.cJ,af]
 ·intro i af
  obtain ⟨d,ax⟩:∃d,m.next[i]?=some d:=⟨m.next[i],List.getElem?_eq_getElem af⟩
  have gz:=hm.next.2 d (List.mem_of_getElem? ax)
  have a4:=Ou hm.bd n (by omega) gz.1 gz.2 false
  have fR:=X1 n m d.name (by omega) (by omega)
  have bS:=decide_eq_true (show((i:Int)<(m.next.length:Int)) by omega)
  simp only [h3,ax]
  cases ad:dC m.vars d.name with
  |none=>
   rw [ad] at fR
   have ar:decide (eI none<0)=true:=rfl
   simp only [tV,go_sem,dA,bS,al.eta,et ax,a5.fq,fR,ar,if_neg (show¬(12:Int)=0 by decide),eW]
  |some k=>
   rw [ad] at fR
   have h0:=apM hm i (eI (some k)) ax
   have ar:decide (eI (some k)<0)=false:=by rw [XB];rfl
   have jl:k<m.vars.length:=by
    have:=List.findIdx?_eq_some_iff_getElem.1 ad
    exact this.1
   obtain ⟨v,aM⟩:∃v,m.vars[k]?=some v:=⟨m.vars[k],List.getElem?_eq_getElem jl⟩
   have jF:a2 4 (a1 m.vars) (J (eI (some k)))=some v.cells:=ij aM
   have vq:aW false 1 1 v.cells=some (au v.bool):=rfl
   simp only [aM,Option.map_some,Option.getD_some]
   cases ay:(cS (m.next.take i) d.name).isSome with
   |true=>
    rw [ay,if_pos rfl] at h0
    simp only [tV,go_sem,dA,bS,al.eta,et ax,a5.fq,fR,ar,h0,if_neg (show¬(6:Int)=0 by decide),eW]
   |false=>
    rw [ay,if_neg (by decide)] at h0
    generalize fL m false d.e=y at*
    have ca:binP true .neq (au y.1.b) (au v.bool)=some (au (y.1.b !=v.bool)):=rfl
    have kK:((13:Int) !=0)=true:=rfl
    by_cases aj:(y.2==0&&(y.1.b !=v.bool))=true
    ·simp only [tV,go_sem,dA,bS,al.eta,et ax,a5.fq,a5.gq,fR,ar,h0,a4,nT,rb,jF,vq,ca,aj,kK,if_neg (show¬(13:Int)=0 by decide),eW]
    ·have c9:(y.2==0&&(y.1.b !=v.bool))=false:=by simpa using aj
     by_cases aN:y.2=0
     ·have rv:(y.2 !=0)=false:=by simp [aN]
      simp only [tV,go_sem,dA,bS,al.eta,et ax,a5.fq,a5.gq,fR,ar,h0,a4,nT,rb,jF,vq,ca,c9,rv,if_pos aN,cf (bt:=false) (i:=i) (by omega)]
     ·have rv:(y.2 !=0)=true:=by simpa using aN
      simp only [tV,go_sem,dA,bS,al.eta,et ax,a5.fq,a5.gq,fR,ar,h0,a4,nT,rb,jF,vq,ca,c9,rv,if_neg aN,eW]
 ·simp only [tV,go_sem,dA,decide_eq_false (show¬((m.next.length:Int)<m.next.length) by omega)]
theorem apP:zz n [m.d]=some (eW (b4 (h4 m) m.specs.length 0)):=by
 have ak:=hm.hW
 have zQ:=hm.specs.1
 have af:=k9 (f:=tW n) (fun i=>[J (i:Int),a1 m.vars,aA m.defs,an m.init,an m.bc,aA m.next,an m.trans,an m.fair,bj m.specs]) (h4 m) m.specs.length [] eW ?_ ?_ m.specs.length 0 n (by omega) (by omega)
 ·have bB:(J ((0:Nat):Int))=J 0:=rfl
  rw [bB] at af
  by_cases c:(b4 (h4 m) m.specs.length 0).2=0
  ·rw [if_pos c] at af
   rw [p1 _ _ _ c]
   simp only [zz,MY,go_sem,al.agg,al.aK,al.bb,al.bp,al.bs,al.cc,al.cy,al.cz,al.cJ,af,eW]
  ·rw [if_neg c] at af
   simp only [zz,MY,go_sem,al.agg,al.aK,al.bb,al.bp,al.bs,al.cc,al.cy,al.cz,al.cJ,af]
 ·intro i af
  obtain ⟨s,az⟩:∃s,m.specs[i]?=some s:=⟨m.specs[i],List.getElem?_eq_getElem af⟩
  obtain ⟨⟨a6,Gu⟩,apD,Oy⟩:=hm.specs.2 s (List.mem_of_getElem? az)
  have bV:=Og n s.name (by omega) Oy
  have fi:=apN hm i az
  have bX:=NR n s.f (by omega) a6 (by omega)
  have gV:=X7 hm.bd n s.f (by omega) a6 Gu
  have bS:=decide_eq_true (show((i:Int)<(m.specs.length:Int)) by omega)
  simp only [h4,az]
  cases ad:isName s.name with
  |false=>simp only [tW,go_sem,hc,bS,kH az,cm.fq,bV,ad,if_neg (show¬(12:Int)=0 by decide),eW]
  |true=>
   cases ay:(me (m.specs.take i) s.name).isSome with
   |true=>
    rw [ay,if_pos rfl] at fi
    simp only [tW,go_sem,hc,bS,kH az,cm.fq,bV,ad,fi,if_neg (show¬(6:Int)=0 by decide),eW]
   |false=>
    rw [ay,if_neg (by decide)] at fi
    by_cases aZ:jT s.f=0
    ·have kZ:(jT s.f==0)=true:=by simp [aZ]
     by_cases bG:ki m s.f=0
     ·have rO:(ki m s.f !=0)=false:=by simp [bG]
      simp only [tW,go_sem,hc,bS,al.eta,kH az,cm.fq,cm.gq,bV,ad,fi,bX,kZ,if_pos aZ,gV,rO,if_pos bG,cf (bt:=false) (i:=i) (by omega)]
     ·have rO:(ki m s.f !=0)=true:=by simpa using bG
      simp only [tW,go_sem,hc,bS,al.eta,kH az,cm.fq,cm.gq,bV,ad,fi,bX,kZ,if_pos aZ,gV,rO,if_neg bG,eW]
    ·have kZ:(jT s.f==0)=false:=by simpa using aZ
     have apQ:(jT s.f !=0)=true:=by simpa using aZ
     simp only [tW,go_sem,hc,bS,al.eta,kH az,cm.fq,cm.gq,bV,ad,fi,bX,kZ,apQ,if_neg aZ,eW]
 ·simp only [tW,go_sem,hc,decide_eq_false (show¬((m.specs.length:Int)<m.specs.length) by omega)]
end
end Go.Am
namespace Go.Am
set_option linter.unusedVariables false
set_option linter.unusedSimpArgs false
def lL:List V→Nat
 |[]=>0
 |v::r=>bitsOf v.span+lL r
theorem V.apR(v:V):D.agg [aa v.d 0,aa v.d 1,aa v.d 2,aa v.d 3]=v.d:=rfl
theorem apS(n:Nat)(m:al)(aM:pZ m.vars)(aq:m.vars.length≤100)(aI:200<n):BZ n [m.d]=some (J (lL m.vars:Nat)):=by
 have af:=dr (f:=GK n) m.vars (fun i (s:Nat)=>[J (s:Int),a1 m.vars,J m.vars.length,J (i:Int)]) (fun r s=>(.inl [J ((s+lL r:Nat):Int)]:List D⊕D)) (fun i s=>s≤62*i) ?_ ?_ n 0 0 (by simp) (by omega) (Nat.zero_le _)
 ·have bB:(J ((0:Nat):Int))=J 0:=rfl
  rw [bB,List.drop_zero,Nat.zero_add] at af
  simp only [BZ,S0,go_sem,al.agg,al.aK,fw,af]
 ·intro s az
  simp only [GK,go_sem,decide_eq_false (show¬((m.vars.length:Int)<m.vars.length) by omega),lL,Nat.add_zero]
 ·intro i v s kJ af az
  obtain ⟨ad,ae,_⟩:=aM.2 v (List.mem_of_getElem? kJ)
  have jJ:=aoS n v ad ae
  have ak:=aoU n v.span (V.Ey v).2 (by omega)
  have qd:=(Ad (V.Ey v).2).1
  have bS:=decide_eq_true (show((i:Int)<(m.vars.length:Int)) by omega)
  have fb:binP false .add (J (s:Int)) (J (bitsOf v.span:Nat))=some (J ((s+bitsOf v.span:Nat):Int)):=by
   rw [ec (by omega) (by omega)];rfl
  left
  refine ⟨s+bitsOf v.span,?_,by rw [lL,Nat.add_assoc],by omega⟩
  simp only [GK,go_sem,bS,ij kJ,V.eg,V.ei,V.apR,jJ,ak,fb,cf (bt:=false) (i:=i) (by omega)]
theorem apT(n:Nat)(m:al)(aM:pZ m.vars)(aq:m.vars.length≤100)(aI:200<n):Dv n [m.d]=some (J (lL m.vars:Nat)):=by
 have af:=dr (f:=Hw n) m.vars (fun i (s:Nat)=>[J (s:Int),J (i:Int),a1 m.vars,aA m.defs,an m.init,an m.bc,aA m.next,an m.trans,an m.fair,bj m.specs]) (fun r s=>(.inl [J ((s+lL r:Nat):Int)]:List D⊕D)) (fun i s=>s≤62*i) ?_ ?_ n 0 0 (by simp) (by omega) (Nat.zero_le _)
 ·have bB:(J ((0:Nat):Int))=J 0:=rfl
  rw [bB,List.drop_zero,Nat.zero_add] at af
  simp only [Dv,TZ,go_sem,al.agg,al.aK,al.bb,al.bp,al.bs,al.cc,al.cy,al.cz,al.cJ,af]
 ·intro s az
  simp only [Hw,go_sem,fw,decide_eq_false (show¬((m.vars.length:Int)<m.vars.length) by omega),lL,Nat.add_zero]
 ·intro i v s kJ af az
  obtain ⟨ad,ae,_⟩:=aM.2 v (List.mem_of_getElem? kJ)
  have jJ:=Xy n v ad ae
  have ak:=aoV n v.span (by have:=(V.Ey v).1;omega) (V.Ey v).2 (by omega)
  have qd:=(Ad (V.Ey v).2).1
  have bS:=decide_eq_true (show((i:Int)<(m.vars.length:Int)) by omega)
  have fb:binP false .add (J (s:Int)) (J (bitsOf v.span:Nat))=some (J ((s+bitsOf v.span:Nat):Int)):=by
   rw [ec (by omega) (by omega)];rfl
  left
  refine ⟨s+bitsOf v.span,?_,by rw [lL,Nat.add_assoc],by omega⟩
  simp only [Hw,go_sem,fw,bS,ij kJ,V.eg,jJ,ak,fb,cf (bt:=false) (i:=i) (by omega)]
end Go.Am
namespace Go.Am
set_option linter.unusedVariables false
set_option linter.unusedSimpArgs false
def gR:List (Int×(Int×Int))→Int×(Int×Int)
 |[]=>(0,(0,0))
 |a::r=>if a.2.2=0 then gR r else a
theorem X9{dI:Type}{f:List D→Option (List D⊕(List D⊕dI))}(L:List (Int×(Int×Int)))(dW:Nat→List D)(E:List D)(W:Int×(Int×Int)→dI)
  (az:∀i a,L[i]?=some a→f (dW i)=some (if a.2.2=0 then .inl (dW (i+1)) else .inr (.inr (W a)))) (he:f (dW L.length)=some (.inr (.inl E))) (n:Nat) (aI:L.length<n):
  bk f n (dW 0)=some (if(gR L).2.2=0 then .inl E else .inr (W (gR L))):=by
 have h:=dr (f:=f) L (fun i (_:Unit)=>dW i) (fun r _=>(if(gR r).2.2=0 then .inl E else .inr (W (gR r)):List D⊕dI)) (fun _ _=>True) (fun _ _=>by rw [he];rfl) ?_ n 0 () trivial (by omega) (Nat.zero_le _)
 ·exact h
 ·intro i a _ aB af _
  have ad:=az i a aB
  by_cases ar:a.2.2=0
  ·left
   rw [if_pos ar] at ad
   exact ⟨(),ad,by rw [gR,if_pos ar],trivial⟩
  ·right
   rw [if_neg ar] at ad
   rw [ad,gR,if_neg ar,if_neg ar]
def g1(m:al):List Nat:=[m.vars.length,m.defs.length,m.init.length,m.bc.length,m.next.length,m.trans.length,m.fair.length,m.specs.length]
def g2(m:al)(i:Nat):Int:=if 64<(g1 m)[i]?.getD 0 then 18 else 0
noncomputable def lM(m:al):List (Int×(Int×Int)):=[(2,b4 (kj m) m.defs.length 0),(2,b4 (kL m) m.defs.length 0),(2,b4 (kk m) m.defs.length 0),(3,b4 (ea m m.init false) m.init.length 0),(4,b4 (ea m m.bc false) m.bc.length 0),(5,b4 (h3 m) m.next.length 0),(6,b4 (ea m m.trans true) m.trans.length 0),(7,b4 (ea m m.fair false) m.fair.length 0),(8,b4 (h4 m) m.specs.length 0)]
noncomputable def Oz(m:al):List (Int×(Int×Int)):=[(2,p2 m),(3,b4 (ea m m.init false) m.init.length 0),(4,b4 (ea m m.bc false) m.bc.length 0),(5,b4 (h3 m) m.next.length 0),(6,b4 (ea m m.trans true) m.trans.length 0),(7,b4 (ea m m.fair false) m.fair.length 0),(8,b4 (h4 m) m.specs.length 0)]
theorem Ya{a b:Int×Int}:(sC a b).2=0↔a.2=0∧b.2=0:=by
 unfold sC
 by_cases h:a.2=0<;>simp [h]
theorem Yb(k:Int)(a b:Int×Int)(r:List (Int×(Int×Int))):gR ((k,sC a b)::r)=gR ((k,a)::(k,b)::r):=by
 simp only [gR]
 unfold sC
 by_cases h:a.2=0<;>simp [h]
theorem apU(a:Int×(Int×Int)){r sN:List (Int×(Int×Int))}(h:gR r=gR sN):gR (a::r)=gR (a::sN):=by rw [gR,gR,h]
theorem apV(m:al):gR (Oz m)=gR (lM m):=by
 unfold Oz p2
 rw [Yb]
 exact apU _ (Yb _ _ _ _)
noncomputable def jB(m:al):Int×(Int×Int):=
 if(b4 (g2 m) 8 0).2=0 then
  if(jZ m.vars).2=0 then
   if 30<lL m.vars then(1,(0,18)) else gR (lM m)
  else(1,jZ m.vars)
 else((b4 (g2 m) 8 0).1+1,(64,18))
def dc(q:Int×(Int×Int)):D:= .aO [.agg [J q.1,J q.2.1],J q.2.2]
theorem apW{l:List V}(h:(jZ l).2=0):jZ l=(0,0):=by
 unfold jZ at h⊢
 cases a6:(List.range l.length).find? (fun i=>ia l i !=0) with
 |none=>rw [a6] at h
 |some i=>
  rw [a6] at h
  have:=List.find?_some a6
  simp only at h
  rw [h] at this
  cases this
theorem Yc(L:List (Int×(Int×Int)))(h:(gR L).2.2=0):gR L=(0,(0,0)):=by
 induction L with
 |nil=>rfl
 |cons a r ih=>
  rw [gR] at h⊢
  by_cases ar:a.2.2=0
  ·rw [if_pos ar] at h⊢;exact ih h
  ·rw [if_neg ar] at h;exact absurd h ar
theorem g3{t:Nat}{x:D}:ifcP (.di t x)=some (t,x):=rfl
def re(m:al):D:= .agg ((g1 m).map fun(k:Nat)=>J (k:Int))
def fs(m:al):D:= .agg [.di 151 (aA m.defs),.di 152 (aA m.defs),.di 153 (aA m.defs),.di 155 (.agg [J 3,an m.init,au false]),.di 155 (.agg [J 4,an m.bc,au false]),.di 156 (aA m.next),.di 155 (.agg [J 6,an m.trans,au true]),.di 155 (.agg [J 7,an m.fair,au false]),.di 157 (bj m.specs)]
theorem IH{dI:Type}{a b:Option dI}:fj 151 151 a b=a:=rfl
theorem II{dI:Type}{a b:Option dI}:fj 152 151 a b=b:=rfl
theorem IJ{dI:Type}{a b:Option dI}:fj 152 152 a b=a:=rfl
theorem IK{dI:Type}{a b:Option dI}:fj 153 151 a b=b:=rfl
theorem IL{dI:Type}{a b:Option dI}:fj 153 152 a b=b:=rfl
theorem IM{dI:Type}{a b:Option dI}:fj 153 153 a b=a:=rfl
theorem rf{dI:Type}{a b:Option dI}:fj 155 151 a b=b:=rfl
theorem rh{dI:Type}{a b:Option dI}:fj 155 152 a b=b:=rfl
theorem ri{dI:Type}{a b:Option dI}:fj 155 153 a b=b:=rfl
theorem rj{dI:Type}{a b:Option dI}:fj 155 155 a b=a:=rfl
theorem IN{dI:Type}{a b:Option dI}:fj 156 151 a b=b:=rfl
theorem IP{dI:Type}{a b:Option dI}:fj 156 152 a b=b:=rfl
theorem IQ{dI:Type}{a b:Option dI}:fj 156 153 a b=b:=rfl
theorem IS{dI:Type}{a b:Option dI}:fj 156 155 a b=b:=rfl
theorem IT{dI:Type}{a b:Option dI}:fj 156 156 a b=a:=rfl
theorem IU{dI:Type}{a b:Option dI}:fj 157 151 a b=b:=rfl
theorem IV{dI:Type}{a b:Option dI}:fj 157 152 a b=b:=rfl
theorem IW{dI:Type}{a b:Option dI}:fj 157 153 a b=b:=rfl
theorem IX{dI:Type}{a b:Option dI}:fj 157 155 a b=b:=rfl
theorem IY{dI:Type}{a b:Option dI}:fj 157 156 a b=b:=rfl
theorem IZ{dI:Type}{a b:Option dI}:fj 157 157 a b=a:=rfl
section
variable{m:al}{n:Nat}(hm:IF m n)
include hm
theorem apX:bk (pB n) n [re m,J 0,a1 m.vars,aA m.defs,an m.init,an m.bc,aA m.next,an m.trans,an m.fair,bj m.specs,J 0,J 0]=some (if(b4 (g2 m) 8 0).2=0 then .inl [a1 m.vars,aA m.defs,an m.init,an m.bc,aA m.next,an m.trans,an m.fair,bj m.specs,J 0,J 0] else .inr (dc ((b4 (g2 m) 8 0).1+1,(64,18)))):=by
 have ak:=hm.hW
 refine k9 (f:=pB n) (fun i=>[re m,J (i:Int),a1 m.vars,aA m.defs,an m.init,an m.bc,aA m.next,an m.trans,an m.fair,bj m.specs,J 0,J 0]) (g2 m) 8 _ (fun p=>dc (p.1+1,(64,18))) ?_ ?_ 8 0 n (by omega) (by omega)
 ·intro i af
  obtain ⟨k,ai⟩:∃k,(g1 m)[i]?=some k:=⟨_,List.getElem?_eq_getElem af⟩
  have bS:=decide_eq_true (show((i:Int)<8) by omega)
  have ee:cH 8 (J (i:Int))=some i:=by rw [lB,if_pos af]
  have a6:j0 false 1 (i*1) (re m)=some (J (k:Int)):=by
   unfold re
   rw [Nat.mul_one,Sb,hl,List.getElem?_map,ai];rfl
  have xG:binP false .add (J 1) (J (i:Int))=some (J ((i:Int)+1)):=by rw [ec (by omega) (by omega)];congr 2;omega
  have bO:g2 m i=if 64<k then 18 else 0:=by unfold g2;rw [ai];rfl
  by_cases aj:64<k
  ·rw [bO,if_pos aj,if_neg (by decide)]
   simp only [pB,go_sem,bS,ee,a6,decide_eq_true (show((k:Int)>64) by omega),xG,dc]
  ·rw [bO,if_neg aj,if_pos rfl]
   simp only [pB,go_sem,bS,ee,a6,decide_eq_false (show¬((k:Int)>64) by omega),cf (bt:=false) (i:=i) (by omega)]
 ·simp only [pB,go_sem,show decide (((8:Nat):Int)<8)=false from rfl]
theorem apY:bk (pN n) n [J 0,a1 m.vars,aA m.defs,an m.init,an m.bc,aA m.next,an m.trans,an m.fair,bj m.specs,J 0,J 0,D.aD 1 ((g1 m).map fun(k:Nat)=>[J (k:Int)])]=some (if(b4 (g2 m) 8 0).2=0 then .inl [a1 m.vars,aA m.defs,an m.init,an m.bc,aA m.next,an m.trans,an m.fair,bj m.specs,J 0,J 0] else .inr (dc ((b4 (g2 m) 8 0).1+1,(64,18)))):=by
 have ak:=hm.hW
 refine k9 (f:=pN n) (fun i=>[J (i:Int),a1 m.vars,aA m.defs,an m.init,an m.bc,aA m.next,an m.trans,an m.fair,bj m.specs,J 0,J 0,D.aD 1 ((g1 m).map fun(k:Nat)=>[J (k:Int)])]) (g2 m) 8 _ (fun p=>dc (p.1+1,(64,18))) ?_ ?_ 8 0 n (by omega) (by omega)
 ·intro i af
  obtain ⟨k,ai⟩:∃k,(g1 m)[i]?=some k:=⟨_,List.getElem?_eq_getElem af⟩
  have hlen:((g1 m).map fun(k:Nat)=>[J (k:Int)]).length=8:=rfl
  have bS:=decide_eq_true (show((i:Int)<((8:Nat):Int)) by omega)
  have ee:cH 8 (J (i:Int))=some i:=by rw [lB,if_pos af]
  have a6:((g1 m).map fun(k:Nat)=>[J (k:Int)])[i]?=some [J (k:Int)]:=by rw [List.getElem?_map,ai];rfl
  have xG:binP false .add (J (i:Int)) (J 1)=some (J ((i:Int)+1)):=by rw [ec (by omega) (by omega)]
  have bO:g2 m i=if 64<k then 18 else 0:=by unfold g2;rw [ai];rfl
  generalize ((g1 m).map fun(k:Nat)=>[J (k:Int)])=apZ at*
  by_cases aj:64<k
  ·rw [bO,if_pos aj,if_neg (by decide)]
   simp only [pN,go_sem,hlen,bS,ee,a6,Ah,decide_eq_true (show((k:Int)>64) by omega),xG,dc]
  ·rw [bO,if_neg aj,if_pos rfl]
   simp only [pN,go_sem,hlen,bS,ee,a6,Ah,decide_eq_false (show¬((k:Int)>64) by omega),cf (bt:=false) (i:=i) (by omega)]
 ·have hlen:((g1 m).map fun(k:Nat)=>[J (k:Int)]).length=8:=rfl
  simp only [pN,go_sem,hlen,show decide (((8:Nat):Int)<((8:Nat):Int))=false from rfl]
theorem ap0(A iJ:D):bk (gP n) n [D.di 151 (aA m.defs),A,iJ,J m.defs.length,J 0,a1 m.vars,aA m.defs,an m.init,an m.bc,aA m.next,an m.trans,an m.fair,bj m.specs,J 0,J 0]=some (if(b4 (kj m) m.defs.length 0).2=0 then .inl [A,iJ,a1 m.vars,aA m.defs,an m.init,an m.bc,aA m.next,an m.trans,an m.fair,bj m.specs,J 0,J 0] else .inr (.inr (.inr (.inr (dc (2,b4 (kj m) m.defs.length 0)))))):=by
 have ak:=hm.hW
 have bV:=hm.bd.dl
 refine k9 (f:=gP n) (fun i=>[D.di 151 (aA m.defs),A,iJ,J m.defs.length,J (i:Int),a1 m.vars,aA m.defs,an m.init,an m.bc,aA m.next,an m.trans,an m.fair,bj m.specs,J 0,J 0]) (kj m) (m.defs.length) _ (fun p=> .inr (.inr (.inr (dc (2,p))))) ?_ ?_ _ 0 n (by omega) (by omega)
 ·intro i af
  have bS:=decide_eq_true (show((i:Int)<((m.defs.length:Nat):Int)) by omega)
  have hw:=apy hm i af
  change r6 n [_,m.d,J (i:Int)]=some (J (kj m i)) at hw
  by_cases aj:kj m i=0
  ·have c9:(kj m i !=0)=false:=by simp [aj]
   rw [if_pos aj]
   simp only [gP,go_sem,bS,g3,IH,al.eta,hw,c9,cf (bt:=false) (i:=i) (by omega)]
  ·have c9:(kj m i !=0)=true:=by simpa using aj
   rw [if_neg aj]
   simp only [gP,go_sem,bS,g3,IH,al.eta,hw,c9,Hg,Tu,dc]
 ·simp only [gP,go_sem,decide_eq_false (show¬(((m.defs.length:Nat):Int)<((m.defs.length:Nat):Int)) by omega)]
theorem ap1(A iJ:D):bk (gP n) n [D.di 152 (aA m.defs),A,iJ,J m.defs.length,J 0,a1 m.vars,aA m.defs,an m.init,an m.bc,aA m.next,an m.trans,an m.fair,bj m.specs,J 0,J 0]=some (if(b4 (kL m) m.defs.length 0).2=0 then .inl [A,iJ,a1 m.vars,aA m.defs,an m.init,an m.bc,aA m.next,an m.trans,an m.fair,bj m.specs,J 0,J 0] else .inr (.inr (.inr (.inr (dc (2,b4 (kL m) m.defs.length 0)))))):=by
 have ak:=hm.hW
 have bV:=hm.bd.dl
 refine k9 (f:=gP n) (fun i=>[D.di 152 (aA m.defs),A,iJ,J m.defs.length,J (i:Int),a1 m.vars,aA m.defs,an m.init,an m.bc,aA m.next,an m.trans,an m.fair,bj m.specs,J 0,J 0]) (kL m) (m.defs.length) _ (fun p=> .inr (.inr (.inr (dc (2,p))))) ?_ ?_ _ 0 n (by omega) (by omega)
 ·intro i af
  have bS:=decide_eq_true (show((i:Int)<((m.defs.length:Nat):Int)) by omega)
  have hw:=apu n m hm.bd.d i af (by omega)
  change y5 n [_,m.d,J (i:Int)]=some (J (kL m i)) at hw
  by_cases aj:kL m i=0
  ·have c9:(kL m i !=0)=false:=by simp [aj]
   rw [if_pos aj]
   simp only [gP,go_sem,bS,g3,II,IJ,al.eta,hw,c9,cf (bt:=false) (i:=i) (by omega)]
  ·have c9:(kL m i !=0)=true:=by simpa using aj
   rw [if_neg aj]
   simp only [gP,go_sem,bS,g3,II,IJ,al.eta,hw,c9,Hf,Tt,dc]
 ·simp only [gP,go_sem,decide_eq_false (show¬(((m.defs.length:Nat):Int)<((m.defs.length:Nat):Int)) by omega)]
theorem ap2(A iJ:D):bk (gP n) n [D.di 153 (aA m.defs),A,iJ,J m.defs.length,J 0,a1 m.vars,aA m.defs,an m.init,an m.bc,aA m.next,an m.trans,an m.fair,bj m.specs,J 0,J 0]=some (if(b4 (kk m) m.defs.length 0).2=0 then .inl [A,iJ,a1 m.vars,aA m.defs,an m.init,an m.bc,aA m.next,an m.trans,an m.fair,bj m.specs,J 0,J 0] else .inr (.inr (.inr (.inr (dc (2,b4 (kk m) m.defs.length 0)))))):=by
 have ak:=hm.hW
 have bV:=hm.bd.dl
 refine k9 (f:=gP n) (fun i=>[D.di 153 (aA m.defs),A,iJ,J m.defs.length,J (i:Int),a1 m.vars,aA m.defs,an m.init,an m.bc,aA m.next,an m.trans,an m.fair,bj m.specs,J 0,J 0]) (kk m) (m.defs.length) _ (fun p=> .inr (.inr (.inr (dc (2,p))))) ?_ ?_ _ 0 n (by omega) (by omega)
 ·intro i af
  have bS:=decide_eq_true (show((i:Int)<((m.defs.length:Nat):Int)) by omega)
  have hw:=apz hm i af
  change y4 n [_,m.d,J (i:Int)]=some (J (kk m i)) at hw
  by_cases aj:kk m i=0
  ·have c9:(kk m i !=0)=false:=by simp [aj]
   rw [if_pos aj]
   simp only [gP,go_sem,bS,g3,IK,IL,IM,al.eta,hw,c9,cf (bt:=false) (i:=i) (by omega)]
  ·have c9:(kk m i !=0)=true:=by simpa using aj
   rw [if_neg aj]
   simp only [gP,go_sem,bS,g3,IK,IL,IM,al.eta,hw,c9,He,Ts,dc]
 ·simp only [gP,go_sem,decide_eq_false (show¬(((m.defs.length:Nat):Int)<((m.defs.length:Nat):Int)) by omega)]
theorem I0(l:List Tm)(aq:l.length≤100∧∀t∈l,t.b2∧t.bd≤12300)(k:Int)(nx:Bool)(A iJ:D):bk (gP n) n [D.di 155 (D.agg [J k,an l,au nx]),A,iJ,J l.length,J 0,a1 m.vars,aA m.defs,an m.init,an m.bc,aA m.next,an m.trans,an m.fair,bj m.specs,J 0,J 0]=some (if(b4 (ea m l nx) l.length 0).2=0 then .inl [A,iJ,a1 m.vars,aA m.defs,an m.init,an m.bc,aA m.next,an m.trans,an m.fair,bj m.specs,J 0,J 0] else .inr (.inr (.inr (.inr (dc (k,b4 (ea m l nx) l.length 0)))))):=by
 have ak:=hm.hW
 have bV:=aq.1
 have ap3:aa (D.agg [J k,an l,au nx]) 0=J k:=rfl
 have ap4:aL 3 (D.agg [J k,an l,au nx])=true:=rfl
 refine k9 (f:=gP n) (fun i=>[D.di 155 (D.agg [J k,an l,au nx]),A,iJ,J l.length,J (i:Int),a1 m.vars,aA m.defs,an m.init,an m.bc,aA m.next,an m.trans,an m.fair,bj m.specs,J 0,J 0]) (ea m l nx) (l.length) _ (fun p=> .inr (.inr (.inr (dc (k,p))))) ?_ ?_ _ 0 n (by omega) (by omega)
 ·intro i af
  have bS:=decide_eq_true (show((i:Int)<((l.length:Nat):Int)) by omega)
  have hw:=apA hm l aq.2 k nx i af
  change y3 n [_,m.d,J (i:Int)]=some (J (ea m l nx i)) at hw
  by_cases aj:ea m l nx i=0
  ·have c9:(ea m l nx i !=0)=false:=by simp [aj]
   rw [if_pos aj]
   simp only [gP,go_sem,bS,g3,rf,rh,ri,rj,al.eta,hw,c9,cf (bt:=false) (i:=i) (by omega)]
  ·have c9:(ea m l nx i !=0)=true:=by simpa using aj
   rw [if_neg aj]
   simp only [gP,go_sem,bS,g3,rf,rh,ri,rj,al.eta,hw,c9,Hd,Tr,ap3,ap4,dc]
 ·simp only [gP,go_sem,decide_eq_false (show¬(((l.length:Nat):Int)<((l.length:Nat):Int)) by omega)]
theorem ap5(A iJ:D):bk (gP n) n [D.di 156 (aA m.next),A,iJ,J m.next.length,J 0,a1 m.vars,aA m.defs,an m.init,an m.bc,aA m.next,an m.trans,an m.fair,bj m.specs,J 0,J 0]=some (if(b4 (h3 m) m.next.length 0).2=0 then .inl [A,iJ,a1 m.vars,aA m.defs,an m.init,an m.bc,aA m.next,an m.trans,an m.fair,bj m.specs,J 0,J 0] else .inr (.inr (.inr (.inr (dc (5,b4 (h3 m) m.next.length 0)))))):=by
 have ak:=hm.hW
 have bV:=hm.next.1
 refine k9 (f:=gP n) (fun i=>[D.di 156 (aA m.next),A,iJ,J m.next.length,J (i:Int),a1 m.vars,aA m.defs,an m.init,an m.bc,aA m.next,an m.trans,an m.fair,bj m.specs,J 0,J 0]) (h3 m) (m.next.length) _ (fun p=> .inr (.inr (.inr (dc (5,p))))) ?_ ?_ _ 0 n (by omega) (by omega)
 ·intro i af
  have bS:=decide_eq_true (show((i:Int)<((m.next.length:Nat):Int)) by omega)
  have hw:=apB hm i af
  change tH n [_,m.d,J (i:Int)]=some (J (h3 m i)) at hw
  by_cases aj:h3 m i=0
  ·have c9:(h3 m i !=0)=false:=by simp [aj]
   rw [if_pos aj]
   simp only [gP,go_sem,bS,g3,IN,IP,IQ,IS,IT,al.eta,hw,c9,cf (bt:=false) (i:=i) (by omega)]
  ·have c9:(h3 m i !=0)=true:=by simpa using aj
   rw [if_neg aj]
   simp only [gP,go_sem,bS,g3,IN,IP,IQ,IS,IT,al.eta,hw,c9,Hc,Tq,dc]
 ·simp only [gP,go_sem,decide_eq_false (show¬(((m.next.length:Nat):Int)<((m.next.length:Nat):Int)) by omega)]
theorem ap6(A iJ:D):bk (gP n) n [D.di 157 (bj m.specs),A,iJ,J m.specs.length,J 0,a1 m.vars,aA m.defs,an m.init,an m.bc,aA m.next,an m.trans,an m.fair,bj m.specs,J 0,J 0]=some (if(b4 (h4 m) m.specs.length 0).2=0 then .inl [A,iJ,a1 m.vars,aA m.defs,an m.init,an m.bc,aA m.next,an m.trans,an m.fair,bj m.specs,J 0,J 0] else .inr (.inr (.inr (.inr (dc (8,b4 (h4 m) m.specs.length 0)))))):=by
 have ak:=hm.hW
 have bV:=hm.specs.1
 refine k9 (f:=gP n) (fun i=>[D.di 157 (bj m.specs),A,iJ,J m.specs.length,J (i:Int),a1 m.vars,aA m.defs,an m.init,an m.bc,aA m.next,an m.trans,an m.fair,bj m.specs,J 0,J 0]) (h4 m) (m.specs.length) _ (fun p=> .inr (.inr (.inr (dc (8,p))))) ?_ ?_ _ 0 n (by omega) (by omega)
 ·intro i af
  have bS:=decide_eq_true (show((i:Int)<((m.specs.length:Nat):Int)) by omega)
  have hw:=apC hm i af
  change r4 n [_,m.d,J (i:Int)]=some (J (h4 m i)) at hw
  by_cases aj:h4 m i=0
  ·have c9:(h4 m i !=0)=false:=by simp [aj]
   rw [if_pos aj]
   simp only [gP,go_sem,bS,g3,IU,IV,IW,IX,IY,IZ,al.eta,hw,c9,cf (bt:=false) (i:=i) (by omega)]
  ·have c9:(h4 m i !=0)=true:=by simpa using aj
   rw [if_neg aj]
   simp only [gP,go_sem,bS,g3,IU,IV,IW,IX,IY,IZ,al.eta,hw,c9,Hb,Tp,dc]
 ·simp only [gP,go_sem,decide_eq_false (show¬(((m.specs.length:Nat):Int)<((m.specs.length:Nat):Int)) by omega)]
theorem ap7:gG n [fs m,J 0,a1 m.vars,aA m.defs,an m.init,an m.bc,aA m.next,an m.trans,an m.fair,bj m.specs,J 0,J 0]=some (if(b4 (kj m) m.defs.length 0).2=0 then .inl [fs m,J 1,a1 m.vars,aA m.defs,an m.init,an m.bc,aA m.next,an m.trans,an m.fair,bj m.specs,J 0,J 0] else .inr (.inr (dc (2,b4 (kj m) m.defs.length 0)))):=by
 have eC:=ap0 hm (fs m) (J 0)
 have bS:decide ((0:Int)<9)=true:=rfl
 have ee:cH 9 (J 0)=some 0:=rfl
 have a6:j0 false 1 (0*1) (fs m)=some (D.di 151 (aA m.defs)):=rfl
 have hM:B5 n [aA m.defs]=some (J m.defs.length):=by simp only [B5,S5,go_sem,dA]
 have fb:binP false .add (J 0) (J 1)=some (J 1):=ec (by decide) (by decide)
 by_cases aj:(b4 (kj m) m.defs.length 0).2=0
 ·rw [if_pos aj] at eC⊢
  simp only [gG,go_sem,bS,ee,a6,g3,IH,hM,eC,fb]
 ·rw [if_neg aj] at eC⊢
  simp only [gG,go_sem,bS,ee,a6,g3,IH,hM,eC]
theorem ap8:gG n [fs m,J 1,a1 m.vars,aA m.defs,an m.init,an m.bc,aA m.next,an m.trans,an m.fair,bj m.specs,J 0,J 0]=some (if(b4 (kL m) m.defs.length 0).2=0 then .inl [fs m,J 2,a1 m.vars,aA m.defs,an m.init,an m.bc,aA m.next,an m.trans,an m.fair,bj m.specs,J 0,J 0] else .inr (.inr (dc (2,b4 (kL m) m.defs.length 0)))):=by
 have eC:=ap1 hm (fs m) (J 1)
 have bS:decide ((1:Int)<9)=true:=rfl
 have ee:cH 9 (J 1)=some 1:=rfl
 have a6:j0 false 1 (1*1) (fs m)=some (D.di 152 (aA m.defs)):=rfl
 have hM:B4 n [aA m.defs]=some (J m.defs.length):=by simp only [B4,S4,go_sem,dA]
 have fb:binP false .add (J 1) (J 1)=some (J 2):=ec (by decide) (by decide)
 by_cases aj:(b4 (kL m) m.defs.length 0).2=0
 ·rw [if_pos aj] at eC⊢
  simp only [gG,go_sem,bS,ee,a6,g3,II,IJ,hM,eC,fb]
 ·rw [if_neg aj] at eC⊢
  simp only [gG,go_sem,bS,ee,a6,g3,II,IJ,hM,eC]
theorem ap9:gG n [fs m,J 2,a1 m.vars,aA m.defs,an m.init,an m.bc,aA m.next,an m.trans,an m.fair,bj m.specs,J 0,J 0]=some (if(b4 (kk m) m.defs.length 0).2=0 then .inl [fs m,J 3,a1 m.vars,aA m.defs,an m.init,an m.bc,aA m.next,an m.trans,an m.fair,bj m.specs,J 0,J 0] else .inr (.inr (dc (2,b4 (kk m) m.defs.length 0)))):=by
 have eC:=ap2 hm (fs m) (J 2)
 have bS:decide ((2:Int)<9)=true:=rfl
 have ee:cH 9 (J 2)=some 2:=rfl
 have a6:j0 false 1 (2*1) (fs m)=some (D.di 153 (aA m.defs)):=rfl
 have hM:B3 n [aA m.defs]=some (J m.defs.length):=by simp only [B3,S3,go_sem,dA]
 have fb:binP false .add (J 2) (J 1)=some (J 3):=ec (by decide) (by decide)
 by_cases aj:(b4 (kk m) m.defs.length 0).2=0
 ·rw [if_pos aj] at eC⊢
  simp only [gG,go_sem,bS,ee,a6,g3,IK,IL,IM,hM,eC,fb]
 ·rw [if_neg aj] at eC⊢
  simp only [gG,go_sem,bS,ee,a6,g3,IK,IL,IM,hM,eC]
theorem aqa:gG n [fs m,J 3,a1 m.vars,aA m.defs,an m.init,an m.bc,aA m.next,an m.trans,an m.fair,bj m.specs,J 0,J 0]=some (if(b4 (ea m m.init false) m.init.length 0).2=0 then .inl [fs m,J 4,a1 m.vars,aA m.defs,an m.init,an m.bc,aA m.next,an m.trans,an m.fair,bj m.specs,J 0,J 0] else .inr (.inr (dc (3,b4 (ea m m.init false) m.init.length 0)))):=by
 have eC:=I0 hm m.init hm.init 3 false (fs m) (J 3)
 have bS:decide ((3:Int)<9)=true:=rfl
 have ee:cH 9 (J 3)=some 3:=rfl
 have a6:j0 false 1 (3*1) (fs m)=some (D.di 155 (D.agg [J 3,an m.init,au false])):=rfl
 have hM:pr n [D.agg [J 3,an m.init,au false]]=some (J m.init.length):=by
  have ay:aL 3 (D.agg [J 3,an m.init,au false])=true:=rfl
  have aZ:aa (D.agg [J 3,an m.init,au false]) 1=an m.init:=rfl
  simp only [pr,B2,go_sem,ay,aZ,gZ]
 have fb:binP false .add (J 3) (J 1)=some (J 4):=ec (by decide) (by decide)
 by_cases aj:(b4 (ea m m.init false) m.init.length 0).2=0
 ·rw [if_pos aj] at eC⊢
  simp only [gG,go_sem,bS,ee,a6,g3,rf,rh,ri,rj,hM,eC,fb]
 ·rw [if_neg aj] at eC⊢
  simp only [gG,go_sem,bS,ee,a6,g3,rf,rh,ri,rj,hM,eC]
theorem aqb:gG n [fs m,J 4,a1 m.vars,aA m.defs,an m.init,an m.bc,aA m.next,an m.trans,an m.fair,bj m.specs,J 0,J 0]=some (if(b4 (ea m m.bc false) m.bc.length 0).2=0 then .inl [fs m,J 5,a1 m.vars,aA m.defs,an m.init,an m.bc,aA m.next,an m.trans,an m.fair,bj m.specs,J 0,J 0] else .inr (.inr (dc (4,b4 (ea m m.bc false) m.bc.length 0)))):=by
 have eC:=I0 hm m.bc hm.bc 4 false (fs m) (J 4)
 have bS:decide ((4:Int)<9)=true:=rfl
 have ee:cH 9 (J 4)=some 4:=rfl
 have a6:j0 false 1 (4*1) (fs m)=some (D.di 155 (D.agg [J 4,an m.bc,au false])):=rfl
 have hM:pr n [D.agg [J 4,an m.bc,au false]]=some (J m.bc.length):=by
  have ay:aL 3 (D.agg [J 4,an m.bc,au false])=true:=rfl
  have aZ:aa (D.agg [J 4,an m.bc,au false]) 1=an m.bc:=rfl
  simp only [pr,B2,go_sem,ay,aZ,gZ]
 have fb:binP false .add (J 4) (J 1)=some (J 5):=ec (by decide) (by decide)
 by_cases aj:(b4 (ea m m.bc false) m.bc.length 0).2=0
 ·rw [if_pos aj] at eC⊢
  simp only [gG,go_sem,bS,ee,a6,g3,rf,rh,ri,rj,hM,eC,fb]
 ·rw [if_neg aj] at eC⊢
  simp only [gG,go_sem,bS,ee,a6,g3,rf,rh,ri,rj,hM,eC]
theorem aqc:gG n [fs m,J 5,a1 m.vars,aA m.defs,an m.init,an m.bc,aA m.next,an m.trans,an m.fair,bj m.specs,J 0,J 0]=some (if(b4 (h3 m) m.next.length 0).2=0 then .inl [fs m,J 6,a1 m.vars,aA m.defs,an m.init,an m.bc,aA m.next,an m.trans,an m.fair,bj m.specs,J 0,J 0] else .inr (.inr (dc (5,b4 (h3 m) m.next.length 0)))):=by
 have eC:=ap5 hm (fs m) (J 5)
 have bS:decide ((5:Int)<9)=true:=rfl
 have ee:cH 9 (J 5)=some 5:=rfl
 have a6:j0 false 1 (5*1) (fs m)=some (D.di 156 (aA m.next)):=rfl
 have hM:B1 n [aA m.next]=some (J m.next.length):=by simp only [B1,S2,go_sem,dA]
 have fb:binP false .add (J 5) (J 1)=some (J 6):=ec (by decide) (by decide)
 by_cases aj:(b4 (h3 m) m.next.length 0).2=0
 ·rw [if_pos aj] at eC⊢
  simp only [gG,go_sem,bS,ee,a6,g3,IN,IP,IQ,IS,IT,hM,eC,fb]
 ·rw [if_neg aj] at eC⊢
  simp only [gG,go_sem,bS,ee,a6,g3,IN,IP,IQ,IS,IT,hM,eC]
theorem aqd:gG n [fs m,J 6,a1 m.vars,aA m.defs,an m.init,an m.bc,aA m.next,an m.trans,an m.fair,bj m.specs,J 0,J 0]=some (if(b4 (ea m m.trans true) m.trans.length 0).2=0 then .inl [fs m,J 7,a1 m.vars,aA m.defs,an m.init,an m.bc,aA m.next,an m.trans,an m.fair,bj m.specs,J 0,J 0] else .inr (.inr (dc (6,b4 (ea m m.trans true) m.trans.length 0)))):=by
 have eC:=I0 hm m.trans hm.trans 6 true (fs m) (J 6)
 have bS:decide ((6:Int)<9)=true:=rfl
 have ee:cH 9 (J 6)=some 6:=rfl
 have a6:j0 false 1 (6*1) (fs m)=some (D.di 155 (D.agg [J 6,an m.trans,au true])):=rfl
 have hM:pr n [D.agg [J 6,an m.trans,au true]]=some (J m.trans.length):=by
  have ay:aL 3 (D.agg [J 6,an m.trans,au true])=true:=rfl
  have aZ:aa (D.agg [J 6,an m.trans,au true]) 1=an m.trans:=rfl
  simp only [pr,B2,go_sem,ay,aZ,gZ]
 have fb:binP false .add (J 6) (J 1)=some (J 7):=ec (by decide) (by decide)
 by_cases aj:(b4 (ea m m.trans true) m.trans.length 0).2=0
 ·rw [if_pos aj] at eC⊢
  simp only [gG,go_sem,bS,ee,a6,g3,rf,rh,ri,rj,hM,eC,fb]
 ·rw [if_neg aj] at eC⊢
  simp only [gG,go_sem,bS,ee,a6,g3,rf,rh,ri,rj,hM,eC]
theorem aqe:gG n [fs m,J 7,a1 m.vars,aA m.defs,an m.init,an m.bc,aA m.next,an m.trans,an m.fair,bj m.specs,J 0,J 0]=some (if(b4 (ea m m.fair false) m.fair.length 0).2=0 then .inl [fs m,J 8,a1 m.vars,aA m.defs,an m.init,an m.bc,aA m.next,an m.trans,an m.fair,bj m.specs,J 0,J 0] else .inr (.inr (dc (7,b4 (ea m m.fair false) m.fair.length 0)))):=by
 have eC:=I0 hm m.fair hm.fair 7 false (fs m) (J 7)
 have bS:decide ((7:Int)<9)=true:=rfl
 have ee:cH 9 (J 7)=some 7:=rfl
 have a6:j0 false 1 (7*1) (fs m)=some (D.di 155 (D.agg [J 7,an m.fair,au false])):=rfl
 have hM:pr n [D.agg [J 7,an m.fair,au false]]=some (J m.fair.length):=by
  have ay:aL 3 (D.agg [J 7,an m.fair,au false])=true:=rfl
  have aZ:aa (D.agg [J 7,an m.fair,au false]) 1=an m.fair:=rfl
  simp only [pr,B2,go_sem,ay,aZ,gZ]
 have fb:binP false .add (J 7) (J 1)=some (J 8):=ec (by decide) (by decide)
 by_cases aj:(b4 (ea m m.fair false) m.fair.length 0).2=0
 ·rw [if_pos aj] at eC⊢
  simp only [gG,go_sem,bS,ee,a6,g3,rf,rh,ri,rj,hM,eC,fb]
 ·rw [if_neg aj] at eC⊢
  simp only [gG,go_sem,bS,ee,a6,g3,rf,rh,ri,rj,hM,eC]
theorem aqf:gG n [fs m,J 8,a1 m.vars,aA m.defs,an m.init,an m.bc,aA m.next,an m.trans,an m.fair,bj m.specs,J 0,J 0]=some (if(b4 (h4 m) m.specs.length 0).2=0 then .inl [fs m,J 9,a1 m.vars,aA m.defs,an m.init,an m.bc,aA m.next,an m.trans,an m.fair,bj m.specs,J 0,J 0] else .inr (.inr (dc (8,b4 (h4 m) m.specs.length 0)))):=by
 have eC:=ap6 hm (fs m) (J 8)
 have bS:decide ((8:Int)<9)=true:=rfl
 have ee:cH 9 (J 8)=some 8:=rfl
 have a6:j0 false 1 (8*1) (fs m)=some (D.di 157 (bj m.specs)):=rfl
 have hM:B0 n [bj m.specs]=some (J m.specs.length):=by simp only [B0,S1,go_sem,hc]
 have fb:binP false .add (J 8) (J 1)=some (J 9):=ec (by decide) (by decide)
 by_cases aj:(b4 (h4 m) m.specs.length 0).2=0
 ·rw [if_pos aj] at eC⊢
  simp only [gG,go_sem,bS,ee,a6,g3,IU,IV,IW,IX,IY,IZ,hM,eC,fb]
 ·rw [if_neg aj] at eC⊢
  simp only [gG,go_sem,bS,ee,a6,g3,IU,IV,IW,IX,IY,IZ,hM,eC]
theorem aqg:bk (gG n) n [fs m,J 0,a1 m.vars,aA m.defs,an m.init,an m.bc,aA m.next,an m.trans,an m.fair,bj m.specs,J 0,J 0]=some (if(gR (lM m)).2.2=0 then .inl [J 0,J 0] else .inr (dc (gR (lM m)))):=by
 have ak:=hm.hW
 refine X9 (f:=gG n) (lM m) (fun i=>[fs m,J (i:Int),a1 m.vars,aA m.defs,an m.init,an m.bc,aA m.next,an m.trans,an m.fair,bj m.specs,J 0,J 0]) [J 0,J 0] dc ?_ ?_ n (by show 9<n;omega)
 ·intro i a aB
  match i,aB with
  |0,aB=>cases aB;exact ap7 hm
  |1,aB=>cases aB;exact ap8 hm
  |2,aB=>cases aB;exact ap9 hm
  |3,aB=>cases aB;exact aqa hm
  |4,aB=>cases aB;exact aqb hm
  |5,aB=>cases aB;exact aqc hm
  |6,aB=>cases aB;exact aqd hm
  |7,aB=>cases aB;exact aqe hm
  |8,aB=>cases aB;exact aqf hm
  |j+9,aB=>cases aB
 ·show gG n [fs m,J 9,a1 m.vars,aA m.defs,an m.init,an m.bc,aA m.next,an m.trans,an m.fair,bj m.specs,J 0,J 0]=_
  simp only [gG,go_sem,show decide ((9:Int)<9)=false from rfl]
theorem aqh:ov n [m.d]=some (dc (jB m)):=by
 have ak:=hm.hW
 have ae:=apX hm
 have kK:=aqg hm
 have fR:=aoR n m.vars hm.lK (by have:=hm.bd.iG;omega) hm.X3
 have fx:=apS n m hm.lK hm.bd.iG (by omega)
 have hD:D.agg [J (m.vars.length:Int),J (m.defs.length:Int),J (m.init.length:Int),J (m.bc.length:Int),J (m.next.length:Int),J (m.trans.length:Int),J (m.fair.length:Int),J (m.specs.length:Int)]=re m:=rfl
 have Yd:D.agg [.di 151 (aA m.defs),.di 152 (aA m.defs),.di 153 (aA m.defs),.di 155 (.agg [J 3,an m.init,au false]),.di 155 (.agg [J 4,an m.bc,au false]),.di 156 (aA m.next),.di 155 (.agg [J 6,an m.trans,au true]),.di 155 (.agg [J 7,an m.fair,au false]),.di 157 (bj m.specs)]=fs m:=rfl
 have Ye:∀l,bC (an l)=true:=fun _=>rfl
 have ej:∀t x,bC (D.di t x)=true:=fun _ _=>rfl
 unfold jB
 by_cases bb:(b4 (g2 m) 8 0).2=0
 case neg=>
  rw [if_neg bb] at ae⊢
  simp only [ov,wu,go_sem,al.agg,al.aK,al.bb,al.bp,al.bs,al.cc,al.cy,al.cz,al.cJ,al.eta,fw,dA,gZ,hc,hD,ae]
 rw [if_pos bb] at ae⊢
 by_cases bp:(jZ m.vars).2=0
 case neg=>
  have p3:((jZ m.vars).2 !=0)=true:=by simpa using bp
  rw [if_neg bp]
  simp only [ov,wu,go_sem,al.agg,al.aK,al.bb,al.bp,al.bs,al.cc,al.cy,al.cz,al.cJ,al.eta,fw,dA,gZ,hc,hD,ae,fR,p3,dc]
 have p3:((jZ m.vars).2 !=0)=false:=by simp [bp]
 rw [if_pos bp]
 by_cases bs:30<lL m.vars
 ·have sD:=decide_eq_true (show((lL m.vars:Nat):Int)>30 by omega)
  rw [if_pos bs]
  simp only [ov,wu,go_sem,al.agg,al.aK,al.bb,al.bp,al.bs,al.cc,al.cy,al.cz,al.cJ,al.eta,fw,dA,gZ,hc,hD,ae,fR,p3,fx,sD,dc]
 have sD:=decide_eq_false (show¬((lL m.vars:Nat):Int)>30 by omega)
 rw [if_neg bs]
 by_cases cc:(gR (lM m)).2.2=0
 ·rw [if_pos cc] at kK
  rw [Yc _ cc]
  simp only [ov,wu,go_sem,al.agg,al.aK,al.bb,al.bp,al.bs,al.cc,al.cy,al.cz,al.cJ,al.eta,fw,dA,gZ,hc,hD,ae,fR,p3,fx,sD,Ye,ej,Yd,kK,dc]
 ·rw [if_neg cc] at kK
  simp only [ov,wu,go_sem,al.agg,al.aK,al.bb,al.bp,al.bs,al.cc,al.cy,al.cz,al.cJ,al.eta,fw,dA,gZ,hc,hD,ae,fR,p3,fx,sD,Ye,ej,Yd,kK]
theorem aqi(h:(p2 m).2=0):p2 m=(0,0):=by
 unfold p2 at h⊢
 obtain ⟨ad,ae⟩:=Ya.1 h
 obtain ⟨ay,aZ⟩:=Ya.1 ae
 rw [sC,if_pos ad,sC,if_pos ay,p1 _ _ _ aZ]
theorem aqj:hU n [J 0,J 0,J 2,a1 m.vars,aA m.defs,an m.init,an m.bc,aA m.next,an m.trans,an m.fair,bj m.specs,J 0,J 0]=some (if(p2 m).2=0 then .inl [J 0,J 0,J 3,a1 m.vars,aA m.defs,an m.init,an m.bc,aA m.next,an m.trans,an m.fair,bj m.specs,J 0,J 0] else .inr (.inr (dc (2,p2 m)))):=by
 have gM:=apL hm
 have bS:decide ((2:Int)≤8)=true:=rfl
 have bo:((2:Int)==2)=true:=rfl
 have fb:binP false .add (J 2) (J 1)=some (J 3):=ec (by decide) (by decide)
 by_cases aj:(p2 m).2=0
 ·have bN:=aqi hm aj
  rw [bN] at gM⊢
  have gi:((0:Int) !=0)=false:=rfl
  simp only [hU,go_sem,bS,bo,al.eta,gM,eW,gi,fb]
 ·rw [if_neg aj]
  generalize p2 m=p at*
  have c9:(p.2 !=0)=true:=by simpa using aj
  simp only [hU,go_sem,bS,bo,al.eta,gM,eW,c9,dc]
theorem aqk:hU n [J 0,J 0,J 3,a1 m.vars,aA m.defs,an m.init,an m.bc,aA m.next,an m.trans,an m.fair,bj m.specs,J 0,J 0]=some (if(b4 (ea m m.init false) m.init.length 0).2=0 then .inl [J 0,J 0,J 4,a1 m.vars,aA m.defs,an m.init,an m.bc,aA m.next,an m.trans,an m.fair,bj m.specs,J 0,J 0] else .inr (.inr (dc (3,b4 (ea m m.init false) m.init.length 0)))):=by
 have gM:=IG hm m.init hm.init false
 have bS:decide ((3:Int)≤8)=true:=rfl
 have bo:((3:Int)==2)=false:=rfl
 have bT:((3:Int)==3)=true:=rfl
 have fb:binP false .add (J 3) (J 1)=some (J 4):=ec (by decide) (by decide)
 by_cases aj:(b4 (ea m m.init false) m.init.length 0).2=0
 ·have bN:=p1 _ _ _ aj
  rw [bN] at gM⊢
  have gi:((0:Int) !=0)=false:=rfl
  simp only [hU,go_sem,bS,bo,bT,al.eta,gM,eW,gi,fb]
 ·rw [if_neg aj]
  generalize b4 (ea m m.init false) m.init.length 0=p at*
  have c9:(p.2 !=0)=true:=by simpa using aj
  simp only [hU,go_sem,bS,bo,bT,al.eta,gM,eW,c9,dc]
theorem aql:hU n [J 0,J 0,J 4,a1 m.vars,aA m.defs,an m.init,an m.bc,aA m.next,an m.trans,an m.fair,bj m.specs,J 0,J 0]=some (if(b4 (ea m m.bc false) m.bc.length 0).2=0 then .inl [J 0,J 0,J 5,a1 m.vars,aA m.defs,an m.init,an m.bc,aA m.next,an m.trans,an m.fair,bj m.specs,J 0,J 0] else .inr (.inr (dc (4,b4 (ea m m.bc false) m.bc.length 0)))):=by
 have gM:=IG hm m.bc hm.bc false
 have bS:decide ((4:Int)≤8)=true:=rfl
 have bo:((4:Int)==2)=false:=rfl
 have bT:((4:Int)==3)=false:=rfl
 have dd:((4:Int)==4)=true:=rfl
 have fb:binP false .add (J 4) (J 1)=some (J 5):=ec (by decide) (by decide)
 by_cases aj:(b4 (ea m m.bc false) m.bc.length 0).2=0
 ·have bN:=p1 _ _ _ aj
  rw [bN] at gM⊢
  have gi:((0:Int) !=0)=false:=rfl
  simp only [hU,go_sem,bS,bo,bT,dd,al.eta,gM,eW,gi,fb]
 ·rw [if_neg aj]
  generalize b4 (ea m m.bc false) m.bc.length 0=p at*
  have c9:(p.2 !=0)=true:=by simpa using aj
  simp only [hU,go_sem,bS,bo,bT,dd,al.eta,gM,eW,c9,dc]
theorem aqm:hU n [J 0,J 0,J 5,a1 m.vars,aA m.defs,an m.init,an m.bc,aA m.next,an m.trans,an m.fair,bj m.specs,J 0,J 0]=some (if(b4 (h3 m) m.next.length 0).2=0 then .inl [J 0,J 0,J 6,a1 m.vars,aA m.defs,an m.init,an m.bc,aA m.next,an m.trans,an m.fair,bj m.specs,J 0,J 0] else .inr (.inr (dc (5,b4 (h3 m) m.next.length 0)))):=by
 have gM:=apO hm
 have bS:decide ((5:Int)≤8)=true:=rfl
 have bo:((5:Int)==2)=false:=rfl
 have bT:((5:Int)==3)=false:=rfl
 have dd:((5:Int)==4)=false:=rfl
 have dE:((5:Int)==5)=true:=rfl
 have fb:binP false .add (J 5) (J 1)=some (J 6):=ec (by decide) (by decide)
 by_cases aj:(b4 (h3 m) m.next.length 0).2=0
 ·have bN:=p1 _ _ _ aj
  rw [bN] at gM⊢
  have gi:((0:Int) !=0)=false:=rfl
  simp only [hU,go_sem,bS,bo,bT,dd,dE,al.eta,gM,eW,gi,fb]
 ·rw [if_neg aj]
  generalize b4 (h3 m) m.next.length 0=p at*
  have c9:(p.2 !=0)=true:=by simpa using aj
  simp only [hU,go_sem,bS,bo,bT,dd,dE,al.eta,gM,eW,c9,dc]
theorem aqn:hU n [J 0,J 0,J 6,a1 m.vars,aA m.defs,an m.init,an m.bc,aA m.next,an m.trans,an m.fair,bj m.specs,J 0,J 0]=some (if(b4 (ea m m.trans true) m.trans.length 0).2=0 then .inl [J 0,J 0,J 7,a1 m.vars,aA m.defs,an m.init,an m.bc,aA m.next,an m.trans,an m.fair,bj m.specs,J 0,J 0] else .inr (.inr (dc (6,b4 (ea m m.trans true) m.trans.length 0)))):=by
 have gM:=IG hm m.trans hm.trans true
 have bS:decide ((6:Int)≤8)=true:=rfl
 have bo:((6:Int)==2)=false:=rfl
 have bT:((6:Int)==3)=false:=rfl
 have dd:((6:Int)==4)=false:=rfl
 have dE:((6:Int)==5)=false:=rfl
 have eo:((6:Int)==6)=true:=rfl
 have fb:binP false .add (J 6) (J 1)=some (J 7):=ec (by decide) (by decide)
 by_cases aj:(b4 (ea m m.trans true) m.trans.length 0).2=0
 ·have bN:=p1 _ _ _ aj
  rw [bN] at gM⊢
  have gi:((0:Int) !=0)=false:=rfl
  simp only [hU,go_sem,bS,bo,bT,dd,dE,eo,al.eta,gM,eW,gi,fb]
 ·rw [if_neg aj]
  generalize b4 (ea m m.trans true) m.trans.length 0=p at*
  have c9:(p.2 !=0)=true:=by simpa using aj
  simp only [hU,go_sem,bS,bo,bT,dd,dE,eo,al.eta,gM,eW,c9,dc]
theorem aqo:hU n [J 0,J 0,J 7,a1 m.vars,aA m.defs,an m.init,an m.bc,aA m.next,an m.trans,an m.fair,bj m.specs,J 0,J 0]=some (if(b4 (ea m m.fair false) m.fair.length 0).2=0 then .inl [J 0,J 0,J 8,a1 m.vars,aA m.defs,an m.init,an m.bc,aA m.next,an m.trans,an m.fair,bj m.specs,J 0,J 0] else .inr (.inr (dc (7,b4 (ea m m.fair false) m.fair.length 0)))):=by
 have gM:=IG hm m.fair hm.fair false
 have bS:decide ((7:Int)≤8)=true:=rfl
 have bo:((7:Int)==2)=false:=rfl
 have bT:((7:Int)==3)=false:=rfl
 have dd:((7:Int)==4)=false:=rfl
 have dE:((7:Int)==5)=false:=rfl
 have eo:((7:Int)==6)=false:=rfl
 have p4:((7:Int)==7)=true:=rfl
 have fb:binP false .add (J 7) (J 1)=some (J 8):=ec (by decide) (by decide)
 by_cases aj:(b4 (ea m m.fair false) m.fair.length 0).2=0
 ·have bN:=p1 _ _ _ aj
  rw [bN] at gM⊢
  have gi:((0:Int) !=0)=false:=rfl
  simp only [hU,go_sem,bS,bo,bT,dd,dE,eo,p4,al.eta,gM,eW,gi,fb]
 ·rw [if_neg aj]
  generalize b4 (ea m m.fair false) m.fair.length 0=p at*
  have c9:(p.2 !=0)=true:=by simpa using aj
  simp only [hU,go_sem,bS,bo,bT,dd,dE,eo,p4,al.eta,gM,eW,c9,dc]
theorem aqp:hU n [J 0,J 0,J 8,a1 m.vars,aA m.defs,an m.init,an m.bc,aA m.next,an m.trans,an m.fair,bj m.specs,J 0,J 0]=some (if(b4 (h4 m) m.specs.length 0).2=0 then .inl [J 0,J 0,J 9,a1 m.vars,aA m.defs,an m.init,an m.bc,aA m.next,an m.trans,an m.fair,bj m.specs,J 0,J 0] else .inr (.inr (dc (8,b4 (h4 m) m.specs.length 0)))):=by
 have gM:=apP hm
 have bS:decide ((8:Int)≤8)=true:=rfl
 have bo:((8:Int)==2)=false:=rfl
 have bT:((8:Int)==3)=false:=rfl
 have dd:((8:Int)==4)=false:=rfl
 have dE:((8:Int)==5)=false:=rfl
 have eo:((8:Int)==6)=false:=rfl
 have p4:((8:Int)==7)=false:=rfl
 have I1:((8:Int)==8)=true:=rfl
 have fb:binP false .add (J 8) (J 1)=some (J 9):=ec (by decide) (by decide)
 by_cases aj:(b4 (h4 m) m.specs.length 0).2=0
 ·have bN:=p1 _ _ _ aj
  rw [bN] at gM⊢
  have gi:((0:Int) !=0)=false:=rfl
  simp only [hU,go_sem,bS,bo,bT,dd,dE,eo,p4,I1,al.eta,gM,eW,gi,fb]
 ·rw [if_neg aj]
  generalize b4 (h4 m) m.specs.length 0=p at*
  have c9:(p.2 !=0)=true:=by simpa using aj
  simp only [hU,go_sem,bS,bo,bT,dd,dE,eo,p4,I1,al.eta,gM,eW,c9,dc]
theorem aqq:bk (hU n) n [J 0,J 0,J 2,a1 m.vars,aA m.defs,an m.init,an m.bc,aA m.next,an m.trans,an m.fair,bj m.specs,J 0,J 0]=some (if(gR (lM m)).2.2=0 then .inl [J 0,J 0] else .inr (dc (gR (lM m)))):=by
 have ak:=hm.hW
 rw [←apV]
 refine X9 (f:=hU n) (Oz m) (fun i=>[J 0,J 0,J ((i+2:Nat):Int),a1 m.vars,aA m.defs,an m.init,an m.bc,aA m.next,an m.trans,an m.fair,bj m.specs,J 0,J 0]) [J 0,J 0] dc ?_ ?_ n (by show 7<n;omega)
 ·intro i a aB
  match i,aB with
  |0,aB=>cases aB;exact aqj hm
  |1,aB=>cases aB;exact aqk hm
  |2,aB=>cases aB;exact aql hm
  |3,aB=>cases aB;exact aqm hm
  |4,aB=>cases aB;exact aqn hm
  |5,aB=>cases aB;exact aqo hm
  |6,aB=>cases aB;exact aqp hm
  |j+7,aB=>cases aB
 ·show hU n [J 0,J 0,J 9,a1 m.vars,aA m.defs,an m.init,an m.bc,aA m.next,an m.trans,an m.fair,bj m.specs,J 0,J 0]=_
  simp only [hU,go_sem,show decide ((9:Int)≤8)=false from rfl]
theorem aqr:oz n [m.d]=some (dc (jB m)):=by
 have ak:=hm.hW
 have ae:=apY hm
 have kK:=aqq hm
 have fR:=aoY n m.vars hm.lK (by have:=hm.bd.iG;omega) hm.X3
 have fx:=apT n m hm.lK hm.bd.iG (by omega)
 have hD:D.aD 1 [[J (m.vars.length:Int)],[J (m.defs.length:Int)],[J (m.init.length:Int)],[J (m.bc.length:Int)],[J (m.next.length:Int)],[J (m.trans.length:Int)],[J (m.fair.length:Int)],[J (m.specs.length:Int)]]=D.aD 1 ((g1 m).map fun(k:Nat)=>[J (k:Int)]):=rfl
 unfold jB
 by_cases bb:(b4 (g2 m) 8 0).2=0
 case neg=>
  rw [if_neg bb] at ae⊢
  simp only [oz,xd,go_sem,al.agg,al.aK,al.bb,al.bp,al.bs,al.cc,al.cy,al.cz,al.cJ,al.eta,fw,dA,gZ,hc,hD,ae]
 rw [if_pos bb] at ae⊢
 by_cases bp:(jZ m.vars).2=0
 case neg=>
  have p3:((jZ m.vars).2 !=0)=true:=by simpa using bp
  rw [if_neg bp]
  simp only [oz,xd,go_sem,al.agg,al.aK,al.bb,al.bp,al.bs,al.cc,al.cy,al.cz,al.cJ,al.eta,fw,dA,gZ,hc,hD,ae,fR,p3,dc]
 rw [apW bp] at fR
 have p3:((0:Int) !=0)=false:=rfl
 rw [if_pos bp]
 by_cases bs:30<lL m.vars
 ·have sD:=decide_eq_true (show((lL m.vars:Nat):Int)>30 by omega)
  rw [if_pos bs]
  simp only [oz,xd,go_sem,al.agg,al.aK,al.bb,al.bp,al.bs,al.cc,al.cy,al.cz,al.cJ,al.eta,fw,dA,gZ,hc,hD,ae,fR,p3,fx,sD,dc]
 have sD:=decide_eq_false (show¬((lL m.vars:Nat):Int)>30 by omega)
 rw [if_neg bs]
 by_cases cc:(gR (lM m)).2.2=0
 ·rw [if_pos cc] at kK
  rw [Yc _ cc]
  simp only [oz,xd,go_sem,al.agg,al.aK,al.bb,al.bp,al.bs,al.cc,al.cy,al.cz,al.cJ,al.eta,fw,dA,gZ,hc,hD,ae,fR,p3,fx,sD,kK,dc]
 ·rw [if_neg cc] at kK
  simp only [oz,xd,go_sem,al.agg,al.aK,al.bb,al.bp,al.bs,al.cc,al.cy,al.cz,al.cJ,al.eta,fw,dA,gZ,hc,hD,ae,fR,p3,fx,sD,kK]
end
end Go.Am
namespace Go.Am
set_option linter.unusedVariables false
def xH(n:Nat):Ty:= .slice 4 56 (termTy n)
def EJ(n:Nat):Ty:= .slice 7 104 (.struct [.str,formTy n])
def xI(n:Nat):Ty:= .struct [Gv,tC n,xH n,xH n,tC n,xH n,xH n,EJ n]
theorem aqs(n:Nat):∀m,m≤n→(xH n).dp m=true
 |0,_=>rfl
 |m+1,h=>by
  have:=yF n m (by omega)
  simp only [xH,Ty.dp,this]
theorem aqt(n:Nat):∀m,m≤n→(EJ n).dp m=true
 |0,_=>rfl
 |1,_=>by simp [EJ,Ty.dp]
 |m+2,h=>by
  have ad:=Ly n m (by omega)
  have ae:Ty.dp m .str=true:=tB m .str rfl
  simp only [EJ,Ty.dp,dpL,ad,ae,Bool.and_true]
theorem aqu(n:Nat):∀m,m≤n→(xI n).dp m=true
 |0,_=>rfl
 |m+1,h=>by
  have ar:Ty.dp m Gv=true:=tB m Gv rfl
  simp only [xI,Ty.dp,dpL,ar,SN n m (by omega),aqs n m (by omega),aqt n m (by omega),Bool.and_true]
theorem aqv{P:Program}{t tv td tt ts tm tf:TypeId}(h:∀a b c d e f g i,tyOk P (.struct [a,b,c,d,e,f,g,i]) t=(tyOk P a tv&&(tyOk P b td&&(tyOk P c tt&&(tyOk P d tt&&(tyOk P e td&&(tyOk P f tt&&(tyOk P g tt&&(tyOk P i ts&&true)))))))))
  (aM:tyOk P Gv tv=true) (ax:qv P tC td) (aE:∀y,tyOk P (.slice 4 56 y) tt=tyOk P y tm) (hm:qv P termTy tm) (az:∀y,tyOk P (.slice 7 104 (.struct [.str,y])) ts=(tyOk P y tf&&true)) (a6:qv P formTy tf) (aq:decide (t<P.types.size)=true):qv P xI t:=
 ⟨fun n=>aqu n n (Nat.le_refl _),fun n=>by
  rw [xI,h,aM,ax.ok n,xH,aE,hm.ok n,EJ,az,a6.ok n];rfl,of_decide_eq_true aq,fun n=>rfl⟩
end Go.Am
namespace Go.Am
set_option linter.unusedVariables false
structure rk(m:al):Prop where
 v:∀x∈m.vars,V.ok x
 d:∀x∈m.defs,x.b2
 i:∀x∈m.init,x.b2
 oK:∀x∈m.bc,x.b2
 n:∀x∈m.next,x.b2
 t:∀x∈m.trans,x.b2
 f:∀x∈m.fair,x.b2
 s:∀x∈m.specs,x.name.size≤140737488351232∧x.f.b2
theorem aqw{n:Nat}{x:List D}(h:Wt (.struct [.str,formTy n]) x):∃d:cm,x=d.cells∧d.name.size≤140737488351232∧d.f.b2:=by
 obtain ⟨a,b,rfl,aB,c,e,rfl,aj,rfl⟩:=h
 obtain ⟨s,rfl,az⟩:=Gw aB
 obtain ⟨t,rfl,aE⟩:=SM n aj
 exact ⟨⟨s,t⟩,by simp [cm.cells,Fm.mW],az,aE⟩
end Go.Am
