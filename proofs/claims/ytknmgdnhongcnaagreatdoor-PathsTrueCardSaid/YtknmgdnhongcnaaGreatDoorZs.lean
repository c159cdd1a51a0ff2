/- Laws, on data. No condition. -/
import Derived.Test.YtknmgdnhongcnaaGreatDoorEngC
import Derived.Test.YtknmgdnhongcnaaGreatDoorCode
import Derived.Test.YtknmgdnhongcnaaGreatDoorEngS
import Derived.Test.YtknmgdnhongcnaaGreatDoorEngD
import Derived.Test.YtknmgdnhongcnaaGreatDoorWs
import Derived.Test.YtknmgdnhongcnaaGreatDoorLaws
set_option linter.all false
set_option linter.unnecessarySimpa false
attribute [simp] Go.Am.vB
namespace Go.Am
set_option linter.unusedVariables false
set_option linter.unusedSimpArgs false
section
variable{bt:Bool}{a b:Int}
@[simp] theorem avc:binP bt .lss (nk a) (.val (.int .u8 b))=some (ar (decide (a<b))):=rfl
@[simp] theorem IX:binP bt .leq (nk a) (.val (.int .u8 b))=some (ar (decide (a≤b))):=rfl
@[simp] theorem avd:binP bt .gtr (nk a) (.val (.int .u8 b))=some (ar (decide (a>b))):=rfl
@[simp] theorem IY:binP bt .geq (nk a) (.val (.int .u8 b))=some (ar (decide (a≥b))):=rfl
@[simp] theorem apA:binP bt .eql (nk a) (.val (.int .u8 b))=some (ar (a==b)):=rfl
end
theorem IZ{s:ByteArray}{i:Nat}{b:UInt8}(h:s[i]?=some b):sixP (aI s) (J (i:Int))=some (nk b.toNat):=by
 simp [sixP,aI,J,Fh,h,toDo,nk]
theorem XM{s:ByteArray}{b:UInt8}(h:s[0]?=some b):sixP (aI s) (J 0)=some (nk b.toNat):=IZ (i:=0) h
theorem XN(n:Nat)(c:Int):vX n [nk c]=some (ar (qu c)):=by
 simp only [vX,Th,qu,IY,IX,c9]
 cases decide (c≥97)<;>cases decide (c≤122)<;>cases decide (c≥65)<;>cases decide (c≤90)<;>rfl
theorem apB(n:Nat)(c:Int):B2 n [nk c]=some (ar (vi c)):=by
 simp only [B2,Ti,vi,IY,IX,c9]
 cases decide (c≥48)<;>cases decide (c≤57)<;>rfl
theorem XO(n:Nat)(c:Int):B3 n [nk c]=some (ar (kR c)):=by
 simp only [B3,Tj,kR,XN,apB,apA,c9]
 cases qu c<;>cases vi c<;>cases (c==95)<;>rfl
theorem XP(n:Nat)(c:Int):w9 n [nk c]=some (ar (qu c)):=by
 simp only [w9,Ud,qu,IY,IX,c9]
 cases decide (c≥97)<;>cases decide (c≤122)<;>cases decide (c≥65)<;>cases decide (c≤90)<;>rfl
theorem apC(n:Nat)(c:Int):Dt n [nk c]=some (ar (vi c)):=by
 simp only [Dt,Ue,vi,IY,IX,c9]
 cases decide (c≥48)<;>cases decide (c≤57)<;>rfl
theorem XQ(p:Int→Bool)(s:ByteArray):(∀j:Nat,j<lN p s→mG p s j=true)∧mG p s (lN p s)=false∧lN p s≤s.size:=by
 unfold lN
 cases h:(List.range (s.size+1)).find? (fun i=>!mG p s i) with
 |none=>
  exfalso
  have ad:=List.find?_eq_none.1 h s.size (by simp)
  have:mG p s s.size=true:=by simpa using ad
  exact absurd (acb this) (Nat.lt_irrefl _)
 |some m=>
  rw [List.find?_range_eq_some] at h
  obtain ⟨ad,ae,ax⟩:=h
  refine ⟨fun j aF=>by simpa using ax j aF,by simpa using ad,by show m≤s.size;simp at ae;omega⟩
theorem XR{p:Int→Bool}{s:ByteArray}{i:Nat}(h:mG p s i=true):∃b:UInt8,s[i]?=some b∧p b.toNat=true:=by
 unfold mG at h
 split at h
 ·exact ⟨_,by assumption,h⟩
 ·cases h
theorem XS{p:Int→Bool}{s:ByteArray}{i:Nat}(h:mG p s i=false):(s[i]?=none∧s.size≤i)∨∃b:UInt8,s[i]?=some b∧i<s.size∧p b.toNat=false:=by
 unfold mG at h
 split at h
 ·rename_i b ak
  refine .inr ⟨b,ak,?_,h⟩
  rw [F6] at ak
  by_cases ad:i<s.size
  ·exact ad
  ·rw [dif_neg ad] at ak;cases ak
 ·rename_i ak
  refine .inl ⟨ak,?_⟩
  rw [F6] at ak
  by_cases ad:i<s.size
  ·rw [dif_pos ad] at ak;cases ak
  ·omega
theorem apD(n:Nat)(s:ByteArray)(aJ:s.size<n)(aB:s.size≤9223372036854775807):y2 n [aI s,.val (.func (.func BQ) #[] #[])]=some (J (lN kR s)):=by
 obtain ⟨ad,ae,ax⟩:=XQ kR s
 have key:bo (B4 n) n [aI s,J 0]=some (.inl [J (lN kR s)]):=by
  refine jF (fun i=>[aI s,J i]) (lN kR s) rfl ?_ ?_ (by omega)
  ·intro i af
   obtain ⟨b,ak,aV⟩:=XR (ad i af)
   simp (disch:=omega) [B4,IZ ak,XO,aV,dU,show i<s.size by omega]
  ·rcases XS ae with⟨ak,aV⟩|⟨b,ak,bP,aV⟩
   ·simp [B4,show¬(lN kR s<s.size) by omega]
   ·simp [B4,IZ ak,XO,aV,bP]
 simp [y2,L7,key]
theorem apE(n:Nat)(s:ByteArray)(aJ:s.size<n)(aB:s.size≤9223372036854775807):Dv n [aI s,J 0,ar false]=some (J (lN kR s)):=by
 obtain ⟨ad,ae,ax⟩:=XQ kR s
 have one:∀(i:Nat) (b:UInt8),s[i]?=some b→i<s.size→Du n [aI s,J i,ar false]=if kR b.toNat=true then some (.inl [aI s,J (i+1:Nat),ar false]) else some (.inr (.inl [J i])):=by
  intro i b ak af
  simp (disch:=omega) [Du,IZ ak,apC,XP,kR,dU,af]
  by_cases apF:((b.toNat:Int)=95)<;>cases vi b.toNat<;>cases qu b.toNat<;>simp [apF]
 have key:bo (Du n) n [aI s,J 0,ar false]=some (.inl [J (lN kR s)]):=by
  refine jF (fun i=>[aI s,J i,ar false]) (lN kR s) rfl ?_ ?_ (by omega)
  ·intro i af
   obtain ⟨b,ak,aV⟩:=XR (ad i af)
   rw [one i b ak (by omega),if_pos aV]
  ·rcases XS ae with⟨ak,aV⟩|⟨b,ak,bP,aV⟩
   ·simp [Du,show¬(lN kR s<s.size) by omega]
   ·rw [one _ b ak bP,if_neg (by simp [aV])]
 simp [Dv,Uf,key]
theorem ri(p:Nat→Prop)[DecidablePred p]:∀m:Nat,(∀j:Nat,j<m→¬p j)∨∃i,i<m∧p i∧∀j:Nat,j<i→¬p j
 |0=> .inl (by intro j aF;omega)
 |m+1=>by
  rcases ri p m with h|⟨i,ad,ae,ax⟩
  ·by_cases hm:p m
   ·exact .inr ⟨m,by omega,hm,h⟩
   ·refine .inl fun j aF=>?_
    by_cases apG:j=m
    ·subst apG;exact hm
    ·exact h j (by omega)
  ·exact .inr ⟨i,by omega,ae,ax⟩
theorem apH(n:Nat)(l:List ByteArray)(x:ByteArray)(aJ:l.length<n)(an:l.length<4000000000000000000):y4 n [c0 l,aI x]=some (J (idxOf x l)):=by
 have step:∀(i:Nat) (y:ByteArray),l[i]?=some y→i<l.length→y3 n [c0 l,aI x,J l.length,J i]=if x=y then some (.inr (.inr (J i))) else some (.inl [c0 l,aI x,J l.length,J (i+1:Nat)]):=by
  intro i y aT af
  obtain ⟨_,rfl⟩:=List.getElem?_eq_some_iff.1 aT
  simp (disch:=omega) [y3,c0,aT,af,dU]
 rcases ri (fun i=>l[i]?=some x) l.length with h|⟨i,ad,ae,ax⟩
 ·have key:bo (y3 n) n [c0 l,aI x,J l.length,J 0]=some (.inl []):=by
   refine jF (fun i=>[c0 l,aI x,J l.length,J i]) l.length rfl ?_ ?_ aJ
   ·intro i af
    have aT:=List.getElem?_eq_getElem af
    rw [step i _ aT af,if_neg]
    intro he
    exact h i af (by rw [aT,he])
   ·simp [y3]
  have e:(c0 l)= .aE 1 (l.map fun s=>[aI s]):=rfl
  simp [y4,L8,Ri h]
  rw [e] at key⊢
  simp [key]
 ·have key:bo (y3 n) n [c0 l,aI x,J l.length,J 0]=some (.inr (J i)):=by
   refine jF (fun i=>[c0 l,aI x,J l.length,J i]) i rfl ?_ ?_ (by omega)
   ·intro j aF
    have aT:=List.getElem?_eq_getElem (show j<l.length by omega)
    rw [step j _ aT (by omega),if_neg]
    intro he
    exact ax j aF (by rw [aT,he])
   ·rw [step i x ae ad,if_pos rfl]
  simp [y4,L8,Rj ax ae]
  have e:(c0 l)= .aE 1 (l.map fun s=>[aI s]):=rfl
  rw [e] at key⊢
  simp [key]
theorem apI(n:Nat)(l:List ByteArray)(x:ByteArray)(aJ:l.length<n)(an:l.length<4000000000000000000):B5 n [c0 l,aI x]=some (ar (has x l)):=by
 simp [B5,Tk,apH n l x aJ an,Rk]
theorem apJ(n:Nat)(l:List ByteArray)(x:ByteArray)(aJ:l.length<n)(an:l.length<4000000000000000000):zA n [c0 l,aI x]=some (ar (has x l)):=by
 have step:∀(i:Nat) (y:ByteArray),l[i]?=some y→i<l.length→zz n [c0 l,aI x,J i]=if y=x then some (.inr (.inr (ar true))) else some (.inl [c0 l,aI x,J (i+1:Nat)]):=by
  intro i y aT af
  obtain ⟨_,rfl⟩:=List.getElem?_eq_some_iff.1 aT
  simp (disch:=omega) [zz,c0,aT,af,dU]
 rcases ri (fun i=>l[i]?=some x) l.length with h|⟨i,ad,ae,ax⟩
 ·have key:bo (zz n) n [c0 l,aI x,J 0]=some (.inl []):=by
   refine jF (fun i=>[c0 l,aI x,J i]) l.length rfl ?_ ?_ aJ
   ·intro i af
    have aT:=List.getElem?_eq_getElem af
    rw [step i _ aT af,if_neg]
    intro he
    exact h i af (by rw [aT,he])
   ·simp [zz,c0]
  simp [zA,M5,key,Rm h]
 ·have key:bo (zz n) n [c0 l,aI x,J 0]=some (.inr (ar true)):=by
   refine jF (fun i=>[c0 l,aI x,J i]) i rfl ?_ ?_ (by omega)
   ·intro j aF
    have aT:=List.getElem?_eq_getElem (show j<l.length by omega)
    rw [step j _ aT (by omega),if_neg]
    intro he
    exact ax j aF (by rw [aT,he])
   ·rw [step i x ae ad,if_pos rfl]
  simp [zA,M5,key,Rl ae]
theorem apK(n:Nat):HJ n []=some (c0 words):=rfl
theorem apL:(D.aE 1 (BP.map fun c=>[c]))=c0 words:=rfl
theorem OF(n:Nat)(s:ByteArray)(aJ:s.size+24<n)(aB:s.size≤9223372036854775807):qM n [aI s]=some (ar (isName s)):=by
 have hw:words.length=24:=rfl
 have ad:=apD n s (by omega) aB
 have ae:=apI n words s (by omega) (by omega)
 rcases Rn s with⟨fk,bz⟩|⟨b,fk,bz,ak⟩
 ·simp [qM,L9,fk,isName,bz]
 ·simp only [qM,L9,isName,mG,ak,XM ak,XN,ad,ae,apL,SE,fk,bz,Lx,Gx,yO,yP,c9]
  cases decide ((s.size:Int)≤24)<;>cases qu b.toNat<;>cases ((lN kR s:Int)==(s.size:Int))<;>cases has s words<;>rfl
theorem OG(n:Nat)(s:ByteArray)(aJ:s.size+24<n)(aB:s.size≤9223372036854775807):q0 n [aI s]=some (ar (isName s)):=by
 have hw:words.length=24:=rfl
 have ad:=apE n s (by omega) aB
 have ae:=apJ n words s (by omega) (by omega)
 rcases Rn s with⟨fk,bz⟩|⟨b,fk,bz,ak⟩
 ·simp only [q0,M6,Lx,yN,c9,bz]
  simp [isName,bz]
 ·simp only [q0,M6,isName,mG,ak,XM ak,XP,ad,ae,apK,bz,Lx,Gx,yN,yO,yP,c9]
  cases decide ((s.size:Int)≤24)<;>cases qu b.toNat<;>cases ((lN kR s:Int)==(s.size:Int))<;>cases has s words<;>rfl
end Go.Am
namespace Go.Am
set_option linter.unusedVariables false
set_option linter.unusedSimpArgs false
theorem apM(n:Nat)(w v:V):y5 n [w.d,.ref v.cells 0]=some (ar (decide (w.name=v.name))):=by
 simp [y5,Ma,V.d,V.cells]
theorem apN(n:Nat)(l:List V)(v:V)(aJ:l.length<n)(an:l.length<4000000000000000000):
  vZ n [a8 l,.fn (.func qG) [] [.ref v.cells 0]]=some (J (idxOf v.name (l.map V.name))):=by
 have hle:(l.map V.name).length=l.length:=by simp
 have step:∀(i:Nat) (y:V),l[i]?=some y→i<l.length→vY n [a8 l,.ref v.cells 0,J l.length,J i]=if y.name=v.name then some (.inr (.inr (J i))) else some (.inl [a8 l,.ref v.cells 0,J l.length,J (i+1:Nat)]):=by
  intro i y aT af
  obtain ⟨_,rfl⟩:=List.getElem?_eq_some_iff.1 aT
  have ad:=apM n l[i] v
  simp only [V.d,V.cells] at ad
  simp (disch:=omega) [vY,a8,af,dU,V.cells,ad]
 have bG:∀x,vZ n [a8 l,.fn (.func qG) [] [x]]=R (bo (vY n) n [a8 l,x,J l.length,J 0]) (a6 fun ls=>some (J (-1))):=by
  intro x
  simp only [vZ,lu,Mb]
  simp [a8]
 rw [bG]
 rcases ri (fun i=>(l.map V.name)[i]?=some v.name) l.length with h|⟨i,ad,ae,ax⟩
 ·have key:bo (vY n) n [a8 l,.ref v.cells 0,J l.length,J 0]=some (.inl []):=by
   refine jF (fun i=>[a8 l,.ref v.cells 0,J l.length,J i]) l.length rfl ?_ ?_ aJ
   ·intro i af
    have aT:=List.getElem?_eq_getElem af
    rw [step i _ aT af,if_neg]
    intro he
    exact h i af (by rw [List.getElem?_map,aT,←he];rfl)
   ·simp [vY]
  rw [key,Ri (by rw [hle];exact h)]
  rfl
 ·have key:bo (vY n) n [a8 l,.ref v.cells 0,J l.length,J 0]=some (.inr (J i)):=by
   refine jF (fun i=>[a8 l,.ref v.cells 0,J l.length,J i]) i rfl ?_ ?_ (by omega)
   ·intro j aF
    have aT:=List.getElem?_eq_getElem (show j<l.length by omega)
    rw [step j _ aT (by omega),if_neg]
    intro he
    exact ax j aF (by rw [List.getElem?_map,aT,←he];rfl)
   ·have aT:=List.getElem?_eq_getElem ad
    rw [step i _ aT ad,if_pos]
    rw [List.getElem?_map,aT] at ae
    simpa using ae
  rw [key,Rj ax ae]
  rfl
theorem apO(n:Nat)(l:List V)(v:V)(aJ:l.length<n)(an:l.length<4000000000000000000):
  y6 n [a8 l,.fn (.func qG) [] [.ref v.cells 0]]=some (ar (has v.name (l.map V.name))):=by
 simp only [y6,lu,Mc,apN n l v aJ an]
 simp [Rk]
theorem OH{k:Nat}{es:List (List D)}{i:Nat}(h:i≤es.length):nm k (.aE k es) none (some (J (i:Int)))=some (.aE k (es.take i)):=by
 simp [nm,qv,J,h]
def OI(v:V):Bool:=v.bool&&(v.lo !=0||v.af !=0)
def OJ(v:V):Bool:=!v.bool&&(decide (v.lo>v.af)||tz v||decide (IntKind.i64.wrap (v.af-v.lo)≥64))
theorem XT(seen:List V)(v:V):F7 seen v=if !isName v.name then 12 else if has v.name (seen.map V.name) then 6 else if OI v then 3 else if OJ v then 2 else 0:=rfl
def m3(l:List V):Prop:=l.length<1000000000000∧∀v∈l,lj v.lo∧lj v.af∧v.name.size≤9223372036854775807
theorem OK(n:Nat)(l:List V)(an:m3 l)(aJ:l.length<n)(iW:∀v∈l,v.name.size+24<n)(i:Nat)(af:i<l.length):
  v3 n [a8 l,a8 l,J l.length,J i]=if h0 l i=0 then some (.inl [a8 l,a8 l,J l.length,J (i+1:Nat)]) else some (.inr (.inr (.aL [J i,J (h0 l i)]))):=by
 have aT:=List.getElem?_eq_getElem af
 have aM:=an.2 _ (List.getElem_mem af)
 have hlen:=an.1
 have e:h0 l i=F7 (l.take i) l[i]:=by simp only [h0,aT]
 rw [e]
 generalize hw:l[i]=v at*
 have ad:=OF n v.name (iW v (hw▸List.getElem_mem af)) (by omega)
 have ae:=apO n (l.take i) v (by rw [List.length_take];omega) (by rw [List.length_take];omega)
 have ax:nm 4 (a8 l) none (some (J (i:Int)))=some (a8 (l.take i)):=by
  rw [a8,OH (by simp;omega),List.map_take.symm];rfl
 have aZ:a3 4 (a8 l) (J (i:Int))=some v.cells:=by simp [a8,aT,hw]
 have bI:binP false .lss (J (i:Int)) (J (l.length:Int))=some (ar true):=by simp [af]
 have b9:binP false .add (J (i:Int)) (J 1)=some (J (i+1:Nat)):=by rw [dU (by omega) (by omega)];rfl
 have e0:binP false .sub (J v.af) (J v.lo)=some (J (IntKind.i64.wrap (v.af-v.lo))):=rfl
 have hR:aX true 4 0 v.cells=some v.d:=rfl
 have iZ:aK 4 v.d=true:=rfl
 have aP:aa v.d 0=aI v.name:=rfl
 have bc:aa v.d 1=ar v.bool:=rfl
 have bm:aa v.d 2=J v.lo:=rfl
 have bB:aa v.d 3=J v.af:=rfl
 have cm:(D.ref [aI v.name,ar v.bool,J v.lo,J v.af] 0)= .ref v.cells 0:=rfl
 have a2:tz v=(decide ((if v.af>v.lo then v.af else v.lo)>255)||decide ((if v.af<v.lo then v.af else v.lo)< -255)):=rfl
 rw [XT]
 simp only [v3,mM,og,bI,c9,jf,if_true,aZ,hR,iZ,mL,aP,bc,bm,bB,cm,SQ,SR,ad,ae,ax,yP,lT,yM,SS,tL,b9,e0,yN]
 rw [OI,OJ,a2]
 cases isName v.name
 ·cases decide ((if v.af>v.lo then v.af else v.lo)>255)<;>simp
 cases has v.name ((l.take i).map V.name)
 rotate_left
 ·cases decide ((if v.af>v.lo then v.af else v.lo)>255)<;>simp
 generalize decide ((if v.af>v.lo then v.af else v.lo)>255)=dT
 generalize decide ((if v.af<v.lo then v.af else v.lo)< -255)=dw
 generalize decide (v.lo>v.af)=gA
 generalize decide (IntKind.i64.wrap (v.af-v.lo)≥64)=o3
 generalize (v.lo !=0)=vd
 generalize (v.af !=0)=ve
 cases v.bool<;>cases dT<;>cases dw<;>cases gA<;>cases o3<;>cases vd<;>cases ve<;>rfl
theorem apP(n:Nat)(l:List V)(an:m3 l)(aJ:l.length<n)(iW:∀v∈l,v.name.size+24<n):
  y7 n [a8 l]=some (.aL [J (jS l).1,J (jS l).2]):=by
 have bG:y7 n [a8 l]=R (bo (v3 n) n [a8 l,a8 l,J l.length,J 0]) (a6 fun ls=>some (D.aL [J 0,J 0])):=by
  simp [y7,Tl,a8]
 rw [bG]
 rcases ri (fun i=>h0 l i≠0) l.length with h|⟨i,ad,ae,ax⟩
 ·have bh:∀j:Nat,j<l.length→h0 l j=0:=fun j aF=>by simpa using h j aF
  have key:bo (v3 n) n [a8 l,a8 l,J l.length,J 0]=some (.inl []):=by
   refine jF (fun i=>[a8 l,a8 l,J l.length,J i]) l.length rfl ?_ ?_ aJ
   ·intro i af
    rw [OK n l an aJ iW i af,if_pos (bh i af)]
   ·simp [v3]
  rw [key,Rp bh]
  rfl
 ·have bh:∀j:Nat,j<i→h0 l j=0:=fun j aF=>by simpa using ax j aF
  have key:bo (v3 n) n [a8 l,a8 l,J l.length,J 0]=some (.inr (.aL [J i,J (h0 l i)])):=by
   refine jF (fun i=>[a8 l,a8 l,J l.length,J i]) i rfl ?_ ?_ (by omega)
   ·intro j aF
    rw [OK n l an aJ iW j (by omega),if_pos (bh j aF)]
   ·rw [OK n l an aJ iW i ad,if_neg ae]
  rw [key,Ro bh ad rfl ae]
  rfl
@[simp] theorem XU {a:Int}:cvP .u64 (J a)=some (.val (.int .u64 (IntKind.u64.wrap a))):=rfl
theorem I0{k:IntKind}{a:Int}:cvP .i64 (.val (.int k a))=some (J (IntKind.i64.wrap a)):=rfl
theorem apQ(n:Nat)(v:V)(ad:lj v.lo)(ae:lj v.af):B7 n [v.d]=some (J v.span):=by
 have bc:aa v.d 1=ar v.bool:=rfl
 have bm:aa v.d 2=J v.lo:=rfl
 have bB:aa v.d 3=J v.af:=rfl
 have iZ:aK 4 v.d=true:=rfl
 simp only [B7,Tn,iZ,mL,bc,bm,bB,jf,lT,c9,XU,I0]
 cases ak:v.bool with
 |true=>simp [V.Rg ak]
 |false=>
  by_cases bP:v.lo>v.af
  ·simp [V.Rh ak bP,bP]
  ·have hle:v.lo≤v.af:=by omega
   have aQ:binP false .sub (.val (.int .u64 (IntKind.u64.wrap v.af))) (.val (.int .u64 (IntKind.u64.wrap v.lo)))=some (.val (.int .u64 (v.af-v.lo))):=by
    show some (D.val (.int .u64 (IntKind.u64.wrap (IntKind.u64.wrap v.af-IntKind.u64.wrap v.lo))))=_
    rw [Rf ad ae hle]
   have aW:binP false .lss (.val (.int .u64 (v.af-v.lo))) (.val (.int .u64 1073741824))=some (ar (decide (v.af-v.lo<1073741824))):=rfl
   simp only [bP,decide_false,Bool.false_eq_true,if_false,aQ,aW,c9,jf]
   by_cases hm:v.af-v.lo<1073741824
   ·rw [V.KG ak hle hm]
    simp only [hm,decide_true,if_true,I0,c9,wrap64 _ (show-9223372036854775808≤v.af-v.lo by omega) (by omega)]
    rw [dU (by omega) (by omega)]
    rfl
   ·rw [V.KH ak hle (by omega)]
    simp [hm]
theorem XV(n:Nat)(v:V)(ad:lj v.lo)(ae:lj v.af):xa n [v.d]=some (J v.span):=by
 have bc:aa v.d 1=ar v.bool:=rfl
 have bm:aa v.d 2=J v.lo:=rfl
 have bB:aa v.d 3=J v.af:=rfl
 have iZ:aK 4 v.d=true:=rfl
 simp only [xa,Uh,iZ,mL,bc,bm,bB,jf,lT,c9,XU]
 cases ak:v.bool with
 |true=>simp [V.Rg ak]
 |false=>
  by_cases bP:v.lo>v.af
  ·simp [V.Rh ak bP,bP]
  ·have hle:v.lo≤v.af:=by omega
   have aQ:binP false .sub (.val (.int .u64 (IntKind.u64.wrap v.af))) (.val (.int .u64 (IntKind.u64.wrap v.lo)))=some (.val (.int .u64 (v.af-v.lo))):=by
    show some (D.val (.int .u64 (IntKind.u64.wrap (IntKind.u64.wrap v.af-IntKind.u64.wrap v.lo))))=_
    rw [Rf ad ae hle]
   have aW:binP false .gtr (.val (.int .u64 (v.af-v.lo))) (.val (.int .u64 1073741824))=some (ar (decide (v.af-v.lo>1073741824))):=rfl
   simp only [bP,decide_false,Bool.false_eq_true,if_false,aQ,aW,c9,jf]
   by_cases hm:v.af-v.lo>1073741824
   ·rw [V.KH ak hle (by omega)]
    simp only [hm,decide_true,if_true,c9,ny,mM,I0]
    rfl
   ·simp only [hm,decide_false,Bool.false_eq_true,if_false,c9,ny,mM,I0,wrap64 _ (show-9223372036854775808≤v.af-v.lo by omega) (by omega)]
    rw [dU (by omega) (by omega)]
    simp only [c9]
    by_cases he:v.af-v.lo=1073741824
    ·rw [V.KH ak hle (by omega),he];rfl
    ·rw [V.KG ak hle (by omega)]
theorem V.EF(v:V):0≤v.span∧v.span≤1073741825:=by
 unfold V.span
 split
 ·omega
 ·split
  ·omega
  ·split<;>omega
theorem apR{i:Nat}(h:i≤62):((2:Int)^i)≤4611686018427387904∧0<(2:Int)^i:=by
 have ad:(2:Nat)^i≤2^62:=Nat.pow_le_pow_right (by omega) h
 have ax:((2^i:Nat):Int)=2^i:=by simp
 have ae:(0:Int)<2^i:=Int.pow_pos (by omega)
 omega
theorem XW{bt:Bool}{i:Nat}(h:i≤62):binP bt .shl (J 1) (J (i:Int))=some (J ((2:Int)^i)):=by
 have Ot:¬((i:Int)<0):=by omega
 have hm:min i IntKind.i64.bits=i:=by simp [IntKind.bits];omega
 obtain ⟨ad,ae⟩:=apR h
 have e:IntKind.i64.wrap (1*2^(min i IntKind.i64.bits))=2^i:=by
  rw [hm,Int.one_mul];exact wrap64 _ (by omega) (by omega)
 simp only [binP,J,toDo,Ot,if_false,Int.toNat_natCast]
 rw [e]
theorem Aq{n:Int}(h:n≤1073741825):bitsOf n≤62∧(∀j:Nat,j<bitsOf n→(2:Int)^j<n)∧n≤2^bitsOf n:=by
 rcases ri (fun i=>n≤(2:Int)^i) 40 with ad|⟨i,ad,ae,ax⟩
 ·exact absurd h (by have:=ad 39 (by omega);simp at this;omega)
 ·have hd:∀j:Nat,j<i→(2:Int)^j<n:=fun j aF=>by have:=ax j aF;omega
  rw [aca hd ae]
  exact ⟨by omega,hd,ae⟩
theorem apS(n:Nat)(k:Int)(ai:k≤1073741825)(aJ:63<n):B8 n [J k]=some (J (bitsOf k)):=by
 obtain ⟨ad,ae,ax⟩:=Aq ai
 have key:bo (GV n) n [J k,J 0]=some (.inr (J (bitsOf k))):=by
  refine jF (fun i=>[J k,J i]) (bitsOf k) rfl ?_ ?_ (by omega)
  ·intro i af
   have:=ae i af
   simp (disch:=omega) [GV,XW,dU,show((i:Int)<63) by omega,show¬(k≤(2:Int)^i) by omega]
  ·simp (disch:=omega) [GV,XW,show((bitsOf k:Int)<63) by omega,ax]
 simp [B8,To,key]
theorem apT(n:Nat)(k:Int)(aq:-1000≤k)(ai:k≤1073741825)(aJ:63<n):Dz n [J k]=some (J (bitsOf k)):=by
 have key:∀(m:Nat) (k:Int) (acc fj:Nat),bitsOf k=m→k≤1073741825→acc+m≤1000→m<fj→bo (HK n) fj [J k,J acc]=some (.inl [J (acc+m:Nat)]):=by
  intro m
  induction m with
  |zero=>
   intro k acc fj hm ai aA AW
   obtain ⟨fj,rfl⟩:∃q,fj=q+1:=⟨fj-1,by omega⟩
   have pd:¬k>1:=by
    intro aj
    have:=Re aj
    omega
   rw [iterL_s]
   simp [HK,pd]
  |succ m ih=>
   intro k acc fj hm ai aA AW
   obtain ⟨fj,rfl⟩:∃q,fj=q+1:=⟨fj-1,by omega⟩
   have pd:k>1:=by
    refine Classical.byContradiction fun aj=>?_
    have:bitsOf k=0:=by unfold bitsOf;rw [if_pos (by omega)]
    omega
   have bp:=Re pd
   have aQ:k.tdiv 2=k/2:=Int.tdiv_eq_ediv_of_nonneg (by omega)
   have aW:k.tmod 2=k%2:=Int.tmod_eq_emod_of_nonneg (by omega)
   have hle:=(Aq ai).1
   have uL:=ih (k/2+k%2) (acc+1) fj (by omega) (by omega) (by omega) (by omega)
   rw [iterL_s]
   simp (disch:=omega) [HK,pd,SD,BE,aQ,aW,wrap64,dU]
   have bA:((acc:Int)+1)=((acc+1:Nat):Int):=by omega
   rw [bA,uL]
   congr 4
   omega
 have:=key (bitsOf k) k 0 n rfl ai (by have:=(Aq ai).1;omega) (by have:=(Aq ai).1;omega)
 simp only [Nat.zero_add] at this
 have e:(J ((0:Nat):Int))=J 0:=rfl
 rw [e] at this
 simp [Dz,Ui,this]
end Go.Am
namespace Go.Am
set_option linter.unusedVariables false
set_option linter.unusedSimpArgs false
theorem XX(n:Nat)(k:Int):zB n [J k]=some (ar (decide (k≥-255)&&decide (k≤255))):=by
 simp only [zB,Ug,yN,Gx,c9]
 cases decide (k≥-255)<;>cases decide (k≤255)<;>rfl
theorem OL(n:Nat)(l:List V)(i k:Nat)(af:i<l.length)(ai:k<i)(hlen:l.length<1000000000000):
  Dw n [a8 l,J i,J k]=if(l[k]'(by omega)).name=l[i].name then some (.inr (.inr (.inr (.inr (.inr (.aL [J i,J 6])))))) else some (.inl [a8 l,J i,J (k+1:Nat)]):=by
 have o1:k<l.length:=by omega
 have ad:l[k]?=some l[k]:=List.getElem?_eq_getElem o1
 have ae:l[i]?=some l[i]:=List.getElem?_eq_getElem af
 simp (disch:=omega) [Dw,a8,ai,dU,o1,af,V.cells]
theorem apU(n:Nat)(l:List V)(i:Nat)(af:i<l.length)(hlen:l.length<1000000000000)(aJ:l.length<n):
  bo (Dw n) n [a8 l,J i,J 0]=if has l[i].name ((l.take i).map V.name)=true then some (.inr (.inr (.inr (.inr (.aL [J i,J 6]))))) else some (.inl [a8 l,J i]):=by
 rcases ri (fun k=>(l.map V.name)[k]?=some l[i].name) i with h|⟨k,ad,ae,ax⟩
 ·rw [ace h,if_neg (by simp)]
  refine jF (fun k=>[a8 l,J i,J k]) i rfl ?_ ?_ (by omega)
  ·intro k ai
   rw [OL n l i k af ai hlen,if_neg]
   intro he
   refine h k ai ?_
   rw [List.getElem?_map,List.getElem?_eq_getElem (show k<l.length by omega),←he];rfl
  ·simp [Dw]
 ·have jC:k<l.length:=by omega
  have hw:=List.getElem?_eq_getElem jC
  have FY:(l[k]).name=l[i].name:=by
   rw [List.getElem?_map,hw] at ae;simpa using ae
  rw [←FY,acf ad hw,if_pos rfl]
  refine jF (fun k=>[a8 l,J i,J k]) k rfl ?_ ?_ (by omega)
  ·intro j aF
   rw [OL n l i j af (by omega) hlen,if_neg]
   intro he
   refine ax j aF ?_
   rw [List.getElem?_map,List.getElem?_eq_getElem (show j<l.length by omega),←he];rfl
  ·rw [OL n l i k af ad hlen,if_pos FY]
theorem OM(n:Nat)(l:List V)(an:m3 l)(aJ:l.length<n)(iW:∀v∈l,v.name.size+24<n)(i:Nat)(af:i<l.length):
  xb n [a8 l,J i]=if h0 l i=0 then some (.inl [a8 l,J (i+1:Nat)]) else some (.inr (.inr (.aL [J i,J (h0 l i)]))):=by
 have aT:=List.getElem?_eq_getElem af
 have aM:=an.2 _ (List.getElem_mem af)
 have hlen:=an.1
 have e0:=apU n l i af an.1 aJ
 have e:h0 l i=F7 (l.take i) l[i]:=by simp only [h0,aT]
 rw [e]
 generalize hw:l[i]=v at*
 have ad:=OG n v.name (iW v (hw▸List.getElem_mem af)) (by omega)
 have aZ:a3 4 (a8 l) (J (i:Int))=some v.cells:=by simp [a8,aT,hw]
 have bI:binP false .lss (J (i:Int)) (J (l.length:Int))=some (ar true):=by simp [af]
 have apV:lenP (a8 l)=some (J l.length):=by simp [a8]
 have b9:binP false .add (J (i:Int)) (J 1)=some (J (i+1:Nat)):=by rw [dU (by omega) (by omega)];rfl
 have hR:aX true 4 0 v.cells=some v.d:=rfl
 have aP:aX false 1 0 v.cells=some (aI v.name):=rfl
 have bc:aX false 1 1 v.cells=some (ar v.bool):=rfl
 have bm:aX false 1 2 v.cells=some (J v.lo):=rfl
 have bB:aX false 1 3 v.cells=some (J v.af):=rfl
 have iZ:=XV n v aM.1 aM.2.1
 rw [XT]
 rw [show OJ v=_ from acd ⟨aM.1,aM.2.1,by omega⟩]
 simp only [xb,mM,og,apV,bI,c9,jf,if_true,aZ,hR,aP,bc,bm,bB,ad,e0,yP,lT,yM,tL,b9,yN,XX,iZ]
 rw [OI]
 cases isName v.name
 ·simp
 cases has v.name ((l.take i).map V.name)
 rotate_left
 ·simp
 simp only [Bool.not_true,Bool.false_eq_true,if_false,c9,ny,mM,og,aZ,hR,aP,bc,bm,bB,lT,tL,XX,iZ,yP]
 generalize (decide (v.lo≥-255)&&decide (v.lo≤255))=dT
 generalize (decide (v.af≥-255)&&decide (v.af≤255))=dw
 generalize decide (v.lo>v.af)=gA
 generalize decide (v.span>64)=o3
 generalize (v.lo !=0)=vd
 generalize (v.af !=0)=ve
 cases v.bool<;>cases dT<;>cases dw<;>cases gA<;>cases o3<;>cases vd<;>cases ve<;>simp [b9]
theorem apW(n:Nat)(l:List V)(an:m3 l)(aJ:l.length<n)(iW:∀v∈l,v.name.size+24<n):
  Dy n [a8 l]=some (.aL [J (jS l).1,J (jS l).2]):=by
 have bG:Dy n [a8 l]=R (bo (xb n) n [a8 l,J 0]) (a6 fun ls=>some (D.aL [J 0,J 0])):=rfl
 rw [bG]
 rcases ri (fun i=>h0 l i≠0) l.length with h|⟨i,ad,ae,ax⟩
 ·have bh:∀j:Nat,j<l.length→h0 l j=0:=fun j aF=>by simpa using h j aF
  have key:bo (xb n) n [a8 l,J 0]=some (.inl []):=by
   refine jF (fun i=>[a8 l,J i]) l.length rfl ?_ ?_ aJ
   ·intro i af
    rw [OM n l an aJ iW i af,if_pos (bh i af)]
   ·simp [xb,a8]
  rw [key,Rp bh]
  rfl
 ·have bh:∀j:Nat,j<i→h0 l j=0:=fun j aF=>by simpa using ax j aF
  have key:bo (xb n) n [a8 l,J 0]=some (.inr (.aL [J i,J (h0 l i)])):=by
   refine jF (fun i=>[a8 l,J i]) i rfl ?_ ?_ (by omega)
   ·intro j aF
    rw [OM n l an aJ iW j (by omega),if_pos (bh j aF)]
   ·rw [OM n l an aJ iW i ad,if_neg ae]
  rw [key,Ro bh ad rfl ae]
  rfl
end Go.Am
namespace Go.Am
set_option linter.unusedVariables false
set_option linter.unusedSimpArgs false
def l4(l:List cj)(x:ByteArray):Option Nat:=l.findIdx? (fun d=>decide (d.name=x))
def eO:Option Nat→Int
 |some i=>(i:Int)
 |none=>-1
theorem uF(o:Option Nat):decide (eO o≥0)=o.isSome:=by
 cases o with
 |none=>rfl
 |some i=>simp [eO]
theorem XY(o:Option Nat):decide (eO o<0)=o.isNone:=by
 cases o with
 |none=>rfl
 |some i=>exact decide_eq_false (show¬((i:Int)<0) by omega)
theorem findIdx_cons{α:Type}(p:α→Bool)(a:α)(r:List α):(a::r).findIdx? p=if p a then some 0 else(r.findIdx? p).map (·+1):=by
 rw [List.findIdx?_cons]
theorem V.kx(v:V):aa v.d 0=aI v.name:=rfl
theorem V.en(v:V):aX true 4 0 v.cells=some v.d:=rfl
theorem V.ek(v:V):aK 4 v.d=true:=rfl
theorem a9.kx(v:a9):aa v.d 0=aI v.name:=rfl
theorem a9.gJ(v:a9):aX true 5 0 v.cells=some v.d:=rfl
theorem a9.h8(v:a9):aK 5 v.d=true:=by unfold a9.d a9.cells;simp
theorem cj.kx(v:cj):aa v.d 0=aI v.name:=rfl
theorem cj.jh(v:cj):aX true 7 0 v.cells=some v.d:=rfl
theorem cj.nu(v:cj):aK 7 v.d=true:=cj.agg v
theorem apX(n:Nat)(d:V)(x:ByteArray):C0 n [d.d,.ref [aI x] 0]=some (ar (decide (d.name=x))):=by
 show Hi n d.d [aI x]=_
 simp only [Hi,go_sem,hg,V.ek,V.kx]
theorem apY(n:Nat)(l:List V)(x:ByteArray)(aJ:l.length<n)(ak:l.length<1000000000):wE n [a8 l,D.fn (.func po) [] [.ref [aI x] 0]]=some (J (eO (dN l x))):=by
 have bG:(J ((0:Nat):Int))=J 0:=rfl
 have af:=dv (f:=C1 n) l (fun i (_:Unit)=>[a8 l,.ref [aI x] 0,J l.length,J (i:Int)]) (fun r _=>match dN r x with
  |some j=>(Sum.inr (J ((l.length-r.length+j:Nat):Int)):List D⊕D)
  |none=> .inl []) (fun _ _=>True) ?_ ?_ n 0 () trivial (by omega) (Nat.zero_le _)
 ·rw [bG,List.drop_zero,Nat.sub_self] at af
  have bp:wE n [a8 l,D.fn (.func po) [] [.ref [aI x] 0]]=C2 n (a8 l) (.ref [aI x] 0):=by
   simp only [wE,lu]
  rw [bp]
  cases bL:dN l x with
  |none=>
   rw [bL] at af
   simp only [C2,go_sem,fC,af,eO]
  |some j=>
   rw [bL] at af
   simp only [Nat.zero_add] at af
   simp only [C2,go_sem,fC,af,eO]
 ·intro _ _
  have:dN [] x=none:=rfl
  simp only [C1,go_sem,decide_eq_false (show¬((l.length:Int)<l.length) by omega),this]
 ·intro i a _ aA af _
  have cM:=decide_eq_true (show((i:Int)<(l.length:Int)) by omega)
  have aj:dN (a::l.drop (i+1)) x=if decide (a.name=x)=true then some 0 else(dN (l.drop (i+1)) x).map (·+1):=findIdx_cons _ a _
  have e:l.length-(a::l.drop (i+1)).length=i:=by simp;omega
  have cX:l.length-(l.drop (i+1)).length=i+1:=by simp;omega
  have ad:=apX n a x
  by_cases ah:a.name=x
  ·right
   rw [decide_eq_true ah] at ad aj
   rw [aj,if_pos rfl,e]
   simp only [C1,go_sem,cM,iN aA,V.en,ad,Nat.add_zero]
  ·left
   rw [decide_eq_false ah] at ad aj
   rw [aj,if_neg (by simp),e,cX]
   refine ⟨(),?_,?_,trivial⟩
   ·simp only [C1,go_sem,cM,iN aA,V.en,ad,cg (bt:=false) (i:=i) (by omega)]
   ·cases dN (l.drop (i+1)) x with
    |none=>rfl
    |some j=>simp;omega
theorem apZ(n:Nat)(l:List V)(x:ByteArray)(aJ:l.length<n)(ak:l.length<1000000000):wF n [a8 l,D.fn (.func po) [] [.ref [aI x] 0]]=some (ar (dN l x).isSome):=by
 have bp:wF n [a8 l,D.fn (.func po) [] [.ref [aI x] 0]]=Hj n (a8 l) (.ref [aI x] 0):=by
  simp only [wF,lu]
 rw [bp]
 simp only [Hj,go_sem,apY n l x aJ ak,uF]
theorem ap0(n:Nat)(d:a9)(x:ByteArray):C3 n [d.d,.ref [aI x] 0]=some (ar (decide (d.name=x))):=by
 show Hk n d.d [aI x]=_
 simp only [Hk,go_sem,hg,a9.h8,a9.kx]
theorem ap1(n:Nat)(l:List a9)(x:ByteArray)(aJ:l.length<n)(ak:l.length<1000000000):wG n [aH l,D.fn (.func pq) [] [.ref [aI x] 0]]=some (J (eO (cO l x))):=by
 have bG:(J ((0:Nat):Int))=J 0:=rfl
 have af:=dv (f:=C4 n) l (fun i (_:Unit)=>[aH l,.ref [aI x] 0,J l.length,J (i:Int)]) (fun r _=>match cO r x with
  |some j=>(Sum.inr (J ((l.length-r.length+j:Nat):Int)):List D⊕D)
  |none=> .inl []) (fun _ _=>True) ?_ ?_ n 0 () trivial (by omega) (Nat.zero_le _)
 ·rw [bG,List.drop_zero,Nat.sub_self] at af
  have bp:wG n [aH l,D.fn (.func pq) [] [.ref [aI x] 0]]=C5 n (aH l) (.ref [aI x] 0):=by
   simp only [wG,lu]
  rw [bp]
  cases bL:cO l x with
  |none=>
   rw [bL] at af
   simp only [C5,go_sem,dG,af,eO]
  |some j=>
   rw [bL] at af
   simp only [Nat.zero_add] at af
   simp only [C5,go_sem,dG,af,eO]
 ·intro _ _
  have:cO [] x=none:=rfl
  simp only [C4,go_sem,decide_eq_false (show¬((l.length:Int)<l.length) by omega),this]
 ·intro i a _ aA af _
  have cM:=decide_eq_true (show((i:Int)<(l.length:Int)) by omega)
  have aj:cO (a::l.drop (i+1)) x=if decide (a.name=x)=true then some 0 else(cO (l.drop (i+1)) x).map (·+1):=findIdx_cons _ a _
  have e:l.length-(a::l.drop (i+1)).length=i:=by simp;omega
  have cX:l.length-(l.drop (i+1)).length=i+1:=by simp;omega
  have ad:=ap0 n a x
  by_cases ah:a.name=x
  ·right
   rw [decide_eq_true ah] at ad aj
   rw [aj,if_pos rfl,e]
   simp only [C4,go_sem,cM,eH aA,a9.gJ,ad,Nat.add_zero]
  ·left
   rw [decide_eq_false ah] at ad aj
   rw [aj,if_neg (by simp),e,cX]
   refine ⟨(),?_,?_,trivial⟩
   ·simp only [C4,go_sem,cM,eH aA,a9.gJ,ad,cg (bt:=false) (i:=i) (by omega)]
   ·cases cO (l.drop (i+1)) x with
    |none=>rfl
    |some j=>simp;omega
theorem ap2(n:Nat)(l:List a9)(x:ByteArray)(aJ:l.length<n)(ak:l.length<1000000000):wH n [aH l,D.fn (.func pq) [] [.ref [aI x] 0]]=some (ar (cO l x).isSome):=by
 have bp:wH n [aH l,D.fn (.func pq) [] [.ref [aI x] 0]]=Hl n (aH l) (.ref [aI x] 0):=by
  simp only [wH,lu]
 rw [bp]
 simp only [Hl,go_sem,ap1 n l x aJ ak,uF]
theorem ap3(n:Nat)(d:V)(x:ByteArray):CR n [d.d,.ref [aI x] 0]=some (ar (decide (d.name=x))):=by
 show Hb n d.d [aI x]=_
 simp only [Hb,go_sem,hg,V.ek,V.kx]
theorem ap4(n:Nat)(l:List V)(x:ByteArray)(aJ:l.length<n)(ak:l.length<1000000000):wy n [a8 l,D.fn (.func yW) [] [.ref [aI x] 0]]=some (J (eO (dN l x))):=by
 have bG:(J ((0:Nat):Int))=J 0:=rfl
 have af:=dv (f:=CS n) l (fun i (_:Unit)=>[a8 l,.ref [aI x] 0,J l.length,J (i:Int)]) (fun r _=>match dN r x with
  |some j=>(Sum.inr (J ((l.length-r.length+j:Nat):Int)):List D⊕D)
  |none=> .inl []) (fun _ _=>True) ?_ ?_ n 0 () trivial (by omega) (Nat.zero_le _)
 ·rw [bG,List.drop_zero,Nat.sub_self] at af
  have bp:wy n [a8 l,D.fn (.func yW) [] [.ref [aI x] 0]]=CT n (a8 l) (.ref [aI x] 0):=by
   simp only [wy,lu]
  rw [bp]
  cases bL:dN l x with
  |none=>
   rw [bL] at af
   simp only [CT,go_sem,fC,af,eO]
  |some j=>
   rw [bL] at af
   simp only [Nat.zero_add] at af
   simp only [CT,go_sem,fC,af,eO]
 ·intro _ _
  have:dN [] x=none:=rfl
  simp only [CS,go_sem,decide_eq_false (show¬((l.length:Int)<l.length) by omega),this]
 ·intro i a _ aA af _
  have cM:=decide_eq_true (show((i:Int)<(l.length:Int)) by omega)
  have aj:dN (a::l.drop (i+1)) x=if decide (a.name=x)=true then some 0 else(dN (l.drop (i+1)) x).map (·+1):=findIdx_cons _ a _
  have e:l.length-(a::l.drop (i+1)).length=i:=by simp;omega
  have cX:l.length-(l.drop (i+1)).length=i+1:=by simp;omega
  have ad:=ap3 n a x
  by_cases ah:a.name=x
  ·right
   rw [decide_eq_true ah] at ad aj
   rw [aj,if_pos rfl,e]
   simp only [CS,go_sem,cM,iN aA,V.en,ad,Nat.add_zero]
  ·left
   rw [decide_eq_false ah] at ad aj
   rw [aj,if_neg (by simp),e,cX]
   refine ⟨(),?_,?_,trivial⟩
   ·simp only [CS,go_sem,cM,iN aA,V.en,ad,cg (bt:=false) (i:=i) (by omega)]
   ·cases dN (l.drop (i+1)) x with
    |none=>rfl
    |some j=>simp;omega
theorem ap5(n:Nat)(d:a9)(x:ByteArray):CU n [d.d,.ref [aI x] 0]=some (ar (decide (d.name=x))):=by
 show Hc n d.d [aI x]=_
 simp only [Hc,go_sem,hg,a9.h8,a9.kx]
theorem ap6(n:Nat)(l:List a9)(x:ByteArray)(aJ:l.length<n)(ak:l.length<1000000000):wz n [aH l,D.fn (.func pr) [] [.ref [aI x] 0]]=some (J (eO (cO l x))):=by
 have bG:(J ((0:Nat):Int))=J 0:=rfl
 have af:=dv (f:=CV n) l (fun i (_:Unit)=>[aH l,.ref [aI x] 0,J l.length,J (i:Int)]) (fun r _=>match cO r x with
  |some j=>(Sum.inr (J ((l.length-r.length+j:Nat):Int)):List D⊕D)
  |none=> .inl []) (fun _ _=>True) ?_ ?_ n 0 () trivial (by omega) (Nat.zero_le _)
 ·rw [bG,List.drop_zero,Nat.sub_self] at af
  have bp:wz n [aH l,D.fn (.func pr) [] [.ref [aI x] 0]]=CW n (aH l) (.ref [aI x] 0):=by
   simp only [wz,lu]
  rw [bp]
  cases bL:cO l x with
  |none=>
   rw [bL] at af
   simp only [CW,go_sem,dG,af,eO]
  |some j=>
   rw [bL] at af
   simp only [Nat.zero_add] at af
   simp only [CW,go_sem,dG,af,eO]
 ·intro _ _
  have:cO [] x=none:=rfl
  simp only [CV,go_sem,decide_eq_false (show¬((l.length:Int)<l.length) by omega),this]
 ·intro i a _ aA af _
  have cM:=decide_eq_true (show((i:Int)<(l.length:Int)) by omega)
  have aj:cO (a::l.drop (i+1)) x=if decide (a.name=x)=true then some 0 else(cO (l.drop (i+1)) x).map (·+1):=findIdx_cons _ a _
  have e:l.length-(a::l.drop (i+1)).length=i:=by simp;omega
  have cX:l.length-(l.drop (i+1)).length=i+1:=by simp;omega
  have ad:=ap5 n a x
  by_cases ah:a.name=x
  ·right
   rw [decide_eq_true ah] at ad aj
   rw [aj,if_pos rfl,e]
   simp only [CV,go_sem,cM,eH aA,a9.gJ,ad,Nat.add_zero]
  ·left
   rw [decide_eq_false ah] at ad aj
   rw [aj,if_neg (by simp),e,cX]
   refine ⟨(),?_,?_,trivial⟩
   ·simp only [CV,go_sem,cM,eH aA,a9.gJ,ad,cg (bt:=false) (i:=i) (by omega)]
   ·cases cO (l.drop (i+1)) x with
    |none=>rfl
    |some j=>simp;omega
theorem ap7(n:Nat)(l:List a9)(x:ByteArray)(aJ:l.length<n)(ak:l.length<1000000000):wA n [aH l,D.fn (.func pr) [] [.ref [aI x] 0]]=some (ar (cO l x).isSome):=by
 have bp:wA n [aH l,D.fn (.func pr) [] [.ref [aI x] 0]]=Hd n (aH l) (.ref [aI x] 0):=by
  simp only [wA,lu]
 rw [bp]
 simp only [Hd,go_sem,ap6 n l x aJ ak,uF]
theorem ap8(n:Nat)(d:a9)(x:ByteArray):CX n [d.d,.ref [aI x] 0]=some (ar (decide (d.name=x))):=by
 show Hf n d.d [aI x]=_
 simp only [Hf,go_sem,hg,a9.h8,a9.kx]
theorem ap9(n:Nat)(l:List a9)(x:ByteArray)(aJ:l.length<n)(ak:l.length<1000000000):wC n [aH l,D.fn (.func yV) [] [.ref [aI x] 0]]=some (J (eO (cO l x))):=by
 have bG:(J ((0:Nat):Int))=J 0:=rfl
 have af:=dv (f:=CY n) l (fun i (_:Unit)=>[aH l,.ref [aI x] 0,J l.length,J (i:Int)]) (fun r _=>match cO r x with
  |some j=>(Sum.inr (J ((l.length-r.length+j:Nat):Int)):List D⊕D)
  |none=> .inl []) (fun _ _=>True) ?_ ?_ n 0 () trivial (by omega) (Nat.zero_le _)
 ·rw [bG,List.drop_zero,Nat.sub_self] at af
  have bp:wC n [aH l,D.fn (.func yV) [] [.ref [aI x] 0]]=CZ n (aH l) (.ref [aI x] 0):=by
   simp only [wC,lu]
  rw [bp]
  cases bL:cO l x with
  |none=>
   rw [bL] at af
   simp only [CZ,go_sem,dG,af,eO]
  |some j=>
   rw [bL] at af
   simp only [Nat.zero_add] at af
   simp only [CZ,go_sem,dG,af,eO]
 ·intro _ _
  have:cO [] x=none:=rfl
  simp only [CY,go_sem,decide_eq_false (show¬((l.length:Int)<l.length) by omega),this]
 ·intro i a _ aA af _
  have cM:=decide_eq_true (show((i:Int)<(l.length:Int)) by omega)
  have aj:cO (a::l.drop (i+1)) x=if decide (a.name=x)=true then some 0 else(cO (l.drop (i+1)) x).map (·+1):=findIdx_cons _ a _
  have e:l.length-(a::l.drop (i+1)).length=i:=by simp;omega
  have cX:l.length-(l.drop (i+1)).length=i+1:=by simp;omega
  have ad:=ap8 n a x
  by_cases ah:a.name=x
  ·right
   rw [decide_eq_true ah] at ad aj
   rw [aj,if_pos rfl,e]
   simp only [CY,go_sem,cM,eH aA,a9.gJ,ad,Nat.add_zero]
  ·left
   rw [decide_eq_false ah] at ad aj
   rw [aj,if_neg (by simp),e,cX]
   refine ⟨(),?_,?_,trivial⟩
   ·simp only [CY,go_sem,cM,eH aA,a9.gJ,ad,cg (bt:=false) (i:=i) (by omega)]
   ·cases cO (l.drop (i+1)) x with
    |none=>rfl
    |some j=>simp;omega
theorem aqa(n:Nat)(d:cj)(x:ByteArray):Cg n [d.d,.ref [aI x] 0]=some (ar (decide (d.name=x))):=by
 show GX n d.d [aI x]=_
 simp only [GX,go_sem,hg,cj.nu,cj.kx]
theorem aqb(n:Nat)(l:List cj)(x:ByteArray)(aJ:l.length<n)(ak:l.length<1000000000):v5 n [bs l,D.fn (.func ps) [] [.ref [aI x] 0]]=some (J (eO (l4 l x))):=by
 have bG:(J ((0:Nat):Int))=J 0:=rfl
 have af:=dv (f:=Ch n) l (fun i (_:Unit)=>[bs l,.ref [aI x] 0,J l.length,J (i:Int)]) (fun r _=>match l4 r x with
  |some j=>(Sum.inr (J ((l.length-r.length+j:Nat):Int)):List D⊕D)
  |none=> .inl []) (fun _ _=>True) ?_ ?_ n 0 () trivial (by omega) (Nat.zero_le _)
 ·rw [bG,List.drop_zero,Nat.sub_self] at af
  have bp:v5 n [bs l,D.fn (.func ps) [] [.ref [aI x] 0]]=Ci n (bs l) (.ref [aI x] 0):=by
   simp only [v5,lu]
  rw [bp]
  cases bL:l4 l x with
  |none=>
   rw [bL] at af
   simp only [Ci,go_sem,g7,af,eO]
  |some j=>
   rw [bL] at af
   simp only [Nat.zero_add] at af
   simp only [Ci,go_sem,g7,af,eO]
 ·intro _ _
  have:l4 [] x=none:=rfl
  simp only [Ch,go_sem,decide_eq_false (show¬((l.length:Int)<l.length) by omega),this]
 ·intro i a _ aA af _
  have cM:=decide_eq_true (show((i:Int)<(l.length:Int)) by omega)
  have aj:l4 (a::l.drop (i+1)) x=if decide (a.name=x)=true then some 0 else(l4 (l.drop (i+1)) x).map (·+1):=findIdx_cons _ a _
  have e:l.length-(a::l.drop (i+1)).length=i:=by simp;omega
  have cX:l.length-(l.drop (i+1)).length=i+1:=by simp;omega
  have ad:=aqa n a x
  by_cases ah:a.name=x
  ·right
   rw [decide_eq_true ah] at ad aj
   rw [aj,if_pos rfl,e]
   simp only [Ch,go_sem,cM,kG aA,cj.jh,ad,Nat.add_zero]
  ·left
   rw [decide_eq_false ah] at ad aj
   rw [aj,if_neg (by simp),e,cX]
   refine ⟨(),?_,?_,trivial⟩
   ·simp only [Ch,go_sem,cM,kG aA,cj.jh,ad,cg (bt:=false) (i:=i) (by omega)]
   ·cases l4 (l.drop (i+1)) x with
    |none=>rfl
    |some j=>simp;omega
theorem aqc(n:Nat)(l:List cj)(x:ByteArray)(aJ:l.length<n)(ak:l.length<1000000000):v7 n [bs l,D.fn (.func ps) [] [.ref [aI x] 0]]=some (ar (l4 l x).isSome):=by
 have bp:v7 n [bs l,D.fn (.func ps) [] [.ref [aI x] 0]]=GY n (bs l) (.ref [aI x] 0):=by
  simp only [v7,lu]
 rw [bp]
 simp only [GY,go_sem,aqb n l x aJ ak,uF]
end Go.Am
namespace Go.Am
set_option linter.unusedVariables false
set_option linter.unusedSimpArgs false
structure oK(f:Tm→Tm):Prop where
 op:∀t,(f t).op=t.op
 num:∀t,(f t).num=t.num
 name:∀t,(f t).name=t.name
 kids:∀t,(f t).kids=t.kids.map f
theorem I1:oK iq:=⟨fun t=>by rw [En];rfl,fun t=>by rw [En];rfl,fun t=>by rw [En];rfl,fun t=>by rw [En];rfl⟩
theorem ON:oK fm:=⟨fun t=>by rw [Ae];rfl,fun t=>by rw [Ae];rfl,fun t=>by rw [Ae];rfl,fun t=>by rw [Ae];rfl⟩
theorem XZ(vs:List V)(nx:Bool)(f:Tm→Tm):∀(ks:List Tm),(∀k∈ks,df vs nx (f k)=df vs nx k)→ds vs nx (ks.map f)=ds vs nx ks
 |[],_=>rfl
 |k::r,h=>by rw [List.map_cons,ds,ds,h k (by simp),XZ vs nx f r fun k ai=>h k (by simp [ai])]
theorem aqd{f:Tm→Tm}(a4:oK f)(t:Tm)(l:List Y):fw (f t) l=fw t l:=by
 unfold fw
 rw [a4.op,a4.kids,List.getElem?_map]
 cases ai:t.kids[1]? with
 |none=>rfl
 |some k=>simp only [Option.map_some,a4.op,a4.num]
theorem aqe{f:Tm→Tm}(a4:oK f)(vs:List V)(nx:Bool)(t:Tm):df vs nx (f t)=df vs nx t:=by
 refine Tm.ind (P:=fun t=>df vs nx (f t)=df vs nx t) ?_ t
 intro t ih
 have ax:iO vs nx (f t)=iO vs nx t:=by simp only [iO,a4.op,a4.num,a4.name]
 rw [l3,l3 vs nx t,a4.op,a4.kids,ax,XZ vs nx f t.kids ih,aqd a4]
theorem aqf{f:Tm→Tm}(a4:oK f)(t:Tm):gR (f t)=gR t:=by
 simp only [gR,a4.op,a4.num,a4.name,a4.kids,List.length_map]
theorem X0(f:Tm→Tm):∀(ks:List Tm),(∀k∈ks,∀d n,cH (f k) d n=cH k d n)→∀d n,er (ks.map f) d n=er ks d n
 |[],_,_,_=>rfl
 |k::r,h,d,n=>by rw [List.map_cons,er,er,h k (by simp),X0 f r fun k ai=>h k (by simp [ai])]
theorem aqg{f:Tm→Tm}(a4:oK f)(t:Tm):∀d n,cH (f t) d n=cH t d n:=by
 refine Tm.ind (P:=fun t=>∀d n,cH (f t) d n=cH t d n) ?_ t
 intro t ih d n
 rw [sB,sB t,aqf a4,a4.kids,X0 f t.kids ih]
theorem EG{f:Tm→Tm}(a4:oK f)(vs:List V)(nx:Bool)(t:Tm):gb vs nx (f t)=gb vs nx t:=by
 unfold gb;rw [aqg a4,aqe a4]
structure Ar(l:List a9)(t:Tm)(p:Tm×Int):Prop where
 a:∀n,301000000<n→kz n [t.d,aH l]=some (.aL [(if p.2=0 then iq p.1 else eF).d,J p.2])
 b:∀n,301000000<n→kD n [t.d,aH l]=some (.aL [(if p.2=0 then fm p.1 else eF).d,J p.2])
 x:p.2=0→p.1.bO∧p.1.ba≤12300∧(cH p.1 1 0).1=0∧(iq p.1).bO∧(fm p.1).bO∧∃h,im l h t p.1
theorem X1{l:List a9}(an:gy 12300 l)(As:l.length≤100)(t:Tm)(a7:t.bO)(aG:t.ba≤12300):∃p,Ar l t p:=by
 by_cases aq:(cH t 1 0).1=0
 case neg=>exact ⟨(eF,(cH t 1 0).1),fun n aJ=>by rw [if_neg aq];exact (N9 an n t a7 aG (by omega)).1 aq,fun n aJ=>by rw [if_neg aq];exact (Ob an n t a7 aG (by omega)).1 aq,fun h=>absurd h aq⟩
 cases au:p0 l t with
 |false=>exact ⟨(eF,14),fun n aJ=>(N9 an n t a7 aG (by omega)).2.1 aq au,fun n aJ=>(Ob an n t a7 aG (by omega)).2.1 aq au,fun h=>by cases h⟩
 |true=>
  obtain ⟨X,iL⟩:=anK an aG ((anW l t).1 au)
  have eM:(l.length+1)*(12300+1)+12300≤1300000:=by omega
  generalize (l.length+1)*(12300+1)+12300=bp at*
  have A:∀n,301000000<n→_:=fun n aJ=>(N9 an n t a7 aG (by omega)).2.2 _ X aq au iL (by omega)
  have B:∀n,301000000<n→_:=fun n aJ=>(Ob an n t a7 aG (by omega)).2.2 _ X aq au iL (by omega)
  obtain ⟨bc,bm⟩:=N0 X 1 0 (by omega)
  rw [bc] at A
  by_cases ax:(cH X 1 0).1=0
  case neg=>
   simp only [ax,if_false] at A B
   exact ⟨(eF,(cH X 1 0).1),fun n aJ=>by rw [if_neg ax];exact A n aJ,fun n aJ=>by rw [if_neg ax];exact B n aJ,fun h=>absurd h ax⟩
  simp only [ax,if_true] at A B
  have a4:=WH X 1 0 (by omega) ax
  have X2:=iL.ok an a7 aG
  have fi:=an3 X 1 0 ax
  have ave:=(zV X 1 0).2 ax
  have X3:=(WB an iL a7 aG).1
  rw [a4] at A X3
  exact ⟨(X,0),A,B,fun _=>⟨X2.1,by simp only;omega,ax,X3,aoI X X2.1,bp,iL⟩⟩
open Classical in
noncomputable def eA(l:List a9)(t:Tm):Tm×Int:=if h:∃p,Ar l t p then Classical.choose h else(eF,0)
theorem X4{l:List a9}{t:Tm}(h:∃p,Ar l t p):Ar l t (eA l t):=by
 unfold eA
 rw [dif_pos h]
 exact Classical.choose_spec h
noncomputable def fD(m:al)(nx:Bool)(t:Tm):Y×Int:=if(eA m.defs t).2≠0 then(et,(eA m.defs t).2) else gb m.vars nx (eA m.defs t).1
noncomputable def m4(m:al)(nx:Bool)(t:Tm):Int:=if((fD m nx t).2==0&&!(fD m nx t).1.b)=true then 13 else(fD m nx t).2
structure At(m:al):Prop where
 d:gy 12300 m.defs
 dl:m.defs.length≤100
 jO:m.vars.length≤100
theorem At.OO{m:al}(h:At m){t:Tm}(a7:t.bO)(aG:t.ba≤12300):Ar m.defs t (eA m.defs t):=X4 (X1 h.d h.dl t a7 aG)
theorem X5:D.agg [ar false,J 0,J 0]=et.d:=rfl
theorem l5(y:Y):aa y.d 0=ar y.b:=rfl
theorem X6(y:Y):aa y.d 1=J y.lo:=rfl
theorem X7(y:Y):aa y.d 2=J y.af:=rfl
theorem kH(y:Y):aK 3 y.d=true:=rfl
theorem X8(y:Y):D.agg [ar y.b,J y.lo,J y.af]=y.d:=rfl
section
variable{m:al}(hm:At m)(n:Nat)(aJ:301000000<n)
include hm aJ
theorem OP{t:Tm}(a7:t.bO)(aG:t.ba≤12300)(nx:Bool):qU n [m.d,t.d,ar nx]=some (.aL [(fD m nx t).1.d,J (fD m nx t).2]):=by
 have mB:=hm.OO a7 aG
 have jq:=hm.jO
 unfold fD
 generalize eA m.defs t=p at*
 have dE:=mB.a n aJ
 by_cases aq:p.2=0
 ·obtain ⟨cJ,ht,tW,X9,Ya,_⟩:=mB.x aq
  have bz:(p.2 !=0)=false:=by simp [aq]
  rw [if_pos aq] at dE
  have a0:=Ol n m.vars (iq p.1) nx (by rw [Od];omega) X9 (by omega)
  rw [EG I1] at a0
  rw [if_neg (by simpa using aq)]
  simp only [qU,Mv,go_sem,al.agg,al.aP,al.bc,dE,bz,a0,kH,l5,X6,X7,X8]
 ·have bz:(p.2 !=0)=true:=by simpa using aq
  rw [if_neg aq] at dE
  rw [if_pos aq]
  simp only [qU,Mv,go_sem,al.agg,al.aP,al.bc,dE,bz,X5]
theorem OQ{t:Tm}(a7:t.bO)(aG:t.ba≤12300)(nx:Bool):q2 n [m.d,t.d,ar nx]=some (.aL [(fD m nx t).1.d,J (fD m nx t).2]):=by
 have mB:=hm.OO a7 aG
 have jq:=hm.jO
 unfold fD
 generalize eA m.defs t=p at*
 have dE:=mB.b n aJ
 by_cases aq:p.2=0
 ·obtain ⟨cJ,ht,tW,X9,Ya,_⟩:=mB.x aq
  have bz:(p.2 !=0)=false:=by simp [aq]
  rw [if_pos aq] at dE
  have a0:=IF n m.vars (fm p.1) nx (by rw [IG];omega) Ya (by omega)
  rw [EG ON] at a0
  rw [if_neg (by simpa using aq)]
  simp only [q2,Nl,go_sem,al.agg,al.aP,al.bc,dE,bz,a0,kH,l5,X6,X7,X8]
 ·have bz:(p.2 !=0)=true:=by simpa using aq
  rw [if_neg aq] at dE
  rw [if_pos aq]
  simp only [q2,Nl,go_sem,al.agg,al.aP,al.bc,dE,bz,X5]
theorem Yb{t:Tm}(a7:t.bO)(aG:t.ba≤12300)(nx:Bool):tR n [m.d,t.d,ar nx]=some (J (m4 m nx t)):=by
 have a0:=OP hm n aJ a7 aG nx
 unfold m4
 by_cases h:((fD m nx t).2==0&&!(fD m nx t).1.b)=true
 ·rw [if_pos h]
  simp only [tR,Mw,go_sem,al.agg,al.aP,al.bc,al.bm,al.bB,al.cm,al.cD,al.cE,al.cP,al.eta,a0,kH,l5,h]
 ·have bh:((fD m nx t).2==0&&!(fD m nx t).1.b)=false:=by simpa using h
  rw [if_neg h]
  simp only [tR,Mw,go_sem,al.agg,al.aP,al.bc,al.bm,al.bB,al.cm,al.cD,al.cE,al.cP,al.eta,a0,kH,l5,bh]
theorem Yc{t:Tm}(a7:t.bO)(aG:t.ba≤12300)(nx:Bool):ud n [m.d,t.d,ar nx]=some (J (m4 m nx t)):=by
 have a0:=OQ hm n aJ a7 aG nx
 unfold m4
 by_cases h:((fD m nx t).2==0&&!(fD m nx t).1.b)=true
 ·rw [if_pos h]
  simp only [ud,Nm,go_sem,al.agg,al.aP,al.bc,al.bm,al.bB,al.cm,al.cD,al.cE,al.cP,al.eta,a0,kH,l5,h]
 ·have bh:((fD m nx t).2==0&&!(fD m nx t).1.b)=false:=by simpa using h
  rw [if_neg h]
  simp only [ud,Nm,go_sem,al.agg,al.aP,al.bc,al.bm,al.bB,al.cm,al.cD,al.cE,al.cP,al.eta,a0,kH,l5,bh]
end
end Go.Am
namespace Go.Am
set_option linter.unusedVariables false
set_option linter.unusedSimpArgs false
def sL(N:Nat)(S:List Nat):List (List D):=(List.range N).map fun j=>[ar (decide (j∈S))]
def iu(N:Nat)(S:List Nat):D:= .aE 1 (sL N S)
theorem EH(N:Nat)(S:List Nat):(sL N S).length=N:=by simp [sL]
theorem EI{N:Nat}{S:List Nat}{k:Nat}(h:k<N):(sL N S)[k]?=some [ar (decide (k∈S))]:=by simp [sL,h]
theorem Yd(N:Nat):List.replicate N [ar false]=sL N []:=by
 apply List.ext_getElem?
 intro j
 by_cases h:j<N
 ·rw [EI h];simp [h]
 ·rw [List.getElem?_eq_none (by simp;omega),List.getElem?_eq_none (by rw [EH];omega)]
theorem aqh{N:Nat}{S:List Nat}{k:Nat}(h:k<N):(sL N S).set k [ar true]=sL N (S++[k]):=by
 apply List.ext_getElem?
 intro j
 by_cases aF:j<N
 ·rw [EI aF,List.getElem?_set]
  by_cases e:k=j
  ·subst e;simp [EH,h]
  ·rw [if_neg e,EI aF]
   have:(j∈S++[k])↔j∈S:=by simp;omega
   simp only [this]
 ·rw [List.getElem?_eq_none (by simp [EH];omega),List.getElem?_eq_none (by rw [EH];omega)]
def gT(S:List Nat)(ks:List Nat):List Nat:=ks.foldl (fun S k=>if k∈S then S else S++[k]) S
theorem EJ(S:List Nat)(k:Nat)(r:List Nat):gT S (k::r)=gT (if k∈S then S else S++[k]) r:=rfl
structure aqi(N:Nat)(S ks dX:List Nat):Prop where
 inv:hk N dX
 pre:∃T,dX=S++T
 mem:∀k∈ks,k∈dX
 of:∀x∈dX,x∈S∨x∈ks
theorem I2{N:Nat}:∀(ks S:List Nat),hk N S→(∀k∈ks,k<N)→aqi N S ks (gT S ks)
 |[],S,h,_=>⟨h,⟨[],by simp [gT]⟩,by simp,fun x ah=> .inl ah⟩
 |k::r,S,h,ai=>by
  rw [EJ]
  by_cases dL:k∈S
  ·rw [if_pos dL]
   have g:=I2 r S h fun x ah=>ai x (by simp [ah])
   obtain ⟨T,a0⟩:=g.pre
   refine ⟨g.inv,g.pre,fun x ah=>?_,fun x ah=>(g.of x ah).elim .inl fun h=> .inr (by simp [h])⟩
   rcases List.mem_cons.1 ah with rfl|ah
   ·rw [a0];simp [dL]
   ·exact g.mem x ah
  ·rw [if_neg dL]
   have g:=I2 r (S++[k]) (h.snoc (ai k (by simp)) dL) fun x ah=>ai x (by simp [ah])
   obtain ⟨T,a0⟩:=g.pre
   refine ⟨g.inv,⟨[k]++T,by rw [a0];simp⟩,fun x ah=>?_,fun x ah=>?_⟩
   ·rcases List.mem_cons.1 ah with rfl|ah
    ·rw [a0];simp
    ·exact g.mem x ah
   ·rcases g.of x ah with h|h
    ·rcases List.mem_append.1 h with h|h
     ·exact .inl h
     ·simp at h;subst h;exact .inr (by simp)
    ·exact .inr (by simp [h])
def sM(to:Nat→List Nat)(i:Nat):Nat→Nat→List Nat→List Nat
 |0,_,S=>S
 |m+1,k,S=>match(i::S)[k]? with
  |some x=>sM to i m (k+1) (gT S (to x))
  |none=>S
structure oL(to:Nat→List Nat)(N i k:Nat)(S:List Nat):Prop where
 inv:hk N S
 le:k≤S.length+1
 sC:∀j x,j<k→(i::S)[j]?=some x→∀y∈to x,y∈S
 pY:∀x∈S,∃j∈to i,il to j x
theorem il.snoc{to:Nat→List Nat}{i j k:Nat}(h:il to i j)(bh:k∈to j):il to i k:=h.trans (.step j k k bh (.refl k))
theorem oL.next{to:Nat→List Nat}{N i k:Nat}{S:List Nat}(h:oL to N i k S)(jc:∀i,∀k∈to i,k<N){x:Nat}(ah:(i::S)[k]?=some x):oL to N i (k+1) (gT S (to x)):=by
 have g:=I2 (to x) S h.inv (jc x)
 obtain ⟨T,a0⟩:=g.pre
 have ai:k<S.length+1:=by
  have:=(List.getElem?_eq_some_iff.1 ah).1
  simpa using this
 have aqj:∀j y,j≤k→(i::gT S (to x))[j]?=some y→(i::S)[j]?=some y:=by
  intro j y aF aT
  rw [a0,←List.cons_append,List.getElem?_append_left (by simp;omega)] at aT
  exact aT
 refine ⟨g.inv,by rw [a0];simp;omega,?_,?_⟩
 ·intro j y aF aT z bz
  have rC:=aqj j y (by omega) aT
  by_cases e:j=k
  ·subst e
   rw [ah] at rC
   cases rC
   exact g.mem z bz
  ·have:=h.sC j y (by omega) rC z bz
   rw [a0];simp [this]
 ·intro y aT
  rcases g.of y aT with ad|ad
  ·exact h.pY y ad
  ·cases k with
   |zero=>
    simp at ah;subst ah
    exact ⟨y,ad,.refl y⟩
   |succ k=>
    have NS:x∈S:=List.mem_of_getElem? (by simpa using ah)
    obtain ⟨j,aF,au⟩:=h.pY x NS
    exact ⟨j,aF,au.snoc ad⟩
theorem OR{to:Nat→List Nat}{N i:Nat}(jc:∀i,∀k∈to i,k<N):∀(m k:Nat) (S:List Nat),oL to N i k S→N+1-k<m→(i∈sM to i m k S↔∃j∈to i,il to j i)
 |0,_,_,_,h=>absurd h (Nat.not_lt_zero _)
 |m+1,k,S,h,hm=>by
  rw [sM]
  have hlen:=h.inv.len
  cases ah:(i::S)[k]? with
  |some x=>
   have ai:k<S.length+1:=by
    have:=(List.getElem?_eq_some_iff.1 ah).1
    simpa using this
   exact OR jc m (k+1) _ (h.next jc ah) (by omega)
  |none=>
   have ai:S.length+1≤k:=by
    have:=List.getElem?_eq_none_iff.1 ah
    simpa using this
   refine ⟨fun af=>h.pY i af,?_⟩
   have hc:∀a b,il to a b→a∈S→b∈S:=by
    intro a b kc
    induction kc with
    |refl=>exact fun h=>h
    |step p q r AM _ ih=>
     intro aV
     obtain ⟨j,aF⟩:=List.mem_iff_getElem?.1 aV
     have cM:=(List.getElem?_eq_some_iff.1 aF).1
     exact ih (h.sC (j+1) p (by omega) (by simpa using aF) q AM)
   rintro ⟨j,aF,au⟩
   exact hc j i au (h.sC 0 i (by omega) (by simp) j aF)
theorem oL.start(to:Nat→List Nat)(N i:Nat):oL to N i 0 []:=⟨⟨by simp,by simp⟩,by simp,by intro j x h;omega,by simp⟩
theorem p7(x:List Nat):D.aE 1 (esD (cG x))=cG x:=rfl
theorem EK(x:List Nat):(esD (cG x)).length=x.length:=by simp [cG]
theorem Ye(x:List Nat)(k:Nat):D.aE 1 (esD (cG x)++[[J (k:Int)]])=cG (x++[k]):=by simp [cG]
theorem Yf{x:List Nat}{j k:Nat}(h:x[j]?=some k):(esD (cG x))[j]?=some [J (k:Int)]:=by simp [cG,h]
theorem m5(N:Nat)(x:List Nat):D.aE 1 (esD (iu N x))=iu N x:=rfl
theorem EL(N:Nat)(x:List Nat):(esD (iu N x)).length=N:=EH N x
theorem EM{N:Nat}{S:List Nat}{k:Nat}(h:k<N):(esD (iu N S))[k]?=some [ar (decide (k∈S))]:=EI h
theorem Yg{N:Nat}{S:List Nat}{k:Nat}(h:k<N){w:Bool}:D.aE 1 ((esD (iu N S)).set k (la [ar w] 0 [ar true]))=iu N (S++[k]):=by
 show D.aE 1 ((sL N S).set k [ar true])=_
 rw [aqh h];rfl
theorem xV(b:Bool):aX false 1 0 [ar b]=some (ar b):=rfl
theorem Au(i:Int):aX false 1 0 [J i]=some (J i):=rfl
theorem Av(s:ByteArray):aX false 1 0 [aI s]=some (aI s):=rfl
theorem I3{p:Option D}:gD (ar true) true p=p:=rfl
theorem Yh{p:Option D}:gD (ar false) true p=some ja:=rfl
theorem I4{a b:D}:pickP (ar true) a b=some a:=rfl
theorem Yi{a b:D}:pickP (ar false) a b=some b:=rfl
theorem Yj{l:List a9}{x:ByteArray}{k:Nat}(h:cO l x=some k):k<l.length:=by
 obtain ⟨_,_,_,h⟩:=LX h
 exact h
theorem aqk(n:Nat)(l:List a9){B:Nat}(an:gy B l)(i k:Nat)(js:List ByteArray)(S:List Nat)(c6:hk l.length S)(ai:k≤S.length+1)(fX:js.length≤B)(aJ:2*B+100<n):
  bo (wD n) n [aH l,J (i:Int),c0 js,J js.length,J 0,iu l.length S,cG ((i::S).drop k)]=some (.inl [aH l,J (i:Int),iu l.length (gT S (js.filterMap (cO l))),cG ((i::gT S (js.filterMap (cO l))).drop k)]):=by
 have hlen:=an.len
 have ak:=an.b
 have af:=dv (f:=wD n) js (fun j (s:List Nat)=>[aH l,J (i:Int),c0 js,J js.length,J (j:Int),iu l.length s,cG ((i::s).drop k)])
  (fun r s=>(.inl [aH l,J (i:Int),iu l.length (gT s (r.filterMap (cO l))),cG ((i::gT s (r.filterMap (cO l))).drop k)]:List D⊕(List D⊕(List D⊕(List D⊕D)))))
  (fun j s=>hk l.length s∧k≤s.length+1)
  (fun s _=>by simp only [wD,go_sem,decide_eq_false (show¬((js.length:Int)<js.length) by omega),m5,p7];rfl) ?_ n 0 S ⟨c6,ai⟩ (by omega) (Nat.zero_le _)
 ·exact af
 ·rintro j x s ah aF ⟨ad,ae⟩
  have e6:=ap9 n l x (by omega) (by omega)
  have z1:=ad.len
  have cM:=decide_eq_true (show((j:Int)<(js.length:Int)) by omega)
  left
  cases ay:cO l x with
  |none=>
   rw [ay] at e6
   refine ⟨s,?_,by simp [ay],ad,ae⟩
   have hP:decide (eO none≥0)=false:=rfl
   simp only [wD,go_sem,cM,Ee ah,Av,e6,hP,Yh,Yi,m5,p7,cg (bt:=false) (i:=j) (by omega)]
  |some y=>
   have aT:=Yj ay
   rw [ay] at e6
   have hP:decide ((y:Int)≥0)=true:=decide_eq_true (by omega)
   have eb:ct l.length (J (y:Int))=some y:=by rw [lp,if_pos aT]
   have EN:eO (some y)=(y:Int):=rfl
   by_cases lQ:y∈s
   ·refine ⟨s,?_,by simp [ay,EJ,lQ],ad,ae⟩
    simp only [wD,go_sem,cM,Ee ah,Av,e6,EN,hP,EL,eb,EM aT,xV,decide_eq_true lQ,I3,I4,m5,p7,cg (bt:=false) (i:=j) (by omega)]
   ·have ax:=ad.snoc aT lQ
    refine ⟨s++[y],?_,by simp only [List.filterMap_cons,ay,EJ,if_neg lQ],ax,by simp;omega⟩
    have aQ:(i::(s++[y])).drop k=(i::s).drop k++[y]:=by rw [←List.cons_append,List.drop_append_of_le_length (by simpa using ae)]
    have ea:c2 (((i::s).drop k).length+1) 8=true:=gK (by simp;omega) (by simp;omega)
    rw [aQ]
    simp only [wD,go_sem,cM,Ee ah,Av,e6,EN,hP,EL,eb,EM aT,xV,decide_eq_false lQ,I3,I4,EK,List.length_cons,List.length_nil,Nat.zero_add,ea,Yg aT,Ye,m5,p7,cg (bt:=false) (i:=j) (by omega)]
theorem Yk(n:Nat)(l:List a9){B:Nat}(an:gy B l)(i:Nat)(bW:i<l.length)(aJ:4*B+200<n):∀(m k:Nat) (S:List Nat),oL (to l) l.length i k S→l.length+1-k<m→
  bo (Hg n) m [aH l,J (i:Int),iu l.length S,cG ((i::S).drop k)]=some (.inl [J (i:Int),iu l.length (sM (to l) i m k S)])
 |0,_,_,_,h=>absurd h (Nat.not_lt_zero _)
 |m+1,k,S,h,hm=>by
  have hlen:=an.len
  have ak:=an.b
  rw [iterL_s,sM]
  have aql:=h.inv.len
  have hle:=h.le
  cases ah:(i::S)[k]? with
  |none=>
   have ai:S.length+1≤k:=by
    have:=List.getElem?_eq_none_iff.1 ah
    simpa using this
   have bG:(i::S).drop k=[]:=List.drop_eq_nil_of_le (by simpa using ai)
   rw [bG]
   have aQ:(esD (cG [])).length=0:=rfl
   have aW:decide (((0:Nat):Int)>0)=false:=rfl
   simp only [Hg,go_sem,aQ,aW,m5]
  |some x=>
   have ai:k<S.length+1:=by
    have:=(List.getElem?_eq_some_iff.1 ah).1
    simpa using this
   have qk:x<l.length:=by
    cases k with
    |zero=>simp at ah;omega
    |succ k=>exact h.inv.2 x (List.mem_of_getElem? (by simpa using ah))
   obtain ⟨d,ay⟩:∃d,l[x]?=some d:=⟨l[x],List.getElem?_eq_getElem qk⟩
   have gn:=an.e d (List.mem_of_getElem? ay)
   have s4:=h.next (fun i k ai=>jM i k ai) ah
   have ih:=Yk n l an i bW aJ m (k+1) _ s4 (by omega)
   have bQ:=Ii n d.e (by omega) gn.1 (by omega)
   have aqm:=zX d.e
   have e0:=aqk n l an i k (eY 3 d.e []) S h.inv hle (by omega) (by omega)
   have jc:(eY 3 d.e []).filterMap (cO l)=to l x:=by rw [zY ay];rfl
   rw [jc] at e0
   obtain ⟨T,a0⟩:=(I2 (N:=l.length) (to l x) S h.inv (jM x)).pre
   have Kb:((i::gT S (to l x)).drop k).length=(gT S (to l x)).length+1-k:=by simp
   have Lr:=s4.le
   have Yl:((i::S).drop k).length=S.length+1-k:=by simp
   have s7:decide (((((i::S).drop k).length:Nat):Int)>0)=true:=decide_eq_true (by rw [Yl];omega)
   have aqn:((i::S).drop k)[0]?=some x:=by rw [List.getElem?_drop];exact ah
   have eb:ct ((i::S).drop k).length (J 0)=some 0:=by
    have:(J 0)=J ((0:Nat):Int):=rfl
    rw [this,lp,if_pos (by rw [Yl];omega)]
   have aqo:np ((i::gT S (to l x)).drop k).length (some (J 1)) none=some (1,((i::gT S (to l x)).drop k).length-1):=by
    have ad:1≤((i::gT S (to l x)).drop k).length:=by rw [Kb];omega
    generalize ((i::gT S (to l x)).drop k).length=q at*
    have:(J 1)=J ((1:Nat):Int):=rfl
    rw [this]
    simp [np,qv,J,ad]
   have aqp:decide (1+(((i::gT S (to l x)).drop k).length-1)≤((i::gT S (to l x)).drop k).length)=true:=decide_eq_true (by rw [Kb];omega)
   have aqq:D.aE 1 (((esD (cG ((i::gT S (to l x)).drop k))).drop 1).take (((i::gT S (to l x)).drop k).length-1))=cG ((i::gT S (to l x)).drop (k+1)):=by
    have bA:((((i::gT S (to l x)).drop k).drop 1).take (((i::gT S (to l x)).drop k).length-1))=(i::gT S (to l x)).drop (k+1):=by
     rw [List.drop_drop,List.take_of_length_le]
     simp;omega
    show D.aE 1 (((((i::gT S (to l x)).drop k).map fun(i:Nat)=>[J (i:Int)]).drop 1).take _)=cG _
    rw [←bA]
    unfold cG
    simp only [List.map_take,List.map_drop]
   simp only [Hg,go_sem,EK,s7,eb,Yf aqn,Au,eH ay,a9.g3,bQ,Ef,m5,p7,e0,aqo,aqp,aqq,ih]
theorem aqr(n:Nat)(m:al){l:List a9}{B:Nat}(an:gy B l)(i:Nat)(af:i<l.length)(aJ:4*B+200<n):zi n [aH l,m.d,J (i:Int)]=some (J (if hK l i=true then 14 else 0)):=by
 have hlen:=an.len
 have ak:=an.b
 have ax:=Yk n l an i af aJ n 0 [] (oL.start _ _ _) (by omega)
 have Aw:=OR (fun i k ai=>jM i k ai) n 0 [] (oL.start (to l) l.length i) (by omega)
 rw [←NU l i] at Aw
 generalize sM (to l) i n 0 []=S at*
 have El:makeP 1 (J (l.length:Int)) (J (l.length:Int))=some l.length:=by simp [makeP,J];omega
 have aQ:D.aE 1 (List.replicate l.length [ar false])=iu l.length []:=by rw [Yd];rfl
 have aW:D.aE 1 [[J (i:Int)]]=cG ((i::[]).drop 0):=rfl
 have eb:ct l.length (J (i:Int))=some i:=by rw [lp,if_pos af]
 simp only [zi,TN,go_sem,al.agg,dG,El,aQ,aW,ax,EL,eb,EM af,xV]
 by_cases h:hK l i=true
 ·rw [if_pos h,if_pos (decide_eq_true (Aw.2 h))]
 ·rw [if_neg h,if_neg (by simpa using fun bp=>h (Aw.1 bp))]
theorem Ym(n:Nat)(m:al)(x:ByteArray)(aJ:m.defs.length<n)(an:m.defs.length<1000000000):xd n [m.d,aI x]=some (J (eO (cO m.defs x))):=by
 have af:=dv (f:=DC n) m.defs (fun i (_:Unit)=>[aI x,J (i:Int),a8 m.vars,aH m.defs,av m.init,av m.bk,aH m.next,av m.trans,av m.fair,bs m.specs]) (fun r _=>match cO r x with
  |some j=>(Sum.inr (J ((m.defs.length-r.length+j:Nat):Int)):List D⊕D)
  |none=> .inl []) (fun _ _=>True)
  (fun _ _=>by simp [DC,dG,cO]) ?_ n 0 () trivial (by omega) (Nat.zero_le _)
 ·have bG:(J ((0:Nat):Int))=J 0:=rfl
  rw [bG] at af
  simp only [xd,Ul,go_sem,al.agg,al.aP,al.bc,al.bm,al.bB,al.cm,al.cD,al.cE,al.cP,af,List.drop_zero]
  cases cO m.defs x<;>simp [eO]
 ·intro i a _ aA af _
  have e:m.defs.length-(a::m.defs.drop (i+1)).length=i:=by simp;omega
  have cX:m.defs.length-(m.defs.drop (i+1)).length=i+1:=by simp;omega
  have lI:cO (a::m.defs.drop (i+1)) x=if a.name=x then some 0 else(cO (m.defs.drop (i+1)) x).map (·+1):=by simp [cO,List.findIdx?_cons]
  have ab:a.cells[0]?=some (aI a.name):=rfl
  by_cases ah:a.name=x
  ·right
   rw [lI,if_pos ah,e]
   simp [DC,dG,af,eH aA,ab,ah]
  ·left
   refine ⟨(),by simp [DC,dG,af,eH aA,ab,ah,cg (bt:=false) (i:=i) (by omega)],?_,trivial⟩
   rw [lI,if_neg ah,e,cX]
   cases cO (m.defs.drop (i+1)) x with
   |none=>rfl
   |some j=>simp;omega
theorem Yn(n:Nat)(m:al)(x:ByteArray)(aJ:m.vars.length<n)(an:m.vars.length<1000000000):xc n [m.d,aI x]=some (J (eO (dN m.vars x))):=by
 have af:=dv (f:=DB n) m.vars (fun i (_:Unit)=>[aI x,J (i:Int),a8 m.vars,aH m.defs,av m.init,av m.bk,aH m.next,av m.trans,av m.fair,bs m.specs]) (fun r _=>match dN r x with
  |some j=>(Sum.inr (J ((m.vars.length-r.length+j:Nat):Int)):List D⊕D)
  |none=> .inl []) (fun _ _=>True)
  (fun _ _=>by simp [DB,fC,dN]) ?_ n 0 () trivial (by omega) (Nat.zero_le _)
 ·have bG:(J ((0:Nat):Int))=J 0:=rfl
  rw [bG] at af
  simp only [xc,Uk,go_sem,al.agg,al.aP,al.bc,al.bm,al.bB,al.cm,al.cD,al.cE,al.cP,af,List.drop_zero]
  cases dN m.vars x<;>simp [eO]
 ·intro i a _ aA af _
  have e:m.vars.length-(a::m.vars.drop (i+1)).length=i:=by simp;omega
  have cX:m.vars.length-(m.vars.drop (i+1)).length=i+1:=by simp;omega
  have lI:dN (a::m.vars.drop (i+1)) x=if a.name=x then some 0 else(dN (m.vars.drop (i+1)) x).map (·+1):=by simp [dN,List.findIdx?_cons]
  have ab:a.cells[0]?=some (aI a.name):=rfl
  by_cases ah:a.name=x
  ·right
   rw [lI,if_pos ah,e]
   simp [DB,fC,af,iN aA,ab,ah]
  ·left
   refine ⟨(),by simp [DB,fC,af,iN aA,ab,ah,cg (bt:=false) (i:=i) (by omega)],?_,trivial⟩
   rw [lI,if_neg ah,e,cX]
   cases dN (m.vars.drop (i+1)) x with
   |none=>rfl
   |some j=>simp;omega
theorem aqs(n:Nat)(m:al){B:Nat}(an:gy B m.defs)(i:Nat)(k:Int)(js:List ByteArray)(S:List Nat)(c6:hk m.defs.length S)(fX:js.length≤B)(aJ:2*B+100<n):
  bo (xg n) n [J k,ik true js,J 0,a8 m.vars,aH m.defs,av m.init,av m.bk,aH m.next,av m.trans,av m.fair,bs m.specs,iu m.defs.length S,cG (i::S)]=some (.inl [J k,a8 m.vars,aH m.defs,av m.init,av m.bk,aH m.next,av m.trans,av m.fair,bs m.specs,iu m.defs.length (gT S (js.filterMap (cO m.defs))),cG (i::gT S (js.filterMap (cO m.defs)))]):=by
 have hlen:=an.len
 have ak:=an.b
 have af:=dv (f:=xg n) js (fun j (s:List Nat)=>[J k,ik true js,J (j:Int),a8 m.vars,aH m.defs,av m.init,av m.bk,aH m.next,av m.trans,av m.fair,bs m.specs,iu m.defs.length s,cG (i::s)])
  (fun r s=>(.inl [J k,a8 m.vars,aH m.defs,av m.init,av m.bk,aH m.next,av m.trans,av m.fair,bs m.specs,iu m.defs.length (gT s (r.filterMap (cO m.defs))),cG (i::gT s (r.filterMap (cO m.defs)))]:List D⊕(List D⊕(List D⊕(List D⊕D)))))
  (fun j s=>hk m.defs.length s)
  (fun s _=>by simp only [xg,go_sem,lZ,decide_eq_false (show¬((js.length:Int)<js.length) by omega),m5,p7];rfl) ?_ n 0 S c6 (by omega) (Nat.zero_le _)
 ·exact af
 ·rintro j x s ah aF ad
  have e6:=Ym n m x (by omega) (by omega)
  have z1:=ad.len
  have eJ:=xH (nl:=true) ah
  have cM:=decide_eq_true (show((j:Int)<(js.length:Int)) by omega)
  left
  cases ay:cO m.defs x with
  |none=>
   rw [ay] at e6
   refine ⟨s,?_,by simp [ay],ad⟩
   have hP:decide (eO none≥0)=false:=rfl
   simp only [xg,go_sem,lZ,cM,eJ,Av,al.eta,e6,hP,Yh,Yi,m5,p7,cg (bt:=false) (i:=j) (by omega)]
  |some y=>
   have aT:=Yj ay
   rw [ay] at e6
   have hP:decide ((y:Int)≥0)=true:=decide_eq_true (by omega)
   have eb:ct m.defs.length (J (y:Int))=some y:=by rw [lp,if_pos aT]
   have EN:eO (some y)=(y:Int):=rfl
   by_cases lQ:y∈s
   ·refine ⟨s,?_,by simp [ay,EJ,lQ],ad⟩
    simp only [xg,go_sem,lZ,cM,eJ,Av,al.eta,e6,EN,hP,EL,eb,EM aT,xV,decide_eq_true lQ,I3,I4,m5,p7,cg (bt:=false) (i:=j) (by omega)]
   ·have ax:=ad.snoc aT lQ
    refine ⟨s++[y],?_,by simp only [List.filterMap_cons,ay,EJ,if_neg lQ],ax⟩
    have aQ:i::(s++[y])=(i::s)++[y]:=rfl
    have ea:c2 ((i::s).length+1) 8=true:=gK (by simp;omega) (by simp;omega)
    rw [aQ]
    simp only [xg,go_sem,lZ,cM,eJ,Av,al.eta,e6,EN,hP,EL,eb,EM aT,xV,decide_eq_false lQ,I3,I4,EK,List.length_cons,List.length_nil,Nat.zero_add,Yg aT,Ye,m5,p7,cg (bt:=false) (i:=j) (by omega)] at ea⊢
    simp only [ea,mL,c9,ny,mM,og,cg (bt:=false) (i:=j) (by omega),m5,p7]
theorem Yo(n:Nat)(iv:al){B:Nat}(an:gy B iv.defs)(i:Nat)(bW:i<iv.defs.length)(aJ:4*B+200<n):∀(m k:Nat) (S:List Nat),oL (to iv.defs) iv.defs.length i k S→iv.defs.length+1-k<m→
  bo (HO n) m [J (k:Int),a8 iv.vars,aH iv.defs,av iv.init,av iv.bk,aH iv.next,av iv.trans,av iv.fair,bs iv.specs,iu iv.defs.length S,cG (i::S)]=some (.inl [iu iv.defs.length (sM (to iv.defs) i m k S)])
 |0,_,_,_,h=>absurd h (Nat.not_lt_zero _)
 |m+1,k,S,h,hm=>by
  have hlen:=an.len
  have ak:=an.b
  rw [iterL_s,sM]
  have aql:=h.inv.len
  have hle:=h.le
  cases ah:(i::S)[k]? with
  |none=>
   have ai:S.length+1≤k:=by
    have:=List.getElem?_eq_none_iff.1 ah
    simpa using this
   have aW:decide ((k:Int)<(((i::S).length:Nat):Int))=false:=decide_eq_false (by simp;omega)
   simp only [HO,go_sem,EK,aW,m5]
  |some x=>
   have ai:k<S.length+1:=by
    have:=(List.getElem?_eq_some_iff.1 ah).1
    simpa using this
   have qk:x<iv.defs.length:=by
    cases k with
    |zero=>simp at ah;omega
    |succ k=>exact h.inv.2 x (List.mem_of_getElem? (by simpa using ah))
   obtain ⟨d,ay⟩:∃d,iv.defs[x]?=some d:=⟨iv.defs[x],List.getElem?_eq_getElem qk⟩
   have gn:=an.e d (List.mem_of_getElem? ay)
   have s4:=h.next (fun i k ai=>jM i k ai) ah
   have ih:=Yo n iv an i bW aJ m (k+1) _ s4 (by omega)
   have bQ:=NO n d.e (by omega) gn.1 (by omega)
   have aqm:=zX d.e
   have e0:=aqs n iv an i k (eY 3 d.e []) S h.inv (by omega) (by omega)
   have jc:(eY 3 d.e []).filterMap (cO iv.defs)=to iv.defs x:=by rw [zY ay];rfl
   rw [jc] at e0
   have s7:decide ((k:Int)<(((i::S).length:Nat):Int))=true:=decide_eq_true (by simp;omega)
   have eb:ct (i::S).length (J (k:Int))=some k:=by rw [lp,if_pos (by simpa using ai)]
   have pd:((k:Int)+1)=((k+1:Nat):Int):=by omega
   simp only [HO,go_sem,EK,s7,eb,Yf ah,Au,eH ay,a9.g3,bQ,m5,p7,e0,cg (bt:=false) (i:=k) (by omega),ih]
theorem aqt(n:Nat)(m:al){B:Nat}(an:gy B m.defs)(i:Nat)(af:i<m.defs.length)(aJ:4*B+200<n):∃S,DG n [m.d,J (i:Int)]=some (iu m.defs.length S)∧(i∈S↔hK m.defs i=true):=by
 have hlen:=an.len
 have ak:=an.b
 have ax:=Yo n m an i af aJ n 0 [] (oL.start _ _ _) (by omega)
 have Aw:=OR (fun i k ai=>jM i k ai) n 0 [] (oL.start (to m.defs) m.defs.length i) (by omega)
 rw [←NU m.defs i] at Aw
 generalize sM (to m.defs) i n 0 []=S at*
 refine ⟨S,?_,Aw⟩
 have El:makeP 1 (J (m.defs.length:Int)) (J (m.defs.length:Int))=some m.defs.length:=by simp [makeP,J];omega
 have aQ:D.aE 1 (List.replicate m.defs.length [ar false])=iu m.defs.length []:=by rw [Yd];rfl
 have aW:D.aE 1 [[J (i:Int)]]=cG (i::[]):=rfl
 have bG:(J ((0:Nat):Int))=J 0:=rfl
 rw [bG] at ax
 simp only [DG,Up,go_sem,al.agg,al.aP,al.bc,al.bm,al.bB,al.cm,al.cD,al.cE,al.cP,dG,El,aQ,aW,ax,m5]
end Go.Am
namespace Go.Am
set_option linter.unusedVariables false
set_option linter.unusedSimpArgs false
def b2(e:Nat→Int):Nat→Nat→Int×Int
 |0,_=>(0,0)
 |m+1,i=>if e i=0 then b2 e m (i+1) else((i:Int),e i)
theorem EO(e:Nat→Int):∀(m i:Nat),(b2 e m i).2=0↔∀j,i≤j→j<i+m→e j=0
 |0,i=>by simp [b2];intro j ad ae;omega
 |m+1,i=>by
  rw [b2]
  by_cases h:e i=0
  ·rw [if_pos h,EO e m (i+1)]
   constructor
   ·intro ad j ae ax
    by_cases aF:j=i
    ·subst aF;exact h
    ·exact ad j (by omega) (by omega)
   ·intro ad j ae ax;exact ad j (by omega) (by omega)
  ·rw [if_neg h]
   exact ⟨fun ad=>absurd ad h,fun ad=>absurd (ad i (Nat.le_refl _) (by omega)) h⟩
theorem p8(e:Nat→Int)(m i:Nat)(h:(b2 e m i).2=0):b2 e m i=(0,0):=by
 induction m generalizing i with
 |zero=>rfl
 |succ m ih=>
  rw [b2] at h⊢
  by_cases aq:e i=0
  ·rw [if_pos aq] at h⊢;exact ih (i+1) h
  ·rw [if_neg aq] at h;exact absurd h aq
theorem k4{dJ:Type}{f:List D→Option (List D⊕(List D⊕dJ))}(eB:Nat→List D)(e:Nat→Int)(N:Nat)(L:List D)(W:Int×Int→dJ)
  (aB:∀i,i<N→f (eB i)=some (if e i=0 then .inl (eB (i+1)) else .inr (.inr (W ((i:Int),e i))))) (he:f (eB N)=some (.inr (.inl L))):
  ∀(m i n:Nat),i+m=N→m<n→bo f n (eB i)=some (if(b2 e m i).2=0 then .inl L else .inr (W (b2 e m i)))
 |0,i,n,h,aJ=>by
  obtain ⟨k,rfl⟩:∃k,n=k+1:=⟨n-1,by omega⟩
  have:i=N:=by omega
  subst this
  rw [iterL_s,he];rfl
 |m+1,i,n,h,aJ=>by
  obtain ⟨k,rfl⟩:∃k,n=k+1:=⟨n-1,by omega⟩
  rw [iterL_s,aB i (by omega),b2]
  by_cases aq:e i=0
  ·rw [if_pos aq,if_pos aq]
   exact k4 eB e N L W aB he m (i+1) k (by omega) (by omega)
  ·rw [if_neg aq,if_neg aq]
   simp only [c9,if_neg aq]
structure I5(m:al)(n:Nat):Prop where
 ba:At m
 hL:302000000<n
 oM:m3 m.vars
 Yp:∀v∈m.vars,v.name.size+24<n
 Yq:∀d∈m.defs,d.name.size+24<n∧d.name.size≤9223372036854775807
 init:m.init.length≤100∧∀t∈m.init,t.bO∧t.ba≤12300
 bk:m.bk.length≤100∧∀t∈m.bk,t.bO∧t.ba≤12300
 next:m.next.length≤100∧∀d∈m.next,d.e.bO∧d.e.ba≤12300
 trans:m.trans.length≤100∧∀t∈m.trans,t.bO∧t.ba≤12300
 fair:m.fair.length≤100∧∀t∈m.fair,t.bO∧t.ba≤12300
 specs:m.specs.length≤100∧∀s∈m.specs,(s.f.bO∧s.f.ba≤12300)∧s.name.size+24<n∧s.name.size≤9223372036854775807
noncomputable section
mutual
def kf(m:al):Fm→Int
 | .mk o t b ks=>if o=1 then m4 m false t else k5 m ks
def k5(m:al):List Fm→Int
 |[]=>0
 |k::r=>if kf m k=0 then k5 m r else kf m k
end
theorem OS(m:al)(f:Fm):kf m f=if f.op=1 then m4 m false f.e else k5 m f.kids:=by cases f;rw [kf];rfl
def kg(m:al)(i:Nat):Int:=match m.defs[i]? with
 |some d=>if isName d.name=true then(if((dN m.vars d.name).isSome||(cO (m.defs.take i) d.name).isSome)=true then 6 else 0) else 12
 |none=>0
def kI(m:al)(i:Nat):Int:=if hK m.defs i=true then 14 else 0
def kh(m:al)(i:Nat):Int:=match m.defs[i]? with
 |some d=>(fD m false d.e).2
 |none=>0
def dY(m:al)(l:List Tm)(nx:Bool)(i:Nat):Int:=match l[i]? with
 |some t=>m4 m nx t
 |none=>0
def hU(m:al)(i:Nat):Int:=match m.next[i]? with
 |some d=>match dN m.vars d.name with
  |none=>12
  |some k=>if(cO (m.next.take i) d.name).isSome=true then 6 else if((fD m false d.e).2==0&&((fD m false d.e).1.b !=(m.vars[k]?.map V.bool).getD false))=true then 13 else(fD m false d.e).2
 |none=>0
def hV(m:al)(i:Nat):Int:=match m.specs[i]? with
 |some s=>if isName s.name=true then(if(l4 (m.specs.take i) s.name).isSome=true then 6 else if iM s.f=0 then kf m s.f else iM s.f) else 12
 |none=>0
end
theorem Yr{l:List a9}{i:Nat}(h:i≤l.length):nm 5 (aH l) none (some (J (i:Int)))=some (aH (l.take i)):=by
 rw [aH,OH (by simpa using h)]
 simp [aH,List.map_take]
theorem aqu{l:List cj}{i:Nat}(h:i≤l.length):nm 7 (bs l) none (some (J (i:Int)))=some (bs (l.take i)):=by
 rw [bs,OH (by simpa using h)]
 simp [bs,List.map_take]
theorem Ys{m:al}(hm:At m):∀(n:Nat) (f:Fm),301000000+f.ba<n→f.bO→f.ba≤12300→qV n [m.d,f.d]=some (J (kf m f))
 |0,_,h,_,_=>absurd h (Nat.not_lt_zero _)
 |n+1,f,aJ,a7,aB=>by
  have Iv:=f.vH
  have jC:=f.hh
  rw [OS]
  have a0:=Yb hm n (by omega) a7.e (by omega) false
  have hlen:lenP (bM 6 f.nl (Fm.rows f.kids))=some (J f.kids.length):=by simp
  have an:=dv (f:=CO (qV n) n) f.kids (fun i (_:Unit)=>[bM 6 f.nl (Fm.rows f.kids),J f.kids.length,J (i:Int),a8 m.vars,aH m.defs,av m.init,av m.bk,aH m.next,av m.trans,av m.fair,bs m.specs])
   (fun r _=>if k5 m r=0 then(.inl []:List D⊕D) else .inr (J (k5 m r))) (fun _ _=>True) ?_ ?_ n 0 () trivial (by have:=f.hh;omega) (Nat.zero_le _)
  ·have bG:(J ((0:Nat):Int))=J 0:=rfl
   rw [bG,List.drop_zero] at an
   show CP (qV n) n m.d f.d=_
   by_cases ad:f.op=1
   ·have c3:(f.op==1)=true:=by simp [ad]
    simp only [CP,go_sem,al.agg,c3,if_pos ad,al.aP,al.bc,al.bm,al.bB,al.cm,al.cD,al.cE,al.cP,al.eta,a0]
   ·have c3:(f.op==1)=false:=by simpa using ad
    simp only [CP,go_sem,al.agg,c3,if_neg ad,al.aP,al.bc,al.bm,al.bB,al.cm,al.cD,al.cE,al.cP,al.eta,hlen,an]
    by_cases aq:k5 m f.kids=0
    ·rw [if_pos aq,aq,ny]
    ·rw [if_neg aq,BD]
  ·intro _ _
   simp only [CO,go_sem,decide_eq_false (show¬((f.kids.length:Int)<f.kids.length) by omega),k5]
  ·intro i a _ aA af _
   have jP:=List.mem_of_getElem? aA
   have bz:=Fm.ga jP
   have au:=Ys hm n a (by omega) (a7.dM jP) (by omega)
   have cM:=decide_eq_true (show((i:Int)<(f.kids.length:Int)) by omega)
   by_cases aq:kf m a=0
   ·left
    rw [aq] at au
    refine ⟨(),?_,by simp only [k5,aq,if_true],trivial⟩
    have bz:((0:Int) !=0)=false:=rfl
    simp only [CO,go_sem,cM,Fm.eC aA,al.eta,au,bz,cg (bt:=false) (i:=i) (by omega)]
   ·right
    have bz:(kf m a !=0)=true:=by simpa using aq
    simp only [CO,go_sem,cM,Fm.eC aA,al.eta,au,bz,k5,if_neg aq]
theorem Yt{m:al}(hm:At m):∀(n:Nat) (f:Fm),301000000+f.ba<n→f.bO→f.ba≤12300→q4 n [m.d,f.d]=some (J (kf m f))
 |0,_,h,_,_=>absurd h (Nat.not_lt_zero _)
 |n+1,f,aJ,a7,aB=>by
  have Iv:=f.vH
  have jC:=f.hh
  rw [OS]
  have a0:=Yc hm n (by omega) a7.e (by omega) false
  have hlen:lenP (bM 6 f.nl (Fm.rows f.kids))=some (J f.kids.length):=by simp
  have an:=dv (f:=DZ (q4 n) n) f.kids (fun i (_:Unit)=>[J (i:Int),a8 m.vars,aH m.defs,av m.init,av m.bk,aH m.next,av m.trans,av m.fair,bs m.specs,J f.op,J f.e.op,J f.e.num,aI f.e.name,bM 4 f.e.nl (Tm.rows f.e.kids),bM 6 f.nl (Fm.rows f.kids)])
   (fun r _=>if k5 m r=0 then(.inl []:List D⊕D) else .inr (J (k5 m r))) (fun _ _=>True) ?_ ?_ n 0 () trivial (by have:=f.hh;omega) (Nat.zero_le _)
  ·have bG:(J ((0:Nat):Int))=J 0:=rfl
   rw [bG,List.drop_zero] at an
   show D0 (q4 n) n m.d f.d=_
   by_cases ad:f.op=1
   ·have c3:(f.op==1)=true:=by simp [ad]
    simp only [D0,go_sem,al.agg,c3,if_pos ad,al.aP,al.bc,al.bm,al.bB,al.cm,al.cD,al.cE,al.cP,al.eta,a0]
   ·have c3:(f.op==1)=false:=by simpa using ad
    simp only [D0,go_sem,al.agg,c3,if_neg ad,al.aP,al.bc,al.bm,al.bB,al.cm,al.cD,al.cE,al.cP,al.eta,hlen,an]
    by_cases aq:k5 m f.kids=0
    ·rw [if_pos aq,aq,ny]
    ·rw [if_neg aq,BD]
  ·intro _ _
   simp only [DZ,go_sem,hlen,decide_eq_false (show¬((f.kids.length:Int)<f.kids.length) by omega),k5]
  ·intro i a _ aA af _
   have jP:=List.mem_of_getElem? aA
   have bz:=Fm.ga jP
   have au:=Yt hm n a (by omega) (a7.dM jP) (by omega)
   have cM:=decide_eq_true (show((i:Int)<(f.kids.length:Int)) by omega)
   by_cases aq:kf m a=0
   ·left
    rw [aq] at au
    refine ⟨(),?_,by simp only [k5,aq,if_true],trivial⟩
    have bz:((0:Int) !=0)=false:=rfl
    simp only [DZ,go_sem,hlen,cM,Fm.eC aA,al.eta,au,bz,cg (bt:=false) (i:=i) (by omega)]
   ·right
    have bz:(kf m a !=0)=true:=by simpa using aq
    simp only [DZ,go_sem,hlen,cM,Fm.eC aA,al.eta,au,bz,k5,if_neg aq]
section
variable{m:al}{n:Nat}(hm:I5 m n)
include hm
theorem aqv(i:Nat)(af:i<m.defs.length):sh n [aH m.defs,m.d,J (i:Int)]=some (J (kg m i)):=by
 have ak:=hm.hL
 have yg:=hm.ba.dl
 have jq:=hm.ba.jO
 obtain ⟨d,ay⟩:∃d,m.defs[i]?=some d:=⟨m.defs[i],List.getElem?_eq_getElem af⟩
 have OT:=hm.Yq d (List.mem_of_getElem? ay)
 have bQ:=OF n d.name (by omega) OT.2
 have fA:=apZ n m.vars d.name (by omega) (by omega)
 have cu:=ap2 n (m.defs.take i) d.name (by simp;omega) (by simp;omega)
 have aB:=Yr (l:=m.defs) (i:=i) (by omega)
 simp only [kg,ay]
 cases ad:isName d.name with
 |false=>simp only [sh,C6,go_sem,al.agg,eH ay,a9.fJ,bQ,ad]
 |true=>
  cases ae:(dN m.vars d.name).isSome with
  |true=>simp only [sh,C6,go_sem,al.agg,al.aP,eH ay,a9.fJ,bQ,ad,fA,ae]
  |false=>
   cases ax:(cO (m.defs.take i) d.name).isSome with
   |true=>simp only [sh,C6,go_sem,al.agg,al.aP,eH ay,a9.fJ,bQ,ad,fA,ae,aB,cu,ax,Bool.or_false,Bool.false_or]
   |false=>simp only [sh,C6,go_sem,al.agg,al.aP,eH ay,a9.fJ,bQ,ad,fA,ae,aB,cu,ax,Bool.or_false,Bool.false_or]
theorem aqw(i:Nat)(af:i<m.defs.length):zh n [aH m.defs,m.d,J (i:Int)]=some (J (kh m i)):=by
 have ak:=hm.hL
 obtain ⟨d,ay⟩:∃d,m.defs[i]?=some d:=⟨m.defs[i],List.getElem?_eq_getElem af⟩
 have gn:=hm.ba.d.e d (List.mem_of_getElem? ay)
 have a0:=OP hm.ba n (by omega) gn.1 gn.2 false
 simp only [kh,ay]
 simp only [zh,TL,go_sem,al.agg,al.aP,al.bc,al.bm,al.bB,al.cm,al.cD,al.cE,al.cP,al.eta,eH ay,a9.g3,a0,kH]
theorem aqx(l:List Tm)(an:∀t∈l,t.bO∧t.ba≤12300)(k:Int)(nx:Bool)(i:Nat)(af:i<l.length):zg n [.agg [J k,av l,ar nx],m.d,J (i:Int)]=some (J (dY m l nx i)):=by
 have ak:=hm.hL
 obtain ⟨t,aG⟩:∃t,l[i]?=some t:=⟨l[i],List.getElem?_eq_getElem af⟩
 have EP:=an t (List.mem_of_getElem? aG)
 have a0:=Yb hm.ba n (by omega) EP.1 EP.2 nx
 have aA:aK 3 (.agg [J k,av l,ar nx])=true:=rfl
 have bc:aa (.agg [J k,av l,ar nx]) 1=av l:=rfl
 have bm:aa (.agg [J k,av l,ar nx]) 2=ar nx:=rfl
 simp only [dY,aG]
 simp only [zg,TK,go_sem,aA,bc,bm,al.agg,al.aP,al.bc,al.bm,al.bB,al.cm,al.cD,al.cE,al.cP,al.eta,sJ aG,a0]
theorem aqy(i:Nat)(af:i<m.next.length):tS n [aH m.next,m.d,J (i:Int)]=some (J (hU m i)):=by
 have ak:=hm.hL
 have qE:=hm.next.1
 have jq:=hm.ba.jO
 obtain ⟨d,ay⟩:∃d,m.next[i]?=some d:=⟨m.next[i],List.getElem?_eq_getElem af⟩
 have gn:=hm.next.2 d (List.mem_of_getElem? ay)
 have a0:=OP hm.ba n (by omega) gn.1 gn.2 false
 have fA:=ap4 n m.vars d.name (by omega) (by omega)
 have cu:=ap7 n (m.next.take i) d.name (by simp;omega) (by simp;omega)
 have aB:=Yr (l:=m.next) (i:=i) (by omega)
 simp only [hU,ay]
 cases ad:dN m.vars d.name with
 |none=>
  have aq:decide (eO none<0)=true:=rfl
  simp only [tS,He,go_sem,al.agg,al.aP,eH ay,a9.fJ,fA,ad,aq]
 |some k=>
  have aq:decide (eO (some k)<0)=false:=by rw [XY];rfl
  have jC:k<m.vars.length:=by
   have:=List.findIdx?_eq_some_iff_getElem.1 ad
   exact this.1
  obtain ⟨v,aM⟩:∃v,m.vars[k]?=some v:=⟨m.vars[k],List.getElem?_eq_getElem jC⟩
  have jw:a3 4 (a8 m.vars) (J (eO (some k)))=some v.cells:=iN aM
  have vE:aX false 1 1 v.cells=some (ar v.bool):=rfl
  simp only [aM,Option.map_some,Option.getD_some]
  cases ax:(cO (m.next.take i) d.name).isSome with
  |true=>simp only [tS,He,go_sem,al.agg,al.aP,eH ay,a9.fJ,fA,ad,aq,aB,cu,ax]
  |false=>
   generalize fD m false d.e=y at*
   have cc:binP true .neq (ar y.1.b) (ar v.bool)=some (ar (y.1.b !=v.bool)):=rfl
   simp only [tS,He,go_sem,al.agg,al.aP,al.bc,al.bm,al.bB,al.cm,al.cD,al.cE,al.cP,al.eta,eH ay,a9.fJ,a9.g3,fA,ad,aq,aB,cu,ax,a0,kH,l5,jw,vE,cc]
   by_cases aj:(y.2==0&&(y.1.b !=v.bool))=true
   ·rw [if_pos aj,if_pos aj]
   ·rw [if_neg aj,if_neg aj]
theorem aqz(i:Nat)(af:i<m.specs.length):sf n [bs m.specs,m.d,J (i:Int)]=some (J (hV m i)):=by
 have ak:=hm.hL
 have z1:=hm.specs.1
 obtain ⟨s,aB⟩:∃s,m.specs[i]?=some s:=⟨m.specs[i],List.getElem?_eq_getElem af⟩
 obtain ⟨⟨a4,GF⟩,aqA,OU⟩:=hm.specs.2 s (List.mem_of_getElem? aB)
 have bQ:=OF n s.name (by omega) OU
 have cu:=aqc n (m.specs.take i) s.name (by simp;omega) (by simp;omega)
 have lY:=aqu (l:=m.specs) (i:=i) (by omega)
 have bV:=Ix n s.f (by omega) a4 (by omega)
 have jd:=Ys hm.ba n s.f (by omega) a4 GF
 simp only [hV,aB]
 cases ad:isName s.name with
 |false=>simp only [sf,CQ,go_sem,al.agg,kG aB,cj.fJ,bQ,ad]
 |true=>
  cases ax:(l4 (m.specs.take i) s.name).isSome with
  |true=>simp only [sf,CQ,go_sem,al.agg,kG aB,cj.fJ,bQ,ad,lY,cu,ax]
  |false=>
   by_cases aZ:iM s.f=0
   ·have jD:(iM s.f !=0)=false:=by simp [aZ]
    simp only [sf,CQ,go_sem,al.agg,al.aP,al.bc,al.bm,al.bB,al.cm,al.cD,al.cE,al.cP,al.eta,kG aB,cj.fJ,cj.g3,bQ,ad,lY,cu,ax,bV,jD,if_pos aZ,jd]
   ·have jD:(iM s.f !=0)=true:=by simpa using aZ
    simp only [sf,CQ,go_sem,al.agg,al.aP,al.bc,al.bm,al.bB,al.cm,al.cD,al.cE,al.cP,al.eta,kG aB,cj.fJ,cj.g3,bQ,ad,lY,cu,ax,bV,jD,if_neg aZ]
end
end Go.Am
namespace Go.Am
set_option linter.unusedVariables false
set_option linter.unusedSimpArgs false
def eR(p:Int×Int):D:= .aL [J p.1,J p.2]
def sN(a b:Int×Int):Int×Int:=if a.2=0 then b else a
theorem findIdx_take{α:Type}{l:List α}{p:α→Bool}{i:Nat}{d:α}(ay:l[i]?=some d)(aV:p d=true):decide (eO (l.findIdx? p)<(i:Int))=((l.take i).findIdx? p).isSome:=by
 obtain ⟨af,aqB⟩:=List.getElem?_eq_some_iff.1 ay
 cases h:l.findIdx? p with
 |none=>
  have:=List.findIdx?_eq_none_iff.1 h d (List.mem_of_getElem? ay)
  rw [aV] at this;cases this
 |some k=>
  obtain ⟨ai,aqC,yi⟩:=List.findIdx?_eq_some_iff_getElem.1 h
  rw [List.findIdx?_isSome]
  have o1:k≤i:=by
   rcases Nat.lt_or_ge i k with ad|ad
   ·have:=yi i ad;rw [aqB] at this;exact absurd aV this
   ·exact ad
  by_cases he:k<i
  ·have ad:decide (eO (some k)<(i:Int))=true:=decide_eq_true (by show(k:Int)<(i:Int);omega)
   rw [ad];symm
   rw [List.any_eq_true]
   refine ⟨l[k],List.mem_iff_getElem?.2 ⟨k,?_⟩,aqC⟩
   rw [List.getElem?_take_of_lt he];exact List.getElem?_eq_getElem ai
  ·have ad:decide (eO (some k)<(i:Int))=false:=decide_eq_false (by show¬(k:Int)<(i:Int);omega)
   rw [ad];symm
   rw [Bool.eq_false_iff,ne_eq,List.any_eq_true]
   rintro ⟨a,aA,aqD⟩
   obtain ⟨j,aF⟩:=List.mem_iff_getElem?.1 aA
   have cM:=(List.getElem?_eq_some_iff.1 aF).1
   simp only [List.length_take] at cM
   rw [List.getElem?_take_of_lt (by omega)] at aF
   obtain ⟨avf,aqE⟩:=List.getElem?_eq_some_iff.1 aF
   have:=yi j (by omega)
   rw [aqE] at this;exact this aqD
noncomputable def p9(m:al):Int×Int:=sN (b2 (kg m) m.defs.length 0) (sN (b2 (kI m) m.defs.length 0) (b2 (kh m) m.defs.length 0))
section
variable{m:al}{n:Nat}(hm:I5 m n)
include hm
theorem aqF:bo (xn n) n [J 0,a8 m.vars,aH m.defs,av m.init,av m.bk,aH m.next,av m.trans,av m.fair,bs m.specs]=some (if(b2 (kg m) m.defs.length 0).2=0 then .inl [a8 m.vars,aH m.defs,av m.init,av m.bk,aH m.next,av m.trans,av m.fair,bs m.specs] else .inr (eR (b2 (kg m) m.defs.length 0))):=by
 have ak:=hm.hL
 have yg:=hm.ba.dl
 have jq:=hm.ba.jO
 refine k4 (fun i=>[J (i:Int),a8 m.vars,aH m.defs,av m.init,av m.bk,aH m.next,av m.trans,av m.fair,bs m.specs]) (kg m) m.defs.length _ eR ?_ ?_ _ 0 n (by omega) (by omega)
 ·intro i af
  obtain ⟨d,ay⟩:∃d,m.defs[i]?=some d:=⟨m.defs[i],List.getElem?_eq_getElem af⟩
  have OT:=hm.Yq d (List.mem_of_getElem? ay)
  have bQ:=OG n d.name (by omega) OT.2
  have fA:=Yn n m d.name (by omega) (by omega)
  have cu:=Ym n m d.name (by omega) (by omega)
  have bW:=decide_eq_true (show((i:Int)<(m.defs.length:Int)) by omega)
  have ER:=findIdx_take (p:=fun e:a9=>decide (e.name=d.name)) ay (by simp)
  change decide (eO (cO m.defs d.name)<(i:Int))=(cO (m.defs.take i) d.name).isSome at ER
  simp only [kg,ay]
  cases ad:isName d.name with
  |false=>simp only [xn,go_sem,dG,bW,eH ay,a9.fJ,bQ,ad,if_neg (show¬(12:Int)=0 by decide),eR]
  |true=>
   cases ae:(dN m.vars d.name).isSome with
   |true=>
    have hP:=uF (dN m.vars d.name)
    rw [ae] at hP
    simp only [xn,go_sem,dG,bW,eH ay,a9.fJ,bQ,ad,al.eta,fA,hP,rX,if_neg (show¬(true=false) by decide),rY,if_neg (show¬(6:Int)=0 by decide),eR]
   |false=>
    have hP:=uF (dN m.vars d.name)
    rw [ae] at hP
    cases ax:(cO (m.defs.take i) d.name).isSome with
    |true=>
     rw [ax] at ER
     simp only [xn,go_sem,dG,bW,eH ay,a9.fJ,bQ,ad,al.eta,fA,hP,rX,cu,ER,rY,if_neg (show¬(6:Int)=0 by decide),eR,Bool.or_true]
    |false=>
     rw [ax] at ER
     simp only [xn,go_sem,dG,bW,eH ay,a9.fJ,bQ,ad,al.eta,fA,hP,rX,cu,ER,rY,Bool.or_false,cg (bt:=false) (i:=i) (by omega)]
 ·simp only [xn,go_sem,dG,decide_eq_false (show¬((m.defs.length:Int)<m.defs.length) by omega)]
theorem aqG:bo (DU n) n [J 0,a8 m.vars,aH m.defs,av m.init,av m.bk,aH m.next,av m.trans,av m.fair,bs m.specs]=some (if(b2 (kI m) m.defs.length 0).2=0 then .inl [a8 m.vars,aH m.defs,av m.init,av m.bk,aH m.next,av m.trans,av m.fair,bs m.specs] else .inr (eR (b2 (kI m) m.defs.length 0))):=by
 have ak:=hm.hL
 have yg:=hm.ba.dl
 refine k4 (fun i=>[J (i:Int),a8 m.vars,aH m.defs,av m.init,av m.bk,aH m.next,av m.trans,av m.fair,bs m.specs]) (kI m) m.defs.length _ eR ?_ ?_ _ 0 n (by omega) (by omega)
 ·intro i af
  obtain ⟨S,c6,Yu⟩:=aqt n m hm.ba.d i af (by omega)
  have bW:=decide_eq_true (show((i:Int)<(m.defs.length:Int)) by omega)
  have ah:a3 1 (iu m.defs.length S) (J (i:Int))=some [ar (decide (i∈S))]:=by
   rw [iu,SC,EI af]
  cases ad:hK m.defs i with
  |true=>
   have ae:=decide_eq_true (Yu.2 ad)
   simp only [DU,go_sem,dG,bW,al.eta,c6,ah,xV,ae,kI,ad,if_neg (show¬(14:Int)=0 by decide),eR]
  |false=>
   have ae:=decide_eq_false (show¬i∈S from fun h=>by rw [Yu.1 h] at ad;cases ad)
   simp only [DU,go_sem,dG,bW,al.eta,c6,ah,xV,ae,kI,ad,cg (bt:=false) (i:=i) (by omega)]
 ·simp only [DU,go_sem,dG,decide_eq_false (show¬((m.defs.length:Int)<m.defs.length) by omega)]
theorem aqH:bo (DV n) n [J 0,a8 m.vars,aH m.defs,av m.init,av m.bk,aH m.next,av m.trans,av m.fair,bs m.specs]=some (if(b2 (kh m) m.defs.length 0).2=0 then .inl [] else .inr (eR (b2 (kh m) m.defs.length 0))):=by
 have ak:=hm.hL
 have yg:=hm.ba.dl
 refine k4 (fun i=>[J (i:Int),a8 m.vars,aH m.defs,av m.init,av m.bk,aH m.next,av m.trans,av m.fair,bs m.specs]) (kh m) m.defs.length _ eR ?_ ?_ _ 0 n (by omega) (by omega)
 ·intro i af
  obtain ⟨d,ay⟩:∃d,m.defs[i]?=some d:=⟨m.defs[i],List.getElem?_eq_getElem af⟩
  have gn:=hm.ba.d.e d (List.mem_of_getElem? ay)
  have a0:=OQ hm.ba n (by omega) gn.1 gn.2 false
  have bW:=decide_eq_true (show((i:Int)<(m.defs.length:Int)) by omega)
  simp only [kh,ay]
  by_cases ad:(fD m false d.e).2=0
  ·have c3:((fD m false d.e).2 !=0)=false:=by simp [ad]
   simp only [DV,go_sem,dG,bW,al.eta,eH ay,a9.g3,a0,kH,c3,if_pos ad,cg (bt:=false) (i:=i) (by omega)]
  ·have c3:((fD m false d.e).2 !=0)=true:=by simpa using ad
   simp only [DV,go_sem,dG,bW,al.eta,eH ay,a9.g3,a0,kH,c3,if_neg ad,eR]
 ·simp only [DV,go_sem,dG,decide_eq_false (show¬((m.defs.length:Int)<m.defs.length) by omega)]
theorem aqI:uc n [m.d]=some (eR (p9 m)):=by
 have ae:=aqF hm
 have iZ:=aqG hm
 have oH:=aqH hm
 have bz:∀e k,(b2 e k 0).2=0→b2 e k 0=(0,0):=fun e k=>p8 e k 0
 unfold p9 sN
 by_cases bc:(b2 (kg m) m.defs.length 0).2=0
 case neg=>
  rw [if_neg bc] at ae⊢
  simp only [uc,DW,go_sem,al.agg,al.aP,al.bc,al.bm,al.bB,al.cm,al.cD,al.cE,al.cP,ae]
 rw [if_pos bc] at ae⊢
 by_cases bm:(b2 (kI m) m.defs.length 0).2=0
 case neg=>
  rw [if_neg bm] at iZ⊢
  simp only [uc,DW,go_sem,al.agg,al.aP,al.bc,al.bm,al.bB,al.cm,al.cD,al.cE,al.cP,ae,iZ]
 rw [if_pos bm] at iZ⊢
 by_cases bB:(b2 (kh m) m.defs.length 0).2=0
 ·rw [if_pos bB] at oH
  rw [bz _ _ bB]
  simp only [uc,DW,go_sem,al.agg,al.aP,al.bc,al.bm,al.bB,al.cm,al.cD,al.cE,al.cP,ae,iZ,oH,eR]
 ·rw [if_neg bB] at oH
  simp only [uc,DW,go_sem,al.agg,al.aP,al.bc,al.bm,al.bB,al.cm,al.cD,al.cE,al.cP,ae,iZ,oH]
theorem I6(l:List Tm)(an:l.length≤100∧∀t∈l,t.bO∧t.ba≤12300)(nx:Bool):sx n [m.d,av l,ar nx]=some (eR (b2 (dY m l nx) l.length 0)):=by
 have ak:=hm.hL
 have af:=k4 (f:=DX n) (fun i=>[av l,ar nx,J (i:Int),a8 m.vars,aH m.defs,av m.init,av m.bk,aH m.next,av m.trans,av m.fair,bs m.specs]) (dY m l nx) l.length [] eR ?_ ?_ l.length 0 n (by omega) (by omega)
 ·have bG:(J ((0:Nat):Int))=J 0:=rfl
  rw [bG] at af
  by_cases c:(b2 (dY m l nx) l.length 0).2=0
  ·rw [if_pos c] at af
   rw [p8 _ _ _ c]
   simp only [sx,Nn,go_sem,al.agg,al.aP,al.bc,al.bm,al.bB,al.cm,al.cD,al.cE,al.cP,af,eR]
  ·rw [if_neg c] at af
   simp only [sx,Nn,go_sem,al.agg,al.aP,al.bc,al.bm,al.bB,al.cm,al.cD,al.cE,al.cP,af]
 ·intro i af
  obtain ⟨t,aG⟩:∃t,l[i]?=some t:=⟨l[i],List.getElem?_eq_getElem af⟩
  have EP:=an.2 t (List.mem_of_getElem? aG)
  have a0:=Yc hm.ba n (by omega) EP.1 EP.2 nx
  have bW:=decide_eq_true (show((i:Int)<(l.length:Int)) by omega)
  simp only [dY,aG]
  by_cases ad:m4 m nx t=0
  ·have c3:(m4 m nx t !=0)=false:=by simp [ad]
   simp only [DX,go_sem,hy,bW,al.eta,sJ aG,a0,c3,if_pos ad,cg (bt:=false) (i:=i) (by have:=an.1;omega)]
  ·have c3:(m4 m nx t !=0)=true:=by simpa using ad
   simp only [DX,go_sem,hy,bW,al.eta,sJ aG,a0,c3,if_neg ad,eR]
 ·simp only [DX,go_sem,hy,decide_eq_false (show¬((l.length:Int)<l.length) by omega)]
theorem aqJ(i:Nat)(k:Int){d:a9}(ay:m.next[i]?=some d):bo (zG n) n [J (i:Int),J k,J 0,a8 m.vars,aH m.defs,av m.init,av m.bk,aH m.next,av m.trans,av m.fair,bs m.specs]=some (if(cO (m.next.take i) d.name).isSome=true then .inr (.inr (.inr (.inr (.aL [J (i:Int),J 6])))) else .inl [J (i:Int),J k,a8 m.vars,aH m.defs,av m.init,av m.bk,aH m.next,av m.trans,av m.fair,bs m.specs]):=by
 have ak:=hm.hL
 have qE:=hm.next.1
 have bW:=(List.getElem?_eq_some_iff.1 ay).1
 have bP:(m.next.take i).length=i:=by simp;omega
 have af:=dv (f:=zG n) (m.next.take i) (fun j (_:Unit)=>[J (i:Int),J k,J (j:Int),a8 m.vars,aH m.defs,av m.init,av m.bk,aH m.next,av m.trans,av m.fair,bs m.specs])
  (fun r _=>(if(cO r d.name).isSome=true then .inr (.inr (.inr (.inr (.aL [J (i:Int),J 6])))) else .inl [J (i:Int),J k,a8 m.vars,aH m.defs,av m.init,av m.bk,aH m.next,av m.trans,av m.fair,bs m.specs]:List D⊕(List D⊕(List D⊕(List D⊕D))))) (fun _ _=>True)
  (fun _ _=>by rw [bP];simp only [zG,go_sem,decide_eq_false (show¬((i:Int)<i) by omega)];rfl) ?_ n 0 () trivial (by omega) (Nat.zero_le _)
 ·exact af
 ·intro j a _ aA aF _
  rw [bP] at aF
  rw [List.getElem?_take_of_lt aF] at aA
  have cM:=decide_eq_true (show((j:Int)<(i:Int)) by omega)
  have aj:cO (a::(m.next.take i).drop (j+1)) d.name=if decide (a.name=d.name)=true then some 0 else(cO ((m.next.take i).drop (j+1)) d.name).map (·+1):=findIdx_cons _ a _
  rw [aj]
  by_cases h:a.name=d.name
  ·right
   rw [if_pos (decide_eq_true h)]
   simp only [zG,go_sem,cM,eH aA,eH ay,a9.fJ,decide_eq_true h,Option.isSome_some]
  ·left
   refine ⟨(),?_,?_,trivial⟩
   ·simp only [zG,go_sem,cM,eH aA,eH ay,a9.fJ,decide_eq_false h,cg (bt:=false) (i:=j) (by omega)]
   ·have bh:¬(decide (a.name=d.name)=true):=by simpa using h
    rw [if_neg bh,Option.isSome_map]
theorem aqK(i:Nat){d:cj}(ay:m.specs[i]?=some d):bo (zK n) n [J (i:Int),J 0,a8 m.vars,aH m.defs,av m.init,av m.bk,aH m.next,av m.trans,av m.fair,bs m.specs]=some (if(l4 (m.specs.take i) d.name).isSome=true then .inr (.inr (.inr (.inr (.aL [J (i:Int),J 6])))) else .inl [J (i:Int),a8 m.vars,aH m.defs,av m.init,av m.bk,aH m.next,av m.trans,av m.fair,bs m.specs]):=by
 have ak:=hm.hL
 have qE:=hm.specs.1
 have bW:=(List.getElem?_eq_some_iff.1 ay).1
 have bP:(m.specs.take i).length=i:=by simp;omega
 have af:=dv (f:=zK n) (m.specs.take i) (fun j (_:Unit)=>[J (i:Int),J (j:Int),a8 m.vars,aH m.defs,av m.init,av m.bk,aH m.next,av m.trans,av m.fair,bs m.specs])
  (fun r _=>(if(l4 r d.name).isSome=true then .inr (.inr (.inr (.inr (.aL [J (i:Int),J 6])))) else .inl [J (i:Int),a8 m.vars,aH m.defs,av m.init,av m.bk,aH m.next,av m.trans,av m.fair,bs m.specs]:List D⊕(List D⊕(List D⊕(List D⊕D))))) (fun _ _=>True)
  (fun _ _=>by rw [bP];simp only [zK,go_sem,decide_eq_false (show¬((i:Int)<i) by omega)];rfl) ?_ n 0 () trivial (by omega) (Nat.zero_le _)
 ·exact af
 ·intro j a _ aA aF _
  rw [bP] at aF
  rw [List.getElem?_take_of_lt aF] at aA
  have cM:=decide_eq_true (show((j:Int)<(i:Int)) by omega)
  have aj:l4 (a::(m.specs.take i).drop (j+1)) d.name=if decide (a.name=d.name)=true then some 0 else(l4 ((m.specs.take i).drop (j+1)) d.name).map (·+1):=findIdx_cons _ a _
  rw [aj]
  by_cases h:a.name=d.name
  ·right
   rw [if_pos (decide_eq_true h)]
   simp only [zK,go_sem,cM,kG aA,kG ay,cj.fJ,decide_eq_true h,Option.isSome_some]
  ·left
   refine ⟨(),?_,?_,trivial⟩
   ·simp only [zK,go_sem,cM,kG aA,kG ay,cj.fJ,decide_eq_false h,cg (bt:=false) (i:=j) (by omega)]
   ·have bh:¬(decide (a.name=d.name)=true):=by simpa using h
    rw [if_neg bh,Option.isSome_map]
theorem aqL:zH n [m.d]=some (eR (b2 (hU m) m.next.length 0)):=by
 have ak:=hm.hL
 have qE:=hm.next.1
 have jq:=hm.ba.jO
 have af:=k4 (f:=ue n) (fun i=>[J (i:Int),a8 m.vars,aH m.defs,av m.init,av m.bk,aH m.next,av m.trans,av m.fair,bs m.specs]) (hU m) m.next.length [] eR ?_ ?_ m.next.length 0 n (by omega) (by omega)
 ·have bG:(J ((0:Nat):Int))=J 0:=rfl
  rw [bG] at af
  by_cases c:(b2 (hU m) m.next.length 0).2=0
  ·rw [if_pos c] at af
   rw [p8 _ _ _ c]
   simp only [zH,No,go_sem,al.agg,al.aP,al.bc,al.bm,al.bB,al.cm,al.cD,al.cE,al.cP,af,eR]
  ·rw [if_neg c] at af
   simp only [zH,No,go_sem,al.agg,al.aP,al.bc,al.bm,al.bB,al.cm,al.cD,al.cE,al.cP,af]
 ·intro i af
  obtain ⟨d,ay⟩:∃d,m.next[i]?=some d:=⟨m.next[i],List.getElem?_eq_getElem af⟩
  have gn:=hm.next.2 d (List.mem_of_getElem? ay)
  have a0:=OQ hm.ba n (by omega) gn.1 gn.2 false
  have fA:=Yn n m d.name (by omega) (by omega)
  have bW:=decide_eq_true (show((i:Int)<(m.next.length:Int)) by omega)
  simp only [hU,ay]
  cases ad:dN m.vars d.name with
  |none=>
   rw [ad] at fA
   have aq:decide (eO none<0)=true:=rfl
   simp only [ue,go_sem,dG,bW,al.eta,eH ay,a9.fJ,fA,aq,if_neg (show¬(12:Int)=0 by decide),eR]
  |some k=>
   rw [ad] at fA
   have hR:=aqJ hm i (eO (some k)) ay
   have aq:decide (eO (some k)<0)=false:=by rw [XY];rfl
   have jC:k<m.vars.length:=by
    have:=List.findIdx?_eq_some_iff_getElem.1 ad
    exact this.1
   obtain ⟨v,aM⟩:∃v,m.vars[k]?=some v:=⟨m.vars[k],List.getElem?_eq_getElem jC⟩
   have jw:a3 4 (a8 m.vars) (J (eO (some k)))=some v.cells:=iN aM
   have vE:aX false 1 1 v.cells=some (ar v.bool):=rfl
   simp only [aM,Option.map_some,Option.getD_some]
   cases ax:(cO (m.next.take i) d.name).isSome with
   |true=>
    rw [ax,if_pos rfl] at hR
    simp only [ue,go_sem,dG,bW,al.eta,eH ay,a9.fJ,fA,aq,hR,if_neg (show¬(6:Int)=0 by decide),eR]
   |false=>
    rw [ax,if_neg (by decide)] at hR
    generalize fD m false d.e=y at*
    have cc:binP true .neq (ar y.1.b) (ar v.bool)=some (ar (y.1.b !=v.bool)):=rfl
    have lA:((13:Int) !=0)=true:=rfl
    by_cases aj:(y.2==0&&(y.1.b !=v.bool))=true
    ·simp only [ue,go_sem,dG,bW,al.eta,eH ay,a9.fJ,a9.g3,fA,aq,hR,a0,kH,l5,jw,vE,cc,aj,lA,if_neg (show¬(13:Int)=0 by decide),eR]
    ·have c4:(y.2==0&&(y.1.b !=v.bool))=false:=by simpa using aj
     by_cases aT:y.2=0
     ·have rC:(y.2 !=0)=false:=by simp [aT]
      simp only [ue,go_sem,dG,bW,al.eta,eH ay,a9.fJ,a9.g3,fA,aq,hR,a0,kH,l5,jw,vE,cc,c4,rC,if_pos aT,cg (bt:=false) (i:=i) (by omega)]
     ·have rC:(y.2 !=0)=true:=by simpa using aT
      simp only [ue,go_sem,dG,bW,al.eta,eH ay,a9.fJ,a9.g3,fA,aq,hR,a0,kH,l5,jw,vE,cc,c4,rC,if_neg aT,eR]
 ·simp only [ue,go_sem,dG,decide_eq_false (show¬((m.next.length:Int)<m.next.length) by omega)]
theorem aqM:zL n [m.d]=some (eR (b2 (hV m) m.specs.length 0)):=by
 have ak:=hm.hL
 have z1:=hm.specs.1
 have af:=k4 (f:=uf n) (fun i=>[J (i:Int),a8 m.vars,aH m.defs,av m.init,av m.bk,aH m.next,av m.trans,av m.fair,bs m.specs]) (hV m) m.specs.length [] eR ?_ ?_ m.specs.length 0 n (by omega) (by omega)
 ·have bG:(J ((0:Nat):Int))=J 0:=rfl
  rw [bG] at af
  by_cases c:(b2 (hV m) m.specs.length 0).2=0
  ·rw [if_pos c] at af
   rw [p8 _ _ _ c]
   simp only [zL,Nr,go_sem,al.agg,al.aP,al.bc,al.bm,al.bB,al.cm,al.cD,al.cE,al.cP,af,eR]
  ·rw [if_neg c] at af
   simp only [zL,Nr,go_sem,al.agg,al.aP,al.bc,al.bm,al.bB,al.cm,al.cD,al.cE,al.cP,af]
 ·intro i af
  obtain ⟨s,aB⟩:∃s,m.specs[i]?=some s:=⟨m.specs[i],List.getElem?_eq_getElem af⟩
  obtain ⟨⟨a4,GF⟩,aqA,OU⟩:=hm.specs.2 s (List.mem_of_getElem? aB)
  have bQ:=OG n s.name (by omega) OU
  have e0:=aqK hm i aB
  have bV:=Iw n s.f (by omega) a4 (by omega)
  have jd:=Yt hm.ba n s.f (by omega) a4 GF
  have bW:=decide_eq_true (show((i:Int)<(m.specs.length:Int)) by omega)
  simp only [hV,aB]
  cases ad:isName s.name with
  |false=>simp only [uf,go_sem,g7,bW,kG aB,cj.fJ,bQ,ad,if_neg (show¬(12:Int)=0 by decide),eR]
  |true=>
   cases ax:(l4 (m.specs.take i) s.name).isSome with
   |true=>
    rw [ax,if_pos rfl] at e0
    simp only [uf,go_sem,g7,bW,kG aB,cj.fJ,bQ,ad,e0,if_neg (show¬(6:Int)=0 by decide),eR]
   |false=>
    rw [ax,if_neg (by decide)] at e0
    by_cases aZ:iM s.f=0
    ·have jD:(iM s.f==0)=true:=by simp [aZ]
     by_cases bI:kf m s.f=0
     ·have rV:(kf m s.f !=0)=false:=by simp [bI]
      simp only [uf,go_sem,g7,bW,al.eta,kG aB,cj.fJ,cj.g3,bQ,ad,e0,bV,jD,if_pos aZ,jd,rV,if_pos bI,cg (bt:=false) (i:=i) (by omega)]
     ·have rV:(kf m s.f !=0)=true:=by simpa using bI
      simp only [uf,go_sem,g7,bW,al.eta,kG aB,cj.fJ,cj.g3,bQ,ad,e0,bV,jD,if_pos aZ,jd,rV,if_neg bI,eR]
    ·have jD:(iM s.f==0)=false:=by simpa using aZ
     have aqN:(iM s.f !=0)=true:=by simpa using aZ
     simp only [uf,go_sem,g7,bW,al.eta,kG aB,cj.fJ,cj.g3,bQ,ad,e0,bV,jD,aqN,if_neg aZ,eR]
 ·simp only [uf,go_sem,g7,decide_eq_false (show¬((m.specs.length:Int)<m.specs.length) by omega)]
end
end Go.Am
namespace Go.Am
set_option linter.unusedVariables false
set_option linter.unusedSimpArgs false
def lB:List V→Nat
 |[]=>0
 |v::r=>bitsOf v.span+lB r
theorem V.aqO(v:V):D.agg [aa v.d 0,aa v.d 1,aa v.d 2,aa v.d 3]=v.d:=rfl
theorem aqP(n:Nat)(m:al)(aM:m3 m.vars)(an:m.vars.length≤100)(aJ:200<n):B9 n [m.d]=some (J (lB m.vars:Nat)):=by
 have af:=dv (f:=GW n) m.vars (fun i (s:Nat)=>[J (s:Int),a8 m.vars,J m.vars.length,J (i:Int)]) (fun r s=>(.inl [J ((s+lB r:Nat):Int)]:List D⊕D)) (fun i s=>s≤62*i) ?_ ?_ n 0 0 (by simp) (by omega) (Nat.zero_le _)
 ·have bG:(J ((0:Nat):Int))=J 0:=rfl
  rw [bG,List.drop_zero,Nat.zero_add] at af
  simp only [B9,Tp,go_sem,al.agg,al.aP,fC,af]
 ·intro s aB
  simp only [GW,go_sem,decide_eq_false (show¬((m.vars.length:Int)<m.vars.length) by omega),lB,Nat.add_zero]
 ·intro i v s jr af aB
  obtain ⟨ad,ae,_⟩:=aM.2 v (List.mem_of_getElem? jr)
  have jA:=apQ n v ad ae
  have ak:=apS n v.span (V.EF v).2 (by omega)
  have qi:=(Aq (V.EF v).2).1
  have bW:=decide_eq_true (show((i:Int)<(m.vars.length:Int)) by omega)
  have fa:binP false .add (J (s:Int)) (J (bitsOf v.span:Nat))=some (J ((s+bitsOf v.span:Nat):Int)):=by
   rw [dU (by omega) (by omega)];rfl
  left
  refine ⟨s+bitsOf v.span,?_,by rw [lB,Nat.add_assoc],by omega⟩
  simp only [GW,go_sem,bW,iN jr,V.en,V.ek,V.aqO,jA,ak,fa,cg (bt:=false) (i:=i) (by omega)]
theorem aqQ(n:Nat)(m:al)(aM:m3 m.vars)(an:m.vars.length≤100)(aJ:200<n):DA n [m.d]=some (J (lB m.vars:Nat)):=by
 have af:=dv (f:=HL n) m.vars (fun i (s:Nat)=>[J (s:Int),J (i:Int),a8 m.vars,aH m.defs,av m.init,av m.bk,aH m.next,av m.trans,av m.fair,bs m.specs]) (fun r s=>(.inl [J ((s+lB r:Nat):Int)]:List D⊕D)) (fun i s=>s≤62*i) ?_ ?_ n 0 0 (by simp) (by omega) (Nat.zero_le _)
 ·have bG:(J ((0:Nat):Int))=J 0:=rfl
  rw [bG,List.drop_zero,Nat.zero_add] at af
  simp only [DA,Uj,go_sem,al.agg,al.aP,al.bc,al.bm,al.bB,al.cm,al.cD,al.cE,al.cP,af]
 ·intro s aB
  simp only [HL,go_sem,fC,decide_eq_false (show¬((m.vars.length:Int)<m.vars.length) by omega),lB,Nat.add_zero]
 ·intro i v s jr af aB
  obtain ⟨ad,ae,_⟩:=aM.2 v (List.mem_of_getElem? jr)
  have jA:=XV n v ad ae
  have ak:=apT n v.span (by have:=(V.EF v).1;omega) (V.EF v).2 (by omega)
  have qi:=(Aq (V.EF v).2).1
  have bW:=decide_eq_true (show((i:Int)<(m.vars.length:Int)) by omega)
  have fa:binP false .add (J (s:Int)) (J (bitsOf v.span:Nat))=some (J ((s+bitsOf v.span:Nat):Int)):=by
   rw [dU (by omega) (by omega)];rfl
  left
  refine ⟨s+bitsOf v.span,?_,by rw [lB,Nat.add_assoc],by omega⟩
  simp only [HL,go_sem,fC,bW,iN jr,V.en,jA,ak,fa,cg (bt:=false) (i:=i) (by omega)]
end Go.Am
namespace Go.Am
set_option linter.unusedVariables false
set_option linter.unusedSimpArgs false
def gM:List (Int×(Int×Int))→Int×(Int×Int)
 |[]=>(0,(0,0))
 |a::r=>if a.2.2=0 then gM r else a
theorem Yv{dJ:Type}{f:List D→Option (List D⊕(List D⊕dJ))}(L:List (Int×(Int×Int)))(eB:Nat→List D)(E:List D)(W:Int×(Int×Int)→dJ)
  (aB:∀i a,L[i]?=some a→f (eB i)=some (if a.2.2=0 then .inl (eB (i+1)) else .inr (.inr (W a)))) (he:f (eB L.length)=some (.inr (.inl E))) (n:Nat) (aJ:L.length<n):
  bo f n (eB 0)=some (if(gM L).2.2=0 then .inl E else .inr (W (gM L))):=by
 have h:=dv (f:=f) L (fun i (_:Unit)=>eB i) (fun r _=>(if(gM r).2.2=0 then .inl E else .inr (W (gM r)):List D⊕dJ)) (fun _ _=>True) (fun _ _=>by rw [he];rfl) ?_ n 0 () trivial (by omega) (Nat.zero_le _)
 ·exact h
 ·intro i a _ aA af _
  have ad:=aB i a aA
  by_cases aq:a.2.2=0
  ·left
   rw [if_pos aq] at ad
   exact ⟨(),ad,by rw [gM,if_pos aq],trivial⟩
  ·right
   rw [if_neg aq] at ad
   rw [ad,gM,if_neg aq,if_neg aq]
def gU(m:al):List Nat:=[m.vars.length,m.defs.length,m.init.length,m.bk.length,m.next.length,m.trans.length,m.fair.length,m.specs.length]
def gV(m:al)(i:Nat):Int:=if 64<(gU m)[i]?.getD 0 then 18 else 0
noncomputable def lC(m:al):List (Int×(Int×Int)):=[(2,b2 (kg m) m.defs.length 0),(2,b2 (kI m) m.defs.length 0),(2,b2 (kh m) m.defs.length 0),(3,b2 (dY m m.init false) m.init.length 0),(4,b2 (dY m m.bk false) m.bk.length 0),(5,b2 (hU m) m.next.length 0),(6,b2 (dY m m.trans true) m.trans.length 0),(7,b2 (dY m m.fair false) m.fair.length 0),(8,b2 (hV m) m.specs.length 0)]
noncomputable def OV(m:al):List (Int×(Int×Int)):=[(2,p9 m),(3,b2 (dY m m.init false) m.init.length 0),(4,b2 (dY m m.bk false) m.bk.length 0),(5,b2 (hU m) m.next.length 0),(6,b2 (dY m m.trans true) m.trans.length 0),(7,b2 (dY m m.fair false) m.fair.length 0),(8,b2 (hV m) m.specs.length 0)]
theorem Yw{a b:Int×Int}:(sN a b).2=0↔a.2=0∧b.2=0:=by
 unfold sN
 by_cases h:a.2=0<;>simp [h]
theorem Yx(k:Int)(a b:Int×Int)(r:List (Int×(Int×Int))):gM ((k,sN a b)::r)=gM ((k,a)::(k,b)::r):=by
 simp only [gM]
 unfold sN
 by_cases h:a.2=0<;>simp [h]
theorem aqR(a:Int×(Int×Int)){r sZ:List (Int×(Int×Int))}(h:gM r=gM sZ):gM (a::r)=gM (a::sZ):=by rw [gM,gM,h]
theorem aqS(m:al):gM (OV m)=gM (lC m):=by
 unfold OV p9
 rw [Yx]
 exact aqR _ (Yx _ _ _ _)
noncomputable def iR(m:al):Int×(Int×Int):=
 if(b2 (gV m) 8 0).2=0 then
  if(jS m.vars).2=0 then
   if 30<lB m.vars then(1,(0,18)) else gM (lC m)
  else(1,jS m.vars)
 else((b2 (gV m) 8 0).1+1,(64,18))
def da(q:Int×(Int×Int)):D:= .aL [.agg [J q.1,J q.2.1],J q.2.2]
theorem aqT{l:List V}(h:(jS l).2=0):jS l=(0,0):=by
 unfold jS at h⊢
 cases a4:(List.range l.length).find? (fun i=>h0 l i !=0) with
 |none=>rw [a4] at h
 |some i=>
  rw [a4] at h
  have:=List.find?_some a4
  simp only at h
  rw [h] at this
  cases this
theorem Yy(L:List (Int×(Int×Int)))(h:(gM L).2.2=0):gM L=(0,(0,0)):=by
 induction L with
 |nil=>rfl
 |cons a r ih=>
  rw [gM] at h⊢
  by_cases aq:a.2.2=0
  ·rw [if_pos aq] at h⊢;exact ih h
  ·rw [if_neg aq] at h;exact absurd h aq
theorem gW{t:Nat}{x:D}:ifcP (.di t x)=some (t,x):=rfl
def rj(m:al):D:= .agg ((gU m).map fun(k:Nat)=>J (k:Int))
def fo(m:al):D:= .agg [.di 151 (aH m.defs),.di 152 (aH m.defs),.di 153 (aH m.defs),.di 155 (.agg [J 3,av m.init,ar false]),.di 155 (.agg [J 4,av m.bk,ar false]),.di 156 (aH m.next),.di 155 (.agg [J 6,av m.trans,ar true]),.di 155 (.agg [J 7,av m.fair,ar false]),.di 157 (bs m.specs)]
theorem I7{dJ:Type}{a b:Option dJ}:fh 151 151 a b=a:=rfl
theorem I8{dJ:Type}{a b:Option dJ}:fh 152 151 a b=b:=rfl
theorem I9{dJ:Type}{a b:Option dJ}:fh 152 152 a b=a:=rfl
theorem Ja{dJ:Type}{a b:Option dJ}:fh 153 151 a b=b:=rfl
theorem Jb{dJ:Type}{a b:Option dJ}:fh 153 152 a b=b:=rfl
theorem Jc{dJ:Type}{a b:Option dJ}:fh 153 153 a b=a:=rfl
theorem rk{dJ:Type}{a b:Option dJ}:fh 155 151 a b=b:=rfl
theorem rl{dJ:Type}{a b:Option dJ}:fh 155 152 a b=b:=rfl
theorem rm{dJ:Type}{a b:Option dJ}:fh 155 153 a b=b:=rfl
theorem rn{dJ:Type}{a b:Option dJ}:fh 155 155 a b=a:=rfl
theorem Jd{dJ:Type}{a b:Option dJ}:fh 156 151 a b=b:=rfl
theorem Je{dJ:Type}{a b:Option dJ}:fh 156 152 a b=b:=rfl
theorem Jf{dJ:Type}{a b:Option dJ}:fh 156 153 a b=b:=rfl
theorem Jg{dJ:Type}{a b:Option dJ}:fh 156 155 a b=b:=rfl
theorem Jh{dJ:Type}{a b:Option dJ}:fh 156 156 a b=a:=rfl
theorem Ji{dJ:Type}{a b:Option dJ}:fh 157 151 a b=b:=rfl
theorem Jj{dJ:Type}{a b:Option dJ}:fh 157 152 a b=b:=rfl
theorem Jk{dJ:Type}{a b:Option dJ}:fh 157 153 a b=b:=rfl
theorem Jl{dJ:Type}{a b:Option dJ}:fh 157 155 a b=b:=rfl
theorem Jm{dJ:Type}{a b:Option dJ}:fh 157 156 a b=b:=rfl
theorem Jn{dJ:Type}{a b:Option dJ}:fh 157 157 a b=a:=rfl
section
variable{m:al}{n:Nat}(hm:I5 m n)
include hm
theorem aqU:bo (pE n) n [rj m,J 0,a8 m.vars,aH m.defs,av m.init,av m.bk,aH m.next,av m.trans,av m.fair,bs m.specs,J 0,J 0]=some (if(b2 (gV m) 8 0).2=0 then .inl [a8 m.vars,aH m.defs,av m.init,av m.bk,aH m.next,av m.trans,av m.fair,bs m.specs,J 0,J 0] else .inr (da ((b2 (gV m) 8 0).1+1,(64,18)))):=by
 have ak:=hm.hL
 refine k4 (f:=pE n) (fun i=>[rj m,J (i:Int),a8 m.vars,aH m.defs,av m.init,av m.bk,aH m.next,av m.trans,av m.fair,bs m.specs,J 0,J 0]) (gV m) 8 _ (fun p=>da (p.1+1,(64,18))) ?_ ?_ 8 0 n (by omega) (by omega)
 ·intro i af
  obtain ⟨k,ai⟩:∃k,(gU m)[i]?=some k:=⟨_,List.getElem?_eq_getElem af⟩
  have bW:=decide_eq_true (show((i:Int)<8) by omega)
  have eb:ct 8 (J (i:Int))=some i:=by rw [lp,if_pos af]
  have a4:jT false 1 (i*1) (rj m)=some (J (k:Int)):=by
   unfold rj
   rw [Nat.mul_one,SB,hg,List.getElem?_map,ai];rfl
  have xW:binP false .add (J 1) (J (i:Int))=some (J ((i:Int)+1)):=by rw [dU (by omega) (by omega)];congr 2;omega
  have b1:gV m i=if 64<k then 18 else 0:=by unfold gV;rw [ai];rfl
  by_cases aj:64<k
  ·rw [b1,if_pos aj,if_neg (by decide)]
   simp only [pE,go_sem,bW,eb,a4,decide_eq_true (show((k:Int)>64) by omega),xW,da]
  ·rw [b1,if_neg aj,if_pos rfl]
   simp only [pE,go_sem,bW,eb,a4,decide_eq_false (show¬((k:Int)>64) by omega),cg (bt:=false) (i:=i) (by omega)]
 ·simp only [pE,go_sem,show decide (((8:Nat):Int)<8)=false from rfl]
theorem aqV:bo (pS n) n [J 0,a8 m.vars,aH m.defs,av m.init,av m.bk,aH m.next,av m.trans,av m.fair,bs m.specs,J 0,J 0,D.aE 1 ((gU m).map fun(k:Nat)=>[J (k:Int)])]=some (if(b2 (gV m) 8 0).2=0 then .inl [a8 m.vars,aH m.defs,av m.init,av m.bk,aH m.next,av m.trans,av m.fair,bs m.specs,J 0,J 0] else .inr (da ((b2 (gV m) 8 0).1+1,(64,18)))):=by
 have ak:=hm.hL
 refine k4 (f:=pS n) (fun i=>[J (i:Int),a8 m.vars,aH m.defs,av m.init,av m.bk,aH m.next,av m.trans,av m.fair,bs m.specs,J 0,J 0,D.aE 1 ((gU m).map fun(k:Nat)=>[J (k:Int)])]) (gV m) 8 _ (fun p=>da (p.1+1,(64,18))) ?_ ?_ 8 0 n (by omega) (by omega)
 ·intro i af
  obtain ⟨k,ai⟩:∃k,(gU m)[i]?=some k:=⟨_,List.getElem?_eq_getElem af⟩
  have hlen:((gU m).map fun(k:Nat)=>[J (k:Int)]).length=8:=rfl
  have bW:=decide_eq_true (show((i:Int)<((8:Nat):Int)) by omega)
  have eb:ct 8 (J (i:Int))=some i:=by rw [lp,if_pos af]
  have a4:((gU m).map fun(k:Nat)=>[J (k:Int)])[i]?=some [J (k:Int)]:=by rw [List.getElem?_map,ai];rfl
  have xW:binP false .add (J (i:Int)) (J 1)=some (J ((i:Int)+1)):=by rw [dU (by omega) (by omega)]
  have b1:gV m i=if 64<k then 18 else 0:=by unfold gV;rw [ai];rfl
  generalize ((gU m).map fun(k:Nat)=>[J (k:Int)])=aqW at*
  by_cases aj:64<k
  ·rw [b1,if_pos aj,if_neg (by decide)]
   simp only [pS,go_sem,hlen,bW,eb,a4,Au,decide_eq_true (show((k:Int)>64) by omega),xW,da]
  ·rw [b1,if_neg aj,if_pos rfl]
   simp only [pS,go_sem,hlen,bW,eb,a4,Au,decide_eq_false (show¬((k:Int)>64) by omega),cg (bt:=false) (i:=i) (by omega)]
 ·have hlen:((gU m).map fun(k:Nat)=>[J (k:Int)]).length=8:=rfl
  simp only [pS,go_sem,hlen,show decide (((8:Nat):Int)<((8:Nat):Int))=false from rfl]
theorem aqX(A iw:D):bo (gL n) n [D.di 151 (aH m.defs),A,iw,J m.defs.length,J 0,a8 m.vars,aH m.defs,av m.init,av m.bk,aH m.next,av m.trans,av m.fair,bs m.specs,J 0,J 0]=some (if(b2 (kg m) m.defs.length 0).2=0 then .inl [A,iw,a8 m.vars,aH m.defs,av m.init,av m.bk,aH m.next,av m.trans,av m.fair,bs m.specs,J 0,J 0] else .inr (.inr (.inr (.inr (da (2,b2 (kg m) m.defs.length 0)))))):=by
 have ak:=hm.hL
 have bQ:=hm.ba.dl
 refine k4 (f:=gL n) (fun i=>[D.di 151 (aH m.defs),A,iw,J m.defs.length,J (i:Int),a8 m.vars,aH m.defs,av m.init,av m.bk,aH m.next,av m.trans,av m.fair,bs m.specs,J 0,J 0]) (kg m) (m.defs.length) _ (fun p=> .inr (.inr (.inr (da (2,p))))) ?_ ?_ _ 0 n (by omega) (by omega)
 ·intro i af
  have bW:=decide_eq_true (show((i:Int)<((m.defs.length:Nat):Int)) by omega)
  have hw:=aqv hm i af
  change sh n [_,m.d,J (i:Int)]=some (J (kg m i)) at hw
  by_cases aj:kg m i=0
  ·have c4:(kg m i !=0)=false:=by simp [aj]
   rw [if_pos aj]
   simp only [gL,go_sem,bW,gW,I7,al.eta,hw,c4,cg (bt:=false) (i:=i) (by omega)]
  ·have c4:(kg m i !=0)=true:=by simpa using aj
   rw [if_neg aj]
   simp only [gL,go_sem,bW,gW,I7,al.eta,hw,c4,Hr,TT,da]
 ·simp only [gL,go_sem,decide_eq_false (show¬(((m.defs.length:Nat):Int)<((m.defs.length:Nat):Int)) by omega)]
theorem aqY(A iw:D):bo (gL n) n [D.di 152 (aH m.defs),A,iw,J m.defs.length,J 0,a8 m.vars,aH m.defs,av m.init,av m.bk,aH m.next,av m.trans,av m.fair,bs m.specs,J 0,J 0]=some (if(b2 (kI m) m.defs.length 0).2=0 then .inl [A,iw,a8 m.vars,aH m.defs,av m.init,av m.bk,aH m.next,av m.trans,av m.fair,bs m.specs,J 0,J 0] else .inr (.inr (.inr (.inr (da (2,b2 (kI m) m.defs.length 0)))))):=by
 have ak:=hm.hL
 have bQ:=hm.ba.dl
 refine k4 (f:=gL n) (fun i=>[D.di 152 (aH m.defs),A,iw,J m.defs.length,J (i:Int),a8 m.vars,aH m.defs,av m.init,av m.bk,aH m.next,av m.trans,av m.fair,bs m.specs,J 0,J 0]) (kI m) (m.defs.length) _ (fun p=> .inr (.inr (.inr (da (2,p))))) ?_ ?_ _ 0 n (by omega) (by omega)
 ·intro i af
  have bW:=decide_eq_true (show((i:Int)<((m.defs.length:Nat):Int)) by omega)
  have hw:=aqr n m hm.ba.d i af (by omega)
  change zi n [_,m.d,J (i:Int)]=some (J (kI m i)) at hw
  by_cases aj:kI m i=0
  ·have c4:(kI m i !=0)=false:=by simp [aj]
   rw [if_pos aj]
   simp only [gL,go_sem,bW,gW,I8,I9,al.eta,hw,c4,cg (bt:=false) (i:=i) (by omega)]
  ·have c4:(kI m i !=0)=true:=by simpa using aj
   rw [if_neg aj]
   simp only [gL,go_sem,bW,gW,I8,I9,al.eta,hw,c4,Hq,TS,da]
 ·simp only [gL,go_sem,decide_eq_false (show¬(((m.defs.length:Nat):Int)<((m.defs.length:Nat):Int)) by omega)]
theorem aqZ(A iw:D):bo (gL n) n [D.di 153 (aH m.defs),A,iw,J m.defs.length,J 0,a8 m.vars,aH m.defs,av m.init,av m.bk,aH m.next,av m.trans,av m.fair,bs m.specs,J 0,J 0]=some (if(b2 (kh m) m.defs.length 0).2=0 then .inl [A,iw,a8 m.vars,aH m.defs,av m.init,av m.bk,aH m.next,av m.trans,av m.fair,bs m.specs,J 0,J 0] else .inr (.inr (.inr (.inr (da (2,b2 (kh m) m.defs.length 0)))))):=by
 have ak:=hm.hL
 have bQ:=hm.ba.dl
 refine k4 (f:=gL n) (fun i=>[D.di 153 (aH m.defs),A,iw,J m.defs.length,J (i:Int),a8 m.vars,aH m.defs,av m.init,av m.bk,aH m.next,av m.trans,av m.fair,bs m.specs,J 0,J 0]) (kh m) (m.defs.length) _ (fun p=> .inr (.inr (.inr (da (2,p))))) ?_ ?_ _ 0 n (by omega) (by omega)
 ·intro i af
  have bW:=decide_eq_true (show((i:Int)<((m.defs.length:Nat):Int)) by omega)
  have hw:=aqw hm i af
  change zh n [_,m.d,J (i:Int)]=some (J (kh m i)) at hw
  by_cases aj:kh m i=0
  ·have c4:(kh m i !=0)=false:=by simp [aj]
   rw [if_pos aj]
   simp only [gL,go_sem,bW,gW,Ja,Jb,Jc,al.eta,hw,c4,cg (bt:=false) (i:=i) (by omega)]
  ·have c4:(kh m i !=0)=true:=by simpa using aj
   rw [if_neg aj]
   simp only [gL,go_sem,bW,gW,Ja,Jb,Jc,al.eta,hw,c4,Hp,TR,da]
 ·simp only [gL,go_sem,decide_eq_false (show¬(((m.defs.length:Nat):Int)<((m.defs.length:Nat):Int)) by omega)]
theorem Jo(l:List Tm)(an:l.length≤100∧∀t∈l,t.bO∧t.ba≤12300)(k:Int)(nx:Bool)(A iw:D):bo (gL n) n [D.di 155 (D.agg [J k,av l,ar nx]),A,iw,J l.length,J 0,a8 m.vars,aH m.defs,av m.init,av m.bk,aH m.next,av m.trans,av m.fair,bs m.specs,J 0,J 0]=some (if(b2 (dY m l nx) l.length 0).2=0 then .inl [A,iw,a8 m.vars,aH m.defs,av m.init,av m.bk,aH m.next,av m.trans,av m.fair,bs m.specs,J 0,J 0] else .inr (.inr (.inr (.inr (da (k,b2 (dY m l nx) l.length 0)))))):=by
 have ak:=hm.hL
 have bQ:=an.1
 have aq0:aa (D.agg [J k,av l,ar nx]) 0=J k:=rfl
 have aq1:aK 3 (D.agg [J k,av l,ar nx])=true:=rfl
 refine k4 (f:=gL n) (fun i=>[D.di 155 (D.agg [J k,av l,ar nx]),A,iw,J l.length,J (i:Int),a8 m.vars,aH m.defs,av m.init,av m.bk,aH m.next,av m.trans,av m.fair,bs m.specs,J 0,J 0]) (dY m l nx) (l.length) _ (fun p=> .inr (.inr (.inr (da (k,p))))) ?_ ?_ _ 0 n (by omega) (by omega)
 ·intro i af
  have bW:=decide_eq_true (show((i:Int)<((l.length:Nat):Int)) by omega)
  have hw:=aqx hm l an.2 k nx i af
  change zg n [_,m.d,J (i:Int)]=some (J (dY m l nx i)) at hw
  by_cases aj:dY m l nx i=0
  ·have c4:(dY m l nx i !=0)=false:=by simp [aj]
   rw [if_pos aj]
   simp only [gL,go_sem,bW,gW,rk,rl,rm,rn,al.eta,hw,c4,cg (bt:=false) (i:=i) (by omega)]
  ·have c4:(dY m l nx i !=0)=true:=by simpa using aj
   rw [if_neg aj]
   simp only [gL,go_sem,bW,gW,rk,rl,rm,rn,al.eta,hw,c4,Ho,TQ,aq0,aq1,da]
 ·simp only [gL,go_sem,decide_eq_false (show¬(((l.length:Nat):Int)<((l.length:Nat):Int)) by omega)]
theorem aq2(A iw:D):bo (gL n) n [D.di 156 (aH m.next),A,iw,J m.next.length,J 0,a8 m.vars,aH m.defs,av m.init,av m.bk,aH m.next,av m.trans,av m.fair,bs m.specs,J 0,J 0]=some (if(b2 (hU m) m.next.length 0).2=0 then .inl [A,iw,a8 m.vars,aH m.defs,av m.init,av m.bk,aH m.next,av m.trans,av m.fair,bs m.specs,J 0,J 0] else .inr (.inr (.inr (.inr (da (5,b2 (hU m) m.next.length 0)))))):=by
 have ak:=hm.hL
 have bQ:=hm.next.1
 refine k4 (f:=gL n) (fun i=>[D.di 156 (aH m.next),A,iw,J m.next.length,J (i:Int),a8 m.vars,aH m.defs,av m.init,av m.bk,aH m.next,av m.trans,av m.fair,bs m.specs,J 0,J 0]) (hU m) (m.next.length) _ (fun p=> .inr (.inr (.inr (da (5,p))))) ?_ ?_ _ 0 n (by omega) (by omega)
 ·intro i af
  have bW:=decide_eq_true (show((i:Int)<((m.next.length:Nat):Int)) by omega)
  have hw:=aqy hm i af
  change tS n [_,m.d,J (i:Int)]=some (J (hU m i)) at hw
  by_cases aj:hU m i=0
  ·have c4:(hU m i !=0)=false:=by simp [aj]
   rw [if_pos aj]
   simp only [gL,go_sem,bW,gW,Jd,Je,Jf,Jg,Jh,al.eta,hw,c4,cg (bt:=false) (i:=i) (by omega)]
  ·have c4:(hU m i !=0)=true:=by simpa using aj
   rw [if_neg aj]
   simp only [gL,go_sem,bW,gW,Jd,Je,Jf,Jg,Jh,al.eta,hw,c4,Hn,TP,da]
 ·simp only [gL,go_sem,decide_eq_false (show¬(((m.next.length:Nat):Int)<((m.next.length:Nat):Int)) by omega)]
theorem aq3(A iw:D):bo (gL n) n [D.di 157 (bs m.specs),A,iw,J m.specs.length,J 0,a8 m.vars,aH m.defs,av m.init,av m.bk,aH m.next,av m.trans,av m.fair,bs m.specs,J 0,J 0]=some (if(b2 (hV m) m.specs.length 0).2=0 then .inl [A,iw,a8 m.vars,aH m.defs,av m.init,av m.bk,aH m.next,av m.trans,av m.fair,bs m.specs,J 0,J 0] else .inr (.inr (.inr (.inr (da (8,b2 (hV m) m.specs.length 0)))))):=by
 have ak:=hm.hL
 have bQ:=hm.specs.1
 refine k4 (f:=gL n) (fun i=>[D.di 157 (bs m.specs),A,iw,J m.specs.length,J (i:Int),a8 m.vars,aH m.defs,av m.init,av m.bk,aH m.next,av m.trans,av m.fair,bs m.specs,J 0,J 0]) (hV m) (m.specs.length) _ (fun p=> .inr (.inr (.inr (da (8,p))))) ?_ ?_ _ 0 n (by omega) (by omega)
 ·intro i af
  have bW:=decide_eq_true (show((i:Int)<((m.specs.length:Nat):Int)) by omega)
  have hw:=aqz hm i af
  change sf n [_,m.d,J (i:Int)]=some (J (hV m i)) at hw
  by_cases aj:hV m i=0
  ·have c4:(hV m i !=0)=false:=by simp [aj]
   rw [if_pos aj]
   simp only [gL,go_sem,bW,gW,Ji,Jj,Jk,Jl,Jm,Jn,al.eta,hw,c4,cg (bt:=false) (i:=i) (by omega)]
  ·have c4:(hV m i !=0)=true:=by simpa using aj
   rw [if_neg aj]
   simp only [gL,go_sem,bW,gW,Ji,Jj,Jk,Jl,Jm,Jn,al.eta,hw,c4,Hm,TO,da]
 ·simp only [gL,go_sem,decide_eq_false (show¬(((m.specs.length:Nat):Int)<((m.specs.length:Nat):Int)) by omega)]
theorem aq4:gx n [fo m,J 0,a8 m.vars,aH m.defs,av m.init,av m.bk,aH m.next,av m.trans,av m.fair,bs m.specs,J 0,J 0]=some (if(b2 (kg m) m.defs.length 0).2=0 then .inl [fo m,J 1,a8 m.vars,aH m.defs,av m.init,av m.bk,aH m.next,av m.trans,av m.fair,bs m.specs,J 0,J 0] else .inr (.inr (da (2,b2 (kg m) m.defs.length 0)))):=by
 have ez:=aqX hm (fo m) (J 0)
 have bW:decide ((0:Int)<9)=true:=rfl
 have eb:ct 9 (J 0)=some 0:=rfl
 have a4:jT false 1 (0*1) (fo m)=some (D.di 151 (aH m.defs)):=rfl
 have hz:Cf n [aH m.defs]=some (J m.defs.length):=by simp only [Cf,Tu,go_sem,dG]
 have fa:binP false .add (J 0) (J 1)=some (J 1):=dU (by decide) (by decide)
 by_cases aj:(b2 (kg m) m.defs.length 0).2=0
 ·rw [if_pos aj] at ez⊢
  simp only [gx,go_sem,bW,eb,a4,gW,I7,hz,ez,fa]
 ·rw [if_neg aj] at ez⊢
  simp only [gx,go_sem,bW,eb,a4,gW,I7,hz,ez]
theorem aq5:gx n [fo m,J 1,a8 m.vars,aH m.defs,av m.init,av m.bk,aH m.next,av m.trans,av m.fair,bs m.specs,J 0,J 0]=some (if(b2 (kI m) m.defs.length 0).2=0 then .inl [fo m,J 2,a8 m.vars,aH m.defs,av m.init,av m.bk,aH m.next,av m.trans,av m.fair,bs m.specs,J 0,J 0] else .inr (.inr (da (2,b2 (kI m) m.defs.length 0)))):=by
 have ez:=aqY hm (fo m) (J 1)
 have bW:decide ((1:Int)<9)=true:=rfl
 have eb:ct 9 (J 1)=some 1:=rfl
 have a4:jT false 1 (1*1) (fo m)=some (D.di 152 (aH m.defs)):=rfl
 have hz:Ce n [aH m.defs]=some (J m.defs.length):=by simp only [Ce,Tt,go_sem,dG]
 have fa:binP false .add (J 1) (J 1)=some (J 2):=dU (by decide) (by decide)
 by_cases aj:(b2 (kI m) m.defs.length 0).2=0
 ·rw [if_pos aj] at ez⊢
  simp only [gx,go_sem,bW,eb,a4,gW,I8,I9,hz,ez,fa]
 ·rw [if_neg aj] at ez⊢
  simp only [gx,go_sem,bW,eb,a4,gW,I8,I9,hz,ez]
theorem aq6:gx n [fo m,J 2,a8 m.vars,aH m.defs,av m.init,av m.bk,aH m.next,av m.trans,av m.fair,bs m.specs,J 0,J 0]=some (if(b2 (kh m) m.defs.length 0).2=0 then .inl [fo m,J 3,a8 m.vars,aH m.defs,av m.init,av m.bk,aH m.next,av m.trans,av m.fair,bs m.specs,J 0,J 0] else .inr (.inr (da (2,b2 (kh m) m.defs.length 0)))):=by
 have ez:=aqZ hm (fo m) (J 2)
 have bW:decide ((2:Int)<9)=true:=rfl
 have eb:ct 9 (J 2)=some 2:=rfl
 have a4:jT false 1 (2*1) (fo m)=some (D.di 153 (aH m.defs)):=rfl
 have hz:Cd n [aH m.defs]=some (J m.defs.length):=by simp only [Cd,Ts,go_sem,dG]
 have fa:binP false .add (J 2) (J 1)=some (J 3):=dU (by decide) (by decide)
 by_cases aj:(b2 (kh m) m.defs.length 0).2=0
 ·rw [if_pos aj] at ez⊢
  simp only [gx,go_sem,bW,eb,a4,gW,Ja,Jb,Jc,hz,ez,fa]
 ·rw [if_neg aj] at ez⊢
  simp only [gx,go_sem,bW,eb,a4,gW,Ja,Jb,Jc,hz,ez]
theorem aq7:gx n [fo m,J 3,a8 m.vars,aH m.defs,av m.init,av m.bk,aH m.next,av m.trans,av m.fair,bs m.specs,J 0,J 0]=some (if(b2 (dY m m.init false) m.init.length 0).2=0 then .inl [fo m,J 4,a8 m.vars,aH m.defs,av m.init,av m.bk,aH m.next,av m.trans,av m.fair,bs m.specs,J 0,J 0] else .inr (.inr (da (3,b2 (dY m m.init false) m.init.length 0)))):=by
 have ez:=Jo hm m.init hm.init 3 false (fo m) (J 3)
 have bW:decide ((3:Int)<9)=true:=rfl
 have eb:ct 9 (J 3)=some 3:=rfl
 have a4:jT false 1 (3*1) (fo m)=some (D.di 155 (D.agg [J 3,av m.init,ar false])):=rfl
 have hz:px n [D.agg [J 3,av m.init,ar false]]=some (J m.init.length):=by
  have ax:aK 3 (D.agg [J 3,av m.init,ar false])=true:=rfl
  have aZ:aa (D.agg [J 3,av m.init,ar false]) 1=av m.init:=rfl
  simp only [px,Cc,go_sem,ax,aZ,hy]
 have fa:binP false .add (J 3) (J 1)=some (J 4):=dU (by decide) (by decide)
 by_cases aj:(b2 (dY m m.init false) m.init.length 0).2=0
 ·rw [if_pos aj] at ez⊢
  simp only [gx,go_sem,bW,eb,a4,gW,rk,rl,rm,rn,hz,ez,fa]
 ·rw [if_neg aj] at ez⊢
  simp only [gx,go_sem,bW,eb,a4,gW,rk,rl,rm,rn,hz,ez]
theorem aq8:gx n [fo m,J 4,a8 m.vars,aH m.defs,av m.init,av m.bk,aH m.next,av m.trans,av m.fair,bs m.specs,J 0,J 0]=some (if(b2 (dY m m.bk false) m.bk.length 0).2=0 then .inl [fo m,J 5,a8 m.vars,aH m.defs,av m.init,av m.bk,aH m.next,av m.trans,av m.fair,bs m.specs,J 0,J 0] else .inr (.inr (da (4,b2 (dY m m.bk false) m.bk.length 0)))):=by
 have ez:=Jo hm m.bk hm.bk 4 false (fo m) (J 4)
 have bW:decide ((4:Int)<9)=true:=rfl
 have eb:ct 9 (J 4)=some 4:=rfl
 have a4:jT false 1 (4*1) (fo m)=some (D.di 155 (D.agg [J 4,av m.bk,ar false])):=rfl
 have hz:px n [D.agg [J 4,av m.bk,ar false]]=some (J m.bk.length):=by
  have ax:aK 3 (D.agg [J 4,av m.bk,ar false])=true:=rfl
  have aZ:aa (D.agg [J 4,av m.bk,ar false]) 1=av m.bk:=rfl
  simp only [px,Cc,go_sem,ax,aZ,hy]
 have fa:binP false .add (J 4) (J 1)=some (J 5):=dU (by decide) (by decide)
 by_cases aj:(b2 (dY m m.bk false) m.bk.length 0).2=0
 ·rw [if_pos aj] at ez⊢
  simp only [gx,go_sem,bW,eb,a4,gW,rk,rl,rm,rn,hz,ez,fa]
 ·rw [if_neg aj] at ez⊢
  simp only [gx,go_sem,bW,eb,a4,gW,rk,rl,rm,rn,hz,ez]
theorem aq9:gx n [fo m,J 5,a8 m.vars,aH m.defs,av m.init,av m.bk,aH m.next,av m.trans,av m.fair,bs m.specs,J 0,J 0]=some (if(b2 (hU m) m.next.length 0).2=0 then .inl [fo m,J 6,a8 m.vars,aH m.defs,av m.init,av m.bk,aH m.next,av m.trans,av m.fair,bs m.specs,J 0,J 0] else .inr (.inr (da (5,b2 (hU m) m.next.length 0)))):=by
 have ez:=aq2 hm (fo m) (J 5)
 have bW:decide ((5:Int)<9)=true:=rfl
 have eb:ct 9 (J 5)=some 5:=rfl
 have a4:jT false 1 (5*1) (fo m)=some (D.di 156 (aH m.next)):=rfl
 have hz:Cb n [aH m.next]=some (J m.next.length):=by simp only [Cb,Tr,go_sem,dG]
 have fa:binP false .add (J 5) (J 1)=some (J 6):=dU (by decide) (by decide)
 by_cases aj:(b2 (hU m) m.next.length 0).2=0
 ·rw [if_pos aj] at ez⊢
  simp only [gx,go_sem,bW,eb,a4,gW,Jd,Je,Jf,Jg,Jh,hz,ez,fa]
 ·rw [if_neg aj] at ez⊢
  simp only [gx,go_sem,bW,eb,a4,gW,Jd,Je,Jf,Jg,Jh,hz,ez]
theorem ara:gx n [fo m,J 6,a8 m.vars,aH m.defs,av m.init,av m.bk,aH m.next,av m.trans,av m.fair,bs m.specs,J 0,J 0]=some (if(b2 (dY m m.trans true) m.trans.length 0).2=0 then .inl [fo m,J 7,a8 m.vars,aH m.defs,av m.init,av m.bk,aH m.next,av m.trans,av m.fair,bs m.specs,J 0,J 0] else .inr (.inr (da (6,b2 (dY m m.trans true) m.trans.length 0)))):=by
 have ez:=Jo hm m.trans hm.trans 6 true (fo m) (J 6)
 have bW:decide ((6:Int)<9)=true:=rfl
 have eb:ct 9 (J 6)=some 6:=rfl
 have a4:jT false 1 (6*1) (fo m)=some (D.di 155 (D.agg [J 6,av m.trans,ar true])):=rfl
 have hz:px n [D.agg [J 6,av m.trans,ar true]]=some (J m.trans.length):=by
  have ax:aK 3 (D.agg [J 6,av m.trans,ar true])=true:=rfl
  have aZ:aa (D.agg [J 6,av m.trans,ar true]) 1=av m.trans:=rfl
  simp only [px,Cc,go_sem,ax,aZ,hy]
 have fa:binP false .add (J 6) (J 1)=some (J 7):=dU (by decide) (by decide)
 by_cases aj:(b2 (dY m m.trans true) m.trans.length 0).2=0
 ·rw [if_pos aj] at ez⊢
  simp only [gx,go_sem,bW,eb,a4,gW,rk,rl,rm,rn,hz,ez,fa]
 ·rw [if_neg aj] at ez⊢
  simp only [gx,go_sem,bW,eb,a4,gW,rk,rl,rm,rn,hz,ez]
theorem arb:gx n [fo m,J 7,a8 m.vars,aH m.defs,av m.init,av m.bk,aH m.next,av m.trans,av m.fair,bs m.specs,J 0,J 0]=some (if(b2 (dY m m.fair false) m.fair.length 0).2=0 then .inl [fo m,J 8,a8 m.vars,aH m.defs,av m.init,av m.bk,aH m.next,av m.trans,av m.fair,bs m.specs,J 0,J 0] else .inr (.inr (da (7,b2 (dY m m.fair false) m.fair.length 0)))):=by
 have ez:=Jo hm m.fair hm.fair 7 false (fo m) (J 7)
 have bW:decide ((7:Int)<9)=true:=rfl
 have eb:ct 9 (J 7)=some 7:=rfl
 have a4:jT false 1 (7*1) (fo m)=some (D.di 155 (D.agg [J 7,av m.fair,ar false])):=rfl
 have hz:px n [D.agg [J 7,av m.fair,ar false]]=some (J m.fair.length):=by
  have ax:aK 3 (D.agg [J 7,av m.fair,ar false])=true:=rfl
  have aZ:aa (D.agg [J 7,av m.fair,ar false]) 1=av m.fair:=rfl
  simp only [px,Cc,go_sem,ax,aZ,hy]
 have fa:binP false .add (J 7) (J 1)=some (J 8):=dU (by decide) (by decide)
 by_cases aj:(b2 (dY m m.fair false) m.fair.length 0).2=0
 ·rw [if_pos aj] at ez⊢
  simp only [gx,go_sem,bW,eb,a4,gW,rk,rl,rm,rn,hz,ez,fa]
 ·rw [if_neg aj] at ez⊢
  simp only [gx,go_sem,bW,eb,a4,gW,rk,rl,rm,rn,hz,ez]
theorem arc:gx n [fo m,J 8,a8 m.vars,aH m.defs,av m.init,av m.bk,aH m.next,av m.trans,av m.fair,bs m.specs,J 0,J 0]=some (if(b2 (hV m) m.specs.length 0).2=0 then .inl [fo m,J 9,a8 m.vars,aH m.defs,av m.init,av m.bk,aH m.next,av m.trans,av m.fair,bs m.specs,J 0,J 0] else .inr (.inr (da (8,b2 (hV m) m.specs.length 0)))):=by
 have ez:=aq3 hm (fo m) (J 8)
 have bW:decide ((8:Int)<9)=true:=rfl
 have eb:ct 9 (J 8)=some 8:=rfl
 have a4:jT false 1 (8*1) (fo m)=some (D.di 157 (bs m.specs)):=rfl
 have hz:Ca n [bs m.specs]=some (J m.specs.length):=by simp only [Ca,Tq,go_sem,g7]
 have fa:binP false .add (J 8) (J 1)=some (J 9):=dU (by decide) (by decide)
 by_cases aj:(b2 (hV m) m.specs.length 0).2=0
 ·rw [if_pos aj] at ez⊢
  simp only [gx,go_sem,bW,eb,a4,gW,Ji,Jj,Jk,Jl,Jm,Jn,hz,ez,fa]
 ·rw [if_neg aj] at ez⊢
  simp only [gx,go_sem,bW,eb,a4,gW,Ji,Jj,Jk,Jl,Jm,Jn,hz,ez]
theorem ard:bo (gx n) n [fo m,J 0,a8 m.vars,aH m.defs,av m.init,av m.bk,aH m.next,av m.trans,av m.fair,bs m.specs,J 0,J 0]=some (if(gM (lC m)).2.2=0 then .inl [J 0,J 0] else .inr (da (gM (lC m)))):=by
 have ak:=hm.hL
 refine Yv (f:=gx n) (lC m) (fun i=>[fo m,J (i:Int),a8 m.vars,aH m.defs,av m.init,av m.bk,aH m.next,av m.trans,av m.fair,bs m.specs,J 0,J 0]) [J 0,J 0] da ?_ ?_ n (by show 9<n;omega)
 ·intro i a aA
  match i,aA with
  |0,aA=>cases aA;exact aq4 hm
  |1,aA=>cases aA;exact aq5 hm
  |2,aA=>cases aA;exact aq6 hm
  |3,aA=>cases aA;exact aq7 hm
  |4,aA=>cases aA;exact aq8 hm
  |5,aA=>cases aA;exact aq9 hm
  |6,aA=>cases aA;exact ara hm
  |7,aA=>cases aA;exact arb hm
  |8,aA=>cases aA;exact arc hm
  |j+9,aA=>cases aA
 ·show gx n [fo m,J 9,a8 m.vars,aH m.defs,av m.init,av m.bk,aH m.next,av m.trans,av m.fair,bs m.specs,J 0,J 0]=_
  simp only [gx,go_sem,show decide ((9:Int)<9)=false from rfl]
theorem are:ov n [m.d]=some (da (iR m)):=by
 have ak:=hm.hL
 have ae:=aqU hm
 have lA:=ard hm
 have fA:=apP n m.vars hm.oM (by have:=hm.ba.jO;omega) hm.Yp
 have fX:=aqP n m hm.oM hm.ba.jO (by omega)
 have hp:D.agg [J (m.vars.length:Int),J (m.defs.length:Int),J (m.init.length:Int),J (m.bk.length:Int),J (m.next.length:Int),J (m.trans.length:Int),J (m.fair.length:Int),J (m.specs.length:Int)]=rj m:=rfl
 have Yz:D.agg [.di 151 (aH m.defs),.di 152 (aH m.defs),.di 153 (aH m.defs),.di 155 (.agg [J 3,av m.init,ar false]),.di 155 (.agg [J 4,av m.bk,ar false]),.di 156 (aH m.next),.di 155 (.agg [J 6,av m.trans,ar true]),.di 155 (.agg [J 7,av m.fair,ar false]),.di 157 (bs m.specs)]=fo m:=rfl
 have YA:∀l,bD (av l)=true:=fun _=>rfl
 have eg:∀t x,bD (D.di t x)=true:=fun _ _=>rfl
 unfold iR
 by_cases bc:(b2 (gV m) 8 0).2=0
 case neg=>
  rw [if_neg bc] at ae⊢
  simp only [ov,wJ,go_sem,al.agg,al.aP,al.bc,al.bm,al.bB,al.cm,al.cD,al.cE,al.cP,al.eta,fC,dG,hy,g7,hp,ae]
 rw [if_pos bc] at ae⊢
 by_cases bm:(jS m.vars).2=0
 case neg=>
  have qa:((jS m.vars).2 !=0)=true:=by simpa using bm
  rw [if_neg bm]
  simp only [ov,wJ,go_sem,al.agg,al.aP,al.bc,al.bm,al.bB,al.cm,al.cD,al.cE,al.cP,al.eta,fC,dG,hy,g7,hp,ae,fA,qa,da]
 have qa:((jS m.vars).2 !=0)=false:=by simp [bm]
 rw [if_pos bm]
 by_cases bB:30<lB m.vars
 ·have sO:=decide_eq_true (show((lB m.vars:Nat):Int)>30 by omega)
  rw [if_pos bB]
  simp only [ov,wJ,go_sem,al.agg,al.aP,al.bc,al.bm,al.bB,al.cm,al.cD,al.cE,al.cP,al.eta,fC,dG,hy,g7,hp,ae,fA,qa,fX,sO,da]
 have sO:=decide_eq_false (show¬((lB m.vars:Nat):Int)>30 by omega)
 rw [if_neg bB]
 by_cases cm:(gM (lC m)).2.2=0
 ·rw [if_pos cm] at lA
  rw [Yy _ cm]
  simp only [ov,wJ,go_sem,al.agg,al.aP,al.bc,al.bm,al.bB,al.cm,al.cD,al.cE,al.cP,al.eta,fC,dG,hy,g7,hp,ae,fA,qa,fX,sO,YA,eg,Yz,lA,da]
 ·rw [if_neg cm] at lA
  simp only [ov,wJ,go_sem,al.agg,al.aP,al.bc,al.bm,al.bB,al.cm,al.cD,al.cE,al.cP,al.eta,fC,dG,hy,g7,hp,ae,fA,qa,fX,sO,YA,eg,Yz,lA]
theorem arf(h:(p9 m).2=0):p9 m=(0,0):=by
 unfold p9 at h⊢
 obtain ⟨ad,ae⟩:=Yw.1 h
 obtain ⟨ax,aZ⟩:=Yw.1 ae
 rw [sN,if_pos ad,sN,if_pos ax,p8 _ _ _ aZ]
theorem arh:hJ n [J 0,J 0,J 2,a8 m.vars,aH m.defs,av m.init,av m.bk,aH m.next,av m.trans,av m.fair,bs m.specs,J 0,J 0]=some (if(p9 m).2=0 then .inl [J 0,J 0,J 3,a8 m.vars,aH m.defs,av m.init,av m.bk,aH m.next,av m.trans,av m.fair,bs m.specs,J 0,J 0] else .inr (.inr (da (2,p9 m)))):=by
 have gG:=aqI hm
 have bW:decide ((2:Int)≤8)=true:=rfl
 have bj:((2:Int)==2)=true:=rfl
 have fa:binP false .add (J 2) (J 1)=some (J 3):=dU (by decide) (by decide)
 by_cases aj:(p9 m).2=0
 ·have bz:=arf hm aj
  rw [bz] at gG⊢
  have fY:((0:Int) !=0)=false:=rfl
  simp only [hJ,go_sem,bW,bj,al.eta,gG,eR,fY,fa]
 ·rw [if_neg aj]
  generalize p9 m=p at*
  have c4:(p.2 !=0)=true:=by simpa using aj
  simp only [hJ,go_sem,bW,bj,al.eta,gG,eR,c4,da]
theorem ari:hJ n [J 0,J 0,J 3,a8 m.vars,aH m.defs,av m.init,av m.bk,aH m.next,av m.trans,av m.fair,bs m.specs,J 0,J 0]=some (if(b2 (dY m m.init false) m.init.length 0).2=0 then .inl [J 0,J 0,J 4,a8 m.vars,aH m.defs,av m.init,av m.bk,aH m.next,av m.trans,av m.fair,bs m.specs,J 0,J 0] else .inr (.inr (da (3,b2 (dY m m.init false) m.init.length 0)))):=by
 have gG:=I6 hm m.init hm.init false
 have bW:decide ((3:Int)≤8)=true:=rfl
 have bj:((3:Int)==2)=false:=rfl
 have bS:((3:Int)==3)=true:=rfl
 have fa:binP false .add (J 3) (J 1)=some (J 4):=dU (by decide) (by decide)
 by_cases aj:(b2 (dY m m.init false) m.init.length 0).2=0
 ·have bz:=p8 _ _ _ aj
  rw [bz] at gG⊢
  have fY:((0:Int) !=0)=false:=rfl
  simp only [hJ,go_sem,bW,bj,bS,al.eta,gG,eR,fY,fa]
 ·rw [if_neg aj]
  generalize b2 (dY m m.init false) m.init.length 0=p at*
  have c4:(p.2 !=0)=true:=by simpa using aj
  simp only [hJ,go_sem,bW,bj,bS,al.eta,gG,eR,c4,da]
theorem arj:hJ n [J 0,J 0,J 4,a8 m.vars,aH m.defs,av m.init,av m.bk,aH m.next,av m.trans,av m.fair,bs m.specs,J 0,J 0]=some (if(b2 (dY m m.bk false) m.bk.length 0).2=0 then .inl [J 0,J 0,J 5,a8 m.vars,aH m.defs,av m.init,av m.bk,aH m.next,av m.trans,av m.fair,bs m.specs,J 0,J 0] else .inr (.inr (da (4,b2 (dY m m.bk false) m.bk.length 0)))):=by
 have gG:=I6 hm m.bk hm.bk false
 have bW:decide ((4:Int)≤8)=true:=rfl
 have bj:((4:Int)==2)=false:=rfl
 have bS:((4:Int)==3)=false:=rfl
 have db:((4:Int)==4)=true:=rfl
 have fa:binP false .add (J 4) (J 1)=some (J 5):=dU (by decide) (by decide)
 by_cases aj:(b2 (dY m m.bk false) m.bk.length 0).2=0
 ·have bz:=p8 _ _ _ aj
  rw [bz] at gG⊢
  have fY:((0:Int) !=0)=false:=rfl
  simp only [hJ,go_sem,bW,bj,bS,db,al.eta,gG,eR,fY,fa]
 ·rw [if_neg aj]
  generalize b2 (dY m m.bk false) m.bk.length 0=p at*
  have c4:(p.2 !=0)=true:=by simpa using aj
  simp only [hJ,go_sem,bW,bj,bS,db,al.eta,gG,eR,c4,da]
theorem ark:hJ n [J 0,J 0,J 5,a8 m.vars,aH m.defs,av m.init,av m.bk,aH m.next,av m.trans,av m.fair,bs m.specs,J 0,J 0]=some (if(b2 (hU m) m.next.length 0).2=0 then .inl [J 0,J 0,J 6,a8 m.vars,aH m.defs,av m.init,av m.bk,aH m.next,av m.trans,av m.fair,bs m.specs,J 0,J 0] else .inr (.inr (da (5,b2 (hU m) m.next.length 0)))):=by
 have gG:=aqL hm
 have bW:decide ((5:Int)≤8)=true:=rfl
 have bj:((5:Int)==2)=false:=rfl
 have bS:((5:Int)==3)=false:=rfl
 have db:((5:Int)==4)=false:=rfl
 have dA:((5:Int)==5)=true:=rfl
 have fa:binP false .add (J 5) (J 1)=some (J 6):=dU (by decide) (by decide)
 by_cases aj:(b2 (hU m) m.next.length 0).2=0
 ·have bz:=p8 _ _ _ aj
  rw [bz] at gG⊢
  have fY:((0:Int) !=0)=false:=rfl
  simp only [hJ,go_sem,bW,bj,bS,db,dA,al.eta,gG,eR,fY,fa]
 ·rw [if_neg aj]
  generalize b2 (hU m) m.next.length 0=p at*
  have c4:(p.2 !=0)=true:=by simpa using aj
  simp only [hJ,go_sem,bW,bj,bS,db,dA,al.eta,gG,eR,c4,da]
theorem arl:hJ n [J 0,J 0,J 6,a8 m.vars,aH m.defs,av m.init,av m.bk,aH m.next,av m.trans,av m.fair,bs m.specs,J 0,J 0]=some (if(b2 (dY m m.trans true) m.trans.length 0).2=0 then .inl [J 0,J 0,J 7,a8 m.vars,aH m.defs,av m.init,av m.bk,aH m.next,av m.trans,av m.fair,bs m.specs,J 0,J 0] else .inr (.inr (da (6,b2 (dY m m.trans true) m.trans.length 0)))):=by
 have gG:=I6 hm m.trans hm.trans true
 have bW:decide ((6:Int)≤8)=true:=rfl
 have bj:((6:Int)==2)=false:=rfl
 have bS:((6:Int)==3)=false:=rfl
 have db:((6:Int)==4)=false:=rfl
 have dA:((6:Int)==5)=false:=rfl
 have ed:((6:Int)==6)=true:=rfl
 have fa:binP false .add (J 6) (J 1)=some (J 7):=dU (by decide) (by decide)
 by_cases aj:(b2 (dY m m.trans true) m.trans.length 0).2=0
 ·have bz:=p8 _ _ _ aj
  rw [bz] at gG⊢
  have fY:((0:Int) !=0)=false:=rfl
  simp only [hJ,go_sem,bW,bj,bS,db,dA,ed,al.eta,gG,eR,fY,fa]
 ·rw [if_neg aj]
  generalize b2 (dY m m.trans true) m.trans.length 0=p at*
  have c4:(p.2 !=0)=true:=by simpa using aj
  simp only [hJ,go_sem,bW,bj,bS,db,dA,ed,al.eta,gG,eR,c4,da]
theorem arn:hJ n [J 0,J 0,J 7,a8 m.vars,aH m.defs,av m.init,av m.bk,aH m.next,av m.trans,av m.fair,bs m.specs,J 0,J 0]=some (if(b2 (dY m m.fair false) m.fair.length 0).2=0 then .inl [J 0,J 0,J 8,a8 m.vars,aH m.defs,av m.init,av m.bk,aH m.next,av m.trans,av m.fair,bs m.specs,J 0,J 0] else .inr (.inr (da (7,b2 (dY m m.fair false) m.fair.length 0)))):=by
 have gG:=I6 hm m.fair hm.fair false
 have bW:decide ((7:Int)≤8)=true:=rfl
 have bj:((7:Int)==2)=false:=rfl
 have bS:((7:Int)==3)=false:=rfl
 have db:((7:Int)==4)=false:=rfl
 have dA:((7:Int)==5)=false:=rfl
 have ed:((7:Int)==6)=false:=rfl
 have nW:((7:Int)==7)=true:=rfl
 have fa:binP false .add (J 7) (J 1)=some (J 8):=dU (by decide) (by decide)
 by_cases aj:(b2 (dY m m.fair false) m.fair.length 0).2=0
 ·have bz:=p8 _ _ _ aj
  rw [bz] at gG⊢
  have fY:((0:Int) !=0)=false:=rfl
  simp only [hJ,go_sem,bW,bj,bS,db,dA,ed,nW,al.eta,gG,eR,fY,fa]
 ·rw [if_neg aj]
  generalize b2 (dY m m.fair false) m.fair.length 0=p at*
  have c4:(p.2 !=0)=true:=by simpa using aj
  simp only [hJ,go_sem,bW,bj,bS,db,dA,ed,nW,al.eta,gG,eR,c4,da]
theorem aro:hJ n [J 0,J 0,J 8,a8 m.vars,aH m.defs,av m.init,av m.bk,aH m.next,av m.trans,av m.fair,bs m.specs,J 0,J 0]=some (if(b2 (hV m) m.specs.length 0).2=0 then .inl [J 0,J 0,J 9,a8 m.vars,aH m.defs,av m.init,av m.bk,aH m.next,av m.trans,av m.fair,bs m.specs,J 0,J 0] else .inr (.inr (da (8,b2 (hV m) m.specs.length 0)))):=by
 have gG:=aqM hm
 have bW:decide ((8:Int)≤8)=true:=rfl
 have bj:((8:Int)==2)=false:=rfl
 have bS:((8:Int)==3)=false:=rfl
 have db:((8:Int)==4)=false:=rfl
 have dA:((8:Int)==5)=false:=rfl
 have ed:((8:Int)==6)=false:=rfl
 have nW:((8:Int)==7)=false:=rfl
 have Ax:((8:Int)==8)=true:=rfl
 have fa:binP false .add (J 8) (J 1)=some (J 9):=dU (by decide) (by decide)
 by_cases aj:(b2 (hV m) m.specs.length 0).2=0
 ·have bz:=p8 _ _ _ aj
  rw [bz] at gG⊢
  have fY:((0:Int) !=0)=false:=rfl
  simp only [hJ,go_sem,bW,bj,bS,db,dA,ed,nW,Ax,al.eta,gG,eR,fY,fa]
 ·rw [if_neg aj]
  generalize b2 (hV m) m.specs.length 0=p at*
  have c4:(p.2 !=0)=true:=by simpa using aj
  simp only [hJ,go_sem,bW,bj,bS,db,dA,ed,nW,Ax,al.eta,gG,eR,c4,da]
theorem arp:bo (hJ n) n [J 0,J 0,J 2,a8 m.vars,aH m.defs,av m.init,av m.bk,aH m.next,av m.trans,av m.fair,bs m.specs,J 0,J 0]=some (if(gM (lC m)).2.2=0 then .inl [J 0,J 0] else .inr (da (gM (lC m)))):=by
 have ak:=hm.hL
 rw [←aqS]
 refine Yv (f:=hJ n) (OV m) (fun i=>[J 0,J 0,J ((i+2:Nat):Int),a8 m.vars,aH m.defs,av m.init,av m.bk,aH m.next,av m.trans,av m.fair,bs m.specs,J 0,J 0]) [J 0,J 0] da ?_ ?_ n (by show 7<n;omega)
 ·intro i a aA
  match i,aA with
  |0,aA=>cases aA;exact arh hm
  |1,aA=>cases aA;exact ari hm
  |2,aA=>cases aA;exact arj hm
  |3,aA=>cases aA;exact ark hm
  |4,aA=>cases aA;exact arl hm
  |5,aA=>cases aA;exact arn hm
  |6,aA=>cases aA;exact aro hm
  |j+7,aA=>cases aA
 ·show hJ n [J 0,J 0,J 9,a8 m.vars,aH m.defs,av m.init,av m.bk,aH m.next,av m.trans,av m.fair,bs m.specs,J 0,J 0]=_
  simp only [hJ,go_sem,show decide ((9:Int)≤8)=false from rfl]
theorem arq:oz n [m.d]=some (da (iR m)):=by
 have ak:=hm.hL
 have ae:=aqV hm
 have lA:=arp hm
 have fA:=apW n m.vars hm.oM (by have:=hm.ba.jO;omega) hm.Yp
 have fX:=aqQ n m hm.oM hm.ba.jO (by omega)
 have hp:D.aE 1 [[J (m.vars.length:Int)],[J (m.defs.length:Int)],[J (m.init.length:Int)],[J (m.bk.length:Int)],[J (m.next.length:Int)],[J (m.trans.length:Int)],[J (m.fair.length:Int)],[J (m.specs.length:Int)]]=D.aE 1 ((gU m).map fun(k:Nat)=>[J (k:Int)]):=rfl
 unfold iR
 by_cases bc:(b2 (gV m) 8 0).2=0
 case neg=>
  rw [if_neg bc] at ae⊢
  simp only [oz,xq,go_sem,al.agg,al.aP,al.bc,al.bm,al.bB,al.cm,al.cD,al.cE,al.cP,al.eta,fC,dG,hy,g7,hp,ae]
 rw [if_pos bc] at ae⊢
 by_cases bm:(jS m.vars).2=0
 case neg=>
  have qa:((jS m.vars).2 !=0)=true:=by simpa using bm
  rw [if_neg bm]
  simp only [oz,xq,go_sem,al.agg,al.aP,al.bc,al.bm,al.bB,al.cm,al.cD,al.cE,al.cP,al.eta,fC,dG,hy,g7,hp,ae,fA,qa,da]
 rw [aqT bm] at fA
 have qa:((0:Int) !=0)=false:=rfl
 rw [if_pos bm]
 by_cases bB:30<lB m.vars
 ·have sO:=decide_eq_true (show((lB m.vars:Nat):Int)>30 by omega)
  rw [if_pos bB]
  simp only [oz,xq,go_sem,al.agg,al.aP,al.bc,al.bm,al.bB,al.cm,al.cD,al.cE,al.cP,al.eta,fC,dG,hy,g7,hp,ae,fA,qa,fX,sO,da]
 have sO:=decide_eq_false (show¬((lB m.vars:Nat):Int)>30 by omega)
 rw [if_neg bB]
 by_cases cm:(gM (lC m)).2.2=0
 ·rw [if_pos cm] at lA
  rw [Yy _ cm]
  simp only [oz,xq,go_sem,al.agg,al.aP,al.bc,al.bm,al.bB,al.cm,al.cD,al.cE,al.cP,al.eta,fC,dG,hy,g7,hp,ae,fA,qa,fX,sO,lA,da]
 ·rw [if_neg cm] at lA
  simp only [oz,xq,go_sem,al.agg,al.aP,al.bc,al.bm,al.bB,al.cm,al.cD,al.cE,al.cP,al.eta,fC,dG,hy,g7,hp,ae,fA,qa,fX,sO,lA]
end
end Go.Am
namespace Go.Am
set_option linter.unusedVariables false
def xX(n:Nat):Ty:= .slice 4 56 (termTy n)
def ES(n:Nat):Ty:= .slice 7 104 (.struct [.str,formTy n])
def xY(n:Nat):Ty:= .struct [GG,tN n,xX n,xX n,tN n,xX n,xX n,ES n]
theorem ars(n:Nat):∀m,m≤n→(xX n).dp m=true
 |0,_=>rfl
 |m+1,h=>by
  have:=yT n m (by omega)
  simp only [xX,Ty.dp,this]
theorem art(n:Nat):∀m,m≤n→(ES n).dp m=true
 |0,_=>rfl
 |1,_=>by simp [ES,Ty.dp]
 |m+2,h=>by
  have ad:=LV n m (by omega)
  have ae:Ty.dp m .str=true:=tM m .str rfl
  simp only [ES,Ty.dp,dpL,ad,ae,Bool.and_true]
theorem aru(n:Nat):∀m,m≤n→(xY n).dp m=true
 |0,_=>rfl
 |m+1,h=>by
  have aq:Ty.dp m GG=true:=tM m GG rfl
  simp only [xY,Ty.dp,dpL,aq,Tb n m (by omega),ars n m (by omega),art n m (by omega),Bool.and_true]
theorem arv{P:Program}{t tv td tt ts tm tf:TypeId}(h:∀a b c d e f g i,tyOk P (.struct [a,b,c,d,e,f,g,i]) t=(tyOk P a tv&&(tyOk P b td&&(tyOk P c tt&&(tyOk P d tt&&(tyOk P e td&&(tyOk P f tt&&(tyOk P g tt&&(tyOk P i ts&&true)))))))))
  (aM:tyOk P GG tv=true) (ay:qC P tN td) (aG:∀y,tyOk P (.slice 4 56 y) tt=tyOk P y tm) (hm:qC P termTy tm) (aB:∀y,tyOk P (.slice 7 104 (.struct [.str,y])) ts=(tyOk P y tf&&true)) (a4:qC P formTy tf) (an:decide (t<P.types.size)=true):qC P xY t:=
 ⟨fun n=>aru n n (Nat.le_refl _),fun n=>by
  rw [xY,h,aM,ay.ok n,xX,aG,hm.ok n,ES,aB,a4.ok n];rfl,of_decide_eq_true an,fun n=>rfl⟩
end Go.Am
namespace Go.Am
set_option linter.unusedVariables false
structure qb(m:al):Prop where
 v:∀x∈m.vars,V.ok x
 d:∀x∈m.defs,x.bO
 i:∀x∈m.init,x.bO
 oN:∀x∈m.bk,x.bO
 n:∀x∈m.next,x.bO
 t:∀x∈m.trans,x.bO
 f:∀x∈m.fair,x.bO
 s:∀x∈m.specs,x.name.size≤140737488351232∧x.f.bO
theorem arw{n:Nat}{x:List D}(h:Wt (.struct [.str,formTy n]) x):∃d:cj,x=d.cells∧d.name.size≤140737488351232∧d.f.bO:=by
 obtain ⟨a,b,rfl,aA,c,e,rfl,aj,rfl⟩:=h
 obtain ⟨s,rfl,aB⟩:=GH aA
 obtain ⟨t,rfl,aG⟩:=LW n aj
 exact ⟨⟨s,t⟩,by simp [cj.cells,Fm.mO],aB,aG⟩
end Go.Am
