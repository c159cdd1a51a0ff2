/- From what a call is handed to data, and from an answer to the row. No condition. -/
import Derived.Test.YtknmgdnhongcnaaGreatDoorEngC
import Derived.ProofKit
import Derived.OpenShut
import Derived.KernelRfl
import Derived.Deep.DeepHandedRow
import Derived.Lib.LaidTab
import Derived.Test.YtknmgdnhongcnaaGreatDoorEngS
set_option linter.all false
set_option linter.unnecessarySimpa false
namespace Go.Am
open Go.ChangeShapes Go.WideShapes Go.ChangeAt Go.RowKit
set_option linter.unusedVariables false
inductive Ty where
 |bool
 |int (k:IntKind)
 |str
 |slice (k bytes:Nat) (e:Ty)
 |arr (n:Nat) (e:Ty)
 |struct (cN:List Ty)
 |stop
mutual
def Wt:Ty→List D→Prop
 | .bool,aF=>∃b,aF=[ar b]
 | .int k,aF=>∃n,aF=[.val (.int k n)]∧(Lit.int k n).wf=true
 | .str,aF=>∃s,aF=[aJ s]∧s.size≤140737488351232
 | .slice k Br e,aF=>∃es:List (List D),aF=[.aC k es]∧es.length≤maxLen∧es.length*Br≤140737488351232∧∀x∈es,x.length=k∧Wt e x
 | .arr n e,aF=>∃hJ:List (List D),aF=hJ.flatten∧hJ.length=n∧∀x∈hJ,Wt e x
 | .struct cN,aF=>Gk cN aF
 | .stop,_=>False
def Gk:List Ty→List D→Prop
 |[],aF=>aF=[]
 |f::cN,aF=>∃a b,aF=a++b∧Wt f a∧Gk cN b
end
mutual
def rd{H:Type}:Ty→DataW H→Option (List D)
 | .bool,.lit (.bool b)=>some [ar b]
 | .int _,.lit (.int k n)=>some [.val (.int k n)]
 | .str,.lit (.string l)=>some [aJ ⟨l.toArray⟩]
 | .slice k _ _,.nil=>some [.aC k []]
 | .slice k _ e,.slice es _=>(es.mapM (rd e)).map fun xs=>[.aC k xs]
 | .arr _ e,.agg es=>(es.mapM (rd e)).map List.flatten
 | .struct cN,.agg es=>rdL cN es
 |_,_=>none
def rdL{H:Type}:List Ty→List (DataW H)→Option (List D)
 |[],[]=>some []
 |f::cN,d::aF=>(rd f d).bind fun a=>(rdL cN aF).map (a++·)
 |_,_=>none
end
mutual
def tyOk(P:Program):Ty→TypeId→Bool
 | .bool,t=>match P.underlying t with
  |some .bool=>true
  |_=>false
 | .int k,t=>match P.underlying t with
  |some (.int bf)=>decide (k=bf)
  |_=>false
 | .str,t=>match P.underlying t with
  |some .string=>true
  |_=>false
 | .stop,_=>true
 | .slice k Br e,t=>match P.underlying t with
  |some (.slice cW)=>decide (P.cellsOf cW=k)&&decide (0<k)&&decide (P.bytesOf cW=Br)&&tyOk P e cW
  |_=>false
 | .arr n e,t=>match P.underlying t with
  |some (.array fm cW)=>decide (n=fm)&&decide (P.cellsOf t=n*P.cellsOf cW)&&tyOk P e cW
  |_=>false
 | .struct cN,t=>match P.underlying t with
  |some (.struct Lj)=>tyOkL P cN Lj.toList 0 (P.cellsOf t)
  |_=>false
def tyOkL(P:Program):List Ty→List Field→Nat→Nat→Bool
 |[],[],off,n=>decide (off=n)
 |f::cN,x::xs,off,n=>decide (x.offset=off)&&tyOk P f x.type&&tyOkL P cN xs (off+P.cellsOf x.type) n
 |_,_,_,_=>false
end
mutual
def Ty.dp:Nat→Ty→Bool
 |0,_=>true
 |_+1,.stop=>false
 |n+1,.slice _ _ e=>e.dp n
 |n+1,.arr _ e=>e.dp n
 |n+1,.struct cN=>dpL n cN
 |_+1,_=>true
def dpL:Nat→List Ty→Bool
 |_,[]=>true
 |n,f::cN=>f.dp n&&dpL n cN
end
def Rel(m:Mem):List D→List Value→Prop
 |[],[]=>True
 |d::aF,v::vs=>D.one d=true∧cS m d v∧Rel m aF vs
 |_,_=>False
theorem Rel.len{m:Mem}:∀{aF:List D} {vs:List Value},Rel m aF vs→vs.length=aF.length
 |[],[],_=>rfl
 |_::_,_::_,h=>by simp [Rel.len h.2.2]
 |[],_::_,h=>h.elim
 |_::_,[],h=>h.elim
theorem Rel.at{m:Mem}:∀{aF:List D} {vs:List Value},Rel m aF vs→∀(i:Nat) (d:D),aF[i]?=some d→∃v,vs[i]?=some v∧D.one d=true∧cS m d v
 |[],[],_,i,d,h=>by simp at h
 |x::aF,v::vs,h,0,d,ax=>by simp at ax;subst ax;exact ⟨v,rfl,h.1,h.2.1⟩
 |_::_,_::_,h,i+1,d,ax=>by simpa using Rel.at h.2.2 i d (by simpa using ax)
 |[],_::_,h,_,_,_=>h.elim
 |_::_,[],h,_,_,_=>h.elim
theorem Rel.append{m:Mem}:∀{aF:List D} {vs:List Value} {ya:List D} {Lk:List Value},Rel m aF vs→Rel m ya Lk→Rel m (aF++ya) (vs++Lk)
 |[],[],_,_,_,bj=>bj
 |_::_,_::_,_,_,h,bj=>⟨h.1,h.2.1,Rel.append h.2.2 bj⟩
 |[],_::_,_,_,h,_=>h.elim
 |_::_,[],_,_,h,_=>h.elim
theorem Rel.one{m:Mem}:∀{aF:List D} {vs:List Value},Rel m aF vs→aF.all D.one=true
 |[],[],_=>rfl
 |_::_,_::_,h=>by simp only [List.all_cons,h.1,Rel.one h.2.2,Bool.and_self]
 |[],_::_,h=>h.elim
 |_::_,[],h=>h.elim
theorem Ll{α:Type}:∀(n:Nat) (Q:Nat→α→Prop),(∀i,i<n→∃y,Q i y)→∃cO:List α,cO.length=n∧∀(i:Nat) (y:α),cO[i]?=some y→Q i y
 |0,_,_=>⟨[],rfl,by intro i y h;simp at h⟩
 |n+1,Q,h=>by
  obtain ⟨cO,ad,ae⟩:=Ll n (fun i=>Q (i+1)) fun i ag=>h (i+1) (by omega)
  obtain ⟨y,aN⟩:=h 0 (by omega)
  refine ⟨y::cO,by simp [ad],?_⟩
  intro i z bM
  cases i with
  |zero=>simp at bM;subst bM;exact aN
  |succ i=>exact ae i z (by simpa using bM)
theorem Lm{α β:Type}(f:α→Option β):∀(l:List α) (r:List β),r.length=l.length→(∀(i:Nat) (x:α) (y:β),l[i]?=some x→r[i]?=some y→f x=some y)→l.mapM f=some r
 |[],[],_,_=>rfl
 |x::l,y::r,an,h=>by
  have aq:=h 0 x y rfl rfl
  have ih:=Lm f l r (by simpa using an) fun i x y af aN=>h (i+1) x y (by simpa using af) (by simpa using aN)
  simp [List.mapM_cons,aq,ih]
 |[],_::_,h,_=>by simp at h
 |_::_,[],h,_=>by simp at h
section
variable{H:Type}{enc:TypeId×Value→H}{P:Program}{w:World}{base:Nat}{spare:Nat→Bool}{held:Bool}
theorem pieces{m:Mem}{c:Nat}{cs:List Value}:∀(hJ:List (List D)) (o:Nat),(∀(i:Nat) (x:List D),hJ[i]?=some x→Rel m x ((cs.drop (o+i*c)).take c))→(o+hJ.length*c=cs.length)→Rel m hJ.flatten (cs.drop o)
 |[],o,_,an=>by
  have:cs.drop o=[]:=List.drop_eq_nil_of_le (by simp at an;omega)
  rw [this];trivial
 |x::r,o,h,an=>by
  have dR:o+c+r.length*c=cs.length:=by simp only [List.length_cons,Nat.add_mul] at an;omega
  have aq:=h 0 x rfl
  have ih:=pieces (m:=m) (cs:=cs) (c:=c) r (o+c) (fun i x af=>by
   have:=h (i+1) x (by simpa using af)
   rw [show o+c+i*c=o+(i+1)*c by rw [Nat.add_mul];omega]
   exact this) dR
  have e:cs.drop o=(cs.drop o).take c++cs.drop (o+c):=by
   conv=>lhs;rw [←List.take_append_drop c (cs.drop o)]
   rw [List.drop_drop]
  rw [e,List.flatten_cons]
  refine Rel.append ?_ ih
  simpa using aq
theorem Ln{H:Type}{P:Program}{e:TypeId}:∀{l:List (DataW H)} {x:DataW H} {y:Nat},x∈l→y∈x.weights P e→y∈DataW.weightsAll P e l
 |a::r,x,y,af,aN=>by
  simp only [DataW.weightsAll,List.mem_append]
  rcases List.mem_cons.1 af with rfl|af
  ·exact .inl aN
  ·exact .inr (Ln af aN)
theorem Sh(m:Mem)(hm:∀b o,w.heap[b]?=some o→m b=some o):∀(n:Nat) (ty:Ty) (t:TypeId) (cs:List Value) (x:DataW H×List MemPlace),tyOk P ty t=true→ty.dp n=true→(x.1.weights P t).all (·≤reachBytes)=true→DataW.trod enc P w base spare held n t cs=some x→
  ∃aF,rd ty x.1=some aF∧Wt ty aF∧Rel m aF cs:=by
 intro n
 induction n with
 |zero=>intro ty t cs x _ _ _ h;simp [DataW.trod] at h
 |succ n ih=>
  intro ty t cs x ej ki iM h
  cases ty with
  |stop=>simp [Ty.dp] at ki
  |bool=>
   simp only [tyOk] at ej
   split at ej
   ·obtain ⟨b,rfl,rfl⟩:=DataW.trod_bool ‹_› h
    exact ⟨[ar b],rfl,⟨b,rfl⟩,rfl,.val _,trivial⟩
   ·cases ej
  |int k=>
   simp only [tyOk] at ej
   split at ej
   ·have:=of_decide_eq_true ej
    subst this
    obtain ⟨z,rfl,rfl,hw⟩:=DataW.trod_int ‹_› h
    exact ⟨[.val (.int k z)],rfl,⟨z,rfl,hw⟩,rfl,.val _,trivial⟩
   ·cases ej
  |str=>
   simp only [tyOk] at ej
   split at ej
   ·obtain ⟨s,rfl,rfl,hw⟩:=DataW.trod_string ‹_› h
    refine ⟨[aJ s],?_,⟨s,rfl,?_⟩,rfl,.val _,trivial⟩
    ·simp [rd]
    ·simp only [DataW.weights,List.all_cons,List.all_nil,Bool.and_true,decide_eq_true_eq] at iM
     simp only [reachBytes] at iM
     simpa using iM
   ·cases ej
  |slice k Br e=>
   simp only [tyOk] at ej
   split at ej
   ·rename_i cW hu
    simp only [Bool.and_eq_true,decide_eq_true_eq] at ej
    obtain ⟨⟨⟨ai,Bs⟩,uI⟩,he⟩:=ej
    subst ai
    subst uI
    simp only [Ty.dp] at ki
    rcases DataW.trod_slice hu h with⟨rfl,rfl⟩|⟨a,len,cap,elems,rest,fm,aI,rfl,rfl,ak,PD,uD,eu,Bt,_,_⟩
    ·exact ⟨[.aC _ []],rfl,⟨[],rfl,by simp,by simp,by simp⟩,rfl,.k6 _ _ _,trivial⟩
    ·cases aI
     simp only [DataW.weights,hu,List.all_cons,List.all_append,Bool.and_eq_true,decide_eq_true_eq,List.length_map,reachBytes] at iM
     obtain ⟨sK,JE,_⟩:=iM
     have each:∀i,i<len→∃aF,∃x,elems[i]?=some x∧rd e x.1=some aF∧Wt e aF∧∃c,w.cells? base (a.add (i*P.cellsOf cW)) (P.cellsOf cW)=some c∧Rel m aF c:=by
      intro i ag
      have ad:=Bt i ag
      rw [List.getElem?_eq_getElem (by omega)] at ad
      obtain ⟨c,ae,ay⟩:=Option.bind_eq_some_iff.1 ad
      have Lo:((elems[i]'(by omega)).1.weights P cW).all (·≤reachBytes)=true:=by
       refine List.all_eq_true.2 fun y aN=>List.all_eq_true.1 JE y ?_
       exact Ln (List.mem_map.2 ⟨_,List.getElem_mem _,rfl⟩) aN
      obtain ⟨aF,a1,a9,bH⟩:=ih e cW c _ he ki Lo ay
      exact ⟨aF,_,List.getElem?_eq_getElem (by omega),a1,a9,c,ae,bH⟩
     obtain ⟨es,an,kq⟩:=Ll len _ each
     have Lp:∀(i:Nat) (aF:List D),es[i]?=some aF→aF.length=P.cellsOf cW:=by
      intro i aF ag
      obtain ⟨_,_,_,_,c,aj,av⟩:=kq i aF ag
      rw [←av.len];exact (World.cells?_some aj).2.1
     refine ⟨[.aC (P.cellsOf cW) es],?_,⟨es,rfl,by omega,?_,?_⟩,rfl,?_,trivial⟩
     ·simp only [rd]
      rw [Lm (rd e) (elems.map (·.1)) es (by simp;omega)]
      ·rfl
      ·intro i x y af aN
       obtain ⟨z,ad,ae,_⟩:=kq i y aN
       simp [ad] at af
       rw [←af];exact ae
     ·have:es.length≤elems.length+rest.length:=by omega
      exact Nat.le_trans (Nat.mul_le_mul_right _ this) (of_decide_eq_true sK)
     ·intro x af
      obtain ⟨i,ag,rfl⟩:=List.getElem_of_mem af
      obtain ⟨_,_,_,a9,_⟩:=kq i _ (List.getElem?_eq_getElem ag)
      exact ⟨Lp i _ (List.getElem?_eq_getElem ag),a9⟩
     ·by_cases aq:len=0
      ·subst aq
       have:es=[]:=List.eq_nil_of_length_eq_zero an
       subst this
       exact .k6 _ _ _
      ·have uG:∀(i:Nat) (aF:List D),es[i]?=some aF→∀j,j<P.cellsOf cW→w.cell? ((a.add (i*P.cellsOf cW)).add j)≠none:=by
        intro i aF ag j aH
        obtain ⟨_,_,_,_,c,aj,av⟩:=kq i aF ag
        obtain ⟨_,bq,bk⟩:=World.cells?_some aj
        rw [bk j aH,List.getElem?_eq_getElem (by omega)]
        simp
       have rp:=uG 0 _ (List.getElem?_eq_getElem (by omega)) 0 Bs
       simp only [Nat.zero_mul,Addr.add,if_true] at rp
       obtain ⟨b,off,spot⟩:=a
       unfold World.cell? at rp
       cases bw:w.heap[b]? with
       |none=>simp [bw] at rp
       |some o=>
        cases o with
        |cells vs T dF=>
         simp only [bw] at rp
         have adZ:spot=none:=by
          cases spot with
          |none=>rfl
          |some s=>simp at rp
         subst adZ
         have cellAt:∀q,w.cell? ⟨b,q,none⟩=vs[q]?:=by intro q;simp [World.cell?,bw]
         have ad0:∀q,(⟨b,off,none⟩:Addr).add q=⟨b,off+q,none⟩:=by intro q;unfold Addr.add;split<;>simp_all
         have ad1:∀o q,(⟨b,o,none⟩:Addr).add q=⟨b,o+q,none⟩:=by intro o q;unfold Addr.add;split<;>simp_all
         have key:∀(i:Nat) (aF:List D) (j:Nat) (c:D),es[i]?=some aF→aF[j]?=some c→∃v,vs[off+i*P.cellsOf cW+j]?=some v∧cS m c v:=by
          intro i aF j c ag aH
          obtain ⟨_,_,_,_,a0,aj,av⟩:=kq i aF ag
          obtain ⟨_,bq,bk⟩:=World.cells?_some aj
          obtain ⟨v,eZ,_,e6⟩:=av.at j c aH
          have cU:j<P.cellsOf cW:=by rw [←Lp i aF ag];exact (List.getElem?_eq_some_iff.1 aH).1
          refine ⟨v,?_,e6⟩
          rw [←eZ,←bk j cU,ad0,ad1,cellAt]
         rw [←an]
         refine .aC _ es b off cap vs T dF (hm _ _ bw) ?_ (by omega) (fun i j=>(vs[off+i*P.cellsOf cW+j]?).getD undef) ?_ ?_
         ·intro x af
          obtain ⟨i,ag,rfl⟩:=List.getElem_of_mem af
          obtain ⟨_,_,_,_,_,_,av⟩:=kq i _ (List.getElem?_eq_getElem ag)
          exact ⟨Lp i _ (List.getElem?_eq_getElem ag),av.one⟩
         ·intro i aF j c ag aH
          obtain ⟨v,ad,_⟩:=key i aF j c ag aH
          simp [ad]
         ·intro i aF j c ag aH
          obtain ⟨v,ad,ae⟩:=key i aF j c ag aH
          simpa [ad] using ae
        |_=>simp [bw] at rp
   ·cases ej
  |arr k e=>
   simp only [tyOk] at ej
   split at ej
   ·rename_i bf cW hu
    simp only [Bool.and_eq_true,decide_eq_true_eq] at ej
    obtain ⟨⟨ai,aj⟩,he⟩:=ej
    subst ai
    obtain ⟨xs,fm,aI,rfl,hlen,qd,Bt⟩:=DataW.trod_array hu h
    cases aI
    simp only [Ty.dp] at ki
    simp only [DataW.weights,hu] at iM
    have each:∀i,i<k→∃aF,∃x,xs[i]?=some x∧rd e x.1=some aF∧Wt e aF∧Rel m aF ((cs.drop (i*P.cellsOf cW)).take (P.cellsOf cW)):=by
     intro i ag
     have ad:=Bt i ag
     rw [List.getElem?_eq_getElem (by omega)] at ad
     have Lo:((xs[i]'(by omega)).1.weights P cW).all (·≤reachBytes)=true:=by
      refine List.all_eq_true.2 fun y aN=>List.all_eq_true.1 iM y ?_
      exact Ln (List.mem_map.2 ⟨_,List.getElem_mem _,rfl⟩) aN
     obtain ⟨aF,a1,a9,bH⟩:=ih e cW _ _ he ki Lo ad
     exact ⟨aF,_,List.getElem?_eq_getElem (by omega),a1,a9,bH⟩
    obtain ⟨es,an,kq⟩:=Ll k _ each
    refine ⟨es.flatten,?_,⟨es,rfl,an,?_⟩,?_⟩
    ·simp only [rd]
     rw [Lm (rd e) (xs.map (·.1)) es (by simp;omega)]
     ·rfl
     ·intro i x y af aN
      obtain ⟨z,ad,ae,_⟩:=kq i y aN
      simp [ad] at af
      rw [←af];exact ae
    ·intro x af
     obtain ⟨i,ag,rfl⟩:=List.getElem_of_mem af
     obtain ⟨_,_,_,a9,_⟩:=kq i _ (List.getElem?_eq_getElem ag)
     exact a9
    ·have:=pieces (m:=m) (c:=P.cellsOf cW) (cs:=cs) es 0 (fun i x af=>by
      obtain ⟨_,_,_,_,bH⟩:=kq i x af
      simpa using bH) (by rw [an];omega)
     simpa using this
   ·cases ej
  |struct cN=>
   simp only [tyOk] at ej
   split at ej
   ·rename_i Lj hu
    obtain ⟨xs,fm,aI,rfl,hlen,qd,Bt⟩:=DataW.trod_struct hu h
    cases aI
    simp only [Ty.dp] at ki
    simp only [DataW.weights,hu] at iM
    have go:∀(cN:List Ty) (gs:List Field) (cO:List (DataW H×List MemPlace)) (off:Nat),tyOkL P cN gs off (P.cellsOf t)=true→dpL n cN=true→(DataW.weightsEach P (gs.map (·.type)) (cO.map (·.1))).all (·≤reachBytes)=true→cO.length=gs.length→
      (∀(i:Nat) (f:Field),gs[i]?=some f→DataW.trod enc P w base spare held n f.type ((cs.drop f.offset).take (P.cellsOf f.type))=cO[i]?)→
      ∃aF,rdL cN (cO.map (·.1))=some aF∧Gk cN aF∧Rel m aF (cs.drop off):=by
     intro cN
     induction cN with
     |nil=>
      intro gs cO off ad Bu sK ae ay
      cases gs with
      |nil=>
       simp only [tyOkL,decide_eq_true_eq] at ad
       have:cO=[]:=List.eq_nil_of_length_eq_zero ae
       subst this
       refine ⟨[],rfl,rfl,?_⟩
       rw [List.drop_eq_nil_of_le (by omega)]
       trivial
      |cons _ _=>simp [tyOkL] at ad
     |cons f cN ad2=>
      intro gs cO off ad Bu sK ae ay
      cases gs with
      |nil=>simp [tyOkL] at ad
      |cons g gs=>
       cases cO with
       |nil=>simp at ae
       |cons y cO=>
        simp only [tyOkL,Bool.and_eq_true,decide_eq_true_eq] at ad
        obtain ⟨⟨aS,aV⟩,bz⟩:=ad
        simp only [dpL,Bool.and_eq_true] at Bu
        simp only [List.map_cons,DataW.weightsEach,List.all_append,Bool.and_eq_true] at sK
        obtain ⟨a,ah,aT,bP⟩:=ih f g.type _ y aV Bu.1 sK.1 (ay 0 g rfl)
        obtain ⟨b,fo,g4,jh⟩:=ad2 gs cO _ bz Bu.2 sK.2 (by simpa using ae) (fun i f a4=>by simpa using ay (i+1) f (by simpa using a4))
        refine ⟨a++b,by simp [rdL,ah,fo],⟨a,b,rfl,aT,g4⟩,?_⟩
        have e:cs.drop off=(cs.drop off).take (P.cellsOf g.type)++cs.drop (off+P.cellsOf g.type):=by
         conv=>lhs;rw [←List.take_append_drop (P.cellsOf g.type) (cs.drop off)]
         rw [List.drop_drop]
        rw [e]
        refine Rel.append ?_ jh
        rw [←aS];exact bP
    obtain ⟨aF,a1,a9,bH⟩:=go cN Lj.toList xs 0 ej ki iM (by simpa using qd) (fun i f a4=>Bt i f (by simpa using a4))
    exact ⟨aF,a1,a9,by simpa using bH⟩
   ·cases ej
end
end Go.Am
namespace Go.Am
open Go.ChangeShapes Go.WideShapes Go.ChangeAt Go.RowKit
set_option linter.unusedVariables false
def yC:Ty→D→Prop
 | .struct cN,d=>∃aF,d= .agg aF∧Gk cN aF
 | .arr _ _,_=>False
 |ty,d=>Wt ty [d]
def Gl{H:Type}(ty:Ty)(x:DataW H)(d:D):Prop:=match ty with
 | .struct cN=>∃aF,d= .agg aF∧rd (.struct cN) x=some aF
 |ty=>rd ty x=some [d]
abbrev o8:=Nat→Ty
def Bv(t:Ty):o8:=fun _=>t
mutual
def noStop:Ty→Bool
 | .stop=>false
 | .slice _ _ e=>noStop e
 | .arr _ e=>noStop e
 | .struct cN=>noStopL cN
 |_=>true
def noStopL:List Ty→Bool
 |[]=>true
 |f::cN=>noStop f&&noStopL cN
end
mutual
theorem tq:∀(n:Nat) (t:Ty),noStop t=true→t.dp n=true
 |0,t,_=>by cases t<;>rfl
 |n+1,.stop,h=>by simp [noStop] at h
 |n+1,.slice _ _ e,h=>by rw [noStop] at h;rw [Ty.dp];exact tq n e h
 |n+1,.arr _ e,h=>by rw [noStop] at h;rw [Ty.dp];exact tq n e h
 |n+1,.struct cN,h=>by rw [noStop] at h;rw [Ty.dp];exact Si n cN h
 |n+1,.bool,_=>rfl
 |n+1,.int _,_=>rfl
 |n+1,.str,_=>rfl
theorem Si:∀(n:Nat) (t:List Ty),noStopL t=true→dpL n t=true
 |n,[],_=>by cases n<;>rfl
 |n,f::cN,h=>by
  rw [noStopL,Bool.and_eq_true] at h
  rw [dpL,tq n f h.1,Si n cN h.2];rfl
end
def Sj:Ty→Bool
 | .arr _ _=>false
 |_=>true
structure qt(P:Program)(F:o8)(t:TypeId):Prop where
 deep:∀n,(F n).dp n=true
 ok:∀n,tyOk P (F n) t=true
 lt:t<P.types.size
 ad3:∀n,Sj (F n)=true
theorem Sk{P:Program}{y:Ty}{t:TypeId}(h:(noStop y&&Sj y&&tyOk P y t&&decide (t<P.types.size))=true):qt P (Bv y) t:=by
 simp only [Bool.and_eq_true,decide_eq_true_eq] at h
 exact ⟨fun n=>tq n y h.1.1.1,fun _=>h.1.2,h.2,fun _=>h.1.1.2⟩
def yD(P:Program):List o8→List TypeId→Prop
 |[],[]=>True
 |F::Fs,t::ts=>qt P F t∧yD P Fs ts
 |_,_=>False
theorem yD.lt{P:Program}:∀{Fs:List o8} {ts:List TypeId},yD P Fs ts→∀t∈ts,t<P.types.size
 |[],[],_,t,h=>by simp at h
 |F::Fs,u::ts,h,t,aG=>by
  rcases List.mem_cons.1 aG with rfl|aG
  ·exact h.1.lt
  ·exact yD.lt h.2 t aG
 |[],_::_,h,_,_=>h.elim
 |_::_,[],h,_,_=>h.elim
def RWAll{H:Type}:List o8→List (DataW H)→List D→Prop
 |[],[],[]=>True
 |F::Fs,x::xs,d::aF=>(∃n,Gl (F n) x d∧yC (F n) d)∧RWAll Fs xs aF
 |_,_,_=>False
section
variable{H:Type}{enc:TypeId×Value→H}{P:Program}{w:World}
theorem Gm{m:Mem}{aF:List D}{v:Value}(h:Rel m aF [v]):∃d,aF=[d]∧cS m d v:=by
 cases aF with
 |nil=>exact h.elim
 |cons d r=>
  cases r with
  |nil=>exact ⟨d,rfl,h.2.1⟩
  |cons _ _=>exact h.2.2.elim
theorem ad4{m:Mem}{aF:List D}{cs:Array Value}(h:Rel m aF cs.toList):cS m (.agg aF) (.agg cs):=by
 refine .agg _ _ (by simpa using h.len) ?_
 intro i c v aj aM
 obtain ⟨u,ad,_,ae⟩:=h.at i c aj
 have:cs[i]?=some u:=by simpa using ad
 rw [aM] at this;cases this;exact ae
theorem ad5(m:Mem)(hm:∀(b:Nat) (o:Obj),w.heap[b]?=some o→m b=some o){r:Reach}{Bi base:Nat}{sp:Nat→Bool}{held:Bool}{F:o8}{t:TypeId}{v:Value}{x:DataW H}{h2:List MemPlace}
  (hV:qt P F t) (iM:(x.weights P t).all (·≤reachBytes)=true) (mQ:Value.okWide P w r Bi t v) (h:DataW.Trod enc P w base sp held t v x h2):∃d n,Gl (F n) x d∧yC (F n) d∧cS m d v:=by
 obtain ⟨n,aI⟩:=h
 have ej:=hV.ok n
 have Bw:=hV.ad3 n
 obtain ⟨aF,ad,ae,ay⟩:=Sh m hm n (F n) t _ _ ej (hV.deep n) iM aI
 suffices h:∃d,Gl (F n) x d∧yC (F n) d∧cS m d v from let⟨d,a⟩:=h;⟨d,n,a⟩
 clear hV aI
 generalize F n=ty at*
 cases ty with
 |bool=>
  simp only [tyOk] at ej
  split at ej
  ·obtain ⟨b,rfl⟩:=okWide_bool ‹_› mQ
   obtain ⟨d,rfl,ax⟩:=Gm ay
   exact ⟨d,ad,ae,ax⟩
  ·cases ej
 |int k=>
  simp only [tyOk] at ej
  split at ej
  ·obtain ⟨b,rfl⟩:=okWide_int ‹_› mQ
   obtain ⟨d,rfl,ax⟩:=Gm ay
   exact ⟨d,ad,ae,ax⟩
  ·cases ej
 |str=>
  simp only [tyOk] at ej
  split at ej
  ·obtain ⟨b,rfl⟩:=okWide_string ‹_› mQ
   obtain ⟨d,rfl,ax⟩:=Gm ay
   exact ⟨d,ad,ae,ax⟩
  ·cases ej
 |stop=>exact (by simpa [Wt] using ae:False).elim
 |slice k Br e=>
  simp only [tyOk] at ej
  split at ej
  ·obtain ⟨a,l,c,rfl⟩:=okWide_slice ‹_› mQ
   obtain ⟨d,rfl,ax⟩:=Gm ay
   exact ⟨d,ad,ae,ax⟩
  ·cases ej
 |arr n e=>cases Bw
 |struct cN=>
  simp only [tyOk] at ej
  split at ej
  ·obtain ⟨cs,rfl,_⟩:=okWide_struct ‹_› mQ
   exact ⟨.agg aF,⟨aF,rfl,ad⟩,⟨aF,rfl,ae⟩,ad4 ay⟩
  ·cases ej
theorem Sl(m:Mem)(hm:∀(b:Nat) (o:Obj),w.heap[b]?=some o→m b=some o){r:Reach}{Bi base:Nat}{sp:Nat→Bool}{held:Bool}:∀{Fs:List o8} {ts:List TypeId} {vs:List Value} {xs:List (DataW H)} {h2:List MemPlace},
  yD P Fs ts→(DataW.weightsEach P ts xs).all (·≤reachBytes)=true→(∀(j:Nat) t v,ts[j]?=some t→vs[j]?=some v→Value.okWide P w r Bi t v)→DataW.TrodAll enc P w base sp held ts vs xs h2→
  ∃aF,RWAll Fs xs aF∧uN m aF vs
 |[],[],vs,xs,h2,_,_,_,h=>by
  obtain ⟨rfl,rfl,rfl⟩:=trodAll_nil h
  exact ⟨[],trivial,rfl,by intro i d v ax;simp at ax⟩
 |F::Fs,t::ts,vs,xs,h2,ej,iM,mQ,h=>by
  obtain ⟨v,Lk,x,EZ,p,q,rfl,rfl,rfl,ad,ae⟩:=trodAll_cons h
  simp only [DataW.weightsEach,List.all_append,Bool.and_eq_true] at iM
  obtain ⟨d,n,d1,d2,d3⟩:=ad5 m hm ej.1 iM.1 (mQ 0 t v rfl rfl) ad
  obtain ⟨aF,aS,bz⟩:=Sl m hm ej.2 iM.2 (fun j t v aG aM=>mQ (j+1) t v (by simpa using aG) (by simpa using aM)) ae
  refine ⟨d::aF,⟨⟨n,d1,d2⟩,aS⟩,by simpa using bz.1,?_⟩
  intro i c u aj hu
  cases i with
  |zero=>simp at aj hu;subst aj;subst hu;exact d3
  |succ i=>exact bz.2 i c u (by simpa using aj) (by simpa using hu)
 |[],_::_,_,_,_,h,_,_,_=>h.elim
 |_::_,[],_,_,_,h,_,_,_=>h.elim
theorem again{W kU:World}(hle:∀(b:Nat) (o:Obj),W.heap[b]?=some o→kU.heap[b]?=some o)(an:laidOutB P=true)(hm:mapsRowed P=true)
  (bM:((List.range P.types.size).all fun t=>match P.underlying t with|some (.slice e)=>decide (0<P.cellsOf e)|_=>true)=true) {sp:Nat→Bool}:
  ∀{ts:List TypeId} {vs:List Value} {aF:List (DataW H)} {h2:List MemPlace},(∀t∈ts,t<P.types.size)→DataW.TrodAll enc P W 0 (fun _=>true) true ts vs aF h2→
   (∀p∈h2,p.block<W.heap.size)→(∀p∈h2,sp p.block=true)→DataW.TrodAll enc P kU 0 sp true ts vs aF h2
 |[],[],[],_,_,h,_,_=>h
 |t::ts,v::vs,d::aF,_,aG,⟨p,q,⟨n,ad⟩,ae,e⟩,bW,az=>by
  refine ⟨p,q,⟨n,?_⟩,again hle an hm bM (fun t h=>aG t (by simp [h])) ae (fun x af=>bW x (by rw [e];exact List.mem_append_right _ af)) (fun x af=>az x (by rw [e];exact List.mem_append_right _ af)),e⟩
  refine DataW.trod_stays (kids_rows an hm) (fun{t e} ad ae=>slices_full_of P bM t e ad ae) (fun h=>by cases h) (aG t (by simp)) ad ?_ (fun x af=>az x (by rw [e];exact List.mem_append_left _ af))
  intro x af
  have ak:=bW x (by rw [e];exact List.mem_append_left _ af)
  have bw:kU.heap[x.block]?=W.heap[x.block]?:=by
   rw [Array.getElem?_eq_getElem ak]
   exact hle _ _ (Array.getElem?_eq_getElem ak)
  cases x with
  |cell b off=>
   show kU.cell? ⟨b,off,none⟩=W.cell? ⟨b,off,none⟩
   unfold World.cell?
   rw [show kU.heap[b]?=W.heap[b]? from bw]
  |map b=>exact bw
def Gn(W:World):eC:=⟨fun _=>none,W.os,W.output,W.heap.size⟩
theorem ad6(W:World):qh (fun b=>W.heap[b]?) (Gn W) W:=by
 refine ⟨fun b o h=>h,⟨fun b o h=>by simp [Gn] at h,rfl,rfl,Nat.le_refl _,?_⟩,fun _ _=>rfl⟩
 intro b c t f ak aj
 have:W.heap[b]?=none:=Array.getElem?_eq_none ak
 rw [aj] at this;cases this
theorem ad7{W kU:World}{cd:Mem}(hle:(show Mem from fun b=>W.heap[b]?).le cd)(h:qh cd (Gn W) kU):
  W.keptBut kU (fun _=>False)∧(∀a,kU.frozen? a=W.frozen? a)∧(∀(b:Nat) (o:Obj),W.heap[b]?=some o→kU.heap[b]?=some o):=by
 have bw:∀(b:Nat) (o:Obj),W.heap[b]?=some o→kU.heap[b]?=some o:=fun b o ak=>h.mem b o (hle b o ak)
 refine ⟨⟨h.frame.quiet.os,h.frame.quiet.out,fun i ag=>?_⟩,fun a=>?_,bw⟩
 ·have ad:=Array.getElem?_eq_getElem ag
  have ae:=bw i _ ad
  rw [ad,ae]
  split
  ·rename_i aS aV
   rw [aS] at aV
   simp only [Option.some.injEq,Obj.cells.injEq] at aV
   obtain ⟨rfl,rfl,rfl⟩:=aV
   exact ⟨rfl,rfl,rfl,fun _ _=>rfl⟩
  ·rename_i aS aV
   rw [aS] at aV
   simp only [Option.some.injEq,Obj.map.injEq] at aV
   exact Or.inr ⟨aV.1.symm,aV.2.symm⟩
  ·rfl
 ·unfold World.frozen?
  cases ak:W.heap[a.block]? with
  |some o=>rw [bw _ _ ak]
  |none=>
   have gK:W.heap.size≤a.block:=by
    refine Nat.le_of_not_lt fun bW=>?_
    rw [Array.getElem?_eq_getElem bW] at ak
    cases ak
   cases e7:kU.heap[a.block]? with
   |none=>rfl
   |some o=>
    cases o with
    |cells c t f=>
     have:=h.frame.quiet.p6 _ c t f gK e7
     subst this
     simp
    |_=>rfl
theorem ad8{G:cT}{f:FuncId}{fn:Func}{s:ChangeSpec}{Fs:List o8}{tr:TypeId}{W:World}{base:Nat}{args:Array Value}{aF gs:List (DataW H)}{before:List MemPlace}
  (an:laidOutB P=true) (hm:mapsRowed P=true)
  (bM:((List.range P.types.size).all fun t=>match P.underlying t with|some (.slice e)=>decide (0<P.cellsOf e)|_=>true)=true)
  (ej:yD P Fs fn.params.toList) (yj:fn.resultTypes= #[tr]) (gC:P.underlying tr=some .bool)
  (Sm:s.vars=[]) (az:∀aF:List (DataW H),aF.length=Fs.length→s.fn H aF=⟨[.lit (.bool true)],aF,[]⟩)
  (hc:∀hJ,RWAll Fs aF hJ→dx P G f hJ (·=ar true))
  (cA:iF G (fun b:Nat=>W.heap[b]?))
  {Sn:List TypeId} (ad9:Sn=[]) (iM:(DataW.weightsEach P (fn.params.toList++Sn) (aF++gs)).all (·≤reachBytes)=true)
  (mQ:∀(j:Nat) t v,fn.params[j]?=some t→args[j]?=some v→Value.okWide P W .any base t v)
  (yE:DataW.Whole enc P fn.params.toList s.vars false W args.toList aF gs before):
  Calls P f args W fun e kU=>∃v,e= .returned v∧s.post enc P fn false true false false W args v kU:=by
 have So:=yE
 obtain ⟨p,q,dN,gn,rfl,Gp,ate⟩:=yE
 rw [Sm] at gn
 obtain ⟨rfl,rfl⟩:=trodVars_none gn
 subst ad9
 rw [List.append_nil,List.append_nil] at iM
 obtain ⟨hJ,d1,d3⟩:=Sl (fun b=>W.heap[b]?) (fun b o h=>h) ej iM (fun j t v aG aM=>mQ j t v (by simpa using aG) (by simpa using aM)) dN
 have aj:=(hc hJ d1).run (fun b=>W.heap[b]?) (Gn W) W args.toList cA (ad6 W) d3
 have hlen:aF.length=Fs.length:=by
  have:∀(dd:List o8) (aF:List (DataW H)) (hJ:List D),RWAll dd aF hJ→aF.length=dd.length:=by
   intro dd
   induction dd with
   |nil=>intro aF hJ h;cases aF<;>cases hJ<;>simp_all [RWAll]
   |cons y dd ih=>
    intro aF hJ h
    cases aF with
    |nil=>cases hJ<;>simp [RWAll] at h
    |cons x aF=>
     cases hJ with
     |nil=>simp [RWAll] at h
     |cons d hJ=>simp [ih aF hJ h.2]
  exact this _ _ _ d1
 refine aj.mono fun e kU ⟨v,cd,r,he,av,hle,cR,aM⟩=>?_
 subst av
 have vm:v= .bool true:=by cases aM;rfl
 subst vm
 obtain ⟨cc,c6,gi⟩:=ad7 hle cR
 have bW:=So.lt
 refine ⟨_,he,?_⟩
 have tl:=az (aF++[]) (by simpa using hlen)
 simp only [List.append_nil] at tl
 refine post_of_same (pa:=p) (pv:=[]) So (fun b sp ax=>?_) (fun sp jA=>?_) (fun sp jA=>?_) rfl (World.keptBut_mono (fun _ h=>h.elim) cc) c6 (ok_one yj rfl (okWide_bool_mk gC _))
 ·rw [List.append_nil,tl,yj]
  exact trodAll_cons_mk (shut_bool gC true) trodAll_mk0
 ·rw [List.append_nil,tl]
  exact again gi an hm bM ej.lt dN (fun x af=>bW x (by simpa using af)) (fun x af=>jA x (by simpa using af))
 ·rw [List.append_nil,tl,Sm];rfl
theorem Sp{W:World}:∀(laid:List (String×DataW Unit)) (gs:List (Nat×TypeId×Ty×List D)) (h2:List MemPlace),DataW.LaidVars P W laid h2→
  gs.length=laid.length→(∀(i:Nat) x g,laid[i]?=some x→gs[i]?=some g→P.globalNamed x.1=some g.1∧(P.globals[g.1]?).map (·.type)=some g.2.1∧tyOk P g.2.2.1 g.2.1=true∧rd g.2.2.1 x.2=some g.2.2.2∧noStop g.2.2.1=true∧(x.2.weights P g.2.1).all (·≤reachBytes)=true)→
  ∀g∈gs,∃vs T dF,W.heap[g.1]?=some (.cells vs T dF)∧Rel (fun b=>W.heap[b]?) g.2.2.2 vs.toList
 |[],[],_,_,_,_,g,bD=>by simp at bD
 |(jE,x)::laid,y::gs,h2,h,an,af,g,bD=>by
  obtain ⟨oN,t,cs,fuel,p,q,ad,ae,ay,aZ,bL,_⟩:=h
  rcases List.mem_cons.1 bD with rfl|bD
  ·obtain ⟨aT,bP,ed,fX,ij,ji⟩:=af 0 _ _ rfl rfl
   have aS:=Option.some.inj (aT.symm.trans ad)
   subst aS
   have aV:=Option.some.inj (bP.symm.trans ae)
   subst aV
   obtain ⟨aF,fo,_,jh⟩:=Sh (fun b=>W.heap[b]?) (fun b o h=>h) fuel _ _ _ _ ed (tq _ _ ij) ji aZ
   have bz:=Option.some.inj (fX.symm.trans fo)
   unfold World.var? at ay
   rw [ad] at ay
   simp only [Option.bind_some] at ay
   split at ay
   ·rename_i p8 T dF bw
    cases ay
    exact ⟨_,T,dF,bw,by rw [bz];exact jh⟩
   ·cases ay
  ·exact Sp laid gs q bL (by simpa using an) (fun i x g eL aea=>af (i+1) x g (by simpa using eL) (by simpa using aea)) g bD
 |[],_::_,_,_,h,_,_,_=>by simp at h
 |_::_,[],_,_,h,_,_,_=>by simp at h
theorem aeb{G:cT}{W:World}(gs:List (Nat×TypeId×Ty×List D))(cA:∀g cs,G g=some cs→∃x∈gs,x.1=g∧x.2.2.2=cs)
  (h:∀g∈gs,∃vs T dF,W.heap[g.1]?=some (.cells vs T dF)∧Rel (fun b=>W.heap[b]?) g.2.2.2 vs.toList):iF G (fun b:Nat=>W.heap[b]?):=by
 intro g cs bD
 obtain ⟨x,af,rfl,rfl⟩:=cA g cs bD
 obtain ⟨vs,T,dF,ad,ae⟩:=h x af
 refine ⟨vs,T,dF,ad,fun j=>(vs[j]?).getD undef,?_,?_⟩
 ·intro j c aj
  obtain ⟨v,bq,_,_⟩:=ae.at j c aj
  have:vs[j]?=some v:=by simpa using bq
  simp [this]
 ·intro j c aj
  obtain ⟨v,bq,_,bk⟩:=ae.at j c aj
  have:vs[j]?=some v:=by simpa using bq
  simpa [this] using bk
end
end Go.Am
namespace Go.Am
set_option linter.unusedVariables false
def Sq:Ty:= .struct [.str,.bool,.int .i64,.int .i64]
def Gq:Ty:= .slice 4 40 Sq
def Bx:Ty:= .slice 1 8 (.int .i64)
theorem oa{α:Type}(f:α→List D)(Q:α→Prop):∀(es:List (List D)),(∀x∈es,∃y,x=f y∧Q y)→∃l:List α,es=l.map f∧∀y∈l,Q y
 |[],_=>⟨[],rfl,by simp⟩
 |x::es,h=>by
  obtain ⟨y,rfl,aN⟩:=h x (by simp)
  obtain ⟨l,rfl,an⟩:=oa f Q es fun x af=>h x (by simp [af])
  exact ⟨y::l,rfl,by intro z bM;rcases List.mem_cons.1 bM with rfl|bM;exact aN;exact an z bM⟩
theorem aec{n:Int}(h:(Lit.int .i64 n).wf=true):ln n:=by
 have:=Go.bounds_i64 h
 exact this
theorem yF{x:List D}(h:Wt (.int .i64) x):∃n,x=[J n]∧ln n:=by
 obtain ⟨n,rfl,aI⟩:=h
 exact ⟨n,rfl,aec aI⟩
theorem Gr{x:List D}(h:Wt .str x):∃s,x=[aJ s]∧s.size≤140737488351232:=h
theorem aed{x:List D}(h:Wt .bool x):∃b,x=[ar b]:=h
theorem aee{x:List D}(h:Wt Sq x):∃v:V,x=v.cells∧V.ok v:=by
 obtain ⟨a,b,rfl,aB,c,d,rfl,aj,e,f,rfl,he,g,i,rfl,bD,rfl⟩:=h
 obtain ⟨s,rfl,az⟩:=Gr aB
 obtain ⟨q,rfl⟩:=aed aj
 obtain ⟨lo,rfl,gN⟩:=yF he
 obtain ⟨ag,rfl,ta⟩:=yF bD
 exact ⟨⟨s,q,lo,ag⟩,rfl,gN,ta,by simp only;omega⟩
theorem aef{k b:Nat}{d:D}{e:Ty}(h:Wt (.slice k b e) [d]):∃es,d= .aC k es∧es.length*b≤140737488351232∧∀x∈es,Wt e x:=by
 obtain ⟨es,he,_,ad,ae⟩:=h
 cases he
 exact ⟨es,rfl,ad,fun x af=>(ae x af).2⟩
theorem Sr{d:D}(h:yC Bx d):∃l:List Int,d=cb l∧l.length*8≤140737488351232∧∀v∈l,ln v:=by
 obtain ⟨es,rfl,ad,ae⟩:=aef h
 obtain ⟨l,rfl,an⟩:=oa (fun n=>[J n]) ln es fun x af=>yF (ae x af)
 exact ⟨l,rfl,by simpa using ad,an⟩
end Go.Am
namespace Go.Am
set_option linter.unusedVariables false
abbrev c7:D:= .val (.slice none 0 0)
def b5(k:Nat)(nl:Bool)(es:List (List D)):D:=if nl&&es.isEmpty then c7 else .aC k es
section
variable{k:Nat}{nl:Bool}{es:List (List D)}
theorem aeg:b5 k false es= .aC k es:=by simp [b5]
@[simp] theorem Ss:lenP (b5 k nl es)=some (J es.length):=by
 unfold b5
 split
 ·rename_i h;simp at h;simp [h.2,J,lenP]
 ·rfl
@[simp] theorem aeh:bA (b5 k nl es)=true:=by unfold b5;split<;>rfl
@[simp] theorem aei:(b5 k nl es).one=true:=by unfold b5;split<;>rfl
theorem Lq{i:Nat}:a3 k (b5 k nl es) (J (i:Int))=es[i]?:=by
 unfold b5
 split
 ·rename_i h;simp at h;simp [h.2,J,a3]
 ·simp
@[simp] theorem atf:elP (b5 k nl es)=some (if nl&&es.isEmpty then(0,[]) else(k,es)):=by
 unfold b5;split<;>rfl
end
inductive Tm where
 |mk (op n:Int) (name:ByteArray) (nl:Bool) (kids:List Tm)
namespace Tm
def op:Tm→Int| .mk o _ _ _ _=>o
def num:Tm→Int| .mk _ n _ _ _=>n
def name:Tm→ByteArray| .mk _ _ s _ _=>s
def nl:Tm→Bool| .mk _ _ _ b _=>b
def kids:Tm→List Tm| .mk _ _ _ _ l=>l
mutual
def cells:Tm→List D
 | .mk o n s b ks=>[J o,J n,aJ s,b5 4 b (rows ks)]
def rows:List Tm→List (List D)
 |[]=>[]
 |t::r=>cells t::rows r
end
def d(t:Tm):D:= .agg t.cells
mutual
def bc:Tm→Nat
 | .mk _ _ _ _ ks=>2+dn ks
def dn:List Tm→Nat
 |[]=>0
 |t::r=>1+bc t+dn r
end
theorem ik:∀l:List Tm,rows l=l.map cells
 |[]=>rfl
 |t::r=>by simp [rows,ik r]
@[simp] theorem jj {l:List Tm}:(rows l).length=l.length:=by simp [ik]
theorem By{l:List Tm}{i:Nat}{t:Tm}(h:l[i]?=some t):(rows l)[i]?=some t.cells:=by simp [ik,h]
theorem fY{l:List Tm}{b:Bool}{i:Nat}{t:Tm}(h:l[i]?=some t):a3 4 (b5 4 b (rows l)) (J (i:Int))=some t.cells:=by rw [Lq,By h]
theorem Bz:∀l:List Tm,l.length≤dn l
 |[]=>Nat.le_refl 0
 |t::r=>by simp only [dn,List.length_cons];have:=Bz r;omega
theorem BA:∀{l:List Tm} {t:Tm},t∈l→bc t+1≤dn l
 |a::r,t,h=>by
  simp only [dn]
  rcases List.mem_cons.1 h with rfl|h
  ·omega
  ·have:=BA h;omega
theorem hK{t k:Tm}(h:k∈t.kids):k.bc+3≤t.bc:=by
 cases t with
 |mk o n s b ks=>simp only [bc];have:=BA (show k∈ks from h);omega
theorem jk{t:Tm}:t.kids.length+2≤t.bc:=by
 cases t with
 |mk o n s b ks=>simp only [bc];have:=Bz ks;show ks.length+2≤_;omega
theorem ind{P:Tm→Prop}(h:∀t:Tm,(∀k∈t.kids,P k)→P t)(t:Tm):P t:=by
 have:∀(n:Nat) (t:Tm),t.bc≤n→P t:=by
  intro n
  induction n with
  |zero=>intro t aG;cases t;simp [bc] at aG
  |succ n ih=>intro t aG;exact h t fun k ai=>ih k (by have:=hK ai;omega)
 exact this _ t (Nat.le_refl _)
inductive b1:Tm→Prop where
 |mk (o n:Int) (s:ByteArray) (b:Bool) (ks:List Tm) (aD:-9223372036854775808≤o∧o≤9223372036854775807) (aI:-9223372036854775808≤n∧n≤9223372036854775807) (az:s.size≤140737488355328) (an:ks.length*56≤140737488355328) (ai:∀k∈ks,b1 k):b1 (.mk o n s b ks)
theorem b1.ek{t k:Tm}(h:b1 t)(ai:k∈t.kids):b1 k:=by cases h with|mk o n s b ks aD aI az an eQ=>exact eQ k ai
theorem b1.len{t:Tm}(h:b1 t):t.kids.length*56≤140737488355328:=by cases h;assumption
theorem mR(t:Tm):t.cells=[J t.op,J t.num,aJ t.name,b5 4 t.nl (rows t.kids)]:=by cases t;rfl
theorem h5(t:Tm):t.d= .agg [J t.op,J t.num,aJ t.name,b5 4 t.nl (rows t.kids)]:=by cases t;rfl
@[simp] theorem lx (t:Tm):aK 4 t.d=true:=by rw [h5];simp
@[simp] theorem ly (t:Tm):aa t.d 0=J t.op:=by rw [h5];rfl
@[simp] theorem nv (t:Tm):aa t.d 1=J t.num:=by rw [h5];rfl
@[simp] theorem qu (t:Tm):aa t.d 2=aJ t.name:=by rw [h5];rfl
@[simp] theorem o9 (t:Tm):aa t.d 3=b5 4 t.nl (rows t.kids):=by rw [h5];rfl
@[simp] theorem BB (t:Tm):D.agg [J t.op,J t.num,aJ t.name,b5 4 t.nl (rows t.kids)]=t.d:=(h5 t).symm
@[simp high] theorem Lr (t:Tm):aW true 4 0 t.cells=some t.d:=by rw [h5,mR];rfl
@[simp] theorem fp (t:Tm):t.cells[0]?=some (J t.op):=by rw [mR];rfl
@[simp] theorem gp (t:Tm):t.cells[1]?=some (J t.num):=by rw [mR];rfl
@[simp] theorem aej (t:Tm):t.cells[2]?=some (aJ t.name):=by rw [mR];rfl
@[simp] theorem atg (t:Tm):t.cells[3]?=some (b5 4 t.nl (rows t.kids)):=by rw [mR];rfl
end Tm
theorem dq{β α σ:Type}{f:List D→Option (List D⊕β)}(l:List α)(S:Nat→σ→List D)(dV:List α→σ→β)(Inv:Nat→σ→Prop)
  (aq:∀s,Inv l.length s→f (S l.length s)=some (.inr (dV [] s)))
  (ad:∀(i:Nat) (a:α) (s:σ),l[i]?=some a→i<l.length→Inv i s→
   (∃s',f (S i s)=some (.inl (S (i+1) s'))∧dV (a::l.drop (i+1)) s=dV (l.drop (i+1)) s'∧Inv (i+1) s')∨f (S i s)=some (.inr (dV (a::l.drop (i+1)) s))):
  ∀(m i:Nat) (s:σ),Inv i s→l.length-i<m→i≤l.length→bm f m (S i s)=some (dV (l.drop i) s)
 |0,i,s,_,h,_=>absurd h (Nat.not_lt_zero _)
 |m+1,i,s,ag,hm,hle=>by
  rw [iterL_s]
  by_cases h:i<l.length
  ·have bD:=List.getElem?_eq_getElem h
   have e:l.drop i=l[i]::l.drop (i+1):=List.drop_eq_getElem_cons h
   rcases ad i _ s bD h ag with⟨s',a1,a9,bH⟩|a1
   ·rw [a1,e,a9]
    exact dq l S dV Inv aq ad m (i+1) s' bH (by omega) h
   ·rw [a1,e];rfl
  ·have:i=l.length:=by omega
   subst this
   rw [aq s ag,List.drop_eq_nil_of_le (Nat.le_refl _)];rfl
theorem Gs(op:Int):op=1∨op=2∨op=3∨op=4∨op=5∨op=6∨op=7∨op=8∨op=9∨op=10∨op=11∨op=12∨op=13∨op=14∨op=15∨op=16∨op=17∨op=18∨(op<1∨op>18):=by omega
end Go.Am
namespace Go.Am
set_option linter.unusedVariables false
@[simp] theorem ath {f:FuncId}:isFc f (.val (.func (.func f) #[] #[]))=true:=by simp [isFc]
@[simp] theorem lX {f:FuncId} {cs:List D}:fnOf f (.fn (.func f) [] cs)=some cs:=by simp [fnOf]
theorem Su(a b:Int):jz true [J a,J b]=some (J (if b>a then b else a)):=by
 simp [jz,intMM,mmFold,J,toDo]
theorem Sv(a b:Int):jz false [J a,J b]=some (J (if b<a then b else a)):=by
 simp [jz,intMM,mmFold,J,toDo]
@[simp] theorem Sw {b:Bool}:(ar b).flat=true:=rfl
@[simp] theorem aek {b:Int}:(J b).flat=true:=rfl
@[simp] theorem ael {b:ByteArray}:(aJ b).flat=true:=rfl
@[simp] theorem ati {a:Int}:unP .neg (J a)=some (J (IntKind.i64.wrap (-a))):=by rw [←Int.zero_sub];rfl
theorem Sx:(D.val (.bool false))=ar false:=rfl
theorem Sy:(D.val (.int .i64 0))=J 0:=rfl
theorem Sz:(D.val (.string ⟨#[]⟩))=aJ ⟨#[]⟩:=rfl
@[simp] theorem aem (a b c:D):aK 3 (.agg [a,b,c])=(a.one&&(b.one&&c.one)):=by simp [aK]
@[simp] theorem aen (a b c e:D):aK 4 (.agg [a,b,c,e])=(a.one&&(b.one&&(c.one&&e.one))):=by simp [aK]
@[simp] theorem atj {a:D} {l:List D}:aa (.agg (a::l)) 0=a:=rfl
@[simp] theorem atk {a b:D} {l:List D}:aa (.agg (a::b::l)) 1=b:=rfl
@[simp] theorem atl {a b c:D} {l:List D}:aa (.agg (a::b::c::l)) 2=c:=rfl
@[simp] theorem atm {a b c e:D} {l:List D}:aa (.agg (a::b::c::e::l)) 3=e:=rfl
theorem cj{bt:Bool}{i:Nat}(h:i<1000000000000000000):binP bt .add (J (i:Int)) (J 1)=some (J ((i+1:Nat):Int)):=by
 rw [dY (by omega) (by omega)];rfl
theorem jX{bt:Bool}{i:Int}(h:-9223372036854775809≤i)(bj:i<9223372036854775807):binP bt .add (J i) (J 1)=some (J (i+1)):=by
 rw [dY (by omega) (by omega)]
section
variable{α β:Type}{c:Prop}[Decidable c]
@[simp] theorem atn {a b:α}:(if c then(Sum.inl a:α⊕β) else Sum.inl b)=Sum.inl (if c then a else b):=by split<;>rfl
@[simp] theorem ato {a b:β}:(if c then(Sum.inr a:α⊕β) else Sum.inr b)=Sum.inr (if c then a else b):=by split<;>rfl
@[simp] theorem atp {a b:α} {l r:List α}:(if c then a::l else b::r)=(if c then a else b)::(if c then l else r):=by split<;>rfl
@[simp] theorem atq {a b:Int}:(if c then J a else J b)=J (if c then a else b):=by split<;>rfl
@[simp] theorem atr {a b:ByteArray}:(if c then aJ a else aJ b)=aJ (if c then a else b):=by split<;>rfl
@[simp] theorem Ls {a b:List D}:(if c then D.aQ a else D.aQ b)=D.aQ (if c then a else b):=by split<;>rfl
@[simp] theorem ats {a b:List D}:(if c then D.agg a else D.agg b)=D.agg (if c then a else b):=by split<;>rfl
@[simp] theorem att {f:List D→Option β} {x y:List D⊕β}:a7 f (if c then x else y)=if c then a7 f x else a7 f y:=by split<;>rfl
@[simp] theorem atu {x y:Option α} {f:α→Option β}:R (if c then x else y) f=if c then R x f else R y f:=by split<;>rfl
end
section
variable{dG:Type}{c:Prop}[Decidable c]
@[simp] theorem atv {x y:D} {w:Bool} {p:Option D}:gD (if c then x else y) w p=if c then gD x w p else gD y w p:=by split<;>rfl
@[simp] theorem atw {x y:D} {w:Bool} {p q:Option dG}:u3 (if c then x else y) w p q=if c then u3 x w p q else u3 y w p q:=by split<;>rfl
@[simp] theorem atx {x y a b:D}:pickP (if c then x else y) a b=if c then pickP x a b else pickP y a b:=by split<;>rfl
@[simp] theorem aty {x y:D} {p q:Option dG}:oif (if c then x else y) p q=if c then oif x p q else oif y p q:=by split<;>rfl
@[simp] theorem atz {x y:D} {o:UnOp}:unP o (if c then x else y)=if c then unP o x else unP o y:=by split<;>rfl
end
@[simp] theorem atA {a b:Bool}:ar a=ar b↔a=b:=⟨fun h=>by cases h;rfl,fun h=>by rw [h]⟩
@[simp] theorem atB {a b:Int}:J a=J b↔a=b:=⟨fun h=>by cases h;rfl,fun h=>by rw [h]⟩
@[simp] theorem atC {a b:ByteArray}:aJ a=aJ b↔a=b:=⟨fun h=>by cases h;rfl,fun h=>by rw [h]⟩
attribute [simp] Sx Sy Sz
end Go.Am
namespace Go.Am
set_option linter.unusedVariables false
def jY(M:List (Value×D)):Prop:=∀e∈M,∃s,e.1= .string s
def getS:List (Value×D)→ByteArray→Option D
 |[],_=>none
 |(.string s,d)::r,x=>if s=x then some d else getS r x
 |_::r,x=>getS r x
theorem SA{e:Value×D}{M:List (Value×D)}(h:jY (e::M)):(∃s,e.1= .string s)∧jY M:=⟨h e (by simp),fun x af=>h x (by simp [af])⟩
theorem SB(a b:ByteArray):Instr.sameNow .string (.string a) (.string b)=some (decide (b=a)):=by
 simp [Instr.sameNow,Jp,eq_comm]
theorem SC{M:List (Value×D)}(h:jY M)(x:ByteArray):findD .string (.string x) M=some (getS M x):=by
 induction M with
 |nil=>rfl
 |cons e r ih=>
  obtain ⟨⟨s,az⟩,av⟩:=SA h
  obtain ⟨k,d⟩:=e
  simp only at az
  subst az
  simp only [findD,SB,getS]
  by_cases af:s=x
  ·simp [af]
  ·simp [af,ih av]
theorem aeo{M:List (Value×D)}(h:jY M)(x:ByteArray)(d:D):∃dC,mapPut .string (.string x) d M=some dC∧jY dC∧(∀y,getS dC y=if y=x then some d else getS M y)∧dC.length=M.length+(if(getS M x).isSome then 0 else 1):=by
 induction M with
 |nil=>exact ⟨[(.string x,d)],rfl,by intro e he;simp at he;exact ⟨x,by rw [he]⟩,fun y=>by simp [getS,eq_comm],rfl⟩
 |cons e r ih=>
  obtain ⟨⟨s,az⟩,av⟩:=SA h
  obtain ⟨k,d0⟩:=e
  simp only at az
  subst az
  simp only [mapPut,SB,getS]
  by_cases af:s=x
  ·refine ⟨(.string x,d)::r,by simp [af],?_,fun y=>?_,by simp [af]⟩
   ·intro e he
    rcases List.mem_cons.1 he with rfl|he
    ·exact ⟨x,rfl⟩
    ·exact av e he
   ·simp only [getS]
    by_cases aN:y=x
    ·simp [aN]
    ·have:¬x=y:=fun h=>aN h.symm
     subst af
     simp [aN,this]
  ·obtain ⟨dC,ad,ae,ay,aZ⟩:=ih av
   refine ⟨(.string s,d0)::dC,by simp [af,ad],?_,fun y=>?_,by simp [af,aZ];omega⟩
   ·intro e he
    rcases List.mem_cons.1 he with rfl|he
    ·exact ⟨s,rfl⟩
    ·exact ae e he
   ·simp only [getS,ay y]
    by_cases aN:y=x
    ·subst aN;simp [af]
    ·simp [aN]
theorem lookS1{M:List (Value×D)}(h:jY M){z:Value}{x:ByteArray}:lookP .string z true M (aJ x)=some (match getS M x with|some d=> .aQ [d,ar true]|none=> .aQ [zeroD z,ar false]):=by
 simp only [lookP,aJ,SC h]
 cases getS M x<;>rfl
theorem Gt{M:List (Value×D)}(h:jY M)(x:ByteArray)(d:D):∃dC,oX .string M (aJ x) d=some dC∧jY dC∧(∀y,getS dC y=if y=x then some d else getS M y)∧dC.length=M.length+(if(getS M x).isSome then 0 else 1):=aeo h x d
def rM(M:List (Value×D)):Prop:=∀e∈M,∃i,e.1= .int .i64 i
def getI:List (Value×D)→Int→Option D
 |[],_=>none
 |(.int .i64 s,d)::r,x=>if s=x then some d else getI r x
 |_::r,x=>getI r x
theorem SD{e:Value×D}{M:List (Value×D)}(h:rM (e::M)):(∃s,e.1= .int .i64 s)∧rM M:=⟨h e (by simp),fun x af=>h x (by simp [af])⟩
theorem SE(a b:Int):Instr.sameNow (.int .i64) (.int .i64 a) (.int .i64 b)=some (decide (b=a)):=by
 by_cases h:a=b
 ·subst h;simp [Instr.sameNow]
 ·have bj:¬b=a:=fun e=>h e.symm
  simp [Instr.sameNow,h,bj]
theorem aep{M:List (Value×D)}(h:rM M)(x:Int):findD (.int .i64) (.int .i64 x) M=some (getI M x):=by
 induction M with
 |nil=>rfl
 |cons e r ih=>
  obtain ⟨⟨s,az⟩,av⟩:=SD h
  obtain ⟨k,d⟩:=e
  simp only at az
  subst az
  simp only [findD,SE,getI]
  by_cases af:s=x
  ·simp [af]
  ·simp [af,ih av]
theorem aeq{M:List (Value×D)}(h:rM M)(x:Int)(d:D):∃dC,mapPut (.int .i64) (.int .i64 x) d M=some dC∧rM dC∧(∀y,getI dC y=if y=x then some d else getI M y)∧dC.length=M.length+(if(getI M x).isSome then 0 else 1):=by
 induction M with
 |nil=>exact ⟨[(.int .i64 x,d)],rfl,by intro e he;simp at he;exact ⟨x,by rw [he]⟩,fun y=>by simp [getI,eq_comm],rfl⟩
 |cons e r ih=>
  obtain ⟨⟨s,az⟩,av⟩:=SD h
  obtain ⟨k,d0⟩:=e
  simp only at az
  subst az
  simp only [mapPut,SE,getI]
  by_cases af:s=x
  ·refine ⟨(.int .i64 x,d)::r,by simp [af],?_,fun y=>?_,by simp [af]⟩
   ·intro e he
    rcases List.mem_cons.1 he with rfl|he
    ·exact ⟨x,rfl⟩
    ·exact av e he
   ·simp only [getI]
    by_cases aN:y=x
    ·simp [aN]
    ·have:¬x=y:=fun h=>aN h.symm
     subst af
     simp [aN,this]
  ·obtain ⟨dC,ad,ae,ay,aZ⟩:=ih av
   refine ⟨(.int .i64 s,d0)::dC,by simp [af,ad],?_,fun y=>?_,by simp [af,aZ];omega⟩
   ·intro e he
    rcases List.mem_cons.1 he with rfl|he
    ·exact ⟨s,rfl⟩
    ·exact ae e he
   ·simp only [getI,ay y]
    by_cases aN:y=x
    ·subst aN;simp [af]
    ·simp [aN]
theorem aer{M:List (Value×D)}(h:rM M){z:Value}{ok:Bool}{x:Int}:lookP (.int .i64) z ok M (J x)=some (match getI M x with|some d=>if ok then .aQ [d,ar true] else d|none=>if ok then .aQ [zeroD z,ar false] else zeroD z):=by
 simp only [lookP,J,aep h]
 cases getI M x<;>rfl
theorem aes{M:List (Value×D)}(h:rM M)(x:Int)(d:D):∃dC,oX (.int .i64) M (J x) d=some dC∧rM dC∧(∀y,getI dC y=if y=x then some d else getI M y)∧dC.length=M.length+(if(getI M x).isSome then 0 else 1):=aeq h x d
end Go.Am
namespace Go.Am
set_option linter.unusedVariables false
theorem SF:∀x:List UInt8,Op.bytesLess x x=false
 |[]=>rfl
 |a::x=>by simp [Op.bytesLess,SF x]
theorem SG:∀x y z:List UInt8,Op.bytesLess x y=true→Op.bytesLess y z=true→Op.bytesLess x z=true
 |[],[],z,h,_=>by simp [Op.bytesLess] at h
 |[],b::y,[],_,h=>by simp [Op.bytesLess] at h
 |[],b::y,c::z,_,_=>rfl
 |a::x,[],z,h,_=>by simp [Op.bytesLess] at h
 |a::x,b::y,[],_,h=>by simp [Op.bytesLess] at h
 |a::x,b::y,c::z,ad,ae=>by
  simp only [Op.bytesLess,Bool.or_eq_true,Bool.and_eq_true,decide_eq_true_eq,beq_iff_eq,UInt8.lt_iff_toNat_lt] at*
  rcases ad with ad|⟨rfl,ad⟩
  ·rcases ae with ae|⟨rfl,ae⟩
   ·exact .inl (by omega)
   ·exact .inl ad
  ·rcases ae with ae|⟨rfl,ae⟩
   ·exact .inl ae
   ·exact .inr ⟨rfl,SG x y z ad ae⟩
theorem SH:∀x y:List UInt8,Op.bytesLess x y=true∨x=y∨Op.bytesLess y x=true
 |[],[]=> .inr (.inl rfl)
 |[],b::y=> .inl rfl
 |a::x,[]=> .inr (.inr rfl)
 |a::x,b::y=>by
  simp only [Op.bytesLess,Bool.or_eq_true,Bool.and_eq_true,decide_eq_true_eq,beq_iff_eq,UInt8.lt_iff_toNat_lt,List.cons.injEq]
  by_cases ad:a.toNat<b.toNat
  ·exact .inl (.inl ad)
  ·by_cases ae:b.toNat<a.toNat
   ·exact .inr (.inr (.inl ae))
   ·have:a=b:=UInt8.toNat_inj.1 (by omega)
    subst this
    rcases SH x y with h|h|h
    ·exact .inl (.inr ⟨rfl,h⟩)
    ·exact .inr (.inl ⟨rfl,h⟩)
    ·exact .inr (.inr (.inr ⟨rfl,h⟩))
theorem rN(x:ByteArray):blt x x=false:=SF _
theorem vn{x y z:ByteArray}(h:blt x y=true)(bj:blt y z=true):blt x z=true:=SG _ _ _ h bj
theorem Lt(x y:ByteArray):blt x y=true∨x=y∨blt y x=true:=by
 rcases SH x.toList y.toList with h|h|h
 ·exact .inl h
 ·exact .inr (.inl (O6 h))
 ·exact .inr (.inr h)
theorem aet(y x:ByteArray):(!(blt y x||decide (y=x)))=blt x y:=by
 rcases Lt x y with h|h|h
 ·have ad:blt y x=false:=by
   cases bK:blt y x with
   |false=>rfl
   |true=>have:=vn h bK;rw [rN] at this;cases this
  have ae:y≠x:=by rintro rfl;rw [rN] at h;cases h
  simp [h,ad,ae]
 ·subst h;simp [rN]
 ·have ad:blt x y=false:=by
   cases bK:blt x y with
   |false=>rfl
   |true=>have:=vn h bK;rw [rN] at this;cases this
  simp [h,ad]
theorem Gu{bt:Bool}{x y:ByteArray}:binP bt .gtr (aJ y) (aJ x)=some (ar (blt x y)):=by rw [Li,aet]
def Srt:List ByteArray→Prop
 |[]=>True
 |a::r=>(∀b∈r,blt a b=true)∧Srt r
def gq(s:ByteArray):List ByteArray→List ByteArray
 |[]=>[s]
 |a::r=>if a=s then a::r else if blt s a then s::a::r else a::gq s r
theorem SI{s x:ByteArray}:∀{l:List ByteArray},x∈gq s l→x=s∨x∈l
 |[],h=>by simp [gq] at h;exact .inl h
 |a::r,h=>by
  rw [gq] at h
  split at h
  ·exact .inr h
  ·split at h
   ·rcases List.mem_cons.1 h with h|h
    ·exact .inl h
    ·exact .inr h
   ·rcases List.mem_cons.1 h with h|h
    ·exact .inr (by simp [h])
    ·rcases SI h with h|h
     ·exact .inl h
     ·exact .inr (by simp [h])
theorem BC{s:ByteArray}:∀{l:List ByteArray},Srt l→Srt (gq s l)
 |[],_=>⟨by simp,trivial⟩
 |a::r,h=>by
  rw [gq]
  split
  ·exact h
  ·rename_i b9
   split
   ·rename_i bW
    refine ⟨fun b ak=>?_,h⟩
    rcases List.mem_cons.1 ak with rfl|ak
    ·exact bW
    ·exact vn bW (h.1 b ak)
   ·rename_i qv
    refine ⟨fun b ak=>?_,BC h.2⟩
    rcases SI ak with rfl|ak
    ·rcases Lt a b with ad|ad|ad
     ·exact ad
     ·exact absurd ad b9
     ·rw [ad] at qv;exact absurd rfl qv
    ·exact h.1 b ak
theorem Lu{s:ByteArray}:∀{l:List ByteArray},Srt l→s∈l→gq s l=l
 |[],_,h=>by cases h
 |a::r,az,h=>by
  rw [gq]
  rcases List.mem_cons.1 h with rfl|h
  ·rw [if_pos rfl]
  ·have bW:=az.1 s h
   have b9:¬a=s:=by rintro rfl;rw [rN] at bW;cases bW
   have qv:¬blt s a=true:=fun bj=>by have:=vn bW bj;rw [rN] at this;cases this
   rw [if_neg b9,if_neg qv,Lu az.2 h]
theorem SJ{s:ByteArray}:∀{l:List ByteArray},Srt l→s∉l→∃a b,l=a++b∧gq s l=a++s::b∧(∀x∈a,blt x s=true)∧(∀x∈b,blt s x=true)
 |[],_,_=>⟨[],[],rfl,rfl,by simp,by simp⟩
 |a::r,az,h=>by
  have b9:¬a=s:=fun e=>h (by simp [e])
  rw [gq,if_neg b9]
  by_cases an:blt s a=true
  ·rw [if_pos an]
   exact ⟨[],a::r,rfl,rfl,by simp,fun x af=>by
    rcases List.mem_cons.1 af with rfl|af
    ·exact an
    ·exact vn an (az.1 x af)⟩
  ·rw [if_neg an]
   obtain ⟨p,q,ad,ae,ay,aZ⟩:=SJ (l:=r) (s:=s) az.2 (fun hm=>h (List.mem_cons_of_mem _ hm))
   refine ⟨a::p,q,by rw [ad];rfl,by rw [ae];rfl,fun x af=>?_,aZ⟩
   rcases List.mem_cons.1 af with rfl|af
   ·rcases Lt x s with bL|bL|bL
    ·exact bL
    ·exact absurd bL b9
    ·exact absurd bL an
   ·exact ay x af
theorem Lv(s:ByteArray):∀{l:List ByteArray},Srt l→∃a b,l=a++b∧(∀x∈a,blt s x=false)∧(∀x∈b,blt s x=true)∧(s∈l→∃ct,a=ct++[s])∧(s∉l→s∉a)∧(s∉l→gq s l=a++s::b)
 |[],_=>⟨[],[],rfl,by simp,by simp,by simp,by simp,fun _=>rfl⟩
 |c::r,az=>by
  by_cases hm:s∈c::r
  ·by_cases aj:c=s
   ·subst aj
    refine ⟨[c],r,rfl,by simp [rN],az.1,fun _=>⟨[],rfl⟩,fun h=>absurd hm h,fun h=>absurd hm h⟩
   ·have av:s∈r:=(List.mem_cons.1 hm).resolve_left fun h=>aj h.symm
    obtain ⟨a,b,ad,ae,ay,aZ,bL,ch⟩:=Lv s az.2
    obtain ⟨ct,A1⟩:=aZ av
    refine ⟨c::a,b,by rw [ad];rfl,?_,ay,fun _=>⟨c::ct,by rw [A1];rfl⟩,fun h=>absurd hm h,fun h=>absurd hm h⟩
    ·intro x af
     rcases List.mem_cons.1 af with rfl|af
     ·have bW:=az.1 s av
      cases bK:blt s x with
      |false=>rfl
      |true=>have:=vn bW bK;rw [rN] at this;cases this
     ·exact ae x af
  ·obtain ⟨a,b,ad,ae,ay,aZ⟩:=SJ az hm
   refine ⟨a,b,ad,fun x af=>?_,aZ,fun h=>absurd h hm,fun _ aB=>hm (by rw [ad];simp [aB]),fun _=>ae⟩
   have bW:=ay x af
   cases bK:blt s x with
   |false=>rfl
   |true=>have:=vn bW bK;rw [rN] at this;cases this
theorem BD{s:ByteArray}:∀(l:List ByteArray),(gq s l).length≤l.length+1
 |[]=>by simp [gq]
 |a::r=>by
  rw [gq]
  split
  ·simp
  ·split
   ·simp
   ·have:=BD (s:=s) r;simp;omega
end Go.Am
namespace Go.Am
set_option linter.unusedVariables false
def termTy:Nat→Ty
 |0=> .stop
 |n+1=> .struct [.int .i64,.int .i64,.str,.slice 4 56 (termTy n)]
theorem yG:∀(n m:Nat),m≤2*n→(termTy n).dp m=true
 |0,m,h=>by
         have:m=0:=by omega
         subst this;rfl
 |n+1,0,_=>rfl
 |n+1,1,_=>rfl
 |n+1,m+2,h=>by
  have:=yG n m (by omega)
  simp only [termTy,Ty.dp,dpL,this,Bool.and_true]
theorem Gv{P:Program}{t s:TypeId}(ad:∀y,tyOk P (.struct [.int .i64,.int .i64,.str,y]) t=(tyOk P y s&&true))(ae:∀y,tyOk P (.slice 4 56 y) s=tyOk P y t):∀n,tyOk P (termTy n) t=true
 |0=>rfl
 |n+1=>by rw [termTy,ad,ae,Gv ad ae n];rfl
theorem aeu{P:Program}{t s:TypeId}(ad:∀y,tyOk P (.struct [.int .i64,.int .i64,.str,y]) t=(tyOk P y s&&true))(ae:∀y,tyOk P (.slice 4 56 y) s=tyOk P y t)(an:decide (t<P.types.size)=true):qt P termTy t:=
 ⟨fun n=>yG n n (by omega),Gv ad ae,of_decide_eq_true an,fun n=>by cases n<;>rfl⟩
theorem vo:∀(n:Nat) {x:List D},Wt (termTy n) x→∃t:Tm,x=t.cells∧t.b1
 |0,x,h=>h.elim
 |n+1,x,h=>by
  obtain ⟨a,b,rfl,aB,c,d,rfl,aj,e,f,rfl,he,g,i,rfl,bD,rfl⟩:=h
  obtain ⟨op,rfl,di⟩:=yF aB
  obtain ⟨nn,rfl,iZ⟩:=yF aj
  obtain ⟨s,rfl,az⟩:=Gr he
  obtain ⟨es,rfl,_,an,kq⟩:=bD
  obtain ⟨ks,rfl,dI⟩:=oa Tm.cells Tm.b1 es fun x af=>vo n (kq x af).2
  refine ⟨.mk op nn s false ks,?_,.mk _ _ _ _ _ di iZ (by omega) (by simpa using Nat.le_trans an (by omega)) dI⟩
  simp [Tm.cells,Tm.ik,b5]
theorem Lw{H:Type}{F:o8}{Fs:List o8}{xs:List (DataW H)}{aF:List D}(h:RWAll (F::Fs) xs aF):∃x EZ d ya n,xs=x::EZ∧aF=d::ya∧Gl (F n) x d∧yC (F n) d∧RWAll Fs EZ ya:=by
 cases xs with
 |nil=>cases aF<;>exact h.elim
 |cons x xs=>
  cases aF with
  |nil=>exact h.elim
  |cons d aF=>
   obtain ⟨⟨n,ad,ae⟩,ay⟩:=h
   exact ⟨x,xs,d,aF,n,rfl,rfl,ad,ae,ay⟩
theorem aev{H:Type}{xs:List (DataW H)}{aF:List D}(h:RWAll [] xs aF):xs=[]∧aF=[]:=by
 cases xs<;>cases aF<;>first|exact ⟨rfl,rfl⟩|exact h.elim
end Go.Am
namespace Go.Am
set_option linter.unusedVariables false
@[simp] theorem atD (a:D):aK 1 (.agg [a])=a.one:=by simp [aK]
@[simp] theorem aew (a b:D):aK 2 (.agg [a,b])=(a.one&&b.one):=by simp [aK]
@[simp] theorem aex (a b c d e:D):aK 5 (.agg [a,b,c,d,e])=(a.one&&(b.one&&(c.one&&(d.one&&e.one)))):=by simp [aK]
@[simp] theorem aey (a b c d e f:D):aK 6 (.agg [a,b,c,d,e,f])=(a.one&&(b.one&&(c.one&&(d.one&&(e.one&&f.one))))):=by simp [aK]
@[simp] theorem SK (a b c d e f g:D):aK 7 (.agg [a,b,c,d,e,f,g])=(a.one&&(b.one&&(c.one&&(d.one&&(e.one&&(f.one&&g.one)))))):=by simp [aK]
@[simp] theorem aez (a b c d e f g h:D):aK 8 (.agg [a,b,c,d,e,f,g,h])=(a.one&&(b.one&&(c.one&&(d.one&&(e.one&&(f.one&&(g.one&&h.one))))))):=by simp [aK]
@[simp] theorem atE {a b c e f:D} {l:List D}:aa (.agg (a::b::c::e::f::l)) 4=f:=rfl
@[simp] theorem atF {a b c e f g:D} {l:List D}:aa (.agg (a::b::c::e::f::g::l)) 5=g:=rfl
@[simp] theorem atG {a b c e f g h:D} {l:List D}:aa (.agg (a::b::c::e::f::g::h::l)) 6=h:=rfl
@[simp] theorem atH {a b c e f g h i:D} {l:List D}:aa (.agg (a::b::c::e::f::g::h::i::l)) 7=i:=rfl
theorem SL{β:Type}{x y:Bool}{f:D→Option β}:R (gD (ar x) true (some (ar y))) (fun v=>R (pickP (ar x) v (ar false)) f)=f (ar (x&&y)):=by cases x<;>rfl
theorem aeA{β:Type}{x y:Bool}{f:D→Option β}:R (gD (ar x) false (some (ar y))) (fun v=>R (pickP (ar x) (ar true) v) f)=f (ar (x||y)):=by cases x<;>rfl
inductive Fm where
 |mk (op:Int) (e:Tm) (nl:Bool) (kids:List Fm)
def eF:Tm:= .mk 0 0 ⟨#[]⟩ true []
theorem Lx:eF.b1:= .mk _ _ _ _ _ (by omega) (by omega) (by decide) (by simp) (by simp)
theorem Gw:eF.d=D.agg [J 0,J 0,aJ ⟨#[]⟩,D.val (.slice none 0 0)]:=rfl
namespace Fm
def op:Fm→Int| .mk o _ _ _=>o
def e:Fm→Tm| .mk _ t _ _=>t
def nl:Fm→Bool| .mk _ _ b _=>b
def kids:Fm→List Fm| .mk _ _ _ l=>l
mutual
def cells:Fm→List D
 | .mk o t b ks=>[J o,J t.op,J t.num,aJ t.name,b5 4 t.nl (Tm.rows t.kids),b5 6 b (rows ks)]
def rows:List Fm→List (List D)
 |[]=>[]
 |t::r=>cells t::rows r
end
def d(t:Fm):D:= .agg t.cells
mutual
def bc:Fm→Nat
 | .mk _ t _ ks=>2+t.bc+dn ks
def dn:List Fm→Nat
 |[]=>0
 |t::r=>1+bc t+dn r
end
theorem ik:∀l:List Fm,rows l=l.map cells
 |[]=>rfl
 |t::r=>by simp [rows,ik r]
@[simp] theorem jj {l:List Fm}:(rows l).length=l.length:=by simp [ik]
theorem By{l:List Fm}{i:Nat}{t:Fm}(h:l[i]?=some t):(rows l)[i]?=some t.cells:=by simp [ik,h]
theorem fY{l:List Fm}{b:Bool}{i:Nat}{t:Fm}(h:l[i]?=some t):a3 6 (b5 6 b (rows l)) (J (i:Int))=some t.cells:=by rw [Lq,By h]
theorem Bz:∀l:List Fm,l.length≤dn l
 |[]=>Nat.le_refl 0
 |t::r=>by simp only [dn,List.length_cons];have:=Bz r;omega
theorem BA:∀{l:List Fm} {t:Fm},t∈l→bc t+1≤dn l
 |a::r,t,h=>by
  simp only [dn]
  rcases List.mem_cons.1 h with rfl|h
  ·omega
  ·have:=BA h;omega
theorem BE(t:Fm):t.bc=2+t.e.bc+dn t.kids:=by cases t;rfl
theorem hK{t k:Fm}(h:k∈t.kids):k.bc+3≤t.bc:=by
 have:=BA h;have:=BE t;omega
theorem jk{t:Fm}:t.kids.length+2≤t.bc:=by
 have:=Bz t.kids;have:=BE t;omega
theorem yH{t:Fm}:t.e.bc+2≤t.bc:=by have:=BE t;omega
theorem ind{P:Fm→Prop}(h:∀t:Fm,(∀k∈t.kids,P k)→P t)(t:Fm):P t:=by
 have:∀(n:Nat) (t:Fm),t.bc≤n→P t:=by
  intro n
  induction n with
  |zero=>intro t aG;cases t;simp [bc] at aG
  |succ n ih=>intro t aG;exact h t fun k ai=>ih k (by have:=hK ai;omega)
 exact this _ t (Nat.le_refl _)
inductive b1:Fm→Prop where
 |mk (o:Int) (t:Tm) (b:Bool) (ks:List Fm) (aD:-9223372036854775808≤o∧o≤9223372036854775807) (aG:t.b1) (an:ks.length*88≤140737488355328) (ai:∀k∈ks,b1 k):b1 (.mk o t b ks)
theorem b1.ek{t k:Fm}(h:b1 t)(ai:k∈t.kids):b1 k:=by cases h with|mk o n s b ks aD aI az=>exact az k ai
theorem b1.len{t:Fm}(h:b1 t):t.kids.length*88≤140737488355328:=by cases h;assumption
theorem b1.e{t:Fm}(h:b1 t):t.e.b1:=by cases h;assumption
theorem b1.op{t:Fm}(h:b1 t):-9223372036854775808≤t.op∧t.op≤9223372036854775807:=by cases h;assumption
theorem mR(t:Fm):t.cells=[J t.op,J t.e.op,J t.e.num,aJ t.e.name,b5 4 t.e.nl (Tm.rows t.e.kids),b5 6 t.nl (rows t.kids)]:=by cases t;rfl
theorem h5(t:Fm):t.d= .agg [J t.op,J t.e.op,J t.e.num,aJ t.e.name,b5 4 t.e.nl (Tm.rows t.e.kids),b5 6 t.nl (rows t.kids)]:=by cases t;rfl
@[simp] theorem lx (t:Fm):aK 6 t.d=true:=by rw [h5];simp
@[simp] theorem ly (t:Fm):aa t.d 0=J t.op:=by rw [h5];rfl
@[simp] theorem nv (t:Fm):aa t.d 1=J t.e.op:=by rw [h5];rfl
@[simp] theorem qu (t:Fm):aa t.d 2=J t.e.num:=by rw [h5];rfl
@[simp] theorem o9 (t:Fm):aa t.d 3=aJ t.e.name:=by rw [h5];rfl
@[simp] theorem aeB (t:Fm):aa t.d 4=b5 4 t.e.nl (Tm.rows t.e.kids):=by rw [h5];rfl
@[simp] theorem aeC (t:Fm):aa t.d 5=b5 6 t.nl (rows t.kids):=by rw [h5];rfl
@[simp] theorem BB (t:Fm):D.agg [J t.op,J t.e.op,J t.e.num,aJ t.e.name,b5 4 t.e.nl (Tm.rows t.e.kids),b5 6 t.nl (rows t.kids)]=t.d:=(h5 t).symm
@[simp high] theorem Lr (t:Fm):aW true 6 0 t.cells=some t.d:=by rw [h5,mR];rfl
end Fm
attribute [go_sem] c8 mN jg mO n9 SL aeA yy Gh lW yz yA tp Lh Sf adY yB nu Bp Lc adK adL adM adN aeh adO adP adQ adR adS aei adT Ld List.getElem?_cons_zero List.getElem?_cons_succ adH adU Ss adV adW Sd Bool.and_true Bool.true_and Bool.and_self if_true if_false Bool.not_true Bool.not_false Bool.false_eq_true Sw aek ael Bool.or_true Bool.true_or aew aem aen aex aey SK aez Sx Sy Sz adJ adI Tm.lx Tm.ly Tm.nv Tm.qu Tm.o9 Tm.BB Tm.Lr Tm.jj Fm.lx Fm.ly Fm.nv Fm.qu Fm.o9 Fm.aeB Fm.aeC Fm.BB Fm.Lr Fm.jj
end Go.Am
namespace Go.Am
set_option linter.unusedVariables false
def formTy:Nat→Ty
 |0=> .stop
 |n+1=> .struct [.int .i64,termTy (n+1),.slice 6 88 (formTy n)]
theorem Ly:∀(n m:Nat),m≤2*n→(formTy n).dp m=true
 |0,m,h=>by
         have:m=0:=by omega
         subst this;rfl
 |n+1,0,_=>rfl
 |n+1,1,_=>by simp [formTy,Ty.dp,dpL]
 |n+1,m+2,h=>by
  have:=Ly n m (by omega)
  have ae:=yG (n+1) (m+1) (by omega)
  simp only [formTy,Ty.dp,dpL,this,ae,Bool.and_true]
theorem SM{P:Program}{t s r q:TypeId}(ad:∀y z,tyOk P (.struct [.int .i64,y,z]) t=(tyOk P y r&&(tyOk P z s&&true)))(ae:∀y,tyOk P (.slice 6 88 y) s=tyOk P y t)(ay:∀n,tyOk P (termTy n) r=true):∀n,tyOk P (formTy n) t=true
 |0=>rfl
 |n+1=>by rw [formTy,ad,ae,SM (q:=q) ad ae ay n,ay];rfl
theorem aeD{P:Program}{t s r q:TypeId}(ad:∀y z,tyOk P (.struct [.int .i64,y,z]) t=(tyOk P y r&&(tyOk P z s&&true)))(ae:∀y,tyOk P (.slice 6 88 y) s=tyOk P y t)
  (ay:∀y,tyOk P (.struct [.int .i64,.int .i64,.str,y]) r=(tyOk P y q&&true)) (aZ:∀y,tyOk P (.slice 4 56 y) q=tyOk P y r) (an:decide (t<P.types.size)=true):qt P formTy t:=
 ⟨fun n=>Ly n n (by omega),SM (q:=q) ad ae (Gv ay aZ),of_decide_eq_true an,fun n=>by cases n<;>rfl⟩
theorem SN:∀(n:Nat) {x:List D},Wt (formTy n) x→∃t:Fm,x=t.cells∧t.b1
 |0,x,h=>h.elim
 |n+1,x,h=>by
  obtain ⟨a,b,rfl,aB,c,d,rfl,aj,g,i,rfl,bD,rfl⟩:=h
  obtain ⟨op,rfl,di⟩:=yF aB
  obtain ⟨t,rfl,aG⟩:=vo (n+1) aj
  obtain ⟨es,rfl,_,an,kq⟩:=bD
  obtain ⟨ks,rfl,dI⟩:=oa Fm.cells Fm.b1 es fun x af=>SN n (kq x af).2
  refine ⟨.mk op t false ks,?_,.mk _ _ _ _ di aG (by simpa using Nat.le_trans an (by omega)) dI⟩
  simp [Fm.cells,Fm.ik,b5,Tm.mR]
end Go.Am
namespace Go.Am
set_option linter.unusedVariables false
structure a5 where
 name:ByteArray
 e:Tm
def a5.cells(d:a5):List D:=[aJ d.name,J d.e.op,J d.e.num,aJ d.e.name,b5 4 d.e.nl (Tm.rows d.e.kids)]
def a5.d(d:a5):D:= .agg d.cells
def aE(l:List a5):D:= .aC 5 (l.map a5.cells)
def a5.b1(d:a5):Prop:=d.name.size≤140737488351232∧d.e.b1
section
variable{l:List a5}{i:Nat}{d:a5}
theorem en(h:l[i]?=some d):a3 5 (aE l) (J (i:Int))=some d.cells:=by simp [aE,h]
theorem dy(l:List a5):lenP (aE l)=some (J l.length):=by simp [aE]
@[simp] theorem a5.aeE (d:a5):aW true 5 0 d.cells=some d.d:=rfl
@[simp] theorem a5.gp (d:a5):aW true 4 1 d.cells=some d.e.d:=by rw [Tm.h5];rfl
@[simp] theorem a5.fp (d:a5):aW false 1 0 d.cells=some (aJ d.name):=rfl
@[simp] theorem a5.agg (d:a5):aK 5 d.d=true:=by unfold a5.d a5.cells;simp
@[simp] theorem a5.aL (d:a5):aa d.d 0=aJ d.name:=rfl
@[simp] theorem a5.bb (d:a5):aa d.d 1=J d.e.op:=rfl
@[simp] theorem a5.bl (d:a5):aa d.d 2=J d.e.num:=rfl
@[simp] theorem a5.bs (d:a5):aa d.d 3=aJ d.e.name:=rfl
@[simp] theorem a5.cf (d:a5):aa d.d 4=b5 4 d.e.nl (Tm.rows d.e.kids):=rfl
end
def cP(l:List a5)(x:ByteArray):Option Nat:=l.findIdx? (fun d=>decide (d.name=x))
theorem Lz{l:List a5}{x:ByteArray}{i:Nat}(h:cP l x=some i):∃d,l[i]?=some d∧d.name=x∧i<l.length:=by
 obtain ⟨ad,ae,_⟩:=List.findIdx?_eq_some_iff_getElem.1 h
 exact ⟨_,List.getElem?_eq_getElem ad,by simpa using ae,ad⟩
def cI(l:List Nat):D:= .aC 1 (l.map fun(i:Nat)=>[J (i:Int)])
theorem rO{l:List Nat}{i k:Nat}(h:l[i]?=some k):a3 1 (cI l) (J (i:Int))=some [J (k:Int)]:=by simp [cI,h]
theorem nw(l:List Nat):lenP (cI l)=some (J l.length):=by simp [cI]
def gE(l:List (List Nat)):D:= .aC 1 (l.map fun x=>[cI x])
theorem aeF{l:List (List Nat)}{i:Nat}{k:List Nat}(h:l[i]?=some k):a3 1 (gE l) (J (i:Int))=some [cI k]:=by simp [gE,h]
def eJ(M:List (Value×D))(S:List Nat):Prop:=rM M∧∀i:Nat,getI M (i:Int)=if i∈S then some (ar true) else none
theorem eJ.nil:eJ [] []:=⟨by(intro e he;cases he),fun i=>rfl⟩
theorem eJ.look{M:List (Value×D)}{S:List Nat}(h:eJ M S){i:Nat}{z:Value}:lookP (.int .i64) (.bool false) false M (J (i:Int))=some (ar (decide (i∈S))):=by
 rw [aer h.1,h.2 i]
 by_cases ag:i∈S<;>simp [ag,zeroD]
theorem eJ.put{M:List (Value×D)}{S:List Nat}(h:eJ M S)(i:Nat):∃dC,oX (.int .i64) M (J (i:Int)) (ar true)=some dC∧eJ dC (if i∈S then S else S++[i]):=by
 obtain ⟨dC,ad,ae,ay,_⟩:=aes h.1 (i:Int) (ar true)
 refine ⟨dC,ad,ae,fun j=>?_⟩
 rw [ay,h.2]
 by_cases aH:j=i
 ·subst aH;by_cases ag:j∈S<;>simp [ag]
 ·have:¬((j:Int)=(i:Int)):=by omega
  by_cases ag:i∈S<;>simp [this,ag,aH]
theorem eJ.mem{M:List (Value×D)}{S T:List Nat}(h:eJ M S)(jO:∀x,x∈S↔x∈T):eJ M T:=⟨h.1,fun i=>by rw [h.2];simp only [jO i]⟩
end Go.Am
namespace Go.Am
set_option linter.unusedVariables false
def tu(n:Nat):Ty:= .slice 5 72 (.struct [.str,termTy n])
theorem SO(n:Nat):∀m,m≤n→(tu n).dp m=true
 |0,_=>rfl
 |1,_=>by simp [tu,Ty.dp]
 |m+2,h=>by
  have:=yG n m (by omega)
  have:=yG n (m+1) (by omega)
  have ae:Ty.dp m .str=true:=tq m .str rfl
  simp only [tu,Ty.dp,dpL, *,Bool.and_true]
theorem aeG{P:Program}{t r q:TypeId}(ad:∀y,tyOk P (.slice 5 72 (.struct [.str,y])) t=(tyOk P y r&&true))
  (ay:∀y,tyOk P (.struct [.int .i64,.int .i64,.str,y]) r=(tyOk P y q&&true)) (aZ:∀y,tyOk P (.slice 4 56 y) q=tyOk P y r) (an:decide (t<P.types.size)=true):qt P tu t:=
 ⟨fun n=>SO n n (Nat.le_refl _),fun n=>by rw [tu,ad,Gv ay aZ n];rfl,of_decide_eq_true an,fun n=>rfl⟩
theorem SP{n:Nat}{x:List D}(h:Wt (.struct [.str,termTy n]) x):∃d:a5,x=d.cells∧d.b1:=by
 obtain ⟨a,b,rfl,aB,c,e,rfl,aj,rfl⟩:=h
 obtain ⟨s,rfl,az⟩:=Gr aB
 obtain ⟨t,rfl,aG⟩:=vo n aj
 exact ⟨⟨s,t⟩,by simp [a5.cells,Tm.mR],az,aG⟩
end Go.Am
