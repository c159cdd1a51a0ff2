/- From what a call is handed to data, and from an answer to the row. No condition. -/
import Derived.Test.YtknmgdnhongcnaaGreatDoorEngC
import Derived.ProofKit
import Derived.OpenShut
import Derived.KernelRfl
import Derived.Deep.DeepHandedRow
import Derived.Lib.LaidTab
import Derived.Test.YtknmgdnhongcnaaGreatDoorEngS
set_option linter.all false
set_option linter.unnecessarySimpa false
namespace Go.Am
open Go.ChangeShapes Go.WideShapes Go.ChangeAt Go.RowKit
set_option linter.unusedVariables false
inductive Ty where
 |bool
 |int (k:IntKind)
 |str
 |slice (k bytes:Nat) (e:Ty)
 |arr (n:Nat) (e:Ty)
 |struct (cQ:List Ty)
 |stop
mutual
def Wt:Ty→List D→Prop
 | .bool,aF=>∃b,aF=[au b]
 | .int k,aF=>∃n,aF=[.val (.int k n)]∧(Lit.int k n).wf=true
 | .str,aF=>∃s,aF=[aJ s]∧s.size≤140737488351232
 | .slice k Bv e,aF=>∃es:List (List D),aF=[.aD k es]∧es.length≤maxLen∧es.length*Bv≤140737488351232∧∀x∈es,x.length=k∧Wt e x
 | .arr n e,aF=>∃hR:List (List D),aF=hR.flatten∧hR.length=n∧∀x∈hR,Wt e x
 | .struct cQ,aF=>Gq cQ aF
 | .stop,_=>False
def Gq:List Ty→List D→Prop
 |[],aF=>aF=[]
 |f::cQ,aF=>∃a b,aF=a++b∧Wt f a∧Gq cQ b
end
mutual
def rd{H:Type}:Ty→DataW H→Option (List D)
 | .bool,.lit (.bool b)=>some [au b]
 | .int _,.lit (.int k n)=>some [.val (.int k n)]
 | .str,.lit (.string l)=>some [aJ ⟨l.toArray⟩]
 | .slice k _ _,.nil=>some [.aD k []]
 | .slice k _ e,.slice es _=>(es.mapM (rd e)).map fun xs=>[.aD k xs]
 | .arr _ e,.agg es=>(es.mapM (rd e)).map List.flatten
 | .struct cQ,.agg es=>rdL cQ es
 |_,_=>none
def rdL{H:Type}:List Ty→List (DataW H)→Option (List D)
 |[],[]=>some []
 |f::cQ,d::aF=>(rd f d).bind fun a=>(rdL cQ aF).map (a++·)
 |_,_=>none
end
mutual
def tyOk(P:Program):Ty→TypeId→Bool
 | .bool,t=>match P.underlying t with
  |some .bool=>true
  |_=>false
 | .int k,t=>match P.underlying t with
  |some (.int bg)=>decide (k=bg)
  |_=>false
 | .str,t=>match P.underlying t with
  |some .string=>true
  |_=>false
 | .stop,_=>true
 | .slice k Bv e,t=>match P.underlying t with
  |some (.slice cX)=>decide (P.cellsOf cX=k)&&decide (0<k)&&decide (P.bytesOf cX=Bv)&&tyOk P e cX
  |_=>false
 | .arr n e,t=>match P.underlying t with
  |some (.array fm cX)=>decide (n=fm)&&decide (P.cellsOf t=n*P.cellsOf cX)&&tyOk P e cX
  |_=>false
 | .struct cQ,t=>match P.underlying t with
  |some (.struct Lj)=>tyOkL P cQ Lj.toList 0 (P.cellsOf t)
  |_=>false
def tyOkL(P:Program):List Ty→List Field→Nat→Nat→Bool
 |[],[],off,n=>decide (off=n)
 |f::cQ,x::xs,off,n=>decide (x.offset=off)&&tyOk P f x.type&&tyOkL P cQ xs (off+P.cellsOf x.type) n
 |_,_,_,_=>false
end
mutual
def Ty.dp:Nat→Ty→Bool
 |0,_=>true
 |_+1,.stop=>false
 |n+1,.slice _ _ e=>e.dp n
 |n+1,.arr _ e=>e.dp n
 |n+1,.struct cQ=>dpL n cQ
 |_+1,_=>true
def dpL:Nat→List Ty→Bool
 |_,[]=>true
 |n,f::cQ=>f.dp n&&dpL n cQ
end
def Rel(m:Mem):List D→List Value→Prop
 |[],[]=>True
 |d::aF,v::vs=>D.one d=true∧cU m d v∧Rel m aF vs
 |_,_=>False
theorem Rel.len{m:Mem}:∀{aF:List D} {vs:List Value},Rel m aF vs→vs.length=aF.length
 |[],[],_=>rfl
 |_::_,_::_,h=>by simp [Rel.len h.2.2]
 |[],_::_,h=>h.elim
 |_::_,[],h=>h.elim
theorem Rel.at{m:Mem}:∀{aF:List D} {vs:List Value},Rel m aF vs→∀(i:Nat) (d:D),aF[i]?=some d→∃v,vs[i]?=some v∧D.one d=true∧cU m d v
 |[],[],_,i,d,h=>by simp at h
 |x::aF,v::vs,h,0,d,ax=>by simp at ax;subst ax;exact ⟨v,rfl,h.1,h.2.1⟩
 |_::_,_::_,h,i+1,d,ax=>by simpa using Rel.at h.2.2 i d (by simpa using ax)
 |[],_::_,h,_,_,_=>h.elim
 |_::_,[],h,_,_,_=>h.elim
theorem Rel.append{m:Mem}:∀{aF:List D} {vs:List Value} {ya:List D} {Lk:List Value},Rel m aF vs→Rel m ya Lk→Rel m (aF++ya) (vs++Lk)
 |[],[],_,_,_,bm=>bm
 |_::_,_::_,_,_,h,bm=>⟨h.1,h.2.1,Rel.append h.2.2 bm⟩
 |[],_::_,_,_,h,_=>h.elim
 |_::_,[],_,_,h,_=>h.elim
theorem Rel.one{m:Mem}:∀{aF:List D} {vs:List Value},Rel m aF vs→aF.all D.one=true
 |[],[],_=>rfl
 |_::_,_::_,h=>by simp only [List.all_cons,h.1,Rel.one h.2.2,Bool.and_self]
 |[],_::_,h=>h.elim
 |_::_,[],h=>h.elim
theorem Ll{α:Type}:∀(n:Nat) (Q:Nat→α→Prop),(∀i,i<n→∃y,Q i y)→∃cR:List α,cR.length=n∧∀(i:Nat) (y:α),cR[i]?=some y→Q i y
 |0,_,_=>⟨[],rfl,by intro i y h;simp at h⟩
 |n+1,Q,h=>by
  obtain ⟨cR,ad,ae⟩:=Ll n (fun i=>Q (i+1)) fun i af=>h (i+1) (by omega)
  obtain ⟨y,aN⟩:=h 0 (by omega)
  refine ⟨y::cR,by simp [ad],?_⟩
  intro i z bN
  cases i with
  |zero=>simp at bN;subst bN;exact aN
  |succ i=>exact ae i z (by simpa using bN)
theorem Lm{α β:Type}(f:α→Option β):∀(l:List α) (r:List β),r.length=l.length→(∀(i:Nat) (x:α) (y:β),l[i]?=some x→r[i]?=some y→f x=some y)→l.mapM f=some r
 |[],[],_,_=>rfl
 |x::l,y::r,aq,h=>by
  have ar:=h 0 x y rfl rfl
  have ih:=Lm f l r (by simpa using aq) fun i x y ag aN=>h (i+1) x y (by simpa using ag) (by simpa using aN)
  simp [List.mapM_cons,ar,ih]
 |[],_::_,h,_=>by simp at h
 |_::_,[],h,_=>by simp at h
section
variable{H:Type}{enc:TypeId×Value→H}{P:Program}{w:World}{base:Nat}{spare:Nat→Bool}{held:Bool}
theorem pieces{m:Mem}{c:Nat}{cs:List Value}:∀(hR:List (List D)) (o:Nat),(∀(i:Nat) (x:List D),hR[i]?=some x→Rel m x ((cs.drop (o+i*c)).take c))→(o+hR.length*c=cs.length)→Rel m hR.flatten (cs.drop o)
 |[],o,_,aq=>by
  have:cs.drop o=[]:=List.drop_eq_nil_of_le (by simp at aq;omega)
  rw [this];trivial
 |x::r,o,h,aq=>by
  have dV:o+c+r.length*c=cs.length:=by simp only [List.length_cons,Nat.add_mul] at aq;omega
  have ar:=h 0 x rfl
  have ih:=pieces (m:=m) (cs:=cs) (c:=c) r (o+c) (fun i x ag=>by
   have:=h (i+1) x (by simpa using ag)
   rw [show o+c+i*c=o+(i+1)*c by rw [Nat.add_mul];omega]
   exact this) dV
  have e:cs.drop o=(cs.drop o).take c++cs.drop (o+c):=by
   conv=>lhs;rw [←List.take_append_drop c (cs.drop o)]
   rw [List.drop_drop]
  rw [e,List.flatten_cons]
  refine Rel.append ?_ ih
  simpa using ar
theorem Ln{H:Type}{P:Program}{e:TypeId}:∀{l:List (DataW H)} {x:DataW H} {y:Nat},x∈l→y∈x.weights P e→y∈DataW.weightsAll P e l
 |a::r,x,y,ag,aN=>by
  simp only [DataW.weightsAll,List.mem_append]
  rcases List.mem_cons.1 ag with rfl|ag
  ·exact .inl aN
  ·exact .inr (Ln ag aN)
theorem Sg(m:Mem)(hm:∀b o,w.heap[b]?=some o→m b=some o):∀(n:Nat) (ty:Ty) (t:TypeId) (cs:List Value) (x:DataW H×List MemPlace),tyOk P ty t=true→ty.dp n=true→(x.1.weights P t).all (·≤reachBytes)=true→DataW.trod enc P w base spare held n t cs=some x→
  ∃aF,rd ty x.1=some aF∧Wt ty aF∧Rel m aF cs:=by
 intro n
 induction n with
 |zero=>intro ty t cs x _ _ _ h;simp [DataW.trod] at h
 |succ n ih=>
  intro ty t cs x ep kp iS h
  cases ty with
  |stop=>simp [Ty.dp] at kp
  |bool=>
   simp only [tyOk] at ep
   split at ep
   ·obtain ⟨b,rfl,rfl⟩:=DataW.trod_bool ‹_› h
    exact ⟨[au b],rfl,⟨b,rfl⟩,rfl,.val _,trivial⟩
   ·cases ep
  |int k=>
   simp only [tyOk] at ep
   split at ep
   ·have:=of_decide_eq_true ep
    subst this
    obtain ⟨z,rfl,rfl,hw⟩:=DataW.trod_int ‹_› h
    exact ⟨[.val (.int k z)],rfl,⟨z,rfl,hw⟩,rfl,.val _,trivial⟩
   ·cases ep
  |str=>
   simp only [tyOk] at ep
   split at ep
   ·obtain ⟨s,rfl,rfl,hw⟩:=DataW.trod_string ‹_› h
    refine ⟨[aJ s],?_,⟨s,rfl,?_⟩,rfl,.val _,trivial⟩
    ·simp [rd]
    ·simp only [DataW.weights,List.all_cons,List.all_nil,Bool.and_true,decide_eq_true_eq] at iS
     simp only [reachBytes] at iS
     simpa using iS
   ·cases ep
  |slice k Bv e=>
   simp only [tyOk] at ep
   split at ep
   ·rename_i cX hu
    simp only [Bool.and_eq_true,decide_eq_true_eq] at ep
    obtain ⟨⟨⟨ai,Bw⟩,uL⟩,he⟩:=ep
    subst ai
    subst uL
    simp only [Ty.dp] at kp
    rcases DataW.trod_slice hu h with⟨rfl,rfl⟩|⟨a,len,cap,elems,rest,fm,aI,rfl,rfl,ak,PD,uG,ey,Bx,_,_⟩
    ·exact ⟨[.aD _ []],rfl,⟨[],rfl,by simp,by simp,by simp⟩,rfl,.lg _ _ _,trivial⟩
    ·cases aI
     simp only [DataW.weights,hu,List.all_cons,List.all_append,Bool.and_eq_true,decide_eq_true_eq,List.length_map,reachBytes] at iS
     obtain ⟨sQ,JD,_⟩:=iS
     have each:∀i,i<len→∃aF,∃x,elems[i]?=some x∧rd e x.1=some aF∧Wt e aF∧∃c,w.cells? base (a.add (i*P.cellsOf cX)) (P.cellsOf cX)=some c∧Rel m aF c:=by
      intro i af
      have ad:=Bx i af
      rw [List.getElem?_eq_getElem (by omega)] at ad
      obtain ⟨c,ae,ay⟩:=Option.bind_eq_some_iff.1 ad
      have Lo:((elems[i]'(by omega)).1.weights P cX).all (·≤reachBytes)=true:=by
       refine List.all_eq_true.2 fun y aN=>List.all_eq_true.1 JD y ?_
       exact Ln (List.mem_map.2 ⟨_,List.getElem_mem _,rfl⟩) aN
      obtain ⟨aF,a0,a9,bH⟩:=ih e cX c _ he kp Lo ay
      exact ⟨aF,_,List.getElem?_eq_getElem (by omega),a0,a9,c,ae,bH⟩
     obtain ⟨es,aq,ky⟩:=Ll len _ each
     have Lp:∀(i:Nat) (aF:List D),es[i]?=some aF→aF.length=P.cellsOf cX:=by
      intro i aF af
      obtain ⟨_,_,_,_,c,aj,av⟩:=ky i aF af
      rw [←av.len];exact (World.cells?_some aj).2.1
     refine ⟨[.aD (P.cellsOf cX) es],?_,⟨es,rfl,by omega,?_,?_⟩,rfl,?_,trivial⟩
     ·simp only [rd]
      rw [Lm (rd e) (elems.map (·.1)) es (by simp;omega)]
      ·rfl
      ·intro i x y ag aN
       obtain ⟨z,ad,ae,_⟩:=ky i y aN
       simp [ad] at ag
       rw [←ag];exact ae
     ·have:es.length≤elems.length+rest.length:=by omega
      exact Nat.le_trans (Nat.mul_le_mul_right _ this) (of_decide_eq_true sQ)
     ·intro x ag
      obtain ⟨i,af,rfl⟩:=List.getElem_of_mem ag
      obtain ⟨_,_,_,a9,_⟩:=ky i _ (List.getElem?_eq_getElem af)
      exact ⟨Lp i _ (List.getElem?_eq_getElem af),a9⟩
     ·by_cases ar:len=0
      ·subst ar
       have:es=[]:=List.eq_nil_of_length_eq_zero aq
       subst this
       exact .lg _ _ _
      ·have uJ:∀(i:Nat) (aF:List D),es[i]?=some aF→∀j,j<P.cellsOf cX→w.cell? ((a.add (i*P.cellsOf cX)).add j)≠none:=by
        intro i aF af j aH
        obtain ⟨_,_,_,_,c,aj,av⟩:=ky i aF af
        obtain ⟨_,br,bo⟩:=World.cells?_some aj
        rw [bo j aH,List.getElem?_eq_getElem (by omega)]
        simp
       have rz:=uJ 0 _ (List.getElem?_eq_getElem (by omega)) 0 Bw
       simp only [Nat.zero_mul,Addr.add,if_true] at rz
       obtain ⟨b,off,spot⟩:=a
       unfold World.cell? at rz
       cases bu:w.heap[b]? with
       |none=>simp [bu] at rz
       |some o=>
        cases o with
        |cells vs T dH=>
         simp only [bu] at rz
         have ad3:spot=none:=by
          cases spot with
          |none=>rfl
          |some s=>simp at rz
         subst ad3
         have cellAt:∀q,w.cell? ⟨b,q,none⟩=vs[q]?:=by intro q;simp [World.cell?,bu]
         have ad4:∀q,(⟨b,off,none⟩:Addr).add q=⟨b,off+q,none⟩:=by intro q;unfold Addr.add;split<;>simp_all
         have ad5:∀o q,(⟨b,o,none⟩:Addr).add q=⟨b,o+q,none⟩:=by intro o q;unfold Addr.add;split<;>simp_all
         have key:∀(i:Nat) (aF:List D) (j:Nat) (c:D),es[i]?=some aF→aF[j]?=some c→∃v,vs[off+i*P.cellsOf cX+j]?=some v∧cU m c v:=by
          intro i aF j c af aH
          obtain ⟨_,_,_,_,a3,aj,av⟩:=ky i aF af
          obtain ⟨_,br,bo⟩:=World.cells?_some aj
          obtain ⟨v,ff,_,fo⟩:=av.at j c aH
          have cK:j<P.cellsOf cX:=by rw [←Lp i aF af];exact (List.getElem?_eq_some_iff.1 aH).1
          refine ⟨v,?_,fo⟩
          rw [←ff,←bo j cK,ad4,ad5,cellAt]
         rw [←aq]
         refine .aD _ es b off cap vs T dH (hm _ _ bu) ?_ (by omega) (fun i j=>(vs[off+i*P.cellsOf cX+j]?).getD undef) ?_ ?_
         ·intro x ag
          obtain ⟨i,af,rfl⟩:=List.getElem_of_mem ag
          obtain ⟨_,_,_,_,_,_,av⟩:=ky i _ (List.getElem?_eq_getElem af)
          exact ⟨Lp i _ (List.getElem?_eq_getElem af),av.one⟩
         ·intro i aF j c af aH
          obtain ⟨v,ad,_⟩:=key i aF j c af aH
          simp [ad]
         ·intro i aF j c af aH
          obtain ⟨v,ad,ae⟩:=key i aF j c af aH
          simpa [ad] using ae
        |_=>simp [bu] at rz
   ·cases ep
  |arr k e=>
   simp only [tyOk] at ep
   split at ep
   ·rename_i bg cX hu
    simp only [Bool.and_eq_true,decide_eq_true_eq] at ep
    obtain ⟨⟨ai,aj⟩,he⟩:=ep
    subst ai
    obtain ⟨xs,fm,aI,rfl,hlen,qf,Bx⟩:=DataW.trod_array hu h
    cases aI
    simp only [Ty.dp] at kp
    simp only [DataW.weights,hu] at iS
    have each:∀i,i<k→∃aF,∃x,xs[i]?=some x∧rd e x.1=some aF∧Wt e aF∧Rel m aF ((cs.drop (i*P.cellsOf cX)).take (P.cellsOf cX)):=by
     intro i af
     have ad:=Bx i af
     rw [List.getElem?_eq_getElem (by omega)] at ad
     have Lo:((xs[i]'(by omega)).1.weights P cX).all (·≤reachBytes)=true:=by
      refine List.all_eq_true.2 fun y aN=>List.all_eq_true.1 iS y ?_
      exact Ln (List.mem_map.2 ⟨_,List.getElem_mem _,rfl⟩) aN
     obtain ⟨aF,a0,a9,bH⟩:=ih e cX _ _ he kp Lo ad
     exact ⟨aF,_,List.getElem?_eq_getElem (by omega),a0,a9,bH⟩
    obtain ⟨es,aq,ky⟩:=Ll k _ each
    refine ⟨es.flatten,?_,⟨es,rfl,aq,?_⟩,?_⟩
    ·simp only [rd]
     rw [Lm (rd e) (xs.map (·.1)) es (by simp;omega)]
     ·rfl
     ·intro i x y ag aN
      obtain ⟨z,ad,ae,_⟩:=ky i y aN
      simp [ad] at ag
      rw [←ag];exact ae
    ·intro x ag
     obtain ⟨i,af,rfl⟩:=List.getElem_of_mem ag
     obtain ⟨_,_,_,a9,_⟩:=ky i _ (List.getElem?_eq_getElem af)
     exact a9
    ·have:=pieces (m:=m) (c:=P.cellsOf cX) (cs:=cs) es 0 (fun i x ag=>by
      obtain ⟨_,_,_,_,bH⟩:=ky i x ag
      simpa using bH) (by rw [aq];omega)
     simpa using this
   ·cases ep
  |struct cQ=>
   simp only [tyOk] at ep
   split at ep
   ·rename_i Lj hu
    obtain ⟨xs,fm,aI,rfl,hlen,qf,Bx⟩:=DataW.trod_struct hu h
    cases aI
    simp only [Ty.dp] at kp
    simp only [DataW.weights,hu] at iS
    have go:∀(cQ:List Ty) (gs:List Field) (cR:List (DataW H×List MemPlace)) (off:Nat),tyOkL P cQ gs off (P.cellsOf t)=true→dpL n cQ=true→(DataW.weightsEach P (gs.map (·.type)) (cR.map (·.1))).all (·≤reachBytes)=true→cR.length=gs.length→
      (∀(i:Nat) (f:Field),gs[i]?=some f→DataW.trod enc P w base spare held n f.type ((cs.drop f.offset).take (P.cellsOf f.type))=cR[i]?)→
      ∃aF,rdL cQ (cR.map (·.1))=some aF∧Gq cQ aF∧Rel m aF (cs.drop off):=by
     intro cQ
     induction cQ with
     |nil=>
      intro gs cR off ad By sQ ae ay
      cases gs with
      |nil=>
       simp only [tyOkL,decide_eq_true_eq] at ad
       have:cR=[]:=List.eq_nil_of_length_eq_zero ae
       subst this
       refine ⟨[],rfl,rfl,?_⟩
       rw [List.drop_eq_nil_of_le (by omega)]
       trivial
      |cons _ _=>simp [tyOkL] at ad
     |cons f cQ ad6=>
      intro gs cR off ad By sQ ae ay
      cases gs with
      |nil=>simp [tyOkL] at ad
      |cons g gs=>
       cases cR with
       |nil=>simp at ae
       |cons y cR=>
        simp only [tyOkL,Bool.and_eq_true,decide_eq_true_eq] at ad
        obtain ⟨⟨aS,aV⟩,bz⟩:=ad
        simp only [dpL,Bool.and_eq_true] at By
        simp only [List.map_cons,DataW.weightsEach,List.all_append,Bool.and_eq_true] at sQ
        obtain ⟨a,ah,aT,bR⟩:=ih f g.type _ y aV By.1 sQ.1 (ay 0 g rfl)
        obtain ⟨b,fp,g7,jq⟩:=ad6 gs cR _ bz By.2 sQ.2 (by simpa using ae) (fun i f a6=>by simpa using ay (i+1) f (by simpa using a6))
        refine ⟨a++b,by simp [rdL,ah,fp],⟨a,b,rfl,aT,g7⟩,?_⟩
        have e:cs.drop off=(cs.drop off).take (P.cellsOf g.type)++cs.drop (off+P.cellsOf g.type):=by
         conv=>lhs;rw [←List.take_append_drop (P.cellsOf g.type) (cs.drop off)]
         rw [List.drop_drop]
        rw [e]
        refine Rel.append ?_ jq
        rw [←aS];exact bR
    obtain ⟨aF,a0,a9,bH⟩:=go cQ Lj.toList xs 0 ep kp iS (by simpa using qf) (fun i f a6=>Bx i f (by simpa using a6))
    exact ⟨aF,a0,a9,by simpa using bH⟩
   ·cases ep
end
end Go.Am
namespace Go.Am
open Go.ChangeShapes Go.WideShapes Go.ChangeAt Go.RowKit
set_option linter.unusedVariables false
def tA:Ty→D→Prop
 | .struct cQ,d=>∃aF,d= .agg aF∧Gq cQ aF
 | .arr _ _,_=>False
 |ty,d=>Wt ty [d]
def Gr{H:Type}(ty:Ty)(x:DataW H)(d:D):Prop:=match ty with
 | .struct cQ=>∃aF,d= .agg aF∧rd (.struct cQ) x=some aF
 |ty=>rd ty x=some [d]
abbrev pe:=Nat→Ty
def Bz(t:Ty):pe:=fun _=>t
mutual
def noStop:Ty→Bool
 | .stop=>false
 | .slice _ _ e=>noStop e
 | .arr _ e=>noStop e
 | .struct cQ=>noStopL cQ
 |_=>true
def noStopL:List Ty→Bool
 |[]=>true
 |f::cQ=>noStop f&&noStopL cQ
end
mutual
theorem tB:∀(n:Nat) (t:Ty),noStop t=true→t.dp n=true
 |0,t,_=>by cases t<;>rfl
 |n+1,.stop,h=>by simp [noStop] at h
 |n+1,.slice _ _ e,h=>by rw [noStop] at h;rw [Ty.dp];exact tB n e h
 |n+1,.arr _ e,h=>by rw [noStop] at h;rw [Ty.dp];exact tB n e h
 |n+1,.struct cQ,h=>by rw [noStop] at h;rw [Ty.dp];exact Sh n cQ h
 |n+1,.bool,_=>rfl
 |n+1,.int _,_=>rfl
 |n+1,.str,_=>rfl
theorem Sh:∀(n:Nat) (t:List Ty),noStopL t=true→dpL n t=true
 |n,[],_=>by cases n<;>rfl
 |n,f::cQ,h=>by
  rw [noStopL,Bool.and_eq_true] at h
  rw [dpL,tB n f h.1,Sh n cQ h.2];rfl
end
def Si:Ty→Bool
 | .arr _ _=>false
 |_=>true
structure qv(P:Program)(F:pe)(t:TypeId):Prop where
 deep:∀n,(F n).dp n=true
 ok:∀n,tyOk P (F n) t=true
 lt:t<P.types.size
 ad7:∀n,Si (F n)=true
theorem Sj{P:Program}{y:Ty}{t:TypeId}(h:(noStop y&&Si y&&tyOk P y t&&decide (t<P.types.size))=true):qv P (Bz y) t:=by
 simp only [Bool.and_eq_true,decide_eq_true_eq] at h
 exact ⟨fun n=>tB n y h.1.1.1,fun _=>h.1.2,h.2,fun _=>h.1.1.2⟩
def yD(P:Program):List pe→List TypeId→Prop
 |[],[]=>True
 |F::Fs,t::ts=>qv P F t∧yD P Fs ts
 |_,_=>False
theorem yD.lt{P:Program}:∀{Fs:List pe} {ts:List TypeId},yD P Fs ts→∀t∈ts,t<P.types.size
 |[],[],_,t,h=>by simp at h
 |F::Fs,u::ts,h,t,aE=>by
  rcases List.mem_cons.1 aE with rfl|aE
  ·exact h.1.lt
  ·exact yD.lt h.2 t aE
 |[],_::_,h,_,_=>h.elim
 |_::_,[],h,_,_=>h.elim
def RWAll{H:Type}:List pe→List (DataW H)→List D→Prop
 |[],[],[]=>True
 |F::Fs,x::xs,d::aF=>(∃n,Gr (F n) x d∧tA (F n) d)∧RWAll Fs xs aF
 |_,_,_=>False
section
variable{H:Type}{enc:TypeId×Value→H}{P:Program}{w:World}
theorem Gs{m:Mem}{aF:List D}{v:Value}(h:Rel m aF [v]):∃d,aF=[d]∧cU m d v:=by
 cases aF with
 |nil=>exact h.elim
 |cons d r=>
  cases r with
  |nil=>exact ⟨d,rfl,h.2.1⟩
  |cons _ _=>exact h.2.2.elim
theorem ad8{m:Mem}{aF:List D}{cs:Array Value}(h:Rel m aF cs.toList):cU m (.agg aF) (.agg cs):=by
 refine .agg _ _ (by simpa using h.len) ?_
 intro i c v aj aM
 obtain ⟨u,ad,_,ae⟩:=h.at i c aj
 have:cs[i]?=some u:=by simpa using ad
 rw [aM] at this;cases this;exact ae
theorem ad9(m:Mem)(hm:∀(b:Nat) (o:Obj),w.heap[b]?=some o→m b=some o){r:Reach}{Bl base:Nat}{sp:Nat→Bool}{held:Bool}{F:pe}{t:TypeId}{v:Value}{x:DataW H}{h8:List MemPlace}
  (gV:qv P F t) (iS:(x.weights P t).all (·≤reachBytes)=true) (mV:Value.okWide P w r Bl t v) (h:DataW.Trod enc P w base sp held t v x h8):∃d n,Gr (F n) x d∧tA (F n) d∧cU m d v:=by
 obtain ⟨n,aI⟩:=h
 have ep:=gV.ok n
 have BA:=gV.ad7 n
 obtain ⟨aF,ad,ae,ay⟩:=Sg m hm n (F n) t _ _ ep (gV.deep n) iS aI
 suffices h:∃d,Gr (F n) x d∧tA (F n) d∧cU m d v from let⟨d,a⟩:=h;⟨d,n,a⟩
 clear gV aI
 generalize F n=ty at*
 cases ty with
 |bool=>
  simp only [tyOk] at ep
  split at ep
  ·obtain ⟨b,rfl⟩:=okWide_bool ‹_› mV
   obtain ⟨d,rfl,ax⟩:=Gs ay
   exact ⟨d,ad,ae,ax⟩
  ·cases ep
 |int k=>
  simp only [tyOk] at ep
  split at ep
  ·obtain ⟨b,rfl⟩:=okWide_int ‹_› mV
   obtain ⟨d,rfl,ax⟩:=Gs ay
   exact ⟨d,ad,ae,ax⟩
  ·cases ep
 |str=>
  simp only [tyOk] at ep
  split at ep
  ·obtain ⟨b,rfl⟩:=okWide_string ‹_› mV
   obtain ⟨d,rfl,ax⟩:=Gs ay
   exact ⟨d,ad,ae,ax⟩
  ·cases ep
 |stop=>exact (by simpa [Wt] using ae:False).elim
 |slice k Bv e=>
  simp only [tyOk] at ep
  split at ep
  ·obtain ⟨a,l,c,rfl⟩:=okWide_slice ‹_› mV
   obtain ⟨d,rfl,ax⟩:=Gs ay
   exact ⟨d,ad,ae,ax⟩
  ·cases ep
 |arr n e=>cases BA
 |struct cQ=>
  simp only [tyOk] at ep
  split at ep
  ·obtain ⟨cs,rfl,_⟩:=okWide_struct ‹_› mV
   exact ⟨.agg aF,⟨aF,rfl,ad⟩,⟨aF,rfl,ae⟩,ad8 ay⟩
  ·cases ep
theorem Sk(m:Mem)(hm:∀(b:Nat) (o:Obj),w.heap[b]?=some o→m b=some o){r:Reach}{Bl base:Nat}{sp:Nat→Bool}{held:Bool}:∀{Fs:List pe} {ts:List TypeId} {vs:List Value} {xs:List (DataW H)} {h8:List MemPlace},
  yD P Fs ts→(DataW.weightsEach P ts xs).all (·≤reachBytes)=true→(∀(j:Nat) t v,ts[j]?=some t→vs[j]?=some v→Value.okWide P w r Bl t v)→DataW.TrodAll enc P w base sp held ts vs xs h8→
  ∃aF,RWAll Fs xs aF∧uR m aF vs
 |[],[],vs,xs,h8,_,_,_,h=>by
  obtain ⟨rfl,rfl,rfl⟩:=trodAll_nil h
  exact ⟨[],trivial,rfl,by intro i d v ax;simp at ax⟩
 |F::Fs,t::ts,vs,xs,h8,ep,iS,mV,h=>by
  obtain ⟨v,Lk,x,E4,p,q,rfl,rfl,rfl,ad,ae⟩:=trodAll_cons h
  simp only [DataW.weightsEach,List.all_append,Bool.and_eq_true] at iS
  obtain ⟨d,n,d1,d2,d3⟩:=ad9 m hm ep.1 iS.1 (mV 0 t v rfl rfl) ad
  obtain ⟨aF,aS,bz⟩:=Sk m hm ep.2 iS.2 (fun j t v aE aM=>mV (j+1) t v (by simpa using aE) (by simpa using aM)) ae
  refine ⟨d::aF,⟨⟨n,d1,d2⟩,aS⟩,by simpa using bz.1,?_⟩
  intro i c u aj hu
  cases i with
  |zero=>simp at aj hu;subst aj;subst hu;exact d3
  |succ i=>exact bz.2 i c u (by simpa using aj) (by simpa using hu)
 |[],_::_,_,_,_,h,_,_,_=>h.elim
 |_::_,[],_,_,_,h,_,_,_=>h.elim
theorem again{W k1:World}(hle:∀(b:Nat) (o:Obj),W.heap[b]?=some o→k1.heap[b]?=some o)(aq:laidOutB P=true)(hm:mapsRowed P=true)
  (bN:((List.range P.types.size).all fun t=>match P.underlying t with|some (.slice e)=>decide (0<P.cellsOf e)|_=>true)=true) {sp:Nat→Bool}:
  ∀{ts:List TypeId} {vs:List Value} {aF:List (DataW H)} {h8:List MemPlace},(∀t∈ts,t<P.types.size)→DataW.TrodAll enc P W 0 (fun _=>true) true ts vs aF h8→
   (∀p∈h8,p.block<W.heap.size)→(∀p∈h8,sp p.block=true)→DataW.TrodAll enc P k1 0 sp true ts vs aF h8
 |[],[],[],_,_,h,_,_=>h
 |t::ts,v::vs,d::aF,_,aE,⟨p,q,⟨n,ad⟩,ae,e⟩,bJ,az=>by
  refine ⟨p,q,⟨n,?_⟩,again hle aq hm bN (fun t h=>aE t (by simp [h])) ae (fun x ag=>bJ x (by rw [e];exact List.mem_append_right _ ag)) (fun x ag=>az x (by rw [e];exact List.mem_append_right _ ag)),e⟩
  refine DataW.trod_stays (kids_rows aq hm) (fun{t e} ad ae=>slices_full_of P bN t e ad ae) (fun h=>by cases h) (aE t (by simp)) ad ?_ (fun x ag=>az x (by rw [e];exact List.mem_append_left _ ag))
  intro x ag
  have ak:=bJ x (by rw [e];exact List.mem_append_left _ ag)
  have bu:k1.heap[x.block]?=W.heap[x.block]?:=by
   rw [Array.getElem?_eq_getElem ak]
   exact hle _ _ (Array.getElem?_eq_getElem ak)
  cases x with
  |cell b off=>
   show k1.cell? ⟨b,off,none⟩=W.cell? ⟨b,off,none⟩
   unfold World.cell?
   rw [show k1.heap[b]?=W.heap[b]? from bu]
  |map b=>exact bu
def Gt(W:World):eF:=⟨fun _=>none,W.os,W.output,W.heap.size⟩
theorem aea(W:World):qj (fun b=>W.heap[b]?) (Gt W) W:=by
 refine ⟨fun b o h=>h,⟨fun b o h=>by simp [Gt] at h,rfl,rfl,Nat.le_refl _,?_⟩,fun _ _=>rfl⟩
 intro b c t f ak aj
 have:W.heap[b]?=none:=Array.getElem?_eq_none ak
 rw [aj] at this;cases this
theorem aeb{W k1:World}{cd:Mem}(hle:(show Mem from fun b=>W.heap[b]?).le cd)(h:qj cd (Gt W) k1):
  W.keptBut k1 (fun _=>False)∧(∀a,k1.frozen? a=W.frozen? a)∧(∀(b:Nat) (o:Obj),W.heap[b]?=some o→k1.heap[b]?=some o):=by
 have bu:∀(b:Nat) (o:Obj),W.heap[b]?=some o→k1.heap[b]?=some o:=fun b o ak=>h.mem b o (hle b o ak)
 refine ⟨⟨h.frame.quiet.os,h.frame.quiet.out,fun i af=>?_⟩,fun a=>?_,bu⟩
 ·have ad:=Array.getElem?_eq_getElem af
  have ae:=bu i _ ad
  rw [ad,ae]
  split
  ·rename_i aS aV
   rw [aS] at aV
   simp only [Option.some.injEq,Obj.cells.injEq] at aV
   obtain ⟨rfl,rfl,rfl⟩:=aV
   exact ⟨rfl,rfl,rfl,fun _ _=>rfl⟩
  ·rename_i aS aV
   rw [aS] at aV
   simp only [Option.some.injEq,Obj.map.injEq] at aV
   exact Or.inr ⟨aV.1.symm,aV.2.symm⟩
  ·rfl
 ·unfold World.frozen?
  cases ak:W.heap[a.block]? with
  |some o=>rw [bu _ _ ak]
  |none=>
   have fF:W.heap.size≤a.block:=by
    refine Nat.le_of_not_lt fun bJ=>?_
    rw [Array.getElem?_eq_getElem bJ] at ak
    cases ak
   cases fM:k1.heap[a.block]? with
   |none=>rfl
   |some o=>
    cases o with
    |cells c t f=>
     have:=h.frame.quiet.p9 _ c t f fF fM
     subst this
     simp
    |_=>rfl
theorem aec{G:cV}{f:FuncId}{fn:Func}{s:ChangeSpec}{Fs:List pe}{tr:TypeId}{W:World}{base:Nat}{args:Array Value}{aF gs:List (DataW H)}{before:List MemPlace}
  (aq:laidOutB P=true) (hm:mapsRowed P=true)
  (bN:((List.range P.types.size).all fun t=>match P.underlying t with|some (.slice e)=>decide (0<P.cellsOf e)|_=>true)=true)
  (ep:yD P Fs fn.params.toList) (yj:fn.resultTypes= #[tr]) (gC:P.underlying tr=some .bool)
  (Sl:s.vars=[]) (az:∀aF:List (DataW H),aF.length=Fs.length→s.fn H aF=⟨[.lit (.bool true)],aF,[]⟩)
  (hf:∀hR,RWAll Fs aF hR→dz P G f hR (·=au true))
  (cA:iL G (fun b:Nat=>W.heap[b]?))
  {Sm:List TypeId} (aed:Sm=[]) (iS:(DataW.weightsEach P (fn.params.toList++Sm) (aF++gs)).all (·≤reachBytes)=true)
  (mV:∀(j:Nat) t v,fn.params[j]?=some t→args[j]?=some v→Value.okWide P W .any base t v)
  (yE:DataW.Whole enc P fn.params.toList s.vars false W args.toList aF gs before):
  Calls P f args W fun e k1=>∃v,e= .returned v∧s.post enc P fn false true false false W args v k1:=by
 have Sn:=yE
 obtain ⟨p,q,dG,fR,rfl,Gu,ate⟩:=yE
 rw [Sl] at fR
 obtain ⟨rfl,rfl⟩:=trodVars_none fR
 subst aed
 rw [List.append_nil,List.append_nil] at iS
 obtain ⟨hR,d1,d3⟩:=Sk (fun b=>W.heap[b]?) (fun b o h=>h) ep iS (fun j t v aE aM=>mV j t v (by simpa using aE) (by simpa using aM)) dG
 have aj:=(hf hR d1).run (fun b=>W.heap[b]?) (Gt W) W args.toList cA (aea W) d3
 have hlen:aF.length=Fs.length:=by
  have:∀(df:List pe) (aF:List (DataW H)) (hR:List D),RWAll df aF hR→aF.length=df.length:=by
   intro df
   induction df with
   |nil=>intro aF hR h;cases aF<;>cases hR<;>simp_all [RWAll]
   |cons y df ih=>
    intro aF hR h
    cases aF with
    |nil=>cases hR<;>simp [RWAll] at h
    |cons x aF=>
     cases hR with
     |nil=>simp [RWAll] at h
     |cons d hR=>simp [ih aF hR h.2]
  exact this _ _ _ d1
 refine aj.mono fun e k1 ⟨v,cd,r,he,av,hle,cY,aM⟩=>?_
 subst av
 have vq:v= .bool true:=by cases aM;rfl
 subst vq
 obtain ⟨cg,dK,hk⟩:=aeb hle cY
 have bJ:=Sn.lt
 refine ⟨_,he,?_⟩
 have tx:=az (aF++[]) (by simpa using hlen)
 simp only [List.append_nil] at tx
 refine post_of_same (pa:=p) (pv:=[]) Sn (fun b sp ax=>?_) (fun sp jJ=>?_) (fun sp jJ=>?_) rfl (World.keptBut_mono (fun _ h=>h.elim) cg) dK (ok_one yj rfl (okWide_bool_mk gC _))
 ·rw [List.append_nil,tx,yj]
  exact trodAll_cons_mk (shut_bool gC true) trodAll_mk0
 ·rw [List.append_nil,tx]
  exact again hk aq hm bN ep.lt dG (fun x ag=>bJ x (by simpa using ag)) (fun x ag=>jJ x (by simpa using ag))
 ·rw [List.append_nil,tx,Sl];rfl
theorem So{W:World}:∀(laid:List (String×DataW Unit)) (gs:List (Nat×TypeId×Ty×List D)) (h8:List MemPlace),DataW.LaidVars P W laid h8→
  gs.length=laid.length→(∀(i:Nat) x g,laid[i]?=some x→gs[i]?=some g→P.globalNamed x.1=some g.1∧(P.globals[g.1]?).map (·.type)=some g.2.1∧tyOk P g.2.2.1 g.2.1=true∧rd g.2.2.1 x.2=some g.2.2.2∧noStop g.2.2.1=true∧(x.2.weights P g.2.1).all (·≤reachBytes)=true)→
  ∀g∈gs,∃vs T dH,W.heap[g.1]?=some (.cells vs T dH)∧Rel (fun b=>W.heap[b]?) g.2.2.2 vs.toList
 |[],[],_,_,_,_,g,bD=>by simp at bD
 |(jN,x)::laid,y::gs,h8,h,aq,ag,g,bD=>by
  obtain ⟨oT,t,cs,fuel,p,q,ad,ae,ay,aZ,bG,_⟩:=h
  rcases List.mem_cons.1 bD with rfl|bD
  ·obtain ⟨aT,bR,eg,ga,iu,jr⟩:=ag 0 _ _ rfl rfl
   have aS:=Option.some.inj (aT.symm.trans ad)
   subst aS
   have aV:=Option.some.inj (bR.symm.trans ae)
   subst aV
   obtain ⟨aF,fp,_,jq⟩:=Sg (fun b=>W.heap[b]?) (fun b o h=>h) fuel _ _ _ _ eg (tB _ _ iu) jr aZ
   have bz:=Option.some.inj (ga.symm.trans fp)
   unfold World.var? at ay
   rw [ad] at ay
   simp only [Option.bind_some] at ay
   split at ay
   ·rename_i qb T dH bu
    cases ay
    exact ⟨_,T,dH,bu,by rw [bz];exact jq⟩
   ·cases ay
  ·exact So laid gs q bG (by simpa using aq) (fun i x g eM aee=>ag (i+1) x g (by simpa using eM) (by simpa using aee)) g bD
 |[],_::_,_,_,h,_,_,_=>by simp at h
 |_::_,[],_,_,h,_,_,_=>by simp at h
theorem aef{G:cV}{W:World}(gs:List (Nat×TypeId×Ty×List D))(cA:∀g cs,G g=some cs→∃x∈gs,x.1=g∧x.2.2.2=cs)
  (h:∀g∈gs,∃vs T dH,W.heap[g.1]?=some (.cells vs T dH)∧Rel (fun b=>W.heap[b]?) g.2.2.2 vs.toList):iL G (fun b:Nat=>W.heap[b]?):=by
 intro g cs bD
 obtain ⟨x,ag,rfl,rfl⟩:=cA g cs bD
 obtain ⟨vs,T,dH,ad,ae⟩:=h x ag
 refine ⟨vs,T,dH,ad,fun j=>(vs[j]?).getD undef,?_,?_⟩
 ·intro j c aj
  obtain ⟨v,br,_,_⟩:=ae.at j c aj
  have:vs[j]?=some v:=by simpa using br
  simp [this]
 ·intro j c aj
  obtain ⟨v,br,_,bo⟩:=ae.at j c aj
  have:vs[j]?=some v:=by simpa using br
  simpa [this] using bo
end
end Go.Am
namespace Go.Am
set_option linter.unusedVariables false
def Sp:Ty:= .struct [.str,.bool,.int .i64,.int .i64]
def Gv:Ty:= .slice 4 40 Sp
def Sq:Ty:= .slice 1 8 (.int .i64)
theorem nA{α:Type}(f:α→List D)(Q:α→Prop):∀(es:List (List D)),(∀x∈es,∃y,x=f y∧Q y)→∃l:List α,es=l.map f∧∀y∈l,Q y
 |[],_=>⟨[],rfl,by simp⟩
 |x::es,h=>by
  obtain ⟨y,rfl,aN⟩:=h x (by simp)
  obtain ⟨l,rfl,aq⟩:=nA f Q es fun x ag=>h x (by simp [ag])
  exact ⟨y::l,rfl,by intro z bN;rcases List.mem_cons.1 bN with rfl|bN;exact aN;exact aq z bN⟩
theorem aeg{n:Int}(h:(Lit.int .i64 n).wf=true):kS n:=by
 have:=Go.bounds_i64 h
 exact this
theorem vr{x:List D}(h:Wt (.int .i64) x):∃n,x=[J n]∧kS n:=by
 obtain ⟨n,rfl,aI⟩:=h
 exact ⟨n,rfl,aeg aI⟩
theorem Gw{x:List D}(h:Wt .str x):∃s,x=[aJ s]∧s.size≤140737488351232:=h
theorem aeh{x:List D}(h:Wt .bool x):∃b,x=[au b]:=h
theorem aei{x:List D}(h:Wt Sp x):∃v:V,x=v.cells∧V.ok v:=by
 obtain ⟨a,b,rfl,aB,c,d,rfl,aj,e,f,rfl,he,g,i,rfl,bD,rfl⟩:=h
 obtain ⟨s,rfl,az⟩:=Gw aB
 obtain ⟨q,rfl⟩:=aeh aj
 obtain ⟨lo,rfl,gN⟩:=vr he
 obtain ⟨af,rfl,ti⟩:=vr bD
 exact ⟨⟨s,q,lo,af⟩,rfl,gN,ti,by simp only;omega⟩
theorem aej{k b:Nat}{d:D}{e:Ty}(h:Wt (.slice k b e) [d]):∃es,d= .aD k es∧es.length*b≤140737488351232∧∀x∈es,Wt e x:=by
 obtain ⟨es,he,_,ad,ae⟩:=h
 cases he
 exact ⟨es,rfl,ad,fun x ag=>(ae x ag).2⟩
theorem aek{d:D}(h:tA Sq d):∃l:List Int,d=ck l∧l.length*8≤140737488351232∧∀v∈l,kS v:=by
 obtain ⟨es,rfl,ad,ae⟩:=aej h
 obtain ⟨l,rfl,aq⟩:=nA (fun n=>[J n]) kS es fun x ag=>vr (ae x ag)
 exact ⟨l,rfl,by simpa using ad,aq⟩
theorem ael{d:D}(h:tA (.int .i64) d):∃n,d=J n∧kS n:=by
 obtain ⟨n,ad,ae⟩:=vr h
 exact ⟨n,by simpa using ad,ae⟩
end Go.Am
namespace Go.Am
set_option linter.unusedVariables false
abbrev cI:D:= .val (.slice none 0 0)
def b3(k:Nat)(nl:Bool)(es:List (List D)):D:=if nl&&es.isEmpty then cI else .aD k es
section
variable{k:Nat}{nl:Bool}{es:List (List D)}
theorem aem:b3 k false es= .aD k es:=by simp [b3]
@[simp] theorem Sr:lenP (b3 k nl es)=some (J es.length):=by
 unfold b3
 split
 ·rename_i h;simp at h;simp [h.2,J,lenP]
 ·rfl
@[simp] theorem aen:bC (b3 k nl es)=true:=by unfold b3;split<;>rfl
@[simp] theorem aeo:(b3 k nl es).one=true:=by unfold b3;split<;>rfl
theorem Lq{i:Nat}:a2 k (b3 k nl es) (J (i:Int))=es[i]?:=by
 unfold b3
 split
 ·rename_i h;simp at h;simp [h.2,J,a2]
 ·simp
@[simp] theorem atf:elP (b3 k nl es)=some (if nl&&es.isEmpty then(0,[]) else(k,es)):=by
 unfold b3;split<;>rfl
end
inductive Tm where
 |mk (op n:Int) (name:ByteArray) (nl:Bool) (kids:List Tm)
namespace Tm
def op:Tm→Int| .mk o _ _ _ _=>o
def num:Tm→Int| .mk _ n _ _ _=>n
def name:Tm→ByteArray| .mk _ _ s _ _=>s
def nl:Tm→Bool| .mk _ _ _ b _=>b
def kids:Tm→List Tm| .mk _ _ _ _ l=>l
mutual
def cells:Tm→List D
 | .mk o n s b ks=>[J o,J n,aJ s,b3 4 b (rows ks)]
def rows:List Tm→List (List D)
 |[]=>[]
 |t::r=>cells t::rows r
end
def d(t:Tm):D:= .agg t.cells
mutual
def bd:Tm→Nat
 | .mk _ _ _ _ ks=>2+dq ks
def dq:List Tm→Nat
 |[]=>0
 |t::r=>1+bd t+dq r
end
theorem iv:∀l:List Tm,rows l=l.map cells
 |[]=>rfl
 |t::r=>by simp [rows,iv r]
@[simp] theorem js {l:List Tm}:(rows l).length=l.length:=by simp [iv]
theorem BB{l:List Tm}{i:Nat}{t:Tm}(h:l[i]?=some t):(rows l)[i]?=some t.cells:=by simp [iv,h]
theorem gb{l:List Tm}{b:Bool}{i:Nat}{t:Tm}(h:l[i]?=some t):a2 4 (b3 4 b (rows l)) (J (i:Int))=some t.cells:=by rw [Lq,BB h]
theorem BC:∀l:List Tm,l.length≤dq l
 |[]=>Nat.le_refl 0
 |t::r=>by simp only [dq,List.length_cons];have:=BC r;omega
theorem BD:∀{l:List Tm} {t:Tm},t∈l→bd t+1≤dq l
 |a::r,t,h=>by
  simp only [dq]
  rcases List.mem_cons.1 h with rfl|h
  ·omega
  ·have:=BD h;omega
theorem hS{t k:Tm}(h:k∈t.kids):k.bd+3≤t.bd:=by
 cases t with
 |mk o n s b ks=>simp only [bd];have:=BD (show k∈ks from h);omega
theorem jt{t:Tm}:t.kids.length+2≤t.bd:=by
 cases t with
 |mk o n s b ks=>simp only [bd];have:=BC ks;show ks.length+2≤_;omega
theorem ind{P:Tm→Prop}(h:∀t:Tm,(∀k∈t.kids,P k)→P t)(t:Tm):P t:=by
 have:∀(n:Nat) (t:Tm),t.bd≤n→P t:=by
  intro n
  induction n with
  |zero=>intro t aE;cases t;simp [bd] at aE
  |succ n ih=>intro t aE;exact h t fun k ai=>ih k (by have:=hS ai;omega)
 exact this _ t (Nat.le_refl _)
inductive b2:Tm→Prop where
 |mk (o n:Int) (s:ByteArray) (b:Bool) (ks:List Tm) (aG:-9223372036854775808≤o∧o≤9223372036854775807) (aI:-9223372036854775808≤n∧n≤9223372036854775807) (az:s.size≤140737488355328) (aq:ks.length*56≤140737488355328) (ai:∀k∈ks,b2 k):b2 (.mk o n s b ks)
theorem b2.er{t k:Tm}(h:b2 t)(ai:k∈t.kids):b2 k:=by cases h with|mk o n s b ks aG aI az aq eR=>exact eR k ai
theorem b2.len{t:Tm}(h:b2 t):t.kids.length*56≤140737488355328:=by cases h;assumption
theorem mW(t:Tm):t.cells=[J t.op,J t.num,aJ t.name,b3 4 t.nl (rows t.kids)]:=by cases t;rfl
theorem ic(t:Tm):t.d= .agg [J t.op,J t.num,aJ t.name,b3 4 t.nl (rows t.kids)]:=by cases t;rfl
@[simp] theorem lD (t:Tm):aL 4 t.d=true:=by rw [ic];simp
@[simp] theorem mX (t:Tm):aa t.d 0=J t.op:=by rw [ic];rfl
@[simp] theorem pf (t:Tm):aa t.d 1=J t.num:=by rw [ic];rfl
@[simp] theorem qw (t:Tm):aa t.d 2=aJ t.name:=by rw [ic];rfl
@[simp] theorem pg (t:Tm):aa t.d 3=b3 4 t.nl (rows t.kids):=by rw [ic];rfl
@[simp] theorem BE (t:Tm):D.agg [J t.op,J t.num,aJ t.name,b3 4 t.nl (rows t.kids)]=t.d:=(ic t).symm
@[simp high] theorem Lr (t:Tm):aW true 4 0 t.cells=some t.d:=by rw [ic,mW];rfl
@[simp] theorem fq (t:Tm):t.cells[0]?=some (J t.op):=by rw [mW];rfl
@[simp] theorem gq (t:Tm):t.cells[1]?=some (J t.num):=by rw [mW];rfl
@[simp] theorem aep (t:Tm):t.cells[2]?=some (aJ t.name):=by rw [mW];rfl
@[simp] theorem atg (t:Tm):t.cells[3]?=some (b3 4 t.nl (rows t.kids)):=by rw [mW];rfl
end Tm
theorem dr{β α σ:Type}{f:List D→Option (List D⊕β)}(l:List α)(S:Nat→σ→List D)(dQ:List α→σ→β)(Inv:Nat→σ→Prop)
  (ar:∀s,Inv l.length s→f (S l.length s)=some (.inr (dQ [] s)))
  (ad:∀(i:Nat) (a:α) (s:σ),l[i]?=some a→i<l.length→Inv i s→
   (∃s',f (S i s)=some (.inl (S (i+1) s'))∧dQ (a::l.drop (i+1)) s=dQ (l.drop (i+1)) s'∧Inv (i+1) s')∨f (S i s)=some (.inr (dQ (a::l.drop (i+1)) s))):
  ∀(m i:Nat) (s:σ),Inv i s→l.length-i<m→i≤l.length→bk f m (S i s)=some (dQ (l.drop i) s)
 |0,i,s,_,h,_=>absurd h (Nat.not_lt_zero _)
 |m+1,i,s,af,hm,hle=>by
  rw [iterL_s]
  by_cases h:i<l.length
  ·have bD:=List.getElem?_eq_getElem h
   have e:l.drop i=l[i]::l.drop (i+1):=List.drop_eq_getElem_cons h
   rcases ad i _ s bD h af with⟨s',a0,a9,bH⟩|a0
   ·rw [a0,e,a9]
    exact dr l S dQ Inv ar ad m (i+1) s' bH (by omega) h
   ·rw [a0,e];rfl
  ·have:i=l.length:=by omega
   subst this
   rw [ar s af,List.drop_eq_nil_of_le (Nat.le_refl _)];rfl
theorem Gx(op:Int):op=1∨op=2∨op=3∨op=4∨op=5∨op=6∨op=7∨op=8∨op=9∨op=10∨op=11∨op=12∨op=13∨op=14∨op=15∨op=16∨op=17∨op=18∨(op<1∨op>18):=by omega
end Go.Am
namespace Go.Am
set_option linter.unusedVariables false
@[simp] theorem ath {f:FuncId}:isFc f (.val (.func (.func f) #[] #[]))=true:=by simp [isFc]
@[simp] theorem l4 {f:FuncId} {cs:List D}:fnOf f (.fn (.func f) [] cs)=some cs:=by simp [fnOf]
theorem Ss(a b:Int):jI true [J a,J b]=some (J (if b>a then b else a)):=by
 simp [jI,intMM,mmFold,J,toDo]
theorem Su(a b:Int):jI false [J a,J b]=some (J (if b<a then b else a)):=by
 simp [jI,intMM,mmFold,J,toDo]
@[simp] theorem Sv {b:Bool}:(au b).flat=true:=rfl
@[simp] theorem aeq {b:Int}:(J b).flat=true:=rfl
@[simp] theorem aer {b:ByteArray}:(aJ b).flat=true:=rfl
@[simp] theorem ati {a:Int}:unP .neg (J a)=some (J (IntKind.i64.wrap (-a))):=by rw [←Int.zero_sub];rfl
theorem Sw:(D.val (.bool false))=au false:=rfl
theorem Sx:(D.val (.int .i64 0))=J 0:=rfl
theorem Sy:(D.val (.string ⟨#[]⟩))=aJ ⟨#[]⟩:=rfl
@[simp] theorem aes (a b c:D):aL 3 (.agg [a,b,c])=(a.one&&(b.one&&c.one)):=by simp [aL]
@[simp] theorem aet (a b c e:D):aL 4 (.agg [a,b,c,e])=(a.one&&(b.one&&(c.one&&e.one))):=by simp [aL]
@[simp] theorem atj {a:D} {l:List D}:aa (.agg (a::l)) 0=a:=rfl
@[simp] theorem atk {a b:D} {l:List D}:aa (.agg (a::b::l)) 1=b:=rfl
@[simp] theorem atl {a b c:D} {l:List D}:aa (.agg (a::b::c::l)) 2=c:=rfl
@[simp] theorem atm {a b c e:D} {l:List D}:aa (.agg (a::b::c::e::l)) 3=e:=rfl
theorem cf{bt:Bool}{i:Nat}(h:i<1000000000000000000):binP bt .add (J (i:Int)) (J 1)=some (J ((i+1:Nat):Int)):=by
 rw [ec (by omega) (by omega)];rfl
theorem j6{bt:Bool}{i:Int}(h:-9223372036854775809≤i)(bm:i<9223372036854775807):binP bt .add (J i) (J 1)=some (J (i+1)):=by
 rw [ec (by omega) (by omega)]
section
variable{α β:Type}{c:Prop}[Decidable c]
@[simp] theorem atn {a b:α}:(if c then(Sum.inl a:α⊕β) else Sum.inl b)=Sum.inl (if c then a else b):=by split<;>rfl
@[simp] theorem ato {a b:β}:(if c then(Sum.inr a:α⊕β) else Sum.inr b)=Sum.inr (if c then a else b):=by split<;>rfl
@[simp] theorem atp {a b:α} {l r:List α}:(if c then a::l else b::r)=(if c then a else b)::(if c then l else r):=by split<;>rfl
@[simp] theorem atq {a b:Int}:(if c then J a else J b)=J (if c then a else b):=by split<;>rfl
@[simp] theorem atr {a b:ByteArray}:(if c then aJ a else aJ b)=aJ (if c then a else b):=by split<;>rfl
@[simp] theorem Ls {a b:List D}:(if c then D.aO a else D.aO b)=D.aO (if c then a else b):=by split<;>rfl
@[simp] theorem ats {a b:List D}:(if c then D.agg a else D.agg b)=D.agg (if c then a else b):=by split<;>rfl
@[simp] theorem att {f:List D→Option β} {x y:List D⊕β}:a7 f (if c then x else y)=if c then a7 f x else a7 f y:=by split<;>rfl
@[simp] theorem atu {x y:Option α} {f:α→Option β}:R (if c then x else y) f=if c then R x f else R y f:=by split<;>rfl
end
section
variable{dI:Type}{c:Prop}[Decidable c]
@[simp] theorem atv {x y:D} {w:Bool} {p:Option D}:gD (if c then x else y) w p=if c then gD x w p else gD y w p:=by split<;>rfl
@[simp] theorem atw {x y:D} {w:Bool} {p q:Option dI}:u7 (if c then x else y) w p q=if c then u7 x w p q else u7 y w p q:=by split<;>rfl
@[simp] theorem atx {x y a b:D}:pickP (if c then x else y) a b=if c then pickP x a b else pickP y a b:=by split<;>rfl
@[simp] theorem aty {x y:D} {p q:Option dI}:oif (if c then x else y) p q=if c then oif x p q else oif y p q:=by split<;>rfl
@[simp] theorem atz {x y:D} {o:UnOp}:unP o (if c then x else y)=if c then unP o x else unP o y:=by split<;>rfl
end
@[simp] theorem atA {a b:Bool}:au a=au b↔a=b:=⟨fun h=>by cases h;rfl,fun h=>by rw [h]⟩
@[simp] theorem atB {a b:Int}:J a=J b↔a=b:=⟨fun h=>by cases h;rfl,fun h=>by rw [h]⟩
@[simp] theorem atC {a b:ByteArray}:aJ a=aJ b↔a=b:=⟨fun h=>by cases h;rfl,fun h=>by rw [h]⟩
attribute [simp] Sw Sx Sy
end Go.Am
namespace Go.Am
set_option linter.unusedVariables false
def j7(M:List (Value×D)):Prop:=∀e∈M,∃s,e.1= .string s
def getS:List (Value×D)→ByteArray→Option D
 |[],_=>none
 |(.string s,d)::r,x=>if s=x then some d else getS r x
 |_::r,x=>getS r x
theorem Sz{e:Value×D}{M:List (Value×D)}(h:j7 (e::M)):(∃s,e.1= .string s)∧j7 M:=⟨h e (by simp),fun x ag=>h x (by simp [ag])⟩
theorem SA(a b:ByteArray):Instr.sameNow .string (.string a) (.string b)=some (decide (b=a)):=by
 simp [Instr.sameNow,Jo,eq_comm]
theorem SB{M:List (Value×D)}(h:j7 M)(x:ByteArray):findD .string (.string x) M=some (getS M x):=by
 induction M with
 |nil=>rfl
 |cons e r ih=>
  obtain ⟨⟨s,az⟩,av⟩:=Sz h
  obtain ⟨k,d⟩:=e
  simp only at az
  subst az
  simp only [findD,SA,getS]
  by_cases ag:s=x
  ·simp [ag]
  ·simp [ag,ih av]
theorem aeu{M:List (Value×D)}(h:j7 M)(x:ByteArray)(d:D):∃dF,mapPut .string (.string x) d M=some dF∧j7 dF∧(∀y,getS dF y=if y=x then some d else getS M y)∧dF.length=M.length+(if(getS M x).isSome then 0 else 1):=by
 induction M with
 |nil=>exact ⟨[(.string x,d)],rfl,by intro e he;simp at he;exact ⟨x,by rw [he]⟩,fun y=>by simp [getS,eq_comm],rfl⟩
 |cons e r ih=>
  obtain ⟨⟨s,az⟩,av⟩:=Sz h
  obtain ⟨k,d0⟩:=e
  simp only at az
  subst az
  simp only [mapPut,SA,getS]
  by_cases ag:s=x
  ·refine ⟨(.string x,d)::r,by simp [ag],?_,fun y=>?_,by simp [ag]⟩
   ·intro e he
    rcases List.mem_cons.1 he with rfl|he
    ·exact ⟨x,rfl⟩
    ·exact av e he
   ·simp only [getS]
    by_cases aN:y=x
    ·simp [aN]
    ·have:¬x=y:=fun h=>aN h.symm
     subst ag
     simp [aN,this]
  ·obtain ⟨dF,ad,ae,ay,aZ⟩:=ih av
   refine ⟨(.string s,d0)::dF,by simp [ag,ad],?_,fun y=>?_,by simp [ag,aZ];omega⟩
   ·intro e he
    rcases List.mem_cons.1 he with rfl|he
    ·exact ⟨s,rfl⟩
    ·exact ae e he
   ·simp only [getS,ay y]
    by_cases aN:y=x
    ·subst aN;simp [ag]
    ·simp [aN]
theorem lookS1{M:List (Value×D)}(h:j7 M){z:Value}{x:ByteArray}:lookP .string z true M (aJ x)=some (match getS M x with|some d=> .aO [d,au true]|none=> .aO [zeroD z,au false]):=by
 simp only [lookP,aJ,SB h]
 cases getS M x<;>rfl
theorem Gy{M:List (Value×D)}(h:j7 M)(x:ByteArray)(d:D):∃dF,o2 .string M (aJ x) d=some dF∧j7 dF∧(∀y,getS dF y=if y=x then some d else getS M y)∧dF.length=M.length+(if(getS M x).isSome then 0 else 1):=aeu h x d
def rS(M:List (Value×D)):Prop:=∀e∈M,∃i,e.1= .int .i64 i
def getI:List (Value×D)→Int→Option D
 |[],_=>none
 |(.int .i64 s,d)::r,x=>if s=x then some d else getI r x
 |_::r,x=>getI r x
theorem SC{e:Value×D}{M:List (Value×D)}(h:rS (e::M)):(∃s,e.1= .int .i64 s)∧rS M:=⟨h e (by simp),fun x ag=>h x (by simp [ag])⟩
theorem SD(a b:Int):Instr.sameNow (.int .i64) (.int .i64 a) (.int .i64 b)=some (decide (b=a)):=by
 by_cases h:a=b
 ·subst h;simp [Instr.sameNow]
 ·have bm:¬b=a:=fun e=>h e.symm
  simp [Instr.sameNow,h,bm]
theorem aev{M:List (Value×D)}(h:rS M)(x:Int):findD (.int .i64) (.int .i64 x) M=some (getI M x):=by
 induction M with
 |nil=>rfl
 |cons e r ih=>
  obtain ⟨⟨s,az⟩,av⟩:=SC h
  obtain ⟨k,d⟩:=e
  simp only at az
  subst az
  simp only [findD,SD,getI]
  by_cases ag:s=x
  ·simp [ag]
  ·simp [ag,ih av]
theorem aew{M:List (Value×D)}(h:rS M)(x:Int)(d:D):∃dF,mapPut (.int .i64) (.int .i64 x) d M=some dF∧rS dF∧(∀y,getI dF y=if y=x then some d else getI M y)∧dF.length=M.length+(if(getI M x).isSome then 0 else 1):=by
 induction M with
 |nil=>exact ⟨[(.int .i64 x,d)],rfl,by intro e he;simp at he;exact ⟨x,by rw [he]⟩,fun y=>by simp [getI,eq_comm],rfl⟩
 |cons e r ih=>
  obtain ⟨⟨s,az⟩,av⟩:=SC h
  obtain ⟨k,d0⟩:=e
  simp only at az
  subst az
  simp only [mapPut,SD,getI]
  by_cases ag:s=x
  ·refine ⟨(.int .i64 x,d)::r,by simp [ag],?_,fun y=>?_,by simp [ag]⟩
   ·intro e he
    rcases List.mem_cons.1 he with rfl|he
    ·exact ⟨x,rfl⟩
    ·exact av e he
   ·simp only [getI]
    by_cases aN:y=x
    ·simp [aN]
    ·have:¬x=y:=fun h=>aN h.symm
     subst ag
     simp [aN,this]
  ·obtain ⟨dF,ad,ae,ay,aZ⟩:=ih av
   refine ⟨(.int .i64 s,d0)::dF,by simp [ag,ad],?_,fun y=>?_,by simp [ag,aZ];omega⟩
   ·intro e he
    rcases List.mem_cons.1 he with rfl|he
    ·exact ⟨s,rfl⟩
    ·exact ae e he
   ·simp only [getI,ay y]
    by_cases aN:y=x
    ·subst aN;simp [ag]
    ·simp [aN]
theorem aex{M:List (Value×D)}(h:rS M){z:Value}{ok:Bool}{x:Int}:lookP (.int .i64) z ok M (J x)=some (match getI M x with|some d=>if ok then .aO [d,au true] else d|none=>if ok then .aO [zeroD z,au false] else zeroD z):=by
 simp only [lookP,J,aev h]
 cases getI M x<;>rfl
theorem aey{M:List (Value×D)}(h:rS M)(x:Int)(d:D):∃dF,o2 (.int .i64) M (J x) d=some dF∧rS dF∧(∀y,getI dF y=if y=x then some d else getI M y)∧dF.length=M.length+(if(getI M x).isSome then 0 else 1):=aew h x d
end Go.Am
namespace Go.Am
set_option linter.unusedVariables false
theorem SE:∀x:List UInt8,Op.bytesLess x x=false
 |[]=>rfl
 |a::x=>by simp [Op.bytesLess,SE x]
theorem SF:∀x y z:List UInt8,Op.bytesLess x y=true→Op.bytesLess y z=true→Op.bytesLess x z=true
 |[],[],z,h,_=>by simp [Op.bytesLess] at h
 |[],b::y,[],_,h=>by simp [Op.bytesLess] at h
 |[],b::y,c::z,_,_=>rfl
 |a::x,[],z,h,_=>by simp [Op.bytesLess] at h
 |a::x,b::y,[],_,h=>by simp [Op.bytesLess] at h
 |a::x,b::y,c::z,ad,ae=>by
  simp only [Op.bytesLess,Bool.or_eq_true,Bool.and_eq_true,decide_eq_true_eq,beq_iff_eq,UInt8.lt_iff_toNat_lt] at*
  rcases ad with ad|⟨rfl,ad⟩
  ·rcases ae with ae|⟨rfl,ae⟩
   ·exact .inl (by omega)
   ·exact .inl ad
  ·rcases ae with ae|⟨rfl,ae⟩
   ·exact .inl ae
   ·exact .inr ⟨rfl,SF x y z ad ae⟩
theorem SG:∀x y:List UInt8,Op.bytesLess x y=true∨x=y∨Op.bytesLess y x=true
 |[],[]=> .inr (.inl rfl)
 |[],b::y=> .inl rfl
 |a::x,[]=> .inr (.inr rfl)
 |a::x,b::y=>by
  simp only [Op.bytesLess,Bool.or_eq_true,Bool.and_eq_true,decide_eq_true_eq,beq_iff_eq,UInt8.lt_iff_toNat_lt,List.cons.injEq]
  by_cases ad:a.toNat<b.toNat
  ·exact .inl (.inl ad)
  ·by_cases ae:b.toNat<a.toNat
   ·exact .inr (.inr (.inl ae))
   ·have:a=b:=UInt8.toNat_inj.1 (by omega)
    subst this
    rcases SG x y with h|h|h
    ·exact .inl (.inr ⟨rfl,h⟩)
    ·exact .inr (.inl ⟨rfl,h⟩)
    ·exact .inr (.inr (.inr ⟨rfl,h⟩))
theorem rT(x:ByteArray):blt x x=false:=SE _
theorem vt{x y z:ByteArray}(h:blt x y=true)(bm:blt y z=true):blt x z=true:=SF _ _ _ h bm
theorem Lt(x y:ByteArray):blt x y=true∨x=y∨blt y x=true:=by
 rcases SG x.toList y.toList with h|h|h
 ·exact .inl h
 ·exact .inr (.inl (O6 h))
 ·exact .inr (.inr h)
theorem aez(y x:ByteArray):(!(blt y x||decide (y=x)))=blt x y:=by
 rcases Lt x y with h|h|h
 ·have ad:blt y x=false:=by
   cases bL:blt y x with
   |false=>rfl
   |true=>have:=vt h bL;rw [rT] at this;cases this
  have ae:y≠x:=by rintro rfl;rw [rT] at h;cases h
  simp [h,ad,ae]
 ·subst h;simp [rT]
 ·have ad:blt x y=false:=by
   cases bL:blt x y with
   |false=>rfl
   |true=>have:=vt h bL;rw [rT] at this;cases this
  simp [h,ad]
theorem Gz{bt:Bool}{x y:ByteArray}:binP bt .gtr (aJ y) (aJ x)=some (au (blt x y)):=by rw [Li,aez]
def Srt:List ByteArray→Prop
 |[]=>True
 |a::r=>(∀b∈r,blt a b=true)∧Srt r
def gr(s:ByteArray):List ByteArray→List ByteArray
 |[]=>[s]
 |a::r=>if a=s then a::r else if blt s a then s::a::r else a::gr s r
theorem SH{s x:ByteArray}:∀{l:List ByteArray},x∈gr s l→x=s∨x∈l
 |[],h=>by simp [gr] at h;exact .inl h
 |a::r,h=>by
  rw [gr] at h
  split at h
  ·exact .inr h
  ·split at h
   ·rcases List.mem_cons.1 h with h|h
    ·exact .inl h
    ·exact .inr h
   ·rcases List.mem_cons.1 h with h|h
    ·exact .inr (by simp [h])
    ·rcases SH h with h|h
     ·exact .inl h
     ·exact .inr (by simp [h])
theorem BF{s:ByteArray}:∀{l:List ByteArray},Srt l→Srt (gr s l)
 |[],_=>⟨by simp,trivial⟩
 |a::r,h=>by
  rw [gr]
  split
  ·exact h
  ·rename_i ca
   split
   ·rename_i bJ
    refine ⟨fun b ak=>?_,h⟩
    rcases List.mem_cons.1 ak with rfl|ak
    ·exact bJ
    ·exact vt bJ (h.1 b ak)
   ·rename_i qx
    refine ⟨fun b ak=>?_,BF h.2⟩
    rcases SH ak with rfl|ak
    ·rcases Lt a b with ad|ad|ad
     ·exact ad
     ·exact absurd ad ca
     ·rw [ad] at qx;exact absurd rfl qx
    ·exact h.1 b ak
theorem Lu{s:ByteArray}:∀{l:List ByteArray},Srt l→s∈l→gr s l=l
 |[],_,h=>by cases h
 |a::r,az,h=>by
  rw [gr]
  rcases List.mem_cons.1 h with rfl|h
  ·rw [if_pos rfl]
  ·have bJ:=az.1 s h
   have ca:¬a=s:=by rintro rfl;rw [rT] at bJ;cases bJ
   have qx:¬blt s a=true:=fun bm=>by have:=vt bJ bm;rw [rT] at this;cases this
   rw [if_neg ca,if_neg qx,Lu az.2 h]
theorem SI{s:ByteArray}:∀{l:List ByteArray},Srt l→s∉l→∃a b,l=a++b∧gr s l=a++s::b∧(∀x∈a,blt x s=true)∧(∀x∈b,blt s x=true)
 |[],_,_=>⟨[],[],rfl,rfl,by simp,by simp⟩
 |a::r,az,h=>by
  have ca:¬a=s:=fun e=>h (by simp [e])
  rw [gr,if_neg ca]
  by_cases aq:blt s a=true
  ·rw [if_pos aq]
   exact ⟨[],a::r,rfl,rfl,by simp,fun x ag=>by
    rcases List.mem_cons.1 ag with rfl|ag
    ·exact aq
    ·exact vt aq (az.1 x ag)⟩
  ·rw [if_neg aq]
   obtain ⟨p,q,ad,ae,ay,aZ⟩:=SI (l:=r) (s:=s) az.2 (fun hm=>h (List.mem_cons_of_mem _ hm))
   refine ⟨a::p,q,by rw [ad];rfl,by rw [ae];rfl,fun x ag=>?_,aZ⟩
   rcases List.mem_cons.1 ag with rfl|ag
   ·rcases Lt x s with bG|bG|bG
    ·exact bG
    ·exact absurd bG ca
    ·exact absurd bG aq
   ·exact ay x ag
theorem Lv(s:ByteArray):∀{l:List ByteArray},Srt l→∃a b,l=a++b∧(∀x∈a,blt s x=false)∧(∀x∈b,blt s x=true)∧(s∈l→∃cu,a=cu++[s])∧(s∉l→s∉a)∧(s∉l→gr s l=a++s::b)
 |[],_=>⟨[],[],rfl,by simp,by simp,by simp,by simp,fun _=>rfl⟩
 |c::r,az=>by
  by_cases hm:s∈c::r
  ·by_cases aj:c=s
   ·subst aj
    refine ⟨[c],r,rfl,by simp [rT],az.1,fun _=>⟨[],rfl⟩,fun h=>absurd hm h,fun h=>absurd hm h⟩
   ·have av:s∈r:=(List.mem_cons.1 hm).resolve_left fun h=>aj h.symm
    obtain ⟨a,b,ad,ae,ay,aZ,bG,ch⟩:=Lv s az.2
    obtain ⟨cu,A4⟩:=aZ av
    refine ⟨c::a,b,by rw [ad];rfl,?_,ay,fun _=>⟨c::cu,by rw [A4];rfl⟩,fun h=>absurd hm h,fun h=>absurd hm h⟩
    ·intro x ag
     rcases List.mem_cons.1 ag with rfl|ag
     ·have bJ:=az.1 s av
      cases bL:blt s x with
      |false=>rfl
      |true=>have:=vt bJ bL;rw [rT] at this;cases this
     ·exact ae x ag
  ·obtain ⟨a,b,ad,ae,ay,aZ⟩:=SI az hm
   refine ⟨a,b,ad,fun x ag=>?_,aZ,fun h=>absurd h hm,fun _ aB=>hm (by rw [ad];simp [aB]),fun _=>ae⟩
   have bJ:=ay x ag
   cases bL:blt s x with
   |false=>rfl
   |true=>have:=vt bJ bL;rw [rT] at this;cases this
theorem BG{s:ByteArray}:∀(l:List ByteArray),(gr s l).length≤l.length+1
 |[]=>by simp [gr]
 |a::r=>by
  rw [gr]
  split
  ·simp
  ·split
   ·simp
   ·have:=BG (s:=s) r;simp;omega
end Go.Am
namespace Go.Am
set_option linter.unusedVariables false
def termTy:Nat→Ty
 |0=> .stop
 |n+1=> .struct [.int .i64,.int .i64,.str,.slice 4 56 (termTy n)]
theorem yF:∀(n m:Nat),m≤2*n→(termTy n).dp m=true
 |0,m,h=>by
         have:m=0:=by omega
         subst this;rfl
 |n+1,0,_=>rfl
 |n+1,1,_=>rfl
 |n+1,m+2,h=>by
  have:=yF n m (by omega)
  simp only [termTy,Ty.dp,dpL,this,Bool.and_true]
theorem GA{P:Program}{t s:TypeId}(ad:∀y,tyOk P (.struct [.int .i64,.int .i64,.str,y]) t=(tyOk P y s&&true))(ae:∀y,tyOk P (.slice 4 56 y) s=tyOk P y t):∀n,tyOk P (termTy n) t=true
 |0=>rfl
 |n+1=>by rw [termTy,ad,ae,GA ad ae n];rfl
theorem aeA{P:Program}{t s:TypeId}(ad:∀y,tyOk P (.struct [.int .i64,.int .i64,.str,y]) t=(tyOk P y s&&true))(ae:∀y,tyOk P (.slice 4 56 y) s=tyOk P y t)(aq:decide (t<P.types.size)=true):qv P termTy t:=
 ⟨fun n=>yF n n (by omega),GA ad ae,of_decide_eq_true aq,fun n=>by cases n<;>rfl⟩
theorem vu:∀(n:Nat) {x:List D},Wt (termTy n) x→∃t:Tm,x=t.cells∧t.b2
 |0,x,h=>h.elim
 |n+1,x,h=>by
  obtain ⟨a,b,rfl,aB,c,d,rfl,aj,e,f,rfl,he,g,i,rfl,bD,rfl⟩:=h
  obtain ⟨op,rfl,dj⟩:=vr aB
  obtain ⟨nn,rfl,je⟩:=vr aj
  obtain ⟨s,rfl,az⟩:=Gw he
  obtain ⟨es,rfl,_,aq,ky⟩:=bD
  obtain ⟨ks,rfl,dL⟩:=nA Tm.cells Tm.b2 es fun x ag=>vu n (ky x ag).2
  refine ⟨.mk op nn s false ks,?_,.mk _ _ _ _ _ dj je (by omega) (by simpa using Nat.le_trans aq (by omega)) dL⟩
  simp [Tm.cells,Tm.iv,b3]
theorem Lw{H:Type}{F:pe}{Fs:List pe}{xs:List (DataW H)}{aF:List D}(h:RWAll (F::Fs) xs aF):∃x E4 d ya n,xs=x::E4∧aF=d::ya∧Gr (F n) x d∧tA (F n) d∧RWAll Fs E4 ya:=by
 cases xs with
 |nil=>cases aF<;>exact h.elim
 |cons x xs=>
  cases aF with
  |nil=>exact h.elim
  |cons d aF=>
   obtain ⟨⟨n,ad,ae⟩,ay⟩:=h
   exact ⟨x,xs,d,aF,n,rfl,rfl,ad,ae,ay⟩
theorem aeB{H:Type}{xs:List (DataW H)}{aF:List D}(h:RWAll [] xs aF):xs=[]∧aF=[]:=by
 cases xs<;>cases aF<;>first|exact ⟨rfl,rfl⟩|exact h.elim
end Go.Am
namespace Go.Am
set_option linter.unusedVariables false
@[simp] theorem atD (a:D):aL 1 (.agg [a])=a.one:=by simp [aL]
@[simp] theorem aeC (a b:D):aL 2 (.agg [a,b])=(a.one&&b.one):=by simp [aL]
@[simp] theorem aeD (a b c d e:D):aL 5 (.agg [a,b,c,d,e])=(a.one&&(b.one&&(c.one&&(d.one&&e.one)))):=by simp [aL]
@[simp] theorem aeE (a b c d e f:D):aL 6 (.agg [a,b,c,d,e,f])=(a.one&&(b.one&&(c.one&&(d.one&&(e.one&&f.one))))):=by simp [aL]
@[simp] theorem SJ (a b c d e f g:D):aL 7 (.agg [a,b,c,d,e,f,g])=(a.one&&(b.one&&(c.one&&(d.one&&(e.one&&(f.one&&g.one)))))):=by simp [aL]
@[simp] theorem aeF (a b c d e f g h:D):aL 8 (.agg [a,b,c,d,e,f,g,h])=(a.one&&(b.one&&(c.one&&(d.one&&(e.one&&(f.one&&(g.one&&h.one))))))):=by simp [aL]
@[simp] theorem atE {a b c e f:D} {l:List D}:aa (.agg (a::b::c::e::f::l)) 4=f:=rfl
@[simp] theorem atF {a b c e f g:D} {l:List D}:aa (.agg (a::b::c::e::f::g::l)) 5=g:=rfl
@[simp] theorem atG {a b c e f g h:D} {l:List D}:aa (.agg (a::b::c::e::f::g::h::l)) 6=h:=rfl
@[simp] theorem atH {a b c e f g h i:D} {l:List D}:aa (.agg (a::b::c::e::f::g::h::i::l)) 7=i:=rfl
theorem SK{β:Type}{x y:Bool}{f:D→Option β}:R (gD (au x) true (some (au y))) (fun v=>R (pickP (au x) v (au false)) f)=f (au (x&&y)):=by cases x<;>rfl
theorem aeG{β:Type}{x y:Bool}{f:D→Option β}:R (gD (au x) false (some (au y))) (fun v=>R (pickP (au x) (au true) v) f)=f (au (x||y)):=by cases x<;>rfl
inductive Fm where
 |mk (op:Int) (e:Tm) (nl:Bool) (kids:List Fm)
def eH:Tm:= .mk 0 0 ⟨#[]⟩ true []
theorem Lx:eH.b2:= .mk _ _ _ _ _ (by omega) (by omega) (by decide) (by simp) (by simp)
theorem GB:eH.d=D.agg [J 0,J 0,aJ ⟨#[]⟩,D.val (.slice none 0 0)]:=rfl
namespace Fm
def op:Fm→Int| .mk o _ _ _=>o
def e:Fm→Tm| .mk _ t _ _=>t
def nl:Fm→Bool| .mk _ _ b _=>b
def kids:Fm→List Fm| .mk _ _ _ l=>l
mutual
def cells:Fm→List D
 | .mk o t b ks=>[J o,J t.op,J t.num,aJ t.name,b3 4 t.nl (Tm.rows t.kids),b3 6 b (rows ks)]
def rows:List Fm→List (List D)
 |[]=>[]
 |t::r=>cells t::rows r
end
def d(t:Fm):D:= .agg t.cells
mutual
def bd:Fm→Nat
 | .mk _ t _ ks=>2+t.bd+dq ks
def dq:List Fm→Nat
 |[]=>0
 |t::r=>1+bd t+dq r
end
theorem iv:∀l:List Fm,rows l=l.map cells
 |[]=>rfl
 |t::r=>by simp [rows,iv r]
@[simp] theorem js {l:List Fm}:(rows l).length=l.length:=by simp [iv]
theorem BB{l:List Fm}{i:Nat}{t:Fm}(h:l[i]?=some t):(rows l)[i]?=some t.cells:=by simp [iv,h]
theorem gb{l:List Fm}{b:Bool}{i:Nat}{t:Fm}(h:l[i]?=some t):a2 6 (b3 6 b (rows l)) (J (i:Int))=some t.cells:=by rw [Lq,BB h]
theorem BC:∀l:List Fm,l.length≤dq l
 |[]=>Nat.le_refl 0
 |t::r=>by simp only [dq,List.length_cons];have:=BC r;omega
theorem BD:∀{l:List Fm} {t:Fm},t∈l→bd t+1≤dq l
 |a::r,t,h=>by
  simp only [dq]
  rcases List.mem_cons.1 h with rfl|h
  ·omega
  ·have:=BD h;omega
theorem BH(t:Fm):t.bd=2+t.e.bd+dq t.kids:=by cases t;rfl
theorem hS{t k:Fm}(h:k∈t.kids):k.bd+3≤t.bd:=by
 have:=BD h;have:=BH t;omega
theorem jt{t:Fm}:t.kids.length+2≤t.bd:=by
 have:=BC t.kids;have:=BH t;omega
theorem yG{t:Fm}:t.e.bd+2≤t.bd:=by have:=BH t;omega
theorem ind{P:Fm→Prop}(h:∀t:Fm,(∀k∈t.kids,P k)→P t)(t:Fm):P t:=by
 have:∀(n:Nat) (t:Fm),t.bd≤n→P t:=by
  intro n
  induction n with
  |zero=>intro t aE;cases t;simp [bd] at aE
  |succ n ih=>intro t aE;exact h t fun k ai=>ih k (by have:=hS ai;omega)
 exact this _ t (Nat.le_refl _)
inductive b2:Fm→Prop where
 |mk (o:Int) (t:Tm) (b:Bool) (ks:List Fm) (aG:-9223372036854775808≤o∧o≤9223372036854775807) (aE:t.b2) (aq:ks.length*88≤140737488355328) (ai:∀k∈ks,b2 k):b2 (.mk o t b ks)
theorem b2.er{t k:Fm}(h:b2 t)(ai:k∈t.kids):b2 k:=by cases h with|mk o n s b ks aG aI az=>exact az k ai
theorem b2.len{t:Fm}(h:b2 t):t.kids.length*88≤140737488355328:=by cases h;assumption
theorem b2.e{t:Fm}(h:b2 t):t.e.b2:=by cases h;assumption
theorem b2.op{t:Fm}(h:b2 t):-9223372036854775808≤t.op∧t.op≤9223372036854775807:=by cases h;assumption
theorem mW(t:Fm):t.cells=[J t.op,J t.e.op,J t.e.num,aJ t.e.name,b3 4 t.e.nl (Tm.rows t.e.kids),b3 6 t.nl (rows t.kids)]:=by cases t;rfl
theorem ic(t:Fm):t.d= .agg [J t.op,J t.e.op,J t.e.num,aJ t.e.name,b3 4 t.e.nl (Tm.rows t.e.kids),b3 6 t.nl (rows t.kids)]:=by cases t;rfl
@[simp] theorem lD (t:Fm):aL 6 t.d=true:=by rw [ic];simp
@[simp] theorem mX (t:Fm):aa t.d 0=J t.op:=by rw [ic];rfl
@[simp] theorem pf (t:Fm):aa t.d 1=J t.e.op:=by rw [ic];rfl
@[simp] theorem qw (t:Fm):aa t.d 2=J t.e.num:=by rw [ic];rfl
@[simp] theorem pg (t:Fm):aa t.d 3=aJ t.e.name:=by rw [ic];rfl
@[simp] theorem aeH (t:Fm):aa t.d 4=b3 4 t.e.nl (Tm.rows t.e.kids):=by rw [ic];rfl
@[simp] theorem aeI (t:Fm):aa t.d 5=b3 6 t.nl (rows t.kids):=by rw [ic];rfl
@[simp] theorem BE (t:Fm):D.agg [J t.op,J t.e.op,J t.e.num,aJ t.e.name,b3 4 t.e.nl (Tm.rows t.e.kids),b3 6 t.nl (rows t.kids)]=t.d:=(ic t).symm
@[simp high] theorem Lr (t:Fm):aW true 6 0 t.cells=some t.d:=by rw [ic,mW];rfl
end Fm
attribute [go_sem] db mT jo mU oi SK aeG yz Gm l3 yA yB tz Lh Se ad2 yC nz Bt Lc adO adP adQ adR aen adS adT adU adV adW aeo adX Ld List.getElem?_cons_zero List.getElem?_cons_succ adL adY Sr adZ ad0 Sc Bool.and_true Bool.true_and Bool.and_self if_true if_false Bool.not_true Bool.not_false Bool.false_eq_true Sv aeq aer Bool.or_true Bool.true_or aeC aes aet aeD aeE SJ aeF Sw Sx Sy adN adM Tm.lD Tm.mX Tm.pf Tm.qw Tm.pg Tm.BE Tm.Lr Tm.js Fm.lD Fm.mX Fm.pf Fm.qw Fm.pg Fm.aeH Fm.aeI Fm.BE Fm.Lr Fm.js
end Go.Am
namespace Go.Am
set_option linter.unusedVariables false
def formTy:Nat→Ty
 |0=> .stop
 |n+1=> .struct [.int .i64,termTy (n+1),.slice 6 88 (formTy n)]
theorem Ly:∀(n m:Nat),m≤2*n→(formTy n).dp m=true
 |0,m,h=>by
         have:m=0:=by omega
         subst this;rfl
 |n+1,0,_=>rfl
 |n+1,1,_=>by simp [formTy,Ty.dp,dpL]
 |n+1,m+2,h=>by
  have:=Ly n m (by omega)
  have ae:=yF (n+1) (m+1) (by omega)
  simp only [formTy,Ty.dp,dpL,this,ae,Bool.and_true]
theorem SL{P:Program}{t s r q:TypeId}(ad:∀y z,tyOk P (.struct [.int .i64,y,z]) t=(tyOk P y r&&(tyOk P z s&&true)))(ae:∀y,tyOk P (.slice 6 88 y) s=tyOk P y t)(ay:∀n,tyOk P (termTy n) r=true):∀n,tyOk P (formTy n) t=true
 |0=>rfl
 |n+1=>by rw [formTy,ad,ae,SL (q:=q) ad ae ay n,ay];rfl
theorem aeJ{P:Program}{t s r q:TypeId}(ad:∀y z,tyOk P (.struct [.int .i64,y,z]) t=(tyOk P y r&&(tyOk P z s&&true)))(ae:∀y,tyOk P (.slice 6 88 y) s=tyOk P y t)
  (ay:∀y,tyOk P (.struct [.int .i64,.int .i64,.str,y]) r=(tyOk P y q&&true)) (aZ:∀y,tyOk P (.slice 4 56 y) q=tyOk P y r) (aq:decide (t<P.types.size)=true):qv P formTy t:=
 ⟨fun n=>Ly n n (by omega),SL (q:=q) ad ae (GA ay aZ),of_decide_eq_true aq,fun n=>by cases n<;>rfl⟩
theorem SM:∀(n:Nat) {x:List D},Wt (formTy n) x→∃t:Fm,x=t.cells∧t.b2
 |0,x,h=>h.elim
 |n+1,x,h=>by
  obtain ⟨a,b,rfl,aB,c,d,rfl,aj,g,i,rfl,bD,rfl⟩:=h
  obtain ⟨op,rfl,dj⟩:=vr aB
  obtain ⟨t,rfl,aE⟩:=vu (n+1) aj
  obtain ⟨es,rfl,_,aq,ky⟩:=bD
  obtain ⟨ks,rfl,dL⟩:=nA Fm.cells Fm.b2 es fun x ag=>SM n (ky x ag).2
  refine ⟨.mk op t false ks,?_,.mk _ _ _ _ dj aE (by simpa using Nat.le_trans aq (by omega)) dL⟩
  simp [Fm.cells,Fm.iv,b3,Tm.mW]
end Go.Am
namespace Go.Am
set_option linter.unusedVariables false
structure a5 where
 name:ByteArray
 e:Tm
def a5.cells(d:a5):List D:=[aJ d.name,J d.e.op,J d.e.num,aJ d.e.name,b3 4 d.e.nl (Tm.rows d.e.kids)]
def a5.d(d:a5):D:= .agg d.cells
def aA(l:List a5):D:= .aD 5 (l.map a5.cells)
def a5.b2(d:a5):Prop:=d.name.size≤140737488351232∧d.e.b2
section
variable{l:List a5}{i:Nat}{d:a5}
theorem et(h:l[i]?=some d):a2 5 (aA l) (J (i:Int))=some d.cells:=by simp [aA,h]
theorem dA(l:List a5):lenP (aA l)=some (J l.length):=by simp [aA]
@[simp] theorem a5.aeK (d:a5):aW true 5 0 d.cells=some d.d:=rfl
@[simp] theorem a5.gq (d:a5):aW true 4 1 d.cells=some d.e.d:=by rw [Tm.ic];rfl
@[simp] theorem a5.fq (d:a5):aW false 1 0 d.cells=some (aJ d.name):=rfl
@[simp] theorem a5.agg (d:a5):aL 5 d.d=true:=by unfold a5.d a5.cells;simp
@[simp] theorem a5.aK (d:a5):aa d.d 0=aJ d.name:=rfl
@[simp] theorem a5.bb (d:a5):aa d.d 1=J d.e.op:=rfl
@[simp] theorem a5.bp (d:a5):aa d.d 2=J d.e.num:=rfl
@[simp] theorem a5.bs (d:a5):aa d.d 3=aJ d.e.name:=rfl
@[simp] theorem a5.cc (d:a5):aa d.d 4=b3 4 d.e.nl (Tm.rows d.e.kids):=rfl
end
def cS(l:List a5)(x:ByteArray):Option Nat:=l.findIdx? (fun d=>decide (d.name=x))
theorem Lz{l:List a5}{x:ByteArray}{i:Nat}(h:cS l x=some i):∃d,l[i]?=some d∧d.name=x∧i<l.length:=by
 obtain ⟨ad,ae,_⟩:=List.findIdx?_eq_some_iff_getElem.1 h
 exact ⟨_,List.getElem?_eq_getElem ad,by simpa using ae,ad⟩
def cL(l:List Nat):D:= .aD 1 (l.map fun(i:Nat)=>[J (i:Int)])
theorem rU{l:List Nat}{i k:Nat}(h:l[i]?=some k):a2 1 (cL l) (J (i:Int))=some [J (k:Int)]:=by simp [cL,h]
theorem nB(l:List Nat):lenP (cL l)=some (J l.length):=by simp [cL]
def gE(l:List (List Nat)):D:= .aD 1 (l.map fun x=>[cL x])
theorem aeL{l:List (List Nat)}{i:Nat}{k:List Nat}(h:l[i]?=some k):a2 1 (gE l) (J (i:Int))=some [cL k]:=by simp [gE,h]
def eK(M:List (Value×D))(S:List Nat):Prop:=rS M∧∀i:Nat,getI M (i:Int)=if i∈S then some (au true) else none
theorem eK.nil:eK [] []:=⟨by(intro e he;cases he),fun i=>rfl⟩
theorem eK.look{M:List (Value×D)}{S:List Nat}(h:eK M S){i:Nat}{z:Value}:lookP (.int .i64) (.bool false) false M (J (i:Int))=some (au (decide (i∈S))):=by
 rw [aex h.1,h.2 i]
 by_cases af:i∈S<;>simp [af,zeroD]
theorem eK.put{M:List (Value×D)}{S:List Nat}(h:eK M S)(i:Nat):∃dF,o2 (.int .i64) M (J (i:Int)) (au true)=some dF∧eK dF (if i∈S then S else S++[i]):=by
 obtain ⟨dF,ad,ae,ay,_⟩:=aey h.1 (i:Int) (au true)
 refine ⟨dF,ad,ae,fun j=>?_⟩
 rw [ay,h.2]
 by_cases aH:j=i
 ·subst aH;by_cases af:j∈S<;>simp [af]
 ·have:¬((j:Int)=(i:Int)):=by omega
  by_cases af:i∈S<;>simp [this,af,aH]
theorem eK.mem{M:List (Value×D)}{S T:List Nat}(h:eK M S)(gK:∀x,x∈S↔x∈T):eK M T:=⟨h.1,fun i=>by rw [h.2];simp only [gK i]⟩
end Go.Am
namespace Go.Am
set_option linter.unusedVariables false
def tC(n:Nat):Ty:= .slice 5 72 (.struct [.str,termTy n])
theorem SN(n:Nat):∀m,m≤n→(tC n).dp m=true
 |0,_=>rfl
 |1,_=>by simp [tC,Ty.dp]
 |m+2,h=>by
  have:=yF n m (by omega)
  have:=yF n (m+1) (by omega)
  have ae:Ty.dp m .str=true:=tB m .str rfl
  simp only [tC,Ty.dp,dpL, *,Bool.and_true]
theorem aeM{P:Program}{t r q:TypeId}(ad:∀y,tyOk P (.slice 5 72 (.struct [.str,y])) t=(tyOk P y r&&true))
  (ay:∀y,tyOk P (.struct [.int .i64,.int .i64,.str,y]) r=(tyOk P y q&&true)) (aZ:∀y,tyOk P (.slice 4 56 y) q=tyOk P y r) (aq:decide (t<P.types.size)=true):qv P tC t:=
 ⟨fun n=>SN n n (Nat.le_refl _),fun n=>by rw [tC,ad,GA ay aZ n];rfl,of_decide_eq_true aq,fun n=>rfl⟩
theorem SO{n:Nat}{x:List D}(h:Wt (.struct [.str,termTy n]) x):∃d:a5,x=d.cells∧d.b2:=by
 obtain ⟨a,b,rfl,aB,c,e,rfl,aj,rfl⟩:=h
 obtain ⟨s,rfl,az⟩:=Gw aB
 obtain ⟨t,rfl,aE⟩:=vu n aj
 exact ⟨⟨s,t⟩,by simp [a5.cells,Tm.mW],az,aE⟩
end Go.Am
