/- From what a call is handed to data, and from an answer to the row. No condition. -/
import Derived.Test.YtknmgdnhongcnaaGreatDoorEngC
import Derived.ProofKit
import Derived.OpenShut
import Derived.KernelRfl
import Derived.Deep.DeepHandedRow
import Derived.Lib.LaidTab
import Derived.Test.YtknmgdnhongcnaaGreatDoorEngS
set_option linter.all false
set_option linter.unnecessarySimpa false
namespace Go.Am
open Go.ChangeShapes Go.WideShapes Go.ChangeAt Go.RowKit
set_option linter.unusedVariables false
inductive Ty where
 |bool
 |int (k:IntKind)
 |str
 |slice (k bytes:Nat) (e:Ty)
 |arr (n:Nat) (e:Ty)
 |struct (cL:List Ty)
 |stop
mutual
def Wt:Ty→List D→Prop
 | .bool,aD=>∃b,aD=[ar b]
 | .int k,aD=>∃n,aD=[.val (.int k n)]∧(Lit.int k n).wf=true
 | .str,aD=>∃s,aD=[aI s]∧s.size≤140737488351232
 | .slice k BF e,aD=>∃es:List (List D),aD=[.aE k es]∧es.length≤maxLen∧es.length*BF≤140737488351232∧∀x∈es,x.length=k∧Wt e x
 | .arr n e,aD=>∃hG:List (List D),aD=hG.flatten∧hG.length=n∧∀x∈hG,Wt e x
 | .struct cL,aD=>GA cL aD
 | .stop,_=>False
def GA:List Ty→List D→Prop
 |[],aD=>aD=[]
 |f::cL,aD=>∃a b,aD=a++b∧Wt f a∧GA cL b
end
mutual
def rd{H:Type}:Ty→DataW H→Option (List D)
 | .bool,.lit (.bool b)=>some [ar b]
 | .int _,.lit (.int k n)=>some [.val (.int k n)]
 | .str,.lit (.string l)=>some [aI ⟨l.toArray⟩]
 | .slice k _ _,.nil=>some [.aE k []]
 | .slice k _ e,.slice es _=>(es.mapM (rd e)).map fun xs=>[.aE k xs]
 | .arr _ e,.agg es=>(es.mapM (rd e)).map List.flatten
 | .struct cL,.agg es=>rdL cL es
 |_,_=>none
def rdL{H:Type}:List Ty→List (DataW H)→Option (List D)
 |[],[]=>some []
 |f::cL,d::aD=>(rd f d).bind fun a=>(rdL cL aD).map (a++·)
 |_,_=>none
end
mutual
def tyOk(P:Program):Ty→TypeId→Bool
 | .bool,t=>match P.underlying t with
  |some .bool=>true
  |_=>false
 | .int k,t=>match P.underlying t with
  |some (.int bg)=>decide (k=bg)
  |_=>false
 | .str,t=>match P.underlying t with
  |some .string=>true
  |_=>false
 | .stop,_=>true
 | .slice k BF e,t=>match P.underlying t with
  |some (.slice cX)=>decide (P.cellsOf cX=k)&&decide (0<k)&&decide (P.bytesOf cX=BF)&&tyOk P e cX
  |_=>false
 | .arr n e,t=>match P.underlying t with
  |some (.array fj cX)=>decide (n=fj)&&decide (P.cellsOf t=n*P.cellsOf cX)&&tyOk P e cX
  |_=>false
 | .struct cL,t=>match P.underlying t with
  |some (.struct LC)=>tyOkL P cL LC.toList 0 (P.cellsOf t)
  |_=>false
def tyOkL(P:Program):List Ty→List Field→Nat→Nat→Bool
 |[],[],off,n=>decide (off=n)
 |f::cL,x::xs,off,n=>decide (x.offset=off)&&tyOk P f x.type&&tyOkL P cL xs (off+P.cellsOf x.type) n
 |_,_,_,_=>false
end
mutual
def Ty.dp:Nat→Ty→Bool
 |0,_=>true
 |_+1,.stop=>false
 |n+1,.slice _ _ e=>e.dp n
 |n+1,.arr _ e=>e.dp n
 |n+1,.struct cL=>dpL n cL
 |_+1,_=>true
def dpL:Nat→List Ty→Bool
 |_,[]=>true
 |n,f::cL=>f.dp n&&dpL n cL
end
def Rel(m:Mem):List D→List Value→Prop
 |[],[]=>True
 |d::aD,v::vs=>D.one d=true∧cS m d v∧Rel m aD vs
 |_,_=>False
theorem Rel.len{m:Mem}:∀{aD:List D} {vs:List Value},Rel m aD vs→vs.length=aD.length
 |[],[],_=>rfl
 |_::_,_::_,h=>by simp [Rel.len h.2.2]
 |[],_::_,h=>h.elim
 |_::_,[],h=>h.elim
theorem Rel.at{m:Mem}:∀{aD:List D} {vs:List Value},Rel m aD vs→∀(i:Nat) (d:D),aD[i]?=some d→∃v,vs[i]?=some v∧D.one d=true∧cS m d v
 |[],[],_,i,d,h=>by simp at h
 |x::aD,v::vs,h,0,d,ay=>by simp at ay;subst ay;exact ⟨v,rfl,h.1,h.2.1⟩
 |_::_,_::_,h,i+1,d,ay=>by simpa using Rel.at h.2.2 i d (by simpa using ay)
 |[],_::_,h,_,_,_=>h.elim
 |_::_,[],h,_,_,_=>h.elim
theorem Rel.append{m:Mem}:∀{aD:List D} {vs:List Value} {yo:List D} {LD:List Value},Rel m aD vs→Rel m yo LD→Rel m (aD++yo) (vs++LD)
 |[],[],_,_,_,bh=>bh
 |_::_,_::_,_,_,h,bh=>⟨h.1,h.2.1,Rel.append h.2.2 bh⟩
 |[],_::_,_,_,h,_=>h.elim
 |_::_,[],_,_,h,_=>h.elim
theorem Rel.one{m:Mem}:∀{aD:List D} {vs:List Value},Rel m aD vs→aD.all D.one=true
 |[],[],_=>rfl
 |_::_,_::_,h=>by simp only [List.all_cons,h.1,Rel.one h.2.2,Bool.and_self]
 |[],_::_,h=>h.elim
 |_::_,[],h=>h.elim
theorem LF{α:Type}:∀(n:Nat) (Q:Nat→α→Prop),(∀i,i<n→∃y,Q i y)→∃cN:List α,cN.length=n∧∀(i:Nat) (y:α),cN[i]?=some y→Q i y
 |0,_,_=>⟨[],rfl,by intro i y h;simp at h⟩
 |n+1,Q,h=>by
  obtain ⟨cN,ad,ae⟩:=LF n (fun i=>Q (i+1)) fun i af=>h (i+1) (by omega)
  obtain ⟨y,aT⟩:=h 0 (by omega)
  refine ⟨y::cN,by simp [ad],?_⟩
  intro i z bz
  cases i with
  |zero=>simp at bz;subst bz;exact aT
  |succ i=>exact ae i z (by simpa using bz)
theorem LG{α β:Type}(f:α→Option β):∀(l:List α) (r:List β),r.length=l.length→(∀(i:Nat) (x:α) (y:β),l[i]?=some x→r[i]?=some y→f x=some y)→l.mapM f=some r
 |[],[],_,_=>rfl
 |x::l,y::r,an,h=>by
  have aq:=h 0 x y rfl rfl
  have ih:=LG f l r (by simpa using an) fun i x y ah aT=>h (i+1) x y (by simpa using ah) (by simpa using aT)
  simp [List.mapM_cons,aq,ih]
 |[],_::_,h,_=>by simp at h
 |_::_,[],h,_=>by simp at h
section
variable{H:Type}{enc:TypeId×Value→H}{P:Program}{w:World}{base:Nat}{spare:Nat→Bool}{held:Bool}
theorem pieces{m:Mem}{c:Nat}{cs:List Value}:∀(hG:List (List D)) (o:Nat),(∀(i:Nat) (x:List D),hG[i]?=some x→Rel m x ((cs.drop (o+i*c)).take c))→(o+hG.length*c=cs.length)→Rel m hG.flatten (cs.drop o)
 |[],o,_,an=>by
  have:cs.drop o=[]:=List.drop_eq_nil_of_le (by simp at an;omega)
  rw [this];trivial
 |x::r,o,h,an=>by
  have dS:o+c+r.length*c=cs.length:=by simp only [List.length_cons,Nat.add_mul] at an;omega
  have aq:=h 0 x rfl
  have ih:=pieces (m:=m) (cs:=cs) (c:=c) r (o+c) (fun i x ah=>by
   have:=h (i+1) x (by simpa using ah)
   rw [show o+c+i*c=o+(i+1)*c by rw [Nat.add_mul];omega]
   exact this) dS
  have e:cs.drop o=(cs.drop o).take c++cs.drop (o+c):=by
   conv=>lhs;rw [←List.take_append_drop c (cs.drop o)]
   rw [List.drop_drop]
  rw [e,List.flatten_cons]
  refine Rel.append ?_ ih
  simpa using aq
theorem LH{H:Type}{P:Program}{e:TypeId}:∀{l:List (DataW H)} {x:DataW H} {y:Nat},x∈l→y∈x.weights P e→y∈DataW.weightsAll P e l
 |a::r,x,y,ah,aT=>by
  simp only [DataW.weightsAll,List.mem_append]
  rcases List.mem_cons.1 ah with rfl|ah
  ·exact .inl aT
  ·exact .inr (LH ah aT)
theorem SG(m:Mem)(hm:∀b o,w.heap[b]?=some o→m b=some o):∀(n:Nat) (ty:Ty) (t:TypeId) (cs:List Value) (x:DataW H×List MemPlace),tyOk P ty t=true→ty.dp n=true→(x.1.weights P t).all (·≤reachBytes)=true→DataW.trod enc P w base spare held n t cs=some x→
  ∃aD,rd ty x.1=some aD∧Wt ty aD∧Rel m aD cs:=by
 intro n
 induction n with
 |zero=>intro ty t cs x _ _ _ h;simp [DataW.trod] at h
 |succ n ih=>
  intro ty t cs x eo kl iF h
  cases ty with
  |stop=>simp [Ty.dp] at kl
  |bool=>
   simp only [tyOk] at eo
   split at eo
   ·obtain ⟨b,rfl,rfl⟩:=DataW.trod_bool ‹_› h
    exact ⟨[ar b],rfl,⟨b,rfl⟩,rfl,.val _,trivial⟩
   ·cases eo
  |int k=>
   simp only [tyOk] at eo
   split at eo
   ·have:=of_decide_eq_true eo
    subst this
    obtain ⟨z,rfl,rfl,hw⟩:=DataW.trod_int ‹_› h
    exact ⟨[.val (.int k z)],rfl,⟨z,rfl,hw⟩,rfl,.val _,trivial⟩
   ·cases eo
  |str=>
   simp only [tyOk] at eo
   split at eo
   ·obtain ⟨s,rfl,rfl,hw⟩:=DataW.trod_string ‹_› h
    refine ⟨[aI s],?_,⟨s,rfl,?_⟩,rfl,.val _,trivial⟩
    ·simp [rd]
    ·simp only [DataW.weights,List.all_cons,List.all_nil,Bool.and_true,decide_eq_true_eq] at iF
     simp only [reachBytes] at iF
     simpa using iF
   ·cases eo
  |slice k BF e=>
   simp only [tyOk] at eo
   split at eo
   ·rename_i cX hu
    simp only [Bool.and_eq_true,decide_eq_true_eq] at eo
    obtain ⟨⟨⟨ai,BG⟩,uX⟩,he⟩:=eo
    subst ai
    subst uX
    simp only [Ty.dp] at kl
    rcases DataW.trod_slice hu h with⟨rfl,rfl⟩|⟨a,len,cap,elems,rest,fj,aJ,rfl,rfl,ak,P3,uS,eu,BH,_,_⟩
    ·exact ⟨[.aE _ []],rfl,⟨[],rfl,by simp,by simp,by simp⟩,rfl,.k7 _ _ _,trivial⟩
    ·cases aJ
     simp only [DataW.weights,hu,List.all_cons,List.all_append,Bool.and_eq_true,decide_eq_true_eq,List.length_map,reachBytes] at iF
     obtain ⟨s5,JY,_⟩:=iF
     have each:∀i,i<len→∃aD,∃x,elems[i]?=some x∧rd e x.1=some aD∧Wt e aD∧∃c,w.cells? base (a.add (i*P.cellsOf cX)) (P.cellsOf cX)=some c∧Rel m aD c:=by
      intro i af
      have ad:=BH i af
      rw [List.getElem?_eq_getElem (by omega)] at ad
      obtain ⟨c,ae,ax⟩:=Option.bind_eq_some_iff.1 ad
      have LI:((elems[i]'(by omega)).1.weights P cX).all (·≤reachBytes)=true:=by
       refine List.all_eq_true.2 fun y aT=>List.all_eq_true.1 JY y ?_
       exact LH (List.mem_map.2 ⟨_,List.getElem_mem _,rfl⟩) aT
      obtain ⟨aD,a2,bb,bJ⟩:=ih e cX c _ he kl LI ax
      exact ⟨aD,_,List.getElem?_eq_getElem (by omega),a2,bb,c,ae,bJ⟩
     obtain ⟨es,an,ku⟩:=LF len _ each
     have LJ:∀(i:Nat) (aD:List D),es[i]?=some aD→aD.length=P.cellsOf cX:=by
      intro i aD af
      obtain ⟨_,_,_,_,c,aj,au⟩:=ku i aD af
      rw [←au.len];exact (World.cells?_some aj).2.1
     refine ⟨[.aE (P.cellsOf cX) es],?_,⟨es,rfl,by omega,?_,?_⟩,rfl,?_,trivial⟩
     ·simp only [rd]
      rw [LG (rd e) (elems.map (·.1)) es (by simp;omega)]
      ·rfl
      ·intro i x y ah aT
       obtain ⟨z,ad,ae,_⟩:=ku i y aT
       simp [ad] at ah
       rw [←ah];exact ae
     ·have:es.length≤elems.length+rest.length:=by omega
      exact Nat.le_trans (Nat.mul_le_mul_right _ this) (of_decide_eq_true s5)
     ·intro x ah
      obtain ⟨i,af,rfl⟩:=List.getElem_of_mem ah
      obtain ⟨_,_,_,bb,_⟩:=ku i _ (List.getElem?_eq_getElem af)
      exact ⟨LJ i _ (List.getElem?_eq_getElem af),bb⟩
     ·by_cases aq:len=0
      ·subst aq
       have:es=[]:=List.eq_nil_of_length_eq_zero an
       subst this
       exact .k7 _ _ _
      ·have uV:∀(i:Nat) (aD:List D),es[i]?=some aD→∀j,j<P.cellsOf cX→w.cell? ((a.add (i*P.cellsOf cX)).add j)≠none:=by
        intro i aD af j aF
        obtain ⟨_,_,_,_,c,aj,au⟩:=ku i aD af
        obtain ⟨_,br,bj⟩:=World.cells?_some aj
        rw [bj j aF,List.getElem?_eq_getElem (by omega)]
        simp
       have rF:=uV 0 _ (List.getElem?_eq_getElem (by omega)) 0 BG
       simp only [Nat.zero_mul,Addr.add,if_true] at rF
       obtain ⟨b,off,spot⟩:=a
       unfold World.cell? at rF
       cases bp:w.heap[b]? with
       |none=>simp [bp] at rF
       |some o=>
        cases o with
        |cells vs T dI=>
         simp only [bp] at rF
         have aes:spot=none:=by
          cases spot with
          |none=>rfl
          |some s=>simp at rF
         subst aes
         have cellAt:∀q,w.cell? ⟨b,q,none⟩=vs[q]?:=by intro q;simp [World.cell?,bp]
         have aet:∀q,(⟨b,off,none⟩:Addr).add q=⟨b,off+q,none⟩:=by intro q;unfold Addr.add;split<;>simp_all
         have aeu:∀o q,(⟨b,o,none⟩:Addr).add q=⟨b,o+q,none⟩:=by intro o q;unfold Addr.add;split<;>simp_all
         have key:∀(i:Nat) (aD:List D) (j:Nat) (c:D),es[i]?=some aD→aD[j]?=some c→∃v,vs[off+i*P.cellsOf cX+j]?=some v∧cS m c v:=by
          intro i aD j c af aF
          obtain ⟨_,_,_,_,a1,aj,au⟩:=ku i aD af
          obtain ⟨_,br,bj⟩:=World.cells?_some aj
          obtain ⟨v,r1,_,r2⟩:=au.at j c aF
          have cM:j<P.cellsOf cX:=by rw [←LJ i aD af];exact (List.getElem?_eq_some_iff.1 aF).1
          refine ⟨v,?_,r2⟩
          rw [←r1,←bj j cM,aet,aeu,cellAt]
         rw [←an]
         refine .aE _ es b off cap vs T dI (hm _ _ bp) ?_ (by omega) (fun i j=>(vs[off+i*P.cellsOf cX+j]?).getD undef) ?_ ?_
         ·intro x ah
          obtain ⟨i,af,rfl⟩:=List.getElem_of_mem ah
          obtain ⟨_,_,_,_,_,_,au⟩:=ku i _ (List.getElem?_eq_getElem af)
          exact ⟨LJ i _ (List.getElem?_eq_getElem af),au.one⟩
         ·intro i aD j c af aF
          obtain ⟨v,ad,_⟩:=key i aD j c af aF
          simp [ad]
         ·intro i aD j c af aF
          obtain ⟨v,ad,ae⟩:=key i aD j c af aF
          simpa [ad] using ae
        |_=>simp [bp] at rF
   ·cases eo
  |arr k e=>
   simp only [tyOk] at eo
   split at eo
   ·rename_i bg cX hu
    simp only [Bool.and_eq_true,decide_eq_true_eq] at eo
    obtain ⟨⟨ai,aj⟩,he⟩:=eo
    subst ai
    obtain ⟨xs,fj,aJ,rfl,hlen,qk,BH⟩:=DataW.trod_array hu h
    cases aJ
    simp only [Ty.dp] at kl
    simp only [DataW.weights,hu] at iF
    have each:∀i,i<k→∃aD,∃x,xs[i]?=some x∧rd e x.1=some aD∧Wt e aD∧Rel m aD ((cs.drop (i*P.cellsOf cX)).take (P.cellsOf cX)):=by
     intro i af
     have ad:=BH i af
     rw [List.getElem?_eq_getElem (by omega)] at ad
     have LI:((xs[i]'(by omega)).1.weights P cX).all (·≤reachBytes)=true:=by
      refine List.all_eq_true.2 fun y aT=>List.all_eq_true.1 iF y ?_
      exact LH (List.mem_map.2 ⟨_,List.getElem_mem _,rfl⟩) aT
     obtain ⟨aD,a2,bb,bJ⟩:=ih e cX _ _ he kl LI ad
     exact ⟨aD,_,List.getElem?_eq_getElem (by omega),a2,bb,bJ⟩
    obtain ⟨es,an,ku⟩:=LF k _ each
    refine ⟨es.flatten,?_,⟨es,rfl,an,?_⟩,?_⟩
    ·simp only [rd]
     rw [LG (rd e) (xs.map (·.1)) es (by simp;omega)]
     ·rfl
     ·intro i x y ah aT
      obtain ⟨z,ad,ae,_⟩:=ku i y aT
      simp [ad] at ah
      rw [←ah];exact ae
    ·intro x ah
     obtain ⟨i,af,rfl⟩:=List.getElem_of_mem ah
     obtain ⟨_,_,_,bb,_⟩:=ku i _ (List.getElem?_eq_getElem af)
     exact bb
    ·have:=pieces (m:=m) (c:=P.cellsOf cX) (cs:=cs) es 0 (fun i x ah=>by
      obtain ⟨_,_,_,_,bJ⟩:=ku i x ah
      simpa using bJ) (by rw [an];omega)
     simpa using this
   ·cases eo
  |struct cL=>
   simp only [tyOk] at eo
   split at eo
   ·rename_i LC hu
    obtain ⟨xs,fj,aJ,rfl,hlen,qk,BH⟩:=DataW.trod_struct hu h
    cases aJ
    simp only [Ty.dp] at kl
    simp only [DataW.weights,hu] at iF
    have go:∀(cL:List Ty) (gs:List Field) (cN:List (DataW H×List MemPlace)) (off:Nat),tyOkL P cL gs off (P.cellsOf t)=true→dpL n cL=true→(DataW.weightsEach P (gs.map (·.type)) (cN.map (·.1))).all (·≤reachBytes)=true→cN.length=gs.length→
      (∀(i:Nat) (f:Field),gs[i]?=some f→DataW.trod enc P w base spare held n f.type ((cs.drop f.offset).take (P.cellsOf f.type))=cN[i]?)→
      ∃aD,rdL cL (cN.map (·.1))=some aD∧GA cL aD∧Rel m aD (cs.drop off):=by
     intro cL
     induction cL with
     |nil=>
      intro gs cN off ad vC s5 ae ax
      cases gs with
      |nil=>
       simp only [tyOkL,decide_eq_true_eq] at ad
       have:cN=[]:=List.eq_nil_of_length_eq_zero ae
       subst this
       refine ⟨[],rfl,rfl,?_⟩
       rw [List.drop_eq_nil_of_le (by omega)]
       trivial
      |cons _ _=>simp [tyOkL] at ad
     |cons f cL aev=>
      intro gs cN off ad vC s5 ae ax
      cases gs with
      |nil=>simp [tyOkL] at ad
      |cons g gs=>
       cases cN with
       |nil=>simp at ae
       |cons y cN=>
        simp only [tyOkL,Bool.and_eq_true,decide_eq_true_eq] at ad
        obtain ⟨⟨aQ,aW⟩,bA⟩:=ad
        simp only [dpL,Bool.and_eq_true] at vC
        simp only [List.map_cons,DataW.weightsEach,List.all_append,Bool.and_eq_true] at s5
        obtain ⟨a,ag,aS,bN⟩:=ih f g.type _ y aW vC.1 s5.1 (ax 0 g rfl)
        obtain ⟨b,fk,g0,jg⟩:=aev gs cN _ bA vC.2 s5.2 (by simpa using ae) (fun i f a4=>by simpa using ax (i+1) f (by simpa using a4))
        refine ⟨a++b,by simp [rdL,ag,fk],⟨a,b,rfl,aS,g0⟩,?_⟩
        have e:cs.drop off=(cs.drop off).take (P.cellsOf g.type)++cs.drop (off+P.cellsOf g.type):=by
         conv=>lhs;rw [←List.take_append_drop (P.cellsOf g.type) (cs.drop off)]
         rw [List.drop_drop]
        rw [e]
        refine Rel.append ?_ jg
        rw [←aQ];exact bN
    obtain ⟨aD,a2,bb,bJ⟩:=go cL LC.toList xs 0 eo kl iF (by simpa using qk) (fun i f a4=>BH i f (by simpa using a4))
    exact ⟨aD,a2,bb,by simpa using bJ⟩
   ·cases eo
end
end Go.Am
namespace Go.Am
open Go.ChangeShapes Go.WideShapes Go.ChangeAt Go.RowKit
set_option linter.unusedVariables false
def vD:Ty→D→Prop
 | .struct cL,d=>∃aD,d= .agg aD∧GA cL aD
 | .arr _ _,_=>False
 |ty,d=>Wt ty [d]
def GB{H:Type}(ty:Ty)(x:DataW H)(d:D):Prop:=match ty with
 | .struct cL=>∃aD,d= .agg aD∧rd (.struct cL) x=some aD
 |ty=>rd ty x=some [d]
abbrev pg:=Nat→Ty
def LK(t:Ty):pg:=fun _=>t
mutual
def noStop:Ty→Bool
 | .stop=>false
 | .slice _ _ e=>noStop e
 | .arr _ e=>noStop e
 | .struct cL=>noStopL cL
 |_=>true
def noStopL:List Ty→Bool
 |[]=>true
 |f::cL=>noStop f&&noStopL cL
end
mutual
theorem tM:∀(n:Nat) (t:Ty),noStop t=true→t.dp n=true
 |0,t,_=>by cases t<;>rfl
 |n+1,.stop,h=>by simp [noStop] at h
 |n+1,.slice _ _ e,h=>by rw [noStop] at h;rw [Ty.dp];exact tM n e h
 |n+1,.arr _ e,h=>by rw [noStop] at h;rw [Ty.dp];exact tM n e h
 |n+1,.struct cL,h=>by rw [noStop] at h;rw [Ty.dp];exact SH n cL h
 |n+1,.bool,_=>rfl
 |n+1,.int _,_=>rfl
 |n+1,.str,_=>rfl
theorem SH:∀(n:Nat) (t:List Ty),noStopL t=true→dpL n t=true
 |n,[],_=>by cases n<;>rfl
 |n,f::cL,h=>by
  rw [noStopL,Bool.and_eq_true] at h
  rw [dpL,tM n f h.1,SH n cL h.2];rfl
end
def SI:Ty→Bool
 | .arr _ _=>false
 |_=>true
structure qC(P:Program)(F:pg)(t:TypeId):Prop where
 deep:∀n,(F n).dp n=true
 ok:∀n,tyOk P (F n) t=true
 lt:t<P.types.size
 aew:∀n,SI (F n)=true
theorem aex{P:Program}{y:Ty}{t:TypeId}(h:(noStop y&&SI y&&tyOk P y t&&decide (t<P.types.size))=true):qC P (LK y) t:=by
 simp only [Bool.and_eq_true,decide_eq_true_eq] at h
 exact ⟨fun n=>tM n y h.1.1.1,fun _=>h.1.2,h.2,fun _=>h.1.1.2⟩
def yQ(P:Program):List pg→List TypeId→Prop
 |[],[]=>True
 |F::Fs,t::ts=>qC P F t∧yQ P Fs ts
 |_,_=>False
theorem yQ.lt{P:Program}:∀{Fs:List pg} {ts:List TypeId},yQ P Fs ts→∀t∈ts,t<P.types.size
 |[],[],_,t,h=>by simp at h
 |F::Fs,u::ts,h,t,aG=>by
  rcases List.mem_cons.1 aG with rfl|aG
  ·exact h.1.lt
  ·exact yQ.lt h.2 t aG
 |[],_::_,h,_,_=>h.elim
 |_::_,[],h,_,_=>h.elim
def RWAll{H:Type}:List pg→List (DataW H)→List D→Prop
 |[],[],[]=>True
 |F::Fs,x::xs,d::aD=>(∃n,GB (F n) x d∧vD (F n) d)∧RWAll Fs xs aD
 |_,_,_=>False
section
variable{H:Type}{enc:TypeId×Value→H}{P:Program}{w:World}
theorem GC{m:Mem}{aD:List D}{v:Value}(h:Rel m aD [v]):∃d,aD=[d]∧cS m d v:=by
 cases aD with
 |nil=>exact h.elim
 |cons d r=>
  cases r with
  |nil=>exact ⟨d,rfl,h.2.1⟩
  |cons _ _=>exact h.2.2.elim
theorem aey{m:Mem}{aD:List D}{cs:Array Value}(h:Rel m aD cs.toList):cS m (.agg aD) (.agg cs):=by
 refine .agg _ _ (by simpa using h.len) ?_
 intro i c v aj aM
 obtain ⟨u,ad,_,ae⟩:=h.at i c aj
 have:cs[i]?=some u:=by simpa using ad
 rw [aM] at this;cases this;exact ae
theorem aez(m:Mem)(hm:∀(b:Nat) (o:Obj),w.heap[b]?=some o→m b=some o){r:Reach}{Bw base:Nat}{sp:Nat→Bool}{held:Bool}{F:pg}{t:TypeId}{v:Value}{x:DataW H}{hY:List MemPlace}
  (jd:qC P F t) (iF:(x.weights P t).all (·≤reachBytes)=true) (mN:Value.okWide P w r Bw t v) (h:DataW.Trod enc P w base sp held t v x hY):∃d n,GB (F n) x d∧vD (F n) d∧cS m d v:=by
 obtain ⟨n,aJ⟩:=h
 have eo:=jd.ok n
 have BI:=jd.aew n
 obtain ⟨aD,ad,ae,ax⟩:=SG m hm n (F n) t _ _ eo (jd.deep n) iF aJ
 suffices h:∃d,GB (F n) x d∧vD (F n) d∧cS m d v from let⟨d,a⟩:=h;⟨d,n,a⟩
 clear jd aJ
 generalize F n=ty at*
 cases ty with
 |bool=>
  simp only [tyOk] at eo
  split at eo
  ·obtain ⟨b,rfl⟩:=okWide_bool ‹_› mN
   obtain ⟨d,rfl,ay⟩:=GC ax
   exact ⟨d,ad,ae,ay⟩
  ·cases eo
 |int k=>
  simp only [tyOk] at eo
  split at eo
  ·obtain ⟨b,rfl⟩:=okWide_int ‹_› mN
   obtain ⟨d,rfl,ay⟩:=GC ax
   exact ⟨d,ad,ae,ay⟩
  ·cases eo
 |str=>
  simp only [tyOk] at eo
  split at eo
  ·obtain ⟨b,rfl⟩:=okWide_string ‹_› mN
   obtain ⟨d,rfl,ay⟩:=GC ax
   exact ⟨d,ad,ae,ay⟩
  ·cases eo
 |stop=>exact (by simpa [Wt] using ae:False).elim
 |slice k BF e=>
  simp only [tyOk] at eo
  split at eo
  ·obtain ⟨a,l,c,rfl⟩:=okWide_slice ‹_› mN
   obtain ⟨d,rfl,ay⟩:=GC ax
   exact ⟨d,ad,ae,ay⟩
  ·cases eo
 |arr n e=>cases BI
 |struct cL=>
  simp only [tyOk] at eo
  split at eo
  ·obtain ⟨cs,rfl,_⟩:=okWide_struct ‹_› mN
   exact ⟨.agg aD,⟨aD,rfl,ad⟩,⟨aD,rfl,ae⟩,aey ax⟩
  ·cases eo
theorem SJ(m:Mem)(hm:∀(b:Nat) (o:Obj),w.heap[b]?=some o→m b=some o){r:Reach}{Bw base:Nat}{sp:Nat→Bool}{held:Bool}:∀{Fs:List pg} {ts:List TypeId} {vs:List Value} {xs:List (DataW H)} {hY:List MemPlace},
  yQ P Fs ts→(DataW.weightsEach P ts xs).all (·≤reachBytes)=true→(∀(j:Nat) t v,ts[j]?=some t→vs[j]?=some v→Value.okWide P w r Bw t v)→DataW.TrodAll enc P w base sp held ts vs xs hY→
  ∃aD,RWAll Fs xs aD∧u2 m aD vs
 |[],[],vs,xs,hY,_,_,_,h=>by
  obtain ⟨rfl,rfl,rfl⟩:=trodAll_nil h
  exact ⟨[],trivial,rfl,by intro i d v ay;simp at ay⟩
 |F::Fs,t::ts,vs,xs,hY,eo,iF,mN,h=>by
  obtain ⟨v,LD,x,Ff,p,q,rfl,rfl,rfl,ad,ae⟩:=trodAll_cons h
  simp only [DataW.weightsEach,List.all_append,Bool.and_eq_true] at iF
  obtain ⟨d,n,d1,d2,d3⟩:=aez m hm eo.1 iF.1 (mN 0 t v rfl rfl) ad
  obtain ⟨aD,aQ,bA⟩:=SJ m hm eo.2 iF.2 (fun j t v aG aM=>mN (j+1) t v (by simpa using aG) (by simpa using aM)) ae
  refine ⟨d::aD,⟨⟨n,d1,d2⟩,aQ⟩,by simpa using bA.1,?_⟩
  intro i c u aj hu
  cases i with
  |zero=>simp at aj hu;subst aj;subst hu;exact d3
  |succ i=>exact bA.2 i c u (by simpa using aj) (by simpa using hu)
 |[],_::_,_,_,_,h,_,_,_=>h.elim
 |_::_,[],_,_,_,h,_,_,_=>h.elim
theorem again{W kZ:World}(hle:∀(b:Nat) (o:Obj),W.heap[b]?=some o→kZ.heap[b]?=some o)(an:laidOutB P=true)(hm:mapsRowed P=true)
  (bz:((List.range P.types.size).all fun t=>match P.underlying t with|some (.slice e)=>decide (0<P.cellsOf e)|_=>true)=true) {sp:Nat→Bool}:
  ∀{ts:List TypeId} {vs:List Value} {aD:List (DataW H)} {hY:List MemPlace},(∀t∈ts,t<P.types.size)→DataW.TrodAll enc P W 0 (fun _=>true) true ts vs aD hY→
   (∀p∈hY,p.block<W.heap.size)→(∀p∈hY,sp p.block=true)→DataW.TrodAll enc P kZ 0 sp true ts vs aD hY
 |[],[],[],_,_,h,_,_=>h
 |t::ts,v::vs,d::aD,_,aG,⟨p,q,⟨n,ad⟩,ae,e⟩,bP,aB=>by
  refine ⟨p,q,⟨n,?_⟩,again hle an hm bz (fun t h=>aG t (by simp [h])) ae (fun x ah=>bP x (by rw [e];exact List.mem_append_right _ ah)) (fun x ah=>aB x (by rw [e];exact List.mem_append_right _ ah)),e⟩
  refine DataW.trod_stays (kids_rows an hm) (fun{t e} ad ae=>slices_full_of P bz t e ad ae) (fun h=>by cases h) (aG t (by simp)) ad ?_ (fun x ah=>aB x (by rw [e];exact List.mem_append_left _ ah))
  intro x ah
  have ak:=bP x (by rw [e];exact List.mem_append_left _ ah)
  have bp:kZ.heap[x.block]?=W.heap[x.block]?:=by
   rw [Array.getElem?_eq_getElem ak]
   exact hle _ _ (Array.getElem?_eq_getElem ak)
  cases x with
  |cell b off=>
   show kZ.cell? ⟨b,off,none⟩=W.cell? ⟨b,off,none⟩
   unfold World.cell?
   rw [show kZ.heap[b]?=W.heap[b]? from bp]
  |map b=>exact bp
def GD(W:World):eE:=⟨fun _=>none,W.os,W.output,W.heap.size⟩
theorem aeA(W:World):qo (fun b=>W.heap[b]?) (GD W) W:=by
 refine ⟨fun b o h=>h,⟨fun b o h=>by simp [GD] at h,rfl,rfl,Nat.le_refl _,?_⟩,fun _ _=>rfl⟩
 intro b c t f ak aj
 have:W.heap[b]?=none:=Array.getElem?_eq_none ak
 rw [aj] at this;cases this
theorem aeB{W kZ:World}{ca:Mem}(hle:(show Mem from fun b=>W.heap[b]?).le ca)(h:qo ca (GD W) kZ):
  W.keptBut kZ (fun _=>False)∧(∀a,kZ.frozen? a=W.frozen? a)∧(∀(b:Nat) (o:Obj),W.heap[b]?=some o→kZ.heap[b]?=some o):=by
 have bp:∀(b:Nat) (o:Obj),W.heap[b]?=some o→kZ.heap[b]?=some o:=fun b o ak=>h.mem b o (hle b o ak)
 refine ⟨⟨h.frame.quiet.os,h.frame.quiet.out,fun i af=>?_⟩,fun a=>?_,bp⟩
 ·have ad:=Array.getElem?_eq_getElem af
  have ae:=bp i _ ad
  rw [ad,ae]
  split
  ·rename_i aQ aW
   rw [aQ] at aW
   simp only [Option.some.injEq,Obj.cells.injEq] at aW
   obtain ⟨rfl,rfl,rfl⟩:=aW
   exact ⟨rfl,rfl,rfl,fun _ _=>rfl⟩
  ·rename_i aQ aW
   rw [aQ] at aW
   simp only [Option.some.injEq,Obj.map.injEq] at aW
   exact Or.inr ⟨aW.1.symm,aW.2.symm⟩
  ·rfl
 ·unfold World.frozen?
  cases ak:W.heap[a.block]? with
  |some o=>rw [bp _ _ ak]
  |none=>
   have hP:W.heap.size≤a.block:=by
    refine Nat.le_of_not_lt fun bP=>?_
    rw [Array.getElem?_eq_getElem bP] at ak
    cases ak
   cases fE:kZ.heap[a.block]? with
   |none=>rfl
   |some o=>
    cases o with
    |cells c t f=>
     have:=h.frame.quiet.qe _ c t f hP fE
     subst this
     simp
    |_=>rfl
theorem aeC{G:cT}{f:FuncId}{fn:Func}{s:ChangeSpec}{Fs:List pg}{tr:TypeId}{W:World}{base:Nat}{args:Array Value}{aD gs:List (DataW H)}{before:List MemPlace}
  (an:laidOutB P=true) (hm:mapsRowed P=true)
  (bz:((List.range P.types.size).all fun t=>match P.underlying t with|some (.slice e)=>decide (0<P.cellsOf e)|_=>true)=true)
  (eo:yQ P Fs fn.params.toList) (yx:fn.resultTypes= #[tr]) (gr:P.underlying tr=some .bool)
  (SK:s.vars=[]) (aB:∀aD:List (DataW H),aD.length=Fs.length→s.fn H aD=⟨[.lit (.bool true)],aD,[]⟩)
  (ha:∀hG,RWAll Fs aD hG→dq P G f hG (·=ar true))
  (cy:iz G (fun b:Nat=>W.heap[b]?))
  {SL:List TypeId} (aeD:SL=[]) (iF:(DataW.weightsEach P (fn.params.toList++SL) (aD++gs)).all (·≤reachBytes)=true)
  (mN:∀(j:Nat) t v,fn.params[j]?=some t→args[j]?=some v→Value.okWide P W .any base t v)
  (yR:DataW.Whole enc P fn.params.toList s.vars false W args.toList aD gs before):
  Calls P f args W fun e kZ=>∃v,e= .returned v∧s.post enc P fn false true false false W args v kZ:=by
 have SM:=yR
 obtain ⟨p,q,dE,fA,rfl,GF,aue⟩:=yR
 rw [SK] at fA
 obtain ⟨rfl,rfl⟩:=trodVars_none fA
 subst aeD
 rw [List.append_nil,List.append_nil] at iF
 obtain ⟨hG,d1,d3⟩:=SJ (fun b=>W.heap[b]?) (fun b o h=>h) eo iF (fun j t v aG aM=>mN j t v (by simpa using aG) (by simpa using aM)) dE
 have aj:=(ha hG d1).run (fun b=>W.heap[b]?) (GD W) W args.toList cy (aeA W) d3
 have hlen:aD.length=Fs.length:=by
  have:∀(dd:List pg) (aD:List (DataW H)) (hG:List D),RWAll dd aD hG→aD.length=dd.length:=by
   intro dd
   induction dd with
   |nil=>intro aD hG h;cases aD<;>cases hG<;>simp_all [RWAll]
   |cons y dd ih=>
    intro aD hG h
    cases aD with
    |nil=>cases hG<;>simp [RWAll] at h
    |cons x aD=>
     cases hG with
     |nil=>simp [RWAll] at h
     |cons d hG=>simp [ih aD hG h.2]
  exact this _ _ _ d1
 refine aj.mono fun e kZ ⟨v,ca,r,he,au,hle,cU,aM⟩=>?_
 subst au
 have vE:v= .bool true:=by cases aM;rfl
 subst vE
 obtain ⟨cb,dx,g2⟩:=aeB hle cU
 have bP:=SM.lt
 refine ⟨_,he,?_⟩
 have qB:=aB (aD++[]) (by simpa using hlen)
 simp only [List.append_nil] at qB
 refine post_of_same (pa:=p) (pv:=[]) SM (fun b sp ay=>?_) (fun sp jA=>?_) (fun sp jA=>?_) rfl (World.keptBut_mono (fun _ h=>h.elim) cb) dx (ok_one yx rfl (okWide_bool_mk gr _))
 ·rw [List.append_nil,qB,yx]
  exact trodAll_cons_mk (shut_bool gr true) trodAll_mk0
 ·rw [List.append_nil,qB]
  exact again g2 an hm bz eo.lt dE (fun x ah=>bP x (by simpa using ah)) (fun x ah=>jA x (by simpa using ah))
 ·rw [List.append_nil,qB,SK];rfl
theorem SN{W:World}:∀(laid:List (String×DataW Unit)) (gs:List (Nat×TypeId×Ty×List D)) (hY:List MemPlace),DataW.LaidVars P W laid hY→
  gs.length=laid.length→(∀(i:Nat) x g,laid[i]?=some x→gs[i]?=some g→P.globalNamed x.1=some g.1∧(P.globals[g.1]?).map (·.type)=some g.2.1∧tyOk P g.2.2.1 g.2.1=true∧rd g.2.2.1 x.2=some g.2.2.2∧noStop g.2.2.1=true∧(x.2.weights P g.2.1).all (·≤reachBytes)=true)→
  ∀g∈gs,∃vs T dI,W.heap[g.1]?=some (.cells vs T dI)∧Rel (fun b=>W.heap[b]?) g.2.2.2 vs.toList
 |[],[],_,_,_,_,g,bx=>by simp at bx
 |(nz,x)::laid,y::gs,hY,h,an,ah,g,bx=>by
  obtain ⟨oW,t,cs,fuel,p,q,ad,ae,ax,aZ,bI,_⟩:=h
  rcases List.mem_cons.1 bx with rfl|bx
  ·obtain ⟨aS,bN,en,gJ,ia,jh⟩:=ah 0 _ _ rfl rfl
   have aQ:=Option.some.inj (aS.symm.trans ad)
   subst aQ
   have aW:=Option.some.inj (bN.symm.trans ae)
   subst aW
   obtain ⟨aD,fk,_,jg⟩:=SG (fun b=>W.heap[b]?) (fun b o h=>h) fuel _ _ _ _ en (tM _ _ ia) jh aZ
   have bA:=Option.some.inj (gJ.symm.trans fk)
   unfold World.var? at ax
   rw [ad] at ax
   simp only [Option.bind_some] at ax
   split at ax
   ·rename_i qg T dI bp
    cases ax
    exact ⟨_,T,dI,bp,by rw [bA];exact jg⟩
   ·cases ax
  ·exact SN laid gs q bI (by simpa using an) (fun i x g eJ aeE=>ah (i+1) x g (by simpa using eJ) (by simpa using aeE)) g bx
 |[],_::_,_,_,h,_,_,_=>by simp at h
 |_::_,[],_,_,h,_,_,_=>by simp at h
theorem aeF{G:cT}{W:World}(gs:List (Nat×TypeId×Ty×List D))(cy:∀g cs,G g=some cs→∃x∈gs,x.1=g∧x.2.2.2=cs)
  (h:∀g∈gs,∃vs T dI,W.heap[g.1]?=some (.cells vs T dI)∧Rel (fun b=>W.heap[b]?) g.2.2.2 vs.toList):iz G (fun b:Nat=>W.heap[b]?):=by
 intro g cs bx
 obtain ⟨x,ah,rfl,rfl⟩:=cy g cs bx
 obtain ⟨vs,T,dI,ad,ae⟩:=h x ah
 refine ⟨vs,T,dI,ad,fun j=>(vs[j]?).getD undef,?_,?_⟩
 ·intro j c aj
  obtain ⟨v,br,_,_⟩:=ae.at j c aj
  have:vs[j]?=some v:=by simpa using br
  simp [this]
 ·intro j c aj
  obtain ⟨v,br,_,bj⟩:=ae.at j c aj
  have:vs[j]?=some v:=by simpa using br
  simpa [this] using bj
end
end Go.Am
namespace Go.Am
set_option linter.unusedVariables false
def SO:Ty:= .struct [.str,.bool,.int .i64,.int .i64]
def GG:Ty:= .slice 4 40 SO
def LL:Ty:= .slice 1 8 (.int .i64)
theorem oh{α:Type}(f:α→List D)(Q:α→Prop):∀(es:List (List D)),(∀x∈es,∃y,x=f y∧Q y)→∃l:List α,es=l.map f∧∀y∈l,Q y
 |[],_=>⟨[],rfl,by simp⟩
 |x::es,h=>by
  obtain ⟨y,rfl,aT⟩:=h x (by simp)
  obtain ⟨l,rfl,an⟩:=oh f Q es fun x ah=>h x (by simp [ah])
  exact ⟨y::l,rfl,by intro z bz;rcases List.mem_cons.1 bz with rfl|bz;exact aT;exact an z bz⟩
theorem aeG{n:Int}(h:(Lit.int .i64 n).wf=true):lj n:=by
 have:=Go.bounds_i64 h
 exact this
theorem yS{x:List D}(h:Wt (.int .i64) x):∃n,x=[J n]∧lj n:=by
 obtain ⟨n,rfl,aJ⟩:=h
 exact ⟨n,rfl,aeG aJ⟩
theorem GH{x:List D}(h:Wt .str x):∃s,x=[aI s]∧s.size≤140737488351232:=h
theorem aeH{x:List D}(h:Wt .bool x):∃b,x=[ar b]:=h
theorem aeI{x:List D}(h:Wt SO x):∃v:V,x=v.cells∧V.ok v:=by
 obtain ⟨a,b,rfl,aA,c,d,rfl,aj,e,f,rfl,he,g,i,rfl,bx,rfl⟩:=h
 obtain ⟨s,rfl,aB⟩:=GH aA
 obtain ⟨q,rfl⟩:=aeH aj
 obtain ⟨lo,rfl,gI⟩:=yS he
 obtain ⟨af,rfl,tB⟩:=yS bx
 exact ⟨⟨s,q,lo,af⟩,rfl,gI,tB,by simp only;omega⟩
theorem aeJ{k b:Nat}{d:D}{e:Ty}(h:Wt (.slice k b e) [d]):∃es,d= .aE k es∧es.length*b≤140737488351232∧∀x∈es,Wt e x:=by
 obtain ⟨es,he,_,ad,ae⟩:=h
 cases he
 exact ⟨es,rfl,ad,fun x ah=>(ae x ah).2⟩
theorem aeK{d:D}(h:vD LL d):∃l:List Int,d=cw l∧l.length*8≤140737488351232∧∀v∈l,lj v:=by
 obtain ⟨es,rfl,ad,ae⟩:=aeJ h
 obtain ⟨l,rfl,an⟩:=oh (fun n=>[J n]) lj es fun x ah=>yS (ae x ah)
 exact ⟨l,rfl,by simpa using ad,an⟩
end Go.Am
namespace Go.Am
set_option linter.unusedVariables false
abbrev du:D:= .val (.slice none 0 0)
def bM(k:Nat)(nl:Bool)(es:List (List D)):D:=if nl&&es.isEmpty then du else .aE k es
section
variable{k:Nat}{nl:Bool}{es:List (List D)}
theorem aeL:bM k false es= .aE k es:=by simp [bM]
@[simp] theorem SP:lenP (bM k nl es)=some (J es.length):=by
 unfold bM
 split
 ·rename_i h;simp at h;simp [h.2,J,lenP]
 ·rfl
@[simp] theorem aeM:bD (bM k nl es)=true:=by unfold bM;split<;>rfl
@[simp] theorem aeN:(bM k nl es).one=true:=by unfold bM;split<;>rfl
theorem LM{i:Nat}:a3 k (bM k nl es) (J (i:Int))=es[i]?:=by
 unfold bM
 split
 ·rename_i h;simp at h;simp [h.2,J,a3]
 ·simp
@[simp] theorem auf:elP (bM k nl es)=some (if nl&&es.isEmpty then(0,[]) else(k,es)):=by
 unfold bM;split<;>rfl
end
inductive Tm where
 |mk (op n:Int) (name:ByteArray) (nl:Bool) (kids:List Tm)
namespace Tm
def op:Tm→Int| .mk o _ _ _ _=>o
def num:Tm→Int| .mk _ n _ _ _=>n
def name:Tm→ByteArray| .mk _ _ s _ _=>s
def nl:Tm→Bool| .mk _ _ _ b _=>b
def kids:Tm→List Tm| .mk _ _ _ _ l=>l
mutual
def cells:Tm→List D
 | .mk o n s b ks=>[J o,J n,aI s,bM 4 b (rows ks)]
def rows:List Tm→List (List D)
 |[]=>[]
 |t::r=>cells t::rows r
end
def d(t:Tm):D:= .agg t.cells
mutual
def ba:Tm→Nat
 | .mk _ _ _ _ ks=>2+c7 ks
def c7:List Tm→Nat
 |[]=>0
 |t::r=>1+ba t+c7 r
end
theorem jG:∀l:List Tm,rows l=l.map cells
 |[]=>rfl
 |t::r=>by simp [rows,jG r]
@[simp] theorem ji {l:List Tm}:(rows l).length=l.length:=by simp [jG]
theorem BJ{l:List Tm}{i:Nat}{t:Tm}(h:l[i]?=some t):(rows l)[i]?=some t.cells:=by simp [jG,h]
theorem eC{l:List Tm}{b:Bool}{i:Nat}{t:Tm}(h:l[i]?=some t):a3 4 (bM 4 b (rows l)) (J (i:Int))=some t.cells:=by rw [LM,BJ h]
theorem BK:∀l:List Tm,l.length≤c7 l
 |[]=>Nat.le_refl 0
 |t::r=>by simp only [c7,List.length_cons];have:=BK r;omega
theorem BL:∀{l:List Tm} {t:Tm},t∈l→ba t+1≤c7 l
 |a::r,t,h=>by
  simp only [c7]
  rcases List.mem_cons.1 h with rfl|h
  ·omega
  ·have:=BL h;omega
theorem ga{t k:Tm}(h:k∈t.kids):k.ba+3≤t.ba:=by
 cases t with
 |mk o n s b ks=>simp only [ba];have:=BL (show k∈ks from h);omega
theorem hh{t:Tm}:t.kids.length+2≤t.ba:=by
 cases t with
 |mk o n s b ks=>simp only [ba];have:=BK ks;show ks.length+2≤_;omega
theorem ind{P:Tm→Prop}(h:∀t:Tm,(∀k∈t.kids,P k)→P t)(t:Tm):P t:=by
 have:∀(n:Nat) (t:Tm),t.ba≤n→P t:=by
  intro n
  induction n with
  |zero=>intro t aG;cases t;simp [ba] at aG
  |succ n ih=>intro t aG;exact h t fun k ai=>ih k (by have:=ga ai;omega)
 exact this _ t (Nat.le_refl _)
inductive bO:Tm→Prop where
 |mk (o n:Int) (s:ByteArray) (b:Bool) (ks:List Tm) (az:-9223372036854775808≤o∧o≤9223372036854775807) (aJ:-9223372036854775808≤n∧n≤9223372036854775807) (aB:s.size≤140737488355328) (an:ks.length*56≤140737488355328) (ai:∀k∈ks,bO k):bO (.mk o n s b ks)
theorem bO.dM{t k:Tm}(h:bO t)(ai:k∈t.kids):bO k:=by cases h with|mk o n s b ks az aJ aB an dZ=>exact dZ k ai
theorem bO.len{t:Tm}(h:bO t):t.kids.length*56≤140737488355328:=by cases h;assumption
theorem mO(t:Tm):t.cells=[J t.op,J t.num,aI t.name,bM 4 t.nl (rows t.kids)]:=by cases t;rfl
theorem h1(t:Tm):t.d= .agg [J t.op,J t.num,aI t.name,bM 4 t.nl (rows t.kids)]:=by cases t;rfl
@[simp] theorem lr (t:Tm):aK 4 t.d=true:=by rw [h1];simp
@[simp] theorem mP (t:Tm):aa t.d 0=J t.op:=by rw [h1];rfl
@[simp] theorem ph (t:Tm):aa t.d 1=J t.num:=by rw [h1];rfl
@[simp] theorem qD (t:Tm):aa t.d 2=aI t.name:=by rw [h1];rfl
@[simp] theorem pj (t:Tm):aa t.d 3=bM 4 t.nl (rows t.kids):=by rw [h1];rfl
@[simp] theorem BM (t:Tm):D.agg [J t.op,J t.num,aI t.name,bM 4 t.nl (rows t.kids)]=t.d:=(h1 t).symm
@[simp high] theorem LN (t:Tm):aX true 4 0 t.cells=some t.d:=by rw [h1,mO];rfl
@[simp] theorem fJ (t:Tm):t.cells[0]?=some (J t.op):=by rw [mO];rfl
@[simp] theorem g3 (t:Tm):t.cells[1]?=some (J t.num):=by rw [mO];rfl
@[simp] theorem aeO (t:Tm):t.cells[2]?=some (aI t.name):=by rw [mO];rfl
@[simp] theorem aug (t:Tm):t.cells[3]?=some (bM 4 t.nl (rows t.kids)):=by rw [mO];rfl
end Tm
theorem dv{β α σ:Type}{f:List D→Option (List D⊕β)}(l:List α)(S:Nat→σ→List D)(dX:List α→σ→β)(Inv:Nat→σ→Prop)
  (aq:∀s,Inv l.length s→f (S l.length s)=some (.inr (dX [] s)))
  (ad:∀(i:Nat) (a:α) (s:σ),l[i]?=some a→i<l.length→Inv i s→
   (∃s',f (S i s)=some (.inl (S (i+1) s'))∧dX (a::l.drop (i+1)) s=dX (l.drop (i+1)) s'∧Inv (i+1) s')∨f (S i s)=some (.inr (dX (a::l.drop (i+1)) s))):
  ∀(m i:Nat) (s:σ),Inv i s→l.length-i<m→i≤l.length→bo f m (S i s)=some (dX (l.drop i) s)
 |0,i,s,_,h,_=>absurd h (Nat.not_lt_zero _)
 |m+1,i,s,af,hm,hle=>by
  rw [iterL_s]
  by_cases h:i<l.length
  ·have bx:=List.getElem?_eq_getElem h
   have e:l.drop i=l[i]::l.drop (i+1):=List.drop_eq_getElem_cons h
   rcases ad i _ s bx h af with⟨s',a2,bb,bJ⟩|a2
   ·rw [a2,e,bb]
    exact dv l S dX Inv aq ad m (i+1) s' bJ (by omega) h
   ·rw [a2,e];rfl
  ·have:i=l.length:=by omega
   subst this
   rw [aq s af,List.drop_eq_nil_of_le (Nat.le_refl _)];rfl
theorem GI(op:Int):op=1∨op=2∨op=3∨op=4∨op=5∨op=6∨op=7∨op=8∨op=9∨op=10∨op=11∨op=12∨op=13∨op=14∨op=15∨op=16∨op=17∨op=18∨(op<1∨op>18):=by omega
end Go.Am
namespace Go.Am
set_option linter.unusedVariables false
@[simp] theorem auh {f:FuncId}:isFc f (.val (.func (.func f) #[] #[]))=true:=by simp [isFc]
@[simp] theorem lu {f:FuncId} {cs:List D}:fnOf f (.fn (.func f) [] cs)=some cs:=by simp [fnOf]
theorem SQ(a b:Int):jz true [J a,J b]=some (J (if b>a then b else a)):=by
 simp [jz,intMM,mmFold,J,toDo]
theorem SR(a b:Int):jz false [J a,J b]=some (J (if b<a then b else a)):=by
 simp [jz,intMM,mmFold,J,toDo]
@[simp] theorem SS {b:Bool}:(ar b).flat=true:=rfl
@[simp] theorem aeP {b:Int}:(J b).flat=true:=rfl
@[simp] theorem aeQ {b:ByteArray}:(aI b).flat=true:=rfl
@[simp] theorem aui {a:Int}:unP .neg (J a)=some (J (IntKind.i64.wrap (-a))):=by rw [←Int.zero_sub];rfl
theorem SU:(D.val (.bool false))=ar false:=rfl
theorem SV:(D.val (.int .i64 0))=J 0:=rfl
theorem SW:(D.val (.string ⟨#[]⟩))=aI ⟨#[]⟩:=rfl
@[simp] theorem aeR (a b c:D):aK 3 (.agg [a,b,c])=(a.one&&(b.one&&c.one)):=by simp [aK]
@[simp] theorem aeS (a b c e:D):aK 4 (.agg [a,b,c,e])=(a.one&&(b.one&&(c.one&&e.one))):=by simp [aK]
@[simp] theorem auj {a:D} {l:List D}:aa (.agg (a::l)) 0=a:=rfl
@[simp] theorem auk {a b:D} {l:List D}:aa (.agg (a::b::l)) 1=b:=rfl
@[simp] theorem aul {a b c:D} {l:List D}:aa (.agg (a::b::c::l)) 2=c:=rfl
@[simp] theorem aum {a b c e:D} {l:List D}:aa (.agg (a::b::c::e::l)) 3=e:=rfl
theorem cg{bt:Bool}{i:Nat}(h:i<1000000000000000000):binP bt .add (J (i:Int)) (J 1)=some (J ((i+1:Nat):Int)):=by
 rw [dU (by omega) (by omega)];rfl
theorem jZ{bt:Bool}{i:Int}(h:-9223372036854775809≤i)(bh:i<9223372036854775807):binP bt .add (J i) (J 1)=some (J (i+1)):=by
 rw [dU (by omega) (by omega)]
section
variable{α β:Type}{c:Prop}[Decidable c]
@[simp] theorem aun {a b:α}:(if c then(Sum.inl a:α⊕β) else Sum.inl b)=Sum.inl (if c then a else b):=by split<;>rfl
@[simp] theorem auo {a b:β}:(if c then(Sum.inr a:α⊕β) else Sum.inr b)=Sum.inr (if c then a else b):=by split<;>rfl
@[simp] theorem aup {a b:α} {l r:List α}:(if c then a::l else b::r)=(if c then a else b)::(if c then l else r):=by split<;>rfl
@[simp] theorem auq {a b:Int}:(if c then J a else J b)=J (if c then a else b):=by split<;>rfl
@[simp] theorem aur {a b:ByteArray}:(if c then aI a else aI b)=aI (if c then a else b):=by split<;>rfl
@[simp] theorem LO {a b:List D}:(if c then D.aL a else D.aL b)=D.aL (if c then a else b):=by split<;>rfl
@[simp] theorem aus {a b:List D}:(if c then D.agg a else D.agg b)=D.agg (if c then a else b):=by split<;>rfl
@[simp] theorem aut {f:List D→Option β} {x y:List D⊕β}:a6 f (if c then x else y)=if c then a6 f x else a6 f y:=by split<;>rfl
@[simp] theorem auu {x y:Option α} {f:α→Option β}:R (if c then x else y) f=if c then R x f else R y f:=by split<;>rfl
end
section
variable{dJ:Type}{c:Prop}[Decidable c]
@[simp] theorem auv {x y:D} {w:Bool} {p:Option D}:gD (if c then x else y) w p=if c then gD x w p else gD y w p:=by split<;>rfl
@[simp] theorem auw {x y:D} {w:Bool} {p q:Option dJ}:vk (if c then x else y) w p q=if c then vk x w p q else vk y w p q:=by split<;>rfl
@[simp] theorem auy {x y a b:D}:pickP (if c then x else y) a b=if c then pickP x a b else pickP y a b:=by split<;>rfl
@[simp] theorem auz {x y:D} {p q:Option dJ}:oif (if c then x else y) p q=if c then oif x p q else oif y p q:=by split<;>rfl
@[simp] theorem auA {x y:D} {o:UnOp}:unP o (if c then x else y)=if c then unP o x else unP o y:=by split<;>rfl
end
@[simp] theorem auB {a b:Bool}:ar a=ar b↔a=b:=⟨fun h=>by cases h;rfl,fun h=>by rw [h]⟩
@[simp] theorem auC {a b:Int}:J a=J b↔a=b:=⟨fun h=>by cases h;rfl,fun h=>by rw [h]⟩
@[simp] theorem auD {a b:ByteArray}:aI a=aI b↔a=b:=⟨fun h=>by cases h;rfl,fun h=>by rw [h]⟩
attribute [simp] SU SV SW
end Go.Am
namespace Go.Am
set_option linter.unusedVariables false
def j0(M:List (Value×D)):Prop:=∀e∈M,∃s,e.1= .string s
def getS:List (Value×D)→ByteArray→Option D
 |[],_=>none
 |(.string s,d)::r,x=>if s=x then some d else getS r x
 |_::r,x=>getS r x
theorem SX{e:Value×D}{M:List (Value×D)}(h:j0 (e::M)):(∃s,e.1= .string s)∧j0 M:=⟨h e (by simp),fun x ah=>h x (by simp [ah])⟩
theorem SY(a b:ByteArray):Instr.sameNow .string (.string a) (.string b)=some (decide (b=a)):=by
 simp [Instr.sameNow,JJ,eq_comm]
theorem SZ{M:List (Value×D)}(h:j0 M)(x:ByteArray):findD .string (.string x) M=some (getS M x):=by
 induction M with
 |nil=>rfl
 |cons e r ih=>
  obtain ⟨⟨s,aB⟩,au⟩:=SX h
  obtain ⟨k,d⟩:=e
  simp only at aB
  subst aB
  simp only [findD,SY,getS]
  by_cases ah:s=x
  ·simp [ah]
  ·simp [ah,ih au]
theorem aeT{M:List (Value×D)}(h:j0 M)(x:ByteArray)(d:D):∃dF,mapPut .string (.string x) d M=some dF∧j0 dF∧(∀y,getS dF y=if y=x then some d else getS M y)∧dF.length=M.length+(if(getS M x).isSome then 0 else 1):=by
 induction M with
 |nil=>exact ⟨[(.string x,d)],rfl,by intro e he;simp at he;exact ⟨x,by rw [he]⟩,fun y=>by simp [getS,eq_comm],rfl⟩
 |cons e r ih=>
  obtain ⟨⟨s,aB⟩,au⟩:=SX h
  obtain ⟨k,d0⟩:=e
  simp only at aB
  subst aB
  simp only [mapPut,SY,getS]
  by_cases ah:s=x
  ·refine ⟨(.string x,d)::r,by simp [ah],?_,fun y=>?_,by simp [ah]⟩
   ·intro e he
    rcases List.mem_cons.1 he with rfl|he
    ·exact ⟨x,rfl⟩
    ·exact au e he
   ·simp only [getS]
    by_cases aT:y=x
    ·simp [aT]
    ·have:¬x=y:=fun h=>aT h.symm
     subst ah
     simp [aT,this]
  ·obtain ⟨dF,ad,ae,ax,aZ⟩:=ih au
   refine ⟨(.string s,d0)::dF,by simp [ah,ad],?_,fun y=>?_,by simp [ah,aZ];omega⟩
   ·intro e he
    rcases List.mem_cons.1 he with rfl|he
    ·exact ⟨s,rfl⟩
    ·exact ae e he
   ·simp only [getS,ax y]
    by_cases aT:y=x
    ·subst aT;simp [ah]
    ·simp [aT]
theorem lookS1{M:List (Value×D)}(h:j0 M){z:Value}{x:ByteArray}:lookP .string z true M (aI x)=some (match getS M x with|some d=> .aL [d,ar true]|none=> .aL [zeroD z,ar false]):=by
 simp only [lookP,aI,SZ h]
 cases getS M x<;>rfl
theorem GJ{M:List (Value×D)}(h:j0 M)(x:ByteArray)(d:D):∃dF,o4 .string M (aI x) d=some dF∧j0 dF∧(∀y,getS dF y=if y=x then some d else getS M y)∧dF.length=M.length+(if(getS M x).isSome then 0 else 1):=aeT h x d
def rZ(M:List (Value×D)):Prop:=∀e∈M,∃i,e.1= .int .i64 i
def getI:List (Value×D)→Int→Option D
 |[],_=>none
 |(.int .i64 s,d)::r,x=>if s=x then some d else getI r x
 |_::r,x=>getI r x
theorem S0{e:Value×D}{M:List (Value×D)}(h:rZ (e::M)):(∃s,e.1= .int .i64 s)∧rZ M:=⟨h e (by simp),fun x ah=>h x (by simp [ah])⟩
theorem S1(a b:Int):Instr.sameNow (.int .i64) (.int .i64 a) (.int .i64 b)=some (decide (b=a)):=by
 by_cases h:a=b
 ·subst h;simp [Instr.sameNow]
 ·have bh:¬b=a:=fun e=>h e.symm
  simp [Instr.sameNow,h,bh]
theorem aeU{M:List (Value×D)}(h:rZ M)(x:Int):findD (.int .i64) (.int .i64 x) M=some (getI M x):=by
 induction M with
 |nil=>rfl
 |cons e r ih=>
  obtain ⟨⟨s,aB⟩,au⟩:=S0 h
  obtain ⟨k,d⟩:=e
  simp only at aB
  subst aB
  simp only [findD,S1,getI]
  by_cases ah:s=x
  ·simp [ah]
  ·simp [ah,ih au]
theorem aeV{M:List (Value×D)}(h:rZ M)(x:Int)(d:D):∃dF,mapPut (.int .i64) (.int .i64 x) d M=some dF∧rZ dF∧(∀y,getI dF y=if y=x then some d else getI M y)∧dF.length=M.length+(if(getI M x).isSome then 0 else 1):=by
 induction M with
 |nil=>exact ⟨[(.int .i64 x,d)],rfl,by intro e he;simp at he;exact ⟨x,by rw [he]⟩,fun y=>by simp [getI,eq_comm],rfl⟩
 |cons e r ih=>
  obtain ⟨⟨s,aB⟩,au⟩:=S0 h
  obtain ⟨k,d0⟩:=e
  simp only at aB
  subst aB
  simp only [mapPut,S1,getI]
  by_cases ah:s=x
  ·refine ⟨(.int .i64 x,d)::r,by simp [ah],?_,fun y=>?_,by simp [ah]⟩
   ·intro e he
    rcases List.mem_cons.1 he with rfl|he
    ·exact ⟨x,rfl⟩
    ·exact au e he
   ·simp only [getI]
    by_cases aT:y=x
    ·simp [aT]
    ·have:¬x=y:=fun h=>aT h.symm
     subst ah
     simp [aT,this]
  ·obtain ⟨dF,ad,ae,ax,aZ⟩:=ih au
   refine ⟨(.int .i64 s,d0)::dF,by simp [ah,ad],?_,fun y=>?_,by simp [ah,aZ];omega⟩
   ·intro e he
    rcases List.mem_cons.1 he with rfl|he
    ·exact ⟨s,rfl⟩
    ·exact ae e he
   ·simp only [getI,ax y]
    by_cases aT:y=x
    ·subst aT;simp [ah]
    ·simp [aT]
theorem aeW{M:List (Value×D)}(h:rZ M){z:Value}{ok:Bool}{x:Int}:lookP (.int .i64) z ok M (J x)=some (match getI M x with|some d=>if ok then .aL [d,ar true] else d|none=>if ok then .aL [zeroD z,ar false] else zeroD z):=by
 simp only [lookP,J,aeU h]
 cases getI M x<;>rfl
theorem aeX{M:List (Value×D)}(h:rZ M)(x:Int)(d:D):∃dF,o4 (.int .i64) M (J x) d=some dF∧rZ dF∧(∀y,getI dF y=if y=x then some d else getI M y)∧dF.length=M.length+(if(getI M x).isSome then 0 else 1):=aeV h x d
end Go.Am
namespace Go.Am
set_option linter.unusedVariables false
theorem S2:∀x:List UInt8,Op.bytesLess x x=false
 |[]=>rfl
 |a::x=>by simp [Op.bytesLess,S2 x]
theorem S3:∀x y z:List UInt8,Op.bytesLess x y=true→Op.bytesLess y z=true→Op.bytesLess x z=true
 |[],[],z,h,_=>by simp [Op.bytesLess] at h
 |[],b::y,[],_,h=>by simp [Op.bytesLess] at h
 |[],b::y,c::z,_,_=>rfl
 |a::x,[],z,h,_=>by simp [Op.bytesLess] at h
 |a::x,b::y,[],_,h=>by simp [Op.bytesLess] at h
 |a::x,b::y,c::z,ad,ae=>by
  simp only [Op.bytesLess,Bool.or_eq_true,Bool.and_eq_true,decide_eq_true_eq,beq_iff_eq,UInt8.lt_iff_toNat_lt] at*
  rcases ad with ad|⟨rfl,ad⟩
  ·rcases ae with ae|⟨rfl,ae⟩
   ·exact .inl (by omega)
   ·exact .inl ad
  ·rcases ae with ae|⟨rfl,ae⟩
   ·exact .inl ae
   ·exact .inr ⟨rfl,S3 x y z ad ae⟩
theorem S4:∀x y:List UInt8,Op.bytesLess x y=true∨x=y∨Op.bytesLess y x=true
 |[],[]=> .inr (.inl rfl)
 |[],b::y=> .inl rfl
 |a::x,[]=> .inr (.inr rfl)
 |a::x,b::y=>by
  simp only [Op.bytesLess,Bool.or_eq_true,Bool.and_eq_true,decide_eq_true_eq,beq_iff_eq,UInt8.lt_iff_toNat_lt,List.cons.injEq]
  by_cases ad:a.toNat<b.toNat
  ·exact .inl (.inl ad)
  ·by_cases ae:b.toNat<a.toNat
   ·exact .inr (.inr (.inl ae))
   ·have:a=b:=UInt8.toNat_inj.1 (by omega)
    subst this
    rcases S4 x y with h|h|h
    ·exact .inl (.inr ⟨rfl,h⟩)
    ·exact .inr (.inl ⟨rfl,h⟩)
    ·exact .inr (.inr (.inr ⟨rfl,h⟩))
theorem r0(x:ByteArray):blt x x=false:=S2 _
theorem vF{x y z:ByteArray}(h:blt x y=true)(bh:blt y z=true):blt x z=true:=S3 _ _ _ h bh
theorem LP(x y:ByteArray):blt x y=true∨x=y∨blt y x=true:=by
 rcases S4 x.toList y.toList with h|h|h
 ·exact .inl h
 ·exact .inr (.inl (Pw h))
 ·exact .inr (.inr h)
theorem aeY(y x:ByteArray):(!(blt y x||decide (y=x)))=blt x y:=by
 rcases LP x y with h|h|h
 ·have ad:blt y x=false:=by
   cases bL:blt y x with
   |false=>rfl
   |true=>have:=vF h bL;rw [r0] at this;cases this
  have ae:y≠x:=by rintro rfl;rw [r0] at h;cases h
  simp [h,ad,ae]
 ·subst h;simp [r0]
 ·have ad:blt x y=false:=by
   cases bL:blt x y with
   |false=>rfl
   |true=>have:=vF h bL;rw [r0] at this;cases this
  simp [h,ad]
theorem GK{bt:Bool}{x y:ByteArray}:binP bt .gtr (aI y) (aI x)=some (ar (blt x y)):=by rw [LB,aeY]
def Srt:List ByteArray→Prop
 |[]=>True
 |a::r=>(∀b∈r,blt a b=true)∧Srt r
def gh(s:ByteArray):List ByteArray→List ByteArray
 |[]=>[s]
 |a::r=>if a=s then a::r else if blt s a then s::a::r else a::gh s r
theorem S5{s x:ByteArray}:∀{l:List ByteArray},x∈gh s l→x=s∨x∈l
 |[],h=>by simp [gh] at h;exact .inl h
 |a::r,h=>by
  rw [gh] at h
  split at h
  ·exact .inr h
  ·split at h
   ·rcases List.mem_cons.1 h with h|h
    ·exact .inl h
    ·exact .inr h
   ·rcases List.mem_cons.1 h with h|h
    ·exact .inr (by simp [h])
    ·rcases S5 h with h|h
     ·exact .inl h
     ·exact .inr (by simp [h])
theorem BN{s:ByteArray}:∀{l:List ByteArray},Srt l→Srt (gh s l)
 |[],_=>⟨by simp,trivial⟩
 |a::r,h=>by
  rw [gh]
  split
  ·exact h
  ·rename_i cc
   split
   ·rename_i bP
    refine ⟨fun b ak=>?_,h⟩
    rcases List.mem_cons.1 ak with rfl|ak
    ·exact bP
    ·exact vF bP (h.1 b ak)
   ·rename_i qE
    refine ⟨fun b ak=>?_,BN h.2⟩
    rcases S5 ak with rfl|ak
    ·rcases LP a b with ad|ad|ad
     ·exact ad
     ·exact absurd ad cc
     ·rw [ad] at qE;exact absurd rfl qE
    ·exact h.1 b ak
theorem LQ{s:ByteArray}:∀{l:List ByteArray},Srt l→s∈l→gh s l=l
 |[],_,h=>by cases h
 |a::r,aB,h=>by
  rw [gh]
  rcases List.mem_cons.1 h with rfl|h
  ·rw [if_pos rfl]
  ·have bP:=aB.1 s h
   have cc:¬a=s:=by rintro rfl;rw [r0] at bP;cases bP
   have qE:¬blt s a=true:=fun bh=>by have:=vF bP bh;rw [r0] at this;cases this
   rw [if_neg cc,if_neg qE,LQ aB.2 h]
theorem S6{s:ByteArray}:∀{l:List ByteArray},Srt l→s∉l→∃a b,l=a++b∧gh s l=a++s::b∧(∀x∈a,blt x s=true)∧(∀x∈b,blt s x=true)
 |[],_,_=>⟨[],[],rfl,rfl,by simp,by simp⟩
 |a::r,aB,h=>by
  have cc:¬a=s:=fun e=>h (by simp [e])
  rw [gh,if_neg cc]
  by_cases an:blt s a=true
  ·rw [if_pos an]
   exact ⟨[],a::r,rfl,rfl,by simp,fun x ah=>by
    rcases List.mem_cons.1 ah with rfl|ah
    ·exact an
    ·exact vF an (aB.1 x ah)⟩
  ·rw [if_neg an]
   obtain ⟨p,q,ad,ae,ax,aZ⟩:=S6 (l:=r) (s:=s) aB.2 (fun hm=>h (List.mem_cons_of_mem _ hm))
   refine ⟨a::p,q,by rw [ad];rfl,by rw [ae];rfl,fun x ah=>?_,aZ⟩
   rcases List.mem_cons.1 ah with rfl|ah
   ·rcases LP x s with bI|bI|bI
    ·exact bI
    ·exact absurd bI cc
    ·exact absurd bI an
   ·exact ax x ah
theorem LR(s:ByteArray):∀{l:List ByteArray},Srt l→∃a b,l=a++b∧(∀x∈a,blt s x=false)∧(∀x∈b,blt s x=true)∧(s∈l→∃cr,a=cr++[s])∧(s∉l→s∉a)∧(s∉l→gh s l=a++s::b)
 |[],_=>⟨[],[],rfl,by simp,by simp,by simp,by simp,fun _=>rfl⟩
 |c::r,aB=>by
  by_cases hm:s∈c::r
  ·by_cases aj:c=s
   ·subst aj
    refine ⟨[c],r,rfl,by simp [r0],aB.1,fun _=>⟨[],rfl⟩,fun h=>absurd hm h,fun h=>absurd hm h⟩
   ·have au:s∈r:=(List.mem_cons.1 hm).resolve_left fun h=>aj h.symm
    obtain ⟨a,b,ad,ae,ax,aZ,bI,b9⟩:=LR s aB.2
    obtain ⟨cr,Bf⟩:=aZ au
    refine ⟨c::a,b,by rw [ad];rfl,?_,ax,fun _=>⟨c::cr,by rw [Bf];rfl⟩,fun h=>absurd hm h,fun h=>absurd hm h⟩
    ·intro x ah
     rcases List.mem_cons.1 ah with rfl|ah
     ·have bP:=aB.1 s au
      cases bL:blt s x with
      |false=>rfl
      |true=>have:=vF bP bL;rw [r0] at this;cases this
     ·exact ae x ah
  ·obtain ⟨a,b,ad,ae,ax,aZ⟩:=S6 aB hm
   refine ⟨a,b,ad,fun x ah=>?_,aZ,fun h=>absurd h hm,fun _ aA=>hm (by rw [ad];simp [aA]),fun _=>ae⟩
   have bP:=ax x ah
   cases bL:blt s x with
   |false=>rfl
   |true=>have:=vF bP bL;rw [r0] at this;cases this
theorem BO{s:ByteArray}:∀(l:List ByteArray),(gh s l).length≤l.length+1
 |[]=>by simp [gh]
 |a::r=>by
  rw [gh]
  split
  ·simp
  ·split
   ·simp
   ·have:=BO (s:=s) r;simp;omega
end Go.Am
namespace Go.Am
set_option linter.unusedVariables false
def termTy:Nat→Ty
 |0=> .stop
 |n+1=> .struct [.int .i64,.int .i64,.str,.slice 4 56 (termTy n)]
theorem yT:∀(n m:Nat),m≤2*n→(termTy n).dp m=true
 |0,m,h=>by
         have:m=0:=by omega
         subst this;rfl
 |n+1,0,_=>rfl
 |n+1,1,_=>rfl
 |n+1,m+2,h=>by
  have:=yT n m (by omega)
  simp only [termTy,Ty.dp,dpL,this,Bool.and_true]
theorem GL{P:Program}{t s:TypeId}(ad:∀y,tyOk P (.struct [.int .i64,.int .i64,.str,y]) t=(tyOk P y s&&true))(ae:∀y,tyOk P (.slice 4 56 y) s=tyOk P y t):∀n,tyOk P (termTy n) t=true
 |0=>rfl
 |n+1=>by rw [termTy,ad,ae,GL ad ae n];rfl
theorem aeZ{P:Program}{t s:TypeId}(ad:∀y,tyOk P (.struct [.int .i64,.int .i64,.str,y]) t=(tyOk P y s&&true))(ae:∀y,tyOk P (.slice 4 56 y) s=tyOk P y t)(an:decide (t<P.types.size)=true):qC P termTy t:=
 ⟨fun n=>yT n n (by omega),GL ad ae,of_decide_eq_true an,fun n=>by cases n<;>rfl⟩
theorem vG:∀(n:Nat) {x:List D},Wt (termTy n) x→∃t:Tm,x=t.cells∧t.bO
 |0,x,h=>h.elim
 |n+1,x,h=>by
  obtain ⟨a,b,rfl,aA,c,d,rfl,aj,e,f,rfl,he,g,i,rfl,bx,rfl⟩:=h
  obtain ⟨op,rfl,dj⟩:=yS aA
  obtain ⟨nn,rfl,iW⟩:=yS aj
  obtain ⟨s,rfl,aB⟩:=GH he
  obtain ⟨es,rfl,_,an,ku⟩:=bx
  obtain ⟨ks,rfl,dL⟩:=oh Tm.cells Tm.bO es fun x ah=>vG n (ku x ah).2
  refine ⟨.mk op nn s false ks,?_,.mk _ _ _ _ _ dj iW (by omega) (by simpa using Nat.le_trans an (by omega)) dL⟩
  simp [Tm.cells,Tm.jG,bM]
theorem LS{H:Type}{F:pg}{Fs:List pg}{xs:List (DataW H)}{aD:List D}(h:RWAll (F::Fs) xs aD):∃x Ff d yo n,xs=x::Ff∧aD=d::yo∧GB (F n) x d∧vD (F n) d∧RWAll Fs Ff yo:=by
 cases xs with
 |nil=>cases aD<;>exact h.elim
 |cons x xs=>
  cases aD with
  |nil=>exact h.elim
  |cons d aD=>
   obtain ⟨⟨n,ad,ae⟩,ax⟩:=h
   exact ⟨x,xs,d,aD,n,rfl,rfl,ad,ae,ax⟩
theorem ae0{H:Type}{xs:List (DataW H)}{aD:List D}(h:RWAll [] xs aD):xs=[]∧aD=[]:=by
 cases xs<;>cases aD<;>first|exact ⟨rfl,rfl⟩|exact h.elim
end Go.Am
namespace Go.Am
set_option linter.unusedVariables false
@[simp] theorem auE (a:D):aK 1 (.agg [a])=a.one:=by simp [aK]
@[simp] theorem ae1 (a b:D):aK 2 (.agg [a,b])=(a.one&&b.one):=by simp [aK]
@[simp] theorem ae2 (a b c d e:D):aK 5 (.agg [a,b,c,d,e])=(a.one&&(b.one&&(c.one&&(d.one&&e.one)))):=by simp [aK]
@[simp] theorem ae3 (a b c d e f:D):aK 6 (.agg [a,b,c,d,e,f])=(a.one&&(b.one&&(c.one&&(d.one&&(e.one&&f.one))))):=by simp [aK]
@[simp] theorem S7 (a b c d e f g:D):aK 7 (.agg [a,b,c,d,e,f,g])=(a.one&&(b.one&&(c.one&&(d.one&&(e.one&&(f.one&&g.one)))))):=by simp [aK]
@[simp] theorem ae4 (a b c d e f g h:D):aK 8 (.agg [a,b,c,d,e,f,g,h])=(a.one&&(b.one&&(c.one&&(d.one&&(e.one&&(f.one&&(g.one&&h.one))))))):=by simp [aK]
@[simp] theorem auF {a b c e f:D} {l:List D}:aa (.agg (a::b::c::e::f::l)) 4=f:=rfl
@[simp] theorem auG {a b c e f g:D} {l:List D}:aa (.agg (a::b::c::e::f::g::l)) 5=g:=rfl
@[simp] theorem auH {a b c e f g h:D} {l:List D}:aa (.agg (a::b::c::e::f::g::h::l)) 6=h:=rfl
@[simp] theorem auI {a b c e f g h i:D} {l:List D}:aa (.agg (a::b::c::e::f::g::h::i::l)) 7=i:=rfl
theorem S8{β:Type}{x y:Bool}{f:D→Option β}:R (gD (ar x) true (some (ar y))) (fun v=>R (pickP (ar x) v (ar false)) f)=f (ar (x&&y)):=by cases x<;>rfl
theorem ae5{β:Type}{x y:Bool}{f:D→Option β}:R (gD (ar x) false (some (ar y))) (fun v=>R (pickP (ar x) (ar true) v) f)=f (ar (x||y)):=by cases x<;>rfl
inductive Fm where
 |mk (op:Int) (e:Tm) (nl:Bool) (kids:List Fm)
def eF:Tm:= .mk 0 0 ⟨#[]⟩ true []
theorem LU:eF.bO:= .mk _ _ _ _ _ (by omega) (by omega) (by decide) (by simp) (by simp)
theorem GM:eF.d=D.agg [J 0,J 0,aI ⟨#[]⟩,D.val (.slice none 0 0)]:=rfl
namespace Fm
def op:Fm→Int| .mk o _ _ _=>o
def e:Fm→Tm| .mk _ t _ _=>t
def nl:Fm→Bool| .mk _ _ b _=>b
def kids:Fm→List Fm| .mk _ _ _ l=>l
mutual
def cells:Fm→List D
 | .mk o t b ks=>[J o,J t.op,J t.num,aI t.name,bM 4 t.nl (Tm.rows t.kids),bM 6 b (rows ks)]
def rows:List Fm→List (List D)
 |[]=>[]
 |t::r=>cells t::rows r
end
def d(t:Fm):D:= .agg t.cells
mutual
def ba:Fm→Nat
 | .mk _ t _ ks=>2+t.ba+c7 ks
def c7:List Fm→Nat
 |[]=>0
 |t::r=>1+ba t+c7 r
end
theorem jG:∀l:List Fm,rows l=l.map cells
 |[]=>rfl
 |t::r=>by simp [rows,jG r]
@[simp] theorem ji {l:List Fm}:(rows l).length=l.length:=by simp [jG]
theorem BJ{l:List Fm}{i:Nat}{t:Fm}(h:l[i]?=some t):(rows l)[i]?=some t.cells:=by simp [jG,h]
theorem eC{l:List Fm}{b:Bool}{i:Nat}{t:Fm}(h:l[i]?=some t):a3 6 (bM 6 b (rows l)) (J (i:Int))=some t.cells:=by rw [LM,BJ h]
theorem BK:∀l:List Fm,l.length≤c7 l
 |[]=>Nat.le_refl 0
 |t::r=>by simp only [c7,List.length_cons];have:=BK r;omega
theorem BL:∀{l:List Fm} {t:Fm},t∈l→ba t+1≤c7 l
 |a::r,t,h=>by
  simp only [c7]
  rcases List.mem_cons.1 h with rfl|h
  ·omega
  ·have:=BL h;omega
theorem yU(t:Fm):t.ba=2+t.e.ba+c7 t.kids:=by cases t;rfl
theorem ga{t k:Fm}(h:k∈t.kids):k.ba+3≤t.ba:=by
 have:=BL h;have:=yU t;omega
theorem hh{t:Fm}:t.kids.length+2≤t.ba:=by
 have:=BK t.kids;have:=yU t;omega
theorem vH{t:Fm}:t.e.ba+2≤t.ba:=by have:=yU t;omega
theorem ind{P:Fm→Prop}(h:∀t:Fm,(∀k∈t.kids,P k)→P t)(t:Fm):P t:=by
 have:∀(n:Nat) (t:Fm),t.ba≤n→P t:=by
  intro n
  induction n with
  |zero=>intro t aG;cases t;simp [ba] at aG
  |succ n ih=>intro t aG;exact h t fun k ai=>ih k (by have:=ga ai;omega)
 exact this _ t (Nat.le_refl _)
inductive bO:Fm→Prop where
 |mk (o:Int) (t:Tm) (b:Bool) (ks:List Fm) (az:-9223372036854775808≤o∧o≤9223372036854775807) (aG:t.bO) (an:ks.length*88≤140737488355328) (ai:∀k∈ks,bO k):bO (.mk o t b ks)
theorem bO.dM{t k:Fm}(h:bO t)(ai:k∈t.kids):bO k:=by cases h with|mk o n s b ks az aJ aB=>exact aB k ai
theorem bO.len{t:Fm}(h:bO t):t.kids.length*88≤140737488355328:=by cases h;assumption
theorem bO.e{t:Fm}(h:bO t):t.e.bO:=by cases h;assumption
theorem bO.op{t:Fm}(h:bO t):-9223372036854775808≤t.op∧t.op≤9223372036854775807:=by cases h;assumption
theorem mO(t:Fm):t.cells=[J t.op,J t.e.op,J t.e.num,aI t.e.name,bM 4 t.e.nl (Tm.rows t.e.kids),bM 6 t.nl (rows t.kids)]:=by cases t;rfl
theorem h1(t:Fm):t.d= .agg [J t.op,J t.e.op,J t.e.num,aI t.e.name,bM 4 t.e.nl (Tm.rows t.e.kids),bM 6 t.nl (rows t.kids)]:=by cases t;rfl
@[simp] theorem lr (t:Fm):aK 6 t.d=true:=by rw [h1];simp
@[simp] theorem mP (t:Fm):aa t.d 0=J t.op:=by rw [h1];rfl
@[simp] theorem ph (t:Fm):aa t.d 1=J t.e.op:=by rw [h1];rfl
@[simp] theorem qD (t:Fm):aa t.d 2=J t.e.num:=by rw [h1];rfl
@[simp] theorem pj (t:Fm):aa t.d 3=aI t.e.name:=by rw [h1];rfl
@[simp] theorem ae6 (t:Fm):aa t.d 4=bM 4 t.e.nl (Tm.rows t.e.kids):=by rw [h1];rfl
@[simp] theorem ae7 (t:Fm):aa t.d 5=bM 6 t.nl (rows t.kids):=by rw [h1];rfl
@[simp] theorem BM (t:Fm):D.agg [J t.op,J t.e.op,J t.e.num,aI t.e.name,bM 4 t.e.nl (Tm.rows t.e.kids),bM 6 t.nl (rows t.kids)]=t.d:=(h1 t).symm
@[simp high] theorem LN (t:Fm):aX true 6 0 t.cells=some t.d:=by rw [h1,mO];rfl
end Fm
attribute [go_sem] c9 mL jf mM og S8 ae5 yM Gx lT yN yO tL LA SE aer yP ny BD Lv aed aee aef aeg aeM aeh aei aej aek ael aeN aem Lw List.getElem?_cons_zero List.getElem?_cons_succ aea aen SP aeo aep SC Bool.and_true Bool.true_and Bool.and_self if_true if_false Bool.not_true Bool.not_false Bool.false_eq_true SS aeP aeQ Bool.or_true Bool.true_or ae1 aeR aeS ae2 ae3 S7 ae4 SU SV SW aec aeb Tm.lr Tm.mP Tm.ph Tm.qD Tm.pj Tm.BM Tm.LN Tm.ji Fm.lr Fm.mP Fm.ph Fm.qD Fm.pj Fm.ae6 Fm.ae7 Fm.BM Fm.LN Fm.ji
end Go.Am
namespace Go.Am
set_option linter.unusedVariables false
def formTy:Nat→Ty
 |0=> .stop
 |n+1=> .struct [.int .i64,termTy (n+1),.slice 6 88 (formTy n)]
theorem LV:∀(n m:Nat),m≤2*n→(formTy n).dp m=true
 |0,m,h=>by
         have:m=0:=by omega
         subst this;rfl
 |n+1,0,_=>rfl
 |n+1,1,_=>by simp [formTy,Ty.dp,dpL]
 |n+1,m+2,h=>by
  have:=LV n m (by omega)
  have ae:=yT (n+1) (m+1) (by omega)
  simp only [formTy,Ty.dp,dpL,this,ae,Bool.and_true]
theorem S9{P:Program}{t s r q:TypeId}(ad:∀y z,tyOk P (.struct [.int .i64,y,z]) t=(tyOk P y r&&(tyOk P z s&&true)))(ae:∀y,tyOk P (.slice 6 88 y) s=tyOk P y t)(ax:∀n,tyOk P (termTy n) r=true):∀n,tyOk P (formTy n) t=true
 |0=>rfl
 |n+1=>by rw [formTy,ad,ae,S9 (q:=q) ad ae ax n,ax];rfl
theorem Ta{P:Program}{t s r q:TypeId}(ad:∀y z,tyOk P (.struct [.int .i64,y,z]) t=(tyOk P y r&&(tyOk P z s&&true)))(ae:∀y,tyOk P (.slice 6 88 y) s=tyOk P y t)
  (ax:∀y,tyOk P (.struct [.int .i64,.int .i64,.str,y]) r=(tyOk P y q&&true)) (aZ:∀y,tyOk P (.slice 4 56 y) q=tyOk P y r) (an:decide (t<P.types.size)=true):qC P formTy t:=
 ⟨fun n=>LV n n (by omega),S9 (q:=q) ad ae (GL ax aZ),of_decide_eq_true an,fun n=>by cases n<;>rfl⟩
theorem LW:∀(n:Nat) {x:List D},Wt (formTy n) x→∃t:Fm,x=t.cells∧t.bO
 |0,x,h=>h.elim
 |n+1,x,h=>by
  obtain ⟨a,b,rfl,aA,c,d,rfl,aj,g,i,rfl,bx,rfl⟩:=h
  obtain ⟨op,rfl,dj⟩:=yS aA
  obtain ⟨t,rfl,aG⟩:=vG (n+1) aj
  obtain ⟨es,rfl,_,an,ku⟩:=bx
  obtain ⟨ks,rfl,dL⟩:=oh Fm.cells Fm.bO es fun x ah=>LW n (ku x ah).2
  refine ⟨.mk op t false ks,?_,.mk _ _ _ _ dj aG (by simpa using Nat.le_trans an (by omega)) dL⟩
  simp [Fm.cells,Fm.jG,bM,Tm.mO]
theorem ae8{n:Nat}{d:D}(h:vD (formTy n) d):∃t:Fm,d=t.d∧t.bO:=by
 cases n with
 |zero=>exact (h:False).elim
 |succ n=>
  obtain ⟨aD,rfl,h⟩:=h
  obtain ⟨t,rfl,aG⟩:=LW (n+1) h
  exact ⟨t,rfl,aG⟩
end Go.Am
namespace Go.Am
set_option linter.unusedVariables false
structure a9 where
 name:ByteArray
 e:Tm
def a9.cells(d:a9):List D:=[aI d.name,J d.e.op,J d.e.num,aI d.e.name,bM 4 d.e.nl (Tm.rows d.e.kids)]
def a9.d(d:a9):D:= .agg d.cells
def aH(l:List a9):D:= .aE 5 (l.map a9.cells)
def a9.bO(d:a9):Prop:=d.name.size≤140737488351232∧d.e.bO
section
variable{l:List a9}{i:Nat}{d:a9}
theorem eH(h:l[i]?=some d):a3 5 (aH l) (J (i:Int))=some d.cells:=by simp [aH,h]
theorem dG(l:List a9):lenP (aH l)=some (J l.length):=by simp [aH]
@[simp] theorem a9.ae9 (d:a9):aX true 5 0 d.cells=some d.d:=rfl
@[simp] theorem a9.g3 (d:a9):aX true 4 1 d.cells=some d.e.d:=by rw [Tm.h1];rfl
@[simp] theorem a9.fJ (d:a9):aX false 1 0 d.cells=some (aI d.name):=rfl
@[simp] theorem a9.agg (d:a9):aK 5 d.d=true:=by unfold a9.d a9.cells;simp
@[simp] theorem a9.aP (d:a9):aa d.d 0=aI d.name:=rfl
@[simp] theorem a9.bc (d:a9):aa d.d 1=J d.e.op:=rfl
@[simp] theorem a9.bm (d:a9):aa d.d 2=J d.e.num:=rfl
@[simp] theorem a9.bB (d:a9):aa d.d 3=aI d.e.name:=rfl
@[simp] theorem a9.cm (d:a9):aa d.d 4=bM 4 d.e.nl (Tm.rows d.e.kids):=rfl
end
def cO(l:List a9)(x:ByteArray):Option Nat:=l.findIdx? (fun d=>decide (d.name=x))
theorem LX{l:List a9}{x:ByteArray}{i:Nat}(h:cO l x=some i):∃d,l[i]?=some d∧d.name=x∧i<l.length:=by
 obtain ⟨ad,ae,_⟩:=List.findIdx?_eq_some_iff_getElem.1 h
 exact ⟨_,List.getElem?_eq_getElem ad,by simpa using ae,ad⟩
def cG(l:List Nat):D:= .aE 1 (l.map fun(i:Nat)=>[J (i:Int)])
theorem r5{l:List Nat}{i k:Nat}(h:l[i]?=some k):a3 1 (cG l) (J (i:Int))=some [J (k:Int)]:=by simp [cG,h]
theorem nA(l:List Nat):lenP (cG l)=some (J l.length):=by simp [cG]
def gu(l:List (List Nat)):D:= .aE 1 (l.map fun x=>[cG x])
theorem afa{l:List (List Nat)}{i:Nat}{k:List Nat}(h:l[i]?=some k):a3 1 (gu l) (J (i:Int))=some [cG k]:=by simp [gu,h]
def eI(M:List (Value×D))(S:List Nat):Prop:=rZ M∧∀i:Nat,getI M (i:Int)=if i∈S then some (ar true) else none
theorem eI.nil:eI [] []:=⟨by(intro e he;cases he),fun i=>rfl⟩
theorem eI.look{M:List (Value×D)}{S:List Nat}(h:eI M S){i:Nat}{z:Value}:lookP (.int .i64) (.bool false) false M (J (i:Int))=some (ar (decide (i∈S))):=by
 rw [aeW h.1,h.2 i]
 by_cases af:i∈S<;>simp [af,zeroD]
theorem eI.put{M:List (Value×D)}{S:List Nat}(h:eI M S)(i:Nat):∃dF,o4 (.int .i64) M (J (i:Int)) (ar true)=some dF∧eI dF (if i∈S then S else S++[i]):=by
 obtain ⟨dF,ad,ae,ax,_⟩:=aeX h.1 (i:Int) (ar true)
 refine ⟨dF,ad,ae,fun j=>?_⟩
 rw [ax,h.2]
 by_cases aF:j=i
 ·subst aF;by_cases af:j∈S<;>simp [af]
 ·have:¬((j:Int)=(i:Int)):=by omega
  by_cases af:i∈S<;>simp [this,af,aF]
theorem eI.mem{M:List (Value×D)}{S T:List Nat}(h:eI M S)(jR:∀x,x∈S↔x∈T):eI M T:=⟨h.1,fun i=>by rw [h.2];simp only [jR i]⟩
end Go.Am
namespace Go.Am
set_option linter.unusedVariables false
def tN(n:Nat):Ty:= .slice 5 72 (.struct [.str,termTy n])
theorem Tb(n:Nat):∀m,m≤n→(tN n).dp m=true
 |0,_=>rfl
 |1,_=>by simp [tN,Ty.dp]
 |m+2,h=>by
  have:=yT n m (by omega)
  have:=yT n (m+1) (by omega)
  have ae:Ty.dp m .str=true:=tM m .str rfl
  simp only [tN,Ty.dp,dpL, *,Bool.and_true]
theorem afb{P:Program}{t r q:TypeId}(ad:∀y,tyOk P (.slice 5 72 (.struct [.str,y])) t=(tyOk P y r&&true))
  (ax:∀y,tyOk P (.struct [.int .i64,.int .i64,.str,y]) r=(tyOk P y q&&true)) (aZ:∀y,tyOk P (.slice 4 56 y) q=tyOk P y r) (an:decide (t<P.types.size)=true):qC P tN t:=
 ⟨fun n=>Tb n n (Nat.le_refl _),fun n=>by rw [tN,ad,GL ax aZ n];rfl,of_decide_eq_true an,fun n=>rfl⟩
theorem Tc{n:Nat}{x:List D}(h:Wt (.struct [.str,termTy n]) x):∃d:a9,x=d.cells∧d.bO:=by
 obtain ⟨a,b,rfl,aA,c,e,rfl,aj,rfl⟩:=h
 obtain ⟨s,rfl,aB⟩:=GH aA
 obtain ⟨t,rfl,aG⟩:=vG n aj
 exact ⟨⟨s,t⟩,by simp [a9.cells,Tm.mO],aB,aG⟩
end Go.Am
