/- From what a call is handed to data, and from an answer to the row. No condition. -/
import Derived.Test.YthnecpgodmolaaaGreatDoorEngC
import Derived.ProofKit
import Derived.OpenShut
import Derived.KernelRfl
import Derived.Deep.DeepHandedRow
import Derived.Lib.LaidTab
import Derived.Test.YthnecpgodmolaaaGreatDoorEngS
set_option linter.all false
set_option linter.unnecessarySimpa false
namespace Go.Am
open Go.ChangeShapes Go.WideShapes Go.ChangeAt Go.RowKit
inductive fw where
 |bool
 |int (k:IntKind)
 |str
 |slice (k bytes:Nat) (e:fw)
 |arr (n:Nat) (e:fw)
 |struct (di:List fw)
 |stop
mutual
def nk:fw->List D->Prop
 | .bool,aO=>∃b,aO=[ay b]| .int k,aO=>∃n,aO=[.val (.int k n)]/\(Lit.int k n).wf=true| .str,aO=>∃s,aO=[aC s]/\s.size<=140737488351232| .slice k EY e,aO=>∃es:List (List D),aO=[.ax k es]/\es.length<=maxLen/\es.length*EY<=140737488351232/\∀x∈es,x.length=k/\nk e x| .arr n e,aO=>∃jj:List (List D),aO=jj.flatten/\jj.length=n/\∀x∈jj,nk e x| .struct di,aO=>KW di aO| .stop,_=>False
def KW:List fw->List D->Prop
 |[],aO=>aO=[]|f::di,aO=>∃a b,aO=a++b/\nk f a/\KW di b
end
mutual
def rd{H:Type}:fw->DataW H->Option (List D)
 | .bool,.lit (.bool b)=>some [ay b]| .int _,.lit (.int k n)=>some [.val (.int k n)]| .str,.lit (.string l)=>some [aC ⟨l.toArray⟩]| .slice k _ _,.nil=>some [.ax k []]| .slice k _ e,.slice es _=>(es.mapM (rd e)).map λxs=>[.ax k xs]| .arr _ e,.agg es=>(es.mapM (rd e)).map List.flatten| .struct di,.agg es=>KX di es|_,_=>none
def KX{H:Type}:List fw->List (DataW H)->Option (List D)
 |[],[]=>some []|f::di,d::aO=>(rd f d).bind λa=>(KX di aO).map (a++·)|_,_=>none
end
mutual
def eC(P:Program):fw->TypeId->Bool
 | .bool,t=>match P.underlying t with|some .bool=>true|_=>false
 | .int k,t=>match P.underlying t with|some (.int bq)=>decide (k=bq)|_=>false
 | .str,t=>match P.underlying t with|some .string=>true|_=>false
 | .stop,_=>true| .slice k EY e,t=>match P.underlying t with|some (.slice dp)=>decide (P.cellsOf dp=k)&&decide (0<k)&&decide (P.bytesOf dp=EY)&&eC P e dp|_=>false
 | .arr n e,t=>match P.underlying t with|some (.array fU dp)=>decide (n=fU)&&decide (P.cellsOf t=n*P.cellsOf dp)&&eC P e dp|_=>false
 | .struct di,t=>match P.underlying t with|some (.struct Q5)=>ym P di Q5.toList 0 (P.cellsOf t)|_=>false
def ym(P:Program):List fw->List Field->Nat->Nat->Bool
 |[],[],off,n=>decide (off=n)|f::di,x::xs,off,n=>decide (x.offset=off)&&eC P f x.type&&ym P di xs (off+P.cellsOf x.type) n|_,_,_,_=>false
end
mutual
def fw.fx:Nat->fw->Bool
 |0,_=>true|_+1,.stop=>false|n+1,.slice _ _ e=>e.fx n|n+1,.arr _ e=>e.fx n|n+1,.struct di=>qe n di|_+1,_=>true
def qe:Nat->List fw->Bool
 |_,[]=>true|n,f::di=>f.fx n&&qe n di
end
def Rel(m:Mem):List D->List Value->Prop
 |[],[]=>True|d::aO,v::vs=>D.one d=true/\dv m d v/\Rel m aO vs|_,_=>False
def Rel.len{m:Mem}:∀{aO:List D}{vs:List Value},Rel m aO vs->vs.length=aO.length
 |[],[],_=>rfl|_::_,_::_,h=>by simp[Rel.len h.2.2]|[],_::_,h=>h.elim|_::_,[],h=>h.elim
def Rel.at{m:Mem}:∀{aO:List D}{vs:List Value},Rel m aO vs->∀(i:Nat)(d:D),aO[i]?=some d->∃v,vs[i]?=some v/\D.one d=true/\dv m d v
 |[],[],_,i,d,h=>by simp at h|x::aO,v::vs,h,0,d,aB=>by simp at aB;subst aB;exact⟨v,rfl,h.1,h.2.1⟩|_::_,_::_,h,i+1,d,aB=>by simpa using Rel.at h.2.2 i d (by simpa using aB)|[],_::_,h,_,_,_=>h.elim|_::_,[],h,_,_,_=>h.elim
def Rel.append{m:Mem}:∀{aO:List D}{vs:List Value}{AK:List D}{Q6:List Value},Rel m aO vs->Rel m AK Q6->Rel m (aO++AK) (vs++Q6)
 |[],[],_,_,_,bx=>bx|_::_,_::_,_,_,h,bx=>⟨h.1,h.2.1,Rel.append h.2.2 bx⟩|[],_::_,_,_,h,_=>h.elim|_::_,[],_,_,h,_=>h.elim
def Rel.one{m:Mem}:∀{aO:List D}{vs:List Value},Rel m aO vs->aO.all D.one=true
 |[],[],_=>rfl|_::_,_::_,h=>by simp only[xbO,h.1,Rel.one h.2.2,Bool.and_self]|[],_::_,h=>h.elim|_::_,[],h=>h.elim
def Q7{α:Type}:∀(n:Nat)(Q:Nat->α->Prop),(∀i,i<n->∃y,Q i y)->∃dk:List α,dk.length=n/\∀(i:Nat)(y:α),dk[i]?=some y->Q i y
 |0,_,_=>⟨[],rfl,by intro i y h;simp at h⟩
 |n+1,Q,h=>by obtain⟨dk,ab,af⟩:=Q7 n (λi=>Q (i+1)) λi ah=>h (i+1) (by omega);obtain⟨y,aQ⟩:=h 0 (by omega);refine⟨y::dk,by simp[ab],?_⟩;intro i z bD;cases i with|zero=>simp at bD;subst bD;exact aQ|succ i=>exact af i z (by simpa using bD)
def Q8{α β:Type}(f:α->Option β):∀(l:List α)(r:List β),r.length=l.length->(∀(i:Nat)(x:α)(y:β),l[i]?=some x->r[i]?=some y->f x=some y)->l.mapM f=some r
 |[],[],_,_=>rfl|x::l,y::r,aq,h=>by have au:=h 0 x y rfl rfl;have ih:=Q8 f l r (by simpa using aq) λi x y ag aQ=>h (i+1) x y (by simpa using ag) (by simpa using aQ);simp[List.mapM_cons,au,ih]|[],_::_,h,_=>by simp at h|_::_,[],h,_=>by simp at h
section
variable{H:Type}{enc:TypeId×Value->H}{P:Program}{w:World}{base:Nat}{spare:Nat->Bool}{held:Bool}
def pieces{m:Mem}{c:Nat}{cs:List Value}:∀(jj:List (List D)) (o:Nat),(∀(i:Nat)(x:List D),jj[i]?=some x->Rel m x ((cs.drop (o+i*c)).take c))->(o+jj.length*c=cs.length)->Rel m jj.flatten (cs.drop o)
 |[],o,_,aq=>by have:cs.drop o=[]:=xcg (by simp at aq;omega);rw[this];trivial
 |x::r,o,h,aq=>by
  have du:o+c+r.length*c=cs.length:=by simp only[xap,xaR]at aq;omega
  have au:=h 0 x rfl;have ih:=pieces (m:=m) (cs:=cs) (c:=c) r (o+c) (λi x ag=>by have:=h (i+1) x (by simpa using ag);rw[show o+c+i*c=o+(i+1)*c by rw[xaR];omega];exact this) du
  have e:cs.drop o=(cs.drop o).take c++cs.drop (o+c):=by
   conv=>lhs;rw[<-xbu c (cs.drop o)]
   rw[List.drop_drop]
  rw[e,List.flatten_cons];refine Rel.append ?_ ih;simpa using au
def Q9{H:Type}{P:Program}{e:TypeId}:∀{l:List (DataW H)} {x:DataW H} {y:Nat},x∈l->y∈x.weights P e->y∈DataW.weightsAll P e l
 |a::r,x,y,ag,aQ=>by
  simp only[DataW.weightsAll,xas];rcases xao.1 ag with rfl|ag
  .exact .inl aQ
  exact .inr (Q9 ag aQ)
def YI(m:Mem)(hm:∀b o,w.heap[b]?=some o->m b=some o):∀(n:Nat)(ty:fw)(t:TypeId)(cs:List Value)(x:DataW H×List MemPlace),eC P ty t=true->ty.fx n=true->(x.1.weights P t).all (·<=reachBytes)=true->DataW.trod enc P w base spare held n t cs=some x-> ∃aO,rd ty x.1=some aO/\nk ty aO/\Rel m aO cs:=by
 intro n
 induction n with
 |zero=>intro ty t cs x _ _ _ h;simp[DataW.trod]at h
 |succ n ih=>
  intro ty t cs x fT me ky h;cases ty with
  |stop=>simp[fw.fx]at me
  |bool=>
   simp only[eC]at fT;split at fT;.obtain⟨b,rfl,rfl⟩:=DataW.trod_bool ‹_› h;exact⟨[ay b],rfl,⟨b,rfl⟩,rfl,.val _,trivial⟩
   cases fT
  |int k=>
   simp only[eC]at fT;split at fT;.have:=xba fT;subst this;obtain⟨z,rfl,rfl,hw⟩:=DataW.trod_int ‹_› h;exact⟨[.val (.int k z)],rfl,⟨z,rfl,hw⟩,rfl,.val _,trivial⟩
   cases fT
  |str=>
   simp only[eC]at fT;split at fT
   .obtain⟨s,rfl,rfl,hw⟩:=DataW.trod_string ‹_› h;refine⟨[aC s],?_,⟨s,rfl,?_⟩,rfl,.val _,trivial⟩;.simp[rd]
    simp only[DataW.weights,xbO,List.all_nil,xbs,xaG]at ky;simp only[reachBytes]at ky;simpa using ky
   cases fT
  |slice k EY e=>
   simp only[eC]at fT;split at fT
   .rename_i dp hu;simp only[xam,xaG]at fT;obtain⟨⟨⟨ak,EZ⟩,xH⟩,he⟩:=fT;subst ak;subst xH;simp only[fw.fx]at me;rcases DataW.trod_slice hu h with⟨rfl,rfl⟩|⟨a,len,cap,elems,rest,fU,aM,rfl,rfl,aj,VY,xD,e3,E0,_,_⟩
    .exact⟨[.ax _ []],rfl,⟨[],rfl,by simp,by simp,by simp⟩,rfl,.m9 _ _ _,trivial⟩
    cases aM;simp only[DataW.weights,hu,xbO,List.all_append,xam,xaG,xaV,reachBytes]at ky;obtain⟨vC,OS,_⟩:=ky;have each:∀i,i<len->∃aO,∃x,elems[i]?=some x/\rd e x.1=some aO/\nk e aO/\∃c,w.cells? base (a.add (i*P.cellsOf dp)) (P.cellsOf dp)=some c/\Rel m aO c:=by
     intro i ah;have ab:=E0 i ah;rw[xab (by omega)]at ab;obtain⟨c,af,aw⟩:=Option.bind_eq_some_iff.1 ab;have Ra:((elems[i]'(by omega)).1.weights P dp).all (·<=reachBytes)=true:=by refine xaz.2 λy aQ=>xaz.1 OS y ?_;exact Q9 (xax.2 ⟨_,xaX _,rfl⟩) aQ
     obtain⟨aO,aW,a2,bc⟩:=ih e dp c _ he me Ra aw;exact⟨aO,_,xab (by omega),aW,a2,c,af,bc⟩
    obtain⟨es,aq,mn⟩:=Q7 len _ each;have Rb:∀(i:Nat)(aO:List D),es[i]?=some aO->aO.length=P.cellsOf dp:=by intro i aO ah;obtain⟨_,_,_,_,c,ao,av⟩:=mn i aO ah;rw[<-av.len];exact(World.cells?_some ao).2.1
    refine⟨[.ax (P.cellsOf dp) es],?_,⟨es,rfl,by omega,?_,?_⟩,rfl,?_,trivial⟩
    .simp only[rd];rw[Q8 (rd e) (elems.map (·.1)) es (by simp;omega)];.rfl
     intro i x y ag aQ;obtain⟨z,ab,af,_⟩:=mn i y aQ;simp[ab]at ag;rw[<-ag];exact af
    .have:es.length<=elems.length+rest.length:=by omega
     exact xbV (xaA _ this) (xba vC)
    .intro x ag;obtain⟨i,ah,rfl⟩:=List.getElem_of_mem ag;obtain⟨_,_,_,a2,_⟩:=mn i _ (xab ah);exact⟨Rb i _ (xab ah),a2⟩
    by_cases au:len=0;.subst au;have:es=[]:=xaJ aq;subst this;exact .m9 _ _ _
    have qO:∀(i:Nat)(aO:List D),es[i]?=some aO->∀j,j<P.cellsOf dp->w.cell? ((a.add (i*P.cellsOf dp)).add j)≠none:=by intro i aO ah j aN;obtain⟨_,_,_,_,c,ao,av⟩:=mn i aO ah;obtain⟨_,bw,bz⟩:=World.cells?_some ao;rw[bz j aN,xab (by omega)];simp
    have tQ:=qO 0 _ (xab (by omega)) 0 EZ;simp only[Nat.zero_mul,Addr.add,xaD]at tQ;obtain⟨b,off,spot⟩:=a;unfold World.cell? at tQ;cases bJ:w.heap[b]? with
    |none=>simp[bJ]at tQ
    |some o=>
     cases o with
     |cells vs T eE=>
      simp only[bJ]at tQ;have akM:spot=none:=by cases spot with|none=>rfl|some s=>simp at tQ
      subst akM;have cellAt:∀q,w.cell? ⟨b,q,none⟩=vs[q]?:=by intro q;simp[World.cell?,bJ]
      have akN:∀q,(⟨b,off,none⟩:Addr).add q=⟨b,off+q,none⟩:=by intro q;unfold Addr.add;split<;>simp_all
      have akO:∀o q,(⟨b,o,none⟩:Addr).add q=⟨b,o+q,none⟩:=by intro o q;unfold Addr.add;split<;>simp_all
      have key:∀(i:Nat)(aO:List D)(j:Nat)(c:D),es[i]?=some aO->aO[j]?=some c->∃v,vs[off+i*P.cellsOf dp+j]?=some v/\dv m c v:=by
       intro i aO j c ah aN;obtain⟨_,_,_,_,bk,ao,av⟩:=mn i aO ah;obtain⟨_,bw,bz⟩:=World.cells?_some ao;obtain⟨v,eX,_,ei⟩:=av.at j c aN;have cM:j<P.cellsOf dp:=by rw[<-Rb i aO ah];exact(xae.1 aN).1
       refine⟨v,?_,ei⟩;rw[<-eX,<-bz j cM,akN,akO,cellAt]
      rw[<-aq];refine .ax _ es b off cap vs T eE (hm _ _ bJ) ?_ (by omega) (λi j=>(vs[off+i*P.cellsOf dp+j]?).getD undef) ?_ ?_;.intro x ag;obtain⟨i,ah,rfl⟩:=List.getElem_of_mem ag;obtain⟨_,_,_,_,_,_,av⟩:=mn i _ (xab ah);exact⟨Rb i _ (xab ah),av.one⟩
      .intro i aO j c ah aN;obtain⟨v,ab,_⟩:=key i aO j c ah aN;simp[ab]
      intro i aO j c ah aN;obtain⟨v,ab,af⟩:=key i aO j c ah aN;simpa[ab]using af
     |_=>simp[bJ]at tQ
   cases fT
  |arr k e=>
   simp only[eC]at fT;split at fT
   .rename_i bq dp hu;simp only[xam,xaG]at fT;obtain⟨⟨ak,ao⟩,he⟩:=fT;subst ak;obtain⟨xs,fU,aM,rfl,b6,lg,E0⟩:=DataW.trod_array hu h;cases aM;simp only[fw.fx]at me;simp only[DataW.weights,hu]at ky;have each:∀i,i<k->∃aO,∃x,xs[i]?=some x/\rd e x.1=some aO/\nk e aO/\Rel m aO ((cs.drop (i*P.cellsOf dp)).take (P.cellsOf dp)):=by
     intro i ah;have ab:=E0 i ah;rw[xab (by omega)]at ab;have Ra:((xs[i]'(by omega)).1.weights P dp).all (·<=reachBytes)=true:=by refine xaz.2 λy aQ=>xaz.1 ky y ?_;exact Q9 (xax.2 ⟨_,xaX _,rfl⟩) aQ
     obtain⟨aO,aW,a2,bc⟩:=ih e dp _ _ he me Ra ab;exact⟨aO,_,xab (by omega),aW,a2,bc⟩
    obtain⟨es,aq,mn⟩:=Q7 k _ each;refine⟨es.flatten,?_,⟨es,rfl,aq,?_⟩,?_⟩
    .simp only[rd];rw[Q8 (rd e) (xs.map (·.1)) es (by simp;omega)];.rfl
     intro i x y ag aQ;obtain⟨z,ab,af,_⟩:=mn i y aQ;simp[ab]at ag;rw[<-ag];exact af
    .intro x ag;obtain⟨i,ah,rfl⟩:=List.getElem_of_mem ag;obtain⟨_,_,_,a2,_⟩:=mn i _ (xab ah);exact a2
    have:=pieces (m:=m) (c:=P.cellsOf dp) (cs:=cs) es 0 (λi x ag=>by obtain⟨_,_,_,_,bc⟩:=mn i x ag;simpa using bc) (by rw[aq];omega);simpa using this
   cases fT
  |struct di=>
   simp only[eC]at fT;split at fT
   .rename_i Q5 hu;obtain⟨xs,fU,aM,rfl,b6,lg,E0⟩:=DataW.trod_struct hu h;cases aM;simp only[fw.fx]at me;simp only[DataW.weights,hu]at ky;have go:∀(di:List fw)(gs:List Field)(dk:List (DataW H×List MemPlace)) (off:Nat),ym P di gs off (P.cellsOf t)=true->qe n di=true->(DataW.weightsEach P (gs.map (·.type)) (dk.map (·.1))).all (·<=reachBytes)=true->dk.length=gs.length->(∀(i:Nat)(f:Field),gs[i]?=some f->DataW.trod enc P w base spare held n f.type ((cs.drop f.offset).take (P.cellsOf f.type))=dk[i]?)-> ∃aO,KX di (dk.map (·.1))=some aO/\KW di aO/\Rel m aO (cs.drop off):=by
     intro di
     induction di with
     |nil=>intro gs dk off ab E1 vC af aw;cases gs with|nil=>simp only[ym,xaG]at ab;have:dk=[]:=xaJ af;subst this;refine⟨[],rfl,rfl,?_⟩;rw[xcg (by omega)];trivial|cons _ _=>simp[ym]at ab
     |cons f di akP=>
      intro gs dk off ab E1 vC af aw;cases gs with
      |nil=>simp[ym]at ab
      |cons g gs=>
       cases dk with
       |nil=>simp at af
       |cons y dk=>
        simp only[ym,xam,xaG]at ab;obtain⟨⟨aL,aX⟩,bL⟩:=ab;simp only[qe,xam]at E1;simp only[xaB,DataW.weightsEach,List.all_append,xam]at vC;obtain⟨a,an,bb,b4⟩:=ih f g.type _ y aX E1.1 vC.1 (aw 0 g rfl);obtain⟨b,eI,gW,kz⟩:=akP gs dk _ bL E1.2 vC.2 (by simpa using af) (λi f bd=>by simpa using aw (i+1) f (by simpa using bd));refine⟨a++b,by simp[KX,an,eI],⟨a,b,rfl,bb,gW⟩,?_⟩;have e:cs.drop off=(cs.drop off).take (P.cellsOf g.type)++cs.drop (off+P.cellsOf g.type):=by
         conv=>lhs;rw[<-xbu (P.cellsOf g.type) (cs.drop off)]
         rw[List.drop_drop]
        rw[e];refine Rel.append ?_ kz;rw[<-aL];exact b4
    obtain⟨aO,aW,a2,bc⟩:=go di Q5.toList xs 0 fT me ky (by simpa using lg) (λi f bd=>E0 i f (by simpa using bd));exact⟨aO,aW,a2,by simpa using bc⟩
   cases fT
end
open Go.ChangeShapes Go.WideShapes Go.ChangeAt Go.RowKit
def E2:fw->D->Prop
 | .struct di,d=>∃aO,d= .agg aO/\KW di aO| .arr _ _,_=>False|ty,d=>nk ty [d]
def KY{H:Type}(ty:fw)(x:DataW H)(d:D):Prop:=match ty with| .struct di=>∃aO,d= .agg aO/\rd (.struct di) x=some aO|ty=>rd ty x=some [d]
abbrev sJ:=Nat->fw
mutual
def uu:fw->Bool
 | .stop=>false| .slice _ _ e=>uu e| .arr _ e=>uu e| .struct di=>KZ di|_=>true
def KZ:List fw->Bool
 |[]=>true|f::di=>uu f&&KZ di
end
mutual
def yn:∀(n:Nat)(t:fw),uu t=true->t.fx n=true
 |0,t,_=>by cases t<;>rfl
 |n+1,.stop,h=>by simp[uu]at h|n+1,.slice _ _ e,h=>by rw[uu]at h;rw[fw.fx];exact yn n e h|n+1,.arr _ e,h=>by rw[uu]at h;rw[fw.fx];exact yn n e h|n+1,.struct di,h=>by rw[uu]at h;rw[fw.fx];exact YJ n di h|n+1,.bool,_=>rfl|n+1,.int _,_=>rfl|n+1,.str,_=>rfl
def YJ:∀(n:Nat)(t:List fw),KZ t=true->qe n t=true
 |n,[],_=>by cases n<;>rfl
 |n,f::di,h=>by rw[KZ,xam]at h;rw[qe,yn n f h.1,YJ n di h.2];rfl
end
def akQ:fw->Bool
 | .arr _ _=>false|_=>true
structure uv(P:Program)(F:sJ)(t:TypeId):Prop where
 deep:∀n,(F n).fx n=true
 ok:∀n,eC P (F n) t=true
 lt:t<P.types.size
 akR:∀n,akQ (F n)=true
def Bn(P:Program):List sJ->List TypeId->Prop
 |[],[]=>True|F::Fs,t::ts=>uv P F t/\Bn P Fs ts|_,_=>False
def Bn.lt{P:Program}:∀{Fs:List sJ}{ts:List TypeId},Bn P Fs ts->∀t∈ts,t<P.types.size
 |[],[],_,t,h=>by simp at h
 |F::Fs,u::ts,h,t,aK=>by
  rcases xao.1 aK with rfl|aK;.exact h.1.lt
  exact Bn.lt h.2 t aK
 |[],_::_,h,_,_=>h.elim|_::_,[],h,_,_=>h.elim
def rb{H:Type}:List sJ->List (DataW H)->List D->Prop
 |[],[],[]=>True|F::Fs,x::xs,d::aO=>(∃n,KY (F n) x d/\E2 (F n) d)/\rb Fs xs aO|_,_,_=>False
section
variable{H:Type}{enc:TypeId×Value->H}{P:Program}{w:World}
def K0{m:Mem}{aO:List D}{v:Value}(h:Rel m aO [v]):∃d,aO=[d]/\dv m d v:=by cases aO with|nil=>exact h.elim|cons d r=>cases r with|nil=>exact⟨d,rfl,h.2.1⟩|cons _ _=>exact h.2.2.elim
def akS{m:Mem}{aO:List D}{cs:Array Value}(h:Rel m aO cs.toList):dv m (.agg aO) (.agg cs):=by
 refine .agg _ _ (by simpa using h.len) ?_;intro i c v ao a6;obtain⟨u,ab,_,af⟩:=h.at i c ao;have:cs[i]?=some u:=by simpa using ab
 rw[a6]at this;cases this;exact af
def akT(m:Mem)(hm:∀(b:Nat)(o:Obj),w.heap[b]?=some o->m b=some o){r:Reach}{fI base:Nat}{sp:Nat->Bool}{held:Bool}{F:sJ}{t:TypeId}{v:Value}{x:DataW H}{jS:List MemPlace} (ig:uv P F t) (ky:(x.weights P t).all (·<=reachBytes)=true) (oD:Value.okWide P w r fI t v) (h:DataW.Trod enc P w base sp held t v x jS):∃d n,KY (F n) x d/\E2 (F n) d/\dv m d v:=by
 obtain⟨n,aM⟩:=h;have fT:=ig.ok n;have E3:=ig.akR n;obtain⟨aO,ab,af,aw⟩:=YI m hm n (F n) t _ _ fT (ig.deep n) ky aM
 suffices h:∃d,KY (F n) x d/\E2 (F n) d/\dv m d v from let⟨d,a⟩:=h;⟨d,n,a⟩
 clear ig aM;generalize F n=ty at*;cases ty with
 |bool=>
  simp only[eC]at fT;split at fT;.obtain⟨b,rfl⟩:=okWide_bool ‹_› oD;obtain⟨d,rfl,aB⟩:=K0 aw;exact⟨d,ab,af,aB⟩
  cases fT
 |int k=>
  simp only[eC]at fT;split at fT;.obtain⟨b,rfl⟩:=okWide_int ‹_› oD;obtain⟨d,rfl,aB⟩:=K0 aw;exact⟨d,ab,af,aB⟩
  cases fT
 |str=>
  simp only[eC]at fT;split at fT;.obtain⟨b,rfl⟩:=okWide_string ‹_› oD;obtain⟨d,rfl,aB⟩:=K0 aw;exact⟨d,ab,af,aB⟩
  cases fT
 |stop=>exact(by simpa[nk]using af:False).elim
 |slice k EY e=>
  simp only[eC]at fT;split at fT;.obtain⟨a,l,c,rfl⟩:=okWide_slice ‹_› oD;obtain⟨d,rfl,aB⟩:=K0 aw;exact⟨d,ab,af,aB⟩
  cases fT
 |arr n e=>cases E3
 |struct di=>
  simp only[eC]at fT;split at fT;.obtain⟨cs,rfl,_⟩:=okWide_struct ‹_› oD;exact⟨.agg aO,⟨aO,rfl,ab⟩,⟨aO,rfl,af⟩,akS aw⟩
  cases fT
def YK(m:Mem)(hm:∀(b:Nat)(o:Obj),w.heap[b]?=some o->m b=some o){r:Reach}{fI base:Nat}{sp:Nat->Bool}{held:Bool}:∀{Fs:List sJ}{ts:List TypeId}{vs:List Value}{xs:List (DataW H)} {jS:List MemPlace},Bn P Fs ts->(DataW.weightsEach P ts xs).all (·<=reachBytes)=true->(∀(j:Nat) t v,ts[j]?=some t->vs[j]?=some v->Value.okWide P w r fI t v)->DataW.TrodAll enc P w base sp held ts vs xs jS-> ∃aO,rb Fs xs aO/\xK m aO vs
 |[],[],vs,xs,jS,_,_,_,h=>by obtain⟨rfl,rfl,rfl⟩:=trodAll_nil h;exact⟨[],trivial,rfl,by intro i d v aB;simp at aB⟩
 |F::Fs,t::ts,vs,xs,jS,fT,ky,oD,h=>by obtain⟨v,Q6,x,Jq,p,q,rfl,rfl,rfl,ab,af⟩:=trodAll_cons h;simp only[DataW.weightsEach,List.all_append,xam]at ky;obtain⟨d,n,d1,d2,d3⟩:=akT m hm fT.1 ky.1 (oD 0 t v rfl rfl) ab;obtain⟨aO,aL,bL⟩:=YK m hm fT.2 ky.2 (λj t v aK a6=>oD (j+1) t v (by simpa using aK) (by simpa using a6)) af;refine⟨d::aO,⟨⟨n,d1,d2⟩,aL⟩,by simpa using bL.1,?_⟩;intro i c u ao hu;cases i with|zero=>simp at ao hu;subst ao;subst hu;exact d3|succ i=>exact bL.2 i c u (by simpa using ao) (by simpa using hu)
 |[],_::_,_,_,_,h,_,_,_=>h.elim|_::_,[],_,_,_,h,_,_,_=>h.elim
def again{W mV:World}(hle:∀(b:Nat)(o:Obj),W.heap[b]?=some o->mV.heap[b]?=some o)(aq:laidOutB P=true)(hm:mapsRowed P=true) (bD:((List.range P.types.size).all λt=>match P.underlying t with|some (.slice e)=>decide (0<P.cellsOf e)|_=>true)=true) {sp:Nat->Bool}: ∀{ts:List TypeId}{vs:List Value}{aO:List (DataW H)} {jS:List MemPlace},(∀t∈ts,t<P.types.size)->DataW.TrodAll enc P W 0 (λ_=>true) true ts vs aO jS->(∀p∈jS,p.block<W.heap.size)->(∀p∈jS,sp p.block=true)->DataW.TrodAll enc P mV 0 sp true ts vs aO jS
 |[],[],[],_,_,h,_,_=>h
 |t::ts,v::vs,d::aO,_,aK,⟨p,q,⟨n,ab⟩,af,e⟩,cv,aG=>by
  refine⟨p,q,⟨n,?_⟩,again hle aq hm bD (λt h=>aK t (by simp[h])) af (λx ag=>cv x (by rw[e];exact List.mem_append_right _ ag)) (λx ag=>aG x (by rw[e];exact List.mem_append_right _ ag)),e⟩;refine DataW.trod_stays (kids_rows aq hm) (λ{t e} ab af=>slices_full_of P bD t e ab af) (λh=>by cases h) (aK t (by simp)) ab ?_ (λx ag=>aG x (by rw[e];exact xbP _ ag));intro x ag;have aj:=cv x (by rw[e];exact xbP _ ag);have bJ:mV.heap[x.block]?=W.heap[x.block]?:=by rw[xan aj];exact hle _ _ (xan aj)
  cases x with
  |cell b off=>show mV.cell? ⟨b,off,none⟩=W.cell? ⟨b,off,none⟩;unfold World.cell?;rw[show mV.heap[b]?=W.heap[b]? from bJ]
  |map b=>exact bJ
def K1(W:World):fJ:=⟨λ_=>none,W.os,W.output,W.heap.size⟩
def akU(W:World):sn (λb=>W.heap[b]?) (K1 W) W:=by refine⟨λb o h=>h,⟨λb o h=>by simp[K1]at h,rfl,rfl,xal _,?_⟩,λ_ _=>rfl⟩;intro b c t f aj ao;have:W.heap[b]?=none:=Array.getElem?_eq_none aj;rw[ao]at this;cases this
def akV{W mV:World}{cI:Mem}(hle:(show Mem fromλb=>W.heap[b]?).le cI)(h:sn cI (K1 W) mV):
  W.keptBut mV (λ_=>False)/\(∀a,mV.frozen? a=W.frozen? a)/\(∀(b:Nat)(o:Obj),W.heap[b]?=some o->mV.heap[b]?=some o):=by
 have bJ:∀(b:Nat)(o:Obj),W.heap[b]?=some o->mV.heap[b]?=some o:=λb o aj=>h.mem b o (hle b o aj);refine⟨⟨h.frame.quiet.os,h.frame.quiet.out,λi ah=>?_⟩,λa=>?_,bJ⟩
 .have ab:=xan ah;have af:=bJ i _ ab;rw[ab,af];split
  .rename_i aL aX;rw[aL]at aX;simp only[xaL,Obj.cells.injEq]at aX;obtain⟨rfl,rfl,rfl⟩:=aX;exact⟨rfl,rfl,rfl,λ_ _=>rfl⟩
  .rename_i aL aX;rw[aL]at aX;simp only[xaL,Obj.map.injEq]at aX;exact Or.inr ⟨aX.1.symm,aX.2.symm⟩
  rfl
 .unfold World.frozen?;cases aj:W.heap[a.block]? with
  |some o=>rw[bJ _ _ aj]
  |none=>
   have jy:W.heap.size<=a.block:=by refine Nat.le_of_not_lt λcv=>?_;rw[xan cv]at aj;cases aj
   cases gX:mV.heap[a.block]? with|none=>rfl|some o=>cases o with|cells c t f=>have:=h.frame.quiet.sa _ c t f jy gX;subst this;simp|_=>rfl
def akW{G:dn}{f:FuncId}{fn:Func}{s:ChangeSpec}{Fs:List sJ}{tr:TypeId}{W:World}{base:Nat}{args:Array Value}{aO gs:List (DataW H)}{before:List MemPlace} (aq:laidOutB P=true) (hm:mapsRowed P=true) (bD:((List.range P.types.size).all λt=>match P.underlying t with|some (.slice e)=>decide (0<P.cellsOf e)|_=>true)=true) (fT:Bn P Fs fn.params.toList) (AU:fn.resultTypes= #[tr]) (YL:P.underlying tr=some .bool) (YM:s.vars=[]) (aG:∀aO:List (DataW H),aO.length=Fs.length->s.fn H aO=⟨[.lit (.bool true)],aO,[]⟩) (hR:∀jj,rb Fs aO jj->eB P G f jj (·=ay true)) (c2:kp G (λb:Nat=>W.heap[b]?)) {YN:List TypeId} (akX:YN=[]) (ky:(DataW.weightsEach P (fn.params.toList++YN) (aO++gs)).all (·<=reachBytes)=true) (oD:∀(j:Nat) t v,fn.params[j]?=some t->args[j]?=some v->Value.okWide P W .any base t v) (Bo:DataW.Whole enc P fn.params.toList s.vars false W args.toList aO gs before):Calls P f args W λe mV=>∃v,e= .returned v/\s.post enc P fn false true false false W args v mV:=by
 have YO:=Bo;obtain⟨p,q,dy,hJ,rfl,K2,kX⟩:=Bo;rw[YM]at hJ;obtain⟨rfl,rfl⟩:=trodVars_none hJ;subst akX;rw[xaC,xaC]at ky;obtain⟨jj,d1,d3⟩:=YK (λb=>W.heap[b]?) (λb o h=>h) fT ky (λj t v aK a6=>oD j t v (by simpa using aK) (by simpa using a6)) dy;have ao:=(hR jj d1).run (λb=>W.heap[b]?) (K1 W) W args.toList c2 (akU W) d3;have b6:aO.length=Fs.length:=by
  have:∀(dF:List sJ)(aO:List (DataW H)) (jj:List D),rb dF aO jj->aO.length=dF.length:=by
   intro dF
   induction dF with
   |nil=>intro aO jj h;cases aO<;>cases jj<;>simp_all [rb]
   |cons y dF ih=>
    intro aO jj h;cases aO with
    |nil=>cases jj<;>simp[rb]at h
    |cons x aO=>cases jj with|nil=>simp[rb]at h|cons d jj=>simp[ih aO jj h.2]
  exact this _ _ _ d1
 refine ao.mono λe mV ⟨v,cI,r,he,av,hle,eb,a6⟩=>?_;subst av;have yo:v= .bool true:=by cases a6;rfl
 subst yo;obtain⟨cE,dz,g2⟩:=akV hle eb;have cv:=YO.lt;refine⟨_,he,?_⟩;have wu:=aG (aO++[]) (by simpa using b6);simp only[xaC]at wu;refine post_of_same (pa:=p) (pv:=[]) YO (λb sp aB=>?_) (λsp lq=>?_) (λsp lq=>?_) rfl (World.keptBut_mono (λ_ h=>h.elim) cE) dz (ok_one AU rfl (okWide_bool_mk YL _))
 .rw[xaC,wu,AU];exact trodAll_cons_mk (shut_bool YL true) trodAll_mk0
 .rw[xaC,wu];exact again g2 aq hm bD fT.lt dy (λx ag=>cv x (by simpa using ag)) (λx ag=>lq x (by simpa using ag))
 rw[xaC,wu,YM];rfl
def YP{W:World}:∀(laid:List (String×DataW Unit)) (gs:List (Nat×TypeId×fw×List D)) (jS:List MemPlace),DataW.LaidVars P W laid jS->gs.length=laid.length->(∀(i:Nat) x g,laid[i]?=some x->gs[i]?=some g->P.globalNamed x.1=some g.1/\(P.globals[g.1]?).map (·.type)=some g.2.1/\eC P g.2.2.1 g.2.1=true/\rd g.2.2.1 x.2=some g.2.2.2/\uu g.2.2.1=true/\(x.2.weights P g.2.1).all (·<=reachBytes)=true)-> ∀g∈gs,∃vs T eE,W.heap[g.1]?=some (.cells vs T eE)/\Rel (λb=>W.heap[b]?) g.2.2.2 vs.toList
 |[],[],_,_,_,_,g,cb=>by simp at cb
 |(nT,x)::laid,y::gs,jS,h,aq,ag,g,cb=>by
  obtain⟨lj,t,cs,fuel,p,q,ab,af,aw,a4,b7,_⟩:=h;rcases xao.1 cb with rfl|cb
  .obtain⟨bb,b4,cK,c3,c4,dc⟩:=ag 0 _ _ rfl rfl;have aL:=xaU (bb.symm.trans ab);subst aL;have aX:=xaU (b4.symm.trans af);subst aX;obtain⟨aO,eI,_,kz⟩:=YI (λb=>W.heap[b]?) (λb o h=>h) fuel _ _ _ _ cK (yn _ _ c4) dc a4;have bL:=xaU (c3.symm.trans eI);unfold World.var? at aw;rw[ab]at aw;simp only[Option.bind_some]at aw;split at aw
   .rename_i sb T eE bJ;cases aw;exact⟨_,T,eE,bJ,by rw[bL];exact kz⟩
   cases aw
  exact YP laid gs q b7 (by simpa using aq) (λi x g fo akY=>ag (i+1) x g (by simpa using fo) (by simpa using akY)) g cb
 |[],_::_,_,_,h,_,_,_=>by simp at h|_::_,[],_,_,h,_,_,_=>by simp at h
def akZ{G:dn}{W:World}(gs:List (Nat×TypeId×fw×List D))(c2:∀g cs,G g=some cs->∃x∈gs,x.1=g/\x.2.2.2=cs) (h:∀g∈gs,∃vs T eE,W.heap[g.1]?=some (.cells vs T eE)/\Rel (λb=>W.heap[b]?) g.2.2.2 vs.toList):kp G (λb:Nat=>W.heap[b]?):=by
 intro g cs cb;obtain⟨x,ag,rfl,rfl⟩:=c2 g cs cb;obtain⟨vs,T,eE,ab,af⟩:=h x ag;refine⟨vs,T,eE,ab,λj=>(vs[j]?).getD undef,?_,?_⟩
 .intro j c ao;obtain⟨v,bw,_,_⟩:=af.at j c ao;have:vs[j]?=some v:=by simpa using bw
  simp[this]
 intro j c ao;obtain⟨v,bw,_,bz⟩:=af.at j c ao;have:vs[j]?=some v:=by simpa using bw
 simpa[this]using bz
end
def YQ:fw:= .struct [.str,.bool,.int .i64,.int .i64]
def K3:fw:= .slice 4 40 YQ
def re{α:Type}(f:α->List D)(Q:α->Prop):∀(es:List (List D)),(∀x∈es,∃y,x=f y/\Q y)->∃l:List α,es=l.map f/\∀y∈l,Q y
 |[],_=>⟨[],rfl,by simp⟩|x::es,h=>by obtain⟨y,rfl,aQ⟩:=h x (by simp);obtain⟨l,rfl,aq⟩:=re f Q es λx ag=>h x (by simp[ag]);exact⟨y::l,rfl,by intro z bD;rcases xao.1 bD with rfl|bD;exact aQ;exact aq z bD⟩
def ak0{n:Int}(h:(Lit.int .i64 n).wf=true):pd n:=by have:=Go.bounds_i64 h;exact this
theorem E4{x:List D}(h:nk (.int .i64) x):∃n,x=[J n]/\pd n:=by obtain⟨n,rfl,aM⟩:=h;exact⟨n,rfl,ak0 aM⟩
def K4{x:List D}(h:nk .str x):∃s,x=[aC s]/\s.size<=140737488351232:=h
def ak1{x:List D}(h:nk .bool x):∃b,x=[ay b]:=h
def ak2{x:List D}(h:nk YQ x):∃v:V,x=v.cells/\V.ok v:=by obtain⟨a,b,rfl,aE,c,d,rfl,ao,e,f,rfl,he,g,i,rfl,cb,rfl⟩:=h;obtain⟨s,rfl,aG⟩:=K4 aE;obtain⟨q,rfl⟩:=ak1 ao;obtain⟨lo,rfl,hC⟩:=E4 he;obtain⟨ah,rfl,v5⟩:=E4 cb;exact⟨⟨s,q,lo,ah⟩,rfl,hC,v5,by simp only;omega⟩
abbrev eR:D:= .val (.slice none 0 0)
def cl(k:Nat)(nl:Bool)(es:List (List D)):D:=if nl&&es.isEmpty then eR else .ax k es
section
variable{k:Nat}{nl:Bool}{es:List (List D)}
def Bp:cl k false es= .ax k es:=by simp[cl]
@[simp] theorem YR:bK (cl k nl es)=some (J es.length):=by
 unfold cl;split;.rename_i h;simp at h;simp[h.2,J,bK]
 rfl
@[simp] theorem ak3:bE (cl k nl es)=true:=by unfold cl;split<;>rfl
@[simp] theorem ak4:(cl k nl es).one=true:=by unfold cl;split<;>rfl
def E5{i:Nat}:bn k (cl k nl es) (J (i:Int))=es[i]?:=by
 unfold cl;split;.rename_i h;simp at h;simp[h.2,J,bn]
 simp
@[simp] theorem ak5:kS (cl k nl es)=some (if nl&&es.isEmpty then(0,[])else(k,es)):=by unfold cl;split<;>rfl
end
def ak6{k:Nat}{nl:Bool}{es:List (List D)}(h:0<k):∃q,kS (cl k nl es)=some (q,es)/\(decide (q=k\/es=[])&&decide (0<k))=true/\(decide (q=k\/es=[]))=true:=by
 rw[ak5];split;.rename_i bx;simp at bx;exact⟨0,by rw[bx.2],by simp[bx.2,h],by simp[bx.2]⟩
 exact⟨k,rfl,by simp[h],by simp⟩
inductive Tm where
 |mk (op n:Int) (name:ByteArray) (nl:Bool) (aT:List Tm)
namespace Tm
def op:Tm->Int| .mk o _ _ _ _=>o
def num:Tm->Int| .mk _ n _ _ _=>n
def name:Tm->ByteArray| .mk _ _ s _ _=>s
def nl:Tm->Bool| .mk _ _ _ b _=>b
def aT:Tm->List Tm| .mk _ _ _ _ l=>l
mutual
def cells:Tm->List D
 | .mk o n s b ks=>[J o,J n,aC s,cl 4 b (rows ks)]
def rows:List Tm->List (List D)
 |[]=>[]|t::r=>cells t::rows r
end
def d(t:Tm):D:= .agg t.cells
mutual
def bo:Tm->Nat
 | .mk _ _ _ _ ks=>2+dN ks
def dN:List Tm->Nat
 |[]=>0|t::r=>1+bo t+dN r
end
def mr:∀l:List Tm,rows l=l.map cells
 |[]=>rfl|t::r=>by simp[rows,mr r]
@[simp] theorem Bq {l:List Tm}:(rows l).length=l.length:=by simp[mr]
def E6{l:List Tm}{i:Nat}{t:Tm}(h:l[i]?=some t):(rows l)[i]?=some t.cells:=by simp[mr,h]
def gE{l:List Tm}{b:Bool}{i:Nat}{t:Tm}(h:l[i]?=some t):bn 4 (cl 4 b (rows l)) (J (i:Int))=some t.cells:=by rw[E5,E6 h]
def Br:∀l:List Tm,l.length<=dN l
 |[]=>xal 0|t::r=>by simp only[dN,xap];have:=Br r;omega
def yp:∀{l:List Tm}{t:Tm},t∈l->bo t+1<=dN l
 |a::r,t,h=>by
  simp only[dN];rcases xao.1 h with rfl|h
  .omega
  have:=yp h;omega
def jk{t k:Tm}(h:k∈t.aT):k.bo+3<=t.bo:=by cases t with|mk o n s b ks=>simp only[bo];have:=yp (show k∈ks from h);omega
def kc{t:Tm}:t.aT.length+2<=t.bo:=by cases t with|mk o n s b ks=>simp only[bo];have:=Br ks;show ks.length+2<=_;omega
def ind{P:Tm->Prop}(h:∀t:Tm,(∀k∈t.aT,P k)->P t)(t:Tm):P t:=by
 have:∀(n:Nat)(t:Tm),t.bo<=n->P t:=by
  intro n
  induction n with
  |zero=>intro t aK;cases t;simp[bo]at aK
  |succ n ih=>intro t aK;exact h t λk ak=>ih k (by have:=jk ak;omega)
 exact this _ t (xal _)
inductive cp:Tm->Prop where
 |mk (o n:Int) (s:ByteArray) (b:Bool) (ks:List Tm) (aF:-9223372036854775808<=o/\o<=9223372036854775807) (aM:-9223372036854775808<=n/\n<=9223372036854775807) (aG:s.size<=140737488355328) (aq:ks.length*56<=140737488355328) (ak:∀k∈ks,cp k):cp (.mk o n s b ks)
def cp.gz{t k:Tm}(h:cp t)(ak:k∈t.aT):cp k:=by cases h with|mk o n s b ks aF aM aG aq fQ=>exact fQ k ak
def cp.len{t:Tm}(h:cp t):t.aT.length*56<=140737488355328:=by cases h;assumption
theorem nm(t:Tm):t.cells=[J t.op,J t.num,aC t.name,cl 4 t.nl (rows t.aT)]:=by cases t;rfl
theorem jX(t:Tm):t.d= .agg [J t.op,J t.num,aC t.name,cl 4 t.nl (rows t.aT)]:=by cases t;rfl
@[simp] theorem oE (t:Tm):a5 4 t.d=true:=by rw[jX];simp
@[simp] theorem uw (t:Tm):ad t.d 0=J t.op:=by rw[jX];rfl
@[simp] theorem yq (t:Tm):ad t.d 1=J t.num:=by rw[jX];rfl
@[simp] theorem yr (t:Tm):ad t.d 2=aC t.name:=by rw[jX];rfl
@[simp] theorem wv (t:Tm):ad t.d 3=cl 4 t.nl (rows t.aT):=by rw[jX];rfl
@[simp] theorem E7 (t:Tm):D.agg [J t.op,J t.num,aC t.name,cl 4 t.nl (rows t.aT)]=t.d:=(jX t).symm
@[simp high] theorem Rc (t:Tm):a3 true 4 0 t.cells=some t.d:=by rw[jX,nm];rfl
@[simp] theorem fY (t:Tm):t.cells[0]?=some (J t.op):=by rw[nm];rfl
@[simp] theorem ho (t:Tm):t.cells[1]?=some (J t.num):=by rw[nm];rfl
@[simp] theorem ak7 (t:Tm):t.cells[2]?=some (aC t.name):=by rw[nm];rfl
@[simp] theorem ak8 (t:Tm):t.cells[3]?=some (cl 4 t.nl (rows t.aT)):=by rw[nm];rfl
end Tm
def dG{β α σ:Type}{f:List D->Option (List D⊕β)}(l:List α)(S:Nat->σ->List D)(R:List α->σ->β)(Inv:Nat->σ->Prop) (au:∀s,Inv l.length s->f (S l.length s)=some (.inr (R [] s))) (ab:∀(i:Nat)(a:α)(s:σ),l[i]?=some a->i<l.length->Inv i s->(∃s',f (S i s)=some (.inl (S (i+1) s'))/\R (a::l.drop (i+1)) s=R (l.drop (i+1)) s'/\Inv (i+1) s')\/f (S i s)=some (.inr (R (a::l.drop (i+1)) s))): ∀(m i:Nat)(s:σ),Inv i s->l.length-i<m->i<=l.length->bp f m (S i s)=some (R (l.drop i) s)
 |0,i,s,_,h,_=>absurd h (xay _)
 |m+1,i,s,ah,hm,hle=>by
  rw[jH];by_cases h:i<l.length
  .have cb:=xab h;have e:l.drop i=l[i]::l.drop (i+1):=xaZ h;rcases ab i _ s cb h ah with⟨s',aW,a2,bc⟩|aW
   .rw[aW,e,a2];exact dG l S R Inv au ab m (i+1) s' bc (by omega) h
   rw[aW,e];rfl
  have:i=l.length:=by omega
  subst this;rw[au s ah,xcg (xal _)];rfl
def K5(op:Int):op=1\/op=2\/op=3\/op=4\/op=5\/op=6\/op=7\/op=8\/op=9\/op=10\/op=11\/op=12\/op=13\/op=14\/op=15\/op=16\/op=17\/op=18\/(op<1\/op>18):=by omega
@[simp] theorem azw {f:FuncId}:ra f (.val (.func (.func f) #[] #[]))=true:=by simp[ra]
@[simp] theorem qf {f:FuncId} {cs:List D}:hI f (.fn (.func f) [] cs)=some cs:=by simp[hI]
def YS(a b:Int):lK true [J a,J b]=some (J (if b>a then b else a)):=by simp[lK,qL,se,J,nK]
def YT(a b:Int):lK false [J a,J b]=some (J (if b<a then b else a)):=by simp[lK,qL,se,J,nK]
@[simp] theorem YU {b:Bool}:(ay b).flat=true:=rfl
@[simp] theorem ak9 {b:Int}:(J b).flat=true:=rfl
@[simp] theorem ala {b:ByteArray}:(aC b).flat=true:=rfl
@[simp] theorem azx {a:Int}:dr .neg (J a)=some (J (IntKind.i64.wrap (-a))):=by rw[<-Int.zero_sub];rfl
theorem YV:(D.val (.bool false))=ay false:=rfl
theorem YW:(D.val (.int .i64 0))=J 0:=rfl
theorem YX:(D.val (.string ⟨#[]⟩))=aC ⟨#[]⟩:=rfl
@[simp] theorem alb (a b c:D):a5 3 (.agg [a,b,c])=(a.one&&(b.one&&c.one)):=by simp[a5]
@[simp] theorem alc (a b c e:D):a5 4 (.agg [a,b,c,e])=(a.one&&(b.one&&(c.one&&e.one))):=by simp[a5]
@[simp] theorem azy {a:D} {l:List D}:ad (.agg (a::l)) 0=a:=rfl
@[simp] theorem azz {a b:D} {l:List D}:ad (.agg (a::b::l)) 1=b:=rfl
@[simp] theorem azA {a b c:D} {l:List D}:ad (.agg (a::b::c::l)) 2=c:=rfl
@[simp] theorem azB {a b c e:D} {l:List D}:ad (.agg (a::b::c::e::l)) 3=e:=rfl
theorem b1{bt:Bool}{i:Nat}(h:i<1000000000000000000):ai bt .add (J (i:Int)) (J 1)=some (J ((i+1:Nat):Int)):=by rw[gr (by omega) (by omega)];rfl
def lS{bt:Bool}{i:Int}(h:-9223372036854775809<=i)(bx:i<9223372036854775807):ai bt .add (J i) (J 1)=some (J (i+1)):=by rw[gr (by omega) (by omega)]
section
variable{α β:Type}{c:Prop}[Decidable c]
@[simp] theorem azC {a b:α}:(if c then(Sum.inl a:α⊕β)else Sum.inl b)=Sum.inl (if c then a else b):=by split<;>rfl
@[simp] theorem azD {a b:β}:(if c then(Sum.inr a:α⊕β)else Sum.inr b)=Sum.inr (if c then a else b):=by split<;>rfl
@[simp] theorem azE {a b:α} {l r:List α}:(if c then a::l else b::r)=(if c then a else b)::(if c then l else r):=by split<;>rfl
@[simp] theorem azF {a b:Int}:(if c then J a else J b)=J (if c then a else b):=by split<;>rfl
@[simp] theorem azG {a b:ByteArray}:(if c then aC a else aC b)=aC (if c then a else b):=by split<;>rfl
@[simp] theorem YY {a b:List D}:(if c then D.a1 a else D.a1 b)=D.a1 (if c then a else b):=by split<;>rfl
@[simp] theorem azH {a b:List D}:(if c then D.agg a else D.agg b)=D.agg (if c then a else b):=by split<;>rfl
@[simp] theorem azI {f:List D->Option β} {x y:List D⊕β}:ba f (if c then x else y)=if c then ba f x else ba f y:=by split<;>rfl
@[simp] theorem azJ {x y:Option α} {f:α->Option β}:aa (if c then x else y) f=if c then aa x f else aa y f:=by split<;>rfl
end
section
variable{dY:Type}{c:Prop}[Decidable c]
@[simp] theorem azK {x y:D} {w:Bool} {p:Option D}:bM (if c then x else y) w p=if c then bM x w p else bM y w p:=by split<;>rfl
@[simp] theorem azL {x y:D} {w:Bool} {p q:Option dY}:v8 (if c then x else y) w p q=if c then v8 x w p q else v8 y w p q:=by split<;>rfl
@[simp] theorem azM {x y a b:D}:bW (if c then x else y) a b=if c then bW x a b else bW y a b:=by split<;>rfl
@[simp] theorem azN {x y:D} {p q:Option dY}:aH (if c then x else y) p q=if c then aH x p q else aH y p q:=by split<;>rfl
@[simp] theorem azO {x y:D} {o:UnOp}:dr o (if c then x else y)=if c then dr o x else dr o y:=by split<;>rfl
end
@[simp] theorem azP {a b:Bool}:ay a=ay b↔a=b:=⟨λh=>by cases h;rfl,λh=>by rw[h]⟩
@[simp] theorem azQ {a b:Int}:J a=J b↔a=b:=⟨λh=>by cases h;rfl,λh=>by rw[h]⟩
@[simp] theorem azR {a b:ByteArray}:aC a=aC b↔a=b:=⟨λh=>by cases h;rfl,λh=>by rw[h]⟩
attribute [simp] YV YW YX
def lu(M:List (Value×D)):Prop:=∀e∈M,∃s,e.1= .string s
def gA:List (Value×D)->ByteArray->Option D
 |[],_=>none|(.string s,d)::r,x=>if s=x then some d else gA r x
 |_::r,x=>gA r x
def YZ{e:Value×D}{M:List (Value×D)}(h:lu (e::M)):(∃s,e.1= .string s)/\lu M:=⟨h e (by simp),λx ag=>h x (by simp[ag])⟩
def Y0(a b:ByteArray):Instr.sameNow .string (.string a) (.string b)=some (decide (b=a)):=by simp[Instr.sameNow,Jo,eq_comm]
def Y1{M:List (Value×D)}(h:lu M)(x:ByteArray):findD .string (.string x) M=some (gA M x):=by
 induction M with
 |nil=>rfl
 |cons e r ih=>
  obtain⟨⟨s,aG⟩,av⟩:=YZ h;obtain⟨k,d⟩:=e;simp only at aG;subst aG;simp only[findD,Y0,gA];by_cases ag:s=x;.simp[ag]
  simp[ag,ih av]
def ald{M:List (Value×D)}(h:lu M)(x:ByteArray)(d:D):∃cW,qM .string (.string x) d M=some cW/\lu cW/\(∀y,gA cW y=if y=x then some d else gA M y)/\cW.length=M.length+(if(gA M x).isSome then 0 else 1):=by
 induction M with
 |nil=>exact⟨[(.string x,d)],rfl,by intro e he;simp at he;exact⟨x,by rw[he]⟩,λy=>by simp[gA,eq_comm],rfl⟩
 |cons e r ih=>
  obtain⟨⟨s,aG⟩,av⟩:=YZ h;obtain⟨k,d0⟩:=e;simp only at aG;subst aG;simp only[qM,Y0,gA];by_cases ag:s=x
  .refine⟨(.string x,d)::r,by simp[ag],?_,λy=>?_,by simp[ag]⟩
   .intro e he;rcases xao.1 he with rfl|he
    .exact⟨x,rfl⟩
    exact av e he
   simp only[gA];by_cases aQ:y=x;.simp[aQ]
   have:¬x=y:=λh=>aQ h.symm;subst ag;simp[aQ,this]
  obtain⟨cW,ab,af,aw,a4⟩:=ih av;refine⟨(.string s,d0)::cW,by simp[ag,ab],?_,λy=>?_,by simp[ag,a4];omega⟩
  .intro e he;rcases xao.1 he with rfl|he
   .exact⟨s,rfl⟩
   exact af e he
  simp only[gA,aw y];by_cases aQ:y=x;.subst aQ;simp[ag]
  simp[aQ]
theorem ys{M:List (Value×D)}(h:lu M){z:Value}{x:ByteArray}:jV .string z true M (aC x)=some (match gA M x with|some d=> .a1 [d,ay true]|none=> .a1 [sg z,ay false]):=by simp only[jV,aC,Y1 h];cases gA M x<;>rfl
def Bs{M:List (Value×D)}(h:lu M)(x:ByteArray)(d:D):∃cW,nh .string M (aC x) d=some cW/\lu cW/\(∀y,gA cW y=if y=x then some d else gA M y)/\cW.length=M.length+(if(gA M x).isSome then 0 else 1):=ald h x d
def ux(M:List (Value×D)):Prop:=∀e∈M,∃i,e.1= .int .i64 i
def mW:List (Value×D)->Int->Option D
 |[],_=>none|(.int .i64 s,d)::r,x=>if s=x then some d else mW r x
 |_::r,x=>mW r x
def Y2{e:Value×D}{M:List (Value×D)}(h:ux (e::M)):(∃s,e.1= .int .i64 s)/\ux M:=⟨h e (by simp),λx ag=>h x (by simp[ag])⟩
def Y3(a b:Int):Instr.sameNow (.int .i64) (.int .i64 a) (.int .i64 b)=some (decide (b=a)):=by
 by_cases h:a=b;.subst h;simp[Instr.sameNow]
 have bx:¬b=a:=λe=>h e.symm;simp[Instr.sameNow,h,bx]
def ale{M:List (Value×D)}(h:ux M)(x:Int):findD (.int .i64) (.int .i64 x) M=some (mW M x):=by
 induction M with
 |nil=>rfl
 |cons e r ih=>
  obtain⟨⟨s,aG⟩,av⟩:=Y2 h;obtain⟨k,d⟩:=e;simp only at aG;subst aG;simp only[findD,Y3,mW];by_cases ag:s=x;.simp[ag]
  simp[ag,ih av]
def alf{M:List (Value×D)}(h:ux M)(x:Int)(d:D):∃cW,qM (.int .i64) (.int .i64 x) d M=some cW/\ux cW/\(∀y,mW cW y=if y=x then some d else mW M y)/\cW.length=M.length+(if(mW M x).isSome then 0 else 1):=by
 induction M with
 |nil=>exact⟨[(.int .i64 x,d)],rfl,by intro e he;simp at he;exact⟨x,by rw[he]⟩,λy=>by simp[mW,eq_comm],rfl⟩
 |cons e r ih=>
  obtain⟨⟨s,aG⟩,av⟩:=Y2 h;obtain⟨k,d0⟩:=e;simp only at aG;subst aG;simp only[qM,Y3,mW];by_cases ag:s=x
  .refine⟨(.int .i64 x,d)::r,by simp[ag],?_,λy=>?_,by simp[ag]⟩
   .intro e he;rcases xao.1 he with rfl|he
    .exact⟨x,rfl⟩
    exact av e he
   simp only[mW];by_cases aQ:y=x;.simp[aQ]
   have:¬x=y:=λh=>aQ h.symm;subst ag;simp[aQ,this]
  obtain⟨cW,ab,af,aw,a4⟩:=ih av;refine⟨(.int .i64 s,d0)::cW,by simp[ag,ab],?_,λy=>?_,by simp[ag,a4];omega⟩
  .intro e he;rcases xao.1 he with rfl|he
   .exact⟨s,rfl⟩
   exact af e he
  simp only[mW,aw y];by_cases aQ:y=x;.subst aQ;simp[ag]
  simp[aQ]
theorem alg{M:List (Value×D)}(h:ux M){z:Value}{ok:Bool}{x:Int}:jV (.int .i64) z ok M (J x)=some (match mW M x with|some d=>if ok then .a1 [d,ay true]else d|none=>if ok then .a1 [sg z,ay false]else sg z):=by simp only[jV,J,ale h];cases mW M x<;>rfl
def alh{M:List (Value×D)}(h:ux M)(x:Int)(d:D):∃cW,nh (.int .i64) M (J x) d=some cW/\ux cW/\(∀y,mW cW y=if y=x then some d else mW M y)/\cW.length=M.length+(if(mW M x).isSome then 0 else 1):=alf h x d
def Y4:∀x:List UInt8,Op.bytesLess x x=false
 |[]=>rfl|a::x=>by simp[Op.bytesLess,Y4 x]
def Y5:∀x y z:List UInt8,Op.bytesLess x y=true->Op.bytesLess y z=true->Op.bytesLess x z=true
 |[],[],z,h,_=>by simp[Op.bytesLess]at h|[],b::y,[],_,h=>by simp[Op.bytesLess]at h|[],b::y,c::z,_,_=>rfl|a::x,[],z,h,_=>by simp[Op.bytesLess]at h|a::x,b::y,[],_,h=>by simp[Op.bytesLess]at h
 |a::x,b::y,c::z,ab,af=>by
  simp only[Op.bytesLess,xbb,xam,xaG,xbq,UInt8.lt_iff_toNat_lt]at*;rcases ab with ab|⟨rfl,ab⟩
  .rcases af with af|⟨rfl,af⟩;.exact .inl (by omega)
   exact .inl ab
  rcases af with af|⟨rfl,af⟩;.exact .inl af
  exact .inr ⟨rfl,Y5 x y z ab af⟩
def Y6:∀x y:List UInt8,Op.bytesLess x y=true\/x=y\/Op.bytesLess y x=true
 |[],[]=> .inr (.inl rfl)|[],b::y=> .inl rfl|a::x,[]=> .inr (.inr rfl)
 |a::x,b::y=>by
  simp only[Op.bytesLess,xbb,xam,xaG,xbq,UInt8.lt_iff_toNat_lt,List.cons.injEq];by_cases ab:a.toNat<b.toNat;.exact .inl (.inl ab)
  by_cases af:b.toNat<a.toNat;.exact .inr (.inr (.inl af))
  have:a=b:=UInt8.toNat_inj.1 (by omega);subst this;rcases Y6 x y with h|h|h
  .exact .inl (.inr ⟨rfl,h⟩)
  .exact .inr (.inl ⟨rfl,h⟩)
  exact .inr (.inr (.inr ⟨rfl,h⟩))
def qg(x:ByteArray):blt x x=false:=Y4 _
def uy{x y z:ByteArray}(h:blt x y=true)(bx:blt y z=true):blt x z=true:=Y5 _ _ _ h bx
def Bt(x y:ByteArray):blt x y=true\/x=y\/blt y x=true:=by
 rcases Y6 x.toList y.toList with h|h|h;.exact .inl h
 .exact .inr (.inl (Vt h))
 exact .inr (.inr h)
def ali(y x:ByteArray):(!(blt y x||decide (y=x)))=blt x y:=by
 rcases Bt x y with h|h|h
 .have ab:blt y x=false:=by
   cases bg:blt y x with|false=>rfl|true=>have:=uy h bg;rw[qg]at this;cases this
  have af:y≠x:=by rintro rfl;rw[qg]at h;cases h
  simp[h,ab,af]
 .subst h;simp[qg]
 have ab:blt x y=false:=by cases bg:blt x y with|false=>rfl|true=>have:=uy h bg;rw[qg]at this;cases this
 simp[h,ab]
def K6{bt:Bool}{x y:ByteArray}:ai bt .gtr (aC y) (aC x)=some (ay (blt x y)):=by rw[Q4,ali]
def iP:List ByteArray->Prop
 |[]=>True|a::r=>(∀b∈r,blt a b=true)/\iP r
def hK(s:ByteArray):List ByteArray->List ByteArray
 |[]=>[s]|a::r=>if a=s then a::r else if blt s a then s::a::r else a::hK s r
def Rd{s x:ByteArray}:∀{l:List ByteArray},x∈hK s l->x=s\/x∈l
 |[],h=>by simp[hK]at h;exact .inl h
 |a::r,h=>by
  rw[hK]at h;split at h;.exact .inr h
  split at h
  .rcases xao.1 h with h|h;.exact .inl h
   exact .inr h
  rcases xao.1 h with h|h;.exact .inr (by simp[h])
  rcases Rd h with h|h;.exact .inl h
  exact .inr (by simp[h])
def E8{s:ByteArray}:∀{l:List ByteArray},iP l->iP (hK s l)
 |[],_=>⟨by simp,trivial⟩
 |a::r,h=>by
  rw[hK];split;.exact h
  rename_i cU;split
  .rename_i cv;refine⟨λb aj=>?_,h⟩;rcases xao.1 aj with rfl|aj
   .exact cv
   exact uy cv (h.1 b aj)
  rename_i wx;refine⟨λb aj=>?_,E8 h.2⟩;rcases Rd aj with rfl|aj
  .rcases Bt a b with ab|ab|ab;.exact ab
   .exact absurd ab cU
   rw[ab]at wx;exact absurd rfl wx
  exact h.1 b aj
def Re{s:ByteArray}:∀{l:List ByteArray},iP l->s∈l->hK s l=l
 |[],_,h=>by cases h
 |a::r,aG,h=>by
  rw[hK];rcases xao.1 h with rfl|h
  .rw[xad rfl]
  have cv:=aG.1 s h;have cU:¬a=s:=by rintro rfl;rw[qg]at cv;cases cv
  have wx:¬blt s a=true:=λbx=>by have:=uy cv bx;rw[qg]at this;cases this
  rw[xac cU,xac wx,Re aG.2 h]
def Y7{s:ByteArray}:∀{l:List ByteArray},iP l->s∉l->∃a b,l=a++b/\hK s l=a++s::b/\(∀x∈a,blt x s=true)/\(∀x∈b,blt s x=true)
 |[],_,_=>⟨[],[],rfl,rfl,by simp,by simp⟩
 |a::r,aG,h=>by
  have cU:¬a=s:=λe=>h (by simp[e]);rw[hK,xac cU];by_cases aq:blt s a=true
  .rw[xad aq];exact⟨[],a::r,rfl,rfl,by simp,λx ag=>by
    rcases xao.1 ag with rfl|ag;.exact aq
    exact uy aq (aG.1 x ag)⟩
  rw[xac aq];obtain⟨p,q,ab,af,aw,a4⟩:=Y7 (l:=r) (s:=s) aG.2 (λhm=>h (List.mem_cons_of_mem _ hm));refine⟨a::p,q,by rw[ab];rfl,by rw[af];rfl,λx ag=>?_,a4⟩;rcases xao.1 ag with rfl|ag
  .rcases Bt x s with b7|b7|b7;.exact b7
   .exact absurd b7 cU
   exact absurd b7 aq
  exact aw x ag
def Rf(s:ByteArray):∀{l:List ByteArray},iP l->∃a b,l=a++b/\(∀x∈a,blt s x=false)/\(∀x∈b,blt s x=true)/\(s∈l->∃cB,a=cB++[s])/\(s∉l->s∉a)/\(s∉l->hK s l=a++s::b)
 |[],_=>⟨[],[],rfl,by simp,by simp,by simp,by simp,λ_=>rfl⟩
 |c::r,aG=>by
  by_cases hm:s∈c::r
  .by_cases ao:c=s;.subst ao;refine⟨[c],r,rfl,by simp[qg],aG.1,λ_=>⟨[],rfl⟩,λh=>absurd hm h,λh=>absurd hm h⟩
   have av:s∈r:=(xao.1 hm).resolve_left λh=>ao h.symm;obtain⟨a,b,ab,af,aw,a4,b7,cO⟩:=Rf s aG.2;obtain⟨cB,Kl⟩:=a4 av;refine⟨c::a,b,by rw[ab];rfl,?_,aw,λ_=>⟨c::cB,by rw[Kl];rfl⟩,λh=>absurd hm h,λh=>absurd hm h⟩;intro x ag;rcases xao.1 ag with rfl|ag
   .have cv:=aG.1 s av;cases bg:blt s x with|false=>rfl|true=>have:=uy cv bg;rw[qg]at this;cases this
   exact af x ag
  obtain⟨a,b,ab,af,aw,a4⟩:=Y7 aG hm;refine⟨a,b,ab,λx ag=>?_,a4,λh=>absurd h hm,λ_ aE=>hm (by rw[ab];simp[aE]),λ_=>af⟩;have cv:=aw x ag;cases bg:blt s x with|false=>rfl|true=>have:=uy cv bg;rw[qg]at this;cases this
def E9{s:ByteArray}:∀(l:List ByteArray),(hK s l).length<=l.length+1
 |[]=>by simp[hK]
 |a::r=>by
  rw[hK];split;.simp
  split;.simp
  have:=E9 (s:=s) r;simp;omega
def ps:Nat->fw
 |0=> .stop|n+1=> .struct [.int .i64,.int .i64,.str,.slice 4 56 (ps n)]
def Bu:∀(n m:Nat),m<=2*n->(ps n).fx m=true
 |0,m,h=>by
         have:m=0:=by omega
         subst this;rfl
 |n+1,0,_=>rfl|n+1,1,_=>rfl|n+1,m+2,h=>by have:=Bu n m (by omega);simp only[ps,fw.fx,qe,this,xbs]
def K7{P:Program}{t s:TypeId}(ab:∀y,eC P (.struct [.int .i64,.int .i64,.str,y]) t=(eC P y s&&true))(af:∀y,eC P (.slice 4 56 y) s=eC P y t):∀n,eC P (ps n) t=true
 |0=>rfl|n+1=>by rw[ps,ab,af,K7 ab af n];rfl
theorem Y8{P:Program}{t s:TypeId}(ab:∀y,eC P (.struct [.int .i64,.int .i64,.str,y]) t=(eC P y s&&true))(af:∀y,eC P (.slice 4 56 y) s=eC P y t)(aq:decide (t<P.types.size)=true):uv P ps t:=⟨λn=>Bu n n (by omega),K7 ab af,xba aq,λn=>by cases n<;>rfl⟩
def yt:∀(n:Nat){x:List D},nk (ps n) x->∃t:Tm,x=t.cells/\t.cp
 |0,x,h=>h.elim|n+1,x,h=>by obtain⟨a,b,rfl,aE,c,d,rfl,ao,e,f,rfl,he,g,i,rfl,cb,rfl⟩:=h;obtain⟨op,rfl,eF⟩:=E4 aE;obtain⟨alj,rfl,kP⟩:=E4 ao;obtain⟨s,rfl,aG⟩:=K4 he;obtain⟨es,rfl,_,aq,mn⟩:=cb;obtain⟨ks,rfl,eJ⟩:=re Tm.cells Tm.cp es λx ag=>yt n (mn x ag).2;refine⟨.mk op alj s false ks,?_,.mk _ _ _ _ _ eF kP (by omega) (by simpa using xbV aq (by omega)) eJ⟩;simp[Tm.cells,Tm.mr,cl]
def Y9{H:Type}{F:sJ}{Fs:List sJ}{xs:List (DataW H)}{aO:List D}(h:rb (F::Fs) xs aO):∃x Jq d AK n,xs=x::Jq/\aO=d::AK/\KY (F n) x d/\E2 (F n) d/\rb Fs Jq AK:=by
 cases xs with
 |nil=>cases aO<;>exact h.elim
 |cons x xs=>cases aO with|nil=>exact h.elim|cons d aO=>obtain⟨⟨n,ab,af⟩,aw⟩:=h;exact⟨x,xs,d,aO,n,rfl,rfl,ab,af,aw⟩
def alk{H:Type}{xs:List (DataW H)}{aO:List D}(h:rb [] xs aO):xs=[]/\aO=[]:=by cases xs<;>cases aO<;>first|exact⟨rfl,rfl⟩|exact h.elim
@[simp] theorem azS (a:D):a5 1 (.agg [a])=a.one:=by simp[a5]
@[simp] theorem alm (a b:D):a5 2 (.agg [a,b])=(a.one&&b.one):=by simp[a5]
@[simp] theorem aln (a b c d e:D):a5 5 (.agg [a,b,c,d,e])=(a.one&&(b.one&&(c.one&&(d.one&&e.one)))):=by simp[a5]
@[simp] theorem alo (a b c d e f:D):a5 6 (.agg [a,b,c,d,e,f])=(a.one&&(b.one&&(c.one&&(d.one&&(e.one&&f.one))))):=by simp[a5]
@[simp] theorem Za (a b c d e f g:D):a5 7 (.agg [a,b,c,d,e,f,g])=(a.one&&(b.one&&(c.one&&(d.one&&(e.one&&(f.one&&g.one)))))):=by simp[a5]
@[simp] theorem K8 (a b c d e f g h:D):a5 8 (.agg [a,b,c,d,e,f,g,h])=(a.one&&(b.one&&(c.one&&(d.one&&(e.one&&(f.one&&(g.one&&h.one))))))):=by simp[a5]
@[simp] theorem azT {a b c e f:D} {l:List D}:ad (.agg (a::b::c::e::f::l)) 4=f:=rfl
@[simp] theorem azU {a b c e f g:D} {l:List D}:ad (.agg (a::b::c::e::f::g::l)) 5=g:=rfl
@[simp] theorem azV {a b c e f g h:D} {l:List D}:ad (.agg (a::b::c::e::f::g::h::l)) 6=h:=rfl
@[simp] theorem azW {a b c e f g h i:D} {l:List D}:ad (.agg (a::b::c::e::f::g::h::i::l)) 7=i:=rfl
theorem alp{β:Type}{x y:Bool}{f:D->Option β}:aa (bM (ay x) true (some (ay y))) (λv=>aa (bW (ay x) v (ay false)) f)=f (ay (x&&y)):=by cases x<;>rfl
theorem alq{β:Type}{x y:Bool}{f:D->Option β}:aa (bM (ay x) false (some (ay y))) (λv=>aa (bW (ay x) (ay true) v) f)=f (ay (x||y)):=by cases x<;>rfl
inductive Fm where
 |mk (op:Int) (e:Tm) (nl:Bool) (aT:List Fm)
def fK:Tm:= .mk 0 0 ⟨#[]⟩ true []
def Rg:fK.cp:= .mk _ _ _ _ _ (by omega) (by omega) (by decide) (by simp) (by simp)
theorem K9:fK.d=D.agg [J 0,J 0,aC ⟨#[]⟩,D.val (.slice none 0 0)]:=rfl
namespace Fm
def op:Fm->Int| .mk o _ _ _=>o
def e:Fm->Tm| .mk _ t _ _=>t
def nl:Fm->Bool| .mk _ _ b _=>b
def aT:Fm->List Fm| .mk _ _ _ l=>l
mutual
def cells:Fm->List D
 | .mk o t b ks=>[J o,J t.op,J t.num,aC t.name,cl 4 t.nl (Tm.rows t.aT),cl 6 b (rows ks)]
def rows:List Fm->List (List D)
 |[]=>[]|t::r=>cells t::rows r
end
def d(t:Fm):D:= .agg t.cells
mutual
def bo:Fm->Nat
 | .mk _ t _ ks=>2+t.bo+dN ks
def dN:List Fm->Nat
 |[]=>0|t::r=>1+bo t+dN r
end
def mr:∀l:List Fm,rows l=l.map cells
 |[]=>rfl|t::r=>by simp[rows,mr r]
@[simp] theorem Bq {l:List Fm}:(rows l).length=l.length:=by simp[mr]
def E6{l:List Fm}{i:Nat}{t:Fm}(h:l[i]?=some t):(rows l)[i]?=some t.cells:=by simp[mr,h]
def gE{l:List Fm}{b:Bool}{i:Nat}{t:Fm}(h:l[i]?=some t):bn 6 (cl 6 b (rows l)) (J (i:Int))=some t.cells:=by rw[E5,E6 h]
def Br:∀l:List Fm,l.length<=dN l
 |[]=>xal 0|t::r=>by simp only[dN,xap];have:=Br r;omega
def yp:∀{l:List Fm}{t:Fm},t∈l->bo t+1<=dN l
 |a::r,t,h=>by
  simp only[dN];rcases xao.1 h with rfl|h
  .omega
  have:=yp h;omega
theorem La(t:Fm):t.bo=2+t.e.bo+dN t.aT:=by cases t;rfl
def jk{t k:Fm}(h:k∈t.aT):k.bo+3<=t.bo:=by have:=yp h;have:=La t;omega
def kc{t:Fm}:t.aT.length+2<=t.bo:=by have:=Br t.aT;have:=La t;omega
def yu{t:Fm}:t.e.bo+2<=t.bo:=by have:=La t;omega
def ind{P:Fm->Prop}(h:∀t:Fm,(∀k∈t.aT,P k)->P t)(t:Fm):P t:=by
 have:∀(n:Nat)(t:Fm),t.bo<=n->P t:=by
  intro n
  induction n with
  |zero=>intro t aK;cases t;simp[bo]at aK
  |succ n ih=>intro t aK;exact h t λk ak=>ih k (by have:=jk ak;omega)
 exact this _ t (xal _)
inductive cp:Fm->Prop where
 |mk (o:Int) (t:Tm) (b:Bool) (ks:List Fm) (aF:-9223372036854775808<=o/\o<=9223372036854775807) (aK:t.cp) (aq:ks.length*88<=140737488355328) (ak:∀k∈ks,cp k):cp (.mk o t b ks)
def cp.gz{t k:Fm}(h:cp t)(ak:k∈t.aT):cp k:=by cases h with|mk o n s b ks aF aM aG=>exact aG k ak
def cp.len{t:Fm}(h:cp t):t.aT.length*88<=140737488355328:=by cases h;assumption
def cp.e{t:Fm}(h:cp t):t.e.cp:=by cases h;assumption
def cp.op{t:Fm}(h:cp t):-9223372036854775808<=t.op/\t.op<=9223372036854775807:=by cases h;assumption
theorem nm(t:Fm):t.cells=[J t.op,J t.e.op,J t.e.num,aC t.e.name,cl 4 t.e.nl (Tm.rows t.e.aT),cl 6 t.nl (rows t.aT)]:=by cases t;rfl
theorem jX(t:Fm):t.d= .agg [J t.op,J t.e.op,J t.e.num,aC t.e.name,cl 4 t.e.nl (Tm.rows t.e.aT),cl 6 t.nl (rows t.aT)]:=by cases t;rfl
@[simp] theorem oE (t:Fm):a5 6 t.d=true:=by rw[jX];simp
@[simp] theorem uw (t:Fm):ad t.d 0=J t.op:=by rw[jX];rfl
@[simp] theorem yq (t:Fm):ad t.d 1=J t.e.op:=by rw[jX];rfl
@[simp] theorem yr (t:Fm):ad t.d 2=J t.e.num:=by rw[jX];rfl
@[simp] theorem wv (t:Fm):ad t.d 3=aC t.e.name:=by rw[jX];rfl
@[simp] theorem alr (t:Fm):ad t.d 4=cl 4 t.e.nl (Tm.rows t.e.aT):=by rw[jX];rfl
@[simp] theorem als (t:Fm):ad t.d 5=cl 6 t.nl (rows t.aT):=by rw[jX];rfl
@[simp] theorem E7 (t:Fm):D.agg [J t.op,J t.e.op,J t.e.num,aC t.e.name,cl 4 t.e.nl (Tm.rows t.e.aT),cl 6 t.nl (rows t.aT)]=t.d:=(jX t).symm
@[simp high] theorem Rc (t:Fm):a3 true 6 0 t.cells=some t.d:=by rw[jX,nm];rfl
end Fm
attribute [go_sem] eH sI lR nS pr alp alq EX KU oC Bj Bk Bl Q3 YG akL Bm qd EW QY aks akt aku akv ak3 akw akx aky akz akA ak4 akB Q0 xbw xcb QZ akE YR akF akH YE xbs xbE Bool.and_self xaD xaF Bool.not_true Bool.not_false xat YU ak9 ala Bool.or_true Bool.true_or alm alb alc aln alo Za K8 YV YW YX akr akq Tm.oE Tm.uw Tm.yq Tm.yr Tm.wv Tm.E7 Tm.Rc Tm.Bq Fm.oE Fm.uw Fm.yq Fm.yr Fm.wv Fm.alr Fm.als Fm.E7 Fm.Rc Fm.Bq
def rf:Nat->fw
 |0=> .stop|n+1=> .struct [.int .i64,ps (n+1),.slice 6 88 (rf n)]
def Rh:∀(n m:Nat),m<=2*n->(rf n).fx m=true
 |0,m,h=>by
         have:m=0:=by omega
         subst this;rfl
 |n+1,0,_=>rfl|n+1,1,_=>by simp[rf,fw.fx,qe]|n+1,m+2,h=>by have:=Rh n m (by omega);have af:=Bu (n+1) (m+1) (by omega);simp only[rf,fw.fx,qe,this,af,xbs]
def Zb{P:Program}{t s r q:TypeId}(ab:∀y z,eC P (.struct [.int .i64,y,z]) t=(eC P y r&&(eC P z s&&true)))(af:∀y,eC P (.slice 6 88 y) s=eC P y t)(aw:∀n,eC P (ps n) r=true):∀n,eC P (rf n) t=true
 |0=>rfl|n+1=>by rw[rf,ab,af,Zb (q:=q) ab af aw n,aw];rfl
theorem Zc{P:Program}{t s r q:TypeId}(ab:∀y z,eC P (.struct [.int .i64,y,z]) t=(eC P y r&&(eC P z s&&true)))(af:∀y,eC P (.slice 6 88 y) s=eC P y t) (aw:∀y,eC P (.struct [.int .i64,.int .i64,.str,y]) r=(eC P y q&&true)) (a4:∀y,eC P (.slice 4 56 y) q=eC P y r) (aq:decide (t<P.types.size)=true):uv P rf t:=⟨λn=>Rh n n (by omega),Zb (q:=q) ab af (K7 aw a4),xba aq,λn=>by cases n<;>rfl⟩
def Zd:∀(n:Nat){x:List D},nk (rf n) x->∃t:Fm,x=t.cells/\t.cp
 |0,x,h=>h.elim|n+1,x,h=>by obtain⟨a,b,rfl,aE,c,d,rfl,ao,g,i,rfl,cb,rfl⟩:=h;obtain⟨op,rfl,eF⟩:=E4 aE;obtain⟨t,rfl,aK⟩:=yt (n+1) ao;obtain⟨es,rfl,_,aq,mn⟩:=cb;obtain⟨ks,rfl,eJ⟩:=re Fm.cells Fm.cp es λx ag=>Zd n (mn x ag).2;refine⟨.mk op t false ks,?_,.mk _ _ _ _ eF aK (by simpa using xbV aq (by omega)) eJ⟩;simp[Fm.cells,Fm.mr,cl,Tm.nm]
structure a8 where
 name:ByteArray
 e:Tm
def a8.cells(d:a8):List D:=[aC d.name,J d.e.op,J d.e.num,aC d.e.name,cl 4 d.e.nl (Tm.rows d.e.aT)]
def a8.d(d:a8):D:= .agg d.cells
def aP(l:List a8):D:= .ax 5 (l.map a8.cells)
def a8.cp(d:a8):Prop:=d.name.size<=140737488351232/\d.e.cp
section
variable{l:List a8}{i:Nat}{d:a8}
def eZ(h:l[i]?=some d):bn 5 (aP l) (J (i:Int))=some d.cells:=by simp[aP,h]
def dT(l:List a8):bK (aP l)=some (J l.length):=by simp[aP]
@[simp] theorem a8.yv (d:a8):a3 true 5 0 d.cells=some d.d:=rfl
@[simp] theorem a8.ho (d:a8):a3 true 4 1 d.cells=some d.e.d:=by rw[Tm.jX];rfl
@[simp] theorem a8.fY (d:a8):a3 false 1 0 d.cells=some (aC d.name):=rfl
@[simp] theorem a8.agg (d:a8):a5 5 d.d=true:=by unfold a8.d a8.cells;simp
@[simp] theorem a8.a7 (d:a8):ad d.d 0=aC d.name:=rfl
@[simp] theorem a8.bR (d:a8):ad d.d 1=J d.e.op:=rfl
@[simp] theorem a8.bY (d:a8):ad d.d 2=J d.e.num:=rfl
@[simp] theorem a8.ct (d:a8):ad d.d 3=aC d.e.name:=rfl
@[simp] theorem a8.de (d:a8):ad d.d 4=cl 4 d.e.nl (Tm.rows d.e.aT):=rfl
end
def ds(l:List a8)(x:ByteArray):Option Nat:=l.findIdx? (λd=>decide (d.name=x))
def Ri{l:List a8}{x:ByteArray}{i:Nat}(h:ds l x=some i):∃d,l[i]?=some d/\d.name=x/\i<l.length:=by obtain⟨ab,af,_⟩:=xbh.1 h;exact⟨_,xab ab,by simpa using af,ab⟩
def c9(l:List Nat):D:= .ax 1 (l.map λ(i:Nat)=>[J (i:Int)])
def uz{l:List Nat}{i k:Nat}(h:l[i]?=some k):bn 1 (c9 l) (J (i:Int))=some [J (k:Int)]:=by simp[c9,h]
def pt(l:List Nat):bK (c9 l)=some (J l.length):=by simp[c9]
def hW(l:List (List Nat)):D:= .ax 1 (l.map λx=>[c9 x])
def alu{l:List (List Nat)}{i:Nat}{k:List Nat}(h:l[i]?=some k):bn 1 (hW l) (J (i:Int))=some [c9 k]:=by simp[hW,h]
def jI(M:List (Value×D))(S:List Nat):Prop:=ux M/\∀i:Nat,mW M (i:Int)=if i∈S then some (ay true)else none
theorem jI.nil:jI [] []:=⟨by(intro e he;cases he),λi=>rfl⟩
def jI.look{M:List (Value×D)}{S:List Nat}(h:jI M S){i:Nat}{z:Value}:jV (.int .i64) (.bool false) false M (J (i:Int))=some (ay (decide (i∈S))):=by rw[alg h.1,h.2 i];by_cases ah:i∈S<;>simp[ah,sg]
def jI.put{M:List (Value×D)}{S:List Nat}(h:jI M S)(i:Nat):∃cW,nh (.int .i64) M (J (i:Int)) (ay true)=some cW/\jI cW (if i∈S then S else S++[i]):=by
 obtain⟨cW,ab,af,aw,_⟩:=alh h.1 (i:Int) (ay true);refine⟨cW,ab,af,λj=>?_⟩;rw[aw,h.2];by_cases aN:j=i;.subst aN;by_cases ah:j∈S<;>simp[ah]
 have:¬((j:Int)=(i:Int)):=by omega
 by_cases ah:i∈S<;>simp[this,ah,aN]
def jI.mem{M:List (Value×D)}{S T:List Nat}(h:jI M S)(mI:∀x,x∈S↔x∈T):jI M T:=⟨h.1,λi=>by rw[h.2];simp only[mI i]⟩
def wy(n:Nat):fw:= .slice 5 72 (.struct [.str,ps n])
def Ze(n:Nat):∀m,m<=n->(wy n).fx m=true
 |0,_=>rfl|1,_=>by simp[wy,fw.fx]|m+2,h=>by have:=Bu n m (by omega);have:=Bu n (m+1) (by omega);have af:fw.fx m .str=true:=yn m .str rfl;simp only[wy,fw.fx,qe, *,xbs]
theorem Zf{P:Program}{t r q:TypeId}(ab:∀y,eC P (.slice 5 72 (.struct [.str,y])) t=(eC P y r&&true)) (aw:∀y,eC P (.struct [.int .i64,.int .i64,.str,y]) r=(eC P y q&&true)) (a4:∀y,eC P (.slice 4 56 y) q=eC P y r) (aq:decide (t<P.types.size)=true):uv P wy t:=⟨λn=>Ze n n (xal _),λn=>by rw[wy,ab,K7 aw a4 n];rfl,xba aq,λn=>rfl⟩
def Zg{n:Nat}{x:List D}(h:nk (.struct [.str,ps n]) x):∃d:a8,x=d.cells/\d.cp:=by obtain⟨a,b,rfl,aE,c,e,rfl,ao,rfl⟩:=h;obtain⟨s,rfl,aG⟩:=K4 aE;obtain⟨t,rfl,aK⟩:=yt n ao;exact⟨⟨s,t⟩,by simp[a8.cells,Tm.nm],aG,aK⟩
end Go.Am
