/- From what a call is handed to data, and from an answer to the row. No condition. -/
import Derived.Test.YthnecpgodmolaaaGreatDoorEngC
import Derived.ProofKit
import Derived.OpenShut
import Derived.KernelRfl
import Derived.Deep.DeepHandedRow
import Derived.Lib.LaidTab
import Derived.Test.YthnecpgodmolaaaGreatDoorEngS
set_option linter.all false
set_option linter.unnecessarySimpa false
namespace Go.Am
open Go.ChangeShapes Go.WideShapes Go.ChangeAt Go.RowKit
inductive fc where
 |bool
 |int (k:IntKind)
 |str
 |slice (k bytes:Nat) (e:fc)
 |arr (n:Nat) (e:fc)
 |struct (dq:List fc)
 |stop
mutual
def mE:fc->List D->Prop
 | .bool,aQ=>∃b,aQ=[ax b]| .int k,aQ=>∃n,aQ=[.val (.int k n)]/\(Lit.int k n).wf=true| .str,aQ=>∃s,aQ=[aC s]/\s.size<=140737488351232| .slice k FL e,aQ=>∃es:List (List D),aQ=[.az k es]/\es.length<=maxLen/\es.length*FL<=140737488351232/\∀x∈es,x.length=k/\mE e x| .arr n e,aQ=>∃jm:List (List D),aQ=jm.flatten/\jm.length=n/\∀x∈jm,mE e x| .struct dq,aQ=>LA dq aQ| .stop,_=>False
def LA:List fc->List D->Prop
 |[],aQ=>aQ=[]|f::dq,aQ=>∃a b,aQ=a++b/\mE f a/\LA dq b
end
mutual
def rd{H:Type}:fc->DataW H->Option (List D)
 | .bool,.lit (.bool b)=>some [ax b]| .int _,.lit (.int k n)=>some [.val (.int k n)]| .str,.lit (.string l)=>some [aC ⟨l.toArray⟩]| .slice k _ _,.nil=>some [.az k []]| .slice k _ e,.slice es _=>(es.mapM (rd e)).map λxs=>[.az k xs]| .arr _ e,.agg es=>(es.mapM (rd e)).map List.flatten| .struct dq,.agg es=>LB dq es|_,_=>none
def LB{H:Type}:List fc->List (DataW H)->Option (List D)
 |[],[]=>some []|f::dq,d::aQ=>(rd f d).bind λa=>(LB dq aQ).map (a++·)|_,_=>none
end
mutual
def eD(P:Program):fc->TypeId->Bool
 | .bool,t=>match P.underlying t with|some .bool=>true|_=>false
 | .int k,t=>match P.underlying t with|some (.int br)=>decide (k=br)|_=>false
 | .str,t=>match P.underlying t with|some .string=>true|_=>false
 | .stop,_=>true| .slice k FL e,t=>match P.underlying t with|some (.slice dv)=>decide (P.cellsOf dv=k)&&decide (0<k)&&decide (P.bytesOf dv=FL)&&eD P e dv|_=>false
 | .arr n e,t=>match P.underlying t with|some (.array fX dv)=>decide (n=fX)&&decide (P.cellsOf t=n*P.cellsOf dv)&&eD P e dv|_=>false
 | .struct dq,t=>match P.underlying t with|some (.struct RI)=>yL P dq RI.toList 0 (P.cellsOf t)|_=>false
def yL(P:Program):List fc->List Field->Nat->Nat->Bool
 |[],[],off,n=>decide (off=n)|f::dq,x::xs,off,n=>decide (x.offset=off)&&eD P f x.type&&yL P dq xs (off+P.cellsOf x.type) n|_,_,_,_=>false
end
mutual
def fc.fA:Nat->fc->Bool
 |0,_=>true|_+1,.stop=>false|n+1,.slice _ _ e=>e.fA n|n+1,.arr _ e=>e.fA n|n+1,.struct dq=>qx n dq|_+1,_=>true
def qx:Nat->List fc->Bool
 |_,[]=>true|n,f::dq=>f.fA n&&qx n dq
end
def Rel(m:Mem):List D->List Value->Prop
 |[],[]=>True|d::aQ,v::vs=>D.one d=true/\dx m d v/\Rel m aQ vs|_,_=>False
def Rel.len{m:Mem}:∀{aQ:List D}{vs:List Value},Rel m aQ vs->vs.length=aQ.length
 |[],[],_=>rfl|_::_,_::_,h=>by simp[Rel.len h.2.2]|[],_::_,h=>h.elim|_::_,[],h=>h.elim
def Rel.at{m:Mem}:∀{aQ:List D}{vs:List Value},Rel m aQ vs->∀(i:Nat)(d:D),aQ[i]?=some d->∃v,vs[i]?=some v/\D.one d=true/\dx m d v
 |[],[],_,i,d,h=>by simp at h|x::aQ,v::vs,h,0,d,ay=>by simp at ay;subst ay;exact⟨v,rfl,h.1,h.2.1⟩|_::_,_::_,h,i+1,d,ay=>by simpa using Rel.at h.2.2 i d (by simpa using ay)|[],_::_,h,_,_,_=>h.elim|_::_,[],h,_,_,_=>h.elim
def Rel.append{m:Mem}:∀{aQ:List D}{vs:List Value}{Be:List D}{RJ:List Value},Rel m aQ vs->Rel m Be RJ->Rel m (aQ++Be) (vs++RJ)
 |[],[],_,_,_,bx=>bx|_::_,_::_,_,_,h,bx=>⟨h.1,h.2.1,Rel.append h.2.2 bx⟩|[],_::_,_,_,h,_=>h.elim|_::_,[],_,_,h,_=>h.elim
def Rel.one{m:Mem}:∀{aQ:List D}{vs:List Value},Rel m aQ vs->aQ.all D.one=true
 |[],[],_=>rfl|_::_,_::_,h=>by simp only[xbP,h.1,Rel.one h.2.2,Bool.and_self]|[],_::_,h=>h.elim|_::_,[],h=>h.elim
def RK{α:Type}:∀(n:Nat)(Q:Nat->α->Prop),(∀i,i<n->∃y,Q i y)->∃c6:List α,c6.length=n/\∀(i:Nat)(y:α),c6[i]?=some y->Q i y
 |0,_,_=>⟨[],rfl,by intro i y h;simp at h⟩
 |n+1,Q,h=>by obtain⟨c6,ab,af⟩:=RK n (λi=>Q (i+1)) λi ah=>h (i+1) (by omega);obtain⟨y,aJ⟩:=h 0 (by omega);refine⟨y::c6,by simp[ab],?_⟩;intro i z bn;cases i with|zero=>simp at bn;subst bn;exact aJ|succ i=>exact af i z (by simpa using bn)
def RL{α β:Type}(f:α->Option β):∀(l:List α)(r:List β),r.length=l.length->(∀(i:Nat)(x:α)(y:β),l[i]?=some x->r[i]?=some y->f x=some y)->l.mapM f=some r
 |[],[],_,_=>rfl|x::l,y::r,aq,h=>by have ar:=h 0 x y rfl rfl;have ih:=RL f l r (by simpa using aq) λi x y ag aJ=>h (i+1) x y (by simpa using ag) (by simpa using aJ);simp[List.mapM_cons,ar,ih]|[],_::_,h,_=>by simp at h|_::_,[],h,_=>by simp at h
section
variable{H:Type}{enc:TypeId×Value->H}{P:Program}{w:World}{base:Nat}{spare:Nat->Bool}{held:Bool}
def pieces{m:Mem}{c:Nat}{cs:List Value}:∀(jm:List (List D)) (o:Nat),(∀(i:Nat)(x:List D),jm[i]?=some x->Rel m x ((cs.drop (o+i*c)).take c))->(o+jm.length*c=cs.length)->Rel m jm.flatten (cs.drop o)
 |[],o,_,aq=>by have:cs.drop o=[]:=xch (by simp at aq;omega);rw[this];trivial
 |x::r,o,h,aq=>by
  have dE:o+c+r.length*c=cs.length:=by simp only[xar,xaU]at aq;omega
  have ar:=h 0 x rfl;have ih:=pieces (m:=m) (cs:=cs) (c:=c) r (o+c) (λi x ag=>by have:=h (i+1) x (by simpa using ag);rw[show o+c+i*c=o+(i+1)*c by rw[xaU];omega];exact this) dE
  have e:cs.drop o=(cs.drop o).take c++cs.drop (o+c):=by
   conv=>lhs;rw[<-xbv c (cs.drop o)]
   rw[List.drop_drop]
  rw[e,List.flatten_cons];refine Rel.append ?_ ih;simpa using ar
def RM{H:Type}{P:Program}{e:TypeId}:∀{l:List (DataW H)} {x:DataW H} {y:Nat},x∈l->y∈x.weights P e->y∈DataW.weightsAll P e l
 |a::r,x,y,ag,aJ=>by
  simp only[DataW.weightsAll,xak];rcases xal.1 ag with rfl|ag
  .exact .inl aJ
  exact .inr (RM ag aJ)
def Zi(m:Mem)(hm:∀b o,w.heap[b]?=some o->m b=some o):∀(n:Nat)(ty:fc)(t:TypeId)(cs:List Value)(x:DataW H×List MemPlace),eD P ty t=true->ty.fA n=true->(x.1.weights P t).all (·<=reachBytes)=true->DataW.trod enc P w base spare held n t cs=some x-> ∃aQ,rd ty x.1=some aQ/\mE ty aQ/\Rel m aQ cs:=by
 intro n
 induction n with
 |zero=>intro ty t cs x _ _ _ h;simp[DataW.trod]at h
 |succ n ih=>
  intro ty t cs x fN mq kJ h;cases ty with
  |stop=>simp[fc.fA]at mq
  |bool=>
   simp only[eD]at fN;split at fN;.obtain⟨b,rfl,rfl⟩:=DataW.trod_bool ‹_› h;exact⟨[ax b],rfl,⟨b,rfl⟩,rfl,.val _,trivial⟩
   cases fN
  |int k=>
   simp only[eD]at fN;split at fN;.have:=xba fN;subst this;obtain⟨z,rfl,rfl,hw⟩:=DataW.trod_int ‹_› h;exact⟨[.val (.int k z)],rfl,⟨z,rfl,hw⟩,rfl,.val _,trivial⟩
   cases fN
  |str=>
   simp only[eD]at fN;split at fN
   .obtain⟨s,rfl,rfl,hw⟩:=DataW.trod_string ‹_› h;refine⟨[aC s],?_,⟨s,rfl,?_⟩,rfl,.val _,trivial⟩;.simp[rd]
    simp only[DataW.weights,xbP,List.all_nil,xbu,xaE]at kJ;simp only[reachBytes]at kJ;simpa using kJ
   cases fN
  |slice k FL e=>
   simp only[eD]at fN;split at fN
   .rename_i dv hu;simp only[xam,xaE]at fN;obtain⟨⟨⟨ak,BP⟩,x3⟩,he⟩:=fN;subst ak;subst x3;simp only[fc.fA]at mq;rcases DataW.trod_slice hu h with⟨rfl,rfl⟩|⟨a,len,cap,elems,rest,fX,aN,rfl,rfl,aj,Wz,xZ,e9,FM,_,_⟩
    .exact⟨[.az _ []],rfl,⟨[],rfl,by simp,by simp,by simp⟩,rfl,.mO _ _ _,trivial⟩
    cases aN;simp only[DataW.weights,hu,xbP,List.all_append,xam,xaE,xaS,reachBytes]at kJ;obtain⟨vY,Py,_⟩:=kJ;have each:∀i,i<len->∃aQ,∃x,elems[i]?=some x/\rd e x.1=some aQ/\mE e aQ/\∃c,w.cells? base (a.add (i*P.cellsOf dv)) (P.cellsOf dv)=some c/\Rel m aQ c:=by
     intro i ah;have ab:=FM i ah;rw[xaa (by omega)]at ab;obtain⟨c,af,aw⟩:=Option.bind_eq_some_iff.1 ab;have RN:((elems[i]'(by omega)).1.weights P dv).all (·<=reachBytes)=true:=by refine xaA.2 λy aJ=>xaA.1 Py y ?_;exact RM (xap.2 ⟨_,xaX _,rfl⟩) aJ
     obtain⟨aQ,aW,a2,bb⟩:=ih e dv c _ he mq RN aw;exact⟨aQ,_,xaa (by omega),aW,a2,c,af,bb⟩
    obtain⟨es,aq,mA⟩:=RK len _ each;have RO:∀(i:Nat)(aQ:List D),es[i]?=some aQ->aQ.length=P.cellsOf dv:=by intro i aQ ah;obtain⟨_,_,_,_,c,an,av⟩:=mA i aQ ah;rw[<-av.len];exact(World.cells?_some an).2.1
    refine⟨[.az (P.cellsOf dv) es],?_,⟨es,rfl,by omega,?_,?_⟩,rfl,?_,trivial⟩
    .simp only[rd];rw[RL (rd e) (elems.map (·.1)) es (by simp;omega)];.rfl
     intro i x y ag aJ;obtain⟨z,ab,af,_⟩:=mA i y aJ;simp[ab]at ag;rw[<-ag];exact af
    .have:es.length<=elems.length+rest.length:=by omega
     exact xbh (xaB _ this) (xba vY)
    .intro x ag;obtain⟨i,ah,rfl⟩:=List.getElem_of_mem ag;obtain⟨_,_,_,a2,_⟩:=mA i _ (xaa ah);exact⟨RO i _ (xaa ah),a2⟩
    by_cases ar:len=0;.subst ar;have:es=[]:=xaI aq;subst this;exact .mO _ _ _
    have q4:∀(i:Nat)(aQ:List D),es[i]?=some aQ->∀j,j<P.cellsOf dv->w.cell? ((a.add (i*P.cellsOf dv)).add j)≠none:=by intro i aQ ah j aP;obtain⟨_,_,_,_,c,an,av⟩:=mA i aQ ah;obtain⟨_,bz,bA⟩:=World.cells?_some an;rw[bA j aP,xaa (by omega)];simp
    have uq:=q4 0 _ (xaa (by omega)) 0 BP;simp only[Nat.zero_mul,Addr.add,xaC]at uq;obtain⟨b,off,spot⟩:=a;unfold World.cell? at uq;cases bO:w.heap[b]? with
    |none=>simp[bO]at uq
    |some o=>
     cases o with
     |cells vs T eL=>
      simp only[bO]at uq;have alE:spot=none:=by cases spot with|none=>rfl|some s=>simp at uq
      subst alE;have cellAt:∀q,w.cell? ⟨b,q,none⟩=vs[q]?:=by intro q;simp[World.cell?,bO]
      have alF:∀q,(⟨b,off,none⟩:Addr).add q=⟨b,off+q,none⟩:=by intro q;unfold Addr.add;split<;>simp_all
      have alG:∀o q,(⟨b,o,none⟩:Addr).add q=⟨b,o+q,none⟩:=by intro o q;unfold Addr.add;split<;>simp_all
      have key:∀(i:Nat)(aQ:List D)(j:Nat)(c:D),es[i]?=some aQ->aQ[j]?=some c->∃v,vs[off+i*P.cellsOf dv+j]?=some v/\dx m c v:=by
       intro i aQ j c ah aP;obtain⟨_,_,_,_,bk,an,av⟩:=mA i aQ ah;obtain⟨_,bz,bA⟩:=World.cells?_some an;obtain⟨v,e4,_,eh⟩:=av.at j c aP;have cJ:j<P.cellsOf dv:=by rw[<-RO i aQ ah];exact(xae.1 aP).1
       refine⟨v,?_,eh⟩;rw[<-e4,<-bA j cJ,alF,alG,cellAt]
      rw[<-aq];refine .az _ es b off cap vs T eL (hm _ _ bO) ?_ (by omega) (λi j=>(vs[off+i*P.cellsOf dv+j]?).getD undef) ?_ ?_;.intro x ag;obtain⟨i,ah,rfl⟩:=List.getElem_of_mem ag;obtain⟨_,_,_,_,_,_,av⟩:=mA i _ (xaa ah);exact⟨RO i _ (xaa ah),av.one⟩
      .intro i aQ j c ah aP;obtain⟨v,ab,_⟩:=key i aQ j c ah aP;simp[ab]
      intro i aQ j c ah aP;obtain⟨v,ab,af⟩:=key i aQ j c ah aP;simpa[ab]using af
     |_=>simp[bO]at uq
   cases fN
  |arr k e=>
   simp only[eD]at fN;split at fN
   .rename_i br dv hu;simp only[xam,xaE]at fN;obtain⟨⟨ak,an⟩,he⟩:=fN;subst ak;obtain⟨xs,fX,aN,rfl,b2,lA,FM⟩:=DataW.trod_array hu h;cases aN;simp only[fc.fA]at mq;simp only[DataW.weights,hu]at kJ;have each:∀i,i<k->∃aQ,∃x,xs[i]?=some x/\rd e x.1=some aQ/\mE e aQ/\Rel m aQ ((cs.drop (i*P.cellsOf dv)).take (P.cellsOf dv)):=by
     intro i ah;have ab:=FM i ah;rw[xaa (by omega)]at ab;have RN:((xs[i]'(by omega)).1.weights P dv).all (·<=reachBytes)=true:=by refine xaA.2 λy aJ=>xaA.1 kJ y ?_;exact RM (xap.2 ⟨_,xaX _,rfl⟩) aJ
     obtain⟨aQ,aW,a2,bb⟩:=ih e dv _ _ he mq RN ab;exact⟨aQ,_,xaa (by omega),aW,a2,bb⟩
    obtain⟨es,aq,mA⟩:=RK k _ each;refine⟨es.flatten,?_,⟨es,rfl,aq,?_⟩,?_⟩
    .simp only[rd];rw[RL (rd e) (xs.map (·.1)) es (by simp;omega)];.rfl
     intro i x y ag aJ;obtain⟨z,ab,af,_⟩:=mA i y aJ;simp[ab]at ag;rw[<-ag];exact af
    .intro x ag;obtain⟨i,ah,rfl⟩:=List.getElem_of_mem ag;obtain⟨_,_,_,a2,_⟩:=mA i _ (xaa ah);exact a2
    have:=pieces (m:=m) (c:=P.cellsOf dv) (cs:=cs) es 0 (λi x ag=>by obtain⟨_,_,_,_,bb⟩:=mA i x ag;simpa using bb) (by rw[aq];omega);simpa using this
   cases fN
  |struct dq=>
   simp only[eD]at fN;split at fN
   .rename_i RI hu;obtain⟨xs,fX,aN,rfl,b2,lA,FM⟩:=DataW.trod_struct hu h;cases aN;simp only[fc.fA]at mq;simp only[DataW.weights,hu]at kJ;have go:∀(dq:List fc)(gs:List Field)(c6:List (DataW H×List MemPlace)) (off:Nat),yL P dq gs off (P.cellsOf t)=true->qx n dq=true->(DataW.weightsEach P (gs.map (·.type)) (c6.map (·.1))).all (·<=reachBytes)=true->c6.length=gs.length->(∀(i:Nat)(f:Field),gs[i]?=some f->DataW.trod enc P w base spare held n f.type ((cs.drop f.offset).take (P.cellsOf f.type))=c6[i]?)-> ∃aQ,LB dq (c6.map (·.1))=some aQ/\LA dq aQ/\Rel m aQ (cs.drop off):=by
     intro dq
     induction dq with
     |nil=>intro gs c6 off ab FN vY af aw;cases gs with|nil=>simp only[yL,xaE]at ab;have:c6=[]:=xaI af;subst this;refine⟨[],rfl,rfl,?_⟩;rw[xch (by omega)];trivial|cons _ _=>simp[yL]at ab
     |cons f dq alH=>
      intro gs c6 off ab FN vY af aw;cases gs with
      |nil=>simp[yL]at ab
      |cons g gs=>
       cases c6 with
       |nil=>simp at af
       |cons y c6=>
        simp only[yL,xam,xaE]at ab;obtain⟨⟨aO,aX⟩,bQ⟩:=ab;simp only[qx,xam]at FN;simp only[xaz,DataW.weightsEach,List.all_append,xam]at vY;obtain⟨a,ao,bc,b9⟩:=ih f g.type _ y aX FN.1 vY.1 (aw 0 g rfl);obtain⟨b,eO,hf,j5⟩:=alH gs c6 _ bQ FN.2 vY.2 (by simpa using af) (λi f ba=>by simpa using aw (i+1) f (by simpa using ba));refine⟨a++b,by simp[LB,ao,eO],⟨a,b,rfl,bc,hf⟩,?_⟩;have e:cs.drop off=(cs.drop off).take (P.cellsOf g.type)++cs.drop (off+P.cellsOf g.type):=by
         conv=>lhs;rw[<-xbv (P.cellsOf g.type) (cs.drop off)]
         rw[List.drop_drop]
        rw[e];refine Rel.append ?_ j5;rw[<-aO];exact b9
    obtain⟨aQ,aW,a2,bb⟩:=go dq RI.toList xs 0 fN mq kJ (by simpa using lA) (λi f ba=>FM i f (by simpa using ba));exact⟨aQ,aW,a2,by simpa using bb⟩
   cases fN
end
open Go.ChangeShapes Go.WideShapes Go.ChangeAt Go.RowKit
def BQ:fc->D->Prop
 | .struct dq,d=>∃aQ,d= .agg aQ/\LA dq aQ| .arr _ _,_=>False|ty,d=>mE ty [d]
def LC{H:Type}(ty:fc)(x:DataW H)(d:D):Prop:=match ty with| .struct dq=>∃aQ,d= .agg aQ/\rd (.struct dq) x=some aQ|ty=>rd ty x=some [d]
abbrev rC:=Nat->fc
def RP(t:fc):rC:=λ_=>t
mutual
def s4:fc->Bool
 | .stop=>false| .slice _ _ e=>s4 e| .arr _ e=>s4 e| .struct dq=>LD dq|_=>true
def LD:List fc->Bool
 |[]=>true|f::dq=>s4 f&&LD dq
end
mutual
def wT:∀(n:Nat)(t:fc),s4 t=true->t.fA n=true
 |0,t,_=>by cases t<;>rfl
 |n+1,.stop,h=>by simp[s4]at h|n+1,.slice _ _ e,h=>by rw[s4]at h;rw[fc.fA];exact wT n e h|n+1,.arr _ e,h=>by rw[s4]at h;rw[fc.fA];exact wT n e h|n+1,.struct dq,h=>by rw[s4]at h;rw[fc.fA];exact Zj n dq h|n+1,.bool,_=>rfl|n+1,.int _,_=>rfl|n+1,.str,_=>rfl
def Zj:∀(n:Nat)(t:List fc),LD t=true->qx n t=true
 |n,[],_=>by cases n<;>rfl
 |n,f::dq,h=>by rw[LD,xam]at h;rw[qx,wT n f h.1,Zj n dq h.2];rfl
end
def Zk:fc->Bool
 | .arr _ _=>false|_=>true
structure s5(P:Program)(F:rC)(t:TypeId):Prop where
 deep:∀n,(F n).fA n=true
 ok:∀n,eD P (F n) t=true
 lt:t<P.types.size
 alI:∀n,Zk (F n)=true
def alJ{P:Program}{y:fc}{t:TypeId}(h:(s4 y&&Zk y&&eD P y t&&decide (t<P.types.size))=true):s5 P (RP y) t:=by simp only[xam,xaE]at h;exact⟨λn=>wT n y h.1.1.1,λ_=>h.1.2,h.2,λ_=>h.1.1.2⟩
def BR(P:Program):List rC->List TypeId->Prop
 |[],[]=>True|F::Fs,t::ts=>s5 P F t/\BR P Fs ts|_,_=>False
def BR.lt{P:Program}:∀{Fs:List rC}{ts:List TypeId},BR P Fs ts->∀t∈ts,t<P.types.size
 |[],[],_,t,h=>by simp at h
 |F::Fs,u::ts,h,t,aL=>by
  rcases xal.1 aL with rfl|aL;.exact h.1.lt
  exact BR.lt h.2 t aL
 |[],_::_,h,_,_=>h.elim|_::_,[],h,_,_=>h.elim
def rD{H:Type}:List rC->List (DataW H)->List D->Prop
 |[],[],[]=>True|F::Fs,x::xs,d::aQ=>(∃n,LC (F n) x d/\BQ (F n) d)/\rD Fs xs aQ|_,_,_=>False
section
variable{H:Type}{enc:TypeId×Value->H}{P:Program}{w:World}
def LF{m:Mem}{aQ:List D}{v:Value}(h:Rel m aQ [v]):∃d,aQ=[d]/\dx m d v:=by cases aQ with|nil=>exact h.elim|cons d r=>cases r with|nil=>exact⟨d,rfl,h.2.1⟩|cons _ _=>exact h.2.2.elim
def alK{m:Mem}{aQ:List D}{cs:Array Value}(h:Rel m aQ cs.toList):dx m (.agg aQ) (.agg cs):=by
 refine .agg _ _ (by simpa using h.len) ?_;intro i c v an a3;obtain⟨u,ab,_,af⟩:=h.at i c an;have:cs[i]?=some u:=by simpa using ab
 rw[a3]at this;cases this;exact af
def alL(m:Mem)(hm:∀(b:Nat)(o:Obj),w.heap[b]?=some o->m b=some o){r:Reach}{fM base:Nat}{sp:Nat->Bool}{held:Bool}{F:rC}{t:TypeId}{v:Value}{x:DataW H}{j0:List MemPlace} (h2:s5 P F t) (kJ:(x.weights P t).all (·<=reachBytes)=true) (oX:Value.okWide P w r fM t v) (h:DataW.Trod enc P w base sp held t v x j0):∃d n,LC (F n) x d/\BQ (F n) d/\dx m d v:=by
 obtain⟨n,aN⟩:=h;have fN:=h2.ok n;have FO:=h2.alI n;obtain⟨aQ,ab,af,aw⟩:=Zi m hm n (F n) t _ _ fN (h2.deep n) kJ aN
 suffices h:∃d,LC (F n) x d/\BQ (F n) d/\dx m d v from let⟨d,a⟩:=h;⟨d,n,a⟩
 clear h2 aN;generalize F n=ty at*;cases ty with
 |bool=>
  simp only[eD]at fN;split at fN;.obtain⟨b,rfl⟩:=okWide_bool ‹_› oX;obtain⟨d,rfl,ay⟩:=LF aw;exact⟨d,ab,af,ay⟩
  cases fN
 |int k=>
  simp only[eD]at fN;split at fN;.obtain⟨b,rfl⟩:=okWide_int ‹_› oX;obtain⟨d,rfl,ay⟩:=LF aw;exact⟨d,ab,af,ay⟩
  cases fN
 |str=>
  simp only[eD]at fN;split at fN;.obtain⟨b,rfl⟩:=okWide_string ‹_› oX;obtain⟨d,rfl,ay⟩:=LF aw;exact⟨d,ab,af,ay⟩
  cases fN
 |stop=>exact(by simpa[mE]using af:False).elim
 |slice k FL e=>
  simp only[eD]at fN;split at fN;.obtain⟨a,l,c,rfl⟩:=okWide_slice ‹_› oX;obtain⟨d,rfl,ay⟩:=LF aw;exact⟨d,ab,af,ay⟩
  cases fN
 |arr n e=>cases FO
 |struct dq=>
  simp only[eD]at fN;split at fN;.obtain⟨cs,rfl,_⟩:=okWide_struct ‹_› oX;exact⟨.agg aQ,⟨aQ,rfl,ab⟩,⟨aQ,rfl,af⟩,alK aw⟩
  cases fN
def Zl(m:Mem)(hm:∀(b:Nat)(o:Obj),w.heap[b]?=some o->m b=some o){r:Reach}{fM base:Nat}{sp:Nat->Bool}{held:Bool}:∀{Fs:List rC}{ts:List TypeId}{vs:List Value}{xs:List (DataW H)} {j0:List MemPlace},BR P Fs ts->(DataW.weightsEach P ts xs).all (·<=reachBytes)=true->(∀(j:Nat) t v,ts[j]?=some t->vs[j]?=some v->Value.okWide P w r fM t v)->DataW.TrodAll enc P w base sp held ts vs xs j0-> ∃aQ,rD Fs xs aQ/\x7 m aQ vs
 |[],[],vs,xs,j0,_,_,_,h=>by obtain⟨rfl,rfl,rfl⟩:=trodAll_nil h;exact⟨[],trivial,rfl,by intro i d v ay;simp at ay⟩
 |F::Fs,t::ts,vs,xs,j0,fN,kJ,oX,h=>by obtain⟨v,RJ,x,J4,p,q,rfl,rfl,rfl,ab,af⟩:=trodAll_cons h;simp only[DataW.weightsEach,List.all_append,xam]at kJ;obtain⟨d,n,d1,d2,d3⟩:=alL m hm fN.1 kJ.1 (oX 0 t v rfl rfl) ab;obtain⟨aQ,aO,bQ⟩:=Zl m hm fN.2 kJ.2 (λj t v aL a3=>oX (j+1) t v (by simpa using aL) (by simpa using a3)) af;refine⟨d::aQ,⟨⟨n,d1,d2⟩,aO⟩,by simpa using bQ.1,?_⟩;intro i c u an hu;cases i with|zero=>simp at an hu;subst an;subst hu;exact d3|succ i=>exact bQ.2 i c u (by simpa using an) (by simpa using hu)
 |[],_::_,_,_,_,h,_,_,_=>h.elim|_::_,[],_,_,_,h,_,_,_=>h.elim
def again{W m3:World}(hle:∀(b:Nat)(o:Obj),W.heap[b]?=some o->m3.heap[b]?=some o)(aq:laidOutB P=true)(hm:mapsRowed P=true) (bn:((List.range P.types.size).all λt=>match P.underlying t with|some (.slice e)=>decide (0<P.cellsOf e)|_=>true)=true) {sp:Nat->Bool}: ∀{ts:List TypeId}{vs:List Value}{aQ:List (DataW H)} {j0:List MemPlace},(∀t∈ts,t<P.types.size)->DataW.TrodAll enc P W 0 (λ_=>true) true ts vs aQ j0->(∀p∈j0,p.block<W.heap.size)->(∀p∈j0,sp p.block=true)->DataW.TrodAll enc P m3 0 sp true ts vs aQ j0
 |[],[],[],_,_,h,_,_=>h
 |t::ts,v::vs,d::aQ,_,aL,⟨p,q,⟨n,ab⟩,af,e⟩,cu,aG=>by
  refine⟨p,q,⟨n,?_⟩,again hle aq hm bn (λt h=>aL t (by simp[h])) af (λx ag=>cu x (by rw[e];exact List.mem_append_right _ ag)) (λx ag=>aG x (by rw[e];exact List.mem_append_right _ ag)),e⟩;refine DataW.trod_stays (kids_rows aq hm) (λ{t e} ab af=>slices_full_of P bn t e ab af) (λh=>by cases h) (aL t (by simp)) ab ?_ (λx ag=>aG x (by rw[e];exact xbQ _ ag));intro x ag;have aj:=cu x (by rw[e];exact xbQ _ ag);have bO:m3.heap[x.block]?=W.heap[x.block]?:=by rw[xaq aj];exact hle _ _ (xaq aj)
  cases x with
  |cell b off=>show m3.cell? ⟨b,off,none⟩=W.cell? ⟨b,off,none⟩;unfold World.cell?;rw[show m3.heap[b]?=W.heap[b]? from bO]
  |map b=>exact bO
def LG(W:World):fP:=⟨λ_=>none,W.os,W.output,W.heap.size⟩
def alM(W:World):sI (λb=>W.heap[b]?) (LG W) W:=by refine⟨λb o h=>h,⟨λb o h=>by simp[LG]at h,rfl,rfl,xan _,?_⟩,λ_ _=>rfl⟩;intro b c t f aj an;have:W.heap[b]?=none:=Array.getElem?_eq_none aj;rw[an]at this;cases this
def alN{W m3:World}{cF:Mem}(hle:(show Mem fromλb=>W.heap[b]?).le cF)(h:sI cF (LG W) m3):
  W.keptBut m3 (λ_=>False)/\(∀a,m3.frozen? a=W.frozen? a)/\(∀(b:Nat)(o:Obj),W.heap[b]?=some o->m3.heap[b]?=some o):=by
 have bO:∀(b:Nat)(o:Obj),W.heap[b]?=some o->m3.heap[b]?=some o:=λb o aj=>h.mem b o (hle b o aj);refine⟨⟨h.frame.quiet.os,h.frame.quiet.out,λi ah=>?_⟩,λa=>?_,bO⟩
 .have ab:=xaq ah;have af:=bO i _ ab;rw[ab,af];split
  .rename_i aO aX;rw[aO]at aX;simp only[xaM,Obj.cells.injEq]at aX;obtain⟨rfl,rfl,rfl⟩:=aX;exact⟨rfl,rfl,rfl,λ_ _=>rfl⟩
  .rename_i aO aX;rw[aO]at aX;simp only[xaM,Obj.map.injEq]at aX;exact Or.inr ⟨aX.1.symm,aX.2.symm⟩
  rfl
 .unfold World.frozen?;cases aj:W.heap[a.block]? with
  |some o=>rw[bO _ _ aj]
  |none=>
   have jG:W.heap.size<=a.block:=by refine Nat.le_of_not_lt λcu=>?_;rw[xaq cu]at aj;cases aj
   cases g3:m3.heap[a.block]? with|none=>rfl|some o=>cases o with|cells c t f=>have:=h.frame.quiet.su _ c t f jG g3;subst this;simp|_=>rfl
def alO{G:dt}{f:FuncId}{fn:Func}{s:ChangeSpec}{Fs:List rC}{tr:TypeId}{W:World}{base:Nat}{args:Array Value}{aQ gs:List (DataW H)}{before:List MemPlace} (aq:laidOutB P=true) (hm:mapsRowed P=true) (bn:((List.range P.types.size).all λt=>match P.underlying t with|some (.slice e)=>decide (0<P.cellsOf e)|_=>true)=true) (fN:BR P Fs fn.params.toList) (Bo:fn.resultTypes= #[tr]) (Zm:P.underlying tr=some .bool) (Zn:s.vars=[]) (aG:∀aQ:List (DataW H),aQ.length=Fs.length->s.fn H aQ=⟨[.lit (.bool true)],aQ,[]⟩) (hY:∀jm,rD Fs aQ jm->er P G f jm (·=ax true)) (c4:kB G (λb:Nat=>W.heap[b]?)) {Zo:List TypeId} (alP:Zo=[]) (kJ:(DataW.weightsEach P (fn.params.toList++Zo) (aQ++gs)).all (·<=reachBytes)=true) (oX:∀(j:Nat) t v,fn.params[j]?=some t->args[j]?=some v->Value.okWide P W .any base t v) (BS:DataW.Whole enc P fn.params.toList s.vars false W args.toList aQ gs before):Calls P f args W λe m3=>∃v,e= .returned v/\s.post enc P fn false true false false W args v m3:=by
 have Zp:=BS;obtain⟨p,q,ds,hO,rfl,LH,k9⟩:=BS;rw[Zn]at hO;obtain⟨rfl,rfl⟩:=trodVars_none hO;subst alP;rw[xaG,xaG]at kJ;obtain⟨jm,d1,d3⟩:=Zl (λb=>W.heap[b]?) (λb o h=>h) fN kJ (λj t v aL a3=>oX j t v (by simpa using aL) (by simpa using a3)) ds;have an:=(hY jm d1).run (λb=>W.heap[b]?) (LG W) W args.toList c4 (alM W) d3;have b2:aQ.length=Fs.length:=by
  have:∀(dI:List rC)(aQ:List (DataW H)) (jm:List D),rD dI aQ jm->aQ.length=dI.length:=by
   intro dI
   induction dI with
   |nil=>intro aQ jm h;cases aQ<;>cases jm<;>simp_all [rD]
   |cons y dI ih=>
    intro aQ jm h;cases aQ with
    |nil=>cases jm<;>simp[rD]at h
    |cons x aQ=>cases jm with|nil=>simp[rD]at h|cons d jm=>simp[ih aQ jm h.2]
  exact this _ _ _ d1
 refine an.mono λe m3 ⟨v,cF,r,he,av,hle,dV,a3⟩=>?_;subst av;have yM:v= .bool true:=by cases a3;rfl
 subst yM;obtain⟨cD,dN,hv⟩:=alN hle dV;have cu:=Zp.lt;refine⟨_,he,?_⟩;have wS:=aG (aQ++[]) (by simpa using b2);simp only[xaG]at wS;refine post_of_same (pa:=p) (pv:=[]) Zp (λb sp ay=>?_) (λsp lH=>?_) (λsp lH=>?_) rfl (World.keptBut_mono (λ_ h=>h.elim) cD) dN (ok_one Bo rfl (okWide_bool_mk Zm _))
 .rw[xaG,wS,Bo];exact trodAll_cons_mk (shut_bool Zm true) trodAll_mk0
 .rw[xaG,wS];exact again hv aq hm bn fN.lt ds (λx ag=>cu x (by simpa using ag)) (λx ag=>lH x (by simpa using ag))
 rw[xaG,wS,Zn];rfl
def Zq{W:World}:∀(laid:List (String×DataW Unit)) (gs:List (Nat×TypeId×fc×List D)) (j0:List MemPlace),DataW.LaidVars P W laid j0->gs.length=laid.length->(∀(i:Nat) x g,laid[i]?=some x->gs[i]?=some g->P.globalNamed x.1=some g.1/\(P.globals[g.1]?).map (·.type)=some g.2.1/\eD P g.2.2.1 g.2.1=true/\rd g.2.2.1 x.2=some g.2.2.2/\s4 g.2.2.1=true/\(x.2.weights P g.2.1).all (·<=reachBytes)=true)-> ∀g∈gs,∃vs T eL,W.heap[g.1]?=some (.cells vs T eL)/\Rel (λb=>W.heap[b]?) g.2.2.2 vs.toList
 |[],[],_,_,_,_,g,b5=>by simp at b5
 |(n6,x)::laid,y::gs,j0,h,aq,ag,g,b5=>by
  obtain⟨lC,t,cs,fuel,p,q,ab,af,aw,a4,b6,_⟩:=h;rcases xal.1 b5 with rfl|b5
  .obtain⟨bc,b9,cL,c9,di,dD⟩:=ag 0 _ _ rfl rfl;have aO:=xaV (bc.symm.trans ab);subst aO;have aX:=xaV (b9.symm.trans af);subst aX;obtain⟨aQ,eO,_,j5⟩:=Zi (λb=>W.heap[b]?) (λb o h=>h) fuel _ _ _ _ cL (wT _ _ di) dD a4;have bQ:=xaV (c9.symm.trans eO);unfold World.var? at aw;rw[ab]at aw;simp only[Option.bind_some]at aw;split at aw
   .rename_i sw T eL bO;cases aw;exact⟨_,T,eL,bO,by rw[bQ];exact j5⟩
   cases aw
  exact Zq laid gs q b6 (by simpa using aq) (λi x g fv alQ=>ag (i+1) x g (by simpa using fv) (by simpa using alQ)) g b5
 |[],_::_,_,_,h,_,_,_=>by simp at h|_::_,[],_,_,h,_,_,_=>by simp at h
def alR{G:dt}{W:World}(gs:List (Nat×TypeId×fc×List D))(c4:∀g cs,G g=some cs->∃x∈gs,x.1=g/\x.2.2.2=cs) (h:∀g∈gs,∃vs T eL,W.heap[g.1]?=some (.cells vs T eL)/\Rel (λb=>W.heap[b]?) g.2.2.2 vs.toList):kB G (λb:Nat=>W.heap[b]?):=by
 intro g cs b5;obtain⟨x,ag,rfl,rfl⟩:=c4 g cs b5;obtain⟨vs,T,eL,ab,af⟩:=h x ag;refine⟨vs,T,eL,ab,λj=>(vs[j]?).getD undef,?_,?_⟩
 .intro j c an;obtain⟨v,bz,_,_⟩:=af.at j c an;have:vs[j]?=some v:=by simpa using bz
  simp[this]
 intro j c an;obtain⟨v,bz,_,bA⟩:=af.at j c an;have:vs[j]?=some v:=by simpa using bz
 simpa[this]using bA
end
def Zr:fc:= .struct [.str,.bool,.int .i64,.int .i64]
def LI:fc:= .slice 4 40 Zr
def RQ:fc:= .slice 1 16 .str
def qy{α:Type}(f:α->List D)(Q:α->Prop):∀(es:List (List D)),(∀x∈es,∃y,x=f y/\Q y)->∃l:List α,es=l.map f/\∀y∈l,Q y
 |[],_=>⟨[],rfl,by simp⟩|x::es,h=>by obtain⟨y,rfl,aJ⟩:=h x (by simp);obtain⟨l,rfl,aq⟩:=qy f Q es λx ag=>h x (by simp[ag]);exact⟨y::l,rfl,by intro z bn;rcases xal.1 bn with rfl|bn;exact aJ;exact aq z bn⟩
def alS{n:Int}(h:(Lit.int .i64 n).wf=true):pC n:=by have:=Go.bounds_i64 h;exact this
theorem FP{x:List D}(h:mE (.int .i64) x):∃n,x=[J n]/\pC n:=by obtain⟨n,rfl,aN⟩:=h;exact⟨n,rfl,alS aN⟩
def FQ{x:List D}(h:mE .str x):∃s,x=[aC s]/\s.size<=140737488351232:=h
def alT{x:List D}(h:mE .bool x):∃b,x=[ax b]:=h
def alU{x:List D}(h:mE Zr x):∃v:V,x=v.cells/\V.ok v:=by obtain⟨a,b,rfl,aE,c,d,rfl,an,e,f,rfl,he,g,i,rfl,b5,rfl⟩:=h;obtain⟨s,rfl,aG⟩:=FQ aE;obtain⟨q,rfl⟩:=alT an;obtain⟨lo,rfl,hG⟩:=FP he;obtain⟨ah,rfl,wC⟩:=FP b5;exact⟨⟨s,q,lo,ah⟩,rfl,hG,wC,by simp only;omega⟩
def alV{k b:Nat}{d:D}{e:fc}(h:mE (.slice k b e) [d]):∃es,d= .az k es/\es.length*b<=140737488351232/\∀x∈es,mE e x:=by obtain⟨es,he,_,ab,af⟩:=h;cases he;exact⟨es,rfl,ab,λx ag=>(af x ag).2⟩
abbrev eU:D:= .val (.slice none 0 0)
def cr(k:Nat)(nl:Bool)(es:List (List D)):D:=if nl&&es.isEmpty then eU else .az k es
section
variable{k:Nat}{nl:Bool}{es:List (List D)}
def BT:cr k false es= .az k es:=by simp[cr]
@[simp] theorem Zs:bD (cr k nl es)=some (J es.length):=by
 unfold cr;split;.rename_i h;simp at h;simp[h.2,J,bD]
 rfl
@[simp] theorem alW:bJ (cr k nl es)=true:=by unfold cr;split<;>rfl
@[simp] theorem alX:(cr k nl es).one=true:=by unfold cr;split<;>rfl
def FR{i:Nat}:bo k (cr k nl es) (J (i:Int))=es[i]?:=by
 unfold cr;split;.rename_i h;simp at h;simp[h.2,J,bo]
 simp
@[simp] theorem alY:k4 (cr k nl es)=some (if nl&&es.isEmpty then(0,[])else(k,es)):=by unfold cr;split<;>rfl
end
def alZ{k:Nat}{nl:Bool}{es:List (List D)}(h:0<k):∃q,k4 (cr k nl es)=some (q,es)/\(decide (q=k\/es=[])&&decide (0<k))=true/\(decide (q=k\/es=[]))=true:=by
 rw[alY];split;.rename_i bx;simp at bx;exact⟨0,by rw[bx.2],by simp[bx.2,h],by simp[bx.2]⟩
 exact⟨k,rfl,by simp[h],by simp⟩
inductive Tm where
 |mk (op n:Int) (name:ByteArray) (nl:Bool) (aU:List Tm)
namespace Tm
def op:Tm->Int| .mk o _ _ _ _=>o
def num:Tm->Int| .mk _ n _ _ _=>n
def name:Tm->ByteArray| .mk _ _ s _ _=>s
def nl:Tm->Bool| .mk _ _ _ b _=>b
def aU:Tm->List Tm| .mk _ _ _ _ l=>l
mutual
def cells:Tm->List D
 | .mk o n s b ks=>[J o,J n,aC s,cr 4 b (rows ks)]
def rows:List Tm->List (List D)
 |[]=>[]|t::r=>cells t::rows r
end
def d(t:Tm):D:= .agg t.cells
mutual
def bl:Tm->Nat
 | .mk _ _ _ _ ks=>2+dP ks
def dP:List Tm->Nat
 |[]=>0|t::r=>1+bl t+dP r
end
def mF:∀l:List Tm,rows l=l.map cells
 |[]=>rfl|t::r=>by simp[rows,mF r]
@[simp] theorem BU {l:List Tm}:(rows l).length=l.length:=by simp[mF]
def FT{l:List Tm}{i:Nat}{t:Tm}(h:l[i]?=some t):(rows l)[i]?=some t.cells:=by simp[mF,h]
def gN{l:List Tm}{b:Bool}{i:Nat}{t:Tm}(h:l[i]?=some t):bo 4 (cr 4 b (rows l)) (J (i:Int))=some t.cells:=by rw[FR,FT h]
def BV:∀l:List Tm,l.length<=dP l
 |[]=>xan 0|t::r=>by simp only[dP,xar];have:=BV r;omega
def yN:∀{l:List Tm}{t:Tm},t∈l->bl t+1<=dP l
 |a::r,t,h=>by
  simp only[dP];rcases xal.1 h with rfl|h
  .omega
  have:=yN h;omega
def ja{t k:Tm}(h:k∈t.aU):k.bl+3<=t.bl:=by cases t with|mk o n s b ks=>simp only[bl];have:=yN (show k∈ks from h);omega
def j6{t:Tm}:t.aU.length+2<=t.bl:=by cases t with|mk o n s b ks=>simp only[bl];have:=BV ks;show ks.length+2<=_;omega
def ind{P:Tm->Prop}(h:∀t:Tm,(∀k∈t.aU,P k)->P t)(t:Tm):P t:=by
 have:∀(n:Nat)(t:Tm),t.bl<=n->P t:=by
  intro n
  induction n with
  |zero=>intro t aL;cases t;simp[bl]at aL
  |succ n ih=>intro t aL;exact h t λk ak=>ih k (by have:=ja ak;omega)
 exact this _ t (xan _)
inductive cc:Tm->Prop where
 |mk (o n:Int) (s:ByteArray) (b:Bool) (ks:List Tm) (aF:-9223372036854775808<=o/\o<=9223372036854775807) (aN:-9223372036854775808<=n/\n<=9223372036854775807) (aG:s.size<=140737488355328) (aq:ks.length*56<=140737488355328) (ak:∀k∈ks,cc k):cc (.mk o n s b ks)
def cc.gl{t k:Tm}(h:cc t)(ak:k∈t.aU):cc k:=by cases h with|mk o n s b ks aF aN aG aq fU=>exact fU k ak
def cc.len{t:Tm}(h:cc t):t.aU.length*56<=140737488355328:=by cases h;assumption
theorem nu(t:Tm):t.cells=[J t.op,J t.num,aC t.name,cr 4 t.nl (rows t.aU)]:=by cases t;rfl
theorem j7(t:Tm):t.d= .agg [J t.op,J t.num,aC t.name,cr 4 t.nl (rows t.aU)]:=by cases t;rfl
@[simp] theorem oY (t:Tm):a6 4 t.d=true:=by rw[j7];simp
@[simp] theorem uQ (t:Tm):ad t.d 0=J t.op:=by rw[j7];rfl
@[simp] theorem yO (t:Tm):ad t.d 1=J t.num:=by rw[j7];rfl
@[simp] theorem yP (t:Tm):ad t.d 2=aC t.name:=by rw[j7];rfl
@[simp] theorem wU (t:Tm):ad t.d 3=cr 4 t.nl (rows t.aU):=by rw[j7];rfl
@[simp] theorem FU (t:Tm):D.agg [J t.op,J t.num,aC t.name,cr 4 t.nl (rows t.aU)]=t.d:=(j7 t).symm
@[simp high] theorem RR (t:Tm):a5 true 4 0 t.cells=some t.d:=by rw[j7,nu];rfl
@[simp] theorem gn (t:Tm):t.cells[0]?=some (J t.op):=by rw[nu];rfl
@[simp] theorem hx (t:Tm):t.cells[1]?=some (J t.num):=by rw[nu];rfl
@[simp] theorem al0 (t:Tm):t.cells[2]?=some (aC t.name):=by rw[nu];rfl
@[simp] theorem al1 (t:Tm):t.cells[3]?=some (cr 4 t.nl (rows t.aU)):=by rw[nu];rfl
end Tm
def dJ{β α σ:Type}{f:List D->Option (List D⊕β)}(l:List α)(S:Nat->σ->List D)(R:List α->σ->β)(Inv:Nat->σ->Prop) (ar:∀s,Inv l.length s->f (S l.length s)=some (.inr (R [] s))) (ab:∀(i:Nat)(a:α)(s:σ),l[i]?=some a->i<l.length->Inv i s->(∃s',f (S i s)=some (.inl (S (i+1) s'))/\R (a::l.drop (i+1)) s=R (l.drop (i+1)) s'/\Inv (i+1) s')\/f (S i s)=some (.inr (R (a::l.drop (i+1)) s))): ∀(m i:Nat)(s:σ),Inv i s->l.length-i<m->i<=l.length->bq f m (S i s)=some (R (l.drop i) s)
 |0,i,s,_,h,_=>absurd h (xay _)
 |m+1,i,s,ah,hm,hle=>by
  rw[jP];by_cases h:i<l.length
  .have b5:=xaa h;have e:l.drop i=l[i]::l.drop (i+1):=xbc h;rcases ab i _ s b5 h ah with⟨s',aW,a2,bb⟩|aW
   .rw[aW,e,a2];exact dJ l S R Inv ar ab m (i+1) s' bb (by omega) h
   rw[aW,e];rfl
  have:i=l.length:=by omega
  subst this;rw[ar s ah,xch (xan _)];rfl
def LJ(op:Int):op=1\/op=2\/op=3\/op=4\/op=5\/op=6\/op=7\/op=8\/op=9\/op=10\/op=11\/op=12\/op=13\/op=14\/op=15\/op=16\/op=17\/op=18\/(op<1\/op>18):=by omega
@[simp] theorem aAH {f:FuncId}:rA f (.val (.func (.func f) #[] #[]))=true:=by simp[rA]
@[simp] theorem qz {f:FuncId} {cs:List D}:hN f (.fn (.func f) [] cs)=some cs:=by simp[hN]
def Zt(a b:Int):l1 true [J a,J b]=some (J (if b>a then b else a)):=by simp[l1,q1,sz,J,nX]
def Zu(a b:Int):l1 false [J a,J b]=some (J (if b<a then b else a)):=by simp[l1,q1,sz,J,nX]
@[simp] theorem Zv {b:Bool}:(ax b).flat=true:=rfl
@[simp] theorem al2 {b:Int}:(J b).flat=true:=rfl
@[simp] theorem al3 {b:ByteArray}:(aC b).flat=true:=rfl
@[simp] theorem aAI {a:Int}:dk .neg (J a)=some (J (IntKind.i64.wrap (-a))):=by rw[<-Int.zero_sub];rfl
theorem Zw:(D.val (.bool false))=ax false:=rfl
theorem Zx:(D.val (.int .i64 0))=J 0:=rfl
theorem Zy:(D.val (.string ⟨#[]⟩))=aC ⟨#[]⟩:=rfl
@[simp] theorem al4 (a b c:D):a6 3 (.agg [a,b,c])=(a.one&&(b.one&&c.one)):=by simp[a6]
@[simp] theorem al5 (a b c e:D):a6 4 (.agg [a,b,c,e])=(a.one&&(b.one&&(c.one&&e.one))):=by simp[a6]
@[simp] theorem aAJ {a:D} {l:List D}:ad (.agg (a::l)) 0=a:=rfl
@[simp] theorem aAK {a b:D} {l:List D}:ad (.agg (a::b::l)) 1=b:=rfl
@[simp] theorem aAL {a b c:D} {l:List D}:ad (.agg (a::b::c::l)) 2=c:=rfl
@[simp] theorem aAM {a b c e:D} {l:List D}:ad (.agg (a::b::c::e::l)) 3=e:=rfl
theorem b0{bt:Bool}{i:Nat}(h:i<1000000000000000000):ai bt .add (J (i:Int)) (J 1)=some (J ((i+1:Nat):Int)):=by rw[gx (by omega) (by omega)];rfl
def l9{bt:Bool}{i:Int}(h:-9223372036854775809<=i)(bx:i<9223372036854775807):ai bt .add (J i) (J 1)=some (J (i+1)):=by rw[gx (by omega) (by omega)]
section
variable{α β:Type}{c:Prop}[Decidable c]
@[simp] theorem aAN {a b:α}:(if c then(Sum.inl a:α⊕β)else Sum.inl b)=Sum.inl (if c then a else b):=by split<;>rfl
@[simp] theorem aAO {a b:β}:(if c then(Sum.inr a:α⊕β)else Sum.inr b)=Sum.inr (if c then a else b):=by split<;>rfl
@[simp] theorem aAP {a b:α} {l r:List α}:(if c then a::l else b::r)=(if c then a else b)::(if c then l else r):=by split<;>rfl
@[simp] theorem aAQ {a b:Int}:(if c then J a else J b)=J (if c then a else b):=by split<;>rfl
@[simp] theorem aAR {a b:ByteArray}:(if c then aC a else aC b)=aC (if c then a else b):=by split<;>rfl
@[simp] theorem Zz {a b:List D}:(if c then D.aZ a else D.aZ b)=D.aZ (if c then a else b):=by split<;>rfl
@[simp] theorem aAS {a b:List D}:(if c then D.agg a else D.agg b)=D.agg (if c then a else b):=by split<;>rfl
@[simp] theorem aAT {f:List D->Option β} {x y:List D⊕β}:a9 f (if c then x else y)=if c then a9 f x else a9 f y:=by split<;>rfl
@[simp] theorem aAU {x y:Option α} {f:α->Option β}:aa (if c then x else y) f=if c then aa x f else aa y f:=by split<;>rfl
end
section
variable{dY:Type}{c:Prop}[Decidable c]
@[simp] theorem aAV {x y:D} {w:Bool} {p:Option D}:bL (if c then x else y) w p=if c then bL x w p else bL y w p:=by split<;>rfl
@[simp] theorem aAW {x y:D} {w:Bool} {p q:Option dY}:wE (if c then x else y) w p q=if c then wE x w p q else wE y w p q:=by split<;>rfl
@[simp] theorem aAX {x y a b:D}:bV (if c then x else y) a b=if c then bV x a b else bV y a b:=by split<;>rfl
@[simp] theorem aAY {x y:D} {p q:Option dY}:aI (if c then x else y) p q=if c then aI x p q else aI y p q:=by split<;>rfl
@[simp] theorem aAZ {x y:D} {o:UnOp}:dk o (if c then x else y)=if c then dk o x else dk o y:=by split<;>rfl
end
@[simp] theorem aA0 {a b:Bool}:ax a=ax b↔a=b:=⟨λh=>by cases h;rfl,λh=>by rw[h]⟩
@[simp] theorem aA1 {a b:Int}:J a=J b↔a=b:=⟨λh=>by cases h;rfl,λh=>by rw[h]⟩
@[simp] theorem aA2 {a b:ByteArray}:aC a=aC b↔a=b:=⟨λh=>by cases h;rfl,λh=>by rw[h]⟩
attribute [simp] Zw Zx Zy
def lJ(M:List (Value×D)):Prop:=∀e∈M,∃s,e.1= .string s
def gH:List (Value×D)->ByteArray->Option D
 |[],_=>none|(.string s,d)::r,x=>if s=x then some d else gH r x
 |_::r,x=>gH r x
def ZA{e:Value×D}{M:List (Value×D)}(h:lJ (e::M)):(∃s,e.1= .string s)/\lJ M:=⟨h e (by simp),λx ag=>h x (by simp[ag])⟩
def ZB(a b:ByteArray):Instr.sameNow .string (.string a) (.string b)=some (decide (b=a)):=by simp[Instr.sameNow,J2,eq_comm]
def ZC{M:List (Value×D)}(h:lJ M)(x:ByteArray):findD .string (.string x) M=some (gH M x):=by
 induction M with
 |nil=>rfl
 |cons e r ih=>
  obtain⟨⟨s,aG⟩,av⟩:=ZA h;obtain⟨k,d⟩:=e;simp only at aG;subst aG;simp only[findD,ZB,gH];by_cases ag:s=x;.simp[ag]
  simp[ag,ih av]
def al6{M:List (Value×D)}(h:lJ M)(x:ByteArray)(d:D):∃cY,q2 .string (.string x) d M=some cY/\lJ cY/\(∀y,gH cY y=if y=x then some d else gH M y)/\cY.length=M.length+(if(gH M x).isSome then 0 else 1):=by
 induction M with
 |nil=>exact⟨[(.string x,d)],rfl,by intro e he;simp at he;exact⟨x,by rw[he]⟩,λy=>by simp[gH,eq_comm],rfl⟩
 |cons e r ih=>
  obtain⟨⟨s,aG⟩,av⟩:=ZA h;obtain⟨k,d0⟩:=e;simp only at aG;subst aG;simp only[q2,ZB,gH];by_cases ag:s=x
  .refine⟨(.string x,d)::r,by simp[ag],?_,λy=>?_,by simp[ag]⟩
   .intro e he;rcases xal.1 he with rfl|he
    .exact⟨x,rfl⟩
    exact av e he
   simp only[gH];by_cases aJ:y=x;.simp[aJ]
   have:¬x=y:=λh=>aJ h.symm;subst ag;simp[aJ,this]
  obtain⟨cY,ab,af,aw,a4⟩:=ih av;refine⟨(.string s,d0)::cY,by simp[ag,ab],?_,λy=>?_,by simp[ag,a4];omega⟩
  .intro e he;rcases xal.1 he with rfl|he
   .exact⟨s,rfl⟩
   exact af e he
  simp only[gH,aw y];by_cases aJ:y=x;.subst aJ;simp[ag]
  simp[aJ]
theorem yQ{M:List (Value×D)}(h:lJ M){z:Value}{x:ByteArray}:j3 .string z true M (aC x)=some (match gH M x with|some d=> .aZ [d,ax true]|none=> .aZ [sB z,ax false]):=by simp only[j3,aC,ZC h];cases gH M x<;>rfl
def BW{M:List (Value×D)}(h:lJ M)(x:ByteArray)(d:D):∃cY,nr .string M (aC x) d=some cY/\lJ cY/\(∀y,gH cY y=if y=x then some d else gH M y)/\cY.length=M.length+(if(gH M x).isSome then 0 else 1):=al6 h x d
def uR(M:List (Value×D)):Prop:=∀e∈M,∃i,e.1= .int .i64 i
def m4:List (Value×D)->Int->Option D
 |[],_=>none|(.int .i64 s,d)::r,x=>if s=x then some d else m4 r x
 |_::r,x=>m4 r x
def ZD{e:Value×D}{M:List (Value×D)}(h:uR (e::M)):(∃s,e.1= .int .i64 s)/\uR M:=⟨h e (by simp),λx ag=>h x (by simp[ag])⟩
def ZE(a b:Int):Instr.sameNow (.int .i64) (.int .i64 a) (.int .i64 b)=some (decide (b=a)):=by
 by_cases h:a=b;.subst h;simp[Instr.sameNow]
 have bx:¬b=a:=λe=>h e.symm;simp[Instr.sameNow,h,bx]
def al7{M:List (Value×D)}(h:uR M)(x:Int):findD (.int .i64) (.int .i64 x) M=some (m4 M x):=by
 induction M with
 |nil=>rfl
 |cons e r ih=>
  obtain⟨⟨s,aG⟩,av⟩:=ZD h;obtain⟨k,d⟩:=e;simp only at aG;subst aG;simp only[findD,ZE,m4];by_cases ag:s=x;.simp[ag]
  simp[ag,ih av]
def al8{M:List (Value×D)}(h:uR M)(x:Int)(d:D):∃cY,q2 (.int .i64) (.int .i64 x) d M=some cY/\uR cY/\(∀y,m4 cY y=if y=x then some d else m4 M y)/\cY.length=M.length+(if(m4 M x).isSome then 0 else 1):=by
 induction M with
 |nil=>exact⟨[(.int .i64 x,d)],rfl,by intro e he;simp at he;exact⟨x,by rw[he]⟩,λy=>by simp[m4,eq_comm],rfl⟩
 |cons e r ih=>
  obtain⟨⟨s,aG⟩,av⟩:=ZD h;obtain⟨k,d0⟩:=e;simp only at aG;subst aG;simp only[q2,ZE,m4];by_cases ag:s=x
  .refine⟨(.int .i64 x,d)::r,by simp[ag],?_,λy=>?_,by simp[ag]⟩
   .intro e he;rcases xal.1 he with rfl|he
    .exact⟨x,rfl⟩
    exact av e he
   simp only[m4];by_cases aJ:y=x;.simp[aJ]
   have:¬x=y:=λh=>aJ h.symm;subst ag;simp[aJ,this]
  obtain⟨cY,ab,af,aw,a4⟩:=ih av;refine⟨(.int .i64 s,d0)::cY,by simp[ag,ab],?_,λy=>?_,by simp[ag,a4];omega⟩
  .intro e he;rcases xal.1 he with rfl|he
   .exact⟨s,rfl⟩
   exact af e he
  simp only[m4,aw y];by_cases aJ:y=x;.subst aJ;simp[ag]
  simp[aJ]
theorem al9{M:List (Value×D)}(h:uR M){z:Value}{ok:Bool}{x:Int}:j3 (.int .i64) z ok M (J x)=some (match m4 M x with|some d=>if ok then .aZ [d,ax true]else d|none=>if ok then .aZ [sB z,ax false]else sB z):=by simp only[j3,J,al7 h];cases m4 M x<;>rfl
def ama{M:List (Value×D)}(h:uR M)(x:Int)(d:D):∃cY,nr (.int .i64) M (J x) d=some cY/\uR cY/\(∀y,m4 cY y=if y=x then some d else m4 M y)/\cY.length=M.length+(if(m4 M x).isSome then 0 else 1):=al8 h x d
def ZF:∀x:List UInt8,Op.bytesLess x x=false
 |[]=>rfl|a::x=>by simp[Op.bytesLess,ZF x]
def ZG:∀x y z:List UInt8,Op.bytesLess x y=true->Op.bytesLess y z=true->Op.bytesLess x z=true
 |[],[],z,h,_=>by simp[Op.bytesLess]at h|[],b::y,[],_,h=>by simp[Op.bytesLess]at h|[],b::y,c::z,_,_=>rfl|a::x,[],z,h,_=>by simp[Op.bytesLess]at h|a::x,b::y,[],_,h=>by simp[Op.bytesLess]at h
 |a::x,b::y,c::z,ab,af=>by
  simp only[Op.bytesLess,xbf,xam,xaE,xbH,UInt8.lt_iff_toNat_lt]at*;rcases ab with ab|⟨rfl,ab⟩
  .rcases af with af|⟨rfl,af⟩;.exact .inl (by omega)
   exact .inl ab
  rcases af with af|⟨rfl,af⟩;.exact .inl af
  exact .inr ⟨rfl,ZG x y z ab af⟩
def ZH:∀x y:List UInt8,Op.bytesLess x y=true\/x=y\/Op.bytesLess y x=true
 |[],[]=> .inr (.inl rfl)|[],b::y=> .inl rfl|a::x,[]=> .inr (.inr rfl)
 |a::x,b::y=>by
  simp only[Op.bytesLess,xbf,xam,xaE,xbH,UInt8.lt_iff_toNat_lt,List.cons.injEq];by_cases ab:a.toNat<b.toNat;.exact .inl (.inl ab)
  by_cases af:b.toNat<a.toNat;.exact .inr (.inr (.inl af))
  have:a=b:=UInt8.toNat_inj.1 (by omega);subst this;rcases ZH x y with h|h|h
  .exact .inl (.inr ⟨rfl,h⟩)
  .exact .inr (.inl ⟨rfl,h⟩)
  exact .inr (.inr (.inr ⟨rfl,h⟩))
def nv(x:ByteArray):blt x x=false:=ZF _
def s6{x y z:ByteArray}(h:blt x y=true)(bx:blt y z=true):blt x z=true:=ZG _ _ _ h bx
def BX(x y:ByteArray):blt x y=true\/x=y\/blt y x=true:=by
 rcases ZH x.toList y.toList with h|h|h;.exact .inl h
 .exact .inr (.inl (V4 h))
 exact .inr (.inr h)
def amb(y x:ByteArray):(!(blt y x||decide (y=x)))=blt x y:=by
 rcases BX x y with h|h|h
 .have ab:blt y x=false:=by
   cases bj:blt y x with|false=>rfl|true=>have:=s6 h bj;rw[nv]at this;cases this
  have af:y≠x:=by rintro rfl;rw[nv]at h;cases h
  simp[h,ab,af]
 .subst h;simp[nv]
 have ab:blt x y=false:=by cases bj:blt x y with|false=>rfl|true=>have:=s6 h bj;rw[nv]at this;cases this
 simp[h,ab]
def LK{bt:Bool}{x y:ByteArray}:ai bt .gtr (aC y) (aC x)=some (ax (blt x y)):=by rw[RH,amb]
def hP:List ByteArray->Prop
 |[]=>True|a::r=>(∀b∈r,blt a b=true)/\hP r
def hQ(s:ByteArray):List ByteArray->List ByteArray
 |[]=>[s]|a::r=>if a=s then a::r else if blt s a then s::a::r else a::hQ s r
def RS{s x:ByteArray}:∀{l:List ByteArray},x∈hQ s l->x=s\/x∈l
 |[],h=>by simp[hQ]at h;exact .inl h
 |a::r,h=>by
  rw[hQ]at h;split at h;.exact .inr h
  split at h
  .rcases xal.1 h with h|h;.exact .inl h
   exact .inr h
  rcases xal.1 h with h|h;.exact .inr (by simp[h])
  rcases RS h with h|h;.exact .inl h
  exact .inr (by simp[h])
def FV{s:ByteArray}:∀{l:List ByteArray},hP l->hP (hQ s l)
 |[],_=>⟨by simp,trivial⟩
 |a::r,h=>by
  rw[hQ];split;.exact h
  rename_i cK;split
  .rename_i cu;refine⟨λb aj=>?_,h⟩;rcases xal.1 aj with rfl|aj
   .exact cu
   exact s6 cu (h.1 b aj)
  rename_i wV;refine⟨λb aj=>?_,FV h.2⟩;rcases RS aj with rfl|aj
  .rcases BX a b with ab|ab|ab;.exact ab
   .exact absurd ab cK
   rw[ab]at wV;exact absurd rfl wV
  exact h.1 b aj
def RT{s:ByteArray}:∀{l:List ByteArray},hP l->s∈l->hQ s l=l
 |[],_,h=>by cases h
 |a::r,aG,h=>by
  rw[hQ];rcases xal.1 h with rfl|h
  .rw[xad rfl]
  have cu:=aG.1 s h;have cK:¬a=s:=by rintro rfl;rw[nv]at cu;cases cu
  have wV:¬blt s a=true:=λbx=>by have:=s6 cu bx;rw[nv]at this;cases this
  rw[xac cK,xac wV,RT aG.2 h]
def ZI{s:ByteArray}:∀{l:List ByteArray},hP l->s∉l->∃a b,l=a++b/\hQ s l=a++s::b/\(∀x∈a,blt x s=true)/\(∀x∈b,blt s x=true)
 |[],_,_=>⟨[],[],rfl,rfl,by simp,by simp⟩
 |a::r,aG,h=>by
  have cK:¬a=s:=λe=>h (by simp[e]);rw[hQ,xac cK];by_cases aq:blt s a=true
  .rw[xad aq];exact⟨[],a::r,rfl,rfl,by simp,λx ag=>by
    rcases xal.1 ag with rfl|ag;.exact aq
    exact s6 aq (aG.1 x ag)⟩
  rw[xac aq];obtain⟨p,q,ab,af,aw,a4⟩:=ZI (l:=r) (s:=s) aG.2 (λhm=>h (xbI _ hm));refine⟨a::p,q,by rw[ab];rfl,by rw[af];rfl,λx ag=>?_,a4⟩;rcases xal.1 ag with rfl|ag
  .rcases BX x s with b6|b6|b6;.exact b6
   .exact absurd b6 cK
   exact absurd b6 aq
  exact aw x ag
def RU(s:ByteArray):∀{l:List ByteArray},hP l->∃a b,l=a++b/\(∀x∈a,blt s x=false)/\(∀x∈b,blt s x=true)/\(s∈l->∃cB,a=cB++[s])/\(s∉l->s∉a)/\(s∉l->hQ s l=a++s::b)
 |[],_=>⟨[],[],rfl,by simp,by simp,by simp,by simp,λ_=>rfl⟩
 |c::r,aG=>by
  by_cases hm:s∈c::r
  .by_cases an:c=s;.subst an;refine⟨[c],r,rfl,by simp[nv],aG.1,λ_=>⟨[],rfl⟩,λh=>absurd hm h,λh=>absurd hm h⟩
   have av:s∈r:=(xal.1 hm).resolve_left λh=>an h.symm;obtain⟨a,b,ab,af,aw,a4,b6,cP⟩:=RU s aG.2;obtain⟨cB,KZ⟩:=a4 av;refine⟨c::a,b,by rw[ab];rfl,?_,aw,λ_=>⟨c::cB,by rw[KZ];rfl⟩,λh=>absurd hm h,λh=>absurd hm h⟩;intro x ag;rcases xal.1 ag with rfl|ag
   .have cu:=aG.1 s av;cases bj:blt s x with|false=>rfl|true=>have:=s6 cu bj;rw[nv]at this;cases this
   exact af x ag
  obtain⟨a,b,ab,af,aw,a4⟩:=ZI aG hm;refine⟨a,b,ab,λx ag=>?_,a4,λh=>absurd h hm,λ_ aE=>hm (by rw[ab];simp[aE]),λ_=>af⟩;have cu:=aw x ag;cases bj:blt s x with|false=>rfl|true=>have:=s6 cu bj;rw[nv]at this;cases this
def FW{s:ByteArray}:∀(l:List ByteArray),(hQ s l).length<=l.length+1
 |[]=>by simp[hQ]
 |a::r=>by
  rw[hQ];split;.simp
  split;.simp
  have:=FW (s:=s) r;simp;omega
def pN:Nat->fc
 |0=> .stop|n+1=> .struct [.int .i64,.int .i64,.str,.slice 4 56 (pN n)]
def BY:∀(n m:Nat),m<=2*n->(pN n).fA m=true
 |0,m,h=>by
         have:m=0:=by omega
         subst this;rfl
 |n+1,0,_=>rfl|n+1,1,_=>rfl|n+1,m+2,h=>by have:=BY n m (by omega);simp only[pN,fc.fA,qx,this,xbu]
def LL{P:Program}{t s:TypeId}(ab:∀y,eD P (.struct [.int .i64,.int .i64,.str,y]) t=(eD P y s&&true))(af:∀y,eD P (.slice 4 56 y) s=eD P y t):∀n,eD P (pN n) t=true
 |0=>rfl|n+1=>by rw[pN,ab,af,LL ab af n];rfl
theorem amc{P:Program}{t s:TypeId}(ab:∀y,eD P (.struct [.int .i64,.int .i64,.str,y]) t=(eD P y s&&true))(af:∀y,eD P (.slice 4 56 y) s=eD P y t)(aq:decide (t<P.types.size)=true):s5 P pN t:=⟨λn=>BY n n (by omega),LL ab af,xba aq,λn=>by cases n<;>rfl⟩
def yR:∀(n:Nat){x:List D},mE (pN n) x->∃t:Tm,x=t.cells/\t.cc
 |0,x,h=>h.elim|n+1,x,h=>by obtain⟨a,b,rfl,aE,c,d,rfl,an,e,f,rfl,he,g,i,rfl,b5,rfl⟩:=h;obtain⟨op,rfl,eM⟩:=FP aE;obtain⟨amd,rfl,k0⟩:=FP an;obtain⟨s,rfl,aG⟩:=FQ he;obtain⟨es,rfl,_,aq,mA⟩:=b5;obtain⟨ks,rfl,eP⟩:=qy Tm.cells Tm.cc es λx ag=>yR n (mA x ag).2;refine⟨.mk op amd s false ks,?_,.mk _ _ _ _ _ eM k0 (by omega) (by simpa using xbh aq (by omega)) eP⟩;simp[Tm.cells,Tm.mF,cr]
def ZJ{H:Type}{F:rC}{Fs:List rC}{xs:List (DataW H)}{aQ:List D}(h:rD (F::Fs) xs aQ):∃x J4 d Be n,xs=x::J4/\aQ=d::Be/\LC (F n) x d/\BQ (F n) d/\rD Fs J4 Be:=by
 cases xs with
 |nil=>cases aQ<;>exact h.elim
 |cons x xs=>cases aQ with|nil=>exact h.elim|cons d aQ=>obtain⟨⟨n,ab,af⟩,aw⟩:=h;exact⟨x,xs,d,aQ,n,rfl,rfl,ab,af,aw⟩
def ame{H:Type}{xs:List (DataW H)}{aQ:List D}(h:rD [] xs aQ):xs=[]/\aQ=[]:=by cases xs<;>cases aQ<;>first|exact⟨rfl,rfl⟩|exact h.elim
@[simp] theorem aA3 (a:D):a6 1 (.agg [a])=a.one:=by simp[a6]
@[simp] theorem amf (a b:D):a6 2 (.agg [a,b])=(a.one&&b.one):=by simp[a6]
@[simp] theorem amg (a b c d e:D):a6 5 (.agg [a,b,c,d,e])=(a.one&&(b.one&&(c.one&&(d.one&&e.one)))):=by simp[a6]
@[simp] theorem amh (a b c d e f:D):a6 6 (.agg [a,b,c,d,e,f])=(a.one&&(b.one&&(c.one&&(d.one&&(e.one&&f.one))))):=by simp[a6]
@[simp] theorem ZK (a b c d e f g:D):a6 7 (.agg [a,b,c,d,e,f,g])=(a.one&&(b.one&&(c.one&&(d.one&&(e.one&&(f.one&&g.one)))))):=by simp[a6]
@[simp] theorem LM (a b c d e f g h:D):a6 8 (.agg [a,b,c,d,e,f,g,h])=(a.one&&(b.one&&(c.one&&(d.one&&(e.one&&(f.one&&(g.one&&h.one))))))):=by simp[a6]
@[simp] theorem aA4 {a b c e f:D} {l:List D}:ad (.agg (a::b::c::e::f::l)) 4=f:=rfl
@[simp] theorem aA5 {a b c e f g:D} {l:List D}:ad (.agg (a::b::c::e::f::g::l)) 5=g:=rfl
@[simp] theorem aA6 {a b c e f g h:D} {l:List D}:ad (.agg (a::b::c::e::f::g::h::l)) 6=h:=rfl
@[simp] theorem aA7 {a b c e f g h i:D} {l:List D}:ad (.agg (a::b::c::e::f::g::h::i::l)) 7=i:=rfl
theorem ami{β:Type}{x y:Bool}{f:D->Option β}:aa (bL (ax x) true (some (ax y))) (λv=>aa (bV (ax x) v (ax false)) f)=f (ax (x&&y)):=by cases x<;>rfl
theorem amj{β:Type}{x y:Bool}{f:D->Option β}:aa (bL (ax x) false (some (ax y))) (λv=>aa (bV (ax x) (ax true) v) f)=f (ax (x||y)):=by cases x<;>rfl
inductive Fm where
 |mk (op:Int) (e:Tm) (nl:Bool) (aU:List Fm)
def fQ:Tm:= .mk 0 0 ⟨#[]⟩ true []
def RV:fQ.cc:= .mk _ _ _ _ _ (by omega) (by omega) (by decide) (by simp) (by simp)
theorem LN:fQ.d=D.agg [J 0,J 0,aC ⟨#[]⟩,D.val (.slice none 0 0)]:=rfl
namespace Fm
def op:Fm->Int| .mk o _ _ _=>o
def e:Fm->Tm| .mk _ t _ _=>t
def nl:Fm->Bool| .mk _ _ b _=>b
def aU:Fm->List Fm| .mk _ _ _ l=>l
mutual
def cells:Fm->List D
 | .mk o t b ks=>[J o,J t.op,J t.num,aC t.name,cr 4 t.nl (Tm.rows t.aU),cr 6 b (rows ks)]
def rows:List Fm->List (List D)
 |[]=>[]|t::r=>cells t::rows r
end
def d(t:Fm):D:= .agg t.cells
mutual
def bl:Fm->Nat
 | .mk _ t _ ks=>2+t.bl+dP ks
def dP:List Fm->Nat
 |[]=>0|t::r=>1+bl t+dP r
end
def mF:∀l:List Fm,rows l=l.map cells
 |[]=>rfl|t::r=>by simp[rows,mF r]
@[simp] theorem BU {l:List Fm}:(rows l).length=l.length:=by simp[mF]
def FT{l:List Fm}{i:Nat}{t:Fm}(h:l[i]?=some t):(rows l)[i]?=some t.cells:=by simp[mF,h]
def gN{l:List Fm}{b:Bool}{i:Nat}{t:Fm}(h:l[i]?=some t):bo 6 (cr 6 b (rows l)) (J (i:Int))=some t.cells:=by rw[FR,FT h]
def BV:∀l:List Fm,l.length<=dP l
 |[]=>xan 0|t::r=>by simp only[dP,xar];have:=BV r;omega
def yN:∀{l:List Fm}{t:Fm},t∈l->bl t+1<=dP l
 |a::r,t,h=>by
  simp only[dP];rcases xal.1 h with rfl|h
  .omega
  have:=yN h;omega
theorem LO(t:Fm):t.bl=2+t.e.bl+dP t.aU:=by cases t;rfl
def ja{t k:Fm}(h:k∈t.aU):k.bl+3<=t.bl:=by have:=yN h;have:=LO t;omega
def j6{t:Fm}:t.aU.length+2<=t.bl:=by have:=BV t.aU;have:=LO t;omega
def yS{t:Fm}:t.e.bl+2<=t.bl:=by have:=LO t;omega
def ind{P:Fm->Prop}(h:∀t:Fm,(∀k∈t.aU,P k)->P t)(t:Fm):P t:=by
 have:∀(n:Nat)(t:Fm),t.bl<=n->P t:=by
  intro n
  induction n with
  |zero=>intro t aL;cases t;simp[bl]at aL
  |succ n ih=>intro t aL;exact h t λk ak=>ih k (by have:=ja ak;omega)
 exact this _ t (xan _)
inductive cc:Fm->Prop where
 |mk (o:Int) (t:Tm) (b:Bool) (ks:List Fm) (aF:-9223372036854775808<=o/\o<=9223372036854775807) (aL:t.cc) (aq:ks.length*88<=140737488355328) (ak:∀k∈ks,cc k):cc (.mk o t b ks)
def cc.gl{t k:Fm}(h:cc t)(ak:k∈t.aU):cc k:=by cases h with|mk o n s b ks aF aN aG=>exact aG k ak
def cc.len{t:Fm}(h:cc t):t.aU.length*88<=140737488355328:=by cases h;assumption
def cc.e{t:Fm}(h:cc t):t.e.cc:=by cases h;assumption
def cc.op{t:Fm}(h:cc t):-9223372036854775808<=t.op/\t.op<=9223372036854775807:=by cases h;assumption
theorem nu(t:Fm):t.cells=[J t.op,J t.e.op,J t.e.num,aC t.e.name,cr 4 t.e.nl (Tm.rows t.e.aU),cr 6 t.nl (rows t.aU)]:=by cases t;rfl
theorem j7(t:Fm):t.d= .agg [J t.op,J t.e.op,J t.e.num,aC t.e.name,cr 4 t.e.nl (Tm.rows t.e.aU),cr 6 t.nl (rows t.aU)]:=by cases t;rfl
@[simp] theorem oY (t:Fm):a6 6 t.d=true:=by rw[j7];simp
@[simp] theorem uQ (t:Fm):ad t.d 0=J t.op:=by rw[j7];rfl
@[simp] theorem yO (t:Fm):ad t.d 1=J t.e.op:=by rw[j7];rfl
@[simp] theorem yP (t:Fm):ad t.d 2=J t.e.num:=by rw[j7];rfl
@[simp] theorem wU (t:Fm):ad t.d 3=aC t.e.name:=by rw[j7];rfl
@[simp] theorem amk (t:Fm):ad t.d 4=cr 4 t.e.nl (Tm.rows t.e.aU):=by rw[j7];rfl
@[simp] theorem aml (t:Fm):ad t.d 5=cr 6 t.nl (rows t.aU):=by rw[j7];rfl
@[simp] theorem FU (t:Fm):D.agg [J t.op,J t.e.op,J t.e.num,aC t.e.name,cr 4 t.e.nl (Tm.rows t.e.aU),cr 6 t.nl (rows t.aU)]=t.d:=(j7 t).symm
@[simp high] theorem RR (t:Fm):a5 true 6 0 t.cells=some t.d:=by rw[j7,nu];rfl
end Fm
attribute [go_sem] eN s3 l8 n5 pM ami amj FK Ly oW BM BN yK RG Zg alD BO qw FJ RB ali alj alk alm alW aln alo alp alq alr alX als RD xbs xcc RC alw Zs alx alz Ze xbu xbD Bool.and_self xaC xaD Bool.not_true Bool.not_false xas Zv al2 al3 Bool.or_true Bool.true_or amf al4 al5 amg amh ZK LM Zw Zx Zy alh alg Tm.oY Tm.uQ Tm.yO Tm.yP Tm.wU Tm.FU Tm.RR Tm.BU Fm.oY Fm.uQ Fm.yO Fm.yP Fm.wU Fm.amk Fm.aml Fm.FU Fm.RR Fm.BU
def rE:Nat->fc
 |0=> .stop|n+1=> .struct [.int .i64,pN (n+1),.slice 6 88 (rE n)]
def RW:∀(n m:Nat),m<=2*n->(rE n).fA m=true
 |0,m,h=>by
         have:m=0:=by omega
         subst this;rfl
 |n+1,0,_=>rfl|n+1,1,_=>by simp[rE,fc.fA,qx]|n+1,m+2,h=>by have:=RW n m (by omega);have af:=BY (n+1) (m+1) (by omega);simp only[rE,fc.fA,qx,this,af,xbu]
def ZL{P:Program}{t s r q:TypeId}(ab:∀y z,eD P (.struct [.int .i64,y,z]) t=(eD P y r&&(eD P z s&&true)))(af:∀y,eD P (.slice 6 88 y) s=eD P y t)(aw:∀n,eD P (pN n) r=true):∀n,eD P (rE n) t=true
 |0=>rfl|n+1=>by rw[rE,ab,af,ZL (q:=q) ab af aw n,aw];rfl
theorem amm{P:Program}{t s r q:TypeId}(ab:∀y z,eD P (.struct [.int .i64,y,z]) t=(eD P y r&&(eD P z s&&true)))(af:∀y,eD P (.slice 6 88 y) s=eD P y t) (aw:∀y,eD P (.struct [.int .i64,.int .i64,.str,y]) r=(eD P y q&&true)) (a4:∀y,eD P (.slice 4 56 y) q=eD P y r) (aq:decide (t<P.types.size)=true):s5 P rE t:=⟨λn=>RW n n (by omega),ZL (q:=q) ab af (LL aw a4),xba aq,λn=>by cases n<;>rfl⟩
def ZM:∀(n:Nat){x:List D},mE (rE n) x->∃t:Fm,x=t.cells/\t.cc
 |0,x,h=>h.elim|n+1,x,h=>by obtain⟨a,b,rfl,aE,c,d,rfl,an,g,i,rfl,b5,rfl⟩:=h;obtain⟨op,rfl,eM⟩:=FP aE;obtain⟨t,rfl,aL⟩:=yR (n+1) an;obtain⟨es,rfl,_,aq,mA⟩:=b5;obtain⟨ks,rfl,eP⟩:=qy Fm.cells Fm.cc es λx ag=>ZM n (mA x ag).2;refine⟨.mk op t false ks,?_,.mk _ _ _ _ eM aL (by simpa using xbh aq (by omega)) eP⟩;simp[Fm.cells,Fm.mF,cr,Tm.nu]
structure a8 where
 name:ByteArray
 e:Tm
def a8.cells(d:a8):List D:=[aC d.name,J d.e.op,J d.e.num,aC d.e.name,cr 4 d.e.nl (Tm.rows d.e.aU)]
def a8.d(d:a8):D:= .agg d.cells
def aR(l:List a8):D:= .az 5 (l.map a8.cells)
def a8.cc(d:a8):Prop:=d.name.size<=140737488351232/\d.e.cc
section
variable{l:List a8}{i:Nat}{d:a8}
def fo(h:l[i]?=some d):bo 5 (aR l) (J (i:Int))=some d.cells:=by simp[aR,h]
def ef(l:List a8):bD (aR l)=some (J l.length):=by simp[aR]
@[simp] theorem a8.BZ (d:a8):a5 true 5 0 d.cells=some d.d:=rfl
@[simp] theorem a8.hx (d:a8):a5 true 4 1 d.cells=some d.e.d:=by rw[Tm.j7];rfl
@[simp] theorem a8.gn (d:a8):a5 false 1 0 d.cells=some (aC d.name):=rfl
@[simp] theorem a8.agg (d:a8):a6 5 d.d=true:=by unfold a8.d a8.cells;simp
@[simp] theorem a8.a7 (d:a8):ad d.d 0=aC d.name:=rfl
@[simp] theorem a8.bU (d:a8):ad d.d 1=J d.e.op:=rfl
@[simp] theorem a8.bY (d:a8):ad d.d 2=J d.e.num:=rfl
@[simp] theorem a8.cv (d:a8):ad d.d 3=aC d.e.name:=rfl
@[simp] theorem a8.dm (d:a8):ad d.d 4=cr 4 d.e.nl (Tm.rows d.e.aU):=rfl
end
def da(l:List a8)(x:ByteArray):Option Nat:=l.findIdx? (λd=>decide (d.name=x))
def RX{l:List a8}{x:ByteArray}{i:Nat}(h:da l x=some i):∃d,l[i]?=some d/\d.name=x/\i<l.length:=by obtain⟨ab,af,_⟩:=xbd.1 h;exact⟨_,xaa ab,by simpa using af,ab⟩
def de(l:List Nat):D:= .az 1 (l.map λ(i:Nat)=>[J (i:Int)])
def uS{l:List Nat}{i k:Nat}(h:l[i]?=some k):bo 1 (de l) (J (i:Int))=some [J (k:Int)]:=by simp[de,h]
def pO(l:List Nat):bD (de l)=some (J l.length):=by simp[de]
def h3(l:List (List Nat)):D:= .az 1 (l.map λx=>[de x])
def amn{l:List (List Nat)}{i:Nat}{k:List Nat}(h:l[i]?=some k):bo 1 (h3 l) (J (i:Int))=some [de k]:=by simp[h3,h]
def jQ(M:List (Value×D))(S:List Nat):Prop:=uR M/\∀i:Nat,m4 M (i:Int)=if i∈S then some (ax true)else none
theorem jQ.nil:jQ [] []:=⟨by(intro e he;cases he),λi=>rfl⟩
def jQ.look{M:List (Value×D)}{S:List Nat}(h:jQ M S){i:Nat}{z:Value}:j3 (.int .i64) (.bool false) false M (J (i:Int))=some (ax (decide (i∈S))):=by rw[al9 h.1,h.2 i];by_cases ah:i∈S<;>simp[ah,sB]
def jQ.put{M:List (Value×D)}{S:List Nat}(h:jQ M S)(i:Nat):∃cY,nr (.int .i64) M (J (i:Int)) (ax true)=some cY/\jQ cY (if i∈S then S else S++[i]):=by
 obtain⟨cY,ab,af,aw,_⟩:=ama h.1 (i:Int) (ax true);refine⟨cY,ab,af,λj=>?_⟩;rw[aw,h.2];by_cases aP:j=i;.subst aP;by_cases ah:j∈S<;>simp[ah]
 have:¬((j:Int)=(i:Int)):=by omega
 by_cases ah:i∈S<;>simp[this,ah,aP]
def jQ.mem{M:List (Value×D)}{S T:List Nat}(h:jQ M S)(mS:∀x,x∈S↔x∈T):jQ M T:=⟨h.1,λi=>by rw[h.2];simp only[mS i]⟩
def wW(n:Nat):fc:= .slice 5 72 (.struct [.str,pN n])
def ZN(n:Nat):∀m,m<=n->(wW n).fA m=true
 |0,_=>rfl|1,_=>by simp[wW,fc.fA]|m+2,h=>by have:=BY n m (by omega);have:=BY n (m+1) (by omega);have af:fc.fA m .str=true:=wT m .str rfl;simp only[wW,fc.fA,qx, *,xbu]
theorem amo{P:Program}{t r q:TypeId}(ab:∀y,eD P (.slice 5 72 (.struct [.str,y])) t=(eD P y r&&true)) (aw:∀y,eD P (.struct [.int .i64,.int .i64,.str,y]) r=(eD P y q&&true)) (a4:∀y,eD P (.slice 4 56 y) q=eD P y r) (aq:decide (t<P.types.size)=true):s5 P wW t:=⟨λn=>ZN n n (xan _),λn=>by rw[wW,ab,LL aw a4 n];rfl,xba aq,λn=>rfl⟩
def ZO{n:Nat}{x:List D}(h:mE (.struct [.str,pN n]) x):∃d:a8,x=d.cells/\d.cc:=by obtain⟨a,b,rfl,aE,c,e,rfl,an,rfl⟩:=h;obtain⟨s,rfl,aG⟩:=FQ aE;obtain⟨t,rfl,aL⟩:=yR n an;exact⟨⟨s,t⟩,by simp[a8.cells,Tm.nu],aG,aL⟩
end Go.Am
