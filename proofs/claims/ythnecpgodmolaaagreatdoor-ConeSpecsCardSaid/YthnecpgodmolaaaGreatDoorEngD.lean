/- From what a call is handed to data, and from an answer to the row. No condition. -/
import Derived.Test.YthnecpgodmolaaaGreatDoorEngC
import Derived.ProofKit
import Derived.OpenShut
import Derived.KernelRfl
import Derived.Deep.DeepHandedRow
import Derived.Lib.LaidTab
import Derived.Test.YthnecpgodmolaaaGreatDoorEngS
set_option linter.all false
set_option linter.unnecessarySimpa false
namespace Go.Am
open Go.ChangeShapes Go.WideShapes Go.ChangeAt Go.RowKit
inductive fl where
 |bool
 |int (k:IntKind)
 |str
 |slice (k bytes:Nat) (e:fl)
 |arr (n:Nat) (e:fl)
 |struct (dh:List fl)
 |stop
mutual
def nv:fl->List D->Prop
 | .bool,aO=>∃b,aO=[ay b]| .int k,aO=>∃n,aO=[.val (.int k n)]/\(Lit.int k n).wf=true| .str,aO=>∃s,aO=[aC s]/\s.size<=140737488351232| .slice k Fx e,aO=>∃es:List (List D),aO=[.ax k es]/\es.length<=maxLen/\es.length*Fx<=140737488351232/\∀x∈es,x.length=k/\nv e x| .arr n e,aO=>∃jt:List (List D),aO=jt.flatten/\jt.length=n/\∀x∈jt,nv e x| .struct dh,aO=>Ls dh aO| .stop,_=>False
def Ls:List fl->List D->Prop
 |[],aO=>aO=[]|f::dh,aO=>∃a b,aO=a++b/\nv f a/\Ls dh b
end
mutual
def rd{H:Type}:fl->DataW H->Option (List D)
 | .bool,.lit (.bool b)=>some [ay b]| .int _,.lit (.int k n)=>some [.val (.int k n)]| .str,.lit (.string l)=>some [aC ⟨l.toArray⟩]| .slice k _ _,.nil=>some [.ax k []]| .slice k _ e,.slice es _=>(es.mapM (rd e)).map λxs=>[.ax k xs]| .arr _ e,.agg es=>(es.mapM (rd e)).map List.flatten| .struct dh,.agg es=>Lt dh es|_,_=>none
def Lt{H:Type}:List fl->List (DataW H)->Option (List D)
 |[],[]=>some []|f::dh,d::aO=>(rd f d).bind λa=>(Lt dh aO).map (a++·)|_,_=>none
end
mutual
def eE(P:Program):fl->TypeId->Bool
 | .bool,t=>match P.underlying t with|some .bool=>true|_=>false
 | .int k,t=>match P.underlying t with|some (.int bs)=>decide (k=bs)|_=>false
 | .str,t=>match P.underlying t with|some .string=>true|_=>false
 | .stop,_=>true| .slice k Fx e,t=>match P.underlying t with|some (.slice dw)=>decide (P.cellsOf dw=k)&&decide (0<k)&&decide (P.bytesOf dw=Fx)&&eE P e dw|_=>false
 | .arr n e,t=>match P.underlying t with|some (.array fS dw)=>decide (n=fS)&&decide (P.cellsOf t=n*P.cellsOf dw)&&eE P e dw|_=>false
 | .struct dh,t=>match P.underlying t with|some (.struct RF)=>yN P dh RF.toList 0 (P.cellsOf t)|_=>false
def yN(P:Program):List fl->List Field->Nat->Nat->Bool
 |[],[],off,n=>decide (off=n)|f::dh,x::xs,off,n=>decide (x.offset=off)&&eE P f x.type&&yN P dh xs (off+P.cellsOf x.type) n|_,_,_,_=>false
end
mutual
def fl.fz:Nat->fl->Bool
 |0,_=>true|_+1,.stop=>false|n+1,.slice _ _ e=>e.fz n|n+1,.arr _ e=>e.fz n|n+1,.struct dh=>qt n dh|_+1,_=>true
def qt:Nat->List fl->Bool
 |_,[]=>true|n,f::dh=>f.fz n&&qt n dh
end
def Rel(m:Mem):List D->List Value->Prop
 |[],[]=>True|d::aO,v::vs=>D.one d=true/\dz m d v/\Rel m aO vs|_,_=>False
def Rel.len{m:Mem}:∀{aO:List D}{vs:List Value},Rel m aO vs->vs.length=aO.length
 |[],[],_=>rfl|_::_,_::_,h=>by simp[Rel.len h.2.2]|[],_::_,h=>h.elim|_::_,[],h=>h.elim
def Rel.at{m:Mem}:∀{aO:List D}{vs:List Value},Rel m aO vs->∀(i:Nat)(d:D),aO[i]?=some d->∃v,vs[i]?=some v/\D.one d=true/\dz m d v
 |[],[],_,i,d,h=>by simp at h|x::aO,v::vs,h,0,d,aA=>by simp at aA;subst aA;exact⟨v,rfl,h.1,h.2.1⟩|_::_,_::_,h,i+1,d,aA=>by simpa using Rel.at h.2.2 i d (by simpa using aA)|[],_::_,h,_,_,_=>h.elim|_::_,[],h,_,_,_=>h.elim
def Rel.append{m:Mem}:∀{aO:List D}{vs:List Value}{Bj:List D}{RG:List Value},Rel m aO vs->Rel m Bj RG->Rel m (aO++Bj) (vs++RG)
 |[],[],_,_,_,bD=>bD|_::_,_::_,_,_,h,bD=>⟨h.1,h.2.1,Rel.append h.2.2 bD⟩|[],_::_,_,_,h,_=>h.elim|_::_,[],_,_,h,_=>h.elim
def Rel.one{m:Mem}:∀{aO:List D}{vs:List Value},Rel m aO vs->aO.all D.one=true
 |[],[],_=>rfl|_::_,_::_,h=>by simp only[xbP,h.1,Rel.one h.2.2,Bool.and_self]|[],_::_,h=>h.elim|_::_,[],h=>h.elim
def RH{α:Type}:∀(n:Nat)(Q:Nat->α->Prop),(∀i,i<n->∃y,Q i y)->∃dm:List α,dm.length=n/\∀(i:Nat)(y:α),dm[i]?=some y->Q i y
 |0,_,_=>⟨[],rfl,by intro i y h;simp at h⟩
 |n+1,Q,h=>by obtain⟨dm,ab,af⟩:=RH n (λi=>Q (i+1)) λi ah=>h (i+1) (by omega);obtain⟨y,aP⟩:=h 0 (by omega);refine⟨y::dm,by simp[ab],?_⟩;intro i z bC;cases i with|zero=>simp at bC;subst bC;exact aP|succ i=>exact af i z (by simpa using bC)
def RI{α β:Type}(f:α->Option β):∀(l:List α)(r:List β),r.length=l.length->(∀(i:Nat)(x:α)(y:β),l[i]?=some x->r[i]?=some y->f x=some y)->l.mapM f=some r
 |[],[],_,_=>rfl|x::l,y::r,ar,h=>by have au:=h 0 x y rfl rfl;have ih:=RI f l r (by simpa using ar) λi x y ag aP=>h (i+1) x y (by simpa using ag) (by simpa using aP);simp[List.mapM_cons,au,ih]|[],_::_,h,_=>by simp at h|_::_,[],h,_=>by simp at h
section
variable{H:Type}{enc:TypeId×Value->H}{P:Program}{w:World}{base:Nat}{spare:Nat->Bool}{held:Bool}
def pieces{m:Mem}{c:Nat}{cs:List Value}:∀(jt:List (List D)) (o:Nat),(∀(i:Nat)(x:List D),jt[i]?=some x->Rel m x ((cs.drop (o+i*c)).take c))->(o+jt.length*c=cs.length)->Rel m jt.flatten (cs.drop o)
 |[],o,_,ar=>by have:cs.drop o=[]:=xci (by simp at ar;omega);rw[this];trivial
 |x::r,o,h,ar=>by
  have dv:o+c+r.length*c=cs.length:=by simp only[xao,xaR]at ar;omega
  have au:=h 0 x rfl;have ih:=pieces (m:=m) (cs:=cs) (c:=c) r (o+c) (λi x ag=>by have:=h (i+1) x (by simpa using ag);rw[show o+c+i*c=o+(i+1)*c by rw[xaR];omega];exact this) dv
  have e:cs.drop o=(cs.drop o).take c++cs.drop (o+c):=by
   conv=>lhs;rw[<-xbt c (cs.drop o)]
   rw[List.drop_drop]
  rw[e,List.flatten_cons];refine Rel.append ?_ ih;simpa using au
def RJ{H:Type}{P:Program}{e:TypeId}:∀{l:List (DataW H)} {x:DataW H} {y:Nat},x∈l->y∈x.weights P e->y∈DataW.weightsAll P e l
 |a::r,x,y,ag,aP=>by
  simp only[DataW.weightsAll,xar];rcases xak.1 ag with rfl|ag
  .exact .inl aP
  exact .inr (RJ ag aP)
def Zx(m:Mem)(hm:∀b o,w.heap[b]?=some o->m b=some o):∀(n:Nat)(ty:fl)(t:TypeId)(cs:List Value)(x:DataW H×List MemPlace),eE P ty t=true->ty.fz n=true->(x.1.weights P t).all (·<=reachBytes)=true->DataW.trod enc P w base spare held n t cs=some x-> ∃aO,rd ty x.1=some aO/\nv ty aO/\Rel m aO cs:=by
 intro n
 induction n with
 |zero=>intro ty t cs x _ _ _ h;simp[DataW.trod]at h
 |succ n ih=>
  intro ty t cs x fQ mm kJ h;cases ty with
  |stop=>simp[fl.fz]at mm
  |bool=>
   simp only[eE]at fQ;split at fQ;.obtain⟨b,rfl,rfl⟩:=DataW.trod_bool ‹_› h;exact⟨[ay b],rfl,⟨b,rfl⟩,rfl,.val _,trivial⟩
   cases fQ
  |int k=>
   simp only[eE]at fQ;split at fQ;.have:=xba fQ;subst this;obtain⟨z,rfl,rfl,hw⟩:=DataW.trod_int ‹_› h;exact⟨[.val (.int k z)],rfl,⟨z,rfl,hw⟩,rfl,.val _,trivial⟩
   cases fQ
  |str=>
   simp only[eE]at fQ;split at fQ
   .obtain⟨s,rfl,rfl,hw⟩:=DataW.trod_string ‹_› h;refine⟨[aC s],?_,⟨s,rfl,?_⟩,rfl,.val _,trivial⟩;.simp[rd]
    simp only[DataW.weights,xbP,List.all_nil,xbo,xaC]at kJ;simp only[reachBytes]at kJ;simpa using kJ
   cases fQ
  |slice k Fx e=>
   simp only[eE]at fQ;split at fQ
   .rename_i dw hu;simp only[xal,xaC]at fQ;obtain⟨⟨⟨ak,BV⟩,x7⟩,he⟩:=fQ;subst ak;subst x7;simp only[fl.fz]at mm;rcases DataW.trod_slice hu h with⟨rfl,rfl⟩|⟨a,len,cap,elems,rest,fS,aL,rfl,rfl,aj,WN,x3,e0,Fy,_,_⟩
    .exact⟨[.ax _ []],rfl,⟨[],rfl,by simp,by simp,by simp⟩,rfl,.ni _ _ _,trivial⟩
    cases aL;simp only[DataW.weights,hu,xbP,List.all_append,xal,xaC,xaS,reachBytes]at kJ;obtain⟨v7,Pv,_⟩:=kJ;have each:∀i,i<len->∃aO,∃x,elems[i]?=some x/\rd e x.1=some aO/\nv e aO/\∃c,w.cells? base (a.add (i*P.cellsOf dw)) (P.cellsOf dw)=some c/\Rel m aO c:=by
     intro i ah;have ab:=Fy i ah;rw[xab (by omega)]at ab;obtain⟨c,af,aw⟩:=Option.bind_eq_some_iff.1 ab;have RK:((elems[i]'(by omega)).1.weights P dw).all (·<=reachBytes)=true:=by refine xaz.2 λy aP=>xaz.1 Pv y ?_;exact RJ (xax.2 ⟨_,xaY _,rfl⟩) aP
     obtain⟨aO,aV,a2,bb⟩:=ih e dw c _ he mm RK aw;exact⟨aO,_,xab (by omega),aV,a2,c,af,bb⟩
    obtain⟨es,ar,mw⟩:=RH len _ each;have RL:∀(i:Nat)(aO:List D),es[i]?=some aO->aO.length=P.cellsOf dw:=by intro i aO ah;obtain⟨_,_,_,_,c,ao,av⟩:=mw i aO ah;rw[<-av.len];exact(World.cells?_some ao).2.1
    refine⟨[.ax (P.cellsOf dw) es],?_,⟨es,rfl,by omega,?_,?_⟩,rfl,?_,trivial⟩
    .simp only[rd];rw[RI (rd e) (elems.map (·.1)) es (by simp;omega)];.rfl
     intro i x y ag aP;obtain⟨z,ab,af,_⟩:=mw i y aP;simp[ab]at ag;rw[<-ag];exact af
    .have:es.length<=elems.length+rest.length:=by omega
     exact xbZ (xaB _ this) (xba v7)
    .intro x ag;obtain⟨i,ah,rfl⟩:=List.getElem_of_mem ag;obtain⟨_,_,_,a2,_⟩:=mw i _ (xab ah);exact⟨RL i _ (xab ah),a2⟩
    by_cases au:len=0;.subst au;have:es=[]:=xaF ar;subst this;exact .ni _ _ _
    have q3:∀(i:Nat)(aO:List D),es[i]?=some aO->∀j,j<P.cellsOf dw->w.cell? ((a.add (i*P.cellsOf dw)).add j)≠none:=by intro i aO ah j aN;obtain⟨_,_,_,_,c,ao,av⟩:=mw i aO ah;obtain⟨_,bA,bB⟩:=World.cells?_some ao;rw[bB j aN,xab (by omega)];simp
    have uv:=q3 0 _ (xab (by omega)) 0 BV;simp only[Nat.zero_mul,Addr.add,xaH]at uv;obtain⟨b,off,spot⟩:=a;unfold World.cell? at uv;cases bI:w.heap[b]? with
    |none=>simp[bI]at uv
    |some o=>
     cases o with
     |cells vs T eH=>
      simp only[bI]at uv;have alP:spot=none:=by cases spot with|none=>rfl|some s=>simp at uv
      subst alP;have cellAt:∀q,w.cell? ⟨b,q,none⟩=vs[q]?:=by intro q;simp[World.cell?,bI]
      have alQ:∀q,(⟨b,off,none⟩:Addr).add q=⟨b,off+q,none⟩:=by intro q;unfold Addr.add;split<;>simp_all
      have alR:∀o q,(⟨b,o,none⟩:Addr).add q=⟨b,o+q,none⟩:=by intro o q;unfold Addr.add;split<;>simp_all
      have key:∀(i:Nat)(aO:List D)(j:Nat)(c:D),es[i]?=some aO->aO[j]?=some c->∃v,vs[off+i*P.cellsOf dw+j]?=some v/\dz m c v:=by
       intro i aO j c ah aN;obtain⟨_,_,_,_,bh,ao,av⟩:=mw i aO ah;obtain⟨_,bA,bB⟩:=World.cells?_some ao;obtain⟨v,e8,_,ef⟩:=av.at j c aN;have cN:j<P.cellsOf dw:=by rw[<-RL i aO ah];exact(xae.1 aN).1
       refine⟨v,?_,ef⟩;rw[<-e8,<-bB j cN,alQ,alR,cellAt]
      rw[<-ar];refine .ax _ es b off cap vs T eH (hm _ _ bI) ?_ (by omega) (λi j=>(vs[off+i*P.cellsOf dw+j]?).getD undef) ?_ ?_;.intro x ag;obtain⟨i,ah,rfl⟩:=List.getElem_of_mem ag;obtain⟨_,_,_,_,_,_,av⟩:=mw i _ (xab ah);exact⟨RL i _ (xab ah),av.one⟩
      .intro i aO j c ah aN;obtain⟨v,ab,_⟩:=key i aO j c ah aN;simp[ab]
      intro i aO j c ah aN;obtain⟨v,ab,af⟩:=key i aO j c ah aN;simpa[ab]using af
     |_=>simp[bI]at uv
   cases fQ
  |arr k e=>
   simp only[eE]at fQ;split at fQ
   .rename_i bs dw hu;simp only[xal,xaC]at fQ;obtain⟨⟨ak,ao⟩,he⟩:=fQ;subst ak;obtain⟨xs,fS,aL,rfl,b5,lp,Fy⟩:=DataW.trod_array hu h;cases aL;simp only[fl.fz]at mm;simp only[DataW.weights,hu]at kJ;have each:∀i,i<k->∃aO,∃x,xs[i]?=some x/\rd e x.1=some aO/\nv e aO/\Rel m aO ((cs.drop (i*P.cellsOf dw)).take (P.cellsOf dw)):=by
     intro i ah;have ab:=Fy i ah;rw[xab (by omega)]at ab;have RK:((xs[i]'(by omega)).1.weights P dw).all (·<=reachBytes)=true:=by refine xaz.2 λy aP=>xaz.1 kJ y ?_;exact RJ (xax.2 ⟨_,xaY _,rfl⟩) aP
     obtain⟨aO,aV,a2,bb⟩:=ih e dw _ _ he mm RK ab;exact⟨aO,_,xab (by omega),aV,a2,bb⟩
    obtain⟨es,ar,mw⟩:=RH k _ each;refine⟨es.flatten,?_,⟨es,rfl,ar,?_⟩,?_⟩
    .simp only[rd];rw[RI (rd e) (xs.map (·.1)) es (by simp;omega)];.rfl
     intro i x y ag aP;obtain⟨z,ab,af,_⟩:=mw i y aP;simp[ab]at ag;rw[<-ag];exact af
    .intro x ag;obtain⟨i,ah,rfl⟩:=List.getElem_of_mem ag;obtain⟨_,_,_,a2,_⟩:=mw i _ (xab ah);exact a2
    have:=pieces (m:=m) (c:=P.cellsOf dw) (cs:=cs) es 0 (λi x ag=>by obtain⟨_,_,_,_,bb⟩:=mw i x ag;simpa using bb) (by rw[ar];omega);simpa using this
   cases fQ
  |struct dh=>
   simp only[eE]at fQ;split at fQ
   .rename_i RF hu;obtain⟨xs,fS,aL,rfl,b5,lp,Fy⟩:=DataW.trod_struct hu h;cases aL;simp only[fl.fz]at mm;simp only[DataW.weights,hu]at kJ;have go:∀(dh:List fl)(gs:List Field)(dm:List (DataW H×List MemPlace)) (off:Nat),yN P dh gs off (P.cellsOf t)=true->qt n dh=true->(DataW.weightsEach P (gs.map (·.type)) (dm.map (·.1))).all (·<=reachBytes)=true->dm.length=gs.length->(∀(i:Nat)(f:Field),gs[i]?=some f->DataW.trod enc P w base spare held n f.type ((cs.drop f.offset).take (P.cellsOf f.type))=dm[i]?)-> ∃aO,Lt dh (dm.map (·.1))=some aO/\Ls dh aO/\Rel m aO (cs.drop off):=by
     intro dh
     induction dh with
     |nil=>intro gs dm off ab Fz v7 af aw;cases gs with|nil=>simp only[yN,xaC]at ab;have:dm=[]:=xaF af;subst this;refine⟨[],rfl,rfl,?_⟩;rw[xci (by omega)];trivial|cons _ _=>simp[yN]at ab
     |cons f dh alS=>
      intro gs dm off ab Fz v7 af aw;cases gs with
      |nil=>simp[yN]at ab
      |cons g gs=>
       cases dm with
       |nil=>simp at af
       |cons y dm=>
        simp only[yN,xal,xaC]at ab;obtain⟨⟨aJ,aZ⟩,bN⟩:=ab;simp only[qt,xal]at Fz;simp only[xaA,DataW.weightsEach,List.all_append,xal]at v7;obtain⟨a,an,ba,b2⟩:=ih f g.type _ y aZ Fz.1 v7.1 (aw 0 g rfl);obtain⟨b,dP,gw,h7⟩:=alS gs dm _ bN Fz.2 v7.2 (by simpa using af) (λi f bd=>by simpa using aw (i+1) f (by simpa using bd));refine⟨a++b,by simp[Lt,an,dP],⟨a,b,rfl,ba,gw⟩,?_⟩;have e:cs.drop off=(cs.drop off).take (P.cellsOf g.type)++cs.drop (off+P.cellsOf g.type):=by
         conv=>lhs;rw[<-xbt (P.cellsOf g.type) (cs.drop off)]
         rw[List.drop_drop]
        rw[e];refine Rel.append ?_ h7;rw[<-aJ];exact b2
    obtain⟨aO,aV,a2,bb⟩:=go dh RF.toList xs 0 fQ mm kJ (by simpa using lp) (λi f bd=>Fy i f (by simpa using bd));exact⟨aO,aV,a2,by simpa using bb⟩
   cases fQ
end
open Go.ChangeShapes Go.WideShapes Go.ChangeAt Go.RowKit
def BW:fl->D->Prop
 | .struct dh,d=>∃aO,d= .agg aO/\Ls dh aO| .arr _ _,_=>False|ty,d=>nv ty [d]
def Lu{H:Type}(ty:fl)(x:DataW H)(d:D):Prop:=match ty with| .struct dh=>∃aO,d= .agg aO/\rd (.struct dh) x=some aO|ty=>rd ty x=some [d]
abbrev rz:=Nat->fl
def RM(t:fl):rz:=λ_=>t
mutual
def s7:fl->Bool
 | .stop=>false| .slice _ _ e=>s7 e| .arr _ e=>s7 e| .struct dh=>Lv dh|_=>true
def Lv:List fl->Bool
 |[]=>true|f::dh=>s7 f&&Lv dh
end
mutual
def wY:∀(n:Nat)(t:fl),s7 t=true->t.fz n=true
 |0,t,_=>by cases t<;>rfl
 |n+1,.stop,h=>by simp[s7]at h|n+1,.slice _ _ e,h=>by rw[s7]at h;rw[fl.fz];exact wY n e h|n+1,.arr _ e,h=>by rw[s7]at h;rw[fl.fz];exact wY n e h|n+1,.struct dh,h=>by rw[s7]at h;rw[fl.fz];exact Zy n dh h|n+1,.bool,_=>rfl|n+1,.int _,_=>rfl|n+1,.str,_=>rfl
def Zy:∀(n:Nat)(t:List fl),Lv t=true->qt n t=true
 |n,[],_=>by cases n<;>rfl
 |n,f::dh,h=>by rw[Lv,xal]at h;rw[qt,wY n f h.1,Zy n dh h.2];rfl
end
def Zz:fl->Bool
 | .arr _ _=>false|_=>true
structure s8(P:Program)(F:rz)(t:TypeId):Prop where
 deep:∀n,(F n).fz n=true
 ok:∀n,eE P (F n) t=true
 lt:t<P.types.size
 alT:∀n,Zz (F n)=true
def alU{P:Program}{y:fl}{t:TypeId}(h:(s7 y&&Zz y&&eE P y t&&decide (t<P.types.size))=true):s8 P (RM y) t:=by simp only[xal,xaC]at h;exact⟨λn=>wY n y h.1.1.1,λ_=>h.1.2,h.2,λ_=>h.1.1.2⟩
def BX(P:Program):List rz->List TypeId->Prop
 |[],[]=>True|F::Fs,t::ts=>s8 P F t/\BX P Fs ts|_,_=>False
def BX.lt{P:Program}:∀{Fs:List rz}{ts:List TypeId},BX P Fs ts->∀t∈ts,t<P.types.size
 |[],[],_,t,h=>by simp at h
 |F::Fs,u::ts,h,t,aM=>by
  rcases xak.1 aM with rfl|aM;.exact h.1.lt
  exact BX.lt h.2 t aM
 |[],_::_,h,_,_=>h.elim|_::_,[],h,_,_=>h.elim
def rA{H:Type}:List rz->List (DataW H)->List D->Prop
 |[],[],[]=>True|F::Fs,x::xs,d::aO=>(∃n,Lu (F n) x d/\BW (F n) d)/\rA Fs xs aO|_,_,_=>False
section
variable{H:Type}{enc:TypeId×Value->H}{P:Program}{w:World}
def Lw{m:Mem}{aO:List D}{v:Value}(h:Rel m aO [v]):∃d,aO=[d]/\dz m d v:=by cases aO with|nil=>exact h.elim|cons d r=>cases r with|nil=>exact⟨d,rfl,h.2.1⟩|cons _ _=>exact h.2.2.elim
def alV{m:Mem}{aO:List D}{cs:Array Value}(h:Rel m aO cs.toList):dz m (.agg aO) (.agg cs):=by
 refine .agg _ _ (by simpa using h.len) ?_;intro i c v ao a6;obtain⟨u,ab,_,af⟩:=h.at i c ao;have:cs[i]?=some u:=by simpa using ab
 rw[a6]at this;cases this;exact af
def alW(m:Mem)(hm:∀(b:Nat)(o:Obj),w.heap[b]?=some o->m b=some o){r:Reach}{fI base:Nat}{sp:Nat->Bool}{held:Bool}{F:rz}{t:TypeId}{v:Value}{x:DataW H}{j1:List MemPlace} (hi:s8 P F t) (kJ:(x.weights P t).all (·<=reachBytes)=true) (oM:Value.okWide P w r fI t v) (h:DataW.Trod enc P w base sp held t v x j1):∃d n,Lu (F n) x d/\BW (F n) d/\dz m d v:=by
 obtain⟨n,aL⟩:=h;have fQ:=hi.ok n;have FA:=hi.alT n;obtain⟨aO,ab,af,aw⟩:=Zx m hm n (F n) t _ _ fQ (hi.deep n) kJ aL
 suffices h:∃d,Lu (F n) x d/\BW (F n) d/\dz m d v from let⟨d,a⟩:=h;⟨d,n,a⟩
 clear hi aL;generalize F n=ty at*;cases ty with
 |bool=>
  simp only[eE]at fQ;split at fQ;.obtain⟨b,rfl⟩:=okWide_bool ‹_› oM;obtain⟨d,rfl,aA⟩:=Lw aw;exact⟨d,ab,af,aA⟩
  cases fQ
 |int k=>
  simp only[eE]at fQ;split at fQ;.obtain⟨b,rfl⟩:=okWide_int ‹_› oM;obtain⟨d,rfl,aA⟩:=Lw aw;exact⟨d,ab,af,aA⟩
  cases fQ
 |str=>
  simp only[eE]at fQ;split at fQ;.obtain⟨b,rfl⟩:=okWide_string ‹_› oM;obtain⟨d,rfl,aA⟩:=Lw aw;exact⟨d,ab,af,aA⟩
  cases fQ
 |stop=>exact(by simpa[nv]using af:False).elim
 |slice k Fx e=>
  simp only[eE]at fQ;split at fQ;.obtain⟨a,l,c,rfl⟩:=okWide_slice ‹_› oM;obtain⟨d,rfl,aA⟩:=Lw aw;exact⟨d,ab,af,aA⟩
  cases fQ
 |arr n e=>cases FA
 |struct dh=>
  simp only[eE]at fQ;split at fQ;.obtain⟨cs,rfl,_⟩:=okWide_struct ‹_› oM;exact⟨.agg aO,⟨aO,rfl,ab⟩,⟨aO,rfl,af⟩,alV aw⟩
  cases fQ
def ZA(m:Mem)(hm:∀(b:Nat)(o:Obj),w.heap[b]?=some o->m b=some o){r:Reach}{fI base:Nat}{sp:Nat->Bool}{held:Bool}:∀{Fs:List rz}{ts:List TypeId}{vs:List Value}{xs:List (DataW H)} {j1:List MemPlace},BX P Fs ts->(DataW.weightsEach P ts xs).all (·<=reachBytes)=true->(∀(j:Nat) t v,ts[j]?=some t->vs[j]?=some v->Value.okWide P w r fI t v)->DataW.TrodAll enc P w base sp held ts vs xs j1-> ∃aO,rA Fs xs aO/\ya m aO vs
 |[],[],vs,xs,j1,_,_,_,h=>by obtain⟨rfl,rfl,rfl⟩:=trodAll_nil h;exact⟨[],trivial,rfl,by intro i d v aA;simp at aA⟩
 |F::Fs,t::ts,vs,xs,j1,fQ,kJ,oM,h=>by obtain⟨v,RG,x,JW,p,q,rfl,rfl,rfl,ab,af⟩:=trodAll_cons h;simp only[DataW.weightsEach,List.all_append,xal]at kJ;obtain⟨d,n,d1,d2,d3⟩:=alW m hm fQ.1 kJ.1 (oM 0 t v rfl rfl) ab;obtain⟨aO,aJ,bN⟩:=ZA m hm fQ.2 kJ.2 (λj t v aM a6=>oM (j+1) t v (by simpa using aM) (by simpa using a6)) af;refine⟨d::aO,⟨⟨n,d1,d2⟩,aJ⟩,by simpa using bN.1,?_⟩;intro i c u ao hu;cases i with|zero=>simp at ao hu;subst ao;subst hu;exact d3|succ i=>exact bN.2 i c u (by simpa using ao) (by simpa using hu)
 |[],_::_,_,_,_,h,_,_,_=>h.elim|_::_,[],_,_,_,h,_,_,_=>h.elim
def again{W m0:World}(hle:∀(b:Nat)(o:Obj),W.heap[b]?=some o->m0.heap[b]?=some o)(ar:laidOutB P=true)(hm:mapsRowed P=true) (bC:((List.range P.types.size).all λt=>match P.underlying t with|some (.slice e)=>decide (0<P.cellsOf e)|_=>true)=true) {sp:Nat->Bool}: ∀{ts:List TypeId}{vs:List Value}{aO:List (DataW H)} {j1:List MemPlace},(∀t∈ts,t<P.types.size)->DataW.TrodAll enc P W 0 (λ_=>true) true ts vs aO j1->(∀p∈j1,p.block<W.heap.size)->(∀p∈j1,sp p.block=true)->DataW.TrodAll enc P m0 0 sp true ts vs aO j1
 |[],[],[],_,_,h,_,_=>h
 |t::ts,v::vs,d::aO,_,aM,⟨p,q,⟨n,ab⟩,af,e⟩,cu,aH=>by
  refine⟨p,q,⟨n,?_⟩,again hle ar hm bC (λt h=>aM t (by simp[h])) af (λx ag=>cu x (by rw[e];exact List.mem_append_right _ ag)) (λx ag=>aH x (by rw[e];exact List.mem_append_right _ ag)),e⟩;refine DataW.trod_stays (kids_rows ar hm) (λ{t e} ab af=>slices_full_of P bC t e ab af) (λh=>by cases h) (aM t (by simp)) ab ?_ (λx ag=>aH x (by rw[e];exact xbQ _ ag));intro x ag;have aj:=cu x (by rw[e];exact xbQ _ ag);have bI:m0.heap[x.block]?=W.heap[x.block]?:=by rw[xap aj];exact hle _ _ (xap aj)
  cases x with
  |cell b off=>show m0.cell? ⟨b,off,none⟩=W.cell? ⟨b,off,none⟩;unfold World.cell?;rw[show m0.heap[b]?=W.heap[b]? from bI]
  |map b=>exact bI
def Lx(W:World):fL:=⟨λ_=>none,W.os,W.output,W.heap.size⟩
def alX(W:World):sL (λb=>W.heap[b]?) (Lx W) W:=by refine⟨λb o h=>h,⟨λb o h=>by simp[Lx]at h,rfl,rfl,xan _,?_⟩,λ_ _=>rfl⟩;intro b c t f aj ao;have:W.heap[b]?=none:=Array.getElem?_eq_none aj;rw[ao]at this;cases this
def alY{W m0:World}{cI:Mem}(hle:(show Mem fromλb=>W.heap[b]?).le cI)(h:sL cI (Lx W) m0):
  W.keptBut m0 (λ_=>False)/\(∀a,m0.frozen? a=W.frozen? a)/\(∀(b:Nat)(o:Obj),W.heap[b]?=some o->m0.heap[b]?=some o):=by
 have bI:∀(b:Nat)(o:Obj),W.heap[b]?=some o->m0.heap[b]?=some o:=λb o aj=>h.mem b o (hle b o aj);refine⟨⟨h.frame.quiet.os,h.frame.quiet.out,λi ah=>?_⟩,λa=>?_,bI⟩
 .have ab:=xap ah;have af:=bI i _ ab;rw[ab,af];split
  .rename_i aJ aZ;rw[aJ]at aZ;simp only[xaN,Obj.cells.injEq]at aZ;obtain⟨rfl,rfl,rfl⟩:=aZ;exact⟨rfl,rfl,rfl,λ_ _=>rfl⟩
  .rename_i aJ aZ;rw[aJ]at aZ;simp only[xaN,Obj.map.injEq]at aZ;exact Or.inr ⟨aZ.1.symm,aZ.2.symm⟩
  rfl
 .unfold World.frozen?;cases aj:W.heap[a.block]? with
  |some o=>rw[bI _ _ aj]
  |none=>
   have jF:W.heap.size<=a.block:=by refine Nat.le_of_not_lt λcu=>?_;rw[xap cu]at aj;cases aj
   cases g0:m0.heap[a.block]? with|none=>rfl|some o=>cases o with|cells c t f=>have:=h.frame.quiet.sy _ c t f jF g0;subst this;simp|_=>rfl
def alZ{G:dr}{f:FuncId}{fn:Func}{s:ChangeSpec}{Fs:List rz}{tr:TypeId}{W:World}{base:Nat}{args:Array Value}{aO gs:List (DataW H)}{before:List MemPlace} (ar:laidOutB P=true) (hm:mapsRowed P=true) (bC:((List.range P.types.size).all λt=>match P.underlying t with|some (.slice e)=>decide (0<P.cellsOf e)|_=>true)=true) (fQ:BX P Fs fn.params.toList) (Bt:fn.resultTypes= #[tr]) (ZB:P.underlying tr=some .bool) (ZC:s.vars=[]) (aH:∀aO:List (DataW H),aO.length=Fs.length->s.fn H aO=⟨[.lit (.bool true)],aO,[]⟩) (hW:∀jt,rA Fs aO jt->ez P G f jt (·=ay true)) (c6:kB G (λb:Nat=>W.heap[b]?)) {ZD:List TypeId} (al0:ZD=[]) (kJ:(DataW.weightsEach P (fn.params.toList++ZD) (aO++gs)).all (·<=reachBytes)=true) (oM:∀(j:Nat) t v,fn.params[j]?=some t->args[j]?=some v->Value.okWide P W .any base t v) (BY:DataW.Whole enc P fn.params.toList s.vars false W args.toList aO gs before):Calls P f args W λe m0=>∃v,e= .returned v/\s.post enc P fn false true false false W args v m0:=by
 have ZE:=BY;obtain⟨p,q,eh,hP,rfl,Ly,k6⟩:=BY;rw[ZC]at hP;obtain⟨rfl,rfl⟩:=trodVars_none hP;subst al0;rw[xaD,xaD]at kJ;obtain⟨jt,d1,d3⟩:=ZA (λb=>W.heap[b]?) (λb o h=>h) fQ kJ (λj t v aM a6=>oM j t v (by simpa using aM) (by simpa using a6)) eh;have ao:=(hW jt d1).run (λb=>W.heap[b]?) (Lx W) W args.toList c6 (alX W) d3;have b5:aO.length=Fs.length:=by
  have:∀(dJ:List rz)(aO:List (DataW H)) (jt:List D),rA dJ aO jt->aO.length=dJ.length:=by
   intro dJ
   induction dJ with
   |nil=>intro aO jt h;cases aO<;>cases jt<;>simp_all [rA]
   |cons y dJ ih=>
    intro aO jt h;cases aO with
    |nil=>cases jt<;>simp[rA]at h
    |cons x aO=>cases jt with|nil=>simp[rA]at h|cons d jt=>simp[ih aO jt h.2]
  exact this _ _ _ d1
 refine ao.mono λe m0 ⟨v,cI,r,he,av,hle,dY,a6⟩=>?_;subst av;have yO:v= .bool true:=by cases a6;rfl
 subst yO;obtain⟨cB,dx,g5⟩:=alY hle dY;have cu:=ZE.lt;refine⟨_,he,?_⟩;have wW:=aH (aO++[]) (by simpa using b5);simp only[xaD]at wW;refine post_of_same (pa:=p) (pv:=[]) ZE (λb sp aA=>?_) (λsp lA=>?_) (λsp lA=>?_) rfl (World.keptBut_mono (λ_ h=>h.elim) cB) dx (ok_one Bt rfl (okWide_bool_mk ZB _))
 .rw[xaD,wW,Bt];exact trodAll_cons_mk (shut_bool ZB true) trodAll_mk0
 .rw[xaD,wW];exact again g5 ar hm bC fQ.lt eh (λx ag=>cu x (by simpa using ag)) (λx ag=>lA x (by simpa using ag))
 rw[xaD,wW,ZC];rfl
def ZF{W:World}:∀(laid:List (String×DataW Unit)) (gs:List (Nat×TypeId×fl×List D)) (j1:List MemPlace),DataW.LaidVars P W laid j1->gs.length=laid.length->(∀(i:Nat) x g,laid[i]?=some x->gs[i]?=some g->P.globalNamed x.1=some g.1/\(P.globals[g.1]?).map (·.type)=some g.2.1/\eE P g.2.2.1 g.2.1=true/\rd g.2.2.1 x.2=some g.2.2.2/\s7 g.2.2.1=true/\(x.2.weights P g.2.1).all (·<=reachBytes)=true)-> ∀g∈gs,∃vs T eH,W.heap[g.1]?=some (.cells vs T eH)/\Rel (λb=>W.heap[b]?) g.2.2.2 vs.toList
 |[],[],_,_,_,_,g,b8=>by simp at b8
 |(n2,x)::laid,y::gs,j1,h,ar,ag,g,b8=>by
  obtain⟨lr,t,cs,fuel,p,q,ab,af,aw,a5,ca,_⟩:=h;rcases xak.1 b8 with rfl|b8
  .obtain⟨ba,b2,cK,c9,c4,dy⟩:=ag 0 _ _ rfl rfl;have aJ:=xaV (ba.symm.trans ab);subst aJ;have aZ:=xaV (b2.symm.trans af);subst aZ;obtain⟨aO,dP,_,h7⟩:=Zx (λb=>W.heap[b]?) (λb o h=>h) fuel _ _ _ _ cK (wY _ _ c4) dy a5;have bN:=xaV (c9.symm.trans dP);unfold World.var? at aw;rw[ab]at aw;simp only[Option.bind_some]at aw;split at aw
   .rename_i sz T eH bI;cases aw;exact⟨_,T,eH,bI,by rw[bN];exact h7⟩
   cases aw
  exact ZF laid gs q ca (by simpa using ar) (λi x g fu al1=>ag (i+1) x g (by simpa using fu) (by simpa using al1)) g b8
 |[],_::_,_,_,h,_,_,_=>by simp at h|_::_,[],_,_,h,_,_,_=>by simp at h
def al2{G:dr}{W:World}(gs:List (Nat×TypeId×fl×List D))(c6:∀g cs,G g=some cs->∃x∈gs,x.1=g/\x.2.2.2=cs) (h:∀g∈gs,∃vs T eH,W.heap[g.1]?=some (.cells vs T eH)/\Rel (λb=>W.heap[b]?) g.2.2.2 vs.toList):kB G (λb:Nat=>W.heap[b]?):=by
 intro g cs b8;obtain⟨x,ag,rfl,rfl⟩:=c6 g cs b8;obtain⟨vs,T,eH,ab,af⟩:=h x ag;refine⟨vs,T,eH,ab,λj=>(vs[j]?).getD undef,?_,?_⟩
 .intro j c ao;obtain⟨v,bA,_,_⟩:=af.at j c ao;have:vs[j]?=some v:=by simpa using bA
  simp[this]
 intro j c ao;obtain⟨v,bA,_,bB⟩:=af.at j c ao;have:vs[j]?=some v:=by simpa using bA
 simpa[this]using bB
end
def ZG:fl:= .struct [.str,.bool,.int .i64,.int .i64]
def Lz:fl:= .slice 4 40 ZG
def rB{α:Type}(f:α->List D)(Q:α->Prop):∀(es:List (List D)),(∀x∈es,∃y,x=f y/\Q y)->∃l:List α,es=l.map f/\∀y∈l,Q y
 |[],_=>⟨[],rfl,by simp⟩|x::es,h=>by obtain⟨y,rfl,aP⟩:=h x (by simp);obtain⟨l,rfl,ar⟩:=rB f Q es λx ag=>h x (by simp[ag]);exact⟨y::l,rfl,by intro z bC;rcases xak.1 bC with rfl|bC;exact aP;exact ar z bC⟩
def al3{n:Int}(h:(Lit.int .i64 n).wf=true):oy n:=by have:=Go.bounds_i64 h;exact this
theorem BZ{x:List D}(h:nv (.int .i64) x):∃n,x=[J n]/\oy n:=by obtain⟨n,rfl,aL⟩:=h;exact⟨n,rfl,al3 aL⟩
def LA{x:List D}(h:nv .str x):∃s,x=[aC s]/\s.size<=140737488351232:=h
def al4{x:List D}(h:nv .bool x):∃b,x=[ay b]:=h
def al5{x:List D}(h:nv ZG x):∃v:V,x=v.cells/\V.ok v:=by obtain⟨a,b,rfl,aF,c,d,rfl,ao,e,f,rfl,he,g,i,rfl,b8,rfl⟩:=h;obtain⟨s,rfl,aH⟩:=LA aF;obtain⟨q,rfl⟩:=al4 ao;obtain⟨lo,rfl,hH⟩:=BZ he;obtain⟨ah,rfl,wF⟩:=BZ b8;exact⟨⟨s,q,lo,ah⟩,rfl,hH,wF,by simp only;omega⟩
def al6{d:D}(h:BW (.int .i64) d):∃n,d=J n/\oy n:=by obtain⟨n,ab,af⟩:=BZ h;exact⟨n,by simpa using ab,af⟩
abbrev eM:D:= .val (.slice none 0 0)
def cl(k:Nat)(nl:Bool)(es:List (List D)):D:=if nl&&es.isEmpty then eM else .ax k es
section
variable{k:Nat}{nl:Bool}{es:List (List D)}
def B0:cl k false es= .ax k es:=by simp[cl]
@[simp] theorem ZH:bK (cl k nl es)=some (J es.length):=by
 unfold cl;split;.rename_i h;simp at h;simp[h.2,J,bK]
 rfl
@[simp] theorem al7:bu (cl k nl es)=true:=by unfold cl;split<;>rfl
@[simp] theorem al8:(cl k nl es).one=true:=by unfold cl;split<;>rfl
def FB{i:Nat}:bn k (cl k nl es) (J (i:Int))=es[i]?:=by
 unfold cl;split;.rename_i h;simp at h;simp[h.2,J,bn]
 simp
@[simp] theorem al9:kn (cl k nl es)=some (if nl&&es.isEmpty then(0,[])else(k,es)):=by unfold cl;split<;>rfl
end
def ama{k:Nat}{nl:Bool}{es:List (List D)}(h:0<k):∃q,kn (cl k nl es)=some (q,es)/\(decide (q=k\/es=[])&&decide (0<k))=true/\(decide (q=k\/es=[]))=true:=by
 rw[al9];split;.rename_i bD;simp at bD;exact⟨0,by rw[bD.2],by simp[bD.2,h],by simp[bD.2]⟩
 exact⟨k,rfl,by simp[h],by simp⟩
inductive Tm where
 |mk (op n:Int) (name:ByteArray) (nl:Bool) (aT:List Tm)
namespace Tm
def op:Tm->Int| .mk o _ _ _ _=>o
def num:Tm->Int| .mk _ n _ _ _=>n
def name:Tm->ByteArray| .mk _ _ s _ _=>s
def nl:Tm->Bool| .mk _ _ _ b _=>b
def aT:Tm->List Tm| .mk _ _ _ _ l=>l
mutual
def cells:Tm->List D
 | .mk o n s b ks=>[J o,J n,aC s,cl 4 b (rows ks)]
def rows:List Tm->List (List D)
 |[]=>[]|t::r=>cells t::rows r
end
def d(t:Tm):D:= .agg t.cells
mutual
def bm:Tm->Nat
 | .mk _ _ _ _ ks=>2+ds ks
def ds:List Tm->Nat
 |[]=>0|t::r=>1+bm t+ds r
end
def mz:∀l:List Tm,rows l=l.map cells
 |[]=>rfl|t::r=>by simp[rows,mz r]
@[simp] theorem B1 {l:List Tm}:(rows l).length=l.length:=by simp[mz]
def FC{l:List Tm}{i:Nat}{t:Tm}(h:l[i]?=some t):(rows l)[i]?=some t.cells:=by simp[mz,h]
def gX{l:List Tm}{b:Bool}{i:Nat}{t:Tm}(h:l[i]?=some t):bn 4 (cl 4 b (rows l)) (J (i:Int))=some t.cells:=by rw[FB,FC h]
def B2:∀l:List Tm,l.length<=ds l
 |[]=>xan 0|t::r=>by simp only[ds,xao];have:=B2 r;omega
def yP:∀{l:List Tm}{t:Tm},t∈l->bm t+1<=ds l
 |a::r,t,h=>by
  simp only[ds];rcases xak.1 h with rfl|h
  .omega
  have:=yP h;omega
def je{t k:Tm}(h:k∈t.aT):k.bm+3<=t.bm:=by cases t with|mk o n s b ks=>simp only[bm];have:=yP (show k∈ks from h);omega
def j6{t:Tm}:t.aT.length+2<=t.bm:=by cases t with|mk o n s b ks=>simp only[bm];have:=B2 ks;show ks.length+2<=_;omega
def ind{P:Tm->Prop}(h:∀t:Tm,(∀k∈t.aT,P k)->P t)(t:Tm):P t:=by
 have:∀(n:Nat)(t:Tm),t.bm<=n->P t:=by
  intro n
  induction n with
  |zero=>intro t aM;cases t;simp[bm]at aM
  |succ n ih=>intro t aM;exact h t λk ak=>ih k (by have:=je ak;omega)
 exact this _ t (xan _)
inductive cm:Tm->Prop where
 |mk (o n:Int) (s:ByteArray) (b:Bool) (ks:List Tm) (aG:-9223372036854775808<=o/\o<=9223372036854775807) (aL:-9223372036854775808<=n/\n<=9223372036854775807) (aH:s.size<=140737488355328) (ar:ks.length*56<=140737488355328) (ak:∀k∈ks,cm k):cm (.mk o n s b ks)
def cm.gz{t k:Tm}(h:cm t)(ak:k∈t.aT):cm k:=by cases h with|mk o n s b ks aG aL aH ar fO=>exact fO k ak
def cm.len{t:Tm}(h:cm t):t.aT.length*56<=140737488355328:=by cases h;assumption
theorem nw(t:Tm):t.cells=[J t.op,J t.num,aC t.name,cl 4 t.nl (rows t.aT)]:=by cases t;rfl
theorem j7(t:Tm):t.d= .agg [J t.op,J t.num,aC t.name,cl 4 t.nl (rows t.aT)]:=by cases t;rfl
@[simp] theorem oN (t:Tm):a4 4 t.d=true:=by rw[j7];simp
@[simp] theorem uT (t:Tm):ad t.d 0=J t.op:=by rw[j7];rfl
@[simp] theorem yQ (t:Tm):ad t.d 1=J t.num:=by rw[j7];rfl
@[simp] theorem yR (t:Tm):ad t.d 2=aC t.name:=by rw[j7];rfl
@[simp] theorem wZ (t:Tm):ad t.d 3=cl 4 t.nl (rows t.aT):=by rw[j7];rfl
@[simp] theorem FD (t:Tm):D.agg [J t.op,J t.num,aC t.name,cl 4 t.nl (rows t.aT)]=t.d:=(j7 t).symm
@[simp high] theorem RN (t:Tm):a3 true 4 0 t.cells=some t.d:=by rw[j7,nw];rfl
@[simp] theorem gd (t:Tm):t.cells[0]?=some (J t.op):=by rw[nw];rfl
@[simp] theorem g6 (t:Tm):t.cells[1]?=some (J t.num):=by rw[nw];rfl
@[simp] theorem amb (t:Tm):t.cells[2]?=some (aC t.name):=by rw[nw];rfl
@[simp] theorem amc (t:Tm):t.cells[3]?=some (cl 4 t.nl (rows t.aT)):=by rw[nw];rfl
end Tm
def dD{β α σ:Type}{f:List D->Option (List D⊕β)}(l:List α)(S:Nat->σ->List D)(R:List α->σ->β)(Inv:Nat->σ->Prop) (au:∀s,Inv l.length s->f (S l.length s)=some (.inr (R [] s))) (ab:∀(i:Nat)(a:α)(s:σ),l[i]?=some a->i<l.length->Inv i s->(∃s',f (S i s)=some (.inl (S (i+1) s'))/\R (a::l.drop (i+1)) s=R (l.drop (i+1)) s'/\Inv (i+1) s')\/f (S i s)=some (.inr (R (a::l.drop (i+1)) s))): ∀(m i:Nat)(s:σ),Inv i s->l.length-i<m->i<=l.length->bp f m (S i s)=some (R (l.drop i) s)
 |0,i,s,_,h,_=>absurd h (xay _)
 |m+1,i,s,ah,hm,hle=>by
  rw[jN];by_cases h:i<l.length
  .have b8:=xab h;have e:l.drop i=l[i]::l.drop (i+1):=xaW h;rcases ab i _ s b8 h ah with⟨s',aV,a2,bb⟩|aV
   .rw[aV,e,a2];exact dD l S R Inv au ab m (i+1) s' bb (by omega) h
   rw[aV,e];rfl
  have:i=l.length:=by omega
  subst this;rw[au s ah,xci (xan _)];rfl
def LB(op:Int):op=1\/op=2\/op=3\/op=4\/op=5\/op=6\/op=7\/op=8\/op=9\/op=10\/op=11\/op=12\/op=13\/op=14\/op=15\/op=16\/op=17\/op=18\/(op<1\/op>18):=by omega
@[simp] theorem aAV {f:FuncId}:yM f (.val (.func (.func f) #[] #[]))=true:=by simp[yM]
@[simp] theorem qu {f:FuncId} {cs:List D}:hO f (.fn (.func f) [] cs)=some cs:=by simp[hO]
def ZI(a b:Int):lT true [J a,J b]=some (J (if b>a then b else a)):=by simp[lT,q0,sC,J,nS]
def ZJ(a b:Int):lT false [J a,J b]=some (J (if b<a then b else a)):=by simp[lT,q0,sC,J,nS]
@[simp] theorem ZK {b:Bool}:(ay b).flat=true:=rfl
@[simp] theorem amd {b:Int}:(J b).flat=true:=rfl
@[simp] theorem ame {b:ByteArray}:(aC b).flat=true:=rfl
@[simp] theorem aAW {a:Int}:dp .neg (J a)=some (J (IntKind.i64.wrap (-a))):=by rw[<-Int.zero_sub];rfl
theorem ZL:(D.val (.bool false))=ay false:=rfl
theorem ZM:(D.val (.int .i64 0))=J 0:=rfl
theorem ZN:(D.val (.string ⟨#[]⟩))=aC ⟨#[]⟩:=rfl
@[simp] theorem amf (a b c:D):a4 3 (.agg [a,b,c])=(a.one&&(b.one&&c.one)):=by simp[a4]
@[simp] theorem amg (a b c e:D):a4 4 (.agg [a,b,c,e])=(a.one&&(b.one&&(c.one&&e.one))):=by simp[a4]
@[simp] theorem aAX {a:D} {l:List D}:ad (.agg (a::l)) 0=a:=rfl
@[simp] theorem aAY {a b:D} {l:List D}:ad (.agg (a::b::l)) 1=b:=rfl
@[simp] theorem aAZ {a b c:D} {l:List D}:ad (.agg (a::b::c::l)) 2=c:=rfl
@[simp] theorem aA0 {a b c e:D} {l:List D}:ad (.agg (a::b::c::e::l)) 3=e:=rfl
theorem b1{bt:Bool}{i:Nat}(h:i<1000000000000000000):ai bt .add (J (i:Int)) (J 1)=some (J ((i+1:Nat):Int)):=by rw[gy (by omega) (by omega)];rfl
def lC{bt:Bool}{i:Int}(h:-9223372036854775809<=i)(bD:i<9223372036854775807):ai bt .add (J i) (J 1)=some (J (i+1)):=by rw[gy (by omega) (by omega)]
section
variable{α β:Type}{c:Prop}[Decidable c]
@[simp] theorem aA1 {a b:α}:(if c then(Sum.inl a:α⊕β)else Sum.inl b)=Sum.inl (if c then a else b):=by split<;>rfl
@[simp] theorem aA2 {a b:β}:(if c then(Sum.inr a:α⊕β)else Sum.inr b)=Sum.inr (if c then a else b):=by split<;>rfl
@[simp] theorem aA3 {a b:α} {l r:List α}:(if c then a::l else b::r)=(if c then a else b)::(if c then l else r):=by split<;>rfl
@[simp] theorem aA4 {a b:Int}:(if c then J a else J b)=J (if c then a else b):=by split<;>rfl
@[simp] theorem aA5 {a b:ByteArray}:(if c then aC a else aC b)=aC (if c then a else b):=by split<;>rfl
@[simp] theorem ZO {a b:List D}:(if c then D.a1 a else D.a1 b)=D.a1 (if c then a else b):=by split<;>rfl
@[simp] theorem aA6 {a b:List D}:(if c then D.agg a else D.agg b)=D.agg (if c then a else b):=by split<;>rfl
@[simp] theorem aA7 {f:List D->Option β} {x y:List D⊕β}:a9 f (if c then x else y)=if c then a9 f x else a9 f y:=by split<;>rfl
@[simp] theorem aA8 {x y:Option α} {f:α->Option β}:aa (if c then x else y) f=if c then aa x f else aa y f:=by split<;>rfl
end
section
variable{ek:Type}{c:Prop}[Decidable c]
@[simp] theorem aA9 {x y:D} {w:Bool} {p:Option D}:bL (if c then x else y) w p=if c then bL x w p else bL y w p:=by split<;>rfl
@[simp] theorem aBa {x y:D} {w:Bool} {p q:Option ek}:wH (if c then x else y) w p q=if c then wH x w p q else wH y w p q:=by split<;>rfl
@[simp] theorem aBb {x y a b:D}:bZ (if c then x else y) a b=if c then bZ x a b else bZ y a b:=by split<;>rfl
@[simp] theorem aBc {x y:D} {p q:Option ek}:aE (if c then x else y) p q=if c then aE x p q else aE y p q:=by split<;>rfl
@[simp] theorem aBd {x y:D} {o:UnOp}:dp o (if c then x else y)=if c then dp o x else dp o y:=by split<;>rfl
end
@[simp] theorem aBe {a b:Bool}:ay a=ay b↔a=b:=⟨λh=>by cases h;rfl,λh=>by rw[h]⟩
@[simp] theorem aBf {a b:Int}:J a=J b↔a=b:=⟨λh=>by cases h;rfl,λh=>by rw[h]⟩
@[simp] theorem aBg {a b:ByteArray}:aC a=aC b↔a=b:=⟨λh=>by cases h;rfl,λh=>by rw[h]⟩
attribute [simp] ZL ZM ZN
def lD(M:List (Value×D)):Prop:=∀e∈M,∃s,e.1= .string s
def gH:List (Value×D)->ByteArray->Option D
 |[],_=>none|(.string s,d)::r,x=>if s=x then some d else gH r x
 |_::r,x=>gH r x
def ZP{e:Value×D}{M:List (Value×D)}(h:lD (e::M)):(∃s,e.1= .string s)/\lD M:=⟨h e (by simp),λx ag=>h x (by simp[ag])⟩
def ZQ(a b:ByteArray):Instr.sameNow .string (.string a) (.string b)=some (decide (b=a)):=by simp[Instr.sameNow,JU,eq_comm]
def ZR{M:List (Value×D)}(h:lD M)(x:ByteArray):findD .string (.string x) M=some (gH M x):=by
 induction M with
 |nil=>rfl
 |cons e r ih=>
  obtain⟨⟨s,aH⟩,av⟩:=ZP h;obtain⟨k,d⟩:=e;simp only at aH;subst aH;simp only[findD,ZQ,gH];by_cases ag:s=x;.simp[ag]
  simp[ag,ih av]
def amh{M:List (Value×D)}(h:lD M)(x:ByteArray)(d:D):∃cY,q1 .string (.string x) d M=some cY/\lD cY/\(∀y,gH cY y=if y=x then some d else gH M y)/\cY.length=M.length+(if(gH M x).isSome then 0 else 1):=by
 induction M with
 |nil=>exact⟨[(.string x,d)],rfl,by intro e he;simp at he;exact⟨x,by rw[he]⟩,λy=>by simp[gH,eq_comm],rfl⟩
 |cons e r ih=>
  obtain⟨⟨s,aH⟩,av⟩:=ZP h;obtain⟨k,d0⟩:=e;simp only at aH;subst aH;simp only[q1,ZQ,gH];by_cases ag:s=x
  .refine⟨(.string x,d)::r,by simp[ag],?_,λy=>?_,by simp[ag]⟩
   .intro e he;rcases xak.1 he with rfl|he
    .exact⟨x,rfl⟩
    exact av e he
   simp only[gH];by_cases aP:y=x;.simp[aP]
   have:¬x=y:=λh=>aP h.symm;subst ag;simp[aP,this]
  obtain⟨cY,ab,af,aw,a5⟩:=ih av;refine⟨(.string s,d0)::cY,by simp[ag,ab],?_,λy=>?_,by simp[ag,a5];omega⟩
  .intro e he;rcases xak.1 he with rfl|he
   .exact⟨s,rfl⟩
   exact af e he
  simp only[gH,aw y];by_cases aP:y=x;.subst aP;simp[ag]
  simp[aP]
theorem yS{M:List (Value×D)}(h:lD M){z:Value}{x:ByteArray}:j4 .string z true M (aC x)=some (match gH M x with|some d=> .a1 [d,ay true]|none=> .a1 [sE z,ay false]):=by simp only[j4,aC,ZR h];cases gH M x<;>rfl
def B3{M:List (Value×D)}(h:lD M)(x:ByteArray)(d:D):∃cY,nr .string M (aC x) d=some cY/\lD cY/\(∀y,gH cY y=if y=x then some d else gH M y)/\cY.length=M.length+(if(gH M x).isSome then 0 else 1):=amh h x d
def uU(M:List (Value×D)):Prop:=∀e∈M,∃i,e.1= .int .i64 i
def m1:List (Value×D)->Int->Option D
 |[],_=>none|(.int .i64 s,d)::r,x=>if s=x then some d else m1 r x
 |_::r,x=>m1 r x
def ZS{e:Value×D}{M:List (Value×D)}(h:uU (e::M)):(∃s,e.1= .int .i64 s)/\uU M:=⟨h e (by simp),λx ag=>h x (by simp[ag])⟩
def ZT(a b:Int):Instr.sameNow (.int .i64) (.int .i64 a) (.int .i64 b)=some (decide (b=a)):=by
 by_cases h:a=b;.subst h;simp[Instr.sameNow]
 have bD:¬b=a:=λe=>h e.symm;simp[Instr.sameNow,h,bD]
def ami{M:List (Value×D)}(h:uU M)(x:Int):findD (.int .i64) (.int .i64 x) M=some (m1 M x):=by
 induction M with
 |nil=>rfl
 |cons e r ih=>
  obtain⟨⟨s,aH⟩,av⟩:=ZS h;obtain⟨k,d⟩:=e;simp only at aH;subst aH;simp only[findD,ZT,m1];by_cases ag:s=x;.simp[ag]
  simp[ag,ih av]
def amj{M:List (Value×D)}(h:uU M)(x:Int)(d:D):∃cY,q1 (.int .i64) (.int .i64 x) d M=some cY/\uU cY/\(∀y,m1 cY y=if y=x then some d else m1 M y)/\cY.length=M.length+(if(m1 M x).isSome then 0 else 1):=by
 induction M with
 |nil=>exact⟨[(.int .i64 x,d)],rfl,by intro e he;simp at he;exact⟨x,by rw[he]⟩,λy=>by simp[m1,eq_comm],rfl⟩
 |cons e r ih=>
  obtain⟨⟨s,aH⟩,av⟩:=ZS h;obtain⟨k,d0⟩:=e;simp only at aH;subst aH;simp only[q1,ZT,m1];by_cases ag:s=x
  .refine⟨(.int .i64 x,d)::r,by simp[ag],?_,λy=>?_,by simp[ag]⟩
   .intro e he;rcases xak.1 he with rfl|he
    .exact⟨x,rfl⟩
    exact av e he
   simp only[m1];by_cases aP:y=x;.simp[aP]
   have:¬x=y:=λh=>aP h.symm;subst ag;simp[aP,this]
  obtain⟨cY,ab,af,aw,a5⟩:=ih av;refine⟨(.int .i64 s,d0)::cY,by simp[ag,ab],?_,λy=>?_,by simp[ag,a5];omega⟩
  .intro e he;rcases xak.1 he with rfl|he
   .exact⟨s,rfl⟩
   exact af e he
  simp only[m1,aw y];by_cases aP:y=x;.subst aP;simp[ag]
  simp[aP]
theorem amk{M:List (Value×D)}(h:uU M){z:Value}{ok:Bool}{x:Int}:j4 (.int .i64) z ok M (J x)=some (match m1 M x with|some d=>if ok then .a1 [d,ay true]else d|none=>if ok then .a1 [sE z,ay false]else sE z):=by simp only[j4,J,ami h];cases m1 M x<;>rfl
def aml{M:List (Value×D)}(h:uU M)(x:Int)(d:D):∃cY,nr (.int .i64) M (J x) d=some cY/\uU cY/\(∀y,m1 cY y=if y=x then some d else m1 M y)/\cY.length=M.length+(if(m1 M x).isSome then 0 else 1):=amj h x d
def ZU:∀x:List UInt8,Op.bytesLess x x=false
 |[]=>rfl|a::x=>by simp[Op.bytesLess,ZU x]
def ZV:∀x y z:List UInt8,Op.bytesLess x y=true->Op.bytesLess y z=true->Op.bytesLess x z=true
 |[],[],z,h,_=>by simp[Op.bytesLess]at h|[],b::y,[],_,h=>by simp[Op.bytesLess]at h|[],b::y,c::z,_,_=>rfl|a::x,[],z,h,_=>by simp[Op.bytesLess]at h|a::x,b::y,[],_,h=>by simp[Op.bytesLess]at h
 |a::x,b::y,c::z,ab,af=>by
  simp only[Op.bytesLess,xbd,xal,xaC,xbz,UInt8.lt_iff_toNat_lt]at*;rcases ab with ab|⟨rfl,ab⟩
  .rcases af with af|⟨rfl,af⟩;.exact .inl (by omega)
   exact .inl ab
  rcases af with af|⟨rfl,af⟩;.exact .inl af
  exact .inr ⟨rfl,ZV x y z ab af⟩
def ZW:∀x y:List UInt8,Op.bytesLess x y=true\/x=y\/Op.bytesLess y x=true
 |[],[]=> .inr (.inl rfl)|[],b::y=> .inl rfl|a::x,[]=> .inr (.inr rfl)
 |a::x,b::y=>by
  simp only[Op.bytesLess,xbd,xal,xaC,xbz,UInt8.lt_iff_toNat_lt,List.cons.injEq];by_cases ab:a.toNat<b.toNat;.exact .inl (.inl ab)
  by_cases af:b.toNat<a.toNat;.exact .inr (.inr (.inl af))
  have:a=b:=UInt8.toNat_inj.1 (by omega);subst this;rcases ZW x y with h|h|h
  .exact .inl (.inr ⟨rfl,h⟩)
  .exact .inr (.inl ⟨rfl,h⟩)
  exact .inr (.inr (.inr ⟨rfl,h⟩))
def mA(x:ByteArray):blt x x=false:=ZU _
def rC{x y z:ByteArray}(h:blt x y=true)(bD:blt y z=true):blt x z=true:=ZV _ _ _ h bD
def yU(x y:ByteArray):blt x y=true\/x=y\/blt y x=true:=by
 rcases ZW x.toList y.toList with h|h|h;.exact .inl h
 .exact .inr (.inl (Wh h))
 exact .inr (.inr h)
def amm(y x:ByteArray):(!(blt y x||decide (y=x)))=blt x y:=by
 rcases yU x y with h|h|h
 .have ab:blt y x=false:=by
   cases bj:blt y x with|false=>rfl|true=>have:=rC h bj;rw[mA]at this;cases this
  have af:y≠x:=by rintro rfl;rw[mA]at h;cases h
  simp[h,ab,af]
 .subst h;simp[mA]
 have ab:blt x y=false:=by cases bj:blt x y with|false=>rfl|true=>have:=rC h bj;rw[mA]at this;cases this
 simp[h,ab]
def LC{bt:Bool}{x y:ByteArray}:ai bt .gtr (aC y) (aC x)=some (ay (blt x y)):=by rw[RE,amm]
def fN:List ByteArray->Prop
 |[]=>True|a::r=>(∀b∈r,blt a b=true)/\fN r
def gr(s:ByteArray):List ByteArray->List ByteArray
 |[]=>[s]|a::r=>if a=s then a::r else if blt s a then s::a::r else a::gr s r
def LD{s x:ByteArray}:∀{l:List ByteArray},x∈gr s l->x=s\/x∈l
 |[],h=>by simp[gr]at h;exact .inl h
 |a::r,h=>by
  rw[gr]at h;split at h;.exact .inr h
  split at h
  .rcases xak.1 h with h|h;.exact .inl h
   exact .inr h
  rcases xak.1 h with h|h;.exact .inr (by simp[h])
  rcases LD h with h|h;.exact .inl h
  exact .inr (by simp[h])
def w1{s:ByteArray}:∀{l:List ByteArray},fN l->fN (gr s l)
 |[],_=>⟨by simp,trivial⟩
 |a::r,h=>by
  rw[gr];split;.exact h
  rename_i cR;split
  .rename_i cu;refine⟨λb aj=>?_,h⟩;rcases xak.1 aj with rfl|aj
   .exact cu
   exact rC cu (h.1 b aj)
  rename_i w2;refine⟨λb aj=>?_,w1 h.2⟩;rcases LD aj with rfl|aj
  .rcases yU a b with ab|ab|ab;.exact ab
   .exact absurd ab cR
   rw[ab]at w2;exact absurd rfl w2
  exact h.1 b aj
def LF{s:ByteArray}:∀{l:List ByteArray},fN l->s∈l->gr s l=l
 |[],_,h=>by cases h
 |a::r,aH,h=>by
  rw[gr];rcases xak.1 h with rfl|h
  .rw[xad rfl]
  have cu:=aH.1 s h;have cR:¬a=s:=by rintro rfl;rw[mA]at cu;cases cu
  have w2:¬blt s a=true:=λbD=>by have:=rC cu bD;rw[mA]at this;cases this
  rw[xaa cR,xaa w2,LF aH.2 h]
def RO{s:ByteArray}:∀{l:List ByteArray},fN l->s∉l->∃a b,l=a++b/\gr s l=a++s::b/\(∀x∈a,blt x s=true)/\(∀x∈b,blt s x=true)
 |[],_,_=>⟨[],[],rfl,rfl,by simp,by simp⟩
 |a::r,aH,h=>by
  have cR:¬a=s:=λe=>h (by simp[e]);rw[gr,xaa cR];by_cases ar:blt s a=true
  .rw[xad ar];exact⟨[],a::r,rfl,rfl,by simp,λx ag=>by
    rcases xak.1 ag with rfl|ag;.exact ar
    exact rC ar (aH.1 x ag)⟩
  rw[xaa ar];obtain⟨p,q,ab,af,aw,a5⟩:=RO (l:=r) (s:=s) aH.2 (λhm=>h (xbR _ hm));refine⟨a::p,q,by rw[ab];rfl,by rw[af];rfl,λx ag=>?_,a5⟩;rcases xak.1 ag with rfl|ag
  .rcases yU x s with ca|ca|ca;.exact ca
   .exact absurd ca cR
   exact absurd ca ar
  exact aw x ag
def RP(s:ByteArray):∀{l:List ByteArray},fN l->∃a b,l=a++b/\(∀x∈a,blt s x=false)/\(∀x∈b,blt s x=true)/\(s∈l->∃cD,a=cD++[s])/\(s∉l->s∉a)/\(s∉l->gr s l=a++s::b)
 |[],_=>⟨[],[],rfl,by simp,by simp,by simp,by simp,λ_=>rfl⟩
 |c::r,aH=>by
  by_cases hm:s∈c::r
  .by_cases ao:c=s;.subst ao;refine⟨[c],r,rfl,by simp[mA],aH.1,λ_=>⟨[],rfl⟩,λh=>absurd hm h,λh=>absurd hm h⟩
   have av:s∈r:=(xak.1 hm).resolve_left λh=>ao h.symm;obtain⟨a,b,ab,af,aw,a5,ca,cP⟩:=RP s aH.2;obtain⟨cD,KR⟩:=a5 av;refine⟨c::a,b,by rw[ab];rfl,?_,aw,λ_=>⟨c::cD,by rw[KR];rfl⟩,λh=>absurd hm h,λh=>absurd hm h⟩;intro x ag;rcases xak.1 ag with rfl|ag
   .have cu:=aH.1 s av;cases bj:blt s x with|false=>rfl|true=>have:=rC cu bj;rw[mA]at this;cases this
   exact af x ag
  obtain⟨a,b,ab,af,aw,a5⟩:=RO aH hm;refine⟨a,b,ab,λx ag=>?_,a5,λh=>absurd h hm,λ_ aF=>hm (by rw[ab];simp[aF]),λ_=>af⟩;have cu:=aw x ag;cases bj:blt s x with|false=>rfl|true=>have:=rC cu bj;rw[mA]at this;cases this
def yV{s:ByteArray}:∀(l:List ByteArray),(gr s l).length<=l.length+1
 |[]=>by simp[gr]
 |a::r=>by
  rw[gr];split;.simp
  split;.simp
  have:=yV (s:=s) r;simp;omega
def pF:Nat->fl
 |0=> .stop|n+1=> .struct [.int .i64,.int .i64,.str,.slice 4 56 (pF n)]
def B4:∀(n m:Nat),m<=2*n->(pF n).fz m=true
 |0,m,h=>by
         have:m=0:=by omega
         subst this;rfl
 |n+1,0,_=>rfl|n+1,1,_=>rfl|n+1,m+2,h=>by have:=B4 n m (by omega);simp only[pF,fl.fz,qt,this,xbo]
def LG{P:Program}{t s:TypeId}(ab:∀y,eE P (.struct [.int .i64,.int .i64,.str,y]) t=(eE P y s&&true))(af:∀y,eE P (.slice 4 56 y) s=eE P y t):∀n,eE P (pF n) t=true
 |0=>rfl|n+1=>by rw[pF,ab,af,LG ab af n];rfl
theorem amn{P:Program}{t s:TypeId}(ab:∀y,eE P (.struct [.int .i64,.int .i64,.str,y]) t=(eE P y s&&true))(af:∀y,eE P (.slice 4 56 y) s=eE P y t)(ar:decide (t<P.types.size)=true):s8 P pF t:=⟨λn=>B4 n n (by omega),LG ab af,xba ar,λn=>by cases n<;>rfl⟩
def yW:∀(n:Nat){x:List D},nv (pF n) x->∃t:Tm,x=t.cells/\t.cm
 |0,x,h=>h.elim|n+1,x,h=>by obtain⟨a,b,rfl,aF,c,d,rfl,ao,e,f,rfl,he,g,i,rfl,b8,rfl⟩:=h;obtain⟨op,rfl,eI⟩:=BZ aF;obtain⟨amo,rfl,kZ⟩:=BZ ao;obtain⟨s,rfl,aH⟩:=LA he;obtain⟨es,rfl,_,ar,mw⟩:=b8;obtain⟨ks,rfl,eO⟩:=rB Tm.cells Tm.cm es λx ag=>yW n (mw x ag).2;refine⟨.mk op amo s false ks,?_,.mk _ _ _ _ _ eI kZ (by omega) (by simpa using xbZ ar (by omega)) eO⟩;simp[Tm.cells,Tm.mz,cl]
def ZX{H:Type}{F:rz}{Fs:List rz}{xs:List (DataW H)}{aO:List D}(h:rA (F::Fs) xs aO):∃x JW d Bj n,xs=x::JW/\aO=d::Bj/\Lu (F n) x d/\BW (F n) d/\rA Fs JW Bj:=by
 cases xs with
 |nil=>cases aO<;>exact h.elim
 |cons x xs=>cases aO with|nil=>exact h.elim|cons d aO=>obtain⟨⟨n,ab,af⟩,aw⟩:=h;exact⟨x,xs,d,aO,n,rfl,rfl,ab,af,aw⟩
def amp{H:Type}{xs:List (DataW H)}{aO:List D}(h:rA [] xs aO):xs=[]/\aO=[]:=by cases xs<;>cases aO<;>first|exact⟨rfl,rfl⟩|exact h.elim
@[simp] theorem aBh (a:D):a4 1 (.agg [a])=a.one:=by simp[a4]
@[simp] theorem amq (a b:D):a4 2 (.agg [a,b])=(a.one&&b.one):=by simp[a4]
@[simp] theorem amr (a b c d e:D):a4 5 (.agg [a,b,c,d,e])=(a.one&&(b.one&&(c.one&&(d.one&&e.one)))):=by simp[a4]
@[simp] theorem ams (a b c d e f:D):a4 6 (.agg [a,b,c,d,e,f])=(a.one&&(b.one&&(c.one&&(d.one&&(e.one&&f.one))))):=by simp[a4]
@[simp] theorem ZY (a b c d e f g:D):a4 7 (.agg [a,b,c,d,e,f,g])=(a.one&&(b.one&&(c.one&&(d.one&&(e.one&&(f.one&&g.one)))))):=by simp[a4]
@[simp] theorem LH (a b c d e f g h:D):a4 8 (.agg [a,b,c,d,e,f,g,h])=(a.one&&(b.one&&(c.one&&(d.one&&(e.one&&(f.one&&(g.one&&h.one))))))):=by simp[a4]
@[simp] theorem aBi {a b c e f:D} {l:List D}:ad (.agg (a::b::c::e::f::l)) 4=f:=rfl
@[simp] theorem aBj {a b c e f g:D} {l:List D}:ad (.agg (a::b::c::e::f::g::l)) 5=g:=rfl
@[simp] theorem aBk {a b c e f g h:D} {l:List D}:ad (.agg (a::b::c::e::f::g::h::l)) 6=h:=rfl
@[simp] theorem aBl {a b c e f g h i:D} {l:List D}:ad (.agg (a::b::c::e::f::g::h::i::l)) 7=i:=rfl
theorem amt{β:Type}{x y:Bool}{f:D->Option β}:aa (bL (ay x) true (some (ay y))) (λv=>aa (bZ (ay x) v (ay false)) f)=f (ay (x&&y)):=by cases x<;>rfl
theorem amu{β:Type}{x y:Bool}{f:D->Option β}:aa (bL (ay x) false (some (ay y))) (λv=>aa (bZ (ay x) (ay true) v) f)=f (ay (x||y)):=by cases x<;>rfl
inductive Fm where
 |mk (op:Int) (e:Tm) (nl:Bool) (aT:List Fm)
def fM:Tm:= .mk 0 0 ⟨#[]⟩ true []
def RQ:fM.cm:= .mk _ _ _ _ _ (by omega) (by omega) (by decide) (by simp) (by simp)
theorem LI:fM.d=D.agg [J 0,J 0,aC ⟨#[]⟩,D.val (.slice none 0 0)]:=rfl
namespace Fm
def op:Fm->Int| .mk o _ _ _=>o
def e:Fm->Tm| .mk _ t _ _=>t
def nl:Fm->Bool| .mk _ _ b _=>b
def aT:Fm->List Fm| .mk _ _ _ l=>l
mutual
def cells:Fm->List D
 | .mk o t b ks=>[J o,J t.op,J t.num,aC t.name,cl 4 t.nl (Tm.rows t.aT),cl 6 b (rows ks)]
def rows:List Fm->List (List D)
 |[]=>[]|t::r=>cells t::rows r
end
def d(t:Fm):D:= .agg t.cells
mutual
def bm:Fm->Nat
 | .mk _ t _ ks=>2+t.bm+ds ks
def ds:List Fm->Nat
 |[]=>0|t::r=>1+bm t+ds r
end
def mz:∀l:List Fm,rows l=l.map cells
 |[]=>rfl|t::r=>by simp[rows,mz r]
@[simp] theorem B1 {l:List Fm}:(rows l).length=l.length:=by simp[mz]
def FC{l:List Fm}{i:Nat}{t:Fm}(h:l[i]?=some t):(rows l)[i]?=some t.cells:=by simp[mz,h]
def gX{l:List Fm}{b:Bool}{i:Nat}{t:Fm}(h:l[i]?=some t):bn 6 (cl 6 b (rows l)) (J (i:Int))=some t.cells:=by rw[FB,FC h]
def B2:∀l:List Fm,l.length<=ds l
 |[]=>xan 0|t::r=>by simp only[ds,xao];have:=B2 r;omega
def yP:∀{l:List Fm}{t:Fm},t∈l->bm t+1<=ds l
 |a::r,t,h=>by
  simp only[ds];rcases xak.1 h with rfl|h
  .omega
  have:=yP h;omega
theorem B5(t:Fm):t.bm=2+t.e.bm+ds t.aT:=by cases t;rfl
def je{t k:Fm}(h:k∈t.aT):k.bm+3<=t.bm:=by have:=yP h;have:=B5 t;omega
def j6{t:Fm}:t.aT.length+2<=t.bm:=by have:=B2 t.aT;have:=B5 t;omega
def yX{t:Fm}:t.e.bm+2<=t.bm:=by have:=B5 t;omega
def ind{P:Fm->Prop}(h:∀t:Fm,(∀k∈t.aT,P k)->P t)(t:Fm):P t:=by
 have:∀(n:Nat)(t:Fm),t.bm<=n->P t:=by
  intro n
  induction n with
  |zero=>intro t aM;cases t;simp[bm]at aM
  |succ n ih=>intro t aM;exact h t λk ak=>ih k (by have:=je ak;omega)
 exact this _ t (xan _)
inductive cm:Fm->Prop where
 |mk (o:Int) (t:Tm) (b:Bool) (ks:List Fm) (aG:-9223372036854775808<=o/\o<=9223372036854775807) (aM:t.cm) (ar:ks.length*88<=140737488355328) (ak:∀k∈ks,cm k):cm (.mk o t b ks)
def cm.gz{t k:Fm}(h:cm t)(ak:k∈t.aT):cm k:=by cases h with|mk o n s b ks aG aL aH=>exact aH k ak
def cm.len{t:Fm}(h:cm t):t.aT.length*88<=140737488355328:=by cases h;assumption
def cm.e{t:Fm}(h:cm t):t.e.cm:=by cases h;assumption
def cm.op{t:Fm}(h:cm t):-9223372036854775808<=t.op/\t.op<=9223372036854775807:=by cases h;assumption
theorem nw(t:Fm):t.cells=[J t.op,J t.e.op,J t.e.num,aC t.e.name,cl 4 t.e.nl (Tm.rows t.e.aT),cl 6 t.nl (rows t.aT)]:=by cases t;rfl
theorem j7(t:Fm):t.d= .agg [J t.op,J t.e.op,J t.e.num,aC t.e.name,cl 4 t.e.nl (Tm.rows t.e.aT),cl 6 t.nl (rows t.aT)]:=by cases t;rfl
@[simp] theorem oN (t:Fm):a4 6 t.d=true:=by rw[j7];simp
@[simp] theorem uT (t:Fm):ad t.d 0=J t.op:=by rw[j7];rfl
@[simp] theorem yQ (t:Fm):ad t.d 1=J t.e.op:=by rw[j7];rfl
@[simp] theorem yR (t:Fm):ad t.d 2=J t.e.num:=by rw[j7];rfl
@[simp] theorem wZ (t:Fm):ad t.d 3=aC t.e.name:=by rw[j7];rfl
@[simp] theorem amv (t:Fm):ad t.d 4=cl 4 t.e.nl (Tm.rows t.e.aT):=by rw[j7];rfl
@[simp] theorem amw (t:Fm):ad t.d 5=cl 6 t.nl (rows t.aT):=by rw[j7];rfl
@[simp] theorem FD (t:Fm):D.agg [J t.op,J t.e.op,J t.e.num,aC t.e.name,cl 4 t.e.nl (Tm.rows t.e.aT),cl 6 t.nl (rows t.aT)]=t.d:=(j7 t).symm
@[simp high] theorem RN (t:Fm):a3 true 6 0 t.cells=some t.d:=by rw[j7,nw];rfl
end Fm
attribute [go_sem] eL s6 l0 n1 pE amt amu Fw Lq oL BR BS BT RD Zv alO BU qs Fv Ry alv alw alx aly al7 alz alA alB alC alD al8 alE RA xbv xcd Rz alH ZH alI alK Zt xbo xbw Bool.and_self xaH xaI Bool.not_true Bool.not_false xav ZK amd ame Bool.or_true Bool.true_or amq amf amg amr ams ZY LH ZL ZM ZN alu als Tm.oN Tm.uT Tm.yQ Tm.yR Tm.wZ Tm.FD Tm.RN Tm.B1 Fm.oN Fm.uT Fm.yQ Fm.yR Fm.wZ Fm.amv Fm.amw Fm.FD Fm.RN Fm.B1
def rD:Nat->fl
 |0=> .stop|n+1=> .struct [.int .i64,pF (n+1),.slice 6 88 (rD n)]
def RR:∀(n m:Nat),m<=2*n->(rD n).fz m=true
 |0,m,h=>by
         have:m=0:=by omega
         subst this;rfl
 |n+1,0,_=>rfl|n+1,1,_=>by simp[rD,fl.fz,qt]|n+1,m+2,h=>by have:=RR n m (by omega);have af:=B4 (n+1) (m+1) (by omega);simp only[rD,fl.fz,qt,this,af,xbo]
def ZZ{P:Program}{t s r q:TypeId}(ab:∀y z,eE P (.struct [.int .i64,y,z]) t=(eE P y r&&(eE P z s&&true)))(af:∀y,eE P (.slice 6 88 y) s=eE P y t)(aw:∀n,eE P (pF n) r=true):∀n,eE P (rD n) t=true
 |0=>rfl|n+1=>by rw[rD,ab,af,ZZ (q:=q) ab af aw n,aw];rfl
theorem amx{P:Program}{t s r q:TypeId}(ab:∀y z,eE P (.struct [.int .i64,y,z]) t=(eE P y r&&(eE P z s&&true)))(af:∀y,eE P (.slice 6 88 y) s=eE P y t) (aw:∀y,eE P (.struct [.int .i64,.int .i64,.str,y]) r=(eE P y q&&true)) (a5:∀y,eE P (.slice 4 56 y) q=eE P y r) (ar:decide (t<P.types.size)=true):s8 P rD t:=⟨λn=>RR n n (by omega),ZZ (q:=q) ab af (LG aw a5),xba ar,λn=>by cases n<;>rfl⟩
def Z0:∀(n:Nat){x:List D},nv (rD n) x->∃t:Fm,x=t.cells/\t.cm
 |0,x,h=>h.elim|n+1,x,h=>by obtain⟨a,b,rfl,aF,c,d,rfl,ao,g,i,rfl,b8,rfl⟩:=h;obtain⟨op,rfl,eI⟩:=BZ aF;obtain⟨t,rfl,aM⟩:=yW (n+1) ao;obtain⟨es,rfl,_,ar,mw⟩:=b8;obtain⟨ks,rfl,eO⟩:=rB Fm.cells Fm.cm es λx ag=>Z0 n (mw x ag).2;refine⟨.mk op t false ks,?_,.mk _ _ _ _ eI aM (by simpa using xbZ ar (by omega)) eO⟩;simp[Fm.cells,Fm.mz,cl,Tm.nw]
structure bc where
 name:ByteArray
 e:Tm
def bc.cells(d:bc):List D:=[aC d.name,J d.e.op,J d.e.num,aC d.e.name,cl 4 d.e.nl (Tm.rows d.e.aT)]
def bc.d(d:bc):D:= .agg d.cells
def aQ(l:List bc):D:= .ax 5 (l.map bc.cells)
def bc.cm(d:bc):Prop:=d.name.size<=140737488351232/\d.e.cm
section
variable{l:List bc}{i:Nat}{d:bc}
def fs(h:l[i]?=some d):bn 5 (aQ l) (J (i:Int))=some d.cells:=by simp[aQ,h]
def ec(l:List bc):bK (aQ l)=some (J l.length):=by simp[aQ]
@[simp] theorem bc.FE (d:bc):a3 true 5 0 d.cells=some d.d:=rfl
@[simp] theorem bc.g6 (d:bc):a3 true 4 1 d.cells=some d.e.d:=by rw[Tm.j7];rfl
@[simp] theorem bc.gd (d:bc):a3 false 1 0 d.cells=some (aC d.name):=rfl
@[simp] theorem bc.agg (d:bc):a4 5 d.d=true:=by unfold bc.d bc.cells;simp
@[simp] theorem bc.a8 (d:bc):ad d.d 0=aC d.name:=rfl
@[simp] theorem bc.bP (d:bc):ad d.d 1=J d.e.op:=rfl
@[simp] theorem bc.b6 (d:bc):ad d.d 2=J d.e.num:=rfl
@[simp] theorem bc.cA (d:bc):ad d.d 3=aC d.e.name:=rfl
@[simp] theorem bc.dC (d:bc):ad d.d 4=cl 4 d.e.nl (Tm.rows d.e.aT):=rfl
end
def dt(l:List bc)(x:ByteArray):Option Nat:=l.findIdx? (λd=>decide (d.name=x))
def RS{l:List bc}{x:ByteArray}{i:Nat}(h:dt l x=some i):∃d,l[i]?=some d/\d.name=x/\i<l.length:=by obtain⟨ab,af,_⟩:=xbh.1 h;exact⟨_,xab ab,by simpa using af,ab⟩
def da(l:List Nat):D:= .ax 1 (l.map λ(i:Nat)=>[J (i:Int)])
def uV{l:List Nat}{i k:Nat}(h:l[i]?=some k):bn 1 (da l) (J (i:Int))=some [J (k:Int)]:=by simp[da,h]
def pG(l:List Nat):bK (da l)=some (J l.length):=by simp[da]
def h1(l:List (List Nat)):D:= .ax 1 (l.map λx=>[da x])
def amy{l:List (List Nat)}{i:Nat}{k:List Nat}(h:l[i]?=some k):bn 1 (h1 l) (J (i:Int))=some [da k]:=by simp[h1,h]
def jO(M:List (Value×D))(S:List Nat):Prop:=uU M/\∀i:Nat,m1 M (i:Int)=if i∈S then some (ay true)else none
theorem jO.nil:jO [] []:=⟨by(intro e he;cases he),λi=>rfl⟩
def jO.look{M:List (Value×D)}{S:List Nat}(h:jO M S){i:Nat}{z:Value}:j4 (.int .i64) (.bool false) false M (J (i:Int))=some (ay (decide (i∈S))):=by rw[amk h.1,h.2 i];by_cases ah:i∈S<;>simp[ah,sE]
def jO.put{M:List (Value×D)}{S:List Nat}(h:jO M S)(i:Nat):∃cY,nr (.int .i64) M (J (i:Int)) (ay true)=some cY/\jO cY (if i∈S then S else S++[i]):=by
 obtain⟨cY,ab,af,aw,_⟩:=aml h.1 (i:Int) (ay true);refine⟨cY,ab,af,λj=>?_⟩;rw[aw,h.2];by_cases aN:j=i;.subst aN;by_cases ah:j∈S<;>simp[ah]
 have:¬((j:Int)=(i:Int)):=by omega
 by_cases ah:i∈S<;>simp[this,ah,aN]
def jO.mem{M:List (Value×D)}{S T:List Nat}(h:jO M S)(nM:∀x,x∈S↔x∈T):jO M T:=⟨h.1,λi=>by rw[h.2];simp only[nM i]⟩
def w3(n:Nat):fl:= .slice 5 72 (.struct [.str,pF n])
def Z1(n:Nat):∀m,m<=n->(w3 n).fz m=true
 |0,_=>rfl|1,_=>by simp[w3,fl.fz]|m+2,h=>by have:=B4 n m (by omega);have:=B4 n (m+1) (by omega);have af:fl.fz m .str=true:=wY m .str rfl;simp only[w3,fl.fz,qt, *,xbo]
theorem amz{P:Program}{t r q:TypeId}(ab:∀y,eE P (.slice 5 72 (.struct [.str,y])) t=(eE P y r&&true)) (aw:∀y,eE P (.struct [.int .i64,.int .i64,.str,y]) r=(eE P y q&&true)) (a5:∀y,eE P (.slice 4 56 y) q=eE P y r) (ar:decide (t<P.types.size)=true):s8 P w3 t:=⟨λn=>Z1 n n (xan _),λn=>by rw[w3,ab,LG aw a5 n];rfl,xba ar,λn=>rfl⟩
def Z2{n:Nat}{x:List D}(h:nv (.struct [.str,pF n]) x):∃d:bc,x=d.cells/\d.cm:=by obtain⟨a,b,rfl,aF,c,e,rfl,ao,rfl⟩:=h;obtain⟨s,rfl,aH⟩:=LA aF;obtain⟨t,rfl,aM⟩:=yW n ao;exact⟨⟨s,t⟩,by simp[bc.cells,Tm.nw],aH,aM⟩
end Go.Am
