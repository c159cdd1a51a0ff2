/- From what a call is handed to data, and from an answer to the row. No condition. -/
import Derived.Test.YthnecpgodmolaaaGreatDoorEngC
import Derived.ProofKit
import Derived.OpenShut
import Derived.KernelRfl
import Derived.Deep.DeepHandedRow
import Derived.Lib.LaidTab
import Derived.Test.YthnecpgodmolaaaGreatDoorEngS
set_option linter.all false
set_option linter.unnecessarySimpa false
namespace Go.Am
open Go.ChangeShapes Go.WideShapes Go.ChangeAt Go.RowKit
inductive e4 where
 |bool
 |int (k:IntKind)
 |str
 |slice (k bytes:Nat) (e:e4)
 |arr (n:Nat) (e:e4)
 |struct (dg:List e4)
 |stop
mutual
def mn:e4->List D->Prop
 | .bool,aO=>∃b,aO=[ay b]| .int k,aO=>∃n,aO=[.val (.int k n)]/\(Lit.int k n).wf=true| .str,aO=>∃s,aO=[aB s]/\s.size<=140737488351232| .slice k EZ e,aO=>∃es:List (List D),aO=[.ax k es]/\es.length<=maxLen/\es.length*EZ<=140737488351232/\∀x∈es,x.length=k/\mn e x| .arr n e,aO=>∃jm:List (List D),aO=jm.flatten/\jm.length=n/\∀x∈jm,mn e x| .struct dg,aO=>KM dg aO| .stop,_=>False
def KM:List e4->List D->Prop
 |[],aO=>aO=[]|f::dg,aO=>∃a b,aO=a++b/\mn f a/\KM dg b
end
mutual
def rd{H:Type}:e4->DataW H->Option (List D)
 | .bool,.lit (.bool b)=>some [ay b]| .int _,.lit (.int k n)=>some [.val (.int k n)]| .str,.lit (.string l)=>some [aB ⟨l.toArray⟩]| .slice k _ _,.nil=>some [.ax k []]| .slice k _ e,.slice es _=>(es.mapM (rd e)).map λxs=>[.ax k xs]| .arr _ e,.agg es=>(es.mapM (rd e)).map List.flatten| .struct dg,.agg es=>KN dg es|_,_=>none
def KN{H:Type}:List e4->List (DataW H)->Option (List D)
 |[],[]=>some []|f::dg,d::aO=>(rd f d).bind λa=>(KN dg aO).map (a++·)|_,_=>none
end
mutual
def eu(P:Program):e4->TypeId->Bool
 | .bool,t=>match P.underlying t with|some .bool=>true|_=>false
 | .int k,t=>match P.underlying t with|some (.int bs)=>decide (k=bs)|_=>false
 | .str,t=>match P.underlying t with|some .string=>true|_=>false
 | .stop,_=>true| .slice k EZ e,t=>match P.underlying t with|some (.slice dt)=>decide (P.cellsOf dt=k)&&decide (0<k)&&decide (P.bytesOf dt=EZ)&&eu P e dt|_=>false
 | .arr n e,t=>match P.underlying t with|some (.array fO dt)=>decide (n=fO)&&decide (P.cellsOf t=n*P.cellsOf dt)&&eu P e dt|_=>false
 | .struct dg,t=>match P.underlying t with|some (.struct QS)=>yk P dg QS.toList 0 (P.cellsOf t)|_=>false
def yk(P:Program):List e4->List Field->Nat->Nat->Bool
 |[],[],off,n=>decide (off=n)|f::dg,x::xs,off,n=>decide (x.offset=off)&&eu P f x.type&&yk P dg xs (off+P.cellsOf x.type) n|_,_,_,_=>false
end
mutual
def e4.ft:Nat->e4->Bool
 |0,_=>true|_+1,.stop=>false|n+1,.slice _ _ e=>e.ft n|n+1,.arr _ e=>e.ft n|n+1,.struct dg=>p9 n dg|_+1,_=>true
def p9:Nat->List e4->Bool
 |_,[]=>true|n,f::dg=>f.ft n&&p9 n dg
end
def Rel(m:Mem):List D->List Value->Prop
 |[],[]=>True|d::aO,v::vs=>D.one d=true/\dv m d v/\Rel m aO vs|_,_=>False
def Rel.len{m:Mem}:∀{aO:List D}{vs:List Value},Rel m aO vs->vs.length=aO.length
 |[],[],_=>rfl|_::_,_::_,h=>by simp[Rel.len h.2.2]|[],_::_,h=>h.elim|_::_,[],h=>h.elim
def Rel.at{m:Mem}:∀{aO:List D}{vs:List Value},Rel m aO vs->∀(i:Nat)(d:D),aO[i]?=some d->∃v,vs[i]?=some v/\D.one d=true/\dv m d v
 |[],[],_,i,d,h=>by simp at h|x::aO,v::vs,h,0,d,aA=>by simp at aA;subst aA;exact⟨v,rfl,h.1,h.2.1⟩|_::_,_::_,h,i+1,d,aA=>by simpa using Rel.at h.2.2 i d (by simpa using aA)|[],_::_,h,_,_,_=>h.elim|_::_,[],h,_,_,_=>h.elim
def Rel.append{m:Mem}:∀{aO:List D}{vs:List Value}{AM:List D}{QT:List Value},Rel m aO vs->Rel m AM QT->Rel m (aO++AM) (vs++QT)
 |[],[],_,_,_,bz=>bz|_::_,_::_,_,_,h,bz=>⟨h.1,h.2.1,Rel.append h.2.2 bz⟩|[],_::_,_,_,h,_=>h.elim|_::_,[],_,_,h,_=>h.elim
def Rel.one{m:Mem}:∀{aO:List D}{vs:List Value},Rel m aO vs->aO.all D.one=true
 |[],[],_=>rfl|_::_,_::_,h=>by simp only[xbN,h.1,Rel.one h.2.2,Bool.and_self]|[],_::_,h=>h.elim|_::_,[],h=>h.elim
def QU{α:Type}:∀(n:Nat)(Q:Nat->α->Prop),(∀i,i<n->∃y,Q i y)->∃dj:List α,dj.length=n/\∀(i:Nat)(y:α),dj[i]?=some y->Q i y
 |0,_,_=>⟨[],rfl,by intro i y h;simp at h⟩
 |n+1,Q,h=>by obtain⟨dj,ab,af⟩:=QU n (λi=>Q (i+1)) λi ah=>h (i+1) (by omega);obtain⟨y,aP⟩:=h 0 (by omega);refine⟨y::dj,by simp[ab],?_⟩;intro i z bx;cases i with|zero=>simp at bx;subst bx;exact aP|succ i=>exact af i z (by simpa using bx)
def QV{α β:Type}(f:α->Option β):∀(l:List α)(r:List β),r.length=l.length->(∀(i:Nat)(x:α)(y:β),l[i]?=some x->r[i]?=some y->f x=some y)->l.mapM f=some r
 |[],[],_,_=>rfl|x::l,y::r,aq,h=>by have au:=h 0 x y rfl rfl;have ih:=QV f l r (by simpa using aq) λi x y ag aP=>h (i+1) x y (by simpa using ag) (by simpa using aP);simp[List.mapM_cons,au,ih]|[],_::_,h,_=>by simp at h|_::_,[],h,_=>by simp at h
section
variable{H:Type}{enc:TypeId×Value->H}{P:Program}{w:World}{base:Nat}{spare:Nat->Bool}{held:Bool}
def pieces{m:Mem}{c:Nat}{cs:List Value}:∀(jm:List (List D)) (o:Nat),(∀(i:Nat)(x:List D),jm[i]?=some x->Rel m x ((cs.drop (o+i*c)).take c))->(o+jm.length*c=cs.length)->Rel m jm.flatten (cs.drop o)
 |[],o,_,aq=>by have:cs.drop o=[]:=xcf (by simp at aq;omega);rw[this];trivial
 |x::r,o,h,aq=>by
  have ds:o+c+r.length*c=cs.length:=by simp only[xap,xaR]at aq;omega
  have au:=h 0 x rfl;have ih:=pieces (m:=m) (cs:=cs) (c:=c) r (o+c) (λi x ag=>by have:=h (i+1) x (by simpa using ag);rw[show o+c+i*c=o+(i+1)*c by rw[xaR];omega];exact this) ds
  have e:cs.drop o=(cs.drop o).take c++cs.drop (o+c):=by
   conv=>lhs;rw[<-xbs c (cs.drop o)]
   rw[List.drop_drop]
  rw[e,List.flatten_cons];refine Rel.append ?_ ih;simpa using au
def QW{H:Type}{P:Program}{e:TypeId}:∀{l:List (DataW H)} {x:DataW H} {y:Nat},x∈l->y∈x.weights P e->y∈DataW.weightsAll P e l
 |a::r,x,y,ag,aP=>by
  simp only[DataW.weightsAll,xaq];rcases xak.1 ag with rfl|ag
  .exact .inl aP
  exact .inr (QW ag aP)
def Yu(m:Mem)(hm:∀b o,w.heap[b]?=some o->m b=some o):∀(n:Nat)(ty:e4)(t:TypeId)(cs:List Value)(x:DataW H×List MemPlace),eu P ty t=true->ty.ft n=true->(x.1.weights P t).all (·<=reachBytes)=true->DataW.trod enc P w base spare held n t cs=some x-> ∃aO,rd ty x.1=some aO/\mn ty aO/\Rel m aO cs:=by
 intro n
 induction n with
 |zero=>intro ty t cs x _ _ _ h;simp[DataW.trod]at h
 |succ n ih=>
  intro ty t cs x fN l9 kv h;cases ty with
  |stop=>simp[e4.ft]at l9
  |bool=>
   simp only[eu]at fN;split at fN;.obtain⟨b,rfl,rfl⟩:=DataW.trod_bool ‹_› h;exact⟨[ay b],rfl,⟨b,rfl⟩,rfl,.val _,trivial⟩
   cases fN
  |int k=>
   simp only[eu]at fN;split at fN;.have:=xaW fN;subst this;obtain⟨z,rfl,rfl,hw⟩:=DataW.trod_int ‹_› h;exact⟨[.val (.int k z)],rfl,⟨z,rfl,hw⟩,rfl,.val _,trivial⟩
   cases fN
  |str=>
   simp only[eu]at fN;split at fN
   .obtain⟨s,rfl,rfl,hw⟩:=DataW.trod_string ‹_› h;refine⟨[aB s],?_,⟨s,rfl,?_⟩,rfl,.val _,trivial⟩;.simp[rd]
    simp only[DataW.weights,xbN,List.all_nil,xbq,xaC]at kv;simp only[reachBytes]at kv;simpa using kv
   cases fN
  |slice k EZ e=>
   simp only[eu]at fN;split at fN
   .rename_i dt hu;simp only[xam,xaC]at fN;obtain⟨⟨⟨ak,E0⟩,xE⟩,he⟩:=fN;subst ak;subst xE;simp only[e4.ft]at l9;rcases DataW.trod_slice hu h with⟨rfl,rfl⟩|⟨a,len,cap,elems,rest,fO,aL,rfl,rfl,aj,VK,xA,e0,E1,_,_⟩
    .exact⟨[.ax _ []],rfl,⟨[],rfl,by simp,by simp,by simp⟩,rfl,.m5 _ _ _,trivial⟩
    cases aL;simp only[DataW.weights,hu,xbN,List.all_append,xam,xaC,xaY,reachBytes]at kv;obtain⟨vz,OI,_⟩:=kv;have each:∀i,i<len->∃aO,∃x,elems[i]?=some x/\rd e x.1=some aO/\mn e aO/\∃c,w.cells? base (a.add (i*P.cellsOf dt)) (P.cellsOf dt)=some c/\Rel m aO c:=by
     intro i ah;have ab:=E1 i ah;rw[xaa (by omega)]at ab;obtain⟨c,af,aw⟩:=Option.bind_eq_some_iff.1 ab;have QX:((elems[i]'(by omega)).1.weights P dt).all (·<=reachBytes)=true:=by refine xay.2 λy aP=>xay.1 OI y ?_;exact QW (xax.2 ⟨_,xaX _,rfl⟩) aP
     obtain⟨aO,aV,a2,bc⟩:=ih e dt c _ he l9 QX aw;exact⟨aO,_,xaa (by omega),aV,a2,c,af,bc⟩
    obtain⟨es,aq,mi⟩:=QU len _ each;have QY:∀(i:Nat)(aO:List D),es[i]?=some aO->aO.length=P.cellsOf dt:=by intro i aO ah;obtain⟨_,_,_,_,c,an,av⟩:=mi i aO ah;rw[<-av.len];exact(World.cells?_some an).2.1
    refine⟨[.ax (P.cellsOf dt) es],?_,⟨es,rfl,by omega,?_,?_⟩,rfl,?_,trivial⟩
    .simp only[rd];rw[QV (rd e) (elems.map (·.1)) es (by simp;omega)];.rfl
     intro i x y ag aP;obtain⟨z,ab,af,_⟩:=mi i y aP;simp[ab]at ag;rw[<-ag];exact af
    .have:es.length<=elems.length+rest.length:=by omega
     exact xbV (xaB _ this) (xaW vz)
    .intro x ag;obtain⟨i,ah,rfl⟩:=List.getElem_of_mem ag;obtain⟨_,_,_,a2,_⟩:=mi i _ (xaa ah);exact⟨QY i _ (xaa ah),a2⟩
    by_cases au:len=0;.subst au;have:es=[]:=xaJ aq;subst this;exact .m5 _ _ _
    have qG:∀(i:Nat)(aO:List D),es[i]?=some aO->∀j,j<P.cellsOf dt->w.cell? ((a.add (i*P.cellsOf dt)).add j)≠none:=by intro i aO ah j aN;obtain⟨_,_,_,_,c,an,av⟩:=mi i aO ah;obtain⟨_,bC,bD⟩:=World.cells?_some an;rw[bD j aN,xaa (by omega)];simp
    have tP:=qG 0 _ (xaa (by omega)) 0 E0;simp only[Nat.zero_mul,Addr.add,xaD]at tP;obtain⟨b,off,spot⟩:=a;unfold World.cell? at tP;cases bJ:w.heap[b]? with
    |none=>simp[bJ]at tP
    |some o=>
     cases o with
     |cells vs T eD=>
      simp only[bJ]at tP;have aku:spot=none:=by cases spot with|none=>rfl|some s=>simp at tP
      subst aku;have cellAt:∀q,w.cell? ⟨b,q,none⟩=vs[q]?:=by intro q;simp[World.cell?,bJ]
      have akv:∀q,(⟨b,off,none⟩:Addr).add q=⟨b,off+q,none⟩:=by intro q;unfold Addr.add;split<;>simp_all
      have akw:∀o q,(⟨b,o,none⟩:Addr).add q=⟨b,o+q,none⟩:=by intro o q;unfold Addr.add;split<;>simp_all
      have key:∀(i:Nat)(aO:List D)(j:Nat)(c:D),es[i]?=some aO->aO[j]?=some c->∃v,vs[off+i*P.cellsOf dt+j]?=some v/\dv m c v:=by
       intro i aO j c ah aN;obtain⟨_,_,_,_,bj,an,av⟩:=mi i aO ah;obtain⟨_,bC,bD⟩:=World.cells?_some an;obtain⟨v,eJ,_,dX⟩:=av.at j c aN;have cL:j<P.cellsOf dt:=by rw[<-QY i aO ah];exact(xae.1 aN).1
       refine⟨v,?_,dX⟩;rw[<-eJ,<-bD j cL,akv,akw,cellAt]
      rw[<-aq];refine .ax _ es b off cap vs T eD (hm _ _ bJ) ?_ (by omega) (λi j=>(vs[off+i*P.cellsOf dt+j]?).getD undef) ?_ ?_;.intro x ag;obtain⟨i,ah,rfl⟩:=List.getElem_of_mem ag;obtain⟨_,_,_,_,_,_,av⟩:=mi i _ (xaa ah);exact⟨QY i _ (xaa ah),av.one⟩
      .intro i aO j c ah aN;obtain⟨v,ab,_⟩:=key i aO j c ah aN;simp[ab]
      intro i aO j c ah aN;obtain⟨v,ab,af⟩:=key i aO j c ah aN;simpa[ab]using af
     |_=>simp[bJ]at tP
   cases fN
  |arr k e=>
   simp only[eu]at fN;split at fN
   .rename_i bs dt hu;simp only[xam,xaC]at fN;obtain⟨⟨ak,an⟩,he⟩:=fN;subst ak;obtain⟨xs,fO,aL,rfl,b5,ld,E1⟩:=DataW.trod_array hu h;cases aL;simp only[e4.ft]at l9;simp only[DataW.weights,hu]at kv;have each:∀i,i<k->∃aO,∃x,xs[i]?=some x/\rd e x.1=some aO/\mn e aO/\Rel m aO ((cs.drop (i*P.cellsOf dt)).take (P.cellsOf dt)):=by
     intro i ah;have ab:=E1 i ah;rw[xaa (by omega)]at ab;have QX:((xs[i]'(by omega)).1.weights P dt).all (·<=reachBytes)=true:=by refine xay.2 λy aP=>xay.1 kv y ?_;exact QW (xax.2 ⟨_,xaX _,rfl⟩) aP
     obtain⟨aO,aV,a2,bc⟩:=ih e dt _ _ he l9 QX ab;exact⟨aO,_,xaa (by omega),aV,a2,bc⟩
    obtain⟨es,aq,mi⟩:=QU k _ each;refine⟨es.flatten,?_,⟨es,rfl,aq,?_⟩,?_⟩
    .simp only[rd];rw[QV (rd e) (xs.map (·.1)) es (by simp;omega)];.rfl
     intro i x y ag aP;obtain⟨z,ab,af,_⟩:=mi i y aP;simp[ab]at ag;rw[<-ag];exact af
    .intro x ag;obtain⟨i,ah,rfl⟩:=List.getElem_of_mem ag;obtain⟨_,_,_,a2,_⟩:=mi i _ (xaa ah);exact a2
    have:=pieces (m:=m) (c:=P.cellsOf dt) (cs:=cs) es 0 (λi x ag=>by obtain⟨_,_,_,_,bc⟩:=mi i x ag;simpa using bc) (by rw[aq];omega);simpa using this
   cases fN
  |struct dg=>
   simp only[eu]at fN;split at fN
   .rename_i QS hu;obtain⟨xs,fO,aL,rfl,b5,ld,E1⟩:=DataW.trod_struct hu h;cases aL;simp only[e4.ft]at l9;simp only[DataW.weights,hu]at kv;have go:∀(dg:List e4)(gs:List Field)(dj:List (DataW H×List MemPlace)) (off:Nat),yk P dg gs off (P.cellsOf t)=true->p9 n dg=true->(DataW.weightsEach P (gs.map (·.type)) (dj.map (·.1))).all (·<=reachBytes)=true->dj.length=gs.length->(∀(i:Nat)(f:Field),gs[i]?=some f->DataW.trod enc P w base spare held n f.type ((cs.drop f.offset).take (P.cellsOf f.type))=dj[i]?)-> ∃aO,KN dg (dj.map (·.1))=some aO/\KM dg aO/\Rel m aO (cs.drop off):=by
     intro dg
     induction dg with
     |nil=>intro gs dj off ab E2 vz af aw;cases gs with|nil=>simp only[yk,xaC]at ab;have:dj=[]:=xaJ af;subst this;refine⟨[],rfl,rfl,?_⟩;rw[xcf (by omega)];trivial|cons _ _=>simp[yk]at ab
     |cons f dg akx=>
      intro gs dj off ab E2 vz af aw;cases gs with
      |nil=>simp[yk]at ab
      |cons g gs=>
       cases dj with
       |nil=>simp at af
       |cons y dj=>
        simp only[yk,xam,xaC]at ab;obtain⟨⟨aK,aY⟩,bN⟩:=ab;simp only[p9,xam]at E2;simp only[xaz,DataW.weightsEach,List.all_append,xam]at vz;obtain⟨a,ao,ba,b6⟩:=ih f g.type _ y aY E2.1 vz.1 (aw 0 g rfl);obtain⟨b,eT,hs,kW⟩:=akx gs dj _ bN E2.2 vz.2 (by simpa using af) (λi f bd=>by simpa using aw (i+1) f (by simpa using bd));refine⟨a++b,by simp[KN,ao,eT],⟨a,b,rfl,ba,hs⟩,?_⟩;have e:cs.drop off=(cs.drop off).take (P.cellsOf g.type)++cs.drop (off+P.cellsOf g.type):=by
         conv=>lhs;rw[<-xbs (P.cellsOf g.type) (cs.drop off)]
         rw[List.drop_drop]
        rw[e];refine Rel.append ?_ kW;rw[<-aK];exact b6
    obtain⟨aO,aV,a2,bc⟩:=go dg QS.toList xs 0 fN l9 kv (by simpa using ld) (λi f bd=>E1 i f (by simpa using bd));exact⟨aO,aV,a2,by simpa using bc⟩
   cases fN
end
open Go.ChangeShapes Go.WideShapes Go.ChangeAt Go.RowKit
def Bq:e4->D->Prop
 | .struct dg,d=>∃aO,d= .agg aO/\KM dg aO| .arr _ _,_=>False|ty,d=>mn ty [d]
def KO{H:Type}(ty:e4)(x:DataW H)(d:D):Prop:=match ty with| .struct dg=>∃aO,d= .agg aO/\rd (.struct dg) x=some aO|ty=>rd ty x=some [d]
abbrev q4:=Nat->e4
def QZ(t:e4):q4:=λ_=>t
mutual
def sC:e4->Bool
 | .stop=>false| .slice _ _ e=>sC e| .arr _ e=>sC e| .struct dg=>KP dg|_=>true
def KP:List e4->Bool
 |[]=>true|f::dg=>sC f&&KP dg
end
mutual
def wo:∀(n:Nat)(t:e4),sC t=true->t.ft n=true
 |0,t,_=>by cases t<;>rfl
 |n+1,.stop,h=>by simp[sC]at h|n+1,.slice _ _ e,h=>by rw[sC]at h;rw[e4.ft];exact wo n e h|n+1,.arr _ e,h=>by rw[sC]at h;rw[e4.ft];exact wo n e h|n+1,.struct dg,h=>by rw[sC]at h;rw[e4.ft];exact Yv n dg h|n+1,.bool,_=>rfl|n+1,.int _,_=>rfl|n+1,.str,_=>rfl
def Yv:∀(n:Nat)(t:List e4),KP t=true->p9 n t=true
 |n,[],_=>by cases n<;>rfl
 |n,f::dg,h=>by rw[KP,xam]at h;rw[p9,wo n f h.1,Yv n dg h.2];rfl
end
def Yw:e4->Bool
 | .arr _ _=>false|_=>true
structure sD(P:Program)(F:q4)(t:TypeId):Prop where
 deep:∀n,(F n).ft n=true
 ok:∀n,eu P (F n) t=true
 lt:t<P.types.size
 aky:∀n,Yw (F n)=true
def akz{P:Program}{y:e4}{t:TypeId}(h:(sC y&&Yw y&&eu P y t&&decide (t<P.types.size))=true):sD P (QZ y) t:=by simp only[xam,xaC]at h;exact⟨λn=>wo n y h.1.1.1,λ_=>h.1.2,h.2,λ_=>h.1.1.2⟩
def Br(P:Program):List q4->List TypeId->Prop
 |[],[]=>True|F::Fs,t::ts=>sD P F t/\Br P Fs ts|_,_=>False
def Br.lt{P:Program}:∀{Fs:List q4}{ts:List TypeId},Br P Fs ts->∀t∈ts,t<P.types.size
 |[],[],_,t,h=>by simp at h
 |F::Fs,u::ts,h,t,aM=>by
  rcases xak.1 aM with rfl|aM;.exact h.1.lt
  exact Br.lt h.2 t aM
 |[],_::_,h,_,_=>h.elim|_::_,[],h,_,_=>h.elim
def q5{H:Type}:List q4->List (DataW H)->List D->Prop
 |[],[],[]=>True|F::Fs,x::xs,d::aO=>(∃n,KO (F n) x d/\Bq (F n) d)/\q5 Fs xs aO|_,_,_=>False
section
variable{H:Type}{enc:TypeId×Value->H}{P:Program}{w:World}
def KQ{m:Mem}{aO:List D}{v:Value}(h:Rel m aO [v]):∃d,aO=[d]/\dv m d v:=by cases aO with|nil=>exact h.elim|cons d r=>cases r with|nil=>exact⟨d,rfl,h.2.1⟩|cons _ _=>exact h.2.2.elim
def akA{m:Mem}{aO:List D}{cs:Array Value}(h:Rel m aO cs.toList):dv m (.agg aO) (.agg cs):=by
 refine .agg _ _ (by simpa using h.len) ?_;intro i c v an a6;obtain⟨u,ab,_,af⟩:=h.at i c an;have:cs[i]?=some u:=by simpa using ab
 rw[a6]at this;cases this;exact af
def akB(m:Mem)(hm:∀(b:Nat)(o:Obj),w.heap[b]?=some o->m b=some o){r:Reach}{fF base:Nat}{sp:Nat->Bool}{held:Bool}{F:q4}{t:TypeId}{v:Value}{x:DataW H}{jR:List MemPlace} (gP:sD P F t) (kv:(x.weights P t).all (·<=reachBytes)=true) (oz:Value.okWide P w r fF t v) (h:DataW.Trod enc P w base sp held t v x jR):∃d n,KO (F n) x d/\Bq (F n) d/\dv m d v:=by
 obtain⟨n,aL⟩:=h;have fN:=gP.ok n;have yl:=gP.aky n;obtain⟨aO,ab,af,aw⟩:=Yu m hm n (F n) t _ _ fN (gP.deep n) kv aL
 suffices h:∃d,KO (F n) x d/\Bq (F n) d/\dv m d v from let⟨d,a⟩:=h;⟨d,n,a⟩
 clear gP aL;generalize F n=ty at*;cases ty with
 |bool=>
  simp only[eu]at fN;split at fN;.obtain⟨b,rfl⟩:=okWide_bool ‹_› oz;obtain⟨d,rfl,aA⟩:=KQ aw;exact⟨d,ab,af,aA⟩
  cases fN
 |int k=>
  simp only[eu]at fN;split at fN;.obtain⟨b,rfl⟩:=okWide_int ‹_› oz;obtain⟨d,rfl,aA⟩:=KQ aw;exact⟨d,ab,af,aA⟩
  cases fN
 |str=>
  simp only[eu]at fN;split at fN;.obtain⟨b,rfl⟩:=okWide_string ‹_› oz;obtain⟨d,rfl,aA⟩:=KQ aw;exact⟨d,ab,af,aA⟩
  cases fN
 |stop=>exact(by simpa[mn]using af:False).elim
 |slice k EZ e=>
  simp only[eu]at fN;split at fN;.obtain⟨a,l,c,rfl⟩:=okWide_slice ‹_› oz;obtain⟨d,rfl,aA⟩:=KQ aw;exact⟨d,ab,af,aA⟩
  cases fN
 |arr n e=>cases yl
 |struct dg=>
  simp only[eu]at fN;split at fN;.obtain⟨cs,rfl,_⟩:=okWide_struct ‹_› oz;exact⟨.agg aO,⟨aO,rfl,ab⟩,⟨aO,rfl,af⟩,akA aw⟩
  cases fN
def Yx(m:Mem)(hm:∀(b:Nat)(o:Obj),w.heap[b]?=some o->m b=some o){r:Reach}{fF base:Nat}{sp:Nat->Bool}{held:Bool}:∀{Fs:List q4}{ts:List TypeId}{vs:List Value}{xs:List (DataW H)} {jR:List MemPlace},Br P Fs ts->(DataW.weightsEach P ts xs).all (·<=reachBytes)=true->(∀(j:Nat) t v,ts[j]?=some t->vs[j]?=some v->Value.okWide P w r fF t v)->DataW.TrodAll enc P w base sp held ts vs xs jR-> ∃aO,q5 Fs xs aO/\xH m aO vs
 |[],[],vs,xs,jR,_,_,_,h=>by obtain⟨rfl,rfl,rfl⟩:=trodAll_nil h;exact⟨[],trivial,rfl,by intro i d v aA;simp at aA⟩
 |F::Fs,t::ts,vs,xs,jR,fN,kv,oz,h=>by obtain⟨v,QT,x,Jg,p,q,rfl,rfl,rfl,ab,af⟩:=trodAll_cons h;simp only[DataW.weightsEach,List.all_append,xam]at kv;obtain⟨d,n,d1,d2,d3⟩:=akB m hm fN.1 kv.1 (oz 0 t v rfl rfl) ab;obtain⟨aO,aK,bN⟩:=Yx m hm fN.2 kv.2 (λj t v aM a6=>oz (j+1) t v (by simpa using aM) (by simpa using a6)) af;refine⟨d::aO,⟨⟨n,d1,d2⟩,aK⟩,by simpa using bN.1,?_⟩;intro i c u an hu;cases i with|zero=>simp at an hu;subst an;subst hu;exact d3|succ i=>exact bN.2 i c u (by simpa using an) (by simpa using hu)
 |[],_::_,_,_,_,h,_,_,_=>h.elim|_::_,[],_,_,_,h,_,_,_=>h.elim
def again{W mS:World}(hle:∀(b:Nat)(o:Obj),W.heap[b]?=some o->mS.heap[b]?=some o)(aq:laidOutB P=true)(hm:mapsRowed P=true) (bx:((List.range P.types.size).all λt=>match P.underlying t with|some (.slice e)=>decide (0<P.cellsOf e)|_=>true)=true) {sp:Nat->Bool}: ∀{ts:List TypeId}{vs:List Value}{aO:List (DataW H)} {jR:List MemPlace},(∀t∈ts,t<P.types.size)->DataW.TrodAll enc P W 0 (λ_=>true) true ts vs aO jR->(∀p∈jR,p.block<W.heap.size)->(∀p∈jR,sp p.block=true)->DataW.TrodAll enc P mS 0 sp true ts vs aO jR
 |[],[],[],_,_,h,_,_=>h
 |t::ts,v::vs,d::aO,_,aM,⟨p,q,⟨n,ab⟩,af,e⟩,cr,aH=>by
  refine⟨p,q,⟨n,?_⟩,again hle aq hm bx (λt h=>aM t (by simp[h])) af (λx ag=>cr x (by rw[e];exact List.mem_append_right _ ag)) (λx ag=>aH x (by rw[e];exact List.mem_append_right _ ag)),e⟩;refine DataW.trod_stays (kids_rows aq hm) (λ{t e} ab af=>slices_full_of P bx t e ab af) (λh=>by cases h) (aM t (by simp)) ab ?_ (λx ag=>aH x (by rw[e];exact xbO _ ag));intro x ag;have aj:=cr x (by rw[e];exact xbO _ ag);have bJ:mS.heap[x.block]?=W.heap[x.block]?:=by rw[xao aj];exact hle _ _ (xao aj)
  cases x with
  |cell b off=>show mS.cell? ⟨b,off,none⟩=W.cell? ⟨b,off,none⟩;unfold World.cell?;rw[show mS.heap[b]?=W.heap[b]? from bJ]
  |map b=>exact bJ
def KR(W:World):fH:=⟨λ_=>none,W.os,W.output,W.heap.size⟩
def akC(W:World):sh (λb=>W.heap[b]?) (KR W) W:=by refine⟨λb o h=>h,⟨λb o h=>by simp[KR]at h,rfl,rfl,xan _,?_⟩,λ_ _=>rfl⟩;intro b c t f aj an;have:W.heap[b]?=none:=Array.getElem?_eq_none aj;rw[an]at this;cases this
def akD{W mS:World}{cI:Mem}(hle:(show Mem fromλb=>W.heap[b]?).le cI)(h:sh cI (KR W) mS):
  W.keptBut mS (λ_=>False)/\(∀a,mS.frozen? a=W.frozen? a)/\(∀(b:Nat)(o:Obj),W.heap[b]?=some o->mS.heap[b]?=some o):=by
 have bJ:∀(b:Nat)(o:Obj),W.heap[b]?=some o->mS.heap[b]?=some o:=λb o aj=>h.mem b o (hle b o aj);refine⟨⟨h.frame.quiet.os,h.frame.quiet.out,λi ah=>?_⟩,λa=>?_,bJ⟩
 .have ab:=xao ah;have af:=bJ i _ ab;rw[ab,af];split
  .rename_i aK aY;rw[aK]at aY;simp only[xaM,Obj.cells.injEq]at aY;obtain⟨rfl,rfl,rfl⟩:=aY;exact⟨rfl,rfl,rfl,λ_ _=>rfl⟩
  .rename_i aK aY;rw[aK]at aY;simp only[xaM,Obj.map.injEq]at aY;exact Or.inr ⟨aY.1.symm,aY.2.symm⟩
  rfl
 .unfold World.frozen?;cases aj:W.heap[a.block]? with
  |some o=>rw[bJ _ _ aj]
  |none=>
   have jz:W.heap.size<=a.block:=by refine Nat.le_of_not_lt λcr=>?_;rw[xao cr]at aj;cases aj
   cases gU:mS.heap[a.block]? with|none=>rfl|some o=>cases o with|cells c t f=>have:=h.frame.quiet.r4 _ c t f jz gU;subst this;simp|_=>rfl
def akE{G:dm}{f:FuncId}{fn:Func}{s:ChangeSpec}{Fs:List q4}{tr:TypeId}{W:World}{base:Nat}{args:Array Value}{aO gs:List (DataW H)}{before:List MemPlace} (aq:laidOutB P=true) (hm:mapsRowed P=true) (bx:((List.range P.types.size).all λt=>match P.underlying t with|some (.slice e)=>decide (0<P.cellsOf e)|_=>true)=true) (fN:Br P Fs fn.params.toList) (AW:fn.resultTypes= #[tr]) (Yy:P.underlying tr=some .bool) (Yz:s.vars=[]) (aH:∀aO:List (DataW H),aO.length=Fs.length->s.fn H aO=⟨[.lit (.bool true)],aO,[]⟩) (hP:∀jm,q5 Fs aO jm->ez P G f jm (·=ay true)) (c3:kn G (λb:Nat=>W.heap[b]?)) {YA:List TypeId} (akF:YA=[]) (kv:(DataW.weightsEach P (fn.params.toList++YA) (aO++gs)).all (·<=reachBytes)=true) (oz:∀(j:Nat) t v,fn.params[j]?=some t->args[j]?=some v->Value.okWide P W .any base t v) (Bs:DataW.Whole enc P fn.params.toList s.vars false W args.toList aO gs before):Calls P f args W λe mS=>∃v,e= .returned v/\s.post enc P fn false true false false W args v mS:=by
 have YB:=Bs;obtain⟨p,q,dI,hH,rfl,KS,kc⟩:=Bs;rw[Yz]at hH;obtain⟨rfl,rfl⟩:=trodVars_none hH;subst akF;rw[xaE,xaE]at kv;obtain⟨jm,d1,d3⟩:=Yx (λb=>W.heap[b]?) (λb o h=>h) fN kv (λj t v aM a6=>oz j t v (by simpa using aM) (by simpa using a6)) dI;have an:=(hP jm d1).run (λb=>W.heap[b]?) (KR W) W args.toList c3 (akC W) d3;have b5:aO.length=Fs.length:=by
  have:∀(dE:List q4)(aO:List (DataW H)) (jm:List D),q5 dE aO jm->aO.length=dE.length:=by
   intro dE
   induction dE with
   |nil=>intro aO jm h;cases aO<;>cases jm<;>simp_all [q5]
   |cons y dE ih=>
    intro aO jm h;cases aO with
    |nil=>cases jm<;>simp[q5]at h
    |cons x aO=>cases jm with|nil=>simp[q5]at h|cons d jm=>simp[ih aO jm h.2]
  exact this _ _ _ d1
 refine an.mono λe mS ⟨v,cI,r,he,av,hle,dU,a6⟩=>?_;subst av;have ym:v= .bool true:=by cases a6;rfl
 subst ym;obtain⟨cB,dx,gZ⟩:=akD hle dU;have cr:=YB.lt;refine⟨_,he,?_⟩;have wm:=aH (aO++[]) (by simpa using b5);simp only[xaE]at wm;refine post_of_same (pa:=p) (pv:=[]) YB (λb sp aA=>?_) (λsp ln=>?_) (λsp ln=>?_) rfl (World.keptBut_mono (λ_ h=>h.elim) cB) dx (ok_one AW rfl (okWide_bool_mk Yy _))
 .rw[xaE,wm,AW];exact trodAll_cons_mk (shut_bool Yy true) trodAll_mk0
 .rw[xaE,wm];exact again gZ aq hm bx fN.lt dI (λx ag=>cr x (by simpa using ag)) (λx ag=>ln x (by simpa using ag))
 rw[xaE,wm,Yz];rfl
def YC{W:World}:∀(laid:List (String×DataW Unit)) (gs:List (Nat×TypeId×e4×List D)) (jR:List MemPlace),DataW.LaidVars P W laid jR->gs.length=laid.length->(∀(i:Nat) x g,laid[i]?=some x->gs[i]?=some g->P.globalNamed x.1=some g.1/\(P.globals[g.1]?).map (·.type)=some g.2.1/\eu P g.2.2.1 g.2.1=true/\rd g.2.2.1 x.2=some g.2.2.2/\sC g.2.2.1=true/\(x.2.weights P g.2.1).all (·<=reachBytes)=true)-> ∀g∈gs,∃vs T eD,W.heap[g.1]?=some (.cells vs T eD)/\Rel (λb=>W.heap[b]?) g.2.2.2 vs.toList
 |[],[],_,_,_,_,g,cc=>by simp at cc
 |(nP,x)::laid,y::gs,jR,h,aq,ag,g,cc=>by
  obtain⟨lg,t,cs,fuel,p,q,ab,af,aw,a4,b7,_⟩:=h;rcases xak.1 cc with rfl|cc
  .obtain⟨ba,b6,cJ,c6,c5,du⟩:=ag 0 _ _ rfl rfl;have aK:=xaU (ba.symm.trans ab);subst aK;have aY:=xaU (b6.symm.trans af);subst aY;obtain⟨aO,eT,_,kW⟩:=Yu (λb=>W.heap[b]?) (λb o h=>h) fuel _ _ _ _ cJ (wo _ _ c5) du a4;have bN:=xaU (c6.symm.trans eT);unfold World.var? at aw;rw[ab]at aw;simp only[Option.bind_some]at aw;split at aw
   .rename_i r5 T eD bJ;cases aw;exact⟨_,T,eD,bJ,by rw[bN];exact kW⟩
   cases aw
  exact YC laid gs q b7 (by simpa using aq) (λi x g fl akG=>ag (i+1) x g (by simpa using fl) (by simpa using akG)) g cc
 |[],_::_,_,_,h,_,_,_=>by simp at h|_::_,[],_,_,h,_,_,_=>by simp at h
def akH{G:dm}{W:World}(gs:List (Nat×TypeId×e4×List D))(c3:∀g cs,G g=some cs->∃x∈gs,x.1=g/\x.2.2.2=cs) (h:∀g∈gs,∃vs T eD,W.heap[g.1]?=some (.cells vs T eD)/\Rel (λb=>W.heap[b]?) g.2.2.2 vs.toList):kn G (λb:Nat=>W.heap[b]?):=by
 intro g cs cc;obtain⟨x,ag,rfl,rfl⟩:=c3 g cs cc;obtain⟨vs,T,eD,ab,af⟩:=h x ag;refine⟨vs,T,eD,ab,λj=>(vs[j]?).getD undef,?_,?_⟩
 .intro j c an;obtain⟨v,bC,_,_⟩:=af.at j c an;have:vs[j]?=some v:=by simpa using bC
  simp[this]
 intro j c an;obtain⟨v,bC,_,bD⟩:=af.at j c an;have:vs[j]?=some v:=by simpa using bC
 simpa[this]using bD
end
def YD:e4:= .struct [.str,.bool,.int .i64,.int .i64]
def KT:e4:= .slice 4 40 YD
def Q0:e4:= .slice 1 16 .str
def qa{α:Type}(f:α->List D)(Q:α->Prop):∀(es:List (List D)),(∀x∈es,∃y,x=f y/\Q y)->∃l:List α,es=l.map f/\∀y∈l,Q y
 |[],_=>⟨[],rfl,by simp⟩|x::es,h=>by obtain⟨y,rfl,aP⟩:=h x (by simp);obtain⟨l,rfl,aq⟩:=qa f Q es λx ag=>h x (by simp[ag]);exact⟨y::l,rfl,by intro z bx;rcases xak.1 bx with rfl|bx;exact aP;exact aq z bx⟩
def akI{n:Int}(h:(Lit.int .i64 n).wf=true):o9 n:=by have:=Go.bounds_i64 h;exact this
theorem E3{x:List D}(h:mn (.int .i64) x):∃n,x=[J n]/\o9 n:=by obtain⟨n,rfl,aL⟩:=h;exact⟨n,rfl,akI aL⟩
def E4{x:List D}(h:mn .str x):∃s,x=[aB s]/\s.size<=140737488351232:=h
def akJ{x:List D}(h:mn .bool x):∃b,x=[ay b]:=h
def akK{x:List D}(h:mn YD x):∃v:V,x=v.cells/\V.ok v:=by obtain⟨a,b,rfl,aI,c,d,rfl,an,e,f,rfl,he,g,i,rfl,cc,rfl⟩:=h;obtain⟨s,rfl,aH⟩:=E4 aI;obtain⟨q,rfl⟩:=akJ an;obtain⟨lo,rfl,hA⟩:=E3 he;obtain⟨ah,rfl,vY⟩:=E3 cc;exact⟨⟨s,q,lo,ah⟩,rfl,hA,vY,by simp only;omega⟩
def akL{k b:Nat}{d:D}{e:e4}(h:mn (.slice k b e) [d]):∃es,d= .ax k es/\es.length*b<=140737488351232/\∀x∈es,mn e x:=by obtain⟨es,he,_,ab,af⟩:=h;cases he;exact⟨es,rfl,ab,λx ag=>(af x ag).2⟩
abbrev eA:D:= .val (.slice none 0 0)
def cp(k:Nat)(nl:Bool)(es:List (List D)):D:=if nl&&es.isEmpty then eA else .ax k es
section
variable{k:Nat}{nl:Bool}{es:List (List D)}
def E5:cp k false es= .ax k es:=by simp[cp]
@[simp] theorem YE:bI (cp k nl es)=some (J es.length):=by
 unfold cp;split;.rename_i h;simp at h;simp[h.2,J,bI]
 rfl
@[simp] theorem akM:bE (cp k nl es)=true:=by unfold cp;split<;>rfl
@[simp] theorem akN:(cp k nl es).one=true:=by unfold cp;split<;>rfl
def E6{i:Nat}:bo k (cp k nl es) (J (i:Int))=es[i]?:=by
 unfold cp;split;.rename_i h;simp at h;simp[h.2,J,bo]
 simp
@[simp] theorem akO:kS (cp k nl es)=some (if nl&&es.isEmpty then(0,[])else(k,es)):=by unfold cp;split<;>rfl
end
def akP{k:Nat}{nl:Bool}{es:List (List D)}(h:0<k):∃q,kS (cp k nl es)=some (q,es)/\(decide (q=k\/es=[])&&decide (0<k))=true/\(decide (q=k\/es=[]))=true:=by
 rw[akO];split;.rename_i bz;simp at bz;exact⟨0,by rw[bz.2],by simp[bz.2,h],by simp[bz.2]⟩
 exact⟨k,rfl,by simp[h],by simp⟩
inductive Tm where
 |mk (op n:Int) (name:ByteArray) (nl:Bool) (aW:List Tm)
namespace Tm
def op:Tm->Int| .mk o _ _ _ _=>o
def num:Tm->Int| .mk _ n _ _ _=>n
def name:Tm->ByteArray| .mk _ _ s _ _=>s
def nl:Tm->Bool| .mk _ _ _ b _=>b
def aW:Tm->List Tm| .mk _ _ _ _ l=>l
mutual
def cells:Tm->List D
 | .mk o n s b ks=>[J o,J n,aB s,cp 4 b (rows ks)]
def rows:List Tm->List (List D)
 |[]=>[]|t::r=>cells t::rows r
end
def d(t:Tm):D:= .agg t.cells
mutual
def bq:Tm->Nat
 | .mk _ _ _ _ ks=>2+dJ ks
def dJ:List Tm->Nat
 |[]=>0|t::r=>1+bq t+dJ r
end
def mo:∀l:List Tm,rows l=l.map cells
 |[]=>rfl|t::r=>by simp[rows,mo r]
@[simp] theorem Bt {l:List Tm}:(rows l).length=l.length:=by simp[mo]
def E7{l:List Tm}{i:Nat}{t:Tm}(h:l[i]?=some t):(rows l)[i]?=some t.cells:=by simp[mo,h]
def ha{l:List Tm}{b:Bool}{i:Nat}{t:Tm}(h:l[i]?=some t):bo 4 (cp 4 b (rows l)) (J (i:Int))=some t.cells:=by rw[E6,E7 h]
def Bu:∀l:List Tm,l.length<=dJ l
 |[]=>xan 0|t::r=>by simp only[dJ,xap];have:=Bu r;omega
def yn:∀{l:List Tm}{t:Tm},t∈l->bq t+1<=dJ l
 |a::r,t,h=>by
  simp only[dJ];rcases xak.1 h with rfl|h
  .omega
  have:=yn h;omega
def jH{t k:Tm}(h:k∈t.aW):k.bq+3<=t.bq:=by cases t with|mk o n s b ks=>simp only[bq];have:=yn (show k∈ks from h);omega
def kx{t:Tm}:t.aW.length+2<=t.bq:=by cases t with|mk o n s b ks=>simp only[bq];have:=Bu ks;show ks.length+2<=_;omega
def ind{P:Tm->Prop}(h:∀t:Tm,(∀k∈t.aW,P k)->P t)(t:Tm):P t:=by
 have:∀(n:Nat)(t:Tm),t.bq<=n->P t:=by
  intro n
  induction n with
  |zero=>intro t aM;cases t;simp[bq]at aM
  |succ n ih=>intro t aM;exact h t λk ak=>ih k (by have:=jH ak;omega)
 exact this _ t (xan _)
inductive cq:Tm->Prop where
 |mk (o n:Int) (s:ByteArray) (b:Bool) (ks:List Tm) (aF:-9223372036854775808<=o/\o<=9223372036854775807) (aL:-9223372036854775808<=n/\n<=9223372036854775807) (aH:s.size<=140737488355328) (aq:ks.length*56<=140737488355328) (ak:∀k∈ks,cq k):cq (.mk o n s b ks)
def cq.gJ{t k:Tm}(h:cq t)(ak:k∈t.aW):cq k:=by cases h with|mk o n s b ks aF aL aH aq fK=>exact fK k ak
def cq.len{t:Tm}(h:cq t):t.aW.length*56<=140737488355328:=by cases h;assumption
theorem ng(t:Tm):t.cells=[J t.op,J t.num,aB t.name,cp 4 t.nl (rows t.aW)]:=by cases t;rfl
theorem jW(t:Tm):t.d= .agg [J t.op,J t.num,aB t.name,cp 4 t.nl (rows t.aW)]:=by cases t;rfl
@[simp] theorem oA (t:Tm):a5 4 t.d=true:=by rw[jW];simp
@[simp] theorem ur (t:Tm):ad t.d 0=J t.op:=by rw[jW];rfl
@[simp] theorem yo (t:Tm):ad t.d 1=J t.num:=by rw[jW];rfl
@[simp] theorem yp (t:Tm):ad t.d 2=aB t.name:=by rw[jW];rfl
@[simp] theorem wq (t:Tm):ad t.d 3=cp 4 t.nl (rows t.aW):=by rw[jW];rfl
@[simp] theorem E8 (t:Tm):D.agg [J t.op,J t.num,aB t.name,cp 4 t.nl (rows t.aW)]=t.d:=(jW t).symm
@[simp high] theorem Q1 (t:Tm):a3 true 4 0 t.cells=some t.d:=by rw[jW,ng];rfl
@[simp] theorem fV (t:Tm):t.cells[0]?=some (J t.op):=by rw[ng];rfl
@[simp] theorem hk (t:Tm):t.cells[1]?=some (J t.num):=by rw[ng];rfl
@[simp] theorem akQ (t:Tm):t.cells[2]?=some (aB t.name):=by rw[ng];rfl
@[simp] theorem akR (t:Tm):t.cells[3]?=some (cp 4 t.nl (rows t.aW)):=by rw[ng];rfl
end Tm
def dF{β α σ:Type}{f:List D->Option (List D⊕β)}(l:List α)(S:Nat->σ->List D)(R:List α->σ->β)(Inv:Nat->σ->Prop) (au:∀s,Inv l.length s->f (S l.length s)=some (.inr (R [] s))) (ab:∀(i:Nat)(a:α)(s:σ),l[i]?=some a->i<l.length->Inv i s->(∃s',f (S i s)=some (.inl (S (i+1) s'))/\R (a::l.drop (i+1)) s=R (l.drop (i+1)) s'/\Inv (i+1) s')\/f (S i s)=some (.inr (R (a::l.drop (i+1)) s))): ∀(m i:Nat)(s:σ),Inv i s->l.length-i<m->i<=l.length->bp f m (S i s)=some (R (l.drop i) s)
 |0,i,s,_,h,_=>absurd h (xaA _)
 |m+1,i,s,ah,hm,hle=>by
  rw[jG];by_cases h:i<l.length
  .have cc:=xaa h;have e:l.drop i=l[i]::l.drop (i+1):=xbb h;rcases ab i _ s cc h ah with⟨s',aV,a2,bc⟩|aV
   .rw[aV,e,a2];exact dF l S R Inv au ab m (i+1) s' bc (by omega) h
   rw[aV,e];rfl
  have:i=l.length:=by omega
  subst this;rw[au s ah,xcf (xan _)];rfl
def KU(op:Int):op=1\/op=2\/op=3\/op=4\/op=5\/op=6\/op=7\/op=8\/op=9\/op=10\/op=11\/op=12\/op=13\/op=14\/op=15\/op=16\/op=17\/op=18\/(op<1\/op>18):=by omega
@[simp] theorem azB {f:FuncId}:yi f (.val (.func (.func f) #[] #[]))=true:=by simp[yi]
@[simp] theorem qb {f:FuncId} {cs:List D}:hG f (.fn (.func f) [] cs)=some cs:=by simp[hG]
def YF(a b:Int):lJ true [J a,J b]=some (J (if b>a then b else a)):=by simp[lJ,qD,r8,J,nF]
def YG(a b:Int):lJ false [J a,J b]=some (J (if b<a then b else a)):=by simp[lJ,qD,r8,J,nF]
@[simp] theorem YH {b:Bool}:(ay b).flat=true:=rfl
@[simp] theorem akS {b:Int}:(J b).flat=true:=rfl
@[simp] theorem akT {b:ByteArray}:(aB b).flat=true:=rfl
@[simp] theorem azC {a:Int}:dp .neg (J a)=some (J (IntKind.i64.wrap (-a))):=by rw[<-Int.zero_sub];rfl
theorem YI:(D.val (.bool false))=ay false:=rfl
theorem YJ:(D.val (.int .i64 0))=J 0:=rfl
theorem YK:(D.val (.string ⟨#[]⟩))=aB ⟨#[]⟩:=rfl
@[simp] theorem akU (a b c:D):a5 3 (.agg [a,b,c])=(a.one&&(b.one&&c.one)):=by simp[a5]
@[simp] theorem akV (a b c e:D):a5 4 (.agg [a,b,c,e])=(a.one&&(b.one&&(c.one&&e.one))):=by simp[a5]
@[simp] theorem azD {a:D} {l:List D}:ad (.agg (a::l)) 0=a:=rfl
@[simp] theorem azE {a b:D} {l:List D}:ad (.agg (a::b::l)) 1=b:=rfl
@[simp] theorem azF {a b c:D} {l:List D}:ad (.agg (a::b::c::l)) 2=c:=rfl
@[simp] theorem azG {a b c e:D} {l:List D}:ad (.agg (a::b::c::e::l)) 3=e:=rfl
theorem b2{bt:Bool}{i:Nat}(h:i<1000000000000000000):ai bt .add (J (i:Int)) (J 1)=some (J ((i+1:Nat):Int)):=by rw[gj (by omega) (by omega)];rfl
def lS{bt:Bool}{i:Int}(h:-9223372036854775809<=i)(bz:i<9223372036854775807):ai bt .add (J i) (J 1)=some (J (i+1)):=by rw[gj (by omega) (by omega)]
section
variable{α β:Type}{c:Prop}[Decidable c]
@[simp] theorem azH {a b:α}:(if c then(Sum.inl a:α⊕β)else Sum.inl b)=Sum.inl (if c then a else b):=by split<;>rfl
@[simp] theorem azI {a b:β}:(if c then(Sum.inr a:α⊕β)else Sum.inr b)=Sum.inr (if c then a else b):=by split<;>rfl
@[simp] theorem azJ {a b:α} {l r:List α}:(if c then a::l else b::r)=(if c then a else b)::(if c then l else r):=by split<;>rfl
@[simp] theorem azK {a b:Int}:(if c then J a else J b)=J (if c then a else b):=by split<;>rfl
@[simp] theorem azL {a b:ByteArray}:(if c then aB a else aB b)=aB (if c then a else b):=by split<;>rfl
@[simp] theorem YL {a b:List D}:(if c then D.a1 a else D.a1 b)=D.a1 (if c then a else b):=by split<;>rfl
@[simp] theorem azM {a b:List D}:(if c then D.agg a else D.agg b)=D.agg (if c then a else b):=by split<;>rfl
@[simp] theorem azN {f:List D->Option β} {x y:List D⊕β}:a9 f (if c then x else y)=if c then a9 f x else a9 f y:=by split<;>rfl
@[simp] theorem azO {x y:Option α} {f:α->Option β}:aa (if c then x else y) f=if c then aa x f else aa y f:=by split<;>rfl
end
section
variable{ee:Type}{c:Prop}[Decidable c]
@[simp] theorem azP {x y:D} {w:Bool} {p:Option D}:bL (if c then x else y) w p=if c then bL x w p else bL y w p:=by split<;>rfl
@[simp] theorem azQ {x y:D} {w:Bool} {p q:Option ee}:v3 (if c then x else y) w p q=if c then v3 x w p q else v3 y w p q:=by split<;>rfl
@[simp] theorem azR {x y a b:D}:bW (if c then x else y) a b=if c then bW x a b else bW y a b:=by split<;>rfl
@[simp] theorem azS {x y:D} {p q:Option ee}:aE (if c then x else y) p q=if c then aE x p q else aE y p q:=by split<;>rfl
@[simp] theorem azT {x y:D} {o:UnOp}:dp o (if c then x else y)=if c then dp o x else dp o y:=by split<;>rfl
end
@[simp] theorem azU {a b:Bool}:ay a=ay b↔a=b:=⟨λh=>by cases h;rfl,λh=>by rw[h]⟩
@[simp] theorem azV {a b:Int}:J a=J b↔a=b:=⟨λh=>by cases h;rfl,λh=>by rw[h]⟩
@[simp] theorem azW {a b:ByteArray}:aB a=aB b↔a=b:=⟨λh=>by cases h;rfl,λh=>by rw[h]⟩
attribute [simp] YI YJ YK
def lq(M:List (Value×D)):Prop:=∀e∈M,∃s,e.1= .string s
def gr:List (Value×D)->ByteArray->Option D
 |[],_=>none|(.string s,d)::r,x=>if s=x then some d else gr r x
 |_::r,x=>gr r x
def YM{e:Value×D}{M:List (Value×D)}(h:lq (e::M)):(∃s,e.1= .string s)/\lq M:=⟨h e (by simp),λx ag=>h x (by simp[ag])⟩
def YN(a b:ByteArray):Instr.sameNow .string (.string a) (.string b)=some (decide (b=a)):=by simp[Instr.sameNow,Je,eq_comm]
def YO{M:List (Value×D)}(h:lq M)(x:ByteArray):findD .string (.string x) M=some (gr M x):=by
 induction M with
 |nil=>rfl
 |cons e r ih=>
  obtain⟨⟨s,aH⟩,av⟩:=YM h;obtain⟨k,d⟩:=e;simp only at aH;subst aH;simp only[findD,YN,gr];by_cases ag:s=x;.simp[ag]
  simp[ag,ih av]
def akW{M:List (Value×D)}(h:lq M)(x:ByteArray)(d:D):∃cW,qE .string (.string x) d M=some cW/\lq cW/\(∀y,gr cW y=if y=x then some d else gr M y)/\cW.length=M.length+(if(gr M x).isSome then 0 else 1):=by
 induction M with
 |nil=>exact⟨[(.string x,d)],rfl,by intro e he;simp at he;exact⟨x,by rw[he]⟩,λy=>by simp[gr,eq_comm],rfl⟩
 |cons e r ih=>
  obtain⟨⟨s,aH⟩,av⟩:=YM h;obtain⟨k,d0⟩:=e;simp only at aH;subst aH;simp only[qE,YN,gr];by_cases ag:s=x
  .refine⟨(.string x,d)::r,by simp[ag],?_,λy=>?_,by simp[ag]⟩
   .intro e he;rcases xak.1 he with rfl|he
    .exact⟨x,rfl⟩
    exact av e he
   simp only[gr];by_cases aP:y=x;.simp[aP]
   have:¬x=y:=λh=>aP h.symm;subst ag;simp[aP,this]
  obtain⟨cW,ab,af,aw,a4⟩:=ih av;refine⟨(.string s,d0)::cW,by simp[ag,ab],?_,λy=>?_,by simp[ag,a4];omega⟩
  .intro e he;rcases xak.1 he with rfl|he
   .exact⟨s,rfl⟩
   exact af e he
  simp only[gr,aw y];by_cases aP:y=x;.subst aP;simp[ag]
  simp[aP]
theorem yq{M:List (Value×D)}(h:lq M){z:Value}{x:ByteArray}:jU .string z true M (aB x)=some (match gr M x with|some d=> .a1 [d,ay true]|none=> .a1 [sa z,ay false]):=by simp only[jU,aB,YO h];cases gr M x<;>rfl
def Bv{M:List (Value×D)}(h:lq M)(x:ByteArray)(d:D):∃cW,nc .string M (aB x) d=some cW/\lq cW/\(∀y,gr cW y=if y=x then some d else gr M y)/\cW.length=M.length+(if(gr M x).isSome then 0 else 1):=akW h x d
def uu(M:List (Value×D)):Prop:=∀e∈M,∃i,e.1= .int .i64 i
def mT:List (Value×D)->Int->Option D
 |[],_=>none|(.int .i64 s,d)::r,x=>if s=x then some d else mT r x
 |_::r,x=>mT r x
def YP{e:Value×D}{M:List (Value×D)}(h:uu (e::M)):(∃s,e.1= .int .i64 s)/\uu M:=⟨h e (by simp),λx ag=>h x (by simp[ag])⟩
def YQ(a b:Int):Instr.sameNow (.int .i64) (.int .i64 a) (.int .i64 b)=some (decide (b=a)):=by
 by_cases h:a=b;.subst h;simp[Instr.sameNow]
 have bz:¬b=a:=λe=>h e.symm;simp[Instr.sameNow,h,bz]
def akX{M:List (Value×D)}(h:uu M)(x:Int):findD (.int .i64) (.int .i64 x) M=some (mT M x):=by
 induction M with
 |nil=>rfl
 |cons e r ih=>
  obtain⟨⟨s,aH⟩,av⟩:=YP h;obtain⟨k,d⟩:=e;simp only at aH;subst aH;simp only[findD,YQ,mT];by_cases ag:s=x;.simp[ag]
  simp[ag,ih av]
def akY{M:List (Value×D)}(h:uu M)(x:Int)(d:D):∃cW,qE (.int .i64) (.int .i64 x) d M=some cW/\uu cW/\(∀y,mT cW y=if y=x then some d else mT M y)/\cW.length=M.length+(if(mT M x).isSome then 0 else 1):=by
 induction M with
 |nil=>exact⟨[(.int .i64 x,d)],rfl,by intro e he;simp at he;exact⟨x,by rw[he]⟩,λy=>by simp[mT,eq_comm],rfl⟩
 |cons e r ih=>
  obtain⟨⟨s,aH⟩,av⟩:=YP h;obtain⟨k,d0⟩:=e;simp only at aH;subst aH;simp only[qE,YQ,mT];by_cases ag:s=x
  .refine⟨(.int .i64 x,d)::r,by simp[ag],?_,λy=>?_,by simp[ag]⟩
   .intro e he;rcases xak.1 he with rfl|he
    .exact⟨x,rfl⟩
    exact av e he
   simp only[mT];by_cases aP:y=x;.simp[aP]
   have:¬x=y:=λh=>aP h.symm;subst ag;simp[aP,this]
  obtain⟨cW,ab,af,aw,a4⟩:=ih av;refine⟨(.int .i64 s,d0)::cW,by simp[ag,ab],?_,λy=>?_,by simp[ag,a4];omega⟩
  .intro e he;rcases xak.1 he with rfl|he
   .exact⟨s,rfl⟩
   exact af e he
  simp only[mT,aw y];by_cases aP:y=x;.subst aP;simp[ag]
  simp[aP]
theorem akZ{M:List (Value×D)}(h:uu M){z:Value}{ok:Bool}{x:Int}:jU (.int .i64) z ok M (J x)=some (match mT M x with|some d=>if ok then .a1 [d,ay true]else d|none=>if ok then .a1 [sa z,ay false]else sa z):=by simp only[jU,J,akX h];cases mT M x<;>rfl
def ak0{M:List (Value×D)}(h:uu M)(x:Int)(d:D):∃cW,nc (.int .i64) M (J x) d=some cW/\uu cW/\(∀y,mT cW y=if y=x then some d else mT M y)/\cW.length=M.length+(if(mT M x).isSome then 0 else 1):=akY h x d
def YR:∀x:List UInt8,Op.bytesLess x x=false
 |[]=>rfl|a::x=>by simp[Op.bytesLess,YR x]
def YS:∀x y z:List UInt8,Op.bytesLess x y=true->Op.bytesLess y z=true->Op.bytesLess x z=true
 |[],[],z,h,_=>by simp[Op.bytesLess]at h|[],b::y,[],_,h=>by simp[Op.bytesLess]at h|[],b::y,c::z,_,_=>rfl|a::x,[],z,h,_=>by simp[Op.bytesLess]at h|a::x,b::y,[],_,h=>by simp[Op.bytesLess]at h
 |a::x,b::y,c::z,ab,af=>by
  simp only[Op.bytesLess,xbc,xam,xaC,xbH,UInt8.lt_iff_toNat_lt]at*;rcases ab with ab|⟨rfl,ab⟩
  .rcases af with af|⟨rfl,af⟩;.exact .inl (by omega)
   exact .inl ab
  rcases af with af|⟨rfl,af⟩;.exact .inl af
  exact .inr ⟨rfl,YS x y z ab af⟩
def YT:∀x y:List UInt8,Op.bytesLess x y=true\/x=y\/Op.bytesLess y x=true
 |[],[]=> .inr (.inl rfl)|[],b::y=> .inl rfl|a::x,[]=> .inr (.inr rfl)
 |a::x,b::y=>by
  simp only[Op.bytesLess,xbc,xam,xaC,xbH,UInt8.lt_iff_toNat_lt,List.cons.injEq];by_cases ab:a.toNat<b.toNat;.exact .inl (.inl ab)
  by_cases af:b.toNat<a.toNat;.exact .inr (.inr (.inl af))
  have:a=b:=UInt8.toNat_inj.1 (by omega);subst this;rcases YT x y with h|h|h
  .exact .inl (.inr ⟨rfl,h⟩)
  .exact .inr (.inl ⟨rfl,h⟩)
  exact .inr (.inr (.inr ⟨rfl,h⟩))
def mq(x:ByteArray):blt x x=false:=YR _
def q6{x y z:ByteArray}(h:blt x y=true)(bz:blt y z=true):blt x z=true:=YS _ _ _ h bz
def yr(x y:ByteArray):blt x y=true\/x=y\/blt y x=true:=by
 rcases YT x.toList y.toList with h|h|h;.exact .inl h
 .exact .inr (.inl (Vf h))
 exact .inr (.inr h)
def ak1(y x:ByteArray):(!(blt y x||decide (y=x)))=blt x y:=by
 rcases yr x y with h|h|h
 .have ab:blt y x=false:=by
   cases bk:blt y x with|false=>rfl|true=>have:=q6 h bk;rw[mq]at this;cases this
  have af:y≠x:=by rintro rfl;rw[mq]at h;cases h
  simp[h,ab,af]
 .subst h;simp[mq]
 have ab:blt x y=false:=by cases bk:blt x y with|false=>rfl|true=>have:=q6 h bk;rw[mq]at this;cases this
 simp[h,ab]
def KV{bt:Bool}{x y:ByteArray}:ai bt .gtr (aB y) (aB x)=some (ay (blt x y)):=by rw[QR,ak1]
def hl:List ByteArray->Prop
 |[]=>True|a::r=>(∀b∈r,blt a b=true)/\hl r
def gu(s:ByteArray):List ByteArray->List ByteArray
 |[]=>[s]|a::r=>if a=s then a::r else if blt s a then s::a::r else a::gu s r
def KW{s x:ByteArray}:∀{l:List ByteArray},x∈gu s l->x=s\/x∈l
 |[],h=>by simp[gu]at h;exact .inl h
 |a::r,h=>by
  rw[gu]at h;split at h;.exact .inr h
  split at h
  .rcases xak.1 h with h|h;.exact .inl h
   exact .inr h
  rcases xak.1 h with h|h;.exact .inr (by simp[h])
  rcases KW h with h|h;.exact .inl h
  exact .inr (by simp[h])
def Bw{s:ByteArray}:∀{l:List ByteArray},hl l->hl (gu s l)
 |[],_=>⟨by simp,trivial⟩
 |a::r,h=>by
  rw[gu];split;.exact h
  rename_i cP;split
  .rename_i cr;refine⟨λb aj=>?_,h⟩;rcases xak.1 aj with rfl|aj
   .exact cr
   exact q6 cr (h.1 b aj)
  rename_i wu;refine⟨λb aj=>?_,Bw h.2⟩;rcases KW aj with rfl|aj
  .rcases yr a b with ab|ab|ab;.exact ab
   .exact absurd ab cP
   rw[ab]at wu;exact absurd rfl wu
  exact h.1 b aj
def KX{s:ByteArray}:∀{l:List ByteArray},hl l->s∈l->gu s l=l
 |[],_,h=>by cases h
 |a::r,aH,h=>by
  rw[gu];rcases xak.1 h with rfl|h
  .rw[xad rfl]
  have cr:=aH.1 s h;have cP:¬a=s:=by rintro rfl;rw[mq]at cr;cases cr
  have wu:¬blt s a=true:=λbz=>by have:=q6 cr bz;rw[mq]at this;cases this
  rw[xab cP,xab wu,KX aH.2 h]
def Q2{s:ByteArray}:∀{l:List ByteArray},hl l->s∉l->∃a b,l=a++b/\gu s l=a++s::b/\(∀x∈a,blt x s=true)/\(∀x∈b,blt s x=true)
 |[],_,_=>⟨[],[],rfl,rfl,by simp,by simp⟩
 |a::r,aH,h=>by
  have cP:¬a=s:=λe=>h (by simp[e]);rw[gu,xab cP];by_cases aq:blt s a=true
  .rw[xad aq];exact⟨[],a::r,rfl,rfl,by simp,λx ag=>by
    rcases xak.1 ag with rfl|ag;.exact aq
    exact q6 aq (aH.1 x ag)⟩
  rw[xab aq];obtain⟨p,q,ab,af,aw,a4⟩:=Q2 (l:=r) (s:=s) aH.2 (λhm=>h (xbW _ hm));refine⟨a::p,q,by rw[ab];rfl,by rw[af];rfl,λx ag=>?_,a4⟩;rcases xak.1 ag with rfl|ag
  .rcases yr x s with b7|b7|b7;.exact b7
   .exact absurd b7 cP
   exact absurd b7 aq
  exact aw x ag
def Q3(s:ByteArray):∀{l:List ByteArray},hl l->∃a b,l=a++b/\(∀x∈a,blt s x=false)/\(∀x∈b,blt s x=true)/\(s∈l->∃cC,a=cC++[s])/\(s∉l->s∉a)/\(s∉l->gu s l=a++s::b)
 |[],_=>⟨[],[],rfl,by simp,by simp,by simp,by simp,λ_=>rfl⟩
 |c::r,aH=>by
  by_cases hm:s∈c::r
  .by_cases an:c=s;.subst an;refine⟨[c],r,rfl,by simp[mq],aH.1,λ_=>⟨[],rfl⟩,λh=>absurd hm h,λh=>absurd hm h⟩
   have av:s∈r:=(xak.1 hm).resolve_left λh=>an h.symm;obtain⟨a,b,ab,af,aw,a4,b7,cO⟩:=Q3 s aH.2;obtain⟨cC,Kb⟩:=a4 av;refine⟨c::a,b,by rw[ab];rfl,?_,aw,λ_=>⟨c::cC,by rw[Kb];rfl⟩,λh=>absurd hm h,λh=>absurd hm h⟩;intro x ag;rcases xak.1 ag with rfl|ag
   .have cr:=aH.1 s av;cases bk:blt s x with|false=>rfl|true=>have:=q6 cr bk;rw[mq]at this;cases this
   exact af x ag
  obtain⟨a,b,ab,af,aw,a4⟩:=Q2 aH hm;refine⟨a,b,ab,λx ag=>?_,a4,λh=>absurd h hm,λ_ aI=>hm (by rw[ab];simp[aI]),λ_=>af⟩;have cr:=aw x ag;cases bk:blt s x with|false=>rfl|true=>have:=q6 cr bk;rw[mq]at this;cases this
def E9{s:ByteArray}:∀(l:List ByteArray),(gu s l).length<=l.length+1
 |[]=>by simp[gu]
 |a::r=>by
  rw[gu];split;.simp
  split;.simp
  have:=E9 (s:=s) r;simp;omega
def pk:Nat->e4
 |0=> .stop|n+1=> .struct [.int .i64,.int .i64,.str,.slice 4 56 (pk n)]
def Bx:∀(n m:Nat),m<=2*n->(pk n).ft m=true
 |0,m,h=>by
         have:m=0:=by omega
         subst this;rfl
 |n+1,0,_=>rfl|n+1,1,_=>rfl|n+1,m+2,h=>by have:=Bx n m (by omega);simp only[pk,e4.ft,p9,this,xbq]
def KY{P:Program}{t s:TypeId}(ab:∀y,eu P (.struct [.int .i64,.int .i64,.str,y]) t=(eu P y s&&true))(af:∀y,eu P (.slice 4 56 y) s=eu P y t):∀n,eu P (pk n) t=true
 |0=>rfl|n+1=>by rw[pk,ab,af,KY ab af n];rfl
theorem ak2{P:Program}{t s:TypeId}(ab:∀y,eu P (.struct [.int .i64,.int .i64,.str,y]) t=(eu P y s&&true))(af:∀y,eu P (.slice 4 56 y) s=eu P y t)(aq:decide (t<P.types.size)=true):sD P pk t:=⟨λn=>Bx n n (by omega),KY ab af,xaW aq,λn=>by cases n<;>rfl⟩
def ys:∀(n:Nat){x:List D},mn (pk n) x->∃t:Tm,x=t.cells/\t.cq
 |0,x,h=>h.elim|n+1,x,h=>by obtain⟨a,b,rfl,aI,c,d,rfl,an,e,f,rfl,he,g,i,rfl,cc,rfl⟩:=h;obtain⟨op,rfl,eE⟩:=E3 aI;obtain⟨ak3,rfl,kO⟩:=E3 an;obtain⟨s,rfl,aH⟩:=E4 he;obtain⟨es,rfl,_,aq,mi⟩:=cc;obtain⟨ks,rfl,eG⟩:=qa Tm.cells Tm.cq es λx ag=>ys n (mi x ag).2;refine⟨.mk op ak3 s false ks,?_,.mk _ _ _ _ _ eE kO (by omega) (by simpa using xbV aq (by omega)) eG⟩;simp[Tm.cells,Tm.mo,cp]
def YU{H:Type}{F:q4}{Fs:List q4}{xs:List (DataW H)}{aO:List D}(h:q5 (F::Fs) xs aO):∃x Jg d AM n,xs=x::Jg/\aO=d::AM/\KO (F n) x d/\Bq (F n) d/\q5 Fs Jg AM:=by
 cases xs with
 |nil=>cases aO<;>exact h.elim
 |cons x xs=>cases aO with|nil=>exact h.elim|cons d aO=>obtain⟨⟨n,ab,af⟩,aw⟩:=h;exact⟨x,xs,d,aO,n,rfl,rfl,ab,af,aw⟩
def ak4{H:Type}{xs:List (DataW H)}{aO:List D}(h:q5 [] xs aO):xs=[]/\aO=[]:=by cases xs<;>cases aO<;>first|exact⟨rfl,rfl⟩|exact h.elim
@[simp] theorem azX (a:D):a5 1 (.agg [a])=a.one:=by simp[a5]
@[simp] theorem ak5 (a b:D):a5 2 (.agg [a,b])=(a.one&&b.one):=by simp[a5]
@[simp] theorem ak6 (a b c d e:D):a5 5 (.agg [a,b,c,d,e])=(a.one&&(b.one&&(c.one&&(d.one&&e.one)))):=by simp[a5]
@[simp] theorem ak7 (a b c d e f:D):a5 6 (.agg [a,b,c,d,e,f])=(a.one&&(b.one&&(c.one&&(d.one&&(e.one&&f.one))))):=by simp[a5]
@[simp] theorem YV (a b c d e f g:D):a5 7 (.agg [a,b,c,d,e,f,g])=(a.one&&(b.one&&(c.one&&(d.one&&(e.one&&(f.one&&g.one)))))):=by simp[a5]
@[simp] theorem KZ (a b c d e f g h:D):a5 8 (.agg [a,b,c,d,e,f,g,h])=(a.one&&(b.one&&(c.one&&(d.one&&(e.one&&(f.one&&(g.one&&h.one))))))):=by simp[a5]
@[simp] theorem azY {a b c e f:D} {l:List D}:ad (.agg (a::b::c::e::f::l)) 4=f:=rfl
@[simp] theorem azZ {a b c e f g:D} {l:List D}:ad (.agg (a::b::c::e::f::g::l)) 5=g:=rfl
@[simp] theorem az0 {a b c e f g h:D} {l:List D}:ad (.agg (a::b::c::e::f::g::h::l)) 6=h:=rfl
@[simp] theorem az1 {a b c e f g h i:D} {l:List D}:ad (.agg (a::b::c::e::f::g::h::i::l)) 7=i:=rfl
theorem ak8{β:Type}{x y:Bool}{f:D->Option β}:aa (bL (ay x) true (some (ay y))) (λv=>aa (bW (ay x) v (ay false)) f)=f (ay (x&&y)):=by cases x<;>rfl
theorem ak9{β:Type}{x y:Bool}{f:D->Option β}:aa (bL (ay x) false (some (ay y))) (λv=>aa (bW (ay x) (ay true) v) f)=f (ay (x||y)):=by cases x<;>rfl
inductive Fm where
 |mk (op:Int) (e:Tm) (nl:Bool) (aW:List Fm)
def fI:Tm:= .mk 0 0 ⟨#[]⟩ true []
def Q4:fI.cq:= .mk _ _ _ _ _ (by omega) (by omega) (by decide) (by simp) (by simp)
theorem K0:fI.d=D.agg [J 0,J 0,aB ⟨#[]⟩,D.val (.slice none 0 0)]:=rfl
namespace Fm
def op:Fm->Int| .mk o _ _ _=>o
def e:Fm->Tm| .mk _ t _ _=>t
def nl:Fm->Bool| .mk _ _ b _=>b
def aW:Fm->List Fm| .mk _ _ _ l=>l
mutual
def cells:Fm->List D
 | .mk o t b ks=>[J o,J t.op,J t.num,aB t.name,cp 4 t.nl (Tm.rows t.aW),cp 6 b (rows ks)]
def rows:List Fm->List (List D)
 |[]=>[]|t::r=>cells t::rows r
end
def d(t:Fm):D:= .agg t.cells
mutual
def bq:Fm->Nat
 | .mk _ t _ ks=>2+t.bq+dJ ks
def dJ:List Fm->Nat
 |[]=>0|t::r=>1+bq t+dJ r
end
def mo:∀l:List Fm,rows l=l.map cells
 |[]=>rfl|t::r=>by simp[rows,mo r]
@[simp] theorem Bt {l:List Fm}:(rows l).length=l.length:=by simp[mo]
def E7{l:List Fm}{i:Nat}{t:Fm}(h:l[i]?=some t):(rows l)[i]?=some t.cells:=by simp[mo,h]
def ha{l:List Fm}{b:Bool}{i:Nat}{t:Fm}(h:l[i]?=some t):bo 6 (cp 6 b (rows l)) (J (i:Int))=some t.cells:=by rw[E6,E7 h]
def Bu:∀l:List Fm,l.length<=dJ l
 |[]=>xan 0|t::r=>by simp only[dJ,xap];have:=Bu r;omega
def yn:∀{l:List Fm}{t:Fm},t∈l->bq t+1<=dJ l
 |a::r,t,h=>by
  simp only[dJ];rcases xak.1 h with rfl|h
  .omega
  have:=yn h;omega
theorem K1(t:Fm):t.bq=2+t.e.bq+dJ t.aW:=by cases t;rfl
def jH{t k:Fm}(h:k∈t.aW):k.bq+3<=t.bq:=by have:=yn h;have:=K1 t;omega
def kx{t:Fm}:t.aW.length+2<=t.bq:=by have:=Bu t.aW;have:=K1 t;omega
def yt{t:Fm}:t.e.bq+2<=t.bq:=by have:=K1 t;omega
def ind{P:Fm->Prop}(h:∀t:Fm,(∀k∈t.aW,P k)->P t)(t:Fm):P t:=by
 have:∀(n:Nat)(t:Fm),t.bq<=n->P t:=by
  intro n
  induction n with
  |zero=>intro t aM;cases t;simp[bq]at aM
  |succ n ih=>intro t aM;exact h t λk ak=>ih k (by have:=jH ak;omega)
 exact this _ t (xan _)
inductive cq:Fm->Prop where
 |mk (o:Int) (t:Tm) (b:Bool) (ks:List Fm) (aF:-9223372036854775808<=o/\o<=9223372036854775807) (aM:t.cq) (aq:ks.length*88<=140737488355328) (ak:∀k∈ks,cq k):cq (.mk o t b ks)
def cq.gJ{t k:Fm}(h:cq t)(ak:k∈t.aW):cq k:=by cases h with|mk o n s b ks aF aL aH=>exact aH k ak
def cq.len{t:Fm}(h:cq t):t.aW.length*88<=140737488355328:=by cases h;assumption
def cq.e{t:Fm}(h:cq t):t.e.cq:=by cases h;assumption
def cq.op{t:Fm}(h:cq t):-9223372036854775808<=t.op/\t.op<=9223372036854775807:=by cases h;assumption
theorem ng(t:Fm):t.cells=[J t.op,J t.e.op,J t.e.num,aB t.e.name,cp 4 t.e.nl (Tm.rows t.e.aW),cp 6 t.nl (rows t.aW)]:=by cases t;rfl
theorem jW(t:Fm):t.d= .agg [J t.op,J t.e.op,J t.e.num,aB t.e.name,cp 4 t.e.nl (Tm.rows t.e.aW),cp 6 t.nl (rows t.aW)]:=by cases t;rfl
@[simp] theorem oA (t:Fm):a5 6 t.d=true:=by rw[jW];simp
@[simp] theorem ur (t:Fm):ad t.d 0=J t.op:=by rw[jW];rfl
@[simp] theorem yo (t:Fm):ad t.d 1=J t.e.op:=by rw[jW];rfl
@[simp] theorem yp (t:Fm):ad t.d 2=J t.e.num:=by rw[jW];rfl
@[simp] theorem wq (t:Fm):ad t.d 3=aB t.e.name:=by rw[jW];rfl
@[simp] theorem ala (t:Fm):ad t.d 4=cp 4 t.e.nl (Tm.rows t.e.aW):=by rw[jW];rfl
@[simp] theorem alb (t:Fm):ad t.d 5=cp 6 t.nl (rows t.aW):=by rw[jW];rfl
@[simp] theorem E8 (t:Fm):D.agg [J t.op,J t.e.op,J t.e.num,aB t.e.name,cp 4 t.e.nl (Tm.rows t.e.aW),cp 6 t.nl (rows t.aW)]=t.d:=(jW t).symm
@[simp high] theorem Q1 (t:Fm):a3 true 6 0 t.cells=some t.d:=by rw[jW,ng];rfl
end Fm
attribute [go_sem] eF sB lR nO pj ak8 ak9 EY KK oy Bm Bn Bo QQ Ys akt Bp p8 EW QM aka akb akc akd akM ake akf akg akh aki akN akj QN xbu xcb EX akm YE akn akp Yq xbq xbE Bool.and_self xaD xaG Bool.not_true Bool.not_false xat YH akS akT Bool.or_true Bool.true_or ak5 akU akV ak6 ak7 YV KZ YI YJ YK aj9 aj8 Tm.oA Tm.ur Tm.yo Tm.yp Tm.wq Tm.E8 Tm.Q1 Tm.Bt Fm.oA Fm.ur Fm.yo Fm.yp Fm.wq Fm.ala Fm.alb Fm.E8 Fm.Q1 Fm.Bt
def q7:Nat->e4
 |0=> .stop|n+1=> .struct [.int .i64,pk (n+1),.slice 6 88 (q7 n)]
def Q5:∀(n m:Nat),m<=2*n->(q7 n).ft m=true
 |0,m,h=>by
         have:m=0:=by omega
         subst this;rfl
 |n+1,0,_=>rfl|n+1,1,_=>by simp[q7,e4.ft,p9]|n+1,m+2,h=>by have:=Q5 n m (by omega);have af:=Bx (n+1) (m+1) (by omega);simp only[q7,e4.ft,p9,this,af,xbq]
def YW{P:Program}{t s r q:TypeId}(ab:∀y z,eu P (.struct [.int .i64,y,z]) t=(eu P y r&&(eu P z s&&true)))(af:∀y,eu P (.slice 6 88 y) s=eu P y t)(aw:∀n,eu P (pk n) r=true):∀n,eu P (q7 n) t=true
 |0=>rfl|n+1=>by rw[q7,ab,af,YW (q:=q) ab af aw n,aw];rfl
theorem alc{P:Program}{t s r q:TypeId}(ab:∀y z,eu P (.struct [.int .i64,y,z]) t=(eu P y r&&(eu P z s&&true)))(af:∀y,eu P (.slice 6 88 y) s=eu P y t) (aw:∀y,eu P (.struct [.int .i64,.int .i64,.str,y]) r=(eu P y q&&true)) (a4:∀y,eu P (.slice 4 56 y) q=eu P y r) (aq:decide (t<P.types.size)=true):sD P q7 t:=⟨λn=>Q5 n n (by omega),YW (q:=q) ab af (KY aw a4),xaW aq,λn=>by cases n<;>rfl⟩
def YX:∀(n:Nat){x:List D},mn (q7 n) x->∃t:Fm,x=t.cells/\t.cq
 |0,x,h=>h.elim|n+1,x,h=>by obtain⟨a,b,rfl,aI,c,d,rfl,an,g,i,rfl,cc,rfl⟩:=h;obtain⟨op,rfl,eE⟩:=E3 aI;obtain⟨t,rfl,aM⟩:=ys (n+1) an;obtain⟨es,rfl,_,aq,mi⟩:=cc;obtain⟨ks,rfl,eG⟩:=qa Fm.cells Fm.cq es λx ag=>YX n (mi x ag).2;refine⟨.mk op t false ks,?_,.mk _ _ _ _ eE aM (by simpa using xbV aq (by omega)) eG⟩;simp[Fm.cells,Fm.mo,cp,Tm.ng]
structure bb where
 name:ByteArray
 e:Tm
def bb.cells(d:bb):List D:=[aB d.name,J d.e.op,J d.e.num,aB d.e.name,cp 4 d.e.nl (Tm.rows d.e.aW)]
def bb.d(d:bb):D:= .agg d.cells
def aQ(l:List bb):D:= .ax 5 (l.map bb.cells)
def bb.cq(d:bb):Prop:=d.name.size<=140737488351232/\d.e.cq
section
variable{l:List bb}{i:Nat}{d:bb}
def fi(h:l[i]?=some d):bo 5 (aQ l) (J (i:Int))=some d.cells:=by simp[aQ,h]
def dZ(l:List bb):bI (aQ l)=some (J l.length):=by simp[aQ]
@[simp] theorem bb.Fa (d:bb):a3 true 5 0 d.cells=some d.d:=rfl
@[simp] theorem bb.hk (d:bb):a3 true 4 1 d.cells=some d.e.d:=by rw[Tm.jW];rfl
@[simp] theorem bb.fV (d:bb):a3 false 1 0 d.cells=some (aB d.name):=rfl
@[simp] theorem bb.agg (d:bb):a5 5 d.d=true:=by unfold bb.d bb.cells;simp
@[simp] theorem bb.a8 (d:bb):ad d.d 0=aB d.name:=rfl
@[simp] theorem bb.bU (d:bb):ad d.d 1=J d.e.op:=rfl
@[simp] theorem bb.b9 (d:bb):ad d.d 2=J d.e.num:=rfl
@[simp] theorem bb.cE (d:bb):ad d.d 3=aB d.e.name:=rfl
@[simp] theorem bb.dy (d:bb):ad d.d 4=cp 4 d.e.nl (Tm.rows d.e.aW):=rfl
end
def dq(l:List bb)(x:ByteArray):Option Nat:=l.findIdx? (λd=>decide (d.name=x))
def Q6{l:List bb}{x:ByteArray}{i:Nat}(h:dq l x=some i):∃d,l[i]?=some d/\d.name=x/\i<l.length:=by obtain⟨ab,af,_⟩:=xbg.1 h;exact⟨_,xaa ab,by simpa using af,ab⟩
def c9(l:List Nat):D:= .ax 1 (l.map λ(i:Nat)=>[J (i:Int)])
def uv{l:List Nat}{i k:Nat}(h:l[i]?=some k):bo 1 (c9 l) (J (i:Int))=some [J (k:Int)]:=by simp[c9,h]
def pn(l:List Nat):bI (c9 l)=some (J l.length):=by simp[c9]
def hU(l:List (List Nat)):D:= .ax 1 (l.map λx=>[c9 x])
def ald{l:List (List Nat)}{i:Nat}{k:List Nat}(h:l[i]?=some k):bo 1 (hU l) (J (i:Int))=some [c9 k]:=by simp[hU,h]
def jI(M:List (Value×D))(S:List Nat):Prop:=uu M/\∀i:Nat,mT M (i:Int)=if i∈S then some (ay true)else none
theorem jI.nil:jI [] []:=⟨by(intro e he;cases he),λi=>rfl⟩
def jI.look{M:List (Value×D)}{S:List Nat}(h:jI M S){i:Nat}{z:Value}:jU (.int .i64) (.bool false) false M (J (i:Int))=some (ay (decide (i∈S))):=by rw[akZ h.1,h.2 i];by_cases ah:i∈S<;>simp[ah,sa]
def jI.put{M:List (Value×D)}{S:List Nat}(h:jI M S)(i:Nat):∃cW,nc (.int .i64) M (J (i:Int)) (ay true)=some cW/\jI cW (if i∈S then S else S++[i]):=by
 obtain⟨cW,ab,af,aw,_⟩:=ak0 h.1 (i:Int) (ay true);refine⟨cW,ab,af,λj=>?_⟩;rw[aw,h.2];by_cases aN:j=i;.subst aN;by_cases ah:j∈S<;>simp[ah]
 have:¬((j:Int)=(i:Int)):=by omega
 by_cases ah:i∈S<;>simp[this,ah,aN]
def jI.mem{M:List (Value×D)}{S T:List Nat}(h:jI M S)(nz:∀x,x∈S↔x∈T):jI M T:=⟨h.1,λi=>by rw[h.2];simp only[nz i]⟩
def wv(n:Nat):e4:= .slice 5 72 (.struct [.str,pk n])
def YY(n:Nat):∀m,m<=n->(wv n).ft m=true
 |0,_=>rfl|1,_=>by simp[wv,e4.ft]|m+2,h=>by have:=Bx n m (by omega);have:=Bx n (m+1) (by omega);have af:e4.ft m .str=true:=wo m .str rfl;simp only[wv,e4.ft,p9, *,xbq]
theorem ale{P:Program}{t r q:TypeId}(ab:∀y,eu P (.slice 5 72 (.struct [.str,y])) t=(eu P y r&&true)) (aw:∀y,eu P (.struct [.int .i64,.int .i64,.str,y]) r=(eu P y q&&true)) (a4:∀y,eu P (.slice 4 56 y) q=eu P y r) (aq:decide (t<P.types.size)=true):sD P wv t:=⟨λn=>YY n n (xan _),λn=>by rw[wv,ab,KY aw a4 n];rfl,xaW aq,λn=>rfl⟩
def YZ{n:Nat}{x:List D}(h:mn (.struct [.str,pk n]) x):∃d:bb,x=d.cells/\d.cq:=by obtain⟨a,b,rfl,aI,c,e,rfl,an,rfl⟩:=h;obtain⟨s,rfl,aH⟩:=E4 aI;obtain⟨t,rfl,aM⟩:=ys n an;exact⟨⟨s,t⟩,by simp[bb.cells,Tm.ng],aH,aM⟩
end Go.Am
