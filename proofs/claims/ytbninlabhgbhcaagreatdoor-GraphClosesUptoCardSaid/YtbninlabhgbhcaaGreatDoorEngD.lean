/- From what a call is handed to data, and from an answer to the row. No condition. -/
import Derived.Test.YtbninlabhgbhcaaGreatDoorEngC
import Derived.ProofKit
import Derived.OpenShut
import Derived.KernelRfl
import Derived.Deep.DeepHandedRow
import Derived.Lib.LaidTab
import Derived.Test.YtbninlabhgbhcaaGreatDoorEngS
set_option linter.all false
set_option linter.unnecessarySimpa false
namespace Go.Am
open Go.ChangeShapes Go.WideShapes Go.ChangeAt Go.RowKit
inductive eC where
 |bool
 |int (k:IntKind)
 |str
 |slice (k bytes:Nat) (e:eC)
 |arr (n:Nat) (e:eC)
 |struct (de:List eC)
 |stop
mutual
def mI:eC->List D->Prop
 | .bool,aR=>∃b,aR=[aI b]| .int k,aR=>∃n,aR=[.val (.int k n)]/\(Lit.int k n).wf=true| .str,aR=>∃s,aR=[a1 s]/\s.size<=140737488351232| .slice k Gf e,aR=>∃es:List (List D),aR=[.aV k es]/\es.length<=maxLen/\es.length*Gf<=140737488351232/\∀x∈es,x.length=k/\mI e x| .arr n e,aR=>∃jC:List (List D),aR=jC.flatten/\jC.length=n/\∀x∈jC,mI e x| .struct de,aR=>LR de aR| .stop,_=>False
def LR:List eC->List D->Prop
 |[],aR=>aR=[]|f::de,aR=>∃a b,aR=a++b/\mI f a/\LR de b
end
mutual
def rd{H:Type}:eC->DataW H->Option (List D)
 | .bool,.lit (.bool b)=>some [aI b]| .int _,.lit (.int k n)=>some [.val (.int k n)]| .str,.lit (.string l)=>some [a1 ⟨l.toArray⟩]| .slice k _ _,.nil=>some [.aV k []]| .slice k _ e,.slice es _=>(es.mapM (rd e)).map λxs=>[.aV k xs]| .arr _ e,.agg es=>(es.mapM (rd e)).map List.flatten| .struct de,.agg es=>hY de es|_,_=>none
def hY{H:Type}:List eC->List (DataW H)->Option (List D)
 |[],[]=>some []|f::de,d::aR=>(rd f d).bind λa=>(hY de aR).map (a++·)|_,_=>none
end
mutual
def eD(P:Program):eC->TypeId->Bool
 | .bool,t=>match P.underlying t with|some .bool=>true|_=>false
 | .int k,t=>match P.underlying t with|some (.int bF)=>decide (k=bF)|_=>false
 | .str,t=>match P.underlying t with|some .string=>true|_=>false
 | .stop,_=>true| .slice k Gf e,t=>match P.underlying t with|some (.slice du)=>decide (P.cellsOf du=k)&&decide (0<k)&&decide (P.bytesOf du=Gf)&&eD P e du|_=>false
 | .arr n e,t=>match P.underlying t with|some (.array gj du)=>decide (n=gj)&&decide (P.cellsOf t=n*P.cellsOf du)&&eD P e du|_=>false
 | .struct de,t=>match P.underlying t with|some (.struct RT)=>zw P de RT.toList 0 (P.cellsOf t)|_=>false
def zw(P:Program):List eC->List Field->Nat->Nat->Bool
 |[],[],off,n=>decide (off=n)|f::de,x::xs,off,n=>decide (x.offset=off)&&eD P f x.type&&zw P de xs (off+P.cellsOf x.type) n|_,_,_,_=>false
end
mutual
def eC.hZ:Nat->eC->Bool
 |0,_=>true|_+1,.stop=>false|n+1,.slice _ _ e=>e.hZ n|n+1,.arr _ e=>e.hZ n|n+1,.struct de=>qM n de|_+1,_=>true
def qM:Nat->List eC->Bool
 |_,[]=>true|n,f::de=>f.hZ n&&qM n de
end
def Rel(m:Mem):List D->List Value->Prop
 |[],[]=>True|d::aR,v::vs=>D.one d=true/\c4 m d v/\Rel m aR vs|_,_=>False
def Rel.len{m:Mem}:∀{aR:List D}{vs:List Value},Rel m aR vs->vs.length=aR.length
 |[],[],_=>rfl|_::_,_::_,h=>by simp[Rel.len h.2.2]|[],_::_,h=>h.elim|_::_,[],h=>h.elim
def Rel.at{m:Mem}:∀{aR:List D}{vs:List Value},Rel m aR vs->∀(i:Nat)(d:D),aR[i]?=some d->∃v,vs[i]?=some v/\D.one d=true/\c4 m d v
 |[],[],_,i,d,h=>by simp at h|x::aR,v::vs,h,0,d,ay=>by simp at ay;subst ay;exact⟨v,rfl,h.1,h.2.1⟩|_::_,_::_,h,i+1,d,ay=>by simpa using Rel.at h.2.2 i d (by simpa using ay)|[],_::_,h,_,_,_=>h.elim|_::_,[],h,_,_,_=>h.elim
def Rel.append{m:Mem}:∀{aR:List D}{vs:List Value}{B1:List D}{xp:List Value},Rel m aR vs->Rel m B1 xp->Rel m (aR++B1) (vs++xp)
 |[],[],_,_,_,bC=>bC|_::_,_::_,_,_,h,bC=>⟨h.1,h.2.1,Rel.append h.2.2 bC⟩|[],_::_,_,_,h,_=>h.elim|_::_,[],_,_,h,_=>h.elim
def Rel.one{m:Mem}:∀{aR:List D}{vs:List Value},Rel m aR vs->aR.all D.one=true
 |[],[],_=>rfl|_::_,_::_,h=>by simp only[xbj,h.1,Rel.one h.2.2,Bool.and_self]|[],_::_,h=>h.elim|_::_,[],h=>h.elim
def RU{α:Type}:∀(n:Nat)(Q:Nat->α->Prop),(∀i,i<n->∃y,Q i y)->∃c7:List α,c7.length=n/\∀(i:Nat)(y:α),c7[i]?=some y->Q i y
 |0,_,_=>⟨[],rfl,by intro i y h;simp at h⟩
 |n+1,Q,h=>by obtain⟨c7,J,aa⟩:=RU n (λi=>Q (i+1)) λi af=>h (i+1) (by omega);obtain⟨y,aE⟩:=h 0 (by omega);refine⟨y::c7,by simp[J],?_⟩;intro i z bG;cases i with|zero=>simp at bG;subst bG;exact aE|succ i=>exact aa i z (by simpa using bG)
def RV{α β:Type}(f:α->Option β):∀(l:List α)(r:List β),r.length=l.length->(∀(i:Nat)(x:α)(y:β),l[i]?=some x->r[i]?=some y->f x=some y)->l.mapM f=some r
 |[],[],_,_=>rfl|x::l,y::r,al,h=>by have au:=h 0 x y rfl rfl;have ih:=RV f l r (by simpa using al) λi x y ad aE=>h (i+1) x y (by simpa using ad) (by simpa using aE);simp[List.mapM_cons,au,ih]|[],_::_,h,_=>by simp at h|_::_,[],h,_=>by simp at h
section
variable{H:Type}{enc:TypeId×Value->H}{P:Program}{w:World}{base:Nat}{spare:Nat->Bool}{held:Bool}
def pieces{m:Mem}{c:Nat}{cs:List Value}:∀(jC:List (List D)) (o:Nat),(∀(i:Nat)(x:List D),jC[i]?=some x->Rel m x ((cs.drop (o+i*c)).take c))->(o+jC.length*c=cs.length)->Rel m jC.flatten (cs.drop o)
 |[],o,_,al=>by have:cs.drop o=[]:=xcp (by simp at al;omega);rw[this];trivial
 |x::r,o,h,al=>by
  have ew:o+c+r.length*c=cs.length:=by simp only[xan,xaV]at al;omega
  have au:=h 0 x rfl;have ih:=pieces (m:=m) (cs:=cs) (c:=c) r (o+c) (λi x ad=>by have:=h (i+1) x (by simpa using ad);rw[show o+c+i*c=o+(i+1)*c by rw[xaV];omega];exact this) ew
  have e:cs.drop o=(cs.drop o).take c++cs.drop (o+c):=by
   conv=>lhs;rw[<-xbD c (cs.drop o)]
   rw[List.drop_drop]
  rw[e,List.flatten_cons];refine Rel.append ?_ ih;simpa using au
def RW{H:Type}{P:Program}{e:TypeId}:∀{l:List (DataW H)} {x:DataW H} {y:Nat},x∈l->y∈x.weights P e->y∈DataW.weightsAll P e l
 |a::r,x,y,ad,aE=>by
  simp only[DataW.weightsAll,xas];rcases xal.1 ad with rfl|ad
  .exact .inl aE
  exact .inr (RW ad aE)
def ZX(m:Mem)(hm:∀b o,w.heap[b]?=some o->m b=some o):∀(n:Nat)(ty:eC)(t:TypeId)(cs:List Value)(x:DataW H×List MemPlace),eD P ty t=true->ty.hZ n=true->(x.1.weights P t).all (·<=reachBytes)=true->DataW.trod enc P w base spare held n t cs=some x-> ∃aR,rd ty x.1=some aR/\mI ty aR/\Rel m aR cs:=by
 intro n
 induction n with
 |zero=>intro ty t cs x _ _ _ h;simp[DataW.trod]at h
 |succ n ih=>
  intro ty t cs x fp mw kR h;cases ty with
  |stop=>simp[eC.hZ]at mw
  |bool=>
   simp only[eD]at fp;split at fp;.obtain⟨b,rfl,rfl⟩:=DataW.trod_bool ‹_› h;exact⟨[aI b],rfl,⟨b,rfl⟩,rfl,.val _,trivial⟩
   cases fp
  |int k=>
   simp only[eD]at fp;split at fp;.have:=xbd fp;subst this;obtain⟨z,rfl,rfl,hw⟩:=DataW.trod_int ‹_› h;exact⟨[.val (.int k z)],rfl,⟨z,rfl,hw⟩,rfl,.val _,trivial⟩
   cases fp
  |str=>
   simp only[eD]at fp;split at fp
   .obtain⟨s,rfl,rfl,hw⟩:=DataW.trod_string ‹_› h;refine⟨[a1 s],?_,⟨s,rfl,?_⟩,rfl,.val _,trivial⟩;.simp[rd]
    simp only[DataW.weights,xbj,List.all_nil,xbu,xaz]at kR;simp only[reachBytes]at kR;simpa using kR
   cases fp
  |slice k Gf e=>
   simp only[eD]at fp;split at fp
   .rename_i du hu;simp only[xao,xaz]at fp;obtain⟨⟨⟨ah,Gg⟩,qw⟩,he⟩:=fp;subst ah;subst qw;simp only[eC.hZ]at mw;rcases DataW.trod_slice hu h with⟨rfl,rfl⟩|⟨a,len,cap,elems,rest,gj,aN,rfl,rfl,aj,Xd,o8,ei,Gh,_,_⟩
    .exact⟨[.aV _ []],rfl,⟨[],rfl,by simp,by simp,by simp⟩,rfl,.kH _ _ _,trivial⟩
    cases aN;simp only[DataW.weights,hu,xbj,List.all_append,xao,xaz,xaY,reachBytes]at kR;obtain⟨o9,PS,_⟩:=kR;have each:∀i,i<len->∃aR,∃x,elems[i]?=some x/\rd e x.1=some aR/\mI e aR/\∃c,w.cells? base (a.add (i*P.cellsOf du)) (P.cellsOf du)=some c/\Rel m aR c:=by
     intro i af;have J:=Gh i af;rw[xab (by omega)]at J;obtain⟨c,aa,ax⟩:=xaS.1 J;have RX:((elems[i]'(by omega)).1.weights P du).all (·<=reachBytes)=true:=by refine xax.2 λy aE=>xax.1 PS y ?_;exact RW (xaO.2 ⟨_,xaZ _,rfl⟩) aE
     obtain⟨aR,g1,g2,g3⟩:=ih e du c _ he mw RX ax;exact⟨aR,_,xab (by omega),g1,g2,c,aa,g3⟩
    obtain⟨es,al,lB⟩:=RU len _ each;have RY:∀(i:Nat)(aR:List D),es[i]?=some aR->aR.length=P.cellsOf du:=by intro i aR af;obtain⟨_,_,_,_,c,ai,av⟩:=lB i aR af;rw[<-av.len];exact(World.cells?_some ai).2.1
    refine⟨[.aV (P.cellsOf du) es],?_,⟨es,rfl,by omega,?_,?_⟩,rfl,?_,trivial⟩
    .simp only[rd];rw[RV (rd e) (elems.map (·.1)) es (by simp;omega)];.rfl
     intro i x y ad aE;obtain⟨z,J,aa,_⟩:=lB i y aE;simp[J]at ad;rw[<-ad];exact aa
    .have:es.length<=elems.length+rest.length:=by omega
     exact xbF (xaB _ this) (xbd o9)
    .intro x ad;obtain⟨i,af,rfl⟩:=List.getElem_of_mem ad;obtain⟨_,_,_,g2,_⟩:=lB i _ (xab af);exact⟨RY i _ (xab af),g2⟩
    by_cases au:len=0;.subst au;have:es=[]:=xaN al;subst this;exact .kH _ _ _
    have oh:∀(i:Nat)(aR:List D),es[i]?=some aR->∀j,j<P.cellsOf du->w.cell? ((a.add (i*P.cellsOf du)).add j)≠none:=by intro i aR af j aB;obtain⟨_,_,_,_,c,ai,av⟩:=lB i aR af;obtain⟨_,b0,bR⟩:=World.cells?_some ai;rw[bR j aB,xab (by omega)];simp
    have uT:=oh 0 _ (xab (by omega)) 0 Gg;simp only[Nat.zero_mul,Addr.add,xaF]at uT;obtain⟨b,off,spot⟩:=a;unfold World.cell? at uT;cases bS:w.heap[b]? with
    |none=>simp[bS]at uT
    |some o=>
     cases o with
     |cells vs T et=>
      simp only[bS]at uT;have amW:spot=none:=by cases spot with|none=>rfl|some s=>simp at uT
      subst amW;have cellAt:∀q,w.cell? ⟨b,q,none⟩=vs[q]?:=by intro q;simp[World.cell?,bS]
      have amX:∀q,(⟨b,off,none⟩:Addr).add q=⟨b,off+q,none⟩:=by intro q;unfold Addr.add;split<;>simp_all
      have amY:∀o q,(⟨b,o,none⟩:Addr).add q=⟨b,o+q,none⟩:=by intro o q;unfold Addr.add;split<;>simp_all
      have key:∀(i:Nat)(aR:List D)(j:Nat)(c:D),es[i]?=some aR->aR[j]?=some c->∃v,vs[off+i*P.cellsOf du+j]?=some v/\c4 m c v:=by
       intro i aR j c af aB;obtain⟨_,_,_,_,bK,ai,av⟩:=lB i aR af;obtain⟨_,b0,bR⟩:=World.cells?_some ai;obtain⟨v,eM,_,eG⟩:=av.at j c aB;have ct:j<P.cellsOf du:=by rw[<-RY i aR af];exact(xaa.1 aB).1
       refine⟨v,?_,eG⟩;rw[<-eM,<-bR j ct,amX,amY,cellAt]
      rw[<-al];refine .aV _ es b off cap vs T et (hm _ _ bS) ?_ (by omega) (λi j=>(vs[off+i*P.cellsOf du+j]?).getD undef) ?_ ?_;.intro x ad;obtain⟨i,af,rfl⟩:=List.getElem_of_mem ad;obtain⟨_,_,_,_,_,_,av⟩:=lB i _ (xab af);exact⟨RY i _ (xab af),av.one⟩
      .intro i aR j c af aB;obtain⟨v,J,_⟩:=key i aR j c af aB;simp[J]
      intro i aR j c af aB;obtain⟨v,J,aa⟩:=key i aR j c af aB;simpa[J]using aa
     |_=>simp[bS]at uT
   cases fp
  |arr k e=>
   simp only[eD]at fp;split at fp
   .rename_i bF du hu;simp only[xao,xaz]at fp;obtain⟨⟨ah,ai⟩,he⟩:=fp;subst ah;obtain⟨xs,gj,aN,rfl,bJ,pW,Gh⟩:=DataW.trod_array hu h;cases aN;simp only[eC.hZ]at mw;simp only[DataW.weights,hu]at kR;have each:∀i,i<k->∃aR,∃x,xs[i]?=some x/\rd e x.1=some aR/\mI e aR/\Rel m aR ((cs.drop (i*P.cellsOf du)).take (P.cellsOf du)):=by
     intro i af;have J:=Gh i af;rw[xab (by omega)]at J;have RX:((xs[i]'(by omega)).1.weights P du).all (·<=reachBytes)=true:=by refine xax.2 λy aE=>xax.1 kR y ?_;exact RW (xaO.2 ⟨_,xaZ _,rfl⟩) aE
     obtain⟨aR,g1,g2,g3⟩:=ih e du _ _ he mw RX J;exact⟨aR,_,xab (by omega),g1,g2,g3⟩
    obtain⟨es,al,lB⟩:=RU k _ each;refine⟨es.flatten,?_,⟨es,rfl,al,?_⟩,?_⟩
    .simp only[rd];rw[RV (rd e) (xs.map (·.1)) es (by simp;omega)];.rfl
     intro i x y ad aE;obtain⟨z,J,aa,_⟩:=lB i y aE;simp[J]at ad;rw[<-ad];exact aa
    .intro x ad;obtain⟨i,af,rfl⟩:=List.getElem_of_mem ad;obtain⟨_,_,_,g2,_⟩:=lB i _ (xab af);exact g2
    have:=pieces (m:=m) (c:=P.cellsOf du) (cs:=cs) es 0 (λi x ad=>by obtain⟨_,_,_,_,g3⟩:=lB i x ad;simpa using g3) (by rw[al];omega);simpa using this
   cases fp
  |struct de=>
   simp only[eD]at fp;split at fp
   .rename_i RT hu;obtain⟨xs,gj,aN,rfl,bJ,pW,Gh⟩:=DataW.trod_struct hu h;cases aN;simp only[eC.hZ]at mw;simp only[DataW.weights,hu]at kR;have go:∀(de:List eC)(gs:List Field)(c7:List (DataW H×List MemPlace)) (off:Nat),zw P de gs off (P.cellsOf t)=true->qM n de=true->(DataW.weightsEach P (gs.map (·.type)) (c7.map (·.1))).all (·<=reachBytes)=true->c7.length=gs.length->(∀(i:Nat)(f:Field),gs[i]?=some f->DataW.trod enc P w base spare held n f.type ((cs.drop f.offset).take (P.cellsOf f.type))=c7[i]?)-> ∃aR,hY de (c7.map (·.1))=some aR/\LR de aR/\Rel m aR (cs.drop off):=by
     intro de
     induction de with
     |nil=>intro gs c7 off J Gi o9 aa ax;cases gs with|nil=>simp only[zw,xaz]at J;have:c7=[]:=xaN aa;subst this;refine⟨[],rfl,rfl,?_⟩;rw[xcp (by omega)];trivial|cons _ _=>simp[zw]at J
     |cons f de amZ=>
      intro gs c7 off J Gi o9 aa ax;cases gs with
      |nil=>simp[zw]at J
      |cons g gs=>
       cases c7 with
       |nil=>simp at aa
       |cons y c7=>
        simp only[zw,xao,xaz]at J;obtain⟨⟨aL,a7⟩,bV⟩:=J;simp only[qM,xao]at Gi;simp only[xau,DataW.weightsEach,List.all_append,xao]at o9;obtain⟨a,aK,a2,a3⟩:=ih f g.type _ y a7 Gi.1 o9.1 (ax 0 g rfl);obtain⟨b,fJ,hV,ko⟩:=amZ gs c7 _ bV Gi.2 o9.2 (by simpa using aa) (λi f bk=>by simpa using ax (i+1) f (by simpa using bk));refine⟨a++b,by simp[hY,aK,fJ],⟨a,b,rfl,a2,hV⟩,?_⟩;have e:cs.drop off=(cs.drop off).take (P.cellsOf g.type)++cs.drop (off+P.cellsOf g.type):=by
         conv=>lhs;rw[<-xbD (P.cellsOf g.type) (cs.drop off)]
         rw[List.drop_drop]
        rw[e];refine Rel.append ?_ ko;rw[<-aL];exact a3
    obtain⟨aR,g1,g2,g3⟩:=go de RT.toList xs 0 fp mw kR (by simpa using pW) (λi f bk=>Gh i f (by simpa using bk));exact⟨aR,g1,g2,by simpa using g3⟩
   cases fp
end
open Go.ChangeShapes Go.WideShapes Go.ChangeAt Go.RowKit
def zx:eC->D->Prop
 | .struct de,d=>∃aR,d= .agg aR/\LR de aR| .arr _ _,_=>False|ty,d=>mI ty [d]
def CE{H:Type}(ty:eC)(x:DataW H)(d:D):Prop:=match ty with| .struct de=>∃aR,d= .agg aR/\rd (.struct de) x=some aR|ty=>rd ty x=some [d]
abbrev rQ:=Nat->eC
def Gj(t:eC):rQ:=λ_=>t
mutual
def tC:eC->Bool
 | .stop=>false| .slice _ _ e=>tC e| .arr _ e=>tC e| .struct de=>LS de|_=>true
def LS:List eC->Bool
 |[]=>true|f::de=>tC f&&LS de
end
mutual
def xq:∀(n:Nat)(t:eC),tC t=true->t.hZ n=true
 |0,t,_=>by cases t<;>rfl
 |n+1,.stop,h=>by simp[tC]at h|n+1,.slice _ _ e,h=>by rw[tC]at h;rw[eC.hZ];exact xq n e h|n+1,.arr _ e,h=>by rw[tC]at h;rw[eC.hZ];exact xq n e h|n+1,.struct de,h=>by rw[tC]at h;rw[eC.hZ];exact ZY n de h|n+1,.bool,_=>rfl|n+1,.int _,_=>rfl|n+1,.str,_=>rfl
def ZY:∀(n:Nat)(t:List eC),LS t=true->qM n t=true
 |n,[],_=>by cases n<;>rfl
 |n,f::de,h=>by rw[LS,xao]at h;rw[qM,xq n f h.1,ZY n de h.2];rfl
end
def ZZ:eC->Bool
 | .arr _ _=>false|_=>true
structure tD(P:Program)(F:rQ)(t:TypeId):Prop where
 deep:∀n,(F n).hZ n=true
 ok:∀n,eD P (F n) t=true
 lt:t<P.types.size
 am0:∀n,ZZ (F n)=true
def Z0{P:Program}{y:eC}{t:TypeId}(h:(tC y&&ZZ y&&eD P y t&&decide (t<P.types.size))=true):tD P (Gj y) t:=by simp only[xao,xaz]at h;exact⟨λn=>xq n y h.1.1.1,λ_=>h.1.2,h.2,λ_=>h.1.1.2⟩
def CF(P:Program):List rQ->List TypeId->Prop
 |[],[]=>True|F::Fs,t::ts=>tD P F t/\CF P Fs ts|_,_=>False
def CF.lt{P:Program}:∀{Fs:List rQ}{ts:List TypeId},CF P Fs ts->∀t∈ts,t<P.types.size
 |[],[],_,t,h=>by simp at h
 |F::Fs,u::ts,h,t,aP=>by
  rcases xal.1 aP with rfl|aP;.exact h.1.lt
  exact CF.lt h.2 t aP
 |[],_::_,h,_,_=>h.elim|_::_,[],h,_,_=>h.elim
def rR{H:Type}:List rQ->List (DataW H)->List D->Prop
 |[],[],[]=>True|F::Fs,x::xs,d::aR=>(∃n,CE (F n) x d/\zx (F n) d)/\rR Fs xs aR|_,_,_=>False
section
variable{H:Type}{enc:TypeId×Value->H}{P:Program}{w:World}
def LU{m:Mem}{aR:List D}{v:Value}(h:Rel m aR [v]):∃d,aR=[d]/\c4 m d v:=by cases aR with|nil=>exact h.elim|cons d r=>cases r with|nil=>exact⟨d,rfl,h.2.1⟩|cons _ _=>exact h.2.2.elim
def am1{m:Mem}{aR:List D}{cs:Array Value}(h:Rel m aR cs.toList):c4 m (.agg aR) (.agg cs):=by
 refine .agg _ _ (by simpa using h.len) ?_;intro i c v ai aS;obtain⟨u,J,_,aa⟩:=h.at i c ai;have:cs[i]?=some u:=by simpa using J
 rw[aS]at this;cases this;exact aa
def am2(m:Mem)(hm:∀(b:Nat)(o:Obj),w.heap[b]?=some o->m b=some o){r:Reach}{F4 base:Nat}{sp:Nat->Bool}{held:Bool}{F:rQ}{t:TypeId}{v:Value}{x:DataW H}{iO:List MemPlace} (fQ:tD P F t) (kR:(x.weights P t).all (·<=reachBytes)=true) (mJ:Value.okWide P w r F4 t v) (h:DataW.Trod enc P w base sp held t v x iO):∃d n,CE (F n) x d/\zx (F n) d/\c4 m d v:=by
 obtain⟨n,aN⟩:=h;have fp:=fQ.ok n;have Gk:=fQ.am0 n;obtain⟨aR,J,aa,ax⟩:=ZX m hm n (F n) t _ _ fp (fQ.deep n) kR aN
 suffices h:∃d,CE (F n) x d/\zx (F n) d/\c4 m d v from let⟨d,a⟩:=h;⟨d,n,a⟩
 clear fQ aN;generalize F n=ty at*;cases ty with
 |bool=>
  simp only[eD]at fp;split at fp;.obtain⟨b,rfl⟩:=okWide_bool ‹_› mJ;obtain⟨d,rfl,ay⟩:=LU ax;exact⟨d,J,aa,ay⟩
  cases fp
 |int k=>
  simp only[eD]at fp;split at fp;.obtain⟨b,rfl⟩:=okWide_int ‹_› mJ;obtain⟨d,rfl,ay⟩:=LU ax;exact⟨d,J,aa,ay⟩
  cases fp
 |str=>
  simp only[eD]at fp;split at fp;.obtain⟨b,rfl⟩:=okWide_string ‹_› mJ;obtain⟨d,rfl,ay⟩:=LU ax;exact⟨d,J,aa,ay⟩
  cases fp
 |stop=>exact(by simpa[mI]using aa:False).elim
 |slice k Gf e=>
  simp only[eD]at fp;split at fp;.obtain⟨a,l,c,rfl⟩:=okWide_slice ‹_› mJ;obtain⟨d,rfl,ay⟩:=LU ax;exact⟨d,J,aa,ay⟩
  cases fp
 |arr n e=>cases Gk
 |struct de=>
  simp only[eD]at fp;split at fp;.obtain⟨cs,rfl,_⟩:=okWide_struct ‹_› mJ;exact⟨.agg aR,⟨aR,rfl,J⟩,⟨aR,rfl,aa⟩,am1 ax⟩
  cases fp
def Z1(m:Mem)(hm:∀(b:Nat)(o:Obj),w.heap[b]?=some o->m b=some o){r:Reach}{F4 base:Nat}{sp:Nat->Bool}{held:Bool}:∀{Fs:List rQ}{ts:List TypeId}{vs:List Value}{xs:List (DataW H)} {iO:List MemPlace},CF P Fs ts->(DataW.weightsEach P ts xs).all (·<=reachBytes)=true->(∀(j:Nat) t v,ts[j]?=some t->vs[j]?=some v->Value.okWide P w r F4 t v)->DataW.TrodAll enc P w base sp held ts vs xs iO-> ∃aR,rR Fs xs aR/\rn m aR vs
 |[],[],vs,xs,iO,_,_,_,h=>by obtain⟨rfl,rfl,rfl⟩:=trodAll_nil h;exact⟨[],trivial,rfl,by intro i d v ay;simp at ay⟩
 |F::Fs,t::ts,vs,xs,iO,fp,kR,mJ,h=>by obtain⟨v,xp,x,Kk,p,q,rfl,rfl,rfl,J,aa⟩:=trodAll_cons h;simp only[DataW.weightsEach,List.all_append,xao]at kR;obtain⟨d,n,d1,d2,d3⟩:=am2 m hm fp.1 kR.1 (mJ 0 t v rfl rfl) J;obtain⟨aR,aL,bV⟩:=Z1 m hm fp.2 kR.2 (λj t v aP aS=>mJ (j+1) t v (by simpa using aP) (by simpa using aS)) aa;refine⟨d::aR,⟨⟨n,d1,d2⟩,aL⟩,by simpa using bV.1,?_⟩;intro i c u ai hu;cases i with|zero=>simp at ai hu;subst ai;subst hu;exact d3|succ i=>exact bV.2 i c u (by simpa using ai) (by simpa using hu)
 |[],_::_,_,_,_,h,_,_,_=>h.elim|_::_,[],_,_,_,h,_,_,_=>h.elim
def again{W j0:World}(hle:∀(b:Nat)(o:Obj),W.heap[b]?=some o->j0.heap[b]?=some o)(al:laidOutB P=true)(hm:mapsRowed P=true) (bG:((List.range P.types.size).all λt=>match P.underlying t with|some (.slice e)=>decide (0<P.cellsOf e)|_=>true)=true) {sp:Nat->Bool}: ∀{ts:List TypeId}{vs:List Value}{aR:List (DataW H)} {iO:List MemPlace},(∀t∈ts,t<P.types.size)->DataW.TrodAll enc P W 0 (λ_=>true) true ts vs aR iO->(∀p∈iO,p.block<W.heap.size)->(∀p∈iO,sp p.block=true)->DataW.TrodAll enc P j0 0 sp true ts vs aR iO
 |[],[],[],_,_,h,_,_=>h
 |t::ts,v::vs,d::aR,_,aP,⟨p,q,⟨n,J⟩,aa,e⟩,b5,aC=>by
  refine⟨p,q,⟨n,?_⟩,again hle al hm bG (λt h=>aP t (by simp[h])) aa (λx ad=>b5 x (by rw[e];exact xbN _ ad)) (λx ad=>aC x (by rw[e];exact xbN _ ad)),e⟩;refine DataW.trod_stays (kids_rows al hm) (λ{t e} J aa=>slices_full_of P bG t e J aa) (λh=>by cases h) (aP t (by simp)) J ?_ (λx ad=>aC x (by rw[e];exact xaX _ ad));intro x ad;have aj:=b5 x (by rw[e];exact xaX _ ad);have bS:j0.heap[x.block]?=W.heap[x.block]?:=by rw[xak aj];exact hle _ _ (xak aj)
  cases x with
  |cell b off=>show j0.cell? ⟨b,off,none⟩=W.cell? ⟨b,off,none⟩;unfold World.cell?;rw[show j0.heap[b]?=W.heap[b]? from bS]
  |map b=>exact bS
def LV(W:World):ff:=⟨λ_=>none,W.os,W.output,W.heap.size⟩
theorem am3(W:World):mr (λb=>W.heap[b]?) (LV W) W:=by refine⟨λb o h=>h,⟨λb o h=>by simp[LV]at h,rfl,rfl,xaT _⟩,λ_ _=>rfl⟩
def am4{W j0:World}{cz:Mem}(hle:(show Mem fromλb=>W.heap[b]?).le cz)(h:mr cz (LV W) j0):
  W.keptBut j0 (λ_=>False)/\(∀a:Addr,a.block<W.heap.size->j0.frozen? a=W.frozen? a)/\(∀(b:Nat)(o:Obj),W.heap[b]?=some o->j0.heap[b]?=some o):=by
 have bS:∀(b:Nat)(o:Obj),W.heap[b]?=some o->j0.heap[b]?=some o:=λb o aj=>h.mem b o (hle b o aj);refine⟨⟨h.frame.quiet.os,h.frame.quiet.out,λi af=>?_⟩,λa aH=>?_,bS⟩
 .have J:=xak af;have aa:=bS i _ J;rw[J,aa];split
  .rename_i aL a7;rw[aL]at a7;simp only[xaE,Obj.cells.injEq]at a7;obtain⟨rfl,rfl,rfl⟩:=a7;exact⟨rfl,rfl,rfl,λ_ _=>rfl⟩
  .rename_i aL a7;rw[aL]at a7;simp only[xaE,Obj.map.injEq]at a7;exact Or.inr ⟨a7.1.symm,a7.2.symm⟩
  rfl
 .unfold World.frozen?;have aj:=xak aH;rw[aj,bS _ _ aj]
section
open DataW
def am5{f:Func}{s:ChangeSpec}{apart fresh handsOn again:Bool}{W j0:World}{args:Array Value}{v:Value}{aR gs:List (DataW H)}{before pa pv:List MemPlace} (l3:DataW.Whole enc P f.params.toList s.vars apart W args.toList aR gs before) (u1:∀(b:Nat)(sp:Nat->Bool)(ay:Bool),DataW.TrodAll enc P j0 b sp ay f.resultTypes.toList (v.resultList f.resultTypes.size) (s.fn H (aR++gs)).results []) (qs:∀sp:Nat->Bool,(∀p∈before,sp p.block=true)->DataW.TrodAll enc P j0 0 sp true f.params.toList args.toList (s.fn H (aR++gs)).args pa) (Gl:∀sp:Nat->Bool,(∀p∈before,sp p.block=true)->DataW.TrodVars enc P j0 sp s.vars (s.fn H (aR++gs)).vars pv) (Gm:before=pa++pv) (ah:W.keptBut j0 (·∈before)) (CG:∀a:Addr,a.block<W.heap.size->j0.frozen? a=W.frozen? a) (bD:∀(j:Nat)(t:TypeId)(r:Value),f.resultTypes[j]?=some t->(v.resultList f.resultTypes.size)[j]?=some r->Value.okWide P j0 .any 0 t r):s.post enc P f apart fresh handsOn again W args v j0:=by
 have b5:=l3.lt;refine⟨aR,gs,before,[],pa,pv,l3,u1 _ _ _,qs _ λp aU=>by simpa using b5 p aU,Gl _ λp aU=>by simpa using b5 p aU,World.keptBut_mono (λp aU=>⟨aU,?_⟩) ah,λ_=>?_⟩;.rw[Gm,xas]at aU;exact .inr aU
 obtain⟨_,_,_,_,_,bG,aN⟩:=l3;refine⟨bD,_,_,([]++pa)++pv,⟨[]++pa,pv,trodAll_append (qs _ λ_ _=>rfl) (u1 _ _ _),Gl _ λ_ _=>rfl,rfl,?_,?_⟩,?_⟩
 .intro b off aU;have tw:MemPlace.cell b off∈before:=by rw[Gm];simpa using aU
  rw[CG _ (b5 _ tw)];exact bG b off tw
 .intro aH;have:=aN aH;rw[Gm]at this;simpa using this
 intro p aU _;rw[Gm];simpa using aU
end
def am6{G:dt}{f:FuncId}{fn:Func}{s:ChangeSpec}{Fs:List rQ}{tr:TypeId}{W:World}{base:Nat}{args:Array Value}{aR gs:List (DataW H)}{before:List MemPlace} (al:laidOutB P=true) (hm:mapsRowed P=true) (bG:((List.range P.types.size).all λt=>match P.underlying t with|some (.slice e)=>decide (0<P.cellsOf e)|_=>true)=true) (fp:CF P Fs fn.params.toList) (u1:fn.resultTypes= #[tr]) (h7:P.underlying tr=some .bool) (Gl:s.vars=[]) (aC:∀aR:List (DataW H),aR.length=Fs.length->s.fn H aR=⟨[.lit (.bool true)],aR,[]⟩) (gZ:∀jC,rR Fs aR jC->fz P G f jC (·=aI true)) (cY:kf G (λb:Nat=>W.heap[b]?)) {Z2:List TypeId} (am7:Z2=[]) (kR:(DataW.weightsEach P (fn.params.toList++Z2) (aR++gs)).all (·<=reachBytes)=true) (mJ:∀(j:Nat) t v,fn.params[j]?=some t->args[j]?=some v->Value.okWide P W .any base t v) (l3:DataW.Whole enc P fn.params.toList s.vars false W args.toList aR gs before):Calls P f args W λe j0=>∃v,e= .returned v/\s.post enc P fn false true false false W args v j0:=by
 have Z3:=l3;obtain⟨p,q,dr,gW,rfl,CG,kp⟩:=l3;rw[Gl]at gW;obtain⟨rfl,rfl⟩:=trodVars_none gW;subst am7;rw[xav,xav]at kR;obtain⟨jC,d1,d3⟩:=Z1 (λb=>W.heap[b]?) (λb o h=>h) fp kR (λj t v aP aS=>mJ j t v (by simpa using aP) (by simpa using aS)) dr;have ai:=(gZ jC d1).run (λb=>W.heap[b]?) (LV W) W args.toList cY (am3 W) d3;have bJ:aR.length=Fs.length:=by
  have:∀(dK:List rQ)(aR:List (DataW H)) (jC:List D),rR dK aR jC->aR.length=dK.length:=by
   intro dK
   induction dK with
   |nil=>intro aR jC h;cases aR<;>cases jC<;>simp_all [rR]
   |cons y dK ih=>
    intro aR jC h;cases aR with
    |nil=>cases jC<;>simp[rR]at h
    |cons x aR=>cases jC with|nil=>simp[rR]at h|cons d jC=>simp[ih aR jC h.2]
  exact this _ _ _ d1
 refine ai.mono λe j0 ⟨v,cz,r,he,av,hle,cM,aS⟩=>?_;subst av;have zy:v= .bool true:=by cases aS;rfl
 subst zy;obtain⟨cS,e2,lE⟩:=am4 hle cM;have b5:=Z3.lt;refine⟨_,he,?_⟩;have xm:=aC (aR++[]) (by simpa using bJ);simp only[xav]at xm;refine am5 (pa:=p) (pv:=[]) Z3 (λb sp ay=>?_) (λsp gq=>?_) (λsp gq=>?_) rfl (World.keptBut_mono (λ_ h=>h.elim) cS) e2 (ok_one u1 rfl (okWide_bool_mk h7 _))
 .rw[xav,xm,u1];exact trodAll_cons_mk (shut_bool h7 true) trodAll_mk0
 .rw[xav,xm];exact again lE al hm bG fp.lt dr (λx ad=>b5 x (by simpa using ad)) (λx ad=>gq x (by simpa using ad))
 rw[xav,xm,Gl];rfl
def Z4{W:World}:∀(laid:List (String×DataW Unit)) (gs:List (Nat×TypeId×eC×List D)) (iO:List MemPlace),DataW.LaidVars P W laid iO->gs.length=laid.length->(∀(i:Nat) x g,laid[i]?=some x->gs[i]?=some g->P.globalNamed x.1=some g.1/\(P.globals[g.1]?).map (·.type)=some g.2.1/\eD P g.2.2.1 g.2.1=true/\rd g.2.2.1 x.2=some g.2.2.2/\tC g.2.2.1=true/\(x.2.weights P g.2.1).all (·<=reachBytes)=true)-> ∀g∈gs,∃vs T et,W.heap[g.1]?=some (.cells vs T et)/\Rel (λb=>W.heap[b]?) g.2.2.2 vs.toList
 |[],[],_,_,_,_,g,bQ=>by simp at bQ
 |(lF,x)::laid,y::gs,iO,h,al,ad,g,bQ=>by
  obtain⟨ru,t,cs,fuel,p,q,J,aa,ax,bh,b9,_⟩:=h;rcases xal.1 bQ with rfl|bQ
  .obtain⟨a2,a3,a4,a5,jB,l4⟩:=ad 0 _ _ rfl rfl;have aL:=xba (a2.symm.trans J);subst aL;have a7:=xba (a3.symm.trans aa);subst a7;obtain⟨aR,fJ,_,ko⟩:=ZX (λb=>W.heap[b]?) (λb o h=>h) fuel _ _ _ _ a4 (xq _ _ jB) l4 bh;have bV:=xba (a5.symm.trans fJ);unfold World.var? at ax;rw[J]at ax;simp only[Option.bind_some]at ax;split at ax
   .rename_i mV T et bS;cases ax;exact⟨_,T,et,bS,by rw[bV];exact ko⟩
   cases ax
  exact Z4 laid gs q b9 (by simpa using al) (λi x g eF am8=>ad (i+1) x g (by simpa using eF) (by simpa using am8)) g bQ
 |[],_::_,_,_,h,_,_,_=>by simp at h|_::_,[],_,_,h,_,_,_=>by simp at h
def am9{G:dt}{W:World}(gs:List (Nat×TypeId×eC×List D))(cY:∀g cs,G g=some cs->∃x∈gs,x.1=g/\x.2.2.2=cs) (h:∀g∈gs,∃vs T et,W.heap[g.1]?=some (.cells vs T et)/\Rel (λb=>W.heap[b]?) g.2.2.2 vs.toList):kf G (λb:Nat=>W.heap[b]?):=by
 intro g cs bQ;obtain⟨x,ad,rfl,rfl⟩:=cY g cs bQ;obtain⟨vs,T,et,J,aa⟩:=h x ad;refine⟨vs,T,et,J,λj=>(vs[j]?).getD undef,?_,?_⟩
 .intro j c ai;obtain⟨v,b0,_,_⟩:=aa.at j c ai;have:vs[j]?=some v:=by simpa using b0
  simp[this]
 intro j c ai;obtain⟨v,b0,_,bR⟩:=aa.at j c ai;have:vs[j]?=some v:=by simpa using b0
 simpa[this]using bR
end
def Z5:eC:= .struct [.str,.bool,.int .i64,.int .i64]
def LW:eC:= .slice 4 40 Z5
def LX:eC:= .slice 1 1 .bool
def qN{α:Type}(f:α->List D)(Q:α->Prop):∀(es:List (List D)),(∀x∈es,∃y,x=f y/\Q y)->∃l:List α,es=l.map f/\∀y∈l,Q y
 |[],_=>⟨[],rfl,by simp⟩|x::es,h=>by obtain⟨y,rfl,aE⟩:=h x (by simp);obtain⟨l,rfl,al⟩:=qN f Q es λx ad=>h x (by simp[ad]);exact⟨y::l,rfl,by intro z bG;rcases xal.1 bG with rfl|bG;exact aE;exact al z bG⟩
def ana{n:Int}(h:(Lit.int .i64 n).wf=true):nd n:=by have:=Go.bounds_i64 h;exact this
theorem CH{x:List D}(h:mI (.int .i64) x):∃n,x=[I n]/\nd n:=by obtain⟨n,rfl,aN⟩:=h;exact⟨n,rfl,ana aN⟩
def LY{x:List D}(h:mI .str x):∃s,x=[a1 s]/\s.size<=140737488351232:=h
def Z6{x:List D}(h:mI .bool x):∃b,x=[aI b]:=h
def anb{x:List D}(h:mI Z5 x):∃v:V,x=v.cells/\V.ok v:=by obtain⟨a,b,rfl,aH,c,d,rfl,ai,e,f,rfl,he,g,i,rfl,bQ,rfl⟩:=h;obtain⟨s,rfl,aC⟩:=LY aH;obtain⟨q,rfl⟩:=Z6 ai;obtain⟨lo,rfl,gU⟩:=CH he;obtain⟨af,rfl,w7⟩:=CH bQ;exact⟨⟨s,q,lo,af⟩,rfl,gU,w7,by simp only;omega⟩
def anc{k b:Nat}{d:D}{e:eC}(h:mI (.slice k b e) [d]):∃es,d= .aV k es/\es.length*b<=140737488351232/\∀x∈es,mI e x:=by obtain⟨es,he,_,J,aa⟩:=h;cases he;exact⟨es,rfl,J,λx ad=>(aa x ad).2⟩
def ane{d:D}(h:zx LX d):∃l:List Bool,d=Ya l/\l.length<=140737488351232:=by
 obtain⟨es,rfl,J,aa⟩:=anc h;obtain⟨l,rfl,al⟩:=qN (λn=>[aI n]) (λ_=>True) es λx ad=>by obtain⟨b,aj⟩:=Z6 (aa x ad);exact⟨b,aj,trivial⟩
 exact⟨l,rfl,by simpa using J⟩
def anf{d:D}(h:zx (.int .i64) d):∃n,d=I n/\nd n:=by obtain⟨n,J,aa⟩:=CH h;exact⟨n,by simpa using J,aa⟩
abbrev da:D:= .val (.slice none 0 0)
def cB(k:Nat)(nl:Bool)(es:List (List D)):D:=if nl&&es.isEmpty then da else .aV k es
section
variable{k:Nat}{nl:Bool}{es:List (List D)}
def ang:cB k false es= .aV k es:=by simp[cB]
@[simp] theorem Z7:fA (cB k nl es)=some (I es.length):=by
 unfold cB;split;.rename_i h;simp at h;simp[h.2,I,fA]
 rfl
@[simp] theorem anh:bZ (cB k nl es)=true:=by unfold cB;split<;>rfl
@[simp] theorem ani:(cB k nl es).one=true:=by unfold cB;split<;>rfl
def RZ{i:Nat}:bX k (cB k nl es) (I (i:Int))=es[i]?:=by
 unfold cB;split;.rename_i h;simp at h;simp[h.2,I,bX]
 simp
@[simp] theorem aBP:qG (cB k nl es)=some (if nl&&es.isEmpty then(0,[])else(k,es)):=by unfold cB;split<;>rfl
end
inductive Tm where
 |mk (op n:Int) (name:ByteArray) (nl:Bool) (bc:List Tm)
namespace Tm
def op:Tm->Int| .mk o _ _ _ _=>o
def num:Tm->Int| .mk _ n _ _ _=>n
def name:Tm->ByteArray| .mk _ _ s _ _=>s
def nl:Tm->Bool| .mk _ _ _ b _=>b
def bc:Tm->List Tm| .mk _ _ _ _ l=>l
mutual
def cells:Tm->List D
 | .mk o n s b ks=>[I o,I n,a1 s,cB 4 b (rows ks)]
def rows:List Tm->List (List D)
 |[]=>[]|t::r=>cells t::rows r
end
def d(t:Tm):D:= .agg t.cells
mutual
def bA:Tm->Nat
 | .mk _ _ _ _ ks=>2+eZ ks
def eZ:List Tm->Nat
 |[]=>0|t::r=>1+bA t+eZ r
end
def j1:∀l:List Tm,rows l=l.map cells
 |[]=>rfl|t::r=>by simp[rows,j1 r]
@[simp] theorem CI {l:List Tm}:(rows l).length=l.length:=by simp[j1]
def LZ{l:List Tm}{i:Nat}{t:Tm}(h:l[i]?=some t):(rows l)[i]?=some t.cells:=by simp[j1,h]
def h0{l:List Tm}{b:Bool}{i:Nat}{t:Tm}(h:l[i]?=some t):bX 4 (cB 4 b (rows l)) (I (i:Int))=some t.cells:=by rw[RZ,LZ h]
def Gn:∀l:List Tm,l.length<=eZ l
 |[]=>xaT 0|t::r=>by simp only[eZ,xan];have:=Gn r;omega
def Gp:∀{l:List Tm}{t:Tm},t∈l->bA t+1<=eZ l
 |a::r,t,h=>by
  simp only[eZ];rcases xal.1 h with rfl|h
  .omega
  have:=Gp h;omega
def j2{t k:Tm}(h:k∈t.bc):k.bA+3<=t.bA:=by cases t with|mk o n s b ks=>simp only[bA];have:=Gp (show k∈ks from h);omega
def l5{t:Tm}:t.bc.length+2<=t.bA:=by cases t with|mk o n s b ks=>simp only[bA];have:=Gn ks;show ks.length+2<=_;omega
def ind{P:Tm->Prop}(h:∀t:Tm,(∀k∈t.bc,P k)->P t)(t:Tm):P t:=by
 have:∀(n:Nat)(t:Tm),t.bA<=n->P t:=by
  intro n
  induction n with
  |zero=>intro t aP;cases t;simp[bA]at aP
  |succ n ih=>intro t aP;exact h t λk ah=>ih k (by have:=j2 ah;omega)
 exact this _ t (xaT _)
inductive Ok:Tm->Prop where
 |mk (o n:Int) (s:ByteArray) (b:Bool) (ks:List Tm) (aT:-9223372036854775808<=o/\o<=9223372036854775807) (aN:-9223372036854775808<=n/\n<=9223372036854775807) (aC:s.size<=140737488355328) (al:ks.length*56<=140737488355328) (ah:∀k∈ks,Ok k):Ok (.mk o n s b ks)
def Ok.fD{t k:Tm}(h:Ok t)(ah:k∈t.bc):Ok k:=by cases h with|mk o n s b ks aT aN aC al fh=>exact fh k ah
def Ok.len{t:Tm}(h:Ok t):t.bc.length*56<=140737488355328:=by cases h;assumption
theorem lG(t:Tm):t.cells=[I t.op,I t.num,a1 t.name,cB 4 t.nl (rows t.bc)]:=by cases t;rfl
theorem j3(t:Tm):t.d= .agg [I t.op,I t.num,a1 t.name,cB 4 t.nl (rows t.bc)]:=by cases t;rfl
@[simp] theorem nV (t:Tm):dV 4 t.d=true:=by rw[j3];simp
@[simp] theorem qc (t:Tm):ae t.d 0=I t.op:=by rw[j3];rfl
@[simp] theorem tE (t:Tm):ae t.d 1=I t.num:=by rw[j3];rfl
@[simp] theorem tF (t:Tm):ae t.d 2=a1 t.name:=by rw[j3];rfl
@[simp] theorem rS (t:Tm):ae t.d 3=cB 4 t.nl (rows t.bc):=by rw[j3];rfl
@[simp] theorem Gq (t:Tm):D.agg [I t.op,I t.num,a1 t.name,cB 4 t.nl (rows t.bc)]=t.d:=(j3 t).symm
@[simp high] theorem R0 (t:Tm):bN true 4 0 t.cells=some t.d:=by rw[j3,lG];rfl
@[simp] theorem gX (t:Tm):t.cells[0]?=some (I t.op):=by rw[lG];rfl
@[simp] theorem iQ (t:Tm):t.cells[1]?=some (I t.num):=by rw[lG];rfl
@[simp] theorem anj (t:Tm):t.cells[2]?=some (a1 t.name):=by rw[lG];rfl
@[simp] theorem aBQ (t:Tm):t.cells[3]?=some (cB 4 t.nl (rows t.bc)):=by rw[lG];rfl
end Tm
def dC{β α σ:Type}{f:List D->Option (List D⊕β)}(l:List α)(S:Nat->σ->List D)(R:List α->σ->β)(Inv:Nat->σ->Prop) (au:∀s,Inv l.length s->f (S l.length s)=some (.inr (R [] s))) (J:∀(i:Nat)(a:α)(s:σ),l[i]?=some a->i<l.length->Inv i s->(∃s',f (S i s)=some (.inl (S (i+1) s'))/\R (a::l.drop (i+1)) s=R (l.drop (i+1)) s'/\Inv (i+1) s')\/f (S i s)=some (.inr (R (a::l.drop (i+1)) s))): ∀(m i:Nat)(s:σ),Inv i s->l.length-i<m->i<=l.length->bL f m (S i s)=some (R (l.drop i) s)
 |0,i,s,_,h,_=>absurd h (xaJ _)
 |m+1,i,s,af,hm,hle=>by
  rw[la];by_cases h:i<l.length
  .have bQ:=xab h;have e:l.drop i=l[i]::l.drop (i+1):=xaU h;rcases J i _ s bQ h af with⟨s',g1,g2,g3⟩|g1
   .rw[g1,e,g2];exact dC l S R Inv au J m (i+1) s' g3 (by omega) h
   rw[g1,e];rfl
  have:i=l.length:=by omega
  subst this;rw[au s af,xcp (xaT _)];rfl
def L0(op:Int):op=1\/op=2\/op=3\/op=4\/op=5\/op=6\/op=7\/op=8\/op=9\/op=10\/op=11\/op=12\/op=13\/op=14\/op=15\/op=16\/op=17\/op=18\/(op<1\/op>18):=by omega
@[simp] theorem aBR {f:FuncId}:Gb f (.val (.func (.func f) #[] #[]))=true:=by simp[Gb]
@[simp] theorem nW {f:FuncId} {cs:List D}:k9 f (.fn (.func f) [] cs)=some cs:=by simp[k9]
def R1(a b:Int):kO true [I a,I b]=some (I (if b>a then b else a)):=by simp[kO,rh,sU,I,pk]
def Z8(a b:Int):kO false [I a,I b]=some (I (if b<a then b else a)):=by simp[kO,rh,sU,I,pk]
@[simp] theorem Z9 {b:Bool}:(aI b).flat=true:=rfl
@[simp] theorem ank {b:Int}:(I b).flat=true:=rfl
@[simp] theorem anl {b:ByteArray}:(a1 b).flat=true:=rfl
@[simp] theorem aBS {a:Int}:dv .neg (I a)=some (I (IntKind.i64.wrap (-a))):=by rw[<-Int.zero_sub];rfl
theorem aaa:(D.val (.bool false))=aI false:=rfl
theorem aab:(D.val (.int .i64 0))=I 0:=rfl
theorem aac:(D.val (.string ⟨#[]⟩))=a1 ⟨#[]⟩:=rfl
@[simp] theorem anm (a b c:D):dV 3 (.agg [a,b,c])=(a.one&&(b.one&&c.one)):=by simp[dV]
@[simp] theorem ann (a b c e:D):dV 4 (.agg [a,b,c,e])=(a.one&&(b.one&&(c.one&&e.one))):=by simp[dV]
@[simp] theorem aBT {a:D} {l:List D}:ae (.agg (a::l)) 0=a:=rfl
@[simp] theorem aBU {a b:D} {l:List D}:ae (.agg (a::b::l)) 1=b:=rfl
@[simp] theorem aBV {a b c:D} {l:List D}:ae (.agg (a::b::c::l)) 2=c:=rfl
@[simp] theorem aBW {a b c e:D} {l:List D}:ae (.agg (a::b::c::e::l)) 3=e:=rfl
theorem cm{bt:Bool}{i:Nat}(h:i<1000000000000000000):bB bt .add (I (i:Int)) (I 1)=some (I ((i+1:Nat):Int)):=by rw[e5 (by omega) (by omega)];rfl
def l6{bt:Bool}{i:Int}(h:-9223372036854775809<=i)(bC:i<9223372036854775807):bB bt .add (I i) (I 1)=some (I (i+1)):=by rw[e5 (by omega) (by omega)]
section
variable{α β:Type}{c:Prop}[Decidable c]
@[simp] theorem aBX {a b:α}:(if c then(Sum.inl a:α⊕β)else Sum.inl b)=Sum.inl (if c then a else b):=by split<;>rfl
@[simp] theorem aBY {a b:β}:(if c then(Sum.inr a:α⊕β)else Sum.inr b)=Sum.inr (if c then a else b):=by split<;>rfl
@[simp] theorem aBZ {a b:α} {l r:List α}:(if c then a::l else b::r)=(if c then a else b)::(if c then l else r):=by split<;>rfl
@[simp] theorem aB0 {a b:Int}:(if c then I a else I b)=I (if c then a else b):=by split<;>rfl
@[simp] theorem aB1 {a b:ByteArray}:(if c then a1 a else a1 b)=a1 (if c then a else b):=by split<;>rfl
@[simp] theorem R2 {a b:List D}:(if c then D.a6 a else D.a6 b)=D.a6 (if c then a else b):=by split<;>rfl
@[simp] theorem aB2 {a b:List D}:(if c then D.agg a else D.agg b)=D.agg (if c then a else b):=by split<;>rfl
@[simp] theorem aB3 {f:List D->Option β} {x y:List D⊕β}:bo f (if c then x else y)=if c then bo f x else bo f y:=by split<;>rfl
@[simp] theorem aB4 {x y:Option α} {f:α->Option β}:ab (if c then x else y) f=if c then ab x f else ab y f:=by split<;>rfl
end
section
variable{eO:Type}{c:Prop}[Decidable c]
@[simp] theorem aB5 {x y:D} {w:Bool} {p:Option D}:dL (if c then x else y) w p=if c then dL x w p else dL y w p:=by split<;>rfl
@[simp] theorem aB6 {x y:D} {w:Bool} {p q:Option eO}:za (if c then x else y) w p q=if c then za x w p q else za y w p q:=by split<;>rfl
@[simp] theorem aB7 {x y a b:D}:gp (if c then x else y) a b=if c then gp x a b else gp y a b:=by split<;>rfl
@[simp] theorem aB8 {x y:D} {p q:Option eO}:aJ (if c then x else y) p q=if c then aJ x p q else aJ y p q:=by split<;>rfl
@[simp] theorem aB9 {x y:D} {o:UnOp}:dv o (if c then x else y)=if c then dv o x else dv o y:=by split<;>rfl
end
@[simp] theorem aCa {a b:Bool}:aI a=aI b↔a=b:=⟨λh=>by cases h;rfl,λh=>by rw[h]⟩
@[simp] theorem aCb {a b:Int}:I a=I b↔a=b:=⟨λh=>by cases h;rfl,λh=>by rw[h]⟩
@[simp] theorem aCc {a b:ByteArray}:a1 a=a1 b↔a=b:=⟨λh=>by cases h;rfl,λh=>by rw[h]⟩
attribute [simp] aaa aab aac
def l7(M:List (Value×D)):Prop:=∀e∈M,∃s,e.1= .string s
def gM:List (Value×D)->ByteArray->Option D
 |[],_=>none|(.string s,d)::r,x=>if s=x then some d else gM r x
 |_::r,x=>gM r x
def aad{e:Value×D}{M:List (Value×D)}(h:l7 (e::M)):(∃s,e.1= .string s)/\l7 M:=⟨h e (by simp),λx ad=>h x (by simp[ad])⟩
def aae(a b:ByteArray):Instr.sameNow .string (.string a) (.string b)=some (decide (b=a)):=by simp[Instr.sameNow,PD,eq_comm]
def aaf{M:List (Value×D)}(h:l7 M)(x:ByteArray):findD .string (.string x) M=some (gM M x):=by
 induction M with
 |nil=>rfl
 |cons e r ih=>
  obtain⟨⟨s,aC⟩,av⟩:=aad h;obtain⟨k,d⟩:=e;simp only at aC;subst aC;simp only[findD,aae,gM];by_cases ad:s=x;.simp[ad]
  simp[ad,ih av]
def ano{M:List (Value×D)}(h:l7 M)(x:ByteArray)(d:D):∃dP,rj .string (.string x) d M=some dP/\l7 dP/\(∀y,gM dP y=if y=x then some d else gM M y)/\dP.length=M.length+(if(gM M x).isSome then 0 else 1):=by
 induction M with
 |nil=>exact⟨[(.string x,d)],rfl,by intro e he;simp at he;exact⟨x,by rw[he]⟩,λy=>by simp[gM,eq_comm],rfl⟩
 |cons e r ih=>
  obtain⟨⟨s,aC⟩,av⟩:=aad h;obtain⟨k,d0⟩:=e;simp only at aC;subst aC;simp only[rj,aae,gM];by_cases ad:s=x
  .refine⟨(.string x,d)::r,by simp[ad],?_,λy=>?_,by simp[ad]⟩
   .intro e he;rcases xal.1 he with rfl|he
    .exact⟨x,rfl⟩
    exact av e he
   simp only[gM];by_cases aE:y=x;.simp[aE]
   have:¬x=y:=λh=>aE h.symm;subst ad;simp[aE,this]
  obtain⟨dP,J,aa,ax,bh⟩:=ih av;refine⟨(.string s,d0)::dP,by simp[ad,J],?_,λy=>?_,by simp[ad,bh];omega⟩
  .intro e he;rcases xal.1 he with rfl|he
   .exact⟨s,rfl⟩
   exact aa e he
  simp only[gM,ax y];by_cases aE:y=x;.subst aE;simp[ad]
  simp[aE]
theorem CJ{M:List (Value×D)}(h:l7 M){z:Value}{x:ByteArray}:kP .string z true M (a1 x)=some (match gM M x with|some d=> .a6 [d,aI true]|none=> .a6 [ri z,aI false]):=by simp only[kP,a1,aaf h];cases gM M x<;>rfl
def L1{M:List (Value×D)}(h:l7 M)(x:ByteArray)(d:D):∃dP,rG .string M (a1 x) d=some dP/\l7 dP/\(∀y,gM dP y=if y=x then some d else gM M y)/\dP.length=M.length+(if(gM M x).isSome then 0 else 1):=ano h x d
def vm(M:List (Value×D)):Prop:=∀e∈M,∃i,e.1= .int .i64 i
def np:List (Value×D)->Int->Option D
 |[],_=>none|(.int .i64 s,d)::r,x=>if s=x then some d else np r x
 |_::r,x=>np r x
def aag{e:Value×D}{M:List (Value×D)}(h:vm (e::M)):(∃s,e.1= .int .i64 s)/\vm M:=⟨h e (by simp),λx ad=>h x (by simp[ad])⟩
def aah(a b:Int):Instr.sameNow (.int .i64) (.int .i64 a) (.int .i64 b)=some (decide (b=a)):=by
 by_cases h:a=b;.subst h;simp[Instr.sameNow]
 have bC:¬b=a:=λe=>h e.symm;simp[Instr.sameNow,h,bC]
def anp{M:List (Value×D)}(h:vm M)(x:Int):findD (.int .i64) (.int .i64 x) M=some (np M x):=by
 induction M with
 |nil=>rfl
 |cons e r ih=>
  obtain⟨⟨s,aC⟩,av⟩:=aag h;obtain⟨k,d⟩:=e;simp only at aC;subst aC;simp only[findD,aah,np];by_cases ad:s=x;.simp[ad]
  simp[ad,ih av]
def anq{M:List (Value×D)}(h:vm M)(x:Int)(d:D):∃dP,rj (.int .i64) (.int .i64 x) d M=some dP/\vm dP/\(∀y,np dP y=if y=x then some d else np M y)/\dP.length=M.length+(if(np M x).isSome then 0 else 1):=by
 induction M with
 |nil=>exact⟨[(.int .i64 x,d)],rfl,by intro e he;simp at he;exact⟨x,by rw[he]⟩,λy=>by simp[np,eq_comm],rfl⟩
 |cons e r ih=>
  obtain⟨⟨s,aC⟩,av⟩:=aag h;obtain⟨k,d0⟩:=e;simp only at aC;subst aC;simp only[rj,aah,np];by_cases ad:s=x
  .refine⟨(.int .i64 x,d)::r,by simp[ad],?_,λy=>?_,by simp[ad]⟩
   .intro e he;rcases xal.1 he with rfl|he
    .exact⟨x,rfl⟩
    exact av e he
   simp only[np];by_cases aE:y=x;.simp[aE]
   have:¬x=y:=λh=>aE h.symm;subst ad;simp[aE,this]
  obtain⟨dP,J,aa,ax,bh⟩:=ih av;refine⟨(.int .i64 s,d0)::dP,by simp[ad,J],?_,λy=>?_,by simp[ad,bh];omega⟩
  .intro e he;rcases xal.1 he with rfl|he
   .exact⟨s,rfl⟩
   exact aa e he
  simp only[np,ax y];by_cases aE:y=x;.subst aE;simp[ad]
  simp[aE]
theorem anr{M:List (Value×D)}(h:vm M){z:Value}{ok:Bool}{x:Int}:kP (.int .i64) z ok M (I x)=some (match np M x with|some d=>if ok then .a6 [d,aI true]else d|none=>if ok then .a6 [ri z,aI false]else ri z):=by simp only[kP,I,anp h];cases np M x<;>rfl
def ans{M:List (Value×D)}(h:vm M)(x:Int)(d:D):∃dP,rG (.int .i64) M (I x) d=some dP/\vm dP/\(∀y,np dP y=if y=x then some d else np M y)/\dP.length=M.length+(if(np M x).isSome then 0 else 1):=anq h x d
def aai:∀x:List UInt8,Op.bytesLess x x=false
 |[]=>rfl|a::x=>by simp[Op.bytesLess,aai x]
def aaj:∀x y z:List UInt8,Op.bytesLess x y=true->Op.bytesLess y z=true->Op.bytesLess x z=true
 |[],[],z,h,_=>by simp[Op.bytesLess]at h|[],b::y,[],_,h=>by simp[Op.bytesLess]at h|[],b::y,c::z,_,_=>rfl|a::x,[],z,h,_=>by simp[Op.bytesLess]at h|a::x,b::y,[],_,h=>by simp[Op.bytesLess]at h
 |a::x,b::y,c::z,J,aa=>by
  simp only[Op.bytesLess,xbh,xao,xaz,xbP,UInt8.lt_iff_toNat_lt]at*;rcases J with J|⟨rfl,J⟩
  .rcases aa with aa|⟨rfl,aa⟩;.exact .inl (by omega)
   exact .inl J
  rcases aa with aa|⟨rfl,aa⟩;.exact .inl aa
  exact .inr ⟨rfl,aaj x y z J aa⟩
def aak:∀x y:List UInt8,Op.bytesLess x y=true\/x=y\/Op.bytesLess y x=true
 |[],[]=> .inr (.inl rfl)|[],b::y=> .inl rfl|a::x,[]=> .inr (.inr rfl)
 |a::x,b::y=>by
  simp only[Op.bytesLess,xbh,xao,xaz,xbP,UInt8.lt_iff_toNat_lt,xbH];by_cases J:a.toNat<b.toNat;.exact .inl (.inl J)
  by_cases aa:b.toNat<a.toNat;.exact .inr (.inr (.inl aa))
  have:a=b:=UInt8.toNat_inj.1 (by omega);subst this;rcases aak x y with h|h|h
  .exact .inl (.inr ⟨rfl,h⟩)
  .exact .inr (.inl ⟨rfl,h⟩)
  exact .inr (.inr (.inr ⟨rfl,h⟩))
def vn(x:ByteArray):blt x x=false:=aai _
def zz{x y z:ByteArray}(h:blt x y=true)(bC:blt y z=true):blt x z=true:=aaj _ _ _ h bC
def R3(x y:ByteArray):blt x y=true\/x=y\/blt y x=true:=by
 rcases aak x.toList y.toList with h|h|h;.exact .inl h
 .exact .inr (.inl (WE h))
 exact .inr (.inr h)
def ant(y x:ByteArray):(!(blt y x||decide (y=x)))=blt x y:=by
 rcases R3 x y with h|h|h
 .have J:blt y x=false:=by
   cases bM:blt y x with|false=>rfl|true=>have:=zz h bM;rw[vn]at this;cases this
  have aa:y≠x:=by rintro rfl;rw[vn]at h;cases h
  simp[h,J,aa]
 .subst h;simp[vn]
 have J:blt x y=false:=by cases bM:blt x y with|false=>rfl|true=>have:=zz h bM;rw[vn]at this;cases this
 simp[h,J]
def L2{bt:Bool}{x y:ByteArray}:bB bt .gtr (a1 y) (a1 x)=some (aI (blt x y)):=by rw[RR,ant]
def j4:List ByteArray->Prop
 |[]=>True|a::r=>(∀b∈r,blt a b=true)/\j4 r
def h1(s:ByteArray):List ByteArray->List ByteArray
 |[]=>[s]|a::r=>if a=s then a::r else if blt s a then s::a::r else a::h1 s r
def aal{s x:ByteArray}:∀{l:List ByteArray},x∈h1 s l->x=s\/x∈l
 |[],h=>by simp[h1]at h;exact .inl h
 |a::r,h=>by
  rw[h1]at h;split at h;.exact .inr h
  split at h
  .rcases xal.1 h with h|h;.exact .inl h
   exact .inr h
  rcases xal.1 h with h|h;.exact .inr (by simp[h])
  rcases aal h with h|h;.exact .inl h
  exact .inr (by simp[h])
def Gr{s:ByteArray}:∀{l:List ByteArray},j4 l->j4 (h1 s l)
 |[],_=>⟨by simp,trivial⟩
 |a::r,h=>by
  rw[h1];split;.exact h
  rename_i cp;split
  .rename_i b5;refine⟨λb aj=>?_,h⟩;rcases xal.1 aj with rfl|aj
   .exact b5
   exact zz b5 (h.1 b aj)
  rename_i nX;refine⟨λb aj=>?_,Gr h.2⟩;rcases aal aj with rfl|aj
  .rcases R3 a b with J|J|J;.exact J
   .exact absurd J cp
   rw[J]at nX;exact absurd rfl nX
  exact h.1 b aj
def R4{s:ByteArray}:∀{l:List ByteArray},j4 l->s∈l->h1 s l=l
 |[],_,h=>by cases h
 |a::r,aC,h=>by
  rw[h1];rcases xal.1 h with rfl|h
  .rw[xac rfl]
  have b5:=aC.1 s h;have cp:¬a=s:=by rintro rfl;rw[vn]at b5;cases b5
  have nX:¬blt s a=true:=λbC=>by have:=zz b5 bC;rw[vn]at this;cases this
  rw[xae cp,xae nX,R4 aC.2 h]
def aam{s:ByteArray}:∀{l:List ByteArray},j4 l->s∉l->∃a b,l=a++b/\h1 s l=a++s::b/\(∀x∈a,blt x s=true)/\(∀x∈b,blt s x=true)
 |[],_,_=>⟨[],[],rfl,rfl,by simp,by simp⟩
 |a::r,aC,h=>by
  have cp:¬a=s:=λe=>h (by simp[e]);rw[h1,xae cp];by_cases al:blt s a=true
  .rw[xac al];exact⟨[],a::r,rfl,rfl,by simp,λx ad=>by
    rcases xal.1 ad with rfl|ad;.exact al
    exact zz al (aC.1 x ad)⟩
  rw[xae al];obtain⟨p,q,J,aa,ax,bh⟩:=aam (l:=r) (s:=s) aC.2 (λhm=>h (xcm _ hm));refine⟨a::p,q,by rw[J];rfl,by rw[aa];rfl,λx ad=>?_,bh⟩;rcases xal.1 ad with rfl|ad
  .rcases R3 x s with b9|b9|b9;.exact b9
   .exact absurd b9 cp
   exact absurd b9 al
  exact ax x ad
def R5(s:ByteArray):∀{l:List ByteArray},j4 l->∃a b,l=a++b/\(∀x∈a,blt s x=false)/\(∀x∈b,blt s x=true)/\(s∈l->∃cI,a=cI++[s])/\(s∉l->s∉a)/\(s∉l->h1 s l=a++s::b)
 |[],_=>⟨[],[],rfl,by simp,by simp,by simp,by simp,λ_=>rfl⟩
 |c::r,aC=>by
  by_cases hm:s∈c::r
  .by_cases ai:c=s;.subst ai;refine⟨[c],r,rfl,by simp[vn],aC.1,λ_=>⟨[],rfl⟩,λh=>absurd hm h,λh=>absurd hm h⟩
   have av:s∈r:=(xal.1 hm).resolve_left λh=>ai h.symm;obtain⟨a,b,J,aa,ax,bh,b9,cN⟩:=R5 s aC.2;obtain⟨cI,y4⟩:=bh av;refine⟨c::a,b,by rw[J];rfl,?_,ax,λ_=>⟨c::cI,by rw[y4];rfl⟩,λh=>absurd hm h,λh=>absurd hm h⟩;intro x ad;rcases xal.1 ad with rfl|ad
   .have b5:=aC.1 s av;cases bM:blt s x with|false=>rfl|true=>have:=zz b5 bM;rw[vn]at this;cases this
   exact aa x ad
  obtain⟨a,b,J,aa,ax,bh⟩:=aam aC hm;refine⟨a,b,J,λx ad=>?_,bh,λh=>absurd h hm,λ_ aH=>hm (by rw[J];simp[aH]),λ_=>aa⟩;have b5:=ax x ad;cases bM:blt s x with|false=>rfl|true=>have:=zz b5 bM;rw[vn]at this;cases this
def Gs{s:ByteArray}:∀(l:List ByteArray),(h1 s l).length<=l.length+1
 |[]=>by simp[h1]
 |a::r=>by
  rw[h1];split;.simp
  split;.simp
  have:=Gs (s:=s) r;simp;omega
def jN:Nat->eC
 |0=> .stop|n+1=> .struct [.int .i64,.int .i64,.str,.slice 4 56 (jN n)]
def CK:∀(n m:Nat),m<=2*n->(jN n).hZ m=true
 |0,m,h=>by
         have:m=0:=by omega
         subst this;rfl
 |n+1,0,_=>rfl|n+1,1,_=>rfl|n+1,m+2,h=>by have:=CK n m (by omega);simp only[jN,eC.hZ,qM,this,xbu]
def L3{P:Program}{t s:TypeId}(J:∀y,eD P (.struct [.int .i64,.int .i64,.str,y]) t=(eD P y s&&true))(aa:∀y,eD P (.slice 4 56 y) s=eD P y t):∀n,eD P (jN n) t=true
 |0=>rfl|n+1=>by rw[jN,J,aa,L3 J aa n];rfl
theorem anu{P:Program}{t s:TypeId}(J:∀y,eD P (.struct [.int .i64,.int .i64,.str,y]) t=(eD P y s&&true))(aa:∀y,eD P (.slice 4 56 y) s=eD P y t)(al:decide (t<P.types.size)=true):tD P jN t:=⟨λn=>CK n n (by omega),L3 J aa,xbd al,λn=>by cases n<;>rfl⟩
def zA:∀(n:Nat){x:List D},mI (jN n) x->∃t:Tm,x=t.cells/\t.Ok
 |0,x,h=>h.elim|n+1,x,h=>by obtain⟨a,b,rfl,aH,c,d,rfl,ai,e,f,rfl,he,g,i,rfl,bQ,rfl⟩:=h;obtain⟨op,rfl,ea⟩:=CH aH;obtain⟨nn,rfl,jt⟩:=CH ai;obtain⟨s,rfl,aC⟩:=LY he;obtain⟨es,rfl,_,al,lB⟩:=bQ;obtain⟨ks,rfl,eS⟩:=qN Tm.cells Tm.Ok es λx ad=>zA n (lB x ad).2;refine⟨.mk op nn s false ks,?_,.mk _ _ _ _ _ ea jt (by omega) (by simpa using xbF al (by omega)) eS⟩;simp[Tm.cells,Tm.j1,cB]
def R6{H:Type}{F:rQ}{Fs:List rQ}{xs:List (DataW H)}{aR:List D}(h:rR (F::Fs) xs aR):∃x Kk d B1 n,xs=x::Kk/\aR=d::B1/\CE (F n) x d/\zx (F n) d/\rR Fs Kk B1:=by
 cases xs with
 |nil=>cases aR<;>exact h.elim
 |cons x xs=>cases aR with|nil=>exact h.elim|cons d aR=>obtain⟨⟨n,J,aa⟩,ax⟩:=h;exact⟨x,xs,d,aR,n,rfl,rfl,J,aa,ax⟩
def anv{H:Type}{xs:List (DataW H)}{aR:List D}(h:rR [] xs aR):xs=[]/\aR=[]:=by cases xs<;>cases aR<;>first|exact⟨rfl,rfl⟩|exact h.elim
@[simp] theorem aCd (a:D):dV 1 (.agg [a])=a.one:=by simp[dV]
@[simp] theorem anw (a b:D):dV 2 (.agg [a,b])=(a.one&&b.one):=by simp[dV]
@[simp] theorem anx (a b c d e:D):dV 5 (.agg [a,b,c,d,e])=(a.one&&(b.one&&(c.one&&(d.one&&e.one)))):=by simp[dV]
@[simp] theorem anz (a b c d e f:D):dV 6 (.agg [a,b,c,d,e,f])=(a.one&&(b.one&&(c.one&&(d.one&&(e.one&&f.one))))):=by simp[dV]
@[simp] theorem aan (a b c d e f g:D):dV 7 (.agg [a,b,c,d,e,f,g])=(a.one&&(b.one&&(c.one&&(d.one&&(e.one&&(f.one&&g.one)))))):=by simp[dV]
@[simp] theorem anA (a b c d e f g h:D):dV 8 (.agg [a,b,c,d,e,f,g,h])=(a.one&&(b.one&&(c.one&&(d.one&&(e.one&&(f.one&&(g.one&&h.one))))))):=by simp[dV]
@[simp] theorem aCe {a b c e f:D} {l:List D}:ae (.agg (a::b::c::e::f::l)) 4=f:=rfl
@[simp] theorem aCf {a b c e f g:D} {l:List D}:ae (.agg (a::b::c::e::f::g::l)) 5=g:=rfl
@[simp] theorem aCg {a b c e f g h:D} {l:List D}:ae (.agg (a::b::c::e::f::g::h::l)) 6=h:=rfl
@[simp] theorem aCh {a b c e f g h i:D} {l:List D}:ae (.agg (a::b::c::e::f::g::h::i::l)) 7=i:=rfl
theorem anB{β:Type}{x y:Bool}{f:D->Option β}:ab (dL (aI x) true (some (aI y))) (λv=>ab (gp (aI x) v (aI false)) f)=f (aI (x&&y)):=by cases x<;>rfl
theorem anC{β:Type}{x y:Bool}{f:D->Option β}:ab (dL (aI x) false (some (aI y))) (λv=>ab (gp (aI x) (aI true) v) f)=f (aI (x||y)):=by cases x<;>rfl
inductive Fm where
 |mk (op:Int) (e:Tm) (nl:Bool) (bc:List Fm)
def fG:Tm:= .mk 0 0 ⟨#[]⟩ true []
def R7:fG.Ok:= .mk _ _ _ _ _ (by omega) (by omega) (by decide) (by simp) (by simp)
theorem L4:fG.d=D.agg [I 0,I 0,a1 ⟨#[]⟩,D.val (.slice none 0 0)]:=rfl
namespace Fm
def op:Fm->Int| .mk o _ _ _=>o
def e:Fm->Tm| .mk _ t _ _=>t
def nl:Fm->Bool| .mk _ _ b _=>b
def bc:Fm->List Fm| .mk _ _ _ l=>l
mutual
def cells:Fm->List D
 | .mk o t b ks=>[I o,I t.op,I t.num,a1 t.name,cB 4 t.nl (Tm.rows t.bc),cB 6 b (rows ks)]
def rows:List Fm->List (List D)
 |[]=>[]|t::r=>cells t::rows r
end
def d(t:Fm):D:= .agg t.cells
mutual
def bA:Fm->Nat
 | .mk _ t _ ks=>2+t.bA+eZ ks
def eZ:List Fm->Nat
 |[]=>0|t::r=>1+bA t+eZ r
end
def j1:∀l:List Fm,rows l=l.map cells
 |[]=>rfl|t::r=>by simp[rows,j1 r]
@[simp] theorem CI {l:List Fm}:(rows l).length=l.length:=by simp[j1]
def LZ{l:List Fm}{i:Nat}{t:Fm}(h:l[i]?=some t):(rows l)[i]?=some t.cells:=by simp[j1,h]
def h0{l:List Fm}{b:Bool}{i:Nat}{t:Fm}(h:l[i]?=some t):bX 6 (cB 6 b (rows l)) (I (i:Int))=some t.cells:=by rw[RZ,LZ h]
def Gn:∀l:List Fm,l.length<=eZ l
 |[]=>xaT 0|t::r=>by simp only[eZ,xan];have:=Gn r;omega
def Gp:∀{l:List Fm}{t:Fm},t∈l->bA t+1<=eZ l
 |a::r,t,h=>by
  simp only[eZ];rcases xal.1 h with rfl|h
  .omega
  have:=Gp h;omega
theorem Gt(t:Fm):t.bA=2+t.e.bA+eZ t.bc:=by cases t;rfl
def j2{t k:Fm}(h:k∈t.bc):k.bA+3<=t.bA:=by have:=Gp h;have:=Gt t;omega
def l5{t:Fm}:t.bc.length+2<=t.bA:=by have:=Gn t.bc;have:=Gt t;omega
def Gu{t:Fm}:t.e.bA+2<=t.bA:=by have:=Gt t;omega
def ind{P:Fm->Prop}(h:∀t:Fm,(∀k∈t.bc,P k)->P t)(t:Fm):P t:=by
 have:∀(n:Nat)(t:Fm),t.bA<=n->P t:=by
  intro n
  induction n with
  |zero=>intro t aP;cases t;simp[bA]at aP
  |succ n ih=>intro t aP;exact h t λk ah=>ih k (by have:=j2 ah;omega)
 exact this _ t (xaT _)
inductive Ok:Fm->Prop where
 |mk (o:Int) (t:Tm) (b:Bool) (ks:List Fm) (aT:-9223372036854775808<=o/\o<=9223372036854775807) (aP:t.Ok) (al:ks.length*88<=140737488355328) (ah:∀k∈ks,Ok k):Ok (.mk o t b ks)
def Ok.fD{t k:Fm}(h:Ok t)(ah:k∈t.bc):Ok k:=by cases h with|mk o n s b ks aT aN aC=>exact aC k ah
def Ok.len{t:Fm}(h:Ok t):t.bc.length*88<=140737488355328:=by cases h;assumption
def Ok.e{t:Fm}(h:Ok t):t.e.Ok:=by cases h;assumption
def Ok.op{t:Fm}(h:Ok t):-9223372036854775808<=t.op/\t.op<=9223372036854775807:=by cases h;assumption
theorem lG(t:Fm):t.cells=[I t.op,I t.e.op,I t.e.num,a1 t.e.name,cB 4 t.e.nl (Tm.rows t.e.bc),cB 6 t.nl (rows t.bc)]:=by cases t;rfl
theorem j3(t:Fm):t.d= .agg [I t.op,I t.e.op,I t.e.num,a1 t.e.name,cB 4 t.e.nl (Tm.rows t.e.bc),cB 6 t.nl (rows t.bc)]:=by cases t;rfl
@[simp] theorem nV (t:Fm):dV 6 t.d=true:=by rw[j3];simp
@[simp] theorem qc (t:Fm):ae t.d 0=I t.op:=by rw[j3];rfl
@[simp] theorem tE (t:Fm):ae t.d 1=I t.e.op:=by rw[j3];rfl
@[simp] theorem tF (t:Fm):ae t.d 2=I t.e.num:=by rw[j3];rfl
@[simp] theorem rS (t:Fm):ae t.d 3=a1 t.e.name:=by rw[j3];rfl
@[simp] theorem anD (t:Fm):ae t.d 4=cB 4 t.e.nl (Tm.rows t.e.bc):=by rw[j3];rfl
@[simp] theorem anE (t:Fm):ae t.d 5=cB 6 t.nl (rows t.bc):=by rw[j3];rfl
@[simp] theorem Gq (t:Fm):D.agg [I t.op,I t.e.op,I t.e.num,a1 t.e.name,cB 4 t.e.nl (Tm.rows t.e.bc),cB 6 t.nl (rows t.bc)]=t.d:=(j3 t).symm
@[simp high] theorem R0 (t:Fm):bN true 6 0 t.cells=some t.d:=by rw[j3,lG];rfl
end Fm
attribute [go_sem] dT qK l2 qb rP anB anC Gd LP px CB CC zv RQ ZV amV CD qL Gc RK RL amI amJ amK anh amL amM amN amO amP ani amQ RM xbA xcn amF amR Z7 amS amT ZT xbu xbv Bool.and_self xaF xaH Bool.not_true xce xar Z9 ank anl Bool.or_true Bool.true_or anw anm ann anx anz aan anA aaa aab aac amH amG Tm.nV Tm.qc Tm.tE Tm.tF Tm.rS Tm.Gq Tm.R0 Tm.CI Fm.nV Fm.qc Fm.tE Fm.tF Fm.rS Fm.anD Fm.anE Fm.Gq Fm.R0 Fm.CI
def mK:Nat->eC
 |0=> .stop|n+1=> .struct [.int .i64,jN (n+1),.slice 6 88 (mK n)]
def R8:∀(n m:Nat),m<=2*n->(mK n).hZ m=true
 |0,m,h=>by
         have:m=0:=by omega
         subst this;rfl
 |n+1,0,_=>rfl|n+1,1,_=>by simp[mK,eC.hZ,qM]|n+1,m+2,h=>by have:=R8 n m (by omega);have aa:=CK (n+1) (m+1) (by omega);simp only[mK,eC.hZ,qM,this,aa,xbu]
def aao{P:Program}{t s r q:TypeId}(J:∀y z,eD P (.struct [.int .i64,y,z]) t=(eD P y r&&(eD P z s&&true)))(aa:∀y,eD P (.slice 6 88 y) s=eD P y t)(ax:∀n,eD P (jN n) r=true):∀n,eD P (mK n) t=true
 |0=>rfl|n+1=>by rw[mK,J,aa,aao (q:=q) J aa ax n,ax];rfl
theorem anF{P:Program}{t s r q:TypeId}(J:∀y z,eD P (.struct [.int .i64,y,z]) t=(eD P y r&&(eD P z s&&true)))(aa:∀y,eD P (.slice 6 88 y) s=eD P y t) (ax:∀y,eD P (.struct [.int .i64,.int .i64,.str,y]) r=(eD P y q&&true)) (bh:∀y,eD P (.slice 4 56 y) q=eD P y r) (al:decide (t<P.types.size)=true):tD P mK t:=⟨λn=>R8 n n (by omega),aao (q:=q) J aa (L3 ax bh),xbd al,λn=>by cases n<;>rfl⟩
def aap:∀(n:Nat){x:List D},mI (mK n) x->∃t:Fm,x=t.cells/\t.Ok
 |0,x,h=>h.elim|n+1,x,h=>by obtain⟨a,b,rfl,aH,c,d,rfl,ai,g,i,rfl,bQ,rfl⟩:=h;obtain⟨op,rfl,ea⟩:=CH aH;obtain⟨t,rfl,aP⟩:=zA (n+1) ai;obtain⟨es,rfl,_,al,lB⟩:=bQ;obtain⟨ks,rfl,eS⟩:=qN Fm.cells Fm.Ok es λx ad=>aap n (lB x ad).2;refine⟨.mk op t false ks,?_,.mk _ _ _ _ ea aP (by simpa using xbF al (by omega)) eS⟩;simp[Fm.cells,Fm.j1,cB,Tm.lG]
structure bw where
 name:ByteArray
 e:Tm
def bw.cells(d:bw):List D:=[a1 d.name,I d.e.op,I d.e.num,a1 d.e.name,cB 4 d.e.nl (Tm.rows d.e.bc)]
def bw.d(d:bw):D:= .agg d.cells
def aY(l:List bw):D:= .aV 5 (l.map bw.cells)
def bw.Ok(d:bw):Prop:=d.name.size<=140737488351232/\d.e.Ok
section
variable{l:List bw}{i:Nat}{d:bw}
def fH(h:l[i]?=some d):bX 5 (aY l) (I (i:Int))=some d.cells:=by simp[aY,h]
def eJ(l:List bw):fA (aY l)=some (I l.length):=by simp[aY]
@[simp] theorem bw.anG (d:bw):bN true 5 0 d.cells=some d.d:=rfl
@[simp] theorem bw.iQ (d:bw):bN true 4 1 d.cells=some d.e.d:=by rw[Tm.j3];rfl
@[simp] theorem bw.gX (d:bw):bN false 1 0 d.cells=some (a1 d.name):=rfl
@[simp] theorem bw.agg (d:bw):dV 5 d.d=true:=by unfold bw.d bw.cells;simp
@[simp] theorem bw.bf (d:bw):ae d.d 0=a1 d.name:=rfl
@[simp] theorem bw.c1 (d:bw):ae d.d 1=I d.e.op:=rfl
@[simp] theorem bw.c2 (d:bw):ae d.d 2=I d.e.num:=rfl
@[simp] theorem bw.b4 (d:bw):ae d.d 3=a1 d.e.name:=rfl
@[simp] theorem bw.cT (d:bw):ae d.d 4=cB 4 d.e.nl (Tm.rows d.e.bc):=rfl
end
def dw(l:List bw)(x:ByteArray):Option Nat:=l.findIdx? (λd=>decide (d.name=x))
def R9{l:List bw}{x:ByteArray}{i:Nat}(h:dw l x=some i):∃d,l[i]?=some d/\d.name=x/\i<l.length:=by obtain⟨J,aa,_⟩:=xbs.1 h;exact⟨_,xab J,by simpa using aa,J⟩
def dg(l:List Nat):D:= .aV 1 (l.map λ(i:Nat)=>[I (i:Int)])
def vo{l:List Nat}{i k:Nat}(h:l[i]?=some k):bX 1 (dg l) (I (i:Int))=some [I (k:Int)]:=by simp[dg,h]
def qd(l:List Nat):fA (dg l)=some (I l.length):=by simp[dg]
def h8(l:List (List Nat)):D:= .aV 1 (l.map λx=>[dg x])
def anH{l:List (List Nat)}{i:Nat}{k:List Nat}(h:l[i]?=some k):bX 1 (h8 l) (I (i:Int))=some [dg k]:=by simp[h8,h]
def b6(M:List (Value×D))(S:List Nat):Prop:=vm M/\∀i:Nat,np M (i:Int)=if i∈S then some (aI true)else none
theorem b6.nil:b6 [] []:=⟨by(intro e he;cases he),λi=>rfl⟩
def b6.look{M:List (Value×D)}{S:List Nat}(h:b6 M S){i:Nat}{z:Value}:kP (.int .i64) (.bool false) false M (I (i:Int))=some (aI (decide (i∈S))):=by rw[anr h.1,h.2 i];by_cases af:i∈S<;>simp[af,ri]
def b6.put{M:List (Value×D)}{S:List Nat}(h:b6 M S)(i:Nat):∃dP,rG (.int .i64) M (I (i:Int)) (aI true)=some dP/\b6 dP (if i∈S then S else S++[i]):=by
 obtain⟨dP,J,aa,ax,_⟩:=ans h.1 (i:Int) (aI true);refine⟨dP,J,aa,λj=>?_⟩;rw[ax,h.2];by_cases aB:j=i;.subst aB;by_cases af:j∈S<;>simp[af]
 have:¬((j:Int)=(i:Int)):=by omega
 by_cases af:i∈S<;>simp[this,af,aB]
def b6.mem{M:List (Value×D)}{S T:List Nat}(h:b6 M S)(gB:∀x,x∈S↔x∈T):b6 M T:=⟨h.1,λi=>by rw[h.2];simp only[gB i]⟩
def xr(n:Nat):eC:= .slice 5 72 (.struct [.str,jN n])
def aaq(n:Nat):∀m,m<=n->(xr n).hZ m=true
 |0,_=>rfl|1,_=>by simp[xr,eC.hZ]|m+2,h=>by have:=CK n m (by omega);have:=CK n (m+1) (by omega);have aa:eC.hZ m .str=true:=xq m .str rfl;simp only[xr,eC.hZ,qM, *,xbu]
theorem anI{P:Program}{t r q:TypeId}(J:∀y,eD P (.slice 5 72 (.struct [.str,y])) t=(eD P y r&&true)) (ax:∀y,eD P (.struct [.int .i64,.int .i64,.str,y]) r=(eD P y q&&true)) (bh:∀y,eD P (.slice 4 56 y) q=eD P y r) (al:decide (t<P.types.size)=true):tD P xr t:=⟨λn=>aaq n n (xaT _),λn=>by rw[xr,J,L3 ax bh n];rfl,xbd al,λn=>rfl⟩
def aar{n:Nat}{x:List D}(h:mI (.struct [.str,jN n]) x):∃d:bw,x=d.cells/\d.Ok:=by obtain⟨a,b,rfl,aH,c,e,rfl,ai,rfl⟩:=h;obtain⟨s,rfl,aC⟩:=LY aH;obtain⟨t,rfl,aP⟩:=zA n ai;exact⟨⟨s,t⟩,by simp[bw.cells,Tm.lG],aC,aP⟩
end Go.Am
