/- From what a call is handed to data, and from an answer to the row. No condition. -/
import Derived.Test.YtjonbfbkkkcjgaaGreatDoorEngC
import Derived.ProofKit
import Derived.OpenShut
import Derived.KernelRfl
import Derived.Deep.DeepHandedRow
import Derived.Lib.LaidTab
import Derived.Test.YtjonbfbkkkcjgaaGreatDoorEngS
set_option linter.all false
set_option linter.unnecessarySimpa false
namespace Go.Am
open Go.ChangeShapes Go.WideShapes Go.ChangeAt Go.RowKit
inductive dr where
 |bool
 |int (k:IntKind)
 |str
 |slice (k bytes:Nat) (e:dr)
 |arr (n:Nat) (e:dr)
 |struct (an7:List dr)
 |stop
mutual
def j5:dr->lZ->Prop
 | .bool,c=>∃b,c=[aF b]| .int k,c=>∃n,c=[.val (.int k n)]/\(Lit.int k n).wf=true| .str,c=>∃s,c=[aD s]/\s.size<=140737488351232| .slice k g e,c=>∃es:mW,c=[.aw k es]/\es.length<=maxLen/\es.length*g<=140737488351232/\∀x∈es,x.length=k/\j5 e x| .arr n e,c=>∃d:mW,c=d.flatten/\d.length=n/\∀x∈d,j5 e x| .struct h,c=>C1 h c| .stop,_=>False
def C1:List dr->lZ->Prop
 |[],c=>c=[]|f::h,c=>∃a b,c=a++b/\j5 f a/\C1 h b
end
mutual
def rd{H:Type}:dr->DataW H->oY
 | .bool,.lit (.bool b)=>some [aF b]| .int _,.lit (.int k n)=>some [.val (.int k n)]| .str,.lit (.string l)=>some [aD ⟨l.toArray⟩]| .slice k _ _,.nil=>some [.aw k []]| .slice k _ e,.slice es _=>(es.mapM (rd e)).map λh=>[.aw k h]| .arr _ e,.agg es=>(es.mapM (rd e)).map List.flatten| .struct c,.agg es=>fz c es|_,_=>none
def fz{H:Type}:List dr->List (DataW H)->oY
 |[],[]=>some []|f::c,d::g=>(rd f d).bind λa=>(fz c g).map (a++·)|_,_=>none
end
mutual
def de(P:Program):dr->TypeId->Bool
 | .bool,t=>match P.underlying t with|some .bool=>true|_=>false
 | .int k,t=>match P.underlying t with|some (.int g)=>decide (k=g)|_=>false
 | .str,t=>match P.underlying t with|some .string=>true|_=>false
 | .stop,_=>true| .slice k b e,t=>match P.underlying t with|some (.slice a)=>decide (P.cellsOf a=k)&&decide (0<k)&&decide (P.bytesOf a=b)&&de P e a|_=>false
 | .arr n e,t=>match P.underlying t with|some (.array h a)=>decide (n=h)&&decide (P.cellsOf t=n*P.cellsOf a)&&de P e a|_=>false
 | .struct c,t=>match P.underlying t with|some (.struct d)=>sl P c d.toList 0 (P.cellsOf t)|_=>false
def sl(P:Program):List dr->List Field->Nat->Nat->Bool
 |[],[],off,n=>decide (off=n)|f::c,x::xs,off,n=>decide (x.offset=off)&&de P f x.type&&sl P c xs (off+P.cellsOf x.type) n|_,_,_,_=>false
end
mutual
def dr.fA:Nat->dr->Bool
 |0,_=>true|_+1,.stop=>false|n+1,.slice _ _ e=>e.fA n|n+1,.arr _ e=>e.fA n|n+1,.struct a=>l8 n a|_+1,_=>true
def l8:Nat->List dr->Bool
 |_,[]=>true|n,f::a=>f.fA n&&l8 n a
end
def Rel(m:Mem):lZ->List Value->Prop
 |[],[]=>True|d::a,v::vs=>D.one d=true/\bN m d v/\Rel m a vs|_,_=>False
def Rel.len{m:Mem}:∀{a:lZ}{vs:List Value},Rel m a vs->vs.length=a.length
 |[],[],_=>rfl|_::_,_::_,h=>by simp[Rel.len h.2.2]|[],_::_,h=>h.elim|_::_,[],h=>h.elim
def Rel.at{m:Mem}:∀{b:lZ}{vs:List Value},Rel m b vs->∀(i:Nat)(d:D),b[i]?=some d->∃v,vs[i]?=some v/\D.one d=true/\bN m d v
 |[],[],_,i,d,h=>by simp at h|x::b,v::vs,h,0,d,a=>by simp at a;subst a;exact⟨v,rfl,h.1,h.2.1⟩|_::_,_::_,h,i+1,d,a=>by simpa using Rel.at h.2.2 i d (by simpa using a)|[],_::_,h,_,_,_=>h.elim|_::_,[],h,_,_,_=>h.elim
def Rel.append{m:Mem}:∀{d:lZ}{vs:List Value}{a:lZ}{b:List Value},Rel m d vs->Rel m a b->Rel m (d++a) (vs++b)
 |[],[],_,_,_,c=>c|_::_,_::_,_,_,h,c=>⟨h.1,h.2.1,Rel.append h.2.2 c⟩|[],_::_,_,_,h,_=>h.elim|_::_,[],_,_,h,_=>h.elim
def Rel.one{m:Mem}:∀{a:lZ}{vs:List Value},Rel m a vs->a.all D.one=true
 |[],[],_=>rfl|_::_,_::_,h=>by simp only[xbb,h.1,Rel.one h.2.2,Bool.and_self]|[],_::_,h=>h.elim|_::_,[],h=>h.elim
def Jd{c:Type}:∀(n:Nat)(Q:Nat->c->Prop),(∀i,i<n->∃y,Q i y)->∃a:List c,a.length=n/\∀(i:Nat)(y:c),a[i]?=some y->Q i y
 |0,_,_=>⟨[],rfl,by intro i y h;simp at h⟩
 |n+1,Q,h=>by obtain⟨a,ab,ad⟩:=Jd n (λi=>Q (i+1)) λi ag=>h (i+1) oZ;obtain⟨y,d⟩:=h 0 oZ;refine⟨y::a,by simp[ab],?_⟩;intro i z b;cases i with|zero=>simp at b;subst b;exact d|succ i=>exact ad i z (by simpa using b)
def Je{a b:Type}(f:a->Option b):∀(l:List a)(r:List b),r.length=l.length->(∀(i:Nat)(x:a)(y:b),l[i]?=some x->r[i]?=some y->f x=some y)->l.mapM f=some r
 |[],[],_,_=>rfl|x::l,y::r,ah,h=>by have ak:=h 0 x y rfl rfl;have ih:=Je f l r (by simpa using ah) λi x y c d=>h (i+1) x y (by simpa using c) (by simpa using d);simp[List.mapM_cons,ak,ih]|[],_::_,h,_=>by simp at h|_::_,[],h,_=>by simp at h
section
variable{H:Type}{enc:TypeId×Value->H}{P:Program}{w:World}{base:Nat}{spare:Nat->Bool}{held:Bool}
def pieces{m:Mem}{c:Nat}{cs:List Value}:∀(a:mW) (o:Nat),(∀(i:Nat)(x:lZ),a[i]?=some x->Rel m x ((cs.drop (o+i*c)).take c))->(o+a.length*c=cs.length)->Rel m a.flatten (cs.drop o)
 |[],o,_,ah=>by have:cs.drop o=[]:=xcw (by simp at ah;omega);rw[this];trivial
 |x::r,o,h,ah=>by
  have b:o+c+r.length*c=cs.length:=by simp only[xal,xaZ]at ah;omega
  have ak:=h 0 x rfl;have ih:=pieces (m:=m) (cs:=cs) (c:=c) r (o+c) (λi x d=>by have:=h (i+1) x (by simpa using d);rw[show o+c+i*c=o+(i+1)*c by rw[xaZ];omega];exact this) b
  have e:cs.drop o=(cs.drop o).take c++cs.drop (o+c):=by
   conv=>lhs;rw[<-xbJ c (cs.drop o)]
   rw[List.drop_drop]
  rw[e,List.flatten_cons];refine Rel.append ?_ ih;simpa using ak
def Jf{H:Type}{P:Program}{e:TypeId}:∀{l:List (DataW H)} {x:DataW H} {y:Nat},x∈l->y∈x.weights P e->y∈DataW.weightsAll P e l
 |a::r,x,y,b,c=>by
  simp only[DataW.weightsAll,xar];rcases xao.1 b with rfl|b
  .exact .inl c
  exact .inr (Jf b c)
def PG(m:Mem)(fE:∀b o,w.heap[b]?=some o->m b=some o):∀(n:Nat)(ty:dr)(t:TypeId)(cs:List Value)(x:DataW H×List MemPlace),de P ty t=true->ty.fA n=true->(x.1.weights P t).all (·<=reachBytes)=true->DataW.trod enc P w base spare held n t cs=some x-> ∃l,rd ty x.1=some l/\j5 ty l/\Rel m l cs:=by
 intro n
 induction n with
 |zero=>intro ty t cs x _ _ _ h;simp[DataW.trod]at h
 |succ n ih=>
  intro ty t cs x d E B h;cases ty with
  |stop=>simp[dr.fA]at E
  |bool=>
   simp only[de]at d;split at d;.obtain⟨b,rfl,rfl⟩:=DataW.trod_bool ‹_› h;exact⟨[aF b],rfl,⟨b,rfl⟩,rfl,.val _,trivial⟩
   cases d
  |int k=>
   simp only[de]at d;split at d;.have:=xbg d;subst this;obtain⟨z,rfl,rfl,dT⟩:=DataW.trod_int ‹_› h;exact⟨[.val (.int k z)],rfl,⟨z,rfl,dT⟩,rfl,.val _,trivial⟩
   cases d
  |str=>
   simp only[de]at d;split at d
   .obtain⟨s,rfl,rfl,dT⟩:=DataW.trod_string ‹_› h;refine⟨[aD s],?_,⟨s,rfl,?_⟩,rfl,.val _,trivial⟩;.simp[rd]
    simp only[DataW.weights,xbb,xcf,xbA,xaF]at B;simp only[reachBytes]at B;simpa using B
   cases d
  |slice k fe e=>
   simp only[de]at d;split at d
   .rename_i C hu;simp only[xam,xaF]at d;obtain⟨⟨⟨cC,cy⟩,b3⟩,b1⟩:=d;subst cC;subst b3;simp only[dr.fA]at E;rcases DataW.trod_slice hu h with⟨rfl,rfl⟩|⟨a,len,cap,A,rest,dD,X,rfl,rfl,iu,gH,dE,gf,r,_,_⟩
    .exact⟨[.aw _ []],rfl,⟨[],rfl,by simp,by simp,by simp⟩,rfl,.hS _ _ _,trivial⟩
    cases X;simp only[DataW.weights,hu,xbb,List.all_append,xam,xaU,reachBytes]at B;obtain⟨F,cT,_⟩:=B;have each:∀i,i<len->∃l,∃x,A[i]?=some x/\rd e x.1=some l/\j5 e l/\∃c,w.cells? base (a.add (i*P.cellsOf C)) (P.cellsOf C)=some c/\Rel m l c:=by
     intro i ag;have ab:=r i ag;rw[xaa oZ]at ab;obtain⟨c,ad,ai⟩:=xaT.1 ab;have R:((A[i]'oZ).1.weights P C).all (·<=reachBytes)=true:=by refine xay.2 λy S=>xay.1 cT y ?_;exact Jf (xaK.2 ⟨_,xaV _,rfl⟩) S
     obtain⟨l,g1,g2,g3⟩:=ih e C c _ b1 E R ai;exact⟨l,_,xaa oZ,g1,g2,c,ad,g3⟩
    obtain⟨es,ah,u⟩:=Jd len _ each;have I:∀(i:Nat)(l:lZ),es[i]?=some l->l.length=P.cellsOf C:=by intro i l ag;obtain⟨_,_,_,_,c,U,V⟩:=u i l ag;rw[<-V.len];exact(World.cells?_some U).2.1
    refine⟨[.aw (P.cellsOf C) es],?_,⟨es,rfl,by omega,?_,?_⟩,rfl,?_,trivial⟩
    .simp only[rd];rw[Je (rd e) (A.map (·.1)) es uZ];.rfl
     intro i x y G S;obtain⟨z,ab,ad,_⟩:=u i y S;simp[ab]at G;rw[<-G];exact ad
    .have:es.length<=A.length+rest.length:=oZ
     exact xbK (xaB _ this) (xbg F)
    .intro x G;obtain⟨i,ag,rfl⟩:=List.getElem_of_mem G;obtain⟨_,_,_,g2,_⟩:=u i _ (xaa ag);exact⟨I i _ (xaa ag),g2⟩
    by_cases ak:len=0;.subst ak;have:es=[]:=xaO ah;subst this;exact .hS _ _ _
    have Y:∀(i:Nat)(l:lZ),es[i]?=some l->∀j,j<P.cellsOf C->w.cell? ((a.add (i*P.cellsOf C)).add j)≠none:=by intro i l ag j N;obtain⟨_,_,_,_,c,U,V⟩:=u i l ag;obtain⟨_,hz,cK⟩:=World.cells?_some U;rw[cK j N,xaa oZ];simp
    have p:=Y 0 _ (xaa oZ) 0 cy;simp only[Nat.zero_mul,Addr.add,xaC]at p;obtain⟨b,off,spot⟩:=a;unfold World.cell? at p;cases a1:w.heap[b]? with
    |none=>simp[a1]at p
    |some o=>
     cases o with
     |cells vs T eW=>
      simp only[a1]at p;have Q:spot=none:=by cases spot with|none=>rfl|some s=>simp at p
      subst Q;have cellAt:∀q,w.cell? ⟨b,q,none⟩=vs[q]?:=by intro q;simp[World.cell?,a1]
      have O:∀q,(⟨b,off,none⟩:Addr).add q=⟨b,off+q,none⟩:=by intro q;unfold Addr.add;split<;>simp_all
      have K:∀o q,(⟨b,o,none⟩:Addr).add q=⟨b,o+q,none⟩:=by intro o q;unfold Addr.add;split<;>simp_all
      have key:∀(i:Nat)(l:lZ)(j:Nat)(c:D),es[i]?=some l->l[j]?=some c->∃v,vs[off+i*P.cellsOf C+j]?=some v/\bN m c v:=by
       intro i l j c ag N;obtain⟨_,_,_,_,df,U,V⟩:=u i l ag;obtain⟨_,hz,cK⟩:=World.cells?_some U;obtain⟨v,c5,_,dk⟩:=V.at j c N;have cA:j<P.cellsOf C:=by rw[<-I i l ag];exact(lV.1 N).1
       refine⟨v,?_,dk⟩;rw[<-c5,<-cK j cA,O,K,cellAt]
      rw[<-ah];refine .aw _ es b off cap vs T eW (fE _ _ a1) ?_ oZ (λi j=>(vs[off+i*P.cellsOf C+j]?).getD undef) ?_ ?_;.intro x G;obtain⟨i,ag,rfl⟩:=List.getElem_of_mem G;obtain⟨_,_,_,_,_,_,V⟩:=u i _ (xaa ag);exact⟨I i _ (xaa ag),V.one⟩
      .intro i l j c ag N;obtain⟨v,ab,_⟩:=key i l j c ag N;simp[ab]
      intro i l j c ag N;obtain⟨v,ab,ad⟩:=key i l j c ag N;simpa[ab]using ad
     |_=>simp[a1]at p
   cases d
  |arr k e=>
   simp only[de]at d;split at d
   .rename_i jY C hu;simp only[xam,xaF]at d;obtain⟨⟨cC,U⟩,b1⟩:=d;subst cC;obtain⟨bX,dD,X,rfl,W,Z,r⟩:=DataW.trod_array hu h;cases X;simp only[dr.fA]at E;simp only[DataW.weights,hu]at B;have each:∀i,i<k->∃l,∃x,bX[i]?=some x/\rd e x.1=some l/\j5 e l/\Rel m l ((cs.drop (i*P.cellsOf C)).take (P.cellsOf C)):=by
     intro i ag;have ab:=r i ag;rw[xaa oZ]at ab;have R:((bX[i]'oZ).1.weights P C).all (·<=reachBytes)=true:=by refine xay.2 λy S=>xay.1 B y ?_;exact Jf (xaK.2 ⟨_,xaV _,rfl⟩) S
     obtain⟨l,g1,g2,g3⟩:=ih e C _ _ b1 E R ab;exact⟨l,_,xaa oZ,g1,g2,g3⟩
    obtain⟨es,ah,u⟩:=Jd k _ each;refine⟨es.flatten,?_,⟨es,rfl,ah,?_⟩,?_⟩
    .simp only[rd];rw[Je (rd e) (bX.map (·.1)) es uZ];.rfl
     intro i x y G S;obtain⟨z,ab,ad,_⟩:=u i y S;simp[ab]at G;rw[<-G];exact ad
    .intro x G;obtain⟨i,ag,rfl⟩:=List.getElem_of_mem G;obtain⟨_,_,_,g2,_⟩:=u i _ (xaa ag);exact g2
    have:=pieces (m:=m) (c:=P.cellsOf C) (cs:=cs) es 0 (λi x G=>by obtain⟨_,_,_,_,g3⟩:=u i x G;simpa using g3) (by rw[ah];omega);simpa using this
   cases d
  |struct L=>
   simp only[de]at d;split at d
   .rename_i b4 hu;obtain⟨bX,dD,X,rfl,W,Z,r⟩:=DataW.trod_struct hu h;cases X;simp only[dr.fA]at E;simp only[DataW.weights,hu]at B;have go:∀(L:List dr)(gs:List Field)(J:List (DataW H×List MemPlace)) (off:Nat),sl P L gs off (P.cellsOf t)=true->l8 n L=true->(DataW.weightsEach P (gs.map (·.type)) (J.map (·.1))).all (·<=reachBytes)=true->J.length=gs.length->(∀(i:Nat)(f:Field),gs[i]?=some f->DataW.trod enc P w base spare held n f.type ((cs.drop f.offset).take (P.cellsOf f.type))=J[i]?)-> ∃l,fz L (J.map (·.1))=some l/\C1 L l/\Rel m l (cs.drop off):=by
     intro L
     induction L with
     |nil=>intro gs J off ab M F ad ai;cases gs with|nil=>simp only[sl,xaF]at ab;have:J=[]:=xaO ad;subst this;refine⟨[],rfl,rfl,?_⟩;rw[xcw oZ];trivial|cons _ _=>simp[sl]at ab
     |cons f L dc=>
      intro gs J off ab M F ad ai;cases gs with
      |nil=>simp[sl]at ab
      |cons g gs=>
       cases J with
       |nil=>simp at ad
       |cons y J=>
        simp only[sl,xam,xaF]at ab;obtain⟨⟨eY,fc⟩,fu⟩:=ab;simp only[l8,xam]at M;simp only[xaw,DataW.weightsEach,List.all_append,xam]at F;obtain⟨a,aG,a2,a3⟩:=ih f g.type _ y fc M.1 F.1 (ai 0 g rfl);obtain⟨b,eX,ek,eL⟩:=dc gs J _ fu M.2 F.2 (by simpa using ad) (λi f ck=>by simpa using ai (i+1) f (by simpa using ck));refine⟨a++b,by simp[fz,aG,eX],⟨a,b,rfl,a2,ek⟩,?_⟩;have e:cs.drop off=(cs.drop off).take (P.cellsOf g.type)++cs.drop (off+P.cellsOf g.type):=by
         conv=>lhs;rw[<-xbJ (P.cellsOf g.type) (cs.drop off)]
         rw[List.drop_drop]
        rw[e];refine Rel.append ?_ eL;rw[<-eY];exact a3
    obtain⟨l,g1,g2,g3⟩:=go L b4.toList bX 0 d E B (by simpa using Z) (λi f ck=>r i f (by simpa using ck));exact⟨l,g1,g2,by simpa using g3⟩
   cases d
end
open Go.ChangeShapes Go.WideShapes Go.ChangeAt Go.RowKit
def uL:dr->D->Prop
 | .struct b,d=>∃a,d= .agg a/\C1 b a| .arr _ _,_=>False|ty,d=>j5 ty [d]
def sm{H:Type}(ty:dr)(x:DataW H)(d:D):Prop:=match ty with| .struct b=>∃a,d= .agg a/\rd (.struct b) x=some a|ty=>rd ty x=some [d]
abbrev n0:=Nat->dr
mutual
def pn:dr->Bool
 | .stop=>false| .slice _ _ e=>pn e| .arr _ e=>pn e| .struct a=>C2 a|_=>true
def C2:List dr->Bool
 |[]=>true|f::a=>pn f&&C2 a
end
mutual
def sn:∀(n:Nat)(t:dr),pn t=true->t.fA n=true
 |0,t,_=>by cases t<;>rfl
 |n+1,.stop,h=>by simp[pn]at h|n+1,.slice _ _ e,h=>by rw[pn]at h;rw[dr.fA];exact sn n e h|n+1,.arr _ e,h=>by rw[pn]at h;rw[dr.fA];exact sn n e h|n+1,.struct a,h=>by rw[pn]at h;rw[dr.fA];exact PH n a h|n+1,.bool,_=>rfl|n+1,.int _,_=>rfl|n+1,.str,_=>rfl
def PH:∀(n:Nat)(t:List dr),C2 t=true->l8 n t=true
 |n,[],_=>by cases n<;>rfl
 |n,f::a,h=>by rw[C2,xam]at h;rw[l8,sn n f h.1,PH n a h.2];rfl
end
def abw:dr->Bool
 | .arr _ _=>false|_=>true
structure po(P:Program)(F:n0)(t:TypeId):Prop where
 deep:∀n,(F n).fA n=true
 ok:∀n,de P (F n) t=true
 lt:t<P.types.size
 abx:∀n,abw (F n)=true
def uM(P:Program):List n0->List TypeId->Prop
 |[],[]=>True|F::Fs,t::ts=>po P F t/\uM P Fs ts|_,_=>False
def uM.lt{P:Program}:∀{Fs:List n0}{ts:List TypeId},uM P Fs ts->∀t∈ts,t<P.types.size
 |[],[],_,t,h=>by simp at h
 |F::Fs,u::ts,h,t,a=>by
  rcases xao.1 a with rfl|a;.exact h.1.lt
  exact uM.lt h.2 t a
 |[],_::_,h,_,_=>h.elim|_::_,[],h,_,_=>h.elim
def mP{H:Type}:List n0->List (DataW H)->lZ->Prop
 |[],[],[]=>True|F::Fs,x::xs,d::a=>(∃n,sm (F n) x d/\uL (F n) d)/\mP Fs xs a|_,_,_=>False
section
variable{H:Type}{enc:TypeId×Value->H}{P:Program}{w:World}
def C3{m:Mem}{a:lZ}{v:Value}(h:Rel m a [v]):∃d,a=[d]/\bN m d v:=by cases a with|nil=>exact h.elim|cons d r=>cases r with|nil=>exact⟨d,rfl,h.2.1⟩|cons _ _=>exact h.2.2.elim
def aby{m:Mem}{a:lZ}{cs:Array Value}(h:Rel m a cs.toList):bN m (.agg a) (.agg cs):=by
 refine .agg _ _ (by simpa using h.len) ?_;intro i c v b d;obtain⟨u,ab,_,ad⟩:=h.at i c b;have:cs[i]?=some u:=by simpa using ab
 rw[d]at this;cases this;exact ad
def abz(m:Mem)(A:∀(b:Nat)(o:Obj),w.heap[b]?=some o->m b=some o){r:Reach}{y base:Nat}{sp:Nat->Bool}{held:Bool}{F:n0}{t:TypeId}{v:Value}{x:DataW H}{B:List MemPlace} (j:po P F t) (s:(x.weights P t).all (·<=reachBytes)=true) (g:Value.okWide P w r y t v) (h:DataW.Trod enc P w base sp held t v x B):∃d n,sm (F n) x d/\uL (F n) d/\bN m d v:=by
 obtain⟨n,u⟩:=h;have f:=j.ok n;have q:=j.abx n;obtain⟨p,ab,ad,ai⟩:=PG m A n (F n) t _ _ f (j.deep n) s u
 suffices h:∃d,sm (F n) x d/\uL (F n) d/\bN m d v from let⟨d,a⟩:=h;⟨d,n,a⟩
 clear j u;generalize F n=ty at*;cases ty with
 |bool=>
  simp only[de]at f;split at f;.obtain⟨b,rfl⟩:=okWide_bool ‹_› g;obtain⟨d,rfl,i⟩:=C3 ai;exact⟨d,ab,ad,i⟩
  cases f
 |int k=>
  simp only[de]at f;split at f;.obtain⟨b,rfl⟩:=okWide_int ‹_› g;obtain⟨d,rfl,i⟩:=C3 ai;exact⟨d,ab,ad,i⟩
  cases f
 |str=>
  simp only[de]at f;split at f;.obtain⟨b,rfl⟩:=okWide_string ‹_› g;obtain⟨d,rfl,i⟩:=C3 ai;exact⟨d,ab,ad,i⟩
  cases f
 |stop=>exact(by simpa[j5]using ad:False).elim
 |slice k z e=>
  simp only[de]at f;split at f;.obtain⟨a,l,c,rfl⟩:=okWide_slice ‹_› g;obtain⟨d,rfl,i⟩:=C3 ai;exact⟨d,ab,ad,i⟩
  cases f
 |arr n e=>cases q
 |struct C=>
  simp only[de]at f;split at f;.obtain⟨cs,rfl,_⟩:=okWide_struct ‹_› g;exact⟨.agg p,⟨p,rfl,ab⟩,⟨p,rfl,ad⟩,aby ai⟩
  cases f
def PI(m:Mem)(z:∀(b:Nat)(o:Obj),w.heap[b]?=some o->m b=some o){r:Reach}{A base:Nat}{sp:Nat->Bool}{held:Bool}:∀{Fs:List n0}{ts:List TypeId}{vs:List Value}{g:List (DataW H)} {s:List MemPlace},uM P Fs ts->(DataW.weightsEach P ts g).all (·<=reachBytes)=true->(∀(j:Nat) t v,ts[j]?=some t->vs[j]?=some v->Value.okWide P w r A t v)->DataW.TrodAll enc P w base sp held ts vs g s-> ∃k,mP Fs g k/\jZ m k vs
 |[],[],vs,g,s,_,_,_,h=>by obtain⟨rfl,rfl,rfl⟩:=trodAll_nil h;exact⟨[],trivial,rfl,by intro i d v C;simp at C⟩
 |F::Fs,t::ts,vs,g,s,f,e,a,h=>by obtain⟨v,G,x,I,p,q,rfl,rfl,rfl,ab,ad⟩:=trodAll_cons h;simp only[DataW.weightsEach,List.all_append,xam]at e;obtain⟨d,n,d1,d2,d3⟩:=abz m z f.1 e.1 (a 0 t v rfl rfl) ab;obtain⟨k,B,y⟩:=PI m z f.2 e.2 (λj t v D E=>a (j+1) t v (by simpa using D) (by simpa using E)) ad;refine⟨d::k,⟨⟨n,d1,d2⟩,B⟩,by simpa using y.1,?_⟩;intro i c u l hu;cases i with|zero=>simp at l hu;subst l;subst hu;exact d3|succ i=>exact y.2 i c u (by simpa using l) (by simpa using hu)
 |[],_::_,_,_,_,h,_,_,_=>h.elim|_::_,[],_,_,_,h,_,_,_=>h.elim
def again{W c:World}(f:∀(b:Nat)(o:Obj),W.heap[b]?=some o->c.heap[b]?=some o)(ah:laidOutB P=true)(l:mapsRowed P=true) (r:((List.range P.types.size).all λt=>match P.underlying t with|some (.slice e)=>decide (0<P.cellsOf e)|_=>true)=true) {sp:Nat->Bool}: ∀{ts:List TypeId}{vs:List Value}{j:List (DataW H)} {i:List MemPlace},(∀t∈ts,t<P.types.size)->DataW.TrodAll enc P W 0 (λ_=>true) true ts vs j i->(∀p∈i,p.block<W.heap.size)->(∀p∈i,sp p.block=true)->DataW.TrodAll enc P c 0 sp true ts vs j i
 |[],[],[],_,_,h,_,_=>h
 |t::ts,v::vs,d::j,_,m,⟨p,q,⟨n,ab⟩,ad,e⟩,g,aj=>by
  refine⟨p,q,⟨n,?_⟩,again f ah l r (λt h=>m t (by simp[h])) ad (λx a=>g x (by rw[e];exact xbT _ a)) (λx a=>aj x (by rw[e];exact xbT _ a)),e⟩;refine DataW.trod_stays (kids_rows ah l) (λ{t e} ab ad=>slices_full_of P r t e ab ad) (λh=>by cases h) (m t sZ) ab ?_ (λx a=>aj x (by rw[e];exact xaY _ a));intro x a;have k:=g x (by rw[e];exact xaY _ a);have a1:c.heap[x.block]?=W.heap[x.block]?:=by rw[xaj k];exact f _ _ (xaj k)
  cases x with
  |cell b off=>show c.cell? ⟨b,off,none⟩=W.cell? ⟨b,off,none⟩;unfold World.cell?;rw[show c.heap[b]?=W.heap[b]? from a1]
  |map b=>exact a1
def C4(W:World):dn:=⟨λ_=>none,W.os,W.output,W.heap.size⟩
theorem abA(W:World):gn (λb=>W.heap[b]?) (C4 W) W:=by refine⟨λb o h=>h,⟨λb o h=>by simp[C4]at h,rfl,rfl,xaR _⟩,λ_ _=>rfl⟩
def abB{W d:World}{j:Mem}(g:(show Mem fromλb=>W.heap[b]?).le j)(h:gn j (C4 W) d):
  W.keptBut d (λ_=>False)/\(∀a:Addr,a.block<W.heap.size->d.frozen? a=W.frozen? a)/\(∀(b:Nat)(o:Obj),W.heap[b]?=some o->d.heap[b]?=some o):=by
 have a1:∀(b:Nat)(o:Obj),W.heap[b]?=some o->d.heap[b]?=some o:=λb o e=>h.mem b o (g b o e);refine⟨⟨h.frame.quiet.os,h.frame.quiet.out,λi ag=>?_⟩,λa k=>?_,a1⟩
 .have ab:=xaj ag;have ad:=a1 i _ ab;rw[ab,ad];split
  .rename_i f c;rw[f]at c;simp only[xaE,Obj.cells.injEq]at c;obtain⟨rfl,rfl,rfl⟩:=c;exact⟨rfl,rfl,rfl,λ_ _=>rfl⟩
  .rename_i f c;rw[f]at c;simp only[xaE,Obj.map.injEq]at c;exact Or.inr ⟨c.1.symm,c.2.symm⟩
  rfl
 .unfold World.frozen?;have e:=xaj k;rw[e,a1 _ _ e]
section
open DataW
def abC{f:Func}{s:ChangeSpec}{apart fresh handsOn again:Bool}{W i:World}{args:Array Value}{v:Value}{l gs:List (DataW H)}{before pa pv:List MemPlace} (n:DataW.Whole enc P f.params.toList s.vars apart W args.toList l gs before) (h:∀(b:Nat)(sp:Nat->Bool)(x:Bool),DataW.TrodAll enc P i b sp x f.resultTypes.toList (v.resultList f.resultTypes.size) (s.fn H (l++gs)).results []) (c:∀sp:Nat->Bool,(∀p∈before,sp p.block=true)->DataW.TrodAll enc P i 0 sp true f.params.toList args.toList (s.fn H (l++gs)).args pa) (e:∀sp:Nat->Bool,(∀p∈before,sp p.block=true)->DataW.TrodVars enc P i sp s.vars (s.fn H (l++gs)).vars pv) (g:before=pa++pv) (y:W.keptBut i (·∈before)) (o:∀a:Addr,a.block<W.heap.size->i.frozen? a=W.frozen? a) (q:∀(j:Nat)(t:TypeId)(r:Value),f.resultTypes[j]?=some t->(v.resultList f.resultTypes.size)[j]?=some r->Value.okWide P i .any 0 t r):s.post enc P f apart fresh handsOn again W args v i:=by
 have k:=n.lt;refine⟨l,gs,before,[],pa,pv,n,h _ _ _,c _ λp d=>by simpa using k p d,e _ λp d=>by simpa using k p d,World.keptBut_mono (λp d=>⟨d,?_⟩) y,λ_=>?_⟩;.rw[g,xar]at d;exact .inr d
 obtain⟨_,_,_,_,_,A,z⟩:=n;refine⟨q,_,_,([]++pa)++pv,⟨[]++pa,pv,trodAll_append (c _ λ_ _=>rfl) (h _ _ _),e _ λ_ _=>rfl,rfl,?_,?_⟩,?_⟩
 .intro b off d;have m:MemPlace.cell b off∈before:=by rw[g];simpa using d
  rw[o _ (k _ m)];exact A b off m
 .intro u;have:=z u;rw[g]at this;simpa using this
 intro p d _;rw[g];simpa using d
end
def abD{G:cj}{f:FuncId}{fn:Func}{s:ChangeSpec}{Fs:List n0}{tr:TypeId}{W:World}{base:Nat}{args:Array Value}{c gs:List (DataW H)}{before:List MemPlace} (ah:laidOutB P=true) (X:mapsRowed P=true) (b4:((List.range P.types.size).all λt=>match P.underlying t with|some (.slice e)=>decide (0<P.cellsOf e)|_=>true)=true) (B:uM P Fs fn.params.toList) (l:fn.resultTypes= #[tr]) (A:P.underlying tr=some .bool) (g:s.vars=[]) (aj:∀c:List (DataW H),c.length=Fs.length->s.fn H c=⟨[.lit (.bool true)],c,[]⟩) (u:∀a,mP Fs c a->cF P G f a (·=aF true)) (S:gm G (λb:Nat=>W.heap[b]?)) {R:List TypeId} (K:R=[]) (E:(DataW.weightsEach P (fn.params.toList++R) (c++gs)).all (·<=reachBytes)=true) (C:∀(j:Nat) t v,fn.params[j]?=some t->args[j]?=some v->Value.okWide P W .any base t v) (Q:DataW.Whole enc P fn.params.toList s.vars false W args.toList c gs before):Calls P f args W λe M=>∃v,e= .returned v/\s.post enc P fn false true false false W args v M:=by
 have m:=Q;obtain⟨p,q,N,O,rfl,V,Y⟩:=Q;rw[g]at O;obtain⟨rfl,rfl⟩:=trodVars_none O;subst K;rw[xat,xat]at E;obtain⟨a,d1,d3⟩:=PI (λb=>W.heap[b]?) (λb o h=>h) B E (λj t v bX I=>C j t v (by simpa using bX) (by simpa using I)) N;have U:=(u a d1).run (λb=>W.heap[b]?) (C4 W) W args.toList S (abA W) d3;have n:c.length=Fs.length:=by
  have:∀(i:List n0)(c:List (DataW H)) (a:lZ),mP i c a->c.length=i.length:=by
   intro i
   induction i with
   |nil=>intro c a h;cases c<;>cases a<;>simp_all [mP]
   |cons y i ih=>
    intro c a h;cases c with
    |nil=>cases a<;>simp[mP]at h
    |cons x c=>cases a with|nil=>simp[mP]at h|cons d a=>simp[ih c a h.2]
  exact this _ _ _ d1
 refine U.mono λe M ⟨v,b1,r,he,Z,hle,T,I⟩=>?_;subst Z;have J:v= .bool true:=by cases I;rfl
 subst J;obtain⟨bR,cx,fy⟩:=abB hle T;have F:=m.lt;refine⟨_,he,?_⟩;have k:=aj (c++[]) (by simpa using n);simp only[xat]at k;refine abC (pa:=p) (pv:=[]) m (λb sp b3=>?_) (λsp z=>?_) (λsp z=>?_) rfl (World.keptBut_mono (λ_ h=>h.elim) bR) cx (ok_one l rfl (okWide_bool_mk A _))
 .rw[xat,k,l];exact trodAll_cons_mk (shut_bool A true) trodAll_mk0
 .rw[xat,k];exact again fy ah X b4 B.lt N (λx L=>F x (by simpa using L)) (λx L=>z x (by simpa using L))
 rw[xat,k,g];rfl
def PJ{W:World}:∀(laid:List (String×DataW Unit)) (gs:List (Nat×TypeId×dr×lZ)) (j:List MemPlace),DataW.LaidVars P W laid j->gs.length=laid.length->(∀(i:Nat) x g,laid[i]?=some x->gs[i]?=some g->P.globalNamed x.1=some g.1/\(P.globals[g.1]?).map (·.type)=some g.2.1/\de P g.2.2.1 g.2.1=true/\rd g.2.2.1 x.2=some g.2.2.2/\pn g.2.2.1=true/\(x.2.weights P g.2.1).all (·<=reachBytes)=true)-> ∀g∈gs,∃vs T c,W.heap[g.1]?=some (.cells vs T c)/\Rel (λb=>W.heap[b]?) g.2.2.2 vs.toList
 |[],[],_,_,_,_,g,a=>by simp at a
 |(E,x)::laid,y::gs,j,h,ah,f,g,a=>by
  obtain⟨C,t,cs,fuel,p,q,ab,ad,ai,z,A,_⟩:=h;rcases xao.1 a with rfl|a
  .obtain⟨a2,a3,a4,a5,k,iK⟩:=f 0 _ _ rfl rfl;have r:=xba (a2.symm.trans ab);subst r;have s:=xba (a3.symm.trans ad);subst s;obtain⟨B,l,_,m⟩:=PG (λb=>W.heap[b]?) (λb o h=>h) fuel _ _ _ _ a4 (sn _ _ k) iK z;have u:=xba (a5.symm.trans l);unfold World.var? at ai;rw[ab]at ai;simp only[Option.bind_some]at ai;split at ai
   .rename_i n T c a1;cases ai;exact⟨_,T,c,a1,by rw[u];exact m⟩
   cases ai
  exact PJ laid gs q A (by simpa using ah) (λi x g e d=>f (i+1) x g (by simpa using e) (by simpa using d)) g a
 |[],_::_,_,_,h,_,_,_=>by simp at h|_::_,[],_,_,h,_,_,_=>by simp at h
def abE{G:cj}{W:World}(gs:List (Nat×TypeId×dr×lZ))(f:∀g cs,G g=some cs->∃x∈gs,x.1=g/\x.2.2.2=cs) (h:∀g∈gs,∃vs T a,W.heap[g.1]?=some (.cells vs T a)/\Rel (λb=>W.heap[b]?) g.2.2.2 vs.toList):gm G (λb:Nat=>W.heap[b]?):=by
 intro g cs i;obtain⟨x,k,rfl,rfl⟩:=f g cs i;obtain⟨vs,T,a,ab,ad⟩:=h x k;refine⟨vs,T,a,ab,λj=>(vs[j]?).getD undef,?_,?_⟩
 .intro j c d;obtain⟨v,e,_,_⟩:=ad.at j c d;have:vs[j]?=some v:=by simpa using e
  simp[this]
 intro j c d;obtain⟨v,e,_,l⟩:=ad.at j c d;have:vs[j]?=some v:=by simpa using e
 simpa[this]using l
end
def PK:dr:= .struct [.str,.bool,.int .i64,.int .i64]
def C5:dr:= .slice 4 40 PK
def mQ{b:Type}(f:b->lZ)(Q:b->Prop):∀(es:mW),(∀x∈es,∃y,x=f y/\Q y)->∃l:List b,es=l.map f/\∀y∈l,Q y
 |[],_=>⟨[],rfl,by simp⟩|x::es,h=>by obtain⟨y,rfl,d⟩:=h x sZ;obtain⟨l,rfl,ah⟩:=mQ f Q es λx c=>h x (by simp[c]);exact⟨y::l,rfl,by intro z a;rcases xao.1 a with rfl|a;exact d;exact ah z a⟩
def abF{n:Int}(h:(Lit.int .i64 n).wf=true):j1 n:=by have:=Go.bounds_i64 h;exact this
theorem yn{x:lZ}(h:j5 (.int .i64) x):∃n,x=[aa n]/\j1 n:=by obtain⟨n,rfl,a⟩:=h;exact⟨n,rfl,abF a⟩
def C6{x:lZ}(h:j5 .str x):∃s,x=[aD s]/\s.size<=140737488351232:=h
def abG{x:lZ}(h:j5 .bool x):∃b,x=[aF b]:=h
def abH{x:lZ}(h:j5 PK x):∃v:V,x=v.cells/\V.ok v:=by obtain⟨a,b,rfl,l,c,d,rfl,m,e,f,rfl,n,g,i,rfl,o,rfl⟩:=h;obtain⟨s,rfl,aj⟩:=C6 l;obtain⟨q,rfl⟩:=abG m;obtain⟨lo,rfl,k⟩:=yn n;obtain⟨ag,rfl,j⟩:=yn o;exact⟨⟨s,q,lo,ag⟩,rfl,k,j,by simp only;omega⟩
abbrev cc:D:= .val (.slice none 0 0)
def bI(k:Nat)(nl:Bool)(es:mW):D:=if nl&&es.isEmpty then cc else .aw k es
section
variable{k:Nat}{nl:Bool}{es:mW}
def abI:bI k false es= .aw k es:=by simp[bI]
@[simp] theorem PL:dN (bI k nl es)=some (aa es.length):=by
 unfold bI;split;.rename_i h;simp at h;simp[h.2,aa,dN]
 rfl
@[simp] theorem abJ:c7 (bI k nl es)=true:=by unfold bI;split<;>rfl
@[simp] theorem abK:(bI k nl es).one=true:=by unfold bI;split<;>rfl
def Jg{i:Nat}:ba k (bI k nl es) (aa (i:Int))=es[i]?:=by
 unfold bI;split;.rename_i h;simp at h;simp[h.2,aa,ba]
 simp
@[simp] theorem abL:jw (bI k nl es)=some (if nl&&es.isEmpty then(0,[])else(k,es)):=by unfold bI;split<;>rfl
end
def abM{k:Nat}{nl:Bool}{es:mW}(h:0<k):∃q,jw (bI k nl es)=some (q,es)/\(decide (q=k\/es=[])&&decide (0<k))=true/\(decide (q=k\/es=[]))=true:=by
 rw[abL];split;.rename_i a;simp at a;exact⟨0,by rw[a.2],by simp[a.2,h],by simp[a.2]⟩
 exact⟨k,rfl,by simp[h],by simp⟩
inductive Tm where
 |mk (op n:Int) (name:ByteArray) (nl:Bool) (az:List Tm)
namespace Tm
def op:Tm->Int| .mk o _ _ _ _=>o
def num:Tm->Int| .mk _ n _ _ _=>n
def name:Tm->ByteArray| .mk _ _ s _ _=>s
def nl:Tm->Bool| .mk _ _ _ b _=>b
def az:Tm->List Tm| .mk _ _ _ _ l=>l
mutual
def cells:Tm->lZ
 | .mk o n s b ks=>[aa o,aa n,aD s,bI 4 b (rows ks)]
def rows:List Tm->mW
 |[]=>[]|t::r=>cells t::rows r
end
def d(t:Tm):D:= .agg t.cells
mutual
def aS:Tm->Nat
 | .mk _ _ _ _ ks=>2+cY ks
def cY:List Tm->Nat
 |[]=>0|t::r=>1+aS t+cY r
end
def fR:∀l:List Tm,rows l=l.map cells
 |[]=>rfl|t::r=>by simp[rows,fR r]
@[simp] theorem qG {l:List Tm}:(rows l).length=l.length:=by simp[fR]
def C7{l:List Tm}{i:Nat}{t:Tm}(h:l[i]?=some t):(rows l)[i]?=some t.cells:=by simp[fR,h]
def ep{l:List Tm}{b:Bool}{i:Nat}{t:Tm}(h:l[i]?=some t):ba 4 (bI 4 b (rows l)) (aa (i:Int))=some t.cells:=by rw[Jg,C7 h]
def so:∀l:List Tm,l.length<=cY l
 |[]=>xaR 0|t::r=>by simp only[cY,xal];have:=so r;omega
def yo:∀{l:List Tm}{t:Tm},t∈l->aS t+1<=cY l
 |a::r,t,h=>by
  simp only[cY];rcases xao.1 h with rfl|h
  .omega
  have:=yo h;omega
def fB{t k:Tm}(h:k∈t.az):k.aS+3<=t.aS:=by cases t with|mk o n s b ks=>simp only[aS];have:=yo (show k∈ks from h);omega
def h8{t:Tm}:t.az.length+2<=t.aS:=by cases t with|mk o n s b ks=>simp only[aS];have:=so ks;show ks.length+2<=_;omega
def ind{P:Tm->Prop}(h:∀t:Tm,(∀k∈t.az,P k)->P t)(t:Tm):P t:=by
 have:∀(n:Nat)(t:Tm),t.aS<=n->P t:=by
  intro n
  induction n with
  |zero=>intro t a;cases t;simp[aS]at a
  |succ n ih=>intro t a;exact h t λk b=>ih k (by have:=fB b;omega)
 exact this _ t (xaR _)
inductive Ok:Tm->Prop where
 |mk (o n:Int) (s:ByteArray) (b:Bool) (ks:List Tm) (yp:-9223372036854775808<=o/\o<=9223372036854775807) (bq:-9223372036854775808<=n/\n<=9223372036854775807) (aj:s.size<=140737488355328) (ah:ks.length*56<=140737488355328) (Hl:∀k∈ks,Ok k):Ok (.mk o n s b ks)
def Ok.di{t k:Tm}(h:Ok t)(c:k∈t.az):Ok k:=by cases h with|mk o n s b ks e d aj ah a=>exact a k c
def Ok.len{t:Tm}(h:Ok t):t.az.length*56<=140737488355328:=by cases h;assumption
theorem h9(t:Tm):t.cells=[aa t.op,aa t.num,aD t.name,bI 4 t.nl (rows t.az)]:=by cases t;rfl
theorem hj(t:Tm):t.d= .agg [aa t.op,aa t.num,aD t.name,bI 4 t.nl (rows t.az)]:=by cases t;rfl
@[simp] theorem jG (t:Tm):cz 4 t.d=true:=by rw[hj];simp
@[simp] theorem lr (t:Tm):ae t.d 0=aa t.op:=by rw[hj];rfl
@[simp] theorem n1 (t:Tm):ae t.d 1=aa t.num:=by rw[hj];rfl
@[simp] theorem n2 (t:Tm):ae t.d 2=aD t.name:=by rw[hj];rfl
@[simp] theorem mR (t:Tm):ae t.d 3=bI 4 t.nl (rows t.az):=by rw[hj];rfl
@[simp] theorem yq (t:Tm):D.agg [aa t.op,aa t.num,aD t.name,bI 4 t.nl (rows t.az)]=t.d:=(hj t).symm
@[simp high] theorem Jh (t:Tm):aQ true 4 0 t.cells=some t.d:=by rw[hj,h9];rfl
@[simp] theorem yr (t:Tm):t.cells[0]?=some (aa t.op):=by rw[h9];rfl
@[simp] theorem ys (t:Tm):t.cells[1]?=some (aa t.num):=by rw[h9];rfl
@[simp] theorem abN (t:Tm):t.cells[2]?=some (aD t.name):=by rw[h9];rfl
@[simp] theorem an8 (t:Tm):t.cells[3]?=some (bI 4 t.nl (rows t.az)):=by rw[h9];rfl
end Tm
def ch{c b σ:Type}{f:lZ->Option (lZ⊕c)}(l:List b)(S:Nat->σ->lZ)(R:List b->σ->c)(Inv:Nat->σ->Prop) (ak:∀s,Inv l.length s->f (S l.length s)=some (.inr (R [] s))) (ab:∀(i:Nat)(a:b)(s:σ),l[i]?=some a->i<l.length->Inv i s->(∃s',f (S i s)=some (.inl (S (i+1) s'))/\R (a::l.drop (i+1)) s=R (l.drop (i+1)) s'/\Inv (i+1) s')\/f (S i s)=some (.inr (R (a::l.drop (i+1)) s))): ∀(m i:Nat)(s:σ),Inv i s->l.length-i<m->i<=l.length->aR f m (S i s)=some (R (l.drop i) s)
 |0,i,s,_,h,_=>absurd h (xaD _)
 |m+1,i,s,ag,hm,hle=>by
  rw[h7];by_cases h:i<l.length
  .have d:=xaa h;have e:l.drop i=l[i]::l.drop (i+1):=xaW h;rcases ab i _ s d h ag with⟨s',g1,g2,g3⟩|g1
   .rw[g1,e,g2];exact ch l S R Inv ak ab m (i+1) s' g3 oZ h
   rw[g1,e];rfl
  have:i=l.length:=oZ
  subst this;rw[ak s ag,xcw (xaR _)];rfl
def C8(op:Int):op=1\/op=2\/op=3\/op=4\/op=5\/op=6\/op=7\/op=8\/op=9\/op=10\/op=11\/op=12\/op=13\/op=14\/op=15\/op=16\/op=17\/op=18\/(op<1\/op>18):=oZ
@[simp] theorem an9 {f:FuncId}:sf f (.val (.func (.func f) #[] #[]))=true:=by simp[sf]
@[simp] theorem jH {f:FuncId} {cs:lZ}:fM f (.fn (.func f) [] cs)=some cs:=by simp[fM]
attribute [go_sem] jH
def Ji(a b:Int):hU true [aa a,aa b]=some (aa (if b>a then b else a)):=by simp[hU,mx,nJ,aa,kL]
def PM(a b:Int):hU false [aa a,aa b]=some (aa (if b<a then b else a)):=by simp[hU,mx,nJ,aa,kL]
@[simp] theorem PN {b:Bool}:(aF b).flat=true:=rfl
@[simp] theorem abO {b:Int}:(aa b).flat=true:=rfl
@[simp] theorem abP {b:ByteArray}:(aD b).flat=true:=rfl
@[simp] theorem aoa {a:Int}:cd .neg (aa a)=some (aa (IntKind.i64.wrap (-a))):=by rw[<-Int.zero_sub];rfl
theorem PO:(D.val (.bool false))=aF false:=rfl
theorem PQ:(D.val (.int .i64 0))=aa 0:=rfl
theorem PR:(D.val (.string ⟨#[]⟩))=aD ⟨#[]⟩:=rfl
@[simp] theorem abQ (a b c:D):cz 3 (.agg [a,b,c])=(a.one&&(b.one&&c.one)):=by simp[cz]
@[simp] theorem abR (a b c e:D):cz 4 (.agg [a,b,c,e])=(a.one&&(b.one&&(c.one&&e.one))):=by simp[cz]
@[simp] theorem aob {a:D} {l:lZ}:ae (.agg (a::l)) 0=a:=rfl
@[simp] theorem aoc {a b:D} {l:lZ}:ae (.agg (a::b::l)) 1=b:=rfl
@[simp] theorem aod {a b c:D} {l:lZ}:ae (.agg (a::b::c::l)) 2=c:=rfl
@[simp] theorem aoe {a b c e:D} {l:lZ}:ae (.agg (a::b::c::e::l)) 3=e:=rfl
theorem uN{bt:Bool}{i:Nat}(h:i<1000000000000000000):aW bt .add (aa (i:Int)) (aa 1)=some (aa ((i+1:Nat):Int)):=by rw[dw oZ oZ];rfl
def abS{bt:Bool}{i:Int}(h:-9223372036854775809<=i)(a:i<9223372036854775807):aW bt .add (aa i) (aa 1)=some (aa (i+1)):=by rw[dw oZ oZ]
def bl(i:Nat)(h:i<1000000000000000000:=by omega):aW false .add (aa (i:Int)) (aa 1)=some (aa ((i+1:Nat):Int)):=uN h
def iL(i:Int)(h:-9223372036854775809<=i:=by omega)(a:i<9223372036854775807:=by omega):aW false .add (aa i) (aa 1)=some (aa (i+1)):=abS h a
def eE{n b:Nat}(ab:n*b<=140737488355328:=by omega)(ad:n<=4611686018427387904:=by omega):b2 n b=true:=sk ab ad
def iM{n i:Nat}(h:i<n):cI n (aa (i:Int))=some i:=by rw[jF,xac h]
section
variable{α β:Type}{c:Prop}[Decidable c]
@[simp] theorem aof {a b:α}:(if c then(Sum.inl a:α⊕β)else Sum.inl b)=Sum.inl (if c then a else b):=by split<;>rfl
@[simp] theorem aog {a b:β}:(if c then(Sum.inr a:α⊕β)else Sum.inr b)=Sum.inr (if c then a else b):=by split<;>rfl
@[simp] theorem aoh {a b:α} {l r:List α}:(if c then a::l else b::r)=(if c then a else b)::(if c then l else r):=by split<;>rfl
@[simp] theorem aoi {a b:Int}:(if c then aa a else aa b)=aa (if c then a else b):=by split<;>rfl
@[simp] theorem aoj {a b:ByteArray}:(if c then aD a else aD b)=aD (if c then a else b):=by split<;>rfl
@[simp] theorem Jj {a b:lZ}:(if c then D.aC a else D.aC b)=D.aC (if c then a else b):=by split<;>rfl
@[simp] theorem aok {a b:lZ}:(if c then D.agg a else D.agg b)=D.agg (if c then a else b):=by split<;>rfl
@[simp] theorem aol {f:lZ->Option β} {x y:lZ⊕β}:aI f (if c then x else y)=if c then aI f x else aI f y:=by split<;>rfl
@[simp] theorem aom {x y:Option α} {f:α->Option β}:af (if c then x else y) f=if c then af x f else af y f:=by split<;>rfl
end
section
variable{PS:Type}{c:Prop}[Decidable c]
@[simp] theorem aon {x y:D} {w:Bool} {p:oX}:cE (if c then x else y) w p=if c then cE x w p else cE y w p:=by split<;>rfl
@[simp] theorem aoo {x y:D} {w:Bool} {p q:Option PS}:r4 (if c then x else y) w p q=if c then r4 x w p q else r4 y w p q:=by split<;>rfl
@[simp] theorem aop {x y a b:D}:en (if c then x else y) a b=if c then en x a b else en y a b:=by split<;>rfl
@[simp] theorem aoq {x y:D} {p q:Option PS}:a6 (if c then x else y) p q=if c then a6 x p q else a6 y p q:=by split<;>rfl
@[simp] theorem aor {x y:D} {o:UnOp}:cd o (if c then x else y)=if c then cd o x else cd o y:=by split<;>rfl
end
@[simp] theorem aos {a b:Bool}:aF a=aF b↔a=b:=⟨λh=>by cases h;rfl,λh=>by rw[h]⟩
@[simp] theorem aot {a b:Int}:aa a=aa b↔a=b:=⟨λh=>by cases h;rfl,λh=>by rw[h]⟩
@[simp] theorem aou {a b:ByteArray}:aD a=aD b↔a=b:=⟨λh=>by cases h;rfl,λh=>by rw[h]⟩
attribute [simp] PO PQ PR
def iN(M:List (Value×D)):Prop:=∀e∈M,∃s,e.1= .string s
def eF:List (Value×D)->ByteArray->oX
 |[],_=>none|(.string s,d)::r,x=>if s=x then some d else eF r x
 |_::r,x=>eF r x
def PT{e:Value×D}{M:List (Value×D)}(h:iN (e::M)):(∃s,e.1= .string s)/\iN M:=⟨h e sZ,λx a=>h x (by simp[a])⟩
def PU(a b:ByteArray):Instr.sameNow .string (.string a) (.string b)=some (decide (b=a)):=by simp[Instr.sameNow,Hq,eq_comm]
def PV{M:List (Value×D)}(h:iN M)(x:ByteArray):findD .string (.string x) M=some (eF M x):=by
 induction M with
 |nil=>rfl
 |cons e r ih=>
  obtain⟨⟨s,aj⟩,b⟩:=PT h;obtain⟨k,d⟩:=e;simp only at aj;subst aj;simp only[findD,PU,eF];by_cases a:s=x;.simp[a]
  simp[a,ih b]
def abT{M:List (Value×D)}(h:iN M)(x:ByteArray)(d:D):∃b,mz .string (.string x) d M=some b/\iN b/\(∀y,eF b y=if y=x then some d else eF M y)/\b.length=M.length+(if(eF M x).isSome then 0 else 1):=by
 induction M with
 |nil=>exact⟨[(.string x,d)],rfl,by intro e a;simp at a;exact⟨x,by rw[a]⟩,λy=>by simp[eF,eq_comm],rfl⟩
 |cons e r ih=>
  obtain⟨⟨s,aj⟩,g⟩:=PT h;obtain⟨k,d0⟩:=e;simp only at aj;subst aj;simp only[mz,PU,eF];by_cases c:s=x
  .refine⟨(.string x,d)::r,by simp[c],?_,λy=>?_,by simp[c]⟩
   .intro e a;rcases xao.1 a with rfl|a
    .exact⟨x,rfl⟩
    exact g e a
   simp only[eF];by_cases f:y=x;.simp[f]
   have:¬x=y:=λh=>f h.symm;subst c;simp[f,this]
  obtain⟨b,ab,ad,ai,i⟩:=ih g;refine⟨(.string s,d0)::b,by simp[c,ab],?_,λy=>?_,by simp[c,i];omega⟩
  .intro e a;rcases xao.1 a with rfl|a
   .exact⟨s,rfl⟩
   exact ad e a
  simp only[eF,ai y];by_cases f:y=x;.subst f;simp[c]
  simp[f]
theorem uO{M:List (Value×D)}(h:iN M){z:Value}{x:ByteArray}:gT .string z true M (aD x)=some (match eF M x with|some d=> .aC [d,aF true]|none=> .aC [my z,aF false]):=by simp only[gT,aD,PV h];cases eF M x<;>rfl
def C9{M:List (Value×D)}(h:iN M)(x:ByteArray)(d:D):∃a,l0 .string M (aD x) d=some a/\iN a/\(∀y,eF a y=if y=x then some d else eF M y)/\a.length=M.length+(if(eF M x).isSome then 0 else 1):=abT h x d
def kS(M:List (Value×D)):Prop:=∀e∈M,∃i,e.1= .int .i64 i
def hE:List (Value×D)->Int->oX
 |[],_=>none|(.int .i64 s,d)::r,x=>if s=x then some d else hE r x
 |_::r,x=>hE r x
def PW{e:Value×D}{M:List (Value×D)}(h:kS (e::M)):(∃s,e.1= .int .i64 s)/\kS M:=⟨h e sZ,λx a=>h x (by simp[a])⟩
def PX(a b:Int):Instr.sameNow (.int .i64) (.int .i64 a) (.int .i64 b)=some (decide (b=a)):=by
 by_cases h:a=b;.subst h;simp[Instr.sameNow]
 have c:¬b=a:=λe=>h e.symm;simp[Instr.sameNow,h,c]
def abU{M:List (Value×D)}(h:kS M)(x:Int):findD (.int .i64) (.int .i64 x) M=some (hE M x):=by
 induction M with
 |nil=>rfl
 |cons e r ih=>
  obtain⟨⟨s,aj⟩,b⟩:=PW h;obtain⟨k,d⟩:=e;simp only at aj;subst aj;simp only[findD,PX,hE];by_cases a:s=x;.simp[a]
  simp[a,ih b]
def abV{M:List (Value×D)}(h:kS M)(x:Int)(d:D):∃b,mz (.int .i64) (.int .i64 x) d M=some b/\kS b/\(∀y,hE b y=if y=x then some d else hE M y)/\b.length=M.length+(if(hE M x).isSome then 0 else 1):=by
 induction M with
 |nil=>exact⟨[(.int .i64 x,d)],rfl,by intro e a;simp at a;exact⟨x,by rw[a]⟩,λy=>by simp[hE,eq_comm],rfl⟩
 |cons e r ih=>
  obtain⟨⟨s,aj⟩,g⟩:=PW h;obtain⟨k,d0⟩:=e;simp only at aj;subst aj;simp only[mz,PX,hE];by_cases c:s=x
  .refine⟨(.int .i64 x,d)::r,by simp[c],?_,λy=>?_,by simp[c]⟩
   .intro e a;rcases xao.1 a with rfl|a
    .exact⟨x,rfl⟩
    exact g e a
   simp only[hE];by_cases f:y=x;.simp[f]
   have:¬x=y:=λh=>f h.symm;subst c;simp[f,this]
  obtain⟨b,ab,ad,ai,i⟩:=ih g;refine⟨(.int .i64 s,d0)::b,by simp[c,ab],?_,λy=>?_,by simp[c,i];omega⟩
  .intro e a;rcases xao.1 a with rfl|a
   .exact⟨s,rfl⟩
   exact ad e a
  simp only[hE,ai y];by_cases f:y=x;.subst f;simp[c]
  simp[f]
theorem Jk{M:List (Value×D)}(h:kS M){z:Value}{ok:Bool}{x:Int}:gT (.int .i64) z ok M (aa x)=some (match hE M x with|some d=>if ok then .aC [d,aF true]else d|none=>if ok then .aC [my z,aF false]else my z):=by simp only[gT,aa,abU h];cases hE M x<;>rfl
def PY{M:List (Value×D)}(h:kS M)(x:Int)(d:D):∃a,l0 (.int .i64) M (aa x) d=some a/\kS a/\(∀y,hE a y=if y=x then some d else hE M y)/\a.length=M.length+(if(hE M x).isSome then 0 else 1):=abV h x d
def PZ:∀x:List UInt8,Op.bytesLess x x=false
 |[]=>rfl|a::x=>by simp[Op.bytesLess,PZ x]
def P2:∀x y z:List UInt8,Op.bytesLess x y=true->Op.bytesLess y z=true->Op.bytesLess x z=true
 |[],[],z,h,_=>by simp[Op.bytesLess]at h|[],b::y,[],_,h=>by simp[Op.bytesLess]at h|[],b::y,c::z,_,_=>rfl|a::x,[],z,h,_=>by simp[Op.bytesLess]at h|a::x,b::y,[],_,h=>by simp[Op.bytesLess]at h
 |a::x,b::y,c::z,ab,ad=>by
  simp only[Op.bytesLess,xbk,xam,xaF,xbQ,UInt8.lt_iff_toNat_lt]at*;rcases ab with ab|⟨rfl,ab⟩
  .rcases ad with ad|⟨rfl,ad⟩;.exact .inl oZ
   exact .inl ab
  rcases ad with ad|⟨rfl,ad⟩;.exact .inl ad
  exact .inr ⟨rfl,P2 x y z ab ad⟩
def P3:∀x y:List UInt8,Op.bytesLess x y=true\/x=y\/Op.bytesLess y x=true
 |[],[]=> .inr (.inl rfl)|[],b::y=> .inl rfl|a::x,[]=> .inr (.inr rfl)
 |a::x,b::y=>by
  simp only[Op.bytesLess,xbk,xam,xaF,xbQ,UInt8.lt_iff_toNat_lt,xbI];by_cases ab:a.toNat<b.toNat;.exact .inl (.inl ab)
  by_cases ad:b.toNat<a.toNat;.exact .inr (.inr (.inl ad))
  have:a=b:=UInt8.toNat_inj.1 oZ;subst this;rcases P3 x y with h|h|h
  .exact .inl (.inr ⟨rfl,h⟩)
  .exact .inr (.inl ⟨rfl,h⟩)
  exact .inr (.inr (.inr ⟨rfl,h⟩))
def pq(x:ByteArray):blt x x=false:=PZ _
def sq{x y z:ByteArray}(h:blt x y=true)(a:blt y z=true):blt x z=true:=P2 _ _ _ h a
def Jl(x y:ByteArray):blt x y=true\/x=y\/blt y x=true:=by
 rcases P3 x.toList y.toList with h|h|h;.exact .inl h
 .exact .inr (.inl (MI h))
 exact .inr (.inr h)
def abW(y x:ByteArray):(!(blt y x||decide (y=x)))=blt x y:=by
 rcases Jl x y with h|h|h
 .have ab:blt y x=false:=by
   cases a:blt y x with|false=>rfl|true=>have:=sq h a;rw[pq]at this;cases this
  have ad:y≠x:=by rintro rfl;rw[pq]at h;cases h
  simp[h,ab,ad]
 .subst h;simp[pq]
 have ab:blt x y=false:=by cases a:blt x y with|false=>rfl|true=>have:=sq h a;rw[pq]at this;cases this
 simp[h,ab]
def Da{bt:Bool}{x y:ByteArray}:aW bt .gtr (aD y) (aD x)=some (aF (blt x y)):=by rw[Jc,abW]
def hk:List ByteArray->Prop
 |[]=>True|a::r=>(∀b∈r,blt a b=true)/\hk r
def fC(s:ByteArray):List ByteArray->List ByteArray
 |[]=>[s]|a::r=>if a=s then a::r else if blt s a then s::a::r else a::fC s r
def P4{s x:ByteArray}:∀{l:List ByteArray},x∈fC s l->x=s\/x∈l
 |[],h=>by simp[fC]at h;exact .inl h
 |a::r,h=>by
  rw[fC]at h;split at h;.exact .inr h
  split at h
  .rcases xao.1 h with h|h;.exact .inl h
   exact .inr h
  rcases xao.1 h with h|h;.exact .inr (by simp[h])
  rcases P4 h with h|h;.exact .inl h
  exact .inr (by simp[h])
def yt{s:ByteArray}:∀{l:List ByteArray},hk l->hk (fC s l)
 |[],_=>⟨by simp,trivial⟩
 |a::r,h=>by
  rw[fC];split;.exact h
  rename_i f;split
  .rename_i d;refine⟨λb c=>?_,h⟩;rcases xao.1 c with rfl|c
   .exact d
   exact sq d (h.1 b c)
  rename_i e;refine⟨λb c=>?_,yt h.2⟩;rcases P4 c with rfl|c
  .rcases Jl a b with ab|ab|ab;.exact ab
   .exact absurd ab f
   rw[ab]at e;exact absurd rfl e
  exact h.1 b c
def Jm{s:ByteArray}:∀{l:List ByteArray},hk l->s∈l->fC s l=l
 |[],_,h=>by cases h
 |a::r,aj,h=>by
  rw[fC];rcases xao.1 h with rfl|h
  .rw[xac rfl]
  have b:=aj.1 s h;have c:¬a=s:=by rintro rfl;rw[pq]at b;cases b
  have d:¬blt s a=true:=λe=>by have:=sq b e;rw[pq]at this;cases this
  rw[xab c,xab d,Jm aj.2 h]
def P5{s:ByteArray}:∀{l:List ByteArray},hk l->s∉l->∃a b,l=a++b/\fC s l=a++s::b/\(∀x∈a,blt x s=true)/\(∀x∈b,blt s x=true)
 |[],_,_=>⟨[],[],rfl,rfl,by simp,by simp⟩
 |a::r,aj,h=>by
  have f:¬a=s:=λe=>h (by simp[e]);rw[fC,xab f];by_cases ah:blt s a=true
  .rw[xac ah];exact⟨[],a::r,rfl,rfl,by simp,λx c=>by
    rcases xao.1 c with rfl|c;.exact ah
    exact sq ah (aj.1 x c)⟩
  rw[xab ah];obtain⟨p,q,ab,ad,ai,g⟩:=P5 (l:=r) (s:=s) aj.2 (λi=>h (xcp _ i));refine⟨a::p,q,by rw[ab];rfl,by rw[ad];rfl,λx c=>?_,g⟩;rcases xao.1 c with rfl|c
  .rcases Jl x s with d|d|d;.exact d
   .exact absurd d f
   exact absurd d ah
  exact ai x c
def Jn(s:ByteArray):∀{l:List ByteArray},hk l->∃a b,l=a++b/\(∀x∈a,blt s x=false)/\(∀x∈b,blt s x=true)/\(s∈l->∃g,a=g++[s])/\(s∉l->s∉a)/\(s∉l->fC s l=a++s::b)
 |[],_=>⟨[],[],rfl,by simp,by simp,by simp,by simp,λ_=>rfl⟩
 |c::r,aj=>by
  by_cases d:s∈c::r
  .by_cases m:c=s;.subst m;refine⟨[c],r,rfl,by simp[pq],aj.1,λ_=>⟨[],rfl⟩,λh=>absurd d h,λh=>absurd d h⟩
   have n:s∈r:=(xao.1 d).resolve_left λh=>m h.symm;obtain⟨a,b,ab,ad,ai,i,p,q⟩:=Jn s aj.2;obtain⟨g,j⟩:=i n;refine⟨c::a,b,by rw[ab];rfl,?_,ai,λ_=>⟨c::g,by rw[j];rfl⟩,λh=>absurd d h,λh=>absurd d h⟩;intro x f;rcases xao.1 f with rfl|f
   .have e:=aj.1 s n;cases k:blt s x with|false=>rfl|true=>have:=sq e k;rw[pq]at this;cases this
   exact ad x f
  obtain⟨a,b,ab,ad,ai,i⟩:=P5 aj d;refine⟨a,b,ab,λx f=>?_,i,λh=>absurd h d,λ_ o=>d (by rw[ab];simp[o]),λ_=>ad⟩;have e:=ai x f;cases k:blt s x with|false=>rfl|true=>have:=sq e k;rw[pq]at this;cases this
def yu{s:ByteArray}:∀(l:List ByteArray),(fC s l).length<=l.length+1
 |[]=>by simp[fC]
 |a::r=>by
  rw[fC];split;.simp
  split;.simp
  have:=yu (s:=s) r;simp;omega
def gW:Nat->dr
 |0=> .stop|n+1=> .struct [.int .i64,.int .i64,.str,.slice 4 56 (gW n)]
def uP:∀(n m:Nat),m<=2*n->(gW n).fA m=true
 |0,m,h=>by
         have:m=0:=oZ
         subst this;rfl
 |n+1,0,_=>rfl|n+1,1,_=>rfl|n+1,m+2,h=>by have:=uP n m oZ;simp only[gW,dr.fA,l8,this,xbA]
def Db{P:Program}{t s:TypeId}(ab:∀y,de P (.struct [.int .i64,.int .i64,.str,y]) t=(de P y s&&true))(ad:∀y,de P (.slice 4 56 y) s=de P y t):∀n,de P (gW n) t=true
 |0=>rfl|n+1=>by rw[gW,ab,ad,Db ab ad n];rfl
theorem abX{P:Program}{t s:TypeId}(ab:∀y,de P (.struct [.int .i64,.int .i64,.str,y]) t=(de P y s&&true))(ad:∀y,de P (.slice 4 56 y) s=de P y t)(ah:decide (t<P.types.size)=true):po P gW t:=⟨λn=>uP n n oZ,Db ab ad,xbg ah,λn=>by cases n<;>rfl⟩
def sr:∀(n:Nat){x:lZ},j5 (gW n) x->∃t:Tm,x=t.cells/\t.Ok
 |0,x,h=>h.elim|n+1,x,h=>by obtain⟨a,b,rfl,o,c,d,rfl,p,e,f,rfl,q,g,i,rfl,r,rfl⟩:=h;obtain⟨op,rfl,m⟩:=yn o;obtain⟨nn,rfl,l⟩:=yn p;obtain⟨s,rfl,aj⟩:=C6 q;obtain⟨es,rfl,_,ah,j⟩:=r;obtain⟨ks,rfl,k⟩:=mQ Tm.cells Tm.Ok es λx u=>sr n (j x u).2;refine⟨.mk op nn s false ks,?_,.mk _ _ _ _ _ m l oZ (by simpa using xbK ah oZ) k⟩;simp[Tm.cells,Tm.fR,bI]
def P6{H:Type}{F:n0}{Fs:List n0}{c:List (DataW H)}{a:lZ}(h:mP (F::Fs) c a):∃x e d b n,c=x::e/\a=d::b/\sm (F n) x d/\uL (F n) d/\mP Fs e b:=by
 cases c with
 |nil=>cases a<;>exact h.elim
 |cons x c=>cases a with|nil=>exact h.elim|cons d a=>obtain⟨⟨n,ab,ad⟩,ai⟩:=h;exact⟨x,c,d,a,n,rfl,rfl,ab,ad,ai⟩
def abY{H:Type}{b:List (DataW H)}{a:lZ}(h:mP [] b a):b=[]/\a=[]:=by cases b<;>cases a<;>first|exact⟨rfl,rfl⟩|exact h.elim
@[simp] theorem aov (a:D):cz 1 (.agg [a])=a.one:=by simp[cz]
@[simp] theorem abZ (a b:D):cz 2 (.agg [a,b])=(a.one&&b.one):=by simp[cz]
@[simp] theorem ab0 (a b c d e:D):cz 5 (.agg [a,b,c,d,e])=(a.one&&(b.one&&(c.one&&(d.one&&e.one)))):=by simp[cz]
@[simp] theorem ab1 (a b c d e f:D):cz 6 (.agg [a,b,c,d,e,f])=(a.one&&(b.one&&(c.one&&(d.one&&(e.one&&f.one))))):=by simp[cz]
@[simp] theorem ab2 (a b c d e f g:D):cz 7 (.agg [a,b,c,d,e,f,g])=(a.one&&(b.one&&(c.one&&(d.one&&(e.one&&(f.one&&g.one)))))):=by simp[cz]
@[simp] theorem ab3 (a b c d e f g h:D):cz 8 (.agg [a,b,c,d,e,f,g,h])=(a.one&&(b.one&&(c.one&&(d.one&&(e.one&&(f.one&&(g.one&&h.one))))))):=by simp[cz]
@[simp] theorem aow {a b c e f:D} {l:lZ}:ae (.agg (a::b::c::e::f::l)) 4=f:=rfl
@[simp] theorem aox {a b c e f g:D} {l:lZ}:ae (.agg (a::b::c::e::f::g::l)) 5=g:=rfl
@[simp] theorem aoy {a b c e f g h:D} {l:lZ}:ae (.agg (a::b::c::e::f::g::h::l)) 6=h:=rfl
@[simp] theorem aoz {a b c e f g h i:D} {l:lZ}:ae (.agg (a::b::c::e::f::g::h::i::l)) 7=i:=rfl
theorem ab4{a:Type}{x y:Bool}{f:D->Option a}:af (cE (aF x) true (some (aF y))) (λv=>af (en (aF x) v (aF false)) f)=f (aF (x&&y)):=by cases x<;>rfl
theorem ab5{a:Type}{x y:Bool}{f:D->Option a}:af (cE (aF x) false (some (aF y))) (λv=>af (en (aF x) (aF true) v) f)=f (aF (x||y)):=by cases x<;>rfl
inductive Fm where
 |mk (op:Int) (e:Tm) (nl:Bool) (az:List Fm)
def T0:Tm:= .mk 0 0 ⟨#[]⟩ true []
def Jo:T0.Ok:= .mk _ _ _ _ _ oZ oZ dZ sZ sZ
theorem Dc:T0.d=D.agg [aa 0,aa 0,aD ⟨#[]⟩,D.val (.slice none 0 0)]:=rfl
namespace Fm
def op:Fm->Int| .mk o _ _ _=>o
def e:Fm->Tm| .mk _ t _ _=>t
def nl:Fm->Bool| .mk _ _ b _=>b
def az:Fm->List Fm| .mk _ _ _ l=>l
mutual
def cells:Fm->lZ
 | .mk o t b ks=>[aa o,aa t.op,aa t.num,aD t.name,bI 4 t.nl (Tm.rows t.az),bI 6 b (rows ks)]
def rows:List Fm->mW
 |[]=>[]|t::r=>cells t::rows r
end
def d(t:Fm):D:= .agg t.cells
mutual
def aS:Fm->Nat
 | .mk _ t _ ks=>2+t.aS+cY ks
def cY:List Fm->Nat
 |[]=>0|t::r=>1+aS t+cY r
end
def fR:∀l:List Fm,rows l=l.map cells
 |[]=>rfl|t::r=>by simp[rows,fR r]
@[simp] theorem qG {l:List Fm}:(rows l).length=l.length:=by simp[fR]
def C7{l:List Fm}{i:Nat}{t:Fm}(h:l[i]?=some t):(rows l)[i]?=some t.cells:=by simp[fR,h]
def ep{l:List Fm}{b:Bool}{i:Nat}{t:Fm}(h:l[i]?=some t):ba 6 (bI 6 b (rows l)) (aa (i:Int))=some t.cells:=by rw[Jg,C7 h]
def so:∀l:List Fm,l.length<=cY l
 |[]=>xaR 0|t::r=>by simp only[cY,xal];have:=so r;omega
def yo:∀{l:List Fm}{t:Fm},t∈l->aS t+1<=cY l
 |a::r,t,h=>by
  simp only[cY];rcases xao.1 h with rfl|h
  .omega
  have:=yo h;omega
theorem n3(t:Fm):t.aS=2+t.e.aS+cY t.az:=by cases t;rfl
def fB{t k:Fm}(h:k∈t.az):k.aS+3<=t.aS:=by have:=yo h;have:=n3 t;omega
def h8{t:Fm}:t.az.length+2<=t.aS:=by have:=so t.az;have:=n3 t;omega
def pr{t:Fm}:t.e.aS+2<=t.aS:=by have:=n3 t;omega
def ind{P:Fm->Prop}(h:∀t:Fm,(∀k∈t.az,P k)->P t)(t:Fm):P t:=by
 have:∀(n:Nat)(t:Fm),t.aS<=n->P t:=by
  intro n
  induction n with
  |zero=>intro t a;cases t;simp[aS]at a
  |succ n ih=>intro t a;exact h t λk b=>ih k (by have:=fB b;omega)
 exact this _ t (xaR _)
inductive Ok:Fm->Prop where
 |mk (o:Int) (t:Tm) (b:Bool) (ks:List Fm) (yp:-9223372036854775808<=o/\o<=9223372036854775807) (aoA:t.Ok) (ah:ks.length*88<=140737488355328) (Hl:∀k∈ks,Ok k):Ok (.mk o t b ks)
def Ok.di{t k:Fm}(h:Ok t)(a:k∈t.az):Ok k:=by cases h with|mk o n s b ks d c aj=>exact aj k a
def Ok.len{t:Fm}(h:Ok t):t.az.length*88<=140737488355328:=by cases h;assumption
def Ok.e{t:Fm}(h:Ok t):t.e.Ok:=by cases h;assumption
def Ok.op{t:Fm}(h:Ok t):-9223372036854775808<=t.op/\t.op<=9223372036854775807:=by cases h;assumption
theorem h9(t:Fm):t.cells=[aa t.op,aa t.e.op,aa t.e.num,aD t.e.name,bI 4 t.e.nl (Tm.rows t.e.az),bI 6 t.nl (rows t.az)]:=by cases t;rfl
theorem hj(t:Fm):t.d= .agg [aa t.op,aa t.e.op,aa t.e.num,aD t.e.name,bI 4 t.e.nl (Tm.rows t.e.az),bI 6 t.nl (rows t.az)]:=by cases t;rfl
@[simp] theorem jG (t:Fm):cz 6 t.d=true:=by rw[hj];simp
@[simp] theorem lr (t:Fm):ae t.d 0=aa t.op:=by rw[hj];rfl
@[simp] theorem n1 (t:Fm):ae t.d 1=aa t.e.op:=by rw[hj];rfl
@[simp] theorem n2 (t:Fm):ae t.d 2=aa t.e.num:=by rw[hj];rfl
@[simp] theorem mR (t:Fm):ae t.d 3=aD t.e.name:=by rw[hj];rfl
@[simp] theorem ab6 (t:Fm):ae t.d 4=bI 4 t.e.nl (Tm.rows t.e.az):=by rw[hj];rfl
@[simp] theorem ab7 (t:Fm):ae t.d 5=bI 6 t.nl (rows t.az):=by rw[hj];rfl
@[simp] theorem yq (t:Fm):D.agg [aa t.op,aa t.e.op,aa t.e.num,aD t.e.name,bI 4 t.e.nl (Tm.rows t.e.az),bI 6 t.nl (rows t.az)]=t.d:=(hj t).symm
@[simp high] theorem Jh (t:Fm):aQ true 6 0 t.cells=some t.d:=by rw[hj,h9];rfl
end Fm
attribute [go_sem] cL l5 iI l7 mO ab4 ab5 CY CZ lq yl uI uJ Jb PE abu uK l6 yk I5 I6 abg abh abi abJ abj abk abl abm abn abK abo I7 xbF xct abd abp PL abq abr PC xbA xbm Bool.and_self xaC xaG Bool.not_true xcc xaq PN abO abP Bool.or_true Bool.true_or abZ abQ abR ab0 ab1 ab2 ab3 PO PQ PR abf abe Tm.jG Tm.lr Tm.n1 Tm.n2 Tm.mR Tm.yq Tm.Jh Tm.qG Fm.jG Fm.lr Fm.n1 Fm.n2 Fm.mR Fm.ab6 Fm.ab7 Fm.yq Fm.Jh Fm.qG
def hF:Nat->dr
 |0=> .stop|n+1=> .struct [.int .i64,gW (n+1),.slice 6 88 (hF n)]
def Jp:∀(n m:Nat),m<=2*n->(hF n).fA m=true
 |0,m,h=>by
         have:m=0:=oZ
         subst this;rfl
 |n+1,0,_=>rfl|n+1,1,_=>by simp[hF,dr.fA,l8]|n+1,m+2,h=>by have:=Jp n m oZ;have ad:=uP (n+1) (m+1) oZ;simp only[hF,dr.fA,l8,this,ad,xbA]
def P7{P:Program}{t s r q:TypeId}(ab:∀y z,de P (.struct [.int .i64,y,z]) t=(de P y r&&(de P z s&&true)))(ad:∀y,de P (.slice 6 88 y) s=de P y t)(ai:∀n,de P (gW n) r=true):∀n,de P (hF n) t=true
 |0=>rfl|n+1=>by rw[hF,ab,ad,P7 (q:=q) ab ad ai n,ai];rfl
theorem P8{P:Program}{t s r q:TypeId}(ab:∀y z,de P (.struct [.int .i64,y,z]) t=(de P y r&&(de P z s&&true)))(ad:∀y,de P (.slice 6 88 y) s=de P y t) (ai:∀y,de P (.struct [.int .i64,.int .i64,.str,y]) r=(de P y q&&true)) (a:∀y,de P (.slice 4 56 y) q=de P y r) (ah:decide (t<P.types.size)=true):po P hF t:=⟨λn=>Jp n n oZ,P7 (q:=q) ab ad (Db ai a),xbg ah,λn=>by cases n<;>rfl⟩
def Jq:∀(n:Nat){x:lZ},j5 (hF n) x->∃t:Fm,x=t.cells/\t.Ok
 |0,x,h=>h.elim|n+1,x,h=>by obtain⟨a,b,rfl,k,c,d,rfl,l,g,i,rfl,m,rfl⟩:=h;obtain⟨op,rfl,j⟩:=yn k;obtain⟨t,rfl,o⟩:=sr (n+1) l;obtain⟨es,rfl,_,ah,e⟩:=m;obtain⟨ks,rfl,f⟩:=mQ Fm.cells Fm.Ok es λx p=>Jq n (e x p).2;refine⟨.mk op t false ks,?_,.mk _ _ _ _ j o (by simpa using xbK ah oZ) f⟩;simp[Fm.cells,Fm.fR,bI,Tm.h9]
theorem ab8{n:Nat}{d:D}(h:uL (hF n) d):∃t:Fm,d=t.d/\t.Ok:=by cases n with|zero=>exact(h:False).elim|succ n=>obtain⟨b,rfl,h⟩:=h;obtain⟨t,rfl,a⟩:=Jq (n+1) h;exact⟨t,rfl,a⟩
structure bd where
 name:ByteArray
 e:Tm
def bd.cells(d:bd):lZ:=[aD d.name,aa d.e.op,aa d.e.num,aD d.e.name,bI 4 d.e.nl (Tm.rows d.e.az)]
def bd.d(d:bd):D:= .agg d.cells
def aA(l:List bd):D:= .aw 5 (l.map bd.cells)
def bd.Ok(d:bd):Prop:=d.name.size<=140737488351232/\d.e.Ok
section
variable{l:List bd}{i:Nat}{d:bd}
def dV(h:l[i]?=some d):ba 5 (aA l) (aa (i:Int))=some d.cells:=by simp[aA,h]
def n4(l:List bd):dN (aA l)=some (aa l.length):=by simp[aA]
attribute [go_sem] n4
@[simp] theorem bd.ab9 (d:bd):aQ true 5 0 d.cells=some d.d:=rfl
@[simp] theorem bd.ys (d:bd):aQ true 4 1 d.cells=some d.e.d:=by rw[Tm.hj];rfl
attribute [go_sem] bd.ys
@[simp] theorem bd.yr (d:bd):aQ false 1 0 d.cells=some (aD d.name):=rfl
attribute [go_sem] bd.yr
@[simp] theorem bd.agg (d:bd):cz 5 d.d=true:=by unfold bd.d bd.cells;simp
@[simp] theorem bd.bK (d:bd):ae d.d 0=aD d.name:=rfl
@[simp] theorem bd.c1 (d:bd):ae d.d 1=aa d.e.op:=rfl
@[simp] theorem bd.c2 (d:bd):ae d.d 2=aa d.e.num:=rfl
@[simp] theorem bd.b6 (d:bd):ae d.d 3=aD d.e.name:=rfl
@[simp] theorem bd.e2 (d:bd):ae d.d 4=bI 4 d.e.nl (Tm.rows d.e.az):=rfl
end
def cw(l:List bd)(x:ByteArray):Option Nat:=l.findIdx? (λd=>decide (d.name=x))
def Jr{l:List bd}{x:ByteArray}{i:Nat}(h:cw l x=some i):∃d,l[i]?=some d/\d.name=x/\i<l.length:=by obtain⟨ab,ad,_⟩:=xbv.1 h;exact⟨_,xaa ab,by simpa using ad,ab⟩
def cp(l:lX):D:= .aw 1 (l.map λ(i:Nat)=>[aa (i:Int)])
def ps{l:lX}{i k:Nat}(h:l[i]?=some k):ba 1 (cp l) (aa (i:Int))=some [aa (k:Int)]:=by simp[cp,h]
def n5(l:lX):dN (cp l)=some (aa l.length):=by simp[cp]
def fF(l:mZ):D:= .aw 1 (l.map λx=>[cp x])
def aca{l:mZ}{i:Nat}{k:lX}(h:l[i]?=some k):ba 1 (fF l) (aa (i:Int))=some [cp k]:=by simp[fF,h]
def dW(M:List (Value×D))(S:lX):Prop:=kS M/\∀i:Nat,hE M (i:Int)=if i∈S then some (aF true)else none
theorem dW.nil:dW [] []:=⟨by(intro e a;cases a),λi=>rfl⟩
def dW.look{M:List (Value×D)}{S:lX}(h:dW M S){i:Nat}{z:Value}:gT (.int .i64) (.bool false) false M (aa (i:Int))=some (aF (decide (i∈S))):=by rw[Jk h.1,h.2 i];by_cases ag:i∈S<;>simp[ag,my]
def dW.put{M:List (Value×D)}{S:lX}(h:dW M S)(i:Nat):∃a,l0 (.int .i64) M (aa (i:Int)) (aF true)=some a/\dW a (if i∈S then S else S++[i]):=by
 obtain⟨a,ab,ad,ai,_⟩:=PY h.1 (i:Int) (aF true);refine⟨a,ab,ad,λj=>?_⟩;rw[ai,h.2];by_cases b:j=i;.subst b;by_cases ag:j∈S<;>simp[ag]
 have:¬((j:Int)=(i:Int)):=oZ
 by_cases ag:i∈S<;>simp[this,ag,b]
def dW.mem{M:List (Value×D)}{S T:lX}(h:dW M S)(a:∀x,x∈S↔x∈T):dW M T:=⟨h.1,λi=>by rw[h.2];simp only[a i]⟩
def qH(n:Nat):dr:= .slice 5 72 (.struct [.str,gW n])
def P9(n:Nat):∀m,m<=n->(qH n).fA m=true
 |0,_=>rfl|1,_=>by simp[qH,dr.fA]|m+2,h=>by have:=uP n m oZ;have:=uP n (m+1) oZ;have ad:dr.fA m .str=true:=sn m .str rfl;simp only[qH,dr.fA,l8, *,xbA]
theorem acb{P:Program}{t r q:TypeId}(ab:∀y,de P (.slice 5 72 (.struct [.str,y])) t=(de P y r&&true)) (ai:∀y,de P (.struct [.int .i64,.int .i64,.str,y]) r=(de P y q&&true)) (a:∀y,de P (.slice 4 56 y) q=de P y r) (ah:decide (t<P.types.size)=true):po P qH t:=⟨λn=>P9 n n (xaR _),λn=>by rw[qH,ab,Db ai a n];rfl,xbg ah,λn=>rfl⟩
def Qa{n:Nat}{x:lZ}(h:j5 (.struct [.str,gW n]) x):∃d:bd,x=d.cells/\d.Ok:=by obtain⟨a,b,rfl,f,c,e,rfl,g,rfl⟩:=h;obtain⟨s,rfl,aj⟩:=C6 f;obtain⟨t,rfl,i⟩:=sr n g;exact⟨⟨s,t⟩,by simp[bd.cells,Tm.h9],aj,i⟩
end Go.Am
