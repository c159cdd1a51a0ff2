/- From what a call is handed to data, and from an answer to the row. No condition. -/
import Derived.Test.YtjonbfbkkkcjgaaGreatDoorEngC
import Derived.ProofKit
import Derived.OpenShut
import Derived.KernelRfl
import Derived.Deep.DeepHandedRow
import Derived.Lib.LaidTab
import Derived.Test.YtjonbfbkkkcjgaaGreatDoorEngS
set_option linter.all false
set_option linter.unnecessarySimpa false
namespace Go.Am
open Go.ChangeShapes Go.WideShapes Go.ChangeAt Go.RowKit
inductive c4 where
 |bool
 |int (k:IntKind)
 |str
 |slice (k bytes:Nat) (e:c4)
 |arr (n:Nat) (e:c4)
 |struct (al1:List c4)
 |stop
mutual
def iK:c4->lZ->Prop
 | .bool,c=>∃b,c=[aD b]| .int k,c=>∃n,c=[.val (.int k n)]/\(Lit.int k n).wf=true| .str,c=>∃s,c=[aA s]/\s.size<=140737488351232| .slice k g e,c=>∃es:mW,c=[.aw k es]/\es.length<=maxLen/\es.length*g<=140737488351232/\∀x∈es,x.length=k/\iK e x| .arr n e,c=>∃d:mW,c=d.flatten/\d.length=n/\∀x∈d,iK e x| .struct h,c=>BN h c| .stop,_=>False
def BN:List c4->lZ->Prop
 |[],c=>c=[]|f::h,c=>∃a b,c=a++b/\iK f a/\BN h b
end
mutual
def rd{H:Type}:c4->DataW H->oY
 | .bool,.lit (.bool b)=>some [aD b]| .int _,.lit (.int k n)=>some [.val (.int k n)]| .str,.lit (.string l)=>some [aA ⟨l.toArray⟩]| .slice k _ _,.nil=>some [.aw k []]| .slice k _ e,.slice es _=>(es.mapM (rd e)).map λh=>[.aw k h]| .arr _ e,.agg es=>(es.mapM (rd e)).map List.flatten| .struct c,.agg es=>e7 c es|_,_=>none
def e7{H:Type}:List c4->List (DataW H)->oY
 |[],[]=>some []|f::c,d::g=>(rd f d).bind λa=>(e7 c g).map (a++·)|_,_=>none
end
mutual
def c5(P:Program):c4->TypeId->Bool
 | .bool,t=>match P.underlying t with|some .bool=>true|_=>false
 | .int k,t=>match P.underlying t with|some (.int g)=>decide (k=g)|_=>false
 | .str,t=>match P.underlying t with|some .string=>true|_=>false
 | .stop,_=>true| .slice k b e,t=>match P.underlying t with|some (.slice a)=>decide (P.cellsOf a=k)&&decide (0<k)&&decide (P.bytesOf a=b)&&c5 P e a|_=>false
 | .arr n e,t=>match P.underlying t with|some (.array h a)=>decide (n=h)&&decide (P.cellsOf t=n*P.cellsOf a)&&c5 P e a|_=>false
 | .struct c,t=>match P.underlying t with|some (.struct d)=>rA P c d.toList 0 (P.cellsOf t)|_=>false
def rA(P:Program):List c4->List Field->Nat->Nat->Bool
 |[],[],off,n=>decide (off=n)|f::c,x::xs,off,n=>decide (x.offset=off)&&c5 P f x.type&&rA P c xs (off+P.cellsOf x.type) n|_,_,_,_=>false
end
mutual
def c4.e8:Nat->c4->Bool
 |0,_=>true|_+1,.stop=>false|n+1,.slice _ _ e=>e.e8 n|n+1,.arr _ e=>e.e8 n|n+1,.struct a=>lr n a|_+1,_=>true
def lr:Nat->List c4->Bool
 |_,[]=>true|n,f::a=>f.e8 n&&lr n a
end
def Rel(m:Mem):lZ->List Value->Prop
 |[],[]=>True|d::a,v::vs=>D.one d=true/\bH m d v/\Rel m a vs|_,_=>False
def Rel.len{m:Mem}:∀{a:lZ}{vs:List Value},Rel m a vs->vs.length=a.length
 |[],[],_=>rfl|_::_,_::_,h=>by simp[Rel.len h.2.2]|[],_::_,h=>h.elim|_::_,[],h=>h.elim
def Rel.at{m:Mem}:∀{b:lZ}{vs:List Value},Rel m b vs->∀(i:Nat)(d:D),b[i]?=some d->∃v,vs[i]?=some v/\D.one d=true/\bH m d v
 |[],[],_,i,d,h=>by simp at h|x::b,v::vs,h,0,d,a=>by simp at a;subst a;exact⟨v,rfl,h.1,h.2.1⟩|_::_,_::_,h,i+1,d,a=>by simpa using Rel.at h.2.2 i d (by simpa using a)|[],_::_,h,_,_,_=>h.elim|_::_,[],h,_,_,_=>h.elim
def Rel.append{m:Mem}:∀{d:lZ}{vs:List Value}{a:lZ}{b:List Value},Rel m d vs->Rel m a b->Rel m (d++a) (vs++b)
 |[],[],_,_,_,c=>c|_::_,_::_,_,_,h,c=>⟨h.1,h.2.1,Rel.append h.2.2 c⟩|[],_::_,_,_,h,_=>h.elim|_::_,[],_,_,h,_=>h.elim
def Rel.one{m:Mem}:∀{a:lZ}{vs:List Value},Rel m a vs->a.all D.one=true
 |[],[],_=>rfl|_::_,_::_,h=>by simp only[xba,h.1,Rel.one h.2.2,Bool.and_self]|[],_::_,h=>h.elim|_::_,[],h=>h.elim
def Hs{c:Type}:∀(n:Nat)(Q:Nat->c->Prop),(∀i,i<n->∃y,Q i y)->∃a:List c,a.length=n/\∀(i:Nat)(y:c),a[i]?=some y->Q i y
 |0,_,_=>⟨[],rfl,by intro i y h;simp at h⟩
 |n+1,Q,h=>by obtain⟨a,ab,ad⟩:=Hs n (λi=>Q (i+1)) λi ag=>h (i+1) oZ;obtain⟨y,d⟩:=h 0 oZ;refine⟨y::a,by simp[ab],?_⟩;intro i z b;cases i with|zero=>simp at b;subst b;exact d|succ i=>exact ad i z (by simpa using b)
def Ht{a b:Type}(f:a->Option b):∀(l:List a)(r:List b),r.length=l.length->(∀(i:Nat)(x:a)(y:b),l[i]?=some x->r[i]?=some y->f x=some y)->l.mapM f=some r
 |[],[],_,_=>rfl|x::l,y::r,ah,h=>by have ak:=h 0 x y rfl rfl;have ih:=Ht f l r (by simpa using ah) λi x y c d=>h (i+1) x y (by simpa using c) (by simpa using d);simp[List.mapM_cons,ak,ih]|[],_::_,h,_=>by simp at h|_::_,[],h,_=>by simp at h
section
variable{H:Type}{enc:TypeId×Value->H}{P:Program}{w:World}{base:Nat}{spare:Nat->Bool}{held:Bool}
def pieces{m:Mem}{c:Nat}{cs:List Value}:∀(a:mW) (o:Nat),(∀(i:Nat)(x:lZ),a[i]?=some x->Rel m x ((cs.drop (o+i*c)).take c))->(o+a.length*c=cs.length)->Rel m a.flatten (cs.drop o)
 |[],o,_,ah=>by have:cs.drop o=[]:=xcv (by simp at ah;omega);rw[this];trivial
 |x::r,o,h,ah=>by
  have b:o+c+r.length*c=cs.length:=by simp only[xal,xaY]at ah;omega
  have ak:=h 0 x rfl;have ih:=pieces (m:=m) (cs:=cs) (c:=c) r (o+c) (λi x d=>by have:=h (i+1) x (by simpa using d);rw[show o+c+i*c=o+(i+1)*c by rw[xaY];omega];exact this) b
  have e:cs.drop o=(cs.drop o).take c++cs.drop (o+c):=by
   conv=>lhs;rw[<-xbI c (cs.drop o)]
   rw[List.drop_drop]
  rw[e,List.flatten_cons];refine Rel.append ?_ ih;simpa using ak
def Hu{H:Type}{P:Program}{e:TypeId}:∀{l:List (DataW H)} {x:DataW H} {y:Nat},x∈l->y∈x.weights P e->y∈DataW.weightsAll P e l
 |a::r,x,y,b,c=>by
  simp only[DataW.weightsAll,xar];rcases xan.1 b with rfl|b
  .exact .inl c
  exact .inr (Hu b c)
def Nv(m:Mem)(gk:∀b o,w.heap[b]?=some o->m b=some o):∀(n:Nat)(ty:c4)(t:TypeId)(cs:List Value)(x:DataW H×List MemPlace),c5 P ty t=true->ty.e8 n=true->(x.1.weights P t).all (·<=reachBytes)=true->DataW.trod enc P w base spare held n t cs=some x-> ∃l,rd ty x.1=some l/\iK ty l/\Rel m l cs:=by
 intro n
 induction n with
 |zero=>intro ty t cs x _ _ _ h;simp[DataW.trod]at h
 |succ n ih=>
  intro ty t cs x d E B h;cases ty with
  |stop=>simp[c4.e8]at E
  |bool=>
   simp only[c5]at d;split at d;.obtain⟨b,rfl,rfl⟩:=DataW.trod_bool ‹_› h;exact⟨[aD b],rfl,⟨b,rfl⟩,rfl,.val _,trivial⟩
   cases d
  |int k=>
   simp only[c5]at d;split at d;.have:=xbe d;subst this;obtain⟨z,rfl,rfl,dD⟩:=DataW.trod_int ‹_› h;exact⟨[.val (.int k z)],rfl,⟨z,rfl,dD⟩,rfl,.val _,trivial⟩
   cases d
  |str=>
   simp only[c5]at d;split at d
   .obtain⟨s,rfl,rfl,dD⟩:=DataW.trod_string ‹_› h;refine⟨[aA s],?_,⟨s,rfl,?_⟩,rfl,.val _,trivial⟩;.simp[rd]
    simp only[DataW.weights,xba,xce,xby,xaC]at B;simp only[reachBytes]at B;simpa using B
   cases d
  |slice k eQ e=>
   simp only[c5]at d;split at d
   .rename_i C hu;simp only[xam,xaC]at d;obtain⟨⟨⟨cz,cL⟩,b5⟩,bX⟩:=d;subst cz;subst b5;simp only[c4.e8]at E;rcases DataW.trod_slice hu h with⟨rfl,rfl⟩|⟨a,len,cap,A,rest,dS,X,rfl,rfl,hr,ga,de,eP,r,_,_⟩
    .exact⟨[.aw _ []],rfl,⟨[],rfl,by simp,by simp,by simp⟩,rfl,.hq _ _ _,trivial⟩
    cases X;simp only[DataW.weights,hu,xba,List.all_append,xam,xaT,reachBytes]at B;obtain⟨F,cy,_⟩:=B;have each:∀i,i<len->∃l,∃x,A[i]?=some x/\rd e x.1=some l/\iK e l/\∃c,w.cells? base (a.add (i*P.cellsOf C)) (P.cellsOf C)=some c/\Rel m l c:=by
     intro i ag;have ab:=r i ag;rw[xaa oZ]at ab;obtain⟨c,ad,ai⟩:=xaS.1 ab;have R:((A[i]'oZ).1.weights P C).all (·<=reachBytes)=true:=by refine xax.2 λy S=>xax.1 cy y ?_;exact Hu (xaK.2 ⟨_,xaX _,rfl⟩) S
     obtain⟨l,g1,g2,g3⟩:=ih e C c _ bX E R ai;exact⟨l,_,xaa oZ,g1,g2,c,ad,g3⟩
    obtain⟨es,ah,u⟩:=Hs len _ each;have I:∀(i:Nat)(l:lZ),es[i]?=some l->l.length=P.cellsOf C:=by intro i l ag;obtain⟨_,_,_,_,c,U,V⟩:=u i l ag;rw[<-V.len];exact(World.cells?_some U).2.1
    refine⟨[.aw (P.cellsOf C) es],?_,⟨es,rfl,by omega,?_,?_⟩,rfl,?_,trivial⟩
    .simp only[rd];rw[Ht (rd e) (A.map (·.1)) es uZ];.rfl
     intro i x y G S;obtain⟨z,ab,ad,_⟩:=u i y S;simp[ab]at G;rw[<-G];exact ad
    .have:es.length<=A.length+rest.length:=oZ
     exact xbK (xaz _ this) (xbe F)
    .intro x G;obtain⟨i,ag,rfl⟩:=List.getElem_of_mem G;obtain⟨_,_,_,g2,_⟩:=u i _ (xaa ag);exact⟨I i _ (xaa ag),g2⟩
    by_cases ak:len=0;.subst ak;have:es=[]:=xaO ah;subst this;exact .hq _ _ _
    have Y:∀(i:Nat)(l:lZ),es[i]?=some l->∀j,j<P.cellsOf C->w.cell? ((a.add (i*P.cellsOf C)).add j)≠none:=by intro i l ag j N;obtain⟨_,_,_,_,c,U,V⟩:=u i l ag;obtain⟨_,fK,cU⟩:=World.cells?_some U;rw[cU j N,xaa oZ];simp
    have p:=Y 0 _ (xaa oZ) 0 cL;simp only[Nat.zero_mul,Addr.add,xaE]at p;obtain⟨b,off,spot⟩:=a;unfold World.cell? at p;cases aY:w.heap[b]? with
    |none=>simp[aY]at p
    |some o=>
     cases o with
     |cells vs T fw=>
      simp only[aY]at p;have Q:spot=none:=by cases spot with|none=>rfl|some s=>simp at p
      subst Q;have cellAt:∀q,w.cell? ⟨b,q,none⟩=vs[q]?:=by intro q;simp[World.cell?,aY]
      have O:∀q,(⟨b,off,none⟩:Addr).add q=⟨b,off+q,none⟩:=by intro q;unfold Addr.add;split<;>simp_all
      have K:∀o q,(⟨b,o,none⟩:Addr).add q=⟨b,o+q,none⟩:=by intro o q;unfold Addr.add;split<;>simp_all
      have key:∀(i:Nat)(l:lZ)(j:Nat)(c:D),es[i]?=some l->l[j]?=some c->∃v,vs[off+i*P.cellsOf C+j]?=some v/\bH m c v:=by
       intro i l j c ag N;obtain⟨_,_,_,_,c8,U,V⟩:=u i l ag;obtain⟨_,fK,cU⟩:=World.cells?_some U;obtain⟨v,c7,_,dm⟩:=V.at j c N;have cv:j<P.cellsOf C:=by rw[<-I i l ag];exact(lV.1 N).1
       refine⟨v,?_,dm⟩;rw[<-c7,<-cU j cv,O,K,cellAt]
      rw[<-ah];refine .aw _ es b off cap vs T fw (gk _ _ aY) ?_ oZ (λi j=>(vs[off+i*P.cellsOf C+j]?).getD undef) ?_ ?_;.intro x G;obtain⟨i,ag,rfl⟩:=List.getElem_of_mem G;obtain⟨_,_,_,_,_,_,V⟩:=u i _ (xaa ag);exact⟨I i _ (xaa ag),V.one⟩
      .intro i l j c ag N;obtain⟨v,ab,_⟩:=key i l j c ag N;simp[ab]
      intro i l j c ag N;obtain⟨v,ab,ad⟩:=key i l j c ag N;simpa[ab]using ad
     |_=>simp[aY]at p
   cases d
  |arr k e=>
   simp only[c5]at d;split at d
   .rename_i jx C hu;simp only[xam,xaC]at d;obtain⟨⟨cz,U⟩,bX⟩:=d;subst cz;obtain⟨bY,dS,X,rfl,W,Z,r⟩:=DataW.trod_array hu h;cases X;simp only[c4.e8]at E;simp only[DataW.weights,hu]at B;have each:∀i,i<k->∃l,∃x,bY[i]?=some x/\rd e x.1=some l/\iK e l/\Rel m l ((cs.drop (i*P.cellsOf C)).take (P.cellsOf C)):=by
     intro i ag;have ab:=r i ag;rw[xaa oZ]at ab;have R:((bY[i]'oZ).1.weights P C).all (·<=reachBytes)=true:=by refine xax.2 λy S=>xax.1 B y ?_;exact Hu (xaK.2 ⟨_,xaX _,rfl⟩) S
     obtain⟨l,g1,g2,g3⟩:=ih e C _ _ bX E R ab;exact⟨l,_,xaa oZ,g1,g2,g3⟩
    obtain⟨es,ah,u⟩:=Hs k _ each;refine⟨es.flatten,?_,⟨es,rfl,ah,?_⟩,?_⟩
    .simp only[rd];rw[Ht (rd e) (bY.map (·.1)) es uZ];.rfl
     intro i x y G S;obtain⟨z,ab,ad,_⟩:=u i y S;simp[ab]at G;rw[<-G];exact ad
    .intro x G;obtain⟨i,ag,rfl⟩:=List.getElem_of_mem G;obtain⟨_,_,_,g2,_⟩:=u i _ (xaa ag);exact g2
    have:=pieces (m:=m) (c:=P.cellsOf C) (cs:=cs) es 0 (λi x G=>by obtain⟨_,_,_,_,g3⟩:=u i x G;simpa using g3) (by rw[ah];omega);simpa using this
   cases d
  |struct L=>
   simp only[c5]at d;split at d
   .rename_i bU hu;obtain⟨bY,dS,X,rfl,W,Z,r⟩:=DataW.trod_struct hu h;cases X;simp only[c4.e8]at E;simp only[DataW.weights,hu]at B;have go:∀(L:List c4)(gs:List Field)(J:List (DataW H×List MemPlace)) (off:Nat),rA P L gs off (P.cellsOf t)=true->lr n L=true->(DataW.weightsEach P (gs.map (·.type)) (J.map (·.1))).all (·<=reachBytes)=true->J.length=gs.length->(∀(i:Nat)(f:Field),gs[i]?=some f->DataW.trod enc P w base spare held n f.type ((cs.drop f.offset).take (P.cellsOf f.type))=J[i]?)-> ∃l,e7 L (J.map (·.1))=some l/\BN L l/\Rel m l (cs.drop off):=by
     intro L
     induction L with
     |nil=>intro gs J off ab M F ad ai;cases gs with|nil=>simp only[rA,xaC]at ab;have:J=[]:=xaO ad;subst this;refine⟨[],rfl,rfl,?_⟩;rw[xcv oZ];trivial|cons _ _=>simp[rA]at ab
     |cons f L di=>
      intro gs J off ab M F ad ai;cases gs with
      |nil=>simp[rA]at ab
      |cons g gs=>
       cases J with
       |nil=>simp at ad
       |cons y J=>
        simp only[rA,xam,xaC]at ab;obtain⟨⟨eW,eO⟩,eV⟩:=ab;simp only[lr,xam]at M;simp only[xav,DataW.weightsEach,List.all_append,xam]at F;obtain⟨a,aE,a2,a3⟩:=ih f g.type _ y eO M.1 F.1 (ai 0 g rfl);obtain⟨b,dA,eI,dN⟩:=di gs J _ eV M.2 F.2 (by simpa using ad) (λi f b6=>by simpa using ai (i+1) f (by simpa using b6));refine⟨a++b,by simp[e7,aE,dA],⟨a,b,rfl,a2,eI⟩,?_⟩;have e:cs.drop off=(cs.drop off).take (P.cellsOf g.type)++cs.drop (off+P.cellsOf g.type):=by
         conv=>lhs;rw[<-xbI (P.cellsOf g.type) (cs.drop off)]
         rw[List.drop_drop]
        rw[e];refine Rel.append ?_ dN;rw[<-eW];exact a3
    obtain⟨l,g1,g2,g3⟩:=go L bU.toList bY 0 d E B (by simpa using Z) (λi f b6=>r i f (by simpa using b6));exact⟨l,g1,g2,by simpa using g3⟩
   cases d
end
open Go.ChangeShapes Go.WideShapes Go.ChangeAt Go.RowKit
def tD:c4->D->Prop
 | .struct b,d=>∃a,d= .agg a/\BN b a| .arr _ _,_=>False|ty,d=>iK ty [d]
def tE{H:Type}(ty:c4)(x:DataW H)(d:D):Prop:=match ty with| .struct b=>∃a,d= .agg a/\rd (.struct b) x=some a|ty=>rd ty x=some [d]
abbrev mb:=Nat->c4
def w4(t:c4):mb:=λ_=>t
mutual
def nq:c4->Bool
 | .stop=>false| .slice _ _ e=>nq e| .arr _ e=>nq e| .struct a=>BO a|_=>true
def BO:List c4->Bool
 |[]=>true|f::a=>nq f&&BO a
end
mutual
def p4:∀(n:Nat)(t:c4),nq t=true->t.e8 n=true
 |0,t,_=>by cases t<;>rfl
 |n+1,.stop,h=>by simp[nq]at h|n+1,.slice _ _ e,h=>by rw[nq]at h;rw[c4.e8];exact p4 n e h|n+1,.arr _ e,h=>by rw[nq]at h;rw[c4.e8];exact p4 n e h|n+1,.struct a,h=>by rw[nq]at h;rw[c4.e8];exact Nw n a h|n+1,.bool,_=>rfl|n+1,.int _,_=>rfl|n+1,.str,_=>rfl
def Nw:∀(n:Nat)(t:List c4),BO t=true->lr n t=true
 |n,[],_=>by cases n<;>rfl
 |n,f::a,h=>by rw[BO,xam]at h;rw[lr,p4 n f h.1,Nw n a h.2];rfl
end
def Nx:c4->Bool
 | .arr _ _=>false|_=>true
structure nr(P:Program)(F:mb)(t:TypeId):Prop where
 deep:∀n,(F n).e8 n=true
 ok:∀n,c5 P (F n) t=true
 lt:t<P.types.size
 ZH:∀n,Nx (F n)=true
def Ny{P:Program}{y:c4}{t:TypeId}(h:(nq y&&Nx y&&c5 P y t&&decide (t<P.types.size))=true):nr P (w4 y) t:=by simp only[xam,xaC]at h;exact⟨λn=>p4 n y h.1.1.1,λ_=>h.1.2,h.2,λ_=>h.1.1.2⟩
def tF(P:Program):List mb->List TypeId->Prop
 |[],[]=>True|F::Fs,t::ts=>nr P F t/\tF P Fs ts|_,_=>False
def tF.lt{P:Program}:∀{Fs:List mb}{ts:List TypeId},tF P Fs ts->∀t∈ts,t<P.types.size
 |[],[],_,t,h=>by simp at h
 |F::Fs,u::ts,h,t,a=>by
  rcases xan.1 a with rfl|a;.exact h.1.lt
  exact tF.lt h.2 t a
 |[],_::_,h,_,_=>h.elim|_::_,[],h,_,_=>h.elim
def mc{H:Type}:List mb->List (DataW H)->lZ->Prop
 |[],[],[]=>True|F::Fs,x::xs,d::a=>(∃n,tE (F n) x d/\tD (F n) d)/\mc Fs xs a|_,_,_=>False
section
variable{H:Type}{enc:TypeId×Value->H}{P:Program}{w:World}
def BP{m:Mem}{a:lZ}{v:Value}(h:Rel m a [v]):∃d,a=[d]/\bH m d v:=by cases a with|nil=>exact h.elim|cons d r=>cases r with|nil=>exact⟨d,rfl,h.2.1⟩|cons _ _=>exact h.2.2.elim
def ZI{m:Mem}{a:lZ}{cs:Array Value}(h:Rel m a cs.toList):bH m (.agg a) (.agg cs):=by
 refine .agg _ _ (by simpa using h.len) ?_;intro i c v b d;obtain⟨u,ab,_,ad⟩:=h.at i c b;have:cs[i]?=some u:=by simpa using ab
 rw[d]at this;cases this;exact ad
def ZJ(m:Mem)(A:∀(b:Nat)(o:Obj),w.heap[b]?=some o->m b=some o){r:Reach}{y base:Nat}{sp:Nat->Bool}{held:Bool}{F:mb}{t:TypeId}{v:Value}{x:DataW H}{B:List MemPlace} (j:nr P F t) (s:(x.weights P t).all (·<=reachBytes)=true) (g:Value.okWide P w r y t v) (h:DataW.Trod enc P w base sp held t v x B):∃d n,tE (F n) x d/\tD (F n) d/\bH m d v:=by
 obtain⟨n,u⟩:=h;have f:=j.ok n;have q:=j.ZH n;obtain⟨p,ab,ad,ai⟩:=Nv m A n (F n) t _ _ f (j.deep n) s u
 suffices h:∃d,tE (F n) x d/\tD (F n) d/\bH m d v from let⟨d,a⟩:=h;⟨d,n,a⟩
 clear j u;generalize F n=ty at*;cases ty with
 |bool=>
  simp only[c5]at f;split at f;.obtain⟨b,rfl⟩:=okWide_bool ‹_› g;obtain⟨d,rfl,i⟩:=BP ai;exact⟨d,ab,ad,i⟩
  cases f
 |int k=>
  simp only[c5]at f;split at f;.obtain⟨b,rfl⟩:=okWide_int ‹_› g;obtain⟨d,rfl,i⟩:=BP ai;exact⟨d,ab,ad,i⟩
  cases f
 |str=>
  simp only[c5]at f;split at f;.obtain⟨b,rfl⟩:=okWide_string ‹_› g;obtain⟨d,rfl,i⟩:=BP ai;exact⟨d,ab,ad,i⟩
  cases f
 |stop=>exact(by simpa[iK]using ad:False).elim
 |slice k z e=>
  simp only[c5]at f;split at f;.obtain⟨a,l,c,rfl⟩:=okWide_slice ‹_› g;obtain⟨d,rfl,i⟩:=BP ai;exact⟨d,ab,ad,i⟩
  cases f
 |arr n e=>cases q
 |struct C=>
  simp only[c5]at f;split at f;.obtain⟨cs,rfl,_⟩:=okWide_struct ‹_› g;exact⟨.agg p,⟨p,rfl,ab⟩,⟨p,rfl,ad⟩,ZI ai⟩
  cases f
def Nz(m:Mem)(z:∀(b:Nat)(o:Obj),w.heap[b]?=some o->m b=some o){r:Reach}{A base:Nat}{sp:Nat->Bool}{held:Bool}:∀{Fs:List mb}{ts:List TypeId}{vs:List Value}{g:List (DataW H)} {s:List MemPlace},tF P Fs ts->(DataW.weightsEach P ts g).all (·<=reachBytes)=true->(∀(j:Nat) t v,ts[j]?=some t->vs[j]?=some v->Value.okWide P w r A t v)->DataW.TrodAll enc P w base sp held ts vs g s-> ∃k,mc Fs g k/\jy m k vs
 |[],[],vs,g,s,_,_,_,h=>by obtain⟨rfl,rfl,rfl⟩:=trodAll_nil h;exact⟨[],trivial,rfl,by intro i d v C;simp at C⟩
 |F::Fs,t::ts,vs,g,s,f,e,a,h=>by obtain⟨v,G,x,I,p,q,rfl,rfl,rfl,ab,ad⟩:=trodAll_cons h;simp only[DataW.weightsEach,List.all_append,xam]at e;obtain⟨d,n,d1,d2,d3⟩:=ZJ m z f.1 e.1 (a 0 t v rfl rfl) ab;obtain⟨k,B,y⟩:=Nz m z f.2 e.2 (λj t v D E=>a (j+1) t v (by simpa using D) (by simpa using E)) ad;refine⟨d::k,⟨⟨n,d1,d2⟩,B⟩,by simpa using y.1,?_⟩;intro i c u l hu;cases i with|zero=>simp at l hu;subst l;subst hu;exact d3|succ i=>exact y.2 i c u (by simpa using l) (by simpa using hu)
 |[],_::_,_,_,_,h,_,_,_=>h.elim|_::_,[],_,_,_,h,_,_,_=>h.elim
def again{W c:World}(f:∀(b:Nat)(o:Obj),W.heap[b]?=some o->c.heap[b]?=some o)(ah:laidOutB P=true)(l:mapsRowed P=true) (r:((List.range P.types.size).all λt=>match P.underlying t with|some (.slice e)=>decide (0<P.cellsOf e)|_=>true)=true) {sp:Nat->Bool}: ∀{ts:List TypeId}{vs:List Value}{j:List (DataW H)} {i:List MemPlace},(∀t∈ts,t<P.types.size)->DataW.TrodAll enc P W 0 (λ_=>true) true ts vs j i->(∀p∈i,p.block<W.heap.size)->(∀p∈i,sp p.block=true)->DataW.TrodAll enc P c 0 sp true ts vs j i
 |[],[],[],_,_,h,_,_=>h
 |t::ts,v::vs,d::j,_,m,⟨p,q,⟨n,ab⟩,ad,e⟩,g,aj=>by
  refine⟨p,q,⟨n,?_⟩,again f ah l r (λt h=>m t (by simp[h])) ad (λx a=>g x (by rw[e];exact xbS _ a)) (λx a=>aj x (by rw[e];exact xbS _ a)),e⟩;refine DataW.trod_stays (kids_rows ah l) (λ{t e} ab ad=>slices_full_of P r t e ab ad) (λh=>by cases h) (m t sZ) ab ?_ (λx a=>aj x (by rw[e];exact xaW _ a));intro x a;have k:=g x (by rw[e];exact xaW _ a);have aY:c.heap[x.block]?=W.heap[x.block]?:=by rw[xaj k];exact f _ _ (xaj k)
  cases x with
  |cell b off=>show c.cell? ⟨b,off,none⟩=W.cell? ⟨b,off,none⟩;unfold World.cell?;rw[show c.heap[b]?=W.heap[b]? from aY]
  |map b=>exact aY
def BQ(W:World):dh:=⟨λ_=>none,W.os,W.output,W.heap.size⟩
theorem ZK(W:World):fS (λb=>W.heap[b]?) (BQ W) W:=by refine⟨λb o h=>h,⟨λb o h=>by simp[BQ]at h,rfl,rfl,xaQ _⟩,λ_ _=>rfl⟩
def ZL{W d:World}{j:Mem}(g:(show Mem fromλb=>W.heap[b]?).le j)(h:fS j (BQ W) d):
  W.keptBut d (λ_=>False)/\(∀a:Addr,a.block<W.heap.size->d.frozen? a=W.frozen? a)/\(∀(b:Nat)(o:Obj),W.heap[b]?=some o->d.heap[b]?=some o):=by
 have aY:∀(b:Nat)(o:Obj),W.heap[b]?=some o->d.heap[b]?=some o:=λb o e=>h.mem b o (g b o e);refine⟨⟨h.frame.quiet.os,h.frame.quiet.out,λi ag=>?_⟩,λa k=>?_,aY⟩
 .have ab:=xaj ag;have ad:=aY i _ ab;rw[ab,ad];split
  .rename_i f c;rw[f]at c;simp only[xaD,Obj.cells.injEq]at c;obtain⟨rfl,rfl,rfl⟩:=c;exact⟨rfl,rfl,rfl,λ_ _=>rfl⟩
  .rename_i f c;rw[f]at c;simp only[xaD,Obj.map.injEq]at c;exact Or.inr ⟨c.1.symm,c.2.symm⟩
  rfl
 .unfold World.frozen?;have e:=xaj k;rw[e,aY _ _ e]
section
open DataW
def ZM{f:Func}{s:ChangeSpec}{apart fresh handsOn again:Bool}{W i:World}{args:Array Value}{v:Value}{l gs:List (DataW H)}{before pa pv:List MemPlace} (n:DataW.Whole enc P f.params.toList s.vars apart W args.toList l gs before) (h:∀(b:Nat)(sp:Nat->Bool)(x:Bool),DataW.TrodAll enc P i b sp x f.resultTypes.toList (v.resultList f.resultTypes.size) (s.fn H (l++gs)).results []) (c:∀sp:Nat->Bool,(∀p∈before,sp p.block=true)->DataW.TrodAll enc P i 0 sp true f.params.toList args.toList (s.fn H (l++gs)).args pa) (e:∀sp:Nat->Bool,(∀p∈before,sp p.block=true)->DataW.TrodVars enc P i sp s.vars (s.fn H (l++gs)).vars pv) (g:before=pa++pv) (y:W.keptBut i (·∈before)) (o:∀a:Addr,a.block<W.heap.size->i.frozen? a=W.frozen? a) (q:∀(j:Nat)(t:TypeId)(r:Value),f.resultTypes[j]?=some t->(v.resultList f.resultTypes.size)[j]?=some r->Value.okWide P i .any 0 t r):s.post enc P f apart fresh handsOn again W args v i:=by
 have k:=n.lt;refine⟨l,gs,before,[],pa,pv,n,h _ _ _,c _ λp d=>by simpa using k p d,e _ λp d=>by simpa using k p d,World.keptBut_mono (λp d=>⟨d,?_⟩) y,λ_=>?_⟩;.rw[g,xar]at d;exact .inr d
 obtain⟨_,_,_,_,_,A,z⟩:=n;refine⟨q,_,_,([]++pa)++pv,⟨[]++pa,pv,trodAll_append (c _ λ_ _=>rfl) (h _ _ _),e _ λ_ _=>rfl,rfl,?_,?_⟩,?_⟩
 .intro b off d;have m:MemPlace.cell b off∈before:=by rw[g];simpa using d
  rw[o _ (k _ m)];exact A b off m
 .intro u;have:=z u;rw[g]at this;simpa using this
 intro p d _;rw[g];simpa using d
end
def ZN{G:ca}{f:FuncId}{fn:Func}{s:ChangeSpec}{Fs:List mb}{tr:TypeId}{W:World}{base:Nat}{args:Array Value}{c gs:List (DataW H)}{before:List MemPlace} (ah:laidOutB P=true) (X:mapsRowed P=true) (bU:((List.range P.types.size).all λt=>match P.underlying t with|some (.slice e)=>decide (0<P.cellsOf e)|_=>true)=true) (B:tF P Fs fn.params.toList) (l:fn.resultTypes= #[tr]) (A:P.underlying tr=some .bool) (g:s.vars=[]) (aj:∀c:List (DataW H),c.length=Fs.length->s.fn H c=⟨[.lit (.bool true)],c,[]⟩) (u:∀a,mc Fs c a->cC P G f a (·=aD true)) (S:fR G (λb:Nat=>W.heap[b]?)) {R:List TypeId} (K:R=[]) (E:(DataW.weightsEach P (fn.params.toList++R) (c++gs)).all (·<=reachBytes)=true) (C:∀(j:Nat) t v,fn.params[j]?=some t->args[j]?=some v->Value.okWide P W .any base t v) (Q:DataW.Whole enc P fn.params.toList s.vars false W args.toList c gs before):Calls P f args W λe M=>∃v,e= .returned v/\s.post enc P fn false true false false W args v M:=by
 have m:=Q;obtain⟨p,q,N,O,rfl,V,Y⟩:=Q;rw[g]at O;obtain⟨rfl,rfl⟩:=trodVars_none O;subst K;rw[xat,xat]at E;obtain⟨a,d1,d3⟩:=Nz (λb=>W.heap[b]?) (λb o h=>h) B E (λj t v bY I=>C j t v (by simpa using bY) (by simpa using I)) N;have U:=(u a d1).run (λb=>W.heap[b]?) (BQ W) W args.toList S (ZK W) d3;have n:c.length=Fs.length:=by
  have:∀(i:List mb)(c:List (DataW H)) (a:lZ),mc i c a->c.length=i.length:=by
   intro i
   induction i with
   |nil=>intro c a h;cases c<;>cases a<;>simp_all [mc]
   |cons y i ih=>
    intro c a h;cases c with
    |nil=>cases a<;>simp[mc]at h
    |cons x c=>cases a with|nil=>simp[mc]at h|cons d a=>simp[ih c a h.2]
  exact this _ _ _ d1
 refine U.mono λe M ⟨v,bX,r,he,Z,hle,T,I⟩=>?_;subst Z;have J:v= .bool true:=by cases I;rfl
 subst J;obtain⟨bT,cM,gL⟩:=ZL hle T;have F:=m.lt;refine⟨_,he,?_⟩;have k:=aj (c++[]) (by simpa using n);simp only[xat]at k;refine ZM (pa:=p) (pv:=[]) m (λb sp b5=>?_) (λsp z=>?_) (λsp z=>?_) rfl (World.keptBut_mono (λ_ h=>h.elim) bT) cM (ok_one l rfl (okWide_bool_mk A _))
 .rw[xat,k,l];exact trodAll_cons_mk (shut_bool A true) trodAll_mk0
 .rw[xat,k];exact again gL ah X bU B.lt N (λx L=>F x (by simpa using L)) (λx L=>z x (by simpa using L))
 rw[xat,k,g];rfl
def NA{W:World}:∀(laid:List (String×DataW Unit)) (gs:List (Nat×TypeId×c4×lZ)) (j:List MemPlace),DataW.LaidVars P W laid j->gs.length=laid.length->(∀(i:Nat) x g,laid[i]?=some x->gs[i]?=some g->P.globalNamed x.1=some g.1/\(P.globals[g.1]?).map (·.type)=some g.2.1/\c5 P g.2.2.1 g.2.1=true/\rd g.2.2.1 x.2=some g.2.2.2/\nq g.2.2.1=true/\(x.2.weights P g.2.1).all (·<=reachBytes)=true)-> ∀g∈gs,∃vs T c,W.heap[g.1]?=some (.cells vs T c)/\Rel (λb=>W.heap[b]?) g.2.2.2 vs.toList
 |[],[],_,_,_,_,g,a=>by simp at a
 |(E,x)::laid,y::gs,j,h,ah,f,g,a=>by
  obtain⟨C,t,cs,fuel,p,q,ab,ad,ai,z,A,_⟩:=h;rcases xan.1 a with rfl|a
  .obtain⟨a2,a3,a4,a5,k,ic⟩:=f 0 _ _ rfl rfl;have r:=xaZ (a2.symm.trans ab);subst r;have s:=xaZ (a3.symm.trans ad);subst s;obtain⟨B,l,_,m⟩:=Nv (λb=>W.heap[b]?) (λb o h=>h) fuel _ _ _ _ a4 (p4 _ _ k) ic z;have u:=xaZ (a5.symm.trans l);unfold World.var? at ai;rw[ab]at ai;simp only[Option.bind_some]at ai;split at ai
   .rename_i n T c aY;cases ai;exact⟨_,T,c,aY,by rw[u];exact m⟩
   cases ai
  exact NA laid gs q A (by simpa using ah) (λi x g e d=>f (i+1) x g (by simpa using e) (by simpa using d)) g a
 |[],_::_,_,_,h,_,_,_=>by simp at h|_::_,[],_,_,h,_,_,_=>by simp at h
def ZO{G:ca}{W:World}(gs:List (Nat×TypeId×c4×lZ))(f:∀g cs,G g=some cs->∃x∈gs,x.1=g/\x.2.2.2=cs) (h:∀g∈gs,∃vs T a,W.heap[g.1]?=some (.cells vs T a)/\Rel (λb=>W.heap[b]?) g.2.2.2 vs.toList):fR G (λb:Nat=>W.heap[b]?):=by
 intro g cs i;obtain⟨x,k,rfl,rfl⟩:=f g cs i;obtain⟨vs,T,a,ab,ad⟩:=h x k;refine⟨vs,T,a,ab,λj=>(vs[j]?).getD undef,?_,?_⟩
 .intro j c d;obtain⟨v,e,_,_⟩:=ad.at j c d;have:vs[j]?=some v:=by simpa using e
  simp[this]
 intro j c d;obtain⟨v,e,_,l⟩:=ad.at j c d;have:vs[j]?=some v:=by simpa using e
 simpa[this]using l
end
def NB:c4:= .struct [.str,.bool,.int .i64,.int .i64]
def BR:c4:= .slice 4 40 NB
def tG:c4:= .slice 1 1 .bool
def lu{b:Type}(f:b->lZ)(Q:b->Prop):∀(es:mW),(∀x∈es,∃y,x=f y/\Q y)->∃l:List b,es=l.map f/\∀y∈l,Q y
 |[],_=>⟨[],rfl,by simp⟩|x::es,h=>by obtain⟨y,rfl,d⟩:=h x sZ;obtain⟨l,rfl,ah⟩:=lu f Q es λx c=>h x (by simp[c]);exact⟨y::l,rfl,by intro z a;rcases xan.1 a with rfl|a;exact d;exact ah z a⟩
def ZP{n:Int}(h:(Lit.int .i64 n).wf=true):jA n:=by have:=Go.bounds_i64 h;exact this
theorem w5{x:lZ}(h:iK (.int .i64) x):∃n,x=[aa n]/\jA n:=by obtain⟨n,rfl,a⟩:=h;exact⟨n,rfl,ZP a⟩
def BS{x:lZ}(h:iK .str x):∃s,x=[aA s]/\s.size<=140737488351232:=h
def NC{x:lZ}(h:iK .bool x):∃b,x=[aD b]:=h
def ZQ{x:lZ}(h:iK NB x):∃v:V,x=v.cells/\V.ok v:=by obtain⟨a,b,rfl,l,c,d,rfl,m,e,f,rfl,n,g,i,rfl,o,rfl⟩:=h;obtain⟨s,rfl,aj⟩:=BS l;obtain⟨q,rfl⟩:=NC m;obtain⟨lo,rfl,k⟩:=w5 n;obtain⟨ag,rfl,j⟩:=w5 o;exact⟨⟨s,q,lo,ag⟩,rfl,k,j,by simp only;omega⟩
def ZR{k b:Nat}{d:D}{e:c4}(h:iK (.slice k b e) [d]):∃es,d= .aw k es/\es.length*b<=140737488351232/\∀x∈es,iK e x:=by obtain⟨es,a,_,ab,ad⟩:=h;cases a;exact⟨es,rfl,ab,λx c=>(ad x c).2⟩
def ND{d:D}(h:tD tG d):∃l:lW,d=LL l/\l.length<=140737488351232:=by
 obtain⟨es,rfl,ab,ad⟩:=ZR h;obtain⟨l,rfl,ah⟩:=lu (λn=>[aD n]) (λ_=>True) es λx c=>by obtain⟨b,a⟩:=NC (ad x c);exact⟨b,a,trivial⟩
 exact⟨l,rfl,by simpa using ab⟩
abbrev b9:D:= .val (.slice none 0 0)
def bM(k:Nat)(nl:Bool)(es:mW):D:=if nl&&es.isEmpty then b9 else .aw k es
section
variable{k:Nat}{nl:Bool}{es:mW}
def ZS:bM k false es= .aw k es:=by simp[bM]
@[simp] theorem NF:dK (bM k nl es)=some (aa es.length):=by
 unfold bM;split;.rename_i h;simp at h;simp[h.2,aa,dK]
 rfl
@[simp] theorem ZT:da (bM k nl es)=true:=by unfold bM;split<;>rfl
@[simp] theorem ZU:(bM k nl es).one=true:=by unfold bM;split<;>rfl
def Hv{i:Nat}:a8 k (bM k nl es) (aa (i:Int))=es[i]?:=by
 unfold bM;split;.rename_i h;simp at h;simp[h.2,aa,a8]
 simp
@[simp] theorem al2:jR (bM k nl es)=some (if nl&&es.isEmpty then(0,[])else(k,es)):=by unfold bM;split<;>rfl
end
inductive Tm where
 |mk (op n:Int) (name:ByteArray) (nl:Bool) (aC:List Tm)
namespace Tm
def op:Tm->Int| .mk o _ _ _ _=>o
def num:Tm->Int| .mk _ n _ _ _=>n
def name:Tm->ByteArray| .mk _ _ s _ _=>s
def nl:Tm->Bool| .mk _ _ _ b _=>b
def aC:Tm->List Tm| .mk _ _ _ _ l=>l
mutual
def cells:Tm->lZ
 | .mk o n s b ks=>[aa o,aa n,aA s,bM 4 b (rows ks)]
def rows:List Tm->mW
 |[]=>[]|t::r=>cells t::rows r
end
def d(t:Tm):D:= .agg t.cells
mutual
def aO:Tm->Nat
 | .mk _ _ _ _ ks=>2+dp ks
def dp:List Tm->Nat
 |[]=>0|t::r=>1+aO t+dp r
end
def gM:∀l:List Tm,rows l=l.map cells
 |[]=>rfl|t::r=>by simp[rows,gM r]
@[simp] theorem tH {l:List Tm}:(rows l).length=l.length:=by simp[gM]
def BT{l:List Tm}{i:Nat}{t:Tm}(h:l[i]?=some t):(rows l)[i]?=some t.cells:=by simp[gM,h]
def e9{l:List Tm}{b:Bool}{i:Nat}{t:Tm}(h:l[i]?=some t):a8 4 (bM 4 b (rows l)) (aa (i:Int))=some t.cells:=by rw[Hv,BT h]
def w6:∀l:List Tm,l.length<=dp l
 |[]=>xaQ 0|t::r=>by simp only[dp,xal];have:=w6 r;omega
def w7:∀{l:List Tm}{t:Tm},t∈l->aO t+1<=dp l
 |a::r,t,h=>by
  simp only[dp];rcases xan.1 h with rfl|h
  .omega
  have:=w7 h;omega
def gC{t k:Tm}(h:k∈t.aC):k.aO+3<=t.aO:=by cases t with|mk o n s b ks=>simp only[aO];have:=w7 (show k∈ks from h);omega
def ie{t:Tm}:t.aC.length+2<=t.aO:=by cases t with|mk o n s b ks=>simp only[aO];have:=w6 ks;show ks.length+2<=_;omega
def ind{P:Tm->Prop}(h:∀t:Tm,(∀k∈t.aC,P k)->P t)(t:Tm):P t:=by
 have:∀(n:Nat)(t:Tm),t.aO<=n->P t:=by
  intro n
  induction n with
  |zero=>intro t a;cases t;simp[aO]at a
  |succ n ih=>intro t a;exact h t λk b=>ih k (by have:=gC b;omega)
 exact this _ t (xaQ _)
inductive Ok:Tm->Prop where
 |mk (o n:Int) (s:ByteArray) (b:Bool) (ks:List Tm) (Hw:-9223372036854775808<=o/\o<=9223372036854775807) (bw:-9223372036854775808<=n/\n<=9223372036854775807) (aj:s.size<=140737488355328) (ah:ks.length*56<=140737488355328) (FD:∀k∈ks,Ok k):Ok (.mk o n s b ks)
def Ok.dx{t k:Tm}(h:Ok t)(c:k∈t.aC):Ok k:=by cases h with|mk o n s b ks e d aj ah a=>exact a k c
def Ok.len{t:Tm}(h:Ok t):t.aC.length*56<=140737488355328:=by cases h;assumption
theorem hU(t:Tm):t.cells=[aa t.op,aa t.num,aA t.name,bM 4 t.nl (rows t.aC)]:=by cases t;rfl
theorem ha(t:Tm):t.d= .agg [aa t.op,aa t.num,aA t.name,bM 4 t.nl (rows t.aC)]:=by cases t;rfl
@[simp] theorem jf (t:Tm):cw 4 t.d=true:=by rw[ha];simp
@[simp] theorem kW (t:Tm):ae t.d 0=aa t.op:=by rw[ha];rfl
@[simp] theorem ns (t:Tm):ae t.d 1=aa t.num:=by rw[ha];rfl
@[simp] theorem nt (t:Tm):ae t.d 2=aA t.name:=by rw[ha];rfl
@[simp] theorem me (t:Tm):ae t.d 3=bM 4 t.nl (rows t.aC):=by rw[ha];rfl
@[simp] theorem w8 (t:Tm):D.agg [aa t.op,aa t.num,aA t.name,bM 4 t.nl (rows t.aC)]=t.d:=(ha t).symm
@[simp high] theorem Hx (t:Tm):aN true 4 0 t.cells=some t.d:=by rw[ha,hU];rfl
@[simp] theorem w9 (t:Tm):t.cells[0]?=some (aa t.op):=by rw[hU];rfl
@[simp] theorem xa (t:Tm):t.cells[1]?=some (aa t.num):=by rw[hU];rfl
@[simp] theorem ZV (t:Tm):t.cells[2]?=some (aA t.name):=by rw[hU];rfl
@[simp] theorem al3 (t:Tm):t.cells[3]?=some (bM 4 t.nl (rows t.aC)):=by rw[hU];rfl
end Tm
def cd{c b σ:Type}{f:lZ->Option (lZ⊕c)}(l:List b)(S:Nat->σ->lZ)(R:List b->σ->c)(Inv:Nat->σ->Prop) (ak:∀s,Inv l.length s->f (S l.length s)=some (.inr (R [] s))) (ab:∀(i:Nat)(a:b)(s:σ),l[i]?=some a->i<l.length->Inv i s->(∃s',f (S i s)=some (.inl (S (i+1) s'))/\R (a::l.drop (i+1)) s=R (l.drop (i+1)) s'/\Inv (i+1) s')\/f (S i s)=some (.inr (R (a::l.drop (i+1)) s))): ∀(m i:Nat)(s:σ),Inv i s->l.length-i<m->i<=l.length->aS f m (S i s)=some (R (l.drop i) s)
 |0,i,s,_,h,_=>absurd h (xaI _)
 |m+1,i,s,ag,hm,hle=>by
  rw[hJ];by_cases h:i<l.length
  .have d:=xaa h;have e:l.drop i=l[i]::l.drop (i+1):=xaU h;rcases ab i _ s d h ag with⟨s',g1,g2,g3⟩|g1
   .rw[g1,e,g2];exact cd l S R Inv ak ab m (i+1) s' g3 oZ h
   rw[g1,e];rfl
  have:i=l.length:=oZ
  subst this;rw[ak s ag,xcv (xaQ _)];rfl
def BU(op:Int):op=1\/op=2\/op=3\/op=4\/op=5\/op=6\/op=7\/op=8\/op=9\/op=10\/op=11\/op=12\/op=13\/op=14\/op=15\/op=16\/op=17\/op=18\/(op<1\/op>18):=oZ
@[simp] theorem al4 {f:FuncId}:rq f (.val (.func (.func f) #[] #[]))=true:=by simp[rq]
@[simp] theorem jg {f:FuncId} {cs:lZ}:fp f (.fn (.func f) [] cs)=some cs:=by simp[fp]
attribute [go_sem] jg
def Hy(a b:Int):ht true [aa a,aa b]=some (aa (if b>a then b else a)):=by simp[ht,lN,mR,aa,km]
def NG(a b:Int):ht false [aa a,aa b]=some (aa (if b<a then b else a)):=by simp[ht,lN,mR,aa,km]
@[simp] theorem NH {b:Bool}:(aD b).flat=true:=rfl
@[simp] theorem ZW {b:Int}:(aa b).flat=true:=rfl
@[simp] theorem ZX {b:ByteArray}:(aA b).flat=true:=rfl
@[simp] theorem al5 {a:Int}:cb .neg (aa a)=some (aa (IntKind.i64.wrap (-a))):=by rw[<-Int.zero_sub];rfl
theorem NI:(D.val (.bool false))=aD false:=rfl
theorem NJ:(D.val (.int .i64 0))=aa 0:=rfl
theorem NK:(D.val (.string ⟨#[]⟩))=aA ⟨#[]⟩:=rfl
@[simp] theorem ZY (a b c:D):cw 3 (.agg [a,b,c])=(a.one&&(b.one&&c.one)):=by simp[cw]
@[simp] theorem ZZ (a b c e:D):cw 4 (.agg [a,b,c,e])=(a.one&&(b.one&&(c.one&&e.one))):=by simp[cw]
@[simp] theorem al6 {a:D} {l:lZ}:ae (.agg (a::l)) 0=a:=rfl
@[simp] theorem al7 {a b:D} {l:lZ}:ae (.agg (a::b::l)) 1=b:=rfl
@[simp] theorem al8 {a b c:D} {l:lZ}:ae (.agg (a::b::c::l)) 2=c:=rfl
@[simp] theorem al9 {a b c e:D} {l:lZ}:ae (.agg (a::b::c::e::l)) 3=e:=rfl
theorem tI{bt:Bool}{i:Nat}(h:i<1000000000000000000):aP bt .add (aa (i:Int)) (aa 1)=some (aa ((i+1:Nat):Int)):=by rw[ds oZ oZ];rfl
def Z0{bt:Bool}{i:Int}(h:-9223372036854775809<=i)(a:i<9223372036854775807):aP bt .add (aa i) (aa 1)=some (aa (i+1)):=by rw[ds oZ oZ]
def bu(i:Nat)(h:i<1000000000000000000:=by omega):aP false .add (aa (i:Int)) (aa 1)=some (aa ((i+1:Nat):Int)):=tI h
def ig(i:Int)(h:-9223372036854775809<=i:=by omega)(a:i<9223372036854775807:=by omega):aP false .add (aa i) (aa 1)=some (aa (i+1)):=Z0 h a
def eB{n b:Nat}(ab:n*b<=140737488355328:=by omega)(ad:n<=4611686018427387904:=by omega):bZ n b=true:=rz ab ad
def oE{n i:Nat}(h:i<n):cS n (aa (i:Int))=some i:=by rw[jW,xac h]
section
variable{α β:Type}{c:Prop}[Decidable c]
@[simp] theorem ama {a b:α}:(if c then(Sum.inl a:α⊕β)else Sum.inl b)=Sum.inl (if c then a else b):=by split<;>rfl
@[simp] theorem amb {a b:β}:(if c then(Sum.inr a:α⊕β)else Sum.inr b)=Sum.inr (if c then a else b):=by split<;>rfl
@[simp] theorem amc {a b:α} {l r:List α}:(if c then a::l else b::r)=(if c then a else b)::(if c then l else r):=by split<;>rfl
@[simp] theorem amd {a b:Int}:(if c then aa a else aa b)=aa (if c then a else b):=by split<;>rfl
@[simp] theorem ame {a b:ByteArray}:(if c then aA a else aA b)=aA (if c then a else b):=by split<;>rfl
@[simp] theorem Hz {a b:lZ}:(if c then D.az a else D.az b)=D.az (if c then a else b):=by split<;>rfl
@[simp] theorem amf {a b:lZ}:(if c then D.agg a else D.agg b)=D.agg (if c then a else b):=by split<;>rfl
@[simp] theorem amg {f:lZ->Option β} {x y:lZ⊕β}:aG f (if c then x else y)=if c then aG f x else aG f y:=by split<;>rfl
@[simp] theorem amh {x y:Option α} {f:α->Option β}:af (if c then x else y) f=if c then af x f else af y f:=by split<;>rfl
end
section
variable{NL:Type}{c:Prop}[Decidable c]
@[simp] theorem ami {x y:D} {w:Bool} {p:oX}:cu (if c then x else y) w p=if c then cu x w p else cu y w p:=by split<;>rfl
@[simp] theorem amj {x y:D} {w:Bool} {p q:Option NL}:pM (if c then x else y) w p q=if c then pM x w p q else pM y w p q:=by split<;>rfl
@[simp] theorem amk {x y a b:D}:dQ (if c then x else y) a b=if c then dQ x a b else dQ y a b:=by split<;>rfl
@[simp] theorem aml {x y:D} {p q:Option NL}:aV (if c then x else y) p q=if c then aV x p q else aV y p q:=by split<;>rfl
@[simp] theorem amm {x y:D} {o:UnOp}:cb o (if c then x else y)=if c then cb o x else cb o y:=by split<;>rfl
end
@[simp] theorem amn {a b:Bool}:aD a=aD b↔a=b:=⟨λh=>by cases h;rfl,λh=>by rw[h]⟩
@[simp] theorem amo {a b:Int}:aa a=aa b↔a=b:=⟨λh=>by cases h;rfl,λh=>by rw[h]⟩
@[simp] theorem amp {a b:ByteArray}:aA a=aA b↔a=b:=⟨λh=>by cases h;rfl,λh=>by rw[h]⟩
attribute [simp] NI NJ NK
def ij(M:List (Value×D)):Prop:=∀e∈M,∃s,e.1= .string s
def eu:List (Value×D)->ByteArray->oX
 |[],_=>none|(.string s,d)::r,x=>if s=x then some d else eu r x
 |_::r,x=>eu r x
def NM{e:Value×D}{M:List (Value×D)}(h:ij (e::M)):(∃s,e.1= .string s)/\ij M:=⟨h e sZ,λx a=>h x (by simp[a])⟩
def NN(a b:ByteArray):Instr.sameNow .string (.string a) (.string b)=some (decide (b=a)):=by simp[Instr.sameNow,FJ,eq_comm]
def NO{M:List (Value×D)}(h:ij M)(x:ByteArray):findD .string (.string x) M=some (eu M x):=by
 induction M with
 |nil=>rfl
 |cons e r ih=>
  obtain⟨⟨s,aj⟩,b⟩:=NM h;obtain⟨k,d⟩:=e;simp only at aj;subst aj;simp only[findD,NN,eu];by_cases a:s=x;.simp[a]
  simp[a,ih b]
def Z1{M:List (Value×D)}(h:ij M)(x:ByteArray)(d:D):∃b,lQ .string (.string x) d M=some b/\ij b/\(∀y,eu b y=if y=x then some d else eu M y)/\b.length=M.length+(if(eu M x).isSome then 0 else 1):=by
 induction M with
 |nil=>exact⟨[(.string x,d)],rfl,by intro e a;simp at a;exact⟨x,by rw[a]⟩,λy=>by simp[eu,eq_comm],rfl⟩
 |cons e r ih=>
  obtain⟨⟨s,aj⟩,g⟩:=NM h;obtain⟨k,d0⟩:=e;simp only at aj;subst aj;simp only[lQ,NN,eu];by_cases c:s=x
  .refine⟨(.string x,d)::r,by simp[c],?_,λy=>?_,by simp[c]⟩
   .intro e a;rcases xan.1 a with rfl|a
    .exact⟨x,rfl⟩
    exact g e a
   simp only[eu];by_cases f:y=x;.simp[f]
   have:¬x=y:=λh=>f h.symm;subst c;simp[f,this]
  obtain⟨b,ab,ad,ai,i⟩:=ih g;refine⟨(.string s,d0)::b,by simp[c,ab],?_,λy=>?_,by simp[c,i];omega⟩
  .intro e a;rcases xan.1 a with rfl|a
   .exact⟨s,rfl⟩
   exact ad e a
  simp only[eu,ai y];by_cases f:y=x;.subst f;simp[c]
  simp[f]
theorem tJ{M:List (Value×D)}(h:ij M){z:Value}{x:ByteArray}:gA .string z true M (aA x)=some (match eu M x with|some d=> .az [d,aD true]|none=> .az [lO z,aD false]):=by simp only[gA,aA,NO h];cases eu M x<;>rfl
def BV{M:List (Value×D)}(h:ij M)(x:ByteArray)(d:D):∃a,lf .string M (aA x) d=some a/\ij a/\(∀y,eu a y=if y=x then some d else eu M y)/\a.length=M.length+(if(eu M x).isSome then 0 else 1):=Z1 h x d
def kt(M:List (Value×D)):Prop:=∀e∈M,∃i,e.1= .int .i64 i
def hb:List (Value×D)->Int->oX
 |[],_=>none|(.int .i64 s,d)::r,x=>if s=x then some d else hb r x
 |_::r,x=>hb r x
def NP{e:Value×D}{M:List (Value×D)}(h:kt (e::M)):(∃s,e.1= .int .i64 s)/\kt M:=⟨h e sZ,λx a=>h x (by simp[a])⟩
def NQ(a b:Int):Instr.sameNow (.int .i64) (.int .i64 a) (.int .i64 b)=some (decide (b=a)):=by
 by_cases h:a=b;.subst h;simp[Instr.sameNow]
 have c:¬b=a:=λe=>h e.symm;simp[Instr.sameNow,h,c]
def Z2{M:List (Value×D)}(h:kt M)(x:Int):findD (.int .i64) (.int .i64 x) M=some (hb M x):=by
 induction M with
 |nil=>rfl
 |cons e r ih=>
  obtain⟨⟨s,aj⟩,b⟩:=NP h;obtain⟨k,d⟩:=e;simp only at aj;subst aj;simp only[findD,NQ,hb];by_cases a:s=x;.simp[a]
  simp[a,ih b]
def Z3{M:List (Value×D)}(h:kt M)(x:Int)(d:D):∃b,lQ (.int .i64) (.int .i64 x) d M=some b/\kt b/\(∀y,hb b y=if y=x then some d else hb M y)/\b.length=M.length+(if(hb M x).isSome then 0 else 1):=by
 induction M with
 |nil=>exact⟨[(.int .i64 x,d)],rfl,by intro e a;simp at a;exact⟨x,by rw[a]⟩,λy=>by simp[hb,eq_comm],rfl⟩
 |cons e r ih=>
  obtain⟨⟨s,aj⟩,g⟩:=NP h;obtain⟨k,d0⟩:=e;simp only at aj;subst aj;simp only[lQ,NQ,hb];by_cases c:s=x
  .refine⟨(.int .i64 x,d)::r,by simp[c],?_,λy=>?_,by simp[c]⟩
   .intro e a;rcases xan.1 a with rfl|a
    .exact⟨x,rfl⟩
    exact g e a
   simp only[hb];by_cases f:y=x;.simp[f]
   have:¬x=y:=λh=>f h.symm;subst c;simp[f,this]
  obtain⟨b,ab,ad,ai,i⟩:=ih g;refine⟨(.int .i64 s,d0)::b,by simp[c,ab],?_,λy=>?_,by simp[c,i];omega⟩
  .intro e a;rcases xan.1 a with rfl|a
   .exact⟨s,rfl⟩
   exact ad e a
  simp only[hb,ai y];by_cases f:y=x;.subst f;simp[c]
  simp[f]
theorem HA{M:List (Value×D)}(h:kt M){z:Value}{ok:Bool}{x:Int}:gA (.int .i64) z ok M (aa x)=some (match hb M x with|some d=>if ok then .az [d,aD true]else d|none=>if ok then .az [lO z,aD false]else lO z):=by simp only[gA,aa,Z2 h];cases hb M x<;>rfl
def NR{M:List (Value×D)}(h:kt M)(x:Int)(d:D):∃a,lf (.int .i64) M (aa x) d=some a/\kt a/\(∀y,hb a y=if y=x then some d else hb M y)/\a.length=M.length+(if(hb M x).isSome then 0 else 1):=Z3 h x d
def NS:∀x:List UInt8,Op.bytesLess x x=false
 |[]=>rfl|a::x=>by simp[Op.bytesLess,NS x]
def NT:∀x y z:List UInt8,Op.bytesLess x y=true->Op.bytesLess y z=true->Op.bytesLess x z=true
 |[],[],z,h,_=>by simp[Op.bytesLess]at h|[],b::y,[],_,h=>by simp[Op.bytesLess]at h|[],b::y,c::z,_,_=>rfl|a::x,[],z,h,_=>by simp[Op.bytesLess]at h|a::x,b::y,[],_,h=>by simp[Op.bytesLess]at h
 |a::x,b::y,c::z,ab,ad=>by
  simp only[Op.bytesLess,xbg,xam,xaC,xbQ,UInt8.lt_iff_toNat_lt]at*;rcases ab with ab|⟨rfl,ab⟩
  .rcases ad with ad|⟨rfl,ad⟩;.exact .inl oZ
   exact .inl ab
  rcases ad with ad|⟨rfl,ad⟩;.exact .inl ad
  exact .inr ⟨rfl,NT x y z ab ad⟩
def NU:∀x y:List UInt8,Op.bytesLess x y=true\/x=y\/Op.bytesLess y x=true
 |[],[]=> .inr (.inl rfl)|[],b::y=> .inl rfl|a::x,[]=> .inr (.inr rfl)
 |a::x,b::y=>by
  simp only[Op.bytesLess,xbg,xam,xaC,xbQ,UInt8.lt_iff_toNat_lt,xbH];by_cases ab:a.toNat<b.toNat;.exact .inl (.inl ab)
  by_cases ad:b.toNat<a.toNat;.exact .inr (.inr (.inl ad))
  have:a=b:=UInt8.toNat_inj.1 oZ;subst this;rcases NU x y with h|h|h
  .exact .inl (.inr ⟨rfl,h⟩)
  .exact .inr (.inl ⟨rfl,h⟩)
  exact .inr (.inr (.inr ⟨rfl,h⟩))
def oF(x:ByteArray):blt x x=false:=NS _
def rB{x y z:ByteArray}(h:blt x y=true)(a:blt y z=true):blt x z=true:=NT _ _ _ h a
def HB(x y:ByteArray):blt x y=true\/x=y\/blt y x=true:=by
 rcases NU x.toList y.toList with h|h|h;.exact .inl h
 .exact .inr (.inl (KB h))
 exact .inr (.inr h)
def Z4(y x:ByteArray):(!(blt y x||decide (y=x)))=blt x y:=by
 rcases HB x y with h|h|h
 .have ab:blt y x=false:=by
   cases a:blt y x with|false=>rfl|true=>have:=rB h a;rw[oF]at this;cases this
  have ad:y≠x:=by rintro rfl;rw[oF]at h;cases h
  simp[h,ab,ad]
 .subst h;simp[oF]
 have ab:blt x y=false:=by cases a:blt x y with|false=>rfl|true=>have:=rB h a;rw[oF]at this;cases this
 simp[h,ab]
def BW{bt:Bool}{x y:ByteArray}:aP bt .gtr (aA y) (aA x)=some (aD (blt x y)):=by rw[Hr,Z4]
def gN:List ByteArray->Prop
 |[]=>True|a::r=>(∀b∈r,blt a b=true)/\gN r
def fa(s:ByteArray):List ByteArray->List ByteArray
 |[]=>[s]|a::r=>if a=s then a::r else if blt s a then s::a::r else a::fa s r
def NV{s x:ByteArray}:∀{l:List ByteArray},x∈fa s l->x=s\/x∈l
 |[],h=>by simp[fa]at h;exact .inl h
 |a::r,h=>by
  rw[fa]at h;split at h;.exact .inr h
  split at h
  .rcases xan.1 h with h|h;.exact .inl h
   exact .inr h
  rcases xan.1 h with h|h;.exact .inr (by simp[h])
  rcases NV h with h|h;.exact .inl h
  exact .inr (by simp[h])
def xb{s:ByteArray}:∀{l:List ByteArray},gN l->gN (fa s l)
 |[],_=>⟨by simp,trivial⟩
 |a::r,h=>by
  rw[fa];split;.exact h
  rename_i f;split
  .rename_i d;refine⟨λb c=>?_,h⟩;rcases xan.1 c with rfl|c
   .exact d
   exact rB d (h.1 b c)
  rename_i e;refine⟨λb c=>?_,xb h.2⟩;rcases NV c with rfl|c
  .rcases HB a b with ab|ab|ab;.exact ab
   .exact absurd ab f
   rw[ab]at e;exact absurd rfl e
  exact h.1 b c
def HC{s:ByteArray}:∀{l:List ByteArray},gN l->s∈l->fa s l=l
 |[],_,h=>by cases h
 |a::r,aj,h=>by
  rw[fa];rcases xan.1 h with rfl|h
  .rw[xac rfl]
  have b:=aj.1 s h;have c:¬a=s:=by rintro rfl;rw[oF]at b;cases b
  have d:¬blt s a=true:=λe=>by have:=rB b e;rw[oF]at this;cases this
  rw[xab c,xab d,HC aj.2 h]
def NW{s:ByteArray}:∀{l:List ByteArray},gN l->s∉l->∃a b,l=a++b/\fa s l=a++s::b/\(∀x∈a,blt x s=true)/\(∀x∈b,blt s x=true)
 |[],_,_=>⟨[],[],rfl,rfl,by simp,by simp⟩
 |a::r,aj,h=>by
  have f:¬a=s:=λe=>h (by simp[e]);rw[fa,xab f];by_cases ah:blt s a=true
  .rw[xac ah];exact⟨[],a::r,rfl,rfl,by simp,λx c=>by
    rcases xan.1 c with rfl|c;.exact ah
    exact rB ah (aj.1 x c)⟩
  rw[xab ah];obtain⟨p,q,ab,ad,ai,g⟩:=NW (l:=r) (s:=s) aj.2 (λi=>h (xcn _ i));refine⟨a::p,q,by rw[ab];rfl,by rw[ad];rfl,λx c=>?_,g⟩;rcases xan.1 c with rfl|c
  .rcases HB x s with d|d|d;.exact d
   .exact absurd d f
   exact absurd d ah
  exact ai x c
def HD(s:ByteArray):∀{l:List ByteArray},gN l->∃a b,l=a++b/\(∀x∈a,blt s x=false)/\(∀x∈b,blt s x=true)/\(s∈l->∃g,a=g++[s])/\(s∉l->s∉a)/\(s∉l->fa s l=a++s::b)
 |[],_=>⟨[],[],rfl,by simp,by simp,by simp,by simp,λ_=>rfl⟩
 |c::r,aj=>by
  by_cases d:s∈c::r
  .by_cases m:c=s;.subst m;refine⟨[c],r,rfl,by simp[oF],aj.1,λ_=>⟨[],rfl⟩,λh=>absurd d h,λh=>absurd d h⟩
   have n:s∈r:=(xan.1 d).resolve_left λh=>m h.symm;obtain⟨a,b,ab,ad,ai,i,p,q⟩:=HD s aj.2;obtain⟨g,j⟩:=i n;refine⟨c::a,b,by rw[ab];rfl,?_,ai,λ_=>⟨c::g,by rw[j];rfl⟩,λh=>absurd d h,λh=>absurd d h⟩;intro x f;rcases xan.1 f with rfl|f
   .have e:=aj.1 s n;cases k:blt s x with|false=>rfl|true=>have:=rB e k;rw[oF]at this;cases this
   exact ad x f
  obtain⟨a,b,ab,ad,ai,i⟩:=NW aj d;refine⟨a,b,ab,λx f=>?_,i,λh=>absurd h d,λ_ o=>d (by rw[ab];simp[o]),λ_=>ad⟩;have e:=ai x f;cases k:blt s x with|false=>rfl|true=>have:=rB e k;rw[oF]at this;cases this
def xc{s:ByteArray}:∀(l:List ByteArray),(fa s l).length<=l.length+1
 |[]=>by simp[fa]
 |a::r=>by
  rw[fa];split;.simp
  split;.simp
  have:=xc (s:=s) r;simp;omega
def gD:Nat->c4
 |0=> .stop|n+1=> .struct [.int .i64,.int .i64,.str,.slice 4 56 (gD n)]
def tK:∀(n m:Nat),m<=2*n->(gD n).e8 m=true
 |0,m,h=>by
         have:m=0:=oZ
         subst this;rfl
 |n+1,0,_=>rfl|n+1,1,_=>rfl|n+1,m+2,h=>by have:=tK n m oZ;simp only[gD,c4.e8,lr,this,xby]
def BX{P:Program}{t s:TypeId}(ab:∀y,c5 P (.struct [.int .i64,.int .i64,.str,y]) t=(c5 P y s&&true))(ad:∀y,c5 P (.slice 4 56 y) s=c5 P y t):∀n,c5 P (gD n) t=true
 |0=>rfl|n+1=>by rw[gD,ab,ad,BX ab ad n];rfl
theorem Z5{P:Program}{t s:TypeId}(ab:∀y,c5 P (.struct [.int .i64,.int .i64,.str,y]) t=(c5 P y s&&true))(ad:∀y,c5 P (.slice 4 56 y) s=c5 P y t)(ah:decide (t<P.types.size)=true):nr P gD t:=⟨λn=>tK n n oZ,BX ab ad,xbe ah,λn=>by cases n<;>rfl⟩
def rC:∀(n:Nat){x:lZ},iK (gD n) x->∃t:Tm,x=t.cells/\t.Ok
 |0,x,h=>h.elim|n+1,x,h=>by obtain⟨a,b,rfl,o,c,d,rfl,p,e,f,rfl,q,g,i,rfl,r,rfl⟩:=h;obtain⟨op,rfl,m⟩:=w5 o;obtain⟨nn,rfl,l⟩:=w5 p;obtain⟨s,rfl,aj⟩:=BS q;obtain⟨es,rfl,_,ah,j⟩:=r;obtain⟨ks,rfl,k⟩:=lu Tm.cells Tm.Ok es λx u=>rC n (j x u).2;refine⟨.mk op nn s false ks,?_,.mk _ _ _ _ _ m l oZ (by simpa using xbK ah oZ) k⟩;simp[Tm.cells,Tm.gM,bM]
def HE{H:Type}{F:mb}{Fs:List mb}{c:List (DataW H)}{a:lZ}(h:mc (F::Fs) c a):∃x e d b n,c=x::e/\a=d::b/\tE (F n) x d/\tD (F n) d/\mc Fs e b:=by
 cases c with
 |nil=>cases a<;>exact h.elim
 |cons x c=>cases a with|nil=>exact h.elim|cons d a=>obtain⟨⟨n,ab,ad⟩,ai⟩:=h;exact⟨x,c,d,a,n,rfl,rfl,ab,ad,ai⟩
def Z6{H:Type}{b:List (DataW H)}{a:lZ}(h:mc [] b a):b=[]/\a=[]:=by cases b<;>cases a<;>first|exact⟨rfl,rfl⟩|exact h.elim
@[simp] theorem amq (a:D):cw 1 (.agg [a])=a.one:=by simp[cw]
@[simp] theorem Z7 (a b:D):cw 2 (.agg [a,b])=(a.one&&b.one):=by simp[cw]
@[simp] theorem Z8 (a b c d e:D):cw 5 (.agg [a,b,c,d,e])=(a.one&&(b.one&&(c.one&&(d.one&&e.one)))):=by simp[cw]
@[simp] theorem Z9 (a b c d e f:D):cw 6 (.agg [a,b,c,d,e,f])=(a.one&&(b.one&&(c.one&&(d.one&&(e.one&&f.one))))):=by simp[cw]
@[simp] theorem aaa (a b c d e f g:D):cw 7 (.agg [a,b,c,d,e,f,g])=(a.one&&(b.one&&(c.one&&(d.one&&(e.one&&(f.one&&g.one)))))):=by simp[cw]
@[simp] theorem aab (a b c d e f g h:D):cw 8 (.agg [a,b,c,d,e,f,g,h])=(a.one&&(b.one&&(c.one&&(d.one&&(e.one&&(f.one&&(g.one&&h.one))))))):=by simp[cw]
@[simp] theorem amr {a b c e f:D} {l:lZ}:ae (.agg (a::b::c::e::f::l)) 4=f:=rfl
@[simp] theorem ams {a b c e f g:D} {l:lZ}:ae (.agg (a::b::c::e::f::g::l)) 5=g:=rfl
@[simp] theorem amt {a b c e f g h:D} {l:lZ}:ae (.agg (a::b::c::e::f::g::h::l)) 6=h:=rfl
@[simp] theorem amu {a b c e f g h i:D} {l:lZ}:ae (.agg (a::b::c::e::f::g::h::i::l)) 7=i:=rfl
theorem aac{a:Type}{x y:Bool}{f:D->Option a}:af (cu (aD x) true (some (aD y))) (λv=>af (dQ (aD x) v (aD false)) f)=f (aD (x&&y)):=by cases x<;>rfl
theorem aad{a:Type}{x y:Bool}{f:D->Option a}:af (cu (aD x) false (some (aD y))) (λv=>af (dQ (aD x) (aD true) v) f)=f (aD (x||y)):=by cases x<;>rfl
inductive Fm where
 |mk (op:Int) (e:Tm) (nl:Bool) (aC:List Fm)
def T0:Tm:= .mk 0 0 ⟨#[]⟩ true []
def HF:T0.Ok:= .mk _ _ _ _ _ oZ oZ dZ sZ sZ
theorem BY:T0.d=D.agg [aa 0,aa 0,aA ⟨#[]⟩,D.val (.slice none 0 0)]:=rfl
namespace Fm
def op:Fm->Int| .mk o _ _ _=>o
def e:Fm->Tm| .mk _ t _ _=>t
def nl:Fm->Bool| .mk _ _ b _=>b
def aC:Fm->List Fm| .mk _ _ _ l=>l
mutual
def cells:Fm->lZ
 | .mk o t b ks=>[aa o,aa t.op,aa t.num,aA t.name,bM 4 t.nl (Tm.rows t.aC),bM 6 b (rows ks)]
def rows:List Fm->mW
 |[]=>[]|t::r=>cells t::rows r
end
def d(t:Fm):D:= .agg t.cells
mutual
def aO:Fm->Nat
 | .mk _ t _ ks=>2+t.aO+dp ks
def dp:List Fm->Nat
 |[]=>0|t::r=>1+aO t+dp r
end
def gM:∀l:List Fm,rows l=l.map cells
 |[]=>rfl|t::r=>by simp[rows,gM r]
@[simp] theorem tH {l:List Fm}:(rows l).length=l.length:=by simp[gM]
def BT{l:List Fm}{i:Nat}{t:Fm}(h:l[i]?=some t):(rows l)[i]?=some t.cells:=by simp[gM,h]
def e9{l:List Fm}{b:Bool}{i:Nat}{t:Fm}(h:l[i]?=some t):a8 6 (bM 6 b (rows l)) (aa (i:Int))=some t.cells:=by rw[Hv,BT h]
def w6:∀l:List Fm,l.length<=dp l
 |[]=>xaQ 0|t::r=>by simp only[dp,xal];have:=w6 r;omega
def w7:∀{l:List Fm}{t:Fm},t∈l->aO t+1<=dp l
 |a::r,t,h=>by
  simp only[dp];rcases xan.1 h with rfl|h
  .omega
  have:=w7 h;omega
theorem xd(t:Fm):t.aO=2+t.e.aO+dp t.aC:=by cases t;rfl
def gC{t k:Fm}(h:k∈t.aC):k.aO+3<=t.aO:=by have:=w7 h;have:=xd t;omega
def ie{t:Fm}:t.aC.length+2<=t.aO:=by have:=w6 t.aC;have:=xd t;omega
def xe{t:Fm}:t.e.aO+2<=t.aO:=by have:=xd t;omega
def ind{P:Fm->Prop}(h:∀t:Fm,(∀k∈t.aC,P k)->P t)(t:Fm):P t:=by
 have:∀(n:Nat)(t:Fm),t.aO<=n->P t:=by
  intro n
  induction n with
  |zero=>intro t a;cases t;simp[aO]at a
  |succ n ih=>intro t a;exact h t λk b=>ih k (by have:=gC b;omega)
 exact this _ t (xaQ _)
inductive Ok:Fm->Prop where
 |mk (o:Int) (t:Tm) (b:Bool) (ks:List Fm) (Hw:-9223372036854775808<=o/\o<=9223372036854775807) (amv:t.Ok) (ah:ks.length*88<=140737488355328) (FD:∀k∈ks,Ok k):Ok (.mk o t b ks)
def Ok.dx{t k:Fm}(h:Ok t)(a:k∈t.aC):Ok k:=by cases h with|mk o n s b ks d c aj=>exact aj k a
def Ok.len{t:Fm}(h:Ok t):t.aC.length*88<=140737488355328:=by cases h;assumption
def Ok.e{t:Fm}(h:Ok t):t.e.Ok:=by cases h;assumption
def Ok.op{t:Fm}(h:Ok t):-9223372036854775808<=t.op/\t.op<=9223372036854775807:=by cases h;assumption
theorem hU(t:Fm):t.cells=[aa t.op,aa t.e.op,aa t.e.num,aA t.e.name,bM 4 t.e.nl (Tm.rows t.e.aC),bM 6 t.nl (rows t.aC)]:=by cases t;rfl
theorem ha(t:Fm):t.d= .agg [aa t.op,aa t.e.op,aa t.e.num,aA t.e.name,bM 4 t.e.nl (Tm.rows t.e.aC),bM 6 t.nl (rows t.aC)]:=by cases t;rfl
@[simp] theorem jf (t:Fm):cw 6 t.d=true:=by rw[ha];simp
@[simp] theorem kW (t:Fm):ae t.d 0=aa t.op:=by rw[ha];rfl
@[simp] theorem ns (t:Fm):ae t.d 1=aa t.e.op:=by rw[ha];rfl
@[simp] theorem nt (t:Fm):ae t.d 2=aa t.e.num:=by rw[ha];rfl
@[simp] theorem me (t:Fm):ae t.d 3=aA t.e.name:=by rw[ha];rfl
@[simp] theorem aae (t:Fm):ae t.d 4=bM 4 t.e.nl (Tm.rows t.e.aC):=by rw[ha];rfl
@[simp] theorem aaf (t:Fm):ae t.d 5=bM 6 t.nl (rows t.aC):=by rw[ha];rfl
@[simp] theorem w8 (t:Fm):D.agg [aa t.op,aa t.e.op,aa t.e.num,aA t.e.name,bM 4 t.e.nl (Tm.rows t.e.aC),bM 6 t.nl (rows t.aC)]=t.d:=(ha t).symm
@[simp high] theorem Hx (t:Fm):aN true 6 0 t.cells=some t.d:=by rw[ha,hU];rfl
end Fm
attribute [go_sem] cG ln h9 lq ma aac aad BK BL kV w2 tA tB Hq Nt ZF tC lp w1 Hk Hl Zs Zt Zu ZT Zv Zw Zx Zy Zz ZU ZA Hm xbE xcs Zp ZB NF ZC ZD Nr xby xbl Bool.and_self xaE xaF Bool.not_true xca xaq NH ZW ZX Bool.or_true Bool.true_or Z7 ZY ZZ Z8 Z9 aaa aab NI NJ NK Zr Zq Tm.jf Tm.kW Tm.ns Tm.nt Tm.me Tm.w8 Tm.Hx Tm.tH Fm.jf Fm.kW Fm.ns Fm.nt Fm.me Fm.aae Fm.aaf Fm.w8 Fm.Hx Fm.tH
def iL:Nat->c4
 |0=> .stop|n+1=> .struct [.int .i64,gD (n+1),.slice 6 88 (iL n)]
def HG:∀(n m:Nat),m<=2*n->(iL n).e8 m=true
 |0,m,h=>by
         have:m=0:=oZ
         subst this;rfl
 |n+1,0,_=>rfl|n+1,1,_=>by simp[iL,c4.e8,lr]|n+1,m+2,h=>by have:=HG n m oZ;have ad:=tK (n+1) (m+1) oZ;simp only[iL,c4.e8,lr,this,ad,xby]
def NX{P:Program}{t s r q:TypeId}(ab:∀y z,c5 P (.struct [.int .i64,y,z]) t=(c5 P y r&&(c5 P z s&&true)))(ad:∀y,c5 P (.slice 6 88 y) s=c5 P y t)(ai:∀n,c5 P (gD n) r=true):∀n,c5 P (iL n) t=true
 |0=>rfl|n+1=>by rw[iL,ab,ad,NX (q:=q) ab ad ai n,ai];rfl
theorem aag{P:Program}{t s r q:TypeId}(ab:∀y z,c5 P (.struct [.int .i64,y,z]) t=(c5 P y r&&(c5 P z s&&true)))(ad:∀y,c5 P (.slice 6 88 y) s=c5 P y t) (ai:∀y,c5 P (.struct [.int .i64,.int .i64,.str,y]) r=(c5 P y q&&true)) (a:∀y,c5 P (.slice 4 56 y) q=c5 P y r) (ah:decide (t<P.types.size)=true):nr P iL t:=⟨λn=>HG n n oZ,NX (q:=q) ab ad (BX ai a),xbe ah,λn=>by cases n<;>rfl⟩
def NY:∀(n:Nat){x:lZ},iK (iL n) x->∃t:Fm,x=t.cells/\t.Ok
 |0,x,h=>h.elim|n+1,x,h=>by obtain⟨a,b,rfl,k,c,d,rfl,l,g,i,rfl,m,rfl⟩:=h;obtain⟨op,rfl,j⟩:=w5 k;obtain⟨t,rfl,o⟩:=rC (n+1) l;obtain⟨es,rfl,_,ah,e⟩:=m;obtain⟨ks,rfl,f⟩:=lu Fm.cells Fm.Ok es λx p=>NY n (e x p).2;refine⟨.mk op t false ks,?_,.mk _ _ _ _ j o (by simpa using xbK ah oZ) f⟩;simp[Fm.cells,Fm.gM,bM,Tm.hU]
structure a7 where
 name:ByteArray
 e:Tm
def a7.cells(d:a7):lZ:=[aA d.name,aa d.e.op,aa d.e.num,aA d.e.name,bM 4 d.e.nl (Tm.rows d.e.aC)]
def a7.d(d:a7):D:= .agg d.cells
def ay(l:List a7):D:= .aw 5 (l.map a7.cells)
def a7.Ok(d:a7):Prop:=d.name.size<=140737488351232/\d.e.Ok
section
variable{l:List a7}{i:Nat}{d:a7}
def dM(h:l[i]?=some d):a8 5 (ay l) (aa (i:Int))=some d.cells:=by simp[ay,h]
def nu(l:List a7):dK (ay l)=some (aa l.length):=by simp[ay]
attribute [go_sem] nu
@[simp] theorem a7.aah (d:a7):aN true 5 0 d.cells=some d.d:=rfl
@[simp] theorem a7.xa (d:a7):aN true 4 1 d.cells=some d.e.d:=by rw[Tm.ha];rfl
attribute [go_sem] a7.xa
@[simp] theorem a7.w9 (d:a7):aN false 1 0 d.cells=some (aA d.name):=rfl
attribute [go_sem] a7.w9
@[simp] theorem a7.agg (d:a7):cw 5 d.d=true:=by unfold a7.d a7.cells;simp
@[simp] theorem a7.bF (d:a7):ae d.d 0=aA d.name:=rfl
@[simp] theorem a7.c1 (d:a7):ae d.d 1=aa d.e.op:=rfl
@[simp] theorem a7.c2 (d:a7):ae d.d 2=aa d.e.num:=rfl
@[simp] theorem a7.b3 (d:a7):ae d.d 3=aA d.e.name:=rfl
@[simp] theorem a7.eM (d:a7):ae d.d 4=bM 4 d.e.nl (Tm.rows d.e.aC):=rfl
end
def cq(l:List a7)(x:ByteArray):Option Nat:=l.findIdx? (λd=>decide (d.name=x))
def HH{l:List a7}{x:ByteArray}{i:Nat}(h:cq l x=some i):∃d,l[i]?=some d/\d.name=x/\i<l.length:=by obtain⟨ab,ad,_⟩:=xbu.1 h;exact⟨_,xaa ab,by simpa using ad,ab⟩
def cg(l:lX):D:= .aw 1 (l.map λ(i:Nat)=>[aa (i:Int)])
def oG{l:lX}{i k:Nat}(h:l[i]?=some k):a8 1 (cg l) (aa (i:Int))=some [aa (k:Int)]:=by simp[cg,h]
def nv(l:lX):dK (cg l)=some (aa l.length):=by simp[cg]
def fe(l:mZ):D:= .aw 1 (l.map λx=>[cg x])
def aai{l:mZ}{i:Nat}{k:lX}(h:l[i]?=some k):a8 1 (fe l) (aa (i:Int))=some [cg k]:=by simp[fe,h]
def dO(M:List (Value×D))(S:lX):Prop:=kt M/\∀i:Nat,hb M (i:Int)=if i∈S then some (aD true)else none
theorem dO.nil:dO [] []:=⟨by(intro e a;cases a),λi=>rfl⟩
def dO.look{M:List (Value×D)}{S:lX}(h:dO M S){i:Nat}{z:Value}:gA (.int .i64) (.bool false) false M (aa (i:Int))=some (aD (decide (i∈S))):=by rw[HA h.1,h.2 i];by_cases ag:i∈S<;>simp[ag,lO]
def dO.put{M:List (Value×D)}{S:lX}(h:dO M S)(i:Nat):∃a,lf (.int .i64) M (aa (i:Int)) (aD true)=some a/\dO a (if i∈S then S else S++[i]):=by
 obtain⟨a,ab,ad,ai,_⟩:=NR h.1 (i:Int) (aD true);refine⟨a,ab,ad,λj=>?_⟩;rw[ai,h.2];by_cases b:j=i;.subst b;by_cases ag:j∈S<;>simp[ag]
 have:¬((j:Int)=(i:Int)):=oZ
 by_cases ag:i∈S<;>simp[this,ag,b]
def dO.mem{M:List (Value×D)}{S T:lX}(h:dO M S)(a:∀x,x∈S↔x∈T):dO M T:=⟨h.1,λi=>by rw[h.2];simp only[a i]⟩
def p5(n:Nat):c4:= .slice 5 72 (.struct [.str,gD n])
def NZ(n:Nat):∀m,m<=n->(p5 n).e8 m=true
 |0,_=>rfl|1,_=>by simp[p5,c4.e8]|m+2,h=>by have:=tK n m oZ;have:=tK n (m+1) oZ;have ad:c4.e8 m .str=true:=p4 m .str rfl;simp only[p5,c4.e8,lr, *,xby]
theorem aaj{P:Program}{t r q:TypeId}(ab:∀y,c5 P (.slice 5 72 (.struct [.str,y])) t=(c5 P y r&&true)) (ai:∀y,c5 P (.struct [.int .i64,.int .i64,.str,y]) r=(c5 P y q&&true)) (a:∀y,c5 P (.slice 4 56 y) q=c5 P y r) (ah:decide (t<P.types.size)=true):nr P p5 t:=⟨λn=>NZ n n (xaQ _),λn=>by rw[p5,ab,BX ai a n];rfl,xbe ah,λn=>rfl⟩
def N1{n:Nat}{x:lZ}(h:iK (.struct [.str,gD n]) x):∃d:a7,x=d.cells/\d.Ok:=by obtain⟨a,b,rfl,f,c,e,rfl,g,rfl⟩:=h;obtain⟨s,rfl,aj⟩:=BS f;obtain⟨t,rfl,i⟩:=rC n g;exact⟨⟨s,t⟩,by simp[a7.cells,Tm.hU],aj,i⟩
end Go.Am
