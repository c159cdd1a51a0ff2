/- From what a call is handed to data, and from an answer to the row. No condition. -/
import Derived.Test.YtjonbfbkkkcjgaaGreatDoorEngC
import Derived.ProofKit
import Derived.OpenShut
import Derived.KernelRfl
import Derived.Deep.DeepHandedRow
import Derived.Lib.LaidTab
import Derived.Test.YtjonbfbkkkcjgaaGreatDoorEngS
set_option linter.all false
set_option linter.unnecessarySimpa false
namespace Go.Am
open Go.ChangeShapes Go.WideShapes Go.ChangeAt Go.RowKit
inductive dc where
 |bool
 |int (k:IntKind)
 |str
 |slice (k bytes:Nat) (e:dc)
 |arr (n:Nat) (e:dc)
 |struct (aoh:List dc)
 |stop
mutual
def jq:dc->lZ->Prop
 | .bool,c=>∃b,c=[aE b]| .int k,c=>∃n,c=[.val (.int k n)]/\(Lit.int k n).wf=true| .str,c=>∃s,c=[aD s]/\s.size<=140737488351232| .slice k g e,c=>∃es:mW,c=[.aw k es]/\es.length<=maxLen/\es.length*g<=140737488351232/\∀x∈es,x.length=k/\jq e x| .arr n e,c=>∃d:mW,c=d.flatten/\d.length=n/\∀x∈d,jq e x| .struct h,c=>C3 h c| .stop,_=>False
def C3:List dc->lZ->Prop
 |[],c=>c=[]|f::h,c=>∃a b,c=a++b/\jq f a/\C3 h b
end
mutual
def rd{H:Type}:dc->DataW H->oY
 | .bool,.lit (.bool b)=>some [aE b]| .int _,.lit (.int k n)=>some [.val (.int k n)]| .str,.lit (.string l)=>some [aD ⟨l.toArray⟩]| .slice k _ _,.nil=>some [.aw k []]| .slice k _ e,.slice es _=>(es.mapM (rd e)).map λh=>[.aw k h]| .arr _ e,.agg es=>(es.mapM (rd e)).map List.flatten| .struct c,.agg es=>fw c es|_,_=>none
def fw{H:Type}:List dc->List (DataW H)->oY
 |[],[]=>some []|f::c,d::g=>(rd f d).bind λa=>(fw c g).map (a++·)|_,_=>none
end
mutual
def dd(P:Program):dc->TypeId->Bool
 | .bool,t=>match P.underlying t with|some .bool=>true|_=>false
 | .int k,t=>match P.underlying t with|some (.int g)=>decide (k=g)|_=>false
 | .str,t=>match P.underlying t with|some .string=>true|_=>false
 | .stop,_=>true| .slice k b e,t=>match P.underlying t with|some (.slice a)=>decide (P.cellsOf a=k)&&decide (0<k)&&decide (P.bytesOf a=b)&&dd P e a|_=>false
 | .arr n e,t=>match P.underlying t with|some (.array h a)=>decide (n=h)&&decide (P.cellsOf t=n*P.cellsOf a)&&dd P e a|_=>false
 | .struct c,t=>match P.underlying t with|some (.struct d)=>sn P c d.toList 0 (P.cellsOf t)|_=>false
def sn(P:Program):List dc->List Field->Nat->Nat->Bool
 |[],[],off,n=>decide (off=n)|f::c,x::xs,off,n=>decide (x.offset=off)&&dd P f x.type&&sn P c xs (off+P.cellsOf x.type) n|_,_,_,_=>false
end
mutual
def dc.fx:Nat->dc->Bool
 |0,_=>true|_+1,.stop=>false|n+1,.slice _ _ e=>e.fx n|n+1,.arr _ e=>e.fx n|n+1,.struct a=>l7 n a|_+1,_=>true
def l7:Nat->List dc->Bool
 |_,[]=>true|n,f::a=>f.fx n&&l7 n a
end
def Rel(m:Mem):lZ->List Value->Prop
 |[],[]=>True|d::a,v::vs=>D.one d=true/\bM m d v/\Rel m a vs|_,_=>False
def Rel.len{m:Mem}:∀{a:lZ}{vs:List Value},Rel m a vs->vs.length=a.length
 |[],[],_=>rfl|_::_,_::_,h=>by simp[Rel.len h.2.2]|[],_::_,h=>h.elim|_::_,[],h=>h.elim
def Rel.at{m:Mem}:∀{b:lZ}{vs:List Value},Rel m b vs->∀(i:Nat)(d:D),b[i]?=some d->∃v,vs[i]?=some v/\D.one d=true/\bM m d v
 |[],[],_,i,d,h=>by simp at h|x::b,v::vs,h,0,d,a=>by simp at a;subst a;exact⟨v,rfl,h.1,h.2.1⟩|_::_,_::_,h,i+1,d,a=>by simpa using Rel.at h.2.2 i d (by simpa using a)|[],_::_,h,_,_,_=>h.elim|_::_,[],h,_,_,_=>h.elim
def Rel.append{m:Mem}:∀{d:lZ}{vs:List Value}{a:lZ}{b:List Value},Rel m d vs->Rel m a b->Rel m (d++a) (vs++b)
 |[],[],_,_,_,c=>c|_::_,_::_,_,_,h,c=>⟨h.1,h.2.1,Rel.append h.2.2 c⟩|[],_::_,_,_,h,_=>h.elim|_::_,[],_,_,h,_=>h.elim
def Rel.one{m:Mem}:∀{a:lZ}{vs:List Value},Rel m a vs->a.all D.one=true
 |[],[],_=>rfl|_::_,_::_,h=>by simp only[xbc,h.1,Rel.one h.2.2,Bool.and_self]|[],_::_,h=>h.elim|_::_,[],h=>h.elim
def Jc{c:Type}:∀(n:Nat)(Q:Nat->c->Prop),(∀i,i<n->∃y,Q i y)->∃a:List c,a.length=n/\∀(i:Nat)(y:c),a[i]?=some y->Q i y
 |0,_,_=>⟨[],rfl,by intro i y h;simp at h⟩
 |n+1,Q,h=>by obtain⟨a,ab,ae⟩:=Jc n (λi=>Q (i+1)) λi ag=>h (i+1) oZ;obtain⟨y,d⟩:=h 0 oZ;refine⟨y::a,by simp[ab],?_⟩;intro i z b;cases i with|zero=>simp at b;subst b;exact d|succ i=>exact ae i z (by simpa using b)
def Jd{a b:Type}(f:a->Option b):∀(l:List a)(r:List b),r.length=l.length->(∀(i:Nat)(x:a)(y:b),l[i]?=some x->r[i]?=some y->f x=some y)->l.mapM f=some r
 |[],[],_,_=>rfl|x::l,y::r,ah,h=>by have ak:=h 0 x y rfl rfl;have ih:=Jd f l r (by simpa using ah) λi x y c d=>h (i+1) x y (by simpa using c) (by simpa using d);simp[List.mapM_cons,ak,ih]|[],_::_,h,_=>by simp at h|_::_,[],h,_=>by simp at h
section
variable{H:Type}{enc:TypeId×Value->H}{P:Program}{w:World}{base:Nat}{spare:Nat->Bool}{held:Bool}
def pieces{m:Mem}{c:Nat}{cs:List Value}:∀(a:mW) (o:Nat),(∀(i:Nat)(x:lZ),a[i]?=some x->Rel m x ((cs.drop (o+i*c)).take c))->(o+a.length*c=cs.length)->Rel m a.flatten (cs.drop o)
 |[],o,_,ah=>by have:cs.drop o=[]:=xcw (by simp at ah;omega);rw[this];trivial
 |x::r,o,h,ah=>by
  have b:o+c+r.length*c=cs.length:=by simp only[xal,xba]at ah;omega
  have ak:=h 0 x rfl;have ih:=pieces (m:=m) (cs:=cs) (c:=c) r (o+c) (λi x d=>by have:=h (i+1) x (by simpa using d);rw[show o+c+i*c=o+(i+1)*c by rw[xba];omega];exact this) b
  have e:cs.drop o=(cs.drop o).take c++cs.drop (o+c):=by
   conv=>lhs;rw[<-xbK c (cs.drop o)]
   rw[List.drop_drop]
  rw[e,List.flatten_cons];refine Rel.append ?_ ih;simpa using ak
def Je{H:Type}{P:Program}{e:TypeId}:∀{l:List (DataW H)} {x:DataW H} {y:Nat},x∈l->y∈x.weights P e->y∈DataW.weightsAll P e l
 |a::r,x,y,b,c=>by
  simp only[DataW.weightsAll,xar];rcases xam.1 b with rfl|b
  .exact .inl c
  exact .inr (Je b c)
def PB(m:Mem)(fB:∀b o,w.heap[b]?=some o->m b=some o):∀(n:Nat)(ty:dc)(t:TypeId)(cs:List Value)(x:DataW H×List MemPlace),dd P ty t=true->ty.fx n=true->(x.1.weights P t).all (·<=reachBytes)=true->DataW.trod enc P w base spare held n t cs=some x-> ∃l,rd ty x.1=some l/\jq ty l/\Rel m l cs:=by
 intro n
 induction n with
 |zero=>intro ty t cs x _ _ _ h;simp[DataW.trod]at h
 |succ n ih=>
  intro ty t cs x d E B h;cases ty with
  |stop=>simp[dc.fx]at E
  |bool=>
   simp only[dd]at d;split at d;.obtain⟨b,rfl,rfl⟩:=DataW.trod_bool ‹_› h;exact⟨[aE b],rfl,⟨b,rfl⟩,rfl,.val _,trivial⟩
   cases d
  |int k=>
   simp only[dd]at d;split at d;.have:=xbb d;subst this;obtain⟨z,rfl,rfl,dR⟩:=DataW.trod_int ‹_› h;exact⟨[.val (.int k z)],rfl,⟨z,rfl,dR⟩,rfl,.val _,trivial⟩
   cases d
  |str=>
   simp only[dd]at d;split at d
   .obtain⟨s,rfl,rfl,dR⟩:=DataW.trod_string ‹_› h;refine⟨[aD s],?_,⟨s,rfl,?_⟩,rfl,.val _,trivial⟩;.simp[rd]
    simp only[DataW.weights,xbc,xcf,xbA,xaC]at B;simp only[reachBytes]at B;simpa using B
   cases d
  |slice k fg e=>
   simp only[dd]at d;split at d
   .rename_i C hu;simp only[xan,xaC]at d;obtain⟨⟨⟨cC,cx⟩,b3⟩,b0⟩:=d;subst cC;subst b3;simp only[dc.fx]at E;rcases DataW.trod_slice hu h with⟨rfl,rfl⟩|⟨a,len,cap,A,rest,dD,X,rfl,rfl,ix,gD,dE,gd,r,_,_⟩
    .exact⟨[.aw _ []],rfl,⟨[],rfl,by simp,by simp,by simp⟩,rfl,.hX _ _ _,trivial⟩
    cases X;simp only[DataW.weights,hu,xbc,List.all_append,xan,xaU,reachBytes]at B;obtain⟨F,cU,_⟩:=B;have each:∀i,i<len->∃l,∃x,A[i]?=some x/\rd e x.1=some l/\jq e l/\∃c,w.cells? base (a.add (i*P.cellsOf C)) (P.cellsOf C)=some c/\Rel m l c:=by
     intro i ag;have ab:=r i ag;rw[xaa oZ]at ab;obtain⟨c,ae,ai⟩:=xaT.1 ab;have R:((A[i]'oZ).1.weights P C).all (·<=reachBytes)=true:=by refine xay.2 λy S=>xay.1 cU y ?_;exact Je (xaK.2 ⟨_,xaW _,rfl⟩) S
     obtain⟨l,g1,g2,g3⟩:=ih e C c _ b0 E R ai;exact⟨l,_,xaa oZ,g1,g2,c,ae,g3⟩
    obtain⟨es,ah,u⟩:=Jc len _ each;have I:∀(i:Nat)(l:lZ),es[i]?=some l->l.length=P.cellsOf C:=by intro i l ag;obtain⟨_,_,_,_,c,U,V⟩:=u i l ag;rw[<-V.len];exact(World.cells?_some U).2.1
    refine⟨[.aw (P.cellsOf C) es],?_,⟨es,rfl,by omega,?_,?_⟩,rfl,?_,trivial⟩
    .simp only[rd];rw[Jd (rd e) (A.map (·.1)) es uZ];.rfl
     intro i x y G S;obtain⟨z,ab,ae,_⟩:=u i y S;simp[ab]at G;rw[<-G];exact ae
    .have:es.length<=A.length+rest.length:=oZ
     exact xbJ (xaB _ this) (xbb F)
    .intro x G;obtain⟨i,ag,rfl⟩:=List.getElem_of_mem G;obtain⟨_,_,_,g2,_⟩:=u i _ (xaa ag);exact⟨I i _ (xaa ag),g2⟩
    by_cases ak:len=0;.subst ak;have:es=[]:=xaO ah;subst this;exact .hX _ _ _
    have Y:∀(i:Nat)(l:lZ),es[i]?=some l->∀j,j<P.cellsOf C->w.cell? ((a.add (i*P.cellsOf C)).add j)≠none:=by intro i l ag j N;obtain⟨_,_,_,_,c,U,V⟩:=u i l ag;obtain⟨_,hC,cK⟩:=World.cells?_some U;rw[cK j N,xaa oZ];simp
    have p:=Y 0 _ (xaa oZ) 0 cx;simp only[Nat.zero_mul,Addr.add,xaD]at p;obtain⟨b,off,spot⟩:=a;unfold World.cell? at p;cases aX:w.heap[b]? with
    |none=>simp[aX]at p
    |some o=>
     cases o with
     |cells vs T eU=>
      simp only[aX]at p;have Q:spot=none:=by cases spot with|none=>rfl|some s=>simp at p
      subst Q;have cellAt:∀q,w.cell? ⟨b,q,none⟩=vs[q]?:=by intro q;simp[World.cell?,aX]
      have O:∀q,(⟨b,off,none⟩:Addr).add q=⟨b,off+q,none⟩:=by intro q;unfold Addr.add;split<;>simp_all
      have K:∀o q,(⟨b,o,none⟩:Addr).add q=⟨b,o+q,none⟩:=by intro o q;unfold Addr.add;split<;>simp_all
      have key:∀(i:Nat)(l:lZ)(j:Nat)(c:D),es[i]?=some l->l[j]?=some c->∃v,vs[off+i*P.cellsOf C+j]?=some v/\bM m c v:=by
       intro i l j c ag N;obtain⟨_,_,_,_,dg,U,V⟩:=u i l ag;obtain⟨_,hC,cK⟩:=World.cells?_some U;obtain⟨v,c3,_,df⟩:=V.at j c N;have cA:j<P.cellsOf C:=by rw[<-I i l ag];exact(lV.1 N).1
       refine⟨v,?_,df⟩;rw[<-c3,<-cK j cA,O,K,cellAt]
      rw[<-ah];refine .aw _ es b off cap vs T eU (fB _ _ aX) ?_ oZ (λi j=>(vs[off+i*P.cellsOf C+j]?).getD undef) ?_ ?_;.intro x G;obtain⟨i,ag,rfl⟩:=List.getElem_of_mem G;obtain⟨_,_,_,_,_,_,V⟩:=u i _ (xaa ag);exact⟨I i _ (xaa ag),V.one⟩
      .intro i l j c ag N;obtain⟨v,ab,_⟩:=key i l j c ag N;simp[ab]
      intro i l j c ag N;obtain⟨v,ab,ae⟩:=key i l j c ag N;simpa[ab]using ae
     |_=>simp[aX]at p
   cases d
  |arr k e=>
   simp only[dd]at d;split at d
   .rename_i j0 C hu;simp only[xan,xaC]at d;obtain⟨⟨cC,U⟩,b0⟩:=d;subst cC;obtain⟨bX,dD,X,rfl,W,Z,r⟩:=DataW.trod_array hu h;cases X;simp only[dc.fx]at E;simp only[DataW.weights,hu]at B;have each:∀i,i<k->∃l,∃x,bX[i]?=some x/\rd e x.1=some l/\jq e l/\Rel m l ((cs.drop (i*P.cellsOf C)).take (P.cellsOf C)):=by
     intro i ag;have ab:=r i ag;rw[xaa oZ]at ab;have R:((bX[i]'oZ).1.weights P C).all (·<=reachBytes)=true:=by refine xay.2 λy S=>xay.1 B y ?_;exact Je (xaK.2 ⟨_,xaW _,rfl⟩) S
     obtain⟨l,g1,g2,g3⟩:=ih e C _ _ b0 E R ab;exact⟨l,_,xaa oZ,g1,g2,g3⟩
    obtain⟨es,ah,u⟩:=Jc k _ each;refine⟨es.flatten,?_,⟨es,rfl,ah,?_⟩,?_⟩
    .simp only[rd];rw[Jd (rd e) (bX.map (·.1)) es uZ];.rfl
     intro i x y G S;obtain⟨z,ab,ae,_⟩:=u i y S;simp[ab]at G;rw[<-G];exact ae
    .intro x G;obtain⟨i,ag,rfl⟩:=List.getElem_of_mem G;obtain⟨_,_,_,g2,_⟩:=u i _ (xaa ag);exact g2
    have:=pieces (m:=m) (c:=P.cellsOf C) (cs:=cs) es 0 (λi x G=>by obtain⟨_,_,_,_,g3⟩:=u i x G;simpa using g3) (by rw[ah];omega);simpa using this
   cases d
  |struct L=>
   simp only[dd]at d;split at d
   .rename_i b5 hu;obtain⟨bX,dD,X,rfl,W,Z,r⟩:=DataW.trod_struct hu h;cases X;simp only[dc.fx]at E;simp only[DataW.weights,hu]at B;have go:∀(L:List dc)(gs:List Field)(J:List (DataW H×List MemPlace)) (off:Nat),sn P L gs off (P.cellsOf t)=true->l7 n L=true->(DataW.weightsEach P (gs.map (·.type)) (J.map (·.1))).all (·<=reachBytes)=true->J.length=gs.length->(∀(i:Nat)(f:Field),gs[i]?=some f->DataW.trod enc P w base spare held n f.type ((cs.drop f.offset).take (P.cellsOf f.type))=J[i]?)-> ∃l,fw L (J.map (·.1))=some l/\C3 L l/\Rel m l (cs.drop off):=by
     intro L
     induction L with
     |nil=>intro gs J off ab M F ae ai;cases gs with|nil=>simp only[sn,xaC]at ab;have:J=[]:=xaO ae;subst this;refine⟨[],rfl,rfl,?_⟩;rw[xcw oZ];trivial|cons _ _=>simp[sn]at ab
     |cons f L de=>
      intro gs J off ab M F ae ai;cases gs with
      |nil=>simp[sn]at ab
      |cons g gs=>
       cases J with
       |nil=>simp at ae
       |cons y J=>
        simp only[sn,xan,xaC]at ab;obtain⟨⟨eW,ff⟩,fs⟩:=ab;simp only[l7,xan]at M;simp only[xaw,DataW.weightsEach,List.all_append,xan]at F;obtain⟨a,aG,a2,a3⟩:=ih f g.type _ y ff M.1 F.1 (ai 0 g rfl);obtain⟨b,eV,ek,eI⟩:=de gs J _ fs M.2 F.2 (by simpa using ae) (λi f ck=>by simpa using ai (i+1) f (by simpa using ck));refine⟨a++b,by simp[fw,aG,eV],⟨a,b,rfl,a2,ek⟩,?_⟩;have e:cs.drop off=(cs.drop off).take (P.cellsOf g.type)++cs.drop (off+P.cellsOf g.type):=by
         conv=>lhs;rw[<-xbK (P.cellsOf g.type) (cs.drop off)]
         rw[List.drop_drop]
        rw[e];refine Rel.append ?_ eI;rw[<-eW];exact a3
    obtain⟨l,g1,g2,g3⟩:=go L b5.toList bX 0 d E B (by simpa using Z) (λi f ck=>r i f (by simpa using ck));exact⟨l,g1,g2,by simpa using g3⟩
   cases d
end
open Go.ChangeShapes Go.WideShapes Go.ChangeAt Go.RowKit
def so:dc->D->Prop
 | .struct b,d=>∃a,d= .agg a/\C3 b a| .arr _ _,_=>False|ty,d=>jq ty [d]
def qL{H:Type}(ty:dc)(x:DataW H)(d:D):Prop:=match ty with| .struct b=>∃a,d= .agg a/\rd (.struct b) x=some a|ty=>rd ty x=some [d]
abbrev na:=Nat->dc
def yn(t:dc):na:=λ_=>t
mutual
def n4:dc->Bool
 | .stop=>false| .slice _ _ e=>n4 e| .arr _ e=>n4 e| .struct a=>C4 a|_=>true
def C4:List dc->Bool
 |[]=>true|f::a=>n4 f&&C4 a
end
mutual
def qM:∀(n:Nat)(t:dc),n4 t=true->t.fx n=true
 |0,t,_=>by cases t<;>rfl
 |n+1,.stop,h=>by simp[n4]at h|n+1,.slice _ _ e,h=>by rw[n4]at h;rw[dc.fx];exact qM n e h|n+1,.arr _ e,h=>by rw[n4]at h;rw[dc.fx];exact qM n e h|n+1,.struct a,h=>by rw[n4]at h;rw[dc.fx];exact PC n a h|n+1,.bool,_=>rfl|n+1,.int _,_=>rfl|n+1,.str,_=>rfl
def PC:∀(n:Nat)(t:List dc),C4 t=true->l7 n t=true
 |n,[],_=>by cases n<;>rfl
 |n,f::a,h=>by rw[C4,xan]at h;rw[l7,qM n f h.1,PC n a h.2];rfl
end
def PD:dc->Bool
 | .arr _ _=>false|_=>true
structure n5(P:Program)(F:na)(t:TypeId):Prop where
 deep:∀n,(F n).fx n=true
 ok:∀n,dd P (F n) t=true
 lt:t<P.types.size
 abV:∀n,PD (F n)=true
def PE{P:Program}{y:dc}{t:TypeId}(h:(n4 y&&PD y&&dd P y t&&decide (t<P.types.size))=true):n5 P (yn y) t:=by simp only[xan,xaC]at h;exact⟨λn=>qM n y h.1.1.1,λ_=>h.1.2,h.2,λ_=>h.1.1.2⟩
def uJ(P:Program):List na->List TypeId->Prop
 |[],[]=>True|F::Fs,t::ts=>n5 P F t/\uJ P Fs ts|_,_=>False
def uJ.lt{P:Program}:∀{Fs:List na}{ts:List TypeId},uJ P Fs ts->∀t∈ts,t<P.types.size
 |[],[],_,t,h=>by simp at h
 |F::Fs,u::ts,h,t,a=>by
  rcases xam.1 a with rfl|a;.exact h.1.lt
  exact uJ.lt h.2 t a
 |[],_::_,h,_,_=>h.elim|_::_,[],h,_,_=>h.elim
def l8{H:Type}:List na->List (DataW H)->lZ->Prop
 |[],[],[]=>True|F::Fs,x::xs,d::a=>(∃n,qL (F n) x d/\so (F n) d)/\l8 Fs xs a|_,_,_=>False
section
variable{H:Type}{enc:TypeId×Value->H}{P:Program}{w:World}
def C5{m:Mem}{a:lZ}{v:Value}(h:Rel m a [v]):∃d,a=[d]/\bM m d v:=by cases a with|nil=>exact h.elim|cons d r=>cases r with|nil=>exact⟨d,rfl,h.2.1⟩|cons _ _=>exact h.2.2.elim
def abW{m:Mem}{a:lZ}{cs:Array Value}(h:Rel m a cs.toList):bM m (.agg a) (.agg cs):=by
 refine .agg _ _ (by simpa using h.len) ?_;intro i c v b d;obtain⟨u,ab,_,ae⟩:=h.at i c b;have:cs[i]?=some u:=by simpa using ab
 rw[d]at this;cases this;exact ae
def abX(m:Mem)(A:∀(b:Nat)(o:Obj),w.heap[b]?=some o->m b=some o){r:Reach}{y base:Nat}{sp:Nat->Bool}{held:Bool}{F:na}{t:TypeId}{v:Value}{x:DataW H}{B:List MemPlace} (j:n5 P F t) (s:(x.weights P t).all (·<=reachBytes)=true) (g:Value.okWide P w r y t v) (h:DataW.Trod enc P w base sp held t v x B):∃d n,qL (F n) x d/\so (F n) d/\bM m d v:=by
 obtain⟨n,u⟩:=h;have f:=j.ok n;have q:=j.abV n;obtain⟨p,ab,ae,ai⟩:=PB m A n (F n) t _ _ f (j.deep n) s u
 suffices h:∃d,qL (F n) x d/\so (F n) d/\bM m d v from let⟨d,a⟩:=h;⟨d,n,a⟩
 clear j u;generalize F n=ty at*;cases ty with
 |bool=>
  simp only[dd]at f;split at f;.obtain⟨b,rfl⟩:=okWide_bool ‹_› g;obtain⟨d,rfl,i⟩:=C5 ai;exact⟨d,ab,ae,i⟩
  cases f
 |int k=>
  simp only[dd]at f;split at f;.obtain⟨b,rfl⟩:=okWide_int ‹_› g;obtain⟨d,rfl,i⟩:=C5 ai;exact⟨d,ab,ae,i⟩
  cases f
 |str=>
  simp only[dd]at f;split at f;.obtain⟨b,rfl⟩:=okWide_string ‹_› g;obtain⟨d,rfl,i⟩:=C5 ai;exact⟨d,ab,ae,i⟩
  cases f
 |stop=>exact(by simpa[jq]using ae:False).elim
 |slice k z e=>
  simp only[dd]at f;split at f;.obtain⟨a,l,c,rfl⟩:=okWide_slice ‹_› g;obtain⟨d,rfl,i⟩:=C5 ai;exact⟨d,ab,ae,i⟩
  cases f
 |arr n e=>cases q
 |struct C=>
  simp only[dd]at f;split at f;.obtain⟨cs,rfl,_⟩:=okWide_struct ‹_› g;exact⟨.agg p,⟨p,rfl,ab⟩,⟨p,rfl,ae⟩,abW ai⟩
  cases f
def PF(m:Mem)(z:∀(b:Nat)(o:Obj),w.heap[b]?=some o->m b=some o){r:Reach}{A base:Nat}{sp:Nat->Bool}{held:Bool}:∀{Fs:List na}{ts:List TypeId}{vs:List Value}{g:List (DataW H)} {s:List MemPlace},uJ P Fs ts->(DataW.weightsEach P ts g).all (·<=reachBytes)=true->(∀(j:Nat) t v,ts[j]?=some t->vs[j]?=some v->Value.okWide P w r A t v)->DataW.TrodAll enc P w base sp held ts vs g s-> ∃k,l8 Fs g k/\j1 m k vs
 |[],[],vs,g,s,_,_,_,h=>by obtain⟨rfl,rfl,rfl⟩:=trodAll_nil h;exact⟨[],trivial,rfl,by intro i d v C;simp at C⟩
 |F::Fs,t::ts,vs,g,s,f,e,a,h=>by obtain⟨v,G,x,I,p,q,rfl,rfl,rfl,ab,ae⟩:=trodAll_cons h;simp only[DataW.weightsEach,List.all_append,xan]at e;obtain⟨d,n,d1,d2,d3⟩:=abX m z f.1 e.1 (a 0 t v rfl rfl) ab;obtain⟨k,B,y⟩:=PF m z f.2 e.2 (λj t v D E=>a (j+1) t v (by simpa using D) (by simpa using E)) ae;refine⟨d::k,⟨⟨n,d1,d2⟩,B⟩,by simpa using y.1,?_⟩;intro i c u l hu;cases i with|zero=>simp at l hu;subst l;subst hu;exact d3|succ i=>exact y.2 i c u (by simpa using l) (by simpa using hu)
 |[],_::_,_,_,_,h,_,_,_=>h.elim|_::_,[],_,_,_,h,_,_,_=>h.elim
def again{W c:World}(f:∀(b:Nat)(o:Obj),W.heap[b]?=some o->c.heap[b]?=some o)(ah:laidOutB P=true)(l:mapsRowed P=true) (r:((List.range P.types.size).all λt=>match P.underlying t with|some (.slice e)=>decide (0<P.cellsOf e)|_=>true)=true) {sp:Nat->Bool}: ∀{ts:List TypeId}{vs:List Value}{j:List (DataW H)} {i:List MemPlace},(∀t∈ts,t<P.types.size)->DataW.TrodAll enc P W 0 (λ_=>true) true ts vs j i->(∀p∈i,p.block<W.heap.size)->(∀p∈i,sp p.block=true)->DataW.TrodAll enc P c 0 sp true ts vs j i
 |[],[],[],_,_,h,_,_=>h
 |t::ts,v::vs,d::j,_,m,⟨p,q,⟨n,ab⟩,ae,e⟩,g,aj=>by
  refine⟨p,q,⟨n,?_⟩,again f ah l r (λt h=>m t (by simp[h])) ae (λx a=>g x (by rw[e];exact xbT _ a)) (λx a=>aj x (by rw[e];exact xbT _ a)),e⟩;refine DataW.trod_stays (kids_rows ah l) (λ{t e} ab ae=>slices_full_of P r t e ab ae) (λh=>by cases h) (m t sZ) ab ?_ (λx a=>aj x (by rw[e];exact xaZ _ a));intro x a;have k:=g x (by rw[e];exact xaZ _ a);have aX:c.heap[x.block]?=W.heap[x.block]?:=by rw[xaj k];exact f _ _ (xaj k)
  cases x with
  |cell b off=>show c.cell? ⟨b,off,none⟩=W.cell? ⟨b,off,none⟩;unfold World.cell?;rw[show c.heap[b]?=W.heap[b]? from aX]
  |map b=>exact aX
def C6(W:World):dr:=⟨λ_=>none,W.os,W.output,W.heap.size⟩
theorem abY(W:World):gl (λb=>W.heap[b]?) (C6 W) W:=by refine⟨λb o h=>h,⟨λb o h=>by simp[C6]at h,rfl,rfl,xaR _⟩,λ_ _=>rfl⟩
def abZ{W d:World}{j:Mem}(g:(show Mem fromλb=>W.heap[b]?).le j)(h:gl j (C6 W) d):
  W.keptBut d (λ_=>False)/\(∀a:Addr,a.block<W.heap.size->d.frozen? a=W.frozen? a)/\(∀(b:Nat)(o:Obj),W.heap[b]?=some o->d.heap[b]?=some o):=by
 have aX:∀(b:Nat)(o:Obj),W.heap[b]?=some o->d.heap[b]?=some o:=λb o e=>h.mem b o (g b o e);refine⟨⟨h.frame.quiet.os,h.frame.quiet.out,λi ag=>?_⟩,λa k=>?_,aX⟩
 .have ab:=xaj ag;have ae:=aX i _ ab;rw[ab,ae];split
  .rename_i f c;rw[f]at c;simp only[xaE,Obj.cells.injEq]at c;obtain⟨rfl,rfl,rfl⟩:=c;exact⟨rfl,rfl,rfl,λ_ _=>rfl⟩
  .rename_i f c;rw[f]at c;simp only[xaE,Obj.map.injEq]at c;exact Or.inr ⟨c.1.symm,c.2.symm⟩
  rfl
 .unfold World.frozen?;have e:=xaj k;rw[e,aX _ _ e]
section
open DataW
def ab0{f:Func}{s:ChangeSpec}{apart fresh handsOn again:Bool}{W i:World}{args:Array Value}{v:Value}{l gs:List (DataW H)}{before pa pv:List MemPlace} (n:DataW.Whole enc P f.params.toList s.vars apart W args.toList l gs before) (h:∀(b:Nat)(sp:Nat->Bool)(x:Bool),DataW.TrodAll enc P i b sp x f.resultTypes.toList (v.resultList f.resultTypes.size) (s.fn H (l++gs)).results []) (c:∀sp:Nat->Bool,(∀p∈before,sp p.block=true)->DataW.TrodAll enc P i 0 sp true f.params.toList args.toList (s.fn H (l++gs)).args pa) (e:∀sp:Nat->Bool,(∀p∈before,sp p.block=true)->DataW.TrodVars enc P i sp s.vars (s.fn H (l++gs)).vars pv) (g:before=pa++pv) (y:W.keptBut i (·∈before)) (o:∀a:Addr,a.block<W.heap.size->i.frozen? a=W.frozen? a) (q:∀(j:Nat)(t:TypeId)(r:Value),f.resultTypes[j]?=some t->(v.resultList f.resultTypes.size)[j]?=some r->Value.okWide P i .any 0 t r):s.post enc P f apart fresh handsOn again W args v i:=by
 have k:=n.lt;refine⟨l,gs,before,[],pa,pv,n,h _ _ _,c _ λp d=>by simpa using k p d,e _ λp d=>by simpa using k p d,World.keptBut_mono (λp d=>⟨d,?_⟩) y,λ_=>?_⟩;.rw[g,xar]at d;exact .inr d
 obtain⟨_,_,_,_,_,A,z⟩:=n;refine⟨q,_,_,([]++pa)++pv,⟨[]++pa,pv,trodAll_append (c _ λ_ _=>rfl) (h _ _ _),e _ λ_ _=>rfl,rfl,?_,?_⟩,?_⟩
 .intro b off d;have m:MemPlace.cell b off∈before:=by rw[g];simpa using d
  rw[o _ (k _ m)];exact A b off m
 .intro u;have:=z u;rw[g]at this;simpa using this
 intro p d _;rw[g];simpa using d
end
def PG{G:cj}{f:FuncId}{fn:Func}{s:ChangeSpec}{Fs:List na}{tr:TypeId}{W:World}{base:Nat}{args:Array Value}{c gs:List (DataW H)}{before:List MemPlace} (ah:laidOutB P=true) (X:mapsRowed P=true) (b5:((List.range P.types.size).all λt=>match P.underlying t with|some (.slice e)=>decide (0<P.cellsOf e)|_=>true)=true) (B:uJ P Fs fn.params.toList) (l:fn.resultTypes= #[tr]) (A:P.underlying tr=some .bool) (g:s.vars=[]) (aj:∀c:List (DataW H),c.length=Fs.length->s.fn H c=⟨[.lit (.bool true)],c,[]⟩) (u:∀a,l8 Fs c a->cF P G f a (·=aE true)) (S:gk G (λb:Nat=>W.heap[b]?)) {R:List TypeId} (K:R=[]) (E:(DataW.weightsEach P (fn.params.toList++R) (c++gs)).all (·<=reachBytes)=true) (C:∀(j:Nat) t v,fn.params[j]?=some t->args[j]?=some v->Value.okWide P W .any base t v) (Q:DataW.Whole enc P fn.params.toList s.vars false W args.toList c gs before):Calls P f args W λe M=>∃v,e= .returned v/\s.post enc P fn false true false false W args v M:=by
 have m:=Q;obtain⟨p,q,N,O,rfl,V,Y⟩:=Q;rw[g]at O;obtain⟨rfl,rfl⟩:=trodVars_none O;subst K;rw[xat,xat]at E;obtain⟨a,d1,d3⟩:=PF (λb=>W.heap[b]?) (λb o h=>h) B E (λj t v bX I=>C j t v (by simpa using bX) (by simpa using I)) N;have U:=(u a d1).run (λb=>W.heap[b]?) (C6 W) W args.toList S (abY W) d3;have n:c.length=Fs.length:=by
  have:∀(i:List na)(c:List (DataW H)) (a:lZ),l8 i c a->c.length=i.length:=by
   intro i
   induction i with
   |nil=>intro c a h;cases c<;>cases a<;>simp_all [l8]
   |cons y i ih=>
    intro c a h;cases c with
    |nil=>cases a<;>simp[l8]at h
    |cons x c=>cases a with|nil=>simp[l8]at h|cons d a=>simp[ih c a h.2]
  exact this _ _ _ d1
 refine U.mono λe M ⟨v,b0,r,he,Z,hle,T,I⟩=>?_;subst Z;have J:v= .bool true:=by cases I;rfl
 subst J;obtain⟨bS,cy,fo⟩:=abZ hle T;have F:=m.lt;refine⟨_,he,?_⟩;have k:=aj (c++[]) (by simpa using n);simp only[xat]at k;refine ab0 (pa:=p) (pv:=[]) m (λb sp b3=>?_) (λsp z=>?_) (λsp z=>?_) rfl (World.keptBut_mono (λ_ h=>h.elim) bS) cy (ok_one l rfl (okWide_bool_mk A _))
 .rw[xat,k,l];exact trodAll_cons_mk (shut_bool A true) trodAll_mk0
 .rw[xat,k];exact again fo ah X b5 B.lt N (λx L=>F x (by simpa using L)) (λx L=>z x (by simpa using L))
 rw[xat,k,g];rfl
def PH{W:World}:∀(laid:List (String×DataW Unit)) (gs:List (Nat×TypeId×dc×lZ)) (j:List MemPlace),DataW.LaidVars P W laid j->gs.length=laid.length->(∀(i:Nat) x g,laid[i]?=some x->gs[i]?=some g->P.globalNamed x.1=some g.1/\(P.globals[g.1]?).map (·.type)=some g.2.1/\dd P g.2.2.1 g.2.1=true/\rd g.2.2.1 x.2=some g.2.2.2/\n4 g.2.2.1=true/\(x.2.weights P g.2.1).all (·<=reachBytes)=true)-> ∀g∈gs,∃vs T c,W.heap[g.1]?=some (.cells vs T c)/\Rel (λb=>W.heap[b]?) g.2.2.2 vs.toList
 |[],[],_,_,_,_,g,a=>by simp at a
 |(E,x)::laid,y::gs,j,h,ah,f,g,a=>by
  obtain⟨C,t,cs,fuel,p,q,ab,ae,ai,z,A,_⟩:=h;rcases xam.1 a with rfl|a
  .obtain⟨a2,a3,a4,a5,k,iO⟩:=f 0 _ _ rfl rfl;have r:=xaX (a2.symm.trans ab);subst r;have s:=xaX (a3.symm.trans ae);subst s;obtain⟨B,l,_,m⟩:=PB (λb=>W.heap[b]?) (λb o h=>h) fuel _ _ _ _ a4 (qM _ _ k) iO z;have u:=xaX (a5.symm.trans l);unfold World.var? at ai;rw[ab]at ai;simp only[Option.bind_some]at ai;split at ai
   .rename_i n T c aX;cases ai;exact⟨_,T,c,aX,by rw[u];exact m⟩
   cases ai
  exact PH laid gs q A (by simpa using ah) (λi x g e d=>f (i+1) x g (by simpa using e) (by simpa using d)) g a
 |[],_::_,_,_,h,_,_,_=>by simp at h|_::_,[],_,_,h,_,_,_=>by simp at h
def ab1{G:cj}{W:World}(gs:List (Nat×TypeId×dc×lZ))(f:∀g cs,G g=some cs->∃x∈gs,x.1=g/\x.2.2.2=cs) (h:∀g∈gs,∃vs T a,W.heap[g.1]?=some (.cells vs T a)/\Rel (λb=>W.heap[b]?) g.2.2.2 vs.toList):gk G (λb:Nat=>W.heap[b]?):=by
 intro g cs i;obtain⟨x,k,rfl,rfl⟩:=f g cs i;obtain⟨vs,T,a,ab,ae⟩:=h x k;refine⟨vs,T,a,ab,λj=>(vs[j]?).getD undef,?_,?_⟩
 .intro j c d;obtain⟨v,e,_,_⟩:=ae.at j c d;have:vs[j]?=some v:=by simpa using e
  simp[this]
 intro j c d;obtain⟨v,e,_,l⟩:=ae.at j c d;have:vs[j]?=some v:=by simpa using e
 simpa[this]using l
end
def PI:dc:= .struct [.str,.bool,.int .i64,.int .i64]
def C7:dc:= .slice 4 40 PI
def uK:dc:= .slice 1 1 .bool
def l9{b:Type}(f:b->lZ)(Q:b->Prop):∀(es:mW),(∀x∈es,∃y,x=f y/\Q y)->∃l:List b,es=l.map f/\∀y∈l,Q y
 |[],_=>⟨[],rfl,by simp⟩|x::es,h=>by obtain⟨y,rfl,d⟩:=h x sZ;obtain⟨l,rfl,ah⟩:=l9 f Q es λx c=>h x (by simp[c]);exact⟨y::l,rfl,by intro z a;rcases xam.1 a with rfl|a;exact d;exact ah z a⟩
def ab2{n:Int}(h:(Lit.int .i64 n).wf=true):j3 n:=by have:=Go.bounds_i64 h;exact this
theorem yo{x:lZ}(h:jq (.int .i64) x):∃n,x=[aa n]/\j3 n:=by obtain⟨n,rfl,a⟩:=h;exact⟨n,rfl,ab2 a⟩
def C8{x:lZ}(h:jq .str x):∃s,x=[aD s]/\s.size<=140737488351232:=h
def PJ{x:lZ}(h:jq .bool x):∃b,x=[aE b]:=h
def ab3{x:lZ}(h:jq PI x):∃v:V,x=v.cells/\V.ok v:=by obtain⟨a,b,rfl,l,c,d,rfl,m,e,f,rfl,n,g,i,rfl,o,rfl⟩:=h;obtain⟨s,rfl,aj⟩:=C8 l;obtain⟨q,rfl⟩:=PJ m;obtain⟨lo,rfl,k⟩:=yo n;obtain⟨ag,rfl,j⟩:=yo o;exact⟨⟨s,q,lo,ag⟩,rfl,k,j,by simp only;omega⟩
def ab4{k b:Nat}{d:D}{e:dc}(h:jq (.slice k b e) [d]):∃es,d= .aw k es/\es.length*b<=140737488351232/\∀x∈es,jq e x:=by obtain⟨es,a,_,ab,ae⟩:=h;cases a;exact⟨es,rfl,ab,λx c=>(ae x c).2⟩
def PK{d:D}(h:so uK d):∃l:lW,d=NP l/\l.length<=140737488351232:=by
 obtain⟨es,rfl,ab,ae⟩:=ab4 h;obtain⟨l,rfl,ah⟩:=l9 (λn=>[aE n]) (λ_=>True) es λx c=>by obtain⟨b,a⟩:=PJ (ae x c);exact⟨b,a,trivial⟩
 exact⟨l,rfl,by simpa using ab⟩
abbrev cg:D:= .val (.slice none 0 0)
def bJ(k:Nat)(nl:Bool)(es:mW):D:=if nl&&es.isEmpty then cg else .aw k es
section
variable{k:Nat}{nl:Bool}{es:mW}
def ab5:bJ k false es= .aw k es:=by simp[bJ]
@[simp] theorem PL:dL (bJ k nl es)=some (aa es.length):=by
 unfold bJ;split;.rename_i h;simp at h;simp[h.2,aa,dL]
 rfl
@[simp] theorem ab6:c8 (bJ k nl es)=true:=by unfold bJ;split<;>rfl
@[simp] theorem ab7:(bJ k nl es).one=true:=by unfold bJ;split<;>rfl
def Jf{i:Nat}:bc k (bJ k nl es) (aa (i:Int))=es[i]?:=by
 unfold bJ;split;.rename_i h;simp at h;simp[h.2,aa,bc]
 simp
@[simp] theorem ab8:jz (bJ k nl es)=some (if nl&&es.isEmpty then(0,[])else(k,es)):=by unfold bJ;split<;>rfl
end
def ab9{k:Nat}{nl:Bool}{es:mW}(h:0<k):∃q,jz (bJ k nl es)=some (q,es)/\(decide (q=k\/es=[])&&decide (0<k))=true/\(decide (q=k\/es=[]))=true:=by
 rw[ab8];split;.rename_i a;simp at a;exact⟨0,by rw[a.2],by simp[a.2,h],by simp[a.2]⟩
 exact⟨k,rfl,by simp[h],by simp⟩
inductive Tm where
 |mk (op n:Int) (name:ByteArray) (nl:Bool) (aC:List Tm)
namespace Tm
def op:Tm->Int| .mk o _ _ _ _=>o
def num:Tm->Int| .mk _ n _ _ _=>n
def name:Tm->ByteArray| .mk _ _ s _ _=>s
def nl:Tm->Bool| .mk _ _ _ b _=>b
def aC:Tm->List Tm| .mk _ _ _ _ l=>l
mutual
def cells:Tm->lZ
 | .mk o n s b ks=>[aa o,aa n,aD s,bJ 4 b (rows ks)]
def rows:List Tm->mW
 |[]=>[]|t::r=>cells t::rows r
end
def d(t:Tm):D:= .agg t.cells
mutual
def aP:Tm->Nat
 | .mk _ _ _ _ ks=>2+cS ks
def cS:List Tm->Nat
 |[]=>0|t::r=>1+aP t+cS r
end
def fP:∀l:List Tm,rows l=l.map cells
 |[]=>rfl|t::r=>by simp[rows,fP r]
@[simp] theorem qN {l:List Tm}:(rows l).length=l.length:=by simp[fP]
def C9{l:List Tm}{i:Nat}{t:Tm}(h:l[i]?=some t):(rows l)[i]?=some t.cells:=by simp[fP,h]
def eO{l:List Tm}{b:Bool}{i:Nat}{t:Tm}(h:l[i]?=some t):bc 4 (bJ 4 b (rows l)) (aa (i:Int))=some t.cells:=by rw[Jf,C9 h]
def sq:∀l:List Tm,l.length<=cS l
 |[]=>xaR 0|t::r=>by simp only[cS,xal];have:=sq r;omega
def yp:∀{l:List Tm}{t:Tm},t∈l->aP t+1<=cS l
 |a::r,t,h=>by
  simp only[cS];rcases xam.1 h with rfl|h
  .omega
  have:=yp h;omega
def gg{t k:Tm}(h:k∈t.aC):k.aP+3<=t.aP:=by cases t with|mk o n s b ks=>simp only[aP];have:=yp (show k∈ks from h);omega
def iz{t:Tm}:t.aC.length+2<=t.aP:=by cases t with|mk o n s b ks=>simp only[aP];have:=sq ks;show ks.length+2<=_;omega
def ind{P:Tm->Prop}(h:∀t:Tm,(∀k∈t.aC,P k)->P t)(t:Tm):P t:=by
 have:∀(n:Nat)(t:Tm),t.aP<=n->P t:=by
  intro n
  induction n with
  |zero=>intro t a;cases t;simp[aP]at a
  |succ n ih=>intro t a;exact h t λk b=>ih k (by have:=gg b;omega)
 exact this _ t (xaR _)
inductive Ok:Tm->Prop where
 |mk (o n:Int) (s:ByteArray) (b:Bool) (ks:List Tm) (Da:-9223372036854775808<=o/\o<=9223372036854775807) (bm:-9223372036854775808<=n/\n<=9223372036854775807) (aj:s.size<=140737488355328) (ah:ks.length*56<=140737488355328) (Hk:∀k∈ks,Ok k):Ok (.mk o n s b ks)
def Ok.dj{t k:Tm}(h:Ok t)(c:k∈t.aC):Ok k:=by cases h with|mk o n s b ks e d aj ah a=>exact a k c
def Ok.len{t:Tm}(h:Ok t):t.aC.length*56<=140737488355328:=by cases h;assumption
theorem hj(t:Tm):t.cells=[aa t.op,aa t.num,aD t.name,bJ 4 t.nl (rows t.aC)]:=by cases t;rfl
theorem gI(t:Tm):t.d= .agg [aa t.op,aa t.num,aD t.name,bJ 4 t.nl (rows t.aC)]:=by cases t;rfl
@[simp] theorem jJ (t:Tm):cz 4 t.d=true:=by rw[gI];simp
@[simp] theorem lx (t:Tm):ad t.d 0=aa t.op:=by rw[gI];rfl
@[simp] theorem n7 (t:Tm):ad t.d 1=aa t.num:=by rw[gI];rfl
@[simp] theorem n8 (t:Tm):ad t.d 2=aD t.name:=by rw[gI];rfl
@[simp] theorem nb (t:Tm):ad t.d 3=bJ 4 t.nl (rows t.aC):=by rw[gI];rfl
@[simp] theorem yq (t:Tm):D.agg [aa t.op,aa t.num,aD t.name,bJ 4 t.nl (rows t.aC)]=t.d:=(gI t).symm
@[simp high] theorem Jg (t:Tm):aR true 4 0 t.cells=some t.d:=by rw[gI,hj];rfl
@[simp] theorem yr (t:Tm):t.cells[0]?=some (aa t.op):=by rw[hj];rfl
@[simp] theorem ys (t:Tm):t.cells[1]?=some (aa t.num):=by rw[hj];rfl
@[simp] theorem aca (t:Tm):t.cells[2]?=some (aD t.name):=by rw[hj];rfl
@[simp] theorem aoi (t:Tm):t.cells[3]?=some (bJ 4 t.nl (rows t.aC)):=by rw[hj];rfl
end Tm
def ch{c b σ:Type}{f:lZ->Option (lZ⊕c)}(l:List b)(S:Nat->σ->lZ)(R:List b->σ->c)(Inv:Nat->σ->Prop) (ak:∀s,Inv l.length s->f (S l.length s)=some (.inr (R [] s))) (ab:∀(i:Nat)(a:b)(s:σ),l[i]?=some a->i<l.length->Inv i s->(∃s',f (S i s)=some (.inl (S (i+1) s'))/\R (a::l.drop (i+1)) s=R (l.drop (i+1)) s'/\Inv (i+1) s')\/f (S i s)=some (.inr (R (a::l.drop (i+1)) s))): ∀(m i:Nat)(s:σ),Inv i s->l.length-i<m->i<=l.length->aS f m (S i s)=some (R (l.drop i) s)
 |0,i,s,_,h,_=>absurd h (xaF _)
 |m+1,i,s,ag,hm,hle=>by
  rw[ic];by_cases h:i<l.length
  .have d:=xaa h;have e:l.drop i=l[i]::l.drop (i+1):=xaV h;rcases ab i _ s d h ag with⟨s',g1,g2,g3⟩|g1
   .rw[g1,e,g2];exact ch l S R Inv ak ab m (i+1) s' g3 oZ h
   rw[g1,e];rfl
  have:i=l.length:=oZ
  subst this;rw[ak s ag,xcw (xaR _)];rfl
def Db(op:Int):op=1\/op=2\/op=3\/op=4\/op=5\/op=6\/op=7\/op=8\/op=9\/op=10\/op=11\/op=12\/op=13\/op=14\/op=15\/op=16\/op=17\/op=18\/(op<1\/op>18):=oZ
@[simp] theorem aoj {f:FuncId}:sh f (.val (.func (.func f) #[] #[]))=true:=by simp[sh]
@[simp] theorem jK {f:FuncId} {cs:lZ}:fJ f (.fn (.func f) [] cs)=some cs:=by simp[fJ]
attribute [go_sem] jK
def Jh(a b:Int):hZ true [aa a,aa b]=some (aa (if b>a then b else a)):=by simp[hZ,mE,nN,aa,kR]
def PM(a b:Int):hZ false [aa a,aa b]=some (aa (if b<a then b else a)):=by simp[hZ,mE,nN,aa,kR]
@[simp] theorem PN {b:Bool}:(aE b).flat=true:=rfl
@[simp] theorem acb {b:Int}:(aa b).flat=true:=rfl
@[simp] theorem acd {b:ByteArray}:(aD b).flat=true:=rfl
@[simp] theorem aok {a:Int}:cd .neg (aa a)=some (aa (IntKind.i64.wrap (-a))):=by rw[<-Int.zero_sub];rfl
theorem PO:(D.val (.bool false))=aE false:=rfl
theorem PQ:(D.val (.int .i64 0))=aa 0:=rfl
theorem PR:(D.val (.string ⟨#[]⟩))=aD ⟨#[]⟩:=rfl
@[simp] theorem ace (a b c:D):cz 3 (.agg [a,b,c])=(a.one&&(b.one&&c.one)):=by simp[cz]
@[simp] theorem acf (a b c e:D):cz 4 (.agg [a,b,c,e])=(a.one&&(b.one&&(c.one&&e.one))):=by simp[cz]
@[simp] theorem aol {a:D} {l:lZ}:ad (.agg (a::l)) 0=a:=rfl
@[simp] theorem aom {a b:D} {l:lZ}:ad (.agg (a::b::l)) 1=b:=rfl
@[simp] theorem aon {a b c:D} {l:lZ}:ad (.agg (a::b::c::l)) 2=c:=rfl
@[simp] theorem aoo {a b c e:D} {l:lZ}:ad (.agg (a::b::c::e::l)) 3=e:=rfl
theorem uL{bt:Bool}{i:Nat}(h:i<1000000000000000000):aV bt .add (aa (i:Int)) (aa 1)=some (aa ((i+1:Nat):Int)):=by rw[dx oZ oZ];rfl
def acg{bt:Bool}{i:Int}(h:-9223372036854775809<=i)(a:i<9223372036854775807):aV bt .add (aa i) (aa 1)=some (aa (i+1)):=by rw[dx oZ oZ]
def bk(i:Nat)(h:i<1000000000000000000:=by omega):aV false .add (aa (i:Int)) (aa 1)=some (aa ((i+1:Nat):Int)):=uL h
def iP(i:Int)(h:-9223372036854775809<=i:=by omega)(a:i<9223372036854775807:=by omega):aV false .add (aa i) (aa 1)=some (aa (i+1)):=acg h a
def eB{n b:Nat}(ab:n*b<=140737488355328:=by omega)(ae:n<=4611686018427387904:=by omega):b1 n b=true:=sm ab ae
def j7{n i:Nat}(h:i<n):cI n (aa (i:Int))=some i:=by rw[jI,xac h]
section
variable{α β:Type}{c:Prop}[Decidable c]
@[simp] theorem aop {a b:α}:(if c then(Sum.inl a:α⊕β)else Sum.inl b)=Sum.inl (if c then a else b):=by split<;>rfl
@[simp] theorem aoq {a b:β}:(if c then(Sum.inr a:α⊕β)else Sum.inr b)=Sum.inr (if c then a else b):=by split<;>rfl
@[simp] theorem aor {a b:α} {l r:List α}:(if c then a::l else b::r)=(if c then a else b)::(if c then l else r):=by split<;>rfl
@[simp] theorem aos {a b:Int}:(if c then aa a else aa b)=aa (if c then a else b):=by split<;>rfl
@[simp] theorem aot {a b:ByteArray}:(if c then aD a else aD b)=aD (if c then a else b):=by split<;>rfl
@[simp] theorem Ji {a b:lZ}:(if c then D.aB a else D.aB b)=D.aB (if c then a else b):=by split<;>rfl
@[simp] theorem aou {a b:lZ}:(if c then D.agg a else D.agg b)=D.agg (if c then a else b):=by split<;>rfl
@[simp] theorem aov {f:lZ->Option β} {x y:lZ⊕β}:aH f (if c then x else y)=if c then aH f x else aH f y:=by split<;>rfl
@[simp] theorem aow {x y:Option α} {f:α->Option β}:af (if c then x else y) f=if c then af x f else af y f:=by split<;>rfl
end
section
variable{PS:Type}{c:Prop}[Decidable c]
@[simp] theorem aox {x y:D} {w:Bool} {p:oX}:cE (if c then x else y) w p=if c then cE x w p else cE y w p:=by split<;>rfl
@[simp] theorem aoy {x y:D} {w:Bool} {p q:Option PS}:r6 (if c then x else y) w p q=if c then r6 x w p q else r6 y w p q:=by split<;>rfl
@[simp] theorem aoz {x y a b:D}:en (if c then x else y) a b=if c then en x a b else en y a b:=by split<;>rfl
@[simp] theorem aoA {x y:D} {p q:Option PS}:a6 (if c then x else y) p q=if c then a6 x p q else a6 y p q:=by split<;>rfl
@[simp] theorem aoB {x y:D} {o:UnOp}:cd o (if c then x else y)=if c then cd o x else cd o y:=by split<;>rfl
end
@[simp] theorem aoC {a b:Bool}:aE a=aE b↔a=b:=⟨λh=>by cases h;rfl,λh=>by rw[h]⟩
@[simp] theorem aoD {a b:Int}:aa a=aa b↔a=b:=⟨λh=>by cases h;rfl,λh=>by rw[h]⟩
@[simp] theorem aoE {a b:ByteArray}:aD a=aD b↔a=b:=⟨λh=>by cases h;rfl,λh=>by rw[h]⟩
attribute [simp] PO PQ PR
def iQ(M:List (Value×D)):Prop:=∀e∈M,∃s,e.1= .string s
def eC:List (Value×D)->ByteArray->oX
 |[],_=>none|(.string s,d)::r,x=>if s=x then some d else eC r x
 |_::r,x=>eC r x
def PT{e:Value×D}{M:List (Value×D)}(h:iQ (e::M)):(∃s,e.1= .string s)/\iQ M:=⟨h e sZ,λx a=>h x (by simp[a])⟩
def PU(a b:ByteArray):Instr.sameNow .string (.string a) (.string b)=some (decide (b=a)):=by simp[Instr.sameNow,Hp,eq_comm]
def PV{M:List (Value×D)}(h:iQ M)(x:ByteArray):findD .string (.string x) M=some (eC M x):=by
 induction M with
 |nil=>rfl
 |cons e r ih=>
  obtain⟨⟨s,aj⟩,b⟩:=PT h;obtain⟨k,d⟩:=e;simp only at aj;subst aj;simp only[findD,PU,eC];by_cases a:s=x;.simp[a]
  simp[a,ih b]
def ach{M:List (Value×D)}(h:iQ M)(x:ByteArray)(d:D):∃b,mG .string (.string x) d M=some b/\iQ b/\(∀y,eC b y=if y=x then some d else eC M y)/\b.length=M.length+(if(eC M x).isSome then 0 else 1):=by
 induction M with
 |nil=>exact⟨[(.string x,d)],rfl,by intro e a;simp at a;exact⟨x,by rw[a]⟩,λy=>by simp[eC,eq_comm],rfl⟩
 |cons e r ih=>
  obtain⟨⟨s,aj⟩,g⟩:=PT h;obtain⟨k,d0⟩:=e;simp only at aj;subst aj;simp only[mG,PU,eC];by_cases c:s=x
  .refine⟨(.string x,d)::r,by simp[c],?_,λy=>?_,by simp[c]⟩
   .intro e a;rcases xam.1 a with rfl|a
    .exact⟨x,rfl⟩
    exact g e a
   simp only[eC];by_cases f:y=x;.simp[f]
   have:¬x=y:=λh=>f h.symm;subst c;simp[f,this]
  obtain⟨b,ab,ae,ai,i⟩:=ih g;refine⟨(.string s,d0)::b,by simp[c,ab],?_,λy=>?_,by simp[c,i];omega⟩
  .intro e a;rcases xam.1 a with rfl|a
   .exact⟨s,rfl⟩
   exact ae e a
  simp only[eC,ai y];by_cases f:y=x;.subst f;simp[c]
  simp[f]
theorem uM{M:List (Value×D)}(h:iQ M){z:Value}{x:ByteArray}:gU .string z true M (aD x)=some (match eC M x with|some d=> .aB [d,aE true]|none=> .aB [mF z,aE false]):=by simp only[gU,aD,PV h];cases eC M x<;>rfl
def Dc{M:List (Value×D)}(h:iQ M)(x:ByteArray)(d:D):∃a,lU .string M (aD x) d=some a/\iQ a/\(∀y,eC a y=if y=x then some d else eC M y)/\a.length=M.length+(if(eC M x).isSome then 0 else 1):=ach h x d
def kY(M:List (Value×D)):Prop:=∀e∈M,∃i,e.1= .int .i64 i
def hI:List (Value×D)->Int->oX
 |[],_=>none|(.int .i64 s,d)::r,x=>if s=x then some d else hI r x
 |_::r,x=>hI r x
def PW{e:Value×D}{M:List (Value×D)}(h:kY (e::M)):(∃s,e.1= .int .i64 s)/\kY M:=⟨h e sZ,λx a=>h x (by simp[a])⟩
def PX(a b:Int):Instr.sameNow (.int .i64) (.int .i64 a) (.int .i64 b)=some (decide (b=a)):=by
 by_cases h:a=b;.subst h;simp[Instr.sameNow]
 have c:¬b=a:=λe=>h e.symm;simp[Instr.sameNow,h,c]
def aci{M:List (Value×D)}(h:kY M)(x:Int):findD (.int .i64) (.int .i64 x) M=some (hI M x):=by
 induction M with
 |nil=>rfl
 |cons e r ih=>
  obtain⟨⟨s,aj⟩,b⟩:=PW h;obtain⟨k,d⟩:=e;simp only at aj;subst aj;simp only[findD,PX,hI];by_cases a:s=x;.simp[a]
  simp[a,ih b]
def acj{M:List (Value×D)}(h:kY M)(x:Int)(d:D):∃b,mG (.int .i64) (.int .i64 x) d M=some b/\kY b/\(∀y,hI b y=if y=x then some d else hI M y)/\b.length=M.length+(if(hI M x).isSome then 0 else 1):=by
 induction M with
 |nil=>exact⟨[(.int .i64 x,d)],rfl,by intro e a;simp at a;exact⟨x,by rw[a]⟩,λy=>by simp[hI,eq_comm],rfl⟩
 |cons e r ih=>
  obtain⟨⟨s,aj⟩,g⟩:=PW h;obtain⟨k,d0⟩:=e;simp only at aj;subst aj;simp only[mG,PX,hI];by_cases c:s=x
  .refine⟨(.int .i64 x,d)::r,by simp[c],?_,λy=>?_,by simp[c]⟩
   .intro e a;rcases xam.1 a with rfl|a
    .exact⟨x,rfl⟩
    exact g e a
   simp only[hI];by_cases f:y=x;.simp[f]
   have:¬x=y:=λh=>f h.symm;subst c;simp[f,this]
  obtain⟨b,ab,ae,ai,i⟩:=ih g;refine⟨(.int .i64 s,d0)::b,by simp[c,ab],?_,λy=>?_,by simp[c,i];omega⟩
  .intro e a;rcases xam.1 a with rfl|a
   .exact⟨s,rfl⟩
   exact ae e a
  simp only[hI,ai y];by_cases f:y=x;.subst f;simp[c]
  simp[f]
theorem Jj{M:List (Value×D)}(h:kY M){z:Value}{ok:Bool}{x:Int}:gU (.int .i64) z ok M (aa x)=some (match hI M x with|some d=>if ok then .aB [d,aE true]else d|none=>if ok then .aB [mF z,aE false]else mF z):=by simp only[gU,aa,aci h];cases hI M x<;>rfl
def PY{M:List (Value×D)}(h:kY M)(x:Int)(d:D):∃a,lU (.int .i64) M (aa x) d=some a/\kY a/\(∀y,hI a y=if y=x then some d else hI M y)/\a.length=M.length+(if(hI M x).isSome then 0 else 1):=acj h x d
def PZ:∀x:List UInt8,Op.bytesLess x x=false
 |[]=>rfl|a::x=>by simp[Op.bytesLess,PZ x]
def P2:∀x y z:List UInt8,Op.bytesLess x y=true->Op.bytesLess y z=true->Op.bytesLess x z=true
 |[],[],z,h,_=>by simp[Op.bytesLess]at h|[],b::y,[],_,h=>by simp[Op.bytesLess]at h|[],b::y,c::z,_,_=>rfl|a::x,[],z,h,_=>by simp[Op.bytesLess]at h|a::x,b::y,[],_,h=>by simp[Op.bytesLess]at h
 |a::x,b::y,c::z,ab,ae=>by
  simp only[Op.bytesLess,xbk,xan,xaC,xbQ,UInt8.lt_iff_toNat_lt]at*;rcases ab with ab|⟨rfl,ab⟩
  .rcases ae with ae|⟨rfl,ae⟩;.exact .inl oZ
   exact .inl ab
  rcases ae with ae|⟨rfl,ae⟩;.exact .inl ae
  exact .inr ⟨rfl,P2 x y z ab ae⟩
def P3:∀x y:List UInt8,Op.bytesLess x y=true\/x=y\/Op.bytesLess y x=true
 |[],[]=> .inr (.inl rfl)|[],b::y=> .inl rfl|a::x,[]=> .inr (.inr rfl)
 |a::x,b::y=>by
  simp only[Op.bytesLess,xbk,xan,xaC,xbQ,UInt8.lt_iff_toNat_lt,xbI];by_cases ab:a.toNat<b.toNat;.exact .inl (.inl ab)
  by_cases ae:b.toNat<a.toNat;.exact .inr (.inr (.inl ae))
  have:a=b:=UInt8.toNat_inj.1 oZ;subst this;rcases P3 x y with h|h|h
  .exact .inl (.inr ⟨rfl,h⟩)
  .exact .inr (.inl ⟨rfl,h⟩)
  exact .inr (.inr (.inr ⟨rfl,h⟩))
def ps(x:ByteArray):blt x x=false:=PZ _
def sr{x y z:ByteArray}(h:blt x y=true)(a:blt y z=true):blt x z=true:=P2 _ _ _ h a
def Jk(x y:ByteArray):blt x y=true\/x=y\/blt y x=true:=by
 rcases P3 x.toList y.toList with h|h|h;.exact .inl h
 .exact .inr (.inl (MC h))
 exact .inr (.inr h)
def ack(y x:ByteArray):(!(blt y x||decide (y=x)))=blt x y:=by
 rcases Jk x y with h|h|h
 .have ab:blt y x=false:=by
   cases a:blt y x with|false=>rfl|true=>have:=sr h a;rw[ps]at this;cases this
  have ae:y≠x:=by rintro rfl;rw[ps]at h;cases h
  simp[h,ab,ae]
 .subst h;simp[ps]
 have ab:blt x y=false:=by cases a:blt x y with|false=>rfl|true=>have:=sr h a;rw[ps]at this;cases this
 simp[h,ab]
def Dd{bt:Bool}{x y:ByteArray}:aV bt .gtr (aD y) (aD x)=some (aE (blt x y)):=by rw[Jb,ack]
def hk:List ByteArray->Prop
 |[]=>True|a::r=>(∀b∈r,blt a b=true)/\hk r
def fy(s:ByteArray):List ByteArray->List ByteArray
 |[]=>[s]|a::r=>if a=s then a::r else if blt s a then s::a::r else a::fy s r
def P4{s x:ByteArray}:∀{l:List ByteArray},x∈fy s l->x=s\/x∈l
 |[],h=>by simp[fy]at h;exact .inl h
 |a::r,h=>by
  rw[fy]at h;split at h;.exact .inr h
  split at h
  .rcases xam.1 h with h|h;.exact .inl h
   exact .inr h
  rcases xam.1 h with h|h;.exact .inr (by simp[h])
  rcases P4 h with h|h;.exact .inl h
  exact .inr (by simp[h])
def yt{s:ByteArray}:∀{l:List ByteArray},hk l->hk (fy s l)
 |[],_=>⟨by simp,trivial⟩
 |a::r,h=>by
  rw[fy];split;.exact h
  rename_i f;split
  .rename_i d;refine⟨λb c=>?_,h⟩;rcases xam.1 c with rfl|c
   .exact d
   exact sr d (h.1 b c)
  rename_i e;refine⟨λb c=>?_,yt h.2⟩;rcases P4 c with rfl|c
  .rcases Jk a b with ab|ab|ab;.exact ab
   .exact absurd ab f
   rw[ab]at e;exact absurd rfl e
  exact h.1 b c
def Jl{s:ByteArray}:∀{l:List ByteArray},hk l->s∈l->fy s l=l
 |[],_,h=>by cases h
 |a::r,aj,h=>by
  rw[fy];rcases xam.1 h with rfl|h
  .rw[xac rfl]
  have b:=aj.1 s h;have c:¬a=s:=by rintro rfl;rw[ps]at b;cases b
  have d:¬blt s a=true:=λe=>by have:=sr b e;rw[ps]at this;cases this
  rw[xab c,xab d,Jl aj.2 h]
def P5{s:ByteArray}:∀{l:List ByteArray},hk l->s∉l->∃a b,l=a++b/\fy s l=a++s::b/\(∀x∈a,blt x s=true)/\(∀x∈b,blt s x=true)
 |[],_,_=>⟨[],[],rfl,rfl,by simp,by simp⟩
 |a::r,aj,h=>by
  have f:¬a=s:=λe=>h (by simp[e]);rw[fy,xab f];by_cases ah:blt s a=true
  .rw[xac ah];exact⟨[],a::r,rfl,rfl,by simp,λx c=>by
    rcases xam.1 c with rfl|c;.exact ah
    exact sr ah (aj.1 x c)⟩
  rw[xab ah];obtain⟨p,q,ab,ae,ai,g⟩:=P5 (l:=r) (s:=s) aj.2 (λi=>h (xcp _ i));refine⟨a::p,q,by rw[ab];rfl,by rw[ae];rfl,λx c=>?_,g⟩;rcases xam.1 c with rfl|c
  .rcases Jk x s with d|d|d;.exact d
   .exact absurd d f
   exact absurd d ah
  exact ai x c
def Jm(s:ByteArray):∀{l:List ByteArray},hk l->∃a b,l=a++b/\(∀x∈a,blt s x=false)/\(∀x∈b,blt s x=true)/\(s∈l->∃g,a=g++[s])/\(s∉l->s∉a)/\(s∉l->fy s l=a++s::b)
 |[],_=>⟨[],[],rfl,by simp,by simp,by simp,by simp,λ_=>rfl⟩
 |c::r,aj=>by
  by_cases d:s∈c::r
  .by_cases m:c=s;.subst m;refine⟨[c],r,rfl,by simp[ps],aj.1,λ_=>⟨[],rfl⟩,λh=>absurd d h,λh=>absurd d h⟩
   have n:s∈r:=(xam.1 d).resolve_left λh=>m h.symm;obtain⟨a,b,ab,ae,ai,i,p,q⟩:=Jm s aj.2;obtain⟨g,j⟩:=i n;refine⟨c::a,b,by rw[ab];rfl,?_,ai,λ_=>⟨c::g,by rw[j];rfl⟩,λh=>absurd d h,λh=>absurd d h⟩;intro x f;rcases xam.1 f with rfl|f
   .have e:=aj.1 s n;cases k:blt s x with|false=>rfl|true=>have:=sr e k;rw[ps]at this;cases this
   exact ae x f
  obtain⟨a,b,ab,ae,ai,i⟩:=P5 aj d;refine⟨a,b,ab,λx f=>?_,i,λh=>absurd h d,λ_ o=>d (by rw[ab];simp[o]),λ_=>ae⟩;have e:=ai x f;cases k:blt s x with|false=>rfl|true=>have:=sr e k;rw[ps]at this;cases this
def yu{s:ByteArray}:∀(l:List ByteArray),(fy s l).length<=l.length+1
 |[]=>by simp[fy]
 |a::r=>by
  rw[fy];split;.simp
  split;.simp
  have:=yu (s:=s) r;simp;omega
def gW:Nat->dc
 |0=> .stop|n+1=> .struct [.int .i64,.int .i64,.str,.slice 4 56 (gW n)]
def uN:∀(n m:Nat),m<=2*n->(gW n).fx m=true
 |0,m,h=>by
         have:m=0:=oZ
         subst this;rfl
 |n+1,0,_=>rfl|n+1,1,_=>rfl|n+1,m+2,h=>by have:=uN n m oZ;simp only[gW,dc.fx,l7,this,xbA]
def De{P:Program}{t s:TypeId}(ab:∀y,dd P (.struct [.int .i64,.int .i64,.str,y]) t=(dd P y s&&true))(ae:∀y,dd P (.slice 4 56 y) s=dd P y t):∀n,dd P (gW n) t=true
 |0=>rfl|n+1=>by rw[gW,ab,ae,De ab ae n];rfl
theorem P6{P:Program}{t s:TypeId}(ab:∀y,dd P (.struct [.int .i64,.int .i64,.str,y]) t=(dd P y s&&true))(ae:∀y,dd P (.slice 4 56 y) s=dd P y t)(ah:decide (t<P.types.size)=true):n5 P gW t:=⟨λn=>uN n n oZ,De ab ae,xbb ah,λn=>by cases n<;>rfl⟩
def ss:∀(n:Nat){x:lZ},jq (gW n) x->∃t:Tm,x=t.cells/\t.Ok
 |0,x,h=>h.elim|n+1,x,h=>by obtain⟨a,b,rfl,o,c,d,rfl,p,e,f,rfl,q,g,i,rfl,r,rfl⟩:=h;obtain⟨op,rfl,m⟩:=yo o;obtain⟨nn,rfl,l⟩:=yo p;obtain⟨s,rfl,aj⟩:=C8 q;obtain⟨es,rfl,_,ah,j⟩:=r;obtain⟨ks,rfl,k⟩:=l9 Tm.cells Tm.Ok es λx u=>ss n (j x u).2;refine⟨.mk op nn s false ks,?_,.mk _ _ _ _ _ m l oZ (by simpa using xbJ ah oZ) k⟩;simp[Tm.cells,Tm.fP,bJ]
def uO{H:Type}{F:na}{Fs:List na}{c:List (DataW H)}{a:lZ}(h:l8 (F::Fs) c a):∃x e d b n,c=x::e/\a=d::b/\qL (F n) x d/\so (F n) d/\l8 Fs e b:=by
 cases c with
 |nil=>cases a<;>exact h.elim
 |cons x c=>cases a with|nil=>exact h.elim|cons d a=>obtain⟨⟨n,ab,ae⟩,ai⟩:=h;exact⟨x,c,d,a,n,rfl,rfl,ab,ae,ai⟩
def P7{H:Type}{b:List (DataW H)}{a:lZ}(h:l8 [] b a):b=[]/\a=[]:=by cases b<;>cases a<;>first|exact⟨rfl,rfl⟩|exact h.elim
@[simp] theorem aoF (a:D):cz 1 (.agg [a])=a.one:=by simp[cz]
@[simp] theorem acm (a b:D):cz 2 (.agg [a,b])=(a.one&&b.one):=by simp[cz]
@[simp] theorem acn (a b c d e:D):cz 5 (.agg [a,b,c,d,e])=(a.one&&(b.one&&(c.one&&(d.one&&e.one)))):=by simp[cz]
@[simp] theorem aco (a b c d e f:D):cz 6 (.agg [a,b,c,d,e,f])=(a.one&&(b.one&&(c.one&&(d.one&&(e.one&&f.one))))):=by simp[cz]
@[simp] theorem acp (a b c d e f g:D):cz 7 (.agg [a,b,c,d,e,f,g])=(a.one&&(b.one&&(c.one&&(d.one&&(e.one&&(f.one&&g.one)))))):=by simp[cz]
@[simp] theorem acq (a b c d e f g h:D):cz 8 (.agg [a,b,c,d,e,f,g,h])=(a.one&&(b.one&&(c.one&&(d.one&&(e.one&&(f.one&&(g.one&&h.one))))))):=by simp[cz]
@[simp] theorem aoG {a b c e f:D} {l:lZ}:ad (.agg (a::b::c::e::f::l)) 4=f:=rfl
@[simp] theorem aoH {a b c e f g:D} {l:lZ}:ad (.agg (a::b::c::e::f::g::l)) 5=g:=rfl
@[simp] theorem aoI {a b c e f g h:D} {l:lZ}:ad (.agg (a::b::c::e::f::g::h::l)) 6=h:=rfl
@[simp] theorem aoJ {a b c e f g h i:D} {l:lZ}:ad (.agg (a::b::c::e::f::g::h::i::l)) 7=i:=rfl
theorem acr{a:Type}{x y:Bool}{f:D->Option a}:af (cE (aE x) true (some (aE y))) (λv=>af (en (aE x) v (aE false)) f)=f (aE (x&&y)):=by cases x<;>rfl
theorem acs{a:Type}{x y:Bool}{f:D->Option a}:af (cE (aE x) false (some (aE y))) (λv=>af (en (aE x) (aE true) v) f)=f (aE (x||y)):=by cases x<;>rfl
inductive Fm where
 |mk (op:Int) (e:Tm) (nl:Bool) (aC:List Fm)
def T0:Tm:= .mk 0 0 ⟨#[]⟩ true []
def uP:T0.Ok:= .mk _ _ _ _ _ oZ oZ dZ sZ sZ
theorem Df:T0.d=D.agg [aa 0,aa 0,aD ⟨#[]⟩,D.val (.slice none 0 0)]:=rfl
namespace Fm
def op:Fm->Int| .mk o _ _ _=>o
def e:Fm->Tm| .mk _ t _ _=>t
def nl:Fm->Bool| .mk _ _ b _=>b
def aC:Fm->List Fm| .mk _ _ _ l=>l
mutual
def cells:Fm->lZ
 | .mk o t b ks=>[aa o,aa t.op,aa t.num,aD t.name,bJ 4 t.nl (Tm.rows t.aC),bJ 6 b (rows ks)]
def rows:List Fm->mW
 |[]=>[]|t::r=>cells t::rows r
end
def d(t:Fm):D:= .agg t.cells
mutual
def aP:Fm->Nat
 | .mk _ t _ ks=>2+t.aP+cS ks
def cS:List Fm->Nat
 |[]=>0|t::r=>1+aP t+cS r
end
def fP:∀l:List Fm,rows l=l.map cells
 |[]=>rfl|t::r=>by simp[rows,fP r]
@[simp] theorem qN {l:List Fm}:(rows l).length=l.length:=by simp[fP]
def C9{l:List Fm}{i:Nat}{t:Fm}(h:l[i]?=some t):(rows l)[i]?=some t.cells:=by simp[fP,h]
def eO{l:List Fm}{b:Bool}{i:Nat}{t:Fm}(h:l[i]?=some t):bc 6 (bJ 6 b (rows l)) (aa (i:Int))=some t.cells:=by rw[Jf,C9 h]
def sq:∀l:List Fm,l.length<=cS l
 |[]=>xaR 0|t::r=>by simp only[cS,xal];have:=sq r;omega
def yp:∀{l:List Fm}{t:Fm},t∈l->aP t+1<=cS l
 |a::r,t,h=>by
  simp only[cS];rcases xam.1 h with rfl|h
  .omega
  have:=yp h;omega
theorem pt(t:Fm):t.aP=2+t.e.aP+cS t.aC:=by cases t;rfl
def gg{t k:Fm}(h:k∈t.aC):k.aP+3<=t.aP:=by have:=yp h;have:=pt t;omega
def iz{t:Fm}:t.aC.length+2<=t.aP:=by have:=sq t.aC;have:=pt t;omega
def su{t:Fm}:t.e.aP+2<=t.aP:=by have:=pt t;omega
def ind{P:Fm->Prop}(h:∀t:Fm,(∀k∈t.aC,P k)->P t)(t:Fm):P t:=by
 have:∀(n:Nat)(t:Fm),t.aP<=n->P t:=by
  intro n
  induction n with
  |zero=>intro t a;cases t;simp[aP]at a
  |succ n ih=>intro t a;exact h t λk b=>ih k (by have:=gg b;omega)
 exact this _ t (xaR _)
inductive Ok:Fm->Prop where
 |mk (o:Int) (t:Tm) (b:Bool) (ks:List Fm) (Da:-9223372036854775808<=o/\o<=9223372036854775807) (aoK:t.Ok) (ah:ks.length*88<=140737488355328) (Hk:∀k∈ks,Ok k):Ok (.mk o t b ks)
def Ok.dj{t k:Fm}(h:Ok t)(a:k∈t.aC):Ok k:=by cases h with|mk o n s b ks d c aj=>exact aj k a
def Ok.len{t:Fm}(h:Ok t):t.aC.length*88<=140737488355328:=by cases h;assumption
def Ok.e{t:Fm}(h:Ok t):t.e.Ok:=by cases h;assumption
def Ok.op{t:Fm}(h:Ok t):-9223372036854775808<=t.op/\t.op<=9223372036854775807:=by cases h;assumption
theorem hj(t:Fm):t.cells=[aa t.op,aa t.e.op,aa t.e.num,aD t.e.name,bJ 4 t.e.nl (Tm.rows t.e.aC),bJ 6 t.nl (rows t.aC)]:=by cases t;rfl
theorem gI(t:Fm):t.d= .agg [aa t.op,aa t.e.op,aa t.e.num,aD t.e.name,bJ 4 t.e.nl (Tm.rows t.e.aC),bJ 6 t.nl (rows t.aC)]:=by cases t;rfl
@[simp] theorem jJ (t:Fm):cz 6 t.d=true:=by rw[gI];simp
@[simp] theorem lx (t:Fm):ad t.d 0=aa t.op:=by rw[gI];rfl
@[simp] theorem n7 (t:Fm):ad t.d 1=aa t.e.op:=by rw[gI];rfl
@[simp] theorem n8 (t:Fm):ad t.d 2=aa t.e.num:=by rw[gI];rfl
@[simp] theorem nb (t:Fm):ad t.d 3=aD t.e.name:=by rw[gI];rfl
@[simp] theorem acu (t:Fm):ad t.d 4=bJ 4 t.e.nl (Tm.rows t.e.aC):=by rw[gI];rfl
@[simp] theorem acv (t:Fm):ad t.d 5=bJ 6 t.nl (rows t.aC):=by rw[gI];rfl
@[simp] theorem yq (t:Fm):D.agg [aa t.op,aa t.e.op,aa t.e.num,aD t.e.name,bJ 4 t.e.nl (Tm.rows t.e.aC),bJ 6 t.nl (rows t.aC)]=t.d:=(gI t).symm
@[simp high] theorem Jg (t:Fm):aR true 6 0 t.cells=some t.d:=by rw[gI,hj];rfl
end Fm
attribute [go_sem] cL l4 iM l6 mV acr acs C0 C1 lv yl uG uH Ja Pz abT uI l5 yk I4 I5 abG abH abI ab6 abJ abK abL abM abN ab7 abO I6 xbF xct abD abP PL abQ abR Px xbA xbm Bool.and_self xaD xaG Bool.not_true xcc xaq PN acb acd Bool.or_true Bool.true_or acm ace acf acn aco acp acq PO PQ PR abF abE Tm.jJ Tm.lx Tm.n7 Tm.n8 Tm.nb Tm.yq Tm.Jg Tm.qN Fm.jJ Fm.lx Fm.n7 Fm.n8 Fm.nb Fm.acu Fm.acv Fm.yq Fm.Jg Fm.qN
def gX:Nat->dc
 |0=> .stop|n+1=> .struct [.int .i64,gW (n+1),.slice 6 88 (gX n)]
def Jn:∀(n m:Nat),m<=2*n->(gX n).fx m=true
 |0,m,h=>by
         have:m=0:=oZ
         subst this;rfl
 |n+1,0,_=>rfl|n+1,1,_=>by simp[gX,dc.fx,l7]|n+1,m+2,h=>by have:=Jn n m oZ;have ae:=uN (n+1) (m+1) oZ;simp only[gX,dc.fx,l7,this,ae,xbA]
def P8{P:Program}{t s r q:TypeId}(ab:∀y z,dd P (.struct [.int .i64,y,z]) t=(dd P y r&&(dd P z s&&true)))(ae:∀y,dd P (.slice 6 88 y) s=dd P y t)(ai:∀n,dd P (gW n) r=true):∀n,dd P (gX n) t=true
 |0=>rfl|n+1=>by rw[gX,ab,ae,P8 (q:=q) ab ae ai n,ai];rfl
theorem Dg{P:Program}{t s r q:TypeId}(ab:∀y z,dd P (.struct [.int .i64,y,z]) t=(dd P y r&&(dd P z s&&true)))(ae:∀y,dd P (.slice 6 88 y) s=dd P y t) (ai:∀y,dd P (.struct [.int .i64,.int .i64,.str,y]) r=(dd P y q&&true)) (a:∀y,dd P (.slice 4 56 y) q=dd P y r) (ah:decide (t<P.types.size)=true):n5 P gX t:=⟨λn=>Jn n n oZ,P8 (q:=q) ab ae (De ai a),xbb ah,λn=>by cases n<;>rfl⟩
def Jo:∀(n:Nat){x:lZ},jq (gX n) x->∃t:Fm,x=t.cells/\t.Ok
 |0,x,h=>h.elim|n+1,x,h=>by obtain⟨a,b,rfl,k,c,d,rfl,l,g,i,rfl,m,rfl⟩:=h;obtain⟨op,rfl,j⟩:=yo k;obtain⟨t,rfl,o⟩:=ss (n+1) l;obtain⟨es,rfl,_,ah,e⟩:=m;obtain⟨ks,rfl,f⟩:=l9 Fm.cells Fm.Ok es λx p=>Jo n (e x p).2;refine⟨.mk op t false ks,?_,.mk _ _ _ _ j o (by simpa using xbJ ah oZ) f⟩;simp[Fm.cells,Fm.fP,bJ,Tm.hj]
theorem P9{n:Nat}{d:D}(h:so (gX n) d):∃t:Fm,d=t.d/\t.Ok:=by cases n with|zero=>exact(h:False).elim|succ n=>obtain⟨b,rfl,h⟩:=h;obtain⟨t,rfl,a⟩:=Jo (n+1) h;exact⟨t,rfl,a⟩
structure bd where
 name:ByteArray
 e:Tm
def bd.cells(d:bd):lZ:=[aD d.name,aa d.e.op,aa d.e.num,aD d.e.name,bJ 4 d.e.nl (Tm.rows d.e.aC)]
def bd.d(d:bd):D:= .agg d.cells
def ay(l:List bd):D:= .aw 5 (l.map bd.cells)
def bd.Ok(d:bd):Prop:=d.name.size<=140737488351232/\d.e.Ok
section
variable{l:List bd}{i:Nat}{d:bd}
def dU(h:l[i]?=some d):bc 5 (ay l) (aa (i:Int))=some d.cells:=by simp[ay,h]
def n9(l:List bd):dL (ay l)=some (aa l.length):=by simp[ay]
attribute [go_sem] n9
@[simp] theorem bd.acw (d:bd):aR true 5 0 d.cells=some d.d:=rfl
@[simp] theorem bd.ys (d:bd):aR true 4 1 d.cells=some d.e.d:=by rw[Tm.gI];rfl
attribute [go_sem] bd.ys
@[simp] theorem bd.yr (d:bd):aR false 1 0 d.cells=some (aD d.name):=rfl
attribute [go_sem] bd.yr
@[simp] theorem bd.agg (d:bd):cz 5 d.d=true:=by unfold bd.d bd.cells;simp
@[simp] theorem bd.bK (d:bd):ad d.d 0=aD d.name:=rfl
@[simp] theorem bd.c1 (d:bd):ad d.d 1=aa d.e.op:=rfl
@[simp] theorem bd.c2 (d:bd):ad d.d 2=aa d.e.num:=rfl
@[simp] theorem bd.b8 (d:bd):ad d.d 3=aD d.e.name:=rfl
@[simp] theorem bd.eZ (d:bd):ad d.d 4=bJ 4 d.e.nl (Tm.rows d.e.aC):=rfl
end
def cw(l:List bd)(x:ByteArray):Option Nat:=l.findIdx? (λd=>decide (d.name=x))
def Jp{l:List bd}{x:ByteArray}{i:Nat}(h:cw l x=some i):∃d,l[i]?=some d/\d.name=x/\i<l.length:=by obtain⟨ab,ae,_⟩:=xbv.1 h;exact⟨_,xaa ab,by simpa using ae,ab⟩
def cn(l:lX):D:= .aw 1 (l.map λ(i:Nat)=>[aa (i:Int)])
def pw{l:lX}{i k:Nat}(h:l[i]?=some k):bc 1 (cn l) (aa (i:Int))=some [aa (k:Int)]:=by simp[cn,h]
def oa(l:lX):dL (cn l)=some (aa l.length):=by simp[cn]
def fC(l:mZ):D:= .aw 1 (l.map λx=>[cn x])
def acx{l:mZ}{i:Nat}{k:lX}(h:l[i]?=some k):bc 1 (fC l) (aa (i:Int))=some [cn k]:=by simp[fC,h]
def dX(M:List (Value×D))(S:lX):Prop:=kY M/\∀i:Nat,hI M (i:Int)=if i∈S then some (aE true)else none
theorem dX.nil:dX [] []:=⟨by(intro e a;cases a),λi=>rfl⟩
def dX.look{M:List (Value×D)}{S:lX}(h:dX M S){i:Nat}{z:Value}:gU (.int .i64) (.bool false) false M (aa (i:Int))=some (aE (decide (i∈S))):=by rw[Jj h.1,h.2 i];by_cases ag:i∈S<;>simp[ag,mF]
def dX.put{M:List (Value×D)}{S:lX}(h:dX M S)(i:Nat):∃a,lU (.int .i64) M (aa (i:Int)) (aE true)=some a/\dX a (if i∈S then S else S++[i]):=by
 obtain⟨a,ab,ae,ai,_⟩:=PY h.1 (i:Int) (aE true);refine⟨a,ab,ae,λj=>?_⟩;rw[ai,h.2];by_cases b:j=i;.subst b;by_cases ag:j∈S<;>simp[ag]
 have:¬((j:Int)=(i:Int)):=oZ
 by_cases ag:i∈S<;>simp[this,ag,b]
def dX.mem{M:List (Value×D)}{S T:lX}(h:dX M S)(a:∀x,x∈S↔x∈T):dX M T:=⟨h.1,λi=>by rw[h.2];simp only[a i]⟩
def qO(n:Nat):dc:= .slice 5 72 (.struct [.str,gW n])
def Qa(n:Nat):∀m,m<=n->(qO n).fx m=true
 |0,_=>rfl|1,_=>by simp[qO,dc.fx]|m+2,h=>by have:=uN n m oZ;have:=uN n (m+1) oZ;have ae:dc.fx m .str=true:=qM m .str rfl;simp only[qO,dc.fx,l7, *,xbA]
theorem Qb{P:Program}{t r q:TypeId}(ab:∀y,dd P (.slice 5 72 (.struct [.str,y])) t=(dd P y r&&true)) (ai:∀y,dd P (.struct [.int .i64,.int .i64,.str,y]) r=(dd P y q&&true)) (a:∀y,dd P (.slice 4 56 y) q=dd P y r) (ah:decide (t<P.types.size)=true):n5 P qO t:=⟨λn=>Qa n n (xaR _),λn=>by rw[qO,ab,De ai a n];rfl,xbb ah,λn=>rfl⟩
def Qc{n:Nat}{x:lZ}(h:jq (.struct [.str,gW n]) x):∃d:bd,x=d.cells/\d.Ok:=by obtain⟨a,b,rfl,f,c,e,rfl,g,rfl⟩:=h;obtain⟨s,rfl,aj⟩:=C8 f;obtain⟨t,rfl,i⟩:=ss n g;exact⟨⟨s,t⟩,by simp[bd.cells,Tm.hj],aj,i⟩
end Go.Am
