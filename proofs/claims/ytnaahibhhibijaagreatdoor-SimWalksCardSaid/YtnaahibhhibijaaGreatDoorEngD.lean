/- From what a call is handed to data, and from an answer to the row. No condition. -/
import Derived.Test.YtnaahibhhibijaaGreatDoorEngC
import Derived.ProofKit
import Derived.OpenShut
import Derived.KernelRfl
import Derived.Deep.DeepHandedRow
import Derived.Lib.LaidTab
import Derived.Test.YtnaahibhhibijaaGreatDoorEngS
set_option linter.all false
set_option linter.unnecessarySimpa false
namespace Go.Am
open Go.ChangeShapes Go.WideShapes Go.ChangeAt Go.RowKit
inductive eu where
 |bool
 |int (k:IntKind)
 |str
 |slice (k bytes:Nat) (e:eu)
 |arr (n:Nat) (e:eu)
 |struct (c6:List eu)
 |stop
mutual
def l8:eu->List D->Prop
 | .bool,ds=>∃b,ds=[ay b]| .int k,ds=>∃n,ds=[.val (.int k n)]/\(Lit.int k n).wf=true| .str,ds=>∃s,ds=[aQ s]/\s.size<=140737488351232| .slice k FN e,ds=>∃es:List (List D),ds=[.aA k es]/\es.length<=maxLen/\es.length*FN<=140737488351232/\∀x∈es,x.length=k/\l8 e x| .arr n e,ds=>∃fZ:List (List D),ds=fZ.flatten/\fZ.length=n/\∀x∈fZ,l8 e x| .struct c6,ds=>Ll c6 ds| .stop,_=>False
def Ll:List eu->List D->Prop
 |[],ds=>ds=[]|f::c6,ds=>∃a b,ds=a++b/\l8 f a/\Ll c6 b
end
mutual
def rd{H:Type}:eu->DataW H->Option (List D)
 | .bool,.lit (.bool b)=>some [ay b]| .int _,.lit (.int k n)=>some [.val (.int k n)]| .str,.lit (.string l)=>some [aQ ⟨l.toArray⟩]| .slice k _ _,.nil=>some [.aA k []]| .slice k _ e,.slice es _=>(es.mapM (rd e)).map λxs=>[.aA k xs]| .arr _ e,.agg es=>(es.mapM (rd e)).map List.flatten| .struct c6,.agg es=>Lm c6 es|_,_=>none
def Lm{H:Type}:List eu->List (DataW H)->Option (List D)
 |[],[]=>some []|f::c6,d::ds=>(rd f d).bind λa=>(Lm c6 ds).map (a++·)|_,_=>none
end
mutual
def eb(P:Program):eu->TypeId->Bool
 | .bool,t=>match P.underlying t with|some .bool=>true|_=>false
 | .int k,t=>match P.underlying t with|some (.int bu)=>decide (k=bu)|_=>false
 | .str,t=>match P.underlying t with|some .string=>true|_=>false
 | .stop,_=>true| .slice k FN e,t=>match P.underlying t with|some (.slice c1)=>decide (P.cellsOf c1=k)&&decide (0<k)&&decide (P.bytesOf c1=FN)&&eb P e c1|_=>false
 | .arr n e,t=>match P.underlying t with|some (.array fI c1)=>decide (n=fI)&&decide (P.cellsOf t=n*P.cellsOf c1)&&eb P e c1|_=>false
 | .struct c6,t=>match P.underlying t with|some (.struct Rp)=>yY P c6 Rp.toList 0 (P.cellsOf t)|_=>false
def yY(P:Program):List eu->List Field->Nat->Nat->Bool
 |[],[],off,n=>decide (off=n)|f::c6,x::xs,off,n=>decide (x.offset=off)&&eb P f x.type&&yY P c6 xs (off+P.cellsOf x.type) n|_,_,_,_=>false
end
mutual
def eu.ho:Nat->eu->Bool
 |0,_=>true|_+1,.stop=>false|n+1,.slice _ _ e=>e.ho n|n+1,.arr _ e=>e.ho n|n+1,.struct c6=>qk n c6|_+1,_=>true
def qk:Nat->List eu->Bool
 |_,[]=>true|n,f::c6=>f.ho n&&qk n c6
end
def Rel(m:Mem):List D->List Value->Prop
 |[],[]=>True|d::ds,v::vs=>D.one d=true/\cY m d v/\Rel m ds vs|_,_=>False
def Rel.len{m:Mem}:∀{ds:List D}{vs:List Value},Rel m ds vs->vs.length=ds.length
 |[],[],_=>rfl|_::_,_::_,h=>by simp[Rel.len h.2.2]|[],_::_,h=>h.elim|_::_,[],h=>h.elim
def Rel.at{m:Mem}:∀{ds:List D}{vs:List Value},Rel m ds vs->∀(i:Nat)(d:D),ds[i]?=some d->∃v,vs[i]?=some v/\D.one d=true/\cY m d v
 |[],[],_,i,d,h=>by simp at h|x::ds,v::vs,h,0,d,az=>by simp at az;subst az;exact⟨v,rfl,h.1,h.2.1⟩|_::_,_::_,h,i+1,d,az=>by simpa using Rel.at h.2.2 i d (by simpa using az)|[],_::_,h,_,_,_=>h.elim|_::_,[],h,_,_,_=>h.elim
def Rel.append{m:Mem}:∀{ds:List D}{vs:List Value}{BD:List D}{Rq:List Value},Rel m ds vs->Rel m BD Rq->Rel m (ds++BD) (vs++Rq)
 |[],[],_,_,_,bs=>bs|_::_,_::_,_,_,h,bs=>⟨h.1,h.2.1,Rel.append h.2.2 bs⟩|[],_::_,_,_,h,_=>h.elim|_::_,[],_,_,h,_=>h.elim
def Rel.one{m:Mem}:∀{ds:List D}{vs:List Value},Rel m ds vs->ds.all D.one=true
 |[],[],_=>rfl|_::_,_::_,h=>by simp only[xba,h.1,Rel.one h.2.2,Bool.and_self]|[],_::_,h=>h.elim|_::_,[],h=>h.elim
def Rr{α:Type}:∀(n:Nat)(Q:Nat->α->Prop),(∀i,i<n->∃y,Q i y)->∃c0:List α,c0.length=n/\∀(i:Nat)(y:α),c0[i]?=some y->Q i y
 |0,_,_=>⟨[],rfl,by intro i y h;simp at h⟩
 |n+1,Q,h=>by obtain⟨c0,ab,ad⟩:=Rr n (λi=>Q (i+1)) λi ag=>h (i+1) (by omega);obtain⟨y,aP⟩:=h 0 (by omega);refine⟨y::c0,by simp[ab],?_⟩;intro i z bm;cases i with|zero=>simp at bm;subst bm;exact aP|succ i=>exact ad i z (by simpa using bm)
def Rs{α β:Type}(f:α->Option β):∀(l:List α)(r:List β),r.length=l.length->(∀(i:Nat)(x:α)(y:β),l[i]?=some x->r[i]?=some y->f x=some y)->l.mapM f=some r
 |[],[],_,_=>rfl|x::l,y::r,an,h=>by have aq:=h 0 x y rfl rfl;have ih:=Rs f l r (by simpa using an) λi x y ae aP=>h (i+1) x y (by simpa using ae) (by simpa using aP);simp[List.mapM_cons,aq,ih]|[],_::_,h,_=>by simp at h|_::_,[],h,_=>by simp at h
section
variable{H:Type}{enc:TypeId×Value->H}{P:Program}{w:World}{base:Nat}{spare:Nat->Bool}{held:Bool}
def pieces{m:Mem}{c:Nat}{cs:List Value}:∀(fZ:List (List D)) (o:Nat),(∀(i:Nat)(x:List D),fZ[i]?=some x->Rel m x ((cs.drop (o+i*c)).take c))->(o+fZ.length*c=cs.length)->Rel m fZ.flatten (cs.drop o)
 |[],o,_,an=>by have:cs.drop o=[]:=xck (by simp at an;omega);rw[this];trivial
 |x::r,o,h,an=>by
  have en:o+c+r.length*c=cs.length:=by simp only[xak,xaT]at an;omega
  have aq:=h 0 x rfl;have ih:=pieces (m:=m) (cs:=cs) (c:=c) r (o+c) (λi x ae=>by have:=h (i+1) x (by simpa using ae);rw[show o+c+i*c=o+(i+1)*c by rw[xaT];omega];exact this) en
  have e:cs.drop o=(cs.drop o).take c++cs.drop (o+c):=by
   conv=>lhs;rw[<-xbz c (cs.drop o)]
   rw[List.drop_drop]
  rw[e,List.flatten_cons];refine Rel.append ?_ ih;simpa using aq
def Rt{H:Type}{P:Program}{e:TypeId}:∀{l:List (DataW H)} {x:DataW H} {y:Nat},x∈l->y∈x.weights P e->y∈DataW.weightsAll P e l
 |a::r,x,y,ae,aP=>by
  simp only[DataW.weightsAll,xaL];rcases xas.1 ae with rfl|ae
  .exact .inl aP
  exact .inr (Rt ae aP)
def YV(m:Mem)(hm:∀b o,w.heap[b]?=some o->m b=some o):∀(n:Nat)(ty:eu)(t:TypeId)(cs:List Value)(x:DataW H×List MemPlace),eb P ty t=true->ty.ho n=true->(x.1.weights P t).all (·<=reachBytes)=true->DataW.trod enc P w base spare held n t cs=some x-> ∃ds,rd ty x.1=some ds/\l8 ty ds/\Rel m ds cs:=by
 intro n
 induction n with
 |zero=>intro ty t cs x _ _ _ h;simp[DataW.trod]at h
 |succ n ih=>
  intro ty t cs x eX lY hh h;cases ty with
  |stop=>simp[eu.ho]at lY
  |bool=>
   simp only[eb]at eX;split at eX;.obtain⟨b,rfl,rfl⟩:=DataW.trod_bool ‹_› h;exact⟨[ay b],rfl,⟨b,rfl⟩,rfl,.val _,trivial⟩
   cases eX
  |int k=>
   simp only[eb]at eX;split at eX;.have:=xaX eX;subst this;obtain⟨z,rfl,rfl,hw⟩:=DataW.trod_int ‹_› h;exact⟨[.val (.int k z)],rfl,⟨z,rfl,hw⟩,rfl,.val _,trivial⟩
   cases eX
  |str=>
   simp only[eb]at eX;split at eX
   .obtain⟨s,rfl,rfl,hw⟩:=DataW.trod_string ‹_› h;refine⟨[aQ s],?_,⟨s,rfl,?_⟩,rfl,.val _,trivial⟩;.simp[rd]
    simp only[DataW.weights,xba,List.all_nil,xbt,xaG]at hh;simp only[reachBytes]at hh;simpa using hh
   cases eX
  |slice k FN e=>
   simp only[eb]at eX;split at eX
   .rename_i c1 hu;simp only[xao,xaG]at eX;obtain⟨⟨⟨ah,FO⟩,yd⟩,he⟩:=eX;subst ah;subst yd;simp only[eu.ho]at lY;rcases DataW.trod_slice hu h with⟨rfl,rfl⟩|⟨a,len,cap,elems,rest,fI,aC,rfl,rfl,ak,V8,sB,eN,FP,_,_⟩
    .exact⟨[.aA _ []],rfl,⟨[],rfl,by simp,by simp,by simp⟩,rfl,.kg _ _ _,trivial⟩
    cases aC;simp only[DataW.weights,hu,xba,List.all_append,xao,xaG,xaV,reachBytes]at hh;obtain⟨wh,Pc,_⟩:=hh;have each:∀i,i<len->∃ds,∃x,elems[i]?=some x/\rd e x.1=some ds/\l8 e ds/\∃c,w.cells? base (a.add (i*P.cellsOf c1)) (P.cellsOf c1)=some c/\Rel m ds c:=by
     intro i ag;have ab:=FP i ag;rw[xad (by omega)]at ab;obtain⟨c,ad,ax⟩:=Option.bind_eq_some_iff.1 ab;have Ru:((elems[i]'(by omega)).1.weights P c1).all (·<=reachBytes)=true:=by refine xau.2 λy aP=>xau.1 Pc y ?_;exact Rt (xaR.2 ⟨_,xbd _,rfl⟩) aP
     obtain⟨ds,g1,g2,g3⟩:=ih e c1 c _ he lY Ru ax;exact⟨ds,_,xad (by omega),g1,g2,c,ad,g3⟩
    obtain⟨es,an,l4⟩:=Rr len _ each;have Rv:∀(i:Nat)(ds:List D),es[i]?=some ds->ds.length=P.cellsOf c1:=by intro i ds ag;obtain⟨_,_,_,_,c,ai,au⟩:=l4 i ds ag;rw[<-au.len];exact(World.cells?_some ai).2.1
    refine⟨[.aA (P.cellsOf c1) es],?_,⟨es,rfl,by omega,?_,?_⟩,rfl,?_,trivial⟩
    .simp only[rd];rw[Rs (rd e) (elems.map (·.1)) es (by simp;omega)];.rfl
     intro i x y ae aP;obtain⟨z,ab,ad,_⟩:=l4 i y aP;simp[ab]at ae;rw[<-ae];exact ad
    .have:es.length<=elems.length+rest.length:=by omega
     exact xbr (xaB _ this) (xaX wh)
    .intro x ae;obtain⟨i,ag,rfl⟩:=List.getElem_of_mem ae;obtain⟨_,_,_,g2,_⟩:=l4 i _ (xad ag);exact⟨Rv i _ (xad ag),g2⟩
    by_cases aq:len=0;.subst aq;have:es=[]:=xaM an;subst this;exact .kg _ _ _
    have qS:∀(i:Nat)(ds:List D),es[i]?=some ds->∀j,j<P.cellsOf c1->w.cell? ((a.add (i*P.cellsOf c1)).add j)≠none:=by intro i ds ag j aG;obtain⟨_,_,_,_,c,ai,au⟩:=l4 i ds ag;obtain⟨_,bG,bw⟩:=World.cells?_some ai;rw[bw j aG,xad (by omega)];simp
    have uh:=qS 0 _ (xad (by omega)) 0 FO;simp only[Nat.zero_mul,Addr.add,xaz]at uh;obtain⟨b,off,spot⟩:=a;unfold World.cell? at uh;cases bU:w.heap[b]? with
    |none=>simp[bU]at uh
    |some o=>
     cases o with
     |cells vs T dM=>
      simp only[bU]at uh;have alI:spot=none:=by cases spot with|none=>rfl|some s=>simp at uh
      subst alI;have cellAt:∀q,w.cell? ⟨b,q,none⟩=vs[q]?:=by intro q;simp[World.cell?,bU]
      have alJ:∀q,(⟨b,off,none⟩:Addr).add q=⟨b,off+q,none⟩:=by intro q;unfold Addr.add;split<;>simp_all
      have alK:∀o q,(⟨b,o,none⟩:Addr).add q=⟨b,o+q,none⟩:=by intro o q;unfold Addr.add;split<;>simp_all
      have key:∀(i:Nat)(ds:List D)(j:Nat)(c:D),es[i]?=some ds->ds[j]?=some c->∃v,vs[off+i*P.cellsOf c1+j]?=some v/\cY m c v:=by
       intro i ds j c ag aG;obtain⟨_,_,_,_,bc,ai,au⟩:=l4 i ds ag;obtain⟨_,bG,bw⟩:=World.cells?_some ai;obtain⟨v,eL,_,eM⟩:=au.at j c aG;have cn:j<P.cellsOf c1:=by rw[<-Rv i ds ag];exact(xae.1 aG).1
       refine⟨v,?_,eM⟩;rw[<-eL,<-bw j cn,alJ,alK,cellAt]
      rw[<-an];refine .aA _ es b off cap vs T dM (hm _ _ bU) ?_ (by omega) (λi j=>(vs[off+i*P.cellsOf c1+j]?).getD undef) ?_ ?_;.intro x ae;obtain⟨i,ag,rfl⟩:=List.getElem_of_mem ae;obtain⟨_,_,_,_,_,_,au⟩:=l4 i _ (xad ag);exact⟨Rv i _ (xad ag),au.one⟩
      .intro i ds j c ag aG;obtain⟨v,ab,_⟩:=key i ds j c ag aG;simp[ab]
      intro i ds j c ag aG;obtain⟨v,ab,ad⟩:=key i ds j c ag aG;simpa[ab]using ad
     |_=>simp[bU]at uh
   cases eX
  |arr k e=>
   simp only[eb]at eX;split at eX
   .rename_i bu c1 hu;simp only[xao,xaG]at eX;obtain⟨⟨ah,ai⟩,he⟩:=eX;subst ah;obtain⟨xs,fI,aC,rfl,bH,o7,FP⟩:=DataW.trod_array hu h;cases aC;simp only[eu.ho]at lY;simp only[DataW.weights,hu]at hh;have each:∀i,i<k->∃ds,∃x,xs[i]?=some x/\rd e x.1=some ds/\l8 e ds/\Rel m ds ((cs.drop (i*P.cellsOf c1)).take (P.cellsOf c1)):=by
     intro i ag;have ab:=FP i ag;rw[xad (by omega)]at ab;have Ru:((xs[i]'(by omega)).1.weights P c1).all (·<=reachBytes)=true:=by refine xau.2 λy aP=>xau.1 hh y ?_;exact Rt (xaR.2 ⟨_,xbd _,rfl⟩) aP
     obtain⟨ds,g1,g2,g3⟩:=ih e c1 _ _ he lY Ru ab;exact⟨ds,_,xad (by omega),g1,g2,g3⟩
    obtain⟨es,an,l4⟩:=Rr k _ each;refine⟨es.flatten,?_,⟨es,rfl,an,?_⟩,?_⟩
    .simp only[rd];rw[Rs (rd e) (xs.map (·.1)) es (by simp;omega)];.rfl
     intro i x y ae aP;obtain⟨z,ab,ad,_⟩:=l4 i y aP;simp[ab]at ae;rw[<-ae];exact ad
    .intro x ae;obtain⟨i,ag,rfl⟩:=List.getElem_of_mem ae;obtain⟨_,_,_,g2,_⟩:=l4 i _ (xad ag);exact g2
    have:=pieces (m:=m) (c:=P.cellsOf c1) (cs:=cs) es 0 (λi x ae=>by obtain⟨_,_,_,_,g3⟩:=l4 i x ae;simpa using g3) (by rw[an];omega);simpa using this
   cases eX
  |struct c6=>
   simp only[eb]at eX;split at eX
   .rename_i Rp hu;obtain⟨xs,fI,aC,rfl,bH,o7,FP⟩:=DataW.trod_struct hu h;cases aC;simp only[eu.ho]at lY;simp only[DataW.weights,hu]at hh;have go:∀(c6:List eu)(gs:List Field)(c0:List (DataW H×List MemPlace)) (off:Nat),yY P c6 gs off (P.cellsOf t)=true->qk n c6=true->(DataW.weightsEach P (gs.map (·.type)) (c0.map (·.1))).all (·<=reachBytes)=true->c0.length=gs.length->(∀(i:Nat)(f:Field),gs[i]?=some f->DataW.trod enc P w base spare held n f.type ((cs.drop f.offset).take (P.cellsOf f.type))=c0[i]?)-> ∃ds,Lm c6 (c0.map (·.1))=some ds/\Ll c6 ds/\Rel m ds (cs.drop off):=by
     intro c6
     induction c6 with
     |nil=>intro gs c0 off ab FQ wh ad ax;cases gs with|nil=>simp only[yY,xaG]at ab;have:c0=[]:=xaM ad;subst this;refine⟨[],rfl,rfl,?_⟩;rw[xck (by omega)];trivial|cons _ _=>simp[yY]at ab
     |cons f c6 alL=>
      intro gs c0 off ab FQ wh ad ax;cases gs with
      |nil=>simp[yY]at ab
      |cons g gs=>
       cases c0 with
       |nil=>simp at ad
       |cons y c0=>
        simp only[yY,xao,xaG]at ab;obtain⟨⟨aN,aV⟩,bS⟩:=ab;simp only[qk,xao]at FQ;simp only[xay,DataW.weightsEach,List.all_append,xao]at wh;obtain⟨a,ao,a2,a3⟩:=ih f g.type _ y aV FQ.1 wh.1 (ax 0 g rfl);obtain⟨b,e3,hW,kL⟩:=alL gs c0 _ bS FQ.2 wh.2 (by simpa using ad) (λi f ba=>by simpa using ax (i+1) f (by simpa using ba));refine⟨a++b,by simp[Lm,ao,e3],⟨a,b,rfl,a2,hW⟩,?_⟩;have e:cs.drop off=(cs.drop off).take (P.cellsOf g.type)++cs.drop (off+P.cellsOf g.type):=by
         conv=>lhs;rw[<-xbz (P.cellsOf g.type) (cs.drop off)]
         rw[List.drop_drop]
        rw[e];refine Rel.append ?_ kL;rw[<-aN];exact a3
    obtain⟨ds,g1,g2,g3⟩:=go c6 Rp.toList xs 0 eX lY hh (by simpa using o7) (λi f ba=>FP i f (by simpa using ba));exact⟨ds,g1,g2,by simpa using g3⟩
   cases eX
end
open Go.ChangeShapes Go.WideShapes Go.ChangeAt Go.RowKit
def wZ:eu->D->Prop
 | .struct c6,d=>∃ds,d= .agg ds/\Ll c6 ds| .arr _ _,_=>False|ty,d=>l8 ty [d]
def Ln{H:Type}(ty:eu)(x:DataW H)(d:D):Prop:=match ty with| .struct c6=>∃ds,d= .agg ds/\rd (.struct c6) x=some ds|ty=>rd ty x=some [d]
abbrev rp:=Nat->eu
def pt(t:eu):rp:=λ_=>t
mutual
def s4:eu->Bool
 | .stop=>false| .slice _ _ e=>s4 e| .arr _ e=>s4 e| .struct c6=>Lo c6|_=>true
def Lo:List eu->Bool
 |[]=>true|f::c6=>s4 f&&Lo c6
end
mutual
def w1:∀(n:Nat)(t:eu),s4 t=true->t.ho n=true
 |0,t,_=>by cases t<;>rfl
 |n+1,.stop,h=>by simp[s4]at h|n+1,.slice _ _ e,h=>by rw[s4]at h;rw[eu.ho];exact w1 n e h|n+1,.arr _ e,h=>by rw[s4]at h;rw[eu.ho];exact w1 n e h|n+1,.struct c6,h=>by rw[s4]at h;rw[eu.ho];exact YW n c6 h|n+1,.bool,_=>rfl|n+1,.int _,_=>rfl|n+1,.str,_=>rfl
def YW:∀(n:Nat)(t:List eu),Lo t=true->qk n t=true
 |n,[],_=>by cases n<;>rfl
 |n,f::c6,h=>by rw[Lo,xao]at h;rw[qk,w1 n f h.1,YW n c6 h.2];rfl
end
def YX:eu->Bool
 | .arr _ _=>false|_=>true
structure s5(P:Program)(F:rp)(t:TypeId):Prop where
 deep:∀n,(F n).ho n=true
 ok:∀n,eb P (F n) t=true
 lt:t<P.types.size
 alM:∀n,YX (F n)=true
def Cd{P:Program}{y:eu}{t:TypeId}(h:(s4 y&&YX y&&eb P y t&&decide (t<P.types.size))=true):s5 P (pt y) t:=by simp only[xao,xaG]at h;exact⟨λn=>w1 n y h.1.1.1,λ_=>h.1.2,h.2,λ_=>h.1.1.2⟩
def Ce(P:Program):List rp->List TypeId->Prop
 |[],[]=>True|F::Fs,t::ts=>s5 P F t/\Ce P Fs ts|_,_=>False
def Ce.lt{P:Program}:∀{Fs:List rp}{ts:List TypeId},Ce P Fs ts->∀t∈ts,t<P.types.size
 |[],[],_,t,h=>by simp at h
 |F::Fs,u::ts,h,t,aF=>by
  rcases xas.1 aF with rfl|aF;.exact h.1.lt
  exact Ce.lt h.2 t aF
 |[],_::_,h,_,_=>h.elim|_::_,[],h,_,_=>h.elim
def oB{H:Type}:List rp->List (DataW H)->List D->Prop
 |[],[],[]=>True|F::Fs,x::xs,d::ds=>(∃n,Ln (F n) x d/\wZ (F n) d)/\oB Fs xs ds|_,_,_=>False
section
variable{H:Type}{enc:TypeId×Value->H}{P:Program}{w:World}
def Lp{m:Mem}{ds:List D}{v:Value}(h:Rel m ds [v]):∃d,ds=[d]/\cY m d v:=by cases ds with|nil=>exact h.elim|cons d r=>cases r with|nil=>exact⟨d,rfl,h.2.1⟩|cons _ _=>exact h.2.2.elim
def alN{m:Mem}{ds:List D}{cs:Array Value}(h:Rel m ds cs.toList):cY m (.agg ds) (.agg cs):=by
 refine .agg _ _ (by simpa using h.len) ?_;intro i c v ai aK;obtain⟨u,ab,_,ad⟩:=h.at i c ai;have:cs[i]?=some u:=by simpa using ab
 rw[aK]at this;cases this;exact ad
def alO(m:Mem)(hm:∀(b:Nat)(o:Obj),w.heap[b]?=some o->m b=some o){r:Reach}{oy base:Nat}{sp:Nat->Bool}{held:Bool}{F:rp}{t:TypeId}{v:Value}{x:DataW H}{jy:List MemPlace} (hN:s5 P F t) (hh:(x.weights P t).all (·<=reachBytes)=true) (iY:Value.okWide P w r oy t v) (h:DataW.Trod enc P w base sp held t v x jy):∃d n,Ln (F n) x d/\wZ (F n) d/\cY m d v:=by
 obtain⟨n,aC⟩:=h;have eX:=hN.ok n;have FR:=hN.alM n;obtain⟨ds,ab,ad,ax⟩:=YV m hm n (F n) t _ _ eX (hN.deep n) hh aC
 suffices h:∃d,Ln (F n) x d/\wZ (F n) d/\cY m d v from let⟨d,a⟩:=h;⟨d,n,a⟩
 clear hN aC;generalize F n=ty at*;cases ty with
 |bool=>
  simp only[eb]at eX;split at eX;.obtain⟨b,rfl⟩:=okWide_bool ‹_› iY;obtain⟨d,rfl,az⟩:=Lp ax;exact⟨d,ab,ad,az⟩
  cases eX
 |int k=>
  simp only[eb]at eX;split at eX;.obtain⟨b,rfl⟩:=okWide_int ‹_› iY;obtain⟨d,rfl,az⟩:=Lp ax;exact⟨d,ab,ad,az⟩
  cases eX
 |str=>
  simp only[eb]at eX;split at eX;.obtain⟨b,rfl⟩:=okWide_string ‹_› iY;obtain⟨d,rfl,az⟩:=Lp ax;exact⟨d,ab,ad,az⟩
  cases eX
 |stop=>exact(by simpa[l8]using ad:False).elim
 |slice k FN e=>
  simp only[eb]at eX;split at eX;.obtain⟨a,l,c,rfl⟩:=okWide_slice ‹_› iY;obtain⟨d,rfl,az⟩:=Lp ax;exact⟨d,ab,ad,az⟩
  cases eX
 |arr n e=>cases FR
 |struct c6=>
  simp only[eb]at eX;split at eX;.obtain⟨cs,rfl,_⟩:=okWide_struct ‹_› iY;exact⟨.agg ds,⟨ds,rfl,ab⟩,⟨ds,rfl,ad⟩,alN ax⟩
  cases eX
def YY(m:Mem)(hm:∀(b:Nat)(o:Obj),w.heap[b]?=some o->m b=some o){r:Reach}{oy base:Nat}{sp:Nat->Bool}{held:Bool}:∀{Fs:List rp}{ts:List TypeId}{vs:List Value}{xs:List (DataW H)} {jy:List MemPlace},Ce P Fs ts->(DataW.weightsEach P ts xs).all (·<=reachBytes)=true->(∀(j:Nat) t v,ts[j]?=some t->vs[j]?=some v->Value.okWide P w r oy t v)->DataW.TrodAll enc P w base sp held ts vs xs jy-> ∃ds,oB Fs xs ds/\n9 m ds vs
 |[],[],vs,xs,jy,_,_,_,h=>by obtain⟨rfl,rfl,rfl⟩:=trodAll_nil h;exact⟨[],trivial,rfl,by intro i d v az;simp at az⟩
 |F::Fs,t::ts,vs,xs,jy,eX,hh,iY,h=>by obtain⟨v,Rq,x,JO,p,q,rfl,rfl,rfl,ab,ad⟩:=trodAll_cons h;simp only[DataW.weightsEach,List.all_append,xao]at hh;obtain⟨d,n,d1,d2,d3⟩:=alO m hm eX.1 hh.1 (iY 0 t v rfl rfl) ab;obtain⟨ds,aN,bS⟩:=YY m hm eX.2 hh.2 (λj t v aF aK=>iY (j+1) t v (by simpa using aF) (by simpa using aK)) ad;refine⟨d::ds,⟨⟨n,d1,d2⟩,aN⟩,by simpa using bS.1,?_⟩;intro i c u ai hu;cases i with|zero=>simp at ai hu;subst ai;subst hu;exact d3|succ i=>exact bS.2 i c u (by simpa using ai) (by simpa using hu)
 |[],_::_,_,_,_,h,_,_,_=>h.elim|_::_,[],_,_,_,h,_,_,_=>h.elim
def again{W hY:World}(hle:∀(b:Nat)(o:Obj),W.heap[b]?=some o->hY.heap[b]?=some o)(an:laidOutB P=true)(hm:mapsRowed P=true) (bm:((List.range P.types.size).all λt=>match P.underlying t with|some (.slice e)=>decide (0<P.cellsOf e)|_=>true)=true) {sp:Nat->Bool}: ∀{ts:List TypeId}{vs:List Value}{ds:List (DataW H)} {jy:List MemPlace},(∀t∈ts,t<P.types.size)->DataW.TrodAll enc P W 0 (λ_=>true) true ts vs ds jy->(∀p∈jy,p.block<W.heap.size)->(∀p∈jy,sp p.block=true)->DataW.TrodAll enc P hY 0 sp true ts vs ds jy
 |[],[],[],_,_,h,_,_=>h
 |t::ts,v::vs,d::ds,_,aF,⟨p,q,⟨n,ab⟩,ad,e⟩,bZ,av=>by
  refine⟨p,q,⟨n,?_⟩,again hle an hm bm (λt h=>aF t (by simp[h])) ad (λx ae=>bZ x (by rw[e];exact List.mem_append_right _ ae)) (λx ae=>av x (by rw[e];exact List.mem_append_right _ ae)),e⟩;refine DataW.trod_stays (kids_rows an hm) (λ{t e} ab ad=>slices_full_of P bm t e ab ad) (λh=>by cases h) (aF t (by simp)) ab ?_ (λx ae=>av x (by rw[e];exact xbU _ ae));intro x ae;have ak:=bZ x (by rw[e];exact xbU _ ae);have bU:hY.heap[x.block]?=W.heap[x.block]?:=by rw[xam ak];exact hle _ _ (xam ak)
  cases x with
  |cell b off=>show hY.cell? ⟨b,off,none⟩=W.cell? ⟨b,off,none⟩;unfold World.cell?;rw[show hY.heap[b]?=W.heap[b]? from bU]
  |map b=>exact bU
def Lq(W:World):eS:=⟨λ_=>none,W.os,W.output,W.heap.size⟩
theorem alP(W:World):mq (λb=>W.heap[b]?) (Lq W) W:=by refine⟨λb o h=>h,⟨λb o h=>by simp[Lq]at h,rfl,rfl,xaQ _⟩,λ_ _=>rfl⟩
def alQ{W hY:World}{cG:Mem}(hle:(show Mem fromλb=>W.heap[b]?).le cG)(h:mq cG (Lq W) hY):
  W.keptBut hY (λ_=>False)/\(∀a:Addr,a.block<W.heap.size->hY.frozen? a=W.frozen? a)/\(∀(b:Nat)(o:Obj),W.heap[b]?=some o->hY.heap[b]?=some o):=by
 have bU:∀(b:Nat)(o:Obj),W.heap[b]?=some o->hY.heap[b]?=some o:=λb o ak=>h.mem b o (hle b o ak);refine⟨⟨h.frame.quiet.os,h.frame.quiet.out,λi ag=>?_⟩,λa aH=>?_,bU⟩
 .have ab:=xam ag;have ad:=bU i _ ab;rw[ab,ad];split
  .rename_i aN aV;rw[aN]at aV;simp only[xaH,Obj.cells.injEq]at aV;obtain⟨rfl,rfl,rfl⟩:=aV;exact⟨rfl,rfl,rfl,λ_ _=>rfl⟩
  .rename_i aN aV;rw[aN]at aV;simp only[xaH,Obj.map.injEq]at aV;exact Or.inr ⟨aV.1.symm,aV.2.symm⟩
  rfl
 .unfold World.frozen?;have ak:=xam aH;rw[ak,bU _ _ ak]
section
open DataW
def alR{f:Func}{s:ChangeSpec}{apart fresh handsOn again:Bool}{W hY:World}{args:Array Value}{v:Value}{ds gs:List (DataW H)}{before pa pv:List MemPlace} (ie:DataW.Whole enc P f.params.toList s.vars apart W args.toList ds gs before) (q8:∀(b:Nat)(sp:Nat->Bool)(az:Bool),DataW.TrodAll enc P hY b sp az f.resultTypes.toList (v.resultList f.resultTypes.size) (s.fn H (ds++gs)).results []) (x6:∀sp:Nat->Bool,(∀p∈before,sp p.block=true)->DataW.TrodAll enc P hY 0 sp true f.params.toList args.toList (s.fn H (ds++gs)).args pa) (FT:∀sp:Nat->Bool,(∀p∈before,sp p.block=true)->DataW.TrodVars enc P hY sp s.vars (s.fn H (ds++gs)).vars pv) (FU:before=pa++pv) (ah:W.keptBut hY (·∈before)) (Cf:∀a:Addr,a.block<W.heap.size->hY.frozen? a=W.frozen? a) (bq:∀(j:Nat)(t:TypeId)(r:Value),f.resultTypes[j]?=some t->(v.resultList f.resultTypes.size)[j]?=some r->Value.okWide P hY .any 0 t r):s.post enc P f apart fresh handsOn again W args v hY:=by
 have bZ:=ie.lt;refine⟨ds,gs,before,[],pa,pv,ie,q8 _ _ _,x6 _ λp aU=>by simpa using bZ p aU,FT _ λp aU=>by simpa using bZ p aU,World.keptBut_mono (λp aU=>⟨aU,?_⟩) ah,λ_=>?_⟩;.rw[FU,xaL]at aU;exact .inr aU
 obtain⟨_,_,_,_,_,bm,aC⟩:=ie;refine⟨bq,_,_,([]++pa)++pv,⟨[]++pa,pv,trodAll_append (x6 _ λ_ _=>rfl) (q8 _ _ _),FT _ λ_ _=>rfl,rfl,?_,?_⟩,?_⟩
 .intro b off aU;have wW:MemPlace.cell b off∈before:=by rw[FU];simpa using aU
  rw[Cf _ (bZ _ wW)];exact bm b off wW
 .intro aH;have:=aC aH;rw[FU]at this;simpa using this
 intro p aU _;rw[FU];simpa using aU
end
def Lr{G:c9}{f:FuncId}{fn:Func}{s:ChangeSpec}{Fs:List rp}{tr:TypeId}{W:World}{base:Nat}{args:Array Value}{ds gs:List (DataW H)}{before:List MemPlace} (an:laidOutB P=true) (hm:mapsRowed P=true) (bm:((List.range P.types.size).all λt=>match P.underlying t with|some (.slice e)=>decide (0<P.cellsOf e)|_=>true)=true) (eX:Ce P Fs fn.params.toList) (q8:fn.resultTypes= #[tr]) (hA:P.underlying tr=some .bool) (FT:s.vars=[]) (av:∀ds:List (DataW H),ds.length=Fs.length->s.fn H ds=⟨[.lit (.bool true)],ds,[]⟩) (hv:∀fZ,oB Fs ds fZ->eD P G f fZ (·=ay true)) (cM:jv G (λb:Nat=>W.heap[b]?)) {YZ:List TypeId} (alS:YZ=[]) (hh:(DataW.weightsEach P (fn.params.toList++YZ) (ds++gs)).all (·<=reachBytes)=true) (iY:∀(j:Nat) t v,fn.params[j]?=some t->args[j]?=some v->Value.okWide P W .any base t v) (ie:DataW.Whole enc P fn.params.toList s.vars false W args.toList ds gs before):Calls P f args W λe hY=>∃v,e= .returned v/\s.post enc P fn false true false false W args v hY:=by
 have Y0:=ie;obtain⟨p,q,di,hp,rfl,Cf,aAB⟩:=ie;rw[FT]at hp;obtain⟨rfl,rfl⟩:=trodVars_none hp;subst alS;rw[xax,xax]at hh;obtain⟨fZ,d1,d3⟩:=YY (λb=>W.heap[b]?) (λb o h=>h) eX hh (λj t v aF aK=>iY j t v (by simpa using aF) (by simpa using aK)) di;have ai:=(hv fZ d1).run (λb=>W.heap[b]?) (Lq W) W args.toList cM (alP W) d3;have bH:ds.length=Fs.length:=by
  have:∀(dq:List rp)(ds:List (DataW H)) (fZ:List D),oB dq ds fZ->ds.length=dq.length:=by
   intro dq
   induction dq with
   |nil=>intro ds fZ h;cases ds<;>cases fZ<;>simp_all [oB]
   |cons y dq ih=>
    intro ds fZ h;cases ds with
    |nil=>cases fZ<;>simp[oB]at h
    |cons x ds=>cases fZ with|nil=>simp[oB]at h|cons d fZ=>simp[ih ds fZ h.2]
  exact this _ _ _ d1
 refine ai.mono λe hY ⟨v,cG,r,he,au,hle,cH,aK⟩=>?_;subst au;have yZ:v= .bool true:=by cases aK;rfl
 subst yZ;obtain⟨cA,dv,jE⟩:=alQ hle cH;have bZ:=Y0.lt;refine⟨_,he,?_⟩;have oz:=av (ds++[]) (by simpa using bH);simp only[xax]at oz;refine alR (pa:=p) (pv:=[]) Y0 (λb sp az=>?_) (λsp fb=>?_) (λsp fb=>?_) rfl (World.keptBut_mono (λ_ h=>h.elim) cA) dv (ok_one q8 rfl (okWide_bool_mk hA _))
 .rw[xax,oz,q8];exact trodAll_cons_mk (shut_bool hA true) trodAll_mk0
 .rw[xax,oz];exact again jE an hm bm eX.lt di (λx ae=>bZ x (by simpa using ae)) (λx ae=>fb x (by simpa using ae))
 rw[xax,oz,FT];rfl
def Y1{W:World}:∀(laid:List (String×DataW Unit)) (gs:List (Nat×TypeId×eu×List D)) (jy:List MemPlace),DataW.LaidVars P W laid jy->gs.length=laid.length->(∀(i:Nat) x g,laid[i]?=some x->gs[i]?=some g->P.globalNamed x.1=some g.1/\(P.globals[g.1]?).map (·.type)=some g.2.1/\eb P g.2.2.1 g.2.1=true/\rd g.2.2.1 x.2=some g.2.2.2/\s4 g.2.2.1=true/\(x.2.weights P g.2.1).all (·<=reachBytes)=true)-> ∀g∈gs,∃vs T dM,W.heap[g.1]?=some (.cells vs T dM)/\Rel (λb=>W.heap[b]?) g.2.2.2 vs.toList
 |[],[],_,_,_,_,g,bB=>by simp at bB
 |(k5,x)::laid,y::gs,jy,h,an,ae,g,bB=>by
  obtain⟨qY,t,cs,fuel,p,q,ab,ad,ax,a8,b3,_⟩:=h;rcases xas.1 bB with rfl|bB
  .obtain⟨a2,a3,a4,a5,j1,kM⟩:=ae 0 _ _ rfl rfl;have aN:=xaN (a2.symm.trans ab);subst aN;have aV:=xaN (a3.symm.trans ad);subst aV;obtain⟨ds,e3,_,kL⟩:=YV (λb=>W.heap[b]?) (λb o h=>h) fuel _ _ _ _ a4 (w1 _ _ j1) kM a8;have bS:=xaN (a5.symm.trans e3);unfold World.var? at ax;rw[ab]at ax;simp only[Option.bind_some]at ax;split at ax
   .rename_i mm T dM bU;cases ax;exact⟨_,T,dM,bU,by rw[bS];exact kL⟩
   cases ax
  exact Y1 laid gs q b3 (by simpa using an) (λi x g e7 alT=>ae (i+1) x g (by simpa using e7) (by simpa using alT)) g bB
 |[],_::_,_,_,h,_,_,_=>by simp at h|_::_,[],_,_,h,_,_,_=>by simp at h
def alU{G:c9}{W:World}(gs:List (Nat×TypeId×eu×List D))(cM:∀g cs,G g=some cs->∃x∈gs,x.1=g/\x.2.2.2=cs) (h:∀g∈gs,∃vs T dM,W.heap[g.1]?=some (.cells vs T dM)/\Rel (λb=>W.heap[b]?) g.2.2.2 vs.toList):jv G (λb:Nat=>W.heap[b]?):=by
 intro g cs bB;obtain⟨x,ae,rfl,rfl⟩:=cM g cs bB;obtain⟨vs,T,dM,ab,ad⟩:=h x ae;refine⟨vs,T,dM,ab,λj=>(vs[j]?).getD undef,?_,?_⟩
 .intro j c ai;obtain⟨v,bG,_,_⟩:=ad.at j c ai;have:vs[j]?=some v:=by simpa using bG
  simp[this]
 intro j c ai;obtain⟨v,bG,_,bw⟩:=ad.at j c ai;have:vs[j]?=some v:=by simpa using bG
 simpa[this]using bw
end
def Y2:eu:= .struct [.str,.bool,.int .i64,.int .i64]
def Ls:eu:= .slice 4 40 Y2
def w2:eu:= .slice 1 8 (.int .i64)
def pw{α:Type}(f:α->List D)(Q:α->Prop):∀(es:List (List D)),(∀x∈es,∃y,x=f y/\Q y)->∃l:List α,es=l.map f/\∀y∈l,Q y
 |[],_=>⟨[],rfl,by simp⟩|x::es,h=>by obtain⟨y,rfl,aP⟩:=h x (by simp);obtain⟨l,rfl,an⟩:=pw f Q es λx ae=>h x (by simp[ae]);exact⟨y::l,rfl,by intro z bm;rcases xas.1 bm with rfl|bm;exact aP;exact an z bm⟩
def alV{n:Int}(h:(Lit.int .i64 n).wf=true):gL n:=by have:=Go.bounds_i64 h;exact this
theorem y0{x:List D}(h:l8 (.int .i64) x):∃n,x=[J n]/\gL n:=by obtain⟨n,rfl,aC⟩:=h;exact⟨n,rfl,alV aC⟩
def Lt{x:List D}(h:l8 .str x):∃s,x=[aQ s]/\s.size<=140737488351232:=h
def alW{x:List D}(h:l8 .bool x):∃b,x=[ay b]:=h
def alX{x:List D}(h:l8 Y2 x):∃v:V,x=v.cells/\V.ok v:=by obtain⟨a,b,rfl,aH,c,d,rfl,ai,e,f,rfl,he,g,i,rfl,bB,rfl⟩:=h;obtain⟨s,rfl,av⟩:=Lt aH;obtain⟨q,rfl⟩:=alW ai;obtain⟨lo,rfl,gm⟩:=y0 he;obtain⟨ag,rfl,wK⟩:=y0 bB;exact⟨⟨s,q,lo,ag⟩,rfl,gm,wK,by simp only;omega⟩
def alY{k b:Nat}{d:D}{e:eu}(h:l8 (.slice k b e) [d]):∃es,d= .aA k es/\es.length*b<=140737488351232/\∀x∈es,l8 e x:=by obtain⟨es,he,_,ab,ad⟩:=h;cases he;exact⟨es,rfl,ab,λx ae=>(ad x ae).2⟩
def Lu{d:D}(h:wZ w2 d):∃l:List Int,d=b0 l/\l.length*8<=140737488351232/\∀v∈l,gL v:=by obtain⟨es,rfl,ab,ad⟩:=alY h;obtain⟨l,rfl,an⟩:=pw (λn=>[J n]) gL es λx ae=>y0 (ad x ae);exact⟨l,rfl,by simpa using ab,an⟩
def Y3{d:D}(h:wZ (.int .i64) d):∃n,d=J n/\gL n:=by obtain⟨n,ab,ad⟩:=y0 h;exact⟨n,by simpa using ab,ad⟩
abbrev cS:D:= .val (.slice none 0 0)
def cF(k:Nat)(nl:Bool)(es:List (List D)):D:=if nl&&es.isEmpty then cS else .aA k es
section
variable{k:Nat}{nl:Bool}{es:List (List D)}
def alZ:cF k false es= .aA k es:=by simp[cF]
@[simp] theorem Y4:bF (cF k nl es)=some (J es.length):=by
 unfold cF;split;.rename_i h;simp at h;simp[h.2,J,bF]
 rfl
@[simp] theorem al0:bT (cF k nl es)=true:=by unfold cF;split<;>rfl
@[simp] theorem al1:(cF k nl es).one=true:=by unfold cF;split<;>rfl
def Rw{i:Nat}:bk k (cF k nl es) (J (i:Int))=es[i]?:=by
 unfold cF;split;.rename_i h;simp at h;simp[h.2,J,bk]
 simp
@[simp] theorem aAC:l3 (cF k nl es)=some (if nl&&es.isEmpty then(0,[])else(k,es)):=by unfold cF;split<;>rfl
end
inductive Tm where
 |mk (op n:Int) (name:ByteArray) (nl:Bool) (aW:List Tm)
namespace Tm
def op:Tm->Int| .mk o _ _ _ _=>o
def num:Tm->Int| .mk _ n _ _ _=>n
def name:Tm->ByteArray| .mk _ _ s _ _=>s
def nl:Tm->Bool| .mk _ _ _ b _=>b
def aW:Tm->List Tm| .mk _ _ _ _ l=>l
mutual
def cells:Tm->List D
 | .mk o n s b ks=>[J o,J n,aQ s,cF 4 b (rows ks)]
def rows:List Tm->List (List D)
 |[]=>[]|t::r=>cells t::rows r
end
def d(t:Tm):D:= .agg t.cells
mutual
def bD:Tm->Nat
 | .mk _ _ _ _ ks=>2+dL ks
def dL:List Tm->Nat
 |[]=>0|t::r=>1+bD t+dL r
end
def k6:∀l:List Tm,rows l=l.map cells
 |[]=>rfl|t::r=>by simp[rows,k6 r]
@[simp] theorem kN {l:List Tm}:(rows l).length=l.length:=by simp[k6]
def FV{l:List Tm}{i:Nat}{t:Tm}(h:l[i]?=some t):(rows l)[i]?=some t.cells:=by simp[k6,h]
def gW{l:List Tm}{b:Bool}{i:Nat}{t:Tm}(h:l[i]?=some t):bk 4 (cF 4 b (rows l)) (J (i:Int))=some t.cells:=by rw[Rw,FV h]
def FW:∀l:List Tm,l.length<=dL l
 |[]=>xaQ 0|t::r=>by simp only[dL,xak];have:=FW r;omega
def FX:∀{l:List Tm}{t:Tm},t∈l->bD t+1<=dL l
 |a::r,t,h=>by
  simp only[dL];rcases xas.1 h with rfl|h
  .omega
  have:=FX h;omega
def iZ{t k:Tm}(h:k∈t.aW):k.bD+3<=t.bD:=by cases t with|mk o n s b ks=>simp only[bD];have:=FX (show k∈ks from h);omega
def kO{t:Tm}:t.aW.length+2<=t.bD:=by cases t with|mk o n s b ks=>simp only[bD];have:=FW ks;show ks.length+2<=_;omega
def ind{P:Tm->Prop}(h:∀t:Tm,(∀k∈t.aW,P k)->P t)(t:Tm):P t:=by
 have:∀(n:Nat)(t:Tm),t.bD<=n->P t:=by
  intro n
  induction n with
  |zero=>intro t aF;cases t;simp[bD]at aF
  |succ n ih=>intro t aF;exact h t λk ah=>ih k (by have:=iZ ah;omega)
 exact this _ t (xaQ _)
inductive cz:Tm->Prop where
 |mk (o n:Int) (s:ByteArray) (b:Bool) (ks:List Tm) (aR:-9223372036854775808<=o/\o<=9223372036854775807) (aC:-9223372036854775808<=n/\n<=9223372036854775807) (av:s.size<=140737488355328) (an:ks.length*56<=140737488355328) (ah:∀k∈ks,cz k):cz (.mk o n s b ks)
def cz.eY{t k:Tm}(h:cz t)(ah:k∈t.aW):cz k:=by cases h with|mk o n s b ks aR aC av an e1=>exact e1 k ah
def cz.len{t:Tm}(h:cz t):t.aW.length*56<=140737488355328:=by cases h;assumption
theorem oC(t:Tm):t.cells=[J t.op,J t.num,aQ t.name,cF 4 t.nl (rows t.aW)]:=by cases t;rfl
theorem jF(t:Tm):t.d= .agg [J t.op,J t.num,aQ t.name,cF 4 t.nl (rows t.aW)]:=by cases t;rfl
@[simp] theorem m6 (t:Tm):aX 4 t.d=true:=by rw[jF];simp
@[simp] theorem px (t:Tm):aa t.d 0=J t.op:=by rw[jF];rfl
@[simp] theorem s6 (t:Tm):aa t.d 1=J t.num:=by rw[jF];rfl
@[simp] theorem s7 (t:Tm):aa t.d 2=aQ t.name:=by rw[jF];rfl
@[simp] theorem rq (t:Tm):aa t.d 3=cF 4 t.nl (rows t.aW):=by rw[jF];rfl
@[simp] theorem FY (t:Tm):D.agg [J t.op,J t.num,aQ t.name,cF 4 t.nl (rows t.aW)]=t.d:=(jF t).symm
@[simp high] theorem Rx (t:Tm):a7 true 4 0 t.cells=some t.d:=by rw[jF,oC];rfl
@[simp] theorem gn (t:Tm):t.cells[0]?=some (J t.op):=by rw[oC];rfl
@[simp] theorem hB (t:Tm):t.cells[1]?=some (J t.num):=by rw[oC];rfl
@[simp] theorem al2 (t:Tm):t.cells[2]?=some (aQ t.name):=by rw[oC];rfl
@[simp] theorem aAD (t:Tm):t.cells[3]?=some (cF 4 t.nl (rows t.aW)):=by rw[oC];rfl
end Tm
def c8{β α σ:Type}{f:List D->Option (List D⊕β)}(l:List α)(S:Nat->σ->List D)(eE:List α->σ->β)(Inv:Nat->σ->Prop) (aq:∀s,Inv l.length s->f (S l.length s)=some (.inr (eE [] s))) (ab:∀(i:Nat)(a:α)(s:σ),l[i]?=some a->i<l.length->Inv i s->(∃s',f (S i s)=some (.inl (S (i+1) s'))/\eE (a::l.drop (i+1)) s=eE (l.drop (i+1)) s'/\Inv (i+1) s')\/f (S i s)=some (.inr (eE (a::l.drop (i+1)) s))): ∀(m i:Nat)(s:σ),Inv i s->l.length-i<m->i<=l.length->bI f m (S i s)=some (eE (l.drop i) s)
 |0,i,s,_,h,_=>absurd h (xaF _)
 |m+1,i,s,ag,hm,hle=>by
  rw[kK];by_cases h:i<l.length
  .have bB:=xad h;have e:l.drop i=l[i]::l.drop (i+1):=xaU h;rcases ab i _ s bB h ag with⟨s',g1,g2,g3⟩|g1
   .rw[g1,e,g2];exact c8 l S eE Inv aq ab m (i+1) s' g3 (by omega) h
   rw[g1,e];rfl
  have:i=l.length:=by omega
  subst this;rw[aq s ag,xck (xaQ _)];rfl
def Lv(op:Int):op=1\/op=2\/op=3\/op=4\/op=5\/op=6\/op=7\/op=8\/op=9\/op=10\/op=11\/op=12\/op=13\/op=14\/op=15\/op=16\/op=17\/op=18\/(op<1\/op>18):=by omega
@[simp] theorem aAE {f:FuncId}:FJ f (.val (.func (.func f) #[] #[]))=true:=by simp[FJ]
@[simp] theorem nC {f:FuncId} {cs:List D}:lE f (.fn (.func f) [] cs)=some cs:=by simp[lE]
def FZ(a b:Int):iW true [J a,J b]=some (J (if b>a then b else a)):=by simp[iW,qP,sy,J,oj]
def Y5(a b:Int):iW false [J a,J b]=some (J (if b<a then b else a)):=by simp[iW,qP,sy,J,oj]
@[simp] theorem Y6 {b:Bool}:(ay b).flat=true:=rfl
@[simp] theorem al3 {b:Int}:(J b).flat=true:=rfl
@[simp] theorem al4 {b:ByteArray}:(aQ b).flat=true:=rfl
@[simp] theorem al5 {a:Int}:da .neg (J a)=some (J (IntKind.i64.wrap (-a))):=by rw[<-Int.zero_sub];rfl
theorem Y7:(D.val (.bool false))=ay false:=rfl
theorem Y8:(D.val (.int .i64 0))=J 0:=rfl
theorem Y9:(D.val (.string ⟨#[]⟩))=aQ ⟨#[]⟩:=rfl
@[simp] theorem al6 (a b c:D):aX 3 (.agg [a,b,c])=(a.one&&(b.one&&c.one)):=by simp[aX]
@[simp] theorem al7 (a b c e:D):aX 4 (.agg [a,b,c,e])=(a.one&&(b.one&&(c.one&&e.one))):=by simp[aX]
@[simp] theorem aAF {a:D} {l:List D}:aa (.agg (a::l)) 0=a:=rfl
@[simp] theorem aAG {a b:D} {l:List D}:aa (.agg (a::b::l)) 1=b:=rfl
@[simp] theorem aAH {a b c:D} {l:List D}:aa (.agg (a::b::c::l)) 2=c:=rfl
@[simp] theorem aAI {a b c e:D} {l:List D}:aa (.agg (a::b::c::e::l)) 3=e:=rfl
theorem cc{bt:Bool}{i:Nat}(h:i<1000000000000000000):aj bt .add (J (i:Int)) (J 1)=some (J ((i+1:Nat):Int)):=by rw[er (by omega) (by omega)];rfl
def lG{bt:Bool}{i:Int}(h:-9223372036854775809<=i)(bs:i<9223372036854775807):aj bt .add (J i) (J 1)=some (J (i+1)):=by rw[er (by omega) (by omega)]
section
variable{α β:Type}{c:Prop}[Decidable c]
@[simp] theorem aAJ {a b:α}:(if c then(Sum.inl a:α⊕β)else Sum.inl b)=Sum.inl (if c then a else b):=by split<;>rfl
@[simp] theorem aAK {a b:β}:(if c then(Sum.inr a:α⊕β)else Sum.inr b)=Sum.inr (if c then a else b):=by split<;>rfl
@[simp] theorem aAL {a b:α} {l r:List α}:(if c then a::l else b::r)=(if c then a else b)::(if c then l else r):=by split<;>rfl
@[simp] theorem aAM {a b:Int}:(if c then J a else J b)=J (if c then a else b):=by split<;>rfl
@[simp] theorem aAN {a b:ByteArray}:(if c then aQ a else aQ b)=aQ (if c then a else b):=by split<;>rfl
@[simp] theorem Ry {a b:List D}:(if c then D.aO a else D.aO b)=D.aO (if c then a else b):=by split<;>rfl
@[simp] theorem aAO {a b:List D}:(if c then D.agg a else D.agg b)=D.agg (if c then a else b):=by split<;>rfl
@[simp] theorem aAP {f:List D->Option β} {x y:List D⊕β}:bg f (if c then x else y)=if c then bg f x else bg f y:=by split<;>rfl
@[simp] theorem aAQ {x y:Option α} {f:α->Option β}:R (if c then x else y) f=if c then R x f else R y f:=by split<;>rfl
end
section
variable{ei:Type}{c:Prop}[Decidable c]
@[simp] theorem aAR {x y:D} {w:Bool} {p:Option D}:bN (if c then x else y) w p=if c then bN x w p else bN y w p:=by split<;>rfl
@[simp] theorem aAS {x y:D} {w:Bool} {p q:Option ei}:yB (if c then x else y) w p q=if c then yB x w p q else yB y w p q:=by split<;>rfl
@[simp] theorem aAT {x y a b:D}:b1 (if c then x else y) a b=if c then b1 x a b else b1 y a b:=by split<;>rfl
@[simp] theorem aAU {x y:D} {p q:Option ei}:aE (if c then x else y) p q=if c then aE x p q else aE y p q:=by split<;>rfl
@[simp] theorem aAV {x y:D} {o:UnOp}:da o (if c then x else y)=if c then da o x else da o y:=by split<;>rfl
end
@[simp] theorem aAW {a b:Bool}:ay a=ay b↔a=b:=⟨λh=>by cases h;rfl,λh=>by rw[h]⟩
@[simp] theorem aAX {a b:Int}:J a=J b↔a=b:=⟨λh=>by cases h;rfl,λh=>by rw[h]⟩
@[simp] theorem aAY {a b:ByteArray}:aQ a=aQ b↔a=b:=⟨λh=>by cases h;rfl,λh=>by rw[h]⟩
attribute [simp] Y7 Y8 Y9
def lH(M:List (Value×D)):Prop:=∀e∈M,∃s,e.1= .string s
def gf:List (Value×D)->ByteArray->Option D
 |[],_=>none|(.string s,d)::r,x=>if s=x then some d else gf r x
 |_::r,x=>gf r x
def Za{e:Value×D}{M:List (Value×D)}(h:lH (e::M)):(∃s,e.1= .string s)/\lH M:=⟨h e (by simp),λx ae=>h x (by simp[ae])⟩
def Zb(a b:ByteArray):Instr.sameNow .string (.string a) (.string b)=some (decide (b=a)):=by simp[Instr.sameNow,OY,eq_comm]
def Zc{M:List (Value×D)}(h:lH M)(x:ByteArray):findD .string (.string x) M=some (gf M x):=by
 induction M with
 |nil=>rfl
 |cons e r ih=>
  obtain⟨⟨s,av⟩,au⟩:=Za h;obtain⟨k,d⟩:=e;simp only at av;subst av;simp only[findD,Zb,gf];by_cases ae:s=x;.simp[ae]
  simp[ae,ih au]
def al8{M:List (Value×D)}(h:lH M)(x:ByteArray)(d:D):∃ec,qR .string (.string x) d M=some ec/\lH ec/\(∀y,gf ec y=if y=x then some d else gf M y)/\ec.length=M.length+(if(gf M x).isSome then 0 else 1):=by
 induction M with
 |nil=>exact⟨[(.string x,d)],rfl,by intro e he;simp at he;exact⟨x,by rw[he]⟩,λy=>by simp[gf,eq_comm],rfl⟩
 |cons e r ih=>
  obtain⟨⟨s,av⟩,au⟩:=Za h;obtain⟨k,d0⟩:=e;simp only at av;subst av;simp only[qR,Zb,gf];by_cases ae:s=x
  .refine⟨(.string x,d)::r,by simp[ae],?_,λy=>?_,by simp[ae]⟩
   .intro e he;rcases xas.1 he with rfl|he
    .exact⟨x,rfl⟩
    exact au e he
   simp only[gf];by_cases aP:y=x;.simp[aP]
   have:¬x=y:=λh=>aP h.symm;subst ae;simp[aP,this]
  obtain⟨ec,ab,ad,ax,a8⟩:=ih au;refine⟨(.string s,d0)::ec,by simp[ae,ab],?_,λy=>?_,by simp[ae,a8];omega⟩
  .intro e he;rcases xas.1 he with rfl|he
   .exact⟨s,rfl⟩
   exact ad e he
  simp only[gf,ax y];by_cases aP:y=x;.subst aP;simp[ae]
  simp[aP]
theorem Cg{M:List (Value×D)}(h:lH M){z:Value}{x:ByteArray}:kl .string z true M (aQ x)=some (match gf M x with|some d=> .aO [d,ay true]|none=> .aO [qQ z,ay false]):=by simp only[kl,aQ,Zc h];cases gf M x<;>rfl
def Lw{M:List (Value×D)}(h:lH M)(x:ByteArray)(d:D):∃ec,ra .string M (aQ x) d=some ec/\lH ec/\(∀y,gf ec y=if y=x then some d else gf M y)/\ec.length=M.length+(if(gf M x).isSome then 0 else 1):=al8 h x d
def uR(M:List (Value×D)):Prop:=∀e∈M,∃i,e.1= .int .i64 i
def mI:List (Value×D)->Int->Option D
 |[],_=>none|(.int .i64 s,d)::r,x=>if s=x then some d else mI r x
 |_::r,x=>mI r x
def Zd{e:Value×D}{M:List (Value×D)}(h:uR (e::M)):(∃s,e.1= .int .i64 s)/\uR M:=⟨h e (by simp),λx ae=>h x (by simp[ae])⟩
def Ze(a b:Int):Instr.sameNow (.int .i64) (.int .i64 a) (.int .i64 b)=some (decide (b=a)):=by
 by_cases h:a=b;.subst h;simp[Instr.sameNow]
 have bs:¬b=a:=λe=>h e.symm;simp[Instr.sameNow,h,bs]
def al9{M:List (Value×D)}(h:uR M)(x:Int):findD (.int .i64) (.int .i64 x) M=some (mI M x):=by
 induction M with
 |nil=>rfl
 |cons e r ih=>
  obtain⟨⟨s,av⟩,au⟩:=Zd h;obtain⟨k,d⟩:=e;simp only at av;subst av;simp only[findD,Ze,mI];by_cases ae:s=x;.simp[ae]
  simp[ae,ih au]
def ama{M:List (Value×D)}(h:uR M)(x:Int)(d:D):∃ec,qR (.int .i64) (.int .i64 x) d M=some ec/\uR ec/\(∀y,mI ec y=if y=x then some d else mI M y)/\ec.length=M.length+(if(mI M x).isSome then 0 else 1):=by
 induction M with
 |nil=>exact⟨[(.int .i64 x,d)],rfl,by intro e he;simp at he;exact⟨x,by rw[he]⟩,λy=>by simp[mI,eq_comm],rfl⟩
 |cons e r ih=>
  obtain⟨⟨s,av⟩,au⟩:=Zd h;obtain⟨k,d0⟩:=e;simp only at av;subst av;simp only[qR,Ze,mI];by_cases ae:s=x
  .refine⟨(.int .i64 x,d)::r,by simp[ae],?_,λy=>?_,by simp[ae]⟩
   .intro e he;rcases xas.1 he with rfl|he
    .exact⟨x,rfl⟩
    exact au e he
   simp only[mI];by_cases aP:y=x;.simp[aP]
   have:¬x=y:=λh=>aP h.symm;subst ae;simp[aP,this]
  obtain⟨ec,ab,ad,ax,a8⟩:=ih au;refine⟨(.int .i64 s,d0)::ec,by simp[ae,ab],?_,λy=>?_,by simp[ae,a8];omega⟩
  .intro e he;rcases xas.1 he with rfl|he
   .exact⟨s,rfl⟩
   exact ad e he
  simp only[mI,ax y];by_cases aP:y=x;.subst aP;simp[ae]
  simp[aP]
theorem amb{M:List (Value×D)}(h:uR M){z:Value}{ok:Bool}{x:Int}:kl (.int .i64) z ok M (J x)=some (match mI M x with|some d=>if ok then .aO [d,ay true]else d|none=>if ok then .aO [qQ z,ay false]else qQ z):=by simp only[kl,J,al9 h];cases mI M x<;>rfl
def amc{M:List (Value×D)}(h:uR M)(x:Int)(d:D):∃ec,ra (.int .i64) M (J x) d=some ec/\uR ec/\(∀y,mI ec y=if y=x then some d else mI M y)/\ec.length=M.length+(if(mI M x).isSome then 0 else 1):=ama h x d
def Zf:∀x:List UInt8,Op.bytesLess x x=false
 |[]=>rfl|a::x=>by simp[Op.bytesLess,Zf x]
def Zg:∀x y z:List UInt8,Op.bytesLess x y=true->Op.bytesLess y z=true->Op.bytesLess x z=true
 |[],[],z,h,_=>by simp[Op.bytesLess]at h|[],b::y,[],_,h=>by simp[Op.bytesLess]at h|[],b::y,c::z,_,_=>rfl|a::x,[],z,h,_=>by simp[Op.bytesLess]at h|a::x,b::y,[],_,h=>by simp[Op.bytesLess]at h
 |a::x,b::y,c::z,ab,ad=>by
  simp only[Op.bytesLess,xbe,xao,xaG,xbK,UInt8.lt_iff_toNat_lt]at*;rcases ab with ab|⟨rfl,ab⟩
  .rcases ad with ad|⟨rfl,ad⟩;.exact .inl (by omega)
   exact .inl ab
  rcases ad with ad|⟨rfl,ad⟩;.exact .inl ad
  exact .inr ⟨rfl,Zg x y z ab ad⟩
def Zh:∀x y:List UInt8,Op.bytesLess x y=true\/x=y\/Op.bytesLess y x=true
 |[],[]=> .inr (.inl rfl)|[],b::y=> .inl rfl|a::x,[]=> .inr (.inr rfl)
 |a::x,b::y=>by
  simp only[Op.bytesLess,xbe,xao,xaG,xbK,UInt8.lt_iff_toNat_lt,List.cons.injEq];by_cases ab:a.toNat<b.toNat;.exact .inl (.inl ab)
  by_cases ad:b.toNat<a.toNat;.exact .inr (.inr (.inl ad))
  have:a=b:=UInt8.toNat_inj.1 (by omega);subst this;rcases Zh x y with h|h|h
  .exact .inl (.inr ⟨rfl,h⟩)
  .exact .inr (.inl ⟨rfl,h⟩)
  exact .inr (.inr (.inr ⟨rfl,h⟩))
def uS(x:ByteArray):blt x x=false:=Zf _
def y1{x y z:ByteArray}(h:blt x y=true)(bs:blt y z=true):blt x z=true:=Zg _ _ _ h bs
def Rz(x y:ByteArray):blt x y=true\/x=y\/blt y x=true:=by
 rcases Zh x.toList y.toList with h|h|h;.exact .inl h
 .exact .inr (.inl (VB h))
 exact .inr (.inr h)
def amd(y x:ByteArray):(!(blt y x||decide (y=x)))=blt x y:=by
 rcases Rz x y with h|h|h
 .have ab:blt y x=false:=by
   cases bP:blt y x with|false=>rfl|true=>have:=y1 h bP;rw[uS]at this;cases this
  have ad:y≠x:=by rintro rfl;rw[uS]at h;cases h
  simp[h,ab,ad]
 .subst h;simp[uS]
 have ab:blt x y=false:=by cases bP:blt x y with|false=>rfl|true=>have:=y1 h bP;rw[uS]at this;cases this
 simp[h,ab]
def Lx{bt:Bool}{x y:ByteArray}:aj bt .gtr (aQ y) (aQ x)=some (ay (blt x y)):=by rw[Ro,amd]
def jG:List ByteArray->Prop
 |[]=>True|a::r=>(∀b∈r,blt a b=true)/\jG r
def hq(s:ByteArray):List ByteArray->List ByteArray
 |[]=>[s]|a::r=>if a=s then a::r else if blt s a then s::a::r else a::hq s r
def Zi{s x:ByteArray}:∀{l:List ByteArray},x∈hq s l->x=s\/x∈l
 |[],h=>by simp[hq]at h;exact .inl h
 |a::r,h=>by
  rw[hq]at h;split at h;.exact .inr h
  split at h
  .rcases xas.1 h with h|h;.exact .inl h
   exact .inr h
  rcases xas.1 h with h|h;.exact .inr (by simp[h])
  rcases Zi h with h|h;.exact .inl h
  exact .inr (by simp[h])
def F0{s:ByteArray}:∀{l:List ByteArray},jG l->jG (hq s l)
 |[],_=>⟨by simp,trivial⟩
 |a::r,h=>by
  rw[hq];split;.exact h
  rename_i cf;split
  .rename_i bZ;refine⟨λb ak=>?_,h⟩;rcases xas.1 ak with rfl|ak
   .exact bZ
   exact y1 bZ (h.1 b ak)
  rename_i oD;refine⟨λb ak=>?_,F0 h.2⟩;rcases Zi ak with rfl|ak
  .rcases Rz a b with ab|ab|ab;.exact ab
   .exact absurd ab cf
   rw[ab]at oD;exact absurd rfl oD
  exact h.1 b ak
def RA{s:ByteArray}:∀{l:List ByteArray},jG l->s∈l->hq s l=l
 |[],_,h=>by cases h
 |a::r,av,h=>by
  rw[hq];rcases xas.1 h with rfl|h
  .rw[xaa rfl]
  have bZ:=av.1 s h;have cf:¬a=s:=by rintro rfl;rw[uS]at bZ;cases bZ
  have oD:¬blt s a=true:=λbs=>by have:=y1 bZ bs;rw[uS]at this;cases this
  rw[xab cf,xab oD,RA av.2 h]
def Zj{s:ByteArray}:∀{l:List ByteArray},jG l->s∉l->∃a b,l=a++b/\hq s l=a++s::b/\(∀x∈a,blt x s=true)/\(∀x∈b,blt s x=true)
 |[],_,_=>⟨[],[],rfl,rfl,by simp,by simp⟩
 |a::r,av,h=>by
  have cf:¬a=s:=λe=>h (by simp[e]);rw[hq,xab cf];by_cases an:blt s a=true
  .rw[xaa an];exact⟨[],a::r,rfl,rfl,by simp,λx ae=>by
    rcases xas.1 ae with rfl|ae;.exact an
    exact y1 an (av.1 x ae)⟩
  rw[xab an];obtain⟨p,q,ab,ad,ax,a8⟩:=Zj (l:=r) (s:=s) av.2 (λhm=>h (List.mem_cons_of_mem _ hm));refine⟨a::p,q,by rw[ab];rfl,by rw[ad];rfl,λx ae=>?_,a8⟩;rcases xas.1 ae with rfl|ae
  .rcases Rz x s with b3|b3|b3;.exact b3
   .exact absurd b3 cf
   exact absurd b3 an
  exact ax x ae
def RB(s:ByteArray):∀{l:List ByteArray},jG l->∃a b,l=a++b/\(∀x∈a,blt s x=false)/\(∀x∈b,blt s x=true)/\(s∈l->∃cx,a=cx++[s])/\(s∉l->s∉a)/\(s∉l->hq s l=a++s::b)
 |[],_=>⟨[],[],rfl,by simp,by simp,by simp,by simp,λ_=>rfl⟩
 |c::r,av=>by
  by_cases hm:s∈c::r
  .by_cases ai:c=s;.subst ai;refine⟨[c],r,rfl,by simp[uS],av.1,λ_=>⟨[],rfl⟩,λh=>absurd hm h,λh=>absurd hm h⟩
   have au:s∈r:=(xas.1 hm).resolve_left λh=>ai h.symm;obtain⟨a,b,ab,ad,ax,a8,b3,cI⟩:=RB s av.2;obtain⟨cx,Fb⟩:=a8 au;refine⟨c::a,b,by rw[ab];rfl,?_,ax,λ_=>⟨c::cx,by rw[Fb];rfl⟩,λh=>absurd hm h,λh=>absurd hm h⟩;intro x ae;rcases xas.1 ae with rfl|ae
   .have bZ:=av.1 s au;cases bP:blt s x with|false=>rfl|true=>have:=y1 bZ bP;rw[uS]at this;cases this
   exact ad x ae
  obtain⟨a,b,ab,ad,ax,a8⟩:=Zj av hm;refine⟨a,b,ab,λx ae=>?_,a8,λh=>absurd h hm,λ_ aH=>hm (by rw[ab];simp[aH]),λ_=>ad⟩;have bZ:=ax x ae;cases bP:blt s x with|false=>rfl|true=>have:=y1 bZ bP;rw[uS]at this;cases this
def F1{s:ByteArray}:∀(l:List ByteArray),(hq s l).length<=l.length+1
 |[]=>by simp[hq]
 |a::r=>by
  rw[hq];split;.simp
  split;.simp
  have:=F1 (s:=s) r;simp;omega
def py:Nat->eu
 |0=> .stop|n+1=> .struct [.int .i64,.int .i64,.str,.slice 4 56 (py n)]
def Ch:∀(n m:Nat),m<=2*n->(py n).ho m=true
 |0,m,h=>by
         have:m=0:=by omega
         subst this;rfl
 |n+1,0,_=>rfl|n+1,1,_=>rfl|n+1,m+2,h=>by have:=Ch n m (by omega);simp only[py,eu.ho,qk,this,xbt]
def Ly{P:Program}{t s:TypeId}(ab:∀y,eb P (.struct [.int .i64,.int .i64,.str,y]) t=(eb P y s&&true))(ad:∀y,eb P (.slice 4 56 y) s=eb P y t):∀n,eb P (py n) t=true
 |0=>rfl|n+1=>by rw[py,ab,ad,Ly ab ad n];rfl
theorem Lz{P:Program}{t s:TypeId}(ab:∀y,eb P (.struct [.int .i64,.int .i64,.str,y]) t=(eb P y s&&true))(ad:∀y,eb P (.slice 4 56 y) s=eb P y t)(an:decide (t<P.types.size)=true):s5 P py t:=⟨λn=>Ch n n (by omega),Ly ab ad,xaX an,λn=>by cases n<;>rfl⟩
def y2:∀(n:Nat){x:List D},l8 (py n) x->∃t:Tm,x=t.cells/\t.cz
 |0,x,h=>h.elim|n+1,x,h=>by obtain⟨a,b,rfl,aH,c,d,rfl,ai,e,f,rfl,he,g,i,rfl,bB,rfl⟩:=h;obtain⟨op,rfl,dI⟩:=y0 aH;obtain⟨nn,rfl,kB⟩:=y0 ai;obtain⟨s,rfl,av⟩:=Lt he;obtain⟨es,rfl,_,an,l4⟩:=bB;obtain⟨ks,rfl,ea⟩:=pw Tm.cells Tm.cz es λx ae=>y2 n (l4 x ae).2;refine⟨.mk op nn s false ks,?_,.mk _ _ _ _ _ dI kB (by omega) (by simpa using xbr an (by omega)) ea⟩;simp[Tm.cells,Tm.k6,cF]
def s8{H:Type}{F:rp}{Fs:List rp}{xs:List (DataW H)}{ds:List D}(h:oB (F::Fs) xs ds):∃x JO d BD n,xs=x::JO/\ds=d::BD/\Ln (F n) x d/\wZ (F n) d/\oB Fs JO BD:=by
 cases xs with
 |nil=>cases ds<;>exact h.elim
 |cons x xs=>cases ds with|nil=>exact h.elim|cons d ds=>obtain⟨⟨n,ab,ad⟩,ax⟩:=h;exact⟨x,xs,d,ds,n,rfl,rfl,ab,ad,ax⟩
def LA{H:Type}{xs:List (DataW H)}{ds:List D}(h:oB [] xs ds):xs=[]/\ds=[]:=by cases xs<;>cases ds<;>first|exact⟨rfl,rfl⟩|exact h.elim
@[simp] theorem aAZ (a:D):aX 1 (.agg [a])=a.one:=by simp[aX]
@[simp] theorem ame (a b:D):aX 2 (.agg [a,b])=(a.one&&b.one):=by simp[aX]
@[simp] theorem amf (a b c d e:D):aX 5 (.agg [a,b,c,d,e])=(a.one&&(b.one&&(c.one&&(d.one&&e.one)))):=by simp[aX]
@[simp] theorem amg (a b c d e f:D):aX 6 (.agg [a,b,c,d,e,f])=(a.one&&(b.one&&(c.one&&(d.one&&(e.one&&f.one))))):=by simp[aX]
@[simp] theorem Zk (a b c d e f g:D):aX 7 (.agg [a,b,c,d,e,f,g])=(a.one&&(b.one&&(c.one&&(d.one&&(e.one&&(f.one&&g.one)))))):=by simp[aX]
@[simp] theorem amh (a b c d e f g h:D):aX 8 (.agg [a,b,c,d,e,f,g,h])=(a.one&&(b.one&&(c.one&&(d.one&&(e.one&&(f.one&&(g.one&&h.one))))))):=by simp[aX]
@[simp] theorem aA0 {a b c e f:D} {l:List D}:aa (.agg (a::b::c::e::f::l)) 4=f:=rfl
@[simp] theorem aA1 {a b c e f g:D} {l:List D}:aa (.agg (a::b::c::e::f::g::l)) 5=g:=rfl
@[simp] theorem aA2 {a b c e f g h:D} {l:List D}:aa (.agg (a::b::c::e::f::g::h::l)) 6=h:=rfl
@[simp] theorem aA3 {a b c e f g h i:D} {l:List D}:aa (.agg (a::b::c::e::f::g::h::i::l)) 7=i:=rfl
theorem Zl{β:Type}{x y:Bool}{f:D->Option β}:R (bN (ay x) true (some (ay y))) (λv=>R (b1 (ay x) v (ay false)) f)=f (ay (x&&y)):=by cases x<;>rfl
theorem ami{β:Type}{x y:Bool}{f:D->Option β}:R (bN (ay x) false (some (ay y))) (λv=>R (b1 (ay x) (ay true) v) f)=f (ay (x||y)):=by cases x<;>rfl
inductive Fm where
 |mk (op:Int) (e:Tm) (nl:Bool) (aW:List Fm)
def e9:Tm:= .mk 0 0 ⟨#[]⟩ true []
def RC:e9.cz:= .mk _ _ _ _ _ (by omega) (by omega) (by decide) (by simp) (by simp)
theorem LB:e9.d=D.agg [J 0,J 0,aQ ⟨#[]⟩,D.val (.slice none 0 0)]:=rfl
namespace Fm
def op:Fm->Int| .mk o _ _ _=>o
def e:Fm->Tm| .mk _ t _ _=>t
def nl:Fm->Bool| .mk _ _ b _=>b
def aW:Fm->List Fm| .mk _ _ _ l=>l
mutual
def cells:Fm->List D
 | .mk o t b ks=>[J o,J t.op,J t.num,aQ t.name,cF 4 t.nl (Tm.rows t.aW),cF 6 b (rows ks)]
def rows:List Fm->List (List D)
 |[]=>[]|t::r=>cells t::rows r
end
def d(t:Fm):D:= .agg t.cells
mutual
def bD:Fm->Nat
 | .mk _ t _ ks=>2+t.bD+dL ks
def dL:List Fm->Nat
 |[]=>0|t::r=>1+bD t+dL r
end
def k6:∀l:List Fm,rows l=l.map cells
 |[]=>rfl|t::r=>by simp[rows,k6 r]
@[simp] theorem kN {l:List Fm}:(rows l).length=l.length:=by simp[k6]
def FV{l:List Fm}{i:Nat}{t:Fm}(h:l[i]?=some t):(rows l)[i]?=some t.cells:=by simp[k6,h]
def gW{l:List Fm}{b:Bool}{i:Nat}{t:Fm}(h:l[i]?=some t):bk 6 (cF 6 b (rows l)) (J (i:Int))=some t.cells:=by rw[Rw,FV h]
def FW:∀l:List Fm,l.length<=dL l
 |[]=>xaQ 0|t::r=>by simp only[dL,xak];have:=FW r;omega
def FX:∀{l:List Fm}{t:Fm},t∈l->bD t+1<=dL l
 |a::r,t,h=>by
  simp only[dL];rcases xas.1 h with rfl|h
  .omega
  have:=FX h;omega
theorem F2(t:Fm):t.bD=2+t.e.bD+dL t.aW:=by cases t;rfl
def iZ{t k:Fm}(h:k∈t.aW):k.bD+3<=t.bD:=by have:=FX h;have:=F2 t;omega
def kO{t:Fm}:t.aW.length+2<=t.bD:=by have:=FW t.aW;have:=F2 t;omega
def Ci{t:Fm}:t.e.bD+2<=t.bD:=by have:=F2 t;omega
def ind{P:Fm->Prop}(h:∀t:Fm,(∀k∈t.aW,P k)->P t)(t:Fm):P t:=by
 have:∀(n:Nat)(t:Fm),t.bD<=n->P t:=by
  intro n
  induction n with
  |zero=>intro t aF;cases t;simp[bD]at aF
  |succ n ih=>intro t aF;exact h t λk ah=>ih k (by have:=iZ ah;omega)
 exact this _ t (xaQ _)
inductive cz:Fm->Prop where
 |mk (o:Int) (t:Tm) (b:Bool) (ks:List Fm) (aR:-9223372036854775808<=o/\o<=9223372036854775807) (aF:t.cz) (an:ks.length*88<=140737488355328) (ah:∀k∈ks,cz k):cz (.mk o t b ks)
def cz.eY{t k:Fm}(h:cz t)(ah:k∈t.aW):cz k:=by cases h with|mk o n s b ks aR aC av=>exact av k ah
def cz.len{t:Fm}(h:cz t):t.aW.length*88<=140737488355328:=by cases h;assumption
def cz.e{t:Fm}(h:cz t):t.e.cz:=by cases h;assumption
def cz.op{t:Fm}(h:cz t):-9223372036854775808<=t.op/\t.op<=9223372036854775807:=by cases h;assumption
theorem oC(t:Fm):t.cells=[J t.op,J t.e.op,J t.e.num,aQ t.e.name,cF 4 t.e.nl (Tm.rows t.e.aW),cF 6 t.nl (rows t.aW)]:=by cases t;rfl
theorem jF(t:Fm):t.d= .agg [J t.op,J t.e.op,J t.e.num,aQ t.e.name,cF 4 t.e.nl (Tm.rows t.e.aW),cF 6 t.nl (rows t.aW)]:=by cases t;rfl
@[simp] theorem m6 (t:Fm):aX 6 t.d=true:=by rw[jF];simp
@[simp] theorem px (t:Fm):aa t.d 0=J t.op:=by rw[jF];rfl
@[simp] theorem s6 (t:Fm):aa t.d 1=J t.e.op:=by rw[jF];rfl
@[simp] theorem s7 (t:Fm):aa t.d 2=J t.e.num:=by rw[jF];rfl
@[simp] theorem rq (t:Fm):aa t.d 3=aQ t.e.name:=by rw[jF];rfl
@[simp] theorem amj (t:Fm):aa t.d 4=cF 4 t.e.nl (Tm.rows t.e.aW):=by rw[jF];rfl
@[simp] theorem amk (t:Fm):aa t.d 5=cF 6 t.nl (rows t.aW):=by rw[jF];rfl
@[simp] theorem FY (t:Fm):D.agg [J t.op,J t.e.op,J t.e.num,aQ t.e.name,cF 4 t.e.nl (Tm.rows t.e.aW),cF 6 t.nl (rows t.aW)]=t.d:=(jF t).symm
@[simp high] theorem Rx (t:Fm):a7 true 6 0 t.cells=some t.d:=by rw[jF,oC];rfl
end Fm
attribute [go_sem] dx qi lF ps rn Zl ami FM Lj oA B9 Ca yX Rn YT alH Cc qj FL Ri als alu alv alw al0 alx aly alz alA alB al1 alC Rj xbB xch alp alD Y4 alE alF YR xbt xbj Bool.and_self xaz xaA Bool.not_true xbZ xaq Y6 al3 al4 Bool.or_true Bool.true_or ame al6 al7 amf amg Zk amh Y7 Y8 Y9 alr alq Tm.m6 Tm.px Tm.s6 Tm.s7 Tm.rq Tm.FY Tm.Rx Tm.kN Fm.m6 Fm.px Fm.s6 Fm.s7 Fm.rq Fm.amj Fm.amk Fm.FY Fm.Rx Fm.kN
def rr:Nat->eu
 |0=> .stop|n+1=> .struct [.int .i64,py (n+1),.slice 6 88 (rr n)]
def RD:∀(n m:Nat),m<=2*n->(rr n).ho m=true
 |0,m,h=>by
         have:m=0:=by omega
         subst this;rfl
 |n+1,0,_=>rfl|n+1,1,_=>by simp[rr,eu.ho,qk]|n+1,m+2,h=>by have:=RD n m (by omega);have ad:=Ch (n+1) (m+1) (by omega);simp only[rr,eu.ho,qk,this,ad,xbt]
def Zm{P:Program}{t s r q:TypeId}(ab:∀y z,eb P (.struct [.int .i64,y,z]) t=(eb P y r&&(eb P z s&&true)))(ad:∀y,eb P (.slice 6 88 y) s=eb P y t)(ax:∀n,eb P (py n) r=true):∀n,eb P (rr n) t=true
 |0=>rfl|n+1=>by rw[rr,ab,ad,Zm (q:=q) ab ad ax n,ax];rfl
theorem LC{P:Program}{t s r q:TypeId}(ab:∀y z,eb P (.struct [.int .i64,y,z]) t=(eb P y r&&(eb P z s&&true)))(ad:∀y,eb P (.slice 6 88 y) s=eb P y t) (ax:∀y,eb P (.struct [.int .i64,.int .i64,.str,y]) r=(eb P y q&&true)) (a8:∀y,eb P (.slice 4 56 y) q=eb P y r) (an:decide (t<P.types.size)=true):s5 P rr t:=⟨λn=>RD n n (by omega),Zm (q:=q) ab ad (Ly ax a8),xaX an,λn=>by cases n<;>rfl⟩
def Zn:∀(n:Nat){x:List D},l8 (rr n) x->∃t:Fm,x=t.cells/\t.cz
 |0,x,h=>h.elim|n+1,x,h=>by obtain⟨a,b,rfl,aH,c,d,rfl,ai,g,i,rfl,bB,rfl⟩:=h;obtain⟨op,rfl,dI⟩:=y0 aH;obtain⟨t,rfl,aF⟩:=y2 (n+1) ai;obtain⟨es,rfl,_,an,l4⟩:=bB;obtain⟨ks,rfl,ea⟩:=pw Fm.cells Fm.cz es λx ae=>Zn n (l4 x ae).2;refine⟨.mk op t false ks,?_,.mk _ _ _ _ dI aF (by simpa using xbr an (by omega)) ea⟩;simp[Fm.cells,Fm.k6,cF,Tm.oC]
structure bl where
 name:ByteArray
 e:Tm
def bl.cells(d:bl):List D:=[aQ d.name,J d.e.op,J d.e.num,aQ d.e.name,cF 4 d.e.nl (Tm.rows d.e.aW)]
def bl.d(d:bl):D:= .agg d.cells
def aM(l:List bl):D:= .aA 5 (l.map bl.cells)
def bl.cz(d:bl):Prop:=d.name.size<=140737488351232/\d.e.cz
section
variable{l:List bl}{i:Nat}{d:bl}
def e2(h:l[i]?=some d):bk 5 (aM l) (J (i:Int))=some d.cells:=by simp[aM,h]
def dT(l:List bl):bF (aM l)=some (J l.length):=by simp[aM]
@[simp] theorem bl.aml (d:bl):a7 true 5 0 d.cells=some d.d:=rfl
@[simp] theorem bl.hB (d:bl):a7 true 4 1 d.cells=some d.e.d:=by rw[Tm.jF];rfl
@[simp] theorem bl.gn (d:bl):a7 false 1 0 d.cells=some (aQ d.name):=rfl
@[simp] theorem bl.agg (d:bl):aX 5 d.d=true:=by unfold bl.d bl.cells;simp
@[simp] theorem bl.aL (d:bl):aa d.d 0=aQ d.name:=rfl
@[simp] theorem bl.bh (d:bl):aa d.d 1=J d.e.op:=rfl
@[simp] theorem bl.bo (d:bl):aa d.d 2=J d.e.num:=rfl
@[simp] theorem bl.bC (d:bl):aa d.d 3=aQ d.e.name:=rfl
@[simp] theorem bl.b5 (d:bl):aa d.d 4=cF 4 d.e.nl (Tm.rows d.e.aW):=rfl
end
def db(l:List bl)(x:ByteArray):Option Nat:=l.findIdx? (λd=>decide (d.name=x))
def RE{l:List bl}{x:ByteArray}{i:Nat}(h:db l x=some i):∃d,l[i]?=some d/\d.name=x/\i<l.length:=by obtain⟨ab,ad,_⟩:=xbn.1 h;exact⟨_,xad ab,by simpa using ad,ab⟩
def c2(l:List Nat):D:= .aA 1 (l.map λ(i:Nat)=>[J (i:Int)])
def uT{l:List Nat}{i k:Nat}(h:l[i]?=some k):bk 1 (c2 l) (J (i:Int))=some [J (k:Int)]:=by simp[c2,h]
def pz(l:List Nat):bF (c2 l)=some (J l.length):=by simp[c2]
def hC(l:List (List Nat)):D:= .aA 1 (l.map λx=>[c2 x])
def amm{l:List (List Nat)}{i:Nat}{k:List Nat}(h:l[i]?=some k):bk 1 (hC l) (J (i:Int))=some [c2 k]:=by simp[hC,h]
def bY(M:List (Value×D))(S:List Nat):Prop:=uR M/\∀i:Nat,mI M (i:Int)=if i∈S then some (ay true)else none
theorem bY.nil:bY [] []:=⟨by(intro e he;cases he),λi=>rfl⟩
def bY.look{M:List (Value×D)}{S:List Nat}(h:bY M S){i:Nat}{z:Value}:kl (.int .i64) (.bool false) false M (J (i:Int))=some (ay (decide (i∈S))):=by rw[amb h.1,h.2 i];by_cases ag:i∈S<;>simp[ag,qQ]
def bY.put{M:List (Value×D)}{S:List Nat}(h:bY M S)(i:Nat):∃ec,ra (.int .i64) M (J (i:Int)) (ay true)=some ec/\bY ec (if i∈S then S else S++[i]):=by
 obtain⟨ec,ab,ad,ax,_⟩:=amc h.1 (i:Int) (ay true);refine⟨ec,ab,ad,λj=>?_⟩;rw[ax,h.2];by_cases aG:j=i;.subst aG;by_cases ag:j∈S<;>simp[ag]
 have:¬((j:Int)=(i:Int)):=by omega
 by_cases ag:i∈S<;>simp[this,ag,aG]
def bY.mem{M:List (Value×D)}{S T:List Nat}(h:bY M S)(eI:∀x,x∈S↔x∈T):bY M T:=⟨h.1,λi=>by rw[h.2];simp only[eI i]⟩
def w3(n:Nat):eu:= .slice 5 72 (.struct [.str,py n])
def Zo(n:Nat):∀m,m<=n->(w3 n).ho m=true
 |0,_=>rfl|1,_=>by simp[w3,eu.ho]|m+2,h=>by have:=Ch n m (by omega);have:=Ch n (m+1) (by omega);have ad:eu.ho m .str=true:=w1 m .str rfl;simp only[w3,eu.ho,qk, *,xbt]
theorem LD{P:Program}{t r q:TypeId}(ab:∀y,eb P (.slice 5 72 (.struct [.str,y])) t=(eb P y r&&true)) (ax:∀y,eb P (.struct [.int .i64,.int .i64,.str,y]) r=(eb P y q&&true)) (a8:∀y,eb P (.slice 4 56 y) q=eb P y r) (an:decide (t<P.types.size)=true):s5 P w3 t:=⟨λn=>Zo n n (xaQ _),λn=>by rw[w3,ab,Ly ax a8 n];rfl,xaX an,λn=>rfl⟩
def Zp{n:Nat}{x:List D}(h:l8 (.struct [.str,py n]) x):∃d:bl,x=d.cells/\d.cz:=by obtain⟨a,b,rfl,aH,c,e,rfl,ai,rfl⟩:=h;obtain⟨s,rfl,av⟩:=Lt aH;obtain⟨t,rfl,aF⟩:=y2 n ai;exact⟨⟨s,t⟩,by simp[bl.cells,Tm.oC],av,aF⟩
end Go.Am
