/- From what a call is handed to data, and from an answer to the row. No condition. -/
import Derived.Test.YtbninlabhgbhcaaGreatDoorEngC
import Derived.ProofKit
import Derived.OpenShut
import Derived.KernelRfl
import Derived.Deep.DeepHandedRow
import Derived.Lib.LaidTab
import Derived.Test.YtbninlabhgbhcaaGreatDoorEngS
set_option linter.all false
set_option linter.unnecessarySimpa false
namespace Go.Am
open Go.ChangeShapes Go.WideShapes Go.ChangeAt Go.RowKit
inductive eJ where
 |bool
 |int (k:IntKind)
 |str
 |slice (k bytes:Nat) (e:eJ)
 |arr (n:Nat) (e:eJ)
 |struct (c6:List eJ)
 |stop
mutual
def nc:eJ->List D->Prop
 | .bool,aO=>∃b,aO=[ax b]| .int k,aO=>∃n,aO=[.val (.int k n)]/\(Lit.int k n).wf=true| .str,aO=>∃s,aO=[aT s]/\s.size<=140737488351232| .slice k Fx e,aO=>∃es:List (List D),aO=[.ak k es]/\es.length<=maxLen/\es.length*Fx<=140737488351232/\∀x∈es,x.length=k/\nc e x| .arr n e,aO=>∃hR:List (List D),aO=hR.flatten/\hR.length=n/\∀x∈hR,nc e x| .struct c6,aO=>Le c6 aO| .stop,_=>False
def Le:List eJ->List D->Prop
 |[],aO=>aO=[]|f::c6,aO=>∃a b,aO=a++b/\nc f a/\Le c6 b
end
mutual
def rd{H:Type}:eJ->DataW H->Option (List D)
 | .bool,.lit (.bool b)=>some [ax b]| .int _,.lit (.int k n)=>some [.val (.int k n)]| .str,.lit (.string l)=>some [aT ⟨l.toArray⟩]| .slice k _ _,.nil=>some [.ak k []]| .slice k _ e,.slice es _=>(es.mapM (rd e)).map λxs=>[.ak k xs]| .arr _ e,.agg es=>(es.mapM (rd e)).map List.flatten| .struct c6,.agg es=>hv c6 es|_,_=>none
def hv{H:Type}:List eJ->List (DataW H)->Option (List D)
 |[],[]=>some []|f::c6,d::aO=>(rd f d).bind λa=>(hv c6 aO).map (a++·)|_,_=>none
end
mutual
def ew(P:Program):eJ->TypeId->Bool
 | .bool,t=>match P.underlying t with|some .bool=>true|_=>false
 | .int k,t=>match P.underlying t with|some (.int br)=>decide (k=br)|_=>false
 | .str,t=>match P.underlying t with|some .string=>true|_=>false
 | .stop,_=>true| .slice k Fx e,t=>match P.underlying t with|some (.slice dq)=>decide (P.cellsOf dq=k)&&decide (0<k)&&decide (P.bytesOf dq=Fx)&&ew P e dq|_=>false
 | .arr n e,t=>match P.underlying t with|some (.array gb dq)=>decide (n=gb)&&decide (P.cellsOf t=n*P.cellsOf dq)&&ew P e dq|_=>false
 | .struct c6,t=>match P.underlying t with|some (.struct Q4)=>za P c6 Q4.toList 0 (P.cellsOf t)|_=>false
def za(P:Program):List eJ->List Field->Nat->Nat->Bool
 |[],[],off,n=>decide (off=n)|f::c6,x::xs,off,n=>decide (x.offset=off)&&ew P f x.type&&za P c6 xs (off+P.cellsOf x.type) n|_,_,_,_=>false
end
mutual
def eJ.hx:Nat->eJ->Bool
 |0,_=>true|_+1,.stop=>false|n+1,.slice _ _ e=>e.hx n|n+1,.arr _ e=>e.hx n|n+1,.struct c6=>qu n c6|_+1,_=>true
def qu:Nat->List eJ->Bool
 |_,[]=>true|n,f::c6=>f.hx n&&qu n c6
end
def Rel(m:Mem):List D->List Value->Prop
 |[],[]=>True|d::aO,v::vs=>D.one d=true/\di m d v/\Rel m aO vs|_,_=>False
def Rel.len{m:Mem}:∀{aO:List D}{vs:List Value},Rel m aO vs->vs.length=aO.length
 |[],[],_=>rfl|_::_,_::_,h=>by simp[Rel.len h.2.2]|[],_::_,h=>h.elim|_::_,[],h=>h.elim
def Rel.at{m:Mem}:∀{aO:List D}{vs:List Value},Rel m aO vs->∀(i:Nat)(d:D),aO[i]?=some d->∃v,vs[i]?=some v/\D.one d=true/\di m d v
 |[],[],_,i,d,h=>by simp at h|x::aO,v::vs,h,0,d,aA=>by simp at aA;subst aA;exact⟨v,rfl,h.1,h.2.1⟩|_::_,_::_,h,i+1,d,aA=>by simpa using Rel.at h.2.2 i d (by simpa using aA)|[],_::_,h,_,_,_=>h.elim|_::_,[],h,_,_,_=>h.elim
def Rel.append{m:Mem}:∀{aO:List D}{vs:List Value}{BF:List D}{Q5:List Value},Rel m aO vs->Rel m BF Q5->Rel m (aO++BF) (vs++Q5)
 |[],[],_,_,_,bD=>bD|_::_,_::_,_,_,h,bD=>⟨h.1,h.2.1,Rel.append h.2.2 bD⟩|[],_::_,_,_,h,_=>h.elim|_::_,[],_,_,h,_=>h.elim
def Rel.one{m:Mem}:∀{aO:List D}{vs:List Value},Rel m aO vs->aO.all D.one=true
 |[],[],_=>rfl|_::_,_::_,h=>by simp only[xaV,h.1,Rel.one h.2.2,Bool.and_self]|[],_::_,h=>h.elim|_::_,[],h=>h.elim
def Q6{α:Type}:∀(n:Nat)(Q:Nat->α->Prop),(∀i,i<n->∃y,Q i y)->∃cY:List α,cY.length=n/\∀(i:Nat)(y:α),cY[i]?=some y->Q i y
 |0,_,_=>⟨[],rfl,by intro i y h;simp at h⟩
 |n+1,Q,h=>by obtain⟨cY,aa,ae⟩:=Q6 n (λi=>Q (i+1)) λi aj=>h (i+1) (by omega);obtain⟨y,aK⟩:=h 0 (by omega);refine⟨y::cY,by simp[aa],?_⟩;intro i z bP;cases i with|zero=>simp at bP;subst bP;exact aK|succ i=>exact ae i z (by simpa using bP)
def Q7{α β:Type}(f:α->Option β):∀(l:List α)(r:List β),r.length=l.length->(∀(i:Nat)(x:α)(y:β),l[i]?=some x->r[i]?=some y->f x=some y)->l.mapM f=some r
 |[],[],_,_=>rfl|x::l,y::r,aq,h=>by have ar:=h 0 x y rfl rfl;have ih:=Q7 f l r (by simpa using aq) λi x y ah aK=>h (i+1) x y (by simpa using ah) (by simpa using aK);simp[List.mapM_cons,ar,ih]|[],_::_,h,_=>by simp at h|_::_,[],h,_=>by simp at h
section
variable{H:Type}{enc:TypeId×Value->H}{P:Program}{w:World}{base:Nat}{spare:Nat->Bool}{held:Bool}
def pieces{m:Mem}{c:Nat}{cs:List Value}:∀(hR:List (List D)) (o:Nat),(∀(i:Nat)(x:List D),hR[i]?=some x->Rel m x ((cs.drop (o+i*c)).take c))->(o+hR.length*c=cs.length)->Rel m hR.flatten (cs.drop o)
 |[],o,_,aq=>by have:cs.drop o=[]:=xcd (by simp at aq;omega);rw[this];trivial
 |x::r,o,h,aq=>by
  have eP:o+c+r.length*c=cs.length:=by simp only[xat,xaQ]at aq;omega
  have ar:=h 0 x rfl;have ih:=pieces (m:=m) (cs:=cs) (c:=c) r (o+c) (λi x ah=>by have:=h (i+1) x (by simpa using ah);rw[show o+c+i*c=o+(i+1)*c by rw[xaQ];omega];exact this) eP
  have e:cs.drop o=(cs.drop o).take c++cs.drop (o+c):=by
   conv=>lhs;rw[<-xbx c (cs.drop o)]
   rw[List.drop_drop]
  rw[e,List.flatten_cons];refine Rel.append ?_ ih;simpa using ar
def Q8{H:Type}{P:Program}{e:TypeId}:∀{l:List (DataW H)} {x:DataW H} {y:Nat},x∈l->y∈x.weights P e->y∈DataW.weightsAll P e l
 |a::r,x,y,ah,aK=>by
  simp only[DataW.weightsAll,xaM];rcases xap.1 ah with rfl|ah
  .exact .inl aK
  exact .inr (Q8 ah aK)
def ZC(m:Mem)(hm:∀b o,w.heap[b]?=some o->m b=some o):∀(n:Nat)(ty:eJ)(t:TypeId)(cs:List Value)(x:DataW H×List MemPlace),ew P ty t=true->ty.hx n=true->(x.1.weights P t).all (·<=reachBytes)=true->DataW.trod enc P w base spare held n t cs=some x-> ∃aO,rd ty x.1=some aO/\nc ty aO/\Rel m aO cs:=by
 intro n
 induction n with
 |zero=>intro ty t cs x _ _ _ h;simp[DataW.trod]at h
 |succ n ih=>
  intro ty t cs x fk l4 jr h;cases ty with
  |stop=>simp[eJ.hx]at l4
  |bool=>
   simp only[ew]at fk;split at fk;.obtain⟨b,rfl,rfl⟩:=DataW.trod_bool ‹_› h;exact⟨[ax b],rfl,⟨b,rfl⟩,rfl,.val _,trivial⟩
   cases fk
  |int k=>
   simp only[ew]at fk;split at fk;.have:=xaX fk;subst this;obtain⟨z,rfl,rfl,hw⟩:=DataW.trod_int ‹_› h;exact⟨[.val (.int k z)],rfl,⟨z,rfl,hw⟩,rfl,.val _,trivial⟩
   cases fk
  |str=>
   simp only[ew]at fk;split at fk
   .obtain⟨s,rfl,rfl,hw⟩:=DataW.trod_string ‹_› h;refine⟨[aT s],?_,⟨s,rfl,?_⟩,rfl,.val _,trivial⟩;.simp[rd]
    simp only[DataW.weights,xaV,xbT,xbl,xaE]at jr;simp only[reachBytes]at jr;simpa using jr
   cases fk
  |slice k Fx e=>
   simp only[ew]at fk;split at fk
   .rename_i dq hu;simp only[xak,xaE]at fk;obtain⟨⟨⟨al,Fy⟩,yr⟩,he⟩:=fk;subst al;subst yr;simp only[eJ.hx]at l4;rcases DataW.trod_slice hu h with⟨rfl,rfl⟩|⟨a,len,cap,elems,rest,gb,aM,rfl,rfl,ao,WO,yn,fa,Fz,_,_⟩
    .exact⟨[.ak _ []],rfl,⟨[],rfl,by simp,by simp,by simp⟩,rfl,.kW _ _ _,trivial⟩
    cases aM;simp only[DataW.weights,hu,xaV,List.all_append,xak,xaE,xaW,reachBytes]at jr;obtain⟨wh,OV,_⟩:=jr;have each:∀i,i<len->∃aO,∃x,elems[i]?=some x/\rd e x.1=some aO/\nc e aO/\∃c,w.cells? base (a.add (i*P.cellsOf dq)) (P.cellsOf dq)=some c/\Rel m aO c:=by
     intro i aj;have aa:=Fz i aj;rw[xab (by omega)]at aa;obtain⟨c,ae,ay⟩:=xaN.1 aa;have Q9:((elems[i]'(by omega)).1.weights P dq).all (·<=reachBytes)=true:=by refine xas.2 λy aK=>xas.1 OV y ?_;exact Q8 (xaP.2 ⟨_,xba _,rfl⟩) aK
     obtain⟨aO,a9,bk,b1⟩:=ih e dq c _ he l4 Q9 ay;exact⟨aO,_,xab (by omega),a9,bk,c,ae,b1⟩
    obtain⟨es,aq,me⟩:=Q6 len _ each;have Ra:∀(i:Nat)(aO:List D),es[i]?=some aO->aO.length=P.cellsOf dq:=by intro i aO aj;obtain⟨_,_,_,_,c,an,aw⟩:=me i aO aj;rw[<-aw.len];exact(World.cells?_some an).2.1
    refine⟨[.ak (P.cellsOf dq) es],?_,⟨es,rfl,by omega,?_,?_⟩,rfl,?_,trivial⟩
    .simp only[rd];rw[Q7 (rd e) (elems.map (·.1)) es (by simp;omega)];.rfl
     intro i x y ah aK;obtain⟨z,aa,ae,_⟩:=me i y aK;simp[aa]at ah;rw[<-ah];exact ae
    .have:es.length<=elems.length+rest.length:=by omega
     exact xbM (xax _ this) (xaX wh)
    .intro x ah;obtain⟨i,aj,rfl⟩:=List.getElem_of_mem ah;obtain⟨_,_,_,bk,_⟩:=me i _ (xab aj);exact⟨Ra i _ (xab aj),bk⟩
    by_cases ar:len=0;.subst ar;have:es=[]:=xaJ aq;subst this;exact .kW _ _ _
    have qX:∀(i:Nat)(aO:List D),es[i]?=some aO->∀j,j<P.cellsOf dq->w.cell? ((a.add (i*P.cellsOf dq)).add j)≠none:=by intro i aO aj j aI;obtain⟨_,_,_,_,c,an,aw⟩:=me i aO aj;obtain⟨_,bV,bN⟩:=World.cells?_some an;rw[bN j aI,xab (by omega)];simp
    have ui:=qX 0 _ (xab (by omega)) 0 Fy;simp only[Nat.zero_mul,Addr.add,xav]at ui;obtain⟨b,off,spot⟩:=a;unfold World.cell? at ui;cases bA:w.heap[b]? with
    |none=>simp[bA]at ui
    |some o=>
     cases o with
     |cells vs T en=>
      simp only[bA]at ui;have amt:spot=none:=by cases spot with|none=>rfl|some s=>simp at ui
      subst amt;have cellAt:∀q,w.cell? ⟨b,q,none⟩=vs[q]?:=by intro q;simp[World.cell?,bA]
      have amu:∀q,(⟨b,off,none⟩:Addr).add q=⟨b,off+q,none⟩:=by intro q;unfold Addr.add;split<;>simp_all
      have amv:∀o q,(⟨b,o,none⟩:Addr).add q=⟨b,o+q,none⟩:=by intro o q;unfold Addr.add;split<;>simp_all
      have key:∀(i:Nat)(aO:List D)(j:Nat)(c:D),es[i]?=some aO->aO[j]?=some c->∃v,vs[off+i*P.cellsOf dq+j]?=some v/\di m c v:=by
       intro i aO j c aj aI;obtain⟨_,_,_,_,bc,an,aw⟩:=me i aO aj;obtain⟨_,bV,bN⟩:=World.cells?_some an;obtain⟨v,fp,_,fh⟩:=aw.at j c aI;have cD:j<P.cellsOf dq:=by rw[<-Ra i aO aj];exact(xae.1 aI).1
       refine⟨v,?_,fh⟩;rw[<-fp,<-bN j cD,amu,amv,cellAt]
      rw[<-aq];refine .ak _ es b off cap vs T en (hm _ _ bA) ?_ (by omega) (λi j=>(vs[off+i*P.cellsOf dq+j]?).getD undef) ?_ ?_;.intro x ah;obtain⟨i,aj,rfl⟩:=List.getElem_of_mem ah;obtain⟨_,_,_,_,_,_,aw⟩:=me i _ (xab aj);exact⟨Ra i _ (xab aj),aw.one⟩
      .intro i aO j c aj aI;obtain⟨v,aa,_⟩:=key i aO j c aj aI;simp[aa]
      intro i aO j c aj aI;obtain⟨v,aa,ae⟩:=key i aO j c aj aI;simpa[aa]using ae
     |_=>simp[bA]at ui
   cases fk
  |arr k e=>
   simp only[ew]at fk;split at fk
   .rename_i br dq hu;simp only[xak,xaE]at fk;obtain⟨⟨al,an⟩,he⟩:=fk;subst al;obtain⟨xs,gb,aM,rfl,bB,pn,Fz⟩:=DataW.trod_array hu h;cases aM;simp only[eJ.hx]at l4;simp only[DataW.weights,hu]at jr;have each:∀i,i<k->∃aO,∃x,xs[i]?=some x/\rd e x.1=some aO/\nc e aO/\Rel m aO ((cs.drop (i*P.cellsOf dq)).take (P.cellsOf dq)):=by
     intro i aj;have aa:=Fz i aj;rw[xab (by omega)]at aa;have Q9:((xs[i]'(by omega)).1.weights P dq).all (·<=reachBytes)=true:=by refine xas.2 λy aK=>xas.1 jr y ?_;exact Q8 (xaP.2 ⟨_,xba _,rfl⟩) aK
     obtain⟨aO,a9,bk,b1⟩:=ih e dq _ _ he l4 Q9 aa;exact⟨aO,_,xab (by omega),a9,bk,b1⟩
    obtain⟨es,aq,me⟩:=Q6 k _ each;refine⟨es.flatten,?_,⟨es,rfl,aq,?_⟩,?_⟩
    .simp only[rd];rw[Q7 (rd e) (xs.map (·.1)) es (by simp;omega)];.rfl
     intro i x y ah aK;obtain⟨z,aa,ae,_⟩:=me i y aK;simp[aa]at ah;rw[<-ah];exact ae
    .intro x ah;obtain⟨i,aj,rfl⟩:=List.getElem_of_mem ah;obtain⟨_,_,_,bk,_⟩:=me i _ (xab aj);exact bk
    have:=pieces (m:=m) (c:=P.cellsOf dq) (cs:=cs) es 0 (λi x ah=>by obtain⟨_,_,_,_,b1⟩:=me i x ah;simpa using b1) (by rw[aq];omega);simpa using this
   cases fk
  |struct c6=>
   simp only[ew]at fk;split at fk
   .rename_i Q4 hu;obtain⟨xs,gb,aM,rfl,bB,pn,Fz⟩:=DataW.trod_struct hu h;cases aM;simp only[eJ.hx]at l4;simp only[DataW.weights,hu]at jr;have go:∀(c6:List eJ)(gs:List Field)(cY:List (DataW H×List MemPlace)) (off:Nat),za P c6 gs off (P.cellsOf t)=true->qu n c6=true->(DataW.weightsEach P (gs.map (·.type)) (cY.map (·.1))).all (·<=reachBytes)=true->cY.length=gs.length->(∀(i:Nat)(f:Field),gs[i]?=some f->DataW.trod enc P w base spare held n f.type ((cs.drop f.offset).take (P.cellsOf f.type))=cY[i]?)-> ∃aO,hv c6 (cY.map (·.1))=some aO/\Le c6 aO/\Rel m aO (cs.drop off):=by
     intro c6
     induction c6 with
     |nil=>intro gs cY off aa FA wh ae ay;cases gs with|nil=>simp only[za,xaE]at aa;have:cY=[]:=xaJ ae;subst this;refine⟨[],rfl,rfl,?_⟩;rw[xcd (by omega)];trivial|cons _ _=>simp[za]at aa
     |cons f c6 amw=>
      intro gs cY off aa FA wh ae ay;cases gs with
      |nil=>simp[za]at aa
      |cons g gs=>
       cases cY with
       |nil=>simp at ae
       |cons y cY=>
        simp only[za,xak,xaE]at aa;obtain⟨⟨aP,a2⟩,bS⟩:=aa;simp only[qu,xak]at FA;simp only[xaA,DataW.weightsEach,List.all_append,xak]at wh;obtain⟨a,au,ba,cx⟩:=ih f g.type _ y a2 FA.1 wh.1 (ay 0 g rfl);obtain⟨b,fO,h5,kN⟩:=amw gs cY _ bS FA.2 wh.2 (by simpa using ae) (λi f a8=>by simpa using ay (i+1) f (by simpa using a8));refine⟨a++b,by simp[hv,au,fO],⟨a,b,rfl,ba,h5⟩,?_⟩;have e:cs.drop off=(cs.drop off).take (P.cellsOf g.type)++cs.drop (off+P.cellsOf g.type):=by
         conv=>lhs;rw[<-xbx (P.cellsOf g.type) (cs.drop off)]
         rw[List.drop_drop]
        rw[e];refine Rel.append ?_ kN;rw[<-aP];exact cx
    obtain⟨aO,a9,bk,b1⟩:=go c6 Q4.toList xs 0 fk l4 jr (by simpa using pn) (λi f a8=>Fz i f (by simpa using a8));exact⟨aO,a9,bk,by simpa using b1⟩
   cases fk
end
open Go.ChangeShapes Go.WideShapes Go.ChangeAt Go.RowKit
def Ch:eJ->D->Prop
 | .struct c6,d=>∃aO,d= .agg aO/\Le c6 aO| .arr _ _,_=>False|ty,d=>nc ty [d]
def FB{H:Type}(ty:eJ)(x:DataW H)(d:D):Prop:=match ty with| .struct c6=>∃aO,d= .agg aO/\rd (.struct c6) x=some aO|ty=>rd ty x=some [d]
abbrev rv:=Nat->eJ
def Rb(t:eJ):rv:=λ_=>t
mutual
def sX:eJ->Bool
 | .stop=>false| .slice _ _ e=>sX e| .arr _ e=>sX e| .struct c6=>Lf c6|_=>true
def Lf:List eJ->Bool
 |[]=>true|f::c6=>sX f&&Lf c6
end
mutual
def w7:∀(n:Nat)(t:eJ),sX t=true->t.hx n=true
 |0,t,_=>by cases t<;>rfl
 |n+1,.stop,h=>by simp[sX]at h|n+1,.slice _ _ e,h=>by rw[sX]at h;rw[eJ.hx];exact w7 n e h|n+1,.arr _ e,h=>by rw[sX]at h;rw[eJ.hx];exact w7 n e h|n+1,.struct c6,h=>by rw[sX]at h;rw[eJ.hx];exact ZD n c6 h|n+1,.bool,_=>rfl|n+1,.int _,_=>rfl|n+1,.str,_=>rfl
def ZD:∀(n:Nat)(t:List eJ),Lf t=true->qu n t=true
 |n,[],_=>by cases n<;>rfl
 |n,f::c6,h=>by rw[Lf,xak]at h;rw[qu,w7 n f h.1,ZD n c6 h.2];rfl
end
def ZE:eJ->Bool
 | .arr _ _=>false|_=>true
structure sY(P:Program)(F:rv)(t:TypeId):Prop where
 deep:∀n,(F n).hx n=true
 ok:∀n,ew P (F n) t=true
 lt:t<P.types.size
 amx:∀n,ZE (F n)=true
def amy{P:Program}{y:eJ}{t:TypeId}(h:(sX y&&ZE y&&ew P y t&&decide (t<P.types.size))=true):sY P (Rb y) t:=by simp only[xak,xaE]at h;exact⟨λn=>w7 n y h.1.1.1,λ_=>h.1.2,h.2,λ_=>h.1.1.2⟩
def Ci(P:Program):List rv->List TypeId->Prop
 |[],[]=>True|F::Fs,t::ts=>sY P F t/\Ci P Fs ts|_,_=>False
def Ci.lt{P:Program}:∀{Fs:List rv}{ts:List TypeId},Ci P Fs ts->∀t∈ts,t<P.types.size
 |[],[],_,t,h=>by simp at h
 |F::Fs,u::ts,h,t,aJ=>by
  rcases xap.1 aJ with rfl|aJ;.exact h.1.lt
  exact Ci.lt h.2 t aJ
 |[],_::_,h,_,_=>h.elim|_::_,[],h,_,_=>h.elim
def qv{H:Type}:List rv->List (DataW H)->List D->Prop
 |[],[],[]=>True|F::Fs,x::xs,d::aO=>(∃n,FB (F n) x d/\Ch (F n) d)/\qv Fs xs aO|_,_,_=>False
section
variable{H:Type}{enc:TypeId×Value->H}{P:Program}{w:World}
def Lg{m:Mem}{aO:List D}{v:Value}(h:Rel m aO [v]):∃d,aO=[d]/\di m d v:=by cases aO with|nil=>exact h.elim|cons d r=>cases r with|nil=>exact⟨d,rfl,h.2.1⟩|cons _ _=>exact h.2.2.elim
def amz{m:Mem}{aO:List D}{cs:Array Value}(h:Rel m aO cs.toList):di m (.agg aO) (.agg cs):=by
 refine .agg _ _ (by simpa using h.len) ?_;intro i c v an aN;obtain⟨u,aa,_,ae⟩:=h.at i c an;have:cs[i]?=some u:=by simpa using aa
 rw[aN]at this;cases this;exact ae
def amA(m:Mem)(hm:∀(b:Nat)(o:Obj),w.heap[b]?=some o->m b=some o){r:Reach}{Fi base:Nat}{sp:Nat->Bool}{held:Bool}{F:rv}{t:TypeId}{v:Value}{x:DataW H}{iw:List MemPlace} (iH:sY P F t) (jr:(x.weights P t).all (·<=reachBytes)=true) (mj:Value.okWide P w r Fi t v) (h:DataW.Trod enc P w base sp held t v x iw):∃d n,FB (F n) x d/\Ch (F n) d/\di m d v:=by
 obtain⟨n,aM⟩:=h;have fk:=iH.ok n;have FC:=iH.amx n;obtain⟨aO,aa,ae,ay⟩:=ZC m hm n (F n) t _ _ fk (iH.deep n) jr aM
 suffices h:∃d,FB (F n) x d/\Ch (F n) d/\di m d v from let⟨d,a⟩:=h;⟨d,n,a⟩
 clear iH aM;generalize F n=ty at*;cases ty with
 |bool=>
  simp only[ew]at fk;split at fk;.obtain⟨b,rfl⟩:=okWide_bool ‹_› mj;obtain⟨d,rfl,aA⟩:=Lg ay;exact⟨d,aa,ae,aA⟩
  cases fk
 |int k=>
  simp only[ew]at fk;split at fk;.obtain⟨b,rfl⟩:=okWide_int ‹_› mj;obtain⟨d,rfl,aA⟩:=Lg ay;exact⟨d,aa,ae,aA⟩
  cases fk
 |str=>
  simp only[ew]at fk;split at fk;.obtain⟨b,rfl⟩:=okWide_string ‹_› mj;obtain⟨d,rfl,aA⟩:=Lg ay;exact⟨d,aa,ae,aA⟩
  cases fk
 |stop=>exact(by simpa[nc]using ae:False).elim
 |slice k Fx e=>
  simp only[ew]at fk;split at fk;.obtain⟨a,l,c,rfl⟩:=okWide_slice ‹_› mj;obtain⟨d,rfl,aA⟩:=Lg ay;exact⟨d,aa,ae,aA⟩
  cases fk
 |arr n e=>cases FC
 |struct c6=>
  simp only[ew]at fk;split at fk;.obtain⟨cs,rfl,_⟩:=okWide_struct ‹_› mj;exact⟨.agg aO,⟨aO,rfl,aa⟩,⟨aO,rfl,ae⟩,amz ay⟩
  cases fk
def ZF(m:Mem)(hm:∀(b:Nat)(o:Obj),w.heap[b]?=some o->m b=some o){r:Reach}{Fi base:Nat}{sp:Nat->Bool}{held:Bool}:∀{Fs:List rv}{ts:List TypeId}{vs:List Value}{xs:List (DataW H)} {iw:List MemPlace},Ci P Fs ts->(DataW.weightsEach P ts xs).all (·<=reachBytes)=true->(∀(j:Nat) t v,ts[j]?=some t->vs[j]?=some v->Value.okWide P w r Fi t v)->DataW.TrodAll enc P w base sp held ts vs xs iw-> ∃aO,qv Fs xs aO/\yv m aO vs
 |[],[],vs,xs,iw,_,_,_,h=>by obtain⟨rfl,rfl,rfl⟩:=trodAll_nil h;exact⟨[],trivial,rfl,by intro i d v aA;simp at aA⟩
 |F::Fs,t::ts,vs,xs,iw,fk,jr,mj,h=>by obtain⟨v,Q5,x,JF,p,q,rfl,rfl,rfl,aa,ae⟩:=trodAll_cons h;simp only[DataW.weightsEach,List.all_append,xak]at jr;obtain⟨d,n,d1,d2,d3⟩:=amA m hm fk.1 jr.1 (mj 0 t v rfl rfl) aa;obtain⟨aO,aP,bS⟩:=ZF m hm fk.2 jr.2 (λj t v aJ aN=>mj (j+1) t v (by simpa using aJ) (by simpa using aN)) ae;refine⟨d::aO,⟨⟨n,d1,d2⟩,aP⟩,by simpa using bS.1,?_⟩;intro i c u an hu;cases i with|zero=>simp at an hu;subst an;subst hu;exact d3|succ i=>exact bS.2 i c u (by simpa using an) (by simpa using hu)
 |[],_::_,_,_,_,h,_,_,_=>h.elim|_::_,[],_,_,_,h,_,_,_=>h.elim
def again{W js:World}(hle:∀(b:Nat)(o:Obj),W.heap[b]?=some o->js.heap[b]?=some o)(aq:laidOutB P=true)(hm:mapsRowed P=true) (bP:((List.range P.types.size).all λt=>match P.underlying t with|some (.slice e)=>decide (0<P.cellsOf e)|_=>true)=true) {sp:Nat->Bool}: ∀{ts:List TypeId}{vs:List Value}{aO:List (DataW H)} {iw:List MemPlace},(∀t∈ts,t<P.types.size)->DataW.TrodAll enc P W 0 (λ_=>true) true ts vs aO iw->(∀p∈iw,p.block<W.heap.size)->(∀p∈iw,sp p.block=true)->DataW.TrodAll enc P js 0 sp true ts vs aO iw
 |[],[],[],_,_,h,_,_=>h
 |t::ts,v::vs,d::aO,_,aJ,⟨p,q,⟨n,aa⟩,ae,e⟩,b5,aE=>by
  refine⟨p,q,⟨n,?_⟩,again hle aq hm bP (λt h=>aJ t (by simp[h])) ae (λx ah=>b5 x (by rw[e];exact List.mem_append_right _ ah)) (λx ah=>aE x (by rw[e];exact List.mem_append_right _ ah)),e⟩;refine DataW.trod_stays (kids_rows aq hm) (λ{t e} aa ae=>slices_full_of P bP t e aa ae) (λh=>by cases h) (aJ t (by simp)) aa ?_ (λx ah=>aE x (by rw[e];exact xbP _ ah));intro x ah;have ao:=b5 x (by rw[e];exact xbP _ ah);have bA:js.heap[x.block]?=W.heap[x.block]?:=by rw[xal ao];exact hle _ _ (xal ao)
  cases x with
  |cell b off=>show js.cell? ⟨b,off,none⟩=W.cell? ⟨b,off,none⟩;unfold World.cell?;rw[show js.heap[b]?=W.heap[b]? from bA]
  |map b=>exact bA
def Lh(W:World):fz:=⟨λ_=>none,W.os,W.output,W.heap.size⟩
theorem amB(W:World):sC (λb=>W.heap[b]?) (Lh W) W:=by refine⟨λb o h=>h,⟨λb o h=>by simp[Lh]at h,rfl,rfl,xbe _⟩,λ_ _=>rfl⟩
def amC{W js:World}{cH:Mem}(hle:(show Mem fromλb=>W.heap[b]?).le cH)(h:sC cH (Lh W) js):
  W.keptBut js (λ_=>False)/\(∀a:Addr,a.block<W.heap.size->js.frozen? a=W.frozen? a)/\(∀(b:Nat)(o:Obj),W.heap[b]?=some o->js.heap[b]?=some o):=by
 have bA:∀(b:Nat)(o:Obj),W.heap[b]?=some o->js.heap[b]?=some o:=λb o ao=>h.mem b o (hle b o ao);refine⟨⟨h.frame.quiet.os,h.frame.quiet.out,λi aj=>?_⟩,λa aG=>?_,bA⟩
 .have aa:=xal aj;have ae:=bA i _ aa;rw[aa,ae];split
  .rename_i aP a2;rw[aP]at a2;simp only[xay,Obj.cells.injEq]at a2;obtain⟨rfl,rfl,rfl⟩:=a2;exact⟨rfl,rfl,rfl,λ_ _=>rfl⟩
  .rename_i aP a2;rw[aP]at a2;simp only[xay,Obj.map.injEq]at a2;exact Or.inr ⟨a2.1.symm,a2.2.symm⟩
  rfl
 .unfold World.frozen?;have ao:=xal aG;rw[ao,bA _ _ ao]
section
open DataW
def amD{f:Func}{s:ChangeSpec}{apart fresh handsOn again:Bool}{W js:World}{args:Array Value}{v:Value}{aO gs:List (DataW H)}{before pa pv:List MemPlace} (k8:DataW.Whole enc P f.params.toList s.vars apart W args.toList aO gs before) (uw:∀(b:Nat)(sp:Nat->Bool)(aA:Bool),DataW.TrodAll enc P js b sp aA f.resultTypes.toList (v.resultList f.resultTypes.size) (s.fn H (aO++gs)).results []) (yj:∀sp:Nat->Bool,(∀p∈before,sp p.block=true)->DataW.TrodAll enc P js 0 sp true f.params.toList args.toList (s.fn H (aO++gs)).args pa) (FD:∀sp:Nat->Bool,(∀p∈before,sp p.block=true)->DataW.TrodVars enc P js sp s.vars (s.fn H (aO++gs)).vars pv) (FE:before=pa++pv) (al:W.keptBut js (·∈before)) (Cj:∀a:Addr,a.block<W.heap.size->js.frozen? a=W.frozen? a) (bs:∀(j:Nat)(t:TypeId)(r:Value),f.resultTypes[j]?=some t->(v.resultList f.resultTypes.size)[j]?=some r->Value.okWide P js .any 0 t r):s.post enc P f apart fresh handsOn again W args v js:=by
 have b5:=k8.lt;refine⟨aO,gs,before,[],pa,pv,k8,uw _ _ _,yj _ λp a1=>by simpa using b5 p a1,FD _ λp a1=>by simpa using b5 p a1,World.keptBut_mono (λp a1=>⟨a1,?_⟩) al,λ_=>?_⟩;.rw[FE,xaM]at a1;exact .inr a1
 obtain⟨_,_,_,_,_,bP,aM⟩:=k8;refine⟨bs,_,_,([]++pa)++pv,⟨[]++pa,pv,trodAll_append (yj _ λ_ _=>rfl) (uw _ _ _),FD _ λ_ _=>rfl,rfl,?_,?_⟩,?_⟩
 .intro b off a1;have sS:MemPlace.cell b off∈before:=by rw[FE];simpa using a1
  rw[Cj _ (b5 _ sS)];exact bP b off sS
 .intro aG;have:=aM aG;rw[FE]at this;simpa using this
 intro p a1 _;rw[FE];simpa using a1
end
def ZG{G:df}{f:FuncId}{fn:Func}{s:ChangeSpec}{Fs:List rv}{tr:TypeId}{W:World}{base:Nat}{args:Array Value}{aO gs:List (DataW H)}{before:List MemPlace} (aq:laidOutB P=true) (hm:mapsRowed P=true) (bP:((List.range P.types.size).all λt=>match P.underlying t with|some (.slice e)=>decide (0<P.cellsOf e)|_=>true)=true) (fk:Ci P Fs fn.params.toList) (uw:fn.resultTypes= #[tr]) (hL:P.underlying tr=some .bool) (FD:s.vars=[]) (aE:∀aO:List (DataW H),aO.length=Fs.length->s.fn H aO=⟨[.lit (.bool true)],aO,[]⟩) (hJ:∀hR,qv Fs aO hR->fb P G f hR (·=ax true)) (c0:kk G (λb:Nat=>W.heap[b]?)) {ZH:List TypeId} (amE:ZH=[]) (jr:(DataW.weightsEach P (fn.params.toList++ZH) (aO++gs)).all (·<=reachBytes)=true) (mj:∀(j:Nat) t v,fn.params[j]?=some t->args[j]?=some v->Value.okWide P W .any base t v) (k8:DataW.Whole enc P fn.params.toList s.vars false W args.toList aO gs before):Calls P f args W λe js=>∃v,e= .returned v/\s.post enc P fn false true false false W args v js:=by
 have ZI:=k8;obtain⟨p,q,dB,hy,rfl,Cj,aCN⟩:=k8;rw[FD]at hy;obtain⟨rfl,rfl⟩:=trodVars_none hy;subst amE;rw[xar,xar]at jr;obtain⟨hR,d1,d3⟩:=ZF (λb=>W.heap[b]?) (λb o h=>h) fk jr (λj t v aJ aN=>mj j t v (by simpa using aJ) (by simpa using aN)) dB;have an:=(hJ hR d1).run (λb=>W.heap[b]?) (Lh W) W args.toList c0 (amB W) d3;have bB:aO.length=Fs.length:=by
  have:∀(dA:List rv)(aO:List (DataW H)) (hR:List D),qv dA aO hR->aO.length=dA.length:=by
   intro dA
   induction dA with
   |nil=>intro aO hR h;cases aO<;>cases hR<;>simp_all [qv]
   |cons y dA ih=>
    intro aO hR h;cases aO with
    |nil=>cases hR<;>simp[qv]at h
    |cons x aO=>cases hR with|nil=>simp[qv]at h|cons d hR=>simp[ih aO hR h.2]
  exact this _ _ _ d1
 refine an.mono λe js ⟨v,cH,r,he,aw,hle,dD,aN⟩=>?_;subst aw;have zb:v= .bool true:=by cases aN;rfl
 subst zb;obtain⟨cE,eb,ku⟩:=amC hle dD;have b5:=ZI.lt;refine⟨_,he,?_⟩;have sV:=aE (aO++[]) (by simpa using bB);simp only[xar]at sV;refine amD (pa:=p) (pv:=[]) ZI (λb sp aA=>?_) (λsp gl=>?_) (λsp gl=>?_) rfl (World.keptBut_mono (λ_ h=>h.elim) cE) eb (ok_one uw rfl (okWide_bool_mk hL _))
 .rw[xar,sV,uw];exact trodAll_cons_mk (shut_bool hL true) trodAll_mk0
 .rw[xar,sV];exact again ku aq hm bP fk.lt dB (λx ah=>b5 x (by simpa using ah)) (λx ah=>gl x (by simpa using ah))
 rw[xar,sV,FD];rfl
def ZJ{W:World}:∀(laid:List (String×DataW Unit)) (gs:List (Nat×TypeId×eJ×List D)) (iw:List MemPlace),DataW.LaidVars P W laid iw->gs.length=laid.length->(∀(i:Nat) x g,laid[i]?=some x->gs[i]?=some g->P.globalNamed x.1=some g.1/\(P.globals[g.1]?).map (·.type)=some g.2.1/\ew P g.2.2.1 g.2.1=true/\rd g.2.2.1 x.2=some g.2.2.2/\sX g.2.2.1=true/\(x.2.weights P g.2.1).all (·<=reachBytes)=true)-> ∀g∈gs,∃vs T en,W.heap[g.1]?=some (.cells vs T en)/\Rel (λb=>W.heap[b]?) g.2.2.2 vs.toList
 |[],[],_,_,_,_,g,bG=>by simp at bG
 |(k9,x)::laid,y::gs,iw,h,aq,ah,g,bG=>by
  obtain⟨q4,t,cs,fuel,p,q,aa,ae,ay,a7,bZ,_⟩:=h;rcases xap.1 bG with rfl|bG
  .obtain⟨ba,cx,ef,hn,jq,lH⟩:=ah 0 _ _ rfl rfl;have aP:=xaR (ba.symm.trans aa);subst aP;have a2:=xaR (cx.symm.trans ae);subst a2;obtain⟨aO,fO,_,kN⟩:=ZC (λb=>W.heap[b]?) (λb o h=>h) fuel _ _ _ _ ef (w7 _ _ jq) lH a7;have bS:=xaR (hn.symm.trans fO);unfold World.var? at ay;rw[aa]at ay;simp only[Option.bind_some]at ay;split at ay
   .rename_i so T en bA;cases ay;exact⟨_,T,en,bA,by rw[bS];exact kN⟩
   cases ay
  exact ZJ laid gs q bZ (by simpa using aq) (λi x g fA amF=>ah (i+1) x g (by simpa using fA) (by simpa using amF)) g bG
 |[],_::_,_,_,h,_,_,_=>by simp at h|_::_,[],_,_,h,_,_,_=>by simp at h
def amG{G:df}{W:World}(gs:List (Nat×TypeId×eJ×List D))(c0:∀g cs,G g=some cs->∃x∈gs,x.1=g/\x.2.2.2=cs) (h:∀g∈gs,∃vs T en,W.heap[g.1]?=some (.cells vs T en)/\Rel (λb=>W.heap[b]?) g.2.2.2 vs.toList):kk G (λb:Nat=>W.heap[b]?):=by
 intro g cs bG;obtain⟨x,ah,rfl,rfl⟩:=c0 g cs bG;obtain⟨vs,T,en,aa,ae⟩:=h x ah;refine⟨vs,T,en,aa,λj=>(vs[j]?).getD undef,?_,?_⟩
 .intro j c an;obtain⟨v,bV,_,_⟩:=ae.at j c an;have:vs[j]?=some v:=by simpa using bV
  simp[this]
 intro j c an;obtain⟨v,bV,_,bN⟩:=ae.at j c an;have:vs[j]?=some v:=by simpa using bV
 simpa[this]using bN
end
def ZK:eJ:= .struct [.str,.bool,.int .i64,.int .i64]
def Li:eJ:= .slice 4 40 ZK
def ry{α:Type}(f:α->List D)(Q:α->Prop):∀(es:List (List D)),(∀x∈es,∃y,x=f y/\Q y)->∃l:List α,es=l.map f/\∀y∈l,Q y
 |[],_=>⟨[],rfl,by simp⟩|x::es,h=>by obtain⟨y,rfl,aK⟩:=h x (by simp);obtain⟨l,rfl,aq⟩:=ry f Q es λx ah=>h x (by simp[ah]);exact⟨y::l,rfl,by intro z bP;rcases xap.1 bP with rfl|bP;exact aK;exact aq z bP⟩
def amH{n:Int}(h:(Lit.int .i64 n).wf=true):m6 n:=by have:=Go.bounds_i64 h;exact this
theorem FF{x:List D}(h:nc (.int .i64) x):∃n,x=[R n]/\m6 n:=by obtain⟨n,rfl,aM⟩:=h;exact⟨n,rfl,amH aM⟩
def Lj{x:List D}(h:nc .str x):∃s,x=[aT s]/\s.size<=140737488351232:=h
def amI{x:List D}(h:nc .bool x):∃b,x=[ax b]:=h
def amJ{x:List D}(h:nc ZK x):∃v:V,x=v.cells/\V.ok v:=by obtain⟨a,b,rfl,aG,c,d,rfl,an,e,f,rfl,he,g,i,rfl,bG,rfl⟩:=h;obtain⟨s,rfl,aE⟩:=Lj aG;obtain⟨q,rfl⟩:=amI an;obtain⟨lo,rfl,gH⟩:=FF he;obtain⟨aj,rfl,wQ⟩:=FF bG;exact⟨⟨s,q,lo,aj⟩,rfl,gH,wQ,by simp only;omega⟩
abbrev cp:D:= .val (.slice none 0 0)
def cA(k:Nat)(nl:Bool)(es:List (List D)):D:=if nl&&es.isEmpty then cp else .ak k es
section
variable{k:Nat}{nl:Bool}{es:List (List D)}
def amK:cA k false es= .ak k es:=by simp[cA]
@[simp] theorem ZL:bJ (cA k nl es)=some (R es.length):=by
 unfold cA;split;.rename_i h;simp at h;simp[h.2,R,bJ]
 rfl
@[simp] theorem amL:bm (cA k nl es)=true:=by unfold cA;split<;>rfl
@[simp] theorem amM:(cA k nl es).one=true:=by unfold cA;split<;>rfl
def Rc{i:Nat}:bh k (cA k nl es) (R (i:Int))=es[i]?:=by
 unfold cA;split;.rename_i h;simp at h;simp[h.2,R,bh]
 simp
@[simp] theorem aCO:ql (cA k nl es)=some (if nl&&es.isEmpty then(0,[])else(k,es)):=by unfold cA;split<;>rfl
end
inductive Tm where
 |mk (op n:Int) (name:ByteArray) (nl:Bool) (a4:List Tm)
namespace Tm
def op:Tm->Int| .mk o _ _ _ _=>o
def num:Tm->Int| .mk _ n _ _ _=>n
def name:Tm->ByteArray| .mk _ _ s _ _=>s
def nl:Tm->Bool| .mk _ _ _ b _=>b
def a4:Tm->List Tm| .mk _ _ _ _ l=>l
mutual
def cells:Tm->List D
 | .mk o n s b ks=>[R o,R n,aT s,cA 4 b (rows ks)]
def rows:List Tm->List (List D)
 |[]=>[]|t::r=>cells t::rows r
end
def d(t:Tm):D:= .agg t.cells
mutual
def bp:Tm->Nat
 | .mk _ _ _ _ ks=>2+eV ks
def eV:List Tm->Nat
 |[]=>0|t::r=>1+bp t+eV r
end
def jR:∀l:List Tm,rows l=l.map cells
 |[]=>rfl|t::r=>by simp[rows,jR r]
@[simp] theorem Ck {l:List Tm}:(rows l).length=l.length:=by simp[jR]
def Lk{l:List Tm}{i:Nat}{t:Tm}(h:l[i]?=some t):(rows l)[i]?=some t.cells:=by simp[jR,h]
def hz{l:List Tm}{b:Bool}{i:Nat}{t:Tm}(h:l[i]?=some t):bh 4 (cA 4 b (rows l)) (R (i:Int))=some t.cells:=by rw[Rc,Lk h]
def FG:∀l:List Tm,l.length<=eV l
 |[]=>xbe 0|t::r=>by simp only[eV,xat];have:=FG r;omega
def FH:∀{l:List Tm}{t:Tm},t∈l->bp t+1<=eV l
 |a::r,t,h=>by
  simp only[eV];rcases xap.1 h with rfl|h
  .omega
  have:=FH h;omega
def jS{t k:Tm}(h:k∈t.a4):k.bp+3<=t.bp:=by cases t with|mk o n s b ks=>simp only[bp];have:=FH (show k∈ks from h);omega
def lI{t:Tm}:t.a4.length+2<=t.bp:=by cases t with|mk o n s b ks=>simp only[bp];have:=FG ks;show ks.length+2<=_;omega
def ind{P:Tm->Prop}(h:∀t:Tm,(∀k∈t.a4,P k)->P t)(t:Tm):P t:=by
 have:∀(n:Nat)(t:Tm),t.bp<=n->P t:=by
  intro n
  induction n with
  |zero=>intro t aJ;cases t;simp[bp]at aJ
  |succ n ih=>intro t aJ;exact h t λk al=>ih k (by have:=jS al;omega)
 exact this _ t (xbe _)
inductive cB:Tm->Prop where
 |mk (o n:Int) (s:ByteArray) (b:Bool) (ks:List Tm) (aL:-9223372036854775808<=o/\o<=9223372036854775807) (aM:-9223372036854775808<=n/\n<=9223372036854775807) (aE:s.size<=140737488355328) (aq:ks.length*56<=140737488355328) (al:∀k∈ks,cB k):cB (.mk o n s b ks)
def cB.fu{t k:Tm}(h:cB t)(al:k∈t.a4):cB k:=by cases h with|mk o n s b ks aL aM aE aq fF=>exact fF k al
def cB.len{t:Tm}(h:cB t):t.a4.length*56<=140737488355328:=by cases h;assumption
theorem la(t:Tm):t.cells=[R t.op,R t.num,aT t.name,cA 4 t.nl (rows t.a4)]:=by cases t;rfl
theorem jT(t:Tm):t.d= .agg [R t.op,R t.num,aT t.name,cA 4 t.nl (rows t.a4)]:=by cases t;rfl
@[simp] theorem nd (t:Tm):a6 4 t.d=true:=by rw[jT];simp
@[simp] theorem pF (t:Tm):ab t.d 0=R t.op:=by rw[jT];rfl
@[simp] theorem sZ (t:Tm):ab t.d 1=R t.num:=by rw[jT];rfl
@[simp] theorem s3 (t:Tm):ab t.d 2=aT t.name:=by rw[jT];rfl
@[simp] theorem rz (t:Tm):ab t.d 3=cA 4 t.nl (rows t.a4):=by rw[jT];rfl
@[simp] theorem FI (t:Tm):D.agg [R t.op,R t.num,aT t.name,cA 4 t.nl (rows t.a4)]=t.d:=(jT t).symm
@[simp high] theorem Rd (t:Tm):aQ true 4 0 t.cells=some t.d:=by rw[jT,la];rfl
@[simp] theorem gI (t:Tm):t.cells[0]?=some (R t.op):=by rw[la];rfl
@[simp] theorem iy (t:Tm):t.cells[1]?=some (R t.num):=by rw[la];rfl
@[simp] theorem amN (t:Tm):t.cells[2]?=some (aT t.name):=by rw[la];rfl
@[simp] theorem aCP (t:Tm):t.cells[3]?=some (cA 4 t.nl (rows t.a4)):=by rw[la];rfl
end Tm
def dm{β α σ:Type}{f:List D->Option (List D⊕β)}(l:List α)(S:Nat->σ->List D)(e8:List α->σ->β)(Inv:Nat->σ->Prop) (ar:∀s,Inv l.length s->f (S l.length s)=some (.inr (e8 [] s))) (aa:∀(i:Nat)(a:α)(s:σ),l[i]?=some a->i<l.length->Inv i s->(∃s',f (S i s)=some (.inl (S (i+1) s'))/\e8 (a::l.drop (i+1)) s=e8 (l.drop (i+1)) s'/\Inv (i+1) s')\/f (S i s)=some (.inr (e8 (a::l.drop (i+1)) s))): ∀(m i:Nat)(s:σ),Inv i s->l.length-i<m->i<=l.length->bq f m (S i s)=some (e8 (l.drop i) s)
 |0,i,s,_,h,_=>absurd h (xaI _)
 |m+1,i,s,aj,hm,hle=>by
  rw[k7];by_cases h:i<l.length
  .have bG:=xab h;have e:l.drop i=l[i]::l.drop (i+1):=xbo h;rcases aa i _ s bG h aj with⟨s',a9,bk,b1⟩|a9
   .rw[a9,e,bk];exact dm l S e8 Inv ar aa m (i+1) s' b1 (by omega) h
   rw[a9,e];rfl
  have:i=l.length:=by omega
  subst this;rw[ar s aj,xcd (xbe _)];rfl
def Ll(op:Int):op=1\/op=2\/op=3\/op=4\/op=5\/op=6\/op=7\/op=8\/op=9\/op=10\/op=11\/op=12\/op=13\/op=14\/op=15\/op=16\/op=17\/op=18\/(op<1\/op>18):=by omega
@[simp] theorem aCQ {f:FuncId}:Cd f (.val (.func (.func f) #[] #[]))=true:=by simp[Cd]
@[simp] theorem nS {f:FuncId} {cs:List D}:k6 f (.fn (.func f) [] cs)=some cs:=by simp[k6]
def Re(a b:Int):kq true [R a,R b]=some (R (if b>a then b else a)):=by simp[kq,qT,sr,R,nK]
def ZM(a b:Int):kq false [R a,R b]=some (R (if b<a then b else a)):=by simp[kq,qT,sr,R,nK]
@[simp] theorem ZN {b:Bool}:(ax b).flat=true:=rfl
@[simp] theorem amO {b:Int}:(R b).flat=true:=rfl
@[simp] theorem amP {b:ByteArray}:(aT b).flat=true:=rfl
@[simp] theorem aCR {a:Int}:c1 .neg (R a)=some (R (IntKind.i64.wrap (-a))):=by rw[<-Int.zero_sub];rfl
theorem ZO:(D.val (.bool false))=ax false:=rfl
theorem ZP:(D.val (.int .i64 0))=R 0:=rfl
theorem ZQ:(D.val (.string ⟨#[]⟩))=aT ⟨#[]⟩:=rfl
@[simp] theorem amQ (a b c:D):a6 3 (.agg [a,b,c])=(a.one&&(b.one&&c.one)):=by simp[a6]
@[simp] theorem amR (a b c e:D):a6 4 (.agg [a,b,c,e])=(a.one&&(b.one&&(c.one&&e.one))):=by simp[a6]
@[simp] theorem aCS {a:D} {l:List D}:ab (.agg (a::l)) 0=a:=rfl
@[simp] theorem aCT {a b:D} {l:List D}:ab (.agg (a::b::l)) 1=b:=rfl
@[simp] theorem aCU {a b c:D} {l:List D}:ab (.agg (a::b::c::l)) 2=c:=rfl
@[simp] theorem aCV {a b c e:D} {l:List D}:ab (.agg (a::b::c::e::l)) 3=e:=rfl
theorem cr{bt:Bool}{i:Nat}(h:i<1000000000000000000):ag bt .add (R (i:Int)) (R 1)=some (R ((i+1:Nat):Int)):=by rw[eZ (by omega) (by omega)];rfl
def lJ{bt:Bool}{i:Int}(h:-9223372036854775809<=i)(bD:i<9223372036854775807):ag bt .add (R i) (R 1)=some (R (i+1)):=by rw[eZ (by omega) (by omega)]
section
variable{α β:Type}{c:Prop}[Decidable c]
@[simp] theorem aCW {a b:α}:(if c then(Sum.inl a:α⊕β)else Sum.inl b)=Sum.inl (if c then a else b):=by split<;>rfl
@[simp] theorem aCX {a b:β}:(if c then(Sum.inr a:α⊕β)else Sum.inr b)=Sum.inr (if c then a else b):=by split<;>rfl
@[simp] theorem aCY {a b:α} {l r:List α}:(if c then a::l else b::r)=(if c then a else b)::(if c then l else r):=by split<;>rfl
@[simp] theorem aCZ {a b:Int}:(if c then R a else R b)=R (if c then a else b):=by split<;>rfl
@[simp] theorem aC0 {a b:ByteArray}:(if c then aT a else aT b)=aT (if c then a else b):=by split<;>rfl
@[simp] theorem Rf {a b:List D}:(if c then D.aR a else D.aR b)=D.aR (if c then a else b):=by split<;>rfl
@[simp] theorem aC1 {a b:List D}:(if c then D.agg a else D.agg b)=D.agg (if c then a else b):=by split<;>rfl
@[simp] theorem aC2 {f:List D->Option β} {x y:List D⊕β}:a5 f (if c then x else y)=if c then a5 f x else a5 f y:=by split<;>rfl
@[simp] theorem aC3 {x y:Option α} {f:α->Option β}:J (if c then x else y) f=if c then J x f else J y f:=by split<;>rfl
end
section
variable{eG:Type}{c:Prop}[Decidable c]
@[simp] theorem aC4 {x y:D} {w:Bool} {p:Option D}:bE (if c then x else y) w p=if c then bE x w p else bE y w p:=by split<;>rfl
@[simp] theorem aC5 {x y:D} {w:Bool} {p q:Option eG}:yQ (if c then x else y) w p q=if c then yQ x w p q else yQ y w p q:=by split<;>rfl
@[simp] theorem aC6 {x y a b:D}:bT (if c then x else y) a b=if c then bT x a b else bT y a b:=by split<;>rfl
@[simp] theorem aC7 {x y:D} {p q:Option eG}:aC (if c then x else y) p q=if c then aC x p q else aC y p q:=by split<;>rfl
@[simp] theorem aC8 {x y:D} {o:UnOp}:c1 o (if c then x else y)=if c then c1 o x else c1 o y:=by split<;>rfl
end
@[simp] theorem aC9 {a b:Bool}:ax a=ax b↔a=b:=⟨λh=>by cases h;rfl,λh=>by rw[h]⟩
@[simp] theorem aDa {a b:Int}:R a=R b↔a=b:=⟨λh=>by cases h;rfl,λh=>by rw[h]⟩
@[simp] theorem aDb {a b:ByteArray}:aT a=aT b↔a=b:=⟨λh=>by cases h;rfl,λh=>by rw[h]⟩
attribute [simp] ZO ZP ZQ
def lK(M:List (Value×D)):Prop:=∀e∈M,∃s,e.1= .string s
def gB:List (Value×D)->ByteArray->Option D
 |[],_=>none|(.string s,d)::r,x=>if s=x then some d else gB r x
 |_::r,x=>gB r x
def ZR{e:Value×D}{M:List (Value×D)}(h:lK (e::M)):(∃s,e.1= .string s)/\lK M:=⟨h e (by simp),λx ah=>h x (by simp[ah])⟩
def ZS(a b:ByteArray):Instr.sameNow .string (.string a) (.string b)=some (decide (b=a)):=by simp[Instr.sameNow,OF,eq_comm]
def ZT{M:List (Value×D)}(h:lK M)(x:ByteArray):findD .string (.string x) M=some (gB M x):=by
 induction M with
 |nil=>rfl
 |cons e r ih=>
  obtain⟨⟨s,aE⟩,aw⟩:=ZR h;obtain⟨k,d⟩:=e;simp only at aE;subst aE;simp only[findD,ZS,gB];by_cases ah:s=x;.simp[ah]
  simp[ah,ih aw]
def amS{M:List (Value×D)}(h:lK M)(x:ByteArray)(d:D):∃ey,qW .string (.string x) d M=some ey/\lK ey/\(∀y,gB ey y=if y=x then some d else gB M y)/\ey.length=M.length+(if(gB M x).isSome then 0 else 1):=by
 induction M with
 |nil=>exact⟨[(.string x,d)],rfl,by intro e he;simp at he;exact⟨x,by rw[he]⟩,λy=>by simp[gB,eq_comm],rfl⟩
 |cons e r ih=>
  obtain⟨⟨s,aE⟩,aw⟩:=ZR h;obtain⟨k,d0⟩:=e;simp only at aE;subst aE;simp only[qW,ZS,gB];by_cases ah:s=x
  .refine⟨(.string x,d)::r,by simp[ah],?_,λy=>?_,by simp[ah]⟩
   .intro e he;rcases xap.1 he with rfl|he
    .exact⟨x,rfl⟩
    exact aw e he
   simp only[gB];by_cases aK:y=x;.simp[aK]
   have:¬x=y:=λh=>aK h.symm;subst ah;simp[aK,this]
  obtain⟨ey,aa,ae,ay,a7⟩:=ih aw;refine⟨(.string s,d0)::ey,by simp[ah,aa],?_,λy=>?_,by simp[ah,a7];omega⟩
  .intro e he;rcases xap.1 he with rfl|he
   .exact⟨s,rfl⟩
   exact ae e he
  simp only[gB,ay y];by_cases aK:y=x;.subst aK;simp[ah]
  simp[aK]
theorem Cl{M:List (Value×D)}(h:lK M){z:Value}{x:ByteArray}:kr .string z true M (aT x)=some (match gB M x with|some d=> .aR [d,ax true]|none=> .aR [qV z,ax false]):=by simp only[kr,aT,ZT h];cases gB M x<;>rfl
def Lm{M:List (Value×D)}(h:lK M)(x:ByteArray)(d:D):∃ey,rf .string M (aT x) d=some ey/\lK ey/\(∀y,gB ey y=if y=x then some d else gB M y)/\ey.length=M.length+(if(gB M x).isSome then 0 else 1):=amS h x d
def uQ(M:List (Value×D)):Prop:=∀e∈M,∃i,e.1= .int .i64 i
def mM:List (Value×D)->Int->Option D
 |[],_=>none|(.int .i64 s,d)::r,x=>if s=x then some d else mM r x
 |_::r,x=>mM r x
def ZU{e:Value×D}{M:List (Value×D)}(h:uQ (e::M)):(∃s,e.1= .int .i64 s)/\uQ M:=⟨h e (by simp),λx ah=>h x (by simp[ah])⟩
def ZV(a b:Int):Instr.sameNow (.int .i64) (.int .i64 a) (.int .i64 b)=some (decide (b=a)):=by
 by_cases h:a=b;.subst h;simp[Instr.sameNow]
 have bD:¬b=a:=λe=>h e.symm;simp[Instr.sameNow,h,bD]
def amT{M:List (Value×D)}(h:uQ M)(x:Int):findD (.int .i64) (.int .i64 x) M=some (mM M x):=by
 induction M with
 |nil=>rfl
 |cons e r ih=>
  obtain⟨⟨s,aE⟩,aw⟩:=ZU h;obtain⟨k,d⟩:=e;simp only at aE;subst aE;simp only[findD,ZV,mM];by_cases ah:s=x;.simp[ah]
  simp[ah,ih aw]
def amU{M:List (Value×D)}(h:uQ M)(x:Int)(d:D):∃ey,qW (.int .i64) (.int .i64 x) d M=some ey/\uQ ey/\(∀y,mM ey y=if y=x then some d else mM M y)/\ey.length=M.length+(if(mM M x).isSome then 0 else 1):=by
 induction M with
 |nil=>exact⟨[(.int .i64 x,d)],rfl,by intro e he;simp at he;exact⟨x,by rw[he]⟩,λy=>by simp[mM,eq_comm],rfl⟩
 |cons e r ih=>
  obtain⟨⟨s,aE⟩,aw⟩:=ZU h;obtain⟨k,d0⟩:=e;simp only at aE;subst aE;simp only[qW,ZV,mM];by_cases ah:s=x
  .refine⟨(.int .i64 x,d)::r,by simp[ah],?_,λy=>?_,by simp[ah]⟩
   .intro e he;rcases xap.1 he with rfl|he
    .exact⟨x,rfl⟩
    exact aw e he
   simp only[mM];by_cases aK:y=x;.simp[aK]
   have:¬x=y:=λh=>aK h.symm;subst ah;simp[aK,this]
  obtain⟨ey,aa,ae,ay,a7⟩:=ih aw;refine⟨(.int .i64 s,d0)::ey,by simp[ah,aa],?_,λy=>?_,by simp[ah,a7];omega⟩
  .intro e he;rcases xap.1 he with rfl|he
   .exact⟨s,rfl⟩
   exact ae e he
  simp only[mM,ay y];by_cases aK:y=x;.subst aK;simp[ah]
  simp[aK]
theorem amV{M:List (Value×D)}(h:uQ M){z:Value}{ok:Bool}{x:Int}:kr (.int .i64) z ok M (R x)=some (match mM M x with|some d=>if ok then .aR [d,ax true]else d|none=>if ok then .aR [qV z,ax false]else qV z):=by simp only[kr,R,amT h];cases mM M x<;>rfl
def amW{M:List (Value×D)}(h:uQ M)(x:Int)(d:D):∃ey,rf (.int .i64) M (R x) d=some ey/\uQ ey/\(∀y,mM ey y=if y=x then some d else mM M y)/\ey.length=M.length+(if(mM M x).isSome then 0 else 1):=amU h x d
def ZW:∀x:List UInt8,Op.bytesLess x x=false
 |[]=>rfl|a::x=>by simp[Op.bytesLess,ZW x]
def ZX:∀x y z:List UInt8,Op.bytesLess x y=true->Op.bytesLess y z=true->Op.bytesLess x z=true
 |[],[],z,h,_=>by simp[Op.bytesLess]at h|[],b::y,[],_,h=>by simp[Op.bytesLess]at h|[],b::y,c::z,_,_=>rfl|a::x,[],z,h,_=>by simp[Op.bytesLess]at h|a::x,b::y,[],_,h=>by simp[Op.bytesLess]at h
 |a::x,b::y,c::z,aa,ae=>by
  simp only[Op.bytesLess,xbb,xak,xaE,xbF,UInt8.lt_iff_toNat_lt]at*;rcases aa with aa|⟨rfl,aa⟩
  .rcases ae with ae|⟨rfl,ae⟩;.exact .inl (by omega)
   exact .inl aa
  rcases ae with ae|⟨rfl,ae⟩;.exact .inl ae
  exact .inr ⟨rfl,ZX x y z aa ae⟩
def ZY:∀x y:List UInt8,Op.bytesLess x y=true\/x=y\/Op.bytesLess y x=true
 |[],[]=> .inr (.inl rfl)|[],b::y=> .inl rfl|a::x,[]=> .inr (.inr rfl)
 |a::x,b::y=>by
  simp only[Op.bytesLess,xbb,xak,xaE,xbF,UInt8.lt_iff_toNat_lt,xbr];by_cases aa:a.toNat<b.toNat;.exact .inl (.inl aa)
  by_cases ae:b.toNat<a.toNat;.exact .inr (.inr (.inl ae))
  have:a=b:=UInt8.toNat_inj.1 (by omega);subst this;rcases ZY x y with h|h|h
  .exact .inl (.inr ⟨rfl,h⟩)
  .exact .inr (.inl ⟨rfl,h⟩)
  exact .inr (.inr (.inr ⟨rfl,h⟩))
def uR(x:ByteArray):blt x x=false:=ZW _
def zc{x y z:ByteArray}(h:blt x y=true)(bD:blt y z=true):blt x z=true:=ZX _ _ _ h bD
def Rg(x y:ByteArray):blt x y=true\/x=y\/blt y x=true:=by
 rcases ZY x.toList y.toList with h|h|h;.exact .inl h
 .exact .inr (.inl (Wf h))
 exact .inr (.inr h)
def amX(y x:ByteArray):(!(blt y x||decide (y=x)))=blt x y:=by
 rcases Rg x y with h|h|h
 .have aa:blt y x=false:=by
   cases bQ:blt y x with|false=>rfl|true=>have:=zc h bQ;rw[uR]at this;cases this
  have ae:y≠x:=by rintro rfl;rw[uR]at h;cases h
  simp[h,aa,ae]
 .subst h;simp[uR]
 have aa:blt x y=false:=by cases bQ:blt x y with|false=>rfl|true=>have:=zc h bQ;rw[uR]at this;cases this
 simp[h,aa]
def Ln{bt:Bool}{x y:ByteArray}:ag bt .gtr (aT y) (aT x)=some (ax (blt x y)):=by rw[Q3,amX]
def jU:List ByteArray->Prop
 |[]=>True|a::r=>(∀b∈r,blt a b=true)/\jU r
def hA(s:ByteArray):List ByteArray->List ByteArray
 |[]=>[s]|a::r=>if a=s then a::r else if blt s a then s::a::r else a::hA s r
def ZZ{s x:ByteArray}:∀{l:List ByteArray},x∈hA s l->x=s\/x∈l
 |[],h=>by simp[hA]at h;exact .inl h
 |a::r,h=>by
  rw[hA]at h;split at h;.exact .inr h
  split at h
  .rcases xap.1 h with h|h;.exact .inl h
   exact .inr h
  rcases xap.1 h with h|h;.exact .inr (by simp[h])
  rcases ZZ h with h|h;.exact .inl h
  exact .inr (by simp[h])
def FJ{s:ByteArray}:∀{l:List ByteArray},jU l->jU (hA s l)
 |[],_=>⟨by simp,trivial⟩
 |a::r,h=>by
  rw[hA];split;.exact h
  rename_i cv;split
  .rename_i b5;refine⟨λb ao=>?_,h⟩;rcases xap.1 ao with rfl|ao
   .exact b5
   exact zc b5 (h.1 b ao)
  rename_i oU;refine⟨λb ao=>?_,FJ h.2⟩;rcases ZZ ao with rfl|ao
  .rcases Rg a b with aa|aa|aa;.exact aa
   .exact absurd aa cv
   rw[aa]at oU;exact absurd rfl oU
  exact h.1 b ao
def Rh{s:ByteArray}:∀{l:List ByteArray},jU l->s∈l->hA s l=l
 |[],_,h=>by cases h
 |a::r,aE,h=>by
  rw[hA];rcases xap.1 h with rfl|h
  .rw[xaa rfl]
  have b5:=aE.1 s h;have cv:¬a=s:=by rintro rfl;rw[uR]at b5;cases b5
  have oU:¬blt s a=true:=λbD=>by have:=zc b5 bD;rw[uR]at this;cases this
  rw[xac cv,xac oU,Rh aE.2 h]
def Z0{s:ByteArray}:∀{l:List ByteArray},jU l->s∉l->∃a b,l=a++b/\hA s l=a++s::b/\(∀x∈a,blt x s=true)/\(∀x∈b,blt s x=true)
 |[],_,_=>⟨[],[],rfl,rfl,by simp,by simp⟩
 |a::r,aE,h=>by
  have cv:¬a=s:=λe=>h (by simp[e]);rw[hA,xac cv];by_cases aq:blt s a=true
  .rw[xaa aq];exact⟨[],a::r,rfl,rfl,by simp,λx ah=>by
    rcases xap.1 ah with rfl|ah;.exact aq
    exact zc aq (aE.1 x ah)⟩
  rw[xac aq];obtain⟨p,q,aa,ae,ay,a7⟩:=Z0 (l:=r) (s:=s) aE.2 (λhm=>h (List.mem_cons_of_mem _ hm));refine⟨a::p,q,by rw[aa];rfl,by rw[ae];rfl,λx ah=>?_,a7⟩;rcases xap.1 ah with rfl|ah
  .rcases Rg x s with bZ|bZ|bZ;.exact bZ
   .exact absurd bZ cv
   exact absurd bZ aq
  exact ay x ah
def Ri(s:ByteArray):∀{l:List ByteArray},jU l->∃a b,l=a++b/\(∀x∈a,blt s x=false)/\(∀x∈b,blt s x=true)/\(s∈l->∃cK,a=cK++[s])/\(s∉l->s∉a)/\(s∉l->hA s l=a++s::b)
 |[],_=>⟨[],[],rfl,by simp,by simp,by simp,by simp,λ_=>rfl⟩
 |c::r,aE=>by
  by_cases hm:s∈c::r
  .by_cases an:c=s;.subst an;refine⟨[c],r,rfl,by simp[uR],aE.1,λ_=>⟨[],rfl⟩,λh=>absurd hm h,λh=>absurd hm h⟩
   have aw:s∈r:=(xap.1 hm).resolve_left λh=>an h.symm;obtain⟨a,b,aa,ae,ay,a7,bZ,cG⟩:=Ri s aE.2;obtain⟨cK,EY⟩:=a7 aw;refine⟨c::a,b,by rw[aa];rfl,?_,ay,λ_=>⟨c::cK,by rw[EY];rfl⟩,λh=>absurd hm h,λh=>absurd hm h⟩;intro x ah;rcases xap.1 ah with rfl|ah
   .have b5:=aE.1 s aw;cases bQ:blt s x with|false=>rfl|true=>have:=zc b5 bQ;rw[uR]at this;cases this
   exact ae x ah
  obtain⟨a,b,aa,ae,ay,a7⟩:=Z0 aE hm;refine⟨a,b,aa,λx ah=>?_,a7,λh=>absurd h hm,λ_ aG=>hm (by rw[aa];simp[aG]),λ_=>ae⟩;have b5:=ay x ah;cases bQ:blt s x with|false=>rfl|true=>have:=zc b5 bQ;rw[uR]at this;cases this
def FK{s:ByteArray}:∀(l:List ByteArray),(hA s l).length<=l.length+1
 |[]=>by simp[hA]
 |a::r=>by
  rw[hA];split;.simp
  split;.simp
  have:=FK (s:=s) r;simp;omega
def jE:Nat->eJ
 |0=> .stop|n+1=> .struct [.int .i64,.int .i64,.str,.slice 4 56 (jE n)]
def Cm:∀(n m:Nat),m<=2*n->(jE n).hx m=true
 |0,m,h=>by
         have:m=0:=by omega
         subst this;rfl
 |n+1,0,_=>rfl|n+1,1,_=>rfl|n+1,m+2,h=>by have:=Cm n m (by omega);simp only[jE,eJ.hx,qu,this,xbl]
def Lo{P:Program}{t s:TypeId}(aa:∀y,ew P (.struct [.int .i64,.int .i64,.str,y]) t=(ew P y s&&true))(ae:∀y,ew P (.slice 4 56 y) s=ew P y t):∀n,ew P (jE n) t=true
 |0=>rfl|n+1=>by rw[jE,aa,ae,Lo aa ae n];rfl
theorem amY{P:Program}{t s:TypeId}(aa:∀y,ew P (.struct [.int .i64,.int .i64,.str,y]) t=(ew P y s&&true))(ae:∀y,ew P (.slice 4 56 y) s=ew P y t)(aq:decide (t<P.types.size)=true):sY P jE t:=⟨λn=>Cm n n (by omega),Lo aa ae,xaX aq,λn=>by cases n<;>rfl⟩
def zd:∀(n:Nat){x:List D},nc (jE n) x->∃t:Tm,x=t.cells/\t.cB
 |0,x,h=>h.elim|n+1,x,h=>by obtain⟨a,b,rfl,aG,c,d,rfl,an,e,f,rfl,he,g,i,rfl,bG,rfl⟩:=h;obtain⟨op,rfl,dW⟩:=FF aG;obtain⟨nn,rfl,kJ⟩:=FF an;obtain⟨s,rfl,aE⟩:=Lj he;obtain⟨es,rfl,_,aq,me⟩:=bG;obtain⟨ks,rfl,eI⟩:=ry Tm.cells Tm.cB es λx ah=>zd n (me x ah).2;refine⟨.mk op nn s false ks,?_,.mk _ _ _ _ _ dW kJ (by omega) (by simpa using xbM aq (by omega)) eI⟩;simp[Tm.cells,Tm.jR,cA]
def Z1{H:Type}{F:rv}{Fs:List rv}{xs:List (DataW H)}{aO:List D}(h:qv (F::Fs) xs aO):∃x JF d BF n,xs=x::JF/\aO=d::BF/\FB (F n) x d/\Ch (F n) d/\qv Fs JF BF:=by
 cases xs with
 |nil=>cases aO<;>exact h.elim
 |cons x xs=>cases aO with|nil=>exact h.elim|cons d aO=>obtain⟨⟨n,aa,ae⟩,ay⟩:=h;exact⟨x,xs,d,aO,n,rfl,rfl,aa,ae,ay⟩
def Z2{H:Type}{xs:List (DataW H)}{aO:List D}(h:qv [] xs aO):xs=[]/\aO=[]:=by cases xs<;>cases aO<;>first|exact⟨rfl,rfl⟩|exact h.elim
def amZ{d:D}(h:Ch (.int .u8) d):∃n:Int,d= .val (.int .u8 n)/\0<=n/\n<=255:=by obtain⟨n,aa,ae⟩:=h;have:=Go.bounds_u8 ae;exact⟨n,by simpa using aa,this⟩
@[simp] theorem aDc (a:D):a6 1 (.agg [a])=a.one:=by simp[a6]
@[simp] theorem am0 (a b:D):a6 2 (.agg [a,b])=(a.one&&b.one):=by simp[a6]
@[simp] theorem am1 (a b c d e:D):a6 5 (.agg [a,b,c,d,e])=(a.one&&(b.one&&(c.one&&(d.one&&e.one)))):=by simp[a6]
@[simp] theorem am2 (a b c d e f:D):a6 6 (.agg [a,b,c,d,e,f])=(a.one&&(b.one&&(c.one&&(d.one&&(e.one&&f.one))))):=by simp[a6]
@[simp] theorem Z3 (a b c d e f g:D):a6 7 (.agg [a,b,c,d,e,f,g])=(a.one&&(b.one&&(c.one&&(d.one&&(e.one&&(f.one&&g.one)))))):=by simp[a6]
@[simp] theorem am3 (a b c d e f g h:D):a6 8 (.agg [a,b,c,d,e,f,g,h])=(a.one&&(b.one&&(c.one&&(d.one&&(e.one&&(f.one&&(g.one&&h.one))))))):=by simp[a6]
@[simp] theorem aDd {a b c e f:D} {l:List D}:ab (.agg (a::b::c::e::f::l)) 4=f:=rfl
@[simp] theorem aDe {a b c e f g:D} {l:List D}:ab (.agg (a::b::c::e::f::g::l)) 5=g:=rfl
@[simp] theorem aDf {a b c e f g h:D} {l:List D}:ab (.agg (a::b::c::e::f::g::h::l)) 6=h:=rfl
@[simp] theorem aDg {a b c e f g h i:D} {l:List D}:ab (.agg (a::b::c::e::f::g::h::i::l)) 7=i:=rfl
theorem am4{β:Type}{x y:Bool}{f:D->Option β}:J (bE (ax x) true (some (ax y))) (λv=>J (bT (ax x) v (ax false)) f)=f (ax (x&&y)):=by cases x<;>rfl
theorem am5{β:Type}{x y:Bool}{f:D->Option β}:J (bE (ax x) false (some (ax y))) (λv=>J (bT (ax x) (ax true) v) f)=f (ax (x||y)):=by cases x<;>rfl
inductive Fm where
 |mk (op:Int) (e:Tm) (nl:Bool) (a4:List Fm)
def fD:Tm:= .mk 0 0 ⟨#[]⟩ true []
def Rj:fD.cB:= .mk _ _ _ _ _ (by omega) (by omega) (by decide) (by simp) (by simp)
theorem Lp:fD.d=D.agg [R 0,R 0,aT ⟨#[]⟩,D.val (.slice none 0 0)]:=rfl
namespace Fm
def op:Fm->Int| .mk o _ _ _=>o
def e:Fm->Tm| .mk _ t _ _=>t
def nl:Fm->Bool| .mk _ _ b _=>b
def a4:Fm->List Fm| .mk _ _ _ l=>l
mutual
def cells:Fm->List D
 | .mk o t b ks=>[R o,R t.op,R t.num,aT t.name,cA 4 t.nl (Tm.rows t.a4),cA 6 b (rows ks)]
def rows:List Fm->List (List D)
 |[]=>[]|t::r=>cells t::rows r
end
def d(t:Fm):D:= .agg t.cells
mutual
def bp:Fm->Nat
 | .mk _ t _ ks=>2+t.bp+eV ks
def eV:List Fm->Nat
 |[]=>0|t::r=>1+bp t+eV r
end
def jR:∀l:List Fm,rows l=l.map cells
 |[]=>rfl|t::r=>by simp[rows,jR r]
@[simp] theorem Ck {l:List Fm}:(rows l).length=l.length:=by simp[jR]
def Lk{l:List Fm}{i:Nat}{t:Fm}(h:l[i]?=some t):(rows l)[i]?=some t.cells:=by simp[jR,h]
def hz{l:List Fm}{b:Bool}{i:Nat}{t:Fm}(h:l[i]?=some t):bh 6 (cA 6 b (rows l)) (R (i:Int))=some t.cells:=by rw[Rc,Lk h]
def FG:∀l:List Fm,l.length<=eV l
 |[]=>xbe 0|t::r=>by simp only[eV,xat];have:=FG r;omega
def FH:∀{l:List Fm}{t:Fm},t∈l->bp t+1<=eV l
 |a::r,t,h=>by
  simp only[eV];rcases xap.1 h with rfl|h
  .omega
  have:=FH h;omega
theorem FL(t:Fm):t.bp=2+t.e.bp+eV t.a4:=by cases t;rfl
def jS{t k:Fm}(h:k∈t.a4):k.bp+3<=t.bp:=by have:=FH h;have:=FL t;omega
def lI{t:Fm}:t.a4.length+2<=t.bp:=by have:=FG t.a4;have:=FL t;omega
def FM{t:Fm}:t.e.bp+2<=t.bp:=by have:=FL t;omega
def ind{P:Fm->Prop}(h:∀t:Fm,(∀k∈t.a4,P k)->P t)(t:Fm):P t:=by
 have:∀(n:Nat)(t:Fm),t.bp<=n->P t:=by
  intro n
  induction n with
  |zero=>intro t aJ;cases t;simp[bp]at aJ
  |succ n ih=>intro t aJ;exact h t λk al=>ih k (by have:=jS al;omega)
 exact this _ t (xbe _)
inductive cB:Fm->Prop where
 |mk (o:Int) (t:Tm) (b:Bool) (ks:List Fm) (aL:-9223372036854775808<=o/\o<=9223372036854775807) (aJ:t.cB) (aq:ks.length*88<=140737488355328) (al:∀k∈ks,cB k):cB (.mk o t b ks)
def cB.fu{t k:Fm}(h:cB t)(al:k∈t.a4):cB k:=by cases h with|mk o n s b ks aL aM aE=>exact aE k al
def cB.len{t:Fm}(h:cB t):t.a4.length*88<=140737488355328:=by cases h;assumption
def cB.e{t:Fm}(h:cB t):t.e.cB:=by cases h;assumption
def cB.op{t:Fm}(h:cB t):-9223372036854775808<=t.op/\t.op<=9223372036854775807:=by cases h;assumption
theorem la(t:Fm):t.cells=[R t.op,R t.e.op,R t.e.num,aT t.e.name,cA 4 t.e.nl (Tm.rows t.e.a4),cA 6 t.nl (rows t.a4)]:=by cases t;rfl
theorem jT(t:Fm):t.d= .agg [R t.op,R t.e.op,R t.e.num,aT t.e.name,cA 4 t.e.nl (Tm.rows t.e.a4),cA 6 t.nl (rows t.a4)]:=by cases t;rfl
@[simp] theorem nd (t:Fm):a6 6 t.d=true:=by rw[jT];simp
@[simp] theorem pF (t:Fm):ab t.d 0=R t.op:=by rw[jT];rfl
@[simp] theorem sZ (t:Fm):ab t.d 1=R t.e.op:=by rw[jT];rfl
@[simp] theorem s3 (t:Fm):ab t.d 2=R t.e.num:=by rw[jT];rfl
@[simp] theorem rz (t:Fm):ab t.d 3=aT t.e.name:=by rw[jT];rfl
@[simp] theorem am6 (t:Fm):ab t.d 4=cA 4 t.e.nl (Tm.rows t.e.a4):=by rw[jT];rfl
@[simp] theorem am7 (t:Fm):ab t.d 5=cA 6 t.nl (rows t.a4):=by rw[jT];rfl
@[simp] theorem FI (t:Fm):D.agg [R t.op,R t.e.op,R t.e.num,aT t.e.name,cA 4 t.e.nl (Tm.rows t.e.a4),cA 6 t.nl (rows t.a4)]=t.d:=(jT t).symm
@[simp high] theorem Rd (t:Fm):aQ true 6 0 t.cells=some t.d:=by rw[jT,la];rfl
end Fm
attribute [go_sem] dS qq lF pE ru am4 am5 Fv Lc oT Ce Cf y9 Q2 ZA amr Cg qs Fu QX amd ame amf amg amL amh ami amj amk aml amM amm QY xbs xca ama amn ZL amo amp Zy xbl xbm Bool.and_self xav xaz Bool.not_true xbU xan ZN amO amP Bool.or_true Bool.true_or am0 amQ amR am1 am2 Z3 am3 ZO ZP ZQ amc amb Tm.nd Tm.pF Tm.sZ Tm.s3 Tm.rz Tm.FI Tm.Rd Tm.Ck Fm.nd Fm.pF Fm.sZ Fm.s3 Fm.rz Fm.am6 Fm.am7 Fm.FI Fm.Rd Fm.Ck
def ml:Nat->eJ
 |0=> .stop|n+1=> .struct [.int .i64,jE (n+1),.slice 6 88 (ml n)]
def Rk:∀(n m:Nat),m<=2*n->(ml n).hx m=true
 |0,m,h=>by
         have:m=0:=by omega
         subst this;rfl
 |n+1,0,_=>rfl|n+1,1,_=>by simp[ml,eJ.hx,qu]|n+1,m+2,h=>by have:=Rk n m (by omega);have ae:=Cm (n+1) (m+1) (by omega);simp only[ml,eJ.hx,qu,this,ae,xbl]
def Z4{P:Program}{t s r q:TypeId}(aa:∀y z,ew P (.struct [.int .i64,y,z]) t=(ew P y r&&(ew P z s&&true)))(ae:∀y,ew P (.slice 6 88 y) s=ew P y t)(ay:∀n,ew P (jE n) r=true):∀n,ew P (ml n) t=true
 |0=>rfl|n+1=>by rw[ml,aa,ae,Z4 (q:=q) aa ae ay n,ay];rfl
theorem am8{P:Program}{t s r q:TypeId}(aa:∀y z,ew P (.struct [.int .i64,y,z]) t=(ew P y r&&(ew P z s&&true)))(ae:∀y,ew P (.slice 6 88 y) s=ew P y t) (ay:∀y,ew P (.struct [.int .i64,.int .i64,.str,y]) r=(ew P y q&&true)) (a7:∀y,ew P (.slice 4 56 y) q=ew P y r) (aq:decide (t<P.types.size)=true):sY P ml t:=⟨λn=>Rk n n (by omega),Z4 (q:=q) aa ae (Lo ay a7),xaX aq,λn=>by cases n<;>rfl⟩
def Z5:∀(n:Nat){x:List D},nc (ml n) x->∃t:Fm,x=t.cells/\t.cB
 |0,x,h=>h.elim|n+1,x,h=>by obtain⟨a,b,rfl,aG,c,d,rfl,an,g,i,rfl,bG,rfl⟩:=h;obtain⟨op,rfl,dW⟩:=FF aG;obtain⟨t,rfl,aJ⟩:=zd (n+1) an;obtain⟨es,rfl,_,aq,me⟩:=bG;obtain⟨ks,rfl,eI⟩:=ry Fm.cells Fm.cB es λx ah=>Z5 n (me x ah).2;refine⟨.mk op t false ks,?_,.mk _ _ _ _ dW aJ (by simpa using xbM aq (by omega)) eI⟩;simp[Fm.cells,Fm.jR,cA,Tm.la]
structure bl where
 name:ByteArray
 e:Tm
def bl.cells(d:bl):List D:=[aT d.name,R d.e.op,R d.e.num,aT d.e.name,cA 4 d.e.nl (Tm.rows d.e.a4)]
def bl.d(d:bl):D:= .agg d.cells
def aU(l:List bl):D:= .ak 5 (l.map bl.cells)
def bl.cB(d:bl):Prop:=d.name.size<=140737488351232/\d.e.cB
section
variable{l:List bl}{i:Nat}{d:bl}
def fE(h:l[i]?=some d):bh 5 (aU l) (R (i:Int))=some d.cells:=by simp[aU,h]
def eA(l:List bl):bJ (aU l)=some (R l.length):=by simp[aU]
@[simp] theorem bl.am9 (d:bl):aQ true 5 0 d.cells=some d.d:=rfl
@[simp] theorem bl.iy (d:bl):aQ true 4 1 d.cells=some d.e.d:=by rw[Tm.jT];rfl
@[simp] theorem bl.gI (d:bl):aQ false 1 0 d.cells=some (aT d.name):=rfl
@[simp] theorem bl.agg (d:bl):a6 5 d.d=true:=by unfold bl.d bl.cells;simp
@[simp] theorem bl.aY (d:bl):ab d.d 0=aT d.name:=rfl
@[simp] theorem bl.bw (d:bl):ab d.d 1=R d.e.op:=rfl
@[simp] theorem bl.bO (d:bl):ab d.d 2=R d.e.num:=rfl
@[simp] theorem bl.b0 (d:bl):ab d.d 3=aT d.e.name:=rfl
@[simp] theorem bl.cZ (d:bl):ab d.d 4=cA 4 d.e.nl (Tm.rows d.e.a4):=rfl
end
def dg(l:List bl)(x:ByteArray):Option Nat:=l.findIdx? (λd=>decide (d.name=x))
def Rl{l:List bl}{x:ByteArray}{i:Nat}(h:dg l x=some i):∃d,l[i]?=some d/\d.name=x/\i<l.length:=by obtain⟨aa,ae,_⟩:=xbn.1 h;exact⟨_,xab aa,by simpa using ae,aa⟩
def c8(l:List Nat):D:= .ak 1 (l.map λ(i:Nat)=>[R (i:Int)])
def uS{l:List Nat}{i k:Nat}(h:l[i]?=some k):bh 1 (c8 l) (R (i:Int))=some [R (k:Int)]:=by simp[c8,h]
def pG(l:List Nat):bJ (c8 l)=some (R l.length):=by simp[c8]
def hM(l:List (List Nat)):D:= .ak 1 (l.map λx=>[c8 x])
def ana{l:List (List Nat)}{i:Nat}{k:List Nat}(h:l[i]?=some k):bh 1 (hM l) (R (i:Int))=some [c8 k]:=by simp[hM,h]
def bY(M:List (Value×D))(S:List Nat):Prop:=uQ M/\∀i:Nat,mM M (i:Int)=if i∈S then some (ax true)else none
theorem bY.nil:bY [] []:=⟨by(intro e he;cases he),λi=>rfl⟩
def bY.look{M:List (Value×D)}{S:List Nat}(h:bY M S){i:Nat}{z:Value}:kr (.int .i64) (.bool false) false M (R (i:Int))=some (ax (decide (i∈S))):=by rw[amV h.1,h.2 i];by_cases aj:i∈S<;>simp[aj,qV]
def bY.put{M:List (Value×D)}{S:List Nat}(h:bY M S)(i:Nat):∃ey,rf (.int .i64) M (R (i:Int)) (ax true)=some ey/\bY ey (if i∈S then S else S++[i]):=by
 obtain⟨ey,aa,ae,ay,_⟩:=amW h.1 (i:Int) (ax true);refine⟨ey,aa,ae,λj=>?_⟩;rw[ay,h.2];by_cases aI:j=i;.subst aI;by_cases aj:j∈S<;>simp[aj]
 have:¬((j:Int)=(i:Int)):=by omega
 by_cases aj:i∈S<;>simp[this,aj,aI]
def bY.mem{M:List (Value×D)}{S T:List Nat}(h:bY M S)(fB:∀x,x∈S↔x∈T):bY M T:=⟨h.1,λi=>by rw[h.2];simp only[fB i]⟩
def w8(n:Nat):eJ:= .slice 5 72 (.struct [.str,jE n])
def Z6(n:Nat):∀m,m<=n->(w8 n).hx m=true
 |0,_=>rfl|1,_=>by simp[w8,eJ.hx]|m+2,h=>by have:=Cm n m (by omega);have:=Cm n (m+1) (by omega);have ae:eJ.hx m .str=true:=w7 m .str rfl;simp only[w8,eJ.hx,qu, *,xbl]
theorem anb{P:Program}{t r q:TypeId}(aa:∀y,ew P (.slice 5 72 (.struct [.str,y])) t=(ew P y r&&true)) (ay:∀y,ew P (.struct [.int .i64,.int .i64,.str,y]) r=(ew P y q&&true)) (a7:∀y,ew P (.slice 4 56 y) q=ew P y r) (aq:decide (t<P.types.size)=true):sY P w8 t:=⟨λn=>Z6 n n (xbe _),λn=>by rw[w8,aa,Lo ay a7 n];rfl,xaX aq,λn=>rfl⟩
def Z7{n:Nat}{x:List D}(h:nc (.struct [.str,jE n]) x):∃d:bl,x=d.cells/\d.cB:=by obtain⟨a,b,rfl,aG,c,e,rfl,an,rfl⟩:=h;obtain⟨s,rfl,aE⟩:=Lj aG;obtain⟨t,rfl,aJ⟩:=zd n an;exact⟨⟨s,t⟩,by simp[bl.cells,Tm.la],aE,aJ⟩
end Go.Am
