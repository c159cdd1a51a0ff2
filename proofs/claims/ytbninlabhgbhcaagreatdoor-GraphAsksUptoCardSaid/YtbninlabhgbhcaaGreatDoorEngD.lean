/- From what a call is handed to data, and from an answer to the row. No condition. -/
import Derived.Test.YtbninlabhgbhcaaGreatDoorEngC
import Derived.ProofKit
import Derived.OpenShut
import Derived.KernelRfl
import Derived.Deep.DeepHandedRow
import Derived.Lib.LaidTab
import Derived.Test.YtbninlabhgbhcaaGreatDoorEngS
set_option linter.all false
set_option linter.unnecessarySimpa false
namespace Go.Am
open Go.ChangeShapes Go.WideShapes Go.ChangeAt Go.RowKit
inductive eH where
 |bool
 |int (k:IntKind)
 |str
 |slice (k bytes:Nat) (e:eH)
 |arr (n:Nat) (e:eH)
 |struct (df:List eH)
 |stop
mutual
def nf:eH->List D->Prop
 | .bool,aR=>∃b,aR=[aK b]| .int k,aR=>∃n,aR=[.val (.int k n)]/\(Lit.int k n).wf=true| .str,aR=>∃s,aR=[a6 s]/\s.size<=140737488351232| .slice k Hb e,aR=>∃es:List (List D),aR=[.aW k es]/\es.length<=maxLen/\es.length*Hb<=140737488351232/\∀x∈es,x.length=k/\nf e x| .arr n e,aR=>∃jO:List (List D),aR=jO.flatten/\jO.length=n/\∀x∈jO,nf e x| .struct df,aR=>MZ df aR| .stop,_=>False
def MZ:List eH->List D->Prop
 |[],aR=>aR=[]|f::df,aR=>∃a b,aR=a++b/\nf f a/\MZ df b
end
mutual
def rd{H:Type}:eH->DataW H->Option (List D)
 | .bool,.lit (.bool b)=>some [aK b]| .int _,.lit (.int k n)=>some [.val (.int k n)]| .str,.lit (.string l)=>some [a6 ⟨l.toArray⟩]| .slice k _ _,.nil=>some [.aW k []]| .slice k _ e,.slice es _=>(es.mapM (rd e)).map λxs=>[.aW k xs]| .arr _ e,.agg es=>(es.mapM (rd e)).map List.flatten| .struct df,.agg es=>hT df es|_,_=>none
def hT{H:Type}:List eH->List (DataW H)->Option (List D)
 |[],[]=>some []|f::df,d::aR=>(rd f d).bind λa=>(hT df aR).map (a++·)|_,_=>none
end
mutual
def eQ(P:Program):eH->TypeId->Bool
 | .bool,t=>match P.underlying t with|some .bool=>true|_=>false
 | .int k,t=>match P.underlying t with|some (.int bG)=>decide (k=bG)|_=>false
 | .str,t=>match P.underlying t with|some .string=>true|_=>false
 | .stop,_=>true| .slice k Hb e,t=>match P.underlying t with|some (.slice dx)=>decide (P.cellsOf dx=k)&&decide (0<k)&&decide (P.bytesOf dx=Hb)&&eQ P e dx|_=>false
 | .arr n e,t=>match P.underlying t with|some (.array gz dx)=>decide (n=gz)&&decide (P.cellsOf t=n*P.cellsOf dx)&&eQ P e dx|_=>false
 | .struct df,t=>match P.underlying t with|some (.struct S0)=>Ad P df S0.toList 0 (P.cellsOf t)|_=>false
def Ad(P:Program):List eH->List Field->Nat->Nat->Bool
 |[],[],off,n=>decide (off=n)|f::df,x::xs,off,n=>decide (x.offset=off)&&eQ P f x.type&&Ad P df xs (off+P.cellsOf x.type) n|_,_,_,_=>false
end
mutual
def eH.h3:Nat->eH->Bool
 |0,_=>true|_+1,.stop=>false|n+1,.slice _ _ e=>e.h3 n|n+1,.arr _ e=>e.h3 n|n+1,.struct df=>rp n df|_+1,_=>true
def rp:Nat->List eH->Bool
 |_,[]=>true|n,f::df=>f.h3 n&&rp n df
end
def Rel(m:Mem):List D->List Value->Prop
 |[],[]=>True|d::aR,v::vs=>D.one d=true/\c5 m d v/\Rel m aR vs|_,_=>False
def Rel.len{m:Mem}:∀{aR:List D}{vs:List Value},Rel m aR vs->vs.length=aR.length
 |[],[],_=>rfl|_::_,_::_,h=>by simp[Rel.len h.2.2]|[],_::_,h=>h.elim|_::_,[],h=>h.elim
def Rel.at{m:Mem}:∀{aR:List D}{vs:List Value},Rel m aR vs->∀(i:Nat)(d:D),aR[i]?=some d->∃v,vs[i]?=some v/\D.one d=true/\c5 m d v
 |[],[],_,i,d,h=>by simp at h|x::aR,v::vs,h,0,d,ay=>by simp at ay;subst ay;exact⟨v,rfl,h.1,h.2.1⟩|_::_,_::_,h,i+1,d,ay=>by simpa using Rel.at h.2.2 i d (by simpa using ay)|[],_::_,h,_,_,_=>h.elim|_::_,[],h,_,_,_=>h.elim
def Rel.append{m:Mem}:∀{aR:List D}{vs:List Value}{CP:List D}{xR:List Value},Rel m aR vs->Rel m CP xR->Rel m (aR++CP) (vs++xR)
 |[],[],_,_,_,bB=>bB|_::_,_::_,_,_,h,bB=>⟨h.1,h.2.1,Rel.append h.2.2 bB⟩|[],_::_,_,_,h,_=>h.elim|_::_,[],_,_,h,_=>h.elim
def Rel.one{m:Mem}:∀{aR:List D}{vs:List Value},Rel m aR vs->aR.all D.one=true
 |[],[],_=>rfl|_::_,_::_,h=>by simp only[xbg,h.1,Rel.one h.2.2,Bool.and_self]|[],_::_,h=>h.elim|_::_,[],h=>h.elim
def S1{α:Type}:∀(n:Nat)(Q:Nat->α->Prop),(∀i,i<n->∃y,Q i y)->∃c7:List α,c7.length=n/\∀(i:Nat)(y:α),c7[i]?=some y->Q i y
 |0,_,_=>⟨[],rfl,by intro i y h;simp at h⟩
 |n+1,Q,h=>by obtain⟨c7,J,aa⟩:=S1 n (λi=>Q (i+1)) λi ag=>h (i+1) (by omega);obtain⟨y,aH⟩:=h 0 (by omega);refine⟨y::c7,by simp[J],?_⟩;intro i z bF;cases i with|zero=>simp at bF;subst bF;exact aH|succ i=>exact aa i z (by simpa using bF)
def S2{α β:Type}(f:α->Option β):∀(l:List α)(r:List β),r.length=l.length->(∀(i:Nat)(x:α)(y:β),l[i]?=some x->r[i]?=some y->f x=some y)->l.mapM f=some r
 |[],[],_,_=>rfl|x::l,y::r,al,h=>by have ar:=h 0 x y rfl rfl;have ih:=S2 f l r (by simpa using al) λi x y ad aH=>h (i+1) x y (by simpa using ad) (by simpa using aH);simp[List.mapM_cons,ar,ih]|[],_::_,h,_=>by simp at h|_::_,[],h,_=>by simp at h
section
variable{H:Type}{enc:TypeId×Value->H}{P:Program}{w:World}{base:Nat}{spare:Nat->Bool}{held:Bool}
def pieces{m:Mem}{c:Nat}{cs:List Value}:∀(jO:List (List D)) (o:Nat),(∀(i:Nat)(x:List D),jO[i]?=some x->Rel m x ((cs.drop (o+i*c)).take c))->(o+jO.length*c=cs.length)->Rel m jO.flatten (cs.drop o)
 |[],o,_,al=>by have:cs.drop o=[]:=xcu (by simp at al;omega);rw[this];trivial
 |x::r,o,h,al=>by
  have eI:o+c+r.length*c=cs.length:=by simp only[xan,xaX]at al;omega
  have ar:=h 0 x rfl;have ih:=pieces (m:=m) (cs:=cs) (c:=c) r (o+c) (λi x ad=>by have:=h (i+1) x (by simpa using ad);rw[show o+c+i*c=o+(i+1)*c by rw[xaX];omega];exact this) eI
  have e:cs.drop o=(cs.drop o).take c++cs.drop (o+c):=by
   conv=>lhs;rw[<-xbJ c (cs.drop o)]
   rw[List.drop_drop]
  rw[e,List.flatten_cons];refine Rel.append ?_ ih;simpa using ar
def S3{H:Type}{P:Program}{e:TypeId}:∀{l:List (DataW H)} {x:DataW H} {y:Nat},x∈l->y∈x.weights P e->y∈DataW.weightsAll P e l
 |a::r,x,y,ad,aH=>by
  simp only[DataW.weightsAll,xas];rcases xam.1 ad with rfl|ad
  .exact .inl aH
  exact .inr (S3 ad aH)
def aaW(m:Mem)(hm:∀b o,w.heap[b]?=some o->m b=some o):∀(n:Nat)(ty:eH)(t:TypeId)(cs:List Value)(x:DataW H×List MemPlace),eQ P ty t=true->ty.h3 n=true->(x.1.weights P t).all (·<=reachBytes)=true->DataW.trod enc P w base spare held n t cs=some x-> ∃aR,rd ty x.1=some aR/\nf ty aR/\Rel m aR cs:=by
 intro n
 induction n with
 |zero=>intro ty t cs x _ _ _ h;simp[DataW.trod]at h
 |succ n ih=>
  intro ty t cs x fC mT k7 h;cases ty with
  |stop=>simp[eH.h3]at mT
  |bool=>
   simp only[eQ]at fC;split at fC;.obtain⟨b,rfl,rfl⟩:=DataW.trod_bool ‹_› h;exact⟨[aK b],rfl,⟨b,rfl⟩,rfl,.val _,trivial⟩
   cases fC
  |int k=>
   simp only[eQ]at fC;split at fC;.have:=xbf fC;subst this;obtain⟨z,rfl,rfl,hw⟩:=DataW.trod_int ‹_› h;exact⟨[.val (.int k z)],rfl,⟨z,rfl,hw⟩,rfl,.val _,trivial⟩
   cases fC
  |str=>
   simp only[eQ]at fC;split at fC
   .obtain⟨s,rfl,rfl,hw⟩:=DataW.trod_string ‹_› h;refine⟨[a6 s],?_,⟨s,rfl,?_⟩,rfl,.val _,trivial⟩;.simp[rd]
    simp only[DataW.weights,xbg,xcn,xbw,xaC]at k7;simp only[reachBytes]at k7;simpa using k7
   cases fC
  |slice k Hb e=>
   simp only[eQ]at fC;split at fC
   .rename_i dx hu;simp only[xap,xaC]at fC;obtain⟨⟨⟨ai,Hc⟩,q6⟩,he⟩:=fC;subst ai;subst q6;simp only[eH.h3]at mT;rcases DataW.trod_slice hu h with⟨rfl,rfl⟩|⟨a,len,cap,elems,rest,gz,aN,rfl,rfl,aj,Yc,pC,ej,Hd,_,_⟩
    .exact⟨[.aW _ []],rfl,⟨[],rfl,by simp,by simp,by simp⟩,rfl,.kW _ _ _,trivial⟩
    cases aN;simp only[DataW.weights,hu,xbg,List.all_append,xap,xaC,xaW,reachBytes]at k7;obtain⟨pD,QZ,_⟩:=k7;have each:∀i,i<len->∃aR,∃x,elems[i]?=some x/\rd e x.1=some aR/\nf e aR/\∃c,w.cells? base (a.add (i*P.cellsOf dx)) (P.cellsOf dx)=some c/\Rel m aR c:=by
     intro i ag;have J:=Hd i ag;rw[xab (by omega)]at J;obtain⟨c,aa,ax⟩:=xaV.1 J;have S4:((elems[i]'(by omega)).1.weights P dx).all (·<=reachBytes)=true:=by refine xaB.2 λy aH=>xaB.1 QZ y ?_;exact S3 (xaN.2 ⟨_,xbc _,rfl⟩) aH
     obtain⟨aR,g1,g2,g3⟩:=ih e dx c _ he mT S4 ax;exact⟨aR,_,xab (by omega),g1,g2,c,aa,g3⟩
    obtain⟨es,al,lR⟩:=S1 len _ each;have S5:∀(i:Nat)(aR:List D),es[i]?=some aR->aR.length=P.cellsOf dx:=by intro i aR ag;obtain⟨_,_,_,_,c,ah,av⟩:=lR i aR ag;rw[<-av.len];exact(World.cells?_some ah).2.1
    refine⟨[.aW (P.cellsOf dx) es],?_,⟨es,rfl,by omega,?_,?_⟩,rfl,?_,trivial⟩
    .simp only[rd];rw[S2 (rd e) (elems.map (·.1)) es (by simp;omega)];.rfl
     intro i x y ad aH;obtain⟨z,J,aa,_⟩:=lR i y aH;simp[J]at ad;rw[<-ad];exact aa
    .have:es.length<=elems.length+rest.length:=by omega
     exact xbK (xaD _ this) (xbf pD)
    .intro x ad;obtain⟨i,ag,rfl⟩:=List.getElem_of_mem ad;obtain⟨_,_,_,g2,_⟩:=lR i _ (xab ag);exact⟨S5 i _ (xab ag),g2⟩
    by_cases ar:len=0;.subst ar;have:es=[]:=xaQ al;subst this;exact .kW _ _ _
    have oJ:∀(i:Nat)(aR:List D),es[i]?=some aR->∀j,j<P.cellsOf dx->w.cell? ((a.add (i*P.cellsOf dx)).add j)≠none:=by intro i aR ag j aA;obtain⟨_,_,_,_,c,ah,av⟩:=lR i aR ag;obtain⟨_,bN,bO⟩:=World.cells?_some ah;rw[bO j aA,xab (by omega)];simp
    have vp:=oJ 0 _ (xab (by omega)) 0 Hc;simp only[Nat.zero_mul,Addr.add,xaG]at vp;obtain⟨b,off,spot⟩:=a;unfold World.cell? at vp;cases bQ:w.heap[b]? with
    |none=>simp[bQ]at vp
    |some o=>
     cases o with
     |cells vs T eD=>
      simp only[bQ]at vp;have aoq:spot=none:=by cases spot with|none=>rfl|some s=>simp at vp
      subst aoq;have cellAt:∀q,w.cell? ⟨b,q,none⟩=vs[q]?:=by intro q;simp[World.cell?,bQ]
      have aor:∀q,(⟨b,off,none⟩:Addr).add q=⟨b,off+q,none⟩:=by intro q;unfold Addr.add;split<;>simp_all
      have aos:∀o q,(⟨b,o,none⟩:Addr).add q=⟨b,o+q,none⟩:=by intro o q;unfold Addr.add;split<;>simp_all
      have key:∀(i:Nat)(aR:List D)(j:Nat)(c:D),es[i]?=some aR->aR[j]?=some c->∃v,vs[off+i*P.cellsOf dx+j]?=some v/\c5 m c v:=by
       intro i aR j c ag aA;obtain⟨_,_,_,_,bs,ah,av⟩:=lR i aR ag;obtain⟨_,bN,bO⟩:=World.cells?_some ah;obtain⟨v,ey,_,ez⟩:=av.at j c aA;have cq:j<P.cellsOf dx:=by rw[<-S5 i aR ag];exact(xaa.1 aA).1
       refine⟨v,?_,ez⟩;rw[<-ey,<-bO j cq,aor,aos,cellAt]
      rw[<-al];refine .aW _ es b off cap vs T eD (hm _ _ bQ) ?_ (by omega) (λi j=>(vs[off+i*P.cellsOf dx+j]?).getD undef) ?_ ?_;.intro x ad;obtain⟨i,ag,rfl⟩:=List.getElem_of_mem ad;obtain⟨_,_,_,_,_,_,av⟩:=lR i _ (xab ag);exact⟨S5 i _ (xab ag),av.one⟩
      .intro i aR j c ag aA;obtain⟨v,J,_⟩:=key i aR j c ag aA;simp[J]
      intro i aR j c ag aA;obtain⟨v,J,aa⟩:=key i aR j c ag aA;simpa[J]using aa
     |_=>simp[bQ]at vp
   cases fC
  |arr k e=>
   simp only[eQ]at fC;split at fC
   .rename_i bG dx hu;simp only[xap,xaC]at fC;obtain⟨⟨ai,ah⟩,he⟩:=fC;subst ai;obtain⟨xs,gz,aN,rfl,bI,qj,Hd⟩:=DataW.trod_array hu h;cases aN;simp only[eH.h3]at mT;simp only[DataW.weights,hu]at k7;have each:∀i,i<k->∃aR,∃x,xs[i]?=some x/\rd e x.1=some aR/\nf e aR/\Rel m aR ((cs.drop (i*P.cellsOf dx)).take (P.cellsOf dx)):=by
     intro i ag;have J:=Hd i ag;rw[xab (by omega)]at J;have S4:((xs[i]'(by omega)).1.weights P dx).all (·<=reachBytes)=true:=by refine xaB.2 λy aH=>xaB.1 k7 y ?_;exact S3 (xaN.2 ⟨_,xbc _,rfl⟩) aH
     obtain⟨aR,g1,g2,g3⟩:=ih e dx _ _ he mT S4 J;exact⟨aR,_,xab (by omega),g1,g2,g3⟩
    obtain⟨es,al,lR⟩:=S1 k _ each;refine⟨es.flatten,?_,⟨es,rfl,al,?_⟩,?_⟩
    .simp only[rd];rw[S2 (rd e) (xs.map (·.1)) es (by simp;omega)];.rfl
     intro i x y ad aH;obtain⟨z,J,aa,_⟩:=lR i y aH;simp[J]at ad;rw[<-ad];exact aa
    .intro x ad;obtain⟨i,ag,rfl⟩:=List.getElem_of_mem ad;obtain⟨_,_,_,g2,_⟩:=lR i _ (xab ag);exact g2
    have:=pieces (m:=m) (c:=P.cellsOf dx) (cs:=cs) es 0 (λi x ad=>by obtain⟨_,_,_,_,g3⟩:=lR i x ad;simpa using g3) (by rw[al];omega);simpa using this
   cases fC
  |struct df=>
   simp only[eQ]at fC;split at fC
   .rename_i S0 hu;obtain⟨xs,gz,aN,rfl,bI,qj,Hd⟩:=DataW.trod_struct hu h;cases aN;simp only[eH.h3]at mT;simp only[DataW.weights,hu]at k7;have go:∀(df:List eH)(gs:List Field)(c7:List (DataW H×List MemPlace)) (off:Nat),Ad P df gs off (P.cellsOf t)=true->rp n df=true->(DataW.weightsEach P (gs.map (·.type)) (c7.map (·.1))).all (·<=reachBytes)=true->c7.length=gs.length->(∀(i:Nat)(f:Field),gs[i]?=some f->DataW.trod enc P w base spare held n f.type ((cs.drop f.offset).take (P.cellsOf f.type))=c7[i]?)-> ∃aR,hT df (c7.map (·.1))=some aR/\MZ df aR/\Rel m aR (cs.drop off):=by
     intro df
     induction df with
     |nil=>intro gs c7 off J He pD aa ax;cases gs with|nil=>simp only[Ad,xaC]at J;have:c7=[]:=xaQ aa;subst this;refine⟨[],rfl,rfl,?_⟩;rw[xcu (by omega)];trivial|cons _ _=>simp[Ad]at J
     |cons f df aot=>
      intro gs c7 off J He pD aa ax;cases gs with
      |nil=>simp[Ad]at J
      |cons g gs=>
       cases c7 with
       |nil=>simp at aa
       |cons y c7=>
        simp only[Ad,xap,xaC]at J;obtain⟨⟨aM,a8⟩,b0⟩:=J;simp only[rp,xap]at He;simp only[xaw,DataW.weightsEach,List.all_append,xap]at pD;obtain⟨a,aI,a2,a3⟩:=ih f g.type _ y a8 He.1 pD.1 (ax 0 g rfl);obtain⟨b,fH,hI,kH⟩:=aot gs c7 _ b0 He.2 pD.2 (by simpa using aa) (λi f bm=>by simpa using ax (i+1) f (by simpa using bm));refine⟨a++b,by simp[hT,aI,fH],⟨a,b,rfl,a2,hI⟩,?_⟩;have e:cs.drop off=(cs.drop off).take (P.cellsOf g.type)++cs.drop (off+P.cellsOf g.type):=by
         conv=>lhs;rw[<-xbJ (P.cellsOf g.type) (cs.drop off)]
         rw[List.drop_drop]
        rw[e];refine Rel.append ?_ kH;rw[<-aM];exact a3
    obtain⟨aR,g1,g2,g3⟩:=go df S0.toList xs 0 fC mT k7 (by simpa using qj) (λi f bm=>Hd i f (by simpa using bm));exact⟨aR,g1,g2,by simpa using g3⟩
   cases fC
end
open Go.ChangeShapes Go.WideShapes Go.ChangeAt Go.RowKit
def Ae:eH->D->Prop
 | .struct df,d=>∃aR,d= .agg aR/\MZ df aR| .arr _ _,_=>False|ty,d=>nf ty [d]
def Af{H:Type}(ty:eH)(x:DataW H)(d:D):Prop:=match ty with| .struct df=>∃aR,d= .agg aR/\rd (.struct df) x=some aR|ty=>rd ty x=some [d]
abbrev ss:=Nat->eH
def Hf(t:eH):ss:=λ_=>t
mutual
def ue:eH->Bool
 | .stop=>false| .slice _ _ e=>ue e| .arr _ e=>ue e| .struct df=>M0 df|_=>true
def M0:List eH->Bool
 |[]=>true|f::df=>ue f&&M0 df
end
mutual
def xS:∀(n:Nat)(t:eH),ue t=true->t.h3 n=true
 |0,t,_=>by cases t<;>rfl
 |n+1,.stop,h=>by simp[ue]at h|n+1,.slice _ _ e,h=>by rw[ue]at h;rw[eH.h3];exact xS n e h|n+1,.arr _ e,h=>by rw[ue]at h;rw[eH.h3];exact xS n e h|n+1,.struct df,h=>by rw[ue]at h;rw[eH.h3];exact aaX n df h|n+1,.bool,_=>rfl|n+1,.int _,_=>rfl|n+1,.str,_=>rfl
def aaX:∀(n:Nat)(t:List eH),M0 t=true->rp n t=true
 |n,[],_=>by cases n<;>rfl
 |n,f::df,h=>by rw[M0,xap]at h;rw[rp,xS n f h.1,aaX n df h.2];rfl
end
def aaY:eH->Bool
 | .arr _ _=>false|_=>true
structure uf(P:Program)(F:ss)(t:TypeId):Prop where
 deep:∀n,(F n).h3 n=true
 ok:∀n,eQ P (F n) t=true
 lt:t<P.types.size
 aou:∀n,aaY (F n)=true
def aaZ{P:Program}{y:eH}{t:TypeId}(h:(ue y&&aaY y&&eQ P y t&&decide (t<P.types.size))=true):uf P (Hf y) t:=by simp only[xap,xaC]at h;exact⟨λn=>xS n y h.1.1.1,λ_=>h.1.2,h.2,λ_=>h.1.1.2⟩
def Dv(P:Program):List ss->List TypeId->Prop
 |[],[]=>True|F::Fs,t::ts=>uf P F t/\Dv P Fs ts|_,_=>False
def Dv.lt{P:Program}:∀{Fs:List ss}{ts:List TypeId},Dv P Fs ts->∀t∈ts,t<P.types.size
 |[],[],_,t,h=>by simp at h
 |F::Fs,u::ts,h,t,aP=>by
  rcases xam.1 aP with rfl|aP;.exact h.1.lt
  exact Dv.lt h.2 t aP
 |[],_::_,h,_,_=>h.elim|_::_,[],h,_,_=>h.elim
def su{H:Type}:List ss->List (DataW H)->List D->Prop
 |[],[],[]=>True|F::Fs,x::xs,d::aR=>(∃n,Af (F n) x d/\Ae (F n) d)/\su Fs xs aR|_,_,_=>False
section
variable{H:Type}{enc:TypeId×Value->H}{P:Program}{w:World}
def M1{m:Mem}{aR:List D}{v:Value}(h:Rel m aR [v]):∃d,aR=[d]/\c5 m d v:=by cases aR with|nil=>exact h.elim|cons d r=>cases r with|nil=>exact⟨d,rfl,h.2.1⟩|cons _ _=>exact h.2.2.elim
def aov{m:Mem}{aR:List D}{cs:Array Value}(h:Rel m aR cs.toList):c5 m (.agg aR) (.agg cs):=by
 refine .agg _ _ (by simpa using h.len) ?_;intro i c v ah aS;obtain⟨u,J,_,aa⟩:=h.at i c ah;have:cs[i]?=some u:=by simpa using J
 rw[aS]at this;cases this;exact aa
def aow(m:Mem)(hm:∀(b:Nat)(o:Obj),w.heap[b]?=some o->m b=some o){r:Reach}{GZ base:Nat}{sp:Nat->Bool}{held:Bool}{F:ss}{t:TypeId}{v:Value}{x:DataW H}{iT:List MemPlace} (fI:uf P F t) (k7:(x.weights P t).all (·<=reachBytes)=true) (ng:Value.okWide P w r GZ t v) (h:DataW.Trod enc P w base sp held t v x iT):∃d n,Af (F n) x d/\Ae (F n) d/\c5 m d v:=by
 obtain⟨n,aN⟩:=h;have fC:=fI.ok n;have Hg:=fI.aou n;obtain⟨aR,J,aa,ax⟩:=aaW m hm n (F n) t _ _ fC (fI.deep n) k7 aN
 suffices h:∃d,Af (F n) x d/\Ae (F n) d/\c5 m d v from let⟨d,a⟩:=h;⟨d,n,a⟩
 clear fI aN;generalize F n=ty at*;cases ty with
 |bool=>
  simp only[eQ]at fC;split at fC;.obtain⟨b,rfl⟩:=okWide_bool ‹_› ng;obtain⟨d,rfl,ay⟩:=M1 ax;exact⟨d,J,aa,ay⟩
  cases fC
 |int k=>
  simp only[eQ]at fC;split at fC;.obtain⟨b,rfl⟩:=okWide_int ‹_› ng;obtain⟨d,rfl,ay⟩:=M1 ax;exact⟨d,J,aa,ay⟩
  cases fC
 |str=>
  simp only[eQ]at fC;split at fC;.obtain⟨b,rfl⟩:=okWide_string ‹_› ng;obtain⟨d,rfl,ay⟩:=M1 ax;exact⟨d,J,aa,ay⟩
  cases fC
 |stop=>exact(by simpa[nf]using aa:False).elim
 |slice k Hb e=>
  simp only[eQ]at fC;split at fC;.obtain⟨a,l,c,rfl⟩:=okWide_slice ‹_› ng;obtain⟨d,rfl,ay⟩:=M1 ax;exact⟨d,J,aa,ay⟩
  cases fC
 |arr n e=>cases Hg
 |struct df=>
  simp only[eQ]at fC;split at fC;.obtain⟨cs,rfl,_⟩:=okWide_struct ‹_› ng;exact⟨.agg aR,⟨aR,rfl,J⟩,⟨aR,rfl,aa⟩,aov ax⟩
  cases fC
def aa0(m:Mem)(hm:∀(b:Nat)(o:Obj),w.heap[b]?=some o->m b=some o){r:Reach}{GZ base:Nat}{sp:Nat->Bool}{held:Bool}:∀{Fs:List ss}{ts:List TypeId}{vs:List Value}{xs:List (DataW H)} {iT:List MemPlace},Dv P Fs ts->(DataW.weightsEach P ts xs).all (·<=reachBytes)=true->(∀(j:Nat) t v,ts[j]?=some t->vs[j]?=some v->Value.okWide P w r GZ t v)->DataW.TrodAll enc P w base sp held ts vs xs iT-> ∃aR,su Fs xs aR/\r2 m aR vs
 |[],[],vs,xs,iT,_,_,_,h=>by obtain⟨rfl,rfl,rfl⟩:=trodAll_nil h;exact⟨[],trivial,rfl,by intro i d v ay;simp at ay⟩
 |F::Fs,t::ts,vs,xs,iT,fC,k7,ng,h=>by obtain⟨v,xR,x,Lm,p,q,rfl,rfl,rfl,J,aa⟩:=trodAll_cons h;simp only[DataW.weightsEach,List.all_append,xap]at k7;obtain⟨d,n,d1,d2,d3⟩:=aow m hm fC.1 k7.1 (ng 0 t v rfl rfl) J;obtain⟨aR,aM,b0⟩:=aa0 m hm fC.2 k7.2 (λj t v aP aS=>ng (j+1) t v (by simpa using aP) (by simpa using aS)) aa;refine⟨d::aR,⟨⟨n,d1,d2⟩,aM⟩,by simpa using b0.1,?_⟩;intro i c u ah hu;cases i with|zero=>simp at ah hu;subst ah;subst hu;exact d3|succ i=>exact b0.2 i c u (by simpa using ah) (by simpa using hu)
 |[],_::_,_,_,_,h,_,_,_=>h.elim|_::_,[],_,_,_,h,_,_,_=>h.elim
def again{W kg:World}(hle:∀(b:Nat)(o:Obj),W.heap[b]?=some o->kg.heap[b]?=some o)(al:laidOutB P=true)(hm:mapsRowed P=true) (bF:((List.range P.types.size).all λt=>match P.underlying t with|some (.slice e)=>decide (0<P.cellsOf e)|_=>true)=true) {sp:Nat->Bool}: ∀{ts:List TypeId}{vs:List Value}{aR:List (DataW H)} {iT:List MemPlace},(∀t∈ts,t<P.types.size)->DataW.TrodAll enc P W 0 (λ_=>true) true ts vs aR iT->(∀p∈iT,p.block<W.heap.size)->(∀p∈iT,sp p.block=true)->DataW.TrodAll enc P kg 0 sp true ts vs aR iT
 |[],[],[],_,_,h,_,_=>h
 |t::ts,v::vs,d::aR,_,aP,⟨p,q,⟨n,J⟩,aa,e⟩,b6,az=>by
  refine⟨p,q,⟨n,?_⟩,again hle al hm bF (λt h=>aP t (by simp[h])) aa (λx ad=>b6 x (by rw[e];exact xbS _ ad)) (λx ad=>az x (by rw[e];exact xbS _ ad)),e⟩;refine DataW.trod_stays (kids_rows al hm) (λ{t e} J aa=>slices_full_of P bF t e J aa) (λh=>by cases h) (aP t (by simp)) J ?_ (λx ad=>az x (by rw[e];exact xaZ _ ad));intro x ad;have aj:=b6 x (by rw[e];exact xaZ _ ad);have bQ:kg.heap[x.block]?=W.heap[x.block]?:=by rw[xak aj];exact hle _ _ (xak aj)
  cases x with
  |cell b off=>show kg.cell? ⟨b,off,none⟩=W.cell? ⟨b,off,none⟩;unfold World.cell?;rw[show kg.heap[b]?=W.heap[b]? from bQ]
  |map b=>exact bQ
def M3(W:World):fq:=⟨λ_=>none,W.os,W.output,W.heap.size⟩
theorem aox(W:World):mS (λb=>W.heap[b]?) (M3 W) W:=by refine⟨λb o h=>h,⟨λb o h=>by simp[M3]at h,rfl,rfl,xaU _⟩,λ_ _=>rfl⟩
def aoy{W kg:World}{cB:Mem}(hle:(show Mem fromλb=>W.heap[b]?).le cB)(h:mS cB (M3 W) kg):
  W.keptBut kg (λ_=>False)/\(∀a:Addr,a.block<W.heap.size->kg.frozen? a=W.frozen? a)/\(∀(b:Nat)(o:Obj),W.heap[b]?=some o->kg.heap[b]?=some o):=by
 have bQ:∀(b:Nat)(o:Obj),W.heap[b]?=some o->kg.heap[b]?=some o:=λb o aj=>h.mem b o (hle b o aj);refine⟨⟨h.frame.quiet.os,h.frame.quiet.out,λi ag=>?_⟩,λa aG=>?_,bQ⟩
 .have J:=xak ag;have aa:=bQ i _ J;rw[J,aa];split
  .rename_i aM a8;rw[aM]at a8;simp only[xaE,Obj.cells.injEq]at a8;obtain⟨rfl,rfl,rfl⟩:=a8;exact⟨rfl,rfl,rfl,λ_ _=>rfl⟩
  .rename_i aM a8;rw[aM]at a8;simp only[xaE,Obj.map.injEq]at a8;exact Or.inr ⟨a8.1.symm,a8.2.symm⟩
  rfl
 .unfold World.frozen?;have aj:=xak aG;rw[aj,bQ _ _ aj]
section
open DataW
def aoz{f:Func}{s:ChangeSpec}{apart fresh handsOn again:Bool}{W kg:World}{args:Array Value}{v:Value}{aR gs:List (DataW H)}{before pa pv:List MemPlace} (mq:DataW.Whole enc P f.params.toList s.vars apart W args.toList aR gs before) (vy:∀(b:Nat)(sp:Nat->Bool)(ay:Bool),DataW.TrodAll enc P kg b sp ay f.resultTypes.toList (v.resultList f.resultTypes.size) (s.fn H (aR++gs)).results []) (q2:∀sp:Nat->Bool,(∀p∈before,sp p.block=true)->DataW.TrodAll enc P kg 0 sp true f.params.toList args.toList (s.fn H (aR++gs)).args pa) (Hh:∀sp:Nat->Bool,(∀p∈before,sp p.block=true)->DataW.TrodVars enc P kg sp s.vars (s.fn H (aR++gs)).vars pv) (Hi:before=pa++pv) (ai:W.keptBut kg (·∈before)) (Dw:∀a:Addr,a.block<W.heap.size->kg.frozen? a=W.frozen? a) (bE:∀(j:Nat)(t:TypeId)(r:Value),f.resultTypes[j]?=some t->(v.resultList f.resultTypes.size)[j]?=some r->Value.okWide P kg .any 0 t r):s.post enc P f apart fresh handsOn again W args v kg:=by
 have b6:=mq.lt;refine⟨aR,gs,before,[],pa,pv,mq,vy _ _ _,q2 _ λp aU=>by simpa using b6 p aU,Hh _ λp aU=>by simpa using b6 p aU,World.keptBut_mono (λp aU=>⟨aU,?_⟩) ai,λ_=>?_⟩;.rw[Hi,xas]at aU;exact .inr aU
 obtain⟨_,_,_,_,_,bF,aN⟩:=mq;refine⟨bE,_,_,([]++pa)++pv,⟨[]++pa,pv,trodAll_append (q2 _ λ_ _=>rfl) (vy _ _ _),Hh _ λ_ _=>rfl,rfl,?_,?_⟩,?_⟩
 .intro b off aU;have ua:MemPlace.cell b off∈before:=by rw[Hi];simpa using aU
  rw[Dw _ (b6 _ ua)];exact bF b off ua
 .intro aG;have:=aN aG;rw[Hi]at this;simpa using this
 intro p aU _;rw[Hi];simpa using aU
end
def aoA{G:ds}{f:FuncId}{fn:Func}{s:ChangeSpec}{Fs:List ss}{tr:TypeId}{W:World}{base:Nat}{args:Array Value}{aR gs:List (DataW H)}{before:List MemPlace} (al:laidOutB P=true) (hm:mapsRowed P=true) (bF:((List.range P.types.size).all λt=>match P.underlying t with|some (.slice e)=>decide (0<P.cellsOf e)|_=>true)=true) (fC:Dv P Fs fn.params.toList) (vy:fn.resultTypes= #[tr]) (ic:P.underlying tr=some .bool) (Hh:s.vars=[]) (az:∀aR:List (DataW H),aR.length=Fs.length->s.fn H aR=⟨[.lit (.bool true)],aR,[]⟩) (gO:∀jO,su Fs aR jO->fv P G f jO (·=aK true)) (c0:kz G (λb:Nat=>W.heap[b]?)) {aa1:List TypeId} (aoB:aa1=[]) (k7:(DataW.weightsEach P (fn.params.toList++aa1) (aR++gs)).all (·<=reachBytes)=true) (ng:∀(j:Nat) t v,fn.params[j]?=some t->args[j]?=some v->Value.okWide P W .any base t v) (mq:DataW.Whole enc P fn.params.toList s.vars false W args.toList aR gs before):Calls P f args W λe kg=>∃v,e= .returned v/\s.post enc P fn false true false false W args v kg:=by
 have aa2:=mq;obtain⟨p,q,dm,ha,rfl,Dw,lT⟩:=mq;rw[Hh]at ha;obtain⟨rfl,rfl⟩:=trodVars_none ha;subst aoB;rw[xau,xau]at k7;obtain⟨jO,d1,d3⟩:=aa0 (λb=>W.heap[b]?) (λb o h=>h) fC k7 (λj t v aP aS=>ng j t v (by simpa using aP) (by simpa using aS)) dm;have ah:=(gO jO d1).run (λb=>W.heap[b]?) (M3 W) W args.toList c0 (aox W) d3;have bI:aR.length=Fs.length:=by
  have:∀(dN:List ss)(aR:List (DataW H)) (jO:List D),su dN aR jO->aR.length=dN.length:=by
   intro dN
   induction dN with
   |nil=>intro aR jO h;cases aR<;>cases jO<;>simp_all [su]
   |cons y dN ih=>
    intro aR jO h;cases aR with
    |nil=>cases jO<;>simp[su]at h
    |cons x aR=>cases jO with|nil=>simp[su]at h|cons d jO=>simp[ih aR jO h.2]
  exact this _ _ _ d1
 refine ah.mono λe kg ⟨v,cB,r,he,av,hle,cQ,aS⟩=>?_;subst av;have Ag:v= .bool true:=by cases aS;rfl
 subst Ag;obtain⟨cN,ea,lv⟩:=aoy hle cQ;have b6:=aa2.lt;refine⟨_,he,?_⟩;have xO:=az (aR++[]) (by simpa using bI);simp only[xau]at xO;refine aoz (pa:=p) (pv:=[]) aa2 (λb sp ay=>?_) (λsp gF=>?_) (λsp gF=>?_) rfl (World.keptBut_mono (λ_ h=>h.elim) cN) ea (ok_one vy rfl (okWide_bool_mk ic _))
 .rw[xau,xO,vy];exact trodAll_cons_mk (shut_bool ic true) trodAll_mk0
 .rw[xau,xO];exact again lv al hm bF fC.lt dm (λx ad=>b6 x (by simpa using ad)) (λx ad=>gF x (by simpa using ad))
 rw[xau,xO,Hh];rfl
def aa3{W:World}:∀(laid:List (String×DataW Unit)) (gs:List (Nat×TypeId×eH×List D)) (iT:List MemPlace),DataW.LaidVars P W laid iT->gs.length=laid.length->(∀(i:Nat) x g,laid[i]?=some x->gs[i]?=some g->P.globalNamed x.1=some g.1/\(P.globals[g.1]?).map (·.type)=some g.2.1/\eQ P g.2.2.1 g.2.1=true/\rd g.2.2.1 x.2=some g.2.2.2/\ue g.2.2.1=true/\(x.2.weights P g.2.1).all (·<=reachBytes)=true)-> ∀g∈gs,∃vs T eD,W.heap[g.1]?=some (.cells vs T eD)/\Rel (λb=>W.heap[b]?) g.2.2.2 vs.toList
 |[],[],_,_,_,_,g,bL=>by simp at bL
 |(lU,x)::laid,y::gs,iT,h,al,ad,g,bL=>by
  obtain⟨r6,t,cs,fuel,p,q,J,aa,ax,bj,ca,_⟩:=h;rcases xam.1 bL with rfl|bL
  .obtain⟨a2,a3,a4,a5,jN,mr⟩:=ad 0 _ _ rfl rfl;have aM:=xba (a2.symm.trans J);subst aM;have a8:=xba (a3.symm.trans aa);subst a8;obtain⟨aR,fH,_,kH⟩:=aaW (λb=>W.heap[b]?) (λb o h=>h) fuel _ _ _ _ a4 (xS _ _ jN) mr bj;have b0:=xba (a5.symm.trans fH);unfold World.var? at ax;rw[J]at ax;simp only[Option.bind_some]at ax;split at ax
   .rename_i nw T eD bQ;cases ax;exact⟨_,T,eD,bQ,by rw[b0];exact kH⟩
   cases ax
  exact aa3 laid gs q ca (by simpa using al) (λi x g eE aoC=>ad (i+1) x g (by simpa using eE) (by simpa using aoC)) g bL
 |[],_::_,_,_,h,_,_,_=>by simp at h|_::_,[],_,_,h,_,_,_=>by simp at h
def aoD{G:ds}{W:World}(gs:List (Nat×TypeId×eH×List D))(c0:∀g cs,G g=some cs->∃x∈gs,x.1=g/\x.2.2.2=cs) (h:∀g∈gs,∃vs T eD,W.heap[g.1]?=some (.cells vs T eD)/\Rel (λb=>W.heap[b]?) g.2.2.2 vs.toList):kz G (λb:Nat=>W.heap[b]?):=by
 intro g cs bL;obtain⟨x,ad,rfl,rfl⟩:=c0 g cs bL;obtain⟨vs,T,eD,J,aa⟩:=h x ad;refine⟨vs,T,eD,J,λj=>(vs[j]?).getD undef,?_,?_⟩
 .intro j c ah;obtain⟨v,bN,_,_⟩:=aa.at j c ah;have:vs[j]?=some v:=by simpa using bN
  simp[this]
 intro j c ah;obtain⟨v,bN,_,bO⟩:=aa.at j c ah;have:vs[j]?=some v:=by simpa using bN
 simpa[this]using bO
end
def aa4:eH:= .struct [.str,.bool,.int .i64,.int .i64]
def M4:eH:= .slice 4 40 aa4
def M5:eH:= .slice 1 8 (.int .i64)
def M6:eH:= .slice 1 1 .bool
def pV{α:Type}(f:α->List D)(Q:α->Prop):∀(es:List (List D)),(∀x∈es,∃y,x=f y/\Q y)->∃l:List α,es=l.map f/\∀y∈l,Q y
 |[],_=>⟨[],rfl,by simp⟩|x::es,h=>by obtain⟨y,rfl,aH⟩:=h x (by simp);obtain⟨l,rfl,al⟩:=pV f Q es λx ad=>h x (by simp[ad]);exact⟨y::l,rfl,by intro z bF;rcases xam.1 bF with rfl|bF;exact aH;exact al z bF⟩
def aoE{n:Int}(h:(Lit.int .i64 n).wf=true):mX n:=by have:=Go.bounds_i64 h;exact this
theorem Ah{x:List D}(h:nf (.int .i64) x):∃n,x=[I n]/\mX n:=by obtain⟨n,rfl,aN⟩:=h;exact⟨n,rfl,aoE aN⟩
def M7{x:List D}(h:nf .str x):∃s,x=[a6 s]/\s.size<=140737488351232:=h
def aa5{x:List D}(h:nf .bool x):∃b,x=[aK b]:=h
def aoF{x:List D}(h:nf aa4 x):∃v:V,x=v.cells/\V.ok v:=by obtain⟨a,b,rfl,aG,c,d,rfl,ah,e,f,rfl,he,g,i,rfl,bL,rfl⟩:=h;obtain⟨s,rfl,az⟩:=M7 aG;obtain⟨q,rfl⟩:=aa5 ah;obtain⟨lo,rfl,gZ⟩:=Ah he;obtain⟨ag,rfl,xz⟩:=Ah bL;exact⟨⟨s,q,lo,ag⟩,rfl,gZ,xz,by simp only;omega⟩
def aoG{k b:Nat}{d:D}{e:eH}(h:nf (.slice k b e) [d]):∃es,d= .aW k es/\es.length*b<=140737488351232/\∀x∈es,nf e x:=by obtain⟨es,he,_,J,aa⟩:=h;cases he;exact⟨es,rfl,J,λx ad=>(aa x ad).2⟩
def aoH{d:D}(h:Ae M6 d):∃l:List Bool,d=Y9 l/\l.length<=140737488351232:=by
 obtain⟨es,rfl,J,aa⟩:=aoG h;obtain⟨l,rfl,al⟩:=pV (λn=>[aK n]) (λ_=>True) es λx ad=>by obtain⟨b,aj⟩:=aa5 (aa x ad);exact⟨b,aj,trivial⟩
 exact⟨l,rfl,by simpa using J⟩
abbrev de:D:= .val (.slice none 0 0)
def cH(k:Nat)(nl:Bool)(es:List (List D)):D:=if nl&&es.isEmpty then de else .aW k es
section
variable{k:Nat}{nl:Bool}{es:List (List D)}
def aoI:cH k false es= .aW k es:=by simp[cH]
@[simp] theorem aa6:fW (cH k nl es)=some (I es.length):=by
 unfold cH;split;.rename_i h;simp at h;simp[h.2,I,fW]
 rfl
@[simp] theorem aoJ:bV (cH k nl es)=true:=by unfold cH;split<;>rfl
@[simp] theorem aoK:(cH k nl es).one=true:=by unfold cH;split<;>rfl
def S6{i:Nat}:b3 k (cH k nl es) (I (i:Int))=es[i]?:=by
 unfold cH;split;.rename_i h;simp at h;simp[h.2,I,b3]
 simp
@[simp] theorem aDC:ri (cH k nl es)=some (if nl&&es.isEmpty then(0,[])else(k,es)):=by unfold cH;split<;>rfl
end
inductive Tm where
 |mk (op n:Int) (name:ByteArray) (nl:Bool) (bf:List Tm)
namespace Tm
def op:Tm->Int| .mk o _ _ _ _=>o
def num:Tm->Int| .mk _ n _ _ _=>n
def name:Tm->ByteArray| .mk _ _ s _ _=>s
def nl:Tm->Bool| .mk _ _ _ b _=>b
def bf:Tm->List Tm| .mk _ _ _ _ l=>l
mutual
def cells:Tm->List D
 | .mk o n s b ks=>[I o,I n,a6 s,cH 4 b (rows ks)]
def rows:List Tm->List (List D)
 |[]=>[]|t::r=>cells t::rows r
end
def d(t:Tm):D:= .agg t.cells
mutual
def bC:Tm->Nat
 | .mk _ _ _ _ ks=>2+fa ks
def fa:List Tm->Nat
 |[]=>0|t::r=>1+bC t+fa r
end
def kh:∀l:List Tm,rows l=l.map cells
 |[]=>rfl|t::r=>by simp[rows,kh r]
@[simp] theorem Dx {l:List Tm}:(rows l).length=l.length:=by simp[kh]
def M8{l:List Tm}{i:Nat}{t:Tm}(h:l[i]?=some t):(rows l)[i]?=some t.cells:=by simp[kh,h]
def h4{l:List Tm}{b:Bool}{i:Nat}{t:Tm}(h:l[i]?=some t):b3 4 (cH 4 b (rows l)) (I (i:Int))=some t.cells:=by rw[S6,M8 h]
def Hj:∀l:List Tm,l.length<=fa l
 |[]=>xaU 0|t::r=>by simp only[fa,xan];have:=Hj r;omega
def Hk:∀{l:List Tm}{t:Tm},t∈l->bC t+1<=fa l
 |a::r,t,h=>by
  simp only[fa];rcases xam.1 h with rfl|h
  .omega
  have:=Hk h;omega
def ki{t k:Tm}(h:k∈t.bf):k.bC+3<=t.bC:=by cases t with|mk o n s b ks=>simp only[bC];have:=Hk (show k∈ks from h);omega
def mu{t:Tm}:t.bf.length+2<=t.bC:=by cases t with|mk o n s b ks=>simp only[bC];have:=Hj ks;show ks.length+2<=_;omega
def ind{P:Tm->Prop}(h:∀t:Tm,(∀k∈t.bf,P k)->P t)(t:Tm):P t:=by
 have:∀(n:Nat)(t:Tm),t.bC<=n->P t:=by
  intro n
  induction n with
  |zero=>intro t aP;cases t;simp[bC]at aP
  |succ n ih=>intro t aP;exact h t λk ai=>ih k (by have:=ki ai;omega)
 exact this _ t (xaU _)
inductive Ok:Tm->Prop where
 |mk (o n:Int) (s:ByteArray) (b:Bool) (ks:List Tm) (aT:-9223372036854775808<=o/\o<=9223372036854775807) (aN:-9223372036854775808<=n/\n<=9223372036854775807) (az:s.size<=140737488355328) (al:ks.length*56<=140737488355328) (ai:∀k∈ks,Ok k):Ok (.mk o n s b ks)
def Ok.fO{t k:Tm}(h:Ok t)(ai:k∈t.bf):Ok k:=by cases h with|mk o n s b ks aT aN az al fs=>exact fs k ai
def Ok.len{t:Tm}(h:Ok t):t.bf.length*56<=140737488355328:=by cases h;assumption
theorem lV(t:Tm):t.cells=[I t.op,I t.num,a6 t.name,cH 4 t.nl (rows t.bf)]:=by cases t;rfl
theorem kj(t:Tm):t.d= .agg [I t.op,I t.num,a6 t.name,cH 4 t.nl (rows t.bf)]:=by cases t;rfl
@[simp] theorem oq (t:Tm):dO 4 t.d=true:=by rw[kj];simp
@[simp] theorem qC (t:Tm):ae t.d 0=I t.op:=by rw[kj];rfl
@[simp] theorem ug (t:Tm):ae t.d 1=I t.num:=by rw[kj];rfl
@[simp] theorem uh (t:Tm):ae t.d 2=a6 t.name:=by rw[kj];rfl
@[simp] theorem sw (t:Tm):ae t.d 3=cH 4 t.nl (rows t.bf):=by rw[kj];rfl
@[simp] theorem Hl (t:Tm):D.agg [I t.op,I t.num,a6 t.name,cH 4 t.nl (rows t.bf)]=t.d:=(kj t).symm
@[simp high] theorem S7 (t:Tm):bM true 4 0 t.cells=some t.d:=by rw[kj,lV];rfl
@[simp] theorem hb (t:Tm):t.cells[0]?=some (I t.op):=by rw[lV];rfl
@[simp] theorem iZ (t:Tm):t.cells[1]?=some (I t.num):=by rw[lV];rfl
@[simp] theorem aoL (t:Tm):t.cells[2]?=some (a6 t.name):=by rw[lV];rfl
@[simp] theorem aDD (t:Tm):t.cells[3]?=some (cH 4 t.nl (rows t.bf)):=by rw[lV];rfl
end Tm
def dy{β α σ:Type}{f:List D->Option (List D⊕β)}(l:List α)(S:Nat->σ->List D)(R:List α->σ->β)(Inv:Nat->σ->Prop) (ar:∀s,Inv l.length s->f (S l.length s)=some (.inr (R [] s))) (J:∀(i:Nat)(a:α)(s:σ),l[i]?=some a->i<l.length->Inv i s->(∃s',f (S i s)=some (.inl (S (i+1) s'))/\R (a::l.drop (i+1)) s=R (l.drop (i+1)) s'/\Inv (i+1) s')\/f (S i s)=some (.inr (R (a::l.drop (i+1)) s))): ∀(m i:Nat)(s:σ),Inv i s->l.length-i<m->i<=l.length->bJ f m (S i s)=some (R (l.drop i) s)
 |0,i,s,_,h,_=>absurd h (xaH _)
 |m+1,i,s,ag,hm,hle=>by
  rw[lx];by_cases h:i<l.length
  .have bL:=xab h;have e:l.drop i=l[i]::l.drop (i+1):=xaO h;rcases J i _ s bL h ag with⟨s',g1,g2,g3⟩|g1
   .rw[g1,e,g2];exact dy l S R Inv ar J m (i+1) s' g3 (by omega) h
   rw[g1,e];rfl
  have:i=l.length:=by omega
  subst this;rw[ar s ag,xcu (xaU _)];rfl
def M9(op:Int):op=1\/op=2\/op=3\/op=4\/op=5\/op=6\/op=7\/op=8\/op=9\/op=10\/op=11\/op=12\/op=13\/op=14\/op=15\/op=16\/op=17\/op=18\/(op<1\/op>18):=by omega
@[simp] theorem aDE {f:FuncId}:G6 f (.val (.func (.func f) #[] #[]))=true:=by simp[G6]
@[simp] theorem ot {f:FuncId} {cs:List D}:lu f (.fn (.func f) [] cs)=some cs:=by simp[lu]
def S8(a b:Int):k3 true [I a,I b]=some (I (if b>a then b else a)):=by simp[k3,rV,tz,I,pM]
def aa7(a b:Int):k3 false [I a,I b]=some (I (if b<a then b else a)):=by simp[k3,rV,tz,I,pM]
@[simp] theorem aa8 {b:Bool}:(aK b).flat=true:=rfl
@[simp] theorem aoM {b:Int}:(I b).flat=true:=rfl
@[simp] theorem aoN {b:ByteArray}:(a6 b).flat=true:=rfl
@[simp] theorem aDF {a:Int}:dB .neg (I a)=some (I (IntKind.i64.wrap (-a))):=by rw[<-Int.zero_sub];rfl
theorem aa9:(D.val (.bool false))=aK false:=rfl
theorem aba:(D.val (.int .i64 0))=I 0:=rfl
theorem abb:(D.val (.string ⟨#[]⟩))=a6 ⟨#[]⟩:=rfl
@[simp] theorem aoO (a b c:D):dO 3 (.agg [a,b,c])=(a.one&&(b.one&&c.one)):=by simp[dO]
@[simp] theorem aoP (a b c e:D):dO 4 (.agg [a,b,c,e])=(a.one&&(b.one&&(c.one&&e.one))):=by simp[dO]
@[simp] theorem aDG {a:D} {l:List D}:ae (.agg (a::l)) 0=a:=rfl
@[simp] theorem aDH {a b:D} {l:List D}:ae (.agg (a::b::l)) 1=b:=rfl
@[simp] theorem aDI {a b c:D} {l:List D}:ae (.agg (a::b::c::l)) 2=c:=rfl
@[simp] theorem aDJ {a b c e:D} {l:List D}:ae (.agg (a::b::c::e::l)) 3=e:=rfl
theorem cf{bt:Bool}{i:Nat}(h:i<1000000000000000000):bD bt .add (I (i:Int)) (I 1)=some (I ((i+1:Nat):Int)):=by rw[e9 (by omega) (by omega)];rfl
def mw{bt:Bool}{i:Int}(h:-9223372036854775809<=i)(bB:i<9223372036854775807):bD bt .add (I i) (I 1)=some (I (i+1)):=by rw[e9 (by omega) (by omega)]
section
variable{α β:Type}{c:Prop}[Decidable c]
@[simp] theorem aDK {a b:α}:(if c then(Sum.inl a:α⊕β)else Sum.inl b)=Sum.inl (if c then a else b):=by split<;>rfl
@[simp] theorem aDL {a b:β}:(if c then(Sum.inr a:α⊕β)else Sum.inr b)=Sum.inr (if c then a else b):=by split<;>rfl
@[simp] theorem aDM {a b:α} {l r:List α}:(if c then a::l else b::r)=(if c then a else b)::(if c then l else r):=by split<;>rfl
@[simp] theorem aDN {a b:Int}:(if c then I a else I b)=I (if c then a else b):=by split<;>rfl
@[simp] theorem aDO {a b:ByteArray}:(if c then a6 a else a6 b)=a6 (if c then a else b):=by split<;>rfl
@[simp] theorem S9 {a b:List D}:(if c then D.aZ a else D.aZ b)=D.aZ (if c then a else b):=by split<;>rfl
@[simp] theorem aDP {a b:List D}:(if c then D.agg a else D.agg b)=D.agg (if c then a else b):=by split<;>rfl
@[simp] theorem aDQ {f:List D->Option β} {x y:List D⊕β}:bo f (if c then x else y)=if c then bo f x else bo f y:=by split<;>rfl
@[simp] theorem aDR {x y:Option α} {f:α->Option β}:ab (if c then x else y) f=if c then ab x f else ab y f:=by split<;>rfl
end
section
variable{eZ:Type}{c:Prop}[Decidable c]
@[simp] theorem aDS {x y:D} {w:Bool} {p:Option D}:ec (if c then x else y) w p=if c then ec x w p else ec y w p:=by split<;>rfl
@[simp] theorem aDT {x y:D} {w:Bool} {p q:Option eZ}:zL (if c then x else y) w p q=if c then zL x w p q else zL y w p q:=by split<;>rfl
@[simp] theorem aDU {x y a b:D}:gW (if c then x else y) a b=if c then gW x a b else gW y a b:=by split<;>rfl
@[simp] theorem aDV {x y:D} {p q:Option eZ}:aJ (if c then x else y) p q=if c then aJ x p q else aJ y p q:=by split<;>rfl
@[simp] theorem aDW {x y:D} {o:UnOp}:dB o (if c then x else y)=if c then dB o x else dB o y:=by split<;>rfl
end
@[simp] theorem aDX {a b:Bool}:aK a=aK b↔a=b:=⟨λh=>by cases h;rfl,λh=>by rw[h]⟩
@[simp] theorem aDY {a b:Int}:I a=I b↔a=b:=⟨λh=>by cases h;rfl,λh=>by rw[h]⟩
@[simp] theorem aDZ {a b:ByteArray}:a6 a=a6 b↔a=b:=⟨λh=>by cases h;rfl,λh=>by rw[h]⟩
attribute [simp] aa9 aba abb
def mx(M:List (Value×D)):Prop:=∀e∈M,∃s,e.1= .string s
def gP:List (Value×D)->ByteArray->Option D
 |[],_=>none|(.string s,d)::r,x=>if s=x then some d else gP r x
 |_::r,x=>gP r x
def abc{e:Value×D}{M:List (Value×D)}(h:mx (e::M)):(∃s,e.1= .string s)/\mx M:=⟨h e (by simp),λx ad=>h x (by simp[ad])⟩
def abd(a b:ByteArray):Instr.sameNow .string (.string a) (.string b)=some (decide (b=a)):=by simp[Instr.sameNow,QL,eq_comm]
def abe{M:List (Value×D)}(h:mx M)(x:ByteArray):findD .string (.string x) M=some (gP M x):=by
 induction M with
 |nil=>rfl
 |cons e r ih=>
  obtain⟨⟨s,az⟩,av⟩:=abc h;obtain⟨k,d⟩:=e;simp only at az;subst az;simp only[findD,abd,gP];by_cases ad:s=x;.simp[ad]
  simp[ad,ih av]
def aoQ{M:List (Value×D)}(h:mx M)(x:ByteArray)(d:D):∃eR,rX .string (.string x) d M=some eR/\mx eR/\(∀y,gP eR y=if y=x then some d else gP M y)/\eR.length=M.length+(if(gP M x).isSome then 0 else 1):=by
 induction M with
 |nil=>exact⟨[(.string x,d)],rfl,by intro e he;simp at he;exact⟨x,by rw[he]⟩,λy=>by simp[gP,eq_comm],rfl⟩
 |cons e r ih=>
  obtain⟨⟨s,az⟩,av⟩:=abc h;obtain⟨k,d0⟩:=e;simp only at az;subst az;simp only[rX,abd,gP];by_cases ad:s=x
  .refine⟨(.string x,d)::r,by simp[ad],?_,λy=>?_,by simp[ad]⟩
   .intro e he;rcases xam.1 he with rfl|he
    .exact⟨x,rfl⟩
    exact av e he
   simp only[gP];by_cases aH:y=x;.simp[aH]
   have:¬x=y:=λh=>aH h.symm;subst ad;simp[aH,this]
  obtain⟨eR,J,aa,ax,bj⟩:=ih av;refine⟨(.string s,d0)::eR,by simp[ad,J],?_,λy=>?_,by simp[ad,bj];omega⟩
  .intro e he;rcases xam.1 he with rfl|he
   .exact⟨s,rfl⟩
   exact aa e he
  simp only[gP,ax y];by_cases aH:y=x;.subst aH;simp[ad]
  simp[aH]
theorem Dy{M:List (Value×D)}(h:mx M){z:Value}{x:ByteArray}:k4 .string z true M (a6 x)=some (match gP M x with|some d=> .aZ [d,aK true]|none=> .aZ [rW z,aK false]):=by simp only[k4,a6,abe h];cases gP M x<;>rfl
def Na{M:List (Value×D)}(h:mx M)(x:ByteArray)(d:D):∃eR,sg .string M (a6 x) d=some eR/\mx eR/\(∀y,gP eR y=if y=x then some d else gP M y)/\eR.length=M.length+(if(gP M x).isSome then 0 else 1):=aoQ h x d
def vQ(M:List (Value×D)):Prop:=∀e∈M,∃i,e.1= .int .i64 i
def nN:List (Value×D)->Int->Option D
 |[],_=>none|(.int .i64 s,d)::r,x=>if s=x then some d else nN r x
 |_::r,x=>nN r x
def abf{e:Value×D}{M:List (Value×D)}(h:vQ (e::M)):(∃s,e.1= .int .i64 s)/\vQ M:=⟨h e (by simp),λx ad=>h x (by simp[ad])⟩
def abg(a b:Int):Instr.sameNow (.int .i64) (.int .i64 a) (.int .i64 b)=some (decide (b=a)):=by
 by_cases h:a=b;.subst h;simp[Instr.sameNow]
 have bB:¬b=a:=λe=>h e.symm;simp[Instr.sameNow,h,bB]
def aoR{M:List (Value×D)}(h:vQ M)(x:Int):findD (.int .i64) (.int .i64 x) M=some (nN M x):=by
 induction M with
 |nil=>rfl
 |cons e r ih=>
  obtain⟨⟨s,az⟩,av⟩:=abf h;obtain⟨k,d⟩:=e;simp only at az;subst az;simp only[findD,abg,nN];by_cases ad:s=x;.simp[ad]
  simp[ad,ih av]
def aoS{M:List (Value×D)}(h:vQ M)(x:Int)(d:D):∃eR,rX (.int .i64) (.int .i64 x) d M=some eR/\vQ eR/\(∀y,nN eR y=if y=x then some d else nN M y)/\eR.length=M.length+(if(nN M x).isSome then 0 else 1):=by
 induction M with
 |nil=>exact⟨[(.int .i64 x,d)],rfl,by intro e he;simp at he;exact⟨x,by rw[he]⟩,λy=>by simp[nN,eq_comm],rfl⟩
 |cons e r ih=>
  obtain⟨⟨s,az⟩,av⟩:=abf h;obtain⟨k,d0⟩:=e;simp only at az;subst az;simp only[rX,abg,nN];by_cases ad:s=x
  .refine⟨(.int .i64 x,d)::r,by simp[ad],?_,λy=>?_,by simp[ad]⟩
   .intro e he;rcases xam.1 he with rfl|he
    .exact⟨x,rfl⟩
    exact av e he
   simp only[nN];by_cases aH:y=x;.simp[aH]
   have:¬x=y:=λh=>aH h.symm;subst ad;simp[aH,this]
  obtain⟨eR,J,aa,ax,bj⟩:=ih av;refine⟨(.int .i64 s,d0)::eR,by simp[ad,J],?_,λy=>?_,by simp[ad,bj];omega⟩
  .intro e he;rcases xam.1 he with rfl|he
   .exact⟨s,rfl⟩
   exact aa e he
  simp only[nN,ax y];by_cases aH:y=x;.subst aH;simp[ad]
  simp[aH]
theorem aoT{M:List (Value×D)}(h:vQ M){z:Value}{ok:Bool}{x:Int}:k4 (.int .i64) z ok M (I x)=some (match nN M x with|some d=>if ok then .aZ [d,aK true]else d|none=>if ok then .aZ [rW z,aK false]else rW z):=by simp only[k4,I,aoR h];cases nN M x<;>rfl
def aoU{M:List (Value×D)}(h:vQ M)(x:Int)(d:D):∃eR,sg (.int .i64) M (I x) d=some eR/\vQ eR/\(∀y,nN eR y=if y=x then some d else nN M y)/\eR.length=M.length+(if(nN M x).isSome then 0 else 1):=aoS h x d
def abh:∀x:List UInt8,Op.bytesLess x x=false
 |[]=>rfl|a::x=>by simp[Op.bytesLess,abh x]
def abi:∀x y z:List UInt8,Op.bytesLess x y=true->Op.bytesLess y z=true->Op.bytesLess x z=true
 |[],[],z,h,_=>by simp[Op.bytesLess]at h|[],b::y,[],_,h=>by simp[Op.bytesLess]at h|[],b::y,c::z,_,_=>rfl|a::x,[],z,h,_=>by simp[Op.bytesLess]at h|a::x,b::y,[],_,h=>by simp[Op.bytesLess]at h
 |a::x,b::y,c::z,J,aa=>by
  simp only[Op.bytesLess,xbk,xap,xaC,xbP,UInt8.lt_iff_toNat_lt]at*;rcases J with J|⟨rfl,J⟩
  .rcases aa with aa|⟨rfl,aa⟩;.exact .inl (by omega)
   exact .inl J
  rcases aa with aa|⟨rfl,aa⟩;.exact .inl aa
  exact .inr ⟨rfl,abi x y z J aa⟩
def abj:∀x y:List UInt8,Op.bytesLess x y=true\/x=y\/Op.bytesLess y x=true
 |[],[]=> .inr (.inl rfl)|[],b::y=> .inl rfl|a::x,[]=> .inr (.inr rfl)
 |a::x,b::y=>by
  simp only[Op.bytesLess,xbk,xap,xaC,xbP,UInt8.lt_iff_toNat_lt,xbA];by_cases J:a.toNat<b.toNat;.exact .inl (.inl J)
  by_cases aa:b.toNat<a.toNat;.exact .inr (.inr (.inl aa))
  have:a=b:=UInt8.toNat_inj.1 (by omega);subst this;rcases abj x y with h|h|h
  .exact .inl (.inr ⟨rfl,h⟩)
  .exact .inr (.inl ⟨rfl,h⟩)
  exact .inr (.inr (.inr ⟨rfl,h⟩))
def vR(x:ByteArray):blt x x=false:=abh _
def Ai{x y z:ByteArray}(h:blt x y=true)(bB:blt y z=true):blt x z=true:=abi _ _ _ h bB
def Ta(x y:ByteArray):blt x y=true\/x=y\/blt y x=true:=by
 rcases abj x.toList y.toList with h|h|h;.exact .inl h
 .exact .inr (.inl (XF h))
 exact .inr (.inr h)
def aoV(y x:ByteArray):(!(blt y x||decide (y=x)))=blt x y:=by
 rcases Ta x y with h|h|h
 .have J:blt y x=false:=by
   cases bU:blt y x with|false=>rfl|true=>have:=Ai h bU;rw[vR]at this;cases this
  have aa:y≠x:=by rintro rfl;rw[vR]at h;cases h
  simp[h,J,aa]
 .subst h;simp[vR]
 have J:blt x y=false:=by cases bU:blt x y with|false=>rfl|true=>have:=Ai h bU;rw[vR]at this;cases this
 simp[h,J]
def Nb{bt:Bool}{x y:ByteArray}:bD bt .gtr (a6 y) (a6 x)=some (aK (blt x y)):=by rw[SZ,aoV]
def kk:List ByteArray->Prop
 |[]=>True|a::r=>(∀b∈r,blt a b=true)/\kk r
def h5(s:ByteArray):List ByteArray->List ByteArray
 |[]=>[s]|a::r=>if a=s then a::r else if blt s a then s::a::r else a::h5 s r
def abk{s x:ByteArray}:∀{l:List ByteArray},x∈h5 s l->x=s\/x∈l
 |[],h=>by simp[h5]at h;exact .inl h
 |a::r,h=>by
  rw[h5]at h;split at h;.exact .inr h
  split at h
  .rcases xam.1 h with h|h;.exact .inl h
   exact .inr h
  rcases xam.1 h with h|h;.exact .inr (by simp[h])
  rcases abk h with h|h;.exact .inl h
  exact .inr (by simp[h])
def Hm{s:ByteArray}:∀{l:List ByteArray},kk l->kk (h5 s l)
 |[],_=>⟨by simp,trivial⟩
 |a::r,h=>by
  rw[h5];split;.exact h
  rename_i cp;split
  .rename_i b6;refine⟨λb aj=>?_,h⟩;rcases xam.1 aj with rfl|aj
   .exact b6
   exact Ai b6 (h.1 b aj)
  rename_i nO;refine⟨λb aj=>?_,Hm h.2⟩;rcases abk aj with rfl|aj
  .rcases Ta a b with J|J|J;.exact J
   .exact absurd J cp
   rw[J]at nO;exact absurd rfl nO
  exact h.1 b aj
def Tb{s:ByteArray}:∀{l:List ByteArray},kk l->s∈l->h5 s l=l
 |[],_,h=>by cases h
 |a::r,az,h=>by
  rw[h5];rcases xam.1 h with rfl|h
  .rw[xac rfl]
  have b6:=az.1 s h;have cp:¬a=s:=by rintro rfl;rw[vR]at b6;cases b6
  have nO:¬blt s a=true:=λbB=>by have:=Ai b6 bB;rw[vR]at this;cases this
  rw[xae cp,xae nO,Tb az.2 h]
def abl{s:ByteArray}:∀{l:List ByteArray},kk l->s∉l->∃a b,l=a++b/\h5 s l=a++s::b/\(∀x∈a,blt x s=true)/\(∀x∈b,blt s x=true)
 |[],_,_=>⟨[],[],rfl,rfl,by simp,by simp⟩
 |a::r,az,h=>by
  have cp:¬a=s:=λe=>h (by simp[e]);rw[h5,xae cp];by_cases al:blt s a=true
  .rw[xac al];exact⟨[],a::r,rfl,rfl,by simp,λx ad=>by
    rcases xam.1 ad with rfl|ad;.exact al
    exact Ai al (az.1 x ad)⟩
  rw[xae al];obtain⟨p,q,J,aa,ax,bj⟩:=abl (l:=r) (s:=s) az.2 (λhm=>h (xco _ hm));refine⟨a::p,q,by rw[J];rfl,by rw[aa];rfl,λx ad=>?_,bj⟩;rcases xam.1 ad with rfl|ad
  .rcases Ta x s with ca|ca|ca;.exact ca
   .exact absurd ca cp
   exact absurd ca al
  exact ax x ad
def Tc(s:ByteArray):∀{l:List ByteArray},kk l->∃a b,l=a++b/\(∀x∈a,blt s x=false)/\(∀x∈b,blt s x=true)/\(s∈l->∃cM,a=cM++[s])/\(s∉l->s∉a)/\(s∉l->h5 s l=a++s::b)
 |[],_=>⟨[],[],rfl,by simp,by simp,by simp,by simp,λ_=>rfl⟩
 |c::r,az=>by
  by_cases hm:s∈c::r
  .by_cases ah:c=s;.subst ah;refine⟨[c],r,rfl,by simp[vR],az.1,λ_=>⟨[],rfl⟩,λh=>absurd hm h,λh=>absurd hm h⟩
   have av:s∈r:=(xam.1 hm).resolve_left λh=>ah h.symm;obtain⟨a,b,J,aa,ax,bj,ca,cR⟩:=Tc s az.2;obtain⟨cM,zF⟩:=bj av;refine⟨c::a,b,by rw[J];rfl,?_,ax,λ_=>⟨c::cM,by rw[zF];rfl⟩,λh=>absurd hm h,λh=>absurd hm h⟩;intro x ad;rcases xam.1 ad with rfl|ad
   .have b6:=az.1 s av;cases bU:blt s x with|false=>rfl|true=>have:=Ai b6 bU;rw[vR]at this;cases this
   exact aa x ad
  obtain⟨a,b,J,aa,ax,bj⟩:=abl az hm;refine⟨a,b,J,λx ad=>?_,bj,λh=>absurd h hm,λ_ aG=>hm (by rw[J];simp[aG]),λ_=>aa⟩;have b6:=ax x ad;cases bU:blt s x with|false=>rfl|true=>have:=Ai b6 bU;rw[vR]at this;cases this
def Hn{s:ByteArray}:∀(l:List ByteArray),(h5 s l).length<=l.length+1
 |[]=>by simp[h5]
 |a::r=>by
  rw[h5];split;.simp
  split;.simp
  have:=Hn (s:=s) r;simp;omega
def j3:Nat->eH
 |0=> .stop|n+1=> .struct [.int .i64,.int .i64,.str,.slice 4 56 (j3 n)]
def Dz:∀(n m:Nat),m<=2*n->(j3 n).h3 m=true
 |0,m,h=>by
         have:m=0:=by omega
         subst this;rfl
 |n+1,0,_=>rfl|n+1,1,_=>rfl|n+1,m+2,h=>by have:=Dz n m (by omega);simp only[j3,eH.h3,rp,this,xbw]
def Nc{P:Program}{t s:TypeId}(J:∀y,eQ P (.struct [.int .i64,.int .i64,.str,y]) t=(eQ P y s&&true))(aa:∀y,eQ P (.slice 4 56 y) s=eQ P y t):∀n,eQ P (j3 n) t=true
 |0=>rfl|n+1=>by rw[j3,J,aa,Nc J aa n];rfl
theorem aoW{P:Program}{t s:TypeId}(J:∀y,eQ P (.struct [.int .i64,.int .i64,.str,y]) t=(eQ P y s&&true))(aa:∀y,eQ P (.slice 4 56 y) s=eQ P y t)(al:decide (t<P.types.size)=true):uf P j3 t:=⟨λn=>Dz n n (by omega),Nc J aa,xbf al,λn=>by cases n<;>rfl⟩
def Aj:∀(n:Nat){x:List D},nf (j3 n) x->∃t:Tm,x=t.cells/\t.Ok
 |0,x,h=>h.elim|n+1,x,h=>by obtain⟨a,b,rfl,aG,c,d,rfl,ah,e,f,rfl,he,g,i,rfl,bL,rfl⟩:=h;obtain⟨op,rfl,eb⟩:=Ah aG;obtain⟨nn,rfl,jF⟩:=Ah ah;obtain⟨s,rfl,az⟩:=M7 he;obtain⟨es,rfl,_,al,lR⟩:=bL;obtain⟨ks,rfl,eP⟩:=pV Tm.cells Tm.Ok es λx ad=>Aj n (lR x ad).2;refine⟨.mk op nn s false ks,?_,.mk _ _ _ _ _ eb jF (by omega) (by simpa using xbK al (by omega)) eP⟩;simp[Tm.cells,Tm.kh,cH]
def Td{H:Type}{F:ss}{Fs:List ss}{xs:List (DataW H)}{aR:List D}(h:su (F::Fs) xs aR):∃x Lm d CP n,xs=x::Lm/\aR=d::CP/\Af (F n) x d/\Ae (F n) d/\su Fs Lm CP:=by
 cases xs with
 |nil=>cases aR<;>exact h.elim
 |cons x xs=>cases aR with|nil=>exact h.elim|cons d aR=>obtain⟨⟨n,J,aa⟩,ax⟩:=h;exact⟨x,xs,d,aR,n,rfl,rfl,J,aa,ax⟩
def aoX{H:Type}{xs:List (DataW H)}{aR:List D}(h:su [] xs aR):xs=[]/\aR=[]:=by cases xs<;>cases aR<;>first|exact⟨rfl,rfl⟩|exact h.elim
@[simp] theorem aD0 (a:D):dO 1 (.agg [a])=a.one:=by simp[dO]
@[simp] theorem aoY (a b:D):dO 2 (.agg [a,b])=(a.one&&b.one):=by simp[dO]
@[simp] theorem aoZ (a b c d e:D):dO 5 (.agg [a,b,c,d,e])=(a.one&&(b.one&&(c.one&&(d.one&&e.one)))):=by simp[dO]
@[simp] theorem ao0 (a b c d e f:D):dO 6 (.agg [a,b,c,d,e,f])=(a.one&&(b.one&&(c.one&&(d.one&&(e.one&&f.one))))):=by simp[dO]
@[simp] theorem abm (a b c d e f g:D):dO 7 (.agg [a,b,c,d,e,f,g])=(a.one&&(b.one&&(c.one&&(d.one&&(e.one&&(f.one&&g.one)))))):=by simp[dO]
@[simp] theorem ao1 (a b c d e f g h:D):dO 8 (.agg [a,b,c,d,e,f,g,h])=(a.one&&(b.one&&(c.one&&(d.one&&(e.one&&(f.one&&(g.one&&h.one))))))):=by simp[dO]
@[simp] theorem aD1 {a b c e f:D} {l:List D}:ae (.agg (a::b::c::e::f::l)) 4=f:=rfl
@[simp] theorem aD2 {a b c e f g:D} {l:List D}:ae (.agg (a::b::c::e::f::g::l)) 5=g:=rfl
@[simp] theorem aD3 {a b c e f g h:D} {l:List D}:ae (.agg (a::b::c::e::f::g::h::l)) 6=h:=rfl
@[simp] theorem aD4 {a b c e f g h i:D} {l:List D}:ae (.agg (a::b::c::e::f::g::h::i::l)) 7=i:=rfl
theorem ao2{β:Type}{x y:Bool}{f:D->Option β}:ab (ec (aK x) true (some (aK y))) (λv=>ab (gW (aK x) v (aK false)) f)=f (aK (x&&y)):=by cases x<;>rfl
theorem ao3{β:Type}{x y:Bool}{f:D->Option β}:ab (ec (aK x) false (some (aK y))) (λv=>ab (gW (aK x) (aK true) v) f)=f (aK (x||y)):=by cases x<;>rfl
inductive Fm where
 |mk (op:Int) (e:Tm) (nl:Bool) (bf:List Fm)
def fQ:Tm:= .mk 0 0 ⟨#[]⟩ true []
def Te:fQ.Ok:= .mk _ _ _ _ _ (by omega) (by omega) (by decide) (by simp) (by simp)
theorem Nd:fQ.d=D.agg [I 0,I 0,a6 ⟨#[]⟩,D.val (.slice none 0 0)]:=rfl
namespace Fm
def op:Fm->Int| .mk o _ _ _=>o
def e:Fm->Tm| .mk _ t _ _=>t
def nl:Fm->Bool| .mk _ _ b _=>b
def bf:Fm->List Fm| .mk _ _ _ l=>l
mutual
def cells:Fm->List D
 | .mk o t b ks=>[I o,I t.op,I t.num,a6 t.name,cH 4 t.nl (Tm.rows t.bf),cH 6 b (rows ks)]
def rows:List Fm->List (List D)
 |[]=>[]|t::r=>cells t::rows r
end
def d(t:Fm):D:= .agg t.cells
mutual
def bC:Fm->Nat
 | .mk _ t _ ks=>2+t.bC+fa ks
def fa:List Fm->Nat
 |[]=>0|t::r=>1+bC t+fa r
end
def kh:∀l:List Fm,rows l=l.map cells
 |[]=>rfl|t::r=>by simp[rows,kh r]
@[simp] theorem Dx {l:List Fm}:(rows l).length=l.length:=by simp[kh]
def M8{l:List Fm}{i:Nat}{t:Fm}(h:l[i]?=some t):(rows l)[i]?=some t.cells:=by simp[kh,h]
def h4{l:List Fm}{b:Bool}{i:Nat}{t:Fm}(h:l[i]?=some t):b3 6 (cH 6 b (rows l)) (I (i:Int))=some t.cells:=by rw[S6,M8 h]
def Hj:∀l:List Fm,l.length<=fa l
 |[]=>xaU 0|t::r=>by simp only[fa,xan];have:=Hj r;omega
def Hk:∀{l:List Fm}{t:Fm},t∈l->bC t+1<=fa l
 |a::r,t,h=>by
  simp only[fa];rcases xam.1 h with rfl|h
  .omega
  have:=Hk h;omega
theorem Ho(t:Fm):t.bC=2+t.e.bC+fa t.bf:=by cases t;rfl
def ki{t k:Fm}(h:k∈t.bf):k.bC+3<=t.bC:=by have:=Hk h;have:=Ho t;omega
def mu{t:Fm}:t.bf.length+2<=t.bC:=by have:=Hj t.bf;have:=Ho t;omega
def Hp{t:Fm}:t.e.bC+2<=t.bC:=by have:=Ho t;omega
def ind{P:Fm->Prop}(h:∀t:Fm,(∀k∈t.bf,P k)->P t)(t:Fm):P t:=by
 have:∀(n:Nat)(t:Fm),t.bC<=n->P t:=by
  intro n
  induction n with
  |zero=>intro t aP;cases t;simp[bC]at aP
  |succ n ih=>intro t aP;exact h t λk ai=>ih k (by have:=ki ai;omega)
 exact this _ t (xaU _)
inductive Ok:Fm->Prop where
 |mk (o:Int) (t:Tm) (b:Bool) (ks:List Fm) (aT:-9223372036854775808<=o/\o<=9223372036854775807) (aP:t.Ok) (al:ks.length*88<=140737488355328) (ai:∀k∈ks,Ok k):Ok (.mk o t b ks)
def Ok.fO{t k:Fm}(h:Ok t)(ai:k∈t.bf):Ok k:=by cases h with|mk o n s b ks aT aN az=>exact az k ai
def Ok.len{t:Fm}(h:Ok t):t.bf.length*88<=140737488355328:=by cases h;assumption
def Ok.e{t:Fm}(h:Ok t):t.e.Ok:=by cases h;assumption
def Ok.op{t:Fm}(h:Ok t):-9223372036854775808<=t.op/\t.op<=9223372036854775807:=by cases h;assumption
theorem lV(t:Fm):t.cells=[I t.op,I t.e.op,I t.e.num,a6 t.e.name,cH 4 t.e.nl (Tm.rows t.e.bf),cH 6 t.nl (rows t.bf)]:=by cases t;rfl
theorem kj(t:Fm):t.d= .agg [I t.op,I t.e.op,I t.e.num,a6 t.e.name,cH 4 t.e.nl (Tm.rows t.e.bf),cH 6 t.nl (rows t.bf)]:=by cases t;rfl
@[simp] theorem oq (t:Fm):dO 6 t.d=true:=by rw[kj];simp
@[simp] theorem qC (t:Fm):ae t.d 0=I t.op:=by rw[kj];rfl
@[simp] theorem ug (t:Fm):ae t.d 1=I t.e.op:=by rw[kj];rfl
@[simp] theorem uh (t:Fm):ae t.d 2=I t.e.num:=by rw[kj];rfl
@[simp] theorem sw (t:Fm):ae t.d 3=a6 t.e.name:=by rw[kj];rfl
@[simp] theorem ao4 (t:Fm):ae t.d 4=cH 4 t.e.nl (Tm.rows t.e.bf):=by rw[kj];rfl
@[simp] theorem ao5 (t:Fm):ae t.d 5=cH 6 t.nl (rows t.bf):=by rw[kj];rfl
@[simp] theorem Hl (t:Fm):D.agg [I t.op,I t.e.op,I t.e.num,a6 t.e.name,cH 4 t.e.nl (Tm.rows t.e.bf),cH 6 t.nl (rows t.bf)]=t.d:=(kj t).symm
@[simp high] theorem S7 (t:Fm):bM true 6 0 t.cells=some t.d:=by rw[kj,lV];rfl
end Fm
attribute [go_sem] dQ rm mo qB sr ao2 ao3 G9 MX pU Ds Dt Ac SY aaU aoo Du rn G8 SQ SR aob aoc aod aoJ aoe aof aog aoh aoi aoK aoj SS xbC xcr an8 aok aa6 aol aom aaS xbw xbs Bool.and_self xaG xaI Bool.not_true xcg xar aa8 aoM aoN Bool.or_true Bool.true_or aoY aoO aoP aoZ ao0 abm ao1 aa9 aba abb aoa an9 Tm.oq Tm.qC Tm.ug Tm.uh Tm.sw Tm.Hl Tm.S7 Tm.Dx Fm.oq Fm.qC Fm.ug Fm.uh Fm.sw Fm.ao4 Fm.ao5 Fm.Hl Fm.S7 Fm.Dx
def nh:Nat->eH
 |0=> .stop|n+1=> .struct [.int .i64,j3 (n+1),.slice 6 88 (nh n)]
def Tf:∀(n m:Nat),m<=2*n->(nh n).h3 m=true
 |0,m,h=>by
         have:m=0:=by omega
         subst this;rfl
 |n+1,0,_=>rfl|n+1,1,_=>by simp[nh,eH.h3,rp]|n+1,m+2,h=>by have:=Tf n m (by omega);have aa:=Dz (n+1) (m+1) (by omega);simp only[nh,eH.h3,rp,this,aa,xbw]
def abn{P:Program}{t s r q:TypeId}(J:∀y z,eQ P (.struct [.int .i64,y,z]) t=(eQ P y r&&(eQ P z s&&true)))(aa:∀y,eQ P (.slice 6 88 y) s=eQ P y t)(ax:∀n,eQ P (j3 n) r=true):∀n,eQ P (nh n) t=true
 |0=>rfl|n+1=>by rw[nh,J,aa,abn (q:=q) J aa ax n,ax];rfl
theorem ao6{P:Program}{t s r q:TypeId}(J:∀y z,eQ P (.struct [.int .i64,y,z]) t=(eQ P y r&&(eQ P z s&&true)))(aa:∀y,eQ P (.slice 6 88 y) s=eQ P y t) (ax:∀y,eQ P (.struct [.int .i64,.int .i64,.str,y]) r=(eQ P y q&&true)) (bj:∀y,eQ P (.slice 4 56 y) q=eQ P y r) (al:decide (t<P.types.size)=true):uf P nh t:=⟨λn=>Tf n n (by omega),abn (q:=q) J aa (Nc ax bj),xbf al,λn=>by cases n<;>rfl⟩
def abo:∀(n:Nat){x:List D},nf (nh n) x->∃t:Fm,x=t.cells/\t.Ok
 |0,x,h=>h.elim|n+1,x,h=>by obtain⟨a,b,rfl,aG,c,d,rfl,ah,g,i,rfl,bL,rfl⟩:=h;obtain⟨op,rfl,eb⟩:=Ah aG;obtain⟨t,rfl,aP⟩:=Aj (n+1) ah;obtain⟨es,rfl,_,al,lR⟩:=bL;obtain⟨ks,rfl,eP⟩:=pV Fm.cells Fm.Ok es λx ad=>abo n (lR x ad).2;refine⟨.mk op t false ks,?_,.mk _ _ _ _ eb aP (by simpa using xbK al (by omega)) eP⟩;simp[Fm.cells,Fm.kh,cH,Tm.lV]
structure bA where
 name:ByteArray
 e:Tm
def bA.cells(d:bA):List D:=[a6 d.name,I d.e.op,I d.e.num,a6 d.e.name,cH 4 d.e.nl (Tm.rows d.e.bf)]
def bA.d(d:bA):D:= .agg d.cells
def aY(l:List bA):D:= .aW 5 (l.map bA.cells)
def bA.Ok(d:bA):Prop:=d.name.size<=140737488351232/\d.e.Ok
section
variable{l:List bA}{i:Nat}{d:bA}
def fR(h:l[i]?=some d):b3 5 (aY l) (I (i:Int))=some d.cells:=by simp[aY,h]
def eV(l:List bA):fW (aY l)=some (I l.length):=by simp[aY]
@[simp] theorem bA.ao7 (d:bA):bM true 5 0 d.cells=some d.d:=rfl
@[simp] theorem bA.iZ (d:bA):bM true 4 1 d.cells=some d.e.d:=by rw[Tm.kj];rfl
@[simp] theorem bA.hb (d:bA):bM false 1 0 d.cells=some (a6 d.name):=rfl
@[simp] theorem bA.agg (d:bA):dO 5 d.d=true:=by unfold bA.d bA.cells;simp
@[simp] theorem bA.bc (d:bA):ae d.d 0=a6 d.name:=rfl
@[simp] theorem bA.c1 (d:bA):ae d.d 1=I d.e.op:=rfl
@[simp] theorem bA.c2 (d:bA):ae d.d 2=I d.e.num:=rfl
@[simp] theorem bA.b8 (d:bA):ae d.d 3=a6 d.e.name:=rfl
@[simp] theorem bA.c3 (d:bA):ae d.d 4=cH 4 d.e.nl (Tm.rows d.e.bf):=rfl
end
def dz(l:List bA)(x:ByteArray):Option Nat:=l.findIdx? (λd=>decide (d.name=x))
def Tg{l:List bA}{x:ByteArray}{i:Nat}(h:dz l x=some i):∃d,l[i]?=some d/\d.name=x/\i<l.length:=by obtain⟨J,aa,_⟩:=xbv.1 h;exact⟨_,xab J,by simpa using aa,J⟩
def di(l:List Nat):D:= .aW 1 (l.map λ(i:Nat)=>[I (i:Int)])
def vS{l:List Nat}{i k:Nat}(h:l[i]?=some k):b3 1 (di l) (I (i:Int))=some [I (k:Int)]:=by simp[di,h]
def qD(l:List Nat):fW (di l)=some (I l.length):=by simp[di]
def ie(l:List (List Nat)):D:= .aW 1 (l.map λx=>[di x])
def ao8{l:List (List Nat)}{i:Nat}{k:List Nat}(h:l[i]?=some k):b3 1 (ie l) (I (i:Int))=some [di k]:=by simp[ie,h]
def b9(M:List (Value×D))(S:List Nat):Prop:=vQ M/\∀i:Nat,nN M (i:Int)=if i∈S then some (aK true)else none
theorem b9.nil:b9 [] []:=⟨by(intro e he;cases he),λi=>rfl⟩
def b9.look{M:List (Value×D)}{S:List Nat}(h:b9 M S){i:Nat}{z:Value}:k4 (.int .i64) (.bool false) false M (I (i:Int))=some (aK (decide (i∈S))):=by rw[aoT h.1,h.2 i];by_cases ag:i∈S<;>simp[ag,rW]
def b9.put{M:List (Value×D)}{S:List Nat}(h:b9 M S)(i:Nat):∃eR,sg (.int .i64) M (I (i:Int)) (aK true)=some eR/\b9 eR (if i∈S then S else S++[i]):=by
 obtain⟨eR,J,aa,ax,_⟩:=aoU h.1 (i:Int) (aK true);refine⟨eR,J,aa,λj=>?_⟩;rw[ax,h.2];by_cases aA:j=i;.subst aA;by_cases ag:j∈S<;>simp[ag]
 have:¬((j:Int)=(i:Int)):=by omega
 by_cases ag:i∈S<;>simp[this,ag,aA]
def b9.mem{M:List (Value×D)}{S T:List Nat}(h:b9 M S)(ft:∀x,x∈S↔x∈T):b9 M T:=⟨h.1,λi=>by rw[h.2];simp only[ft i]⟩
def xT(n:Nat):eH:= .slice 5 72 (.struct [.str,j3 n])
def abp(n:Nat):∀m,m<=n->(xT n).h3 m=true
 |0,_=>rfl|1,_=>by simp[xT,eH.h3]|m+2,h=>by have:=Dz n m (by omega);have:=Dz n (m+1) (by omega);have aa:eH.h3 m .str=true:=xS m .str rfl;simp only[xT,eH.h3,rp, *,xbw]
theorem ao9{P:Program}{t r q:TypeId}(J:∀y,eQ P (.slice 5 72 (.struct [.str,y])) t=(eQ P y r&&true)) (ax:∀y,eQ P (.struct [.int .i64,.int .i64,.str,y]) r=(eQ P y q&&true)) (bj:∀y,eQ P (.slice 4 56 y) q=eQ P y r) (al:decide (t<P.types.size)=true):uf P xT t:=⟨λn=>abp n n (xaU _),λn=>by rw[xT,J,Nc ax bj n];rfl,xbf al,λn=>rfl⟩
def abq{n:Nat}{x:List D}(h:nf (.struct [.str,j3 n]) x):∃d:bA,x=d.cells/\d.Ok:=by obtain⟨a,b,rfl,aG,c,e,rfl,ah,rfl⟩:=h;obtain⟨s,rfl,az⟩:=M7 aG;obtain⟨t,rfl,aP⟩:=Aj n ah;exact⟨⟨s,t⟩,by simp[bA.cells,Tm.lV],az,aP⟩
end Go.Am
