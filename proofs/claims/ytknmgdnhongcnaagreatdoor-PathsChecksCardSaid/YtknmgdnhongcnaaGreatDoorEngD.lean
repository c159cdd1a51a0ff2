/- From what a call is handed to data, and from an answer to the row. No condition. -/
import Derived.Test.YtknmgdnhongcnaaGreatDoorEngC
import Derived.ProofKit
import Derived.OpenShut
import Derived.KernelRfl
import Derived.Deep.DeepHandedRow
import Derived.Lib.LaidTab
import Derived.Test.YtknmgdnhongcnaaGreatDoorEngS
set_option linter.all false
set_option linter.unnecessarySimpa false
namespace Go.Am
open Go.ChangeShapes Go.WideShapes Go.ChangeAt Go.RowKit
inductive eY where
 |bool
 |int (k:IntKind)
 |str
 |slice (k bytes:Nat) (e:eY)
 |arr (n:Nat) (e:eY)
 |struct (dw:List eY)
 |stop
mutual
def mB:eY->List D->Prop
 | .bool,aM=>∃b,aM=[ax b]| .int k,aM=>∃n,aM=[.val (.int k n)]/\(Lit.int k n).wf=true| .str,aM=>∃s,aM=[aI s]/\s.size<=140737488351232| .slice k HW e,aM=>∃es:List (List D),aM=[.aE k es]/\es.length<=maxLen/\es.length*HW<=140737488351232/\∀x∈es,x.length=k/\mB e x| .arr n e,aM=>∃jS:List (List D),aM=jS.flatten/\jS.length=n/\∀x∈jS,mB e x| .struct dw,aM=>NL dw aM| .stop,_=>False
def NL:List eY->List D->Prop
 |[],aM=>aM=[]|f::dw,aM=>∃a b,aM=a++b/\mB f a/\NL dw b
end
mutual
def rd{H:Type}:eY->DataW H->Option (List D)
 | .bool,.lit (.bool b)=>some [ax b]| .int _,.lit (.int k n)=>some [.val (.int k n)]| .str,.lit (.string l)=>some [aI ⟨l.toArray⟩]| .slice k _ _,.nil=>some [.aE k []]| .slice k _ e,.slice es _=>(es.mapM (rd e)).map λxs=>[.aE k xs]| .arr _ e,.agg es=>(es.mapM (rd e)).map List.flatten| .struct dw,.agg es=>NM dw es|_,_=>none
def NM{H:Type}:List eY->List (DataW H)->Option (List D)
 |[],[]=>some []|f::dw,d::aM=>(rd f d).bind λa=>(NM dw aM).map (a++·)|_,_=>none
end
mutual
def dJ(P:Program):eY->TypeId->Bool
 | .bool,t=>match P.underlying t with|some .bool=>true|_=>false
 | .int k,t=>match P.underlying t with|some (.int bO)=>decide (k=bO)|_=>false
 | .str,t=>match P.underlying t with|some .string=>true|_=>false
 | .stop,_=>true| .slice k HW e,t=>match P.underlying t with|some (.slice dj)=>decide (P.cellsOf dj=k)&&decide (0<k)&&decide (P.bytesOf dj=HW)&&dJ P e dj|_=>false
 | .arr n e,t=>match P.underlying t with|some (.array eI dj)=>decide (n=eI)&&decide (P.cellsOf t=n*P.cellsOf dj)&&dJ P e dj|_=>false
 | .struct dw,t=>match P.underlying t with|some (.struct TV)=>A7 P dw TV.toList 0 (P.cellsOf t)|_=>false
def A7(P:Program):List eY->List Field->Nat->Nat->Bool
 |[],[],off,n=>decide (off=n)|f::dw,x::xs,off,n=>decide (x.offset=off)&&dJ P f x.type&&A7 P dw xs (off+P.cellsOf x.type) n|_,_,_,_=>false
end
mutual
def eY.g1:Nat->eY->Bool
 |0,_=>true|_+1,.stop=>false|n+1,.slice _ _ e=>e.g1 n|n+1,.arr _ e=>e.g1 n|n+1,.struct dw=>o9 n dw|_+1,_=>true
def o9:Nat->List eY->Bool
 |_,[]=>true|n,f::dw=>f.g1 n&&o9 n dw
end
def Rel(m:Mem):List D->List Value->Prop
 |[],[]=>True|d::aM,v::vs=>D.one d=true/\dF m d v/\Rel m aM vs|_,_=>False
def Rel.len{m:Mem}:∀{aM:List D}{vs:List Value},Rel m aM vs->vs.length=aM.length
 |[],[],_=>rfl|_::_,_::_,h=>by simp[Rel.len h.2.2]|[],_::_,h=>h.elim|_::_,[],h=>h.elim
def Rel.at{m:Mem}:∀{aM:List D}{vs:List Value},Rel m aM vs->∀(i:Nat)(d:D),aM[i]?=some d->∃v,vs[i]?=some v/\D.one d=true/\dF m d v
 |[],[],_,i,d,h=>by simp at h|x::aM,v::vs,h,0,d,aF=>by simp at aF;subst aF;exact⟨v,rfl,h.1,h.2.1⟩|_::_,_::_,h,i+1,d,aF=>by simpa using Rel.at h.2.2 i d (by simpa using aF)|[],_::_,h,_,_,_=>h.elim|_::_,[],h,_,_,_=>h.elim
def Rel.append{m:Mem}:∀{aM:List D}{vs:List Value}{DK:List D}{TW:List Value},Rel m aM vs->Rel m DK TW->Rel m (aM++DK) (vs++TW)
 |[],[],_,_,_,bL=>bL|_::_,_::_,_,_,h,bL=>⟨h.1,h.2.1,Rel.append h.2.2 bL⟩|[],_::_,_,_,h,_=>h.elim|_::_,[],_,_,h,_=>h.elim
def Rel.one{m:Mem}:∀{aM:List D}{vs:List Value},Rel m aM vs->aM.all D.one=true
 |[],[],_=>rfl|_::_,_::_,h=>by simp only[xaH,h.1,Rel.one h.2.2,Bool.and_self]|[],_::_,h=>h.elim|_::_,[],h=>h.elim
def TX{α:Type}:∀(n:Nat)(Q:Nat->α->Prop),(∀i,i<n->∃y,Q i y)->∃dy:List α,dy.length=n/\∀(i:Nat)(y:α),dy[i]?=some y->Q i y
 |0,_,_=>⟨[],rfl,by intro i y h;simp at h⟩
 |n+1,Q,h=>by obtain⟨dy,ad,ae⟩:=TX n (λi=>Q (i+1)) λi ag=>h (i+1) (by omega);obtain⟨y,aO⟩:=h 0 (by omega);refine⟨y::dy,by simp[ad],?_⟩;intro i z bF;cases i with|zero=>simp at bF;subst bF;exact aO|succ i=>exact ae i z (by simpa using bF)
def TY{α β:Type}(f:α->Option β):∀(l:List α)(r:List β),r.length=l.length->(∀(i:Nat)(x:α)(y:β),l[i]?=some x->r[i]?=some y->f x=some y)->l.mapM f=some r
 |[],[],_,_=>rfl|x::l,y::r,ak,h=>by have ao:=h 0 x y rfl rfl;have ih:=TY f l r (by simpa using ak) λi x y af aO=>h (i+1) x y (by simpa using af) (by simpa using aO);simp[List.mapM_cons,ao,ih]|[],_::_,h,_=>by simp at h|_::_,[],h,_=>by simp at h
section
variable{H:Type}{enc:TypeId×Value->H}{P:Program}{w:World}{base:Nat}{spare:Nat->Bool}{held:Bool}
def pieces{m:Mem}{c:Nat}{cs:List Value}:∀(jS:List (List D)) (o:Nat),(∀(i:Nat)(x:List D),jS[i]?=some x->Rel m x ((cs.drop (o+i*c)).take c))->(o+jS.length*c=cs.length)->Rel m jS.flatten (cs.drop o)
 |[],o,_,ak=>by have:cs.drop o=[]:=xch (by simp at ak;omega);rw[this];trivial
 |x::r,o,h,ak=>by
  have fe:o+c+r.length*c=cs.length:=by simp only[xax,xbd]at ak;omega
  have ao:=h 0 x rfl;have ih:=pieces (m:=m) (cs:=cs) (c:=c) r (o+c) (λi x af=>by have:=h (i+1) x (by simpa using af);rw[show o+c+i*c=o+(i+1)*c by rw[xbd];omega];exact this) fe
  have e:cs.drop o=(cs.drop o).take c++cs.drop (o+c):=by
   conv=>lhs;rw[<-xbW c (cs.drop o)]
   rw[List.drop_drop]
  rw[e,List.flatten_cons];refine Rel.append ?_ ih;simpa using ao
def TZ{H:Type}{P:Program}{e:TypeId}:∀{l:List (DataW H)} {x:DataW H} {y:Nat},x∈l->y∈x.weights P e->y∈DataW.weightsAll P e l
 |a::r,x,y,af,aO=>by
  simp only[DataW.weightsAll,xaJ];rcases xas.1 af with rfl|af
  .exact .inl aO
  exact .inr (TZ af aO)
def abA(m:Mem)(hm:∀b o,w.heap[b]?=some o->m b=some o):∀(n:Nat)(ty:eY)(t:TypeId)(cs:List Value)(x:DataW H×List MemPlace),dJ P ty t=true->ty.g1 n=true->(x.1.weights P t).all (·<=reachBytes)=true->DataW.trod enc P w base spare held n t cs=some x-> ∃aM,rd ty x.1=some aM/\mB ty aM/\Rel m aM cs:=by
 intro n
 induction n with
 |zero=>intro ty t cs x _ _ _ h;simp[DataW.trod]at h
 |succ n ih=>
  intro ty t cs x fI m6 jD h;cases ty with
  |stop=>simp[eY.g1]at m6
  |bool=>
   simp only[dJ]at fI;split at fI;.obtain⟨b,rfl,rfl⟩:=DataW.trod_bool ‹_› h;exact⟨[ax b],rfl,⟨b,rfl⟩,rfl,.val _,trivial⟩
   cases fI
  |int k=>
   simp only[dJ]at fI;split at fI;.have:=xbj fI;subst this;obtain⟨z,rfl,rfl,hw⟩:=DataW.trod_int ‹_› h;exact⟨[.val (.int k z)],rfl,⟨z,rfl,hw⟩,rfl,.val _,trivial⟩
   cases fI
  |str=>
   simp only[dJ]at fI;split at fI
   .obtain⟨s,rfl,rfl,hw⟩:=DataW.trod_string ‹_› h;refine⟨[aI s],?_,⟨s,rfl,?_⟩,rfl,.val _,trivial⟩;.simp[rd]
    simp only[DataW.weights,xaH,xbx,xbt,xau]at jD;simp only[reachBytes]at jD;simpa using jD
   cases fI
  |slice k HW e=>
   simp only[dJ]at fI;split at fI
   .rename_i dj hu;simp only[xai,xau]at fI;obtain⟨⟨⟨ai,oE⟩,Aj⟩,he⟩:=fI;subst ai;subst Aj;simp only[eY.g1]at m6;rcases DataW.trod_slice hu h with⟨rfl,rfl⟩|⟨a,len,cap,elems,rest,eI,aH,rfl,rfl,an,YS,Ae,fL,HX,_,_⟩
    .exact⟨[.aE _ []],rfl,⟨[],rfl,by simp,by simp,by simp⟩,rfl,.og _ _ _,trivial⟩
    cases aH;simp only[DataW.weights,hu,xaH,List.all_append,xai,xau,xbg,reachBytes]at jD;obtain⟨yh,RJ,_⟩:=jD;have each:∀i,i<len->∃aM,∃x,elems[i]?=some x/\rd e x.1=some aM/\mB e aM/\∃c,w.cells? base (a.add (i*P.cellsOf dj)) (P.cellsOf dj)=some c/\Rel m aM c:=by
     intro i ag;have ad:=HX i ag;rw[xab (by omega)]at ad;obtain⟨c,ae,az⟩:=Option.bind_eq_some_iff.1 ad;have T0:((elems[i]'(by omega)).1.weights P dj).all (·<=reachBytes)=true:=by refine xat.2 λy aO=>xat.1 RJ y ?_;exact TZ (xbc.2 ⟨_,xbb _,rfl⟩) aO
     obtain⟨aM,bb,bo,b0⟩:=ih e dj c _ he m6 T0 az;exact⟨aM,_,xab (by omega),bb,bo,c,ae,b0⟩
    obtain⟨es,ak,nd⟩:=TX len _ each;have T1:∀(i:Nat)(aM:List D),es[i]?=some aM->aM.length=P.cellsOf dj:=by intro i aM ag;obtain⟨_,_,_,_,c,aj,aw⟩:=nd i aM ag;rw[<-aw.len];exact(World.cells?_some aj).2.1
    refine⟨[.aE (P.cellsOf dj) es],?_,⟨es,rfl,by omega,?_,?_⟩,rfl,?_,trivial⟩
    .simp only[rd];rw[TY (rd e) (elems.map (·.1)) es (by simp;omega)];.rfl
     intro i x y af aO;obtain⟨z,ad,ae,_⟩:=nd i y aO;simp[ad]at af;rw[<-af];exact ae
    .have:es.length<=elems.length+rest.length:=by omega
     exact Nat.le_trans (xaL _ this) (xbj yh)
    .intro x af;obtain⟨i,ag,rfl⟩:=List.getElem_of_mem af;obtain⟨_,_,_,bo,_⟩:=nd i _ (xab ag);exact⟨T1 i _ (xab ag),bo⟩
    by_cases ao:len=0;.subst ao;have:es=[]:=xaC ak;subst this;exact .og _ _ _
    have Ah:∀(i:Nat)(aM:List D),es[i]?=some aM->∀j,j<P.cellsOf dj->w.cell? ((a.add (i*P.cellsOf dj)).add j)≠none:=by intro i aM ag j aR;obtain⟨_,_,_,_,c,aj,aw⟩:=nd i aM ag;obtain⟨_,bS,bP⟩:=World.cells?_some aj;rw[bP j aR,xab (by omega)];simp
    have wx:=Ah 0 _ (xab (by omega)) 0 oE;simp only[Nat.zero_mul,Addr.add,xay]at wx;obtain⟨b,off,spot⟩:=a;unfold World.cell? at wx;cases bH:w.heap[b]? with
    |none=>simp[bH]at wx
    |some o=>
     cases o with
     |cells vs T e2=>
      simp only[bH]at wx;have aoo:spot=none:=by cases spot with|none=>rfl|some s=>simp at wx
      subst aoo;have cellAt:∀q,w.cell? ⟨b,q,none⟩=vs[q]?:=by intro q;simp[World.cell?,bH]
      have aop:∀q,(⟨b,off,none⟩:Addr).add q=⟨b,off+q,none⟩:=by intro q;unfold Addr.add;split<;>simp_all
      have aoq:∀o q,(⟨b,o,none⟩:Addr).add q=⟨b,o+q,none⟩:=by intro o q;unfold Addr.add;split<;>simp_all
      have key:∀(i:Nat)(aM:List D)(j:Nat)(c:D),es[i]?=some aM->aM[j]?=some c->∃v,vs[off+i*P.cellsOf dj+j]?=some v/\dF m c v:=by
       intro i aM j c ag aR;obtain⟨_,_,_,_,a8,aj,aw⟩:=nd i aM ag;obtain⟨_,bS,bP⟩:=World.cells?_some aj;obtain⟨v,r1,_,r2⟩:=aw.at j c aR;have cE:j<P.cellsOf dj:=by rw[<-T1 i aM ag];exact(xae.1 aR).1
       refine⟨v,?_,r2⟩;rw[<-r1,<-bP j cE,aop,aoq,cellAt]
      rw[<-ak];refine .aE _ es b off cap vs T e2 (hm _ _ bH) ?_ (by omega) (λi j=>(vs[off+i*P.cellsOf dj+j]?).getD undef) ?_ ?_;.intro x af;obtain⟨i,ag,rfl⟩:=List.getElem_of_mem af;obtain⟨_,_,_,_,_,_,aw⟩:=nd i _ (xab ag);exact⟨T1 i _ (xab ag),aw.one⟩
      .intro i aM j c ag aR;obtain⟨v,ad,_⟩:=key i aM j c ag aR;simp[ad]
      intro i aM j c ag aR;obtain⟨v,ad,ae⟩:=key i aM j c ag aR;simpa[ad]using ae
     |_=>simp[bH]at wx
   cases fI
  |arr k e=>
   simp only[dJ]at fI;split at fI
   .rename_i bO dj hu;simp only[xai,xau]at fI;obtain⟨⟨ai,aj⟩,he⟩:=fI;subst ai;obtain⟨xs,eI,aH,rfl,bz,uO,HX⟩:=DataW.trod_array hu h;cases aH;simp only[eY.g1]at m6;simp only[DataW.weights,hu]at jD;have each:∀i,i<k->∃aM,∃x,xs[i]?=some x/\rd e x.1=some aM/\mB e aM/\Rel m aM ((cs.drop (i*P.cellsOf dj)).take (P.cellsOf dj)):=by
     intro i ag;have ad:=HX i ag;rw[xab (by omega)]at ad;have T0:((xs[i]'(by omega)).1.weights P dj).all (·<=reachBytes)=true:=by refine xat.2 λy aO=>xat.1 jD y ?_;exact TZ (xbc.2 ⟨_,xbb _,rfl⟩) aO
     obtain⟨aM,bb,bo,b0⟩:=ih e dj _ _ he m6 T0 ad;exact⟨aM,_,xab (by omega),bb,bo,b0⟩
    obtain⟨es,ak,nd⟩:=TX k _ each;refine⟨es.flatten,?_,⟨es,rfl,ak,?_⟩,?_⟩
    .simp only[rd];rw[TY (rd e) (xs.map (·.1)) es (by simp;omega)];.rfl
     intro i x y af aO;obtain⟨z,ad,ae,_⟩:=nd i y aO;simp[ad]at af;rw[<-af];exact ae
    .intro x af;obtain⟨i,ag,rfl⟩:=List.getElem_of_mem af;obtain⟨_,_,_,bo,_⟩:=nd i _ (xab ag);exact bo
    have:=pieces (m:=m) (c:=P.cellsOf dj) (cs:=cs) es 0 (λi x af=>by obtain⟨_,_,_,_,b0⟩:=nd i x af;simpa using b0) (by rw[ak];omega);simpa using this
   cases fI
  |struct dw=>
   simp only[dJ]at fI;split at fI
   .rename_i TV hu;obtain⟨xs,eI,aH,rfl,bz,uO,HX⟩:=DataW.trod_struct hu h;cases aH;simp only[eY.g1]at m6;simp only[DataW.weights,hu]at jD;have go:∀(dw:List eY)(gs:List Field)(dy:List (DataW H×List MemPlace)) (off:Nat),A7 P dw gs off (P.cellsOf t)=true->o9 n dw=true->(DataW.weightsEach P (gs.map (·.type)) (dy.map (·.1))).all (·<=reachBytes)=true->dy.length=gs.length->(∀(i:Nat)(f:Field),gs[i]?=some f->DataW.trod enc P w base spare held n f.type ((cs.drop f.offset).take (P.cellsOf f.type))=dy[i]?)-> ∃aM,NM dw (dy.map (·.1))=some aM/\NL dw aM/\Rel m aM (cs.drop off):=by
     intro dw
     induction dw with
     |nil=>intro gs dy off ad wY yh ae az;cases gs with|nil=>simp only[A7,xau]at ad;have:dy=[]:=xaC ae;subst this;refine⟨[],rfl,rfl,?_⟩;rw[xch (by omega)];trivial|cons _ _=>simp[A7]at ad
     |cons f dw aor=>
      intro gs dy off ad wY yh ae az;cases gs with
      |nil=>simp[A7]at ad
      |cons g gs=>
       cases dy with
       |nil=>simp at ae
       |cons y dy=>
        simp only[A7,xai,xau]at ad;obtain⟨⟨aZ,a6⟩,b2⟩:=ad;simp only[o9,xai]at wY;simp only[xaA,DataW.weightsEach,List.all_append,xai]at yh;obtain⟨a,ah,aT,bq⟩:=ih f g.type _ y a6 wY.1 yh.1 (az 0 g rfl);obtain⟨b,fv,gS,ig⟩:=aor gs dy _ b2 wY.2 yh.2 (by simpa using ae) (λi f ba=>by simpa using az (i+1) f (by simpa using ba));refine⟨a++b,by simp[NM,ah,fv],⟨a,b,rfl,aT,gS⟩,?_⟩;have e:cs.drop off=(cs.drop off).take (P.cellsOf g.type)++cs.drop (off+P.cellsOf g.type):=by
         conv=>lhs;rw[<-xbW (P.cellsOf g.type) (cs.drop off)]
         rw[List.drop_drop]
        rw[e];refine Rel.append ?_ ig;rw[<-aZ];exact bq
    obtain⟨aM,bb,bo,b0⟩:=go dw TV.toList xs 0 fI m6 jD (by simpa using uO) (λi f ba=>HX i f (by simpa using ba));exact⟨aM,bb,bo,by simpa using b0⟩
   cases fI
end
open Go.ChangeShapes Go.WideShapes Go.ChangeAt Go.RowKit
def wZ:eY->D->Prop
 | .struct dw,d=>∃aM,d= .agg aM/\NL dw aM| .arr _ _,_=>False|ty,d=>mB ty [d]
def NN{H:Type}(ty:eY)(x:DataW H)(d:D):Prop:=match ty with| .struct dw=>∃aM,d= .agg aM/\rd (.struct dw) x=some aM|ty=>rd ty x=some [d]
abbrev ti:=Nat->eY
def T2(t:eY):ti:=λ_=>t
mutual
def vb:eY->Bool
 | .stop=>false| .slice _ _ e=>vb e| .arr _ e=>vb e| .struct dw=>NO dw|_=>true
def NO:List eY->Bool
 |[]=>true|f::dw=>vb f&&NO dw
end
mutual
def vc:∀(n:Nat)(t:eY),vb t=true->t.g1 n=true
 |0,t,_=>by cases t<;>rfl
 |n+1,.stop,h=>by simp[vb]at h|n+1,.slice _ _ e,h=>by rw[vb]at h;rw[eY.g1];exact vc n e h|n+1,.arr _ e,h=>by rw[vb]at h;rw[eY.g1];exact vc n e h|n+1,.struct dw,h=>by rw[vb]at h;rw[eY.g1];exact abB n dw h|n+1,.bool,_=>rfl|n+1,.int _,_=>rfl|n+1,.str,_=>rfl
def abB:∀(n:Nat)(t:List eY),NO t=true->o9 n t=true
 |n,[],_=>by cases n<;>rfl
 |n,f::dw,h=>by rw[NO,xai]at h;rw[o9,vc n f h.1,abB n dw h.2];rfl
end
def abC:eY->Bool
 | .arr _ _=>false|_=>true
structure rU(P:Program)(F:ti)(t:TypeId):Prop where
 deep:∀n,(F n).g1 n=true
 ok:∀n,dJ P (F n) t=true
 lt:t<P.types.size
 aos:∀n,abC (F n)=true
def aot{P:Program}{y:eY}{t:TypeId}(h:(vb y&&abC y&&dJ P y t&&decide (t<P.types.size))=true):rU P (T2 y) t:=by simp only[xai,xau]at h;exact⟨λn=>vc n y h.1.1.1,λ_=>h.1.2,h.2,λ_=>h.1.1.2⟩
def El(P:Program):List ti->List TypeId->Prop
 |[],[]=>True|F::Fs,t::ts=>rU P F t/\El P Fs ts|_,_=>False
def El.lt{P:Program}:∀{Fs:List ti}{ts:List TypeId},El P Fs ts->∀t∈ts,t<P.types.size
 |[],[],_,t,h=>by simp at h
 |F::Fs,u::ts,h,t,aQ=>by
  rcases xas.1 aQ with rfl|aQ;.exact h.1.lt
  exact El.lt h.2 t aQ
 |[],_::_,h,_,_=>h.elim|_::_,[],h,_,_=>h.elim
def tj{H:Type}:List ti->List (DataW H)->List D->Prop
 |[],[],[]=>True|F::Fs,x::xs,d::aM=>(∃n,NN (F n) x d/\wZ (F n) d)/\tj Fs xs aM|_,_,_=>False
section
variable{H:Type}{enc:TypeId×Value->H}{P:Program}{w:World}
def NP{m:Mem}{aM:List D}{v:Value}(h:Rel m aM [v]):∃d,aM=[d]/\dF m d v:=by cases aM with|nil=>exact h.elim|cons d r=>cases r with|nil=>exact⟨d,rfl,h.2.1⟩|cons _ _=>exact h.2.2.elim
def aou{m:Mem}{aM:List D}{cs:Array Value}(h:Rel m aM cs.toList):dF m (.agg aM) (.agg cs):=by
 refine .agg _ _ (by simpa using h.len) ?_;intro i c v aj aN;obtain⟨u,ad,_,ae⟩:=h.at i c aj;have:cs[i]?=some u:=by simpa using ad
 rw[aN]at this;cases this;exact ae
def aov(m:Mem)(hm:∀(b:Nat)(o:Obj),w.heap[b]?=some o->m b=some o){r:Reach}{Ed base:Nat}{sp:Nat->Bool}{held:Bool}{F:ti}{t:TypeId}{v:Value}{x:DataW H}{kn:List MemPlace} (hk:rU P F t) (jD:(x.weights P t).all (·<=reachBytes)=true) (qa:Value.okWide P w r Ed t v) (h:DataW.Trod enc P w base sp held t v x kn):∃d n,NN (F n) x d/\wZ (F n) d/\dF m d v:=by
 obtain⟨n,aH⟩:=h;have fI:=hk.ok n;have HY:=hk.aos n;obtain⟨aM,ad,ae,az⟩:=abA m hm n (F n) t _ _ fI (hk.deep n) jD aH
 suffices h:∃d,NN (F n) x d/\wZ (F n) d/\dF m d v from let⟨d,a⟩:=h;⟨d,n,a⟩
 clear hk aH;generalize F n=ty at*;cases ty with
 |bool=>
  simp only[dJ]at fI;split at fI;.obtain⟨b,rfl⟩:=okWide_bool ‹_› qa;obtain⟨d,rfl,aF⟩:=NP az;exact⟨d,ad,ae,aF⟩
  cases fI
 |int k=>
  simp only[dJ]at fI;split at fI;.obtain⟨b,rfl⟩:=okWide_int ‹_› qa;obtain⟨d,rfl,aF⟩:=NP az;exact⟨d,ad,ae,aF⟩
  cases fI
 |str=>
  simp only[dJ]at fI;split at fI;.obtain⟨b,rfl⟩:=okWide_string ‹_› qa;obtain⟨d,rfl,aF⟩:=NP az;exact⟨d,ad,ae,aF⟩
  cases fI
 |stop=>exact(by simpa[mB]using ae:False).elim
 |slice k HW e=>
  simp only[dJ]at fI;split at fI;.obtain⟨a,l,c,rfl⟩:=okWide_slice ‹_› qa;obtain⟨d,rfl,aF⟩:=NP az;exact⟨d,ad,ae,aF⟩
  cases fI
 |arr n e=>cases HY
 |struct dw=>
  simp only[dJ]at fI;split at fI;.obtain⟨cs,rfl,_⟩:=okWide_struct ‹_› qa;exact⟨.agg aM,⟨aM,rfl,ad⟩,⟨aM,rfl,ae⟩,aou az⟩
  cases fI
def abD(m:Mem)(hm:∀(b:Nat)(o:Obj),w.heap[b]?=some o->m b=some o){r:Reach}{Ed base:Nat}{sp:Nat->Bool}{held:Bool}:∀{Fs:List ti}{ts:List TypeId}{vs:List Value}{xs:List (DataW H)} {kn:List MemPlace},El P Fs ts->(DataW.weightsEach P ts xs).all (·<=reachBytes)=true->(∀(j:Nat) t v,ts[j]?=some t->vs[j]?=some v->Value.okWide P w r Ed t v)->DataW.TrodAll enc P w base sp held ts vs xs kn-> ∃aM,tj Fs xs aM/\As m aM vs
 |[],[],vs,xs,kn,_,_,_,h=>by obtain⟨rfl,rfl,rfl⟩:=trodAll_nil h;exact⟨[],trivial,rfl,by intro i d v aF;simp at aF⟩
 |F::Fs,t::ts,vs,xs,kn,fI,jD,qa,h=>by obtain⟨v,TW,x,Mh,p,q,rfl,rfl,rfl,ad,ae⟩:=trodAll_cons h;simp only[DataW.weightsEach,List.all_append,xai]at jD;obtain⟨d,n,d1,d2,d3⟩:=aov m hm fI.1 jD.1 (qa 0 t v rfl rfl) ad;obtain⟨aM,aZ,b2⟩:=abD m hm fI.2 jD.2 (λj t v aQ aN=>qa (j+1) t v (by simpa using aQ) (by simpa using aN)) ae;refine⟨d::aM,⟨⟨n,d1,d2⟩,aZ⟩,by simpa using b2.1,?_⟩;intro i c u aj hu;cases i with|zero=>simp at aj hu;subst aj;subst hu;exact d3|succ i=>exact b2.2 i c u (by simpa using aj) (by simpa using hu)
 |[],_::_,_,_,_,h,_,_,_=>h.elim|_::_,[],_,_,_,h,_,_,_=>h.elim
def again{W nV:World}(hle:∀(b:Nat)(o:Obj),W.heap[b]?=some o->nV.heap[b]?=some o)(ak:laidOutB P=true)(hm:mapsRowed P=true) (bF:((List.range P.types.size).all λt=>match P.underlying t with|some (.slice e)=>decide (0<P.cellsOf e)|_=>true)=true) {sp:Nat->Bool}: ∀{ts:List TypeId}{vs:List Value}{aM:List (DataW H)} {kn:List MemPlace},(∀t∈ts,t<P.types.size)->DataW.TrodAll enc P W 0 (λ_=>true) true ts vs aM kn->(∀p∈kn,p.block<W.heap.size)->(∀p∈kn,sp p.block=true)->DataW.TrodAll enc P nV 0 sp true ts vs aM kn
 |[],[],[],_,_,h,_,_=>h
 |t::ts,v::vs,d::aM,_,aQ,⟨p,q,⟨n,ad⟩,ae,e⟩,bY,aD=>by
  refine⟨p,q,⟨n,?_⟩,again hle ak hm bF (λt h=>aQ t (by simp[h])) ae (λx af=>bY x (by rw[e];exact List.mem_append_right _ af)) (λx af=>aD x (by rw[e];exact List.mem_append_right _ af)),e⟩;refine DataW.trod_stays (kids_rows ak hm) (λ{t e} ad ae=>slices_full_of P bF t e ad ae) (λh=>by cases h) (aQ t (by simp)) ad ?_ (λx af=>aD x (by rw[e];exact xbQ _ af));intro x af;have an:=bY x (by rw[e];exact xbQ _ af);have bH:nV.heap[x.block]?=W.heap[x.block]?:=by rw[xap an];exact hle _ _ (xap an)
  cases x with
  |cell b off=>show nV.cell? ⟨b,off,none⟩=W.cell? ⟨b,off,none⟩;unfold World.cell?;rw[show nV.heap[b]?=W.heap[b]? from bH]
  |map b=>exact bH
def NQ(W:World):fT:=⟨λ_=>none,W.os,W.output,W.heap.size⟩
def aow(W:World):uR (λb=>W.heap[b]?) (NQ W) W:=by refine⟨λb o h=>h,⟨λb o h=>by simp[NQ]at h,rfl,rfl,xaX _,?_⟩,λ_ _=>rfl⟩;intro b c t f an aj;have:W.heap[b]?=none:=Array.getElem?_eq_none an;rw[aj]at this;cases this
def aox{W nV:World}{cP:Mem}(hle:(show Mem fromλb=>W.heap[b]?).le cP)(h:uR cP (NQ W) nV):
  W.keptBut nV (λ_=>False)/\(∀a,nV.frozen? a=W.frozen? a)/\(∀(b:Nat)(o:Obj),W.heap[b]?=some o->nV.heap[b]?=some o):=by
 have bH:∀(b:Nat)(o:Obj),W.heap[b]?=some o->nV.heap[b]?=some o:=λb o an=>h.mem b o (hle b o an);refine⟨⟨h.frame.quiet.os,h.frame.quiet.out,λi ag=>?_⟩,λa=>?_,bH⟩
 .have ad:=xap ag;have ae:=bH i _ ad;rw[ad,ae];split
  .rename_i aZ a6;rw[aZ]at a6;simp only[xaN,Obj.cells.injEq]at a6;obtain⟨rfl,rfl,rfl⟩:=a6;exact⟨rfl,rfl,rfl,λ_ _=>rfl⟩
  .rename_i aZ a6;rw[aZ]at a6;simp only[xaN,Obj.map.injEq]at a6;exact Or.inr ⟨a6.1.symm,a6.2.symm⟩
  rfl
 .unfold World.frozen?;cases an:W.heap[a.block]? with
  |some o=>rw[bH _ _ an]
  |none=>
   have hg:W.heap.size<=a.block:=by refine Nat.le_of_not_lt λbY=>?_;rw[xap bY]at an;cases an
   cases hn:nV.heap[a.block]? with|none=>rfl|some o=>cases o with|cells c t f=>have:=h.frame.quiet.uF _ c t f hg hn;subst this;simp|_=>rfl
def aoy{G:dG}{f:FuncId}{fn:Func}{s:ChangeSpec}{Fs:List ti}{tr:TypeId}{W:World}{base:Nat}{args:Array Value}{aM gs:List (DataW H)}{before:List MemPlace} (ak:laidOutB P=true) (hm:mapsRowed P=true) (bF:((List.range P.types.size).all λt=>match P.underlying t with|some (.slice e)=>decide (0<P.cellsOf e)|_=>true)=true) (fI:El P Fs fn.params.toList) (DU:fn.resultTypes= #[tr]) (ij:P.underlying tr=some .bool) (abE:s.vars=[]) (aD:∀aM:List (DataW H),aM.length=Fs.length->s.fn H aM=⟨[.lit (.bool true)],aM,[]⟩) (jg:∀jS,tj Fs aM jS->en P G f jS (·=ax true)) (cN:k2 G (λb:Nat=>W.heap[b]?)) {abF:List TypeId} (aoz:abF=[]) (jD:(DataW.weightsEach P (fn.params.toList++abF) (aM++gs)).all (·<=reachBytes)=true) (qa:∀(j:Nat) t v,fn.params[j]?=some t->args[j]?=some v->Value.okWide P W .any base t v) (Em:DataW.Whole enc P fn.params.toList s.vars false W args.toList aM gs before):Calls P f args W λe nV=>∃v,e= .returned v/\s.post enc P fn false true false false W args v nV:=by
 have abG:=Em;obtain⟨p,q,ef,g8,rfl,A8,aFb⟩:=Em;rw[abE]at g8;obtain⟨rfl,rfl⟩:=trodVars_none g8;subst aoz;rw[xaD,xaD]at jD;obtain⟨jS,d1,d3⟩:=abD (λb=>W.heap[b]?) (λb o h=>h) fI jD (λj t v aQ aN=>qa j t v (by simpa using aQ) (by simpa using aN)) ef;have aj:=(jg jS d1).run (λb=>W.heap[b]?) (NQ W) W args.toList cN (aow W) d3;have bz:aM.length=Fs.length:=by
  have:∀(eA:List ti)(aM:List (DataW H)) (jS:List D),tj eA aM jS->aM.length=eA.length:=by
   intro eA
   induction eA with
   |nil=>intro aM jS h;cases aM<;>cases jS<;>simp_all [tj]
   |cons y eA ih=>
    intro aM jS h;cases aM with
    |nil=>cases jS<;>simp[tj]at h
    |cons x aM=>cases jS with|nil=>simp[tj]at h|cons d jS=>simp[ih aM jS h.2]
  exact this _ _ _ d1
 refine aj.mono λe nV ⟨v,cP,r,he,aw,hle,c6,aN⟩=>?_;subst aw;have A9:v= .bool true:=by cases aN;rfl
 subst A9;obtain⟨cK,dV,iB⟩:=aox hle c6;have bY:=abG.lt;refine⟨_,he,?_⟩;have yX:=aD (aM++[]) (by simpa using bz);simp only[xaD]at yX;refine post_of_same (pa:=p) (pv:=[]) abG (λb sp aF=>?_) (λsp lX=>?_) (λsp lX=>?_) rfl (World.keptBut_mono (λ_ h=>h.elim) cK) dV (ok_one DU rfl (okWide_bool_mk ij _))
 .rw[xaD,yX,DU];exact trodAll_cons_mk (shut_bool ij true) trodAll_mk0
 .rw[xaD,yX];exact again iB ak hm bF fI.lt ef (λx af=>bY x (by simpa using af)) (λx af=>lX x (by simpa using af))
 rw[xaD,yX,abE];rfl
def abH{W:World}:∀(laid:List (String×DataW Unit)) (gs:List (Nat×TypeId×eY×List D)) (kn:List MemPlace),DataW.LaidVars P W laid kn->gs.length=laid.length->(∀(i:Nat) x g,laid[i]?=some x->gs[i]?=some g->P.globalNamed x.1=some g.1/\(P.globals[g.1]?).map (·.type)=some g.2.1/\dJ P g.2.2.1 g.2.1=true/\rd g.2.2.1 x.2=some g.2.2.2/\vb g.2.2.1=true/\(x.2.weights P g.2.1).all (·<=reachBytes)=true)-> ∀g∈gs,∃vs T e2,W.heap[g.1]?=some (.cells vs T e2)/\Rel (λb=>W.heap[b]?) g.2.2.2 vs.toList
 |[],[],_,_,_,_,g,bV=>by simp at bV
 |(l3,x)::laid,y::gs,kn,h,ak,af,g,bV=>by
  obtain⟨sO,t,cs,fuel,p,q,ad,ae,az,a3,bx,_⟩:=h;rcases xas.1 bV with rfl|bV
  .obtain⟨aT,bq,dx,gw,ka,lz⟩:=af 0 _ _ rfl rfl;have aZ:=xba (aT.symm.trans ad);subst aZ;have a6:=xba (bq.symm.trans ae);subst a6;obtain⟨aM,fv,_,ig⟩:=abA (λb=>W.heap[b]?) (λb o h=>h) fuel _ _ _ _ dx (vc _ _ ka) lz a3;have b2:=xba (gw.symm.trans fv);unfold World.var? at az;rw[ad]at az;simp only[Option.bind_some]at az;split at az
   .rename_i uI T e2 bH;cases az;exact⟨_,T,e2,bH,by rw[b2];exact ig⟩
   cases az
  exact abH laid gs q bx (by simpa using ak) (λi x g gd aoA=>af (i+1) x g (by simpa using gd) (by simpa using aoA)) g bV
 |[],_::_,_,_,h,_,_,_=>by simp at h|_::_,[],_,_,h,_,_,_=>by simp at h
def aoB{G:dG}{W:World}(gs:List (Nat×TypeId×eY×List D))(cN:∀g cs,G g=some cs->∃x∈gs,x.1=g/\x.2.2.2=cs) (h:∀g∈gs,∃vs T e2,W.heap[g.1]?=some (.cells vs T e2)/\Rel (λb=>W.heap[b]?) g.2.2.2 vs.toList):k2 G (λb:Nat=>W.heap[b]?):=by
 intro g cs bV;obtain⟨x,af,rfl,rfl⟩:=cN g cs bV;obtain⟨vs,T,e2,ad,ae⟩:=h x af;refine⟨vs,T,e2,ad,λj=>(vs[j]?).getD undef,?_,?_⟩
 .intro j c aj;obtain⟨v,bS,_,_⟩:=ae.at j c aj;have:vs[j]?=some v:=by simpa using bS
  simp[this]
 intro j c aj;obtain⟨v,bS,_,bP⟩:=ae.at j c aj;have:vs[j]?=some v:=by simpa using bS
 simpa[this]using bP
end
def abI:eY:= .struct [.str,.bool,.int .i64,.int .i64]
def NR:eY:= .slice 4 40 abI
def w1:eY:= .slice 1 8 (.int .i64)
def qb{α:Type}(f:α->List D)(Q:α->Prop):∀(es:List (List D)),(∀x∈es,∃y,x=f y/\Q y)->∃l:List α,es=l.map f/\∀y∈l,Q y
 |[],_=>⟨[],rfl,by simp⟩|x::es,h=>by obtain⟨y,rfl,aO⟩:=h x (by simp);obtain⟨l,rfl,ak⟩:=qb f Q es λx af=>h x (by simp[af]);exact⟨y::l,rfl,by intro z bF;rcases xas.1 bF with rfl|bF;exact aO;exact ak z bF⟩
def aoC{n:Int}(h:(Lit.int .i64 n).wf=true):ow n:=by have:=Go.bounds_i64 h;exact this
theorem w2{x:List D}(h:mB (.int .i64) x):∃n,x=[J n]/\ow n:=by obtain⟨n,rfl,aH⟩:=h;exact⟨n,rfl,aoC aH⟩
def NS{x:List D}(h:mB .str x):∃s,x=[aI s]/\s.size<=140737488351232:=h
def aoD{x:List D}(h:mB .bool x):∃b,x=[ax b]:=h
def aoE{x:List D}(h:mB abI x):∃v:V,x=v.cells/\V.ok v:=by obtain⟨a,b,rfl,aB,c,d,rfl,aj,e,f,rfl,he,g,i,rfl,bV,rfl⟩:=h;obtain⟨s,rfl,aD⟩:=NS aB;obtain⟨q,rfl⟩:=aoD aj;obtain⟨lo,rfl,iA⟩:=w2 he;obtain⟨ag,rfl,yI⟩:=w2 bV;exact⟨⟨s,q,lo,ag⟩,rfl,iA,yI,by simp only;omega⟩
def aoF{k b:Nat}{d:D}{e:eY}(h:mB (.slice k b e) [d]):∃es,d= .aE k es/\es.length*b<=140737488351232/\∀x∈es,mB e x:=by obtain⟨es,he,_,ad,ae⟩:=h;cases he;exact⟨es,rfl,ad,λx af=>(ae x af).2⟩
def T3{d:D}(h:wZ w1 d):∃l:List Int,d=bN l/\l.length*8<=140737488351232/\∀v∈l,ow v:=by obtain⟨es,rfl,ad,ae⟩:=aoF h;obtain⟨l,rfl,ak⟩:=qb (λn=>[J n]) ow es λx af=>w2 (ae x af);exact⟨l,rfl,by simpa using ad,ak⟩
abbrev cv:D:= .val (.slice none 0 0)
def bc(k:Nat)(nl:Bool)(es:List (List D)):D:=if nl&&es.isEmpty then cv else .aE k es
section
variable{k:Nat}{nl:Bool}{es:List (List D)}
def aoG:bc k false es= .aE k es:=by simp[bc]
@[simp] theorem abJ:bs (bc k nl es)=some (J es.length):=by
 unfold bc;split;.rename_i h;simp at h;simp[h.2,J,bs]
 rfl
@[simp] theorem aoH:bZ (bc k nl es)=true:=by unfold bc;split<;>rfl
@[simp] theorem aoI:(bc k nl es).one=true:=by unfold bc;split<;>rfl
def T4{i:Nat}:bp k (bc k nl es) (J (i:Int))=es[i]?:=by
 unfold bc;split;.rename_i h;simp at h;simp[h.2,J,bp]
 simp
@[simp] theorem aFc:oy (bc k nl es)=some (if nl&&es.isEmpty then(0,[])else(k,es)):=by unfold bc;split<;>rfl
end
inductive Tm where
 |mk (op n:Int) (name:ByteArray) (nl:Bool) (al:List Tm)
namespace Tm
def op:Tm->Int| .mk o _ _ _ _=>o
def num:Tm->Int| .mk _ n _ _ _=>n
def name:Tm->ByteArray| .mk _ _ s _ _=>s
def nl:Tm->Bool| .mk _ _ _ b _=>b
def al:Tm->List Tm| .mk _ _ _ _ l=>l
mutual
def cells:Tm->List D
 | .mk o n s b ks=>[J o,J n,aI s,bc 4 b (rows ks)]
def rows:List Tm->List (List D)
 |[]=>[]|t::r=>cells t::rows r
end
def d(t:Tm):D:= .agg t.cells
mutual
def a9:Tm->Nat
 | .mk _ _ _ _ ks=>2+c7 ks
def c7:List Tm->Nat
 |[]=>0|t::r=>1+a9 t+c7 r
end
def jl:∀l:List Tm,rows l=l.map cells
 |[]=>rfl|t::r=>by simp[rows,jl r]
@[simp] theorem jm {l:List Tm}:(rows l).length=l.length:=by simp[jl]
def HZ{l:List Tm}{i:Nat}{t:Tm}(h:l[i]?=some t):(rows l)[i]?=some t.cells:=by simp[jl,h]
def dz{l:List Tm}{b:Bool}{i:Nat}{t:Tm}(h:l[i]?=some t):bp 4 (bc 4 b (rows l)) (J (i:Int))=some t.cells:=by rw[T4,HZ h]
def vd:∀l:List Tm,l.length<=c7 l
 |[]=>xaX 0|t::r=>by simp only[c7,xax];have:=vd r;omega
def y0:∀{l:List Tm}{t:Tm},t∈l->a9 t+1<=c7 l
 |a::r,t,h=>by
  simp only[c7];rcases xas.1 h with rfl|h
  .omega
  have:=y0 h;omega
def fb{t k:Tm}(h:k∈t.al):k.a9+3<=t.a9:=by cases t with|mk o n s b ks=>simp only[a9];have:=y0 (show k∈ks from h);omega
def g9{t:Tm}:t.al.length+2<=t.a9:=by cases t with|mk o n s b ks=>simp only[a9];have:=vd ks;show ks.length+2<=_;omega
def ind{P:Tm->Prop}(h:∀t:Tm,(∀k∈t.al,P k)->P t)(t:Tm):P t:=by
 have:∀(n:Nat)(t:Tm),t.a9<=n->P t:=by
  intro n
  induction n with
  |zero=>intro t aQ;cases t;simp[a9]at aQ
  |succ n ih=>intro t aQ;exact h t λk ai=>ih k (by have:=fb ai;omega)
 exact this _ t (xaX _)
inductive bR:Tm->Prop where
 |mk (o n:Int) (s:ByteArray) (b:Bool) (ks:List Tm) (aC:-9223372036854775808<=o/\o<=9223372036854775807) (aH:-9223372036854775808<=n/\n<=9223372036854775807) (aD:s.size<=140737488355328) (ak:ks.length*56<=140737488355328) (ai:∀k∈ks,bR k):bR (.mk o n s b ks)
def bR.cL{t k:Tm}(h:bR t)(ai:k∈t.al):bR k:=by cases h with|mk o n s b ks aC aH aD ak eF=>exact eF k ai
def bR.len{t:Tm}(h:bR t):t.al.length*56<=140737488355328:=by cases h;assumption
theorem nh(t:Tm):t.cells=[J t.op,J t.num,aI t.name,bc 4 t.nl (rows t.al)]:=by cases t;rfl
theorem gI(t:Tm):t.d= .agg [J t.op,J t.num,aI t.name,bc 4 t.nl (rows t.al)]:=by cases t;rfl
@[simp] theorem jn (t:Tm):aL 4 t.d=true:=by rw[gI];simp
@[simp] theorem qc (t:Tm):aa t.d 0=J t.op:=by rw[gI];rfl
@[simp] theorem tk (t:Tm):aa t.d 1=J t.num:=by rw[gI];rfl
@[simp] theorem ve (t:Tm):aa t.d 2=aI t.name:=by rw[gI];rfl
@[simp] theorem tl (t:Tm):aa t.d 3=bc 4 t.nl (rows t.al):=by rw[gI];rfl
@[simp] theorem Ba (t:Tm):D.agg [J t.op,J t.num,aI t.name,bc 4 t.nl (rows t.al)]=t.d:=(gI t).symm
@[simp high] theorem T5 (t:Tm):bh true 4 0 t.cells=some t.d:=by rw[gI,nh];rfl
@[simp] theorem gx (t:Tm):t.cells[0]?=some (J t.op):=by rw[nh];rfl
@[simp] theorem hH (t:Tm):t.cells[1]?=some (J t.num):=by rw[nh];rfl
@[simp] theorem aoJ (t:Tm):t.cells[2]?=some (aI t.name):=by rw[nh];rfl
@[simp] theorem aFd (t:Tm):t.cells[3]?=some (bc 4 t.nl (rows t.al)):=by rw[nh];rfl
end Tm
def dp{β α σ:Type}{f:List D->Option (List D⊕β)}(l:List α)(S:Nat->σ->List D)(e8:List α->σ->β)(Inv:Nat->σ->Prop) (ao:∀s,Inv l.length s->f (S l.length s)=some (.inr (e8 [] s))) (ad:∀(i:Nat)(a:α)(s:σ),l[i]?=some a->i<l.length->Inv i s->(∃s',f (S i s)=some (.inl (S (i+1) s'))/\e8 (a::l.drop (i+1)) s=e8 (l.drop (i+1)) s'/\Inv (i+1) s')\/f (S i s)=some (.inr (e8 (a::l.drop (i+1)) s))): ∀(m i:Nat)(s:σ),Inv i s->l.length-i<m->i<=l.length->bA f m (S i s)=some (e8 (l.drop i) s)
 |0,i,s,_,h,_=>absurd h (xar _)
 |m+1,i,s,ag,hm,hle=>by
  rw[l1];by_cases h:i<l.length
  .have bV:=xab h;have e:l.drop i=l[i]::l.drop (i+1):=xaV h;rcases ad i _ s bV h ag with⟨s',bb,bo,b0⟩|bb
   .rw[bb,e,bo];exact dp l S e8 Inv ao ad m (i+1) s' b0 (by omega) h
   rw[bb,e];rfl
  have:i=l.length:=by omega
  subst this;rw[ao s ag,xch (xaX _)];rfl
def NT(op:Int):op=1\/op=2\/op=3\/op=4\/op=5\/op=6\/op=7\/op=8\/op=9\/op=10\/op=11\/op=12\/op=13\/op=14\/op=15\/op=16\/op=17\/op=18\/(op<1\/op>18):=by omega
@[simp] theorem aFe {f:FuncId}:wV f (.val (.func (.func f) #[] #[]))=true:=by simp[wV]
@[simp] theorem mC {f:FuncId} {cs:List D}:kJ f (.fn (.func f) [] cs)=some cs:=by simp[kJ]
def abK(a b:Int):lW true [J a,J b]=some (J (if b>a then b else a)):=by simp[lW,sG,uL,J,p2]
def abL(a b:Int):lW false [J a,J b]=some (J (if b<a then b else a)):=by simp[lW,sG,uL,J,p2]
@[simp] theorem abM {b:Bool}:(ax b).flat=true:=rfl
@[simp] theorem aoK {b:Int}:(J b).flat=true:=rfl
@[simp] theorem aoL {b:ByteArray}:(aI b).flat=true:=rfl
@[simp] theorem aFf {a:Int}:cx .neg (J a)=some (J (IntKind.i64.wrap (-a))):=by rw[<-Int.zero_sub];rfl
theorem abN:(D.val (.bool false))=ax false:=rfl
theorem abO:(D.val (.int .i64 0))=J 0:=rfl
theorem abP:(D.val (.string ⟨#[]⟩))=aI ⟨#[]⟩:=rfl
@[simp] theorem aoM (a b c:D):aL 3 (.agg [a,b,c])=(a.one&&(b.one&&c.one)):=by simp[aL]
@[simp] theorem aoN (a b c e:D):aL 4 (.agg [a,b,c,e])=(a.one&&(b.one&&(c.one&&e.one))):=by simp[aL]
@[simp] theorem aFg {a:D} {l:List D}:aa (.agg (a::l)) 0=a:=rfl
@[simp] theorem aFh {a b:D} {l:List D}:aa (.agg (a::b::l)) 1=b:=rfl
@[simp] theorem aFi {a b c:D} {l:List D}:aa (.agg (a::b::c::l)) 2=c:=rfl
@[simp] theorem aFj {a b c e:D} {l:List D}:aa (.agg (a::b::c::e::l)) 3=e:=rfl
theorem cl{bt:Bool}{i:Nat}(h:i<1000000000000000000):b9 bt .add (J (i:Int)) (J 1)=some (J ((i+1:Nat):Int)):=by rw[fg (by omega) (by omega)];rfl
def mD{bt:Bool}{i:Int}(h:-9223372036854775809<=i)(bL:i<9223372036854775807):b9 bt .add (J i) (J 1)=some (J (i+1)):=by rw[fg (by omega) (by omega)]
section
variable{α β:Type}{c:Prop}[Decidable c]
@[simp] theorem aFk {a b:α}:(if c then(Sum.inl a:α⊕β)else Sum.inl b)=Sum.inl (if c then a else b):=by split<;>rfl
@[simp] theorem aFl {a b:β}:(if c then(Sum.inr a:α⊕β)else Sum.inr b)=Sum.inr (if c then a else b):=by split<;>rfl
@[simp] theorem aFm {a b:α} {l r:List α}:(if c then a::l else b::r)=(if c then a else b)::(if c then l else r):=by split<;>rfl
@[simp] theorem aFn {a b:Int}:(if c then J a else J b)=J (if c then a else b):=by split<;>rfl
@[simp] theorem aFo {a b:ByteArray}:(if c then aI a else aI b)=aI (if c then a else b):=by split<;>rfl
@[simp] theorem T6 {a b:List D}:(if c then D.aU a else D.aU b)=D.aU (if c then a else b):=by split<;>rfl
@[simp] theorem aFp {a b:List D}:(if c then D.agg a else D.agg b)=D.agg (if c then a else b):=by split<;>rfl
@[simp] theorem aFq {f:List D->Option β} {x y:List D⊕β}:bj f (if c then x else y)=if c then bj f x else bj f y:=by split<;>rfl
@[simp] theorem aFr {x y:Option α} {f:α->Option β}:R (if c then x else y) f=if c then R x f else R y f:=by split<;>rfl
end
section
variable{e3:Type}{c:Prop}[Decidable c]
@[simp] theorem aFs {x y:D} {w:Bool} {p:Option D}:dA (if c then x else y) w p=if c then dA x w p else dA y w p:=by split<;>rfl
@[simp] theorem aFt {x y:D} {w:Bool} {p q:Option e3}:AM (if c then x else y) w p q=if c then AM x w p q else AM y w p q:=by split<;>rfl
@[simp] theorem aFu {x y a b:D}:fW (if c then x else y) a b=if c then fW x a b else fW y a b:=by split<;>rfl
@[simp] theorem aFv {x y:D} {p q:Option e3}:aA (if c then x else y) p q=if c then aA x p q else aA y p q:=by split<;>rfl
@[simp] theorem aFw {x y:D} {o:UnOp}:cx o (if c then x else y)=if c then cx o x else cx o y:=by split<;>rfl
end
@[simp] theorem aFx {a b:Bool}:ax a=ax b↔a=b:=⟨λh=>by cases h;rfl,λh=>by rw[h]⟩
@[simp] theorem aFy {a b:Int}:J a=J b↔a=b:=⟨λh=>by cases h;rfl,λh=>by rw[h]⟩
@[simp] theorem aFz {a b:ByteArray}:aI a=aI b↔a=b:=⟨λh=>by cases h;rfl,λh=>by rw[h]⟩
attribute [simp] abN abO abP
def mE(M:List (Value×D)):Prop:=∀e∈M,∃s,e.1= .string s
def gV:List (Value×D)->ByteArray->Option D
 |[],_=>none|(.string s,d)::r,x=>if s=x then some d else gV r x
 |_::r,x=>gV r x
def abQ{e:Value×D}{M:List (Value×D)}(h:mE (e::M)):(∃s,e.1= .string s)/\mE M:=⟨h e (by simp),λx af=>h x (by simp[af])⟩
def abR(a b:ByteArray):Instr.sameNow .string (.string a) (.string b)=some (decide (b=a)):=by simp[Instr.sameNow,Rs,eq_comm]
def abS{M:List (Value×D)}(h:mE M)(x:ByteArray):findD .string (.string x) M=some (gV M x):=by
 induction M with
 |nil=>rfl
 |cons e r ih=>
  obtain⟨⟨s,aD⟩,aw⟩:=abQ h;obtain⟨k,d⟩:=e;simp only at aD;subst aD;simp only[findD,abR,gV];by_cases af:s=x;.simp[af]
  simp[af,ih aw]
def aoO{M:List (Value×D)}(h:mE M)(x:ByteArray)(d:D):∃eZ,sI .string (.string x) d M=some eZ/\mE eZ/\(∀y,gV eZ y=if y=x then some d else gV M y)/\eZ.length=M.length+(if(gV M x).isSome then 0 else 1):=by
 induction M with
 |nil=>exact⟨[(.string x,d)],rfl,by intro e he;simp at he;exact⟨x,by rw[he]⟩,λy=>by simp[gV,eq_comm],rfl⟩
 |cons e r ih=>
  obtain⟨⟨s,aD⟩,aw⟩:=abQ h;obtain⟨k,d0⟩:=e;simp only at aD;subst aD;simp only[sI,abR,gV];by_cases af:s=x
  .refine⟨(.string x,d)::r,by simp[af],?_,λy=>?_,by simp[af]⟩
   .intro e he;rcases xas.1 he with rfl|he
    .exact⟨x,rfl⟩
    exact aw e he
   simp only[gV];by_cases aO:y=x;.simp[aO]
   have:¬x=y:=λh=>aO h.symm;subst af;simp[aO,this]
  obtain⟨eZ,ad,ae,az,a3⟩:=ih aw;refine⟨(.string s,d0)::eZ,by simp[af,ad],?_,λy=>?_,by simp[af,a3];omega⟩
  .intro e he;rcases xas.1 he with rfl|he
   .exact⟨s,rfl⟩
   exact ae e he
  simp only[gV,az y];by_cases aO:y=x;.subst aO;simp[af]
  simp[aO]
theorem En{M:List (Value×D)}(h:mE M){z:Value}{x:ByteArray}:k6 .string z true M (aI x)=some (match gV M x with|some d=> .aU [d,ax true]|none=> .aU [sH z,ax false]):=by simp only[k6,aI,abS h];cases gV M x<;>rfl
def NU{M:List (Value×D)}(h:mE M)(x:ByteArray)(d:D):∃eZ,s4 .string M (aI x) d=some eZ/\mE eZ/\(∀y,gV eZ y=if y=x then some d else gV M y)/\eZ.length=M.length+(if(gV M x).isSome then 0 else 1):=aoO h x d
def w3(M:List (Value×D)):Prop:=∀e∈M,∃i,e.1= .int .i64 i
def nW:List (Value×D)->Int->Option D
 |[],_=>none|(.int .i64 s,d)::r,x=>if s=x then some d else nW r x
 |_::r,x=>nW r x
def abT{e:Value×D}{M:List (Value×D)}(h:w3 (e::M)):(∃s,e.1= .int .i64 s)/\w3 M:=⟨h e (by simp),λx af=>h x (by simp[af])⟩
def abU(a b:Int):Instr.sameNow (.int .i64) (.int .i64 a) (.int .i64 b)=some (decide (b=a)):=by
 by_cases h:a=b;.subst h;simp[Instr.sameNow]
 have bL:¬b=a:=λe=>h e.symm;simp[Instr.sameNow,h,bL]
def aoP{M:List (Value×D)}(h:w3 M)(x:Int):findD (.int .i64) (.int .i64 x) M=some (nW M x):=by
 induction M with
 |nil=>rfl
 |cons e r ih=>
  obtain⟨⟨s,aD⟩,aw⟩:=abT h;obtain⟨k,d⟩:=e;simp only at aD;subst aD;simp only[findD,abU,nW];by_cases af:s=x;.simp[af]
  simp[af,ih aw]
def aoQ{M:List (Value×D)}(h:w3 M)(x:Int)(d:D):∃eZ,sI (.int .i64) (.int .i64 x) d M=some eZ/\w3 eZ/\(∀y,nW eZ y=if y=x then some d else nW M y)/\eZ.length=M.length+(if(nW M x).isSome then 0 else 1):=by
 induction M with
 |nil=>exact⟨[(.int .i64 x,d)],rfl,by intro e he;simp at he;exact⟨x,by rw[he]⟩,λy=>by simp[nW,eq_comm],rfl⟩
 |cons e r ih=>
  obtain⟨⟨s,aD⟩,aw⟩:=abT h;obtain⟨k,d0⟩:=e;simp only at aD;subst aD;simp only[sI,abU,nW];by_cases af:s=x
  .refine⟨(.int .i64 x,d)::r,by simp[af],?_,λy=>?_,by simp[af]⟩
   .intro e he;rcases xas.1 he with rfl|he
    .exact⟨x,rfl⟩
    exact aw e he
   simp only[nW];by_cases aO:y=x;.simp[aO]
   have:¬x=y:=λh=>aO h.symm;subst af;simp[aO,this]
  obtain⟨eZ,ad,ae,az,a3⟩:=ih aw;refine⟨(.int .i64 s,d0)::eZ,by simp[af,ad],?_,λy=>?_,by simp[af,a3];omega⟩
  .intro e he;rcases xas.1 he with rfl|he
   .exact⟨s,rfl⟩
   exact ae e he
  simp only[nW,az y];by_cases aO:y=x;.subst aO;simp[af]
  simp[aO]
theorem aoR{M:List (Value×D)}(h:w3 M){z:Value}{ok:Bool}{x:Int}:k6 (.int .i64) z ok M (J x)=some (match nW M x with|some d=>if ok then .aU [d,ax true]else d|none=>if ok then .aU [sH z,ax false]else sH z):=by simp only[k6,J,aoP h];cases nW M x<;>rfl
def aoS{M:List (Value×D)}(h:w3 M)(x:Int)(d:D):∃eZ,s4 (.int .i64) M (J x) d=some eZ/\w3 eZ/\(∀y,nW eZ y=if y=x then some d else nW M y)/\eZ.length=M.length+(if(nW M x).isSome then 0 else 1):=aoQ h x d
def abV:∀x:List UInt8,Op.bytesLess x x=false
 |[]=>rfl|a::x=>by simp[Op.bytesLess,abV x]
def abW:∀x y z:List UInt8,Op.bytesLess x y=true->Op.bytesLess y z=true->Op.bytesLess x z=true
 |[],[],z,h,_=>by simp[Op.bytesLess]at h|[],b::y,[],_,h=>by simp[Op.bytesLess]at h|[],b::y,c::z,_,_=>rfl|a::x,[],z,h,_=>by simp[Op.bytesLess]at h|a::x,b::y,[],_,h=>by simp[Op.bytesLess]at h
 |a::x,b::y,c::z,ad,ae=>by
  simp only[Op.bytesLess,xbh,xai,xau,xbH,UInt8.lt_iff_toNat_lt]at*;rcases ad with ad|⟨rfl,ad⟩
  .rcases ae with ae|⟨rfl,ae⟩;.exact .inl (by omega)
   exact .inl ad
  rcases ae with ae|⟨rfl,ae⟩;.exact .inl ae
  exact .inr ⟨rfl,abW x y z ad ae⟩
def abX:∀x y:List UInt8,Op.bytesLess x y=true\/x=y\/Op.bytesLess y x=true
 |[],[]=> .inr (.inl rfl)|[],b::y=> .inl rfl|a::x,[]=> .inr (.inr rfl)
 |a::x,b::y=>by
  simp only[Op.bytesLess,xbh,xai,xau,xbH,UInt8.lt_iff_toNat_lt,List.cons.injEq];by_cases ad:a.toNat<b.toNat;.exact .inl (.inl ad)
  by_cases ae:b.toNat<a.toNat;.exact .inr (.inr (.inl ae))
  have:a=b:=UInt8.toNat_inj.1 (by omega);subst this;rcases abX x y with h|h|h
  .exact .inl (.inr ⟨rfl,h⟩)
  .exact .inr (.inl ⟨rfl,h⟩)
  exact .inr (.inr (.inr ⟨rfl,h⟩))
def w4(x:ByteArray):blt x x=false:=abV _
def Bb{x y z:ByteArray}(h:blt x y=true)(bL:blt y z=true):blt x z=true:=abW _ _ _ h bL
def T7(x y:ByteArray):blt x y=true\/x=y\/blt y x=true:=by
 rcases abX x.toList y.toList with h|h|h;.exact .inl h
 .exact .inr (.inl (Ym h))
 exact .inr (.inr h)
def aoT(y x:ByteArray):(!(blt y x||decide (y=x)))=blt x y:=by
 rcases T7 x y with h|h|h
 .have ad:blt y x=false:=by
   cases b4:blt y x with|false=>rfl|true=>have:=Bb h b4;rw[w4]at this;cases this
  have ae:y≠x:=by rintro rfl;rw[w4]at h;cases h
  simp[h,ad,ae]
 .subst h;simp[w4]
 have ad:blt x y=false:=by cases b4:blt x y with|false=>rfl|true=>have:=Bb h b4;rw[w4]at this;cases this
 simp[h,ad]
def NV{bt:Bool}{x y:ByteArray}:b9 bt .gtr (aI y) (aI x)=some (ax (blt x y)):=by rw[TU,aoT]
def kv:List ByteArray->Prop
 |[]=>True|a::r=>(∀b∈r,blt a b=true)/\kv r
def h2(s:ByteArray):List ByteArray->List ByteArray
 |[]=>[s]|a::r=>if a=s then a::r else if blt s a then s::a::r else a::h2 s r
def abY{s x:ByteArray}:∀{l:List ByteArray},x∈h2 s l->x=s\/x∈l
 |[],h=>by simp[h2]at h;exact .inl h
 |a::r,h=>by
  rw[h2]at h;split at h;.exact .inr h
  split at h
  .rcases xas.1 h with h|h;.exact .inl h
   exact .inr h
  rcases xas.1 h with h|h;.exact .inr (by simp[h])
  rcases abY h with h|h;.exact .inl h
  exact .inr (by simp[h])
def H0{s:ByteArray}:∀{l:List ByteArray},kv l->kv (h2 s l)
 |[],_=>⟨by simp,trivial⟩
 |a::r,h=>by
  rw[h2];split;.exact h
  rename_i cm;split
  .rename_i bY;refine⟨λb an=>?_,h⟩;rcases xas.1 an with rfl|an
   .exact bY
   exact Bb bY (h.1 b an)
  rename_i vf;refine⟨λb an=>?_,H0 h.2⟩;rcases abY an with rfl|an
  .rcases T7 a b with ad|ad|ad;.exact ad
   .exact absurd ad cm
   rw[ad]at vf;exact absurd rfl vf
  exact h.1 b an
def T8{s:ByteArray}:∀{l:List ByteArray},kv l->s∈l->h2 s l=l
 |[],_,h=>by cases h
 |a::r,aD,h=>by
  rw[h2];rcases xas.1 h with rfl|h
  .rw[xac rfl]
  have bY:=aD.1 s h;have cm:¬a=s:=by rintro rfl;rw[w4]at bY;cases bY
  have vf:¬blt s a=true:=λbL=>by have:=Bb bY bL;rw[w4]at this;cases this
  rw[xaa cm,xaa vf,T8 aD.2 h]
def abZ{s:ByteArray}:∀{l:List ByteArray},kv l->s∉l->∃a b,l=a++b/\h2 s l=a++s::b/\(∀x∈a,blt x s=true)/\(∀x∈b,blt s x=true)
 |[],_,_=>⟨[],[],rfl,rfl,by simp,by simp⟩
 |a::r,aD,h=>by
  have cm:¬a=s:=λe=>h (by simp[e]);rw[h2,xaa cm];by_cases ak:blt s a=true
  .rw[xac ak];exact⟨[],a::r,rfl,rfl,by simp,λx af=>by
    rcases xas.1 af with rfl|af;.exact ak
    exact Bb ak (aD.1 x af)⟩
  rw[xaa ak];obtain⟨p,q,ad,ae,az,a3⟩:=abZ (l:=r) (s:=s) aD.2 (λhm=>h (List.mem_cons_of_mem _ hm));refine⟨a::p,q,by rw[ad];rfl,by rw[ae];rfl,λx af=>?_,a3⟩;rcases xas.1 af with rfl|af
  .rcases T7 x s with bx|bx|bx;.exact bx
   .exact absurd bx cm
   exact absurd bx ak
  exact az x af
def T9(s:ByteArray):∀{l:List ByteArray},kv l->∃a b,l=a++b/\(∀x∈a,blt s x=false)/\(∀x∈b,blt s x=true)/\(s∈l->∃db,a=db++[s])/\(s∉l->s∉a)/\(s∉l->h2 s l=a++s::b)
 |[],_=>⟨[],[],rfl,by simp,by simp,by simp,by simp,λ_=>rfl⟩
 |c::r,aD=>by
  by_cases hm:s∈c::r
  .by_cases aj:c=s;.subst aj;refine⟨[c],r,rfl,by simp[w4],aD.1,λ_=>⟨[],rfl⟩,λh=>absurd hm h,λh=>absurd hm h⟩
   have aw:s∈r:=(xas.1 hm).resolve_left λh=>aj h.symm;obtain⟨a,b,ad,ae,az,a3,bx,cq⟩:=T9 s aD.2;obtain⟨db,Ht⟩:=a3 aw;refine⟨c::a,b,by rw[ad];rfl,?_,az,λ_=>⟨c::db,by rw[Ht];rfl⟩,λh=>absurd hm h,λh=>absurd hm h⟩;intro x af;rcases xas.1 af with rfl|af
   .have bY:=aD.1 s aw;cases b4:blt s x with|false=>rfl|true=>have:=Bb bY b4;rw[w4]at this;cases this
   exact ae x af
  obtain⟨a,b,ad,ae,az,a3⟩:=abZ aD hm;refine⟨a,b,ad,λx af=>?_,a3,λh=>absurd h hm,λ_ aB=>hm (by rw[ad];simp[aB]),λ_=>ae⟩;have bY:=az x af;cases b4:blt s x with|false=>rfl|true=>have:=Bb bY b4;rw[w4]at this;cases this
def H2{s:ByteArray}:∀(l:List ByteArray),(h2 s l).length<=l.length+1
 |[]=>by simp[h2]
 |a::r=>by
  rw[h2];split;.simp
  split;.simp
  have:=H2 (s:=s) r;simp;omega
def qS:Nat->eY
 |0=> .stop|n+1=> .struct [.int .i64,.int .i64,.str,.slice 4 56 (qS n)]
def Eo:∀(n m:Nat),m<=2*n->(qS n).g1 m=true
 |0,m,h=>by
         have:m=0:=by omega
         subst this;rfl
 |n+1,0,_=>rfl|n+1,1,_=>rfl|n+1,m+2,h=>by have:=Eo n m (by omega);simp only[qS,eY.g1,o9,this,xbt]
def NW{P:Program}{t s:TypeId}(ad:∀y,dJ P (.struct [.int .i64,.int .i64,.str,y]) t=(dJ P y s&&true))(ae:∀y,dJ P (.slice 4 56 y) s=dJ P y t):∀n,dJ P (qS n) t=true
 |0=>rfl|n+1=>by rw[qS,ad,ae,NW ad ae n];rfl
theorem aoU{P:Program}{t s:TypeId}(ad:∀y,dJ P (.struct [.int .i64,.int .i64,.str,y]) t=(dJ P y s&&true))(ae:∀y,dJ P (.slice 4 56 y) s=dJ P y t)(ak:decide (t<P.types.size)=true):rU P qS t:=⟨λn=>Eo n n (by omega),NW ad ae,xbj ak,λn=>by cases n<;>rfl⟩
def Bc:∀(n:Nat){x:List D},mB (qS n) x->∃t:Tm,x=t.cells/\t.bR
 |0,x,h=>h.elim|n+1,x,h=>by obtain⟨a,b,rfl,aB,c,d,rfl,aj,e,f,rfl,he,g,i,rfl,bV,rfl⟩:=h;obtain⟨op,rfl,eB⟩:=w2 aB;obtain⟨nn,rfl,ln⟩:=w2 aj;obtain⟨s,rfl,aD⟩:=NS he;obtain⟨es,rfl,_,ak,nd⟩:=bV;obtain⟨ks,rfl,eH⟩:=qb Tm.cells Tm.bR es λx af=>Bc n (nd x af).2;refine⟨.mk op nn s false ks,?_,.mk _ _ _ _ _ eB ln (by omega) (by simpa using Nat.le_trans ak (by omega)) eH⟩;simp[Tm.cells,Tm.jl,bc]
def NX{H:Type}{F:ti}{Fs:List ti}{xs:List (DataW H)}{aM:List D}(h:tj (F::Fs) xs aM):∃x Mh d DK n,xs=x::Mh/\aM=d::DK/\NN (F n) x d/\wZ (F n) d/\tj Fs Mh DK:=by
 cases xs with
 |nil=>cases aM<;>exact h.elim
 |cons x xs=>cases aM with|nil=>exact h.elim|cons d aM=>obtain⟨⟨n,ad,ae⟩,az⟩:=h;exact⟨x,xs,d,aM,n,rfl,rfl,ad,ae,az⟩
def aoV{H:Type}{xs:List (DataW H)}{aM:List D}(h:tj [] xs aM):xs=[]/\aM=[]:=by cases xs<;>cases aM<;>first|exact⟨rfl,rfl⟩|exact h.elim
@[simp] theorem aFA (a:D):aL 1 (.agg [a])=a.one:=by simp[aL]
@[simp] theorem aoW (a b:D):aL 2 (.agg [a,b])=(a.one&&b.one):=by simp[aL]
@[simp] theorem aoX (a b c d e:D):aL 5 (.agg [a,b,c,d,e])=(a.one&&(b.one&&(c.one&&(d.one&&e.one)))):=by simp[aL]
@[simp] theorem aoY (a b c d e f:D):aL 6 (.agg [a,b,c,d,e,f])=(a.one&&(b.one&&(c.one&&(d.one&&(e.one&&f.one))))):=by simp[aL]
@[simp] theorem ab0 (a b c d e f g:D):aL 7 (.agg [a,b,c,d,e,f,g])=(a.one&&(b.one&&(c.one&&(d.one&&(e.one&&(f.one&&g.one)))))):=by simp[aL]
@[simp] theorem aoZ (a b c d e f g h:D):aL 8 (.agg [a,b,c,d,e,f,g,h])=(a.one&&(b.one&&(c.one&&(d.one&&(e.one&&(f.one&&(g.one&&h.one))))))):=by simp[aL]
@[simp] theorem aFB {a b c e f:D} {l:List D}:aa (.agg (a::b::c::e::f::l)) 4=f:=rfl
@[simp] theorem aFC {a b c e f g:D} {l:List D}:aa (.agg (a::b::c::e::f::g::l)) 5=g:=rfl
@[simp] theorem aFD {a b c e f g h:D} {l:List D}:aa (.agg (a::b::c::e::f::g::h::l)) 6=h:=rfl
@[simp] theorem aFE {a b c e f g h i:D} {l:List D}:aa (.agg (a::b::c::e::f::g::h::i::l)) 7=i:=rfl
theorem ab1{β:Type}{x y:Bool}{f:D->Option β}:R (dA (ax x) true (some (ax y))) (λv=>R (fW (ax x) v (ax false)) f)=f (ax (x&&y)):=by cases x<;>rfl
theorem kb{β:Type}{x y:Bool}{f:D->Option β}:R (dA (ax x) false (some (ax y))) (λv=>R (fW (ax x) (ax true) v) f)=f (ax (x||y)):=by cases x<;>rfl
inductive Fm where
 |mk (op:Int) (e:Tm) (nl:Bool) (al:List Fm)
def eS:Tm:= .mk 0 0 ⟨#[]⟩ true []
def y1:eS.bR:= .mk _ _ _ _ _ (by omega) (by omega) (by decide) (by simp) (by simp)
theorem NY:eS.d=D.agg [J 0,J 0,aI ⟨#[]⟩,D.val (.slice none 0 0)]:=rfl
namespace Fm
def op:Fm->Int| .mk o _ _ _=>o
def e:Fm->Tm| .mk _ t _ _=>t
def nl:Fm->Bool| .mk _ _ b _=>b
def al:Fm->List Fm| .mk _ _ _ l=>l
mutual
def cells:Fm->List D
 | .mk o t b ks=>[J o,J t.op,J t.num,aI t.name,bc 4 t.nl (Tm.rows t.al),bc 6 b (rows ks)]
def rows:List Fm->List (List D)
 |[]=>[]|t::r=>cells t::rows r
end
def d(t:Fm):D:= .agg t.cells
mutual
def a9:Fm->Nat
 | .mk _ t _ ks=>2+t.a9+c7 ks
def c7:List Fm->Nat
 |[]=>0|t::r=>1+a9 t+c7 r
end
def jl:∀l:List Fm,rows l=l.map cells
 |[]=>rfl|t::r=>by simp[rows,jl r]
@[simp] theorem jm {l:List Fm}:(rows l).length=l.length:=by simp[jl]
def HZ{l:List Fm}{i:Nat}{t:Fm}(h:l[i]?=some t):(rows l)[i]?=some t.cells:=by simp[jl,h]
def dz{l:List Fm}{b:Bool}{i:Nat}{t:Fm}(h:l[i]?=some t):bp 6 (bc 6 b (rows l)) (J (i:Int))=some t.cells:=by rw[T4,HZ h]
def vd:∀l:List Fm,l.length<=c7 l
 |[]=>xaX 0|t::r=>by simp only[c7,xax];have:=vd r;omega
def y0:∀{l:List Fm}{t:Fm},t∈l->a9 t+1<=c7 l
 |a::r,t,h=>by
  simp only[c7];rcases xas.1 h with rfl|h
  .omega
  have:=y0 h;omega
theorem lA(t:Fm):t.a9=2+t.e.a9+c7 t.al:=by cases t;rfl
def fb{t k:Fm}(h:k∈t.al):k.a9+3<=t.a9:=by have:=y0 h;have:=lA t;omega
def g9{t:Fm}:t.al.length+2<=t.a9:=by have:=vd t.al;have:=lA t;omega
def tn{t:Fm}:t.e.a9+2<=t.a9:=by have:=lA t;omega
def ind{P:Fm->Prop}(h:∀t:Fm,(∀k∈t.al,P k)->P t)(t:Fm):P t:=by
 have:∀(n:Nat)(t:Fm),t.a9<=n->P t:=by
  intro n
  induction n with
  |zero=>intro t aQ;cases t;simp[a9]at aQ
  |succ n ih=>intro t aQ;exact h t λk ai=>ih k (by have:=fb ai;omega)
 exact this _ t (xaX _)
inductive bR:Fm->Prop where
 |mk (o:Int) (t:Tm) (b:Bool) (ks:List Fm) (aC:-9223372036854775808<=o/\o<=9223372036854775807) (aQ:t.bR) (ak:ks.length*88<=140737488355328) (ai:∀k∈ks,bR k):bR (.mk o t b ks)
def bR.cL{t k:Fm}(h:bR t)(ai:k∈t.al):bR k:=by cases h with|mk o n s b ks aC aH aD=>exact aD k ai
def bR.len{t:Fm}(h:bR t):t.al.length*88<=140737488355328:=by cases h;assumption
def bR.e{t:Fm}(h:bR t):t.e.bR:=by cases h;assumption
def bR.op{t:Fm}(h:bR t):-9223372036854775808<=t.op/\t.op<=9223372036854775807:=by cases h;assumption
theorem nh(t:Fm):t.cells=[J t.op,J t.e.op,J t.e.num,aI t.e.name,bc 4 t.e.nl (Tm.rows t.e.al),bc 6 t.nl (rows t.al)]:=by cases t;rfl
theorem gI(t:Fm):t.d= .agg [J t.op,J t.e.op,J t.e.num,aI t.e.name,bc 4 t.e.nl (Tm.rows t.e.al),bc 6 t.nl (rows t.al)]:=by cases t;rfl
@[simp] theorem jn (t:Fm):aL 6 t.d=true:=by rw[gI];simp
@[simp] theorem qc (t:Fm):aa t.d 0=J t.op:=by rw[gI];rfl
@[simp] theorem tk (t:Fm):aa t.d 1=J t.e.op:=by rw[gI];rfl
@[simp] theorem ve (t:Fm):aa t.d 2=J t.e.num:=by rw[gI];rfl
@[simp] theorem tl (t:Fm):aa t.d 3=aI t.e.name:=by rw[gI];rfl
@[simp] theorem ao0 (t:Fm):aa t.d 4=bc 4 t.e.nl (Tm.rows t.e.al):=by rw[gI];rfl
@[simp] theorem ao1 (t:Fm):aa t.d 5=bc 6 t.nl (rows t.al):=by rw[gI];rfl
@[simp] theorem Ba (t:Fm):D.agg [J t.op,J t.e.op,J t.e.num,aI t.e.name,bc 4 t.e.nl (Tm.rows t.e.al),bc 6 t.nl (rows t.al)]=t.d:=(gI t).symm
@[simp high] theorem T5 (t:Fm):bh true 6 0 t.cells=some t.d:=by rw[gI,nh];rfl
end Fm
attribute [go_sem] et p8 ly p9 rT ab1 kb Eh NI o8 Ei Ej yZ TT aby aon Ek qR HU TO an9 aoa aob aoc aoH aod aoe aof aog aoh aoI aoi TP xbz xcc an6 aoj abJ aok aol abw xbt xaU Bool.and_self xay xaB xbT xbK xaq abM aoK aoL Bool.or_true Bool.true_or aoW aoM aoN aoX aoY ab0 aoZ abN abO abP an8 an7 Tm.jn Tm.qc Tm.tk Tm.ve Tm.tl Tm.Ba Tm.T5 Tm.jm Fm.jn Fm.qc Fm.tk Fm.ve Fm.tl Fm.ao0 Fm.ao1 Fm.Ba Fm.T5 Fm.jm
def nX:Nat->eY
 |0=> .stop|n+1=> .struct [.int .i64,qS (n+1),.slice 6 88 (nX n)]
def NZ:∀(n m:Nat),m<=2*n->(nX n).g1 m=true
 |0,m,h=>by
         have:m=0:=by omega
         subst this;rfl
 |n+1,0,_=>rfl|n+1,1,_=>by simp[nX,eY.g1,o9]|n+1,m+2,h=>by have:=NZ n m (by omega);have ae:=Eo (n+1) (m+1) (by omega);simp only[nX,eY.g1,o9,this,ae,xbt]
def ab2{P:Program}{t s r q:TypeId}(ad:∀y z,dJ P (.struct [.int .i64,y,z]) t=(dJ P y r&&(dJ P z s&&true)))(ae:∀y,dJ P (.slice 6 88 y) s=dJ P y t)(az:∀n,dJ P (qS n) r=true):∀n,dJ P (nX n) t=true
 |0=>rfl|n+1=>by rw[nX,ad,ae,ab2 (q:=q) ad ae az n,az];rfl
theorem Ua{P:Program}{t s r q:TypeId}(ad:∀y z,dJ P (.struct [.int .i64,y,z]) t=(dJ P y r&&(dJ P z s&&true)))(ae:∀y,dJ P (.slice 6 88 y) s=dJ P y t) (az:∀y,dJ P (.struct [.int .i64,.int .i64,.str,y]) r=(dJ P y q&&true)) (a3:∀y,dJ P (.slice 4 56 y) q=dJ P y r) (ak:decide (t<P.types.size)=true):rU P nX t:=⟨λn=>NZ n n (by omega),ab2 (q:=q) ad ae (NW az a3),xbj ak,λn=>by cases n<;>rfl⟩
def N0:∀(n:Nat){x:List D},mB (nX n) x->∃t:Fm,x=t.cells/\t.bR
 |0,x,h=>h.elim|n+1,x,h=>by obtain⟨a,b,rfl,aB,c,d,rfl,aj,g,i,rfl,bV,rfl⟩:=h;obtain⟨op,rfl,eB⟩:=w2 aB;obtain⟨t,rfl,aQ⟩:=Bc (n+1) aj;obtain⟨es,rfl,_,ak,nd⟩:=bV;obtain⟨ks,rfl,eH⟩:=qb Fm.cells Fm.bR es λx af=>N0 n (nd x af).2;refine⟨.mk op t false ks,?_,.mk _ _ _ _ eB aQ (by simpa using Nat.le_trans ak (by omega)) eH⟩;simp[Fm.cells,Fm.jl,bc,Tm.nh]
theorem ao2{n:Nat}{d:D}(h:wZ (nX n) d):∃t:Fm,d=t.d/\t.bR:=by cases n with|zero=>exact(h:False).elim|succ n=>obtain⟨aM,rfl,h⟩:=h;obtain⟨t,rfl,aQ⟩:=N0 (n+1) h;exact⟨t,rfl,aQ⟩
structure bm where
 name:ByteArray
 e:Tm
def bm.cells(d:bm):List D:=[aI d.name,J d.e.op,J d.e.num,aI d.e.name,bc 4 d.e.nl (Tm.rows d.e.al)]
def bm.d(d:bm):D:= .agg d.cells
def aJ(l:List bm):D:= .aE 5 (l.map bm.cells)
def bm.bR(d:bm):Prop:=d.name.size<=140737488351232/\d.e.bR
section
variable{l:List bm}{i:Nat}{d:bm}
def fJ(h:l[i]?=some d):bp 5 (aJ l) (J (i:Int))=some d.cells:=by simp[aJ,h]
def eT(l:List bm):bs (aJ l)=some (J l.length):=by simp[aJ]
@[simp] theorem bm.ao3 (d:bm):bh true 5 0 d.cells=some d.d:=rfl
@[simp] theorem bm.hH (d:bm):bh true 4 1 d.cells=some d.e.d:=by rw[Tm.gI];rfl
@[simp] theorem bm.gx (d:bm):bh false 1 0 d.cells=some (aI d.name):=rfl
@[simp] theorem bm.agg (d:bm):aL 5 d.d=true:=by unfold bm.d bm.cells;simp
@[simp] theorem bm.aX (d:bm):aa d.d 0=aI d.name:=rfl
@[simp] theorem bm.bl (d:bm):aa d.d 1=J d.e.op:=rfl
@[simp] theorem bm.bu (d:bm):aa d.d 2=J d.e.num:=rfl
@[simp] theorem bm.bT (d:bm):aa d.d 3=aI d.e.name:=rfl
@[simp] theorem bm.cM (d:bm):aa d.d 4=bc 4 d.e.nl (Tm.rows d.e.al):=rfl
end
def dB(l:List bm)(x:ByteArray):Option Nat:=l.findIdx? (λd=>decide (d.name=x))
def Ub{l:List bm}{x:ByteArray}{i:Nat}(h:dB l x=some i):∃d,l[i]?=some d/\d.name=x/\i<l.length:=by obtain⟨ad,ae,_⟩:=xbp.1 h;exact⟨_,xab ad,by simpa using ae,ad⟩
def dr(l:List Nat):D:= .aE 1 (l.map λ(i:Nat)=>[J (i:Int)])
def w5{l:List Nat}{i k:Nat}(h:l[i]?=some k):bp 1 (dr l) (J (i:Int))=some [J (k:Int)]:=by simp[dr,h]
def qT(l:List Nat):bs (dr l)=some (J l.length):=by simp[dr]
def ik(l:List (List Nat)):D:= .aE 1 (l.map λx=>[dr x])
def ao4{l:List (List Nat)}{i:Nat}{k:List Nat}(h:l[i]?=some k):bp 1 (ik l) (J (i:Int))=some [dr k]:=by simp[ik,h]
def fZ(M:List (Value×D))(S:List Nat):Prop:=w3 M/\∀i:Nat,nW M (i:Int)=if i∈S then some (ax true)else none
theorem fZ.nil:fZ [] []:=⟨by(intro e he;cases he),λi=>rfl⟩
def fZ.look{M:List (Value×D)}{S:List Nat}(h:fZ M S){i:Nat}{z:Value}:k6 (.int .i64) (.bool false) false M (J (i:Int))=some (ax (decide (i∈S))):=by rw[aoR h.1,h.2 i];by_cases ag:i∈S<;>simp[ag,sH]
def fZ.put{M:List (Value×D)}{S:List Nat}(h:fZ M S)(i:Nat):∃eZ,s4 (.int .i64) M (J (i:Int)) (ax true)=some eZ/\fZ eZ (if i∈S then S else S++[i]):=by
 obtain⟨eZ,ad,ae,az,_⟩:=aoS h.1 (i:Int) (ax true);refine⟨eZ,ad,ae,λj=>?_⟩;rw[az,h.2];by_cases aR:j=i;.subst aR;by_cases ag:j∈S<;>simp[ag]
 have:¬((j:Int)=(i:Int)):=by omega
 by_cases ag:i∈S<;>simp[this,ag,aR]
def fZ.mem{M:List (Value×D)}{S T:List Nat}(h:fZ M S)(hB:∀x,x∈S↔x∈T):fZ M T:=⟨h.1,λi=>by rw[h.2];simp only[hB i]⟩
def y2(n:Nat):eY:= .slice 5 72 (.struct [.str,qS n])
def ab3(n:Nat):∀m,m<=n->(y2 n).g1 m=true
 |0,_=>rfl|1,_=>by simp[y2,eY.g1]|m+2,h=>by have:=Eo n m (by omega);have:=Eo n (m+1) (by omega);have ae:eY.g1 m .str=true:=vc m .str rfl;simp only[y2,eY.g1,o9, *,xbt]
theorem ao5{P:Program}{t r q:TypeId}(ad:∀y,dJ P (.slice 5 72 (.struct [.str,y])) t=(dJ P y r&&true)) (az:∀y,dJ P (.struct [.int .i64,.int .i64,.str,y]) r=(dJ P y q&&true)) (a3:∀y,dJ P (.slice 4 56 y) q=dJ P y r) (ak:decide (t<P.types.size)=true):rU P y2 t:=⟨λn=>ab3 n n (xaX _),λn=>by rw[y2,ad,NW az a3 n];rfl,xbj ak,λn=>rfl⟩
def ab4{n:Nat}{x:List D}(h:mB (.struct [.str,qS n]) x):∃d:bm,x=d.cells/\d.bR:=by obtain⟨a,b,rfl,aB,c,e,rfl,aj,rfl⟩:=h;obtain⟨s,rfl,aD⟩:=NS aB;obtain⟨t,rfl,aQ⟩:=Bc n aj;exact⟨⟨s,t⟩,by simp[bm.cells,Tm.nh],aD,aQ⟩
end Go.Am
