/- Laws, on data. No condition. -/
import Derived.Test.YtjonbfbkkkcjgaaGreatDoorFrame41
import Derived.Test.YtjonbfbkkkcjgaaGreatDoorEngD
import Derived.Test.YtjonbfbkkkcjgaaGreatDoorZs
set_option linter.all false
set_option linter.unnecessarySimpa false
namespace Go.Am
open Go.Proofs Go.Proofs.YtjonbfbkkkcjgaaGreatDoor
open Go.ChangeShapes Go.WideShapes Go.ChangeAt Go.RowKit
def T5{H:Type}:∀(a b:List (DataW H)),Rows.uptoBulkAll a<=Rows.uptoBulkAll (a++b)
 |[],b=>by simp[Rows.uptoBulkAll]|x::a,b=>by simp only[xbD,Rows.uptoBulkAll];have:=T5 a b;omega
def Aa{H:Type}(x:DataW H):1<=Rows.uptoBulk x:=by
 cases x with
 |lit l=>cases l<;>simp[Rows.uptoBulk]
 |_=>simp[Rows.uptoBulk]
def Ab{H:Type}{k:IntKind}{x:DataW H}{a:lZ}(h:rd (.int k) x=some a):a.length=1:=by
 cases x with
 |lit l=>cases l with|int k n=>simp[rd]at h;rw[<-h];rfl|_=>simp[rd]at h
 |_=>simp[rd]at h
def E8{H:Type}{x:DataW H}{a:lZ}(h:rd .str x=some a):a.length=1:=by
 cases x with
 |lit l=>cases l with|string n=>simp[rd]at h;rw[<-h];rfl|_=>simp[rd]at h
 |_=>simp[rd]at h
def wa{c:Type}{l:List c}(h:l.length=1):∃x,l=[x]:=by
 cases l with
 |nil=>cases h
 |cons a r=>cases r with|nil=>exact⟨a,rfl⟩|cons b r=>simp at h
def T6{H i:Type}{f:DataW H->oY}{g:i->lZ}(aO:i->Nat)(c:Nat):∀(es:List (DataW H)) (l:List i),(∀e∈es,∀a,f e=some (g a)->aO a<=c*Rows.uptoBulk e)->es.mapM f=some (l.map g)->(l.map aO).sum<=c*Rows.uptoBulkAll es
 |[],l,_,h=>by cases l with|nil=>simp|cons a r=>simp at h
 |e::es,l,j,h=>by rw[List.mapM_cons]at h;cases b:f e with|none=>simp[b]at h|some y=>cases d:es.mapM f with|none=>simp[b,d]at h|some m=>simp[b,d]at h;cases l with|nil=>simp at h|cons a r=>simp only[xav,xbH]at h;obtain⟨rfl,rfl⟩:=h;have ab:=j e sZ a b;have ad:=T6 aO c es r (λe k=>j e (by simp[k])) d;simp only[xav,List.sum_cons,Rows.uptoBulkAll,Nat.mul_add];omega
def T7{c:Type}(aO:c->Nat):∀{l:List c}{a:c},a∈l->aO a<=(l.map aO).sum
 |b::r,a,h=>by
  simp only[xav,List.sum_cons];rcases xan.1 h with rfl|h
  .omega
  have:=T7 aO h;omega
def E9{H d:Type}{k b:Nat}{e:c4}{g:d->lZ}(aO:d->Nat)(c:Nat){y:DataW H}{l:List d}(j:∀(x:DataW H)(a:d),rd e x=some (g a)->aO a<=c*Rows.uptoBulk x)(h:rd (.slice k b e) y=some [.aw k (l.map g)]):(l.map aO).sum+c<=c*Rows.uptoBulk y:=by
 cases y with
 |nil=>
  simp only[rd,xaD,xbH,and_true,D.aw.injEq,true_and]at h;have:l=[]:=by simpa using h.symm
  subst this;simp[Rows.uptoBulk]
 |slice es sp=>simp only[rd]at h;obtain⟨m,f,i⟩:=xae.1 h;simp only[xbH,and_true,D.aw.injEq,true_and]at i;subst i;have:=T6 aO c es l (λe _ a h=>j e a h) f;simp only[Rows.uptoBulk,Nat.mul_add,Nat.mul_one];omega
 |_=>simp[rd]at h
def T8:∀l:List Tm,(l.map λt=>5*t.aO+5).sum=5*Tm.dp l
 |[]=>rfl|t::r=>by rw[xav,List.sum_cons,T8 r,Tm.dp];omega
def T9:∀l:List Fm,(l.map λt=>8*t.aO+8).sum=8*Fm.dp l
 |[]=>rfl|t::r=>by rw[xav,List.sum_cons,T9 r,Fm.dp];omega
def Ua{k:Nat}{nl:Bool}{f:mW}{x:D}(d:x=bM k nl f){H:Type}{b:Nat}{e:c4}{y:DataW H}(h:rd (.slice k b e) y=some [x]):x= .aw k f:=by
 cases y with
 |nil=>
  simp only[rd,xaD,xbH,and_true]at h;rw[d]at h⊢;unfold bM at h⊢;split;.rename_i c;rw[xac c]at h;cases h
  rfl
 |slice es sp=>
  simp only[rd]at h;obtain⟨g,_,a⟩:=xae.1 h;simp only[xbH,and_true]at a;rw[d]at a⊢;unfold bM at a⊢;split;.rename_i c;rw[xac c]at a;cases a
  rfl
 |_=>simp[rd]at h
def mL{H:Type}{k b:Nat}{e:c4}{y:DataW H}{d:lZ}(h:rd (.slice k b e) y=some d):∃x,d=[x]:=by
 cases y with
 |nil=>simp only[rd,xaD]at h;exact⟨_,h.symm⟩|slice es sp=>simp only[rd]at h;obtain⟨c,_,a⟩:=xae.1 h;exact⟨_,a.symm⟩
 |_=>simp[rd]at h
def Fa{H:Type}:∀(n:Nat)(x:DataW H)(t:Tm),rd (gD n) x=some t.cells->5*t.aO+5<=3*Rows.uptoBulk x
 |0,x,t,h=>by simp[gD,rd]at h
 |n+1,x,t,h=>by
  cases x with
  |agg parts=>
   simp only[gD,rd]at h
   match parts,h with
   |[p,q,r,u],h=>
    simp only[e7,xaH,xat]at h;obtain⟨a,k,h⟩:=xaS.1 h;obtain⟨c7,e,h⟩:=xae.1 h;obtain⟨b,l,e⟩:=xaS.1 e;obtain⟨dm,f,e⟩:=xae.1 e;obtain⟨c,m,f⟩:=xaS.1 f;obtain⟨A,g,f⟩:=xae.1 f;obtain⟨d,j,g⟩:=xaS.1 g;cases g;subst f e;obtain⟨a,rfl⟩:=wa (Ab k);obtain⟨b,rfl⟩:=wa (Ab l);obtain⟨c,rfl⟩:=wa (E8 m);obtain⟨B,rfl⟩:=mL j;rw[Tm.hU]at h;simp only[xbD,xaM,xbH,and_true]at h;obtain⟨_,_,_,h⟩:=h;have w:=Aa p;have y:=Aa q;have z:=Aa r;have i:=Ua h j;rw[i,Tm.gM]at j;have key:=E9 (λt:Tm=>5*t.aO+5) 3 (λx a o=>Fa n x a o) j;rw[T8]at key;have s:t.aO=Tm.dp t.aC+2:=by cases t;simp[Tm.aO,Tm.aC];omega
    simp only[Rows.uptoBulk,Rows.uptoBulkAll];omega
   |[],h=>simp[e7]at h|[_],h=>simp[e7]at h|[_,_],h=>simp[e7]at h|[_,_,_],h=>simp[e7]at h|_::_::_::_::_::_,h=>simp[e7]at h
  |_=>simp[gD,rd]at h
def ajj{H:Type}{n:Nat}{x:DataW H}{b:lZ}{t:Tm}{r s:lZ}(h:rd (gD n) x=some b)(m:b++r=t.cells++s):b=t.cells/\r=s:=by
 cases n with
 |zero=>simp[gD,rd]at h
 |succ n=>
  have ah:b.length=4:=by
   cases x with
   |agg parts=>
    simp only[gD,rd]at h
    match parts,h with
    |[o,p,q,u],h=>simp only[e7,xaH,xat]at h;obtain⟨a,i,h⟩:=xaS.1 h;obtain⟨c7,e,h⟩:=xae.1 h;obtain⟨b',j,e⟩:=xaS.1 e;obtain⟨dm,f,e⟩:=xae.1 e;obtain⟨c,k,f⟩:=xaS.1 f;obtain⟨w,g,f⟩:=xae.1 f;obtain⟨d,l,g⟩:=xaS.1 g;cases g;obtain⟨y,rfl⟩:=mL l;subst f e;rw[<-h];simp[Ab i,Ab j,E8 k]
    |[],h=>simp[e7]at h|[_],h=>simp[e7]at h|[_,_],h=>simp[e7]at h|[_,_,_],h=>simp[e7]at h|_::_::_::_::_::_,h=>simp[e7]at h
   |_=>simp[gD,rd]at h
  exact List.append_inj m (by rw[ah];simp[Tm.hU])
def Ub{H:Type}:∀(n:Nat)(x:DataW H)(t:Fm),rd (iL n) x=some t.cells->8*t.aO+8<=5*Rows.uptoBulk x
 |0,x,t,h=>by simp[iL,rd]at h
 |n+1,x,t,h=>by
  cases x with
  |agg parts=>
   simp only[iL,rd]at h
   match parts,h with
   |[q,r,u],h=>
    simp only[e7,xaH,xat]at h;obtain⟨a,k,h⟩:=xaS.1 h;obtain⟨c7,c,h⟩:=xae.1 h;obtain⟨b,j,c⟩:=xaS.1 c;obtain⟨dm,f,c⟩:=xae.1 c;obtain⟨d,i,f⟩:=xaS.1 f;cases f;subst c;obtain⟨a,rfl⟩:=wa (Ab k);obtain⟨z,rfl⟩:=mL i;have l:t.cells=aa t.op::(t.e.cells++[bM 6 t.nl (Fm.rows t.aC)]):=by rw[Fm.hU,Tm.hU];rfl
    rw[l]at h;simp only[xbD,xaM,xbH]at h;obtain⟨m,h⟩:=ajj j h.2;simp only[xbH,and_true]at h;rw[m]at j;have w:=Aa q;have y:=Fa (n+1) r t.e j;have g:=Ua h i;rw[g,Fm.gM]at i;have key:=E9 (λt:Fm=>8*t.aO+8) 5 (λx a p=>Ub n x a p) i;rw[T9]at key;have s:=t.xd;have o:2<=t.e.aO:=by cases t.e;simp[Tm.aO]
    simp only[Rows.uptoBulk,Rows.uptoBulkAll];omega
   |[],h=>simp[e7]at h|[_],h=>simp[e7]at h|[_,_],h=>simp[e7]at h|_::_::_::_::_,h=>simp[e7]at h
  |_=>simp[iL,rd]at h
def ajk{H:Type}{n:Nat}{x:DataW H}{d:a7}(h:rd (.struct [.str,gD n]) x=some d.cells):5*d.e.aO+5<=3*Rows.uptoBulk x:=by
 cases x with
 |agg parts=>
  simp only[rd]at h
  match parts,h with
  |[k,g],h=>
   simp only[e7,xaH,xat]at h;obtain⟨a,i,h⟩:=xaS.1 h;obtain⟨c7,c,h⟩:=xae.1 h;obtain⟨b,j,c⟩:=xaS.1 c;cases c;obtain⟨a,rfl⟩:=wa (E8 i);simp only[a7.cells,xbD,xaM,xbH]at h;have f:rd (gD n) g=some d.e.cells:=by rw[j,Tm.hU,h.2]
   have:=Fa n g d.e f;simp only[Rows.uptoBulk,Rows.uptoBulkAll];omega
  |[],h=>simp[e7]at h|[_],h=>simp[e7]at h|_::_::_::_,h=>simp[e7]at h
 |_=>simp[rd]at h
def ajl{H:Type}{n:Nat}{x:DataW H}{d:cp}(h:rd (.struct [.str,iL n]) x=some d.cells):8*d.f.aO+8<=5*Rows.uptoBulk x:=by
 cases x with
 |agg parts=>
  simp only[rd]at h
  match parts,h with
  |[k,g],h=>
   simp only[e7,xaH,xat]at h;obtain⟨a,i,h⟩:=xaS.1 h;obtain⟨c7,c,h⟩:=xae.1 h;obtain⟨b,j,c⟩:=xaS.1 c;cases c;obtain⟨a,rfl⟩:=wa (E8 i);simp only[cp.cells,xbD,xaM,xbH]at h;have e:rd (iL n) g=some d.f.cells:=by rw[j,Fm.hU,h.2]
   have:=Ub n g d.f e;simp only[Rows.uptoBulk,Rows.uptoBulkAll];omega
  |[],h=>simp[e7]at h|[_],h=>simp[e7]at h|_::_::_::_,h=>simp[e7]at h
 |_=>simp[rd]at h
def qT{H:Type}{f:c4}{e:List c4}{c:List (DataW H)}{d:lZ}(h:e7 (f::e) c=some d):∃p b a r,c=p::b/\rd f p=some a/\e7 e b=some r/\d=a++r:=by cases c with|nil=>simp[e7]at h|cons p b=>simp only[e7]at h;obtain⟨a,g,h⟩:=xaS.1 h;obtain⟨r,i,h⟩:=xae.1 h;exact⟨p,b,a,r,rfl,g,i,h.symm⟩
def sz{H d:Type}{k b:Nat}{e:c4}{g:d->lZ}(aO:d->Nat)(c:Nat){y:DataW H}{l:List d}(i:∀(x:DataW H)(a:d),rd e x=some (g a)->aO a<=c*Rows.uptoBulk x)(h:rd (.slice k b e) y=some [.aw k (l.map g)]){a:d}(f:a∈l):aO a<=c*Rows.uptoBulk y:=by have:=E9 aO c i h;have:=T7 aO f;omega
def ajm{H:Type}{n:Nat}{y:DataW H}{m:bA}(h:tE (qJ n) y m.d):(∀t∈m.ao.map a7.e++m.next.map a7.e++m.bb++m.bc++m.trans++m.a1,5*t.aO<=3*Rows.uptoBulk y)/\∀s∈m.a6,8*s.f.aO<=5*Rows.uptoBulk y:=by
 obtain⟨r,b,h⟩:=h;simp only[bA.d,D.agg.injEq]at b;cases y with
 |agg P=>
  simp only[rd]at h;obtain⟨G,s0,a0,Q,rfl,ak,f0,rfl⟩:=qT h;obtain⟨I,s1,aE,c7,rfl,ab,f1,rfl⟩:=qT f0;obtain⟨J,s2,a2,dm,rfl,ad,f2,rfl⟩:=qT f1;obtain⟨K,W,a3,R,rfl,ai,f3,rfl⟩:=qT f2;obtain⟨L,X,a4,S,rfl,l,f4,rfl⟩:=qT f3;obtain⟨M,Y,a5,T,rfl,g,f5,rfl⟩:=qT f4;obtain⟨N,Z,q,U,rfl,i,f6,rfl⟩:=qT f5;obtain⟨O,bY,ic,V,rfl,o,f7,rfl⟩:=qT f6;obtain⟨u,rfl⟩:=mL ak;obtain⟨w,rfl⟩:=mL ab;obtain⟨z,rfl⟩:=mL ad;obtain⟨A,rfl⟩:=mL ai;obtain⟨B,rfl⟩:=mL l;obtain⟨C,rfl⟩:=mL g;obtain⟨E,rfl⟩:=mL i;obtain⟨F,rfl⟩:=mL o;simp only[xbD,xaM,xbH]at b;obtain⟨g0,g1,g2,g3,g4,g5,g6,g7,_⟩:=b;subst g0 g1 g2 g3 g4 g5 g6 g7;simp only[al,Tm.gM]at ad ai g i;have k:∀(x:DataW H)(d:a7),rd (.struct [.str,gD n]) x=some d.cells->5*d.e.aO<=3*Rows.uptoBulk x:=λx d h=>by have:=ajk h;omega
  have c:∀(x:DataW H)(d:Tm),rd (gD n) x=some d.cells->5*d.aO<=3*Rows.uptoBulk x:=λx d h=>by have:=Fa n x d h;omega
  have p:∀(x:DataW H)(d:cp),rd (.struct [.str,iL n]) x=some d.cells->8*d.f.aO<=5*Rows.uptoBulk x:=λx d h=>by have:=ajl h;omega
  simp only[Rows.uptoBulk,Rows.uptoBulkAll];constructor
  .intro t a;simp only[xar,xaK]at a;rcases a with((((⟨d,j,rfl⟩|⟨d,j,rfl⟩)|a)|a)|a)|a
   .have:=sz (λd:a7=>5*d.e.aO) 3 k ab j;omega
   .have:=sz (λd:a7=>5*d.e.aO) 3 k l j;omega
   .have:=sz (λd:Tm=>5*d.aO) 3 c ad a;omega
   .have:=sz (λd:Tm=>5*d.aO) 3 c ai a;omega
   .have:=sz (λd:Tm=>5*d.aO) 3 c g a;omega
   have:=sz (λd:Tm=>5*d.aO) 3 c i a;omega
  intro s aj;have:=sz (λd:cp=>8*d.f.aO) 5 p o aj;omega
 |_=>simp[rd]at h
open Go.Proofs Go.Proofs.YtjonbfbkkkcjgaaGreatDoor
open Go.ChangeShapes Go.WideShapes Go.ChangeAt Go.RowKit
def ajn{H c:Type}{k b:Nat}{e:c4}{g:c->lZ}{y:DataW H}{l:List c}(h:rd (.slice k b e) y=some [.aw k (l.map g)]):l.length<=Rows.uptoBulk y:=by
 have:=E9 (g:=g) (λ_=>1) 1 (λx _ _=>by have:=Aa x;omega) h;have e:∀l:List c,(l.map λ_=>1).sum=l.length:=by
  intro l
  induction l with|nil=>rfl|cons a r ih=>simp[ih];omega
 rw[e]at this;omega
def Uc{H:Type}{x:DataW H}{l:lW}(h:tE tG x (LL l)):l.length<=Rows.uptoBulk x:=ajn h
open Go.Proofs Go.Proofs.YtjonbfbkkkcjgaaGreatDoor
open Go.ChangeShapes Go.WideShapes Go.ChangeAt Go.RowKit
end Go.Am
