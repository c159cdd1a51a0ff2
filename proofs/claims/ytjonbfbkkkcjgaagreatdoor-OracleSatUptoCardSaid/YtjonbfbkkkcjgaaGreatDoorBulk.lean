/- Laws, on data. No condition. -/
import Derived.Test.YtjonbfbkkkcjgaaGreatDoorFrame41
import Derived.Test.YtjonbfbkkkcjgaaGreatDoorEngD
import Derived.Test.YtjonbfbkkkcjgaaGreatDoorZs
set_option linter.all false
set_option linter.unnecessarySimpa false
namespace Go.Am
open Go.Proofs Go.Proofs.YtjonbfbkkkcjgaaGreatDoor
open Go.ChangeShapes Go.WideShapes Go.ChangeAt Go.RowKit
def VT{H:Type}:∀(a b:List (DataW H)),Rows.uptoBulkAll a<=Rows.uptoBulkAll (a++b)
 |[],b=>by simp[Rows.uptoBulkAll]|x::a,b=>by simp only[xbs,Rows.uptoBulkAll];have:=VT a b;omega
def GN{H:Type}(x:DataW H):1<=Rows.uptoBulk x:=by
 cases x with
 |lit l=>cases l<;>simp[Rows.uptoBulk]
 |_=>simp[Rows.uptoBulk]
def Bw{H:Type}{k:IntKind}{x:DataW H}{a:lZ}(h:rd (.int k) x=some a):a.length=1:=by
 cases x with
 |lit l=>cases l with|int k n=>simp[rd]at h;rw[<-h];rfl|_=>simp[rd]at h
 |_=>simp[rd]at h
def GO{H:Type}{x:DataW H}{a:lZ}(h:rd .str x=some a):a.length=1:=by
 cases x with
 |lit l=>cases l with|string n=>simp[rd]at h;rw[<-h];rfl|_=>simp[rd]at h
 |_=>simp[rd]at h
def xy{c:Type}{l:List c}(h:l.length=1):∃x,l=[x]:=by
 cases l with
 |nil=>cases h
 |cons a r=>cases r with|nil=>exact⟨a,rfl⟩|cons b r=>simp at h
def VU{H i:Type}{f:DataW H->oY}{g:i->lZ}(aS:i->Nat)(c:Nat):∀(es:List (DataW H)) (l:List i),(∀e∈es,∀a,f e=some (g a)->aS a<=c*Rows.uptoBulk e)->es.mapM f=some (l.map g)->(l.map aS).sum<=c*Rows.uptoBulkAll es
 |[],l,_,h=>by cases l with|nil=>simp|cons a r=>simp at h
 |e::es,l,j,h=>by rw[List.mapM_cons]at h;cases b:f e with|none=>simp[b]at h|some y=>cases d:es.mapM f with|none=>simp[b,d]at h|some m=>simp[b,d]at h;cases l with|nil=>simp at h|cons a r=>simp only[xaw,xbI]at h;obtain⟨rfl,rfl⟩:=h;have ab:=j e sZ a b;have ad:=VU aS c es r (λe k=>j e (by simp[k])) d;simp only[xaw,List.sum_cons,Rows.uptoBulkAll,Nat.mul_add];omega
def VV{c:Type}(aS:c->Nat):∀{l:List c}{a:c},a∈l->aS a<=(l.map aS).sum
 |b::r,a,h=>by
  simp only[xaw,List.sum_cons];rcases xao.1 h with rfl|h
  .omega
  have:=VV aS h;omega
def L7{H d:Type}{k b:Nat}{e:dr}{g:d->lZ}(aS:d->Nat)(c:Nat){y:DataW H}{l:List d}(j:∀(x:DataW H)(a:d),rd e x=some (g a)->aS a<=c*Rows.uptoBulk x)(h:rd (.slice k b e) y=some [.aw k (l.map g)]):(l.map aS).sum+c<=c*Rows.uptoBulk y:=by
 cases y with
 |nil=>
  simp only[rd,xaE,xbI,and_true,D.aw.injEq,true_and]at h;have:l=[]:=by simpa using h.symm
  subst this;simp[Rows.uptoBulk]
 |slice es sp=>simp only[rd]at h;obtain⟨m,f,i⟩:=xae.1 h;simp only[xbI,and_true,D.aw.injEq,true_and]at i;subst i;have:=VU aS c es l (λe _ a h=>j e a h) f;simp only[Rows.uptoBulk,Nat.mul_add,Nat.mul_one];omega
 |_=>simp[rd]at h
def VW:∀l:List Tm,(l.map λt=>5*t.aS+5).sum=5*Tm.cY l
 |[]=>rfl|t::r=>by rw[xaw,List.sum_cons,VW r,Tm.cY];omega
def VX:∀l:List Fm,(l.map λt=>8*t.aS+8).sum=8*Fm.cY l
 |[]=>rfl|t::r=>by rw[xaw,List.sum_cons,VX r,Fm.cY];omega
def VY{k:Nat}{nl:Bool}{f:mW}{x:D}(d:x=bI k nl f){H:Type}{b:Nat}{e:dr}{y:DataW H}(h:rd (.slice k b e) y=some [x]):x= .aw k f:=by
 cases y with
 |nil=>
  simp only[rd,xaE,xbI,and_true]at h;rw[d]at h⊢;unfold bI at h⊢;split;.rename_i c;rw[xac c]at h;cases h
  rfl
 |slice es sp=>
  simp only[rd]at h;obtain⟨g,_,a⟩:=xae.1 h;simp only[xbI,and_true]at a;rw[d]at a⊢;unfold bI at a⊢;split;.rename_i c;rw[xac c]at a;cases a
  rfl
 |_=>simp[rd]at h
def nE{H:Type}{k b:Nat}{e:dr}{y:DataW H}{d:lZ}(h:rd (.slice k b e) y=some d):∃x,d=[x]:=by
 cases y with
 |nil=>simp only[rd,xaE]at h;exact⟨_,h.symm⟩|slice es sp=>simp only[rd]at h;obtain⟨c,_,a⟩:=xae.1 h;exact⟨_,a.symm⟩
 |_=>simp[rd]at h
def GP{H:Type}:∀(n:Nat)(x:DataW H)(t:Tm),rd (gW n) x=some t.cells->5*t.aS+5<=3*Rows.uptoBulk x
 |0,x,t,h=>by simp[gW,rd]at h
 |n+1,x,t,h=>by
  cases x with
  |agg parts=>
   simp only[gW,rd]at h
   match parts,h with
   |[p,q,r,u],h=>
    simp only[fz,xaI,xat]at h;obtain⟨a,k,h⟩:=xaT.1 h;obtain⟨c5,e,h⟩:=xae.1 h;obtain⟨b,l,e⟩:=xaT.1 e;obtain⟨dk,f,e⟩:=xae.1 e;obtain⟨c,m,f⟩:=xaT.1 f;obtain⟨A,g,f⟩:=xae.1 f;obtain⟨d,j,g⟩:=xaT.1 g;cases g;subst f e;obtain⟨a,rfl⟩:=xy (Bw k);obtain⟨b,rfl⟩:=xy (Bw l);obtain⟨c,rfl⟩:=xy (GO m);obtain⟨B,rfl⟩:=nE j;rw[Tm.h9]at h;simp only[xbs,xaM,xbI,and_true]at h;obtain⟨_,_,_,h⟩:=h;have w:=GN p;have y:=GN q;have z:=GN r;have i:=VY h j;rw[i,Tm.fR]at j;have key:=L7 (λt:Tm=>5*t.aS+5) 3 (λx a o=>GP n x a o) j;rw[VW]at key;have s:t.aS=Tm.cY t.az+2:=by cases t;simp[Tm.aS,Tm.az];omega
    simp only[Rows.uptoBulk,Rows.uptoBulkAll];omega
   |[],h=>simp[fz]at h|[_],h=>simp[fz]at h|[_,_],h=>simp[fz]at h|[_,_,_],h=>simp[fz]at h|_::_::_::_::_::_,h=>simp[fz]at h
  |_=>simp[gW,rd]at h
def ak9{H:Type}{n:Nat}{x:DataW H}{b:lZ}{t:Tm}{r s:lZ}(h:rd (gW n) x=some b)(m:b++r=t.cells++s):b=t.cells/\r=s:=by
 cases n with
 |zero=>simp[gW,rd]at h
 |succ n=>
  have ah:b.length=4:=by
   cases x with
   |agg parts=>
    simp only[gW,rd]at h
    match parts,h with
    |[o,p,q,u],h=>simp only[fz,xaI,xat]at h;obtain⟨a,i,h⟩:=xaT.1 h;obtain⟨c5,e,h⟩:=xae.1 h;obtain⟨b',j,e⟩:=xaT.1 e;obtain⟨dk,f,e⟩:=xae.1 e;obtain⟨c,k,f⟩:=xaT.1 f;obtain⟨w,g,f⟩:=xae.1 f;obtain⟨d,l,g⟩:=xaT.1 g;cases g;obtain⟨y,rfl⟩:=nE l;subst f e;rw[<-h];simp[Bw i,Bw j,GO k]
    |[],h=>simp[fz]at h|[_],h=>simp[fz]at h|[_,_],h=>simp[fz]at h|[_,_,_],h=>simp[fz]at h|_::_::_::_::_::_,h=>simp[fz]at h
   |_=>simp[gW,rd]at h
  exact List.append_inj m (by rw[ah];simp[Tm.h9])
def L8{H:Type}:∀(n:Nat)(x:DataW H)(t:Fm),rd (hF n) x=some t.cells->8*t.aS+8<=5*Rows.uptoBulk x
 |0,x,t,h=>by simp[hF,rd]at h
 |n+1,x,t,h=>by
  cases x with
  |agg parts=>
   simp only[hF,rd]at h
   match parts,h with
   |[q,r,u],h=>
    simp only[fz,xaI,xat]at h;obtain⟨a,k,h⟩:=xaT.1 h;obtain⟨c5,c,h⟩:=xae.1 h;obtain⟨b,j,c⟩:=xaT.1 c;obtain⟨dk,f,c⟩:=xae.1 c;obtain⟨d,i,f⟩:=xaT.1 f;cases f;subst c;obtain⟨a,rfl⟩:=xy (Bw k);obtain⟨z,rfl⟩:=nE i;have l:t.cells=aa t.op::(t.e.cells++[bI 6 t.nl (Fm.rows t.az)]):=by rw[Fm.h9,Tm.h9];rfl
    rw[l]at h;simp only[xbs,xaM,xbI]at h;obtain⟨m,h⟩:=ak9 j h.2;simp only[xbI,and_true]at h;rw[m]at j;have w:=GN q;have y:=GP (n+1) r t.e j;have g:=VY h i;rw[g,Fm.fR]at i;have key:=L7 (λt:Fm=>8*t.aS+8) 5 (λx a p=>L8 n x a p) i;rw[VX]at key;have s:=t.n3;have o:2<=t.e.aS:=by cases t.e;simp[Tm.aS]
    simp only[Rows.uptoBulk,Rows.uptoBulkAll];omega
   |[],h=>simp[fz]at h|[_],h=>simp[fz]at h|[_,_],h=>simp[fz]at h|_::_::_::_::_,h=>simp[fz]at h
  |_=>simp[hF,rd]at h
def ala{H:Type}{n:Nat}{x:DataW H}{d:bd}(h:rd (.struct [.str,gW n]) x=some d.cells):5*d.e.aS+5<=3*Rows.uptoBulk x:=by
 cases x with
 |agg parts=>
  simp only[rd]at h
  match parts,h with
  |[k,g],h=>
   simp only[fz,xaI,xat]at h;obtain⟨a,i,h⟩:=xaT.1 h;obtain⟨c5,c,h⟩:=xae.1 h;obtain⟨b,j,c⟩:=xaT.1 c;cases c;obtain⟨a,rfl⟩:=xy (GO i);simp only[bd.cells,xbs,xaM,xbI]at h;have f:rd (gW n) g=some d.e.cells:=by rw[j,Tm.h9,h.2]
   have:=GP n g d.e f;simp only[Rows.uptoBulk,Rows.uptoBulkAll];omega
  |[],h=>simp[fz]at h|[_],h=>simp[fz]at h|_::_::_::_,h=>simp[fz]at h
 |_=>simp[rd]at h
def alb{H:Type}{n:Nat}{x:DataW H}{d:cv}(h:rd (.struct [.str,hF n]) x=some d.cells):8*d.f.aS+8<=5*Rows.uptoBulk x:=by
 cases x with
 |agg parts=>
  simp only[rd]at h
  match parts,h with
  |[k,g],h=>
   simp only[fz,xaI,xat]at h;obtain⟨a,i,h⟩:=xaT.1 h;obtain⟨c5,c,h⟩:=xae.1 h;obtain⟨b,j,c⟩:=xaT.1 c;cases c;obtain⟨a,rfl⟩:=xy (GO i);simp only[cv.cells,xbs,xaM,xbI]at h;have e:rd (hF n) g=some d.f.cells:=by rw[j,Fm.h9,h.2]
   have:=L8 n g d.f e;simp only[Rows.uptoBulk,Rows.uptoBulkAll];omega
  |[],h=>simp[fz]at h|[_],h=>simp[fz]at h|_::_::_::_,h=>simp[fz]at h
 |_=>simp[rd]at h
def rD{H:Type}{f:dr}{e:List dr}{c:List (DataW H)}{d:lZ}(h:fz (f::e) c=some d):∃p b a r,c=p::b/\rd f p=some a/\fz e b=some r/\d=a++r:=by cases c with|nil=>simp[fz]at h|cons p b=>simp only[fz]at h;obtain⟨a,g,h⟩:=xaT.1 h;obtain⟨r,i,h⟩:=xae.1 h;exact⟨p,b,a,r,rfl,g,i,h.symm⟩
def tE{H d:Type}{k b:Nat}{e:dr}{g:d->lZ}(aS:d->Nat)(c:Nat){y:DataW H}{l:List d}(i:∀(x:DataW H)(a:d),rd e x=some (g a)->aS a<=c*Rows.uptoBulk x)(h:rd (.slice k b e) y=some [.aw k (l.map g)]){a:d}(f:a∈l):aS a<=c*Rows.uptoBulk y:=by have:=L7 aS c i h;have:=VV aS f;omega
def alc{H:Type}{n:Nat}{y:DataW H}{m:bH}(h:sm (rp n) y m.d):(∀t∈m.ao.map bd.e++m.next.map bd.e++m.bg++m.bh++m.trans++m.bb,5*t.aS<=3*Rows.uptoBulk y)/\∀s∈m.bc,8*s.f.aS<=5*Rows.uptoBulk y:=by
 obtain⟨r,b,h⟩:=h;simp only[bH.d,D.agg.injEq]at b;cases y with
 |agg P=>
  simp only[rd]at h;obtain⟨G,s0,a0,Q,rfl,ak,f0,rfl⟩:=rD h;obtain⟨I,s1,aG,c5,rfl,ab,f1,rfl⟩:=rD f0;obtain⟨J,s2,a2,dk,rfl,ad,f2,rfl⟩:=rD f1;obtain⟨K,W,a3,R,rfl,ai,f3,rfl⟩:=rD f2;obtain⟨L,X,a4,S,rfl,l,f4,rfl⟩:=rD f3;obtain⟨M,Y,a5,T,rfl,g,f5,rfl⟩:=rD f4;obtain⟨N,Z,q,U,rfl,i,f6,rfl⟩:=rD f5;obtain⟨O,bX,iK,V,rfl,o,f7,rfl⟩:=rD f6;obtain⟨u,rfl⟩:=nE ak;obtain⟨w,rfl⟩:=nE ab;obtain⟨z,rfl⟩:=nE ad;obtain⟨A,rfl⟩:=nE ai;obtain⟨B,rfl⟩:=nE l;obtain⟨C,rfl⟩:=nE g;obtain⟨E,rfl⟩:=nE i;obtain⟨F,rfl⟩:=nE o;simp only[xbs,xaM,xbI]at b;obtain⟨g0,g1,g2,g3,g4,g5,g6,g7,_⟩:=b;subst g0 g1 g2 g3 g4 g5 g6 g7;simp only[an,Tm.fR]at ad ai g i;have k:∀(x:DataW H)(d:bd),rd (.struct [.str,gW n]) x=some d.cells->5*d.e.aS<=3*Rows.uptoBulk x:=λx d h=>by have:=ala h;omega
  have c:∀(x:DataW H)(d:Tm),rd (gW n) x=some d.cells->5*d.aS<=3*Rows.uptoBulk x:=λx d h=>by have:=GP n x d h;omega
  have p:∀(x:DataW H)(d:cv),rd (.struct [.str,hF n]) x=some d.cells->8*d.f.aS<=5*Rows.uptoBulk x:=λx d h=>by have:=alb h;omega
  simp only[Rows.uptoBulk,Rows.uptoBulkAll];constructor
  .intro t a;simp only[xar,xaK]at a;rcases a with((((⟨d,j,rfl⟩|⟨d,j,rfl⟩)|a)|a)|a)|a
   .have:=tE (λd:bd=>5*d.e.aS) 3 k ab j;omega
   .have:=tE (λd:bd=>5*d.e.aS) 3 k l j;omega
   .have:=tE (λd:Tm=>5*d.aS) 3 c ad a;omega
   .have:=tE (λd:Tm=>5*d.aS) 3 c ai a;omega
   .have:=tE (λd:Tm=>5*d.aS) 3 c g a;omega
   have:=tE (λd:Tm=>5*d.aS) 3 c i a;omega
  intro s aj;have:=tE (λd:cv=>8*d.f.aS) 5 p o aj;omega
 |_=>simp[rd]at h
open Go.Proofs Go.Proofs.YtjonbfbkkkcjgaaGreatDoor
open Go.ChangeShapes Go.WideShapes Go.ChangeAt Go.RowKit
open Go.Proofs Go.Proofs.YtjonbfbkkkcjgaaGreatDoor
open Go.ChangeShapes Go.WideShapes Go.ChangeAt Go.RowKit
def ald{H:Type}{n:Nat}{y:DataW H}{f:Fm}(h:sm (hF n) y f.d):8*f.aS+8<=5*Rows.uptoBulk y:=by refine L8 n y f ?_;cases n with|zero=>simp[hF,sm,rd,Fm.d]at h|succ n=>obtain⟨b,a,h⟩:=h;simp only[Fm.d,D.agg.injEq]at a;subst a;exact h
end Go.Am
