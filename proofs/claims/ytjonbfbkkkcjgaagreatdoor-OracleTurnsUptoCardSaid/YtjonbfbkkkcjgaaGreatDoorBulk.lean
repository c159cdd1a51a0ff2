/- Laws, on data. No condition. -/
import Derived.Test.YtjonbfbkkkcjgaaGreatDoorFrame41
import Derived.Test.YtjonbfbkkkcjgaaGreatDoorEngD
import Derived.Test.YtjonbfbkkkcjgaaGreatDoorZs
set_option linter.all false
set_option linter.unnecessarySimpa false
namespace Go.Am
open Go.Proofs Go.Proofs.YtjonbfbkkkcjgaaGreatDoor
open Go.ChangeShapes Go.WideShapes Go.ChangeAt Go.RowKit
def L0{H:Type}:∀(a b:List (DataW H)),Rows.uptoBulkAll a<=Rows.uptoBulkAll (a++b)
 |[],b=>by simp[Rows.uptoBulkAll]|x::a,b=>by simp only[xbs,Rows.uptoBulkAll];have:=L0 a b;omega
def Bt{H:Type}(x:DataW H):1<=Rows.uptoBulk x:=by
 cases x with
 |lit l=>cases l<;>simp[Rows.uptoBulk]
 |_=>simp[Rows.uptoBulk]
def Bu{H:Type}{k:IntKind}{x:DataW H}{a:lZ}(h:rd (.int k) x=some a):a.length=1:=by
 cases x with
 |lit l=>cases l with|int k n=>simp[rd]at h;rw[<-h];rfl|_=>simp[rd]at h
 |_=>simp[rd]at h
def GQ{H:Type}{x:DataW H}{a:lZ}(h:rd .str x=some a):a.length=1:=by
 cases x with
 |lit l=>cases l with|string n=>simp[rd]at h;rw[<-h];rfl|_=>simp[rd]at h
 |_=>simp[rd]at h
def xu{c:Type}{l:List c}(h:l.length=1):∃x,l=[x]:=by
 cases l with
 |nil=>cases h
 |cons a r=>cases r with|nil=>exact⟨a,rfl⟩|cons b r=>simp at h
def V6{H i:Type}{f:DataW H->oY}{g:i->lZ}(aP:i->Nat)(c:Nat):∀(es:List (DataW H)) (l:List i),(∀e∈es,∀a,f e=some (g a)->aP a<=c*Rows.uptoBulk e)->es.mapM f=some (l.map g)->(l.map aP).sum<=c*Rows.uptoBulkAll es
 |[],l,_,h=>by cases l with|nil=>simp|cons a r=>simp at h
 |e::es,l,j,h=>by rw[List.mapM_cons]at h;cases b:f e with|none=>simp[b]at h|some y=>cases d:es.mapM f with|none=>simp[b,d]at h|some m=>simp[b,d]at h;cases l with|nil=>simp at h|cons a r=>simp only[xaw,xbI]at h;obtain⟨rfl,rfl⟩:=h;have ab:=j e sZ a b;have ae:=V6 aP c es r (λe k=>j e (by simp[k])) d;simp only[xaw,List.sum_cons,Rows.uptoBulkAll,Nat.mul_add];omega
def V7{c:Type}(aP:c->Nat):∀{l:List c}{a:c},a∈l->aP a<=(l.map aP).sum
 |b::r,a,h=>by
  simp only[xaw,List.sum_cons];rcases xam.1 h with rfl|h
  .omega
  have:=V7 aP h;omega
def GR{H d:Type}{k b:Nat}{e:dc}{g:d->lZ}(aP:d->Nat)(c:Nat){y:DataW H}{l:List d}(j:∀(x:DataW H)(a:d),rd e x=some (g a)->aP a<=c*Rows.uptoBulk x)(h:rd (.slice k b e) y=some [.aw k (l.map g)]):(l.map aP).sum+c<=c*Rows.uptoBulk y:=by
 cases y with
 |nil=>
  simp only[rd,xaE,xbI,and_true,D.aw.injEq,true_and]at h;have:l=[]:=by simpa using h.symm
  subst this;simp[Rows.uptoBulk]
 |slice es sp=>simp only[rd]at h;obtain⟨m,f,i⟩:=xae.1 h;simp only[xbI,and_true,D.aw.injEq,true_and]at i;subst i;have:=V6 aP c es l (λe _ a h=>j e a h) f;simp only[Rows.uptoBulk,Nat.mul_add,Nat.mul_one];omega
 |_=>simp[rd]at h
def V8:∀l:List Tm,(l.map λt=>5*t.aP+5).sum=5*Tm.cS l
 |[]=>rfl|t::r=>by rw[xaw,List.sum_cons,V8 r,Tm.cS];omega
def V9:∀l:List Fm,(l.map λt=>8*t.aP+8).sum=8*Fm.cS l
 |[]=>rfl|t::r=>by rw[xaw,List.sum_cons,V9 r,Fm.cS];omega
def Wa{k:Nat}{nl:Bool}{f:mW}{x:D}(d:x=bJ k nl f){H:Type}{b:Nat}{e:dc}{y:DataW H}(h:rd (.slice k b e) y=some [x]):x= .aw k f:=by
 cases y with
 |nil=>
  simp only[rd,xaE,xbI,and_true]at h;rw[d]at h⊢;unfold bJ at h⊢;split;.rename_i c;rw[xac c]at h;cases h
  rfl
 |slice es sp=>
  simp only[rd]at h;obtain⟨g,_,a⟩:=xae.1 h;simp only[xbI,and_true]at a;rw[d]at a⊢;unfold bJ at a⊢;split;.rename_i c;rw[xac c]at a;cases a
  rfl
 |_=>simp[rd]at h
def nI{H:Type}{k b:Nat}{e:dc}{y:DataW H}{d:lZ}(h:rd (.slice k b e) y=some d):∃x,d=[x]:=by
 cases y with
 |nil=>simp only[rd,xaE]at h;exact⟨_,h.symm⟩|slice es sp=>simp only[rd]at h;obtain⟨c,_,a⟩:=xae.1 h;exact⟨_,a.symm⟩
 |_=>simp[rd]at h
def GS{H:Type}:∀(n:Nat)(x:DataW H)(t:Tm),rd (gW n) x=some t.cells->5*t.aP+5<=3*Rows.uptoBulk x
 |0,x,t,h=>by simp[gW,rd]at h
 |n+1,x,t,h=>by
  cases x with
  |agg parts=>
   simp only[gW,rd]at h
   match parts,h with
   |[p,q,r,u],h=>
    simp only[fw,xaI,xat]at h;obtain⟨a,k,h⟩:=xaT.1 h;obtain⟨c3,e,h⟩:=xae.1 h;obtain⟨b,l,e⟩:=xaT.1 e;obtain⟨df,f,e⟩:=xae.1 e;obtain⟨c,m,f⟩:=xaT.1 f;obtain⟨A,g,f⟩:=xae.1 f;obtain⟨d,j,g⟩:=xaT.1 g;cases g;subst f e;obtain⟨a,rfl⟩:=xu (Bu k);obtain⟨b,rfl⟩:=xu (Bu l);obtain⟨c,rfl⟩:=xu (GQ m);obtain⟨B,rfl⟩:=nI j;rw[Tm.hj]at h;simp only[xbs,xaM,xbI,and_true]at h;obtain⟨_,_,_,h⟩:=h;have w:=Bt p;have y:=Bt q;have z:=Bt r;have i:=Wa h j;rw[i,Tm.fP]at j;have key:=GR (λt:Tm=>5*t.aP+5) 3 (λx a o=>GS n x a o) j;rw[V8]at key;have s:t.aP=Tm.cS t.aC+2:=by cases t;simp[Tm.aP,Tm.aC];omega
    simp only[Rows.uptoBulk,Rows.uptoBulkAll];omega
   |[],h=>simp[fw]at h|[_],h=>simp[fw]at h|[_,_],h=>simp[fw]at h|[_,_,_],h=>simp[fw]at h|_::_::_::_::_::_,h=>simp[fw]at h
  |_=>simp[gW,rd]at h
def ale{H:Type}{n:Nat}{x:DataW H}{b:lZ}{t:Tm}{r s:lZ}(h:rd (gW n) x=some b)(m:b++r=t.cells++s):b=t.cells/\r=s:=by
 cases n with
 |zero=>simp[gW,rd]at h
 |succ n=>
  have ah:b.length=4:=by
   cases x with
   |agg parts=>
    simp only[gW,rd]at h
    match parts,h with
    |[o,p,q,u],h=>simp only[fw,xaI,xat]at h;obtain⟨a,i,h⟩:=xaT.1 h;obtain⟨c3,e,h⟩:=xae.1 h;obtain⟨b',j,e⟩:=xaT.1 e;obtain⟨df,f,e⟩:=xae.1 e;obtain⟨c,k,f⟩:=xaT.1 f;obtain⟨w,g,f⟩:=xae.1 f;obtain⟨d,l,g⟩:=xaT.1 g;cases g;obtain⟨y,rfl⟩:=nI l;subst f e;rw[<-h];simp[Bu i,Bu j,GQ k]
    |[],h=>simp[fw]at h|[_],h=>simp[fw]at h|[_,_],h=>simp[fw]at h|[_,_,_],h=>simp[fw]at h|_::_::_::_::_::_,h=>simp[fw]at h
   |_=>simp[gW,rd]at h
  exact List.append_inj m (by rw[ah];simp[Tm.hj])
def L1{H:Type}:∀(n:Nat)(x:DataW H)(t:Fm),rd (gX n) x=some t.cells->8*t.aP+8<=5*Rows.uptoBulk x
 |0,x,t,h=>by simp[gX,rd]at h
 |n+1,x,t,h=>by
  cases x with
  |agg parts=>
   simp only[gX,rd]at h
   match parts,h with
   |[q,r,u],h=>
    simp only[fw,xaI,xat]at h;obtain⟨a,k,h⟩:=xaT.1 h;obtain⟨c3,c,h⟩:=xae.1 h;obtain⟨b,j,c⟩:=xaT.1 c;obtain⟨df,f,c⟩:=xae.1 c;obtain⟨d,i,f⟩:=xaT.1 f;cases f;subst c;obtain⟨a,rfl⟩:=xu (Bu k);obtain⟨z,rfl⟩:=nI i;have l:t.cells=aa t.op::(t.e.cells++[bJ 6 t.nl (Fm.rows t.aC)]):=by rw[Fm.hj,Tm.hj];rfl
    rw[l]at h;simp only[xbs,xaM,xbI]at h;obtain⟨m,h⟩:=ale j h.2;simp only[xbI,and_true]at h;rw[m]at j;have w:=Bt q;have y:=GS (n+1) r t.e j;have g:=Wa h i;rw[g,Fm.fP]at i;have key:=GR (λt:Fm=>8*t.aP+8) 5 (λx a p=>L1 n x a p) i;rw[V9]at key;have s:=t.pt;have o:2<=t.e.aP:=by cases t.e;simp[Tm.aP]
    simp only[Rows.uptoBulk,Rows.uptoBulkAll];omega
   |[],h=>simp[fw]at h|[_],h=>simp[fw]at h|[_,_],h=>simp[fw]at h|_::_::_::_::_,h=>simp[fw]at h
  |_=>simp[gX,rd]at h
def alf{H:Type}{n:Nat}{x:DataW H}{d:bd}(h:rd (.struct [.str,gW n]) x=some d.cells):5*d.e.aP+5<=3*Rows.uptoBulk x:=by
 cases x with
 |agg parts=>
  simp only[rd]at h
  match parts,h with
  |[k,g],h=>
   simp only[fw,xaI,xat]at h;obtain⟨a,i,h⟩:=xaT.1 h;obtain⟨c3,c,h⟩:=xae.1 h;obtain⟨b,j,c⟩:=xaT.1 c;cases c;obtain⟨a,rfl⟩:=xu (GQ i);simp only[bd.cells,xbs,xaM,xbI]at h;have f:rd (gW n) g=some d.e.cells:=by rw[j,Tm.hj,h.2]
   have:=GS n g d.e f;simp only[Rows.uptoBulk,Rows.uptoBulkAll];omega
  |[],h=>simp[fw]at h|[_],h=>simp[fw]at h|_::_::_::_,h=>simp[fw]at h
 |_=>simp[rd]at h
def alg{H:Type}{n:Nat}{x:DataW H}{d:cv}(h:rd (.struct [.str,gX n]) x=some d.cells):8*d.f.aP+8<=5*Rows.uptoBulk x:=by
 cases x with
 |agg parts=>
  simp only[rd]at h
  match parts,h with
  |[k,g],h=>
   simp only[fw,xaI,xat]at h;obtain⟨a,i,h⟩:=xaT.1 h;obtain⟨c3,c,h⟩:=xae.1 h;obtain⟨b,j,c⟩:=xaT.1 c;cases c;obtain⟨a,rfl⟩:=xu (GQ i);simp only[cv.cells,xbs,xaM,xbI]at h;have e:rd (gX n) g=some d.f.cells:=by rw[j,Fm.hj,h.2]
   have:=L1 n g d.f e;simp only[Rows.uptoBulk,Rows.uptoBulkAll];omega
  |[],h=>simp[fw]at h|[_],h=>simp[fw]at h|_::_::_::_,h=>simp[fw]at h
 |_=>simp[rd]at h
def rH{H:Type}{f:dc}{e:List dc}{c:List (DataW H)}{d:lZ}(h:fw (f::e) c=some d):∃p b a r,c=p::b/\rd f p=some a/\fw e b=some r/\d=a++r:=by cases c with|nil=>simp[fw]at h|cons p b=>simp only[fw]at h;obtain⟨a,g,h⟩:=xaT.1 h;obtain⟨r,i,h⟩:=xae.1 h;exact⟨p,b,a,r,rfl,g,i,h.symm⟩
def tH{H d:Type}{k b:Nat}{e:dc}{g:d->lZ}(aP:d->Nat)(c:Nat){y:DataW H}{l:List d}(i:∀(x:DataW H)(a:d),rd e x=some (g a)->aP a<=c*Rows.uptoBulk x)(h:rd (.slice k b e) y=some [.aw k (l.map g)]){a:d}(f:a∈l):aP a<=c*Rows.uptoBulk y:=by have:=GR aP c i h;have:=V7 aP f;omega
def Wb{H:Type}{n:Nat}{y:DataW H}{m:bG}(h:qL (oO n) y m.d):(∀t∈m.ao.map bd.e++m.next.map bd.e++m.bf++m.bg++m.trans++m.ba,5*t.aP<=3*Rows.uptoBulk y)/\∀s∈m.bb,8*s.f.aP<=5*Rows.uptoBulk y:=by
 obtain⟨r,b,h⟩:=h;simp only[bG.d,D.agg.injEq]at b;cases y with
 |agg P=>
  simp only[rd]at h;obtain⟨G,s0,a0,Q,rfl,ak,f0,rfl⟩:=rH h;obtain⟨I,s1,aG,c3,rfl,ab,f1,rfl⟩:=rH f0;obtain⟨J,s2,a2,df,rfl,ae,f2,rfl⟩:=rH f1;obtain⟨K,W,a3,R,rfl,ai,f3,rfl⟩:=rH f2;obtain⟨L,X,a4,S,rfl,l,f4,rfl⟩:=rH f3;obtain⟨M,Y,a5,T,rfl,g,f5,rfl⟩:=rH f4;obtain⟨N,Z,q,U,rfl,i,f6,rfl⟩:=rH f5;obtain⟨O,bX,iO,V,rfl,o,f7,rfl⟩:=rH f6;obtain⟨u,rfl⟩:=nI ak;obtain⟨w,rfl⟩:=nI ab;obtain⟨z,rfl⟩:=nI ae;obtain⟨A,rfl⟩:=nI ai;obtain⟨B,rfl⟩:=nI l;obtain⟨C,rfl⟩:=nI g;obtain⟨E,rfl⟩:=nI i;obtain⟨F,rfl⟩:=nI o;simp only[xbs,xaM,xbI]at b;obtain⟨g0,g1,g2,g3,g4,g5,g6,g7,_⟩:=b;subst g0 g1 g2 g3 g4 g5 g6 g7;simp only[an,Tm.fP]at ae ai g i;have k:∀(x:DataW H)(d:bd),rd (.struct [.str,gW n]) x=some d.cells->5*d.e.aP<=3*Rows.uptoBulk x:=λx d h=>by have:=alf h;omega
  have c:∀(x:DataW H)(d:Tm),rd (gW n) x=some d.cells->5*d.aP<=3*Rows.uptoBulk x:=λx d h=>by have:=GS n x d h;omega
  have p:∀(x:DataW H)(d:cv),rd (.struct [.str,gX n]) x=some d.cells->8*d.f.aP<=5*Rows.uptoBulk x:=λx d h=>by have:=alg h;omega
  simp only[Rows.uptoBulk,Rows.uptoBulkAll];constructor
  .intro t a;simp only[xar,xaK]at a;rcases a with((((⟨d,j,rfl⟩|⟨d,j,rfl⟩)|a)|a)|a)|a
   .have:=tH (λd:bd=>5*d.e.aP) 3 k ab j;omega
   .have:=tH (λd:bd=>5*d.e.aP) 3 k l j;omega
   .have:=tH (λd:Tm=>5*d.aP) 3 c ae a;omega
   .have:=tH (λd:Tm=>5*d.aP) 3 c ai a;omega
   .have:=tH (λd:Tm=>5*d.aP) 3 c g a;omega
   have:=tH (λd:Tm=>5*d.aP) 3 c i a;omega
  intro s aj;have:=tH (λd:cv=>8*d.f.aP) 5 p o aj;omega
 |_=>simp[rd]at h
open Go.Proofs Go.Proofs.YtjonbfbkkkcjgaaGreatDoor
open Go.ChangeShapes Go.WideShapes Go.ChangeAt Go.RowKit
def alh{H c:Type}{k b:Nat}{e:dc}{g:c->lZ}{y:DataW H}{l:List c}(h:rd (.slice k b e) y=some [.aw k (l.map g)]):l.length<=Rows.uptoBulk y:=by
 have:=GR (g:=g) (λ_=>1) 1 (λx _ _=>by have:=Bt x;omega) h;have e:∀l:List c,(l.map λ_=>1).sum=l.length:=by
  intro l
  induction l with|nil=>rfl|cons a r ih=>simp[ih];omega
 rw[e]at this;omega
def Wc{H:Type}{x:DataW H}{l:lW}(h:qL uK x (NP l)):l.length<=Rows.uptoBulk x:=alh h
open Go.Proofs Go.Proofs.YtjonbfbkkkcjgaaGreatDoor
open Go.ChangeShapes Go.WideShapes Go.ChangeAt Go.RowKit
def Wd{H:Type}{n:Nat}{y:DataW H}{f:Fm}(h:qL (gX n) y f.d):8*f.aP+8<=5*Rows.uptoBulk y:=by refine L1 n y f ?_;cases n with|zero=>simp[gX,qL,rd,Fm.d]at h|succ n=>obtain⟨b,a,h⟩:=h;simp only[Fm.d,D.agg.injEq]at a;subst a;exact h
end Go.Am
