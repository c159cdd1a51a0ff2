/- Laws, on data. No condition. -/
import Derived.Test.YtbninlabhgbhcaaGreatDoorFrame40
import Derived.Test.YtbninlabhgbhcaaGreatDoorEngD
import Derived.Test.YtbninlabhgbhcaaGreatDoorZs
set_option linter.all false
set_option linter.unnecessarySimpa false
namespace Go.Am
open Go.Proofs Go.Proofs.YtbninlabhgbhcaaGreatDoor
open Go.ChangeShapes Go.WideShapes Go.ChangeAt Go.RowKit
def agv{H:Type}:∀(xs cY:List (DataW H)),Rows.uptoBulkAll xs<=Rows.uptoBulkAll (xs++cY)
 |[],cY=>by simp[Rows.uptoBulkAll]|x::xs,cY=>by simp only[xbw,Rows.uptoBulkAll];have:=agv xs cY;omega
def Ok{H:Type}(x:DataW H):1<=Rows.uptoBulk x:=by
 cases x with
 |lit l=>cases l<;>simp[Rows.uptoBulk]
 |_=>simp[Rows.uptoBulk]
def Jv{H:Type}{k:IntKind}{x:DataW H}{a:List D}(h:rd (.int k) x=some a):a.length=1:=by
 cases x with
 |lit l=>cases l with|int k n=>simp[rd]at h;rw[<-h];rfl|_=>simp[rd]at h
 |_=>simp[rd]at h
def Ol{H:Type}{x:DataW H}{a:List D}(h:rd .str x=some a):a.length=1:=by
 cases x with
 |lit l=>cases l with|string n=>simp[rd]at h;rw[<-h];rfl|_=>simp[rd]at h
 |_=>simp[rd]at h
def D8{α:Type}{l:List α}(h:l.length=1):∃x,l=[x]:=by
 cases l with
 |nil=>cases h
 |cons a r=>cases r with|nil=>exact⟨a,rfl⟩|cons b r=>simp at h
def agw{H α:Type}{f:DataW H->Option (List D)}{g:α->List D}(bp:α->Nat)(c:Nat):∀(es:List (DataW H)) (l:List α),(∀e∈es,∀a,f e=some (g a)->bp a<=c*Rows.uptoBulk e)->es.mapM f=some (l.map g)->(l.map bp).sum<=c*Rows.uptoBulkAll es
 |[],l,_,h=>by cases l with|nil=>simp|cons a r=>simp at h
 |e::es,l,a8,h=>by rw[List.mapM_cons]at h;cases ah:f e with|none=>simp[ah]at h|some y=>cases aK:es.mapM f with|none=>simp[ah,aK]at h|some cY=>simp[ah,aK]at h;cases l with|nil=>simp at h|cons a r=>simp only[xaA,xbr]at h;obtain⟨rfl,rfl⟩:=h;have aa:=a8 e (by simp) a ah;have ae:=agw bp c es r (λe he=>a8 e (by simp[he])) aK;simp only[xaA,List.sum_cons,Rows.uptoBulkAll,Nat.mul_add];omega
def agx{α:Type}(bp:α->Nat):∀{l:List α}{a:α},a∈l->bp a<=(l.map bp).sum
 |b::r,a,h=>by
  simp only[xaA,List.sum_cons];rcases xap.1 h with rfl|h
  .omega
  have:=agx bp h;omega
def VQ{H α:Type}{k b:Nat}{e:eJ}{g:α->List D}(bp:α->Nat)(c:Nat){y:DataW H}{l:List α}(a8:∀(x:DataW H)(a:α),rd e x=some (g a)->bp a<=c*Rows.uptoBulk x)(h:rd (.slice k b e) y=some [.ak k (l.map g)]):(l.map bp).sum+c<=c*Rows.uptoBulk y:=by
 cases y with
 |nil=>
  simp only[rd,xay,xbr,and_true,D.ak.injEq,true_and]at h;have:l=[]:=by simpa using h.symm
  subst this;simp[Rows.uptoBulk]
 |slice es sp=>simp only[rd]at h;obtain⟨xs,l3,aA⟩:=xag.1 h;simp only[xbr,and_true,D.ak.injEq,true_and]at aA;subst aA;have:=agw bp c es l (λe _ a h=>a8 e a h) l3;simp only[Rows.uptoBulk,Nat.mul_add,Nat.mul_one];omega
 |_=>simp[rd]at h
def agy:∀l:List Tm,(l.map λt=>5*t.bp+5).sum=5*Tm.eV l
 |[]=>rfl|t::r=>by rw[xaA,List.sum_cons,agy r,Tm.eV];omega
def agz:∀l:List Fm,(l.map λt=>8*t.bp+8).sum=8*Fm.eV l
 |[]=>rfl|t::r=>by rw[xaA,List.sum_cons,agz r,Fm.eV];omega
def agA{k:Nat}{nl:Bool}{rs:List (List D)}{x:D}(ah:x=cA k nl rs){H:Type}{b:Nat}{e:eJ}{y:DataW H}(h:rd (.slice k b e) y=some [x]):x= .ak k rs:=by
 cases y with
 |nil=>
  simp only[rd,xay,xbr,and_true]at h;rw[ah]at h⊢;unfold cA at h⊢;split;.rename_i an;rw[xaa an]at h;cases h
  rfl
 |slice es sp=>
  simp only[rd]at h;obtain⟨xs,_,aA⟩:=xag.1 h;simp only[xbr,and_true]at aA;rw[ah]at aA⊢;unfold cA at aA⊢;split;.rename_i an;rw[xaa an]at aA;cases aA
  rfl
 |_=>simp[rd]at h
def sj{H:Type}{k b:Nat}{e:eJ}{y:DataW H}{d:List D}(h:rd (.slice k b e) y=some d):∃x,d=[x]:=by
 cases y with
 |nil=>simp only[rd,xay]at h;exact⟨_,h.symm⟩|slice es sp=>simp only[rd]at h;obtain⟨xs,_,aA⟩:=xag.1 h;exact⟨_,aA.symm⟩
 |_=>simp[rd]at h
def Om{H:Type}:∀(n:Nat)(x:DataW H)(t:Tm),rd (jE n) x=some t.cells->5*t.bp+5<=3*Rows.uptoBulk x
 |0,x,t,h=>by simp[jE,rd]at h
 |n+1,x,t,h=>by
  cases x with
  |agg parts=>
   simp only[jE,rd]at h
   match parts,h with
   |[o3,eQ,ez,ho],h=>
    simp only[hv,xaC,xar]at h;obtain⟨a,aG,h⟩:=xaN.1 h;obtain⟨fp,hf,h⟩:=xag.1 h;obtain⟨b,ao,hf⟩:=xaN.1 hf;obtain⟨fh,h9,hf⟩:=xag.1 hf;obtain⟨c,an,h9⟩:=xaN.1 h9;obtain⟨j5,Bl,h9⟩:=xag.1 h9;obtain⟨d,aA,Bl⟩:=xaN.1 Bl;cases Bl;subst h9 hf;obtain⟨a,rfl⟩:=D8 (Jv aG);obtain⟨b,rfl⟩:=D8 (Jv ao);obtain⟨c,rfl⟩:=D8 (Ol an);obtain⟨NB,rfl⟩:=sj aA;rw[Tm.la]at h;simp only[xbw,xaH,xbr,and_true]at h;obtain⟨_,_,_,h⟩:=h;have qG:=Ok o3;have bV:=Ok eQ;have bN:=Ok ez;have mA:=agA h aA;rw[mA,Tm.jR]at aA;have key:=VQ (λt:Tm=>5*t.bp+5) 3 (λx a ah=>Om n x a ah) aA;rw[agy]at key;have bP:t.bp=Tm.eV t.a4+2:=by cases t;simp[Tm.bp,Tm.a4];omega
    simp only[Rows.uptoBulk,Rows.uptoBulkAll];omega
   |[],h=>simp[hv]at h|[_],h=>simp[hv]at h|[_,_],h=>simp[hv]at h|[_,_,_],h=>simp[hv]at h|_::_::_::_::_::_,h=>simp[hv]at h
  |_=>simp[jE,rd]at h
def aAR{H:Type}{n:Nat}{x:DataW H}{b:List D}{t:Tm}{r s:List D}(h:rd (jE n) x=some b)(he:b++r=t.cells++s):b=t.cells/\r=s:=by
 cases n with
 |zero=>simp[jE,rd]at h
 |succ n=>
  have aq:b.length=4:=by
   cases x with
   |agg parts=>
    simp only[jE,rd]at h
    match parts,h with
    |[o3,eQ,ez,ho],h=>simp only[hv,xaC,xar]at h;obtain⟨a,aG,h⟩:=xaN.1 h;obtain⟨fp,hf,h⟩:=xag.1 h;obtain⟨b',ao,hf⟩:=xaN.1 hf;obtain⟨fh,h9,hf⟩:=xag.1 hf;obtain⟨c,an,h9⟩:=xaN.1 h9;obtain⟨j5,Bl,h9⟩:=xag.1 h9;obtain⟨d,aA,Bl⟩:=xaN.1 Bl;cases Bl;obtain⟨NB,rfl⟩:=sj aA;subst h9 hf;rw[<-h];simp[Jv aG,Jv ao,Ol an]
    |[],h=>simp[hv]at h|[_],h=>simp[hv]at h|[_,_],h=>simp[hv]at h|[_,_,_],h=>simp[hv]at h|_::_::_::_::_::_,h=>simp[hv]at h
   |_=>simp[jE,rd]at h
  exact List.append_inj he (by rw[aq];simp[Tm.la])
def agB{H:Type}:∀(n:Nat)(x:DataW H)(t:Fm),rd (ml n) x=some t.cells->8*t.bp+8<=5*Rows.uptoBulk x
 |0,x,t,h=>by simp[ml,rd]at h
 |n+1,x,t,h=>by
  cases x with
  |agg parts=>
   simp only[ml,rd]at h
   match parts,h with
   |[o3,eQ,ez],h=>
    simp only[hv,xaC,xar]at h;obtain⟨a,aG,h⟩:=xaN.1 h;obtain⟨fp,hf,h⟩:=xag.1 h;obtain⟨b,ao,hf⟩:=xaN.1 hf;obtain⟨fh,h9,hf⟩:=xag.1 hf;obtain⟨d,aA,h9⟩:=xaN.1 h9;cases h9;subst hf;obtain⟨a,rfl⟩:=D8 (Jv aG);obtain⟨NB,rfl⟩:=sj aA;have an:t.cells=R t.op::(t.e.cells++[cA 6 t.nl (Fm.rows t.a4)]):=by rw[Fm.la,Tm.la];rfl
    rw[an]at h;simp only[xbw,xaH,xbr]at h;obtain⟨he,h⟩:=aAR ao h.2;simp only[xbr,and_true]at h;rw[he]at ao;have qG:=Ok o3;have bV:=Om (n+1) eQ t.e ao;have mA:=agA h aA;rw[mA,Fm.jR]at aA;have key:=VQ (λt:Fm=>8*t.bp+8) 5 (λx a ah=>agB n x a ah) aA;rw[agz]at key;have bP:=t.FL;have aDQ:2<=t.e.bp:=by cases t.e;simp[Tm.bp]
    simp only[Rows.uptoBulk,Rows.uptoBulkAll];omega
   |[],h=>simp[hv]at h|[_],h=>simp[hv]at h|[_,_],h=>simp[hv]at h|_::_::_::_::_,h=>simp[hv]at h
  |_=>simp[ml,rd]at h
def aAS{H:Type}{n:Nat}{x:DataW H}{d:bl}(h:rd (.struct [.str,jE n]) x=some d.cells):5*d.e.bp+5<=3*Rows.uptoBulk x:=by
 cases x with
 |agg parts=>
  simp only[rd]at h
  match parts,h with
  |[o3,eQ],h=>
   simp only[hv,xaC,xar]at h;obtain⟨a,aG,h⟩:=xaN.1 h;obtain⟨fp,hf,h⟩:=xag.1 h;obtain⟨b,ao,hf⟩:=xaN.1 hf;cases hf;obtain⟨a,rfl⟩:=D8 (Ol aG);simp only[bl.cells,xbw,xaH,xbr]at h;have gi:rd (jE n) eQ=some d.e.cells:=by rw[ao,Tm.la,h.2]
   have:=Om n eQ d.e gi;simp only[Rows.uptoBulk,Rows.uptoBulkAll];omega
  |[],h=>simp[hv]at h|[_],h=>simp[hv]at h|_::_::_::_,h=>simp[hv]at h
 |_=>simp[rd]at h
def aAT{H:Type}{n:Nat}{x:DataW H}{d:cM}(h:rd (.struct [.str,ml n]) x=some d.cells):8*d.f.bp+8<=5*Rows.uptoBulk x:=by
 cases x with
 |agg parts=>
  simp only[rd]at h
  match parts,h with
  |[o3,eQ],h=>
   simp only[hv,xaC,xar]at h;obtain⟨a,aG,h⟩:=xaN.1 h;obtain⟨fp,hf,h⟩:=xag.1 h;obtain⟨b,ao,hf⟩:=xaN.1 hf;cases hf;obtain⟨a,rfl⟩:=D8 (Ol aG);simp only[cM.cells,xbw,xaH,xbr]at h;have gi:rd (ml n) eQ=some d.f.cells:=by rw[ao,Fm.la,h.2]
   have:=agB n eQ d.f gi;simp only[Rows.uptoBulk,Rows.uptoBulkAll];omega
  |[],h=>simp[hv]at h|[_],h=>simp[hv]at h|_::_::_::_,h=>simp[hv]at h
 |_=>simp[rd]at h
def x7{H:Type}{f:eJ}{c6:List eJ}{iw:List (DataW H)}{aO:List D}(h:hv (f::c6) iw=some aO):∃p On a r,iw=p::On/\rd f p=some a/\hv c6 On=some r/\aO=a++r:=by cases iw with|nil=>simp[hv]at h|cons p On=>simp only[hv]at h;obtain⟨a,aG,h⟩:=xaN.1 h;obtain⟨r,aw,h⟩:=xag.1 h;exact⟨p,On,a,r,rfl,aG,aw,h.symm⟩
def Bm{H α:Type}{k b:Nat}{e:eJ}{g:α->List D}(bp:α->Nat)(c:Nat){y:DataW H}{l:List α}(a8:∀(x:DataW H)(a:α),rd e x=some (g a)->bp a<=c*Rows.uptoBulk x)(h:rd (.slice k b e) y=some [.ak k (l.map g)]){a:α}(aG:a∈l):bp a<=c*Rows.uptoBulk y:=by have:=VQ bp c a8 h;have:=agx bp aG;omega
def aAU{H:Type}{n:Nat}{y:DataW H}{m:av}(h:FB (vX n) y m.d):(∀t∈m.aB.map bl.e++m.next.map bl.e++m.bK++m.bL++m.trans++m.bH,5*t.bp<=3*Rows.uptoBulk y)/\∀s∈m.bI,8*s.f.bp<=5*Rows.uptoBulk y:=by
 obtain⟨aO,eF,h⟩:=h;simp only[av.d,D.agg.injEq]at eF;cases y with
 |agg iw=>
  simp only[rd]at h;obtain⟨o3,s0,ad,iY,rfl,ar,f0,rfl⟩:=x7 h;obtain⟨eQ,s1,au,fp,rfl,aa,f1,rfl⟩:=x7 f0;obtain⟨ez,s2,ba,fh,rfl,ae,f2,rfl⟩:=x7 f1;obtain⟨ho,jQ,cx,j5,rfl,ay,f3,rfl⟩:=x7 f2;obtain⟨sH,aDR,ef,XH,rfl,a7,f4,rfl⟩:=x7 f3;obtain⟨wG,aDS,hn,XI,rfl,bZ,f5,rfl⟩:=x7 f4;obtain⟨wH,aDT,jq,aDU,rfl,cG,f6,rfl⟩:=x7 f5;obtain⟨aDV,aDW,lH,aDX,rfl,e7,f7,rfl⟩:=x7 f6;obtain⟨bU,rfl⟩:=sj ar;obtain⟨aP,rfl⟩:=sj aa;obtain⟨a2,rfl⟩:=sj ae;obtain⟨bS,rfl⟩:=sj ay;obtain⟨cS,rfl⟩:=sj a7;obtain⟨dM,rfl⟩:=sj bZ;obtain⟨e4,rfl⟩:=sj cG;obtain⟨oB,rfl⟩:=sj e7;simp only[xbw,xaH,xbr]at eF;obtain⟨fJ,a9,bk,b1,eU,h7,xO,nO,_⟩:=eF;subst fJ a9 bk b1 eU h7 xO nO;simp only[az,Tm.jR]at ae ay bZ cG;have agC:∀(x:DataW H)(d:bl),rd (.struct [.str,jE n]) x=some d.cells->5*d.e.bp<=3*Rows.uptoBulk x:=λx d h=>by have:=aAS h;omega
  have Oo:∀(x:DataW H)(d:Tm),rd (jE n) x=some d.cells->5*d.bp<=3*Rows.uptoBulk x:=λx d h=>by have:=Om n x d h;omega
  have aAV:∀(x:DataW H)(d:cM),rd (.struct [.str,ml n]) x=some d.cells->8*d.f.bp<=5*Rows.uptoBulk x:=λx d h=>by have:=aAT h;omega
  simp only[Rows.uptoBulk,Rows.uptoBulkAll];constructor
  .intro t aJ;simp only[xaM,xaP]at aJ;rcases aJ with((((⟨d,aA,rfl⟩|⟨d,aA,rfl⟩)|aJ)|aJ)|aJ)|aJ
   .have:=Bm (λd:bl=>5*d.e.bp) 3 agC aa aA;omega
   .have:=Bm (λd:bl=>5*d.e.bp) 3 agC a7 aA;omega
   .have:=Bm (λd:Tm=>5*d.bp) 3 Oo ae aJ;omega
   .have:=Bm (λd:Tm=>5*d.bp) 3 Oo ay aJ;omega
   .have:=Bm (λd:Tm=>5*d.bp) 3 Oo bZ aJ;omega
   have:=Bm (λd:Tm=>5*d.bp) 3 Oo cG aJ;omega
  intro s aE;have:=Bm (λd:cM=>8*d.f.bp) 5 aAV e7 aE;omega
 |_=>simp[vX,rd]at h
end Go.Am
