/- Laws, on data. No condition. -/
import Derived.Test.YtbninlabhgbhcaaGreatDoorFrame40
import Derived.Test.YtbninlabhgbhcaaGreatDoorEngD
import Derived.Test.YtbninlabhgbhcaaGreatDoorZs
set_option linter.all false
set_option linter.unnecessarySimpa false
namespace Go.Am
open Go.Proofs Go.Proofs.YtbninlabhgbhcaaGreatDoor
open Go.ChangeShapes Go.WideShapes Go.ChangeAt Go.RowKit
def agr{H:Type}:∀(xs c7:List (DataW H)),Rows.uptoBulkAll xs<=Rows.uptoBulkAll (xs++c7)
 |[],c7=>by simp[Rows.uptoBulkAll]|x::xs,c7=>by simp only[xbt,Rows.uptoBulkAll];have:=agr xs c7;omega
def JW{H:Type}(x:DataW H):1<=Rows.uptoBulk x:=by
 cases x with
 |lit l=>cases l<;>simp[Rows.uptoBulk]
 |_=>simp[Rows.uptoBulk]
def JX{H:Type}{k:IntKind}{x:DataW H}{a:List D}(h:rd (.int k) x=some a):a.length=1:=by
 cases x with
 |lit l=>cases l with|int k n=>simp[rd]at h;rw[<-h];rfl|_=>simp[rd]at h
 |_=>simp[rd]at h
def O0{H:Type}{x:DataW H}{a:List D}(h:rd .str x=some a):a.length=1:=by
 cases x with
 |lit l=>cases l with|string n=>simp[rd]at h;rw[<-h];rfl|_=>simp[rd]at h
 |_=>simp[rd]at h
def EF{α:Type}{l:List α}(h:l.length=1):∃x,l=[x]:=by
 cases l with
 |nil=>cases h
 |cons a r=>cases r with|nil=>exact⟨a,rfl⟩|cons b r=>simp at h
def ags{H α:Type}{f:DataW H->Option (List D)}{g:α->List D}(bA:α->Nat)(c:Nat):∀(es:List (DataW H)) (l:List α),(∀e∈es,∀a,f e=some (g a)->bA a<=c*Rows.uptoBulk e)->es.mapM f=some (l.map g)->(l.map bA).sum<=c*Rows.uptoBulkAll es
 |[],l,_,h=>by cases l with|nil=>simp|cons a r=>simp at h
 |e::es,l,bk,h=>by rw[List.mapM_cons]at h;cases ad:f e with|none=>simp[ad]at h|some y=>cases aE:es.mapM f with|none=>simp[ad,aE]at h|some c7=>simp[ad,aE]at h;cases l with|nil=>simp at h|cons a r=>simp only[xau,xbH]at h;obtain⟨rfl,rfl⟩:=h;have J:=bk e (by simp) a ad;have aa:=ags bA c es r (λe he=>bk e (by simp[he])) aE;simp only[xau,List.sum_cons,Rows.uptoBulkAll,Nat.mul_add];omega
def agt{α:Type}(bA:α->Nat):∀{l:List α}{a:α},a∈l->bA a<=(l.map bA).sum
 |b::r,a,h=>by
  simp only[xau,List.sum_cons];rcases xal.1 h with rfl|h
  .omega
  have:=agt bA h;omega
def O1{H α:Type}{k b:Nat}{e:eC}{g:α->List D}(bA:α->Nat)(c:Nat){y:DataW H}{l:List α}(bk:∀(x:DataW H)(a:α),rd e x=some (g a)->bA a<=c*Rows.uptoBulk x)(h:rd (.slice k b e) y=some [.aV k (l.map g)]):(l.map bA).sum+c<=c*Rows.uptoBulk y:=by
 cases y with
 |nil=>
  simp only[rd,xaE,xbH,and_true,D.aV.injEq,true_and]at h;have:l=[]:=by simpa using h.symm
  subst this;simp[Rows.uptoBulk]
 |slice es sp=>simp only[rd]at h;obtain⟨xs,mq,ay⟩:=xaf.1 h;simp only[xbH,and_true,D.aV.injEq,true_and]at ay;subst ay;have:=ags bA c es l (λe _ a h=>bk e a h) mq;simp only[Rows.uptoBulk,Nat.mul_add,Nat.mul_one];omega
 |_=>simp[rd]at h
def agu:∀l:List Tm,(l.map λt=>5*t.bA+5).sum=5*Tm.eZ l
 |[]=>rfl|t::r=>by rw[xau,List.sum_cons,agu r,Tm.eZ];omega
def agv:∀l:List Fm,(l.map λt=>8*t.bA+8).sum=8*Fm.eZ l
 |[]=>rfl|t::r=>by rw[xau,List.sum_cons,agv r,Fm.eZ];omega
def agw{k:Nat}{nl:Bool}{rs:List (List D)}{x:D}(ad:x=cB k nl rs){H:Type}{b:Nat}{e:eC}{y:DataW H}(h:rd (.slice k b e) y=some [x]):x= .aV k rs:=by
 cases y with
 |nil=>
  simp only[rd,xaE,xbH,and_true]at h;rw[ad]at h⊢;unfold cB at h⊢;split;.rename_i ai;rw[xac ai]at h;cases h
  rfl
 |slice es sp=>
  simp only[rd]at h;obtain⟨xs,_,ay⟩:=xaf.1 h;simp only[xbH,and_true]at ay;rw[ad]at ay⊢;unfold cB at ay⊢;split;.rename_i ai;rw[xac ai]at ay;cases ay
  rfl
 |_=>simp[rd]at h
def sI{H:Type}{k b:Nat}{e:eC}{y:DataW H}{d:List D}(h:rd (.slice k b e) y=some d):∃x,d=[x]:=by
 cases y with
 |nil=>simp only[rd,xaE]at h;exact⟨_,h.symm⟩|slice es sp=>simp only[rd]at h;obtain⟨xs,_,ay⟩:=xaf.1 h;exact⟨_,ay.symm⟩
 |_=>simp[rd]at h
def O2{H:Type}:∀(n:Nat)(x:DataW H)(t:Tm),rd (jN n) x=some t.cells->5*t.bA+5<=3*Rows.uptoBulk x
 |0,x,t,h=>by simp[jN,rd]at h
 |n+1,x,t,h=>by
  cases x with
  |agg parts=>
   simp only[jN,rd]at h
   match parts,h with
   |[pF,eQ,eE,hR],h=>
    simp only[hY,xaI,xav]at h;obtain⟨a,aH,h⟩:=xaS.1 h;obtain⟨eM,hk,h⟩:=xaf.1 h;obtain⟨b,aj,hk⟩:=xaS.1 hk;obtain⟨eG,jk,hk⟩:=xaf.1 hk;obtain⟨c,ai,jk⟩:=xaS.1 jk;obtain⟨hF,Bz,jk⟩:=xaf.1 jk;obtain⟨d,ay,Bz⟩:=xaS.1 Bz;cases Bz;subst jk hk;obtain⟨a,rfl⟩:=EF (JX aH);obtain⟨b,rfl⟩:=EF (JX aj);obtain⟨c,rfl⟩:=EF (O0 ai);obtain⟨Jy,rfl⟩:=sI ay;rw[Tm.lG]at h;simp only[xbt,xaM,xbH,and_true]at h;obtain⟨_,_,_,h⟩:=h;have ue:=JW pF;have b0:=JW eQ;have bR:=JW eE;have js:=agw h ay;rw[js,Tm.j1]at ay;have key:=O1 (λt:Tm=>5*t.bA+5) 3 (λx a ad=>O2 n x a ad) ay;rw[agu]at key;have bG:t.bA=Tm.eZ t.bc+2:=by cases t;simp[Tm.bA,Tm.bc];omega
    simp only[Rows.uptoBulk,Rows.uptoBulkAll];omega
   |[],h=>simp[hY]at h|[_],h=>simp[hY]at h|[_,_],h=>simp[hY]at h|[_,_,_],h=>simp[hY]at h|_::_::_::_::_::_,h=>simp[hY]at h
  |_=>simp[jN,rd]at h
def azd{H:Type}{n:Nat}{x:DataW H}{b:List D}{t:Tm}{r s:List D}(h:rd (jN n) x=some b)(he:b++r=t.cells++s):b=t.cells/\r=s:=by
 cases n with
 |zero=>simp[jN,rd]at h
 |succ n=>
  have al:b.length=4:=by
   cases x with
   |agg parts=>
    simp only[jN,rd]at h
    match parts,h with
    |[pF,eQ,eE,hR],h=>simp only[hY,xaI,xav]at h;obtain⟨a,aH,h⟩:=xaS.1 h;obtain⟨eM,hk,h⟩:=xaf.1 h;obtain⟨b',aj,hk⟩:=xaS.1 hk;obtain⟨eG,jk,hk⟩:=xaf.1 hk;obtain⟨c,ai,jk⟩:=xaS.1 jk;obtain⟨hF,Bz,jk⟩:=xaf.1 jk;obtain⟨d,ay,Bz⟩:=xaS.1 Bz;cases Bz;obtain⟨Jy,rfl⟩:=sI ay;subst jk hk;rw[<-h];simp[JX aH,JX aj,O0 ai]
    |[],h=>simp[hY]at h|[_],h=>simp[hY]at h|[_,_],h=>simp[hY]at h|[_,_,_],h=>simp[hY]at h|_::_::_::_::_::_,h=>simp[hY]at h
   |_=>simp[jN,rd]at h
  exact List.append_inj he (by rw[al];simp[Tm.lG])
def agx{H:Type}:∀(n:Nat)(x:DataW H)(t:Fm),rd (mK n) x=some t.cells->8*t.bA+8<=5*Rows.uptoBulk x
 |0,x,t,h=>by simp[mK,rd]at h
 |n+1,x,t,h=>by
  cases x with
  |agg parts=>
   simp only[mK,rd]at h
   match parts,h with
   |[pF,eQ,eE],h=>
    simp only[hY,xaI,xav]at h;obtain⟨a,aH,h⟩:=xaS.1 h;obtain⟨eM,hk,h⟩:=xaf.1 h;obtain⟨b,aj,hk⟩:=xaS.1 hk;obtain⟨eG,jk,hk⟩:=xaf.1 hk;obtain⟨d,ay,jk⟩:=xaS.1 jk;cases jk;subst hk;obtain⟨a,rfl⟩:=EF (JX aH);obtain⟨Jy,rfl⟩:=sI ay;have ai:t.cells=I t.op::(t.e.cells++[cB 6 t.nl (Fm.rows t.bc)]):=by rw[Fm.lG,Tm.lG];rfl
    rw[ai]at h;simp only[xbt,xaM,xbH]at h;obtain⟨he,h⟩:=azd aj h.2;simp only[xbH,and_true]at h;rw[he]at aj;have ue:=JW pF;have b0:=O2 (n+1) eQ t.e aj;have js:=agw h ay;rw[js,Fm.j1]at ay;have key:=O1 (λt:Fm=>8*t.bA+8) 5 (λx a ad=>agx n x a ad) ay;rw[agv]at key;have bG:=t.Gt;have aCT:2<=t.e.bA:=by cases t.e;simp[Tm.bA]
    simp only[Rows.uptoBulk,Rows.uptoBulkAll];omega
   |[],h=>simp[hY]at h|[_],h=>simp[hY]at h|[_,_],h=>simp[hY]at h|_::_::_::_::_,h=>simp[hY]at h
  |_=>simp[mK,rd]at h
def aze{H:Type}{n:Nat}{x:DataW H}{d:bw}(h:rd (.struct [.str,jN n]) x=some d.cells):5*d.e.bA+5<=3*Rows.uptoBulk x:=by
 cases x with
 |agg parts=>
  simp only[rd]at h
  match parts,h with
  |[pF,eQ],h=>
   simp only[hY,xaI,xav]at h;obtain⟨a,aH,h⟩:=xaS.1 h;obtain⟨eM,hk,h⟩:=xaf.1 h;obtain⟨b,aj,hk⟩:=xaS.1 hk;cases hk;obtain⟨a,rfl⟩:=EF (O0 aH);simp only[bw.cells,xbt,xaM,xbH]at h;have fi:rd (jN n) eQ=some d.e.cells:=by rw[aj,Tm.lG,h.2]
   have:=O2 n eQ d.e fi;simp only[Rows.uptoBulk,Rows.uptoBulkAll];omega
  |[],h=>simp[hY]at h|[_],h=>simp[hY]at h|_::_::_::_,h=>simp[hY]at h
 |_=>simp[rd]at h
def azf{H:Type}{n:Nat}{x:DataW H}{d:cQ}(h:rd (.struct [.str,mK n]) x=some d.cells):8*d.f.bA+8<=5*Rows.uptoBulk x:=by
 cases x with
 |agg parts=>
  simp only[rd]at h
  match parts,h with
  |[pF,eQ],h=>
   simp only[hY,xaI,xav]at h;obtain⟨a,aH,h⟩:=xaS.1 h;obtain⟨eM,hk,h⟩:=xaf.1 h;obtain⟨b,aj,hk⟩:=xaS.1 hk;cases hk;obtain⟨a,rfl⟩:=EF (O0 aH);simp only[cQ.cells,xbt,xaM,xbH]at h;have fi:rd (mK n) eQ=some d.f.cells:=by rw[aj,Fm.lG,h.2]
   have:=agx n eQ d.f fi;simp only[Rows.uptoBulk,Rows.uptoBulkAll];omega
  |[],h=>simp[hY]at h|[_],h=>simp[hY]at h|_::_::_::_,h=>simp[hY]at h
 |_=>simp[rd]at h
def yn{H:Type}{f:eC}{de:List eC}{iO:List (DataW H)}{aR:List D}(h:hY (f::de) iO=some aR):∃p O3 a r,iO=p::O3/\rd f p=some a/\hY de O3=some r/\aR=a++r:=by cases iO with|nil=>simp[hY]at h|cons p O3=>simp only[hY]at h;obtain⟨a,aH,h⟩:=xaS.1 h;obtain⟨r,av,h⟩:=xaf.1 h;exact⟨p,O3,a,r,rfl,aH,av,h.symm⟩
def BA{H α:Type}{k b:Nat}{e:eC}{g:α->List D}(bA:α->Nat)(c:Nat){y:DataW H}{l:List α}(bk:∀(x:DataW H)(a:α),rd e x=some (g a)->bA a<=c*Rows.uptoBulk x)(h:rd (.slice k b e) y=some [.aV k (l.map g)]){a:α}(aH:a∈l):bA a<=c*Rows.uptoBulk y:=by have:=O1 bA c bk h;have:=agt bA aH;omega
def azg{H:Type}{n:Nat}{y:DataW H}{m:ar}(h:CE (wo n) y m.d):(∀t∈m.aA.map bw.e++m.next.map bw.e++m.bU++m.bW++m.trans++m.bO,5*t.bA<=3*Rows.uptoBulk y)/\∀s∈m.bP,8*s.f.bA<=5*Rows.uptoBulk y:=by
 obtain⟨aR,eH,h⟩:=h;simp only[ar.d,D.agg.injEq]at eH;cases y with
 |agg iO=>
  simp only[rd]at h;obtain⟨pF,s0,a0,ju,rfl,au,f0,rfl⟩:=yn h;obtain⟨eQ,s1,aK,eM,rfl,J,f1,rfl⟩:=yn f0;obtain⟨eE,s2,a2,eG,rfl,aa,f2,rfl⟩:=yn f1;obtain⟨hR,iP,a3,hF,rfl,ax,f3,rfl⟩:=yn f2;obtain⟨tc,agy,a4,w5,rfl,bh,f4,rfl⟩:=yn f3;obtain⟨wX,aCU,a5,X5,rfl,b9,f5,rfl⟩:=yn f4;obtain⟨wY,aCV,jB,aCW,rfl,cN,f6,rfl⟩:=yn f5;obtain⟨aCX,aCY,l4,aCZ,rfl,fP,f7,rfl⟩:=yn f6;obtain⟨b1,rfl⟩:=sI au;obtain⟨aL,rfl⟩:=sI J;obtain⟨a7,rfl⟩:=sI aa;obtain⟨bV,rfl⟩:=sI ax;obtain⟨cG,rfl⟩:=sI bh;obtain⟨dI,rfl⟩:=sI b9;obtain⟨eL,rfl⟩:=sI cN;obtain⟨lU,rfl⟩:=sI fP;simp only[xbt,xaM,xbH]at eH;obtain⟨g0,g1,g2,g3,g4,g5,g6,g7,_⟩:=eH;subst g0 g1 g2 g3 g4 g5 g6 g7;simp only[az,Tm.j1]at aa ax b9 cN;have agz:∀(x:DataW H)(d:bw),rd (.struct [.str,jN n]) x=some d.cells->5*d.e.bA<=3*Rows.uptoBulk x:=λx d h=>by have:=aze h;omega
  have O4:∀(x:DataW H)(d:Tm),rd (jN n) x=some d.cells->5*d.bA<=3*Rows.uptoBulk x:=λx d h=>by have:=O2 n x d h;omega
  have azh:∀(x:DataW H)(d:cQ),rd (.struct [.str,mK n]) x=some d.cells->8*d.f.bA<=5*Rows.uptoBulk x:=λx d h=>by have:=azf h;omega
  simp only[Rows.uptoBulk,Rows.uptoBulkAll];constructor
  .intro t aP;simp only[xas,xaO]at aP;rcases aP with((((⟨d,ay,rfl⟩|⟨d,ay,rfl⟩)|aP)|aP)|aP)|aP
   .have:=BA (λd:bw=>5*d.e.bA) 3 agz J ay;omega
   .have:=BA (λd:bw=>5*d.e.bA) 3 agz bh ay;omega
   .have:=BA (λd:Tm=>5*d.bA) 3 O4 aa aP;omega
   .have:=BA (λd:Tm=>5*d.bA) 3 O4 ax aP;omega
   .have:=BA (λd:Tm=>5*d.bA) 3 O4 b9 aP;omega
   have:=BA (λd:Tm=>5*d.bA) 3 O4 cN aP;omega
  intro s aC;have:=BA (λd:cQ=>8*d.f.bA) 5 azh fP aC;omega
 |_=>simp[wo,rd]at h
open Go.Proofs Go.Proofs.YtbninlabhgbhcaaGreatDoor
open Go.ChangeShapes Go.WideShapes Go.ChangeAt Go.RowKit
def azi{H α:Type}{k b:Nat}{e:eC}{g:α->List D}{y:DataW H}{l:List α}(h:rd (.slice k b e) y=some [.aV k (l.map g)]):l.length<=Rows.uptoBulk y:=by
 have:=O1 (g:=g) (λ_=>1) 1 (λx _ _=>by have:=JW x;omega) h;have e:∀l:List α,(l.map λ_=>1).sum=l.length:=by
  intro l
  induction l with|nil=>rfl|cons a r ih=>simp[ih];omega
 rw[e]at this;omega
def azj{H:Type}{x:DataW H}{l:List Bool}(h:CE LX x (Ya l)):l.length<=Rows.uptoBulk x:=azi h
end Go.Am
