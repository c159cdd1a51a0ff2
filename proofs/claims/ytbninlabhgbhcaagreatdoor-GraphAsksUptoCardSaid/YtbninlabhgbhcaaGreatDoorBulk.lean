/- Laws, on data. No condition. -/
import Derived.Test.YtbninlabhgbhcaaGreatDoorFrame40
import Derived.Test.YtbninlabhgbhcaaGreatDoorEngD
import Derived.Test.YtbninlabhgbhcaaGreatDoorZs
set_option linter.all false
set_option linter.unnecessarySimpa false
namespace Go.Am
open Go.Proofs Go.Proofs.YtbninlabhgbhcaaGreatDoor
open Go.ChangeShapes Go.WideShapes Go.ChangeAt Go.RowKit
def ahN{H:Type}:∀(xs c7:List (DataW H)),Rows.uptoBulkAll xs<=Rows.uptoBulkAll (xs++c7)
 |[],c7=>by simp[Rows.uptoBulkAll]|x::xs,c7=>by simp only[xbd,Rows.uptoBulkAll];have:=ahN xs c7;omega
def KX{H:Type}(x:DataW H):1<=Rows.uptoBulk x:=by
 cases x with
 |lit l=>cases l<;>simp[Rows.uptoBulk]
 |_=>simp[Rows.uptoBulk]
def KY{H:Type}{k:IntKind}{x:DataW H}{a:List D}(h:rd (.int k) x=some a):a.length=1:=by
 cases x with
 |lit l=>cases l with|int k n=>simp[rd]at h;rw[<-h];rfl|_=>simp[rd]at h
 |_=>simp[rd]at h
def Qf{H:Type}{x:DataW H}{a:List D}(h:rd .str x=some a):a.length=1:=by
 cases x with
 |lit l=>cases l with|string n=>simp[rd]at h;rw[<-h];rfl|_=>simp[rd]at h
 |_=>simp[rd]at h
def FE{α:Type}{l:List α}(h:l.length=1):∃x,l=[x]:=by
 cases l with
 |nil=>cases h
 |cons a r=>cases r with|nil=>exact⟨a,rfl⟩|cons b r=>simp at h
def ahO{H α:Type}{f:DataW H->Option (List D)}{g:α->List D}(bC:α->Nat)(c:Nat):∀(es:List (DataW H)) (l:List α),(∀e∈es,∀a,f e=some (g a)->bC a<=c*Rows.uptoBulk e)->es.mapM f=some (l.map g)->(l.map bC).sum<=c*Rows.uptoBulkAll es
 |[],l,_,h=>by cases l with|nil=>simp|cons a r=>simp at h
 |e::es,l,bm,h=>by rw[List.mapM_cons]at h;cases ad:f e with|none=>simp[ad]at h|some y=>cases aH:es.mapM f with|none=>simp[ad,aH]at h|some c7=>simp[ad,aH]at h;cases l with|nil=>simp at h|cons a r=>simp only[xaw,xbA]at h;obtain⟨rfl,rfl⟩:=h;have J:=bm e (by simp) a ad;have aa:=ahO bC c es r (λe he=>bm e (by simp[he])) aH;simp only[xaw,List.sum_cons,Rows.uptoBulkAll,Nat.mul_add];omega
def ahP{α:Type}(bC:α->Nat):∀{l:List α}{a:α},a∈l->bC a<=(l.map bC).sum
 |b::r,a,h=>by
  simp only[xaw,List.sum_cons];rcases xam.1 h with rfl|h
  .omega
  have:=ahP bC h;omega
def Qg{H α:Type}{k b:Nat}{e:eH}{g:α->List D}(bC:α->Nat)(c:Nat){y:DataW H}{l:List α}(bm:∀(x:DataW H)(a:α),rd e x=some (g a)->bC a<=c*Rows.uptoBulk x)(h:rd (.slice k b e) y=some [.aW k (l.map g)]):(l.map bC).sum+c<=c*Rows.uptoBulk y:=by
 cases y with
 |nil=>
  simp only[rd,xaE,xbA,and_true,D.aW.injEq,true_and]at h;have:l=[]:=by simpa using h.symm
  subst this;simp[Rows.uptoBulk]
 |slice es sp=>simp only[rd]at h;obtain⟨xs,mR,ay⟩:=xaf.1 h;simp only[xbA,and_true,D.aW.injEq,true_and]at ay;subst ay;have:=ahO bC c es l (λe _ a h=>bm e a h) mR;simp only[Rows.uptoBulk,Nat.mul_add,Nat.mul_one];omega
 |_=>simp[rd]at h
def ahQ:∀l:List Tm,(l.map λt=>5*t.bC+5).sum=5*Tm.fa l
 |[]=>rfl|t::r=>by rw[xaw,List.sum_cons,ahQ r,Tm.fa];omega
def ahR:∀l:List Fm,(l.map λt=>8*t.bC+8).sum=8*Fm.fa l
 |[]=>rfl|t::r=>by rw[xaw,List.sum_cons,ahR r,Fm.fa];omega
def ahS{k:Nat}{nl:Bool}{rs:List (List D)}{x:D}(ad:x=cH k nl rs){H:Type}{b:Nat}{e:eH}{y:DataW H}(h:rd (.slice k b e) y=some [x]):x= .aW k rs:=by
 cases y with
 |nil=>
  simp only[rd,xaE,xbA,and_true]at h;rw[ad]at h⊢;unfold cH at h⊢;split;.rename_i ah;rw[xac ah]at h;cases h
  rfl
 |slice es sp=>
  simp only[rd]at h;obtain⟨xs,_,ay⟩:=xaf.1 h;simp only[xbA,and_true]at ay;rw[ad]at ay⊢;unfold cH at ay⊢;split;.rename_i ah;rw[xac ah]at ay;cases ay
  rfl
 |_=>simp[rd]at h
def qU{H:Type}{k b:Nat}{e:eH}{y:DataW H}{d:List D}(h:rd (.slice k b e) y=some d):∃x,d=[x]:=by
 cases y with
 |nil=>simp only[rd,xaE]at h;exact⟨_,h.symm⟩|slice es sp=>simp only[rd]at h;obtain⟨xs,_,ay⟩:=xaf.1 h;exact⟨_,ay.symm⟩
 |_=>simp[rd]at h
def Qh{H:Type}:∀(n:Nat)(x:DataW H)(t:Tm),rd (j3 n) x=some t.cells->5*t.bC+5<=3*Rows.uptoBulk x
 |0,x,t,h=>by simp[j3,rd]at h
 |n+1,x,t,h=>by
  cases x with
  |agg parts=>
   simp only[j3,rd]at h
   match parts,h with
   |[p1,ei,eu,gS],h=>
    simp only[hT,xaJ,xau]at h;obtain⟨a,aG,h⟩:=xaV.1 h;obtain⟨ey,hl,h⟩:=xaf.1 h;obtain⟨b,aj,hl⟩:=xaV.1 hl;obtain⟨ez,jy,hl⟩:=xaf.1 hl;obtain⟨c,ah,jy⟩:=xaV.1 jy;obtain⟨hQ,Ck,jy⟩:=xaf.1 jy;obtain⟨d,ay,Ck⟩:=xaV.1 Ck;cases Ck;subst jy hl;obtain⟨a,rfl⟩:=FE (KY aG);obtain⟨b,rfl⟩:=FE (KY aj);obtain⟨c,rfl⟩:=FE (Qf ah);obtain⟨Kz,rfl⟩:=qU ay;rw[Tm.lV]at h;simp only[xbd,xaL,xbA,and_true]at h;obtain⟨_,_,_,h⟩:=h;have uL:=KX p1;have bN:=KX ei;have bO:=KX eu;have hG:=ahS h ay;rw[hG,Tm.kh]at ay;have key:=Qg (λt:Tm=>5*t.bC+5) 3 (λx a ad=>Qh n x a ad) ay;rw[ahQ]at key;have bF:t.bC=Tm.fa t.bf+2:=by cases t;simp[Tm.bC,Tm.bf];omega
    simp only[Rows.uptoBulk,Rows.uptoBulkAll];omega
   |[],h=>simp[hT]at h|[_],h=>simp[hT]at h|[_,_],h=>simp[hT]at h|[_,_,_],h=>simp[hT]at h|_::_::_::_::_::_,h=>simp[hT]at h
  |_=>simp[j3,rd]at h
def aAO{H:Type}{n:Nat}{x:DataW H}{b:List D}{t:Tm}{r s:List D}(h:rd (j3 n) x=some b)(he:b++r=t.cells++s):b=t.cells/\r=s:=by
 cases n with
 |zero=>simp[j3,rd]at h
 |succ n=>
  have al:b.length=4:=by
   cases x with
   |agg parts=>
    simp only[j3,rd]at h
    match parts,h with
    |[p1,ei,eu,gS],h=>simp only[hT,xaJ,xau]at h;obtain⟨a,aG,h⟩:=xaV.1 h;obtain⟨ey,hl,h⟩:=xaf.1 h;obtain⟨b',aj,hl⟩:=xaV.1 hl;obtain⟨ez,jy,hl⟩:=xaf.1 hl;obtain⟨c,ah,jy⟩:=xaV.1 jy;obtain⟨hQ,Ck,jy⟩:=xaf.1 jy;obtain⟨d,ay,Ck⟩:=xaV.1 Ck;cases Ck;obtain⟨Kz,rfl⟩:=qU ay;subst jy hl;rw[<-h];simp[KY aG,KY aj,Qf ah]
    |[],h=>simp[hT]at h|[_],h=>simp[hT]at h|[_,_],h=>simp[hT]at h|[_,_,_],h=>simp[hT]at h|_::_::_::_::_::_,h=>simp[hT]at h
   |_=>simp[j3,rd]at h
  exact List.append_inj he (by rw[al];simp[Tm.lV])
def ahT{H:Type}:∀(n:Nat)(x:DataW H)(t:Fm),rd (nh n) x=some t.cells->8*t.bC+8<=5*Rows.uptoBulk x
 |0,x,t,h=>by simp[nh,rd]at h
 |n+1,x,t,h=>by
  cases x with
  |agg parts=>
   simp only[nh,rd]at h
   match parts,h with
   |[p1,ei,eu],h=>
    simp only[hT,xaJ,xau]at h;obtain⟨a,aG,h⟩:=xaV.1 h;obtain⟨ey,hl,h⟩:=xaf.1 h;obtain⟨b,aj,hl⟩:=xaV.1 hl;obtain⟨ez,jy,hl⟩:=xaf.1 hl;obtain⟨d,ay,jy⟩:=xaV.1 jy;cases jy;subst hl;obtain⟨a,rfl⟩:=FE (KY aG);obtain⟨Kz,rfl⟩:=qU ay;have ah:t.cells=I t.op::(t.e.cells++[cH 6 t.nl (Fm.rows t.bf)]):=by rw[Fm.lV,Tm.lV];rfl
    rw[ah]at h;simp only[xbd,xaL,xbA]at h;obtain⟨he,h⟩:=aAO aj h.2;simp only[xbA,and_true]at h;rw[he]at aj;have uL:=KX p1;have bN:=Qh (n+1) ei t.e aj;have hG:=ahS h ay;rw[hG,Fm.kh]at ay;have key:=Qg (λt:Fm=>8*t.bC+8) 5 (λx a ad=>ahT n x a ad) ay;rw[ahR]at key;have bF:=t.Ho;have aEF:2<=t.e.bC:=by cases t.e;simp[Tm.bC]
    simp only[Rows.uptoBulk,Rows.uptoBulkAll];omega
   |[],h=>simp[hT]at h|[_],h=>simp[hT]at h|[_,_],h=>simp[hT]at h|_::_::_::_::_,h=>simp[hT]at h
  |_=>simp[nh,rd]at h
def aAP{H:Type}{n:Nat}{x:DataW H}{d:bA}(h:rd (.struct [.str,j3 n]) x=some d.cells):5*d.e.bC+5<=3*Rows.uptoBulk x:=by
 cases x with
 |agg parts=>
  simp only[rd]at h
  match parts,h with
  |[p1,ei],h=>
   simp only[hT,xaJ,xau]at h;obtain⟨a,aG,h⟩:=xaV.1 h;obtain⟨ey,hl,h⟩:=xaf.1 h;obtain⟨b,aj,hl⟩:=xaV.1 hl;cases hl;obtain⟨a,rfl⟩:=FE (Qf aG);simp only[bA.cells,xbd,xaL,xbA]at h;have eT:rd (j3 n) ei=some d.e.cells:=by rw[aj,Tm.lV,h.2]
   have:=Qh n ei d.e eT;simp only[Rows.uptoBulk,Rows.uptoBulkAll];omega
  |[],h=>simp[hT]at h|[_],h=>simp[hT]at h|_::_::_::_,h=>simp[hT]at h
 |_=>simp[rd]at h
def aAQ{H:Type}{n:Nat}{x:DataW H}{d:cU}(h:rd (.struct [.str,nh n]) x=some d.cells):8*d.f.bC+8<=5*Rows.uptoBulk x:=by
 cases x with
 |agg parts=>
  simp only[rd]at h
  match parts,h with
  |[p1,ei],h=>
   simp only[hT,xaJ,xau]at h;obtain⟨a,aG,h⟩:=xaV.1 h;obtain⟨ey,hl,h⟩:=xaf.1 h;obtain⟨b,aj,hl⟩:=xaV.1 hl;cases hl;obtain⟨a,rfl⟩:=FE (Qf aG);simp only[cU.cells,xbd,xaL,xbA]at h;have eT:rd (nh n) ei=some d.f.cells:=by rw[aj,Fm.lV,h.2]
   have:=ahT n ei d.f eT;simp only[Rows.uptoBulk,Rows.uptoBulkAll];omega
  |[],h=>simp[hT]at h|[_],h=>simp[hT]at h|_::_::_::_,h=>simp[hT]at h
 |_=>simp[rd]at h
def u4{H:Type}{f:eH}{df:List eH}{iT:List (DataW H)}{aR:List D}(h:hT (f::df) iT=some aR):∃p Qi a r,iT=p::Qi/\rd f p=some a/\hT df Qi=some r/\aR=a++r:=by cases iT with|nil=>simp[hT]at h|cons p Qi=>simp only[hT]at h;obtain⟨a,aG,h⟩:=xaV.1 h;obtain⟨r,av,h⟩:=xaf.1 h;exact⟨p,Qi,a,r,rfl,aG,av,h.symm⟩
def Cl{H α:Type}{k b:Nat}{e:eH}{g:α->List D}(bC:α->Nat)(c:Nat){y:DataW H}{l:List α}(bm:∀(x:DataW H)(a:α),rd e x=some (g a)->bC a<=c*Rows.uptoBulk x)(h:rd (.slice k b e) y=some [.aW k (l.map g)]){a:α}(aG:a∈l):bC a<=c*Rows.uptoBulk y:=by have:=Qg bC c bm h;have:=ahP bC aG;omega
def aAR{H:Type}{n:Nat}{y:DataW H}{m:au}(h:Af (wU n) y m.d):(∀t∈m.aD.map bA.e++m.next.map bA.e++m.bZ++m.b1++m.trans++m.bR,5*t.bC<=3*Rows.uptoBulk y)/\∀s∈m.bS,8*s.f.bC<=5*Rows.uptoBulk y:=by
 obtain⟨aR,eS,h⟩:=h;simp only[au.d,D.agg.injEq]at eS;cases y with
 |agg iT=>
  simp only[rd]at h;obtain⟨p1,s0,a0,jG,rfl,ar,f0,rfl⟩:=u4 h;obtain⟨ei,s1,aI,ey,rfl,J,f1,rfl⟩:=u4 f0;obtain⟨eu,s2,a2,ez,rfl,aa,f2,rfl⟩:=u4 f1;obtain⟨gS,iX,a3,hQ,rfl,ax,f3,rfl⟩:=u4 f2;obtain⟨tP,ahU,a4,C0,rfl,bj,f4,rfl⟩:=u4 f3;obtain⟨xp,aEG,a5,Y4,rfl,ca,f5,rfl⟩:=u4 f4;obtain⟨xq,aEH,jN,aEI,rfl,cR,f6,rfl⟩:=u4 f5;obtain⟨aEJ,aEK,mr,aEL,rfl,fP,f7,rfl⟩:=u4 f6;obtain⟨bT,rfl⟩:=qU ar;obtain⟨aM,rfl⟩:=qU J;obtain⟨a8,rfl⟩:=qU aa;obtain⟨b0,rfl⟩:=qU ax;obtain⟨cK,rfl⟩:=qU bj;obtain⟨dJ,rfl⟩:=qU ca;obtain⟨eX,rfl⟩:=qU cR;obtain⟨mf,rfl⟩:=qU fP;simp only[xbd,xaL,xbA]at eS;obtain⟨g0,g1,g2,g3,g4,g5,g6,g7,_⟩:=eS;subst g0 g1 g2 g3 g4 g5 g6 g7;simp only[aC,Tm.kh]at aa ax ca cR;have ahV:∀(x:DataW H)(d:bA),rd (.struct [.str,j3 n]) x=some d.cells->5*d.e.bC<=3*Rows.uptoBulk x:=λx d h=>by have:=aAP h;omega
  have Qj:∀(x:DataW H)(d:Tm),rd (j3 n) x=some d.cells->5*d.bC<=3*Rows.uptoBulk x:=λx d h=>by have:=Qh n x d h;omega
  have aAS:∀(x:DataW H)(d:cU),rd (.struct [.str,nh n]) x=some d.cells->8*d.f.bC<=5*Rows.uptoBulk x:=λx d h=>by have:=aAQ h;omega
  simp only[Rows.uptoBulk,Rows.uptoBulkAll];constructor
  .intro t aP;simp only[xas,xaN]at aP;rcases aP with((((⟨d,ay,rfl⟩|⟨d,ay,rfl⟩)|aP)|aP)|aP)|aP
   .have:=Cl (λd:bA=>5*d.e.bC) 3 ahV J ay;omega
   .have:=Cl (λd:bA=>5*d.e.bC) 3 ahV bj ay;omega
   .have:=Cl (λd:Tm=>5*d.bC) 3 Qj aa aP;omega
   .have:=Cl (λd:Tm=>5*d.bC) 3 Qj ax aP;omega
   .have:=Cl (λd:Tm=>5*d.bC) 3 Qj ca aP;omega
   have:=Cl (λd:Tm=>5*d.bC) 3 Qj cR aP;omega
  intro s az;have:=Cl (λd:cU=>8*d.f.bC) 5 aAS fP az;omega
 |_=>simp[wU,rd]at h
open Go.Proofs Go.Proofs.YtbninlabhgbhcaaGreatDoor
open Go.ChangeShapes Go.WideShapes Go.ChangeAt Go.RowKit
def FF:eH:= .struct [M5,M5]
theorem aAT{d:D}(h:Ae FF d):∃q:List Int×List Int,d= .agg [cc q.1,cc q.2]/\True:=by obtain⟨aR,rfl,a,b,rfl,aG,c,e,rfl,ah,rfl⟩:=h;obtain⟨es,rfl,_,J,aa⟩:=aG;obtain⟨df,rfl,_,ax,bj⟩:=ah;obtain⟨l,rfl,_⟩:=pV (λn=>[I n]) mX es λx ad=>Ah (aa x ad).2;obtain⟨r,rfl,_⟩:=pV (λn=>[I n]) mX df λx ad=>Ah (bj x ad).2;exact⟨(l,r),rfl,trivial⟩
def W1{H α:Type}{k b:Nat}{e:eH}{g:α->List D}{y:DataW H}{l:List α}(h:rd (.slice k b e) y=some [.aW k (l.map g)]):l.length<=Rows.uptoBulk y:=by
 have:=Qg (g:=g) (λ_=>1) 1 (λx _ _=>by have:=KX x;omega) h;have e:∀l:List α,(l.map λ_=>1).sum=l.length:=by
  intro l
  induction l with|nil=>rfl|cons a r ih=>simp[ih];omega
 rw[e]at this;omega
def aAU{H:Type}{x:DataW H}{l:List Bool}(h:Af M6 x (Y9 l)):l.length<=Rows.uptoBulk x:=W1 h
def aAV{H:Type}{x:DataW H}{a b:List Int}(h:Af FF x (.agg [cc a,cc b])):a.length<=Rows.uptoBulk x/\b.length<=Rows.uptoBulk x:=by
 obtain⟨aR,ay,h⟩:=h;cases ay;have e:rd (H:=H) FF x=some [cc a,cc b]:=h;cases x with
 |agg es=>have e:hT [M5,M5] es=some [cc a,cc b]:=e;obtain⟨LA,ei,u,ey,rfl,hu,J,ay⟩:=u4 e;obtain⟨x1,eu,v,ez,rfl,aS,aa,rfl⟩:=u4 J;obtain⟨aEM,rfl⟩:=qU hu;obtain⟨v0,rfl⟩:=qU aS;simp only[xbd,xaL,xbA]at ay;obtain⟨rfl,rfl,_⟩:=ay;have J:=W1 (l:=a) hu;have aa:=W1 (l:=b) aS;simp only[Rows.uptoBulk,Rows.uptoBulkAll];omega
 |_=>simp[FF,rd]at e
end Go.Am
