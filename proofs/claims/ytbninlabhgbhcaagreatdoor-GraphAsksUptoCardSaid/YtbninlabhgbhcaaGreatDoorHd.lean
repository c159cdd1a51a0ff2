/- What each function of the seat computes, on data. No condition. -/
import Derived.Test.YtbninlabhgbhcaaGreatDoorEngC
set_option linter.all false
set_option linter.unnecessarySimpa false
namespace Go.Am
def eA:List Int->List Int->Int
 |[],[]=>0|[],_::_=>-1|_::_,[]=>1|a::s,b::t=>if a<b then-1 else if a>b then 1 else eA s t
def Ak:∀s:List Int,eA s s=0
 |[]=>rfl|a::s=>by rw[eA,xae (by omega),xae (by omega),Ak s]
def DA:∀{s t:List Int},eA s t=0->s=t
 |[],[],_=>rfl|[],_::_,h=>by simp[eA]at h|_::_,[],h=>by simp[eA]at h
 |a::s,b::t,h=>by
  unfold eA at h;split at h;.cases h
  split at h;.cases h
  rw[DA h,show a=b by omega]
def DB:∀{s t u:List Int},eA s t<0->eA t u<0->eA s u<0
 |[],[],_,h,_=>by simp[eA]at h|[],_::_,[],_,h=>by simp[eA]at h|[],_::_,_::_,_,_=>by simp[eA]|_::_,[],_,h,_=>by simp[eA]at h|_::_,_::_,[],_,h=>by simp[eA]at h
 |a::s,b::t,c::u,h,bB=>by
  unfold eA at h bB⊢;by_cases J:a<b
  .by_cases aa:b<c;.rw[xac (by omega)];omega
   rw[xae aa]at bB;by_cases ax:b>c;.rw[xac ax]at bB;omega
   rw[xac (by omega)];omega
  rw[xae J]at h;by_cases aa:a>b;.rw[xac aa]at h;omega
  rw[xae aa]at h;have gg:a=b:=by omega
  subst gg;by_cases ax:a<c;.rw[xac ax];omega
  rw[xae ax]at bB⊢;by_cases bj:a>c;.rw[xac bj]at bB;omega
  rw[xae bj]at bB⊢;exact DB h bB
def oU:List (List D)->Option (List Int)
 |[]=>some []|[.val (.int .i64 k)]::r=>ab (oU r) λl=>some (k::l)|_=>none
def Hq:D->Option (List Int)
 | .val (.slice none 0 0)=>some []| .aW 1 es=>oU es|_=>none
def Al:List (List D)->Option (List (List Int))
 |[]=>some []|[d]::r=>ab (Hq d) λx=>ab (Al r) λl=>some (x::l)|_=>none
def An(i:Int):List Int->List (List Int)->Option (List (List Int))
 |[],acc=>some acc|k::r,acc=>if 0<=k/\k.toNat<acc.length then An i r (acc.set k.toNat (acc[k.toNat]?.getD []++[i]))else none
def sx:Nat->List (List Int)->List (List Int)->Option (List (List Int))
 |_,[],acc=>some acc|i,l::r,acc=>ab (An i l acc) λkI=>sx (i+1) r kI
def nP:List (List Int)->Nat
 |[]=>0|l::r=>l.length+nP r
def kl(l:List Int):D:= .aW 1 (l.map λ(x:Int)=>[I x])
def sy(l:List (List Int)):D:= .aW 1 (l.map λs=>[kl s])
def rowsOf:D->Option (List (List Int))
 | .val (.slice none 0 0)=>some []| .aW 1 es=>Al es|_=>none
def Ao:D->Option Nat
 | .val (.slice none 0 0)=>some 0| .aW 1 es=>some es.length|_=>none
def Hr(aR:List D):Option D:=match aR with
 |[.agg [a,b,c,d]]=>ab (Ao a) λN=>ab (rowsOf b) λnx=>if N<=1000000000/\nx.length+nP nx<=1000000000 then ab (sx 0 nx (List.replicate N [])) λr=>some (sy r)else none
 |_=>none
def sz{α:Type}(le:α->α->Bool)(x:α):List α->List α
 |[]=>[x]|y::r=>if le x y then x::y::r else y::sz le x r
def jk{α:Type}(le:α->α->Bool):List α->List α
 |[]=>[]|x::r=>sz le x (jk le r)
def nQ(a b:Int):Bool:=decide (a<=b)
def iI(a b:List Int):Bool:=decide (eA a b<=0)
def Th{α:Type}(le:α->α->Bool)(x:α):∀l:List α,(sz le x l).Perm (x::l)
 |[]=> .refl _
 |y::r=>by
  unfold sz;split;.exact .refl _
  exact((Th le x r).cons y).trans (.swap x y r)
def xU{α:Type}(le:α->α->Bool):∀l:List α,(jk le l).Perm l
 |[]=> .refl _|x::r=>(Th le x _).trans ((xU le r).cons x)
def abr{α:Type}{le:α->α->Bool}(aP:∀a b c,le a b=true->le b c=true->le a c=true)(Hs:∀a b,le a b=true\/le b a=true)(x:α):∀l:List α,l.Pairwise (λa b=>le a b=true)->(sz le x l).Pairwise λa b=>le a b=true
 |[],_=>by simp[sz]
 |y::r,h=>by
  rw[xcw]at h;unfold sz;split
  .rename_i ui;refine xcw.2 ⟨?_,xcw.2 h⟩;intro z bF;rcases xam.1 bF with rfl|bF
   .exact ui
   exact aP _ _ _ ui (h.1 z bF)
  rename_i ui;have apa:le y x=true:=(Hs x y).resolve_left ui;refine xcw.2 ⟨?_,abr aP Hs x r h.2⟩;intro z bF;rcases xam.1 ((Th le x r).mem_iff.1 bF)with rfl|bF
  .exact apa
  exact h.1 z bF
def Ht{α:Type}{le:α->α->Bool}(aP:∀a b c,le a b=true->le b c=true->le a c=true)(Hs:∀a b,le a b=true\/le b a=true):∀l:List α,(jk le l).Pairwise λa b=>le a b=true
 |[]=> .nil|x::r=>abr aP Hs x _ (Ht aP Hs r)
def Ap:∀s t:List Int,eA t s=-eA s t
 |[],[]=>rfl|[],_::_=>rfl|_::_,[]=>rfl
 |a::s,b::t=>by
  have:=Ap s t;unfold eA
  (repeat' split)<;>omega
def Ti(a b c:List Int)(h:iI a b=true)(bB:iI b c=true):iI a c=true:=by
 simp only[iI,xaC]at h bB⊢;rcases Int.lt_or_eq_of_le h with h|h
 .rcases Int.lt_or_eq_of_le bB with bB|bB;.exact Int.le_of_lt (DB h bB)
  rw[<-DA bB];omega
 rw[DA h];exact bB
def abt(a b:List Int):iI a b=true\/iI b a=true:=by simp only[iI,xaC];have:=Ap a b;omega
def apb{a b:List Int}(h:iI a b=true)(bB:iI b a=true):a=b:=by simp only[iI,xaC]at h bB;have:=Ap a b;exact DA (by omega)
def vT:List (List D)->Option (List (List Int))
 |[]=>some []|[.aW 1 es]::r=>ab (oU es) λx=>ab (vT r) λl=>some (x::l)|_=>none
def Hu(n:Nat)(ls:List D):Option (List D):=match ls with
 |[.aW 1 es]=>ab (oU es) λl=>if l.length<=1000000000/\l≠[]then some [D.aZ [],kl (jk nQ l)]else none
 |_=>none
def DC(n:Nat)(ls:List D):Option (List D):=match ls with
 |[.aW 1 es]=>ab (vT es) λl=>if l.length<=1000000000/\l.Nodup/\(∀x∈l,x.length<=1000000000)then some [D.aZ [],sy (jk iI l)]else none
 |_=>none
def Aq(n:Nat)(aR:List D):Option D:=Hr aR
def Nf(n:Nat)(aR:List D):Option D:=Hr aR
end Go.Am
