/- What each function of the seat computes, on data. No condition. -/
import Derived.Test.YtbninlabhgbhcaaGreatDoorEngC
set_option linter.all false
set_option linter.unnecessarySimpa false
namespace Go.Am
def hd:List Int->List Int->Int
 |[],[]=>0|[],_::_=>-1|_::_,[]=>1|a::s,b::t=>if a<b then-1 else if a>b then 1 else hd s t
def Sa:∀s:List Int,hd s s=0
 |[]=>rfl|a::s=>by rw[hd,xae (by omega),xae (by omega),Sa s]
def Gv:∀{s t:List Int},hd s t=0->s=t
 |[],[],_=>rfl|[],_::_,h=>by simp[hd]at h|_::_,[],h=>by simp[hd]at h
 |a::s,b::t,h=>by
  unfold hd at h;split at h;.cases h
  split at h;.cases h
  rw[Gv h,show a=b by omega]
def Sb:∀{s t u:List Int},hd s t<0->hd t u<0->hd s u<0
 |[],[],_,h,_=>by simp[hd]at h|[],_::_,[],_,h=>by simp[hd]at h|[],_::_,_::_,_,_=>by simp[hd]|_::_,[],_,h,_=>by simp[hd]at h|_::_,_::_,[],_,h=>by simp[hd]at h
 |a::s,b::t,c::u,h,bC=>by
  unfold hd at h bC⊢;by_cases J:a<b
  .by_cases aa:b<c;.rw[xac (by omega)];omega
   rw[xae aa]at bC;by_cases ax:b>c;.rw[xac ax]at bC;omega
   rw[xac (by omega)];omega
  rw[xae J]at h;by_cases aa:a>b;.rw[xac aa]at h;omega
  rw[xae aa]at h;have hf:a=b:=by omega
  subst hf;by_cases ax:a<c;.rw[xac ax];omega
  rw[xae ax]at bC⊢;by_cases bh:a>c;.rw[xac bh]at bC;omega
  rw[xae bh]at bC⊢;exact Sb h bC
def oz:List (List D)->Option (List Int)
 |[]=>some []|[.val (.int .i64 k)]::r=>ab (oz r) λl=>some (k::l)|_=>none
def Gw:D->Option (List Int)
 | .val (.slice none 0 0)=>some []| .aV 1 es=>oz es|_=>none
def zB:List (List D)->Option (List (List Int))
 |[]=>some []|[d]::r=>ab (Gw d) λx=>ab (zB r) λl=>some (x::l)|_=>none
def zC(i:Int):List Int->List (List Int)->Option (List (List Int))
 |[],acc=>some acc|k::r,acc=>if 0<=k/\k.toNat<acc.length then zC i r (acc.set k.toNat (acc[k.toNat]?.getD []++[i]))else none
def tG:Nat->List (List Int)->List (List Int)->Option (List (List Int))
 |_,[],acc=>some acc|i,l::r,acc=>ab (zC i l acc) λkq=>tG (i+1) r kq
def nY:List (List Int)->Nat
 |[]=>0|l::r=>l.length+nY r
def j5(l:List Int):D:= .aV 1 (l.map λ(x:Int)=>[I x])
def rT(l:List (List Int)):D:= .aV 1 (l.map λs=>[j5 s])
def rowsOf:D->Option (List (List Int))
 | .val (.slice none 0 0)=>some []| .aV 1 es=>zB es|_=>none
def zD:D->Option Nat
 | .val (.slice none 0 0)=>some 0| .aV 1 es=>some es.length|_=>none
def L5(aR:List D):Option D:=match aR with
 |[.agg [a,b,c,d]]=>ab (zD a) λN=>ab (rowsOf b) λnx=>if N<=1000000000/\nx.length+nY nx<=1000000000 then ab (tG 0 nx (List.replicate N [])) λr=>some (rT r)else none
 |_=>none
def rU{α:Type}(le:α->α->Bool)(x:α):List α->List α
 |[]=>[x]|y::r=>if le x y then x::y::r else y::rU le x r
def iZ{α:Type}(le:α->α->Bool):List α->List α
 |[]=>[]|x::r=>rU le x (iZ le r)
def nq(a b:Int):Bool:=decide (a<=b)
def iB(a b:List Int):Bool:=decide (hd a b<=0)
def Sc{α:Type}(le:α->α->Bool)(x:α):∀l:List α,(rU le x l).Perm (x::l)
 |[]=> .refl _
 |y::r=>by
  unfold rU;split;.exact .refl _
  exact((Sc le x r).cons y).trans (.swap x y r)
def xt{α:Type}(le:α->α->Bool):∀l:List α,(iZ le l).Perm l
 |[]=> .refl _|x::r=>(Sc le x _).trans ((xt le r).cons x)
def aas{α:Type}{le:α->α->Bool}(aP:∀a b c,le a b=true->le b c=true->le a c=true)(Gx:∀a b,le a b=true\/le b a=true)(x:α):∀l:List α,l.Pairwise (λa b=>le a b=true)->(rU le x l).Pairwise λa b=>le a b=true
 |[],_=>by simp[rU]
 |y::r,h=>by
  rw[xcr]at h;unfold rU;split
  .rename_i CL;refine xcr.2 ⟨?_,xcr.2 h⟩;intro z bG;rcases xal.1 bG with rfl|bG
   .exact CL
   exact aP _ _ _ CL (h.1 z bG)
  rename_i CL;have anJ:le y x=true:=(Gx x y).resolve_left CL;refine xcr.2 ⟨?_,aas aP Gx x r h.2⟩;intro z bG;rcases xal.1 ((Sc le x r).mem_iff.1 bG)with rfl|bG
  .exact anJ
  exact h.1 z bG
def Gy{α:Type}{le:α->α->Bool}(aP:∀a b c,le a b=true->le b c=true->le a c=true)(Gx:∀a b,le a b=true\/le b a=true):∀l:List α,(iZ le l).Pairwise λa b=>le a b=true
 |[]=> .nil|x::r=>aas aP Gx x _ (Gy aP Gx r)
def zE:∀s t:List Int,hd t s=-hd s t
 |[],[]=>rfl|[],_::_=>rfl|_::_,[]=>rfl
 |a::s,b::t=>by
  have:=zE s t;unfold hd
  (repeat' split)<;>omega
def Sd(a b c:List Int)(h:iB a b=true)(bC:iB b c=true):iB a c=true:=by
 simp only[iB,xaz]at h bC⊢;rcases Int.lt_or_eq_of_le h with h|h
 .rcases Int.lt_or_eq_of_le bC with bC|bC;.exact Int.le_of_lt (Sb h bC)
  rw[<-Gv bC];omega
 rw[Gv h];exact bC
def aat(a b:List Int):iB a b=true\/iB b a=true:=by simp only[iB,xaz];have:=zE a b;omega
def anK{a b:List Int}(h:iB a b=true)(bC:iB b a=true):a=b:=by simp only[iB,xaz]at h bC;have:=zE a b;exact Gv (by omega)
def vp:List (List D)->Option (List (List Int))
 |[]=>some []|[.aV 1 es]::r=>ab (oz es) λx=>ab (vp r) λl=>some (x::l)|_=>none
def Gz(n:Nat)(ls:List D):Option (List D):=match ls with
 |[.aV 1 es]=>ab (oz es) λl=>if l.length<=1000000000/\l≠[]then some [D.a6 [],j5 (iZ nq l)]else none
 |_=>none
def CM(n:Nat)(ls:List D):Option (List D):=match ls with
 |[.aV 1 es]=>ab (vp es) λl=>if l.length<=1000000000/\l.Nodup/\(∀x∈l,x.length<=1000000000)then some [D.a6 [],rT (iZ iB l)]else none
 |_=>none
def L6(n:Nat)(aR:List D):Option D:=L5 aR
end Go.Am
