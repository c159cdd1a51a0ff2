/- What each function of the seat computes, on data. No condition. -/
import Derived.Test.YtjonbfbkkkcjgaaGreatDoorEngC
set_option linter.all false
set_option linter.unnecessarySimpa false
namespace Go.Am
def eE:lY->lY->Int
 |[],[]=>0|[],_::_=>-1|_::_,[]=>1|a::s,b::t=>if a<b then-1 else if a>b then 1 else eE s t
def N2:∀s:lY,eE s s=0
 |[]=>rfl|a::s=>by rw[eE,xab oZ,xab oZ,N2 s]
def xf:∀{s t:lY},eE s t=0->s=t
 |[],[],_=>rfl|[],_::_,h=>by simp[eE]at h|_::_,[],h=>by simp[eE]at h
 |a::s,b::t,h=>by
  unfold eE at h;split at h;.cases h
  split at h;.cases h
  rw[xf h,show a=b by omega]
def HI:∀{s t u:lY},eE s t<0->eE t u<0->eE s u<0
 |[],[],_,h,_=>by simp[eE]at h|[],_::_,[],_,h=>by simp[eE]at h|[],_::_,_::_,_,_=>by simp[eE]|_::_,[],_,h,_=>by simp[eE]at h|_::_,_::_,[],_,h=>by simp[eE]at h
 |a::s,b::t,c::u,h,d=>by
  unfold eE at h d⊢;by_cases ab:a<b
  .by_cases ad:b<c;.rw[xac oZ];omega
   rw[xab ad]at d;by_cases ai:b>c;.rw[xac ai]at d;omega
   rw[xac oZ];omega
  rw[xab ab]at h;by_cases ad:a>b;.rw[xac ad]at h;omega
  rw[xab ad]at h;have eb:a=b:=oZ
  subst eb;by_cases ai:a<c;.rw[xac ai];omega
  rw[xab ai]at d⊢;by_cases e:a>c;.rw[xac e]at d;omega
  rw[xab e]at d⊢;exact HI h d
def jY:mW->Option lY
 |[]=>some []|[.val (.int .i64 k)]::r=>af (jY r) λl=>some (k::l)|_=>none
def xg:D->Option lY
 | .val (.slice none 0 0)=>some []| .aw 1 es=>jY es|_=>none
def rD:mW->Option mX
 |[]=>some []|[d]::r=>af (xg d) λx=>af (rD r) λl=>some (x::l)|_=>none
def rE(i:Int):lY->mX->Option mX
 |[],acc=>some acc|k::r,acc=>if 0<=k/\k.toNat<acc.length then rE i r (acc.set k.toNat (acc[k.toNat]?.getD []++[i]))else none
def nw:Nat->mX->mX->Option mX
 |_,[],acc=>some acc|i,l::r,acc=>af (rE i l acc) λa=>nw (i+1) r a
def jD:mX->Nat
 |[]=>0|l::r=>l.length+jD r
def gO(l:lY):D:= .aw 1 (l.map λ(x:Int)=>[aa x])
def mf(l:mX):D:= .aw 1 (l.map λs=>[gO s])
def rowsOf:D->Option mX
 | .val (.slice none 0 0)=>some []| .aw 1 es=>rD es|_=>none
def rF:D->Option Nat
 | .val (.slice none 0 0)=>some 0| .aw 1 es=>some es.length|_=>none
def BZ(e:lZ):oX:=match e with
 |[.agg [a,b,c,d]]=>af (rF a) λN=>af (rowsOf b) λnx=>if N<=1000000000/\nx.length+jD nx<=1000000000 then af (nw 0 nx (List.replicate N [])) λr=>some (mf r)else none
 |_=>none
def mg{a:Type}(le:a->a->Bool)(x:a):List a->List a
 |[]=>[x]|y::r=>if le x y then x::y::r else y::mg le x r
def fX{a:Type}(le:a->a->Bool):List a->List a
 |[]=>[]|x::r=>mg le x (fX le r)
def jh(a b:Int):Bool:=decide (a<=b)
def fx(a b:lY):Bool:=decide (eE a b<=0)
def HJ{a:Type}(le:a->a->Bool)(x:a):∀l:List a,(mg le x l).Perm (x::l)
 |[]=> .refl _
 |y::r=>by
  unfold mg;split;.exact .refl _
  exact((HJ le x r).cons y).trans (.swap x y r)
def p6{a:Type}(le:a->a->Bool):∀l:List a,(fX le l).Perm l
 |[]=> .refl _|x::r=>(HJ le x _).trans ((p6 le r).cons x)
def N3{g:Type}{le:g->g->Bool}(j:∀a b c,le a b=true->le b c=true->le a c=true)(e:∀a b,le a b=true\/le b a=true)(x:g):∀l:List g,l.Pairwise (λa b=>le a b=true)->(mg le x l).Pairwise λa b=>le a b=true
 |[],_=>by simp[mg]
 |y::r,h=>by
  rw[List.pairwise_cons]at h;unfold mg;split
  .rename_i d;refine List.pairwise_cons.2 ⟨?_,List.pairwise_cons.2 h⟩;intro z f;rcases xan.1 f with rfl|f
   .exact d
   exact j _ _ _ d (h.1 z f)
  rename_i d;have i:le y x=true:=(e x y).resolve_left d;refine List.pairwise_cons.2 ⟨?_,N3 j e x r h.2⟩;intro z f;rcases xan.1 ((HJ le x r).mem_iff.1 f)with rfl|f
  .exact i
  exact h.1 z f
def xh{e:Type}{le:e->e->Bool}(f:∀a b c,le a b=true->le b c=true->le a c=true)(d:∀a b,le a b=true\/le b a=true):∀l:List e,(fX le l).Pairwise λa b=>le a b=true
 |[]=> .nil|x::r=>N3 f d x _ (xh f d r)
def rG:∀s t:lY,eE t s=-eE s t
 |[],[]=>rfl|[],_::_=>rfl|_::_,[]=>rfl
 |a::s,b::t=>by
  have:=rG s t;unfold eE
  (repeat' split)<;>omega
def HK(a b c:lY)(h:fx a b=true)(d:fx b c=true):fx a c=true:=by
 simp only[fx,xaC]at h d⊢;rcases Int.lt_or_eq_of_le h with h|h
 .rcases Int.lt_or_eq_of_le d with d|d;.exact Int.le_of_lt (HI h d)
  rw[<-xf d];omega
 rw[xf h];exact d
def N4(a b:lY):fx a b=true\/fx b a=true:=by simp only[fx,xaC];have:=rG a b;omega
def aak{a b:lY}(h:fx a b=true)(c:fx b a=true):a=b:=by simp only[fx,xaC]at h c;have:=rG a b;exact xf oZ
def oH:mW->Option mX
 |[]=>some []|[.aw 1 es]::r=>af (jY es) λx=>af (oH r) λl=>some (x::l)|_=>none
def xi(n:Nat)(ls:lZ):oY:=match ls with
 |[.aw 1 es]=>af (jY es) λl=>if l.length<=1000000000/\l≠[]then some [D.az [],gO (fX jh l)]else none
 |_=>none
def tL(n:Nat)(ls:lZ):oY:=match ls with
 |[.aw 1 es]=>af (oH es) λl=>if l.length<=1000000000/\l.Nodup/\(∀x∈l,x.length<=1000000000)then some [D.az [],mf (fX fx l)]else none
 |_=>none
def xj(n:Nat)(a:lZ):oX:=BZ a
end Go.Am
