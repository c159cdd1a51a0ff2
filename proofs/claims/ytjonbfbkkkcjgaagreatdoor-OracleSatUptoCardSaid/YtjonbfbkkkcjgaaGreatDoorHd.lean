/- What each function of the seat computes, on data. No condition. -/
import Derived.Test.YtjonbfbkkkcjgaaGreatDoorEngC
set_option linter.all false
set_option linter.unnecessarySimpa false
namespace Go.Am
def eS:lY->lY->Int
 |[],[]=>0|[],_::_=>-1|_::_,[]=>1|a::s,b::t=>if a<b then-1 else if a>b then 1 else eS s t
def Qb:∀s:lY,eS s s=0
 |[]=>rfl|a::s=>by rw[eS,xab oZ,xab oZ,Qb s]
def yv:∀{s t:lY},eS s t=0->s=t
 |[],[],_=>rfl|[],_::_,h=>by simp[eS]at h|_::_,[],h=>by simp[eS]at h
 |a::s,b::t,h=>by
  unfold eS at h;split at h;.cases h
  split at h;.cases h
  rw[yv h,show a=b by omega]
def Js:∀{s t u:lY},eS s t<0->eS t u<0->eS s u<0
 |[],[],_,h,_=>by simp[eS]at h|[],_::_,[],_,h=>by simp[eS]at h|[],_::_,_::_,_,_=>by simp[eS]|_::_,[],_,h,_=>by simp[eS]at h|_::_,_::_,[],_,h=>by simp[eS]at h
 |a::s,b::t,c::u,h,d=>by
  unfold eS at h d⊢;by_cases ab:a<b
  .by_cases ad:b<c;.rw[xac oZ];omega
   rw[xab ad]at d;by_cases ai:b>c;.rw[xac ai]at d;omega
   rw[xac oZ];omega
  rw[xab ab]at h;by_cases ad:a>b;.rw[xac ad]at h;omega
  rw[xab ad]at h;have ea:a=b:=oZ
  subst ea;by_cases ai:a<c;.rw[xac ai];omega
  rw[xab ai]at d⊢;by_cases e:a>c;.rw[xac e]at d;omega
  rw[xab e]at d⊢;exact Js h d
def kn:mW->Option lY
 |[]=>some []|[.val (.int .i64 k)]::r=>af (kn r) λl=>some (k::l)|_=>none
def yw:D->Option lY
 | .val (.slice none 0 0)=>some []| .aw 1 es=>kn es|_=>none
def ss:mW->Option mX
 |[]=>some []|[d]::r=>af (yw d) λx=>af (ss r) λl=>some (x::l)|_=>none
def su(i:Int):lY->mX->Option mX
 |[],acc=>some acc|k::r,acc=>if 0<=k/\k.toNat<acc.length then su i r (acc.set k.toNat (acc[k.toNat]?.getD []++[i]))else none
def n7:Nat->mX->mX->Option mX
 |_,[],acc=>some acc|i,l::r,acc=>af (su i l acc) λa=>n7 (i+1) r a
def j6:mX->Nat
 |[]=>0|l::r=>l.length+j6 r
def hl(l:lY):D:= .aw 1 (l.map λ(x:Int)=>[aa x])
def mS(l:mX):D:= .aw 1 (l.map λs=>[hl s])
def rowsOf:D->Option mX
 | .val (.slice none 0 0)=>some []| .aw 1 es=>ss es|_=>none
def sw:D->Option Nat
 | .val (.slice none 0 0)=>some 0| .aw 1 es=>some es.length|_=>none
def Dd(e:lZ):oX:=match e with
 |[.agg [a,b,c,d]]=>af (sw a) λN=>af (rowsOf b) λnx=>if N<=1000000000/\nx.length+j6 nx<=1000000000 then af (n7 0 nx (List.replicate N [])) λr=>some (mS r)else none
 |_=>none
def mT{a:Type}(le:a->a->Bool)(x:a):List a->List a
 |[]=>[x]|y::r=>if le x y then x::y::r else y::mT le x r
def gv{a:Type}(le:a->a->Bool):List a->List a
 |[]=>[]|x::r=>mT le x (gv le r)
def jI(a b:Int):Bool:=decide (a<=b)
def fS(a b:lY):Bool:=decide (eS a b<=0)
def Jt{a:Type}(le:a->a->Bool)(x:a):∀l:List a,(mT le x l).Perm (x::l)
 |[]=> .refl _
 |y::r=>by
  unfold mT;split;.exact .refl _
  exact((Jt le x r).cons y).trans (.swap x y r)
def qI{a:Type}(le:a->a->Bool):∀l:List a,(gv le l).Perm l
 |[]=> .refl _|x::r=>(Jt le x _).trans ((qI le r).cons x)
def Qc{g:Type}{le:g->g->Bool}(j:∀a b c,le a b=true->le b c=true->le a c=true)(e:∀a b,le a b=true\/le b a=true)(x:g):∀l:List g,l.Pairwise (λa b=>le a b=true)->(mT le x l).Pairwise λa b=>le a b=true
 |[],_=>by simp[mT]
 |y::r,h=>by
  rw[List.pairwise_cons]at h;unfold mT;split
  .rename_i d;refine List.pairwise_cons.2 ⟨?_,List.pairwise_cons.2 h⟩;intro z f;rcases xao.1 f with rfl|f
   .exact d
   exact j _ _ _ d (h.1 z f)
  rename_i d;have i:le y x=true:=(e x y).resolve_left d;refine List.pairwise_cons.2 ⟨?_,Qc j e x r h.2⟩;intro z f;rcases xao.1 ((Jt le x r).mem_iff.1 f)with rfl|f
  .exact i
  exact h.1 z f
def yx{e:Type}{le:e->e->Bool}(f:∀a b c,le a b=true->le b c=true->le a c=true)(d:∀a b,le a b=true\/le b a=true):∀l:List e,(gv le l).Pairwise λa b=>le a b=true
 |[]=> .nil|x::r=>Qc f d x _ (yx f d r)
def sx:∀s t:lY,eS t s=-eS s t
 |[],[]=>rfl|[],_::_=>rfl|_::_,[]=>rfl
 |a::s,b::t=>by
  have:=sx s t;unfold eS
  (repeat' split)<;>omega
def Ju(a b c:lY)(h:fS a b=true)(d:fS b c=true):fS a c=true:=by
 simp only[fS,xaF]at h d⊢;rcases Int.lt_or_eq_of_le h with h|h
 .rcases Int.lt_or_eq_of_le d with d|d;.exact Int.le_of_lt (Js h d)
  rw[<-yv d];omega
 rw[yv h];exact d
def Qd(a b:lY):fS a b=true\/fS b a=true:=by simp only[fS,xaF];have:=sx a b;omega
def acd{a b:lY}(h:fS a b=true)(c:fS b a=true):a=b:=by simp only[fS,xaF]at h c;have:=sx a b;exact yv oZ
def pt:mW->Option mX
 |[]=>some []|[.aw 1 es]::r=>af (kn es) λx=>af (pt r) λl=>some (x::l)|_=>none
def yy(n:Nat)(ls:lZ):oY:=match ls with
 |[.aw 1 es]=>af (kn es) λl=>if l.length<=1000000000/\l≠[]then some [D.aC [],hl (gv jI l)]else none
 |_=>none
def uQ(n:Nat)(ls:lZ):oY:=match ls with
 |[.aw 1 es]=>af (pt es) λl=>if l.length<=1000000000/\l.Nodup/\(∀x∈l,x.length<=1000000000)then some [D.aC [],mS (gv fS l)]else none
 |_=>none
def yz(n:Nat)(a:lZ):oX:=Dd a
end Go.Am
