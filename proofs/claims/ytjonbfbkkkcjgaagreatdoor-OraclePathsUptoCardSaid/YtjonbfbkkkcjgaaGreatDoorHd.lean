/- What each function of the seat computes, on data. No condition. -/
import Derived.Test.YtjonbfbkkkcjgaaGreatDoorEngC
set_option linter.all false
set_option linter.unnecessarySimpa false
namespace Go.Am
def eP:lY->lY->Int
 |[],[]=>0|[],_::_=>-1|_::_,[]=>1|a::s,b::t=>if a<b then-1 else if a>b then 1 else eP s t
def Qd:∀s:lY,eP s s=0
 |[]=>rfl|a::s=>by rw[eP,xab oZ,xab oZ,Qd s]
def yv:∀{s t:lY},eP s t=0->s=t
 |[],[],_=>rfl|[],_::_,h=>by simp[eP]at h|_::_,[],h=>by simp[eP]at h
 |a::s,b::t,h=>by
  unfold eP at h;split at h;.cases h
  split at h;.cases h
  rw[yv h,show a=b by omega]
def Jq:∀{s t u:lY},eP s t<0->eP t u<0->eP s u<0
 |[],[],_,h,_=>by simp[eP]at h|[],_::_,[],_,h=>by simp[eP]at h|[],_::_,_::_,_,_=>by simp[eP]|_::_,[],_,h,_=>by simp[eP]at h|_::_,_::_,[],_,h=>by simp[eP]at h
 |a::s,b::t,c::u,h,d=>by
  unfold eP at h d⊢;by_cases ab:a<b
  .by_cases ae:b<c;.rw[xac oZ];omega
   rw[xab ae]at d;by_cases ai:b>c;.rw[xac ai]at d;omega
   rw[xac oZ];omega
  rw[xab ab]at h;by_cases ae:a>b;.rw[xac ae]at h;omega
  rw[xab ae]at h;have dV:a=b:=oZ
  subst dV;by_cases ai:a<c;.rw[xac ai];omega
  rw[xab ai]at d⊢;by_cases e:a>c;.rw[xac e]at d;omega
  rw[xab e]at d⊢;exact Jq h d
def kt:mW->Option lY
 |[]=>some []|[.val (.int .i64 k)]::r=>af (kt r) λl=>some (k::l)|_=>none
def yw:D->Option lY
 | .val (.slice none 0 0)=>some []| .aw 1 es=>kt es|_=>none
def sw:mW->Option mX
 |[]=>some []|[d]::r=>af (yw d) λx=>af (sw r) λl=>some (x::l)|_=>none
def sx(i:Int):lY->mX->Option mX
 |[],acc=>some acc|k::r,acc=>if 0<=k/\k.toNat<acc.length then sx i r (acc.set k.toNat (acc[k.toNat]?.getD []++[i]))else none
def ob:Nat->mX->mX->Option mX
 |_,[],acc=>some acc|i,l::r,acc=>af (sx i l acc) λa=>ob (i+1) r a
def j8:mX->Nat
 |[]=>0|l::r=>l.length+j8 r
def hl(l:lY):D:= .aw 1 (l.map λ(x:Int)=>[aa x])
def nc(l:mX):D:= .aw 1 (l.map λs=>[hl s])
def rowsOf:D->Option mX
 | .val (.slice none 0 0)=>some []| .aw 1 es=>sw es|_=>none
def sy:D->Option Nat
 | .val (.slice none 0 0)=>some 0| .aw 1 es=>some es.length|_=>none
def Dh(e:lZ):oX:=match e with
 |[.agg [a,b,c,d]]=>af (sy a) λN=>af (rowsOf b) λnx=>if N<=1000000000/\nx.length+j8 nx<=1000000000 then af (ob 0 nx (List.replicate N [])) λr=>some (nc r)else none
 |_=>none
def nd{a:Type}(le:a->a->Bool)(x:a):List a->List a
 |[]=>[x]|y::r=>if le x y then x::y::r else y::nd le x r
def gr{a:Type}(le:a->a->Bool):List a->List a
 |[]=>[]|x::r=>nd le x (gr le r)
def jL(a b:Int):Bool:=decide (a<=b)
def fQ(a b:lY):Bool:=decide (eP a b<=0)
def Jr{a:Type}(le:a->a->Bool)(x:a):∀l:List a,(nd le x l).Perm (x::l)
 |[]=> .refl _
 |y::r=>by
  unfold nd;split;.exact .refl _
  exact((Jr le x r).cons y).trans (.swap x y r)
def qP{a:Type}(le:a->a->Bool):∀l:List a,(gr le l).Perm l
 |[]=> .refl _|x::r=>(Jr le x _).trans ((qP le r).cons x)
def Qe{g:Type}{le:g->g->Bool}(j:∀a b c,le a b=true->le b c=true->le a c=true)(e:∀a b,le a b=true\/le b a=true)(x:g):∀l:List g,l.Pairwise (λa b=>le a b=true)->(nd le x l).Pairwise λa b=>le a b=true
 |[],_=>by simp[nd]
 |y::r,h=>by
  rw[List.pairwise_cons]at h;unfold nd;split
  .rename_i d;refine List.pairwise_cons.2 ⟨?_,List.pairwise_cons.2 h⟩;intro z f;rcases xam.1 f with rfl|f
   .exact d
   exact j _ _ _ d (h.1 z f)
  rename_i d;have i:le y x=true:=(e x y).resolve_left d;refine List.pairwise_cons.2 ⟨?_,Qe j e x r h.2⟩;intro z f;rcases xam.1 ((Jr le x r).mem_iff.1 f)with rfl|f
  .exact i
  exact h.1 z f
def yx{e:Type}{le:e->e->Bool}(f:∀a b c,le a b=true->le b c=true->le a c=true)(d:∀a b,le a b=true\/le b a=true):∀l:List e,(gr le l).Pairwise λa b=>le a b=true
 |[]=> .nil|x::r=>Qe f d x _ (yx f d r)
def sz:∀s t:lY,eP t s=-eP s t
 |[],[]=>rfl|[],_::_=>rfl|_::_,[]=>rfl
 |a::s,b::t=>by
  have:=sz s t;unfold eP
  (repeat' split)<;>omega
def Js(a b c:lY)(h:fQ a b=true)(d:fQ b c=true):fQ a c=true:=by
 simp only[fQ,xaC]at h d⊢;rcases Int.lt_or_eq_of_le h with h|h
 .rcases Int.lt_or_eq_of_le d with d|d;.exact Int.le_of_lt (Jq h d)
  rw[<-yv d];omega
 rw[yv h];exact d
def Qf(a b:lY):fQ a b=true\/fQ b a=true:=by simp only[fQ,xaC];have:=sz a b;omega
def acy{a b:lY}(h:fQ a b=true)(c:fQ b a=true):a=b:=by simp only[fQ,xaC]at h c;have:=sz a b;exact yv oZ
def px:mW->Option mX
 |[]=>some []|[.aw 1 es]::r=>af (kt es) λx=>af (px r) λl=>some (x::l)|_=>none
def yy(n:Nat)(ls:lZ):oY:=match ls with
 |[.aw 1 es]=>af (kt es) λl=>if l.length<=1000000000/\l≠[]then some [D.aB [],hl (gr jL l)]else none
 |_=>none
def uQ(n:Nat)(ls:lZ):oY:=match ls with
 |[.aw 1 es]=>af (px es) λl=>if l.length<=1000000000/\l.Nodup/\(∀x∈l,x.length<=1000000000)then some [D.aB [],nc (gr fQ l)]else none
 |_=>none
def yz(n:Nat)(a:lZ):oX:=Dh a
end Go.Am
