/- An evaluator of code over such values, and that what it answers the code does. No condition. -/
import Derived.Test.YtknmgdnhongcnaaGreatDoorEngS
set_option linter.all false
set_option linter.unnecessarySimpa false
namespace Go.Am
set_option linter.unusedVariables false
def R{α β:Type}(x:Option α)(f:α→Option β):Option β:=match x with
 |some a=>f a
 |none=>none
theorem ez{α β:Type}{x:Option α}{f:α→Option β}{b:β}(h:R x f=some b):∃a,x=some a∧f a=some b:=by
 cases x with
 |none=>cases h
 |some a=>exact ⟨a,rfl,h⟩
def aw{β:Type}(c:Bool)(p:Option β):Option β:=match c with
 |true=>p
 |false=>none
theorem kv{β:Type}{c:Bool}{p:Option β}{b:β}(h:aw c p=some b):c=true∧p=some b:=by
 cases c with
 |false=>cases h
 |true=>exact ⟨rfl,h⟩
def oif{β:Type}(x:D)(p q:Option β):Option β:=match x with
 | .val (.bool true)=>p
 | .val (.bool false)=>q
 |_=>none
theorem Q1{β:Type}{x:D}{p q:Option β}{b:β}(h:oif x p q=some b):(x= .val (.bool true)∧p=some b)∨(x= .val (.bool false)∧q=some b):=by
 unfold oif at h
 split at h
 ·exact .inl ⟨rfl,h⟩
 ·exact .inr ⟨rfl,h⟩
 ·cases h
def jh:D:= .val (.tuple #[])
def toDo:Option AV→Option D
 |some (.d r)=>some r
 |_=>none
theorem u6{x:Option AV}{r:D}(h:toDo x=some r):x=some (.d r):=by
 unfold toDo at h
 split at h
 ·cases h;rfl
 ·cases h
def celsD:D→List D
 | .agg cs=>cs
 |_=>[]
def aa(x:D)(i:Nat):D:=(celsD x).getD i jh
def esD:D→List (List D)
 | .aD _ es=>es
 |_=>[]
def fu:D→List (Value×D)
 | .mp es=>es
 |_=>[]
def bC(x:D):Bool:=x.one
def aL(n:Nat)(x:D):Bool:=match x with
 | .agg cs=>cs.length==n&&cs.all D.one
 |_=>false
def nilP(x:D):Bool:=match x with
 | .val (.slice none 0 0)=>true
 |_=>false
theorem abQ{n:Nat}{x:D}(h:aL n x=true):∃cs,x= .agg cs∧cs.length=n∧cs.all D.one=true:=by
 unfold aL at h
 split at h
 ·rename_i cs
  rw [Bool.and_eq_true,beq_iff_eq] at h
  exact ⟨cs,rfl,h.1,h.2⟩
 ·cases h
theorem abR{n:Nat}{cs:List D}(h:cs.length=n):((List.range n).map fun i=>AV.d (aa (.agg cs) i))=cs.map .d:=by
 apply List.ext_getElem?
 intro i
 simp only [List.getElem?_map]
 by_cases af:i<n
 ·rw [List.getElem?_range af,List.getElem?_eq_getElem (by omega)]
  simp [aa,celsD,List.getD_eq_getElem?_getD,h,af]
 ·rw [List.getElem?_eq_none (by simp;omega),List.getElem?_eq_none (by omega)]
  rfl
def binP(bt:Bool)(op:BinOp)(x y:D):Option D:=
 match x,y with
 | .val (.int k a),.val (.int bg b)=>toDo (match op with
  | .shl=>if b<0 then none else some (.d (.val (.int k (k.wrap (a*2^(min b.toNat k.bits))))))
  | .shr=>if b<0 then none else some (.d (.val (.int k (a.fdiv (2^(min b.toNat k.bits))))))
  |_=>if k=bg then intBin op k a b else none)
 | .val (.string a),.val (.string b)=>toDo (Jp op a b)
 | .val (.bool a),.val (.bool b)=>if bt then toDo (boolBin op a b) else none
 |_,_=>none
theorem abS{T:bW}{t:TypeId}{op:BinOp}{x y r:D}(h:binP (isBoolT T t) op x y=some r):binA T op t (.d x) (.d y)=some (.d r):=by
 unfold binP at h
 unfold binA
 split at h
 ·have:=u6 h
  cases op<;>exact this
 ·exact u6 h
 ·split at h
  ·rename_i ak;simp only [ak,if_true];exact u6 h
  ·cases h
 ·cases h
def eqvP(l:List TypeDesc)(op:BinOp)(x y:D):Option D:=match x,y with
 | .agg xs,.agg cR=>toDo (Jq op l xs cR)
 |_,_=>none
theorem abT{T:bW}{t:TypeId}{op:BinOp}{x y r:D}{l:List TypeDesc}(aq:T.eqs t=some l)(h:eqvP l op x y=some r):binA T op t (.d x) (.d y)=some (.d r):=by
 unfold eqvP at h
 split at h
 ·unfold binA
  simp only [aq]
  exact u6 h
 ·cases h
def nileqP(op:BinOp)(x y:D):Option D:=match op with
 | .eql=>if nilP y then(match x with
  | .val (.slice none _ _)=>some (.val (.bool true))
  | .aD _ (_::_)=>some (.val (.bool false))
  |_=>none) else none
 | .neq=>if nilP y then(match x with
  | .val (.slice none _ _)=>some (.val (.bool false))
  | .aD _ (_::_)=>some (.val (.bool true))
  |_=>none) else none
 |_=>none
def unP(op:UnOp)(x:D):Option D:=match op,x with
 | .not,.val (.bool b)=>some (.val (.bool !b))
 | .neg,.val (.int k n)=>some (.val (.int k (k.wrap (0-n))))
 |_,_=>none
def cvP(k:IntKind)(x:D):Option D:=match x with
 | .val (.int _ n)=>some (.val (.int k (k.wrap n)))
 |_=>none
def cvsP(x:D):Option D:=match x with
 | .val (.string b)=>some (.val (.string b))
 |_=>none
def pickP(c a b:D):Option D:=match c with
 | .val (.bool t)=>some (if t then a else b)
 |_=>none
def aW(agg:Bool)(n off:Nat)(cs:List D):Option D:=match agg with
 |true=>if off+n≤cs.length then some (.agg ((cs.drop off).take n)) else none
 |false=>cs[off]?
def j0(agg:Bool)(n off:Nat)(x:D):Option D:=match x with
 | .agg cs=>aW agg n off cs
 |_=>none
def extP(i:Nat)(x:D):Option D:=match x with
 | .aO vs=>vs[i]?
 |_=>none
def sixP(s i:D):Option D:=match s,i with
 | .val (.string s),.val (.int _ n)=>toDo (E6 s n)
 |_,_=>none
def oe(x:Option D)(Ju:Nat):Option Nat:=match x with
 |none=>some Ju
 |some (.val (.int _ n))=>if 0≤n then some n.toNat else none
 |_=>none
theorem FY(x:Option D)(d:Nat):boundN (x.map .d) d=oe x d:=by
 cases x with
 |none=>rfl
 |some x=>cases x<;>first|rfl|(rename_i v;cases v<;>rfl)
def subsP(s:D)(lo af:Option D):Option D:=match s with
 | .val (.string s)=>match oe af s.size,oe lo 0 with
  |some h,some l=>if l≤h∧h≤s.size then some (.val (.string (s.extract l h))) else none
  |_,_=>none
 |_=>none
def ji(k:Nat)(x:D)(lo af:Option D):Option D:=match x with
 | .aD bg es=>match oe af es.length,oe lo 0 with
  |some h,some l=>if l≤h∧h≤es.length∧bg=k then some (.aD bg ((es.drop l).take (h-l))) else none
  |_,_=>none
 |_=>none
def nq(n:Nat)(lo af:Option D):Option (Nat×Nat):=match oe af n,oe lo 0 with
 |some h,some l=>if l≤h∧h≤n then some (l,h-l) else none
 |_,_=>none
def nr(x:D):Option D:=match x with
 | .val (.string s)=>some (.val (.int .i64 s.size))
 |_=>none
def lenP(x:D):Option D:=match x with
 | .aD _ es=>some (.val (.int .i64 es.length))
 | .val (.slice _ n _)=>some (.val (.int .i64 n))
 |_=>none
def lenmP(x:D):Option D:=match x with
 | .val (.map none)=>some (.val (.int .i64 0))
 | .mp es=>some (.val (.int .i64 es.length))
 |_=>none
def a2(k:Nat)(x i:D):Option (List D):=match i with
 | .val (.int _ n)=>if 0≤n then(match x with
  | .aD bg es=>if bg=k then es[n.toNat]? else none
  |_=>none) else none
 |_=>none
def cH(n:Nat)(i:D):Option Nat:=match i with
 | .val (.int _ j)=>if 0≤j∧j<n then some j.toNat else none
 |_=>none
def elP(x:D):Option (Nat×List (List D)):=match x with
 | .aD k es=>some (k,es)
 | .val (.slice none 0 _)=>some (0,[])
 |_=>none
def jI(eX:Bool)(l:List D):Option D:=toDo (intMM eX (l.map .d))
def c7(n bytes:Nat):Bool:=decide (n*bytes≤140737488355328)&&decide (n≤4611686018427387904)
def makeP(bytes:Nat)(l c:D):Option Nat:=match l,c with
 | .val (.int _ l),.val (.int _ c)=>if 0≤l∧l≤c∧(bytes:Int)*c≤281474976710656∧c≤9223372036854775807 then some l.toNat else none
 |_,_=>none
def lookP(kind:TypeDesc)(zero:Value)(ok:Bool)(es:List (Value×D))(k:D):Option D:=match k with
 | .val dY=>match findD kind dY es with
  |some (some x)=>some (if ok then .aO [x,.val (.bool true)] else x)
  |some none=>some (if ok then .aO [zeroD zero,.val (.bool false)] else zeroD zero)
  |none=>none
 |_=>none
def kU(x:D):Option (List (Value×D)):=match x with
 | .val (.map none)=>some []
 | .mp es=>some es
 |_=>none
def o2(kind:TypeDesc)(es:List (Value×D))(k x:D):Option (List (Value×D)):=match k with
 | .val dY=>mapPut kind dY x es
 |_=>none
section
variable{β:Type}
def ogs:List AV→Option β→Option β
 |[],p=>p
 | .d a::r,p=>aw (bC a) (ogs r p)
 |x::r,p=>if x.one=true then ogs r p else none
theorem Kp{p:Option β}{b:β}:∀{cs:List AV},ogs cs p=some b→cs.all AV.one=true∧p=some b
 |[],h=>⟨rfl,h⟩
 |x::r,h=>by
  unfold ogs at h
  split at h
  ·rename_i e;cases e
  ·rename_i a sN mH e
   cases e
   obtain ⟨ad,ae⟩:=kv h
   obtain ⟨ay,aZ⟩:=Kp ae
   exact ⟨by rw [List.all_cons,ay,Bool.and_true];exact ad,aZ⟩
  ·rename_i e
   cases e
   split at h
   ·rename_i ag
    obtain ⟨ay,aZ⟩:=Kp h
    exact ⟨by rw [List.all_cons,ay,Bool.and_true];exact ag,aZ⟩
   ·cases h
def cellsX(n:Nat)(x:AV)(k:List AV→Option β):Option β:=match x with
 | .d a=>match n with
  |1=>aw (bC a) (k [.d a])
  |_=>aw (aL n a) (k ((List.range n).map fun i=> .d (aa a i)))
 | .agg cs=>ogs cs (k cs)
 |x=>match cellsOf x with
  |some cs=>k cs
  |none=>none
theorem FZ{n:Nat}{x:AV}{k:List AV→Option β}{b:β}(h:cellsX n x k=some b):∃cs,cellsOf x=some cs∧k cs=some b:=by
 unfold cellsX at h
 split at h
 ·rename_i a
  split at h
  ·obtain ⟨ad,ae⟩:=kv h
   refine ⟨_,?_,ae⟩
   unfold bC at ad
   unfold cellsOf
   split
   ·rename_i he;cases he;cases ad
   ·rename_i he;cases he
   ·rw [if_pos (show AV.one (.d a)=true from ad)]
  ·obtain ⟨ad,ae⟩:=kv h
   obtain ⟨cs,rfl,aS,aV⟩:=abQ ad
   rw [abR aS] at ae
   exact ⟨_,by simp only [cellsOf,aV,if_true],ae⟩
 ·obtain ⟨ad,ae⟩:=Kp h
  exact ⟨_,by simp only [cellsOf,ad,if_true],ae⟩
 ·split at h
  ·rename_i cs gJ;exact ⟨cs,gJ,h⟩
  ·cases h
def fillX(place:Nat→Option (Nat×Nat))(cells:List AV):List (Nat×AV)→(List AV→Option β)→Option β
 |[],k=>k cells
 |(i,x)::rest,k=>match place i with
  |none=>none
  |some (off,size)=>cellsX size x fun cs=>if cs.length=size∧off+cs.length≤cells.length then fillX place (setSeg cells off cs) rest k else none
theorem Q2{place:Nat→Option (Nat×Nat)}:∀{parts:List (Nat×AV)} {cells:List AV} {k:List AV→Option β} {b:β},fillX place cells parts k=some b→∃cs,fillA place cells parts=some cs∧k cs=some b
 |[],cells,k,b,h=>⟨cells,rfl,h⟩
 |(i,x)::rest,cells,k,b,h=>by
  unfold fillX at h
  split at h
  ·cases h
  ·rename_i off size aY
   obtain ⟨cs,ad,ae⟩:=FZ h
   split at ae
   case isFalse=>cases ae
   rename_i aj
   obtain ⟨out,ay,aZ⟩:=Q2 ae
   exact ⟨out,by unfold fillA;simp only [aY,ad];rw [if_pos aj];exact ay,aZ⟩
def partsX(size:Nat)(n:Nat):List (Nat×AV)→(List (List D)→Option β)→Option β
 |[],k=>k []
 |(i,x)::r,k=>if i=n then cellsX size x fun cs=>match allD cs with
   |some aF=>if aF.length=size then partsX size (n+1) r fun l=>k (aF::l) else none
   |none=>none
  else none
theorem Q3{size:Nat}:∀{parts:List (Nat×AV)} {n:Nat} {k:List (List D)→Option β} {b:β},partsX size n parts k=some b→∃es,partsD size n parts=some es∧k es=some b
 |[],n,k,b,h=>⟨[],rfl,h⟩
 |(i,x)::r,n,k,b,h=>by
  unfold partsX at h
  split at h
  case isFalse=>cases h
  rename_i af
  obtain ⟨cs,ad,ae⟩:=FZ h
  split at ae
  case h_2=>cases ae
  rename_i aF ef
  split at ae
  case isFalse=>cases ae
  rename_i aq
  obtain ⟨es,ay,aZ⟩:=Q3 ae
  exact ⟨aF::es,by unfold partsD;simp only [af,if_true,ad,ef,ay,aq],aZ⟩
end
end Go.Am
namespace Go.Am
set_option linter.unusedVariables false
section
variable{β:Type}
def fbX(T:bW)(G:cV)(σ:St)(o:Oper)(k:St→Option β):Option β:=match stepA T G σ o with
 |some aP=>k aP
 |none=>none
def jj(σ:St)(dst:Option Tmp)(k:St→Option β)(p:Option D):Option β:=R p fun v=>k (σ.put dst (.d v))
def ly(T:bW)(σ:St)(dst:Option Tmp)(k:St→Option β)(r:AV)(b5:List (Key×cq)):Option β:=match bornR (T.born (dst.getD 9999)) (dst.getD 9999) (r,b5) with
 |(r,b5)=>k (St.put ⟨σ.aC,updO σ.objs b5⟩ dst r)
def optD:Option AV→Option (Option D)
 |none=>some none
 |some (.d a)=>some (some a)
 |_=>none
theorem Q4{x:Option AV}{y:Option D}(h:optD x=some y):x=y.map .d:=by
 unfold optD at h
 split at h<;>cases h<;>rfl
def isSl(T:bW)(t:TypeId):Bool:=match T t with
 |some ⟨.slice _,_,_,_⟩=>true
 |_=>false
def binX(T:bW)(G:cV)(σ:St)(o:Oper)(op:BinOp)(t:TypeId)(x y:Operand)(k:St→Option β):Option β:=
 match evA G σ.aC x,evA G σ.aC y with
 | .d a,.d b=>match isSl T t with
  |true=>jj σ o.dst k (nileqP op a b)
  |false=>match T.eqs t with
   |some l=>jj σ o.dst k (eqvP l op a b)
   |none=>jj σ o.dst k (binP (isBoolT T t) op a b)
 |_,_=>fbX T G σ o k
def fieldX(T:bW)(G:cV)(σ:St)(o:Oper)(s:TypeId)(x:Operand)(f:Nat)(k:St→Option β):Option β:=
 match fieldOf T s f with
 |some (off,i)=>match evA G σ.aC x with
  | .d a=>jj σ o.dst k (j0 (rp i.desc) i.size off a)
  |_=>fbX T G σ o k
 |none=>none
def loadX(T:bW)(G:cV)(σ:St)(o:Oper)(t:TypeId)(a:Operand)(k:St→Option β):Option β:=
 match T t with
 |some i=>match evA G σ.aC a with
  | .dP cs off=>jj σ o.dst k (aW (rp i.desc) i.size off cs)
  | .fc key cw en off=>match σ.objs key with
   |some (.row bg es)=>if cw=bg then R es[en]? fun e=>jj σ o.dst k (aW (rp i.desc) i.size off e) else none
   |_=>none
  |_=>fbX T G σ o k
 |none=>none
def indexAddrX(T:bW)(G:cV)(σ:St)(o:Oper)(t:TypeId)(x en:Operand)(k:St→Option β):Option β:=
 match T t with
 |some ⟨.slice e,_,_,_⟩=>match T e with
  |some bf=>match evA G σ.aC en with
   | .d i=>match evA G σ.aC x with
    | .d a=>R (a2 bf.size a i) fun c=>k (σ.put o.dst (.dP c 0))
    | .row key=>match σ.objs key with
     |some (.row bg es)=>if bg=bf.size then R (cH es.length i) fun n=>k (σ.put o.dst (.fc key bg n 0)) else none
     |_=>none
    | .sub key bg i0 len=>if bg=bf.size then R (cH len i) fun n=>k (σ.put o.dst (.fc key bg (i0+n) 0)) else none
    |_=>none
   |_=>none
  |none=>none
 |some ⟨.array len e,_,_,_⟩=>match T e with
  |some bf=>match evA G σ.aC en with
   | .d i=>R (cH len i) fun n=>match offPtr (evA G σ.aC x) (n*bf.size) with
    |some r=>k (σ.put o.dst r)
    |none=>none
   |_=>none
  |none=>none
 |_=>none
def sliceX(T:bW)(G:cV)(σ:St)(o:Oper)(t:TypeId)(x:Operand)(lo af:Option Operand)(k:St→Option β):Option β:=
 match optD (lo.map (evA G σ.aC)),optD (af.map (evA G σ.aC)) with
 |some l,some h=>match T t with
  |some ⟨.string,_,_,_⟩=>match evA G σ.aC x with
   | .d a=>jj σ o.dst k (subsP a l h)
   |_=>none
  |some ⟨.slice e,_,_,_⟩=>match T e with
   |some bf=>match evA G σ.aC x with
    | .d a=>jj σ o.dst k (ji bf.size a l h)
    | .row key=>match σ.objs key with
     |some (.row bg es)=>if bg=bf.size then R (nq es.length l h) fun p=>k (σ.put o.dst (.sub key bg p.1 p.2)) else none
     |_=>none
    | .sub key bg i0 len=>if bg=bf.size then R (nq len l h) fun p=>k (σ.put o.dst (.sub key bg (i0+p.1) p.2)) else none
    |_=>none
   |none=>none
  |_=>fbX T G σ o k
 |_,_=>none
def lenX(T:bW)(G:cV)(σ:St)(o:Oper)(args:List Operand)(df:List TypeId)(k:St→Option β):Option β:=
 match df,args with
 |[t],[x]=>match evA G σ.aC x with
  | .d a=>match T t with
   |some ⟨.string,_,_,_⟩=>jj σ o.dst k (nr a)
   |some ⟨.slice _,_,_,_⟩=>jj σ o.dst k (lenP a)
   |some ⟨.map _ _,_,_,_⟩=>jj σ o.dst k (lenmP a)
   |_=>none
  |_=>fbX T G σ o k
 |_,_=>none
def appX(T:bW)(G:cV)(σ:St)(o:Oper)(args:List Operand)(df:List TypeId)(k:St→Option β):Option β:=
 match df,args with
 |[t,t'],[s,x]=>match T t,T t',σ.objs (o.dst.getD 9999) with
  |some ⟨.slice e,_,_,_⟩,some ⟨.slice _,_,_,_⟩,none=>match T e with
   |some bf=>
    let go:Nat×List (List D)→Option β:=fun p=>aw (decide (p.1=bf.size∨p.2=[])&&decide (0<bf.size)) (match evA G σ.aC s with
     | .d a=>aw (nilP a&&c7 p.2.length bf.bytes) (ly T σ o.dst k (.row (o.dst.getD 9999)) [(o.dst.getD 9999,.row bf.size p.2)])
     | .row key=>match σ.objs key with
      |some (.row bg es)=>if bg=bf.size∧key<10000 then aw (c7 (es.length+p.2.length) bf.bytes) (ly T σ o.dst k (.row (o.dst.getD 9999)) [(key,.dead),(o.dst.getD 9999,.row bg (es++p.2))]) else none
      |_=>none
     |_=>none)
    match evA G σ.aC x with
    | .d a=>R (elP a) go
    | .sub key bg i len=>match σ.objs key with
     |some (.row qp es)=>if bg=qp then aw (decide (i+len≤es.length)) (go (bg,(es.drop i).take len)) else none
     |_=>none
    |y=>match elemsOf σ.objs y with
     |some p=>go p
     |none=>none
   |none=>none
  |_,_,_=>none
 |_,_=>none
def copyX(T:bW)(G:cV)(σ:St)(o:Oper)(args:List Operand)(df:List TypeId)(k:St→Option β):Option β:=
 match df,args with
 |[t,t'],[s,x]=>match T t with
  |some ⟨.slice e,_,_,_⟩=>match T e with
   |some bf=>
    let go:Nat×List (List D)→Option β:=fun p=>aw (decide (p.1=bf.size∨p.2=[])) (match evA G σ.aC s with
     | .row key=>match σ.objs key with
      |some (.row bg es)=>if bg=bf.size then ly T σ o.dst k (.d (.val (.int .i64 (min p.2.length es.length:Nat)))) [(key,.row bg (p.2.take (min p.2.length es.length)++es.drop (min p.2.length es.length)))] else none
      |_=>none
     | .sub key bg i len=>match σ.objs key with
      |some (.row qp es)=>if bg=bf.size∧qp=bg then aw (decide (i+len≤es.length)) (ly T σ o.dst k (.d (.val (.int .i64 (min p.2.length len:Nat)))) [(key,.row bg (es.take i++p.2.take (min p.2.length len)++es.drop (i+min p.2.length len)))]) else none
      |_=>none
     |_=>none)
    match evA G σ.aC x with
    | .d a=>R (elP a) go
    | .sub key bg i len=>match σ.objs key with
     |some (.row qp es)=>if bg=qp then aw (decide (i+len≤es.length)) (go (bg,(es.drop i).take len)) else none
     |_=>none
    |y=>match elemsOf σ.objs y with
     |some p=>go p
     |none=>none
   |none=>none
  |_=>none
 |_,_=>none
def lookX(T:bW)(G:cV)(σ:St)(o:Oper)(t:TypeId)(x i:Operand)(ok:Bool)(k:St→Option β):Option β:=
 match T t with
 |some ⟨.map gT hC,_,_,_⟩=>match T gT,T hC with
  |some gI,some bf=>if keyKind gI.desc then(match evA G σ.aC i with
   | .d dY=>match evA G σ.aC x with
    | .d m=>R (kU m) fun es=>jj σ o.dst k (lookP gI.desc bf.zero ok es dY)
    | .map key=>match σ.objs key with
     |some (.map es)=>jj σ o.dst k (lookP gI.desc bf.zero ok es dY)
     |_=>none
    |_=>none
   |_=>none) else none
  |_,_=>none
 |_=>none
def mapupX(T:bW)(G:cV)(σ:St)(o:Oper)(t:TypeId)(m i x:Operand)(k:St→Option β):Option β:=
 match T t with
 |some ⟨.map gT _,_,_,_⟩=>match T gT with
  |some gI=>if keyKind gI.desc then(match evA G σ.aC m,evA G σ.aC i,evA G σ.aC x with
   | .map key,.d dY,.d v=>match σ.objs key with
    |some (.map es)=>R (o2 gI.desc es dY v) fun l=>ly T σ o.dst k .any [(key,.map l)]
    |_=>none
   |_,_,_=>none) else none
  |none=>none
 |_=>none
def storeX(T:bW)(G:cV)(σ:St)(o:Oper)(t:TypeId)(a x:Operand)(k:St→Option β):Option β:=
 match T t with
 |some i=>cellsX i.size (evA G σ.aC x) fun cs=>if cs.length=i.size then(match evA G σ.aC a with
  | .ptr key off=>match σ.objs key with
   |some (.box cells)=>if off+cs.length≤cells.length then ly T σ o.dst k .any [(key,.box (setSeg cells off cs))] else none
   |_=>none
  | .fc key cw en off=>match σ.objs key,allD cs with
   |some (.row bg es),some aF=>if cw=bg∧off+aF.length≤cw then R es[en]? fun e=>ly T σ o.dst k .any [(key,.row cw (es.set en (lk e off aF)))] else none
   |_,_=>none
  |_=>none) else none
 |none=>none
def buildX(T:bW)(G:cV)(σ:St)(o:Oper)(t:TypeId)(parts:Array (Nat×Operand))(k:St→Option β):Option β:=
 match bplaces T t with
 |some (pl,z)=>fillX pl (zeroCells z) (parts.toList.map fun p=>(p.1,evA G σ.aC p.2)) fun out=>k (σ.put o.dst (xX out))
 |none=>none
def bsliceX(T:bW)(G:cV)(σ:St)(o:Oper)(t:TypeId)(n:Nat)(parts:Array (Nat×Operand))(k:St→Option β):Option β:=
 match T t,σ.objs (o.dst.getD 9999) with
 |some ⟨.slice e,_,_,_⟩,none=>match T e with
  |some bf=>partsX bf.size 0 (parts.toList.map fun p=>(p.1,evA G σ.aC p.2)) fun es=>if es.length=n∧0<bf.size∧n*bf.size≤16777216 then ly T σ o.dst k (.row (o.dst.getD 9999)) [(o.dst.getD 9999,.row bf.size es)] else none
  |none=>none
 |_,_=>none
def Kq(T:bW)(G:cV)(σ:St)(o:Oper)(t:TypeId)(l c:Operand)(k:St→Option β):Option β:=
 match T t,σ.objs (o.dst.getD 9999) with
 |some ⟨.slice e,_,_,_⟩,none=>match T e with
  |some bf=>match evA G σ.aC l,evA G σ.aC c with
   | .d l,.d c=>if bf.zero.cells.toList.all jD then R (makeP bf.bytes l c) fun n=>ly T σ o.dst k (.row (o.dst.getD 9999)) [(o.dst.getD 9999,.row bf.size (List.replicate n (bf.zero.cells.toList.map .val)))] else none
   |_,_=>none
  |none=>none
 |_,_=>none
def convX(T:bW)(G:cV)(σ:St)(o:Oper)(s t:TypeId)(x:Operand)(k:St→Option β):Option β:=
 match T s,T t,evA G σ.aC x with
 |some _,some ⟨.int i,_,_,_⟩,.d a=>jj σ o.dst k (cvP i a)
 |some _,some ⟨.string,_,_,_⟩,.d a=>jj σ o.dst k (cvsP a)
 |_,_,_=>fbX T G σ o k
def minmaxX(T:bW)(G:cV)(σ:St)(o:Oper)(eX:Bool)(args:List Operand)(k:St→Option β):Option β:=
 match allD (args.map (evA G σ.aC)) with
 |some aF=>jj σ o.dst k (jI eX aF)
 |none=>none
def fZ:AV→AV→Option (D×D)
 | .d a,.d b=>some (a,b)
 |_,_=>none
theorem abU{x y:AV}{p:D×D}(h:fZ x y=some p):x= .d p.1∧y= .d p.2:=by
 unfold fZ at h
 split at h<;>cases h
 exact ⟨rfl,rfl⟩
theorem Q5{T:bW}{ev:Operand→AV}{c a b:Operand}{t:Bool}(aj:ev c= .d (.val (.bool t)))(h:fZ (ev a) (ev b)=none):pureOp T ev (.pick c a b)=some (if t then ev a else ev b):=by
 simp only [pureOp,aj]
 generalize ev a=x at*
 generalize ev b=y at*
 split
 ·cases h
 ·rfl
def stepX(T:bW)(G:cV)(σ:St)(o:Oper)(k:St→Option β):Option β:=
 match o.op with
 | .binOp op t x y _=>binX T G σ o op t x y k
 | .unOp op _ x=>match evA G σ.aC x with
  | .d a=>jj σ o.dst k (unP op a)
  |_=>none
 | .convert s t x=>convX T G σ o s t x k
 | .pick c a b=>match evA G σ.aC c with
  | .d c=>match fZ (evA G σ.aC a) (evA G σ.aC b) with
   |some p=>jj σ o.dst k (pickP c p.1 p.2)
   |none=>oif c (k (σ.put o.dst (evA G σ.aC a))) (k (σ.put o.dst (evA G σ.aC b)))
  |_=>none
 | .field s x f=>fieldX T G σ o s x f k
 | .extract x i=>match evA G σ.aC x with
  | .d a=>jj σ o.dst k (extP i a)
  |_=>fbX T G σ o k
 | .index t x i=>match T t with
  |some ⟨.string,_,_,_⟩=>match evA G σ.aC x,evA G σ.aC i with
   | .d a,.d b=>jj σ o.dst k (sixP a b)
   |_,_=>none
  |some ⟨.array len e,_,_,_⟩=>match T e with
   |some bf=>match evA G σ.aC x,evA G σ.aC i with
    | .d a,.d b=>R (cH len b) fun n=>jj σ o.dst k (j0 (rp bf.desc) bf.size (n*bf.size) a)
    |_,_=>none
   |none=>none
  |_=>none
 | .load t a=>loadX T G σ o t a k
 | .indexAddr t x en=>indexAddrX T G σ o t x en k
 | .slice t x lo af none=>sliceX T G σ o t x lo af k
 | .lookup t x i ok=>lookX T G σ o t x i ok k
 | .mapUpdate t m i x=>mapupX T G σ o t m i x k
 | .insert t m i x=>mapupX T G σ o t m i x k
 | .store t a x=>storeX T G σ o t a x k
 | .build t parts=>buildX T G σ o t parts k
 | .buildSlice t n parts=>bsliceX T G σ o t n parts k
 | .makeSlice t l c=>Kq T G σ o t l c k
 | .box t x=>match T t,σ.objs (o.dst.getD 9999) with
  |some i,none=>cellsX i.size (evA G σ.aC x) fun cs=>ly T σ o.dst k (.ptr (o.dst.getD 9999) 0) [(o.dst.getD 9999,.box cs)]
  |_,_=>none
 | .call ⟨.builtin .len,args,df⟩=>lenX T G σ o args.toList df.toList k
 | .call ⟨.builtin .append,args,df⟩=>appX T G σ o args.toList df.toList k
 | .call ⟨.builtin .copy,args,df⟩=>copyX T G σ o args.toList df.toList k
 | .call ⟨.builtin .max,args,_⟩=>minmaxX T G σ o true args.toList k
 | .call ⟨.builtin .min,args,_⟩=>minmaxX T G σ o false args.toList k
 |_=>fbX T G σ o k
variable{T:bW}{G:cV}{σ:St}{o:Oper}{k:St→Option β}{b:β}
theorem th(h:fbX T G σ o k=some b):∃aP,stepA T G σ o=some aP∧k aP=some b:=by
 unfold fbX at h
 split at h
 ·exact ⟨_,by assumption,h⟩
 ·cases h
theorem kV{r:AV}(h:pureOp T (evA G σ.aC) o.op=some r)(ai:k (σ.put o.dst r)=some b):∃aP,stepA T G σ o=some aP∧k aP=some b:=
 ⟨_,by unfold stepA;rw [h],ai⟩
theorem kx{r:AV}(ar:pureOp T (evA G σ.aC) o.op=none)(h:memOp T (evA G σ.aC) σ.objs o.op=some r)(ai:k (σ.put o.dst r)=some b):∃aP,stepA T G σ o=some aP∧k aP=some b:=
 ⟨_,by unfold stepA;rw [ar,h],ai⟩
theorem qq{r:AV}{b5:List (Key×cq)}(ar:pureOp T (evA G σ.aC) o.op=none)(ad:memOp T (evA G σ.aC) σ.objs o.op=none)(h:effOp0 T (evA G σ.aC) σ.objs (o.dst.getD 9999) o.op=some (r,b5))
  (ai:ly T σ o.dst k r b5=some b):∃aP,stepA T G σ o=some aP∧k aP=some b:=
 ⟨_,by unfold stepA;rw [ar,ad];unfold fN;rw [h];rfl,by unfold ly at ai;exact ai⟩
theorem abV{op:BinOp}{t:TypeId}{x y:Operand}{uC:TypeId}(aG:o.op= .binOp op t x y uC)(h:binX T G σ o op t x y k=some b):∃aP,stepA T G σ o=some aP∧k aP=some b:=by
 unfold binX at h
 split at h
 ·rename_i a c aB aj
  split at h
  ·rename_i az
   obtain ⟨v,ad,ae⟩:=ez h
   have Q6:∀{d},nilP d=true→d= .val (.slice none 0 0):=by
    intro d ax
    unfold nilP at ax
    split at ax
    ·rfl
    ·cases ax
   unfold isSl at az
   split at az
   case h_2=>cases az
   rename_i aS aV bz cB aE
   have ak:c= .val (.slice none 0 0)→pureOp T (evA G σ.aC) o.op=none:=by
    intro c9
    subst c9
    rw [aG]
    simp only [pureOp,aB,aj,binA]
   unfold nileqP at ad
   split at ad
   ·split at ad
    case isFalse=>cases ad
    rename_i aI
    have aI:=Q6 aI
    subst aI
    refine kx (r:= .d v) (ak rfl) ?_ ae
    rw [aG]
    simp only [memOp,aE,aj,isNilS,if_true,aB,someS]
    split at ad<;>cases ad<;>simp
   ·split at ad
    case isFalse=>cases ad
    rename_i aI
    have aI:=Q6 aI
    subst aI
    refine kx (r:= .d v) (ak rfl) ?_ ae
    rw [aG]
    simp only [memOp,aE,aj,isNilS,if_true,aB,someS]
    split at ad<;>cases ad<;>simp
   ·cases ad
  ·split at h
   ·rename_i l aq
    obtain ⟨v,ad,ae⟩:=ez h
    exact kV (by rw [aG];simp only [pureOp,aB,aj];exact abT aq ad) ae
   ·obtain ⟨v,ad,ae⟩:=ez h
    exact kV (by rw [aG];simp only [pureOp,aB,aj];exact abS ad) ae
 ·exact th h
theorem F0{i:hB}{off:Nat}{cs:List D}{v:D}(h:aW (rp i.desc) i.size off cs=some v):pickD i cs off=some (.d v):=by
 unfold aW at h
 unfold pickD
 cases ax:rp i.desc with
 |true=>
  simp only [ax] at h
  simp only [if_true]
  split at h
  ·rename_i aj;rw [if_pos aj];cases h;rfl
  ·cases h
 |false=>
  simp only [ax] at h
  simp [h]
theorem abW{s:TypeId}{x:Operand}{f:Nat}(aG:o.op= .field s x f)(h:fieldX T G σ o s x f k=some b):∃aP,stepA T G σ o=some aP∧k aP=some b:=by
 unfold fieldX at h
 split at h
 case h_2=>cases h
 rename_i off i a6
 split at h
 ·rename_i a aB
  obtain ⟨v,ad,ae⟩:=ez h
  unfold j0 at ad
  split at ad
  case h_2=>cases ad
  exact kV (by rw [aG];simp only [pureOp,a6,aB];exact F0 ad) ae
 ·exact th h
theorem abX{t:TypeId}{a:Operand}(aG:o.op= .load t a)(h:loadX T G σ o t a k=some b):∃aP,stepA T G σ o=some aP∧k aP=some b:=by
 unfold loadX at h
 split at h
 case h_2=>cases h
 rename_i i af
 split at h
 ·rename_i cs off aB
  obtain ⟨v,ad,ae⟩:=ez h
  exact kx (by rw [aG];rfl) (by rw [aG];simp only [memOp,af,aB];exact F0 ad) ae
 ·rename_i key cw en off aB
  split at h
  case h_2=>cases h
  rename_i bg es ai
  split at h
  case isFalse=>cases h
  rename_i c6
  obtain ⟨e,ad,ae⟩:=ez h
  obtain ⟨v,ay,aZ⟩:=ez ae
  exact kx (by rw [aG];rfl) (by rw [aG];simp only [memOp,af,aB,ai,c6,if_true,ad];exact F0 ay) aZ
 ·exact th h
theorem Kr{n m:Nat}{i:D}(h:cH n i=some m):∃F1 j,i= .val (.int F1 j)∧0≤j∧j<n∧m=j.toNat:=by
 unfold cH at h
 split at h
 case h_2=>cases h
 split at h
 case isFalse=>cases h
 rename_i aj
 cases h
 exact ⟨_,_,rfl,aj.1,aj.2,rfl⟩
theorem abY{t:TypeId}{x en:Operand}(aG:o.op= .indexAddr t x en)(h:indexAddrX T G σ o t x en k=some b):∃aP,stepA T G σ o=some aP∧k aP=some b:=by
 unfold indexAddrX at h
 split at h
 ·rename_i e s1 s2 iQ aE
  split at h
  case h_2=>cases h
  rename_i bf he
  split at h
  case h_2=>cases h
  rename_i i af
  split at h
  ·rename_i a aB
   obtain ⟨c,ad,ae⟩:=ez h
   unfold a2 at ad
   split at ad
   case h_2=>cases ad
   split at ad
   case isFalse=>cases ad
   rename_i aI
   split at ad
   case h_2=>cases ad
   split at ad
   case isFalse=>cases ad
   rename_i ai
   exact kx (by rw [aG];rfl) (by rw [aG];simp only [memOp,aE,af,he,aB,aI,ai,if_true,ad]) ae
  ·rename_i key aB
   split at h
   case h_2=>cases h
   rename_i bg es ai
   split at h
   case isFalse=>cases h
   rename_i c6
   obtain ⟨n,ad,ae⟩:=ez h
   obtain ⟨F1,j,rfl,a0,a9,rfl⟩:=Kr ad
   exact kx (by rw [aG];rfl) (by rw [aG];simp only [memOp,aE,af,he,aB,a0,if_true,ai,c6,a9,and_self]) (c6▸ae)
  ·rename_i key bg i0 len aB
   split at h
   case isFalse=>cases h
   rename_i c6
   obtain ⟨n,ad,ae⟩:=ez h
   obtain ⟨F1,j,rfl,a0,a9,rfl⟩:=Kr ad
   exact kx (by rw [aG];rfl) (by rw [aG];simp only [memOp,aE,af,he,aB,a0,if_true,c6,a9,and_self]) (c6▸ae)
  ·cases h
 ·rename_i len e s1 s2 iQ aE
  split at h
  case h_2=>cases h
  rename_i bf he
  split at h
  case h_2=>cases h
  rename_i i af
  obtain ⟨n,ad,ae⟩:=ez h
  obtain ⟨F1,j,rfl,a0,a9,rfl⟩:=Kr ad
  split at ae
  case h_2=>cases ae
  rename_i r av
  exact kx (by rw [aG];rfl) (by rw [aG];simp only [memOp,aE,af,he,a0,a9,and_self,if_true];exact av) ae
 ·cases h
theorem abZ{t:TypeId}{x:Operand}{lo af:Option Operand}(aG:o.op= .slice t x lo af none)(h:sliceX T G σ o t x lo af k=some b):∃aP,stepA T G σ o=some aP∧k aP=some b:=by
 unfold sliceX at h
 split at h
 case h_2=>cases h
 rename_i l bu aq ti
 have aq:=Q4 aq
 have ti:=Q4 ti
 split at h
 ·rename_i s1 s2 iQ aE
  split at h
  case h_2=>cases h
  rename_i a aB
  obtain ⟨v,ad,ae⟩:=ez h
  unfold subsP at ad
  split at ad
  case h_2=>cases ad
  split at ad
  case h_2=>cases ad
  rename_i br bo
  split at ad
  case isFalse=>cases ad
  rename_i aj
  cases ad
  exact kV (by rw [aG];simp only [pureOp,aE,aB,aq,ti,FY,br,bo];rw [if_pos aj]) ae
 ·rename_i e s1 s2 iQ aE
  split at h
  case h_2=>cases h
  rename_i bf he
  split at h
  ·rename_i a aB
   obtain ⟨v,ad,ae⟩:=ez h
   unfold ji at ad
   split at ad
   case h_2=>cases ad
   split at ad
   case h_2=>cases ad
   rename_i br bo
   split at ad
   case isFalse=>cases ad
   rename_i aj
   cases ad
   exact kx (by rw [aG];simp only [pureOp,aE]) (by rw [aG];simp only [memOp,aE,he,aB,lenA,aq,ti,FY,br,bo];rw [if_pos ⟨aj.1,aj.2.1⟩,if_pos aj.2.2]) ae
  ·rename_i key aB
   split at h
   case h_2=>cases h
   rename_i bg es ai
   split at h
   case isFalse=>cases h
   rename_i c6
   obtain ⟨p,ad,ae⟩:=ez h
   unfold nq at ad
   split at ad
   case h_2=>cases ad
   rename_i br bo
   split at ad
   case isFalse=>cases ad
   rename_i aj
   cases ad
   exact kx (by rw [aG];simp only [pureOp,aE]) (by rw [aG];simp only [memOp,aE,he,aB,lenA,ai,aq,ti,FY,br,bo];rw [if_pos aj,if_pos c6]) ae
  ·rename_i key bg i0 len aB
   split at h
   case isFalse=>cases h
   rename_i c6
   obtain ⟨p,ad,ae⟩:=ez h
   unfold nq at ad
   split at ad
   case h_2=>cases ad
   rename_i br bo
   split at ad
   case isFalse=>cases ad
   rename_i aj
   cases ad
   exact kx (by rw [aG];simp only [pureOp,aE]) (by rw [aG];simp only [memOp,aE,he,aB,lenA,aq,ti,FY,br,bo];rw [if_pos aj,if_pos c6]) ae
  ·cases h
 ·exact th h
theorem ab0{args:Array Operand}{df:Array TypeId}(aG:o.op= .call ⟨.builtin .len,args,df⟩)(h:lenX T G σ o args.toList df.toList k=some b):∃aP,stepA T G σ o=some aP∧k aP=some b:=by
 unfold lenX at h
 split at h
 case h_2=>cases h
 rename_i t x aS aV
 have aY:pureOp T (evA G σ.aC) o.op=none:=by rw [aG];rfl
 split at h
 ·rename_i a aB
  split at h
  ·rename_i s1 s2 iQ aE
   obtain ⟨v,ad,ae⟩:=ez h
   unfold nr at ad
   split at ad<;>cases ad
   exact kx aY (by rw [aG];simp only [memOp,aS,aV,aE,aB]) ae
  ·rename_i e s1 s2 iQ aE
   obtain ⟨v,ad,ae⟩:=ez h
   unfold lenP at ad
   split at ad<;>cases ad
   ·exact kx aY (by rw [aG];simp only [memOp,aS,aV,aE,aB,lenA]) ae
   ·exact kx aY (by rw [aG];simp only [memOp,aS,aV,aE,aB,lenA]) ae
  ·rename_i br bo s1 s2 iQ aE
   obtain ⟨v,ad,ae⟩:=ez h
   unfold lenmP at ad
   split at ad<;>cases ad
   ·exact kx aY (by rw [aG];simp only [memOp,aS,aV,aE,aB]) ae
   ·exact kx aY (by rw [aG];simp only [memOp,aS,aV,aE,aB]) ae
  ·cases h
 ·exact th h
theorem Q7{a:D}{p:Nat×List (List D)}(h:elP a=some p)(objs:b8):elemsOf objs (.d a)=some p:=by
 unfold elP at h
 split at h<;>cases h<;>rfl
theorem ab1{args:Array Operand}{df:Array TypeId}(aG:o.op= .call ⟨.builtin .append,args,df⟩)(h:appX T G σ o args.toList df.toList k=some b):∃aP,stepA T G σ o=some aP∧k aP=some b:=by
 unfold appX at h
 split at h
 case h_2=>cases h
 rename_i t t' s x aS aV
 split at h
 case h_2=>cases h
 rename_i e s1 s2 iQ cX asC asE asF aE n3 ax
 split at h
 case h_2=>cases h
 rename_i bf he
 have aY:pureOp T (evA G σ.aC) o.op=none:=by rw [aG];rfl
 have hm:memOp T (evA G σ.aC) σ.objs o.op=none:=by rw [aG];rfl
 have key:∀p:Nat×List (List D),elemsOf σ.objs (evA G σ.aC x)=some p→aw (decide (p.1=bf.size∨p.2=[])&&decide (0<bf.size)) (match evA G σ.aC s with
     | .d a=>aw (nilP a&&c7 p.2.length bf.bytes) (ly T σ o.dst k (.row (o.dst.getD 9999)) [(o.dst.getD 9999,.row bf.size p.2)])
     | .row key=>match σ.objs key with
      |some (.row bg es)=>if bg=bf.size∧key<10000 then aw (c7 (es.length+p.2.length) bf.bytes) (ly T σ o.dst k (.row (o.dst.getD 9999)) [(key,.dead),(o.dst.getD 9999,.row bg (es++p.2))]) else none
      |_=>none
     |_=>none)=some b→∃aP,stepA T G σ o=some aP∧k aP=some b:=by
  rintro ⟨cw,xs⟩ ey h
  obtain ⟨ar,h⟩:=kv h
  simp only [Bool.and_eq_true,decide_eq_true_eq] at ar
  split at h
  ·rename_i a aB
   obtain ⟨ad,h⟩:=kv h
   simp only [Bool.and_eq_true,c7,decide_eq_true_eq] at ad
   have aI:a= .val (.slice none 0 0):=by
    have:=ad.1
    unfold nilP at this
    split at this
    ·rfl
    ·cases this
   have ae:=ad.2
   clear ad
   refine qq aY hm ?_ h
   rw [aG]
   simp only [effOp0,aS,aV,aE,n3,ax,he,ey,aB,aI]
   rw [if_pos ar,if_pos ae]
  ·rename_i key aB
   split at h
   case h_2=>cases h
   rename_i bg es ai
   split at h
   case isFalse=>cases h
   rename_i c6
   obtain ⟨ad,h⟩:=kv h
   simp only [Bool.and_eq_true,c7,decide_eq_true_eq] at ad
   refine qq aY hm ?_ h
   rw [aG]
   simp only [effOp0,aS,aV,aE,n3,ax,he,ey,aB,ai]
   rw [if_pos ar,if_pos ⟨c6.1,ad.1,ad.2,c6.2⟩]
  ·cases h
 simp only at h
 split at h
 ·rename_i a aB
  obtain ⟨p,ad,ae⟩:=ez h
  exact key p (by rw [aB];exact Q7 ad _) ae
 ·rename_i ab2 bg i len aB
  split at h
  case h_2=>cases h
  rename_i qp es ai
  split at h
  case isFalse=>cases h
  rename_i c6
  obtain ⟨ad,ae⟩:=kv h
  have ey:elemsOf σ.objs (evA G σ.aC x)=some (bg,(es.drop i).take len):=by
   rw [aB]
   simp only [elemsOf,ai]
   rw [if_pos ⟨c6,of_decide_eq_true ad⟩]
  exact key (bg,(es.drop i).take len) ey ae
 ·split at h
  case h_2=>cases h
  rename_i p aY
  exact key p aY h
theorem ab3{args:Array Operand}{df:Array TypeId}(aG:o.op= .call ⟨.builtin .copy,args,df⟩)(h:copyX T G σ o args.toList df.toList k=some b):∃aP,stepA T G σ o=some aP∧k aP=some b:=by
 unfold copyX at h
 split at h
 case h_2=>cases h
 rename_i t t' s x aS aV
 split at h
 case h_2=>cases h
 rename_i e s1 s2 iQ aE
 split at h
 case h_2=>cases h
 rename_i bf he
 have aY:pureOp T (evA G σ.aC) o.op=none:=by rw [aG];rfl
 have hm:memOp T (evA G σ.aC) σ.objs o.op=none:=by rw [aG];rfl
 have key:∀p:Nat×List (List D),elemsOf σ.objs (evA G σ.aC x)=some p→aw (decide (p.1=bf.size∨p.2=[])) (match evA G σ.aC s with
     | .row key=>match σ.objs key with
      |some (.row bg es)=>if bg=bf.size then ly T σ o.dst k (.d (.val (.int .i64 (min p.2.length es.length:Nat)))) [(key,.row bg (p.2.take (min p.2.length es.length)++es.drop (min p.2.length es.length)))] else none
      |_=>none
     | .sub key bg i len=>match σ.objs key with
      |some (.row qp es)=>if bg=bf.size∧qp=bg then aw (decide (i+len≤es.length)) (ly T σ o.dst k (.d (.val (.int .i64 (min p.2.length len:Nat)))) [(key,.row bg (es.take i++p.2.take (min p.2.length len)++es.drop (i+min p.2.length len)))]) else none
      |_=>none
     |_=>none)=some b→∃aP,stepA T G σ o=some aP∧k aP=some b:=by
  rintro ⟨cw,xs⟩ ey h
  obtain ⟨ar,h⟩:=kv h
  simp only [decide_eq_true_eq] at ar
  split at h
  ·rename_i key aB
   split at h
   case h_2=>cases h
   rename_i bg es ai
   split at h
   case isFalse=>cases h
   rename_i c6
   refine qq aY hm ?_ h
   rw [aG]
   simp only [effOp0,aS,aV,aE,he,ey,aB,ai]
   rw [if_pos ar,if_pos c6]
  ·rename_i key bg i len aB
   split at h
   case h_2=>cases h
   rename_i qp es ai
   split at h
   case isFalse=>cases h
   rename_i c6
   obtain ⟨ad,h⟩:=kv h
   simp only [decide_eq_true_eq] at ad
   refine qq aY hm ?_ h
   rw [aG]
   simp only [effOp0,aS,aV,aE,he,ey,aB,ai]
   rw [if_pos ar,if_pos ⟨c6.1,c6.2,ad⟩]
  ·cases h
 simp only at h
 split at h
 ·rename_i a aB
  obtain ⟨p,ad,ae⟩:=ez h
  exact key p (by rw [aB];exact Q7 ad _) ae
 ·rename_i ab2 bg i len aB
  split at h
  case h_2=>cases h
  rename_i qp es ai
  split at h
  case isFalse=>cases h
  rename_i c6
  obtain ⟨ad,ae⟩:=kv h
  have ey:elemsOf σ.objs (evA G σ.aC x)=some (bg,(es.drop i).take len):=by
   rw [aB]
   simp only [elemsOf,ai]
   rw [if_pos ⟨c6,of_decide_eq_true ad⟩]
  exact key (bg,(es.drop i).take len) ey ae
 ·split at h
  case h_2=>cases h
  rename_i p aY
  exact key p aY h
theorem Q8{gI bf:hB}{t gT hC:TypeId}{s1 s2:Nat}{iQ:Value}(aE:T t=some ⟨.map gT hC,s1,s2,iQ⟩)(ad:T gT=some gI)(ae:T hC=some bf)(ai:keyKind gI.desc=true){ok:Bool}{es:List (Value×D)}{dY v:D}
  (h:lookP gI.desc bf.zero ok es dY=some v):∃u,dY= .val u∧lookupD T t es u ok=some (.d v):=by
 unfold lookP at h
 split at h
 case h_2=>cases h
 rename_i u
 refine ⟨u,rfl,?_⟩
 unfold lookupD
 simp only [aE,ad,ae,ai,if_true]
 split at h
 ·rename_i x ag;cases h;simp only [ag]
 ·rename_i ag;cases h;simp only [ag]
 ·cases h
theorem ab4{t:TypeId}{x i:Operand}{ok:Bool}(aG:o.op= .lookup t x i ok)(h:lookX T G σ o t x i ok k=some b):∃aP,stepA T G σ o=some aP∧k aP=some b:=by
 unfold lookX at h
 split at h
 case h_2=>cases h
 rename_i gT hC s1 s2 iQ aE
 split at h
 case h_2=>cases h
 rename_i gI bf ad ae
 split at h
 case isFalse=>cases h
 rename_i ai
 split at h
 case h_2=>cases h
 rename_i dY Az
 split at h
 ·rename_i m hm
  obtain ⟨es,a0,a9⟩:=ez h
  obtain ⟨v,bH,ei⟩:=ez a9
  obtain ⟨u,rfl,hH⟩:=Q8 aE ad ae ai bH
  refine kx (by rw [aG];rfl) ?_ ei
  rw [aG]
  simp only [memOp,Az,hm]
  unfold kU at a0
  split at a0<;>cases a0<;>exact hH
 ·rename_i key hm
  split at h
  case h_2=>cases h
  rename_i es ky
  obtain ⟨v,bH,ei⟩:=ez h
  obtain ⟨u,rfl,hH⟩:=Q8 aE ad ae ai bH
  refine kx (by rw [aG];rfl) ?_ ei
  rw [aG]
  simp only [memOp,Az,hm,ky,hH]
 ·cases h
theorem Q9{t:TypeId}{m i x:Operand}(aG:o.op= .mapUpdate t m i x∨o.op= .insert t m i x)(h:mapupX T G σ o t m i x k=some b):∃aP,stepA T G σ o=some aP∧k aP=some b:=by
 unfold mapupX at h
 split at h
 case h_2=>cases h
 rename_i gT hC s1 s2 iQ aE
 split at h
 case h_2=>cases h
 rename_i gI ad
 split at h
 case isFalse=>cases h
 rename_i ai
 split at h
 case h_2=>cases h
 rename_i key dY v aS aV bz
 split at h
 case h_2=>cases h
 rename_i es ky
 obtain ⟨l,a0,a9⟩:=ez h
 unfold o2 at a0
 split at a0
 case h_2=>cases a0
 rcases aG with aG|aG<;>
 ·refine qq (by rw [aG];rfl) (by rw [aG];rfl) ?_ a9
  rw [aG]
  simp only [effOp0,aE,ad,ai,if_true,aS,aV,bz,ky,a0]
theorem ab5{t:TypeId}{a x:Operand}(aG:o.op= .store t a x)(h:storeX T G σ o t a x k=some b):∃aP,stepA T G σ o=some aP∧k aP=some b:=by
 unfold storeX at h
 split at h
 case h_2=>cases h
 rename_i i af
 obtain ⟨cs,ad,ae⟩:=FZ h
 split at ae
 case isFalse=>cases ae
 rename_i aq
 split at ae
 ·rename_i key off aB
  split at ae
  case h_2=>cases ae
  rename_i cells ai
  split at ae
  case isFalse=>cases ae
  rename_i aj
  refine qq (by rw [aG];rfl) (by rw [aG];rfl) ?_ ae
  rw [aG]
  simp only [effOp0,af,ad,aB,ai]
  rw [if_pos aq,if_pos aj]
 ·rename_i key cw en off aB
  split at ae
  case h_2=>cases ae
  rename_i bg es aF ai ef
  split at ae
  case isFalse=>cases ae
  rename_i aj
  obtain ⟨e,a0,a9⟩:=ez ae
  refine qq (by rw [aG];rfl) (by rw [aG];rfl) ?_ a9
  rw [aG]
  simp only [effOp0,af,ad,aB,ai,ef,a0]
  rw [if_pos aq,if_pos aj]
 ·cases ae
theorem ab6{t:TypeId}{parts:Array (Nat×Operand)}(aG:o.op= .build t parts)(h:buildX T G σ o t parts k=some b):∃aP,stepA T G σ o=some aP∧k aP=some b:=by
 unfold buildX at h
 split at h
 case h_2=>cases h
 rename_i pl z ak
 obtain ⟨cs,ad,ae⟩:=Q2 h
 exact kV (by rw [aG];simp only [pureOp,buildA,ak,ad]) ae
theorem ab7{t:TypeId}{n:Nat}{parts:Array (Nat×Operand)}(aG:o.op= .buildSlice t n parts)(h:bsliceX T G σ o t n parts k=some b):∃aP,stepA T G σ o=some aP∧k aP=some b:=by
 unfold bsliceX at h
 split at h
 case h_2=>cases h
 rename_i e s1 s2 iQ aE ax
 split at h
 case h_2=>cases h
 rename_i bf he
 obtain ⟨es,ad,ae⟩:=Q3 h
 split at ae
 case isFalse=>cases ae
 rename_i aj
 refine qq (by rw [aG];rfl) (by rw [aG];rfl) ?_ ae
 rw [aG]
 simp only [effOp0,aE,ax,he,ad]
 rw [if_pos aj]
theorem ab8{t:TypeId}{l c:Operand}(aG:o.op= .makeSlice t l c)(h:Kq T G σ o t l c k=some b):∃aP,stepA T G σ o=some aP∧k aP=some b:=by
 unfold Kq at h
 split at h
 case h_2=>cases h
 rename_i e s1 s2 iQ aE ax
 split at h
 case h_2=>cases h
 rename_i bf he
 split at h
 case h_2=>cases h
 rename_i oO hg aq aj
 split at h
 case isFalse=>cases h
 rename_i bN
 obtain ⟨n,ad,ae⟩:=ez h
 unfold makeP at ad
 split at ad
 case h_2=>cases ad
 split at ad
 case isFalse=>cases ad
 rename_i lj
 cases ad
 refine qq (by rw [aG];rfl) (by rw [aG];rfl) ?_ ae
 rw [aG]
 simp only [effOp0,aE,ax,he,aq,aj]
 rw [if_pos ⟨lj.1,lj.2.1,lj.2.2.1,lj.2.2.2,bN⟩]
theorem ab9{s t:TypeId}{x:Operand}(aG:o.op= .convert s t x)(h:convX T G σ o s t x k=some b):∃aP,stepA T G σ o=some aP∧k aP=some b:=by
 unfold convX at h
 split at h
 ·rename_i q i s1 s2 iQ a az aE ag
  obtain ⟨v,ad,ae⟩:=ez h
  unfold cvP at ad
  split at ad<;>cases ad
  exact kV (by rw [aG];simp only [pureOp,az,aE,ag]) ae
 ·rename_i q s1 s2 iQ a az aE ag
  obtain ⟨v,ad,ae⟩:=ez h
  unfold cvsP at ad
  split at ad<;>cases ad
  exact kV (by rw [aG];simp only [pureOp,az,aE,ag]) ae
 ·exact th h
theorem yo(h:stepX T G σ o k=some b):∃aP,stepA T G σ o=some aP∧k aP=some b:=by
 unfold stepX at h
 split at h
 ·exact abV (by assumption) h
 ·rename_i aG
  split at h
  ·rename_i a aB
   obtain ⟨v,ad,ae⟩:=ez h
   unfold unP at ad
   split at ad<;>cases ad
   ·exact kV (by rw [aG];simp only [pureOp,aB]) ae
   ·exact kV (by rw [aG];simp only [pureOp,aB]) ae
  ·cases h
 ·exact ab9 (by assumption) h
 ·rename_i c x y aG
  split at h
  case h_2=>cases h
  rename_i hg aj
  split at h
  ·rename_i p aY
   obtain ⟨aB,ak⟩:=abU aY
   obtain ⟨v,ad,ae⟩:=ez h
   unfold pickP at ad
   split at ad<;>cases ad
   rename_i t
   refine kV ?_ ae
   rw [aG]
   simp only [pureOp,aj,aB,ak]
   split
   ·rename_i aS aV;simp only [AV.d.injEq] at aS aV;rw [aS,aV];cases t<;>rfl
   ·cases t<;>rfl
  ·rename_i aY
   rcases Q1 h with⟨rfl,ad⟩|⟨rfl,ad⟩
   ·exact kV (by rw [aG];exact Q5 aj aY) ad
   ·exact kV (by rw [aG];exact Q5 aj aY) ad
 ·exact abW (by assumption) h
 ·rename_i x i aG
  split at h
  ·rename_i a aB
   obtain ⟨v,ad,ae⟩:=ez h
   unfold extP at ad
   split at ad
   case h_2=>cases ad
   exact kV (by rw [aG];simp only [pureOp,aB,ad]) ae
  ·exact th h
 ·rename_i t x i aG
  split at h
  ·rename_i s1 s2 iQ aE
   split at h
   case h_2=>cases h
   rename_i a c aB aj
   obtain ⟨v,ad,ae⟩:=ez h
   unfold sixP at ad
   split at ad
   case h_2=>cases ad
   exact kV (by rw [aG];simp only [pureOp,aE,aB,aj];exact u6 ad) ae
  ·rename_i len e s1 s2 iQ aE
   split at h
   case h_2=>cases h
   rename_i bf h6
   split at h
   case h_2=>cases h
   rename_i a c aB aj
   obtain ⟨n,a0,h⟩:=ez h
   obtain ⟨v,ad,ae⟩:=ez h
   unfold cH at a0
   split at a0
   case h_2=>cases a0
   split at a0
   case isFalse=>cases a0
   rename_i aI
   cases a0
   unfold j0 at ad
   split at ad
   case h_2=>cases ad
   exact kV (by rw [aG];simp only [pureOp,aE,aB,aj];rw [if_pos aI];simp only [h6];exact F0 ad) ae
  ·cases h
 ·exact abX (by assumption) h
 ·exact abY (by assumption) h
 ·exact abZ (by assumption) h
 ·exact ab4 (by assumption) h
 ·rename_i aG;exact Q9 (.inl aG) h
 ·rename_i aG;exact Q9 (.inr aG) h
 ·exact ab5 (by assumption) h
 ·exact ab6 (by assumption) h
 ·exact ab7 (by assumption) h
 ·exact ab8 (by assumption) h
 ·rename_i t x aG
  split at h
  case h_2=>cases h
  rename_i i af ax
  obtain ⟨cs,ad,ae⟩:=FZ h
  exact qq (by rw [aG];rfl) (by rw [aG];rfl) (by rw [aG];simp only [effOp0,ad,ax]) ae
 ·exact ab0 (by assumption) h
 ·exact ab1 (by assumption) h
 ·exact ab3 (by assumption) h
 ·rename_i args df aG
  unfold minmaxX at h
  split at h
  case h_2=>cases h
  rename_i aF ef
  obtain ⟨v,ad,ae⟩:=ez h
  exact kV (by rw [aG];simp only [pureOp,xW ef];exact u6 ad) ae
 ·rename_i args df aG
  unfold minmaxX at h
  split at h
  case h_2=>cases h
  rename_i aF ef
  obtain ⟨v,ad,ae⟩:=ez h
  exact kV (by rw [aG];simp only [pureOp,xW ef];exact u6 ad) ae
 ·exact th h
end
end Go.Am
namespace Go.Am
set_option linter.unusedVariables false
section
variable{β:Type}
abbrev kW:=Tmp→FuncId→List D→Option D
def callX(G:cV)(C:kW)(σ:St)(o:Oper)(x:Operand)(args:List Operand)(k:St→Option β):Option β:=
 match calleeA (evA G σ.aC x) with
 |some (f,pre,post)=>match allSome ((pre++args.map (evA G σ.aC)++post).map (toD σ.objs)) with
  |some aF=>R (C (o.dst.getD 9999) f aF) fun r=>aw ((pre++args.map (evA G σ.aC)++post).all isDA||r.flat) (k (σ.put o.dst (.d r)))
  |none=>none
 |none=>none
def opX(T:bW)(G:cV)(C:kW)(σ:St)(o:Oper)(k:St→Option β):Option β:=
 match o.op with
 | .call ⟨.value x,args,_⟩=>callX G C σ o x args.toList k
 |_=>stepX T G σ o k
def qs(T:bW)(G:cV)(C:kW):List Oper→St→(St→Option β)→Option β
 |[],σ,k=>k σ
 |o::r,σ,k=>opX T G C σ o fun aP=>qs T G C r aP k
def groups:List Oper→List (Option (Nat×Bool)×List Oper)
 |[]=>[]
 |o::r=>match groups r with
  |(g,os)::rest=>if g=o.guard then(g,o::os)::rest else(o.guard,[o])::(g,os)::rest
  |[]=>[(o.guard,[o])]
def gD(x:D)(want:Bool)(p:Option D):Option D:=match x with
 | .val (.bool b)=>if b=want then p else some jh
 | .val (.tuple _)=>some jh
 |_=>none
def u7{dI:Type}(x:D)(want:Bool)(p q:Option dI):Option dI:=match x with
 | .val (.bool b)=>if b=want then p else q
 | .val (.tuple _)=>q
 |_=>none
def Ks:List Oper→St→St
 |[],σ=>σ
 |o::r,σ=>Ks r (σ.put o.dst (.d jh))
def lastDst:List Oper→Option Tmp
 |[]=>none
 |[o]=>o.dst
 |_::r=>lastDst r
def dstsOf(os:List Oper):List Tmp:=os.filterMap (·.dst)
def still(o:Oper):Bool:=hj o.op||hN o.op||gh o.op
def tj(ts:List Tmp)(v:D)(σ:St):St:=⟨fun t=>if t∈ts then .d (aa v (ts.idxOf t)) else σ.aC t,σ.objs⟩
def slD(σ:St):List Tmp→Option (List D)
 |[]=>some []
 |t::r=>match σ.aC t,slD σ r with
  | .d v,some l=>some (v::l)
  |_,_=>none
def kept(all:Array Oper)(os l:List Oper):List Tmp:=(dstsOf os).filter fun t=>l.any fun o=>(o.looksAt all).contains t
theorem Ra{σ:St}:∀{ts:List Tmp} {l:List D},slD σ ts=some l→l.length=ts.length∧∀(i:Nat) (t:Tmp),ts[i]?=some t→∃v,l[i]?=some v∧σ.aC t= .d v
 |[],l,h=>by cases h;exact ⟨rfl,fun i t h=>by simp at h⟩
 |t::r,l,h=>by
  unfold slD at h
  split at h
  case h_2=>cases h
  rename_i v oO aM aq
  cases h
  have ih:=Ra aq
  refine ⟨by simp [ih.1],fun i u hu=>?_⟩
  cases i with
  |zero=>simp at hu;subst hu;exact ⟨v,rfl,aM⟩
  |succ i=>exact ih.2 i u (by simpa using hu)
theorem aca{σ:St}{ts:List Tmp}{l:List D}(h:slD σ ts=some l){t:Tmp}(aE:t∈ts):σ.aC t= .d (aa (.agg l) (ts.idxOf t)):=by
 have ad:ts[ts.idxOf t]?=some t:=by
  have:=List.idxOf_lt_length_of_mem aE
  rw [List.getElem?_eq_getElem this,List.getElem_idxOf]
 obtain ⟨v,ae,ay⟩:=(Ra h).2 _ t ad
 rw [ay]
 congr 1
 show v=l.getD _ _
 simp [List.getD,ae]
def j1(aF:List Tmp)(σ:St):St:=⟨fun t=>if t∈aF then .any else σ.aC t,σ.objs⟩
def blind(all:Array Oper)(aF:List Tmp)(l:List Oper):Bool:=l.all fun o=>aF.all fun d=>!(o.looksAt all).contains d&&o.dst !=some d
def Rb(all:Array Oper)(d bA:Tmp)(os l:List Oper):Bool:=os.all (fun o=>still o&&o.dst !=some d)&&blind all ((dstsOf os).filter (·!=bA)) l
def flat(gs:List (Option (Nat×Bool)×List Oper)):List Oper:=gs.flatMap (·.2)
def execG(T:bW)(G:cV)(C:kW)(all:Array Oper):List (Option (Nat×Bool)×List Oper)→St→(St→Option β)→Option β
 |[],σ,k=>k σ
 |(none,os)::r,σ,k=>qs T G C os σ fun aP=>execG T G C all r aP k
 |(some (j,want),os)::r,σ,k=>match(all[j]?).bind (·.dst),lastDst os with
  |some d,some bA=>match σ.aC d with
   | .d x=>if Rb all d bA os (flat r)=true then
     R (gD x want (qs T G C os σ fun aP=>match aP.aC bA with
      | .d v=>some v
      |_=>none)) fun v=>execG T G C all r ((j1 (dstsOf os) σ).put (some bA) (.d v)) k
    else if os.all (fun o=>o.dst !=some d)=true then u7 x want (qs T G C os σ fun aP=>execG T G C all r aP k) (execG T G C all r (Ks os σ) k) else none
   |_=>none
  |_,_=>none
def Rc(T:bW)(G:cV)(C:kW)(all:Array Oper)(σ:St)(k:St→Option β):Option β:=execG T G C all (groups all.toList) σ k
def isStore:Op→Bool
 | .store _ _ _=>true
 |_=>false
def lfree(all:Array Oper)(listed:Array Bool)(i:Nat):Bool:=match all[i]? with
 |none=>false
 |some ej=>((waits all i).all fun j=>!listed.getD j true&&match all[j]? with
   |some cF=>cF.after.any fun e=>Region.binds .any e&&(e.on==i||(waits all i).contains e.on)
   |none=>false)&&(List.range all.size).all fun j=>j==i||listed.getD j true||(waits all i).contains j||match all[j]? with
   |some cF=>ej.apart all cF&&!isStore cF.op
   |none=>true
def lfreeX(all:Array Oper)(listed:Array Bool)(i:Nat)(σ:St)(o:Oper):Bool:=match o.op with
 | .load _ (.tmp a)=>match σ.aC a with
  | .ptr _ _=>lfree all listed i
  |_=>false
 |_=>false
def u9(all:Array Oper)(listed:Array Bool)(i:Nat):List Oper:=(List.range all.size).filterMap fun j=>if j==i||listed.getD j true||(waits all i).contains j then none else all[j]?
def Kt(all:Array Oper)(listed:Array Bool)(i:Nat)(aC:Nat→AV)(o:Oper):Bool:=
 ((waits all i).all fun j=>!listed.getD j true&&match all[j]? with
   |some cF=>cF.after.any fun e=>Region.binds .any e&&(e.on==i||(waits all i).contains e.on)
   |none=>false)&&(u9 all listed i).all fun y=>o.apart all y&&okPair aC o y&&(xT o.op++(u9 all listed i).flatMap fun y=>addrT y.op).all fun t=>y.dst !=some t
def ordX(T:bW)(G:cV)(C:kW)(all:Array Oper):List Nat→Array Bool→St→(St→Option β)→Option β
 |[],listed,σ,k=>if(Region.ready .any all listed).isEmpty=true then k σ else none
 |i::r,listed,σ,k=>match all[i]? with
  |some o=>if o.guard=none∧(Region.ready .any all listed).contains i=true∧(aaE all listed i||lfreeX all listed i σ o||Kt all listed i σ.aC o||Qv T all listed i)=true then opX T G C σ o fun aP=>ordX T G C all r (listed.setIfInBounds i true) aP k else none
  |none=>none
def fQ(P:Program)(G:cV)(C:kW):Prop:=∀d f aF r,C d f aF=some r→dz P G f aF (·=r)
theorem tk:∀l:List Oper,flat (groups l)=l
 |[]=>rfl
 |o::r=>by
  have ih:=tk r
  unfold groups
  split
  ·rename_i g os rest bD
   rw [bD] at ih
   split<;>simp_all [flat]
  ·rename_i bD
   rw [bD] at ih
   simp [flat] at ih
   subst ih
   rfl
theorem F2:∀(l:List Oper) (g:Option (Nat×Bool)) (os:List Oper),(g,os)∈groups l→∀o∈os,o.guard=g
 |[],g,os,h=>by cases h
 |o::r,g,os,h=>by
  have ih:=F2 r
  unfold groups at h
  split at h
  ·rename_i oT acb rest bD
   split at h
   ·rename_i he
    rcases List.mem_cons.1 h with ad|ad
    ·cases ad
     intro q bL
     rcases List.mem_cons.1 bL with rfl|bL
     ·exact he.symm
     ·exact ih g acb (by rw [bD];simp) q bL
    ·exact ih g os (by rw [bD];simp [ad])
   ·rcases List.mem_cons.1 h with ad|ad
    ·cases ad
     intro q bL
     simp at bL;subst bL;rfl
    ·exact ih g os (by rw [bD];exact ad)
  ·simp at h
   obtain ⟨rfl,rfl⟩:=h
   intro q bL
   simp at bL;subst bL;rfl
variable{P:Program}{T:bW}{G:cV}{C:kW}{σ:St}{all:Array Oper}
theorem F3(bX:fQ P G C){o:Oper}{x:Operand}{args:Array Operand}{df:Array TypeId}(aG:o.op= .call ⟨.value x,args,df⟩){k:St→Option β}{b:β}(h:callX G C σ o x args.toList k=some b):
  vDo P T G o (fun aP=>k aP=some b∧aP.objs=σ.objs∧∀t,o.dst≠some t→aP.aC t=σ.aC t) σ:=by
 have dj:gh o.op=true:=by rw [aG];rfl
 rw [lT (rF dj)]
 unfold callX at h
 unfold vCall
 rw [aG]
 simp only
 split at h
 case h_2=>cases h
 rename_i f pre post fO
 simp only [fO]
 split at h
 case h_2=>cases h
 rename_i aF ef
 obtain ⟨r,ad,ae⟩:=ez h
 obtain ⟨ae,ay⟩:=kv ae
 refine ⟨aF,aF,(·=r),ef,oR.refl _,bX _ _ _ _ ad,⟨r,rfl⟩,?_,?_⟩
 ·rcases Bool.or_eq_true_iff.1 ae with ae|ae
  ·exact .inr ae
  ·exact .inl (by rintro _ rfl;exact ae)
 ·rintro _ rfl
  refine ⟨ay,by simp,?_⟩
  intro t aE
  cases ax:o.dst with
  |none=>rfl
  |some d=>rw [ax] at aE;simp only [St.put];exact ct _ _ (fun e=>aE (by rw [e]))
theorem Rd(bX:fQ P G C){o:Oper}{k:St→Option β}{b:β}(h:opX T G C σ o k=some b):vDo P T G o (fun aP=>k aP=some b) σ:=by
 unfold opX at h
 split at h
 ·exact n9 (fun _ h=>h.1) (F3 bX (by assumption) h)
 ·obtain ⟨aP,ad,ae⟩:=yo h
  unfold vDo
  rw [ad]
  exact ae
theorem o3{dst:Option Tmp}{r:AV}{t:Tmp}(aE:dst≠some t):(σ.put dst r).aC t=σ.aC t:=by
 cases dst with
 |none=>rfl
 |some d=>simp only [St.put];exact ct _ _ (fun e=>aE (by rw [e]))
theorem Re(bX:fQ P G C){o:Oper}(az:still o=true){k:St→Option β}{b:β}(h:opX T G C σ o k=some b):
  vDo P T G o (fun aP=>k aP=some b∧aP.objs=σ.objs∧∀t,o.dst≠some t→aP.aC t=σ.aC t) σ:=by
 unfold opX at h
 split at h
 ·exact F3 bX (by assumption) h
 ·rename_i Rf
  obtain ⟨aP,ad,ae⟩:=yo h
  unfold vDo
  rw [ad]
  have acd:fN T (evA G σ.aC) σ.objs (o.dst.getD 9999) o.op=none:=by
   unfold still at az
   simp only [Bool.or_eq_true] at az
   rcases az with(az|az)|az
   ·exact (yb az).2
   ·exact yc az
   ·exact (J3 az).2.2
  unfold stepA at ad
  split at ad
  ·cases ad;exact ⟨ae,by simp,fun t aE=>o3 aE⟩
  ·split at ad
   ·cases ad;exact ⟨ae,by simp,fun t aE=>o3 aE⟩
   ·rw [acd] at ad;cases ad
theorem kX{l:List Oper}:∀{σ:St} {K K':St→Prop},(∀σ,K σ→K' σ)→vOps P T G all l K σ→vOps P T G all l K' σ:=by
 induction l with
 |nil=>intro σ K K' ai h;exact ai _ h
 |cons o l ih=>intro σ K K' ai h;exact AT (fun aP bm=>ih ai bm) h
theorem Ku{l r:List Oper}:∀{σ:St} {K:St→Prop},vOps P T G all l (vOps P T G all r K) σ→vOps P T G all (l++r) K σ:=by
 induction l with
 |nil=>intro σ K h;exact h
 |cons o l ih=>intro σ K h;exact AT (fun aP bm=>ih bm) h
def mP(σ τ:St):Prop:=σ.objs=τ.objs∧∀t,τ.aC t= .any∨σ.aC t=τ.aC t
theorem mP.refl(σ:St):mP σ σ:=⟨rfl,fun _=> .inr rfl⟩
theorem mP.trans{σ τ u2:St}(h:mP σ τ)(bm:mP τ u2):mP σ u2:=by
 refine ⟨h.1.trans bm.1,fun t=>?_⟩
 rcases bm.2 t with ae|ae
 ·exact .inl ae
 ·rcases h.2 t with ad|ad
  ·exact .inl (ae▸ad)
  ·exact .inr (ad.trans ae)
theorem mP.A5{σ τ:St}(h:mP σ τ):fX σ τ:=by
 obtain ⟨s,o⟩:=σ
 obtain ⟨s',o'⟩:=τ
 obtain ⟨ad,ae⟩:=h
 simp only at ad ae
 subst ad
 intro m fr ρ ac w cv
 refine ⟨m,ρ,Mem.le_refl m,⟨cv.mem,cv.frame,cv.apart,cv.one,?_,cv.objs,cv.own,cv.sep⟩,fun k ai ak=>⟨ak,rfl⟩⟩
 intro t
 rcases ae t with h|h
 ·simp only [h];exact .any _
 ·have:=cv.aC t
  simp only at this⊢
  rw [←h];exact this
theorem Rg{d:Tmp}{r:AV}:∀{l:List Oper} {σ:St} {K:St→Prop},(∀o∈l,d∉o.looksAt all∧o.dst≠some d)→vOps P T G all l K (σ.put (some d) r)=vOps P T G all l (fun aP=>K (aP.put (some d) r)) σ
 |[],σ,K,h=>rfl
 |o::l,σ,K,h=>by
  have ar:=h o (by simp)
  have ih:∀{σ:St},vOps P T G all l K (σ.put (some d) r)=vOps P T G all l (fun aP=>K (aP.put (some d) r)) σ:=Rg fun o' mN=>h o' (by simp [mN])
  unfold vOps
  rw [vOp_eq,vOp_eq,mI (by rintro _ ⟨⟩;exact ar.1)]
  cases hw:wantA all σ o with
  |none=>rfl
  |some w=>
   cases w with
   |true=>
    simp only
    rw [hZ (all:=all) (by rintro _ ⟨⟩;exact ar.1) (by rintro _ ⟨⟩;exact ar.2)]
    simp only [ih]
   |false=>
    simp only
    rw [←ih,put_comm (by rintro _ ⟨⟩;exact ar.2)]
theorem ace{d:Tmp}{a:AV}{l:List Oper}{σ:St}{K:St→Prop}(gg:∀σ τ,mP σ τ→K τ→K σ)(aq:∀o∈l,d∉o.looksAt all∧o.dst≠some d)(h:vOps P T G all l K (σ.put (some d) .any)):vOps P T G all l K (σ.put (some d) a):=by
 rw [Rg aq] at h⊢
 refine kX (fun aP bm=>gg _ _ ?_ bm) h
 refine ⟨rfl,fun t=>?_⟩
 by_cases aE:t=d
 ·subst aE;exact .inl (by simp [St.put])
 ·exact .inr (by simp [St.put,ct _ _ aE])
theorem Kv{l:List Oper}{K:St→Prop}(gg:∀σ τ,mP σ τ→K τ→K σ):∀(aF:List Tmp) {σ τ:St},(∀d∈aF,∀o∈l,d∉o.looksAt all∧o.dst≠some d)→(∀t,t∉aF→σ.aC t=τ.aC t)→(∀d∈aF,τ.aC d= .any∨σ.aC d=τ.aC d)→σ.objs=τ.objs→
  vOps P T G all l K τ→vOps P T G all l K σ
 |[],σ,τ,_,ad,ae,ay,h=>by
  have:σ=τ:=by
   cases σ;cases τ
   simp only at ad ay
   subst ay
   congr 1
   funext t
   exact ad t (by simp)
  rw [this];exact h
 |d::aF,σ,τ,ak,ad,ae,ay,h=>by
  by_cases ax:τ.aC d= .any
  ·have e:τ=τ.put (some d) .any:=by
    cases τ
    simp only [St.put]
    congr 1
    funext t
    by_cases aE:t=d
    ·subst aE;simp only [dZ];exact ax
    ·rw [ct _ _ aE]
   rw [e] at h
   have bm:=ace (a:=σ.aC d) gg (fun o aG=>ak d (by simp) o aG) h
   refine Kv (τ:=τ.put (some d) (σ.aC d)) gg aF (fun og hF=>ak og (by simp [hF])) ?_ ?_ ay bm
   ·intro t aE
    by_cases rK:t=d
    ·subst rK;simp [St.put]
    ·simp only [St.put,ct _ _ rK];exact ad t (by simp [rK,aE])
   ·intro og hF
    by_cases rK:og=d
    ·subst rK;simp [St.put]
    ·simp only [St.put,ct _ _ rK];exact ae og (by simp [hF])
  ·refine Kv gg aF (fun og hF=>ak og (by simp [hF])) ?_ (fun og hF=>ae og (by simp [hF])) ay h
   intro t aE
   by_cases rK:t=d
   ·subst rK
    rcases ae t (by simp) with aZ|aZ
    ·exact absurd aZ ax
    ·exact aZ
   ·exact ad t (by simp [rK,aE])
theorem Rh(bX:fQ P G C):∀{os:List Oper} {σ:St} {k:St→Option β} {b:β},(∀o∈os,o.guard=none)→qs T G C os σ k=some b→vOps P T G all os (fun aP=>k aP=some b) σ
 |[],σ,k,b,_,h=>h
 |o::os,σ,k,b,bD,h=>by
  unfold vOps vOp
  rw [bD o (by simp)]
  exact n9 (fun aP bm=>Rh bX (fun o aG=>bD o (by simp [aG])) bm) (Rd bX h)
theorem Ri(bX:fQ P G C){j:Nat}{want:Bool}{d:Tmp}(ax:(all[j]?).bind (·.dst)=some d):∀{os:List Oper} {σ:St} {k:St→Option β} {b:β},(∀o∈os,o.guard=some (j,want))→(∀o∈os,still o=true∧o.dst≠some d)→σ.aC d= .d (.val (.bool want))→
  qs T G C os σ k=some b→vOps P T G all os (fun aP=>k aP=some b∧aP.objs=σ.objs∧∀t,t∉dstsOf os→aP.aC t=σ.aC t) σ
 |[],σ,k,b,_,_,_,h=>⟨h,rfl,fun _ _=>rfl⟩
 |o::os,σ,k,b,bD,az,hw,h=>by
  have ar:=az o (by simp)
  unfold vOps vOp
  rw [bD o (by simp)]
  simp only [ax,hw,if_true]
  refine n9 ?_ (Re bX ar.1 h)
  rintro aP ⟨ad,ae,ay⟩
  refine kX ?_ (Ri bX ax (fun o aG=>bD o (by simp [aG])) (fun o aG=>az o (by simp [aG])) (by rw [ay d ar.2];exact hw) ad)
  rintro o0 ⟨a0,a9,bH⟩
  refine ⟨a0,a9.trans ae,?_⟩
  intro t aE
  have ns:t∉dstsOf os:=fun aj=>aE (by
   unfold dstsOf at aj⊢
   simp only [List.filterMap_cons]
   cases o.dst<;>simp [aj])
  have vb:o.dst≠some t:=fun aj=>aE (by unfold dstsOf;simp [aj])
  rw [bH t ns,ay t vb]
theorem A6{j:Nat}{want:Bool}{d:Tmp}(ax:(all[j]?).bind (·.dst)=some d):∀{os:List Oper} {σ:St},(∀o∈os,o.guard=some (j,want))→(∀o∈os,o.dst≠some d)→(σ.aC d= .d (.val (.bool (!want)))∨∃vs,σ.aC d= .d (.val (.tuple vs)))→
  vOps P T G all os (fun aP=>aP.objs=σ.objs∧(∀t,t∉dstsOf os→aP.aC t=σ.aC t)∧∀bA,lastDst os=some bA→aP.aC bA= .d jh) σ
 |[],σ,_,_,_=>⟨rfl,fun _ _=>rfl,by intro bA h;cases h⟩
 |o::os,σ,bD,az,hw=>by
  have ar:=az o (by simp)
  unfold vOps
  have key:vOps P T G all os (fun aP=>aP.objs=σ.objs∧(∀t,t∉dstsOf (o::os)→aP.aC t=σ.aC t)∧∀bA,lastDst (o::os)=some bA→aP.aC bA= .d jh) (σ.put o.dst (.d (.val (.tuple #[])))):=by
   have A7:(σ.put o.dst (.d (.val (.tuple #[])))).aC d= .d (.val (.bool (!want)))∨∃vs,(σ.put o.dst (.d (.val (.tuple #[])))).aC d= .d (.val (.tuple vs)):=by rw [o3 ar];exact hw
   refine kX ?_ (A6 ax (fun o aG=>bD o (by simp [aG])) (fun o aG=>az o (by simp [aG])) A7)
   rintro aP ⟨ad,ae,ay⟩
   refine ⟨ad.trans (by simp),?_,?_⟩
   ·intro t aE
    have ns:t∉dstsOf os:=fun aj=>aE (by
     unfold dstsOf at aj⊢
     simp only [List.filterMap_cons]
     cases o.dst<;>simp [aj])
    have vb:o.dst≠some t:=fun aj=>aE (by unfold dstsOf;simp [aj])
    rw [ae t ns,o3 vb]
   ·intro bA aq
    cases os with
    |nil=>
     simp only [lastDst] at aq
     rw [ae bA (by simp [dstsOf]),aq]
     simp [St.put,jh]
    |cons q asG=>exact ay bA aq
  unfold vOp
  rw [bD o (by simp)]
  simp only [ax]
  rcases hw with hw|⟨vs,hw⟩
  ·simp only [hw]
   rw [if_neg (by cases want<;>simp)]
   exact key
  ·simp only [hw]
   exact key
theorem Kw{j:Nat}{want:Bool}{d:Tmp}(ax:(all[j]?).bind (·.dst)=some d):∀{os:List Oper} {σ:St},(∀o∈os,o.guard=some (j,want))→(∀o∈os,o.dst≠some d)→(σ.aC d= .d (.val (.bool (!want)))∨∃vs,σ.aC d= .d (.val (.tuple vs)))→
  vOps P T G all os (fun aP=>aP.objs=σ.objs∧(∀t,t∉dstsOf os→aP.aC t=σ.aC t)∧∀t∈dstsOf os,aP.aC t= .d jh) σ
 |[],σ,_,_,_=>⟨rfl,fun _ _=>rfl,by intro t h;cases h⟩
 |o::os,σ,bD,az,hw=>by
  have ar:=az o (by simp)
  unfold vOps
  have key:vOps P T G all os (fun aP=>aP.objs=σ.objs∧(∀t,t∉dstsOf (o::os)→aP.aC t=σ.aC t)∧∀t∈dstsOf (o::os),aP.aC t= .d jh) (σ.put o.dst (.d (.val (.tuple #[])))):=by
   have A7:(σ.put o.dst (.d (.val (.tuple #[])))).aC d= .d (.val (.bool (!want)))∨∃vs,(σ.put o.dst (.d (.val (.tuple #[])))).aC d= .d (.val (.tuple vs)):=by rw [o3 ar];exact hw
   refine kX ?_ (Kw ax (fun o aG=>bD o (by simp [aG])) (fun o aG=>az o (by simp [aG])) A7)
   rintro aP ⟨ad,ae,ay⟩
   refine ⟨ad.trans (by simp),?_,?_⟩
   ·intro t aE
    have ns:t∉dstsOf os:=fun aj=>aE (by
     unfold dstsOf at aj⊢
     simp only [List.filterMap_cons]
     cases o.dst<;>simp [aj])
    have vb:o.dst≠some t:=fun aj=>aE (by unfold dstsOf;simp [aj])
    rw [ae t ns,o3 vb]
   ·intro t aE
    by_cases ns:t∈dstsOf os
    ·exact ay t ns
    ·have jk:o.dst=some t:=by
      unfold dstsOf at aE ns
      simp only [List.filterMap_cons] at aE
      cases aG:o.dst with
      |none=>rw [aG] at aE;exact absurd aE ns
      |some u=>
       rw [aG] at aE
       rcases List.mem_cons.1 aE with rfl|h
       ·rfl
       ·exact absurd h ns
     rw [ae t ns,jk]
     simp [St.put,jh]
  unfold vOp
  rw [bD o (by simp)]
  simp only [ax]
  rcases hw with hw|⟨vs,hw⟩
  ·simp only [hw]
   rw [if_neg (by cases want<;>simp)]
   exact key
  ·simp only [hw]
   exact key
theorem acf(bX:fQ P G C){o:Oper}{k:St→Option β}{b:β}(h:opX T G C σ o k=some b):
  vDo P T G o (fun aP=>k aP=some b∧∀t,o.dst≠some t→aP.aC t=σ.aC t) σ:=by
 unfold opX at h
 split at h
 ·exact n9 (fun _ h=>⟨h.1,h.2.2⟩) (F3 bX (by assumption) h)
 ·obtain ⟨aP,ad,ae⟩:=yo h
  unfold vDo
  rw [ad]
  refine ⟨ae,fun t aE=>?_⟩
  unfold stepA at ad
  split at ad
  ·cases ad;exact o3 aE
  ·split at ad
   ·cases ad;exact o3 aE
   ·split at ad
    ·cases ad;exact o3 aE
    ·cases ad
theorem Rj(bX:fQ P G C){j:Nat}{want:Bool}{d:Tmp}(ax:(all[j]?).bind (·.dst)=some d):∀{os:List Oper} {σ:St} {k:St→Option β} {b:β},(∀o∈os,o.guard=some (j,want))→(∀o∈os,o.dst≠some d)→σ.aC d= .d (.val (.bool want))→
  qs T G C os σ k=some b→vOps P T G all os (fun aP=>k aP=some b) σ
 |[],σ,k,b,_,_,_,h=>h
 |o::os,σ,k,b,bD,az,hw,h=>by
  unfold vOps vOp
  rw [bD o (by simp)]
  simp only [ax,hw,if_true]
  refine n9 ?_ (acf bX h)
  rintro aP ⟨ad,ay⟩
  exact Rj bX ax (fun o aG=>bD o (by simp [aG])) (fun o aG=>az o (by simp [aG])) (by rw [ay d (az o (by simp))];exact hw) ad
theorem Kx{j:Nat}{want:Bool}{d:Tmp}(ax:(all[j]?).bind (·.dst)=some d){K:St→Prop}:∀{os:List Oper} {σ:St},(∀o∈os,o.guard=some (j,want))→(∀o∈os,o.dst≠some d)→(σ.aC d= .d (.val (.bool (!want)))∨∃vs,σ.aC d= .d (.val (.tuple vs)))→
  K (Ks os σ)→vOps P T G all os K σ
 |[],σ,_,_,_,h=>h
 |o::os,σ,bD,az,hw,h=>by
  have ar:=az o (by simp)
  have A7:(σ.put o.dst (.d (.val (.tuple #[])))).aC d= .d (.val (.bool (!want)))∨∃vs,(σ.put o.dst (.d (.val (.tuple #[])))).aC d= .d (.val (.tuple vs)):=by rw [o3 ar];exact hw
  have key:vOps P T G all os K (σ.put o.dst (.d (.val (.tuple #[])))):=Kx ax (fun o aG=>bD o (by simp [aG])) (fun o aG=>az o (by simp [aG])) A7 h
  unfold vOps vOp
  rw [bD o (by simp)]
  simp only [ax]
  rcases hw with hw|⟨vs,hw⟩
  ·simp only [hw]
   rw [if_neg (by cases want<;>simp)]
   exact key
  ·simp only [hw]
   exact key
theorem Rk:∀{os:List Oper} {bA:Tmp},lastDst os=some bA→bA∈dstsOf os
 |[],bA,h=>by cases h
 |[o],bA,h=>by simp only [lastDst] at h;simp [dstsOf,h]
 |o::q::r,bA,h=>by
  have:=Rk (os:=q::r) h
  unfold dstsOf at this⊢
  rw [List.filterMap_cons]
  cases o.dst<;>simp [this]
theorem yp(bX:fQ P G C){K:St→Prop}(gg:∀σ τ,mP σ τ→K τ→K σ):∀{gs:List (Option (Nat×Bool)×List Oper)} {σ:St} {k:St→Option β} {b:β},(∀g∈gs,∀o∈g.2,o.guard=g.1)→(∀aP,k aP=some b→K aP)→execG T G C all gs σ k=some b→vOps P T G all (flat gs) K σ
 |[],σ,k,b,_,ai,h=>ai _ h
 |(none,os)::r,σ,k,b,bD,ai,h=>by
  show vOps P T G all (os++flat r) K σ
  refine Ku (kX ?_ (Rh bX (fun o aG=>bD (none,os) (by simp) o aG) h))
  intro aP bm
  exact yp bX gg (fun g hm=>bD g (by simp [hm])) ai bm
 |(some (j,want),os)::r,σ,k,b,bD,ai,h=>by
  show vOps P T G all (os++flat r) K σ
  unfold execG at h
  split at h
  case h_2=>cases h
  rename_i d bA ax vc
  split at h
  case h_2=>cases h
  rename_i x ag
  split at h
  case isFalse=>
   split at h
   case isFalse=>cases h
   rename_i jJ
   simp only [List.all_eq_true,bne_iff_ne,ne_eq] at jJ
   have kq:∀o∈os,o.guard=some (j,want):=fun o aG=>bD (some (j,want),os) (by simp) o aG
   unfold u7 at h
   refine Ku ?_
   split at h
   ·rename_i lS
    split at h
    ·rename_i ak
     subst ak
     exact kX (fun aP bm=>yp bX gg (fun g hm=>bD g (by simp [hm])) ai bm) (Rj bX ax kq jJ ag h)
    ·rename_i ak
     exact Kx ax kq jJ (.inl (by rw [ag];cases lS<;>cases want<;>simp_all)) (yp bX gg (fun g hm=>bD g (by simp [hm])) ai h)
   ·exact Kx ax kq jJ (.inr ⟨_,ag⟩) (yp bX gg (fun g hm=>bD g (by simp [hm])) ai h)
   ·cases h
  rename_i ba
  simp only [Rb,Bool.and_eq_true,List.all_eq_true,bne_iff_ne,ne_eq,blind,List.mem_filter,Bool.not_eq_true',List.contains_eq_mem,decide_eq_false_iff_not] at ba
  obtain ⟨Ky,acg⟩:=ba
  obtain ⟨v,ad,ae⟩:=ez h
  have kq:∀o∈os,o.guard=some (j,want):=fun o aG=>bD (some (j,want),os) (by simp) o aG
  have rest:=yp bX gg (fun g hm=>bD g (by simp [hm])) ai ae
  have fin:∀aP:St,aP.objs=σ.objs→(∀t,t∉dstsOf os→aP.aC t=σ.aC t)→aP.aC bA= .d v→vOps P T G all (flat r) K aP:=by
   intro aP aS aV bz
   refine Kv gg ((dstsOf os).filter (·!=bA)) ?_ ?_ ?_ ?_ rest
   ·intro og hF o aG
    have A8:=List.mem_filter.1 hF
    exact acg o aG og ⟨A8.1,by simpa using A8.2⟩
   ·intro t aE
    simp only [List.mem_filter,bne_iff_ne,ne_eq,not_and,Decidable.not_not] at aE
    by_cases lz:t=bA
    ·subst lz;simp [St.put,bz]
    ·have gU:t∉dstsOf os:=fun aj=>lz (aE aj)
     simp only [St.put,ct _ _ lz,j1,gU,if_false]
     exact aV t gU
   ·intro og hF
    have A8:=List.mem_filter.1 hF
    have ca:og≠bA:=by simpa using A8.2
    refine .inl ?_
    simp only [St.put,ct _ _ ca,j1,A8.1,if_true]
   ·simp [St.put,j1,aS]
  unfold gD at ad
  refine Ku ?_
  split at ad
  ·rename_i lS
   split at ad
   ·rename_i ak
    subst ak
    refine kX ?_ (Ri bX ax kq Ky ag ad)
    rintro aP ⟨a0,a9,bH⟩
    refine fin aP a9 bH ?_
    split at a0
    ·rename_i u hu;cases a0;exact hu
    ·cases a0
   ·rename_i ak
    cases ad
    refine kX ?_ (A6 ax kq (fun o aG=>(Ky o aG).2) (.inl (by rw [ag];cases lS<;>cases want<;>simp_all)))
    rintro aP ⟨a0,a9,bH⟩
    exact fin aP a0 a9 (bH bA vc)
  ·rename_i vs
   cases ad
   refine kX ?_ (A6 ax kq (fun o aG=>(Ky o aG).2) (.inr ⟨_,ag⟩))
   rintro aP ⟨a0,a9,bH⟩
   exact fin aP a0 a9 (bH bA vc)
  ·cases ad
theorem ach{i:Nat}{ej:Oper}{listed:Array Bool}(af:all[i]?=some ej)(h:lfree all listed i=true):
  (∀j cF,j∈waits all i→all[j]?=some cF→∃e∈cF.after,Region.binds .any e=true∧(e.on=i∨e.on∈waits all i))∧(∀j,j∈waits all i→listed.getD j true=false)∧
  ∀j cF,all[j]?=some cF→j≠i→listed.getD j true=false→j∉waits all i→ej.apart all cF=true∧∀t a x,cF.op≠ .store t a x:=by
 simp only [lfree,af,Bool.and_eq_true,List.all_eq_true,List.mem_range] at h
 refine ⟨fun j cF aH hQ=>?_,fun j aH=>by simpa using(h.1 j aH).1,fun j cF hQ ca mM gU=>?_⟩
 ·have ad:=(h.1 j aH).2
  simp only [hQ] at ad
  obtain ⟨e,he,ak⟩:=Array.any_eq_true'.1 ad
  simp only [Bool.and_eq_true,Bool.or_eq_true,beq_iff_eq,List.contains_iff_mem] at ak
  exact ⟨e,he,ak.1,ak.2⟩
 ·have ad:=h.2 j (Array.getElem?_eq_some_iff.1 hQ).1
  simp only [hQ,Bool.or_eq_true,beq_iff_eq,ca,false_or,mM,Bool.false_eq_true,Bool.and_eq_true,List.contains_iff_mem,gU] at ad
  refine ⟨ad.1,?_⟩
  intro t a x he
  rw [he] at ad
  simp [isStore] at ad
theorem aci{i:Nat}{ej:Oper}{listed:Array Bool}{aC:Nat→AV}(h:Kt all listed i aC ej=true):
  (∀j cF,j∈waits all i→all[j]?=some cF→∃e∈cF.after,Region.binds .any e=true∧(e.on=i∨e.on∈waits all i))∧(∀j,j∈waits all i→listed.getD j true=false)∧
  ∀j cF,all[j]?=some cF→j≠i→listed.getD j true=false→j∉waits all i→ej.apart all cF=true∧okPair aC ej cF=true∧(∀t∈xT ej.op++(u9 all listed i).flatMap (fun y=>addrT y.op),cF.dst≠some t)∧∀t∈addrT cF.op,t∈xT ej.op++(u9 all listed i).flatMap (fun y=>addrT y.op):=by
 simp only [Kt,Bool.and_eq_true,List.all_eq_true] at h
 refine ⟨fun j cF aH hQ=>?_,fun j aH=>by simpa using(h.1 j aH).1,fun j cF hQ ca mM gU=>?_⟩
 ·have ad:=(h.1 j aH).2
  simp only [hQ] at ad
  obtain ⟨e,he,ak⟩:=Array.any_eq_true'.1 ad
  simp only [Bool.and_eq_true,Bool.or_eq_true,beq_iff_eq,List.contains_iff_mem] at ak
  exact ⟨e,he,ak.1,ak.2⟩
 ·have hm:cF∈u9 all listed i:=by
   unfold u9
   rw [List.mem_filterMap]
   refine ⟨j,by simpa using(Array.getElem?_eq_some_iff.1 hQ).1,?_⟩
   have:(j==i||listed.getD j true||(waits all i).contains j)=false:=by
    simp only [Bool.or_eq_false_iff,beq_eq_false_iff_ne,ne_eq]
    exact ⟨⟨ca,mM⟩,by simpa using gU⟩
   rw [this]
   simpa using hQ
  obtain ⟨ad,ae⟩:=h.2 cF hm
  refine ⟨ad.1,ad.2,fun t aE=>by simpa using ae t aE,fun t aE=>List.mem_append_right _ (List.mem_flatMap.2 ⟨cF,hm,aE⟩)⟩
theorem Kz(bX:fQ P G C){k:St→Option β}{b:β}:∀(ord:List Nat) (listed:Array Bool) (σ:St),ordX T G C all ord listed σ k=some b→hO P T G all (fun aP=>k aP=some b) ord.length listed σ
 |[],listed,σ,h=>by
  unfold ordX at h
  split at h
  ·rename_i av;exact ⟨List.isEmpty_iff.1 av,h⟩
  ·cases h
 |i::r,listed,σ,h=>by
  unfold ordX at h
  split at h
  case h_2=>cases h
  rename_i o af
  split at h
  case isFalse=>cases h
  rename_i aj
  obtain ⟨bD,av,a6⟩:=aj
  have H:amOp P T G all i (hO P T G all (fun aP=>k aP=some b) r.length (listed.setIfInBounds i true)) σ:=by
   unfold amOp
   simp only [af]
   unfold vOp
   simp only [bD]
   exact n9 (fun aP bm=>Kz bX r _ aP bm) (Rd bX h)
  rcases Bool.or_eq_true_iff.1 a6 with a6|a6
  case inr=>
   obtain ⟨br,bo,bT⟩:=Ka af a6
   exact J9 af br r.length listed σ bo bT (by simpa using av) (.inr trivial) H
  rcases Bool.or_eq_true_iff.1 a6 with a6|a6
  case inr=>
   obtain ⟨br,bo,bT⟩:=aci a6
   exact abJ af bD br (s0:=σ.aC) (L:=xT o.op++(u9 all listed i).flatMap (fun y=>addrT y.op)) (fun t aE=>List.mem_append_left _ aE) r.length listed σ (fun _ _=>rfl) bo bT (by simpa using av) H
  rcases Bool.or_eq_true_iff.1 a6 with a6|a6
  ·obtain ⟨br,bo,bT⟩:=aaF af a6
   exact aaD af br r.length listed σ bo bT (by simpa using av) (.inr trivial) H
  ·unfold lfreeX at a6
   split at a6
   case h_2=>cases a6
   rename_i t a aG
   split at a6
   case h_2=>cases a6
   rename_i cw off az
   obtain ⟨br,bo,bT⟩:=ach af a6
   exact abm af aG bD br r.length listed σ az bo bT (by simpa using av) H
theorem acj(bX:fQ P G C){K:St→Prop}(gg:∀σ τ,mP σ τ→K τ→K σ){k:St→Option β}{b:β}(ai:∀aP,k aP=some b→K aP)(h:Rc T G C all σ k=some b):vOps P T G all all.toList K σ:=by
 have:=yp (P:=P) bX gg (fun g hm o aG=>F2 _ _ _ hm o aG) ai h
 rwa [tk] at this
end
end Go.Am
namespace Go.Am
set_option linter.unusedVariables false
inductive o4 where
 |any
 |d
 |A9 (f:FuncId)
 |fd (f:FuncId) (m:Nat)
 |dP (off:Nat)
 |ptr (k:Key) (off:Nat)
 |row (k:Key)
 |map (k:Key)
inductive jK where
 |b (s:o4)
 |fn (f:Fn) (first cap:List o4)
 |agg (cs:List o4)
inductive j2 where
 |dead
 |box (cs:List jK)
 |row (k:Nat)
 |map
inductive tl where
 |slot (t K n:Nat)
 |box (k i K n:Nat)
structure o5 where
 aC:List (Nat×jK)
 objs:List (Key×j2)
 nt:List tl
def I(ls:List D)(n:Nat):D:=ls.getD n jh
def vd(ls:List D):o4→Nat→AV×Nat
 | .any,n=>(.any,n)
 | .d,n=>(.d (I ls n),n+1)
 | .A9 f,n=>(.d (.val (.func (.func f) #[] #[])),n)
 | .fd f m,n=>(.d (.fn (.func f) [] ((List.range m).map fun i=>I ls (n+i))),n+m)
 | .dP off,n=>(.dP (celsD (I ls n)) off,n+1)
 | .ptr k off,n=>(.ptr k off,n)
 | .row k,n=>(.row k,n)
 | .map k,n=>(.map k,n)
def oh(ls:List D):List o4→Nat→List AV×Nat
 |[],n=>([],n)
 |s::r,n=>((vd ls s n).1::(oh ls r (vd ls s n).2).1,(oh ls r (vd ls s n).2).2)
def resW(ls:List D):jK→Nat→AV×Nat
 | .b s,n=>vd ls s n
 | .fn f first cap,n=>(.fn f (oh ls first n).1 (oh ls cap (oh ls first n).2).1,(oh ls cap (oh ls first n).2).2)
 | .agg cs,n=>(.agg (oh ls cs n).1,(oh ls cs n).2)
def resWs(ls:List D):List jK→Nat→List AV×Nat
 |[],n=>([],n)
 |s::r,n=>((resW ls s n).1::(resWs ls r (resW ls s n).2).1,(resWs ls r (resW ls s n).2).2)
def resO(ls:List D):j2→Nat→cq×Nat
 | .dead,n=>(.dead,n)
 | .box cs,n=>(.box (resWs ls cs n).1,(resWs ls cs n).2)
 | .row k,n=>(.row k (esD (I ls n)),n+1)
 | .map,n=>(.map (fu (I ls n)),n+1)
def resS(ls:List D):List (Nat×jK)→Nat→List (Nat×AV)×Nat
 |[],n=>([],n)
 |(t,s)::r,n=>((t,(resW ls s n).1)::(resS ls r (resW ls s n).2).1,(resS ls r (resW ls s n).2).2)
def resB(ls:List D):List (Key×j2)→Nat→List (Key×cq)×Nat
 |[],n=>([],n)
 |(t,s)::r,n=>((t,(resO ls s n).1)::(resB ls r (resO ls s n).2).1,(resB ls r (resO ls s n).2).2)
def restore(eZ:o5)(ls:List D):St:=QC (resS ls eZ.aC 0).1 (resB ls eZ.objs (resS ls eZ.aC 0).2).1
def Rl:AV→o4→List (Key×Key)
 | .ptr k _,.ptr bg _=>[(bg,k)]
 | .row k,.row bg=>[(bg,k)]
 | .map k,.map bg=>[(bg,k)]
 |_,_=>[]
def F4:List AV→List o4→List (Key×Key)
 |x::xs,s::gm=>Rl x s++F4 xs gm
 |_,_=>[]
def Rm:AV→jK→List (Key×Key)
 |x,.b s=>Rl x s
 | .fn _ as iq,.fn _ gm ts=>F4 as gm++F4 iq ts
 | .agg cs,.agg gm=>F4 cs gm
 |_,_=>[]
def F5:List AV→List jK→List (Key×Key)
 |x::xs,s::gm=>Rm x s++F5 xs gm
 |_,_=>[]
def Rn(σ:St):List (Nat×jK)→List (Key×Key)
 |[]=>[]
 |(t,s)::r=>Rm (σ.aC t) s++Rn σ r
def thB(σ:St):List (Key×j2)→List (Key×Key)→List (Key×Key)
 |[],bU=>bU
 |(k,.box gm)::r,bU=>match σ.objs (e4 bU k) with
  |some (.box xs)=>thB σ r (bU++F5 xs gm)
  |_=>thB σ r bU
 |_::r,bU=>thB σ r bU
def colV(bU:List (Key×Key))(ks:List Key):AV→o4→Option (List D)
 |_,.any=>some []
 |x,.d=>(asD x).map fun a=>[a]
 | .d (.val (.func (.func f) a b)),.A9 iO=>if f=iO∧a.size=0∧b.size=0 then some [] else none
 | .d (.fn (.func iO) first ve),.fd f m=>if iO=f∧first.isEmpty=true∧ve.length=m then some ve else none
 | .dP cs off,.dP KA=>if off=KA then some [.agg cs] else none
 | .ptr k off,.ptr bg KA=>if k=e4 bU bg∧off=KA∧ks.contains bg then some [] else none
 | .row k,.row bg=>if k=e4 bU bg∧ks.contains bg then some [] else none
 | .map k,.map bg=>if k=e4 bU bg∧ks.contains bg then some [] else none
 |_,_=>none
def ocat(x y:Option (List D)):Option (List D):=match x,y with
 |some a,some b=>some (a++b)
 |_,_=>none
def Ba(bU:List (Key×Key))(ks:List Key):List AV→List o4→Option (List D)
 |[],[]=>some []
 |x::xs,s::gm=>ocat (colV bU ks x s) (Ba bU ks xs gm)
 |_,_=>none
def colW(bU:List (Key×Key))(ks:List Key):AV→jK→Option (List D)
 |x,.b s=>colV bU ks x s
 | .fn (.func f) as iq,.fn (.func iO) gm ts=>if f=iO then ocat (Ba bU ks as gm) (Ba bU ks iq ts) else none
 | .agg cs,.agg gm=>Ba bU ks cs gm
 |_,_=>none
def F6(bU:List (Key×Key))(ks:List Key):List AV→List jK→Option (List D)
 |[],[]=>some []
 |x::xs,s::gm=>ocat (colW bU ks x s) (F6 bU ks xs gm)
 |_,_=>none
def colO(bU:List (Key×Key))(ks:List Key):Option cq→j2→Option (List D)
 |some _,.dead=>some []
 |some (.box xs),.box gm=>F6 bU ks xs gm
 |some (.row k es),.row bg=>if k=bg then some [.aD k es] else none
 |some (.map es),.map=>some [.mp es]
 |_,_=>none
def KB(bU:List (Key×Key))(ks:List Key)(σ:St):List (Nat×jK)→Option (List D)
 |[]=>some []
 |(t,s)::r=>ocat (colW bU ks (σ.aC t) s) (KB bU ks σ r)
def F7(bU:List (Key×Key))(ks:List Key)(σ:St):List (Key×j2)→Option (List D)
 |[]=>some []
 |(k,s)::r=>ocat (colO bU ks (σ.objs (e4 bU k)) s) (F7 bU ks σ r)
section
variable{β:Type}
def nilX:List tl→St→(St→Option β)→Option β
 |[],σ,k=>k σ
 | .slot t K n::r,σ,k=>match σ.aC t,σ.objs K with
  | .d a,none=>if K<10000 then aw (nilP a) (nilX r ⟨b0 σ.aC t (.row K),b0 σ.objs K (some (.row n []))⟩ k) else none
  |_,_=>nilX r σ k
 | .box cw i K n::r,σ,k=>match σ.objs cw with
  |some (.box xs)=>match xs[i]?,σ.objs K with
   |some (.d a),none=>if K<10000 then aw (nilP a) (nilX r ⟨σ.aC,b0 (b0 σ.objs cw (some (.box (xs.set i (.row K))))) K (some (.row n []))⟩ k) else none
   |_,_=>nilX r σ k
  |_=>nilX r σ k
def yq:j2→Bool
 | .box _=>true
 | .row _=>true
 |_=>false
def Ro(ib:List Key)(bU:List (Key×Key))(objs:List (Key×j2)):Bool:=
 objs.all (fun p=>decide (p.1<10000)||ib.contains p.1)&&ib.all (fun k=>e4 bU k==k&&objs.any fun p=>p.1==k&&yq p.2)&&decide ((objs.map (·.1)).Nodup)
def absX(ib:List Key)(eZ:o5)(σ:St)(k:List D→Option β):Option β:=
 nilX eZ.nt σ fun σ=>
  let bU:=thB σ eZ.objs (Rn σ eZ.aC)
  if renOk (e4 bU) (eZ.objs.map (·.1))&&Ro ib bU eZ.objs=true then
   match ocat (KB bU (eZ.objs.map (·.1)) σ eZ.aC) (F7 bU (eZ.objs.map (·.1)) σ eZ.objs) with
   |some ls=>k ls
   |none=>none
  else none
end
theorem vf{x y:Option (List D)}{l:List D}(h:ocat x y=some l):∃a b,x=some a∧y=some b∧l=a++b:=by
 unfold ocat at h
 split at h
 ·cases h;exact ⟨_,_,rfl,rfl,rfl⟩
 ·cases h
def kY(ls:List D)(n:Nat)(a:List D):Prop:=∀j d,a[j]?=some d→ls[n+j]?=some d
theorem kY.left{ls:List D}{n:Nat}{a b:List D}(h:kY ls n (a++b)):kY ls n a:=fun j d aH=>h j d (by
 rw [List.getElem?_append_left (List.getElem?_eq_some_iff.1 aH).1];exact aH)
theorem kY.right{ls:List D}{n:Nat}{a b:List D}(h:kY ls n (a++b)):kY ls (n+a.length) b:=fun j d aH=>by
 have:=h (a.length+j) d (by rw [List.getElem?_append_right (by omega)];simpa using aH)
 rwa [←Nat.add_assoc] at this
theorem kY.I{ls:List D}{n:Nat}{a:D}(h:kY ls n [a]):I ls n=a:=by
 have:=h 0 a rfl
 simp only [Nat.add_zero] at this
 simp [Am.I,List.getD_eq_getElem?_getD,this]
section
variable{bU:List (Key×Key)}{ks:List Key}{ls:List D}{U:Key→Prop}
theorem Rp(fH:∀k,ks.contains k=true→U k){x:AV}{s:o4}{n:Nat}{a:List D}(h:colV bU ks x s=some a)(gj:kY ls n a):AvLe0 (e4 bU) U x (vd ls s n).1∧(vd ls s n).2=n+a.length:=by
 unfold colV at h
 split at h
 ·cases h;exact ⟨trivial,rfl⟩
 ·obtain ⟨d,ax,rfl⟩:=Option.map_eq_some_iff.1 h
  refine ⟨⟨_,ax,?_⟩,rfl⟩
  rw [gj.I];exact D.le_refl _
 ·split at h
  ·rename_i a6
   obtain ⟨rfl,aB,ak⟩:=a6
   cases h
   rw [Array.eq_empty_of_size_eq_zero aB,Array.eq_empty_of_size_eq_zero ak]
   exact ⟨⟨_,rfl,D.le_refl _⟩,rfl⟩
  ·cases h
 ·split at h
  ·rename_i a6
   obtain ⟨rfl,ad,rfl⟩:=a6
   cases h
   refine ⟨⟨_,rfl,?_⟩,rfl⟩
   rw [List.isEmpty_iff.1 ad]
   have e:((List.range a.length).map fun i=>I ls (n+i))=a:=by
    apply List.ext_getElem?
    intro i
    rw [List.getElem?_map]
    by_cases af:i<a.length
    ·rw [List.getElem?_range af,List.getElem?_eq_getElem af]
     have:=gj i a[i] (List.getElem?_eq_getElem af)
     simp [Am.I,List.getD_eq_getElem?_getD,this]
    ·rw [List.getElem?_eq_none (by simp;omega),List.getElem?_eq_none (by omega)];rfl
   skip
   rw [e];exact D.le_refl _
  ·cases h
 ·split at h
  ·rename_i a6
   cases h;subst a6
   refine ⟨.inl ?_,rfl⟩
   rw [gj.I];rfl
  ·cases h
 ·split at h
  ·rename_i a6
   cases h
   exact ⟨⟨by rw [a6.1,a6.2.1],fH _ a6.2.2⟩,rfl⟩
  ·cases h
 ·split at h
  ·rename_i a6
   cases h
   exact ⟨⟨by rw [a6.1],fH _ a6.2⟩,rfl⟩
  ·cases h
 ·split at h
  ·rename_i a6
   cases h
   exact ⟨⟨by rw [a6.1],fH _ a6.2⟩,rfl⟩
  ·cases h
 ·cases h
theorem F8(fH:∀k,ks.contains k=true→U k):∀{xs:List AV} {gm:List o4} {n:Nat} {a:List D},Ba bU ks xs gm=some a→kY ls n a→h1 (e4 bU) U xs (oh ls gm n).1∧(oh ls gm n).2=n+a.length
 |[],[],n,a,h,gj=>by cases h;exact ⟨trivial,rfl⟩
 |x::xs,s::gm,n,a,h,gj=>by
  obtain ⟨ah,aT,ad,ae,rfl⟩:=vf h
  obtain ⟨a0,a9⟩:=Rp fH ad gj.left
  have av:=gj.right
  rw [←a9] at av
  obtain ⟨bH,ei⟩:=F8 fH ae av
  refine ⟨⟨a0,bH⟩,?_⟩
  show(oh ls gm (vd ls s n).2).2=_
  rw [ei,a9,List.length_append];omega
 |[],_::_,n,a,h,_=>by cases h
 |_::_,[],n,a,h,_=>by cases h
theorem ack{x y:AV}(h:AvLe0 (e4 bU) U x y):AvLe (e4 bU) U x y:=by
 cases y<;>first|exact h|exact h.elim
theorem Rq(fH:∀k,ks.contains k=true→U k){x:AV}{s:jK}{n:Nat}{a:List D}(h:colW bU ks x s=some a)(gj:kY ls n a):AvLe (e4 bU) U x (resW ls s n).1∧(resW ls s n).2=n+a.length:=by
 unfold colW at h
 split at h
 ·obtain ⟨a0,a9⟩:=Rp fH h gj
  exact ⟨ack a0,a9⟩
 ·split at h
  ·rename_i a6
   subst a6
   obtain ⟨ah,aT,ad,ae,rfl⟩:=vf h
   obtain ⟨a0,a9⟩:=F8 fH ad gj.left
   have av:=gj.right
   rw [←a9] at av
   obtain ⟨bH,ei⟩:=F8 fH ae av
   refine ⟨⟨rfl,a0,bH⟩,?_⟩
   simp only [resW]
   rw [ei,a9,List.length_append];omega
  ·cases h
 ·obtain ⟨a0,a9⟩:=F8 fH h gj
  exact ⟨a0,a9⟩
 ·cases h
theorem KC(fH:∀k,ks.contains k=true→U k):∀{xs:List AV} {gm:List jK} {n:Nat} {a:List D},F6 bU ks xs gm=some a→kY ls n a→qm (e4 bU) U xs (resWs ls gm n).1∧(resWs ls gm n).2=n+a.length
 |[],[],n,a,h,gj=>by cases h;exact ⟨trivial,rfl⟩
 |x::xs,s::gm,n,a,h,gj=>by
  obtain ⟨ah,aT,ad,ae,rfl⟩:=vf h
  obtain ⟨a0,a9⟩:=Rq fH ad gj.left
  have av:=gj.right
  rw [←a9] at av
  obtain ⟨bH,ei⟩:=KC fH ae av
  refine ⟨⟨a0,bH⟩,?_⟩
  show(resWs ls gm (resW ls s n).2).2=_
  rw [ei,a9,List.length_append];omega
 |[],_::_,n,a,h,_=>by cases h
 |_::_,[],n,a,h,_=>by cases h
theorem acm(fH:∀k,ks.contains k=true→U k){x:Option cq}{s:j2}{n:Nat}{a:List D}(h:colO bU ks x s=some a)(gj:kY ls n a):(∃o',x=some o'∧ObLe (e4 bU) U o' (resO ls s n).1)∧(resO ls s n).2=n+a.length:=by
 unfold colO at h
 split at h
 ·cases h;exact ⟨⟨_,rfl,trivial⟩,rfl⟩
 ·obtain ⟨a0,a9⟩:=KC fH h gj
  exact ⟨⟨_,rfl,⟨_,rfl,a0⟩⟩,a9⟩
 ·split at h
  ·rename_i ai
   cases h;subst ai
   refine ⟨⟨_,rfl,⟨_,rfl,.inl ?_⟩⟩,rfl⟩
   rw [gj.I];rfl
  ·cases h
 ·cases h
  refine ⟨⟨_,rfl,?_⟩,rfl⟩
  simp only [resO,ObLe]
  rw [gj.I];rfl
 ·cases h
theorem Rr(fH:∀k,ks.contains k=true→U k){σ:St}:∀{l:List (Nat×jK)} {n:Nat} {a:List D},KB bU ks σ l=some a→kY ls n a→yk (e4 bU) U σ (resS ls l n).1∧(resS ls l n).2=n+a.length
 |[],n,a,h,gj=>by cases h;exact ⟨trivial,rfl⟩
 |(t,s)::r,n,a,h,gj=>by
  obtain ⟨ah,aT,ad,ae,rfl⟩:=vf h
  obtain ⟨a0,a9⟩:=Rq fH ad gj.left
  have av:=gj.right
  rw [←a9] at av
  obtain ⟨bH,ei⟩:=Rr fH ae av
  refine ⟨⟨a0,bH⟩,?_⟩
  simp only [resS]
  rw [ei,a9,List.length_append];omega
theorem KD(fH:∀k,ks.contains k=true→U k){σ:St}:∀{l:List (Key×j2)} {n:Nat} {a:List D},F7 bU ks σ l=some a→kY ls n a→u3 (e4 bU) U σ (resB ls l n).1∧(resB ls l n).2=n+a.length
 |[],n,a,h,gj=>by cases h;exact ⟨trivial,rfl⟩
 |(t,s)::r,n,a,h,gj=>by
  obtain ⟨ah,aT,ad,ae,rfl⟩:=vf h
  obtain ⟨a0,a9⟩:=acm fH ad gj.left
  have av:=gj.right
  rw [←a9] at av
  obtain ⟨bH,ei⟩:=KD fH ae av
  refine ⟨⟨a0,bH⟩,?_⟩
  simp only [resB]
  rw [ei,a9,List.length_append];omega
end
theorem vg(ls:List D):∀(l:List (Key×j2)) (n:Nat),kt (resB ls l n).1=l.map (·.1)
 |[],n=>rfl
 |(k,s)::r,n=>by
  have:=vg ls r (resO ls s n).2
  simp only [resB,kt,List.map_cons] at this⊢
  rw [←this]
theorem F9:∀{lo:List (Key×cq)} {k:Key},k∈kt lo→∃o,lookO lo k=some o
 |[],k,h=>by cases h
 |(j,x)::r,k,h=>by
  unfold lookO
  by_cases ai:k=j
  ·exact ⟨x,by rw [if_pos ai]⟩
  ·rw [if_neg ai]
   simp only [kt,List.map_cons,List.mem_cons] at h
   exact F9 (h.resolve_left ai)
def eO(ib:List Key)(σ:St):Prop:=∀k,10000≤k→dS (σ.objs k)→k∈ib
theorem KE(ls:List D):∀(l:List (Key×j2)) (n:Nat) (k:Key),(l.map (·.1)).Nodup→(∃s,(k,s)∈l∧yq s=true)→dS (lookO (resB ls l n).1 k)
 |[],n,k,_,⟨_,h,_⟩=>by cases h
 |(j,s)::r,n,k,aI,⟨gm,h,az⟩=>by
  simp only [resB,lookO]
  simp only [List.map_cons,List.nodup_cons] at aI
  rcases List.mem_cons.1 h with ad|ad
  ·cases ad
   rw [if_pos rfl]
   cases s<;>first|cases az|skip
   ·exact rA
   ·exact rB
  ·have ca:k≠j:=by
    rintro rfl
    exact aI.1 (List.mem_map.2 ⟨_,ad,rfl⟩)
   rw [if_neg ca]
   exact KE ls r _ k aI.2 ⟨gm,ad,az⟩
theorem vh{β:Type}{ib:List Key}:∀{l:List tl} {σ:St} {k:St→Option β} {b:β},eO ib σ→nilX l σ k=some b→∃τ,fX σ τ∧eO ib τ∧k τ=some b
 |[],σ,k,b,bO,h=>⟨σ,fX.refl σ,bO,h⟩
 | .slot t K n::r,σ,k,b,bO,h=>by
  unfold nilX at h
  split at h
  ·rename_i a az gg
   split at h
   case isFalse=>cases h
   rename_i bJ
   obtain ⟨ad,ae⟩:=kv h
   have aB:a= .val (.slice none 0 0):=by
    unfold nilP at ad
    split at ad
    ·rfl
    ·cases ad
   subst aB
   obtain ⟨τ,a0,a9,bH⟩:=vh (ib:=ib) (by
    intro j aH ak
    by_cases fg:j=K
    ·exact absurd bJ (Nat.not_lt.2 (fg▸aH))
    ·simp only [ct _ _ fg] at ak;exact bO j aH ak) ae
   exact ⟨τ,(abg t K n az gg).trans a0,a9,bH⟩
  ·exact vh bO h
 | .box cw i K n::r,σ,k,b,bO,h=>by
  unfold nilX at h
  split at h
  ·rename_i xs ai
   split at h
   ·rename_i a af gg
    split at h
    case isFalse=>cases h
    rename_i bJ
    obtain ⟨ad,ae⟩:=kv h
    have aB:a= .val (.slice none 0 0):=by
     unfold nilP at ad
     split at ad
     ·rfl
     ·cases ad
    subst aB
    obtain ⟨τ,a0,a9,bH⟩:=vh (ib:=ib) (by
     intro j aH ak
     by_cases fg:j=K
     ·exact absurd bJ (Nat.not_lt.2 (fg▸aH))
     ·simp only [ct _ _ fg] at ak
      by_cases uI:j=cw
      ·subst uI;exact bO j aH (by rw [ai];exact rA)
      ·simp only [ct _ _ uI] at ak;exact bO j aH ak) ae
    exact ⟨τ,(abh cw i K n ai af gg).trans a0,a9,bH⟩
   ·exact vh bO h
  ·exact vh bO h
theorem Ga{β:Type}{ib:List Key}{eZ:o5}{σ:St}{k:List D→Option β}{b:β}(bO:eO ib σ)(h:absX ib eZ σ k=some b):∃ls,fX σ (restore eZ ls)∧eO ib (restore eZ ls)∧k ls=some b:=by
 unfold absX at h
 obtain ⟨τ,a0,a9,bH⟩:=vh bO h
 simp only at bH
 split at bH
 case isFalse=>cases bH
 rename_i aj
 simp only [Ro,Bool.and_eq_true,List.all_eq_true,Bool.or_eq_true,decide_eq_true_eq,beq_iff_eq,List.any_eq_true,List.contains_eq_mem] at aj
 obtain ⟨vi,⟨oV,acn⟩,aco⟩:=aj
 split at bH
 case h_2=>cases bH
 rename_i ls KF
 obtain ⟨ah,aT,aS,aV,rfl⟩:=vf KF
 have gj:kY (ah++aT) 0 (ah++aT):=fun j d aH=>by rw [Nat.zero_add];exact aH
 have fH:∀k,(eZ.objs.map (·.1)).contains k=true→∃o,lookO (resB (ah++aT) eZ.objs (resS (ah++aT) eZ.aC 0).2).1 k=some o:=by
  intro k ai
  exact F9 (by rw [vg];simpa using ai)
 obtain ⟨br,bo⟩:=Rr fH aS gj.left
 have av:=gj.right
 rw [←bo] at av
 obtain ⟨bT,dd⟩:=KD fH aV av
 have qt:fX τ (restore eZ (ah++aT)):=by
  refine aa4 _ (by rw [vg];exact vi) br bT ?_
  intro k ai ak
  have hm:=a9 k ai ak
  obtain ⟨bG,p,KG,vj,Rs⟩:=acn k hm
  refine ⟨?_,bG⟩
  obtain ⟨asH,h8⟩:=p
  simp only at vj Rs
  subst vj
  exact KE _ _ _ _ aco ⟨_,KG,Rs⟩
 refine ⟨_,a0.trans qt,?_,bH⟩
 intro k ai ak
 obtain ⟨o,aG⟩:=x8 ak
 have:=te aG
 rw [vg] at this
 obtain ⟨p,KG,vj⟩:=List.mem_map.1 this
 rcases oV p KG with ch|ch
 ·rw [vj] at ch;exact absurd ch (Nat.not_lt.2 ai)
 ·rw [vj] at ch;exact ch
end Go.Am
namespace Go.Am
set_option linter.unusedVariables false
def Gb(objs:b8)(cs:List AV):Option (List D):=if cs.all isDA=true then allSome (cs.map (toD objs)) else none
def frz0(objs:b8)(ks:List Key):AV→AV
 | .ptr k off=>if k∈ks then match objs k with
   |some (.box cs)=>match Gb objs cs with
    |some aF=> .dP aF off
    |none=> .ptr k off
   |_=> .ptr k off
  else .ptr k off
 | .row k=>if k∈ks then match objs k with
   |some (.row n es)=> .d (.aD n es)
   |_=> .row k
  else .row k
 | .map k=>if k∈ks then match objs k with
   |some (.map es)=> .d (.mp es)
   |_=> .map k
  else .map k
 |x=>x
def frzA(objs:b8)(ks:List Key):AV→AV
 | .agg cs=>xX (cs.map (frz0 objs ks))
 | .fn f first cap=> .fn f (first.map (frz0 objs ks)) (cap.map (frz0 objs ks))
 |x=>frz0 objs ks x
def Bb(objs:b8)(ks:List Key):cq→cq
 | .box cs=> .box (cs.map (frzA objs ks))
 |o=>o
def isRM(objs:b8)(k:Key):Bool:=match objs k with
 |some (.row _ _)=>decide (k<10000)
 |some (.map _)=>true
 |some (.box cs)=>decide (k<10000)&&(Gb objs cs).isSome
 |_=>false
def freeze(ks:List Key)(σ:St):St:=⟨fun t=>frzA σ.objs ks (σ.aC t),fun k=>if k∈ks then some .dead else(σ.objs k).map (Bb σ.objs ks)⟩
section
variable{m:Mem}{fr:eF}{ρ:cP}{σ:St}{a:Act}{w:World}{ks:List Key}
theorem acp(h:Den m fr ρ σ a w){key off:Nat}{cs:List AV}{aF:List D}(ai:σ.objs key=some (.box cs))(ef:Gb σ.objs cs=some aF)(hm:key∈ks){U:Key→Prop}{v:Value}(aM:bI m ρ σ.used (.ptr key off) v):bI (Den.part m ρ ks w) ρ U (.dP aF off) v:=by
 have hle:=Den.qh m ρ ks w
 obtain ⟨b,vs,dD,aS,aV,bz,cB⟩:=h.objs _ _ ai
 have ak:=h.Fl ai rfl hm (by rw [aS];rfl)
 unfold Gb at ef
 split at ef
 case isFalse=>cases ef
 rename_i Kh
 obtain ⟨a0,a9⟩:=oS ef
 rw [List.length_map] at a0
 cases aM with
 |ptr _ _ b' hu av=>
  rw [aS] at av
  cases av
  have:=bI.dP (m:=Den.part m ρ ks w) (ρ:=ρ) (U:=U) aF off b 0 vs dD (0,0) (by rw [ak];exact aV) (fun j=>(vs[j]?).getD undef) ?_ ?_
  ·simpa using this
  ·intro j c aH
   have bJ:j<vs.size:=by rw [bz,←a0];exact (List.getElem?_eq_some_iff.1 aH).1
   simp [Array.getElem?_eq_getElem bJ]
  ·intro j c aH
   have bJ:j<vs.size:=by rw [bz,←a0];exact (List.getElem?_eq_some_iff.1 aH).1
   have bH:=a9 j c aH
   rw [List.getElem?_map,Option.map_eq_some_iff] at bH
   obtain ⟨y,aN,rE⟩:=bH
   have:=cB j y vs[j] aN (Array.getElem?_eq_getElem bJ)
   simp only [Array.getElem?_eq_getElem bJ,Option.getD_some]
   exact (JY (List.all_eq_true.1 Kh y (List.mem_of_getElem? aN)) rE this).mono hle
theorem Rt(h:Den m fr ρ σ a w){x:AV}{v:Value}(ag:bI m ρ σ.used x v):bI (Den.part m ρ ks w) ρ (freeze ks σ).used (frz0 σ.objs ks x) v:=by
 have hle:=Den.qh m ρ ks w
 have fH:∀k,σ.used k→(freeze ks σ).used k∧ρ k=ρ k:=by
  rintro k ⟨o,aG⟩
  refine ⟨?_,rfl⟩
  unfold St.used freeze
  by_cases ai:k∈ks
  ·exact ⟨.dead,by simp [ai]⟩
  ·exact ⟨Bb σ.objs ks o,by simp [ai,aG]⟩
 unfold frz0
 split
 ·rename_i k off
  split
  ·rename_i hm
   split
   ·rename_i cs ai
    split
    ·rename_i aF ef
     exact acp h ai ef hm ag
    ·exact ag.mono hle fH
   ·exact ag.mono hle fH
  ·exact ag.mono hle fH
 ·rename_i k
  split
  ·rename_i hm
   split
   ·rename_i n es ai
    cases ag
    exact .d _ _ (JT h ai hm)
   ·exact ag.mono hle fH
  ·exact ag.mono hle fH
 ·rename_i k
  split
  ·rename_i hm
   split
   ·rename_i es ai
    cases ag
    exact .d _ _ (ZP h ai hm)
   ·exact ag.mono hle fH
  ·exact ag.mono hle fH
 ·exact ag.mono hle fH
theorem KH(h:Den m fr ρ σ a w){cs:List AV}{vs:Array Value}(aq:vs.size=cs.length)(bu:∀(i:Nat) (c:AV) (v:Value),cs[i]?=some c→vs[i]?=some v→bI m ρ σ.used c v):
  vs.size=(cs.map (frz0 σ.objs ks)).length∧∀(i:Nat) (c:AV) (v:Value),(cs.map (frz0 σ.objs ks))[i]?=some c→vs[i]?=some v→bI (Den.part m ρ ks w) ρ (freeze ks σ).used c v:=by
 refine ⟨by simpa using aq,?_⟩
 intro i c v aj aM
 simp only [List.getElem?_map,Option.map_eq_some_iff] at aj
 obtain ⟨y,aN,rfl⟩:=aj
 exact Rt h (bu i y v aN aM)
theorem Ru(h:Den m fr ρ σ a w){x:AV}{v:Value}(ag:bI m ρ σ.used x v):bI (Den.part m ρ ks w) ρ (freeze ks σ).used (frzA σ.objs ks x) v:=by
 unfold frzA
 split
 ·cases ag with|agg _ vs aq bu=>
  obtain ⟨ad,ae⟩:=KH (ks:=ks) h aq bu
  exact E3 (.agg _ _ ad ae)
 ·cases ag with|fn _ _ _ vs ws aq dV bu uT=>
  obtain ⟨ad,ae⟩:=KH (ks:=ks) h aq bu
  obtain ⟨ay,aZ⟩:=KH (ks:=ks) h dV uT
  exact .fn _ _ _ _ _ ad ay ae aZ
 ·exact Rt h ag
theorem acq(ks:List Key)(dL:ks.all (isRM σ.objs)=true):fX σ (freeze ks σ):=by
 intro m fr ρ a w h
 have hle:=Den.qh m ρ ks w
 have eb:∀k∈ks,(k<10000∧∃n es,σ.objs k=some (.row n es))∨(∃es,σ.objs k=some (.map es))∨(k<10000∧∃cs,σ.objs k=some (.box cs)):=by
  intro k ai
  have:=List.all_eq_true.1 dL k ai
  unfold isRM at this
  split at this
  ·rename_i n es e;exact .inl ⟨of_decide_eq_true this,n,es,e⟩
  ·rename_i es e;exact .inr (.inl ⟨es,e⟩)
  ·rename_i cs e
   simp only [Bool.and_eq_true,decide_eq_true_eq] at this
   exact .inr (.inr ⟨this.1,cs,e⟩)
  ·cases this
 have own:∀k∈ks,∃o,σ.objs k=some o∧o.owns=true:=by
  intro k ai
  rcases eb k ai with⟨_,n,es,e⟩|⟨es,e⟩|⟨_,cs,e⟩
  ·exact ⟨_,e,rfl⟩
  ·exact ⟨_,e,rfl⟩
  ·exact ⟨_,e,rfl⟩
 have jV:∀b,Den.part m ρ ks w b=m b∨∃k∈ks,blockOf (ρ k)=some b∧Den.part m ρ ks w b=w.heap[b]?:=by
  intro b
  unfold Den.part
  cases hm:m b with
  |some x=>exact .inl rfl
  |none=>
   simp only
   by_cases aj:∃k∈ks,blockOf (ρ k)=some b
   ·rw [if_pos aj]
    obtain ⟨k,ad,ae⟩:=aj
    exact .inr ⟨k,ad,ae,rfl⟩
   ·rw [if_neg aj];exact .inl rfl
 have mG:∀k o,(freeze ks σ).objs k=some o→o.owns=true→k∉ks∧∃de,σ.objs k=some de∧o=Bb σ.objs ks de∧de.owns=true:=by
  intro k o ai aG
  unfold freeze at ai
  simp only at ai
  split at ai
  ·cases ai;cases aG
  ·rename_i aI
   obtain ⟨de,ad,rfl⟩:=Option.map_eq_some_iff.1 ai
   refine ⟨aI,de,ad,rfl,?_⟩
   cases de<;>first|rfl|exact aG
 refine ⟨Den.part m ρ ks w,ρ,hle,⟨?_,h.frame,?_,?_,?_,?_,?_,?_⟩,?_⟩
 ·intro b o ak
  rcases jV b with e|⟨k,_,_,e⟩
  ·rw [e] at ak;exact h.mem b o ak
  ·rw [e] at ak;exact ak
 ·intro b ak
  rcases jV b with e|⟨k,ad,ae,e⟩
  ·rw [e] at ak;exact h.apart b ak
  ·obtain ⟨o,ay,aZ⟩:=own k ad
   exact (h.own k o b ay aZ ae).2
 ·rintro k ⟨o,aG⟩
  unfold freeze at aG
  simp only at aG
  split at aG
  ·rename_i ai
   obtain ⟨o,ay,aZ⟩:=own k ai
   exact h.one k ⟨o,ay⟩
  ·obtain ⟨de,ad,rfl⟩:=Option.map_eq_some_iff.1 aG
   exact h.one k ⟨de,ad⟩
 ·intro t
  exact Ru h (h.aC t)
 ·intro k o ai
  have eR:=ai
  unfold freeze at ai
  simp only at ai
  split at ai
  ·cases ai;trivial
  ·obtain ⟨de,ad,rfl⟩:=Option.map_eq_some_iff.1 ai
   have ae:=h.objs k de ad
   cases de with
   |dead=>trivial
   |box cs=>
    obtain ⟨b,vs,T,aS,aV,bz,cB⟩:=ae
    refine ⟨b,vs,T,aS,aV,by simpa using bz,?_⟩
    intro i c x aj ag
    simp only [List.getElem?_map,Option.map_eq_some_iff] at aj
    obtain ⟨y,aN,rfl⟩:=aj
    exact Ru h (cB i y x aN ag)
   |row n es=>
    rcases ae with⟨aS,aV⟩|⟨b,o,cap,vs,dD,aS,aV,bz,cB,dx,e3⟩
    ·exact .inl ⟨aS,aV⟩
    ·exact .inr ⟨b,o,cap,vs,dD,aS,aV,bz,cB,dx,fun i e j c af aH=>by obtain ⟨x,a0,a9⟩:=e3 i e j c af aH;exact ⟨x,a0,a9.mono hle⟩⟩
   |map es=>
    obtain ⟨r,cT,clock,aS,aV,bz,cB,dx⟩:=ae
    exact ⟨r,cT,clock,aS,aV,bz,cB,fun i e x he ag=>(dx i e x he ag).mono hle⟩
 ·intro k o b ai aG ak
  obtain ⟨aI,de,ad,rfl,ae⟩:=mG k o ai aG
  have ay:=h.own k de b ad ae ak
  refine ⟨?_,ay.2⟩
  rcases jV b with e|⟨bg,aZ,bG,e⟩
  ·rw [e];exact ay.1
  ·obtain ⟨o',ch,fi⟩:=own bg aZ
   exact absurd bG (h.sep k bg de o' b (by rintro rfl;exact aI aZ) ad ch ae fi ak)
 ·intro k bg o o' b ca ai eR aG mN ak
  obtain ⟨aI,de,ad,rfl,ae⟩:=mG k o ai aG
  obtain ⟨uP,Bc,dw,rfl,fW⟩:=mG bg o' eR mN
  exact h.sep k bg de Bc b ca ad dw ae fW ak
 ·intro k ai ak
  refine ⟨?_,rfl⟩
  have aI:k∉ks:=by
   intro hm
   rcases eb k hm with⟨bJ,_⟩|⟨es,e⟩|⟨bJ,_⟩
   ·exact absurd ai (Nat.not_le.2 bJ)
   ·rw [e] at ak;exact x7 ak
   ·exact absurd ai (Nat.not_le.2 bJ)
  show dS (if k∈ks then some .dead else(σ.objs k).map (Bb σ.objs ks))
  rw [if_neg aI]
  rcases ak with⟨c,aj⟩|⟨n,es,aj⟩
  ·rw [aj];exact rA
  ·rw [aj];exact rB
end
def frzX{β:Type}:List (List Key)→St→(St→Option β)→Option β
 |[],σ,k=>k σ
 |ks::r,σ,k=>match ks with
  |[]=>frzX r σ k
  |_=>if ks.all (isRM σ.objs)=true then frzX r (freeze ks σ) k else none
def takeX{β:Type}(t:Tmp)(σ:St)(k:St→Option β):Option β:=match σ.aC t with
 | .sub key cw i len=>match σ.objs key,σ.objs t with
  |some (.row bg es),none=>if cw=bg∧key<10000∧t<10000 then aw (decide (i+len≤es.length)) (k ⟨b0 σ.aC t (.row t),b0 (b0 σ.objs key (some .dead)) t (some (.row cw ((es.drop i).take len)))⟩) else none
  |_,_=>none
 |_=>none
theorem acr{σ:St}{t key cw i len:Nat}{es:List (List D)}(aE:σ.aC t= .sub key cw i len)(ai:σ.objs key=some (.row cw es))(ar:σ.objs t=none)(hle:i+len≤es.length)(jl:key<10000):
  fX σ ⟨b0 σ.aC t (.row t),b0 (b0 σ.objs key (some .dead)) t (some (.row cw ((es.drop i).take len)))⟩:=by
 intro m fr ρ a w h
 have ca:key≠t:=by rintro rfl;rw [ai] at ar;cases ar
 have hlen:((es.drop i).take len).length=len:=by simp;omega
 have yr:∀j o,(b0 (b0 σ.objs key (some .dead)) t (some (.row cw ((es.drop i).take len)))) j=some o→(j=t∧o= .row cw ((es.drop i).take len))∨(j=key∧o= .dead)∨(j≠t∧j≠key∧σ.objs j=some o):=by
  intro j o aH
  by_cases ad:j=t
  ·subst ad;rw [dZ] at aH;cases aH;exact .inl ⟨rfl,rfl⟩
  ·rw [ct _ _ ad] at aH
   by_cases ae:j=key
   ·subst ae;rw [dZ] at aH;cases aH;exact .inr (.inl ⟨rfl,rfl⟩)
   ·rw [ct _ _ ae] at aH;exact .inr (.inr ⟨ad,ae,aH⟩)
 let v:=a.tmps.getD t undef
 have aM:=h.aC t
 rw [aE] at aM
 have AK:∀k,σ.used k→St.used ⟨b0 σ.aC t (.row t),b0 (b0 σ.objs key (some .dead)) t (some (.row cw ((es.drop i).take len)))⟩ k∧b0 ρ t v k=ρ k:=by
  rintro k ⟨o,aG⟩
  have sT:k≠t:=by rintro rfl;rw [aG] at ar;cases ar
  refine ⟨?_,ct _ _ sT⟩
  by_cases ae:k=key
  ·subst ae;exact ⟨.dead,by simp only [ct _ _ sT,dZ]⟩
  ·exact ⟨o,by simp only [ct _ _ sT,ct _ _ ae];exact aG⟩
 have piece:jD v=true∧(blockOf v=none∨blockOf v=blockOf (ρ key))∧il m (b0 ρ t v) (St.used ⟨b0 σ.aC t (.row t),b0 (b0 σ.objs key (some .dead)) t (some (.row cw ((es.drop i).take len)))⟩) v w (.row cw ((es.drop i).take len)):=by
  have nh:=h.objs key _ ai
  generalize acs:a.tmps.getD t undef=u at aM
  have acu:v=u:=acs
  rw [acu]
  cases aM with
  |jE _ _ _ hu av=>exact ⟨rfl,.inl rfl,.inl ⟨rfl,by simp⟩⟩
  |sub _ _ _ _ b o L cap hX hu av Jz aB=>
   refine ⟨rfl,.inr (by rw [av];rfl),?_⟩
   rcases nh with⟨aS,aV⟩|⟨b',o',n0,vs,dD,aS,aV,bz,cB,dx,e3⟩
   ·rw [av] at aS;cases aS
   ·rw [av] at aS
    cases aS
    refine .inr ⟨b,hX,cap-i,vs,dD,by rw [hlen],aV,by rw [hlen];omega,?_,?_,?_⟩
    ·by_cases KI:i<cap
     ·rw [aB.1 KI,Nat.add_assoc,←Nat.add_mul]
      have:i+(cap-i)=cap:=by omega
      rw [this];exact cB
     ·have:cap-i=0:=by omega
      rw [this,Nat.zero_mul]
      have:=aB.2
      omega
    ·intro e he
     exact dx e (List.mem_of_mem_drop (List.mem_of_mem_take he))
    ·intro p e j c aY aH
     rw [List.getElem?_take] at aY
     split at aY
     case isFalse=>cases aY
     rename_i Pj
     rw [List.getElem?_drop] at aY
     obtain ⟨x,a0,a9⟩:=e3 (i+p) e j c aY aH
     have KI:i<cap:=by
      have:=(List.getElem?_eq_some_iff.1 aY).1
      omega
     refine ⟨x,?_,a9⟩
     rw [aB.1 KI]
     have:o+i*cw+p*cw+j=o+(i+p)*cw+j:=by rw [Nat.add_mul];omega
     rw [this];exact a0
 obtain ⟨eG,dR,gH⟩:=piece
 refine ⟨m,b0 ρ t v,Mem.le_refl m,⟨h.mem,h.frame,h.apart,?_,?_,?_,?_,?_⟩,?_⟩
 ·rintro k ⟨o,aG⟩
  rcases yr k o aG with⟨rfl,_⟩|⟨rfl,_⟩|⟨ad,ae,ay⟩
  ·rw [dZ];exact eG
  ·rw [ct _ _ ca];exact h.one _ ⟨_,ai⟩
  ·rw [ct _ _ ad];exact h.one _ ⟨_,ay⟩
 ·intro s
  by_cases az:s=t
  ·subst az
   simp only [dZ]
   have:bI m (b0 ρ s v) (St.used ⟨b0 σ.aC s (.row s),b0 (b0 σ.objs key (some .dead)) s (some (.row cw ((es.drop i).take len)))⟩) (.row s) (b0 ρ s v s):= .row s ⟨_,dZ _ _ _⟩
   rw [dZ] at this
   exact this
  ·simp only [ct _ _ az]
   exact (h.aC s).mono (Mem.le_refl m) AK
 ·intro k o eR
  rcases yr k o eR with⟨rfl,rfl⟩|⟨rfl,rfl⟩|⟨ad,ae,ay⟩
  ·rw [dZ];exact gH
  ·trivial
  ·rw [ct _ _ ad]
   exact (h.objs k o ay).mono (Mem.le_refl m) AK (fun b _ _=>rfl)
 ·intro k o b eR aG ak
  rcases yr k o eR with⟨rfl,rfl⟩|⟨rfl,rfl⟩|⟨ad,ae,ay⟩
  ·rw [dZ] at ak
   rcases dR with dR|dR
   ·rw [dR] at ak;cases ak
   ·exact h.own key _ b ai rfl (by rw [←dR];exact ak)
  ·cases aG
  ·rw [ct _ _ ad] at ak
   exact h.own k o b ay aG ak
 ·intro k bg o o' b c6 eR Rv aG mN ak
  rcases yr k o eR with⟨rfl,rfl⟩|⟨rfl,rfl⟩|⟨ad,ae,ay⟩
  ·rcases yr bg o' Rv with⟨rfl,rfl⟩|⟨rfl,rfl⟩|⟨dw,fW,hi⟩
   ·exact absurd rfl c6
   ·cases mN
   ·rw [dZ] at ak
    rw [ct _ _ dw]
    rcases dR with dR|dR
    ·rw [dR] at ak;cases ak
    ·exact h.sep key bg _ o' b (Ne.symm fW) ai hi rfl mN (by rw [←dR];exact ak)
  ·cases aG
  ·rw [ct _ _ ad] at ak
   rcases yr bg o' Rv with⟨rfl,rfl⟩|⟨rfl,rfl⟩|⟨dw,fW,hi⟩
   ·rw [dZ]
    rcases dR with dR|dR
    ·rw [dR];exact fun bu=>by cases bu
    ·rw [dR];exact h.sep k key o _ b ae ay ai aG rfl ak
   ·cases mN
   ·rw [ct _ _ dw]
    exact h.sep k bg o o' b c6 ay hi aG mN ak
 ·intro k eR ak
  have sT:k≠t:=by rintro rfl;rw [ar] at ak;exact rC ak
  have c6:k≠key:=by rintro rfl;exact absurd jl (Nat.not_lt.2 eR)
  exact ⟨by simp only [ct _ _ sT,ct _ _ c6];exact ak,ct _ _ sT⟩
end Go.Am
namespace Go.Am
set_option linter.unusedVariables false
def tn(φ:Key→Key):AV→AV
 | .any=> .any
 | .d x=> .d x
 | .dP cs off=> .dP cs off
 | .ptr k off=> .ptr (φ k) off
 | .fc k cw i off=> .fc (φ k) cw i off
 | .row k=> .row (φ k)
 | .sub k cw i len=> .sub (φ k) cw i len
 | .map k=> .map (φ k)
 |_=> .any
def renA(φ:Key→Key):AV→AV
 | .agg cs=> .agg (cs.map (tn φ))
 | .aO cs=> .aO (cs.map (tn φ))
 | .fn f as iq=> .fn f (as.map (tn φ)) (iq.map (tn φ))
 |x=>tn φ x
def rL(φ:Key→Key):cq→cq
 | .box cs=> .box (cs.map (renA φ))
 |o=>o
section
variable{m:Mem}{ρ cr:cP}{U lh:Key→Prop}{φ:Key→Key}
theorem Rw(h:∀k,U k→lh (φ k)∧cr (φ k)=ρ k){x:AV}{v:Value}(ag:bI m ρ U x v):bI m cr lh (tn φ x) v:=by
 cases ag with
 |any v=>exact .any _
 |d x v ag=>exact .d _ _ ag
 |agg=>exact .any _
 |aO=>exact .any _
 |dP cs off b o vs T dH hm xs ad ae=>exact .dP _ _ b o vs T dH hm xs ad ae
 |ptr k off b hu av=>exact .ptr _ _ b (h k hu).1 ((h k hu).2.trans av)
 |fc k cw i off b o len cap hu av=>exact .fc _ _ _ _ b o len cap (h k hu).1 ((h k hu).2.trans av)
 |row k hu=>rw [←(h k hu).2];exact .row _ (h k hu).1
 |sub k cw i len b o L cap a hu av hle aB=>exact .sub _ _ _ _ b o L cap a (h k hu).1 ((h k hu).2.trans av) hle aB
 |jE k cw i hu av=>exact .jE _ _ _ (h k hu).1 ((h k hu).2.trans av)
 |map k hu=>rw [←(h k hu).2];exact .map _ (h k hu).1
 |fn=>exact .any _
theorem Gc(h:∀k,U k→lh (φ k)∧cr (φ k)=ρ k){cs:List AV}{vs:Array Value}(aq:vs.size=cs.length)(bu:∀(i:Nat) (c:AV) (v:Value),cs[i]?=some c→vs[i]?=some v→bI m ρ U c v):
  vs.size=(cs.map (tn φ)).length∧∀(i:Nat) (c:AV) (v:Value),(cs.map (tn φ))[i]?=some c→vs[i]?=some v→bI m cr lh c v:=by
 refine ⟨by simpa using aq,?_⟩
 intro i c v aj aM
 simp only [List.getElem?_map,Option.map_eq_some_iff] at aj
 obtain ⟨y,aN,rfl⟩:=aj
 exact Rw h (bu i y v aN aM)
theorem Rx(h:∀k,U k→lh (φ k)∧cr (φ k)=ρ k){x:AV}{v:Value}(ag:bI m ρ U x v):bI m cr lh (renA φ x) v:=by
 unfold renA
 split
 ·cases ag with|agg _ vs aq bu=>
  obtain ⟨ad,ae⟩:=Gc h aq bu
  exact .agg _ _ ad ae
 ·cases ag with|aO _ vs aq bu=>
  obtain ⟨ad,ae⟩:=Gc h aq bu
  exact .aO _ _ ad ae
 ·cases ag with|fn _ _ _ vs ws aq dV bu uT=>
  obtain ⟨ad,ae⟩:=Gc h aq bu
  obtain ⟨ay,aZ⟩:=Gc h dV uT
  exact .fn _ _ _ _ _ ad ay ae aZ
 ·exact Rw h ag
theorem acv(h:∀k,U k→lh (φ k)∧cr (φ k)=ρ k){o:cq}{v:Value}{w:World}(aG:il m ρ U v w o):il m cr lh v w (rL φ o):=by
 cases o with
 |dead=>trivial
 |box cs=>
  obtain ⟨b,vs,T,aS,aV,bz,cB⟩:=aG
  refine ⟨b,vs,T,aS,aV,by simpa using bz,?_⟩
  intro i c x aj ag
  simp only [List.getElem?_map,Option.map_eq_some_iff] at aj
  obtain ⟨y,aN,rfl⟩:=aj
  exact Rx h (cB i y x aN ag)
 |row=>exact aG
 |map=>exact aG
theorem acw{o:cq}:(rL φ o).owns=o.owns:=by cases o<;>rfl
end
def acx:Act:={tmps:= #[],defers:=[]}
def Gd(m:Mem)(fr:eF)(ρ:cP)(E:b8)(w:World):Prop:=Den m fr ρ ⟨fun _=> .any,E⟩ acx w
def o6(E:b8)(k:Key):Prop:=∃o,E k=some o
structure gn where
 f:FuncId
 args:List jK
 ins:List (Key×j2)
 res:jK
 outs:List (Key×j2)
def gn.tp(s:gn)(ls:List D):List AV:=(resWs ls s.args 0).1
def gn.lX(s:gn)(ls:List D):List (Key×cq):=(resB ls s.ins (resWs ls s.args 0).2).1
def gn.Ge(s:gn)(ls:List D):AV:=(resW ls s.res 0).1
def gn.nu(s:gn)(ls:List D):List (Key×cq):=(resB ls s.outs (resW ls s.res 0).2).1
structure eT(P:Program)(G:cV)(s:gn)(F:List D→Option (List D)):Prop where
 fn:uS P s.f
 run:∀ls ek,F ls=some ek→∀(m:Mem) (fr:eF) (ρ:cP) (w:World) (vs:List Value),iL G m→Gd m fr ρ (lookO (s.lX ls)) w→vs.length=(s.tp ls).length→
  (∀(i:Nat) (x:AV) (v:Value),(s.tp ls)[i]?=some x→vs[i]?=some v→bI m ρ (o6 (lookO (s.lX ls))) x v)→
  Calls P s.f vs.toArray w fun e w'=>∃v cd cr,e= .returned v∧m.le cd∧Gd cd fr cr (lookO (s.nu ek)) w'∧bI cd cr (o6 (lookO (s.nu ek))) (s.Ge ek) v∧
   ∀k,10000≤k→dS (lookO (s.lX ls) k)→cr k=ρ k
def o7(bU:List (Key×Key))(base:Nat)(k:Key):Key:=if 10000≤k then e4 bU k else base+(k-9000)
def afterObjs(objs:b8)(dead:List Key)(outs:List (Key×cq)):b8:=fun p=>match lookO outs p with
 |some o=>some o
 |none=>if p∈dead then some .dead else objs p
def acy:j2→Bool
 | .row _=>true
 | .map=>true
 |_=>false
def Ry(objs:b8)(bU:List (Key×Key))(base:Nat)(s:gn):Bool:=
 renOk (e4 bU) (s.ins.map (·.1))&&renOk (o7 bU base) (s.outs.map (·.1))&&decide ((s.ins.map (·.1)).Nodup)&&decide ((s.outs.map (·.1)).Nodup)&&
 s.outs.all (fun p=>if 10000≤p.1 then s.ins.any (fun q=>q.1==p.1&&yq q.2) else decide (9000≤p.1)&&decide (o7 bU base p.1<10000)&&(objs (o7 bU base p.1)).isNone)&&
 s.ins.all (fun q=>if 10000≤q.1 then yq q.2&&s.outs.any (fun p=>p.1==q.1&&yq p.2) else acy q.2&&decide (e4 bU q.1<10000))
section
variable{β:Type}
def callH(G:cV)(s:gn)(F:List D→Option (List D))(base:Nat)(σ:St)(o:Oper)(x:Operand)(args:List Operand)(k:St→Option β):Option β:=
 match calleeA (evA G σ.aC x) with
 |some (f,pre,post)=>
  if f=s.f then
   let rD:=pre++args.map (evA G σ.aC)++post
   let bU:=thB σ s.ins (F5 rD s.args)
   let ks:=s.ins.map (·.1)
   if Ry σ.objs bU base s=true then
    match ocat (F6 bU ks rD s.args) (F7 bU ks σ s.ins) with
    |some ls=>R (F ls) fun ek=>k (St.put ⟨σ.aC,afterObjs σ.objs (ks.map (e4 bU)) ((s.nu ek).map fun p=>(o7 bU base p.1,rL (o7 bU base) p.2))⟩ o.dst (renA (o7 bU base) (s.Ge ek)))
    |none=>none
   else none
  else none
 |none=>none
end
section
variable{P:Program}{T:bW}{G:cV}{m:Mem}{fr:eF}{ρ:cP}{σ:St}{a:Act}{w:World}{N:Nat}
theorem acz(cA:iL G m)(h:Den m fr ρ σ a w){o:Oper}{x:Operand}{args:Array Operand}{df:Array TypeId}(dj:o.op= .call ⟨.value x,args,df⟩){f:FuncId}{pre post:List AV}(fO:calleeA (evA G σ.aC x)=some (f,pre,post))(a6:uS P f):
  ∃vs:List Value,vs.length=(pre++args.toList.map (evA G σ.aC)++post).length∧(∀(i:Nat) (c:AV) (v:Value),(pre++args.toList.map (evA G σ.aC)++post)[i]?=some c→vs[i]?=some v→bI m ρ σ.used c v)∧
   (execOp a.eval o).run P w= .ok (.enter f vs.toArray) w:=by
 have cW:=As (a:=a) cA h.aC
 have ag:=cW x
 have JZ:∃first cap,a.eval x= .func (.func f) first cap∧first.size=pre.length∧cap.size=post.length∧
   (∀(i:Nat) (c:AV) (v:Value),pre[i]?=some c→first[i]?=some v→bI m ρ σ.used c v)∧(∀(i:Nat) (c:AV) (v:Value),post[i]?=some c→cap[i]?=some v→bI m ρ σ.used c v):=by
  unfold calleeA at fO
  split at fO
  ·rename_i iO first cap he
   split at fO
   case isFalse=>cases fO
   rename_i ar
   cases fO
   rw [he] at ag
   exact ⟨first,cap,ag.gA,by simpa using ar.1,by simpa using ar.2,by intro i c v aj;simp at aj,by intro i c v aj;simp at aj⟩
  ·rename_i iO first cap he
   cases fO
   rw [he] at ag
   generalize a.eval x=u at ag
   cases ag with|fn _ _ _ vs ws aq dV g oT=>exact ⟨vs,ws,rfl,aq,dV,g,oT⟩
  ·rename_i iO first cap he
   cases fO
   rw [he] at ag
   have ag:=ag.mD
   generalize a.eval x=u at ag
   cases ag with|fn _ _ _ vs ws aq dV g oT=>
   refine ⟨vs,ws,rfl,by simpa using aq,by simpa using dV,?_,?_⟩
   ·intro i c v aj aM
    simp only [List.getElem?_map,Option.map_eq_some_iff] at aj
    obtain ⟨y,aN,rfl⟩:=aj
    exact .d _ _ (g i y v aN aM)
   ·intro i c v aj aM
    simp only [List.getElem?_map,Option.map_eq_some_iff] at aj
    obtain ⟨y,aN,rfl⟩:=aj
    exact .d _ _ (oT i y v aN aM)
  ·cases fO
 obtain ⟨first,cap,sO,lQ,nd,a0,a9⟩:=JZ
 refine ⟨(first++args.map a.eval++cap).toList,by simp [lQ,nd],?_,?_⟩
 ·intro i c v aj aM
  simp only [Array.toList_append,Array.toList_map] at aM
  have aS:first.toList.length=pre.length:=by simpa using lQ
  by_cases ad:i<pre.length
  ·rw [List.append_assoc,List.getElem?_append_left ad] at aj
   rw [List.append_assoc,List.getElem?_append_left (by omega)] at aM
   exact a0 i c v aj (by simpa using aM)
  ·by_cases ae:i<pre.length+args.size
   ·rw [List.getElem?_append_left (by simp;omega),List.getElem?_append_right (by omega)] at aj
    rw [List.getElem?_append_left (by simp;omega),List.getElem?_append_right (by omega),aS] at aM
    simp only [List.getElem?_map,Option.map_eq_some_iff] at aj aM
    obtain ⟨p,aY,rfl⟩:=aj
    obtain ⟨q,bL,rfl⟩:=aM
    rw [aY] at bL;cases bL
    exact cW _
   ·rw [List.getElem?_append_right (by simp;omega)] at aj
    rw [List.getElem?_append_right (by simp;omega)] at aM
    refine a9 _ c v aj ?_
    rw [←aM]
    simp only [List.length_append,List.length_map,Array.length_toList,lQ]
    simp
 ·unfold execOp
  rw [dj]
  simp only [Array.toArray_toList]
  exact P7 sO a6
theorem Rz{φ:Key→Key}:∀{lo:List (Key×cq)} {p:Key} {o:cq},lookO (lo.map fun q=>(φ q.1,rL φ q.2)) p=some o→∃k de,k∈kt lo∧φ k=p∧o=rL φ de∧((kt lo).Nodup→lookO lo k=some de)
 |[],p,o,h=>by cases h
 |(j,x)::r,p,o,h=>by
  simp only [List.map_cons,lookO] at h
  split at h
  ·rename_i e
   cases h
   exact ⟨j,x,by simp [kt],e.symm,rfl,fun _=>by simp [lookO]⟩
  ·obtain ⟨k,de,ad,ae,ay,aZ⟩:=Rz h
   refine ⟨k,de,?_,ae,ay,?_⟩
   ·simp only [kt,List.map_cons,List.mem_cons] at ad⊢;exact .inr ad
   ·intro aI
    simp only [kt,List.map_cons,List.nodup_cons] at aI ad
    have ca:k≠j:=by rintro rfl;exact aI.1 ad
    simp only [lookO,if_neg ca]
    exact aZ aI.2
theorem KJ{φ:Key→Key}:∀{lo:List (Key×cq)} {k:Key},k∈kt lo→∃o,lookO (lo.map fun q=>(φ q.1,rL φ q.2)) (φ k)=some o
 |[],k,h=>by cases h
 |(j,x)::r,k,h=>by
  simp only [List.map_cons,lookO]
  split
  ·exact ⟨_,rfl⟩
  ·rename_i ca
   simp only [kt,List.map_cons,List.mem_cons] at h
   rcases h with rfl|h
   ·exact absurd rfl ca
   ·exact KJ h
theorem RA{ls:List D}{l:List (Key×j2)}{n:Nat}{k:Key}(aI:(l.map (·.1)).Nodup){q:Key×j2}(bL:q∈l)(ai:q.1=k)(ak:yq q.2=true):dS (lookO (resB ls l n).1 k):=by
 obtain ⟨a,b⟩:=q
 simp only at ai ak
 subst ai
 exact KE ls l n _ aI ⟨_,bL,ak⟩
theorem acA{φ:Key→Key}{U:Key→Prop}{o o':cq}(h:ObLe φ U o' o)(ak:dS (some o)):dS (some o'):=by
 cases o with
 |dead=>exact absurd ak AM
 |box=>obtain ⟨xs,rfl,_⟩:=h;exact rA
 |row=>obtain ⟨es,rfl,_⟩:=h;exact rB
 |map=>exact absurd ak x7
theorem callH_ok(cA:iL G m)(h:Den m fr ρ σ a w)(bV:N≤a.tmps.size)(gf:a.defers=[]){o:Oper}(fG:∀d,o.dst=some d→d<N){s:gn}{F:List D→Option (List D)}(ba:eT P G s F){base:Nat}
  {x:Operand} {args:Array Operand} {df:Array TypeId} (aG:o.op= .call ⟨.value x,args,df⟩) {β:Type} {k:St→Option β} {b:β} (aj:callH G s F base σ o x args.toList k=some b) {Q:Exit→Act→World→Prop}:
  o.wp P a w (hE N m fr ρ σ (fun aP=>k aP=some b∧∀p,10000≤p→dS (aP.objs p)→dS (σ.objs p))) Q:=by
 have hF:∀d,o.dst=some d→d<a.tmps.size:=fun d ax=>Nat.lt_of_lt_of_le (fG d ax) bV
 have qk:∀v,N≤(a.put o.dst v).tmps.size:=by intro v;cases o.dst<;>simpa [Act.put] using bV
 have kp:∀v,(a.put o.dst v).defers=[]:=by intro v;cases o.dst<;>exact gf
 unfold callH at aj
 split at aj
 case h_2=>cases aj
 rename_i f pre post fO
 split at aj
 case isFalse=>cases aj
 rename_i a6
 subst a6
 simp only at aj
 generalize asI:thB σ s.ins (F5 (pre++args.toList.map (evA G σ.aC)++post) s.args)=bU at aj
 generalize RB:pre++args.toList.map (evA G σ.aC)++post=rD at aj
 split at aj
 case isFalse=>cases aj
 rename_i RC
 split at aj
 case h_2=>cases aj
 rename_i ls KF
 obtain ⟨ek,gV,ai⟩:=ez aj
 simp only [Ry,Bool.and_eq_true,List.all_eq_true,decide_eq_true_eq] at RC
 obtain ⟨⟨⟨⟨⟨bb,bp⟩,bs⟩,cc⟩,cy⟩,cz⟩:=RC
 obtain ⟨ah,aT,aS,aV,rfl⟩:=vf KF
 have gj:kY (ah++aT) 0 (ah++aT):=fun j d aH=>by rw [Nat.zero_add];exact aH
 have KK:kt (s.lX (ah++aT))=s.ins.map (·.1):=vg _ _ _
 have KL:kt (s.nu ek)=s.outs.map (·.1):=vg _ _ _
 have fH:∀k,(s.ins.map (·.1)).contains k=true→o6 (lookO (s.lX (ah++aT))) k:=by
  intro k ai
  exact F9 (by rw [KK];simpa using ai)
 obtain ⟨br,bo⟩:=KC fH aS gj.left
 have av:=gj.right
 rw [←bo] at av
 obtain ⟨bT,dd⟩:=KD fH aV av
 have bT:u3 (e4 bU) (o6 (lookO (s.lX (ah++aT)))) σ (s.lX (ah++aT)):=bT
 have acB:∀k j,k∈s.ins.map (·.1)→j∈s.ins.map (·.1)→e4 bU k=e4 bU j→k=j:=FO bb
 have RD:∀k j,k∈s.outs.map (·.1)→j∈s.outs.map (·.1)→o7 bU base k=o7 bU base j→k=j:=FO bp
 have jd:∀{o o':cq},ObLe (e4 bU) (o6 (lookO (s.lX (ah++aT)))) o' o→o.owns=true→o'.owns=true:=by
  intro o o' hle aG
  cases o with
  |dead=>cases aG
  |box=>obtain ⟨xs,rfl,_⟩:=hle;rfl
  |row=>obtain ⟨es,rfl,_⟩:=hle;rfl
  |map=>cases hle;rfl
 have KM:∀{k o},lookO (s.lX (ah++aT)) k=some o→k∈s.ins.map (·.1):=fun ai=>by rw [←KK];exact te ai
 have acC:∀{k o},lookO (s.nu ek) k=some o→k∈s.outs.map (·.1):=fun ai=>by rw [←KL];exact te ai
 let passed:Key→Prop:=fun p=>∃k,k∈s.ins.map (·.1)∧e4 bU k=p
 let Bd:Mem:=fun b=>match fr b with
  |some o=>some o
  |none=>open Classical in if∃k o,σ.objs k=some o∧o.owns=true∧¬passed k∧blockOf (ρ k)=some b then w.heap[b]? else none
 let rM:eF:=⟨Bd,fr.os,fr.out,fr.low⟩
 have Gf:∀b o,fr b=some o→rM b=some o:=by intro b o ak;simp only [rM,Bd,ak]
 have Gg:∀b k o,σ.objs k=some o→o.owns=true→¬passed k→blockOf (ρ k)=some b→rM b=w.heap[b]?:=by
  intro b k o ad ae ay aZ
  have bG:=(h.own k o b ad ae aZ).2
  simp only [rM,Bd,bG]
  rw [if_pos ⟨k,o,ad,ae,ay,aZ⟩]
 have RE:∀b,rM b≠none→fr b≠none∨∃k o,σ.objs k=some o∧o.owns=true∧¬passed k∧blockOf (ρ k)=some b:=by
  intro b ak
  cases a6:fr b with
  |some o=>exact .inl (by simp)
  |none=>
   refine .inr ?_
   refine Classical.byContradiction fun vk=>ak ?_
   simp only [rM,Bd,a6]
   rw [if_neg vk]
 have AY:Gd m rM (fun k=>ρ (e4 bU k)) (lookO (s.lX (ah++aT))) w:=by
  refine ⟨h.mem,⟨?_,⟨h.frame.quiet.os,h.frame.quiet.out,h.frame.quiet.low,h.frame.quiet.p9⟩⟩,?_,?_,fun _=> .any _,?_,?_,?_⟩
  ·intro b o ak
   cases a6:fr b with
   |some o'=>rw [Gf b o' a6] at ak;cases ak;exact h.frame.nY b _ a6
   |none=>
    simp only [rM,Bd,a6] at ak
    split at ak
    ·exact ak
    ·cases ak
  ·intro b ak
   refine Classical.byContradiction fun vk=>?_
   rcases RE b vk with ad|⟨k,o,ad,ae,ay,aZ⟩
   ·exact ad (h.apart b ak)
   ·exact ak (h.own k o b ad ae aZ).1
  ·rintro k ⟨o,ku⟩
   obtain ⟨o',ad,_⟩:=bT.ok k o ku
   exact h.one _ ⟨o',ad⟩
  ·intro k o ku
   obtain ⟨o',ad,ae⟩:=bT.ok k o ku
   have ay:=h.objs _ _ ad
   cases o with
   |dead=>trivial
   |box cR=>
    obtain ⟨xs,rfl,hle⟩:=ae
    obtain ⟨b,vs,T,aS,aV,bz,cB⟩:=ay
    have:=qm.cells hle ⟨bz,cB⟩
    exact ⟨b,vs,T,aS,aV,this.1,this.2⟩
   |row cw cQ=>
    obtain ⟨es,rfl,hle⟩:=ae
    exact hle.ok ay
   |map es=>
    cases ae
    exact ay
  ·intro k o b ku FP ak
   obtain ⟨o',ad,ae⟩:=bT.ok k o ku
   have ay:=h.own _ o' b ad (jd ae FP) ak
   refine ⟨ay.1,?_⟩
   refine Classical.byContradiction fun vk=>?_
   rcases RE b vk with aZ|⟨bg,lx,aZ,bG,ch,fi⟩
   ·exact aZ ay.2
   ·have ca:e4 bU k≠bg:=by rintro rfl;exact ch ⟨k,KM ku,rfl⟩
    exact h.sep _ _ _ _ b ca ad aZ (jd ae FP) bG ak fi
  ·intro k bg o o' b ca ku A0 Kf Kg ak
   obtain ⟨y,ad,ae⟩:=bT.ok k o ku
   obtain ⟨JB,dw,fW⟩:=bT.ok bg o' A0
   exact h.sep (e4 bU k) (e4 bU bg) y JB b (fun e=>ca (acB k bg (KM ku) (KM A0) e)) ad dw (jd ae Kf) (jd fW Kg) ak
 obtain ⟨vs,v1,v2,o8⟩:=acz (P:=P) cA h aG fO ba.fn
 rw [RB] at v1 v2
 obtain ⟨lp,kN⟩:=br.ok
 have ql:=ba.run _ _ gV m rM _ w vs cA AY (v1.trans lp.symm) (by
  intro i y v aN aM
  obtain ⟨RF,acD,hle⟩:=kN i y aN
  exact hle.ok (v2 i RF v acD aM))
 unfold Oper.wp
 rw [o8]
 refine ql.mono fun e w' he=>?_
 obtain ⟨v,cd,cr,rfl,vl,j3,yj,acE⟩:=he
 generalize jm:o7 bU base=φ at*
 let rN:=(s.nu ek).map fun p=>(φ p.1,rL φ p.2)
 let objs':=afterObjs σ.objs ((s.ins.map (·.1)).map (e4 bU)) rN
 let jH:cP:=fun p=>match(s.outs.map (·.1)).find? (fun k=>φ k==p) with
  |some k=>cr k
  |none=>ρ p
 have KN:∀k,k∈s.outs.map (·.1)→jH (φ k)=cr k:=by
  intro k ai
  simp only [jH]
  cases ys:(s.outs.map (·.1)).find? (fun bg=>φ bg==φ k) with
  |none=>exact absurd (List.find?_eq_none.1 ys k ai) (by simp)
  |some bg=>
   have ad:=List.find?_some ys
   simp only [beq_iff_eq] at ad
   rw [RD bg k (List.mem_of_find?_eq_some ys) ai ad]
 have KO:∀k,k∈s.outs.map (·.1)→(10000≤k∧k∈s.ins.map (·.1)∧φ k=e4 bU k∧dS (lookO (s.lX (ah++aT)) k))∨(σ.objs (φ k)=none∧φ k<10000):=by
  intro k ai
  obtain ⟨p,aY,rfl⟩:=List.mem_map.1 ai
  have ad:=cy p aY
  by_cases bJ:10000≤p.1
  ·rw [if_pos bJ] at ad
   obtain ⟨q,bL,ae⟩:=List.any_eq_true.1 ad
   simp only [Bool.and_eq_true,beq_iff_eq] at ae
   refine .inl ⟨bJ,List.mem_map.2 ⟨q,bL,ae.1⟩,?_,RA bs bL ae.1 ae.2⟩
   rw [←jm];simp only [o7,if_pos bJ]
  ·rw [if_neg bJ] at ad
   simp only [Bool.and_eq_true,decide_eq_true_eq,Option.isNone_iff_eq_none] at ad
   exact .inr ⟨ad.2,ad.1.2⟩
 have Gh:∀p,σ.used p→jH p=ρ p:=by
  rintro p ⟨op,aY⟩
  simp only [jH]
  cases ys:(s.outs.map (·.1)).find? (fun bg=>φ bg==p) with
  |none=>rfl
  |some k=>
   have ad:=List.find?_some ys
   simp only [beq_iff_eq] at ad
   rcases KO k (List.mem_of_find?_eq_some ys) with⟨ae,ay,aZ,bG⟩|⟨ae,_⟩
   ·simp only
    rw [acE k ae bG,←aZ,ad]
   ·rw [ad,aY] at ae;cases ae
 have Be:∀p op,lookO rN p=some op→∃k de,k∈s.outs.map (·.1)∧φ k=p∧op=rL φ de∧lookO (s.nu ek) k=some de:=by
  intro p op aY
  obtain ⟨k,de,ad,ae,ay,aZ⟩:=Rz aY
  rw [KL] at ad aZ
  exact ⟨k,de,ad,ae,ay,aZ cc⟩
 have RG:∀k,o6 (lookO (s.nu ek)) k→o6 objs' (φ k)∧jH (φ k)=cr k:=by
  rintro k ⟨de,ad⟩
  refine ⟨?_,KN k (acC ad)⟩
  obtain ⟨fP,ae⟩:=KJ (φ:=φ) (te ad)
  exact ⟨fP,by simp only [objs',afterObjs,rN,ae]⟩
 have RH:∀p,σ.used p→o6 objs' p∧jH p=ρ p:=by
  rintro p ⟨op,aY⟩
  refine ⟨?_,Gh p ⟨op,aY⟩⟩
  unfold o6
  simp only [objs',afterObjs]
  cases aq:lookO rN p with
  |some fP=>exact ⟨fP,rfl⟩
  |none=>
   simp only
   split
   ·exact ⟨_,rfl⟩
   ·exact ⟨op,aY⟩
 have Bf:∀p op,objs' p=some op→op.owns=true→(∃k de,φ k=p∧op=rL φ de∧lookO (s.nu ek) k=some de∧jH p=cr k∧de.owns=true)∨(σ.objs p=some op∧¬passed p∧jH p=ρ p):=by
  intro p op aY dj
  simp only [objs',afterObjs] at aY
  cases aq:lookO rN p with
  |some fP=>
   rw [aq] at aY
   cases aY
   obtain ⟨k,de,ad,ae,ay,aZ⟩:=Be p op aq
   refine .inl ⟨k,de,ae,ay,aZ,?_,by rw [ay,acw] at dj;exact dj⟩
   rw [←ae];exact KN k ad
  |none=>
   rw [aq] at aY
   simp only at aY
   split at aY
   ·cases aY;cases dj
   ·rename_i aI
    refine .inr ⟨aY,?_,Gh p ⟨op,aY⟩⟩
    rintro ⟨k,ai,rfl⟩
    exact aI (List.mem_map.2 ⟨k,ai,rfl⟩)
 have acF:Den cd fr jH ⟨σ.aC,objs'⟩ a w':=by
  refine ⟨j3.mem,⟨fun b gB ak=>j3.frame.nY b gB (Gf b gB ak),⟨j3.frame.quiet.os,j3.frame.quiet.out,j3.frame.quiet.low,j3.frame.quiet.p9⟩⟩,?_,?_,?_,?_,?_,?_⟩
  ·intro b ak
   have ad:=j3.apart b ak
   cases a6:fr b with
   |none=>rfl
   |some gB=>rw [Gf b gB a6] at ad;cases ad
  ·rintro p ⟨op,aY⟩
   simp only [objs',afterObjs] at aY
   cases aq:lookO rN p with
   |some fP=>
    obtain ⟨k,de,ad,ae,ay,aZ⟩:=Be p fP aq
    rw [←ae,KN k ad]
    exact j3.one k ⟨de,aZ⟩
   |none=>
    rw [aq] at aY
    simp only at aY
    have hu:σ.used p:=by
     split at aY
     ·rename_i hm
      obtain ⟨k,ai,rfl⟩:=List.mem_map.1 hm
      obtain ⟨ok,acG⟩:=F9 (lo:=s.lX (ah++aT)) (k:=k) (by rw [KK];exact ai)
      obtain ⟨o',ad,_⟩:=bT.ok k ok acG
      exact ⟨o',ad⟩
     ·exact ⟨op,aY⟩
    rw [Gh p hu]
    exact h.one p hu
  ·intro t
   exact (h.aC t).mono vl RH
  ·intro p op aY
   by_cases dj:op.owns=true
   ·rcases Bf p op aY dj with⟨k,de,ad,ae,ay,aZ,bG⟩|⟨ad,ae,ay⟩
    ·rw [ae,aZ]
     exact acv RG (j3.objs k de ay)
    ·rw [ay]
     refine (h.objs p op ad).mono vl RH ?_
     intro b qd oQ
     have aZ:=Gg b p op ad dj ae oQ
     have bG:∃gB,w.heap[b]?=some gB:=⟨_,Array.getElem?_eq_getElem ((h.objs p op ad).ru qd oQ)⟩
     obtain ⟨gB,bG⟩:=bG
     rw [bG]
     exact j3.frame.nY b gB (by rw [aZ,bG])
   ·cases op with
    |dead=>trivial
    |_=>exact absurd rfl dj
  ·intro p op b aY dj ak
   rcases Bf p op aY dj with⟨k,de,ad,ae,ay,aZ,bG⟩|⟨ad,ae,ay⟩
   ·rw [aZ] at ak
    have ch:=j3.own k de b ay bG ak
    refine ⟨ch.1,?_⟩
    cases a6:fr b with
    |none=>rfl
    |some gB=>rw [Gf b gB a6] at ch;cases ch.2
   ·rw [ay] at ak
    have aZ:=h.own p op b ad dj ak
    refine ⟨?_,aZ.2⟩
    refine Classical.byContradiction fun vk=>?_
    have bG:=j3.apart b vk
    rw [Gg b p op ad dj ae ak] at bG
    have:=(h.objs p op ad).ru dj ak
    rw [Array.getElem?_eq_getElem this] at bG
    cases bG
  ·intro p mH op Bg b ca aY Bh dj Bi ak
   rcases Bf p op aY dj with⟨k,de,ad,ae,ay,aZ,bG⟩|⟨ad,ae,ay⟩
   ·rw [aZ] at ak
    rcases Bf mH Bg Bh Bi with⟨bg,Bc,dw,fW,hi,kZ,rO⟩|⟨dw,fW,hi⟩
    ·rw [kZ]
     exact j3.sep k bg de Bc b (by rintro rfl;exact ca (ad.symm.trans dw)) ay hi bG rO ak
    ·rw [hi]
     intro fM
     have ch:=(j3.own k de b ay bG ak).2
     rw [Gg b mH Bg dw Bi fW fM] at ch
     have:=(h.objs mH Bg dw).ru Bi fM
     rw [Array.getElem?_eq_getElem this] at ch
     cases ch
   ·rw [ay] at ak
    rcases Bf mH Bg Bh Bi with⟨bg,Bc,dw,fW,hi,kZ,rO⟩|⟨dw,fW,hi⟩
    ·rw [kZ]
     intro fM
     have ch:=(j3.own bg Bc b hi rO fM).2
     rw [Gg b p op ad dj ae ak] at ch
     have:=(h.objs p op ad).ru dj ak
     rw [Array.getElem?_eq_getElem this] at ch
     cases ch
    ·rw [hi]
     exact h.sep p mH op Bg b ca ad dw dj Bi ak
 have o9:bI cd jH (o6 objs') (renA φ (s.Ge ek)) v:=Rx RG yj
 have FK:∀p,10000≤p→dS (objs' p)→dS (σ.objs p):=by
  intro p aY gJ
  simp only [objs',afterObjs] at gJ
  cases aq:lookO rN p with
  |some fP=>
   obtain ⟨k,de,a0,a9,bH,ei⟩:=Be p fP aq
   rcases KO k a0 with⟨ae,ay,aZ,bG⟩|⟨_,ae⟩
   ·obtain ⟨aK,ch⟩:=x8 bG
    obtain ⟨o',fi,h0⟩:=bT.ok k _ ch
    rw [ch] at bG
    rw [←a9,aZ,fi]
    exact acA h0 bG
   ·rw [a9] at ae;exact absurd ae (Nat.not_lt.2 aY)
  |none=>
   rw [aq] at gJ
   simp only at gJ
   split at gJ
   ·exact absurd gJ AM
   ·exact gJ
 refine ⟨_,cd,jH,⟨ai,by rw [St.sW];exact FK⟩,vl,acF.put o9 hF,qk v,kp v,?_⟩
 intro p aY ak
 rw [St.sW]
 obtain ⟨cs,gJ⟩:=x8 ak
 refine ⟨?_,Gh p ⟨_,gJ⟩⟩
 show dS (objs' p)
 simp only [objs',afterObjs]
 by_cases KP:p∈(s.ins.map (·.1)).map (e4 bU)
 ·obtain ⟨k,lY,rfl⟩:=List.mem_map.1 KP
  obtain ⟨q,bL,rfl⟩:=List.mem_map.1 lY
  have ad:=cz q bL
  by_cases aZ:10000≤q.1
  ·rw [if_pos aZ] at ad
   simp only [Bool.and_eq_true,List.any_eq_true,beq_iff_eq] at ad
   obtain ⟨_,mH,Bh,bG,ch⟩:=ad
   have pb:q.1∈s.outs.map (·.1):=List.mem_map.2 ⟨mH,Bh,bG⟩
   have acH:φ q.1=e4 bU q.1:=by rw [←jm];simp only [o7,if_pos aZ]
   obtain ⟨fP,fi⟩:=KJ (φ:=φ) (lo:=s.nu ek) (k:=q.1) (by rw [KL];exact pb)
   obtain ⟨k,de,a0,a9,bH,ei⟩:=Be _ fP fi
   have c6:k=q.1:=RD k q.1 a0 pb a9
   subst c6
   have hH:dS (lookO (s.nu ek) q.1):=RA (ls:=ek) (n:=(resW ek s.res 0).2) cc Bh bG ch
   rw [ei] at hH
   rw [←acH]
   have nv:lookO rN (φ q.1)=some fP:=fi
   rw [nv,bH]
   rcases hH with⟨asJ,hH⟩|⟨kz,asK,hH⟩
   ·cases hH;exact rA
   ·cases hH;exact rB
  ·rw [if_neg aZ] at ad
   simp only [Bool.and_eq_true,decide_eq_true_eq] at ad
   exact absurd ad.2 (Nat.not_lt.2 aY)
 ·cases aq:lookO rN p with
  |some fP=>
   exfalso
   obtain ⟨k,de,a0,a9,bH,ei⟩:=Be p fP aq
   rcases KO k a0 with⟨ae,ay,aZ,bG⟩|⟨ae,_⟩
   ·exact KP (List.mem_map.2 ⟨k,ay,by rw [←aZ,a9]⟩)
   ·rw [a9,gJ] at ae;cases ae
  |none=>
   simp only
   rw [if_neg KP]
   exact ak
end
end Go.Am
namespace Go.Am
set_option linter.unusedVariables false
structure yt where
 s:gn
 F:List D→Option (List D)
 base:Nat
 nt:List tl
abbrev tq:=Tmp→Option yt
def iR(P:Program)(G:cV)(H:tq):Prop:=∀t e,H t=some e→eT P G e.s e.F
def Gi:AV→List Key
 | .row k=>[k]
 | .map k=>[k]
 |_=>[]
def Gj:AV→List Key
 | .agg cs=>cs.flatMap Gi
 | .fn _ as iq=>as.flatMap Gi++iq.flatMap Gi
 |x=>Gi x
def Gk:AV→List Key
 | .ptr k _=>[k]
 |_=>[]
def RI:AV→List Key
 | .agg cs=>cs.flatMap Gk
 | .fn _ as iq=>as.flatMap Gk++iq.flatMap Gk
 |x=>Gk x
def RJ(objs:b8)(k:Key):List AV:=match objs k with
 |some (.box cs)=>cs
 |_=>[]
section
variable{β:Type}
def RK(G:cV)(C:kW)(σ:St)(o:Oper)(x:Operand)(args:List Operand)(k:St→Option β):Option β:=
 let rD:=(x::args).map (evA G σ.aC)
 let fp:=rD.flatMap RI
 let bb:=fp.flatMap (RJ σ.objs)
 let g7:=bb.flatMap RI
 let bp:=g7.flatMap (RJ σ.objs)
 frzX [rD.flatMap Gj++bb.flatMap Gj++bp.flatMap Gj,g7,fp] σ fun σ=>callX G C σ o x args k
def RL(o:Oper):Tmp:=match o.op,o.dst with
 | .store _ (.tmp a) _,_=>20000+a
 | .mapUpdate _ (.tmp a) _ _,_=>30000+a
 |_,some d=>d
 |_,none=>9999
def acI:Op→List Operand
 | .buildSlice _ _ h8=>h8.toList.map (·.2)
 | .build _ h8=>h8.toList.map (·.2)
 | .box _ x=>[x]
 | .store _ _ x=>[x]
 | .mapUpdate _ _ _ x=>[x]
 | .call ⟨.builtin .append,args,_⟩=>args.toList.drop 1
 |_=>[]
def ifcP:D→Option (TypeId×D)
 | .di t x=>some (t,x)
 |_=>none
def fj{dI:Type}(t c:Nat)(a b:Option dI):Option dI:=if t=c then a else b
def selM(qa:TypeId→Option FuncId)(t:TypeId)(k:FuncId→Option D):List TypeId→Option D
 |[]=>none
 |c::r=>fj t c (match qa c with
  |some f=>k f
  |none=>none) (selM qa t k r)
def invX(T:bW)(G:cV)(C:kW)(σ:St)(o:Oper)(x:Operand)(name:String)(args:List Operand)(k:St→Option β):Option β:=
 match evA G σ.aC x with
 | .d a=>match allSome ((args.map (evA G σ.aC)).map (toD σ.objs)) with
  |some aF=>R (ifcP a) fun p=>R (selM (fun t=>T.qa t name) p.1 (fun f=>C (o.dst.getD 9999) f (p.2::aF)) T.O4) fun r=>aw ((args.map (evA G σ.aC)).all isDA) (k (σ.put o.dst (.d r)))
  |none=>none
 |_=>none
def opF(T:bW)(G:cV)(C:kW)(H:tq)(jn:Tmp→Bool)(σ:St)(o:Oper)(k:St→Option β):Option β:=
 match o.op with
 | .call ⟨.value x,args,_⟩=>match H (o.dst.getD 9999) with
  |some e=>nilX e.nt σ fun σ=>callH G e.s e.F e.base σ o x args.toList k
  |none=>match jn (o.dst.getD 9999) with
   |true=>RK G C σ o x args.toList k
   |false=>callX G C σ o x args.toList k
 | .call ⟨.invoke x name,args,_⟩=>invX T G C σ o x name args.toList k
 | .slice _ _ _ _ _=>match jn (RL o) with
  |true=>stepX T G σ o fun aP=>takeX (o.dst.getD 9999) aP k
  |false=>stepX T G σ o k
 |_=>match jn (RL o) with
  |true=>frzX [((acI o.op).map (evA G σ.aC)).flatMap Gj] σ fun σ=>stepX T G σ o k
  |false=>stepX T G σ o k
def KQ(T:bW)(G:cV)(C:kW)(H:tq)(jn:Tmp→Bool):List Oper→St→(St→Option β)→Option β
 |[],σ,k=>k σ
 |o::r,σ,k=>opF T G C H jn σ o fun aP=>KQ T G C H jn r aP k
def KR(o:Oper):Bool:=still o||n7 o.op
def execGF(T:bW)(G:cV)(C:kW)(H:tq)(jn:Tmp→Bool)(all:Array Oper):List (Option (Nat×Bool)×List Oper)→St→(St→Option β)→Option β
 |[],σ,k=>k σ
 |(none,os)::r,σ,k=>KQ T G C H jn os σ fun aP=>execGF T G C H jn all r aP k
 |(some (j,want),os)::r,σ,k=>match(all[j]?).bind (·.dst),lastDst os with
  |some d,some bA=>match σ.aC d with
   | .d x=>if os.all (fun o=>KR o&&o.dst !=some d)=true then
     (if(kept all os (flat r)).all (·==bA)=true then
      R (gD x want (qs T G C os σ fun aP=>match aP.aC bA with
       | .d v=>some v
       |_=>none)) fun v=>execGF T G C H jn all r ((j1 (dstsOf os) σ).put (some bA) (.d v)) k
     else R (gD x want (qs T G C os σ fun aP=>match slD aP (kept all os (flat r)) with
       |some l=>some (.agg l)
       |none=>none)) fun v=>execGF T G C H jn all r (tj (kept all os (flat r)) v (j1 (dstsOf os) σ)) k) else none
   |_=>none
  |_,_=>none
def RM(T:bW)(G:cV)(C:kW)(H:tq)(jn:Tmp→Bool)(all:Array Oper)(σ:St)(k:St→Option β):Option β:=execGF T G C H jn all (groups all.toList) σ k
end
theorem yu{objs:b8}{k d:Key}{o:cq}(h:dS (some o)→dS (objs k)∨k=d):∀j,dS (b0 objs k (some o) j)→dS (objs j)∨j=d:=by
 intro j aH
 by_cases fg:j=k
 ·subst fg;rw [dZ] at aH;exact h aH
 ·rw [ct _ _ fg] at aH;exact .inl aH
theorem acJ{T:bW}{ev:Operand→AV}{objs:b8}{d:Key}{o:Op}{r:AV}{b5:List (Key×cq)}(h:effOp0 T ev objs d o=some (r,b5)):∀j,dS (updO objs b5 j)→dS (objs j)∨j=d:=by
 have new:∀{o:cq},∀j,dS (updO objs [(d,o)] j)→dS (objs j)∨j=d:=by
  intro o
  exact yu (fun _=> .inr rfl)
 have row:∀{k:Key} {n fm:Nat} {es g6:List (List D)},objs k=some (.row fm g6)→∀j,dS (updO objs [(k,.row n es)] j)→dS (objs j)∨j=d:=by
  intro k n fm es g6 ai
  exact yu (fun _=> .inl (by rw [ai];exact rB))
 have mp:∀{k:Key} {es:List (Value×D)},∀j,dS (updO objs [(k,.map es)] j)→dS (objs j)∨j=d:=by
  intro k es
  exact yu (fun h=>absurd h x7)
 cases o<;>simp only [effOp0,reduceCtorEq] at h
 case alloc=>split at h<;>cases h;exact new
 case box=>split at h<;>cases h;exact new
 case buildSlice=>
  split at h
  case h_2=>cases h
  split at h
  case h_2=>cases h
  split at h
  case h_2=>cases h
  split at h<;>cases h
  exact new
 case makeSlice=>
  split at h
  case h_2=>cases h
  split at h
  case h_2=>cases h
  split at h
  case h_2=>cases h
  split at h<;>cases h
  exact new
 case makeMap=>split at h<;>cases h;exact new
 case store=>
  split at h
  case h_2=>cases h
  split at h
  case isFalse=>cases h
  split at h
  ·split at h
   case h_2=>cases h
   split at h<;>cases h
   rename_i ai _
   exact yu fun _=> .inl (by rw [ai];exact rA)
  ·split at h
   case h_2=>cases h
   split at h
   case isFalse=>cases h
   split at h<;>cases h
   exact row (by assumption)
  ·cases h
 case mapUpdate=>
  split at h
  case h_2=>cases h
  split at h
  case h_2=>cases h
  split at h
  case isFalse=>cases h
  split at h
  case h_2=>cases h
  split at h
  case h_2=>cases h
  split at h<;>cases h
  exact mp
 case insert=>
  split at h
  case h_2=>cases h
  split at h
  case h_2=>cases h
  split at h
  case isFalse=>cases h
  split at h
  case h_2=>cases h
  split at h
  case h_2=>cases h
  split at h<;>cases h
  exact mp
 case call=>
  split at h
  ·split at h
   case h_2=>cases h
   split at h
   case h_2=>cases h
   split at h
   case h_2=>cases h
   split at h
   case h_2=>cases h
   split at h
   case isFalse=>cases h
   split at h
   ·split at h<;>cases h
    exact new
   ·split at h
    case h_2=>cases h
    split at h<;>cases h
    intro j aH
    rcases yu (d:=d) (fun _=> .inr rfl) j aH with ad|ad
    ·exact yu (fun h=>absurd h AM) j ad
    ·exact .inr ad
   ·cases h
  ·split at h
   case h_2=>cases h
   split at h
   case h_2=>cases h
   split at h
   case h_2=>cases h
   split at h
   case h_2=>cases h
   split at h
   case isFalse=>cases h
   split at h
   ·split at h
    case h_2=>cases h
    split at h<;>cases h
    exact row (by assumption)
   ·split at h
    case h_2=>cases h
    split at h<;>cases h
    exact row (by assumption)
   ·cases h
  ·cases h
theorem acK{T:bW}{ev:Operand→AV}{objs:b8}{d:Key}{o:Op}{r:AV}{b5:List (Key×cq)}(h:fN T ev objs d o=some (r,b5)):∀j,dS (updO objs b5 j)→dS (objs j)∨j=d:=by
 obtain ⟨⟨g8,qi⟩,ar,ak⟩:=sV h
 have ad:=acJ ar
 intro j aH
 by_cases ax:j=d
 ·exact .inr ax
 rcases uQ (T.born d) d g8 qi with e|⟨n,es,rfl,rfl,e⟩|⟨n2,n,es,rfl,rfl,e⟩|⟨off,cs,aF,rfl,rfl,ef,e⟩
 ·rw [ak] at e;cases e;exact ad j aH
 ·rw [ak] at e;cases e
  exact ad j (by simp only [updO,ct _ _ ax] at aH⊢;exact aH)
 ·rw [ak] at e;cases e
  exact ad j (by simp only [updO,ct _ _ ax] at aH⊢;exact aH)
 ·rw [ak] at e;cases e
  exact ad j (by simp only [updO,ct _ _ ax] at aH⊢;exact aH)
section
variable{P:Program}{T:bW}{G:cV}{N:Nat}{σ:St}{all:Array Oper}{ib:List Key}
theorem eO.put(h:eO ib σ){dst:Option Tmp}{r:AV}:eO ib (σ.put dst r):=by
 intro k ai ak
 rw [St.sW] at ak
 exact h k ai ak
theorem KS(bO:eO ib σ){o:Oper}(ax:∀d,o.dst=some d→d<10000){aP:St}(h:stepA T G σ o=some aP):eO ib aP:=by
 unfold stepA at h
 split at h
 ·cases h;exact bO.put
 ·split at h
  ·cases h;exact bO.put
  ·split at h
   case h_2=>cases h
   rename_i r b5 he
   cases h
   refine eO.put ?_
   intro k ai ak
   rcases acK he k ak with ad|ad
   ·exact bO k ai ad
   ·exfalso
    have:o.dst.getD 9999<10000:=by
     cases aG:o.dst with
     |none=>simp
     |some d=>exact ax d aG
    exact absurd this (Nat.not_lt.2 (ad▸ai))
theorem RN(bO:eO ib σ){o:Oper}(ax:∀d,o.dst=some d→d<10000){K:St→Prop}(h:vDo P T G o K σ):vDo P T G o (fun aP=>eO ib aP∧K aP) σ:=by
 unfold vDo at*
 split
 ·rename_i aP az
  simp only [az] at h
  exact ⟨KS bO ax az,h⟩
 ·rename_i az
  simp only [az] at h
  unfold vCall at*
  split at h
  case h_2=>cases h
  split at h
  case h_2=>cases h
  obtain ⟨lr,aF,dQ,ad,ae,ay,aZ,bG,ch⟩:=h
  exact ⟨lr,aF,dQ,ad,ae,ay,aZ,bG,fun r av=>⟨bO.put,ch r av⟩⟩
theorem KT:∀{l:List Oper} {σ:St} {K:St→Prop},eO ib σ→(∀o∈l,∀d,o.dst=some d→d<10000)→vOps P T G all l K σ→vOps P T G all l (fun aP=>eO ib aP∧K aP) σ
 |[],σ,K,bO,_,h=>⟨bO,h⟩
 |o::l,σ,K,bO,ax,h=>by
  unfold vOps at*
  rw [vOp_eq] at*
  cases hw:wantA all σ o with
  |none=>rw [hw] at h;exact h
  |some w=>
   rw [hw] at h
   cases w with
   |true=>exact n9 (fun aP ⟨ad,ae⟩=>KT ad (fun o aG=>ax o (by simp [aG])) ae) (RN bO (ax o (by simp)) h)
   |false=>exact KT bO.put (fun o aG=>ax o (by simp [aG])) h
end
section
variable{P:Program}{T:bW}{G:cV}{C:kW}{H:tq}{jn:Tmp→Bool}{N:Nat}{σ:St}{all:Array Oper}{ib:List Key}
def mQ(P:Program)(G:cV)(N:Nat)(all:Array Oper)(i:Nat)(l:List Oper)(K:St→Prop)(σ:St):Prop:=
 ∀m fr ρ a w (Q:Exit→Act→World→Prop),iL G m→Den m fr ρ σ a w→N≤a.tmps.size→a.defers=[]→(∀cu w',hE N m fr ρ σ K cu w'→Q .normal cu w')→wpOps P all Q (List.range' i l.length) a w
def ir(P:Program)(G:cV)(N:Nat)(o:Oper)(K:St→Prop)(σ:St):Prop:=
 ∀m fr ρ a w (Q:Exit→Act→World→Prop),iL G m→Den m fr ρ σ a w→N≤a.tmps.size→a.defers=[]→o.wp P a w (hE N m fr ρ σ K) Q
theorem acL{i:Nat}{K:St→Prop}(h:K σ):mQ P G N all i [] K σ:=fun m fr ρ a w Q cA cv bV ax gL=>gL a w ⟨σ,m,ρ,h,Mem.le_refl m,cv,bV,ax,jG.refl _ _⟩
theorem acM{i:Nat}{o:Oper}{l:List Oper}{K:St→Prop}(af:all[i]?=some o)(bD:o.guard=none)(h:ir P G N o (mQ P G N all (i+1) l K) σ):mQ P G N all i (o::l) K σ:=by
 intro m fr ρ a w Q cA cv bV ax gL
 rw [List.length_cons,List.range'_succ,wpOps_cons]
 refine wpOp_mono (K:=hE N m fr ρ σ (mQ P G N all (i+1) l K)) ?_ ?_
 ·rintro cu w' ⟨aP,cd,cr,br,bo,bT,dd,dE,eo⟩
  exact br cd fr cr cu w' Q (cA.mono bo) bT dd dE fun nm jf av=>gL nm jf (av.trans bo eo)
 ·unfold wpOp
  simp only [af]
  have:Region.wanted o (yielded all a.tmps)=true:=by simp [Region.wanted,bD]
  rw [if_pos this]
  exact .inl (h m fr ρ a w Q cA cv bV ax)
theorem ir.mono{o:Oper}{K K':St→Prop}(ai:∀σ,K σ→K' σ)(h:ir P G N o K σ):ir P G N o K' σ:=
 fun m fr ρ a w Q cA cv bV ax=>by
  have:=h m fr ρ a w Q cA cv bV ax
  unfold Oper.wp at*
  generalize (execOp a.eval o).run P w=r at*
  cases r with
  |ok n w'=>
   cases n<;>simp only [Oper.upon] at this⊢<;>first|exact this.mono ai|exact this|skip
   ·refine this.mono fun e jf he=>?_
    cases e with
    |returned v=>exact he.mono ai
    |panicked c=>exact he
    |outgrown=>exact he
   ·exact this.mono fun v jf he=>he.mono ai
  |halt x w'=>cases x<;>exact this
theorem ir.A5{o:Oper}{K:St→Prop}{τ:St}(he:fX σ τ)(h:ir P G N o K τ):ir P G N o K σ:=by
 intro m fr ρ a w Q cA cv bV ax
 obtain ⟨cd,cr,ad,ae,ay⟩:=he m fr ρ a w cv
 have:=h cd fr cr a w Q (cA.mono ad) ae bV ax
 unfold Oper.wp at*
 generalize (execOp a.eval o).run P w=r at*
 cases r with
 |ok n w'=>
  cases n<;>simp only [Oper.upon] at this⊢<;>first|exact this.trans ad ay|exact this|skip
  ·refine this.mono fun e jf he=>?_
   cases e with
   |returned v=>exact he.trans ad ay
   |panicked c=>exact he
   |outgrown=>exact he
  ·exact this.mono fun v jf he=>he.trans ad ay
 |halt x w'=>cases x<;>exact this
theorem KU(a4:dk P T){o:Oper}(fG:∀d,o.dst=some d→d<N){K:St→Prop}(h:vDo P T G o K σ):ir P G N o K σ:=
 fun m fr ρ a w Q cA cv bV ax=>J2 a4 cA cv bV ax fG h
theorem acN{ks:List Key}(h:eO ib σ):eO ib (freeze ks σ):=by
 intro k ai ak
 have fM:dS (if k∈ks then some .dead else(σ.objs k).map (Bb σ.objs ks)):=ak
 split at fM
 ·exact absurd fM AM
 ·cases aG:σ.objs k with
  |none=>rw [aG] at fM;exact absurd fM rC
  |some de=>
   rw [aG] at fM
   cases de with
   |box cs=>exact h k ai (by rw [aG];exact rA)
   |dead=>exact absurd fM AM
   |row=>exact h k ai (by rw [aG];exact rB)
   |map=>exact absurd fM x7
theorem Bj{β:Type}:∀{l:List (List Key)} {σ:St} {k:St→Option β} {b:β},eO ib σ→frzX l σ k=some b→∃τ,fX σ τ∧eO ib τ∧k τ=some b
 |[],σ,k,b,bO,h=>⟨σ,fX.refl σ,bO,h⟩
 |ks::r,σ,k,b,bO,h=>by
  unfold frzX at h
  split at h
  ·exact Bj bO h
  ·split at h
   case isFalse=>cases h
   rename_i dL
   obtain ⟨τ,ad,ae,ay⟩:=Bj (acN bO) h
   exact ⟨τ,(acq _ dL).trans ad,ae,ay⟩
theorem acO{β:Type}{t:Tmp}{σ:St}{k:St→Option β}{b:β}(bO:eO ib σ)(h:takeX t σ k=some b):∃τ,fX σ τ∧eO ib τ∧k τ=some b:=by
 unfold takeX at h
 split at h
 case h_2=>cases h
 rename_i key cw i len aE
 split at h
 case h_2=>cases h
 rename_i bg es ai ar
 split at h
 case isFalse=>cases h
 rename_i c6
 obtain ⟨c6,jl,lz⟩:=c6
 subst c6
 obtain ⟨ad,ae⟩:=kv h
 refine ⟨_,acr aE ai ar (of_decide_eq_true ad) jl,?_,ae⟩
 intro j aH aj
 simp only at aj
 by_cases ay:j=t
 ·subst ay;exact absurd lz (Nat.not_lt.2 aH)
 ·rw [ct _ _ ay] at aj
  by_cases aZ:j=key
  ·subst aZ;exact absurd jl (Nat.not_lt.2 aH)
  ·rw [ct _ _ aZ] at aj;exact bO j aH aj
theorem ir.out{o:Oper}{K:St→Prop}(h:ir P G N o (fun aP=>∃τ,fX aP τ∧K τ) σ):ir P G N o K σ:=
 fun m fr ρ a w Q cA cv bV ax=>by
  have key:∀{cu w'},hE N m fr ρ σ (fun aP=>∃τ,fX aP τ∧K τ) cu w'→hE N m fr ρ σ K cu w':=by
   rintro cu w' ⟨aP,cd,cr,⟨τ,a0,a9⟩,ae,ay,aZ,bG,ch⟩
   obtain ⟨uY,uZ,aS,aV,bz⟩:=a0 cd fr cr cu w' ay
   exact ⟨τ,uY,uZ,a9,Mem.le_trans ae aS,aV,aZ,bG,ch.trans bz⟩
  have:=h m fr ρ a w Q cA cv bV ax
  unfold Oper.wp at*
  generalize (execOp a.eval o).run P w=r at*
  cases r with
  |ok n w'=>
   cases n<;>simp only [Oper.upon] at this⊢<;>first|exact key this|exact this|skip
   ·refine this.mono fun e jf he=>?_
    cases e with
    |returned v=>exact key he
    |panicked c=>exact he
    |outgrown=>exact he
   ·exact this.mono fun v jf he=>key he
  |halt x w'=>cases x<;>exact this
theorem RO{β:Type}(a4:dk P T)(bX:fQ P G C){o:Oper}(fG:∀d,o.dst=some d→d<N){x:Operand}{args:Array Operand}{df:Array TypeId}(aG:o.op= .call ⟨.value x,args,df⟩){k:St→Option β}{b:β}(bO:eO ib σ)
  (h:callX G C σ o x args.toList k=some b):ir P G N o (fun aP=>k aP=some b∧eO ib aP) σ:=by
 refine KU a4 fG (n9 ?_ (F3 (T:=T) bX aG h))
 rintro aP ⟨ad,ae,_⟩
 refine ⟨ad,fun j aH ak=>bO j aH (by rw [←ae];exact ak)⟩
theorem RP{qa:TypeId→Option FuncId}{t:TypeId}{k:FuncId→Option D}{r:D}:∀{l:List TypeId},selM qa t k l=some r→∃f,qa t=some f∧k f=some r
 |[],h=>by cases h
 |c::l,h=>by
  unfold selM fj at h
  split at h
  ·rename_i aj
   subst aj
   split at h
   ·rename_i f a6;exact ⟨f,a6,h⟩
   ·cases h
  ·exact RP h
theorem acP{P:Program}{t:TypeId}{name:String}{f:FuncId}(hm:E1 P t name f)(n:Nat)(v:Value)(w:World):(method (n+1) t v name).run P w= .ok (f,v) w:=by
 obtain ⟨info,m,d,ad,ae,ay,aZ,bG,ch⟩:=hm
 have aS:(typeInfo t).run P w= .ok info w:=by simp [typeInfo,ad]
 unfold method
 simp only [Sem.run_bind,aS,Result.andThen_ok,ae,ay,follow,Sem.run_pure,aZ,receiverAt,run_underlying bG]
 cases d<;>first|(simp only [Place.get,Sem.run_pure,Result.andThen_ok];done)|(exact absurd rfl (ch _))
theorem acQ{P:Program}{va:Operand→Value}{x:Operand}{name:String}{args:Array Operand}{df:Array TypeId}{ty:TypeId}{t:TypeId}{v:Value}{f:FuncId}{w:World}(ag:va x= .iface t v)(hm:E1 P t name f)(a6:uS P f):
  (do let d←resolve va {callee:= .invoke x name,args:=args,argTypes:=df} ty;invoke d.target d.args:Sem Next).run P w= .ok (.enter f (#[v]++args.map va)) w:=by
 obtain ⟨fn,ad,ae,ay⟩:=a6
 have h7:0<Made.depth:=by decide
 have ax:∃n,P.types.size+Made.depth=n+1:=⟨P.types.size+Made.depth-1,by omega⟩
 obtain ⟨n,aI⟩:=ax
 have bB:(#[Value.iface t v]++args.map va)[0]?=some (Value.iface t v):=by rw [Array.getElem?_append_left (by simp)];rfl
 have aS:(#[Value.iface t v]++args.map va).extract 1 (#[Value.iface t v]++args.map va).size=args.map va:=by apply Array.ext';simp [List.extract,List.take_of_length_le]
 have aV:(program:Sem Program).run P w= .ok P w:=rfl
 have vl:=acP hm n v w
 have KV:(callFunc f (#[v]++args.map va)).run P w= .ok (.enter f (#[v]++args.map va)) w:=by
  simp only [callFunc,Sem.run_bind,aV,Result.andThen_ok,ad,ae,ay,Bool.false_eq_true,if_false,Sem.run_pure]
 simp only [Sem.run_bind,resolve,ag,Sem.run_pure,Result.andThen_ok,invoke,bB,aS,callMethod,aV,aI,vl,KV]
theorem acR{β:Type}(a4:dk P T)(bX:fQ P G C){o:Oper}(fG:∀d,o.dst=some d→d<N){x:Operand}{name:String}{args:Array Operand}{df:Array TypeId}(aG:o.op= .call ⟨.invoke x name,args,df⟩){k:St→Option β}{b:β}(bO:eO ib σ)
  (h:invX T G C σ o x name args.toList k=some b):ir P G N o (fun aP=>k aP=some b∧eO ib aP) σ:=by
 unfold invX at h
 split at h
 case h_2=>cases h
 rename_i d ax
 split at h
 case h_2=>cases h
 rename_i aF ef
 obtain ⟨p,aY,h⟩:=ez h
 obtain ⟨r,av,h⟩:=ez h
 obtain ⟨bG,ch⟩:=kv h
 obtain ⟨f,a6,KV⟩:=RP av
 have RQ:=bX _ _ _ _ KV
 have AU:=a4.Jn _ _ _ a6
 obtain ⟨t,y⟩:=p
 have acS:d= .di t y:=by
  unfold ifcP at aY
  split at aY
  ·cases aY;rfl
  ·cases aY
 subst acS
 intro m fr ρ a w Q cA KW bV gf
 have cW:=As (a:=a) cA KW.aC
 have hF:∀d,o.dst=some d→d<a.tmps.size:=fun d ax=>Nat.lt_of_lt_of_le (fG d ax) bV
 have qk:∀v,N≤(a.put o.dst v).tmps.size:=by intro v;cases o.dst<;>simpa [Act.put] using bV
 have kp:∀v,(a.put o.dst v).defers=[]:=by intro v;cases o.dst<;>exact gf
 have ag:=cW x
 rw [ax] at ag
 have ag:=ag.mD
 obtain ⟨v,JP,acT⟩:∃v,a.eval x= .iface t v∧cU m y v:=by
  generalize a.eval x=u at ag
  cases ag with|di _ _ v h=>exact ⟨v,rfl,h⟩
 have J0:(execOp a.eval o).run P w= .ok (.enter f (#[v]++args.map a.eval)) w:=by
  unfold execOp
  rw [aG]
  exact acQ JP AU RQ.fn
 unfold Oper.wp
 rw [J0]
 have J1:uR m (y::aF) (#[v]++args.map a.eval).toList:=by
  obtain ⟨a0,a9⟩:=oS ef
  refine ⟨by simp [a0],?_⟩
  intro i d iM ax aM
  simp only [Array.toList_append,List.cons_append,List.nil_append,Array.toList_map] at aM
  cases i with
  |zero=>
   simp at ax aM
   subst ax;subst aM
   exact acT
  |succ i=>
   simp only [List.getElem?_cons_succ] at ax aM
   have bH:=a9 i d ax
   simp only [List.getElem?_map,Option.map_eq_some_iff] at bH aM
   obtain ⟨z,⟨q,bL,rfl⟩,acU⟩:=bH
   obtain ⟨asL,RR,rfl⟩:=aM
   rw [bL] at RR;cases RR
   exact JY (List.all_eq_true.1 bG _ (List.mem_map.2 ⟨q,List.mem_of_getElem? bL,rfl⟩)) acU (cW q)
 have ql:=RQ.run m _ w _ cA KW.P1 J1
 simp only [Array.toArray_toList] at ql
 refine ql.mono fun e w' he=>?_
 obtain ⟨iM,cd,sN,rfl,br,bo,bT,dd⟩:=he
 subst br
 have acV:=KW.kept bo bT
 exact ⟨_,cd,ρ,⟨ch,fun j aH ak=>bO j aH (by simpa using ak)⟩,bo,acV.put (.d _ _ dd) hF,qk iM,kp iM,fun k ai ak=>⟨by simpa using ak,rfl⟩⟩
theorem acW{β:Type}(a4:dk P T)(bX:fQ P G C)(eP:iR P G H)(bV:N<10000){o:Oper}(fG:∀d,o.dst=some d→d<N){k:St→Option β}{b:β}(bO:eO ib σ)(h:opF T G C H jn σ o k=some b):
  ir P G N o (fun aP=>k aP=some b∧eO ib aP) σ:=by
 unfold opF at h
 split at h
 ·rename_i x args df aG
  split at h
  ·rename_i e he
   obtain ⟨τ,t1,KX,h⟩:=vh bO h
   refine ir.A5 t1 ?_
   refine ir.mono (K:=fun aP=>k aP=some b∧∀p,10000≤p→dS (aP.objs p)→dS (τ.objs p)) (fun aP ⟨ad,ae⟩=>⟨ad,fun p aY ak=>KX p aY (ae p aY ak)⟩) ?_
   intro m fr ρ a w Q cA cv lV ax
   exact callH_ok cA cv lV ax fG (eP _ _ he) aG h (Q:=Q)
  ·split at h
   ·unfold RK at h
    simp only at h
    obtain ⟨τ,ad,ae,ay⟩:=Bj bO h
    exact ir.A5 ad (RO a4 bX fG aG ae ay)
   ·exact RO a4 bX fG aG bO h
 ·rename_i x name args df aG
  exact acR a4 bX fG aG bO h
 ·have step:∀{τ:St} {k:St→Option β},eO ib τ→stepX T G τ o k=some b→ir P G N o (fun aP=>k aP=some b∧eO ib aP) τ:=by
   intro τ k bO h
   obtain ⟨aP,ad,ae⟩:=yo h
   refine KU a4 fG ?_
   unfold vDo
   rw [ad]
   exact ⟨ae,KS bO (fun d ax=>Nat.lt_trans (fG d ax) bV) ad⟩
  split at h
  ·refine ir.out (ir.mono ?_ (step bO h))
   rintro aP ⟨ad,ae⟩
   obtain ⟨τ,a0,a9,bH⟩:=acO ae ad
   exact ⟨τ,a0,bH,a9⟩
  ·exact step bO h
 ·have step:∀{τ:St},eO ib τ→stepX T G τ o k=some b→ir P G N o (fun aP=>k aP=some b∧eO ib aP) τ:=by
   intro τ bO h
   obtain ⟨aP,ad,ae⟩:=yo h
   refine KU a4 fG ?_
   unfold vDo
   rw [ad]
   exact ⟨ae,KS bO (fun d ax=>Nat.lt_trans (fG d ax) bV) ad⟩
  split at h
  ·obtain ⟨τ,ad,ae,ay⟩:=Bj bO h
   exact ir.A5 ad (step ae ay)
  ·exact step bO h
theorem RS{β:Type}(a4:dk P T)(bX:fQ P G C)(eP:iR P G H)(bV:N<10000){K:St→Prop}:∀{os:List Oper} {r:List Oper} {i:Nat} {σ:St} {k:St→Option β} {b:β},(∀o∈os,o.guard=none)→(∀o∈os,∀d,o.dst=some d→d<N)→(∀j,(os++r)[j]?=all[i+j]?)→eO ib σ→
  (∀aP,eO ib aP→k aP=some b→mQ P G N all (i+os.length) r K aP)→KQ T G C H jn os σ k=some b→mQ P G N all i (os++r) K σ
 |[],r,i,σ,k,b,_,_,_,bO,ai,h=>ai σ bO h
 |o::os,r,i,σ,k,b,bD,ax,ft,bO,ai,h=>by
  have af:all[i]?=some o:=by simpa using(ft 0).symm
  refine acM af (bD o (by simp)) (ir.mono ?_ (acW a4 bX eP bV (ax o (by simp)) bO h))
  rintro aP ⟨ad,ae⟩
  refine RS a4 bX eP bV (fun o aG=>bD o (by simp [aG])) (fun o aG=>ax o (by simp [aG])) (fun j=>by have:=ft (j+1);simpa [Nat.add_assoc,Nat.add_comm 1 j] using this) ae ?_ ad
  intro o0 ay aZ
  have:=ai o0 ay aZ
  rw [show i+(o::os).length=i+1+os.length by simp;omega] at this
  exact this
theorem bI.shrink{m pc:Mem}{ρ KY:cP}{U oc:Key→Prop}{x:AV}{v:Value}(h:bI m ρ U x v):∀{v0:Value},bI pc KY oc x v0→bI m ρ oc x v:=by
 induction h with
 |any v=>intro v0 _;exact .any _
 |d x v h=>intro v0 _;exact .d _ _ h
 |agg cs vs aq h ih=>
  intro v0 ar
  cases ar with|agg _ vm lA Bk=>
  refine .agg _ _ aq fun i c v aj aM=>?_
  have af:i<vm.size:=by rw [lA];exact (List.getElem?_eq_some_iff.1 aj).1
  exact ih i c v aj aM (Bk i c _ aj (Array.getElem?_eq_getElem af))
 |aO cs vs aq h ih=>
  intro v0 ar
  cases ar with|aO _ vm lA Bk=>
  refine .aO _ _ aq fun i c v aj aM=>?_
  have af:i<vm.size:=by rw [lA];exact (List.getElem?_eq_some_iff.1 aj).1
  exact ih i c v aj aM (Bk i c _ aj (Array.getElem?_eq_getElem af))
 |dP cs off b o vs T dH ak xs ad ae=>intro v0 _;exact .dP _ _ b o vs T dH ak xs ad ae
 |ptr key off b hu h=>intro v0 ar;cases ar with|ptr _ _ _ ko _=>exact .ptr _ _ b ko h
 |fc key k i off b o len cap hu h=>intro v0 ar;cases ar with|fc _ _ _ _ _ _ _ _ ko _=>exact .fc _ _ _ _ b o len cap ko h
 |row key hu=>intro v0 ar;cases ar with|row _ ko=>exact .row _ ko
 |sub key k i len b o L cap a hu h hle aB=>
  intro v0 ar
  cases ar with
  |sub _ _ _ _ _ _ _ _ _ ko=>exact .sub _ _ _ _ b o L cap a ko h hle aB
  |jE _ _ _ ko=>exact .sub _ _ _ _ b o L cap a ko h hle aB
 |jE key k i hu h=>
  intro v0 ar
  cases ar with
  |sub _ _ _ _ _ _ _ _ _ ko=>exact .jE _ _ _ ko h
  |jE _ _ _ ko=>exact .jE _ _ _ ko h
 |map key hu=>intro v0 ar;cases ar with|map _ ko=>exact .map _ ko
 |fn f first captured vs ws aq dV h bm ih uz=>
  intro v0 ar
  cases ar with|fn _ _ _ vm acX lA acY Bk acZ=>
  refine .fn _ _ _ _ _ aq dV (fun i c v aj aM=>?_) (fun i c v aj aM=>?_)
  ·have af:i<vm.size:=by rw [lA];exact (List.getElem?_eq_some_iff.1 aj).1
   exact ih i c v aj aM (Bk i c _ aj (Array.getElem?_eq_getElem af))
  ·have af:i<acX.size:=by rw [acY];exact (List.getElem?_eq_some_iff.1 aj).1
   exact uz i c v aj aM (acZ i c _ aj (Array.getElem?_eq_getElem af))
theorem il.shrink{m pc:Mem}{ρ KY:cP}{U oc:Key→Prop}{o:cq}{v v0:Value}{w w0:World}(h:il m ρ U v w o)(ar:il pc KY oc v0 w0 o):il m ρ oc v w o:=by
 cases o with
 |dead=>trivial
 |box cs=>
  obtain ⟨b,vs,T,aS,aV,bz,cB⟩:=h
  obtain ⟨Bl,vm,eH,f1,f2,f3,f4⟩:=ar
  refine ⟨b,vs,T,aS,aV,bz,fun i c x aj ag=>?_⟩
  have af:i<vm.size:=by rw [f3];exact (List.getElem?_eq_some_iff.1 aj).1
  exact (cB i c x aj ag).shrink (f4 i c _ aj (Array.getElem?_eq_getElem af))
 |row=>exact h
 |map=>exact h
theorem ac0{m cd:Mem}{fr:eF}{ρ cr:cP}{σ aP:St}{a cu:Act}{w w':World}{aF:List Tmp}(h:Den m fr ρ σ a w)(bm:Den cd fr cr aP cu w')(nj:b8.ext σ.objs aP.objs)(az:∀t,t∉aF→aP.aC t=σ.aC t){bA:Tmp}{v:D}(aM:aP.aC bA= .d v)(vc:bA∈aF):
  Den cd fr cr ((j1 aF σ).put (some bA) (.d v)) cu w':=by
 have g4:((j1 aF σ).put (some bA) (.d v)).objs=σ.objs:=by simp [j1]
 refine ⟨bm.mem,bm.frame,bm.apart,?_,?_,?_,?_,?_⟩
 ·rintro k ⟨o,aG⟩
  rw [g4] at aG
  exact bm.one k ⟨o,nj k o aG⟩
 ·intro t
  by_cases lz:t=bA
  ·subst lz
   simp only [St.put,dZ]
   have:=bm.aC t
   rw [aM] at this
   exact .d _ _ this.mD
  ·simp only [St.put,ct _ _ lz,j1]
   split
   ·exact .any _
   ·rename_i aI
    have ad:=bm.aC t
    rw [az t aI] at ad
    exact ad.shrink (h.aC t)
 ·intro k o ai
  rw [g4] at ai
  exact (bm.objs k o (nj k o ai)).shrink (h.objs k o ai)
 ·intro k o b ai aG ak
  rw [g4] at ai
  exact bm.own k o b (nj k o ai) aG ak
 ·intro k bg o o' b ca ai eR aG mN ak
  rw [g4] at ai eR
  exact bm.sep k bg o o' b ca (nj k o ai) (nj bg o' eR) aG mN ak
theorem ac1{m cd:Mem}{fr:eF}{ρ cr:cP}{σ aP:St}{a cu:Act}{w w':World}{aF:List Tmp}(h:Den m fr ρ σ a w)(bm:Den cd fr cr aP cu w')(nj:b8.ext σ.objs aP.objs)(az:∀t,t∉aF→aP.aC t=σ.aC t){ts:List Tmp}{v:D}(aM:∀t∈ts,aP.aC t= .d (aa v (ts.idxOf t))):
  Den cd fr cr (tj ts v (j1 aF σ)) cu w':=by
 have g4:(tj ts v (j1 aF σ)).objs=σ.objs:=rfl
 refine ⟨bm.mem,bm.frame,bm.apart,?_,?_,?_,?_,?_⟩
 ·rintro k ⟨o,aG⟩
  rw [g4] at aG
  exact bm.one k ⟨o,nj k o aG⟩
 ·intro t
  by_cases lz:t∈ts
  ·have ae:(tj ts v (j1 aF σ)).aC t= .d (aa v (ts.idxOf t)):=by simp only [tj,if_pos lz]
   rw [ae]
   have:=bm.aC t
   rw [aM t lz] at this
   exact .d _ _ this.mD
  ·have ae:(tj ts v (j1 aF σ)).aC t=(j1 aF σ).aC t:=by simp only [tj,if_neg lz]
   rw [ae]
   simp only [j1]
   split
   ·exact .any _
   ·rename_i aI
    have ad:=bm.aC t
    rw [az t aI] at ad
    exact ad.shrink (h.aC t)
 ·intro k o ai
  rw [g4] at ai
  exact (bm.objs k o (nj k o ai)).shrink (h.objs k o ai)
 ·intro k o b ai aG ak
  rw [g4] at ai
  exact bm.own k o b (nj k o ai) aG ak
 ·intro k bg o o' b ca ai eR aG mN ak
  rw [g4] at ai eR
  exact bm.sep k bg o o' b ca (nj k o ai) (nj bg o' eR) aG mN ak
theorem ac2{T:bW}{ev:Operand→AV}{objs:b8}{d:Key}{op:Op}{r:AV}{b5:List (Key×cq)}(az:n7 op=true)(he:fN T ev objs d op=some (r,b5)):objs d=none:=
 (yd (objs':=fun _=>none) az rfl he).2.1
theorem ac3{β:Type}(bX:fQ P G C){o:Oper}(az:KR o=true){k:St→Option β}{b:β}(h:opX T G C σ o k=some b):
  vDo P T G o (fun aP=>k aP=some b∧b8.ext σ.objs aP.objs∧∀t,o.dst≠some t→aP.aC t=σ.aC t) σ:=by
 rcases Bool.or_eq_true_iff.1 az with az|az
 ·refine n9 ?_ (Re bX az h)
  rintro aP ⟨ad,ae,ay⟩
  exact ⟨ad,by rw [ae];exact fun _ _ h=>h,ay⟩
 ·have Rf:∀x args df,o.op≠ .call ⟨.value x,args,df⟩:=by
   intro x args df he
   rw [he] at az
   cases az
  unfold opX at h
  split at h
  ·exact absurd (by assumption) (Rf _ _ _)
  ·obtain ⟨aP,ad,ae⟩:=yo h
   unfold vDo
   rw [ad]
   unfold stepA at ad
   rw [(oU (objs:=σ.objs) az).1,(oU az).2] at ad
   simp only at ad
   split at ad
   case h_2=>cases ad
   rename_i r b5 he
   cases ad
   have mL:σ.objs (o.dst.getD 9999)=none:=ac2 az he
   obtain ⟨_,_,gB,rfl⟩:=yd az mL he
   refine ⟨ae,?_,fun t aE=>o3 aE⟩
   rw [St.sW]
   exact b8.Fv mL gB
theorem KZ{β:Type}(bX:fQ P G C){j:Nat}{want:Bool}{d:Tmp}(ax:(all[j]?).bind (·.dst)=some d):∀{os:List Oper} {σ:St} {k:St→Option β} {b:β},(∀o∈os,o.guard=some (j,want))→(∀o∈os,KR o=true∧o.dst≠some d)→σ.aC d= .d (.val (.bool want))→
  qs T G C os σ k=some b→vOps P T G all os (fun aP=>k aP=some b∧b8.ext σ.objs aP.objs∧∀t,t∉dstsOf os→aP.aC t=σ.aC t) σ
 |[],σ,k,b,_,_,_,h=>⟨h,fun _ _ h=>h,fun _ _=>rfl⟩
 |o::os,σ,k,b,bD,az,hw,h=>by
  have ar:=az o (by simp)
  unfold vOps vOp
  rw [bD o (by simp)]
  simp only [ax,hw,if_true]
  refine n9 ?_ (ac3 bX ar.1 h)
  rintro aP ⟨ad,ae,ay⟩
  refine kX ?_ (KZ bX ax (fun o aG=>bD o (by simp [aG])) (fun o aG=>az o (by simp [aG])) (by rw [ay d ar.2];exact hw) ad)
  rintro o0 ⟨a0,a9,bH⟩
  refine ⟨a0,fun cw RT aG=>a9 cw RT (ae cw RT aG),?_⟩
  intro t aE
  have ns:t∉dstsOf os:=fun aj=>aE (by
   unfold dstsOf at aj⊢
   simp only [List.filterMap_cons]
   cases o.dst<;>simp [aj])
  have vb:o.dst≠some t:=fun aj=>aE (by unfold dstsOf;simp [aj])
  rw [bH t ns,ay t vb]
theorem K0(a4:dk P T){fr:eF}{Q:Exit→Act→World→Prop}:∀(os r:List Oper) (i:Nat) (m:Mem) (ρ:cP) (σ:St) (a:Act) (w:World) (K:St→Prop),(∀j,(os++r)[j]?=all[i+j]?)→
  iL G m→Den m fr ρ σ a w→N≤a.tmps.size→a.defers=[]→(∀o∈os,∀d,o.dst=some d→d<N)→vOps P T G all os K σ→
  (∀cu w',hE N m fr ρ σ K cu w'→wpOps P all Q (List.range' (i+os.length) r.length) cu w')→wpOps P all Q (List.range' i (os++r).length) a w
 |[],r,i,m,ρ,σ,a,w,K,_,cA,h,bV,gf,_,aM,K1=>K1 a w ⟨σ,m,ρ,aM,Mem.le_refl m,h,bV,gf,jG.refl _ _⟩
 |o::os,r,i,m,ρ,σ,a,w,K,aq,cA,h,bV,gf,fG,aM,K1=>by
  rw [List.cons_append,List.length_cons,List.range'_succ,wpOps_cons]
  have af:all[i]?=some o:=by simpa using(aq 0).symm
  refine wpOp_mono ?_ (vOp_ok a4 cA h bV gf af (fG o (by simp)) aM)
  rintro cu w' ⟨aP,cd,cr,br,bo,bT,dd,dE,eo⟩
  refine K0 a4 os r (i+1) cd cr aP cu w' K (fun j=>by have:=aq (j+1);simpa [Nat.add_assoc,Nat.add_comm 1 j] using this) (cA.mono bo) bT dd dE (fun o aG=>fG o (by simp [aG])) br ?_
  intro nm jf av
  have:=K1 nm jf (av.trans bo eo)
  rw [show i+(o::os).length=i+1+os.length by simp;omega] at this
  exact this
theorem RU(i:Nat):aa jh i=jh:=by unfold aa;cases i<;>rfl
theorem Bm{β:Type}(a4:dk P T)(bX:fQ P G C)(eP:iR P G H)(bV:N<10000){K:St→Prop}:∀{gs:List (Option (Nat×Bool)×List Oper)} {i:Nat} {σ:St} {k:St→Option β} {b:β},(∀g∈gs,∀o∈g.2,o.guard=g.1)→(∀o∈flat gs,∀d,o.dst=some d→d<N)→(∀j,(flat gs)[j]?=all[i+j]?)→eO ib σ→
  (∀aP,eO ib aP→k aP=some b→K aP)→execGF T G C H jn all gs σ k=some b→mQ P G N all i (flat gs) K σ
 |[],i,σ,k,b,_,_,_,bO,ai,h=>acL (ai σ bO h)
 |(none,os)::r,i,σ,k,b,bD,ax,ft,bO,ai,h=>by
  show mQ P G N all i (os++flat r) K σ
  refine RS a4 bX eP bV (fun o aG=>bD (none,os) (by simp) o aG) (fun o aG=>ax o (by simp [flat,aG])) ft bO ?_ h
  intro aP ad ae
  refine Bm a4 bX eP bV (fun g hm=>bD g (by simp [hm])) (fun o aG=>ax o (by simp only [flat,List.flatMap_cons,List.mem_append];exact .inr aG)) ?_ ad ai ae
  intro j
  have:=ft (os.length+j)
  rw [←Nat.add_assoc] at this
  rw [←this]
  show _=(os++flat r)[os.length+j]?
  rw [List.getElem?_append_right (by omega)]
  simp
 |(some (j,want),os)::r,i,σ,k,b,bD,ax,ft,bO,ai,h=>by
  show mQ P G N all i (os++flat r) K σ
  unfold execGF at h
  split at h
  case h_2=>cases h
  rename_i d bA yv vc
  split at h
  case h_2=>cases h
  rename_i x ag
  split at h
  case isFalse=>cases h
  rename_i ba
  simp only [List.all_eq_true,Bool.and_eq_true,bne_iff_ne,ne_eq] at ba
  split at h
  ·obtain ⟨v,ad,ae⟩:=ez h
   have kq:∀o∈os,o.guard=some (j,want):=fun o aG=>bD (some (j,want),os) (by simp) o aG
   have K2:mQ P G N all (i+os.length) (flat r) K ((j1 (dstsOf os) σ).put (some bA) (.d v)):=by
    refine Bm a4 bX eP bV (fun g hm=>bD g (by simp [hm])) (fun o aG=>ax o (by simp only [flat,List.flatMap_cons,List.mem_append];exact .inr aG)) ?_ (eO.put (σ:=j1 (dstsOf os) σ) bO) ai ae
    intro Bn
    have:=ft (os.length+Bn)
    rw [←Nat.add_assoc] at this
    rw [←this]
    show _=(os++flat r)[os.length+Bn]?
    rw [List.getElem?_append_right (by omega)]
    simp
   have aM:vOps P T G all os (fun aP=>b8.ext σ.objs aP.objs∧(∀t,t∉dstsOf os→aP.aC t=σ.aC t)∧aP.aC bA= .d v) σ:=by
    unfold gD at ad
    split at ad
    ·rename_i lS
     split at ad
     ·rename_i ak
      subst ak
      refine kX ?_ (KZ bX yv kq ba ag ad)
      rintro aP ⟨a0,a9,bH⟩
      refine ⟨a9,bH,?_⟩
      split at a0
      ·rename_i u hu;cases a0;exact hu
      ·cases a0
     ·rename_i ak
      cases ad
      refine kX ?_ (A6 yv kq (fun o aG=>(ba o aG).2) (.inl (by rw [ag];cases lS<;>cases want<;>simp_all)))
      rintro aP ⟨a0,a9,bH⟩
      exact ⟨by rw [a0];exact fun _ _ h=>h,a9,bH bA vc⟩
    ·rename_i vs
     cases ad
     refine kX ?_ (A6 yv kq (fun o aG=>(ba o aG).2) (.inr ⟨_,ag⟩))
     rintro aP ⟨a0,a9,bH⟩
     exact ⟨by rw [a0];exact fun _ _ h=>h,a9,bH bA vc⟩
    ·cases ad
   intro m fr ρ a w Q cA cv lV gf gL
   refine K0 a4 os (flat r) i m ρ σ a w _ ft cA cv lV gf (fun o aG=>ax o (by simp [flat,aG])) aM ?_
   rintro cu w' ⟨aP,cd,cr,⟨a0,a9,bH⟩,bo,bT,dd,dE,eo⟩
   have j3:=ac0 cv bT a0 a9 bH (Rk vc)
   refine K2 cd fr cr cu w' Q (cA.mono bo) j3 dd dE ?_
   intro nm jf av
   refine gL nm jf (av.trans bo ?_)
   intro cw c6 ak
   exact ⟨by rw [St.sW];exact ak,(eo cw c6 ak).2⟩
  ·obtain ⟨v,ad,ae⟩:=ez h
   have kq:∀o∈os,o.guard=some (j,want):=fun o aG=>bD (some (j,want),os) (by simp) o aG
   have K2:mQ P G N all (i+os.length) (flat r) K (tj (kept all os (flat r)) v (j1 (dstsOf os) σ)):=by
    refine Bm a4 bX eP bV (fun g hm=>bD g (by simp [hm])) (fun o aG=>ax o (by simp only [flat,List.flatMap_cons,List.mem_append];exact .inr aG)) ?_ bO ai ae
    intro Bn
    have:=ft (os.length+Bn)
    rw [←Nat.add_assoc] at this
    rw [←this]
    show _=(os++flat r)[os.length+Bn]?
    rw [List.getElem?_append_right (by omega)]
    simp
   have aM:vOps P T G all os (fun aP=>b8.ext σ.objs aP.objs∧(∀t,t∉dstsOf os→aP.aC t=σ.aC t)∧(∀t∈kept all os (flat r),aP.aC t= .d (aa v ((kept all os (flat r)).idxOf t)))) σ:=by
    unfold gD at ad
    split at ad
    ·rename_i lS
     split at ad
     ·rename_i ak
      subst ak
      refine kX ?_ (KZ bX yv kq ba ag ad)
      rintro aP ⟨a0,a9,bH⟩
      refine ⟨a9,bH,?_⟩
      split at a0
      ·rename_i l aq;cases a0;exact fun t aE=>aca aq aE
      ·cases a0
     ·rename_i ak
      cases ad
      refine kX ?_ (Kw yv kq (fun o aG=>(ba o aG).2) (.inl (by rw [ag];cases lS<;>cases want<;>simp_all)))
      rintro aP ⟨a0,a9,bH⟩
      exact ⟨by rw [a0];exact fun _ _ h=>h,a9,fun t aE=>by rw [bH t (List.mem_filter.1 aE).1,RU]⟩
    ·rename_i vs
     cases ad
     refine kX ?_ (Kw yv kq (fun o aG=>(ba o aG).2) (.inr ⟨_,ag⟩))
     rintro aP ⟨a0,a9,bH⟩
     exact ⟨by rw [a0];exact fun _ _ h=>h,a9,fun t aE=>by rw [bH t (List.mem_filter.1 aE).1,RU]⟩
    ·cases ad
   intro m fr ρ a w Q cA cv lV gf gL
   refine K0 a4 os (flat r) i m ρ σ a w _ ft cA cv lV gf (fun o aG=>ax o (by simp [flat,aG])) aM ?_
   rintro cu w' ⟨aP,cd,cr,⟨a0,a9,bH⟩,bo,bT,dd,dE,eo⟩
   have j3:=ac1 cv bT a0 a9 bH
   refine K2 cd fr cr cu w' Q (cA.mono bo) j3 dd dE ?_
   intro nm jf av
   refine gL nm jf (av.trans bo ?_)
   intro cw c6 ak
   exact ⟨ak,(eo cw c6 ak).2⟩
theorem ac4{β:Type}(a4:dk P T)(bX:fQ P G C)(eP:iR P G H)(bV:N<10000){k:St→Option β}{b:β}(ax:∀o∈all.toList,∀d,o.dst=some d→d<N)(bO:eO ib σ)(h:RM T G C H jn all σ k=some b):
  mQ P G N all 0 all.toList (fun aP=>eO ib aP∧k aP=some b) σ:=by
 have:=Bm (P:=P) (N:=N) (ib:=ib) (all:=all) (i:=0) a4 bX eP bV (K:=fun aP=>eO ib aP∧k aP=some b) (fun g hm o aG=>F2 _ _ _ hm o aG) (by rw [tk];exact ax) (by rw [tk];intro j;simp) bO (fun aP ad ae=>⟨ad,ae⟩) h
 rwa [tk] at this
theorem ac5{Q:Exit→St→Prop}{id:Nat}{ops:Array Oper}(h:mQ P G N ops 0 ops.toList (Q .normal) σ):fY P T G N (.region id ops false) σ Q:=by
 intro m fr ρ a w cA cv lV ax
 refine wp_region ?_
 rw [List.range_eq_range']
 have:=h m fr ρ a w (fun e cu w'=>hE N m fr ρ σ (Q e) cu w') cA cv lV ax (fun cu w' av=>av)
 simpa using this
end
end Go.Am
namespace Go.Am
set_option linter.unusedVariables false
def backW(ops:Array Oper):Bool:=
 (List.range ops.size).all fun j=>match ops[j]? with
  |some o=>o.after.all (fun e=>!Region.binds .any e||decide (e.on<j))&&(match o.guard with
   |none=>true
   |some (g,_)=>decide (g<j))
  |none=>true
def Bo(ops:Array Oper)(j:Nat):Bool:=
 (List.range j).all fun i=>(List.range (j+1)).any fun k=>decide (i<k)&&match ops[k]? with
  |some o=>o.after.any (fun e=>Region.binds .any e&&decide (e.on=i))
  |none=>false
def K3(ops:Array Oper)(p:Nat):Bool:=backW ops&&(List.range ops.size).all fun j=>decide (j<p)||Bo ops j
theorem vn{ops:Array Oper}(h:backW ops=true){j:Nat}{o:Oper}(aG:ops[j]?=some o):(∀e∈o.after,Region.binds .any e=true→e.on<j)∧∀g b,o.guard=some (g,b)→g<j:=by
 have aH:j<ops.size:=(Array.getElem?_eq_some_iff.1 aG).1
 have ad:=List.all_eq_true.1 h j (List.mem_range.2 aH)
 simp only [aG,Bool.and_eq_true] at ad
 refine ⟨fun e he ak=>?_,fun g b bD=>?_⟩
 ·have:=Array.all_eq_true'.1 ad.1 e he
  simpa [ak] using this
 ·have:=ad.2
  rw [bD] at this
  simpa using this
theorem ac6{ops:Array Oper}{j i:Nat}(h:Bo ops j=true)(af:i<j):∃k o,i<k∧k≤j∧ops[k]?=some o∧∃e∈o.after,Region.binds .any e=true∧e.on=i:=by
 have ad:=List.all_eq_true.1 h i (List.mem_range.2 af)
 obtain ⟨k,ai,ae⟩:=List.any_eq_true.1 ad
 simp only [Bool.and_eq_true,decide_eq_true_eq] at ae
 obtain ⟨ay,aZ⟩:=ae
 cases aG:ops[k]? with
 |none=>rw [aG] at aZ;cases aZ
 |some o=>
  rw [aG] at aZ
  obtain ⟨e,he,bG⟩:=Array.any_eq_true'.1 aZ
  simp only [Bool.and_eq_true,decide_eq_true_eq] at bG
  have:=List.mem_range.1 ai
  exact ⟨k,o,ay,by omega,aG,e,he,bG⟩
def yw(ops:Array Oper)(listed:Array Bool):Prop:=∀j o,ops[j]?=some o→listed.getD j true=true→∀e∈o.after,Region.binds .any e=true→listed.getD e.on false=true
section
variable{P:Program}{ops gp:Array Oper}{Q:Exit→Act→World→Prop}
theorem rP{i:Nat}(h:i<ops.size):(ops++gp)[i]?=ops[i]?:=Array.getElem?_append_left h
theorem yx{l r:Array Bool}{d:Bool}{i:Nat}(h:i<l.size):(l++r).getD i d=l.getD i d:=by
 have ae:i<l.size+r.size:=by omega
 simp only [Array.getD_eq_getD_getElem?,Array.getElem?_append_left h]
theorem ac7{l:Array Bool}{m:Nat}{d:Bool}{i:Nat}(h:l.size≤i)(ae:i<l.size+m):(l++Array.replicate m false).getD i d=false:=by
 simp only [Array.getD_eq_getD_getElem?,Array.getElem?_append_right h]
 rw [Array.getElem?_replicate,if_pos (by omega)];rfl
theorem K4{l:Array Bool}{i:Nat}(h:i<l.size)(d e:Bool):l.getD i d=l.getD i e:=by
 simp [Array.getD,h]
theorem K5{all:Array Oper}{L:Array Bool}{j:Nat}(bO:L.size=all.size)(aq:Bo all j=true)(hinv:yw all L)(av:j∈Region.ready .any all L):∀(d i:Nat),j-i≤d→i<j→L.getD i false=true
 |0,i,h,af=>by omega
 |d+1,i,h,af=>by
  obtain ⟨k,o',ad,ai,ae,e,ay,aZ,bG⟩:=ac6 aq af
  rw [←bG]
  by_cases ac8:k=j
  ·subst ac8
   obtain ⟨_,lx,br,bo⟩:=mem_ready.1 av
   rw [ae] at br;cases br
   exact bo e ay aZ
  ·have ch:=K5 bO aq hinv av d k (by omega) (by omega)
   have dL:=(Array.getElem?_eq_some_iff.1 ae).1
   rw [K4 (by omega) false true] at ch
   exact hinv k o' ae ch e ay aZ
theorem Bp{all:Array Oper}{L:Array Bool}{i:Nat}(h:i∈Region.ready .any all L):i<all.size:=(Array.getElem?_eq_some_iff.1 (mem_ready.1 h).2.choose_spec.1).1
theorem ac9{all:Array Oper}{L:Array Bool}(az:L.size=all.size)(h:yw all L){i:Nat}(af:i∈Region.ready .any all L):yw all (L.setIfInBounds i true):=by
 obtain ⟨ad,ej,ae,ay⟩:=mem_ready.1 af
 have bS:=Bp af
 have up:∀{j:Nat},L.getD j false=true→(L.setIfInBounds i true).getD j false=true:=by
  intro j aH
  by_cases cK:j<L.size
  ·by_cases kQ:i=j
   ·subst kQ;simp [Array.getD,cK]
   ·simp [Array.getD,cK] at aH⊢
    rw [Array.getElem_setIfInBounds_ne cK kQ];exact aH
  ·simp [Array.getD,cK] at aH
 intro j o' aG aH e he j4
 have cK:j<L.size:=by have:=(Array.getElem?_eq_some_iff.1 aG).1;omega
 by_cases kQ:i=j
 ·subst kQ
  rw [ae] at aG;cases aG
  exact up (ay e he j4)
 ·refine up (h j o' aG ?_ e he j4)
  simp [Array.getD,cK] at aH⊢
  rw [Array.getElem_setIfInBounds_ne cK kQ] at aH;exact aH
theorem RV{listed:Array Bool}(ak:backW (ops++gp)=true)(az:listed.size=ops.size){i:Nat}(af:i<ops.size):i∈Region.ready .any (ops++gp) (listed++Array.replicate gp.size false)↔i∈Region.ready .any ops listed:=by
 rw [mem_ready,mem_ready,yx (by omega),rP af]
 refine and_congr_right fun _=>?_
 constructor
 ·rintro ⟨o',aG,h⟩
  refine ⟨o',aG,fun e he j4=>?_⟩
  have:=(vn ak (by rw [rP af];exact aG)).1 e he j4
  rw [←h e he j4,yx (by omega)]
 ·rintro ⟨o',aG,h⟩
  refine ⟨o',aG,fun e he j4=>?_⟩
  have:=(vn ak (by rw [rP af];exact aG)).1 e he j4
  rw [yx (by omega),h e he j4]
theorem RW{all:Array Oper}{L:Array Bool}(az:L.size=all.size)(h:∀i,i<all.size→L.getD i false=true):Region.ready .any all L=[]:=by
 refine List.eq_nil_iff_forall_not_mem.2 fun i af=>?_
 have bJ:=Bp af
 have ad:=(mem_ready.1 af).1
 rw [K4 (by omega) true false,h i bJ] at ad;cases ad
theorem ada{all:Array Oper}{L:Array Bool}(ak:backW all=true)(az:L.size=all.size)(h:Region.ready .any all L=[]):∀(i:Nat),i<all.size→L.getD i false=true:=by
 intro i
 induction i using Nat.strongRecOn with
 |_ i ih=>
  intro af
  refine Classical.byContradiction fun aj=>?_
  have a6:L.getD i true=false:=by rw [K4 (by omega) true false];simpa using aj
  have:i∈Region.ready .any all L:=by
   refine mem_ready.2 ⟨a6,all[i],by simp [af],fun e he j4=>?_⟩
   have bJ:=(vn ak (j:=i) (o:=all[i]) (by simp [af])).1 e he j4
   exact ih e.on bJ (by omega)
  rw [h] at this;cases this
theorem adb(ak:backW (ops++gp)=true):backW ops=true:=by
 refine List.all_eq_true.2 fun j aH=>?_
 have aH:=List.mem_range.1 aH
 have ad:=List.all_eq_true.1 ak j (List.mem_range.2 (by simp;omega))
 rwa [rP aH] at ad
theorem ade{tm:Array Value}{g:Nat}(h:g<ops.size):yielded (ops++gp) tm g=yielded ops tm g:=by
 unfold yielded;rw [rP h]
theorem adf(ak:backW (ops++gp)=true){i:Nat}(af:i<ops.size){o':Oper}(aG:ops[i]?=some o')(tm:Array Value):Region.wanted o' (yielded (ops++gp) tm)=Region.wanted o' (yielded ops tm):=by
 unfold Region.wanted
 cases bD:o'.guard with
 |none=>rfl
 |some p=>
  obtain ⟨g,b⟩:=p
  have:=(vn ak (by rw [rP af];exact aG)).2 g b bD
  simp only [ade (Nat.lt_trans this af)]
theorem adg(ak:backW (ops++gp)=true){i:Nat}(af:i<ops.size){K:Act→World→Prop}{a:Act}{w:World}:wpOp P (ops++gp) Q i K a w=wpOp P ops Q i K a w:=by
 unfold wpOp
 rw [rP af]
 have:ops[i]?=some ops[i]:=by simp [af]
 rw [this]
 simp only [adf ak af this]
theorem adh{all:Array Oper}:∀(fuel:Nat) (L:Array Bool) (a:Act) (w:World),Region.ready .any all L=[]→Q .normal a w→wpAny P .any all Q fuel L a w
 |0,L,a,w,h,gL=>⟨h,gL⟩
 |fuel+1,L,a,w,h,gL=>⟨fun _=>gL,fun i af=>by rw [h] at af;cases af⟩
def kA(n j:Nat):Array Bool:=Array.ofFn (n:=n) fun i=>decide (i.val<j)
theorem RX{n j:Nat}:(kA n j).size=n:=by simp [kA]
theorem vo{n j i:Nat}{d:Bool}(h:i<n):(kA n j).getD i d=decide (i<j):=by
 simp [kA,Array.getD,h]
theorem adi{n j:Nat}:(kA n j).setIfInBounds j true=kA n (j+1):=by
 apply Array.ext
 ·simp [kA]
 ·intro i ad ae
  simp [kA] at ad
  by_cases h:i=j
  ·subst h;simp [kA]
  ·rw [Array.getElem_setIfInBounds_ne (by simpa [kA] using ad) (by omega)]
   simp [kA];omega
theorem RY{all:Array Oper}(ak:backW all=true){p:Nat}(aq:∀j,p≤j→j<all.size→Bo all j=true):∀(d j:Nat) (a:Act) (w:World),p≤j→j+d=all.size→wpOps P all Q (List.range' j d) a w→wpAny P .any all Q d (kA all.size j) a w
 |0,j,a,w,aY,ax,h=>by
  refine ⟨RW RX fun i af=>by rw [vo af];simp;omega,by simpa [wpOps] using h⟩
 |d+1,j,a,w,aY,ax,h=>by
  have aH:j<all.size:=by omega
  have hinv:yw all (kA all.size j):=by
   intro i o aG af e he j4
   have bS:=(Array.getElem?_eq_some_iff.1 aG).1
   rw [vo bS] at af
   have:=(vn ak aG).1 e he j4
   rw [vo (by omega)]
   simp at af⊢;omega
  have RZ:j∈Region.ready .any all (kA all.size j):=by
   refine mem_ready.2 ⟨by rw [vo aH];simp,all[j],by simp [aH],fun e he j4=>?_⟩
   have:=(vn ak (j:=j) (o:=all[j]) (by simp [aH])).1 e he j4
   rw [vo (by omega)];simpa using this
  refine ⟨fun ar=>(by rw [ar] at RZ;cases RZ),fun i af=>?_⟩
  have eS:=Bp af
  have ad:=(mem_ready.1 af).1
  rw [vo eS] at ad
  have kQ:i=j:=by
   have dw:j≤i:=by simpa using ad
   by_cases aj:i=j
   ·exact aj
   ·have:=K5 RX (aq i (by omega) eS) hinv af i j (by omega) (by omega)
    rw [vo aH] at this;simp at this
  subst kQ
  rw [List.range'_succ,wpOps_cons] at h
  refine wpOp_mono (fun cu w' bL=>?_) h
  rw [adi]
  exact RY ak aq d (i+1) cu w' (by omega) (by omega) bL
theorem adj{listed:Array Bool}{m:Nat}(h:∀i,i<listed.size→listed.getD i false=true):listed++Array.replicate m false=kA (listed.size+m) listed.size:=by
 apply Array.ext
 ·simp [kA]
 ·intro i ad ae
  simp at ad
  by_cases af:i<listed.size
  ·have:=h i af
   simp [Array.getD,af] at this
   rw [Array.getElem_append_left af,this];simp [kA,af]
  ·rw [Array.getElem_append_right (by omega)];simp [kA];omega
theorem adk{listed:Array Bool}{m i:Nat}(af:i<listed.size):(listed++Array.replicate m false).setIfInBounds i true=listed.setIfInBounds i true++Array.replicate m false:=by
 apply Array.ext
 ·simp
 ·intro j ad ae
  simp at ad
  by_cases aH:j<listed.size
  ·rw [Array.getElem_append_left (by simpa using aH)]
   by_cases kQ:i=j
   ·subst kQ;simp
   ·rw [Array.getElem_setIfInBounds_ne (by simp;omega) kQ,Array.getElem_append_left aH,Array.getElem_setIfInBounds_ne aH kQ]
  ·rw [Array.getElem_append_right (by simp;omega),Array.getElem_setIfInBounds_ne (by simp;omega) (by omega),Array.getElem_append_right (by omega)]
   simp
end
theorem R0{P:Program}{Q:Exit→Act→World→Prop}{all:Array Oper}:∀{n:Nat} {L:Array Bool} {a:Act} {w:World},wpAny P .any all Q n L a w→∀k,n≤k→wpAny P .any all Q k L a w
 |0,L,a,w,h,k,ai=>adh k L a w h.1 h.2
 |n+1,L,a,w,h,0,ai=>by omega
 |n+1,L,a,w,h,k+1,ai=>⟨h.1,fun i af=>wpOp_mono (fun cu w' bm=>R0 bm k (by omega)) (h.2 i af)⟩
section
variable{P:Program}{T:bW}{G:cV}{ops gp:Array Oper}{Q:Exit→Act→World→Prop}
theorem adl{m:Mem}{fr:eF}{N:Nat}(a4:dk P T){K:St→Prop}(ak:backW (ops++gp)=true)(aq:∀j,ops.size≤j→j<(ops++gp).size→Bo (ops++gp) j=true)(fG:∀o∈ops,∀d,o.dst=some d→d<N):∀(fuel:Nat) (listed:Array Bool) (m:Mem) (ρ:cP) (σ:St) (a:Act) (w:World),
  listed.size=ops.size→yw ops listed→iL G m→Den m fr ρ σ a w→N≤a.tmps.size→a.defers=[]→hO P T G ops K fuel listed σ→(∀cu w',hE N m fr ρ σ K cu w'→wpOps P (ops++gp) Q (List.range' ops.size gp.size) cu w')→wpAny P .any (ops++gp) Q (fuel+gp.size) (listed++Array.replicate gp.size false) a w:=by
 have fin:∀{fuel:Nat} {listed:Array Bool} {m:Mem} {ρ:cP} {σ:St} {a:Act} {w:World},listed.size=ops.size→Region.ready .any ops listed=[]→iL G m→Den m fr ρ σ a w→N≤a.tmps.size→a.defers=[]→K σ→(∀cu w',hE N m fr ρ σ K cu w'→wpOps P (ops++gp) Q (List.range' ops.size gp.size) cu w')→wpAny P .any (ops++gp) Q gp.size (listed++Array.replicate gp.size false) a w:=by
  intro fuel listed m ρ σ a w az av cA h bV gf ai gL
  have adm:=ada (adb ak) az av
  rw [adj (fun i af=>adm i (by omega)),az,←Array.size_append]
  exact RY ak aq _ _ _ _ (Nat.le_refl _) (by simp) (gL a w ⟨σ,m,ρ,ai,Mem.le_refl m,h,bV,gf,jG.refl _ _⟩)
 intro fuel
 induction fuel with
 |zero=>
  intro listed m ρ σ a w az hinv cA h bV gf aM gL
  rw [Nat.zero_add]
  exact fin (fuel:=0) az aM.1 cA h bV gf aM.2 gL
 |succ fuel ih=>
  intro listed m ρ σ a w az hinv cA h bV gf aM gL
  by_cases av:Region.ready .any ops listed=[]
  ·have:=fin (fuel:=0) az av cA h bV gf (aM.1 av) gL
   exact R0 this _ (by omega)
  ·rw [Nat.add_right_comm]
   have adn:yw (ops++gp) (listed++Array.replicate gp.size false):=by
    intro j o' aG aH e he j4
    have cK:=(Array.getElem?_eq_some_iff.1 aG).1
    simp at cK
    by_cases R1:j<ops.size
    ·rw [yx (by omega)] at aH
     rw [rP R1] at aG
     have:=(vn ak (by rw [rP R1];exact aG)).1 e he j4
     rw [yx (by omega)]
     exact hinv j o' aG aH e he j4
    ·rw [ac7 (by omega) (by omega)] at aH;cases aH
   refine ⟨fun ar=>absurd ?_ av,fun i af=>?_⟩
   ·refine List.eq_nil_iff_forall_not_mem.2 fun i af=>?_
    have:=(RV ak az (Bp af)).2 af
    rw [ar] at this;cases this
   ·by_cases qg:i<ops.size
    ·have nf:=(RV ak az qg).1 af
     have ad:=aM.2 i nf
     obtain ⟨_,ej,aG,_⟩:=mem_ready.1 nf
     unfold amOp at ad
     simp only [aG] at ad
     rw [adg ak qg]
     refine wpOp_mono ?_ (vOp_ok a4 cA h bV gf aG (fG ej (Array.mem_of_getElem? aG)) ad)
     rintro cu w' ⟨aP,cd,cr,br,bo,bT,dd,dE,eo⟩
     rw [adk (by omega)]
     refine ih _ cd cr aP cu w' (by simp [az]) (ac9 az hinv nf) (cA.mono bo) bT dd dE br ?_
     rintro nm jf ⟨o0,uY,uZ,eG,dR,gH,o1,u0,u1⟩
     exact gL nm jf ⟨o0,uY,uZ,eG,Mem.le_trans bo dR,gH,o1,u0,eo.trans u1⟩
    ·refine absurd (RW az fun j aH=>?_) av
     have:=K5 (by simp [az]) (aq i (by omega) (Bp af)) adn af i j (by omega) (by omega)
     rwa [yx (by omega)] at this
end
theorem ado{P:Program}{T:bW}{G:cV}{N:Nat}{σ:St}{Q:Exit→St→Prop}(a4:dk P T)(hm:P.follows .mixedOrders=true){id:Nat}{ops gp:Array Oper}(bV:dstOk N ops=true)(ak:K3 (ops++gp) ops.size=true)
  {K:St→Prop} (gg:∀aP,K aP→mQ P G N (ops++gp) ops.size gp.toList (Q .normal) aP) (h:hO P T G ops K ops.size (Array.replicate ops.size false) σ):fY P T G N (.region id (ops++gp) true) σ Q:=by
 intro m fr ρ a w cA cv lV ax
 refine wp_region_any hm ?_
 simp only [K3,Bool.and_eq_true] at ak
 have e:Array.replicate (ops++gp).size false=Array.replicate ops.size false++Array.replicate gp.size false:=by
  rw [Array.size_append,Array.replicate_append_replicate]
 rw [e,Array.size_append]
 refine adl (m:=m) (fr:=fr) (N:=N) (T:=T) a4 ak.1 (fun j ad ae=>?_) (s9 bV) ops.size _ m ρ σ a _ (by simp) ?_ cA (cv.drew _) lV ax h ?_
 ·have:=List.all_eq_true.1 ak.2 j (List.mem_range.2 ae)
  simp only [Bool.or_eq_true,decide_eq_true_eq] at this
  exact this.resolve_left (by omega)
 ·intro j o' aG aH
  have:=(Array.getElem?_eq_some_iff.1 aG).1
  simp [Array.getD,this] at aH
 ·rintro cu w' ⟨aP,cd,cr,br,bo,bT,dd,dE,eo⟩
  have:=gg aP br cd fr cr cu w' (fun e cu w'=>hE N m fr ρ σ (Q e) cu w') (cA.mono bo) bT dd dE (fun nm jf av=>av.trans bo eo)
  simpa using this
end Go.Am
namespace Go.Am
set_option linter.unusedVariables false
section
variable{β:Type}
def bk(f:List D→Option (List D⊕β)):Nat→List D→Option β
 |0,_=>none
 |n+1,ls=>R (f ls) fun x=>match x with
  | .inl ek=>bk f n ek
  | .inr b=>some b
end
def firstR:Code→Nat
 | .region id _ _=>id
 | .seq x _=>firstR x
 | .cond _ x _=>firstR x
 | .block _ c=>firstR c
 | .loop c=>firstR c
 | .scope c=>firstR c
 |_=>0
def adp(c:Tmp)(x y:Code):Nat:=(c*1000+firstR y)*1000+firstR x
structure k0 where
 T:bW
 G:cV
 C:kW
 n:Nat
 ib:List Key
 loops:Nat→Option o5
 adq:Nat→Option o5
 blocks:Nat→Option o5
 nw:Nat→Option (List Nat)
 H:tq
 jn:Tmp→Bool
 pre:Nat→List (List Key)
def aU{β:Type}(b:Option β):Option (List D⊕β):=R b fun b=>some (.inr b)
def a7{β:Type}(f:List D→Option β):List D⊕β→Option β
 | .inl ls=>f ls
 | .inr b=>some b
def joinX{β:Type}(ib:List Key)(eZ:o5)(run:(Exit→St→Option (List D⊕β))→Option (List D⊕β))(k:Exit→St→Option β):Option β:=
 R (run fun e aP=>match e with
  | .normal=>absX ib eZ aP fun ls=>some (.inl ls)
  |e=>aU (k e aP)) (a7 fun ls=>k .normal (restore eZ ls))
def Bq{β:Type}(id:Nat)(k:Exit→St→Option β)(e:Exit)(σ:St):Option β:=match e with
 | .exit rI=>if rI=id then k .normal σ else k (.exit rI) σ
 |e=>k e σ
def adr{β:Type}(k:Exit→St→Option β)(e:Exit)(σ:St):Option β:=match e with
 | .goto _=>none
 |e=>k e σ
def exec(X:k0):Code→{β:Type}→St→(Exit→St→Option β)→Option β
 | .skip,_,σ,k=>k .normal σ
 | .label _,_,σ,k=>k .normal σ
 | .scope c,_,σ,k=>exec X c σ (adr k)
 | .exit id,_,σ,k=>k (.exit id) σ
 | .ret,_,σ,k=>k .ret σ
 | .region id ops d,_,σ,k=>frzX (X.pre id) σ fun σ=>match X.nw id with
  |none=>match d with
   |true=>Rc X.T X.G X.C ops σ fun aP=>k .normal aP
   |false=>RM X.T X.G X.C X.H X.jn ops σ fun aP=>k .normal aP
  |some ord=>if d=true∧ord.length=ops.size then ordX X.T X.G X.C ops ord (Array.replicate ops.size false) σ fun aP=>k .normal aP
   else if d=true∧ord.length≤ops.size∧K3 ops ord.length=true then ordX X.T X.G X.C (ops.extract 0 ord.length) ord (Array.replicate ord.length false) σ fun aP=>execGF X.T X.G X.C X.H X.jn ops (groups (ops.extract ord.length ops.size).toList) aP fun o0=>k .normal o0
   else none
 | .seq x y,_,σ,k=>exec X x σ fun e aP=>match e with
  | .normal=>exec X y aP k
  |e=>k e aP
 | .cond (.tmp c) x y,_,σ,k=>match σ.aC c with
  | .d a=>match X.adq (adp c x y) with
   |none=>oif a (exec X x σ k) (exec X y σ k)
   |some eZ=>joinX X.ib eZ (fun bg=>oif a (exec X x σ bg) (exec X y σ bg)) k
  |_=>none
 | .block id c,_,σ,k=>match X.blocks id with
  |none=>exec X c σ (Bq id k)
  |some eZ=>joinX X.ib eZ (fun bg=>exec X c σ (Bq id bg)) k
 | .loop c,_,σ,k=>match X.loops (firstR c) with
  |none=>none
  |some eZ=>absX X.ib eZ σ fun K6=>bk (fun ls=>exec X c (restore eZ ls) fun e aP=>match e with
   | .normal=>absX X.ib eZ aP fun ek=>some (.inl ek)
   |e=>aU (k e aP)) X.n K6
 | .cond (.const v) x y,_,σ,k=>match v with
  | .bool true=>exec X x σ k
  | .bool false=>exec X y σ k
  |_=>none
 |_,_,_,_=>none
section
variable{P:Program}{T:bW}{G:cV}{N:Nat}{σ:St}{all:Array Oper}{ib:List Key}
theorem R2{K K':St→Prop}(ai:∀σ,K σ→K' σ):∀(fuel:Nat) {listed:Array Bool} {σ:St},hO P T G all K fuel listed σ→hO P T G all K' fuel listed σ
 |0,_,_,h=>⟨h.1,ai _ h.2⟩
 |fuel+1,_,_,h=>⟨fun ar=>ai _ (h.1 ar),fun i af=>s6 (fun _ bm=>R2 ai fuel bm) (h.2 i af)⟩
theorem Br{K:St→Prop}(ax:∀o∈all,∀d,o.dst=some d→d<10000):∀(fuel:Nat) {listed:Array Bool} {σ:St},eO ib σ→hO P T G all K fuel listed σ→hO P T G all (fun aP=>eO ib aP∧K aP) fuel listed σ
 |0,_,_,bO,h=>⟨h.1,bO,h.2⟩
 |fuel+1,_,σ,bO,h=>by
  refine ⟨fun ar=>⟨bO,h.1 ar⟩,fun i af=>?_⟩
  have ad:=h.2 i af
  unfold amOp at ad⊢
  split at ad
  ·exact Br ax fuel bO ad
  ·rename_i o aG
   rw [vOp_eq] at ad⊢
   have ads:=ax o (Array.mem_of_getElem? aG)
   cases hw:wantA all σ o with
   |none=>rw [hw] at ad;exact ad
   |some w=>
    rw [hw] at ad
    cases w with
    |true=>exact n9 (fun aP ⟨ae,ay⟩=>Br ax fuel ae ay) (RN bO ads ad)
    |false=>exact Br ax fuel bO.put ad
theorem adt{Q:Exit→St→Prop}(a4:dk P T)(hm:P.follows .mixedOrders=true){id:Nat}{ops:Array Oper}(bV:dstOk N ops=true)
  (h:hO P T G ops (Q .normal) ops.size (Array.replicate ops.size false) σ):fY P T G N (.region id ops true) σ Q:=by
 intro m fr ρ a w cA cv lV ax
 refine wp_region_any hm ?_
 exact Kb (m:=m) (fr:=fr) (N:=N) (Q:=fun e cu w'=>hE N m fr ρ σ (Q e) cu w') a4 (s9 bV) ops.size _ m ρ σ a _ cA (cv.drew _) lV ax h (fun cu w' av=>av)
def ny(T:bW)(os:Nat→Option (List Nat))(N:Nat):Code→Bool
 | .region id ops d=>dstOk N ops&&(!d||(os id).isSome||ordFrom T ops (List.range ops.size) (Array.replicate ops.size false))
 | .seq x y=>ny T os N x&&ny T os N y
 | .cond _ x y=>ny T os N x&&ny T os N y
 | .block _ c=>ny T os N c
 | .loop c=>ny T os N c
 | .scope c=>ny T os N c
 |_=>true
def lZ{β:Type}(ib:List Key)(k:Exit→St→Option β)(b:β)(e:Exit)(σ:St):Prop:=∃τ,fX σ τ∧eO ib τ∧k e τ=some b
theorem R3{β:Type}{x:Option β}{y:List D⊕β}(h:aU x=some y):∃b,x=some b∧y= .inr b:=by
 obtain ⟨b,ad,ae⟩:=ez h
 exact ⟨b,ad,(Option.some.inj ae).symm⟩
theorem R4{β:Type}{eZ:o5}{c:Code}{run:(Exit→St→Option (List D⊕β))→Option (List D⊕β)}{k:Exit→St→Option β}{b:β}
  (hf:∀bg b',run bg=some b'→fY P T G N c σ (lZ ib bg b')) (h:joinX ib eZ run k=some b):fY P T G N c σ (lZ ib k b):=by
 obtain ⟨x,ad,ae⟩:=ez h
 refine yf (hf _ _ ad) ?_
 rintro e aP ⟨τ,a0,a9,bH⟩
 have other:∀cX,e=cX→aU (k cX τ)=some x→lZ ib k b e aP:=by
  rintro cX rfl ay
  obtain ⟨b',aZ,rfl⟩:=R3 ay
  cases ae
  exact ⟨τ,a0,a9,aZ⟩
 cases e with
 |normal=>
  obtain ⟨ls,br,bo,bT⟩:=Ga a9 bH
  cases bT
  exact ⟨_,a0.trans br,bo,ae⟩
 |exit id=>exact other _ rfl bH
 |goto l=>exact other _ rfl bH
 |ret=>exact other _ rfl bH
 |panic c=>exact other _ rfl bH
 |outgrown=>exact other _ rfl bH
theorem adu{β:Type}{f:List D→Option (List D⊕β)}{n:Nat}{ls:List D}{b:β}(h:bk f n ls=some b):∃m,n=m+1∧((∃ek,f ls=some (.inl ek)∧bk f m ek=some b)∨f ls=some (.inr b)):=by
 cases n with
 |zero=>cases h
 |succ m=>
  obtain ⟨x,ad,ae⟩:=ez h
  refine ⟨m,rfl,?_⟩
  cases x with
  |inl ek=>exact .inl ⟨ek,ad,ae⟩
  |inr b'=>cases ae;exact .inr ad
theorem lZ.block{β:Type}{id:Nat}{k:Exit→St→Option β}{b:β}{e:Exit}{σ:St}(h:lZ ib (Bq id k) b e σ):inBlockQ id (lZ ib k b) e σ:=by
 obtain ⟨τ,a0,a9,bH⟩:=h
 cases e with
 |exit rI=>
  simp only [inBlockQ]
  unfold Bq at bH
  by_cases af:rI=id
  ·simp only [af,if_true] at bH⊢;exact ⟨τ,a0,a9,bH⟩
  ·simp only [af,if_false] at bH⊢;exact ⟨τ,a0,a9,bH⟩
 |normal=>exact ⟨τ,a0,a9,bH⟩
 |goto l=>exact ⟨τ,a0,a9,bH⟩
 |ret=>exact ⟨τ,a0,a9,bH⟩
 |panic c=>exact ⟨τ,a0,a9,bH⟩
 |outgrown=>exact ⟨τ,a0,a9,bH⟩
theorem pd(X:k0)(a4:dk P X.T)(bX:fQ P X.G X.C)(eP:iR P X.G X.H)(hm:P.follows .mixedOrders=true)(bV:N<10000):∀(c:Code) {β:Type} {σ:St} {k:Exit→St→Option β} {b:β},ny X.T X.nw N c=true→eO X.ib σ→exec X c σ k=some b→fY P X.T X.G N c σ (lZ X.ib k b)
 | .skip,β,σ,k,b,_,bO,h=>aaG ⟨σ,fX.refl σ,bO,h⟩
 | .label l,β,σ,k,b,_,bO,h=>aaH ⟨σ,fX.refl σ,bO,h⟩
 | .exit id,β,σ,k,b,_,bO,h=>aaI ⟨σ,fX.refl σ,bO,h⟩
 | .ret,β,σ,k,b,_,bO,h=>aaJ ⟨σ,fX.refl σ,bO,h⟩
 | .region id ops d,β,σ,k,b,ba,bO,h=>by
  simp only [ny,Bool.and_eq_true,Bool.or_eq_true,Bool.not_eq_true'] at ba
  have fG:∀o∈ops.toList,∀d,o.dst=some d→d<10000:=fun o aG d ax=>Nat.lt_trans (s9 ba.1 o (by simpa using aG) d ax) bV
  have K7:∀aP,eO X.ib aP∧k .normal aP=some b→lZ X.ib k b .normal aP:=fun aP bm=>⟨aP,fX.refl aP,bm⟩
  unfold exec at h
  have ag:=Bj bO h
  clear h bO
  obtain ⟨σ,adv,bO,h⟩:=ag
  refine Kc adv ?_
  split at h
  ·rename_i yg
   split at h
   ·have ad:=acj (P:=P) (all:=ops) (σ:=σ) bX (K:=fun aP=>∃τ,mP aP τ∧k .normal τ=some b) (fun σ τ hw ⟨u2,ad,ae⟩=>⟨u2,hw.trans ad,ae⟩) (fun aP bm=>⟨aP,mP.refl _,bm⟩) h
    have ae:vOps P X.T X.G ops ops.toList (lZ X.ib k b .normal) σ:=by
     refine kX ?_ (KT bO fG ad)
     rintro aP ⟨a0,τ,a9,bH⟩
     refine ⟨τ,a9.A5,?_,bH⟩
     intro j aH ak
     rw [←a9.1] at ak
     exact a0 j aH ak
    exact aa8 a4 hm ba.1 (ba.2.resolve_left (by simp [yg])) ae
   ·have ad:=ac4 (P:=P) (all:=ops) (σ:=σ) a4 bX eP bV (fun o aG d ax=>s9 ba.1 o (by simpa using aG) d ax) bO h
    exact ac5 (fun m fr ρ a w Q cA cv lV ax gL=>ad m fr ρ a w Q cA cv lV ax (fun cu w' av=>gL cu w' (av.mono K7)))
  ·rename_i ord yg
   split at h
   case isFalse=>
    split at h
    case isFalse=>cases h
    rename_i aj
    obtain ⟨rfl,hlen,R5⟩:=aj
    have jJ:ops=ops.extract 0 ord.length++ops.extract ord.length ops.size:=by
     rw [Array.extract_append_extract,Nat.max_eq_right hlen];simp
    have nd:ord.length=(ops.extract 0 ord.length).size:=by simp;omega
    have ad:=Kz (P:=P) bX ord _ σ h
    generalize ops.extract 0 ord.length=cR at*
    generalize ops.extract ord.length ops.size=xY at*
    subst jJ
    rw [nd] at ad
    have l0:dstOk N cR=true:=by
     have:=ba.1
     unfold dstOk at this⊢
     simp only [Array.toList_append,List.all_append,Bool.and_eq_true] at this
     exact this.1
    rw [nd] at R5
    refine ado a4 hm l0 R5 ?_ (Br (fun o aG d ax=>Nat.lt_trans (s9 l0 o aG d ax) bV) _ bO ad)
    rintro aP ⟨KX,ag⟩
    have ae:=Bm (P:=P) (N:=N) (ib:=X.ib) (all:=cR++xY) (i:=cR.size) a4 bX eP bV (K:=lZ X.ib k b .normal) (fun g hm o aG=>F2 _ _ _ hm o aG) (by rw [tk];intro o' aG d ax;exact s9 ba.1 _ (by simp at aG⊢;exact .inr aG) d ax) (by
     rw [tk];intro j
     rw [Array.getElem?_append_right (by omega)];simp) KX (fun o0 ad ae=>K7 o0 ⟨ad,ae⟩) ag
    rwa [tk] at ae
   rename_i aj
   obtain ⟨rfl,hlen⟩:=aj
   have ad:=Kz (P:=P) bX ord _ σ h
   rw [hlen] at ad
   exact adt a4 hm ba.1 (R2 K7 _ (Br (fun o aG d ax=>Nat.lt_trans (s9 ba.1 o aG d ax) bV) _ bO ad))
 | .seq x y,β,σ,k,b,ba,bO,h=>by
  simp only [ny,Bool.and_eq_true] at ba
  refine aaK (yf (pd X a4 bX eP hm bV x ba.1 bO h) ?_)
  rintro e aP ⟨τ,a0,a9,bH⟩
  cases e with
  |normal=>
   simp only [thenQ]
   refine Kc a0 (pd X a4 bX eP hm bV y ba.2 a9 bH)
  |exit id=>exact ⟨τ,a0,a9,bH⟩
  |goto l=>exact ⟨τ,a0,a9,bH⟩
  |ret=>exact ⟨τ,a0,a9,bH⟩
  |panic c=>exact ⟨τ,a0,a9,bH⟩
  |outgrown=>exact ⟨τ,a0,a9,bH⟩
 | .cond c x y,β,σ,k,b,ba,bO,h=>by
  simp only [ny,Bool.and_eq_true] at ba
  cases c with
  |tmp c=>
   unfold exec at h
   split at h
   case h_2=>cases h
   rename_i a aB
   have two:∀{β:Type} (bg:Exit→St→Option β) (b':β),oif a (exec X x σ bg) (exec X y σ bg)=some b'→fY P X.T X.G N (.cond (.tmp c) x y) σ (lZ X.ib bg b'):=by
    intro β bg b' h
    rcases Q1 h with⟨rfl,ad⟩|⟨rfl,ad⟩
    ·exact FM (b:=true) aB (by rw [if_pos rfl];exact pd X a4 bX eP hm bV x ba.1 bO ad)
    ·exact FM (b:=false) aB (by rw [if_neg (by simp)];exact pd X a4 bX eP hm bV y ba.2 bO ad)
   split at h
   ·exact two k b h
   ·exact R4 (fun bg b' bm=>two bg b' bm) h
  |const v=>
   unfold exec at h
   split at h
   ·exact FM (b:=true) rfl (by rw [if_pos rfl];exact pd X a4 bX eP hm bV x ba.1 bO h)
   ·exact FM (b:=false) rfl (by rw [if_neg (by simp)];exact pd X a4 bX eP hm bV y ba.2 bO h)
   ·cases h
  |global g=>cases h
  |func f=>cases h
 | .block id c,β,σ,k,b,ba,bO,h=>by
  have one:∀{β:Type} (bg:Exit→St→Option β) (b':β),exec X c σ (Bq id bg)=some b'→fY P X.T X.G N (.block id c) σ (lZ X.ib bg b'):=by
   intro β bg b' h
   exact aaN (yf (pd X a4 bX eP hm bV c ba bO h) (fun e aP bm=>bm.block))
  unfold exec at h
  split at h
  ·exact one k b h
  ·exact R4 (fun bg b' bm=>one bg b' bm) h
 | .loop c,β,σ,k,b,ba,bO,h=>by
  unfold exec at h
  split at h
  case h_1=>cases h
  rename_i eZ qu
  obtain ⟨K6,aS,aV,bz⟩:=Ga bO h
  generalize a6:(fun ls=>exec X c (restore eZ ls) fun e aP=>match e with
   | .normal=>absX X.ib eZ aP fun ek=>some (Sum.inl ek)
   |e=>aU (k e aP))=f at bz
  refine aaX (ι:={p:List D×Nat//bk f p.2 p.1=some b∧eO X.ib (restore eZ p.1)}) (fun p=>restore eZ p.1.1) (fun p=>p.1.2) ⟨(K6,X.n),bz,aV⟩ aS ?_
  rintro ⟨⟨ls,n⟩,R6,gN⟩
  simp only at R6 gN⊢
  obtain ⟨m,rfl,ay⟩:=adu R6
  have round:∀x,f ls=some x→fY P X.T X.G N c (restore eZ ls) (lZ X.ib (fun e aP=>match e with
   | .normal=>absX X.ib eZ aP fun ek=>some (Sum.inl ek)
   |e=>aU (k e aP)) x):=by
   intro x ag
   rw [←a6] at ag
   exact pd X a4 bX eP hm bV c ba gN ag
  have go:∀x,f ls=some x→(∀ek,x= .inl ek→bk f m ek=some b)→(∀b',x= .inr b'→b'=b)→fY P X.T X.G N c (restore eZ ls) (thenQ (fun aP=>∃j:{p:List D×Nat//bk f p.2 p.1=some b∧eO X.ib (restore eZ p.1)},fX aP (restore eZ j.1.1)∧j.1.2<m+1) (lZ X.ib k b)):=by
   intro x ag aq av
   refine yf (round x ag) ?_
   rintro e aP ⟨τ,a0,a9,bH⟩
   have other:∀cX,e=cX→aU (k cX τ)=some x→lZ X.ib k b e aP:=by
    rintro cX rfl ay
    obtain ⟨b',aZ,rfl⟩:=R3 ay
    rw [av b' rfl] at aZ
    exact ⟨τ,a0,a9,aZ⟩
   cases e with
   |normal=>
    obtain ⟨ek,br,bo,bT⟩:=Ga a9 bH
    cases bT
    exact ⟨⟨(ek,m),aq ek rfl,bo⟩,a0.trans br,Nat.lt_succ_self m⟩
   |exit id=>exact other _ rfl bH
   |goto l=>exact other _ rfl bH
   |ret=>exact other _ rfl bH
   |panic c=>exact other _ rfl bH
   |outgrown=>exact other _ rfl bH
  rcases ay with⟨ek,aZ,bG⟩|aZ
  ·exact go _ aZ (by rintro _ ⟨⟩;exact bG) (by rintro _ ⟨⟩)
  ·exact go _ aZ (by rintro _ ⟨⟩) (by rintro _ ⟨⟩;rfl)
 | .rangeFunc _ _ _ _,β,σ,k,b,_,bO,h=>by cases h
 | .scope c,β,σ,k,b,ba,bO,h=>aaM (yf (pd X a4 bX eP hm bV c (by simpa [ny] using ba) bO h) (by
   rintro e aP ⟨τ,a0,a9,bH⟩
   cases e with
   |goto l=>cases bH
   |normal=>exact ⟨τ,a0,a9,bH⟩
   |exit id=>exact ⟨τ,a0,a9,bH⟩
   |ret=>exact ⟨τ,a0,a9,bH⟩
   |panic c=>exact ⟨τ,a0,a9,bH⟩
   |outgrown=>exact ⟨τ,a0,a9,bH⟩))
 | .goto _,β,σ,k,b,_,bO,h=>by cases h
 | .refuse _,β,σ,k,b,_,bO,h=>by cases h
end
theorem R7{P:Program}{T:bW}{G:cV}{N:Nat}{c:Code}{σ:St}{Q:Exit→St→Prop}(h:fY P T G N c σ (fun e aP=>∃τ,fX aP τ∧Q e τ)):fY P T G N c σ Q:=by
 intro m fr ρ a w cA cv bV ax
 refine wp_mono (h m fr ρ a w cA cv bV ax) ?_
 rintro e cu w' ⟨aP,cd,cr,⟨τ,eJ,gL⟩,ae,ay,aZ,bG,ch⟩
 obtain ⟨uY,uZ,a0,a9,bH⟩:=eJ cd fr cr cu w' ay
 exact ⟨τ,uY,uZ,gL,Mem.le_trans ae a0,a9,aZ,bG,ch.trans bH⟩
def adw(T:bW)(rs:List ResultVar)(e:Exit)(σ:St):Option D:=match e with
 | .normal=>R (resA T σ rs) (toD σ.objs)
 | .ret=>R (resA T σ rs) (toD σ.objs)
 |_=>none
def execF(X:k0)(fn:Func)(args:List AV):Option D:=match fn.body with
 |some c=>exec X c (start args fun _=>none) (adw X.T fn.results.toList)
 |none=>none
def l1(T:bW)(os:Nat→Option (List Nat))(fn:Func):Bool:=match fn.body with
 |some c=>ny T os fn.ntmps c&&decide (fn.ntmps<10000)&&!(fn.name== "runtime.NumGoroutine")
 |none=>false
theorem adx{xs cR:List AV}(h:h1 (fun k=>k) (fun _=>False) xs cR):fX (start xs fun _=>none) (start cR fun _=>none):=by
 intro m fr ρ a w cv
 refine ⟨m,ρ,Mem.le_refl m,⟨cv.mem,cv.frame,cv.apart,?_,?_,?_,?_,?_⟩,?_⟩
 ·rintro k ⟨o,aG⟩;cases aG
 ·intro t
  have ad:=cv.aC t
  obtain ⟨ae,ay⟩:=h.ok
  simp only [start] at ad⊢
  cases aN:cR[t]? with
  |none=>rw [List.getD_eq_getElem?_getD,aN];exact .any _
  |some y=>
   obtain ⟨x,ag,hle⟩:=ay t y aN
   rw [List.getD_eq_getElem?_getD,ag] at ad
   rw [List.getD_eq_getElem?_getD,aN]
   have aZ:AvLe0 (fun k=>k) (St.used (start cR fun _=>none)) x y:=by
    unfold AvLe0 at hle⊢
    split at hle<;>first|exact hle|(exact absurd hle.2 id)
   exact aZ.ok (ρ:=ρ) ad
 ·intro k o ai;cases ai
 ·intro k o b ai;cases ai
 ·intro k bg o o' b _ ai;cases ai
 ·intro k _ aj;exact absurd aj rC
theorem ady{P:Program}(X:k0)(a4:dk P X.T)(bX:fQ P X.G X.C)(eP:iR P X.G X.H)(hm:P.follows .mixedOrders=true)(jL:X.ib=[]){f:FuncId}{fn:Func}(a6:P.funcs[f]?=some fn)(ba:l1 X.T X.nw fn=true){aF:List D}{as:List AV}(hle:h1 (fun k=>k) (fun _=>False) (aF.map .d) as)(hlen:decide (aF.length≤fn.ntmps)=true){r:D}
  (h:execF X fn as=some r):dz P X.G f aF (·=r):=by
 have hlen:=of_decide_eq_true hlen
 unfold execF at h
 unfold l1 at ba
 split at h
 case h_2=>cases h
 rename_i c ak
 simp only [ak,Bool.and_eq_true,decide_eq_true_eq,Bool.not_eq_true'] at ba
 refine aa0 a4 a6 ak ba.2 hlen ?_
 refine Kc (adx hle) ?_
 refine R7 (yf (pd X a4 bX eP hm ba.1.2 c ba.1.1 (by intro k _ aj;exact absurd aj rC) h) ?_)
 rintro e aP ⟨τ,a0,a9,bH⟩
 have fin:R (resA X.T τ fn.results.toList) (toD τ.objs)=some r→∃R8 d x,resA X.T τ fn.results.toList=some R8∧toD τ.objs R8=some d∧d.le x∧x=r:=by
  intro ad
  obtain ⟨u,ae,ay⟩:=ez ad
  exact ⟨u,r,r,ae,ay,D.le_refl _,rfl⟩
 refine ⟨τ,a0,?_⟩
 cases e with
 |normal=>exact ⟨.inl rfl,fin bH⟩
 |ret=>exact ⟨.inr rfl,fin bH⟩
 |exit id=>cases bH
 |goto l=>cases bH
 |panic c=>cases bH
 |outgrown=>cases bH
def Gl(s:gn)(ls:List D):St:=⟨fun t=>(s.tp ls).getD t .any,lookO (s.lX ls)⟩
def adz(X:k0)(s:gn)(nt:List tl)(rs:List ResultVar)(e:Exit)(σ:St):Option (List D):=match e with
 | .normal=>R (resA X.T σ rs) fun x=>absX X.ib ⟨[(0,s.res)],s.outs,nt⟩ ⟨fun t=>if t=0 then x else .any,σ.objs⟩ some
 | .ret=>R (resA X.T σ rs) fun x=>absX X.ib ⟨[(0,s.res)],s.outs,nt⟩ ⟨fun t=>if t=0 then x else .any,σ.objs⟩ some
 |_=>none
def K8(X:k0)(fn:Func)(s:gn)(nt:List tl)(ls:List D):Option (List D):=match fn.body with
 |some c=>exec X c (Gl s ls) (adz X s nt fn.results.toList)
 |none=>none
theorem adA{P:Program}(X:k0)(a4:dk P X.T)(bX:fQ P X.G X.C)(eP:iR P X.G X.H)(hm:P.follows .mixedOrders=true){s:gn}{fn:Func}(a6:P.funcs[s.f]?=some fn)(ba:l1 X.T X.nw fn=true)(hlen:decide (s.args.length≤fn.ntmps)=true)
  (jL:(s.ins.all fun p=>decide (p.1<10000)||X.ib.contains p.1)=true) {nt:List tl} {F:List D→Option (List D)} (h:∀ls ek,F ls=some ek→K8 X fn s nt ls=some ek):eT P X.G s F:=by
 have hlen:=of_decide_eq_true hlen
 unfold l1 at ba
 split at ba
 case h_2=>cases ba
 rename_i c ak
 simp only [Bool.and_eq_true,decide_eq_true_eq,Bool.not_eq_true'] at ba
 refine ⟨⟨fn,a6,ba.2,by rw [ak];rfl⟩,?_⟩
 intro ls ek gV m fr ρ w vs cA cv aq E7
 have ag:=h ls ek gV
 unfold K8 at ag
 rw [ak] at ag
 simp only at ag
 have K9:(s.tp ls).length=s.args.length:=by
  have:∀(l:List jK) (n:Nat),(resWs ls l n).1.length=l.length:=by
   intro l
   induction l with
   |nil=>intro n;rfl
   |cons x r ih=>intro n;simp [resWs,ih]
  exact this _ _
 have adB:eO X.ib (Gl s ls):=by
  intro k ai ak
  obtain ⟨cs,gJ⟩:=x8 ak
  have:=te gJ
  have ad:kt (s.lX ls)=s.ins.map (·.1):=vg _ _ _
  rw [ad] at this
  obtain ⟨p,aY,rfl⟩:=List.mem_map.1 this
  have ae:=List.all_eq_true.1 jL p aY
  simp only [Bool.or_eq_true,decide_eq_true_eq,List.contains_eq_mem] at ae
  rcases ae with ae|ae
  ·exact absurd ae (Nat.not_lt.2 ai)
  ·exact ae
 have hw:=pd X a4 bX eP hm ba.1.2 c ba.1.1 adB ag
 refine calls_of_wp a6 ak ?_
 have AY:Den m fr ρ (Gl s ls) {tmps:=vs.toArray++Array.replicate (fn.ntmps-vs.toArray.size) undef,defers:=[]} w:=by
  refine ⟨cv.mem,cv.frame,cv.apart,cv.one,?_,cv.objs,cv.own,cv.sep⟩
  intro t
  simp only [Gl]
  by_cases aE:t<vs.length
  ·have bJ:t<(s.tp ls).length:=by rw [←aq];exact aE
   have ax:=List.getElem?_eq_getElem bJ
   have aM:=List.getElem?_eq_getElem aE
   have aS:(s.tp ls).getD t .any=(s.tp ls)[t]:=by rw [List.getD_eq_getElem?_getD,ax];rfl
   have aV:(vs.toArray++Array.replicate (fn.ntmps-vs.toArray.size) undef).getD t undef=vs[t]:=by
    rw [Array.getD_eq_getD_getElem?,Array.getElem?_append_left (by simpa using aE)]
    simp [aE]
   rw [aS,aV]
   exact E7 t _ _ ax aM
  ·have aS:(s.tp ls).getD t .any= .any:=by rw [List.getD_eq_getElem?_getD,List.getElem?_eq_none (by omega)];rfl
   rw [aS]
   exact .any _
 have fE:fn.ntmps≤(vs.toArray++Array.replicate (fn.ntmps-vs.toArray.size) undef).size:=by simp;omega
 refine wp_mono (R7 hw m fr ρ _ w cA AY fE rfl) ?_
 rintro e cu w' ⟨aP,cd,cr,⟨a9,bH⟩,bG,ch,fi,h0,jg⟩
 have fin:(R (resA X.T aP fn.results.toList) fun x=>absX X.ib ⟨[(0,s.res)],s.outs,nt⟩ ⟨fun t=>if t=0 then x else .any,aP.objs⟩ some)=some ek→
   cu.defers=[]∧∃v,(results fn cu.tmps).run P w'= .ok v w'∧∃v1 e9 lq,Ending.returned v= .returned v1∧m.le e9∧Gd e9 fr lq (lookO (s.nu ek)) w'∧bI e9 lq (o6 (lookO (s.nu ek))) (s.Ge ek) v1∧∀k,10000≤k→dS (lookO (s.lX ls) k)→lq k=ρ k:=by
  intro ad
  obtain ⟨x,ae,ay⟩:=ez ad
  obtain ⟨v,br,bo⟩:=Qz (P:=P) a4 ch ae
  obtain ⟨asM,ff,fo,ob⟩:=Ga (σ:=⟨fun t=>if t=0 then x else .any,aP.objs⟩) a9 ay
  cases ob
  have adC:Den cd fr cr ⟨fun t=>if t=0 then x else .any,aP.objs⟩ {tmps:= #[v],defers:=[]} w':=by
   refine ⟨ch.mem,ch.frame,ch.apart,ch.one,?_,ch.objs,ch.own,ch.sep⟩
   intro t
   by_cases aE:t=0
   ·subst aE;exact bo
   ·simp only [aE,if_false];exact .any _
  obtain ⟨jY,jH,t1,t2,t3⟩:=ff cd fr cr _ w' adC
  have Bs:=t2.aC 0
  refine ⟨h0,v,br,v,jY,jH,rfl,Mem.le_trans bG t1,⟨t2.mem,t2.frame,t2.apart,t2.one,fun _=> .any _,t2.objs,t2.own,t2.sep⟩,?_,?_⟩
  ·exact Bs
  ·intro k ai adD
   obtain ⟨sK,sL⟩:=jg k ai adD
   rw [(t3 k ai sK).2,sL]
 cases e with
 |normal=>exact fin bH
 |ret=>exact fin bH
 |exit id=>cases bH
 |goto l=>cases bH
 |panic c=>cases bH
 |outgrown=>cases bH
theorem tu{P:Program}{T:bW}{os:Nat→Option (List Nat)}{f:FuncId}{fn:Func}(a6:P.funcs[f]?=some fn)(ba:l1 T os fn=true):uS P f:=by
 unfold l1 at ba
 split at ba
 case h_2=>cases ba
 rename_i c ak
 simp only [Bool.and_eq_true,decide_eq_true_eq,Bool.not_eq_true'] at ba
 exact ⟨fn,a6,ba.2,by rw [ak];rfl⟩
theorem tw{P:Program}{G:cV}{s:gn}{F:List D→Option (List D)}(tx:uS P s.f)(h:∀ls,F ls=none):eT P G s F:=
 ⟨tx,fun ls ek bm=>by rw [h] at bm;cases bm⟩
def tabH:List (Tmp×yt)→tq
 |[],_=>none
 |(t',e)::r,t=>if t=t' then some e else tabH r t
theorem adE{P:Program}{G:cV}:iR P G (tabH []):=by intro t e h;cases h
theorem adF{P:Program}{G:cV}{t:Tmp}{e:yt}{l:List (Tmp×yt)}(h:eT P G e.s e.F)(bm:iR P G (tabH l)):iR P G (tabH ((t,e)::l)):=by
 intro t' cX he
 unfold tabH at he
 split at he
 ·cases he;exact h
 ·exact bm t' cX he
def fy:List (Nat×List (List Key))→Nat→List (List Key)
 |[],_=>[]
 |(j,s)::r,k=>if k=j then s else fy r k
def fI(l:List Tmp)(t:Tmp):Bool:=l.contains t
def tabC:List (FuncId×(List D→Option D))→kW
 |[],_,_,_=>none
 |(iO,F)::r,d,f,aF=>if f=iO then F aF else tabC r d f aF
def a8(P:Program)(G:cV)(f:FuncId)(F:List D→Option D):Prop:=∀aF r,F aF=some r→dz P G f aF (·=r)
theorem adG{P:Program}{G:cV}:fQ P G (tabC []):=by intro d f aF r h;cases h
theorem adH{P:Program}{G:cV}{f:FuncId}{F:List D→Option D}{l:List (FuncId×(List D→Option D))}(h:a8 P G f F)(bm:fQ P G (tabC l)):fQ P G (tabC ((f,F)::l)):=by
 intro d iO aF r av
 unfold tabC at av
 split at av
 ·rename_i e;subst e;exact h aF r av
 ·exact bm d iO aF r av
def cn:List (Nat×o5)→Nat→Option o5
 |[],_=>none
 |(j,s)::r,k=>if k=j then some s else cn r k
def fv:List (Nat×List Nat)→Nat→Option (List Nat)
 |[],_=>none
 |(j,s)::r,k=>if k=j then some s else fv r k
def isFc(f:FuncId)(x:D):Bool:=match x with
 | .val (.func (.func iO) a b)=>iO==f&&a.size==0&&b.size==0
 |_=>false
theorem La{f:FuncId}{x:D}(h:isFc f x=true):x= .val (.func (.func f) #[] #[]):=by
 unfold isFc at h
 split at h
 ·rename_i iO a b
  simp only [Bool.and_eq_true,beq_iff_eq] at h
  obtain ⟨⟨rfl,ad⟩,ae⟩:=h
  rw [Array.eq_empty_of_size_eq_zero ad,Array.eq_empty_of_size_eq_zero ae]
 ·cases h
def fnOf(f:FuncId)(x:D):Option (List D):=match x with
 | .fn (.func iO) first ve=>if iO=f∧first.isEmpty=true then some ve else none
 |_=>none
theorem j5{f:FuncId}{x:D}{ve:List D}(h:fnOf f x=some ve):x= .fn (.func f) [] ve:=by
 unfold fnOf at h
 split at h
 ·split at h
  ·rename_i aj
   cases h
   rw [aj.1,List.isEmpty_iff.1 aj.2]
  ·cases h
 ·cases h
theorem le_nil:h1 (fun k=>k) (fun _=>False) (List.map AV.d []) []:=trivial
theorem l2{x:D}{y:AV}{xs:List D}{cR:List AV}(h:AvLe0 (fun k=>k) (fun _=>False) (.d x) y)(bm:h1 (fun k=>k) (fun _=>False) (List.map AV.d xs) cR):h1 (fun k=>k) (fun _=>False) (List.map AV.d (x::xs)) (y::cR):=⟨h,bm⟩
theorem adI{x:D}:AvLe0 (fun k=>k) (fun _=>False) (.d x) (.d x):=⟨x,rfl,D.le_refl x⟩
theorem mR{c:List D}{o:Nat}:AvLe0 (fun k=>k) (fun _=>False) (.d (.ref c o)) (.dP c o):= .inr rfl
end Go.Am
namespace Go.Am
set_option linter.unusedVariables false
def ao(t:Nat):Nat×jK:=(t,.b .d)
def sp(t:Nat):Nat×jK:=(t,.b (.ptr t 0))
def cO(t k:Nat):Nat×jK:=(t,.b (.row k))
def aX(k n:Nat):Key×j2:=(k,.box (List.replicate n (.b .d)))
def b9(k n:Nat):Key×j2:=(k,.row n)
def adJ(P:Program)(G:cV)(n:Nat)(c:List (FuncId×(List D→Option D)))(l j b:List (Nat×o5)):k0:=⟨eN P,G,tabC c,n,[],cn l,cn j,cn b,fv [],tabH [],fI [],fy []⟩
theorem dM{P:Program}(X:k0)(a4:dk P X.T)(bX:fQ P X.G X.C)(eP:iR P X.G X.H)(hm:P.follows .mixedOrders=true)(jL:X.ib=[]){f:FuncId}{fn:Func}(a6:P.funcs[f]?=some fn)(ba:l1 X.T X.nw fn=true){aF:List D}{as:List AV}(hle:h1 (fun k=>k) (fun _=>False) (aF.map .d) as)(hlen:decide (aF.length≤fn.ntmps)=true)
  {o:Option D} (he:execF X fn as=o) {r:D} (h:o=some r):dz P X.G f aF (·=r):=ady X a4 bX eP hm jL a6 ba hle hlen (he.trans h)
theorem mS{P:Program}(X:k0)(a4:dk P X.T)(bX:fQ P X.G X.C)(eP:iR P X.G X.H)(hm:P.follows .mixedOrders=true){s:gn}{fn:Func}(a6:P.funcs[s.f]?=some fn)(ba:l1 X.T X.nw fn=true)(hlen:decide (s.args.length≤fn.ntmps)=true)
  (jL:(s.ins.all fun p=>decide (p.1<10000)||X.ib.contains p.1)=true) (nt:List tl) {F:List D→Option (List D)} (h:∀ls,K8 X fn s nt ls=F ls):eT P X.G s F:=adA X a4 bX eP hm a6 ba hlen jL fun ls ek bm=>(h ls).trans bm
theorem bA{x:D}{xs:List D}{cR:List AV}(h:h1 (fun k=>k) (fun _=>False) (List.map AV.d xs) cR):h1 (fun k=>k) (fun _=>False) (List.map AV.d (x::xs)) (.d x::cR):=l2 adI h
def un0(g:Option D):List D→Option D
 |[]=>g
 |_=>none
@[simp] theorem asN {g:Option D}:un0 g []=g:=rfl
theorem yn{P:Program}(X:k0)(a4:dk P X.T)(bX:fQ P X.G X.C)(eP:iR P X.G X.H)(hm:P.follows .mixedOrders=true)(jL:X.ib=[]){f:FuncId}{fn:Func}(a6:P.funcs[f]?=some fn)(ba:l1 X.T X.nw fn=true)(hlen:decide (0≤fn.ntmps)=true){g:Option D}(he:execF X fn []=g):a8 P X.G f (un0 g):=by
 intro aF r h
 unfold un0 at h
 split at h
 case h_2=>cases h
 exact dM X a4 bX eP hm jL a6 ba le_nil hlen he h
def un1(g:D→Option D):List D→Option D
 |[ab]=>g ab
 |_=>none
@[simp] theorem asO {g:D→Option D} {ab:D}:un1 g [ab]=g ab:=rfl
theorem cg{P:Program}(X:k0)(a4:dk P X.T)(bX:fQ P X.G X.C)(eP:iR P X.G X.H)(hm:P.follows .mixedOrders=true)(jL:X.ib=[]){f:FuncId}{fn:Func}(a6:P.funcs[f]?=some fn)(ba:l1 X.T X.nw fn=true)(hlen:decide (1≤fn.ntmps)=true){g:D→Option D}(he:∀ab,execF X fn [.d ab]=g ab):a8 P X.G f (un1 g):=by
 intro aF r h
 unfold un1 at h
 split at h
 case h_2=>cases h
 exact dM X a4 bX eP hm jL a6 ba (bA le_nil) hlen (he _) h
def un2(g:D→D→Option D):List D→Option D
 |[ab,ah]=>g ab ah
 |_=>none
@[simp] theorem asP {g:D→D→Option D} {ab ah:D}:un2 g [ab,ah]=g ab ah:=rfl
theorem dK{P:Program}(X:k0)(a4:dk P X.T)(bX:fQ P X.G X.C)(eP:iR P X.G X.H)(hm:P.follows .mixedOrders=true)(jL:X.ib=[]){f:FuncId}{fn:Func}(a6:P.funcs[f]?=some fn)(ba:l1 X.T X.nw fn=true)(hlen:decide (2≤fn.ntmps)=true){g:D→D→Option D}(he:∀ab ah,execF X fn [.d ab,.d ah]=g ab ah):a8 P X.G f (un2 g):=by
 intro aF r h
 unfold un2 at h
 split at h
 case h_2=>cases h
 exact dM X a4 bX eP hm jL a6 ba (bA (bA le_nil)) hlen (he _ _) h
def un3(g:D→D→D→Option D):List D→Option D
 |[ab,ah,aT]=>g ab ah aT
 |_=>none
@[simp] theorem asQ {g:D→D→D→Option D} {ab ah aT:D}:un3 g [ab,ah,aT]=g ab ah aT:=rfl
theorem hk{P:Program}(X:k0)(a4:dk P X.T)(bX:fQ P X.G X.C)(eP:iR P X.G X.H)(hm:P.follows .mixedOrders=true)(jL:X.ib=[]){f:FuncId}{fn:Func}(a6:P.funcs[f]?=some fn)(ba:l1 X.T X.nw fn=true)(hlen:decide (3≤fn.ntmps)=true){g:D→D→D→Option D}(he:∀ab ah aT,execF X fn [.d ab,.d ah,.d aT]=g ab ah aT):a8 P X.G f (un3 g):=by
 intro aF r h
 unfold un3 at h
 split at h
 case h_2=>cases h
 exact dM X a4 bX eP hm jL a6 ba (bA (bA (bA le_nil))) hlen (he _ _ _) h
def un4(g:D→D→D→D→Option D):List D→Option D
 |[ab,ah,aT,bR]=>g ab ah aT bR
 |_=>none
@[simp] theorem asR {g:D→D→D→D→Option D} {ab ah aT bR:D}:un4 g [ab,ah,aT,bR]=g ab ah aT bR:=rfl
theorem yy{P:Program}(X:k0)(a4:dk P X.T)(bX:fQ P X.G X.C)(eP:iR P X.G X.H)(hm:P.follows .mixedOrders=true)(jL:X.ib=[]){f:FuncId}{fn:Func}(a6:P.funcs[f]?=some fn)(ba:l1 X.T X.nw fn=true)(hlen:decide (4≤fn.ntmps)=true){g:D→D→D→D→Option D}(he:∀ab ah aT bR,execF X fn [.d ab,.d ah,.d aT,.d bR]=g ab ah aT bR):a8 P X.G f (un4 g):=by
 intro aF r h
 unfold un4 at h
 split at h
 case h_2=>cases h
 exact dM X a4 bX eP hm jL a6 ba (bA (bA (bA (bA le_nil)))) hlen (he _ _ _ _) h
def un5(g:D→D→D→D→D→Option D):List D→Option D
 |[ab,ah,aT,bR,eg]=>g ab ah aT bR eg
 |_=>none
@[simp] theorem asS {g:D→D→D→D→D→Option D} {ab ah aT bR eg:D}:un5 g [ab,ah,aT,bR,eg]=g ab ah aT bR eg:=rfl
theorem adK{P:Program}(X:k0)(a4:dk P X.T)(bX:fQ P X.G X.C)(eP:iR P X.G X.H)(hm:P.follows .mixedOrders=true)(jL:X.ib=[]){f:FuncId}{fn:Func}(a6:P.funcs[f]?=some fn)(ba:l1 X.T X.nw fn=true)(hlen:decide (5≤fn.ntmps)=true){g:D→D→D→D→D→Option D}(he:∀ab ah aT bR eg,execF X fn [.d ab,.d ah,.d aT,.d bR,.d eg]=g ab ah aT bR eg):a8 P X.G f (un5 g):=by
 intro aF r h
 unfold un5 at h
 split at h
 case h_2=>cases h
 exact dM X a4 bX eP hm jL a6 ba (bA (bA (bA (bA (bA le_nil))))) hlen (he _ _ _ _ _) h
def un6(g:D→D→D→D→D→D→Option D):List D→Option D
 |[ab,ah,aT,bR,eg,ga]=>g ab ah aT bR eg ga
 |_=>none
@[simp] theorem asT {g:D→D→D→D→D→D→Option D} {ab ah aT bR eg ga:D}:un6 g [ab,ah,aT,bR,eg,ga]=g ab ah aT bR eg ga:=rfl
theorem R9{P:Program}(X:k0)(a4:dk P X.T)(bX:fQ P X.G X.C)(eP:iR P X.G X.H)(hm:P.follows .mixedOrders=true)(jL:X.ib=[]){f:FuncId}{fn:Func}(a6:P.funcs[f]?=some fn)(ba:l1 X.T X.nw fn=true)(hlen:decide (6≤fn.ntmps)=true){g:D→D→D→D→D→D→Option D}(he:∀ab ah aT bR eg ga,execF X fn [.d ab,.d ah,.d aT,.d bR,.d eg,.d ga]=g ab ah aT bR eg ga):a8 P X.G f (un6 g):=by
 intro aF r h
 unfold un6 at h
 split at h
 case h_2=>cases h
 exact dM X a4 bX eP hm jL a6 ba (bA (bA (bA (bA (bA (bA le_nil)))))) hlen (he _ _ _ _ _ _) h
def un7(g:D→D→D→D→D→D→D→Option D):List D→Option D
 |[ab,ah,aT,bR,eg,ga,iu]=>g ab ah aT bR eg ga iu
 |_=>none
@[simp] theorem asU {g:D→D→D→D→D→D→D→Option D} {ab ah aT bR eg ga iu:D}:un7 g [ab,ah,aT,bR,eg,ga,iu]=g ab ah aT bR eg ga iu:=rfl
end Go.Am
namespace Go.Am
set_option linter.unusedVariables false
@[congr] theorem asV {α β:Type} {x y:Option α} {f:α→Option β} (h:x=y):R x f=R y f:=by rw [h]
@[simp] theorem db {α β:Type} {a:α} {f:α→Option β}:R (some a) f=f a:=rfl
@[simp] theorem asW {α β:Type} {f:α→Option β}:R (none:Option α) f=none:=rfl
@[congr] theorem asX {β:Type} {c d:Bool} {p:Option β} (h:c=d):aw c p=aw d p:=by rw [h]
@[simp] theorem mT {β:Type} {p:Option β}:aw true p=p:=rfl
@[simp] theorem asY {β:Type} {p:Option β}:aw false p=none:=rfl
@[congr] theorem asZ {β:Type} {x y:D} {p q:Option β} (h:x=y):oif x p q=oif y p q:=by rw [h]
@[simp] theorem jo {β:Type} {b:Bool} {p q:Option β}:oif (au b) p q=if b=true then p else q:=by cases b<;>rfl
@[congr] theorem as0 {x y:D} {w:Bool} {p:Option D} (h:x=y):gD x w p=gD y w p:=by rw [h]
@[simp] theorem rQ {b w:Bool} {p:Option D}:gD (au b) w p=if b=w then p else some jh:=rfl
@[simp] theorem as1 {dI:Type} {b w:Bool} {p q:Option dI}:u7 (au b) w p q=if b=w then p else q:=rfl
@[simp] theorem as2 {dI:Type} {w:Bool} {p q:Option dI}:u7 jh w p q=q:=rfl
@[simp] theorem as3 {w:Bool} {p:Option D}:gD jh w p=some jh:=rfl
@[simp] theorem rR {t:Bool} {a b:D}:pickP (au t) a b=some (if t=true then a else b):=rfl
@[simp] theorem Sa {c:Prop} [Decidable c] {a b:Bool}:(if c then au a else au b)=au (if c then a else b):=by split<;>rfl
@[simp] theorem Lb {α:Type} {c:Prop} [Decidable c] {a b:α}:(if c then some a else some b)=some (if c then a else b):=by split<;>rfl
@[simp] theorem as4 {α:Type} {c:Prop} [Decidable c] {a b d:α}:(if c then(if c then a else b) else d)=if c then a else d:=by split<;>simp_all
@[simp] theorem Lc {β:Type} {b:β}:aU (some b)=some (.inr b):=rfl
@[simp] theorem as5 {β:Type}:aU (none:Option β)=none:=rfl
@[simp] theorem nz {β:Type} {f:List D→Option β} {ls:List D}:a7 f (.inl ls)=f ls:=rfl
@[simp] theorem Bt {β:Type} {f:List D→Option β} {b:β}:a7 f (.inr b)=some b:=rfl
@[simp] theorem mU {x:D} {l:List D}:I (x::l) 0=x:=rfl
@[simp] theorem oi {x:D} {l:List D} {n:Nat}:I (x::l) (n+1)=I l n:=rfl
@[simp] theorem adL {k:Nat} {es:List (List D)}:esD (.aD k es)=es:=rfl
@[simp] theorem adM {es:List (Value×D)}:fu (.mp es)=es:=rfl
@[simp] theorem adN {cs:List D}:celsD (.agg cs)=cs:=rfl
@[simp] theorem as6 {cs:List D} {i:Nat}:aa (.agg cs) i=cs.getD i jh:=rfl
@[simp] theorem adO {n:Int}:bC (J n)=true:=rfl
@[simp] theorem adP {n:Bool}:bC (au n)=true:=rfl
@[simp] theorem adQ {n:ByteArray}:bC (aJ n)=true:=rfl
@[simp] theorem adR {k:Nat} {es:List (List D)}:bC (.aD k es)=true:=rfl
@[simp] theorem as7 {es:List (Value×D)}:bC (.mp es)=true:=rfl
@[simp] theorem adS:bC (.val (.slice none 0 0))=true:=rfl
@[simp] theorem adT {n:Int}:(J n).one=true:=rfl
@[simp] theorem adU {n:Bool}:(au n).one=true:=rfl
@[simp] theorem adV {n:ByteArray}:(aJ n).one=true:=rfl
@[simp] theorem adW {k:Nat} {es:List (List D)}:(D.aD k es).one=true:=rfl
@[simp] theorem adX:(D.val (.slice none 0 0)).one=true:=rfl
@[simp] theorem as8 {n:Nat} {cs:List D}:aL n (.agg cs)=(cs.length==n&&cs.all D.one):=rfl
@[simp] theorem as9:nilP (.val (.slice none 0 0))=true:=rfl
@[simp] theorem hl {n off:Nat} {cs:List D}:aW false n off cs=cs[off]?:=rfl
theorem vp{n off:Nat}{cs:List D}:aW true n off cs=if off+n≤cs.length then some (.agg ((cs.drop off).take n)) else none:=rfl
@[simp] theorem Sb {a:Bool} {n off:Nat} {cs:List D}:j0 a n off (.agg cs)=aW a n off cs:=rfl
@[simp] theorem Ld {i:Nat} {vs:List D}:extP i (.aO vs)=vs[i]?:=rfl
@[simp] theorem adY {k:Nat} {es:List (List D)}:lenP (.aD k es)=some (J es.length):=rfl
@[simp] theorem adZ:lenP (.val (.slice none 0 0))=some (J 0):=rfl
@[simp] theorem Le {s:ByteArray}:nr (aJ s)=some (J s.size):=rfl
@[simp] theorem Sc {k:Nat} {es:List (List D)} {i:Nat}:a2 k (.aD k es) (J (i:Int))=es[i]?:=by
 simp [a2,J]
@[simp] theorem ata {k:Nat} {es:List (List D)}:a2 k (.aD k es) (J 0)=es[0]?:=by
 simp [a2,J]
theorem Lf{n:Nat}{i:Int}(h:0≤i)(bm:i<n):cH n (J i)=some i.toNat:=by
 simp [cH,J,h,bm]
@[simp] theorem lB {n i:Nat}:cH n (J (i:Int))=if i<n then some i else none:=by
 simp [cH,J]
@[simp] theorem ad0 {k:Nat} {es:List (List D)}:elP (.aD k es)=some (k,es):=rfl
@[simp] theorem atb:elP (.val (.slice none 0 0))=some (0,[]):=rfl
theorem gO{n b:Nat}(ad:n*b≤140737488355328)(ae:n≤4611686018427387904):c7 n b=true:=by simp [c7,ad,ae]
section
variable{bt:Bool}{a b:Int}
@[simp] theorem yz:binP bt .lss (J a) (J b)=some (au (decide (a<b))):=rfl
@[simp] theorem Gm:binP bt .leq (J a) (J b)=some (au (decide (a≤b))):=rfl
@[simp] theorem l3:binP bt .gtr (J a) (J b)=some (au (decide (a>b))):=rfl
@[simp] theorem yA:binP bt .geq (J a) (J b)=some (au (decide (a≥b))):=rfl
@[simp] theorem yB:binP bt .eql (J a) (J b)=some (au (a==b)):=rfl
@[simp] theorem tz:binP bt .neq (J a) (J b)=some (au (a !=b)):=rfl
theorem Gn:binP bt .add (J a) (J b)=some (J (IntKind.i64.wrap (a+b))):=rfl
theorem Lg:binP bt .sub (J a) (J b)=some (J (IntKind.i64.wrap (a-b))):=rfl
theorem ad1:binP bt .mul (J a) (J b)=some (J (IntKind.i64.wrap (a*b))):=rfl
theorem ec(ad:-9223372036854775808≤a+b)(ae:a+b≤9223372036854775807):binP bt .add (J a) (J b)=some (J (a+b)):=by rw [Gn,wrap64 _ ad ae]
theorem lC(ad:-9223372036854775808≤a-b)(ae:a-b≤9223372036854775807):binP bt .sub (J a) (J b)=some (J (a-b)):=by rw [Lg,wrap64 _ ad ae]
theorem Gp(ad:-9223372036854775808≤a*b)(ae:a*b≤9223372036854775807):binP bt .mul (J a) (J b)=some (J (a*b)):=by rw [ad1,wrap64 _ ad ae]
theorem Sd(h:b≠0):binP bt .quo (J a) (J b)=some (J (IntKind.i64.wrap (a.tdiv b))):=by simp [binP,intBin,J,h,toDo]
theorem Bu(h:b≠0):binP bt .rem (J a) (J b)=some (J (a.tmod b)):=by simp [binP,intBin,J,h,toDo]
@[simp] theorem Lh {x y:ByteArray}:binP bt .eql (aJ x) (aJ y)=some (au (decide (x=y))):=rfl
@[simp] theorem Se {x y:ByteArray}:binP bt .neq (aJ x) (aJ y)=some (au (!decide (x=y))):=rfl
@[simp] theorem ad2 {x y:ByteArray}:binP bt .lss (aJ x) (aJ y)=some (au (blt x y)):=rfl
@[simp] theorem Li {x y:ByteArray}:binP bt .gtr (aJ x) (aJ y)=some (au (!(blt x y||decide (x=y)))):=rfl
@[simp] theorem atc {x y:Bool}:binP true .eql (au x) (au y)=some (au (x==y)):=rfl
@[simp] theorem atd {x y:Bool}:binP true .neq (au x) (au y)=some (au (x !=y)):=rfl
@[simp] theorem yC {x:Bool}:unP .not (au x)=some (au (!x)):=rfl
end
attribute [simp] List.getElem?_cons_zero List.getElem?_cons_succ List.getElem?_nil List.getD_cons_zero List.getD_cons_succ
theorem iterL_s{β:Type}{f:List D→Option (List D⊕β)}{n:Nat}{ls:List D}:bk f (n+1) ls=R (f ls) fun x=>match x with
  | .inl ek=>bk f n ek
  | .inr b=>some b:=rfl
theorem Sf{β:Type}{f:List D→Option (List D⊕β)}(dW:Nat→List D):∀{m n j:Nat},(∀i,j≤i→i<j+m→f (dW i)=some (.inl (dW (i+1))))→m≤n→bk f n (dW j)=bk f (n-m) (dW (j+m))
 |0,n,j,_,_=>rfl
 |m+1,0,j,_,h=>absurd h (by omega)
 |m+1,n+1,j,az,h=>by
  rw [iterL_s,az j (Nat.le_refl j) (by omega)]
  simp only [db]
  have:=Sf (f:=f) dW (m:=m) (n:=n) (j:=j+1) (fun i ad ae=>az i (by omega) (by omega)) (by omega)
  rw [this]
  congr 1
  ·omega
  ·congr 1;omega
theorem jM{β:Type}{f:List D→Option (List D⊕β)}{ls:List D}{n:Nat}{b:β}(dW:Nat→List D)(m:Nat)(ar:ls=dW 0)(az:∀i,i<m→f (dW i)=some (.inl (dW (i+1))))(he:f (dW m)=some (.inr b))(aI:m<n):bk f n ls=some b:=by
 subst ar
 rw [Sf dW (m:=m) (fun i _ h=>az i (by omega)) (by omega)]
 obtain ⟨k,ai⟩:∃k,n-m=k+1:=⟨n-m-1,by omega⟩
 rw [ai,iterL_s,Nat.zero_add,he]
 rfl
end Go.Am
