/- An evaluator of code over such values, and that what it answers the code does. No condition. -/
import Derived.Test.YtknmgdnhongcnaaGreatDoorEngS
set_option linter.all false
set_option linter.unnecessarySimpa false
namespace Go.Am
set_option linter.unusedVariables false
def R{α β:Type}(x:Option α)(f:α→Option β):Option β:=match x with
 |some a=>f a
 |none=>none
theorem ew{α β:Type}{x:Option α}{f:α→Option β}{b:β}(h:R x f=some b):∃a,x=some a∧f a=some b:=by
 cases x with
 |none=>cases h
 |some a=>exact ⟨a,rfl,h⟩
def aw{β:Type}(c:Bool)(p:Option β):Option β:=match c with
 |true=>p
 |false=>none
theorem kr{β:Type}{c:Bool}{p:Option β}{b:β}(h:aw c p=some b):c=true∧p=some b:=by
 cases c with
 |false=>cases h
 |true=>exact ⟨rfl,h⟩
def oif{β:Type}(x:D)(p q:Option β):Option β:=match x with
 | .val (.bool true)=>p
 | .val (.bool false)=>q
 |_=>none
theorem Rq{β:Type}{x:D}{p q:Option β}{b:β}(h:oif x p q=some b):(x= .val (.bool true)∧p=some b)∨(x= .val (.bool false)∧q=some b):=by
 unfold oif at h
 split at h
 ·exact .inl ⟨rfl,h⟩
 ·exact .inr ⟨rfl,h⟩
 ·cases h
def ja:D:= .val (.tuple #[])
def toDo:Option AV→Option D
 |some (.d r)=>some r
 |_=>none
theorem vj{x:Option AV}{r:D}(h:toDo x=some r):x=some (.d r):=by
 unfold toDo at h
 split at h
 ·cases h;rfl
 ·cases h
def celsD:D→List D
 | .agg cs=>cs
 |_=>[]
def aa(x:D)(i:Nat):D:=(celsD x).getD i ja
def esD:D→List (List D)
 | .aE _ es=>es
 |_=>[]
def fq:D→List (Value×D)
 | .mp es=>es
 |_=>[]
def bD(x:D):Bool:=x.one
def aK(n:Nat)(x:D):Bool:=match x with
 | .agg cs=>cs.length==n&&cs.all D.one
 |_=>false
def nilP(x:D):Bool:=match x with
 | .val (.slice none 0 0)=>true
 |_=>false
theorem acg{n:Nat}{x:D}(h:aK n x=true):∃cs,x= .agg cs∧cs.length=n∧cs.all D.one=true:=by
 unfold aK at h
 split at h
 ·rename_i cs
  rw [Bool.and_eq_true,beq_iff_eq] at h
  exact ⟨cs,rfl,h.1,h.2⟩
 ·cases h
theorem ach{n:Nat}{cs:List D}(h:cs.length=n):((List.range n).map fun i=>AV.d (aa (.agg cs) i))=cs.map .d:=by
 apply List.ext_getElem?
 intro i
 simp only [List.getElem?_map]
 by_cases af:i<n
 ·rw [List.getElem?_range af,List.getElem?_eq_getElem (by omega)]
  simp [aa,celsD,List.getD_eq_getElem?_getD,h,af]
 ·rw [List.getElem?_eq_none (by simp;omega),List.getElem?_eq_none (by omega)]
  rfl
def binP(bt:Bool)(op:BinOp)(x y:D):Option D:=
 match x,y with
 | .val (.int k a),.val (.int bg b)=>toDo (match op with
  | .shl=>if b<0 then none else some (.d (.val (.int k (k.wrap (a*2^(min b.toNat k.bits))))))
  | .shr=>if b<0 then none else some (.d (.val (.int k (a.fdiv (2^(min b.toNat k.bits))))))
  |_=>if k=bg then intBin op k a b else none)
 | .val (.string a),.val (.string b)=>toDo (JK op a b)
 | .val (.bool a),.val (.bool b)=>if bt then toDo (boolBin op a b) else none
 |_,_=>none
theorem aci{T:bY}{t:TypeId}{op:BinOp}{x y r:D}(h:binP (isBoolT T t) op x y=some r):binA T op t (.d x) (.d y)=some (.d r):=by
 unfold binP at h
 unfold binA
 split at h
 ·have:=vj h
  cases op<;>exact this
 ·exact vj h
 ·split at h
  ·rename_i ak;simp only [ak,if_true];exact vj h
  ·cases h
 ·cases h
def eqvP(l:List TypeDesc)(op:BinOp)(x y:D):Option D:=match x,y with
 | .agg xs,.agg cN=>toDo (JL op l xs cN)
 |_,_=>none
theorem acj{T:bY}{t:TypeId}{op:BinOp}{x y r:D}{l:List TypeDesc}(an:T.eqs t=some l)(h:eqvP l op x y=some r):binA T op t (.d x) (.d y)=some (.d r):=by
 unfold eqvP at h
 split at h
 ·unfold binA
  simp only [an]
  exact vj h
 ·cases h
def nileqP(op:BinOp)(x y:D):Option D:=match op with
 | .eql=>if nilP y then(match x with
  | .val (.slice none _ _)=>some (.val (.bool true))
  | .aE _ (_::_)=>some (.val (.bool false))
  |_=>none) else none
 | .neq=>if nilP y then(match x with
  | .val (.slice none _ _)=>some (.val (.bool false))
  | .aE _ (_::_)=>some (.val (.bool true))
  |_=>none) else none
 |_=>none
def unP(op:UnOp)(x:D):Option D:=match op,x with
 | .not,.val (.bool b)=>some (.val (.bool !b))
 | .neg,.val (.int k n)=>some (.val (.int k (k.wrap (0-n))))
 |_,_=>none
def cvP(k:IntKind)(x:D):Option D:=match x with
 | .val (.int _ n)=>some (.val (.int k (k.wrap n)))
 |_=>none
def cvsP(x:D):Option D:=match x with
 | .val (.string b)=>some (.val (.string b))
 |_=>none
def pickP(c a b:D):Option D:=match c with
 | .val (.bool t)=>some (if t then a else b)
 |_=>none
def aX(agg:Bool)(n off:Nat)(cs:List D):Option D:=match agg with
 |true=>if off+n≤cs.length then some (.agg ((cs.drop off).take n)) else none
 |false=>cs[off]?
def jT(agg:Bool)(n off:Nat)(x:D):Option D:=match x with
 | .agg cs=>aX agg n off cs
 |_=>none
def extP(i:Nat)(x:D):Option D:=match x with
 | .aL vs=>vs[i]?
 |_=>none
def sixP(s i:D):Option D:=match s,i with
 | .val (.string s),.val (.int _ n)=>toDo (Fh s n)
 |_,_=>none
def qv(x:Option D)(JP:Nat):Option Nat:=match x with
 |none=>some JP
 |some (.val (.int _ n))=>if 0≤n then some n.toNat else none
 |_=>none
theorem F8(x:Option D)(d:Nat):boundN (x.map .d) d=qv x d:=by
 cases x with
 |none=>rfl
 |some x=>cases x<;>first|rfl|(rename_i v;cases v<;>rfl)
def subsP(s:D)(lo af:Option D):Option D:=match s with
 | .val (.string s)=>match qv af s.size,qv lo 0 with
  |some h,some l=>if l≤h∧h≤s.size then some (.val (.string (s.extract l h))) else none
  |_,_=>none
 |_=>none
def nm(k:Nat)(x:D)(lo af:Option D):Option D:=match x with
 | .aE bg es=>match qv af es.length,qv lo 0 with
  |some h,some l=>if l≤h∧h≤es.length∧bg=k then some (.aE bg ((es.drop l).take (h-l))) else none
  |_,_=>none
 |_=>none
def np(n:Nat)(lo af:Option D):Option (Nat×Nat):=match qv af n,qv lo 0 with
 |some h,some l=>if l≤h∧h≤n then some (l,h-l) else none
 |_,_=>none
def nq(x:D):Option D:=match x with
 | .val (.string s)=>some (.val (.int .i64 s.size))
 |_=>none
def lenP(x:D):Option D:=match x with
 | .aE _ es=>some (.val (.int .i64 es.length))
 | .val (.slice _ n _)=>some (.val (.int .i64 n))
 |_=>none
def lenmP(x:D):Option D:=match x with
 | .val (.map none)=>some (.val (.int .i64 0))
 | .mp es=>some (.val (.int .i64 es.length))
 |_=>none
def a3(k:Nat)(x i:D):Option (List D):=match i with
 | .val (.int _ n)=>if 0≤n then(match x with
  | .aE bg es=>if bg=k then es[n.toNat]? else none
  |_=>none) else none
 |_=>none
def ct(n:Nat)(i:D):Option Nat:=match i with
 | .val (.int _ j)=>if 0≤j∧j<n then some j.toNat else none
 |_=>none
def elP(x:D):Option (Nat×List (List D)):=match x with
 | .aE k es=>some (k,es)
 | .val (.slice none 0 _)=>some (0,[])
 |_=>none
def jz(eS:Bool)(l:List D):Option D:=toDo (intMM eS (l.map .d))
def c2(n bytes:Nat):Bool:=decide (n*bytes≤140737488355328)&&decide (n≤4611686018427387904)
def makeP(bytes:Nat)(l c:D):Option Nat:=match l,c with
 | .val (.int _ l),.val (.int _ c)=>if 0≤l∧l≤c∧(bytes:Int)*c≤281474976710656∧c≤9223372036854775807 then some l.toNat else none
 |_,_=>none
def lookP(kind:TypeDesc)(zero:Value)(ok:Bool)(es:List (Value×D))(k:D):Option D:=match k with
 | .val dV=>match findD kind dV es with
  |some (some x)=>some (if ok then .aL [x,.val (.bool true)] else x)
  |some none=>some (if ok then .aL [zeroD zero,.val (.bool false)] else zeroD zero)
  |none=>none
 |_=>none
def kS(x:D):Option (List (Value×D)):=match x with
 | .val (.map none)=>some []
 | .mp es=>some es
 |_=>none
def o4(kind:TypeDesc)(es:List (Value×D))(k x:D):Option (List (Value×D)):=match k with
 | .val dV=>mapPut kind dV x es
 |_=>none
section
variable{β:Type}
def ogs:List AV→Option β→Option β
 |[],p=>p
 | .d a::r,p=>aw (bD a) (ogs r p)
 |x::r,p=>if x.one=true then ogs r p else none
theorem KI{p:Option β}{b:β}:∀{cs:List AV},ogs cs p=some b→cs.all AV.one=true∧p=some b
 |[],h=>⟨rfl,h⟩
 |x::r,h=>by
  unfold ogs at h
  split at h
  ·rename_i e;cases e
  ·rename_i a sZ mz e
   cases e
   obtain ⟨ad,ae⟩:=kr h
   obtain ⟨ax,aZ⟩:=KI ae
   exact ⟨by rw [List.all_cons,ax,Bool.and_true];exact ad,aZ⟩
  ·rename_i e
   cases e
   split at h
   ·rename_i ah
    obtain ⟨ax,aZ⟩:=KI h
    exact ⟨by rw [List.all_cons,ax,Bool.and_true];exact ah,aZ⟩
   ·cases h
def cellsX(n:Nat)(x:AV)(k:List AV→Option β):Option β:=match x with
 | .d a=>match n with
  |1=>aw (bD a) (k [.d a])
  |_=>aw (aK n a) (k ((List.range n).map fun i=> .d (aa a i)))
 | .agg cs=>ogs cs (k cs)
 |x=>match cellsOf x with
  |some cs=>k cs
  |none=>none
theorem F9{n:Nat}{x:AV}{k:List AV→Option β}{b:β}(h:cellsX n x k=some b):∃cs,cellsOf x=some cs∧k cs=some b:=by
 unfold cellsX at h
 split at h
 ·rename_i a
  split at h
  ·obtain ⟨ad,ae⟩:=kr h
   refine ⟨_,?_,ae⟩
   unfold bD at ad
   unfold cellsOf
   split
   ·rename_i he;cases he;cases ad
   ·rename_i he;cases he
   ·rw [if_pos (show AV.one (.d a)=true from ad)]
  ·obtain ⟨ad,ae⟩:=kr h
   obtain ⟨cs,rfl,aQ,aW⟩:=acg ad
   rw [ach aQ] at ae
   exact ⟨_,by simp only [cellsOf,aW,if_true],ae⟩
 ·obtain ⟨ad,ae⟩:=KI h
  exact ⟨_,by simp only [cellsOf,ad,if_true],ae⟩
 ·split at h
  ·rename_i cs gC;exact ⟨cs,gC,h⟩
  ·cases h
def fillX(place:Nat→Option (Nat×Nat))(cells:List AV):List (Nat×AV)→(List AV→Option β)→Option β
 |[],k=>k cells
 |(i,x)::rest,k=>match place i with
  |none=>none
  |some (off,size)=>cellsX size x fun cs=>if cs.length=size∧off+cs.length≤cells.length then fillX place (setSeg cells off cs) rest k else none
theorem Rr{place:Nat→Option (Nat×Nat)}:∀{parts:List (Nat×AV)} {cells:List AV} {k:List AV→Option β} {b:β},fillX place cells parts k=some b→∃cs,fillA place cells parts=some cs∧k cs=some b
 |[],cells,k,b,h=>⟨cells,rfl,h⟩
 |(i,x)::rest,cells,k,b,h=>by
  unfold fillX at h
  split at h
  ·cases h
  ·rename_i off size aV
   obtain ⟨cs,ad,ae⟩:=F9 h
   split at ae
   case isFalse=>cases ae
   rename_i aj
   obtain ⟨out,ax,aZ⟩:=Rr ae
   exact ⟨out,by unfold fillA;simp only [aV,ad];rw [if_pos aj];exact ax,aZ⟩
def partsX(size:Nat)(n:Nat):List (Nat×AV)→(List (List D)→Option β)→Option β
 |[],k=>k []
 |(i,x)::r,k=>if i=n then cellsX size x fun cs=>match allD cs with
   |some aD=>if aD.length=size then partsX size (n+1) r fun l=>k (aD::l) else none
   |none=>none
  else none
theorem Rs{size:Nat}:∀{parts:List (Nat×AV)} {n:Nat} {k:List (List D)→Option β} {b:β},partsX size n parts k=some b→∃es,partsD size n parts=some es∧k es=some b
 |[],n,k,b,h=>⟨[],rfl,h⟩
 |(i,x)::r,n,k,b,h=>by
  unfold partsX at h
  split at h
  case isFalse=>cases h
  rename_i af
  obtain ⟨cs,ad,ae⟩:=F9 h
  split at ae
  case h_2=>cases ae
  rename_i aD ec
  split at ae
  case isFalse=>cases ae
  rename_i an
  obtain ⟨es,ax,aZ⟩:=Rs ae
  exact ⟨aD::es,by unfold partsD;simp only [af,if_true,ad,ec,ax,an],aZ⟩
end
end Go.Am
namespace Go.Am
set_option linter.unusedVariables false
section
variable{β:Type}
def fbX(T:bY)(G:cT)(σ:St)(o:Oper)(k:St→Option β):Option β:=match stepA T G σ o with
 |some aR=>k aR
 |none=>none
def jb(σ:St)(dst:Option Tmp)(k:St→Option β)(p:Option D):Option β:=R p fun v=>k (σ.put dst (.d v))
def lk(T:bY)(σ:St)(dst:Option Tmp)(k:St→Option β)(r:AV)(b3:List (Key×cl)):Option β:=match bornR (T.born (dst.getD 9999)) (dst.getD 9999) (r,b3) with
 |(r,b3)=>k (St.put ⟨σ.aC,updO σ.objs b3⟩ dst r)
def optD:Option AV→Option (Option D)
 |none=>some none
 |some (.d a)=>some (some a)
 |_=>none
theorem Rt{x:Option AV}{y:Option D}(h:optD x=some y):x=y.map .d:=by
 unfold optD at h
 split at h<;>cases h<;>rfl
def isSl(T:bY)(t:TypeId):Bool:=match T t with
 |some ⟨.slice _,_,_,_⟩=>true
 |_=>false
def binX(T:bY)(G:cT)(σ:St)(o:Oper)(op:BinOp)(t:TypeId)(x y:Operand)(k:St→Option β):Option β:=
 match evA G σ.aC x,evA G σ.aC y with
 | .d a,.d b=>match isSl T t with
  |true=>jb σ o.dst k (nileqP op a b)
  |false=>match T.eqs t with
   |some l=>jb σ o.dst k (eqvP l op a b)
   |none=>jb σ o.dst k (binP (isBoolT T t) op a b)
 |_,_=>fbX T G σ o k
def fieldX(T:bY)(G:cT)(σ:St)(o:Oper)(s:TypeId)(x:Operand)(f:Nat)(k:St→Option β):Option β:=
 match fieldOf T s f with
 |some (off,i)=>match evA G σ.aC x with
  | .d a=>jb σ o.dst k (jT (ry i.desc) i.size off a)
  |_=>fbX T G σ o k
 |none=>none
def loadX(T:bY)(G:cT)(σ:St)(o:Oper)(t:TypeId)(a:Operand)(k:St→Option β):Option β:=
 match T t with
 |some i=>match evA G σ.aC a with
  | .dO cs off=>jb σ o.dst k (aX (ry i.desc) i.size off cs)
  | .fb key cx ej off=>match σ.objs key with
   |some (.row bg es)=>if cx=bg then R es[ej]? fun e=>jb σ o.dst k (aX (ry i.desc) i.size off e) else none
   |_=>none
  |_=>fbX T G σ o k
 |none=>none
def indexAddrX(T:bY)(G:cT)(σ:St)(o:Oper)(t:TypeId)(x ej:Operand)(k:St→Option β):Option β:=
 match T t with
 |some ⟨.slice e,_,_,_⟩=>match T e with
  |some bd=>match evA G σ.aC ej with
   | .d i=>match evA G σ.aC x with
    | .d a=>R (a3 bd.size a i) fun c=>k (σ.put o.dst (.dO c 0))
    | .row key=>match σ.objs key with
     |some (.row bg es)=>if bg=bd.size then R (ct es.length i) fun n=>k (σ.put o.dst (.fb key bg n 0)) else none
     |_=>none
    | .sub key bg i0 len=>if bg=bd.size then R (ct len i) fun n=>k (σ.put o.dst (.fb key bg (i0+n) 0)) else none
    |_=>none
   |_=>none
  |none=>none
 |some ⟨.array len e,_,_,_⟩=>match T e with
  |some bd=>match evA G σ.aC ej with
   | .d i=>R (ct len i) fun n=>match offPtr (evA G σ.aC x) (n*bd.size) with
    |some r=>k (σ.put o.dst r)
    |none=>none
   |_=>none
  |none=>none
 |_=>none
def sliceX(T:bY)(G:cT)(σ:St)(o:Oper)(t:TypeId)(x:Operand)(lo af:Option Operand)(k:St→Option β):Option β:=
 match optD (lo.map (evA G σ.aC)),optD (af.map (evA G σ.aC)) with
 |some l,some h=>match T t with
  |some ⟨.string,_,_,_⟩=>match evA G σ.aC x with
   | .d a=>jb σ o.dst k (subsP a l h)
   |_=>none
  |some ⟨.slice e,_,_,_⟩=>match T e with
   |some bd=>match evA G σ.aC x with
    | .d a=>jb σ o.dst k (nm bd.size a l h)
    | .row key=>match σ.objs key with
     |some (.row bg es)=>if bg=bd.size then R (np es.length l h) fun p=>k (σ.put o.dst (.sub key bg p.1 p.2)) else none
     |_=>none
    | .sub key bg i0 len=>if bg=bd.size then R (np len l h) fun p=>k (σ.put o.dst (.sub key bg (i0+p.1) p.2)) else none
    |_=>none
   |none=>none
  |_=>fbX T G σ o k
 |_,_=>none
def lenX(T:bY)(G:cT)(σ:St)(o:Oper)(args:List Operand)(dd:List TypeId)(k:St→Option β):Option β:=
 match dd,args with
 |[t],[x]=>match evA G σ.aC x with
  | .d a=>match T t with
   |some ⟨.string,_,_,_⟩=>jb σ o.dst k (nq a)
   |some ⟨.slice _,_,_,_⟩=>jb σ o.dst k (lenP a)
   |some ⟨.map _ _,_,_,_⟩=>jb σ o.dst k (lenmP a)
   |_=>none
  |_=>fbX T G σ o k
 |_,_=>none
def appX(T:bY)(G:cT)(σ:St)(o:Oper)(args:List Operand)(dd:List TypeId)(k:St→Option β):Option β:=
 match dd,args with
 |[t,t'],[s,x]=>match T t,T t',σ.objs (o.dst.getD 9999) with
  |some ⟨.slice e,_,_,_⟩,some ⟨.slice _,_,_,_⟩,none=>match T e with
   |some bd=>
    let go:Nat×List (List D)→Option β:=fun p=>aw (decide (p.1=bd.size∨p.2=[])&&decide (0<bd.size)) (match evA G σ.aC s with
     | .d a=>aw (nilP a&&c2 p.2.length bd.bytes) (lk T σ o.dst k (.row (o.dst.getD 9999)) [(o.dst.getD 9999,.row bd.size p.2)])
     | .row key=>match σ.objs key with
      |some (.row bg es)=>if bg=bd.size∧key<10000 then aw (c2 (es.length+p.2.length) bd.bytes) (lk T σ o.dst k (.row (o.dst.getD 9999)) [(key,.dead),(o.dst.getD 9999,.row bg (es++p.2))]) else none
      |_=>none
     |_=>none)
    match evA G σ.aC x with
    | .d a=>R (elP a) go
    | .sub key bg i len=>match σ.objs key with
     |some (.row qw es)=>if bg=qw then aw (decide (i+len≤es.length)) (go (bg,(es.drop i).take len)) else none
     |_=>none
    |y=>match elemsOf σ.objs y with
     |some p=>go p
     |none=>none
   |none=>none
  |_,_,_=>none
 |_,_=>none
def copyX(T:bY)(G:cT)(σ:St)(o:Oper)(args:List Operand)(dd:List TypeId)(k:St→Option β):Option β:=
 match dd,args with
 |[t,t'],[s,x]=>match T t with
  |some ⟨.slice e,_,_,_⟩=>match T e with
   |some bd=>
    let go:Nat×List (List D)→Option β:=fun p=>aw (decide (p.1=bd.size∨p.2=[])) (match evA G σ.aC s with
     | .row key=>match σ.objs key with
      |some (.row bg es)=>if bg=bd.size then lk T σ o.dst k (.d (.val (.int .i64 (min p.2.length es.length:Nat)))) [(key,.row bg (p.2.take (min p.2.length es.length)++es.drop (min p.2.length es.length)))] else none
      |_=>none
     | .sub key bg i len=>match σ.objs key with
      |some (.row qw es)=>if bg=bd.size∧qw=bg then aw (decide (i+len≤es.length)) (lk T σ o.dst k (.d (.val (.int .i64 (min p.2.length len:Nat)))) [(key,.row bg (es.take i++p.2.take (min p.2.length len)++es.drop (i+min p.2.length len)))]) else none
      |_=>none
     |_=>none)
    match evA G σ.aC x with
    | .d a=>R (elP a) go
    | .sub key bg i len=>match σ.objs key with
     |some (.row qw es)=>if bg=qw then aw (decide (i+len≤es.length)) (go (bg,(es.drop i).take len)) else none
     |_=>none
    |y=>match elemsOf σ.objs y with
     |some p=>go p
     |none=>none
   |none=>none
  |_=>none
 |_,_=>none
def lookX(T:bY)(G:cT)(σ:St)(o:Oper)(t:TypeId)(x i:Operand)(ok:Bool)(k:St→Option β):Option β:=
 match T t with
 |some ⟨.map gO ho,_,_,_⟩=>match T gO,T ho with
  |some gB,some bd=>if keyKind gB.desc then(match evA G σ.aC i with
   | .d dV=>match evA G σ.aC x with
    | .d m=>R (kS m) fun es=>jb σ o.dst k (lookP gB.desc bd.zero ok es dV)
    | .map key=>match σ.objs key with
     |some (.map es)=>jb σ o.dst k (lookP gB.desc bd.zero ok es dV)
     |_=>none
    |_=>none
   |_=>none) else none
  |_,_=>none
 |_=>none
def mapupX(T:bY)(G:cT)(σ:St)(o:Oper)(t:TypeId)(m i x:Operand)(k:St→Option β):Option β:=
 match T t with
 |some ⟨.map gO _,_,_,_⟩=>match T gO with
  |some gB=>if keyKind gB.desc then(match evA G σ.aC m,evA G σ.aC i,evA G σ.aC x with
   | .map key,.d dV,.d v=>match σ.objs key with
    |some (.map es)=>R (o4 gB.desc es dV v) fun l=>lk T σ o.dst k .any [(key,.map l)]
    |_=>none
   |_,_,_=>none) else none
  |none=>none
 |_=>none
def storeX(T:bY)(G:cT)(σ:St)(o:Oper)(t:TypeId)(a x:Operand)(k:St→Option β):Option β:=
 match T t with
 |some i=>cellsX i.size (evA G σ.aC x) fun cs=>if cs.length=i.size then(match evA G σ.aC a with
  | .ptr key off=>match σ.objs key with
   |some (.box cells)=>if off+cs.length≤cells.length then lk T σ o.dst k .any [(key,.box (setSeg cells off cs))] else none
   |_=>none
  | .fb key cx ej off=>match σ.objs key,allD cs with
   |some (.row bg es),some aD=>if cx=bg∧off+aD.length≤cx then R es[ej]? fun e=>lk T σ o.dst k .any [(key,.row cx (es.set ej (la e off aD)))] else none
   |_,_=>none
  |_=>none) else none
 |none=>none
def buildX(T:bY)(G:cT)(σ:St)(o:Oper)(t:TypeId)(parts:Array (Nat×Operand))(k:St→Option β):Option β:=
 match bplaces T t with
 |some (pl,z)=>fillX pl (zeroCells z) (parts.toList.map fun p=>(p.1,evA G σ.aC p.2)) fun out=>k (σ.put o.dst (yb out))
 |none=>none
def bsliceX(T:bY)(G:cT)(σ:St)(o:Oper)(t:TypeId)(n:Nat)(parts:Array (Nat×Operand))(k:St→Option β):Option β:=
 match T t,σ.objs (o.dst.getD 9999) with
 |some ⟨.slice e,_,_,_⟩,none=>match T e with
  |some bd=>partsX bd.size 0 (parts.toList.map fun p=>(p.1,evA G σ.aC p.2)) fun es=>if es.length=n∧0<bd.size∧n*bd.size≤16777216 then lk T σ o.dst k (.row (o.dst.getD 9999)) [(o.dst.getD 9999,.row bd.size es)] else none
  |none=>none
 |_,_=>none
def KJ(T:bY)(G:cT)(σ:St)(o:Oper)(t:TypeId)(l c:Operand)(k:St→Option β):Option β:=
 match T t,σ.objs (o.dst.getD 9999) with
 |some ⟨.slice e,_,_,_⟩,none=>match T e with
  |some bd=>match evA G σ.aC l,evA G σ.aC c with
   | .d l,.d c=>if bd.zero.cells.toList.all ju then R (makeP bd.bytes l c) fun n=>lk T σ o.dst k (.row (o.dst.getD 9999)) [(o.dst.getD 9999,.row bd.size (List.replicate n (bd.zero.cells.toList.map .val)))] else none
   |_,_=>none
  |none=>none
 |_,_=>none
def convX(T:bY)(G:cT)(σ:St)(o:Oper)(s t:TypeId)(x:Operand)(k:St→Option β):Option β:=
 match T s,T t,evA G σ.aC x with
 |some _,some ⟨.int i,_,_,_⟩,.d a=>jb σ o.dst k (cvP i a)
 |some _,some ⟨.string,_,_,_⟩,.d a=>jb σ o.dst k (cvsP a)
 |_,_,_=>fbX T G σ o k
def minmaxX(T:bY)(G:cT)(σ:St)(o:Oper)(eS:Bool)(args:List Operand)(k:St→Option β):Option β:=
 match allD (args.map (evA G σ.aC)) with
 |some aD=>jb σ o.dst k (jz eS aD)
 |none=>none
def gH:AV→AV→Option (D×D)
 | .d a,.d b=>some (a,b)
 |_,_=>none
theorem ack{x y:AV}{p:D×D}(h:gH x y=some p):x= .d p.1∧y= .d p.2:=by
 unfold gH at h
 split at h<;>cases h
 exact ⟨rfl,rfl⟩
theorem Ru{T:bY}{ev:Operand→AV}{c a b:Operand}{t:Bool}(aj:ev c= .d (.val (.bool t)))(h:gH (ev a) (ev b)=none):pureOp T ev (.pick c a b)=some (if t then ev a else ev b):=by
 simp only [pureOp,aj]
 generalize ev a=x at*
 generalize ev b=y at*
 split
 ·cases h
 ·rfl
def stepX(T:bY)(G:cT)(σ:St)(o:Oper)(k:St→Option β):Option β:=
 match o.op with
 | .binOp op t x y _=>binX T G σ o op t x y k
 | .unOp op _ x=>match evA G σ.aC x with
  | .d a=>jb σ o.dst k (unP op a)
  |_=>none
 | .convert s t x=>convX T G σ o s t x k
 | .pick c a b=>match evA G σ.aC c with
  | .d c=>match gH (evA G σ.aC a) (evA G σ.aC b) with
   |some p=>jb σ o.dst k (pickP c p.1 p.2)
   |none=>oif c (k (σ.put o.dst (evA G σ.aC a))) (k (σ.put o.dst (evA G σ.aC b)))
  |_=>none
 | .field s x f=>fieldX T G σ o s x f k
 | .extract x i=>match evA G σ.aC x with
  | .d a=>jb σ o.dst k (extP i a)
  |_=>fbX T G σ o k
 | .index t x i=>match T t with
  |some ⟨.string,_,_,_⟩=>match evA G σ.aC x,evA G σ.aC i with
   | .d a,.d b=>jb σ o.dst k (sixP a b)
   |_,_=>none
  |some ⟨.array len e,_,_,_⟩=>match T e with
   |some bd=>match evA G σ.aC x,evA G σ.aC i with
    | .d a,.d b=>R (ct len b) fun n=>jb σ o.dst k (jT (ry bd.desc) bd.size (n*bd.size) a)
    |_,_=>none
   |none=>none
  |_=>none
 | .load t a=>loadX T G σ o t a k
 | .indexAddr t x ej=>indexAddrX T G σ o t x ej k
 | .slice t x lo af none=>sliceX T G σ o t x lo af k
 | .lookup t x i ok=>lookX T G σ o t x i ok k
 | .mapUpdate t m i x=>mapupX T G σ o t m i x k
 | .insert t m i x=>mapupX T G σ o t m i x k
 | .store t a x=>storeX T G σ o t a x k
 | .build t parts=>buildX T G σ o t parts k
 | .buildSlice t n parts=>bsliceX T G σ o t n parts k
 | .makeSlice t l c=>KJ T G σ o t l c k
 | .box t x=>match T t,σ.objs (o.dst.getD 9999) with
  |some i,none=>cellsX i.size (evA G σ.aC x) fun cs=>lk T σ o.dst k (.ptr (o.dst.getD 9999) 0) [(o.dst.getD 9999,.box cs)]
  |_,_=>none
 | .call ⟨.builtin .len,args,dd⟩=>lenX T G σ o args.toList dd.toList k
 | .call ⟨.builtin .append,args,dd⟩=>appX T G σ o args.toList dd.toList k
 | .call ⟨.builtin .copy,args,dd⟩=>copyX T G σ o args.toList dd.toList k
 | .call ⟨.builtin .max,args,_⟩=>minmaxX T G σ o true args.toList k
 | .call ⟨.builtin .min,args,_⟩=>minmaxX T G σ o false args.toList k
 |_=>fbX T G σ o k
variable{T:bY}{G:cT}{σ:St}{o:Oper}{k:St→Option β}{b:β}
theorem tA(h:fbX T G σ o k=some b):∃aR,stepA T G σ o=some aR∧k aR=some b:=by
 unfold fbX at h
 split at h
 ·exact ⟨_,by assumption,h⟩
 ·cases h
theorem kT{r:AV}(h:pureOp T (evA G σ.aC) o.op=some r)(ai:k (σ.put o.dst r)=some b):∃aR,stepA T G σ o=some aR∧k aR=some b:=
 ⟨_,by unfold stepA;rw [h],ai⟩
theorem kt{r:AV}(aq:pureOp T (evA G σ.aC) o.op=none)(h:memOp T (evA G σ.aC) σ.objs o.op=some r)(ai:k (σ.put o.dst r)=some b):∃aR,stepA T G σ o=some aR∧k aR=some b:=
 ⟨_,by unfold stepA;rw [aq,h],ai⟩
theorem qx{r:AV}{b3:List (Key×cl)}(aq:pureOp T (evA G σ.aC) o.op=none)(ad:memOp T (evA G σ.aC) σ.objs o.op=none)(h:effOp0 T (evA G σ.aC) σ.objs (o.dst.getD 9999) o.op=some (r,b3))
  (ai:lk T σ o.dst k r b3=some b):∃aR,stepA T G σ o=some aR∧k aR=some b:=
 ⟨_,by unfold stepA;rw [aq,ad];unfold fF;rw [h];rfl,by unfold lk at ai;exact ai⟩
theorem acm{op:BinOp}{t:TypeId}{x y:Operand}{uO:TypeId}(az:o.op= .binOp op t x y uO)(h:binX T G σ o op t x y k=some b):∃aR,stepA T G σ o=some aR∧k aR=some b:=by
 unfold binX at h
 split at h
 ·rename_i a c aA aj
  split at h
  ·rename_i aB
   obtain ⟨v,ad,ae⟩:=ew h
   have Rv:∀{d},nilP d=true→d= .val (.slice none 0 0):=by
    intro d ay
    unfold nilP at ay
    split at ay
    ·rfl
    ·cases ay
   unfold isSl at aB
   split at aB
   case h_2=>cases aB
   rename_i aQ aW bA cz aG
   have ak:c= .val (.slice none 0 0)→pureOp T (evA G σ.aC) o.op=none:=by
    intro c4
    subst c4
    rw [az]
    simp only [pureOp,aA,aj,binA]
   unfold nileqP at ad
   split at ad
   ·split at ad
    case isFalse=>cases ad
    rename_i aJ
    have aJ:=Rv aJ
    subst aJ
    refine kt (r:= .d v) (ak rfl) ?_ ae
    rw [az]
    simp only [memOp,aG,aj,isNilS,if_true,aA,someS]
    split at ad<;>cases ad<;>simp
   ·split at ad
    case isFalse=>cases ad
    rename_i aJ
    have aJ:=Rv aJ
    subst aJ
    refine kt (r:= .d v) (ak rfl) ?_ ae
    rw [az]
    simp only [memOp,aG,aj,isNilS,if_true,aA,someS]
    split at ad<;>cases ad<;>simp
   ·cases ad
  ·split at h
   ·rename_i l an
    obtain ⟨v,ad,ae⟩:=ew h
    exact kT (by rw [az];simp only [pureOp,aA,aj];exact acj an ad) ae
   ·obtain ⟨v,ad,ae⟩:=ew h
    exact kT (by rw [az];simp only [pureOp,aA,aj];exact aci ad) ae
 ·exact tA h
theorem Ga{i:hn}{off:Nat}{cs:List D}{v:D}(h:aX (ry i.desc) i.size off cs=some v):pickD i cs off=some (.d v):=by
 unfold aX at h
 unfold pickD
 cases ay:ry i.desc with
 |true=>
  simp only [ay] at h
  simp only [if_true]
  split at h
  ·rename_i aj;rw [if_pos aj];cases h;rfl
  ·cases h
 |false=>
  simp only [ay] at h
  simp [h]
theorem acn{s:TypeId}{x:Operand}{f:Nat}(az:o.op= .field s x f)(h:fieldX T G σ o s x f k=some b):∃aR,stepA T G σ o=some aR∧k aR=some b:=by
 unfold fieldX at h
 split at h
 case h_2=>cases h
 rename_i off i a4
 split at h
 ·rename_i a aA
  obtain ⟨v,ad,ae⟩:=ew h
  unfold jT at ad
  split at ad
  case h_2=>cases ad
  exact kT (by rw [az];simp only [pureOp,a4,aA];exact Ga ad) ae
 ·exact tA h
theorem aco{t:TypeId}{a:Operand}(az:o.op= .load t a)(h:loadX T G σ o t a k=some b):∃aR,stepA T G σ o=some aR∧k aR=some b:=by
 unfold loadX at h
 split at h
 case h_2=>cases h
 rename_i i af
 split at h
 ·rename_i cs off aA
  obtain ⟨v,ad,ae⟩:=ew h
  exact kt (by rw [az];rfl) (by rw [az];simp only [memOp,af,aA];exact Ga ad) ae
 ·rename_i key cx ej off aA
  split at h
  case h_2=>cases h
  rename_i bg es ai
  split at h
  case isFalse=>cases h
  rename_i c1
  obtain ⟨e,ad,ae⟩:=ew h
  obtain ⟨v,ax,aZ⟩:=ew ae
  exact kt (by rw [az];rfl) (by rw [az];simp only [memOp,af,aA,ai,c1,if_true,ad];exact Ga ax) aZ
 ·exact tA h
theorem KK{n m:Nat}{i:D}(h:ct n i=some m):∃Gb j,i= .val (.int Gb j)∧0≤j∧j<n∧m=j.toNat:=by
 unfold ct at h
 split at h
 case h_2=>cases h
 split at h
 case isFalse=>cases h
 rename_i aj
 cases h
 exact ⟨_,_,rfl,aj.1,aj.2,rfl⟩
theorem acp{t:TypeId}{x ej:Operand}(az:o.op= .indexAddr t x ej)(h:indexAddrX T G σ o t x ej k=some b):∃aR,stepA T G σ o=some aR∧k aR=some b:=by
 unfold indexAddrX at h
 split at h
 ·rename_i e s1 s2 iD aG
  split at h
  case h_2=>cases h
  rename_i bd he
  split at h
  case h_2=>cases h
  rename_i i af
  split at h
  ·rename_i a aA
   obtain ⟨c,ad,ae⟩:=ew h
   unfold a3 at ad
   split at ad
   case h_2=>cases ad
   split at ad
   case isFalse=>cases ad
   rename_i aJ
   split at ad
   case h_2=>cases ad
   split at ad
   case isFalse=>cases ad
   rename_i ai
   exact kt (by rw [az];rfl) (by rw [az];simp only [memOp,aG,af,he,aA,aJ,ai,if_true,ad]) ae
  ·rename_i key aA
   split at h
   case h_2=>cases h
   rename_i bg es ai
   split at h
   case isFalse=>cases h
   rename_i c1
   obtain ⟨n,ad,ae⟩:=ew h
   obtain ⟨Gb,j,rfl,a2,bb,rfl⟩:=KK ad
   exact kt (by rw [az];rfl) (by rw [az];simp only [memOp,aG,af,he,aA,a2,if_true,ai,c1,bb,and_self]) (c1▸ae)
  ·rename_i key bg i0 len aA
   split at h
   case isFalse=>cases h
   rename_i c1
   obtain ⟨n,ad,ae⟩:=ew h
   obtain ⟨Gb,j,rfl,a2,bb,rfl⟩:=KK ad
   exact kt (by rw [az];rfl) (by rw [az];simp only [memOp,aG,af,he,aA,a2,if_true,c1,bb,and_self]) (c1▸ae)
  ·cases h
 ·rename_i len e s1 s2 iD aG
  split at h
  case h_2=>cases h
  rename_i bd he
  split at h
  case h_2=>cases h
  rename_i i af
  obtain ⟨n,ad,ae⟩:=ew h
  obtain ⟨Gb,j,rfl,a2,bb,rfl⟩:=KK ad
  split at ae
  case h_2=>cases ae
  rename_i r au
  exact kt (by rw [az];rfl) (by rw [az];simp only [memOp,aG,af,he,a2,bb,and_self,if_true];exact au) ae
 ·cases h
theorem acq{t:TypeId}{x:Operand}{lo af:Option Operand}(az:o.op= .slice t x lo af none)(h:sliceX T G σ o t x lo af k=some b):∃aR,stepA T G σ o=some aR∧k aR=some b:=by
 unfold sliceX at h
 split at h
 case h_2=>cases h
 rename_i l bp an tB
 have an:=Rt an
 have tB:=Rt tB
 split at h
 ·rename_i s1 s2 iD aG
  split at h
  case h_2=>cases h
  rename_i a aA
  obtain ⟨v,ad,ae⟩:=ew h
  unfold subsP at ad
  split at ad
  case h_2=>cases ad
  split at ad
  case h_2=>cases ad
  rename_i br bj
  split at ad
  case isFalse=>cases ad
  rename_i aj
  cases ad
  exact kT (by rw [az];simp only [pureOp,aG,aA,an,tB,F8,br,bj];rw [if_pos aj]) ae
 ·rename_i e s1 s2 iD aG
  split at h
  case h_2=>cases h
  rename_i bd he
  split at h
  ·rename_i a aA
   obtain ⟨v,ad,ae⟩:=ew h
   unfold nm at ad
   split at ad
   case h_2=>cases ad
   split at ad
   case h_2=>cases ad
   rename_i br bj
   split at ad
   case isFalse=>cases ad
   rename_i aj
   cases ad
   exact kt (by rw [az];simp only [pureOp,aG]) (by rw [az];simp only [memOp,aG,he,aA,lenA,an,tB,F8,br,bj];rw [if_pos ⟨aj.1,aj.2.1⟩,if_pos aj.2.2]) ae
  ·rename_i key aA
   split at h
   case h_2=>cases h
   rename_i bg es ai
   split at h
   case isFalse=>cases h
   rename_i c1
   obtain ⟨p,ad,ae⟩:=ew h
   unfold np at ad
   split at ad
   case h_2=>cases ad
   rename_i br bj
   split at ad
   case isFalse=>cases ad
   rename_i aj
   cases ad
   exact kt (by rw [az];simp only [pureOp,aG]) (by rw [az];simp only [memOp,aG,he,aA,lenA,ai,an,tB,F8,br,bj];rw [if_pos aj,if_pos c1]) ae
  ·rename_i key bg i0 len aA
   split at h
   case isFalse=>cases h
   rename_i c1
   obtain ⟨p,ad,ae⟩:=ew h
   unfold np at ad
   split at ad
   case h_2=>cases ad
   rename_i br bj
   split at ad
   case isFalse=>cases ad
   rename_i aj
   cases ad
   exact kt (by rw [az];simp only [pureOp,aG]) (by rw [az];simp only [memOp,aG,he,aA,lenA,an,tB,F8,br,bj];rw [if_pos aj,if_pos c1]) ae
  ·cases h
 ·exact tA h
theorem acr{args:Array Operand}{dd:Array TypeId}(az:o.op= .call ⟨.builtin .len,args,dd⟩)(h:lenX T G σ o args.toList dd.toList k=some b):∃aR,stepA T G σ o=some aR∧k aR=some b:=by
 unfold lenX at h
 split at h
 case h_2=>cases h
 rename_i t x aQ aW
 have aV:pureOp T (evA G σ.aC) o.op=none:=by rw [az];rfl
 split at h
 ·rename_i a aA
  split at h
  ·rename_i s1 s2 iD aG
   obtain ⟨v,ad,ae⟩:=ew h
   unfold nq at ad
   split at ad<;>cases ad
   exact kt aV (by rw [az];simp only [memOp,aQ,aW,aG,aA]) ae
  ·rename_i e s1 s2 iD aG
   obtain ⟨v,ad,ae⟩:=ew h
   unfold lenP at ad
   split at ad<;>cases ad
   ·exact kt aV (by rw [az];simp only [memOp,aQ,aW,aG,aA,lenA]) ae
   ·exact kt aV (by rw [az];simp only [memOp,aQ,aW,aG,aA,lenA]) ae
  ·rename_i br bj s1 s2 iD aG
   obtain ⟨v,ad,ae⟩:=ew h
   unfold lenmP at ad
   split at ad<;>cases ad
   ·exact kt aV (by rw [az];simp only [memOp,aQ,aW,aG,aA]) ae
   ·exact kt aV (by rw [az];simp only [memOp,aQ,aW,aG,aA]) ae
  ·cases h
 ·exact tA h
theorem Rw{a:D}{p:Nat×List (List D)}(h:elP a=some p)(objs:b6):elemsOf objs (.d a)=some p:=by
 unfold elP at h
 split at h<;>cases h<;>rfl
theorem acs{args:Array Operand}{dd:Array TypeId}(az:o.op= .call ⟨.builtin .append,args,dd⟩)(h:appX T G σ o args.toList dd.toList k=some b):∃aR,stepA T G σ o=some aR∧k aR=some b:=by
 unfold appX at h
 split at h
 case h_2=>cases h
 rename_i t t' s x aQ aW
 split at h
 case h_2=>cases h
 rename_i e s1 s2 iD cX atA atB atC aG rE ay
 split at h
 case h_2=>cases h
 rename_i bd he
 have aV:pureOp T (evA G σ.aC) o.op=none:=by rw [az];rfl
 have hm:memOp T (evA G σ.aC) σ.objs o.op=none:=by rw [az];rfl
 have key:∀p:Nat×List (List D),elemsOf σ.objs (evA G σ.aC x)=some p→aw (decide (p.1=bd.size∨p.2=[])&&decide (0<bd.size)) (match evA G σ.aC s with
     | .d a=>aw (nilP a&&c2 p.2.length bd.bytes) (lk T σ o.dst k (.row (o.dst.getD 9999)) [(o.dst.getD 9999,.row bd.size p.2)])
     | .row key=>match σ.objs key with
      |some (.row bg es)=>if bg=bd.size∧key<10000 then aw (c2 (es.length+p.2.length) bd.bytes) (lk T σ o.dst k (.row (o.dst.getD 9999)) [(key,.dead),(o.dst.getD 9999,.row bg (es++p.2))]) else none
      |_=>none
     |_=>none)=some b→∃aR,stepA T G σ o=some aR∧k aR=some b:=by
  rintro ⟨cx,xs⟩ eu h
  obtain ⟨aq,h⟩:=kr h
  simp only [Bool.and_eq_true,decide_eq_true_eq] at aq
  split at h
  ·rename_i a aA
   obtain ⟨ad,h⟩:=kr h
   simp only [Bool.and_eq_true,c2,decide_eq_true_eq] at ad
   have aJ:a= .val (.slice none 0 0):=by
    have:=ad.1
    unfold nilP at this
    split at this
    ·rfl
    ·cases this
   have ae:=ad.2
   clear ad
   refine qx aV hm ?_ h
   rw [az]
   simp only [effOp0,aQ,aW,aG,rE,ay,he,eu,aA,aJ]
   rw [if_pos aq,if_pos ae]
  ·rename_i key aA
   split at h
   case h_2=>cases h
   rename_i bg es ai
   split at h
   case isFalse=>cases h
   rename_i c1
   obtain ⟨ad,h⟩:=kr h
   simp only [Bool.and_eq_true,c2,decide_eq_true_eq] at ad
   refine qx aV hm ?_ h
   rw [az]
   simp only [effOp0,aQ,aW,aG,rE,ay,he,eu,aA,ai]
   rw [if_pos aq,if_pos ⟨c1.1,ad.1,ad.2,c1.2⟩]
  ·cases h
 simp only at h
 split at h
 ·rename_i a aA
  obtain ⟨p,ad,ae⟩:=ew h
  exact key p (by rw [aA];exact Rw ad _) ae
 ·rename_i acu bg i len aA
  split at h
  case h_2=>cases h
  rename_i qw es ai
  split at h
  case isFalse=>cases h
  rename_i c1
  obtain ⟨ad,ae⟩:=kr h
  have eu:elemsOf σ.objs (evA G σ.aC x)=some (bg,(es.drop i).take len):=by
   rw [aA]
   simp only [elemsOf,ai]
   rw [if_pos ⟨c1,of_decide_eq_true ad⟩]
  exact key (bg,(es.drop i).take len) eu ae
 ·split at h
  case h_2=>cases h
  rename_i p aV
  exact key p aV h
theorem acv{args:Array Operand}{dd:Array TypeId}(az:o.op= .call ⟨.builtin .copy,args,dd⟩)(h:copyX T G σ o args.toList dd.toList k=some b):∃aR,stepA T G σ o=some aR∧k aR=some b:=by
 unfold copyX at h
 split at h
 case h_2=>cases h
 rename_i t t' s x aQ aW
 split at h
 case h_2=>cases h
 rename_i e s1 s2 iD aG
 split at h
 case h_2=>cases h
 rename_i bd he
 have aV:pureOp T (evA G σ.aC) o.op=none:=by rw [az];rfl
 have hm:memOp T (evA G σ.aC) σ.objs o.op=none:=by rw [az];rfl
 have key:∀p:Nat×List (List D),elemsOf σ.objs (evA G σ.aC x)=some p→aw (decide (p.1=bd.size∨p.2=[])) (match evA G σ.aC s with
     | .row key=>match σ.objs key with
      |some (.row bg es)=>if bg=bd.size then lk T σ o.dst k (.d (.val (.int .i64 (min p.2.length es.length:Nat)))) [(key,.row bg (p.2.take (min p.2.length es.length)++es.drop (min p.2.length es.length)))] else none
      |_=>none
     | .sub key bg i len=>match σ.objs key with
      |some (.row qw es)=>if bg=bd.size∧qw=bg then aw (decide (i+len≤es.length)) (lk T σ o.dst k (.d (.val (.int .i64 (min p.2.length len:Nat)))) [(key,.row bg (es.take i++p.2.take (min p.2.length len)++es.drop (i+min p.2.length len)))]) else none
      |_=>none
     |_=>none)=some b→∃aR,stepA T G σ o=some aR∧k aR=some b:=by
  rintro ⟨cx,xs⟩ eu h
  obtain ⟨aq,h⟩:=kr h
  simp only [decide_eq_true_eq] at aq
  split at h
  ·rename_i key aA
   split at h
   case h_2=>cases h
   rename_i bg es ai
   split at h
   case isFalse=>cases h
   rename_i c1
   refine qx aV hm ?_ h
   rw [az]
   simp only [effOp0,aQ,aW,aG,he,eu,aA,ai]
   rw [if_pos aq,if_pos c1]
  ·rename_i key bg i len aA
   split at h
   case h_2=>cases h
   rename_i qw es ai
   split at h
   case isFalse=>cases h
   rename_i c1
   obtain ⟨ad,h⟩:=kr h
   simp only [decide_eq_true_eq] at ad
   refine qx aV hm ?_ h
   rw [az]
   simp only [effOp0,aQ,aW,aG,he,eu,aA,ai]
   rw [if_pos aq,if_pos ⟨c1.1,c1.2,ad⟩]
  ·cases h
 simp only at h
 split at h
 ·rename_i a aA
  obtain ⟨p,ad,ae⟩:=ew h
  exact key p (by rw [aA];exact Rw ad _) ae
 ·rename_i acu bg i len aA
  split at h
  case h_2=>cases h
  rename_i qw es ai
  split at h
  case isFalse=>cases h
  rename_i c1
  obtain ⟨ad,ae⟩:=kr h
  have eu:elemsOf σ.objs (evA G σ.aC x)=some (bg,(es.drop i).take len):=by
   rw [aA]
   simp only [elemsOf,ai]
   rw [if_pos ⟨c1,of_decide_eq_true ad⟩]
  exact key (bg,(es.drop i).take len) eu ae
 ·split at h
  case h_2=>cases h
  rename_i p aV
  exact key p aV h
theorem Rx{gB bd:hn}{t gO ho:TypeId}{s1 s2:Nat}{iD:Value}(aG:T t=some ⟨.map gO ho,s1,s2,iD⟩)(ad:T gO=some gB)(ae:T ho=some bd)(ai:keyKind gB.desc=true){ok:Bool}{es:List (Value×D)}{dV v:D}
  (h:lookP gB.desc bd.zero ok es dV=some v):∃u,dV= .val u∧lookupD T t es u ok=some (.d v):=by
 unfold lookP at h
 split at h
 case h_2=>cases h
 rename_i u
 refine ⟨u,rfl,?_⟩
 unfold lookupD
 simp only [aG,ad,ae,ai,if_true]
 split at h
 ·rename_i x ah;cases h;simp only [ah]
 ·rename_i ah;cases h;simp only [ah]
 ·cases h
theorem acw{t:TypeId}{x i:Operand}{ok:Bool}(az:o.op= .lookup t x i ok)(h:lookX T G σ o t x i ok k=some b):∃aR,stepA T G σ o=some aR∧k aR=some b:=by
 unfold lookX at h
 split at h
 case h_2=>cases h
 rename_i gO ho s1 s2 iD aG
 split at h
 case h_2=>cases h
 rename_i gB bd ad ae
 split at h
 case isFalse=>cases h
 rename_i ai
 split at h
 case h_2=>cases h
 rename_i dV AL
 split at h
 ·rename_i m hm
  obtain ⟨es,a2,bb⟩:=ew h
  obtain ⟨v,bJ,ek⟩:=ew bb
  obtain ⟨u,rfl,h8⟩:=Rx aG ad ae ai bJ
  refine kt (by rw [az];rfl) ?_ ek
  rw [az]
  simp only [memOp,AL,hm]
  unfold kS at a2
  split at a2<;>cases a2<;>exact h8
 ·rename_i key hm
  split at h
  case h_2=>cases h
  rename_i es ku
  obtain ⟨v,bJ,ek⟩:=ew h
  obtain ⟨u,rfl,h8⟩:=Rx aG ad ae ai bJ
  refine kt (by rw [az];rfl) ?_ ek
  rw [az]
  simp only [memOp,AL,hm,ku,h8]
 ·cases h
theorem Ry{t:TypeId}{m i x:Operand}(az:o.op= .mapUpdate t m i x∨o.op= .insert t m i x)(h:mapupX T G σ o t m i x k=some b):∃aR,stepA T G σ o=some aR∧k aR=some b:=by
 unfold mapupX at h
 split at h
 case h_2=>cases h
 rename_i gO ho s1 s2 iD aG
 split at h
 case h_2=>cases h
 rename_i gB ad
 split at h
 case isFalse=>cases h
 rename_i ai
 split at h
 case h_2=>cases h
 rename_i key dV v aQ aW bA
 split at h
 case h_2=>cases h
 rename_i es ku
 obtain ⟨l,a2,bb⟩:=ew h
 unfold o4 at a2
 split at a2
 case h_2=>cases a2
 rcases az with az|az<;>
 ·refine qx (by rw [az];rfl) (by rw [az];rfl) ?_ bb
  rw [az]
  simp only [effOp0,aG,ad,ai,if_true,aQ,aW,bA,ku,a2]
theorem acx{t:TypeId}{a x:Operand}(az:o.op= .store t a x)(h:storeX T G σ o t a x k=some b):∃aR,stepA T G σ o=some aR∧k aR=some b:=by
 unfold storeX at h
 split at h
 case h_2=>cases h
 rename_i i af
 obtain ⟨cs,ad,ae⟩:=F9 h
 split at ae
 case isFalse=>cases ae
 rename_i an
 split at ae
 ·rename_i key off aA
  split at ae
  case h_2=>cases ae
  rename_i cells ai
  split at ae
  case isFalse=>cases ae
  rename_i aj
  refine qx (by rw [az];rfl) (by rw [az];rfl) ?_ ae
  rw [az]
  simp only [effOp0,af,ad,aA,ai]
  rw [if_pos an,if_pos aj]
 ·rename_i key cx ej off aA
  split at ae
  case h_2=>cases ae
  rename_i bg es aD ai ec
  split at ae
  case isFalse=>cases ae
  rename_i aj
  obtain ⟨e,a2,bb⟩:=ew ae
  refine qx (by rw [az];rfl) (by rw [az];rfl) ?_ bb
  rw [az]
  simp only [effOp0,af,ad,aA,ai,ec,a2]
  rw [if_pos an,if_pos aj]
 ·cases ae
theorem acy{t:TypeId}{parts:Array (Nat×Operand)}(az:o.op= .build t parts)(h:buildX T G σ o t parts k=some b):∃aR,stepA T G σ o=some aR∧k aR=some b:=by
 unfold buildX at h
 split at h
 case h_2=>cases h
 rename_i pl z ak
 obtain ⟨cs,ad,ae⟩:=Rr h
 exact kT (by rw [az];simp only [pureOp,buildA,ak,ad]) ae
theorem acz{t:TypeId}{n:Nat}{parts:Array (Nat×Operand)}(az:o.op= .buildSlice t n parts)(h:bsliceX T G σ o t n parts k=some b):∃aR,stepA T G σ o=some aR∧k aR=some b:=by
 unfold bsliceX at h
 split at h
 case h_2=>cases h
 rename_i e s1 s2 iD aG ay
 split at h
 case h_2=>cases h
 rename_i bd he
 obtain ⟨es,ad,ae⟩:=Rs h
 split at ae
 case isFalse=>cases ae
 rename_i aj
 refine qx (by rw [az];rfl) (by rw [az];rfl) ?_ ae
 rw [az]
 simp only [effOp0,aG,ay,he,ad]
 rw [if_pos aj]
theorem acA{t:TypeId}{l c:Operand}(az:o.op= .makeSlice t l c)(h:KJ T G σ o t l c k=some b):∃aR,stepA T G σ o=some aR∧k aR=some b:=by
 unfold KJ at h
 split at h
 case h_2=>cases h
 rename_i e s1 s2 iD aG ay
 split at h
 case h_2=>cases h
 rename_i bd he
 split at h
 case h_2=>cases h
 rename_i oS hb an aj
 split at h
 case isFalse=>cases h
 rename_i bz
 obtain ⟨n,ad,ae⟩:=ew h
 unfold makeP at ad
 split at ad
 case h_2=>cases ad
 split at ad
 case isFalse=>cases ad
 rename_i k9
 cases ad
 refine qx (by rw [az];rfl) (by rw [az];rfl) ?_ ae
 rw [az]
 simp only [effOp0,aG,ay,he,an,aj]
 rw [if_pos ⟨k9.1,k9.2.1,k9.2.2.1,k9.2.2.2,bz⟩]
theorem acB{s t:TypeId}{x:Operand}(az:o.op= .convert s t x)(h:convX T G σ o s t x k=some b):∃aR,stepA T G σ o=some aR∧k aR=some b:=by
 unfold convX at h
 split at h
 ·rename_i q i s1 s2 iD a aB aG ah
  obtain ⟨v,ad,ae⟩:=ew h
  unfold cvP at ad
  split at ad<;>cases ad
  exact kT (by rw [az];simp only [pureOp,aB,aG,ah]) ae
 ·rename_i q s1 s2 iD a aB aG ah
  obtain ⟨v,ad,ae⟩:=ew h
  unfold cvsP at ad
  split at ad<;>cases ad
  exact kT (by rw [az];simp only [pureOp,aB,aG,ah]) ae
 ·exact tA h
theorem yC(h:stepX T G σ o k=some b):∃aR,stepA T G σ o=some aR∧k aR=some b:=by
 unfold stepX at h
 split at h
 ·exact acm (by assumption) h
 ·rename_i az
  split at h
  ·rename_i a aA
   obtain ⟨v,ad,ae⟩:=ew h
   unfold unP at ad
   split at ad<;>cases ad
   ·exact kT (by rw [az];simp only [pureOp,aA]) ae
   ·exact kT (by rw [az];simp only [pureOp,aA]) ae
  ·cases h
 ·exact acB (by assumption) h
 ·rename_i c x y az
  split at h
  case h_2=>cases h
  rename_i hb aj
  split at h
  ·rename_i p aV
   obtain ⟨aA,ak⟩:=ack aV
   obtain ⟨v,ad,ae⟩:=ew h
   unfold pickP at ad
   split at ad<;>cases ad
   rename_i t
   refine kT ?_ ae
   rw [az]
   simp only [pureOp,aj,aA,ak]
   split
   ·rename_i aQ aW;simp only [AV.d.injEq] at aQ aW;rw [aQ,aW];cases t<;>rfl
   ·cases t<;>rfl
  ·rename_i aV
   rcases Rq h with⟨rfl,ad⟩|⟨rfl,ad⟩
   ·exact kT (by rw [az];exact Ru aj aV) ad
   ·exact kT (by rw [az];exact Ru aj aV) ad
 ·exact acn (by assumption) h
 ·rename_i x i az
  split at h
  ·rename_i a aA
   obtain ⟨v,ad,ae⟩:=ew h
   unfold extP at ad
   split at ad
   case h_2=>cases ad
   exact kT (by rw [az];simp only [pureOp,aA,ad]) ae
  ·exact tA h
 ·rename_i t x i az
  split at h
  ·rename_i s1 s2 iD aG
   split at h
   case h_2=>cases h
   rename_i a c aA aj
   obtain ⟨v,ad,ae⟩:=ew h
   unfold sixP at ad
   split at ad
   case h_2=>cases ad
   exact kT (by rw [az];simp only [pureOp,aG,aA,aj];exact vj ad) ae
  ·rename_i len e s1 s2 iD aG
   split at h
   case h_2=>cases h
   rename_i bd hW
   split at h
   case h_2=>cases h
   rename_i a c aA aj
   obtain ⟨n,a2,h⟩:=ew h
   obtain ⟨v,ad,ae⟩:=ew h
   unfold ct at a2
   split at a2
   case h_2=>cases a2
   split at a2
   case isFalse=>cases a2
   rename_i aJ
   cases a2
   unfold jT at ad
   split at ad
   case h_2=>cases ad
   exact kT (by rw [az];simp only [pureOp,aG,aA,aj];rw [if_pos aJ];simp only [hW];exact Ga ad) ae
  ·cases h
 ·exact aco (by assumption) h
 ·exact acp (by assumption) h
 ·exact acq (by assumption) h
 ·exact acw (by assumption) h
 ·rename_i az;exact Ry (.inl az) h
 ·rename_i az;exact Ry (.inr az) h
 ·exact acx (by assumption) h
 ·exact acy (by assumption) h
 ·exact acz (by assumption) h
 ·exact acA (by assumption) h
 ·rename_i t x az
  split at h
  case h_2=>cases h
  rename_i i af ay
  obtain ⟨cs,ad,ae⟩:=F9 h
  exact qx (by rw [az];rfl) (by rw [az];rfl) (by rw [az];simp only [effOp0,ad,ay]) ae
 ·exact acr (by assumption) h
 ·exact acs (by assumption) h
 ·exact acv (by assumption) h
 ·rename_i args dd az
  unfold minmaxX at h
  split at h
  case h_2=>cases h
  rename_i aD ec
  obtain ⟨v,ad,ae⟩:=ew h
  exact kT (by rw [az];simp only [pureOp,ya ec];exact vj ad) ae
 ·rename_i args dd az
  unfold minmaxX at h
  split at h
  case h_2=>cases h
  rename_i aD ec
  obtain ⟨v,ad,ae⟩:=ew h
  exact kT (by rw [az];simp only [pureOp,ya ec];exact vj ad) ae
 ·exact tA h
end
end Go.Am
namespace Go.Am
set_option linter.unusedVariables false
section
variable{β:Type}
abbrev kU:=Tmp→FuncId→List D→Option D
def callX(G:cT)(C:kU)(σ:St)(o:Oper)(x:Operand)(args:List Operand)(k:St→Option β):Option β:=
 match calleeA (evA G σ.aC x) with
 |some (f,pre,post)=>match allSome ((pre++args.map (evA G σ.aC)++post).map (toD σ.objs)) with
  |some aD=>R (C (o.dst.getD 9999) f aD) fun r=>aw ((pre++args.map (evA G σ.aC)++post).all isDA||r.flat) (k (σ.put o.dst (.d r)))
  |none=>none
 |none=>none
def opX(T:bY)(G:cT)(C:kU)(σ:St)(o:Oper)(k:St→Option β):Option β:=
 match o.op with
 | .call ⟨.value x,args,_⟩=>callX G C σ o x args.toList k
 |_=>stepX T G σ o k
def qy(T:bY)(G:cT)(C:kU):List Oper→St→(St→Option β)→Option β
 |[],σ,k=>k σ
 |o::r,σ,k=>opX T G C σ o fun aR=>qy T G C r aR k
def groups:List Oper→List (Option (Nat×Bool)×List Oper)
 |[]=>[]
 |o::r=>match groups r with
  |(g,os)::rest=>if g=o.guard then(g,o::os)::rest else(o.guard,[o])::(g,os)::rest
  |[]=>[(o.guard,[o])]
def gD(x:D)(want:Bool)(p:Option D):Option D:=match x with
 | .val (.bool b)=>if b=want then p else some ja
 | .val (.tuple _)=>some ja
 |_=>none
def vk{dJ:Type}(x:D)(want:Bool)(p q:Option dJ):Option dJ:=match x with
 | .val (.bool b)=>if b=want then p else q
 | .val (.tuple _)=>q
 |_=>none
def KL:List Oper→St→St
 |[],σ=>σ
 |o::r,σ=>KL r (σ.put o.dst (.d ja))
def lastDst:List Oper→Option Tmp
 |[]=>none
 |[o]=>o.dst
 |_::r=>lastDst r
def dstsOf(os:List Oper):List Tmp:=os.filterMap (·.dst)
def still(o:Oper):Bool:=hf o.op||hC o.op||fW o.op
def tC(ts:List Tmp)(v:D)(σ:St):St:=⟨fun t=>if t∈ts then .d (aa v (ts.idxOf t)) else σ.aC t,σ.objs⟩
def slD(σ:St):List Tmp→Option (List D)
 |[]=>some []
 |t::r=>match σ.aC t,slD σ r with
  | .d v,some l=>some (v::l)
  |_,_=>none
def kept(all:Array Oper)(os l:List Oper):List Tmp:=(dstsOf os).filter fun t=>l.any fun o=>(o.looksAt all).contains t
theorem Rz{σ:St}:∀{ts:List Tmp} {l:List D},slD σ ts=some l→l.length=ts.length∧∀(i:Nat) (t:Tmp),ts[i]?=some t→∃v,l[i]?=some v∧σ.aC t= .d v
 |[],l,h=>by cases h;exact ⟨rfl,fun i t h=>by simp at h⟩
 |t::r,l,h=>by
  unfold slD at h
  split at h
  case h_2=>cases h
  rename_i v oS aM an
  cases h
  have ih:=Rz an
  refine ⟨by simp [ih.1],fun i u hu=>?_⟩
  cases i with
  |zero=>simp at hu;subst hu;exact ⟨v,rfl,aM⟩
  |succ i=>exact ih.2 i u (by simpa using hu)
theorem acC{σ:St}{ts:List Tmp}{l:List D}(h:slD σ ts=some l){t:Tmp}(aG:t∈ts):σ.aC t= .d (aa (.agg l) (ts.idxOf t)):=by
 have ad:ts[ts.idxOf t]?=some t:=by
  have:=List.idxOf_lt_length_of_mem aG
  rw [List.getElem?_eq_getElem this,List.getElem_idxOf]
 obtain ⟨v,ae,ax⟩:=(Rz h).2 _ t ad
 rw [ax]
 congr 1
 show v=l.getD _ _
 simp [List.getD,ae]
def jU(aD:List Tmp)(σ:St):St:=⟨fun t=>if t∈aD then .any else σ.aC t,σ.objs⟩
def blind(all:Array Oper)(aD:List Tmp)(l:List Oper):Bool:=l.all fun o=>aD.all fun d=>!(o.looksAt all).contains d&&o.dst !=some d
def RA(all:Array Oper)(d bu:Tmp)(os l:List Oper):Bool:=os.all (fun o=>still o&&o.dst !=some d)&&blind all ((dstsOf os).filter (·!=bu)) l
def flat(gs:List (Option (Nat×Bool)×List Oper)):List Oper:=gs.flatMap (·.2)
def execG(T:bY)(G:cT)(C:kU)(all:Array Oper):List (Option (Nat×Bool)×List Oper)→St→(St→Option β)→Option β
 |[],σ,k=>k σ
 |(none,os)::r,σ,k=>qy T G C os σ fun aR=>execG T G C all r aR k
 |(some (j,want),os)::r,σ,k=>match(all[j]?).bind (·.dst),lastDst os with
  |some d,some bu=>match σ.aC d with
   | .d x=>if RA all d bu os (flat r)=true then
     R (gD x want (qy T G C os σ fun aR=>match aR.aC bu with
      | .d v=>some v
      |_=>none)) fun v=>execG T G C all r ((jU (dstsOf os) σ).put (some bu) (.d v)) k
    else if os.all (fun o=>o.dst !=some d)=true then vk x want (qy T G C os σ fun aR=>execG T G C all r aR k) (execG T G C all r (KL os σ) k) else none
   |_=>none
  |_,_=>none
def RB(T:bY)(G:cT)(C:kU)(all:Array Oper)(σ:St)(k:St→Option β):Option β:=execG T G C all (groups all.toList) σ k
def isStore:Op→Bool
 | .store _ _ _=>true
 |_=>false
def lfree(all:Array Oper)(listed:Array Bool)(i:Nat):Bool:=match all[i]? with
 |none=>false
 |some eg=>((waits all i).all fun j=>!listed.getD j true&&match all[j]? with
   |some cC=>cC.after.any fun e=>Region.binds .any e&&(e.on==i||(waits all i).contains e.on)
   |none=>false)&&(List.range all.size).all fun j=>j==i||listed.getD j true||(waits all i).contains j||match all[j]? with
   |some cC=>eg.apart all cC&&!isStore cC.op
   |none=>true
def lfreeX(all:Array Oper)(listed:Array Bool)(i:Nat)(σ:St)(o:Oper):Bool:=match o.op with
 | .load _ (.tmp a)=>match σ.aC a with
  | .ptr _ _=>lfree all listed i
  |_=>false
 |_=>false
def vl(all:Array Oper)(listed:Array Bool)(i:Nat):List Oper:=(List.range all.size).filterMap fun j=>if j==i||listed.getD j true||(waits all i).contains j then none else all[j]?
def KM(all:Array Oper)(listed:Array Bool)(i:Nat)(aC:Nat→AV)(o:Oper):Bool:=
 ((waits all i).all fun j=>!listed.getD j true&&match all[j]? with
   |some cC=>cC.after.any fun e=>Region.binds .any e&&(e.on==i||(waits all i).contains e.on)
   |none=>false)&&(vl all listed i).all fun y=>o.apart all y&&okPair aC o y&&(xT o.op++(vl all listed i).flatMap fun y=>addrT y.op).all fun t=>y.dst !=some t
def ordX(T:bY)(G:cT)(C:kU)(all:Array Oper):List Nat→Array Bool→St→(St→Option β)→Option β
 |[],listed,σ,k=>if(Region.ready .any all listed).isEmpty=true then k σ else none
 |i::r,listed,σ,k=>match all[i]? with
  |some o=>if o.guard=none∧(Region.ready .any all listed).contains i=true∧(aa3 all listed i||lfreeX all listed i σ o||KM all listed i σ.aC o||QU T all listed i)=true then opX T G C σ o fun aR=>ordX T G C all r (listed.setIfInBounds i true) aR k else none
  |none=>none
def fI(P:Program)(G:cT)(C:kU):Prop:=∀d f aD r,C d f aD=some r→dq P G f aD (·=r)
theorem tD:∀l:List Oper,flat (groups l)=l
 |[]=>rfl
 |o::r=>by
  have ih:=tD r
  unfold groups
  split
  ·rename_i g os rest bx
   rw [bx] at ih
   split<;>simp_all [flat]
  ·rename_i bx
   rw [bx] at ih
   simp [flat] at ih
   subst ih
   rfl
theorem Gc:∀(l:List Oper) (g:Option (Nat×Bool)) (os:List Oper),(g,os)∈groups l→∀o∈os,o.guard=g
 |[],g,os,h=>by cases h
 |o::r,g,os,h=>by
  have ih:=Gc r
  unfold groups at h
  split at h
  ·rename_i oW acD rest bx
   split at h
   ·rename_i he
    rcases List.mem_cons.1 h with ad|ad
    ·cases ad
     intro q bL
     rcases List.mem_cons.1 bL with rfl|bL
     ·exact he.symm
     ·exact ih g acD (by rw [bx];simp) q bL
    ·exact ih g os (by rw [bx];simp [ad])
   ·rcases List.mem_cons.1 h with ad|ad
    ·cases ad
     intro q bL
     simp at bL;subst bL;rfl
    ·exact ih g os (by rw [bx];exact ad)
  ·simp at h
   obtain ⟨rfl,rfl⟩:=h
   intro q bL
   simp at bL;subst bL;rfl
variable{P:Program}{T:bY}{G:cT}{C:kU}{σ:St}{all:Array Oper}
theorem Gd(bV:fI P G C){o:Oper}{x:Operand}{args:Array Operand}{dd:Array TypeId}(az:o.op= .call ⟨.value x,args,dd⟩){k:St→Option β}{b:β}(h:callX G C σ o x args.toList k=some b):
  vDo P T G o (fun aR=>k aR=some b∧aR.objs=σ.objs∧∀t,o.dst≠some t→aR.aC t=σ.aC t) σ:=by
 have dj:fW o.op=true:=by rw [az];rfl
 rw [lK (rL dj)]
 unfold callX at h
 unfold vCall
 rw [az]
 simp only
 split at h
 case h_2=>cases h
 rename_i f pre post fG
 simp only [fG]
 split at h
 case h_2=>cases h
 rename_i aD ec
 obtain ⟨r,ad,ae⟩:=ew h
 obtain ⟨ae,ax⟩:=kr ae
 refine ⟨aD,aD,(·=r),ec,oU.refl _,bV _ _ _ _ ad,⟨r,rfl⟩,?_,?_⟩
 ·rcases Bool.or_eq_true_iff.1 ae with ae|ae
  ·exact .inr ae
  ·exact .inl (by rintro _ rfl;exact ae)
 ·rintro _ rfl
  refine ⟨ax,by simp,?_⟩
  intro t aG
  cases ay:o.dst with
  |none=>rfl
  |some d=>rw [ay] at aG;simp only [St.put];exact cq _ _ (fun e=>aG (by rw [e]))
theorem RC(bV:fI P G C){o:Oper}{k:St→Option β}{b:β}(h:opX T G C σ o k=some b):vDo P T G o (fun aR=>k aR=some b) σ:=by
 unfold opX at h
 split at h
 ·exact n9 (fun _ h=>h.1) (Gd bV (by assumption) h)
 ·obtain ⟨aR,ad,ae⟩:=yC h
  unfold vDo
  rw [ad]
  exact ae
theorem o5{dst:Option Tmp}{r:AV}{t:Tmp}(aG:dst≠some t):(σ.put dst r).aC t=σ.aC t:=by
 cases dst with
 |none=>rfl
 |some d=>simp only [St.put];exact cq _ _ (fun e=>aG (by rw [e]))
theorem RD(bV:fI P G C){o:Oper}(aB:still o=true){k:St→Option β}{b:β}(h:opX T G C σ o k=some b):
  vDo P T G o (fun aR=>k aR=some b∧aR.objs=σ.objs∧∀t,o.dst≠some t→aR.aC t=σ.aC t) σ:=by
 unfold opX at h
 split at h
 ·exact Gd bV (by assumption) h
 ·rename_i RE
  obtain ⟨aR,ad,ae⟩:=yC h
  unfold vDo
  rw [ad]
  have acE:fF T (evA G σ.aC) σ.objs (o.dst.getD 9999) o.op=none:=by
   unfold still at aB
   simp only [Bool.or_eq_true] at aB
   rcases aB with(aB|aB)|aB
   ·exact (yp aB).2
   ·exact yq aB
   ·exact (Kn aB).2.2
  unfold stepA at ad
  split at ad
  ·cases ad;exact ⟨ae,by simp,fun t aG=>o5 aG⟩
  ·split at ad
   ·cases ad;exact ⟨ae,by simp,fun t aG=>o5 aG⟩
   ·rw [acE] at ad;cases ad
theorem kV{l:List Oper}:∀{σ:St} {K K':St→Prop},(∀σ,K σ→K' σ)→vOps P T G all l K σ→vOps P T G all l K' σ:=by
 induction l with
 |nil=>intro σ K K' ai h;exact ai _ h
 |cons o l ih=>intro σ K K' ai h;exact A5 (fun aR bh=>ih ai bh) h
theorem KN{l r:List Oper}:∀{σ:St} {K:St→Prop},vOps P T G all l (vOps P T G all r K) σ→vOps P T G all (l++r) K σ:=by
 induction l with
 |nil=>intro σ K h;exact h
 |cons o l ih=>intro σ K h;exact A5 (fun aR bh=>ih bh) h
def mH(σ τ:St):Prop:=σ.objs=τ.objs∧∀t,τ.aC t= .any∨σ.aC t=τ.aC t
theorem mH.refl(σ:St):mH σ σ:=⟨rfl,fun _=> .inr rfl⟩
theorem mH.trans{σ τ vf:St}(h:mH σ τ)(bh:mH τ vf):mH σ vf:=by
 refine ⟨h.1.trans bh.1,fun t=>?_⟩
 rcases bh.2 t with ae|ae
 ·exact .inl ae
 ·rcases h.2 t with ad|ad
  ·exact .inl (ae▸ad)
  ·exact .inr (ad.trans ae)
theorem mH.Bg{σ τ:St}(h:mH σ τ):fR σ τ:=by
 obtain ⟨s,o⟩:=σ
 obtain ⟨s',o'⟩:=τ
 obtain ⟨ad,ae⟩:=h
 simp only at ad ae
 subst ad
 intro m fr ρ ac w cu
 refine ⟨m,ρ,Mem.le_refl m,⟨cu.mem,cu.frame,cu.apart,cu.one,?_,cu.objs,cu.own,cu.sep⟩,fun k ai ak=>⟨ak,rfl⟩⟩
 intro t
 rcases ae t with h|h
 ·simp only [h];exact .any _
 ·have:=cu.aC t
  simp only at this⊢
  rw [←h];exact this
theorem RF{d:Tmp}{r:AV}:∀{l:List Oper} {σ:St} {K:St→Prop},(∀o∈l,d∉o.looksAt all∧o.dst≠some d)→vOps P T G all l K (σ.put (some d) r)=vOps P T G all l (fun aR=>K (aR.put (some d) r)) σ
 |[],σ,K,h=>rfl
 |o::l,σ,K,h=>by
  have aq:=h o (by simp)
  have ih:∀{σ:St},vOps P T G all l K (σ.put (some d) r)=vOps P T G all l (fun aR=>K (aR.put (some d) r)) σ:=RF fun o' mF=>h o' (by simp [mF])
  unfold vOps
  rw [vOp_eq,vOp_eq,mA (by rintro _ ⟨⟩;exact aq.1)]
  cases hw:wantA all σ o with
  |none=>rfl
  |some w=>
   cases w with
   |true=>
    simp only
    rw [hQ (all:=all) (by rintro _ ⟨⟩;exact aq.1) (by rintro _ ⟨⟩;exact aq.2)]
    simp only [ih]
   |false=>
    simp only
    rw [←ih,put_comm (by rintro _ ⟨⟩;exact aq.2)]
theorem acF{d:Tmp}{a:AV}{l:List Oper}{σ:St}{K:St→Prop}(fV:∀σ τ,mH σ τ→K τ→K σ)(an:∀o∈l,d∉o.looksAt all∧o.dst≠some d)(h:vOps P T G all l K (σ.put (some d) .any)):vOps P T G all l K (σ.put (some d) a):=by
 rw [RF an] at h⊢
 refine kV (fun aR bh=>fV _ _ ?_ bh) h
 refine ⟨rfl,fun t=>?_⟩
 by_cases aG:t=d
 ·subst aG;exact .inl (by simp [St.put])
 ·exact .inr (by simp [St.put,cq _ _ aG])
theorem KO{l:List Oper}{K:St→Prop}(fV:∀σ τ,mH σ τ→K τ→K σ):∀(aD:List Tmp) {σ τ:St},(∀d∈aD,∀o∈l,d∉o.looksAt all∧o.dst≠some d)→(∀t,t∉aD→σ.aC t=τ.aC t)→(∀d∈aD,τ.aC d= .any∨σ.aC d=τ.aC d)→σ.objs=τ.objs→
  vOps P T G all l K τ→vOps P T G all l K σ
 |[],σ,τ,_,ad,ae,ax,h=>by
  have:σ=τ:=by
   cases σ;cases τ
   simp only at ad ax
   subst ax
   congr 1
   funext t
   exact ad t (by simp)
  rw [this];exact h
 |d::aD,σ,τ,ak,ad,ae,ax,h=>by
  by_cases ay:τ.aC d= .any
  ·have e:τ=τ.put (some d) .any:=by
    cases τ
    simp only [St.put]
    congr 1
    funext t
    by_cases aG:t=d
    ·subst aG;simp only [dW];exact ay
    ·rw [cq _ _ aG]
   rw [e] at h
   have bh:=acF (a:=σ.aC d) fV (fun o az=>ak d (by simp) o az) h
   refine KO (τ:=τ.put (some d) (σ.aC d)) fV aD (fun od hr=>ak od (by simp [hr])) ?_ ?_ ax bh
   ·intro t aG
    by_cases rQ:t=d
    ·subst rQ;simp [St.put]
    ·simp only [St.put,cq _ _ rQ];exact ad t (by simp [rQ,aG])
   ·intro od hr
    by_cases rQ:od=d
    ·subst rQ;simp [St.put]
    ·simp only [St.put,cq _ _ rQ];exact ae od (by simp [hr])
  ·refine KO fV aD (fun od hr=>ak od (by simp [hr])) ?_ (fun od hr=>ae od (by simp [hr])) ax h
   intro t aG
   by_cases rQ:t=d
   ·subst rQ
    rcases ae t (by simp) with aZ|aZ
    ·exact absurd aZ ay
    ·exact aZ
   ·exact ad t (by simp [rQ,aG])
theorem RG(bV:fI P G C):∀{os:List Oper} {σ:St} {k:St→Option β} {b:β},(∀o∈os,o.guard=none)→qy T G C os σ k=some b→vOps P T G all os (fun aR=>k aR=some b) σ
 |[],σ,k,b,_,h=>h
 |o::os,σ,k,b,bx,h=>by
  unfold vOps vOp
  rw [bx o (by simp)]
  exact n9 (fun aR bh=>RG bV (fun o az=>bx o (by simp [az])) bh) (RC bV h)
theorem RH(bV:fI P G C){j:Nat}{want:Bool}{d:Tmp}(ay:(all[j]?).bind (·.dst)=some d):∀{os:List Oper} {σ:St} {k:St→Option β} {b:β},(∀o∈os,o.guard=some (j,want))→(∀o∈os,still o=true∧o.dst≠some d)→σ.aC d= .d (.val (.bool want))→
  qy T G C os σ k=some b→vOps P T G all os (fun aR=>k aR=some b∧aR.objs=σ.objs∧∀t,t∉dstsOf os→aR.aC t=σ.aC t) σ
 |[],σ,k,b,_,_,_,h=>⟨h,rfl,fun _ _=>rfl⟩
 |o::os,σ,k,b,bx,aB,hw,h=>by
  have aq:=aB o (by simp)
  unfold vOps vOp
  rw [bx o (by simp)]
  simp only [ay,hw,if_true]
  refine n9 ?_ (RD bV aq.1 h)
  rintro aR ⟨ad,ae,ax⟩
  refine kV ?_ (RH bV ay (fun o az=>bx o (by simp [az])) (fun o az=>aB o (by simp [az])) (by rw [ax d aq.2];exact hw) ad)
  rintro o2 ⟨a2,bb,bJ⟩
  refine ⟨a2,bb.trans ae,?_⟩
  intro t aG
  have nr:t∉dstsOf os:=fun aj=>aG (by
   unfold dstsOf at aj⊢
   simp only [List.filterMap_cons]
   cases o.dst<;>simp [aj])
  have vm:o.dst≠some t:=fun aj=>aG (by unfold dstsOf;simp [aj])
  rw [bJ t nr,ax t vm]
theorem Bh{j:Nat}{want:Bool}{d:Tmp}(ay:(all[j]?).bind (·.dst)=some d):∀{os:List Oper} {σ:St},(∀o∈os,o.guard=some (j,want))→(∀o∈os,o.dst≠some d)→(σ.aC d= .d (.val (.bool (!want)))∨∃vs,σ.aC d= .d (.val (.tuple vs)))→
  vOps P T G all os (fun aR=>aR.objs=σ.objs∧(∀t,t∉dstsOf os→aR.aC t=σ.aC t)∧∀bu,lastDst os=some bu→aR.aC bu= .d ja) σ
 |[],σ,_,_,_=>⟨rfl,fun _ _=>rfl,by intro bu h;cases h⟩
 |o::os,σ,bx,aB,hw=>by
  have aq:=aB o (by simp)
  unfold vOps
  have key:vOps P T G all os (fun aR=>aR.objs=σ.objs∧(∀t,t∉dstsOf (o::os)→aR.aC t=σ.aC t)∧∀bu,lastDst (o::os)=some bu→aR.aC bu= .d ja) (σ.put o.dst (.d (.val (.tuple #[])))):=by
   have Bi:(σ.put o.dst (.d (.val (.tuple #[])))).aC d= .d (.val (.bool (!want)))∨∃vs,(σ.put o.dst (.d (.val (.tuple #[])))).aC d= .d (.val (.tuple vs)):=by rw [o5 aq];exact hw
   refine kV ?_ (Bh ay (fun o az=>bx o (by simp [az])) (fun o az=>aB o (by simp [az])) Bi)
   rintro aR ⟨ad,ae,ax⟩
   refine ⟨ad.trans (by simp),?_,?_⟩
   ·intro t aG
    have nr:t∉dstsOf os:=fun aj=>aG (by
     unfold dstsOf at aj⊢
     simp only [List.filterMap_cons]
     cases o.dst<;>simp [aj])
    have vm:o.dst≠some t:=fun aj=>aG (by unfold dstsOf;simp [aj])
    rw [ae t nr,o5 vm]
   ·intro bu an
    cases os with
    |nil=>
     simp only [lastDst] at an
     rw [ae bu (by simp [dstsOf]),an]
     simp [St.put,ja]
    |cons q atD=>exact ax bu an
  unfold vOp
  rw [bx o (by simp)]
  simp only [ay]
  rcases hw with hw|⟨vs,hw⟩
  ·simp only [hw]
   rw [if_neg (by cases want<;>simp)]
   exact key
  ·simp only [hw]
   exact key
theorem KP{j:Nat}{want:Bool}{d:Tmp}(ay:(all[j]?).bind (·.dst)=some d):∀{os:List Oper} {σ:St},(∀o∈os,o.guard=some (j,want))→(∀o∈os,o.dst≠some d)→(σ.aC d= .d (.val (.bool (!want)))∨∃vs,σ.aC d= .d (.val (.tuple vs)))→
  vOps P T G all os (fun aR=>aR.objs=σ.objs∧(∀t,t∉dstsOf os→aR.aC t=σ.aC t)∧∀t∈dstsOf os,aR.aC t= .d ja) σ
 |[],σ,_,_,_=>⟨rfl,fun _ _=>rfl,by intro t h;cases h⟩
 |o::os,σ,bx,aB,hw=>by
  have aq:=aB o (by simp)
  unfold vOps
  have key:vOps P T G all os (fun aR=>aR.objs=σ.objs∧(∀t,t∉dstsOf (o::os)→aR.aC t=σ.aC t)∧∀t∈dstsOf (o::os),aR.aC t= .d ja) (σ.put o.dst (.d (.val (.tuple #[])))):=by
   have Bi:(σ.put o.dst (.d (.val (.tuple #[])))).aC d= .d (.val (.bool (!want)))∨∃vs,(σ.put o.dst (.d (.val (.tuple #[])))).aC d= .d (.val (.tuple vs)):=by rw [o5 aq];exact hw
   refine kV ?_ (KP ay (fun o az=>bx o (by simp [az])) (fun o az=>aB o (by simp [az])) Bi)
   rintro aR ⟨ad,ae,ax⟩
   refine ⟨ad.trans (by simp),?_,?_⟩
   ·intro t aG
    have nr:t∉dstsOf os:=fun aj=>aG (by
     unfold dstsOf at aj⊢
     simp only [List.filterMap_cons]
     cases o.dst<;>simp [aj])
    have vm:o.dst≠some t:=fun aj=>aG (by unfold dstsOf;simp [aj])
    rw [ae t nr,o5 vm]
   ·intro t aG
    by_cases nr:t∈dstsOf os
    ·exact ax t nr
    ·have jc:o.dst=some t:=by
      unfold dstsOf at aG nr
      simp only [List.filterMap_cons] at aG
      cases az:o.dst with
      |none=>rw [az] at aG;exact absurd aG nr
      |some u=>
       rw [az] at aG
       rcases List.mem_cons.1 aG with rfl|h
       ·rfl
       ·exact absurd h nr
     rw [ae t nr,jc]
     simp [St.put,ja]
  unfold vOp
  rw [bx o (by simp)]
  simp only [ay]
  rcases hw with hw|⟨vs,hw⟩
  ·simp only [hw]
   rw [if_neg (by cases want<;>simp)]
   exact key
  ·simp only [hw]
   exact key
theorem acG(bV:fI P G C){o:Oper}{k:St→Option β}{b:β}(h:opX T G C σ o k=some b):
  vDo P T G o (fun aR=>k aR=some b∧∀t,o.dst≠some t→aR.aC t=σ.aC t) σ:=by
 unfold opX at h
 split at h
 ·exact n9 (fun _ h=>⟨h.1,h.2.2⟩) (Gd bV (by assumption) h)
 ·obtain ⟨aR,ad,ae⟩:=yC h
  unfold vDo
  rw [ad]
  refine ⟨ae,fun t aG=>?_⟩
  unfold stepA at ad
  split at ad
  ·cases ad;exact o5 aG
  ·split at ad
   ·cases ad;exact o5 aG
   ·split at ad
    ·cases ad;exact o5 aG
    ·cases ad
theorem RI(bV:fI P G C){j:Nat}{want:Bool}{d:Tmp}(ay:(all[j]?).bind (·.dst)=some d):∀{os:List Oper} {σ:St} {k:St→Option β} {b:β},(∀o∈os,o.guard=some (j,want))→(∀o∈os,o.dst≠some d)→σ.aC d= .d (.val (.bool want))→
  qy T G C os σ k=some b→vOps P T G all os (fun aR=>k aR=some b) σ
 |[],σ,k,b,_,_,_,h=>h
 |o::os,σ,k,b,bx,aB,hw,h=>by
  unfold vOps vOp
  rw [bx o (by simp)]
  simp only [ay,hw,if_true]
  refine n9 ?_ (acG bV h)
  rintro aR ⟨ad,ax⟩
  exact RI bV ay (fun o az=>bx o (by simp [az])) (fun o az=>aB o (by simp [az])) (by rw [ax d (aB o (by simp))];exact hw) ad
theorem KQ{j:Nat}{want:Bool}{d:Tmp}(ay:(all[j]?).bind (·.dst)=some d){K:St→Prop}:∀{os:List Oper} {σ:St},(∀o∈os,o.guard=some (j,want))→(∀o∈os,o.dst≠some d)→(σ.aC d= .d (.val (.bool (!want)))∨∃vs,σ.aC d= .d (.val (.tuple vs)))→
  K (KL os σ)→vOps P T G all os K σ
 |[],σ,_,_,_,h=>h
 |o::os,σ,bx,aB,hw,h=>by
  have aq:=aB o (by simp)
  have Bi:(σ.put o.dst (.d (.val (.tuple #[])))).aC d= .d (.val (.bool (!want)))∨∃vs,(σ.put o.dst (.d (.val (.tuple #[])))).aC d= .d (.val (.tuple vs)):=by rw [o5 aq];exact hw
  have key:vOps P T G all os K (σ.put o.dst (.d (.val (.tuple #[])))):=KQ ay (fun o az=>bx o (by simp [az])) (fun o az=>aB o (by simp [az])) Bi h
  unfold vOps vOp
  rw [bx o (by simp)]
  simp only [ay]
  rcases hw with hw|⟨vs,hw⟩
  ·simp only [hw]
   rw [if_neg (by cases want<;>simp)]
   exact key
  ·simp only [hw]
   exact key
theorem RJ:∀{os:List Oper} {bu:Tmp},lastDst os=some bu→bu∈dstsOf os
 |[],bu,h=>by cases h
 |[o],bu,h=>by simp only [lastDst] at h;simp [dstsOf,h]
 |o::q::r,bu,h=>by
  have:=RJ (os:=q::r) h
  unfold dstsOf at this⊢
  rw [List.filterMap_cons]
  cases o.dst<;>simp [this]
theorem yD(bV:fI P G C){K:St→Prop}(fV:∀σ τ,mH σ τ→K τ→K σ):∀{gs:List (Option (Nat×Bool)×List Oper)} {σ:St} {k:St→Option β} {b:β},(∀g∈gs,∀o∈g.2,o.guard=g.1)→(∀aR,k aR=some b→K aR)→execG T G C all gs σ k=some b→vOps P T G all (flat gs) K σ
 |[],σ,k,b,_,ai,h=>ai _ h
 |(none,os)::r,σ,k,b,bx,ai,h=>by
  show vOps P T G all (os++flat r) K σ
  refine KN (kV ?_ (RG bV (fun o az=>bx (none,os) (by simp) o az) h))
  intro aR bh
  exact yD bV fV (fun g hm=>bx g (by simp [hm])) ai bh
 |(some (j,want),os)::r,σ,k,b,bx,ai,h=>by
  show vOps P T G all (os++flat r) K σ
  unfold execG at h
  split at h
  case h_2=>cases h
  rename_i d bu ay vn
  split at h
  case h_2=>cases h
  rename_i x ah
  split at h
  case isFalse=>
   split at h
   case isFalse=>cases h
   rename_i jA
   simp only [List.all_eq_true,bne_iff_ne,ne_eq] at jA
   have km:∀o∈os,o.guard=some (j,want):=fun o az=>bx (some (j,want),os) (by simp) o az
   unfold vk at h
   refine KN ?_
   split at h
   ·rename_i lJ
    split at h
    ·rename_i ak
     subst ak
     exact kV (fun aR bh=>yD bV fV (fun g hm=>bx g (by simp [hm])) ai bh) (RI bV ay km jA ah h)
    ·rename_i ak
     exact KQ ay km jA (.inl (by rw [ah];cases lJ<;>cases want<;>simp_all)) (yD bV fV (fun g hm=>bx g (by simp [hm])) ai h)
   ·exact KQ ay km jA (.inr ⟨_,ah⟩) (yD bV fV (fun g hm=>bx g (by simp [hm])) ai h)
   ·cases h
  rename_i a7
  simp only [RA,Bool.and_eq_true,List.all_eq_true,bne_iff_ne,ne_eq,blind,List.mem_filter,Bool.not_eq_true',List.contains_eq_mem,decide_eq_false_iff_not] at a7
  obtain ⟨KR,acH⟩:=a7
  obtain ⟨v,ad,ae⟩:=ew h
  have km:∀o∈os,o.guard=some (j,want):=fun o az=>bx (some (j,want),os) (by simp) o az
  have rest:=yD bV fV (fun g hm=>bx g (by simp [hm])) ai ae
  have fin:∀aR:St,aR.objs=σ.objs→(∀t,t∉dstsOf os→aR.aC t=σ.aC t)→aR.aC bu= .d v→vOps P T G all (flat r) K aR:=by
   intro aR aQ aW bA
   refine KO fV ((dstsOf os).filter (·!=bu)) ?_ ?_ ?_ ?_ rest
   ·intro od hr o az
    have Bj:=List.mem_filter.1 hr
    exact acH o az od ⟨Bj.1,by simpa using Bj.2⟩
   ·intro t aG
    simp only [List.mem_filter,bne_iff_ne,ne_eq,not_and,Decidable.not_not] at aG
    by_cases ll:t=bu
    ·subst ll;simp [St.put,bA]
    ·have gP:t∉dstsOf os:=fun aj=>ll (aG aj)
     simp only [St.put,cq _ _ ll,jU,gP,if_false]
     exact aW t gP
   ·intro od hr
    have Bj:=List.mem_filter.1 hr
    have cc:od≠bu:=by simpa using Bj.2
    refine .inl ?_
    simp only [St.put,cq _ _ cc,jU,Bj.1,if_true]
   ·simp [St.put,jU,aQ]
  unfold gD at ad
  refine KN ?_
  split at ad
  ·rename_i lJ
   split at ad
   ·rename_i ak
    subst ak
    refine kV ?_ (RH bV ay km KR ah ad)
    rintro aR ⟨a2,bb,bJ⟩
    refine fin aR bb bJ ?_
    split at a2
    ·rename_i u hu;cases a2;exact hu
    ·cases a2
   ·rename_i ak
    cases ad
    refine kV ?_ (Bh ay km (fun o az=>(KR o az).2) (.inl (by rw [ah];cases lJ<;>cases want<;>simp_all)))
    rintro aR ⟨a2,bb,bJ⟩
    exact fin aR a2 bb (bJ bu vn)
  ·rename_i vs
   cases ad
   refine kV ?_ (Bh ay km (fun o az=>(KR o az).2) (.inr ⟨_,ah⟩))
   rintro aR ⟨a2,bb,bJ⟩
   exact fin aR a2 bb (bJ bu vn)
  ·cases ad
theorem acI{i:Nat}{eg:Oper}{listed:Array Bool}(af:all[i]?=some eg)(h:lfree all listed i=true):
  (∀j cC,j∈waits all i→all[j]?=some cC→∃e∈cC.after,Region.binds .any e=true∧(e.on=i∨e.on∈waits all i))∧(∀j,j∈waits all i→listed.getD j true=false)∧
  ∀j cC,all[j]?=some cC→j≠i→listed.getD j true=false→j∉waits all i→eg.apart all cC=true∧∀t a x,cC.op≠ .store t a x:=by
 simp only [lfree,af,Bool.and_eq_true,List.all_eq_true,List.mem_range] at h
 refine ⟨fun j cC aF hF=>?_,fun j aF=>by simpa using(h.1 j aF).1,fun j cC hF cc mE gP=>?_⟩
 ·have ad:=(h.1 j aF).2
  simp only [hF] at ad
  obtain ⟨e,he,ak⟩:=Array.any_eq_true'.1 ad
  simp only [Bool.and_eq_true,Bool.or_eq_true,beq_iff_eq,List.contains_iff_mem] at ak
  exact ⟨e,he,ak.1,ak.2⟩
 ·have ad:=h.2 j (Array.getElem?_eq_some_iff.1 hF).1
  simp only [hF,Bool.or_eq_true,beq_iff_eq,cc,false_or,mE,Bool.false_eq_true,Bool.and_eq_true,List.contains_iff_mem,gP] at ad
  refine ⟨ad.1,?_⟩
  intro t a x he
  rw [he] at ad
  simp [isStore] at ad
theorem acJ{i:Nat}{eg:Oper}{listed:Array Bool}{aC:Nat→AV}(h:KM all listed i aC eg=true):
  (∀j cC,j∈waits all i→all[j]?=some cC→∃e∈cC.after,Region.binds .any e=true∧(e.on=i∨e.on∈waits all i))∧(∀j,j∈waits all i→listed.getD j true=false)∧
  ∀j cC,all[j]?=some cC→j≠i→listed.getD j true=false→j∉waits all i→eg.apart all cC=true∧okPair aC eg cC=true∧(∀t∈xT eg.op++(vl all listed i).flatMap (fun y=>addrT y.op),cC.dst≠some t)∧∀t∈addrT cC.op,t∈xT eg.op++(vl all listed i).flatMap (fun y=>addrT y.op):=by
 simp only [KM,Bool.and_eq_true,List.all_eq_true] at h
 refine ⟨fun j cC aF hF=>?_,fun j aF=>by simpa using(h.1 j aF).1,fun j cC hF cc mE gP=>?_⟩
 ·have ad:=(h.1 j aF).2
  simp only [hF] at ad
  obtain ⟨e,he,ak⟩:=Array.any_eq_true'.1 ad
  simp only [Bool.and_eq_true,Bool.or_eq_true,beq_iff_eq,List.contains_iff_mem] at ak
  exact ⟨e,he,ak.1,ak.2⟩
 ·have hm:cC∈vl all listed i:=by
   unfold vl
   rw [List.mem_filterMap]
   refine ⟨j,by simpa using(Array.getElem?_eq_some_iff.1 hF).1,?_⟩
   have:(j==i||listed.getD j true||(waits all i).contains j)=false:=by
    simp only [Bool.or_eq_false_iff,beq_eq_false_iff_ne,ne_eq]
    exact ⟨⟨cc,mE⟩,by simpa using gP⟩
   rw [this]
   simpa using hF
  obtain ⟨ad,ae⟩:=h.2 cC hm
  refine ⟨ad.1,ad.2,fun t aG=>by simpa using ae t aG,fun t aG=>List.mem_append_right _ (List.mem_flatMap.2 ⟨cC,hm,aG⟩)⟩
theorem KS(bV:fI P G C){k:St→Option β}{b:β}:∀(ord:List Nat) (listed:Array Bool) (σ:St),ordX T G C all ord listed σ k=some b→hD P T G all (fun aR=>k aR=some b) ord.length listed σ
 |[],listed,σ,h=>by
  unfold ordX at h
  split at h
  ·rename_i au;exact ⟨List.isEmpty_iff.1 au,h⟩
  ·cases h
 |i::r,listed,σ,h=>by
  unfold ordX at h
  split at h
  case h_2=>cases h
  rename_i o af
  split at h
  case isFalse=>cases h
  rename_i aj
  obtain ⟨bx,au,a4⟩:=aj
  have H:amOp P T G all i (hD P T G all (fun aR=>k aR=some b) r.length (listed.setIfInBounds i true)) σ:=by
   unfold amOp
   simp only [af]
   unfold vOp
   simp only [bx]
   exact n9 (fun aR bh=>KS bV r _ aR bh) (RC bV h)
  rcases Bool.or_eq_true_iff.1 a4 with a4|a4
  case inr=>
   obtain ⟨br,bj,bS⟩:=Ku af a4
   exact Kt af br r.length listed σ bj bS (by simpa using au) (.inr trivial) H
  rcases Bool.or_eq_true_iff.1 a4 with a4|a4
  case inr=>
   obtain ⟨br,bj,bS⟩:=acJ a4
   exact ab8 af bx br (s0:=σ.aC) (L:=xT o.op++(vl all listed i).flatMap (fun y=>addrT y.op)) (fun t aG=>List.mem_append_left _ aG) r.length listed σ (fun _ _=>rfl) bj bS (by simpa using au) H
  rcases Bool.or_eq_true_iff.1 a4 with a4|a4
  ·obtain ⟨br,bj,bS⟩:=aa4 af a4
   exact aa2 af br r.length listed σ bj bS (by simpa using au) (.inr trivial) H
  ·unfold lfreeX at a4
   split at a4
   case h_2=>cases a4
   rename_i t a az
   split at a4
   case h_2=>cases a4
   rename_i cx off aB
   obtain ⟨br,bj,bS⟩:=acI af a4
   exact abM af az bx br r.length listed σ aB bj bS (by simpa using au) H
theorem acK(bV:fI P G C){K:St→Prop}(fV:∀σ τ,mH σ τ→K τ→K σ){k:St→Option β}{b:β}(ai:∀aR,k aR=some b→K aR)(h:RB T G C all σ k=some b):vOps P T G all all.toList K σ:=by
 have:=yD (P:=P) bV fV (fun g hm o az=>Gc _ _ _ hm o az) ai h
 rwa [tD] at this
end
end Go.Am
namespace Go.Am
set_option linter.unusedVariables false
inductive o6 where
 |any
 |d
 |Bk (f:FuncId)
 |fd (f:FuncId) (m:Nat)
 |dO (off:Nat)
 |ptr (k:Key) (off:Nat)
 |row (k:Key)
 |map (k:Key)
inductive jB where
 |b (s:o6)
 |fn (f:Fn) (first cap:List o6)
 |agg (cs:List o6)
inductive jV where
 |dead
 |box (cs:List jB)
 |row (k:Nat)
 |map
inductive tE where
 |slot (t K n:Nat)
 |box (k i K n:Nat)
structure o7 where
 aC:List (Nat×jB)
 objs:List (Key×jV)
 ns:List tE
def I(ls:List D)(n:Nat):D:=ls.getD n ja
def vo(ls:List D):o6→Nat→AV×Nat
 | .any,n=>(.any,n)
 | .d,n=>(.d (I ls n),n+1)
 | .Bk f,n=>(.d (.val (.func (.func f) #[] #[])),n)
 | .fd f m,n=>(.d (.fn (.func f) [] ((List.range m).map fun i=>I ls (n+i))),n+m)
 | .dO off,n=>(.dO (celsD (I ls n)) off,n+1)
 | .ptr k off,n=>(.ptr k off,n)
 | .row k,n=>(.row k,n)
 | .map k,n=>(.map k,n)
def oe(ls:List D):List o6→Nat→List AV×Nat
 |[],n=>([],n)
 |s::r,n=>((vo ls s n).1::(oe ls r (vo ls s n).2).1,(oe ls r (vo ls s n).2).2)
def resW(ls:List D):jB→Nat→AV×Nat
 | .b s,n=>vo ls s n
 | .fn f first cap,n=>(.fn f (oe ls first n).1 (oe ls cap (oe ls first n).2).1,(oe ls cap (oe ls first n).2).2)
 | .agg cs,n=>(.agg (oe ls cs n).1,(oe ls cs n).2)
def resWs(ls:List D):List jB→Nat→List AV×Nat
 |[],n=>([],n)
 |s::r,n=>((resW ls s n).1::(resWs ls r (resW ls s n).2).1,(resWs ls r (resW ls s n).2).2)
def resO(ls:List D):jV→Nat→cl×Nat
 | .dead,n=>(.dead,n)
 | .box cs,n=>(.box (resWs ls cs n).1,(resWs ls cs n).2)
 | .row k,n=>(.row k (esD (I ls n)),n+1)
 | .map,n=>(.map (fq (I ls n)),n+1)
def resS(ls:List D):List (Nat×jB)→Nat→List (Nat×AV)×Nat
 |[],n=>([],n)
 |(t,s)::r,n=>((t,(resW ls s n).1)::(resS ls r (resW ls s n).2).1,(resS ls r (resW ls s n).2).2)
def resB(ls:List D):List (Key×jV)→Nat→List (Key×cl)×Nat
 |[],n=>([],n)
 |(t,s)::r,n=>((t,(resO ls s n).1)::(resB ls r (resO ls s n).2).1,(resB ls r (resO ls s n).2).2)
def restore(eV:o7)(ls:List D):St:=Q1 (resS ls eV.aC 0).1 (resB ls eV.objs (resS ls eV.aC 0).2).1
def RK:AV→o6→List (Key×Key)
 | .ptr k _,.ptr bg _=>[(bg,k)]
 | .row k,.row bg=>[(bg,k)]
 | .map k,.map bg=>[(bg,k)]
 |_,_=>[]
def Ge:List AV→List o6→List (Key×Key)
 |x::xs,s::gd=>RK x s++Ge xs gd
 |_,_=>[]
def RL:AV→jB→List (Key×Key)
 |x,.b s=>RK x s
 | .fn _ as h7,.fn _ gd ts=>Ge as gd++Ge h7 ts
 | .agg cs,.agg gd=>Ge cs gd
 |_,_=>[]
def Gf:List AV→List jB→List (Key×Key)
 |x::xs,s::gd=>RL x s++Gf xs gd
 |_,_=>[]
def RM(σ:St):List (Nat×jB)→List (Key×Key)
 |[]=>[]
 |(t,s)::r=>RL (σ.aC t) s++RM σ r
def thB(σ:St):List (Key×jV)→List (Key×Key)→List (Key×Key)
 |[],bT=>bT
 |(k,.box gd)::r,bT=>match σ.objs (e1 bT k) with
  |some (.box xs)=>thB σ r (bT++Gf xs gd)
  |_=>thB σ r bT
 |_::r,bT=>thB σ r bT
def colV(bT:List (Key×Key))(ks:List Key):AV→o6→Option (List D)
 |_,.any=>some []
 |x,.d=>(asD x).map fun a=>[a]
 | .d (.val (.func (.func f) a b)),.Bk hB=>if f=hB∧a.size=0∧b.size=0 then some [] else none
 | .d (.fn (.func hB) first vp),.fd f m=>if hB=f∧first.isEmpty=true∧vp.length=m then some vp else none
 | .dO cs off,.dO KT=>if off=KT then some [.agg cs] else none
 | .ptr k off,.ptr bg KT=>if k=e1 bT bg∧off=KT∧ks.contains bg then some [] else none
 | .row k,.row bg=>if k=e1 bT bg∧ks.contains bg then some [] else none
 | .map k,.map bg=>if k=e1 bT bg∧ks.contains bg then some [] else none
 |_,_=>none
def ocat(x y:Option (List D)):Option (List D):=match x,y with
 |some a,some b=>some (a++b)
 |_,_=>none
def Bl(bT:List (Key×Key))(ks:List Key):List AV→List o6→Option (List D)
 |[],[]=>some []
 |x::xs,s::gd=>ocat (colV bT ks x s) (Bl bT ks xs gd)
 |_,_=>none
def colW(bT:List (Key×Key))(ks:List Key):AV→jB→Option (List D)
 |x,.b s=>colV bT ks x s
 | .fn (.func f) as h7,.fn (.func hB) gd ts=>if f=hB then ocat (Bl bT ks as gd) (Bl bT ks h7 ts) else none
 | .agg cs,.agg gd=>Bl bT ks cs gd
 |_,_=>none
def Gg(bT:List (Key×Key))(ks:List Key):List AV→List jB→Option (List D)
 |[],[]=>some []
 |x::xs,s::gd=>ocat (colW bT ks x s) (Gg bT ks xs gd)
 |_,_=>none
def colO(bT:List (Key×Key))(ks:List Key):Option cl→jV→Option (List D)
 |some _,.dead=>some []
 |some (.box xs),.box gd=>Gg bT ks xs gd
 |some (.row k es),.row bg=>if k=bg then some [.aE k es] else none
 |some (.map es),.map=>some [.mp es]
 |_,_=>none
def KU(bT:List (Key×Key))(ks:List Key)(σ:St):List (Nat×jB)→Option (List D)
 |[]=>some []
 |(t,s)::r=>ocat (colW bT ks (σ.aC t) s) (KU bT ks σ r)
def Gh(bT:List (Key×Key))(ks:List Key)(σ:St):List (Key×jV)→Option (List D)
 |[]=>some []
 |(k,s)::r=>ocat (colO bT ks (σ.objs (e1 bT k)) s) (Gh bT ks σ r)
section
variable{β:Type}
def nilX:List tE→St→(St→Option β)→Option β
 |[],σ,k=>k σ
 | .slot t K n::r,σ,k=>match σ.aC t,σ.objs K with
  | .d a,none=>if K<10000 then aw (nilP a) (nilX r ⟨b0 σ.aC t (.row K),b0 σ.objs K (some (.row n []))⟩ k) else none
  |_,_=>nilX r σ k
 | .box cx i K n::r,σ,k=>match σ.objs cx with
  |some (.box xs)=>match xs[i]?,σ.objs K with
   |some (.d a),none=>if K<10000 then aw (nilP a) (nilX r ⟨σ.aC,b0 (b0 σ.objs cx (some (.box (xs.set i (.row K))))) K (some (.row n []))⟩ k) else none
   |_,_=>nilX r σ k
  |_=>nilX r σ k
def yE:jV→Bool
 | .box _=>true
 | .row _=>true
 |_=>false
def RN(ib:List Key)(bT:List (Key×Key))(objs:List (Key×jV)):Bool:=
 objs.all (fun p=>decide (p.1<10000)||ib.contains p.1)&&ib.all (fun k=>e1 bT k==k&&objs.any fun p=>p.1==k&&yE p.2)&&decide ((objs.map (·.1)).Nodup)
def absX(ib:List Key)(eV:o7)(σ:St)(k:List D→Option β):Option β:=
 nilX eV.ns σ fun σ=>
  let bT:=thB σ eV.objs (RM σ eV.aC)
  if renOk (e1 bT) (eV.objs.map (·.1))&&RN ib bT eV.objs=true then
   match ocat (KU bT (eV.objs.map (·.1)) σ eV.aC) (Gh bT (eV.objs.map (·.1)) σ eV.objs) with
   |some ls=>k ls
   |none=>none
  else none
end
theorem vq{x y:Option (List D)}{l:List D}(h:ocat x y=some l):∃a b,x=some a∧y=some b∧l=a++b:=by
 unfold ocat at h
 split at h
 ·cases h;exact ⟨_,_,rfl,rfl,rfl⟩
 ·cases h
def kW(ls:List D)(n:Nat)(a:List D):Prop:=∀j d,a[j]?=some d→ls[n+j]?=some d
theorem kW.left{ls:List D}{n:Nat}{a b:List D}(h:kW ls n (a++b)):kW ls n a:=fun j d aF=>h j d (by
 rw [List.getElem?_append_left (List.getElem?_eq_some_iff.1 aF).1];exact aF)
theorem kW.right{ls:List D}{n:Nat}{a b:List D}(h:kW ls n (a++b)):kW ls (n+a.length) b:=fun j d aF=>by
 have:=h (a.length+j) d (by rw [List.getElem?_append_right (by omega)];simpa using aF)
 rwa [←Nat.add_assoc] at this
theorem kW.I{ls:List D}{n:Nat}{a:D}(h:kW ls n [a]):I ls n=a:=by
 have:=h 0 a rfl
 simp only [Nat.add_zero] at this
 simp [Am.I,List.getD_eq_getElem?_getD,this]
section
variable{bT:List (Key×Key)}{ks:List Key}{ls:List D}{U:Key→Prop}
theorem RO(fy:∀k,ks.contains k=true→U k){x:AV}{s:o6}{n:Nat}{a:List D}(h:colV bT ks x s=some a)(fZ:kW ls n a):AvLe0 (e1 bT) U x (vo ls s n).1∧(vo ls s n).2=n+a.length:=by
 unfold colV at h
 split at h
 ·cases h;exact ⟨trivial,rfl⟩
 ·obtain ⟨d,ay,rfl⟩:=Option.map_eq_some_iff.1 h
  refine ⟨⟨_,ay,?_⟩,rfl⟩
  rw [fZ.I];exact D.le_refl _
 ·split at h
  ·rename_i a4
   obtain ⟨rfl,aA,ak⟩:=a4
   cases h
   rw [Array.eq_empty_of_size_eq_zero aA,Array.eq_empty_of_size_eq_zero ak]
   exact ⟨⟨_,rfl,D.le_refl _⟩,rfl⟩
  ·cases h
 ·split at h
  ·rename_i a4
   obtain ⟨rfl,ad,rfl⟩:=a4
   cases h
   refine ⟨⟨_,rfl,?_⟩,rfl⟩
   rw [List.isEmpty_iff.1 ad]
   have e:((List.range a.length).map fun i=>I ls (n+i))=a:=by
    apply List.ext_getElem?
    intro i
    rw [List.getElem?_map]
    by_cases af:i<a.length
    ·rw [List.getElem?_range af,List.getElem?_eq_getElem af]
     have:=fZ i a[i] (List.getElem?_eq_getElem af)
     simp [Am.I,List.getD_eq_getElem?_getD,this]
    ·rw [List.getElem?_eq_none (by simp;omega),List.getElem?_eq_none (by omega)];rfl
   skip
   rw [e];exact D.le_refl _
  ·cases h
 ·split at h
  ·rename_i a4
   cases h;subst a4
   refine ⟨.inl ?_,rfl⟩
   rw [fZ.I];rfl
  ·cases h
 ·split at h
  ·rename_i a4
   cases h
   exact ⟨⟨by rw [a4.1,a4.2.1],fy _ a4.2.2⟩,rfl⟩
  ·cases h
 ·split at h
  ·rename_i a4
   cases h
   exact ⟨⟨by rw [a4.1],fy _ a4.2⟩,rfl⟩
  ·cases h
 ·split at h
  ·rename_i a4
   cases h
   exact ⟨⟨by rw [a4.1],fy _ a4.2⟩,rfl⟩
  ·cases h
 ·cases h
theorem Gi(fy:∀k,ks.contains k=true→U k):∀{xs:List AV} {gd:List o6} {n:Nat} {a:List D},Bl bT ks xs gd=some a→kW ls n a→hS (e1 bT) U xs (oe ls gd n).1∧(oe ls gd n).2=n+a.length
 |[],[],n,a,h,fZ=>by cases h;exact ⟨trivial,rfl⟩
 |x::xs,s::gd,n,a,h,fZ=>by
  obtain ⟨ag,aS,ad,ae,rfl⟩:=vq h
  obtain ⟨a2,bb⟩:=RO fy ad fZ.left
  have au:=fZ.right
  rw [←bb] at au
  obtain ⟨bJ,ek⟩:=Gi fy ae au
  refine ⟨⟨a2,bJ⟩,?_⟩
  show(oe ls gd (vo ls s n).2).2=_
  rw [ek,bb,List.length_append];omega
 |[],_::_,n,a,h,_=>by cases h
 |_::_,[],n,a,h,_=>by cases h
theorem acL{x y:AV}(h:AvLe0 (e1 bT) U x y):AvLe (e1 bT) U x y:=by
 cases y<;>first|exact h|exact h.elim
theorem RP(fy:∀k,ks.contains k=true→U k){x:AV}{s:jB}{n:Nat}{a:List D}(h:colW bT ks x s=some a)(fZ:kW ls n a):AvLe (e1 bT) U x (resW ls s n).1∧(resW ls s n).2=n+a.length:=by
 unfold colW at h
 split at h
 ·obtain ⟨a2,bb⟩:=RO fy h fZ
  exact ⟨acL a2,bb⟩
 ·split at h
  ·rename_i a4
   subst a4
   obtain ⟨ag,aS,ad,ae,rfl⟩:=vq h
   obtain ⟨a2,bb⟩:=Gi fy ad fZ.left
   have au:=fZ.right
   rw [←bb] at au
   obtain ⟨bJ,ek⟩:=Gi fy ae au
   refine ⟨⟨rfl,a2,bJ⟩,?_⟩
   simp only [resW]
   rw [ek,bb,List.length_append];omega
  ·cases h
 ·obtain ⟨a2,bb⟩:=Gi fy h fZ
  exact ⟨a2,bb⟩
 ·cases h
theorem KV(fy:∀k,ks.contains k=true→U k):∀{xs:List AV} {gd:List jB} {n:Nat} {a:List D},Gg bT ks xs gd=some a→kW ls n a→qs (e1 bT) U xs (resWs ls gd n).1∧(resWs ls gd n).2=n+a.length
 |[],[],n,a,h,fZ=>by cases h;exact ⟨trivial,rfl⟩
 |x::xs,s::gd,n,a,h,fZ=>by
  obtain ⟨ag,aS,ad,ae,rfl⟩:=vq h
  obtain ⟨a2,bb⟩:=RP fy ad fZ.left
  have au:=fZ.right
  rw [←bb] at au
  obtain ⟨bJ,ek⟩:=KV fy ae au
  refine ⟨⟨a2,bJ⟩,?_⟩
  show(resWs ls gd (resW ls s n).2).2=_
  rw [ek,bb,List.length_append];omega
 |[],_::_,n,a,h,_=>by cases h
 |_::_,[],n,a,h,_=>by cases h
theorem acM(fy:∀k,ks.contains k=true→U k){x:Option cl}{s:jV}{n:Nat}{a:List D}(h:colO bT ks x s=some a)(fZ:kW ls n a):(∃o',x=some o'∧ObLe (e1 bT) U o' (resO ls s n).1)∧(resO ls s n).2=n+a.length:=by
 unfold colO at h
 split at h
 ·cases h;exact ⟨⟨_,rfl,trivial⟩,rfl⟩
 ·obtain ⟨a2,bb⟩:=KV fy h fZ
  exact ⟨⟨_,rfl,⟨_,rfl,a2⟩⟩,bb⟩
 ·split at h
  ·rename_i ai
   cases h;subst ai
   refine ⟨⟨_,rfl,⟨_,rfl,.inl ?_⟩⟩,rfl⟩
   rw [fZ.I];rfl
  ·cases h
 ·cases h
  refine ⟨⟨_,rfl,?_⟩,rfl⟩
  simp only [resO,ObLe]
  rw [fZ.I];rfl
 ·cases h
theorem RQ(fy:∀k,ks.contains k=true→U k){σ:St}:∀{l:List (Nat×jB)} {n:Nat} {a:List D},KU bT ks σ l=some a→kW ls n a→yy (e1 bT) U σ (resS ls l n).1∧(resS ls l n).2=n+a.length
 |[],n,a,h,fZ=>by cases h;exact ⟨trivial,rfl⟩
 |(t,s)::r,n,a,h,fZ=>by
  obtain ⟨ag,aS,ad,ae,rfl⟩:=vq h
  obtain ⟨a2,bb⟩:=RP fy ad fZ.left
  have au:=fZ.right
  rw [←bb] at au
  obtain ⟨bJ,ek⟩:=RQ fy ae au
  refine ⟨⟨a2,bJ⟩,?_⟩
  simp only [resS]
  rw [ek,bb,List.length_append];omega
theorem KW(fy:∀k,ks.contains k=true→U k){σ:St}:∀{l:List (Key×jV)} {n:Nat} {a:List D},Gh bT ks σ l=some a→kW ls n a→vg (e1 bT) U σ (resB ls l n).1∧(resB ls l n).2=n+a.length
 |[],n,a,h,fZ=>by cases h;exact ⟨trivial,rfl⟩
 |(t,s)::r,n,a,h,fZ=>by
  obtain ⟨ag,aS,ad,ae,rfl⟩:=vq h
  obtain ⟨a2,bb⟩:=acM fy ad fZ.left
  have au:=fZ.right
  rw [←bb] at au
  obtain ⟨bJ,ek⟩:=KW fy ae au
  refine ⟨⟨a2,bJ⟩,?_⟩
  simp only [resB]
  rw [ek,bb,List.length_append];omega
end
theorem vr(ls:List D):∀(l:List (Key×jV)) (n:Nat),kp (resB ls l n).1=l.map (·.1)
 |[],n=>rfl
 |(k,s)::r,n=>by
  have:=vr ls r (resO ls s n).2
  simp only [resB,kp,List.map_cons] at this⊢
  rw [←this]
theorem Gj:∀{lo:List (Key×cl)} {k:Key},k∈kp lo→∃o,lookO lo k=some o
 |[],k,h=>by cases h
 |(j,x)::r,k,h=>by
  unfold lookO
  by_cases ai:k=j
  ·exact ⟨x,by rw [if_pos ai]⟩
  ·rw [if_neg ai]
   simp only [kp,List.map_cons,List.mem_cons] at h
   exact Gj (h.resolve_left ai)
def eL(ib:List Key)(σ:St):Prop:=∀k,10000≤k→dP (σ.objs k)→k∈ib
theorem KX(ls:List D):∀(l:List (Key×jV)) (n:Nat) (k:Key),(l.map (·.1)).Nodup→(∃s,(k,s)∈l∧yE s=true)→dP (lookO (resB ls l n).1 k)
 |[],n,k,_,⟨_,h,_⟩=>by cases h
 |(j,s)::r,n,k,aJ,⟨gd,h,aB⟩=>by
  simp only [resB,lookO]
  simp only [List.map_cons,List.nodup_cons] at aJ
  rcases List.mem_cons.1 h with ad|ad
  ·cases ad
   rw [if_pos rfl]
   cases s<;>first|cases aB|skip
   ·exact rG
   ·exact rH
  ·have cc:k≠j:=by
    rintro rfl
    exact aJ.1 (List.mem_map.2 ⟨_,ad,rfl⟩)
   rw [if_neg cc]
   exact KX ls r _ k aJ.2 ⟨gd,ad,aB⟩
theorem vt{β:Type}{ib:List Key}:∀{l:List tE} {σ:St} {k:St→Option β} {b:β},eL ib σ→nilX l σ k=some b→∃τ,fR σ τ∧eL ib τ∧k τ=some b
 |[],σ,k,b,b1,h=>⟨σ,fR.refl σ,b1,h⟩
 | .slot t K n::r,σ,k,b,b1,h=>by
  unfold nilX at h
  split at h
  ·rename_i a aB fV
   split at h
   case isFalse=>cases h
   rename_i bP
   obtain ⟨ad,ae⟩:=kr h
   have aA:a= .val (.slice none 0 0):=by
    unfold nilP at ad
    split at ad
    ·rfl
    ·cases ad
   subst aA
   obtain ⟨τ,a2,bb,bJ⟩:=vt (ib:=ib) (by
    intro j aF ak
    by_cases fe:j=K
    ·exact absurd bP (Nat.not_lt.2 (fe▸aF))
    ·simp only [cq _ _ fe] at ak;exact b1 j aF ak) ae
   exact ⟨τ,(abG t K n aB fV).trans a2,bb,bJ⟩
  ·exact vt b1 h
 | .box cx i K n::r,σ,k,b,b1,h=>by
  unfold nilX at h
  split at h
  ·rename_i xs ai
   split at h
   ·rename_i a af fV
    split at h
    case isFalse=>cases h
    rename_i bP
    obtain ⟨ad,ae⟩:=kr h
    have aA:a= .val (.slice none 0 0):=by
     unfold nilP at ad
     split at ad
     ·rfl
     ·cases ad
    subst aA
    obtain ⟨τ,a2,bb,bJ⟩:=vt (ib:=ib) (by
     intro j aF ak
     by_cases fe:j=K
     ·exact absurd bP (Nat.not_lt.2 (fe▸aF))
     ·simp only [cq _ _ fe] at ak
      by_cases uU:j=cx
      ·subst uU;exact b1 j aF (by rw [ai];exact rG)
      ·simp only [cq _ _ uU] at ak;exact b1 j aF ak) ae
    exact ⟨τ,(abH cx i K n ai af fV).trans a2,bb,bJ⟩
   ·exact vt b1 h
  ·exact vt b1 h
theorem Gk{β:Type}{ib:List Key}{eV:o7}{σ:St}{k:List D→Option β}{b:β}(b1:eL ib σ)(h:absX ib eV σ k=some b):∃ls,fR σ (restore eV ls)∧eL ib (restore eV ls)∧k ls=some b:=by
 unfold absX at h
 obtain ⟨τ,a2,bb,bJ⟩:=vt b1 h
 simp only at bJ
 split at bJ
 case isFalse=>cases bJ
 rename_i aj
 simp only [RN,Bool.and_eq_true,List.all_eq_true,Bool.or_eq_true,decide_eq_true_eq,beq_iff_eq,List.any_eq_true,List.contains_eq_mem] at aj
 obtain ⟨vu,⟨ng,acN⟩,acO⟩:=aj
 split at bJ
 case h_2=>cases bJ
 rename_i ls KY
 obtain ⟨ag,aS,aQ,aW,rfl⟩:=vq KY
 have fZ:kW (ag++aS) 0 (ag++aS):=fun j d aF=>by rw [Nat.zero_add];exact aF
 have fy:∀k,(eV.objs.map (·.1)).contains k=true→∃o,lookO (resB (ag++aS) eV.objs (resS (ag++aS) eV.aC 0).2).1 k=some o:=by
  intro k ai
  exact Gj (by rw [vr];simpa using ai)
 obtain ⟨br,bj⟩:=RQ fy aQ fZ.left
 have au:=fZ.right
 rw [←bj] at au
 obtain ⟨bS,db⟩:=KW fy aW au
 have qz:fR τ (restore eV (ag++aS)):=by
  refine abu _ (by rw [vr];exact vu) br bS ?_
  intro k ai ak
  have hm:=bb k ai ak
  obtain ⟨bI,p,rR,vv,RR⟩:=acN k hm
  refine ⟨?_,bI⟩
  obtain ⟨atE,hY⟩:=p
  simp only at vv RR
  subst vv
  exact KX _ _ _ _ acO ⟨_,rR,RR⟩
 refine ⟨_,a2.trans qz,?_,bJ⟩
 intro k ai ak
 obtain ⟨o,az⟩:=ym ak
 have:=tx az
 rw [vr] at this
 obtain ⟨p,rR,vv⟩:=List.mem_map.1 this
 rcases ng p rR with b9|b9
 ·rw [vv] at b9;exact absurd b9 (Nat.not_lt.2 ai)
 ·rw [vv] at b9;exact b9
end Go.Am
namespace Go.Am
set_option linter.unusedVariables false
def Gl(objs:b6)(cs:List AV):Option (List D):=if cs.all isDA=true then allSome (cs.map (toD objs)) else none
def frz0(objs:b6)(ks:List Key):AV→AV
 | .ptr k off=>if k∈ks then match objs k with
   |some (.box cs)=>match Gl objs cs with
    |some aD=> .dO aD off
    |none=> .ptr k off
   |_=> .ptr k off
  else .ptr k off
 | .row k=>if k∈ks then match objs k with
   |some (.row n es)=> .d (.aE n es)
   |_=> .row k
  else .row k
 | .map k=>if k∈ks then match objs k with
   |some (.map es)=> .d (.mp es)
   |_=> .map k
  else .map k
 |x=>x
def frzA(objs:b6)(ks:List Key):AV→AV
 | .agg cs=>yb (cs.map (frz0 objs ks))
 | .fn f first cap=> .fn f (first.map (frz0 objs ks)) (cap.map (frz0 objs ks))
 |x=>frz0 objs ks x
def Bm(objs:b6)(ks:List Key):cl→cl
 | .box cs=> .box (cs.map (frzA objs ks))
 |o=>o
def isRM(objs:b6)(k:Key):Bool:=match objs k with
 |some (.row _ _)=>decide (k<10000)
 |some (.map _)=>true
 |some (.box cs)=>decide (k<10000)&&(Gl objs cs).isSome
 |_=>false
def freeze(ks:List Key)(σ:St):St:=⟨fun t=>frzA σ.objs ks (σ.aC t),fun k=>if k∈ks then some .dead else(σ.objs k).map (Bm σ.objs ks)⟩
section
variable{m:Mem}{fr:eE}{ρ:cK}{σ:St}{a:Act}{w:World}{ks:List Key}
theorem acP(h:Den m fr ρ σ a w){key off:Nat}{cs:List AV}{aD:List D}(ai:σ.objs key=some (.box cs))(ec:Gl σ.objs cs=some aD)(hm:key∈ks){U:Key→Prop}{v:Value}(aM:bK m ρ σ.used (.ptr key off) v):bK (Den.part m ρ ks w) ρ U (.dO aD off) v:=by
 have hle:=Den.qm m ρ ks w
 obtain ⟨b,vs,dC,aQ,aW,bA,cz⟩:=h.objs _ _ ai
 have ak:=h.Fz ai rfl hm (by rw [aQ];rfl)
 unfold Gl at ec
 split at ec
 case isFalse=>cases ec
 rename_i KA
 obtain ⟨a2,bb⟩:=oV ec
 rw [List.length_map] at a2
 cases aM with
 |ptr _ _ b' hu au=>
  rw [aQ] at au
  cases au
  have:=bK.dO (m:=Den.part m ρ ks w) (ρ:=ρ) (U:=U) aD off b 0 vs dC (0,0) (by rw [ak];exact aW) (fun j=>(vs[j]?).getD undef) ?_ ?_
  ·simpa using this
  ·intro j c aF
   have bP:j<vs.size:=by rw [bA,←a2];exact (List.getElem?_eq_some_iff.1 aF).1
   simp [Array.getElem?_eq_getElem bP]
  ·intro j c aF
   have bP:j<vs.size:=by rw [bA,←a2];exact (List.getElem?_eq_some_iff.1 aF).1
   have bJ:=bb j c aF
   rw [List.getElem?_map,Option.map_eq_some_iff] at bJ
   obtain ⟨y,aT,rK⟩:=bJ
   have:=cz j y vs[j] aT (Array.getElem?_eq_getElem bP)
   simp only [Array.getElem?_eq_getElem bP,Option.getD_some]
   exact (Ki (List.all_eq_true.1 KA y (List.mem_of_getElem? aT)) rK this).mono hle
theorem RS(h:Den m fr ρ σ a w){x:AV}{v:Value}(ah:bK m ρ σ.used x v):bK (Den.part m ρ ks w) ρ (freeze ks σ).used (frz0 σ.objs ks x) v:=by
 have hle:=Den.qm m ρ ks w
 have fy:∀k,σ.used k→(freeze ks σ).used k∧ρ k=ρ k:=by
  rintro k ⟨o,az⟩
  refine ⟨?_,rfl⟩
  unfold St.used freeze
  by_cases ai:k∈ks
  ·exact ⟨.dead,by simp [ai]⟩
  ·exact ⟨Bm σ.objs ks o,by simp [ai,az]⟩
 unfold frz0
 split
 ·rename_i k off
  split
  ·rename_i hm
   split
   ·rename_i cs ai
    split
    ·rename_i aD ec
     exact acP h ai ec hm ah
    ·exact ah.mono hle fy
   ·exact ah.mono hle fy
  ·exact ah.mono hle fy
 ·rename_i k
  split
  ·rename_i hm
   split
   ·rename_i n es ai
    cases ah
    exact .d _ _ (Kd h ai hm)
   ·exact ah.mono hle fy
  ·exact ah.mono hle fy
 ·rename_i k
  split
  ·rename_i hm
   split
   ·rename_i es ai
    cases ah
    exact .d _ _ (aae h ai hm)
   ·exact ah.mono hle fy
  ·exact ah.mono hle fy
 ·exact ah.mono hle fy
theorem KZ(h:Den m fr ρ σ a w){cs:List AV}{vs:Array Value}(an:vs.size=cs.length)(bp:∀(i:Nat) (c:AV) (v:Value),cs[i]?=some c→vs[i]?=some v→bK m ρ σ.used c v):
  vs.size=(cs.map (frz0 σ.objs ks)).length∧∀(i:Nat) (c:AV) (v:Value),(cs.map (frz0 σ.objs ks))[i]?=some c→vs[i]?=some v→bK (Den.part m ρ ks w) ρ (freeze ks σ).used c v:=by
 refine ⟨by simpa using an,?_⟩
 intro i c v aj aM
 simp only [List.getElem?_map,Option.map_eq_some_iff] at aj
 obtain ⟨y,aT,rfl⟩:=aj
 exact RS h (bp i y v aT aM)
theorem RT(h:Den m fr ρ σ a w){x:AV}{v:Value}(ah:bK m ρ σ.used x v):bK (Den.part m ρ ks w) ρ (freeze ks σ).used (frzA σ.objs ks x) v:=by
 unfold frzA
 split
 ·cases ah with|agg _ vs an bp=>
  obtain ⟨ad,ae⟩:=KZ (ks:=ks) h an bp
  exact Fe (.agg _ _ ad ae)
 ·cases ah with|fn _ _ _ vs ws an dS bp u4=>
  obtain ⟨ad,ae⟩:=KZ (ks:=ks) h an bp
  obtain ⟨ax,aZ⟩:=KZ (ks:=ks) h dS u4
  exact .fn _ _ _ _ _ ad ax ae aZ
 ·exact RS h ah
theorem acQ(ks:List Key)(dL:ks.all (isRM σ.objs)=true):fR σ (freeze ks σ):=by
 intro m fr ρ a w h
 have hle:=Den.qm m ρ ks w
 have ea:∀k∈ks,(k<10000∧∃n es,σ.objs k=some (.row n es))∨(∃es,σ.objs k=some (.map es))∨(k<10000∧∃cs,σ.objs k=some (.box cs)):=by
  intro k ai
  have:=List.all_eq_true.1 dL k ai
  unfold isRM at this
  split at this
  ·rename_i n es e;exact .inl ⟨of_decide_eq_true this,n,es,e⟩
  ·rename_i es e;exact .inr (.inl ⟨es,e⟩)
  ·rename_i cs e
   simp only [Bool.and_eq_true,decide_eq_true_eq] at this
   exact .inr (.inr ⟨this.1,cs,e⟩)
  ·cases this
 have own:∀k∈ks,∃o,σ.objs k=some o∧o.owns=true:=by
  intro k ai
  rcases ea k ai with⟨_,n,es,e⟩|⟨es,e⟩|⟨_,cs,e⟩
  ·exact ⟨_,e,rfl⟩
  ·exact ⟨_,e,rfl⟩
  ·exact ⟨_,e,rfl⟩
 have jP:∀b,Den.part m ρ ks w b=m b∨∃k∈ks,blockOf (ρ k)=some b∧Den.part m ρ ks w b=w.heap[b]?:=by
  intro b
  unfold Den.part
  cases hm:m b with
  |some x=>exact .inl rfl
  |none=>
   simp only
   by_cases aj:∃k∈ks,blockOf (ρ k)=some b
   ·rw [if_pos aj]
    obtain ⟨k,ad,ae⟩:=aj
    exact .inr ⟨k,ad,ae,rfl⟩
   ·rw [if_neg aj];exact .inl rfl
 have my:∀k o,(freeze ks σ).objs k=some o→o.owns=true→k∉ks∧∃dc,σ.objs k=some dc∧o=Bm σ.objs ks dc∧dc.owns=true:=by
  intro k o ai az
  unfold freeze at ai
  simp only at ai
  split at ai
  ·cases ai;cases az
  ·rename_i aJ
   obtain ⟨dc,ad,rfl⟩:=Option.map_eq_some_iff.1 ai
   refine ⟨aJ,dc,ad,rfl,?_⟩
   cases dc<;>first|rfl|exact az
 refine ⟨Den.part m ρ ks w,ρ,hle,⟨?_,h.frame,?_,?_,?_,?_,?_,?_⟩,?_⟩
 ·intro b o ak
  rcases jP b with e|⟨k,_,_,e⟩
  ·rw [e] at ak;exact h.mem b o ak
  ·rw [e] at ak;exact ak
 ·intro b ak
  rcases jP b with e|⟨k,ad,ae,e⟩
  ·rw [e] at ak;exact h.apart b ak
  ·obtain ⟨o,ax,aZ⟩:=own k ad
   exact (h.own k o b ax aZ ae).2
 ·rintro k ⟨o,az⟩
  unfold freeze at az
  simp only at az
  split at az
  ·rename_i ai
   obtain ⟨o,ax,aZ⟩:=own k ai
   exact h.one k ⟨o,ax⟩
  ·obtain ⟨dc,ad,rfl⟩:=Option.map_eq_some_iff.1 az
   exact h.one k ⟨dc,ad⟩
 ·intro t
  exact RT h (h.aC t)
 ·intro k o ai
  have dZ:=ai
  unfold freeze at ai
  simp only at ai
  split at ai
  ·cases ai;trivial
  ·obtain ⟨dc,ad,rfl⟩:=Option.map_eq_some_iff.1 ai
   have ae:=h.objs k dc ad
   cases dc with
   |dead=>trivial
   |box cs=>
    obtain ⟨b,vs,T,aQ,aW,bA,cz⟩:=ae
    refine ⟨b,vs,T,aQ,aW,by simpa using bA,?_⟩
    intro i c x aj ah
    simp only [List.getElem?_map,Option.map_eq_some_iff] at aj
    obtain ⟨y,aT,rfl⟩:=aj
    exact RT h (cz i y x aT ah)
   |row n es=>
    rcases ae with⟨aQ,aW⟩|⟨b,o,cap,vs,dC,aQ,aW,bA,cz,dD,eZ⟩
    ·exact .inl ⟨aQ,aW⟩
    ·exact .inr ⟨b,o,cap,vs,dC,aQ,aW,bA,cz,dD,fun i e j c af aF=>by obtain ⟨x,a2,bb⟩:=eZ i e j c af aF;exact ⟨x,a2,bb.mono hle⟩⟩
   |map es=>
    obtain ⟨r,cQ,clock,aQ,aW,bA,cz,dD⟩:=ae
    exact ⟨r,cQ,clock,aQ,aW,bA,cz,fun i e x he ah=>(dD i e x he ah).mono hle⟩
 ·intro k o b ai az ak
  obtain ⟨aJ,dc,ad,rfl,ae⟩:=my k o ai az
  have ax:=h.own k dc b ad ae ak
  refine ⟨?_,ax.2⟩
  rcases jP b with e|⟨bg,aZ,bI,e⟩
  ·rw [e];exact ax.1
  ·obtain ⟨o',b9,e0⟩:=own bg aZ
   exact absurd bI (h.sep k bg dc o' b (by rintro rfl;exact aJ aZ) ad b9 ae e0 ak)
 ·intro k bg o o' b cc ai dZ az mF ak
  obtain ⟨aJ,dc,ad,rfl,ae⟩:=my k o ai az
  obtain ⟨AW,Bn,c3,rfl,fQ⟩:=my bg o' dZ mF
  exact h.sep k bg dc Bn b cc ad c3 ae fQ ak
 ·intro k ai ak
  refine ⟨?_,rfl⟩
  have aJ:k∉ks:=by
   intro hm
   rcases ea k hm with⟨bP,_⟩|⟨es,e⟩|⟨bP,_⟩
   ·exact absurd ai (Nat.not_le.2 bP)
   ·rw [e] at ak;exact yl ak
   ·exact absurd ai (Nat.not_le.2 bP)
  show dP (if k∈ks then some .dead else(σ.objs k).map (Bm σ.objs ks))
  rw [if_neg aJ]
  rcases ak with⟨c,aj⟩|⟨n,es,aj⟩
  ·rw [aj];exact rG
  ·rw [aj];exact rH
end
def frzX{β:Type}:List (List Key)→St→(St→Option β)→Option β
 |[],σ,k=>k σ
 |ks::r,σ,k=>match ks with
  |[]=>frzX r σ k
  |_=>if ks.all (isRM σ.objs)=true then frzX r (freeze ks σ) k else none
def takeX{β:Type}(t:Tmp)(σ:St)(k:St→Option β):Option β:=match σ.aC t with
 | .sub key cx i len=>match σ.objs key,σ.objs t with
  |some (.row bg es),none=>if cx=bg∧key<10000∧t<10000 then aw (decide (i+len≤es.length)) (k ⟨b0 σ.aC t (.row t),b0 (b0 σ.objs key (some .dead)) t (some (.row cx ((es.drop i).take len)))⟩) else none
  |_,_=>none
 |_=>none
theorem acR{σ:St}{t key cx i len:Nat}{es:List (List D)}(aG:σ.aC t= .sub key cx i len)(ai:σ.objs key=some (.row cx es))(aq:σ.objs t=none)(hle:i+len≤es.length)(jC:key<10000):
  fR σ ⟨b0 σ.aC t (.row t),b0 (b0 σ.objs key (some .dead)) t (some (.row cx ((es.drop i).take len)))⟩:=by
 intro m fr ρ a w h
 have cc:key≠t:=by rintro rfl;rw [ai] at aq;cases aq
 have hlen:((es.drop i).take len).length=len:=by simp;omega
 have yF:∀j o,(b0 (b0 σ.objs key (some .dead)) t (some (.row cx ((es.drop i).take len)))) j=some o→(j=t∧o= .row cx ((es.drop i).take len))∨(j=key∧o= .dead)∨(j≠t∧j≠key∧σ.objs j=some o):=by
  intro j o aF
  by_cases ad:j=t
  ·subst ad;rw [dW] at aF;cases aF;exact .inl ⟨rfl,rfl⟩
  ·rw [cq _ _ ad] at aF
   by_cases ae:j=key
   ·subst ae;rw [dW] at aF;cases aF;exact .inr (.inl ⟨rfl,rfl⟩)
   ·rw [cq _ _ ae] at aF;exact .inr (.inr ⟨ad,ae,aF⟩)
 let v:=a.tmps.getD t undef
 have aM:=h.aC t
 rw [aG] at aM
 have AU:∀k,σ.used k→St.used ⟨b0 σ.aC t (.row t),b0 (b0 σ.objs key (some .dead)) t (some (.row cx ((es.drop i).take len)))⟩ k∧b0 ρ t v k=ρ k:=by
  rintro k ⟨o,az⟩
  have s8:k≠t:=by rintro rfl;rw [az] at aq;cases aq
  refine ⟨?_,cq _ _ s8⟩
  by_cases ae:k=key
  ·subst ae;exact ⟨.dead,by simp only [cq _ _ s8,dW]⟩
  ·exact ⟨o,by simp only [cq _ _ s8,cq _ _ ae];exact az⟩
 have piece:ju v=true∧(blockOf v=none∨blockOf v=blockOf (ρ key))∧h5 m (b0 ρ t v) (St.used ⟨b0 σ.aC t (.row t),b0 (b0 σ.objs key (some .dead)) t (some (.row cx ((es.drop i).take len)))⟩) v w (.row cx ((es.drop i).take len)):=by
  have nd:=h.objs key _ ai
  generalize acS:a.tmps.getD t undef=u at aM
  have acT:v=u:=acS
  rw [acT]
  cases aM with
  |jv _ _ _ hu au=>exact ⟨rfl,.inl rfl,.inl ⟨rfl,by simp⟩⟩
  |sub _ _ _ _ b o L cap hN hu au JU aA=>
   refine ⟨rfl,.inr (by rw [au];rfl),?_⟩
   rcases nd with⟨aQ,aW⟩|⟨b',o',n1,vs,dC,aQ,aW,bA,cz,dD,eZ⟩
   ·rw [au] at aQ;cases aQ
   ·rw [au] at aQ
    cases aQ
    refine .inr ⟨b,hN,cap-i,vs,dC,by rw [hlen],aW,by rw [hlen];omega,?_,?_,?_⟩
    ·by_cases K0:i<cap
     ·rw [aA.1 K0,Nat.add_assoc,←Nat.add_mul]
      have:i+(cap-i)=cap:=by omega
      rw [this];exact cz
     ·have:cap-i=0:=by omega
      rw [this,Nat.zero_mul]
      have:=aA.2
      omega
    ·intro e he
     exact dD e (List.mem_of_mem_drop (List.mem_of_mem_take he))
    ·intro p e j c aV aF
     rw [List.getElem?_take] at aV
     split at aV
     case isFalse=>cases aV
     rename_i PI
     rw [List.getElem?_drop] at aV
     obtain ⟨x,a2,bb⟩:=eZ (i+p) e j c aV aF
     have K0:i<cap:=by
      have:=(List.getElem?_eq_some_iff.1 aV).1
      omega
     refine ⟨x,?_,bb⟩
     rw [aA.1 K0]
     have:o+i*cx+p*cx+j=o+(i+p)*cx+j:=by rw [Nat.add_mul];omega
     rw [this];exact a2
 obtain ⟨dT,dw,gA⟩:=piece
 refine ⟨m,b0 ρ t v,Mem.le_refl m,⟨h.mem,h.frame,h.apart,?_,?_,?_,?_,?_⟩,?_⟩
 ·rintro k ⟨o,az⟩
  rcases yF k o az with⟨rfl,_⟩|⟨rfl,_⟩|⟨ad,ae,ax⟩
  ·rw [dW];exact dT
  ·rw [cq _ _ cc];exact h.one _ ⟨_,ai⟩
  ·rw [cq _ _ ad];exact h.one _ ⟨_,ax⟩
 ·intro s
  by_cases aB:s=t
  ·subst aB
   simp only [dW]
   have:bK m (b0 ρ s v) (St.used ⟨b0 σ.aC s (.row s),b0 (b0 σ.objs key (some .dead)) s (some (.row cx ((es.drop i).take len)))⟩) (.row s) (b0 ρ s v s):= .row s ⟨_,dW _ _ _⟩
   rw [dW] at this
   exact this
  ·simp only [cq _ _ aB]
   exact (h.aC s).mono (Mem.le_refl m) AU
 ·intro k o dZ
  rcases yF k o dZ with⟨rfl,rfl⟩|⟨rfl,rfl⟩|⟨ad,ae,ax⟩
  ·rw [dW];exact gA
  ·trivial
  ·rw [cq _ _ ad]
   exact (h.objs k o ax).mono (Mem.le_refl m) AU (fun b _ _=>rfl)
 ·intro k o b dZ az ak
  rcases yF k o dZ with⟨rfl,rfl⟩|⟨rfl,rfl⟩|⟨ad,ae,ax⟩
  ·rw [dW] at ak
   rcases dw with dw|dw
   ·rw [dw] at ak;cases ak
   ·exact h.own key _ b ai rfl (by rw [←dw];exact ak)
  ·cases az
  ·rw [cq _ _ ad] at ak
   exact h.own k o b ax az ak
 ·intro k bg o o' b c1 dZ RU az mF ak
  rcases yF k o dZ with⟨rfl,rfl⟩|⟨rfl,rfl⟩|⟨ad,ae,ax⟩
  ·rcases yF bg o' RU with⟨rfl,rfl⟩|⟨rfl,rfl⟩|⟨c3,fQ,hd⟩
   ·exact absurd rfl c1
   ·cases mF
   ·rw [dW] at ak
    rw [cq _ _ c3]
    rcases dw with dw|dw
    ·rw [dw] at ak;cases ak
    ·exact h.sep key bg _ o' b (Ne.symm fQ) ai hd rfl mF (by rw [←dw];exact ak)
  ·cases az
  ·rw [cq _ _ ad] at ak
   rcases yF bg o' RU with⟨rfl,rfl⟩|⟨rfl,rfl⟩|⟨c3,fQ,hd⟩
   ·rw [dW]
    rcases dw with dw|dw
    ·rw [dw];exact fun bp=>by cases bp
    ·rw [dw];exact h.sep k key o _ b ae ax ai az rfl ak
   ·cases mF
   ·rw [cq _ _ c3]
    exact h.sep k bg o o' b c1 ax hd az mF ak
 ·intro k dZ ak
  have s8:k≠t:=by rintro rfl;rw [aq] at ak;exact rI ak
  have c1:k≠key:=by rintro rfl;exact absurd jC (Nat.not_lt.2 dZ)
  exact ⟨by simp only [cq _ _ s8,cq _ _ c1];exact ak,cq _ _ s8⟩
end Go.Am
namespace Go.Am
set_option linter.unusedVariables false
def tF(φ:Key→Key):AV→AV
 | .any=> .any
 | .d x=> .d x
 | .dO cs off=> .dO cs off
 | .ptr k off=> .ptr (φ k) off
 | .fb k cx i off=> .fb (φ k) cx i off
 | .row k=> .row (φ k)
 | .sub k cx i len=> .sub (φ k) cx i len
 | .map k=> .map (φ k)
 |_=> .any
def renA(φ:Key→Key):AV→AV
 | .agg cs=> .agg (cs.map (tF φ))
 | .aL cs=> .aL (cs.map (tF φ))
 | .fn f as h7=> .fn f (as.map (tF φ)) (h7.map (tF φ))
 |x=>tF φ x
def rS(φ:Key→Key):cl→cl
 | .box cs=> .box (cs.map (renA φ))
 |o=>o
section
variable{m:Mem}{ρ cn:cK}{U k8:Key→Prop}{φ:Key→Key}
theorem RV(h:∀k,U k→k8 (φ k)∧cn (φ k)=ρ k){x:AV}{v:Value}(ah:bK m ρ U x v):bK m cn k8 (tF φ x) v:=by
 cases ah with
 |any v=>exact .any _
 |d x v ah=>exact .d _ _ ah
 |agg=>exact .any _
 |aL=>exact .any _
 |dO cs off b o vs T dI hm xs ad ae=>exact .dO _ _ b o vs T dI hm xs ad ae
 |ptr k off b hu au=>exact .ptr _ _ b (h k hu).1 ((h k hu).2.trans au)
 |fb k cx i off b o len cap hu au=>exact .fb _ _ _ _ b o len cap (h k hu).1 ((h k hu).2.trans au)
 |row k hu=>rw [←(h k hu).2];exact .row _ (h k hu).1
 |sub k cx i len b o L cap a hu au hle aA=>exact .sub _ _ _ _ b o L cap a (h k hu).1 ((h k hu).2.trans au) hle aA
 |jv k cx i hu au=>exact .jv _ _ _ (h k hu).1 ((h k hu).2.trans au)
 |map k hu=>rw [←(h k hu).2];exact .map _ (h k hu).1
 |fn=>exact .any _
theorem Gm(h:∀k,U k→k8 (φ k)∧cn (φ k)=ρ k){cs:List AV}{vs:Array Value}(an:vs.size=cs.length)(bp:∀(i:Nat) (c:AV) (v:Value),cs[i]?=some c→vs[i]?=some v→bK m ρ U c v):
  vs.size=(cs.map (tF φ)).length∧∀(i:Nat) (c:AV) (v:Value),(cs.map (tF φ))[i]?=some c→vs[i]?=some v→bK m cn k8 c v:=by
 refine ⟨by simpa using an,?_⟩
 intro i c v aj aM
 simp only [List.getElem?_map,Option.map_eq_some_iff] at aj
 obtain ⟨y,aT,rfl⟩:=aj
 exact RV h (bp i y v aT aM)
theorem RW(h:∀k,U k→k8 (φ k)∧cn (φ k)=ρ k){x:AV}{v:Value}(ah:bK m ρ U x v):bK m cn k8 (renA φ x) v:=by
 unfold renA
 split
 ·cases ah with|agg _ vs an bp=>
  obtain ⟨ad,ae⟩:=Gm h an bp
  exact .agg _ _ ad ae
 ·cases ah with|aL _ vs an bp=>
  obtain ⟨ad,ae⟩:=Gm h an bp
  exact .aL _ _ ad ae
 ·cases ah with|fn _ _ _ vs ws an dS bp u4=>
  obtain ⟨ad,ae⟩:=Gm h an bp
  obtain ⟨ax,aZ⟩:=Gm h dS u4
  exact .fn _ _ _ _ _ ad ax ae aZ
 ·exact RV h ah
theorem acU(h:∀k,U k→k8 (φ k)∧cn (φ k)=ρ k){o:cl}{v:Value}{w:World}(az:h5 m ρ U v w o):h5 m cn k8 v w (rS φ o):=by
 cases o with
 |dead=>trivial
 |box cs=>
  obtain ⟨b,vs,T,aQ,aW,bA,cz⟩:=az
  refine ⟨b,vs,T,aQ,aW,by simpa using bA,?_⟩
  intro i c x aj ah
  simp only [List.getElem?_map,Option.map_eq_some_iff] at aj
  obtain ⟨y,aT,rfl⟩:=aj
  exact RW h (cz i y x aT ah)
 |row=>exact az
 |map=>exact az
theorem acV{o:cl}:(rS φ o).owns=o.owns:=by cases o<;>rfl
end
def acW:Act:={tmps:= #[],defers:=[]}
def Gn(m:Mem)(fr:eE)(ρ:cK)(E:b6)(w:World):Prop:=Den m fr ρ ⟨fun _=> .any,E⟩ acW w
def o8(E:b6)(k:Key):Prop:=∃o,E k=some o
structure gf where
 f:FuncId
 args:List jB
 ins:List (Key×jV)
 res:jB
 outs:List (Key×jV)
def gf.tG(s:gf)(ls:List D):List AV:=(resWs ls s.args 0).1
def gf.lO(s:gf)(ls:List D):List (Key×cl):=(resB ls s.ins (resWs ls s.args 0).2).1
def gf.Gp(s:gf)(ls:List D):AV:=(resW ls s.res 0).1
def gf.nt(s:gf)(ls:List D):List (Key×cl):=(resB ls s.outs (resW ls s.res 0).2).1
structure eP(P:Program)(G:cT)(s:gf)(F:List D→Option (List D)):Prop where
 fn:u3 P s.f
 run:∀ls eh,F ls=some eh→∀(m:Mem) (fr:eE) (ρ:cK) (w:World) (vs:List Value),iz G m→Gn m fr ρ (lookO (s.lO ls)) w→vs.length=(s.tG ls).length→
  (∀(i:Nat) (x:AV) (v:Value),(s.tG ls)[i]?=some x→vs[i]?=some v→bK m ρ (o8 (lookO (s.lO ls))) x v)→
  Calls P s.f vs.toArray w fun e w'=>∃v ca cn,e= .returned v∧m.le ca∧Gn ca fr cn (lookO (s.nt eh)) w'∧bK ca cn (o8 (lookO (s.nt eh))) (s.Gp eh) v∧
   ∀k,10000≤k→dP (lookO (s.lO ls) k)→cn k=ρ k
def o9(bT:List (Key×Key))(base:Nat)(k:Key):Key:=if 10000≤k then e1 bT k else base+(k-9000)
def afterObjs(objs:b6)(dead:List Key)(outs:List (Key×cl)):b6:=fun p=>match lookO outs p with
 |some o=>some o
 |none=>if p∈dead then some .dead else objs p
def acX:jV→Bool
 | .row _=>true
 | .map=>true
 |_=>false
def RX(objs:b6)(bT:List (Key×Key))(base:Nat)(s:gf):Bool:=
 renOk (e1 bT) (s.ins.map (·.1))&&renOk (o9 bT base) (s.outs.map (·.1))&&decide ((s.ins.map (·.1)).Nodup)&&decide ((s.outs.map (·.1)).Nodup)&&
 s.outs.all (fun p=>if 10000≤p.1 then s.ins.any (fun q=>q.1==p.1&&yE q.2) else decide (9000≤p.1)&&decide (o9 bT base p.1<10000)&&(objs (o9 bT base p.1)).isNone)&&
 s.ins.all (fun q=>if 10000≤q.1 then yE q.2&&s.outs.any (fun p=>p.1==q.1&&yE p.2) else acX q.2&&decide (e1 bT q.1<10000))
section
variable{β:Type}
def callH(G:cT)(s:gf)(F:List D→Option (List D))(base:Nat)(σ:St)(o:Oper)(x:Operand)(args:List Operand)(k:St→Option β):Option β:=
 match calleeA (evA G σ.aC x) with
 |some (f,pre,post)=>
  if f=s.f then
   let rJ:=pre++args.map (evA G σ.aC)++post
   let bT:=thB σ s.ins (Gf rJ s.args)
   let ks:=s.ins.map (·.1)
   if RX σ.objs bT base s=true then
    match ocat (Gg bT ks rJ s.args) (Gh bT ks σ s.ins) with
    |some ls=>R (F ls) fun eh=>k (St.put ⟨σ.aC,afterObjs σ.objs (ks.map (e1 bT)) ((s.nt eh).map fun p=>(o9 bT base p.1,rS (o9 bT base) p.2))⟩ o.dst (renA (o9 bT base) (s.Gp eh)))
    |none=>none
   else none
  else none
 |none=>none
end
section
variable{P:Program}{T:bY}{G:cT}{m:Mem}{fr:eE}{ρ:cK}{σ:St}{a:Act}{w:World}{N:Nat}
theorem acY(cy:iz G m)(h:Den m fr ρ σ a w){o:Oper}{x:Operand}{args:Array Operand}{dd:Array TypeId}(dj:o.op= .call ⟨.value x,args,dd⟩){f:FuncId}{pre post:List AV}(fG:calleeA (evA G σ.aC x)=some (f,pre,post))(a4:u3 P f):
  ∃vs:List Value,vs.length=(pre++args.toList.map (evA G σ.aC)++post).length∧(∀(i:Nat) (c:AV) (v:Value),(pre++args.toList.map (evA G σ.aC)++post)[i]?=some c→vs[i]?=some v→bK m ρ σ.used c v)∧
   (execOp a.eval o).run P w= .ok (.enter f vs.toArray) w:=by
 have cW:=AD (a:=a) cy h.aC
 have ah:=cW x
 have Kj:∃first cap,a.eval x= .func (.func f) first cap∧first.size=pre.length∧cap.size=post.length∧
   (∀(i:Nat) (c:AV) (v:Value),pre[i]?=some c→first[i]?=some v→bK m ρ σ.used c v)∧(∀(i:Nat) (c:AV) (v:Value),post[i]?=some c→cap[i]?=some v→bK m ρ σ.used c v):=by
  unfold calleeA at fG
  split at fG
  ·rename_i hB first cap he
   split at fG
   case isFalse=>cases fG
   rename_i aq
   cases fG
   rw [he] at ah
   exact ⟨first,cap,ah.gp,by simpa using aq.1,by simpa using aq.2,by intro i c v aj;simp at aj,by intro i c v aj;simp at aj⟩
  ·rename_i hB first cap he
   cases fG
   rw [he] at ah
   generalize a.eval x=u at ah
   cases ah with|fn _ _ _ vs ws an dS g oW=>exact ⟨vs,ws,rfl,an,dS,g,oW⟩
  ·rename_i hB first cap he
   cases fG
   rw [he] at ah
   have ah:=ah.mu
   generalize a.eval x=u at ah
   cases ah with|fn _ _ _ vs ws an dS g oW=>
   refine ⟨vs,ws,rfl,by simpa using an,by simpa using dS,?_,?_⟩
   ·intro i c v aj aM
    simp only [List.getElem?_map,Option.map_eq_some_iff] at aj
    obtain ⟨y,aT,rfl⟩:=aj
    exact .d _ _ (g i y v aT aM)
   ·intro i c v aj aM
    simp only [List.getElem?_map,Option.map_eq_some_iff] at aj
    obtain ⟨y,aT,rfl⟩:=aj
    exact .d _ _ (oW i y v aT aM)
  ·cases fG
 obtain ⟨first,cap,s3,lH,na,a2,bb⟩:=Kj
 refine ⟨(first++args.map a.eval++cap).toList,by simp [lH,na],?_,?_⟩
 ·intro i c v aj aM
  simp only [Array.toList_append,Array.toList_map] at aM
  have aQ:first.toList.length=pre.length:=by simpa using lH
  by_cases ad:i<pre.length
  ·rw [List.append_assoc,List.getElem?_append_left ad] at aj
   rw [List.append_assoc,List.getElem?_append_left (by omega)] at aM
   exact a2 i c v aj (by simpa using aM)
  ·by_cases ae:i<pre.length+args.size
   ·rw [List.getElem?_append_left (by simp;omega),List.getElem?_append_right (by omega)] at aj
    rw [List.getElem?_append_left (by simp;omega),List.getElem?_append_right (by omega),aQ] at aM
    simp only [List.getElem?_map,Option.map_eq_some_iff] at aj aM
    obtain ⟨p,aV,rfl⟩:=aj
    obtain ⟨q,bL,rfl⟩:=aM
    rw [aV] at bL;cases bL
    exact cW _
   ·rw [List.getElem?_append_right (by simp;omega)] at aj
    rw [List.getElem?_append_right (by simp;omega)] at aM
    refine bb _ c v aj ?_
    rw [←aM]
    simp only [List.length_append,List.length_map,Array.length_toList,lH]
    simp
 ·unfold execOp
  rw [dj]
  simp only [Array.toArray_toList]
  exact Qw s3 a4
theorem RY{φ:Key→Key}:∀{lo:List (Key×cl)} {p:Key} {o:cl},lookO (lo.map fun q=>(φ q.1,rS φ q.2)) p=some o→∃k dc,k∈kp lo∧φ k=p∧o=rS φ dc∧((kp lo).Nodup→lookO lo k=some dc)
 |[],p,o,h=>by cases h
 |(j,x)::r,p,o,h=>by
  simp only [List.map_cons,lookO] at h
  split at h
  ·rename_i e
   cases h
   exact ⟨j,x,by simp [kp],e.symm,rfl,fun _=>by simp [lookO]⟩
  ·obtain ⟨k,dc,ad,ae,ax,aZ⟩:=RY h
   refine ⟨k,dc,?_,ae,ax,?_⟩
   ·simp only [kp,List.map_cons,List.mem_cons] at ad⊢;exact .inr ad
   ·intro aJ
    simp only [kp,List.map_cons,List.nodup_cons] at aJ ad
    have cc:k≠j:=by rintro rfl;exact aJ.1 ad
    simp only [lookO,if_neg cc]
    exact aZ aJ.2
theorem K1{φ:Key→Key}:∀{lo:List (Key×cl)} {k:Key},k∈kp lo→∃o,lookO (lo.map fun q=>(φ q.1,rS φ q.2)) (φ k)=some o
 |[],k,h=>by cases h
 |(j,x)::r,k,h=>by
  simp only [List.map_cons,lookO]
  split
  ·exact ⟨_,rfl⟩
  ·rename_i cc
   simp only [kp,List.map_cons,List.mem_cons] at h
   rcases h with rfl|h
   ·exact absurd rfl cc
   ·exact K1 h
theorem RZ{ls:List D}{l:List (Key×jV)}{n:Nat}{k:Key}(aJ:(l.map (·.1)).Nodup){q:Key×jV}(bL:q∈l)(ai:q.1=k)(ak:yE q.2=true):dP (lookO (resB ls l n).1 k):=by
 obtain ⟨a,b⟩:=q
 simp only at ai ak
 subst ai
 exact KX ls l n _ aJ ⟨_,bL,ak⟩
theorem acZ{φ:Key→Key}{U:Key→Prop}{o o':cl}(h:ObLe φ U o' o)(ak:dP (some o)):dP (some o'):=by
 cases o with
 |dead=>exact absurd ak AY
 |box=>obtain ⟨xs,rfl,_⟩:=h;exact rG
 |row=>obtain ⟨es,rfl,_⟩:=h;exact rH
 |map=>exact absurd ak yl
theorem callH_ok(cy:iz G m)(h:Den m fr ρ σ a w)(bQ:N≤a.tmps.size)(fU:a.defers=[]){o:Oper}(fx:∀d,o.dst=some d→d<N){s:gf}{F:List D→Option (List D)}(a7:eP P G s F){base:Nat}
  {x:Operand} {args:Array Operand} {dd:Array TypeId} (az:o.op= .call ⟨.value x,args,dd⟩) {β:Type} {k:St→Option β} {b:β} (aj:callH G s F base σ o x args.toList k=some b) {Q:Exit→Act→World→Prop}:
  o.wp P a w (hq N m fr ρ σ (fun aR=>k aR=some b∧∀p,10000≤p→dP (aR.objs p)→dP (σ.objs p))) Q:=by
 have hr:∀d,o.dst=some d→d<a.tmps.size:=fun d ay=>Nat.lt_of_lt_of_le (fx d ay) bQ
 have qp:∀v,N≤(a.put o.dst v).tmps.size:=by intro v;cases o.dst<;>simpa [Act.put] using bQ
 have kl:∀v,(a.put o.dst v).defers=[]:=by intro v;cases o.dst<;>exact fU
 unfold callH at aj
 split at aj
 case h_2=>cases aj
 rename_i f pre post fG
 split at aj
 case isFalse=>cases aj
 rename_i a4
 subst a4
 simp only at aj
 generalize atF:thB σ s.ins (Gf (pre++args.toList.map (evA G σ.aC)++post) s.args)=bT at aj
 generalize R0:pre++args.toList.map (evA G σ.aC)++post=rJ at aj
 split at aj
 case isFalse=>cases aj
 rename_i R1
 split at aj
 case h_2=>cases aj
 rename_i ls KY
 obtain ⟨eh,jd,ai⟩:=ew aj
 simp only [RX,Bool.and_eq_true,List.all_eq_true,decide_eq_true_eq] at R1
 obtain ⟨⟨⟨⟨⟨bc,bm⟩,bB⟩,cm⟩,cD⟩,cE⟩:=R1
 obtain ⟨ag,aS,aQ,aW,rfl⟩:=vq KY
 have fZ:kW (ag++aS) 0 (ag++aS):=fun j d aF=>by rw [Nat.zero_add];exact aF
 have K2:kp (s.lO (ag++aS))=s.ins.map (·.1):=vr _ _ _
 have K3:kp (s.nt eh)=s.outs.map (·.1):=vr _ _ _
 have fy:∀k,(s.ins.map (·.1)).contains k=true→o8 (lookO (s.lO (ag++aS))) k:=by
  intro k ai
  exact Gj (by rw [K2];simpa using ai)
 obtain ⟨br,bj⟩:=KV fy aQ fZ.left
 have au:=fZ.right
 rw [←bj] at au
 obtain ⟨bS,db⟩:=KW fy aW au
 have bS:vg (e1 bT) (o8 (lookO (s.lO (ag++aS)))) σ (s.lO (ag++aS)):=bS
 have ac0:∀k j,k∈s.ins.map (·.1)→j∈s.ins.map (·.1)→e1 bT k=e1 bT j→k=j:=FZ bc
 have R2:∀k j,k∈s.outs.map (·.1)→j∈s.outs.map (·.1)→o9 bT base k=o9 bT base j→k=j:=FZ bm
 have iU:∀{o o':cl},ObLe (e1 bT) (o8 (lookO (s.lO (ag++aS)))) o' o→o.owns=true→o'.owns=true:=by
  intro o o' hle az
  cases o with
  |dead=>cases az
  |box=>obtain ⟨xs,rfl,_⟩:=hle;rfl
  |row=>obtain ⟨es,rfl,_⟩:=hle;rfl
  |map=>cases hle;rfl
 have K4:∀{k o},lookO (s.lO (ag++aS)) k=some o→k∈s.ins.map (·.1):=fun ai=>by rw [←K2];exact tx ai
 have ac1:∀{k o},lookO (s.nt eh) k=some o→k∈s.outs.map (·.1):=fun ai=>by rw [←K3];exact tx ai
 let passed:Key→Prop:=fun p=>∃k,k∈s.ins.map (·.1)∧e1 bT k=p
 let Bo:Mem:=fun b=>match fr b with
  |some o=>some o
  |none=>open Classical in if∃k o,σ.objs k=some o∧o.owns=true∧¬passed k∧blockOf (ρ k)=some b then w.heap[b]? else none
 let rT:eE:=⟨Bo,fr.os,fr.out,fr.low⟩
 have Gq:∀b o,fr b=some o→rT b=some o:=by intro b o ak;simp only [rT,Bo,ak]
 have Gr:∀b k o,σ.objs k=some o→o.owns=true→¬passed k→blockOf (ρ k)=some b→rT b=w.heap[b]?:=by
  intro b k o ad ae ax aZ
  have bI:=(h.own k o b ad ae aZ).2
  simp only [rT,Bo,bI]
  rw [if_pos ⟨k,o,ad,ae,ax,aZ⟩]
 have R3:∀b,rT b≠none→fr b≠none∨∃k o,σ.objs k=some o∧o.owns=true∧¬passed k∧blockOf (ρ k)=some b:=by
  intro b ak
  cases a4:fr b with
  |some o=>exact .inl (by simp)
  |none=>
   refine .inr ?_
   refine Classical.byContradiction fun vw=>ak ?_
   simp only [rT,Bo,a4]
   rw [if_neg vw]
 have A9:Gn m rT (fun k=>ρ (e1 bT k)) (lookO (s.lO (ag++aS))) w:=by
  refine ⟨h.mem,⟨?_,⟨h.frame.quiet.os,h.frame.quiet.out,h.frame.quiet.low,h.frame.quiet.qe⟩⟩,?_,?_,fun _=> .any _,?_,?_,?_⟩
  ·intro b o ak
   cases a4:fr b with
   |some o'=>rw [Gq b o' a4] at ak;cases ak;exact h.frame.nZ b _ a4
   |none=>
    simp only [rT,Bo,a4] at ak
    split at ak
    ·exact ak
    ·cases ak
  ·intro b ak
   refine Classical.byContradiction fun vw=>?_
   rcases R3 b vw with ad|⟨k,o,ad,ae,ax,aZ⟩
   ·exact ad (h.apart b ak)
   ·exact ak (h.own k o b ad ae aZ).1
  ·rintro k ⟨o,kq⟩
   obtain ⟨o',ad,_⟩:=bS.ok k o kq
   exact h.one _ ⟨o',ad⟩
  ·intro k o kq
   obtain ⟨o',ad,ae⟩:=bS.ok k o kq
   have ax:=h.objs _ _ ad
   cases o with
   |dead=>trivial
   |box cN=>
    obtain ⟨xs,rfl,hle⟩:=ae
    obtain ⟨b,vs,T,aQ,aW,bA,cz⟩:=ax
    have:=qs.cells hle ⟨bA,cz⟩
    exact ⟨b,vs,T,aQ,aW,this.1,this.2⟩
   |row cx cL=>
    obtain ⟨es,rfl,hle⟩:=ae
    exact hle.ok ax
   |map es=>
    cases ae
    exact ax
  ·intro k o b kq F0 ak
   obtain ⟨o',ad,ae⟩:=bS.ok k o kq
   have ax:=h.own _ o' b ad (iU ae F0) ak
   refine ⟨ax.1,?_⟩
   refine Classical.byContradiction fun vw=>?_
   rcases R3 b vw with aZ|⟨bg,lh,aZ,bI,b9,e0⟩
   ·exact aZ ax.2
   ·have cc:e1 bT k≠bg:=by rintro rfl;exact b9 ⟨k,K4 kq,rfl⟩
    exact h.sep _ _ _ _ b cc ad aZ (iU ae F0) bI ak e0
  ·intro k bg o o' b cc kq Bb Ky Kz ak
   obtain ⟨y,ad,ae⟩:=bS.ok k o kq
   obtain ⟨JW,c3,fQ⟩:=bS.ok bg o' Bb
   exact h.sep (e1 bT k) (e1 bT bg) y JW b (fun e=>cc (ac0 k bg (K4 kq) (K4 Bb) e)) ad c3 (iU ae Ky) (iU fQ Kz) ak
 obtain ⟨vs,v1,v2,pb⟩:=acY (P:=P) cy h az fG a7.fn
 rw [R0] at v1 v2
 obtain ⟨kK,kL⟩:=br.ok
 have qq:=a7.run _ _ jd m rT _ w vs cy A9 (v1.trans kK.symm) (by
  intro i y v aT aM
  obtain ⟨R4,ac2,hle⟩:=kL i y aT
  exact hle.ok (v2 i R4 v ac2 aM))
 unfold Oper.wp
 rw [pb]
 refine qq.mono fun e w' he=>?_
 obtain ⟨v,ca,cn,rfl,vx,jW,yx,ac3⟩:=he
 generalize kv:o9 bT base=φ at*
 let rU:=(s.nt eh).map fun p=>(φ p.1,rS φ p.2)
 let objs':=afterObjs σ.objs ((s.ins.map (·.1)).map (e1 bT)) rU
 let jy:cK:=fun p=>match(s.outs.map (·.1)).find? (fun k=>φ k==p) with
  |some k=>cn k
  |none=>ρ p
 have K5:∀k,k∈s.outs.map (·.1)→jy (φ k)=cn k:=by
  intro k ai
  simp only [jy]
  cases yG:(s.outs.map (·.1)).find? (fun bg=>φ bg==φ k) with
  |none=>exact absurd (List.find?_eq_none.1 yG k ai) (by simp)
  |some bg=>
   have ad:=List.find?_some yG
   simp only [beq_iff_eq] at ad
   rw [R2 bg k (List.mem_of_find?_eq_some yG) ai ad]
 have K6:∀k,k∈s.outs.map (·.1)→(10000≤k∧k∈s.ins.map (·.1)∧φ k=e1 bT k∧dP (lookO (s.lO (ag++aS)) k))∨(σ.objs (φ k)=none∧φ k<10000):=by
  intro k ai
  obtain ⟨p,aV,rfl⟩:=List.mem_map.1 ai
  have ad:=cD p aV
  by_cases bP:10000≤p.1
  ·rw [if_pos bP] at ad
   obtain ⟨q,bL,ae⟩:=List.any_eq_true.1 ad
   simp only [Bool.and_eq_true,beq_iff_eq] at ae
   refine .inl ⟨bP,List.mem_map.2 ⟨q,bL,ae.1⟩,?_,RZ bB bL ae.1 ae.2⟩
   rw [←kv];simp only [o9,if_pos bP]
  ·rw [if_neg bP] at ad
   simp only [Bool.and_eq_true,decide_eq_true_eq,Option.isNone_iff_eq_none] at ad
   exact .inr ⟨ad.2,ad.1.2⟩
 have Gs:∀p,σ.used p→jy p=ρ p:=by
  rintro p ⟨op,aV⟩
  simp only [jy]
  cases yG:(s.outs.map (·.1)).find? (fun bg=>φ bg==p) with
  |none=>rfl
  |some k=>
   have ad:=List.find?_some yG
   simp only [beq_iff_eq] at ad
   rcases K6 k (List.mem_of_find?_eq_some yG) with⟨ae,ax,aZ,bI⟩|⟨ae,_⟩
   ·simp only
    rw [ac3 k ae bI,←aZ,ad]
   ·rw [ad,aV] at ae;cases ae
 have Bp:∀p op,lookO rU p=some op→∃k dc,k∈s.outs.map (·.1)∧φ k=p∧op=rS φ dc∧lookO (s.nt eh) k=some dc:=by
  intro p op aV
  obtain ⟨k,dc,ad,ae,ax,aZ⟩:=RY aV
  rw [K3] at ad aZ
  exact ⟨k,dc,ad,ae,ax,aZ cm⟩
 have R5:∀k,o8 (lookO (s.nt eh)) k→o8 objs' (φ k)∧jy (φ k)=cn k:=by
  rintro k ⟨dc,ad⟩
  refine ⟨?_,K5 k (ac1 ad)⟩
  obtain ⟨fH,ae⟩:=K1 (φ:=φ) (tx ad)
  exact ⟨fH,by simp only [objs',afterObjs,rU,ae]⟩
 have R6:∀p,σ.used p→o8 objs' p∧jy p=ρ p:=by
  rintro p ⟨op,aV⟩
  refine ⟨?_,Gs p ⟨op,aV⟩⟩
  unfold o8
  simp only [objs',afterObjs]
  cases an:lookO rU p with
  |some fH=>exact ⟨fH,rfl⟩
  |none=>
   simp only
   split
   ·exact ⟨_,rfl⟩
   ·exact ⟨op,aV⟩
 have Bq:∀p op,objs' p=some op→op.owns=true→(∃k dc,φ k=p∧op=rS φ dc∧lookO (s.nt eh) k=some dc∧jy p=cn k∧dc.owns=true)∨(σ.objs p=some op∧¬passed p∧jy p=ρ p):=by
  intro p op aV dj
  simp only [objs',afterObjs] at aV
  cases an:lookO rU p with
  |some fH=>
   rw [an] at aV
   cases aV
   obtain ⟨k,dc,ad,ae,ax,aZ⟩:=Bp p op an
   refine .inl ⟨k,dc,ae,ax,aZ,?_,by rw [ax,acV] at dj;exact dj⟩
   rw [←ae];exact K5 k ad
  |none=>
   rw [an] at aV
   simp only at aV
   split at aV
   ·cases aV;cases dj
   ·rename_i aJ
    refine .inr ⟨aV,?_,Gs p ⟨op,aV⟩⟩
    rintro ⟨k,ai,rfl⟩
    exact aJ (List.mem_map.2 ⟨k,ai,rfl⟩)
 have ac4:Den ca fr jy ⟨σ.aC,objs'⟩ a w':=by
  refine ⟨jW.mem,⟨fun b gq ak=>jW.frame.nZ b gq (Gq b gq ak),⟨jW.frame.quiet.os,jW.frame.quiet.out,jW.frame.quiet.low,jW.frame.quiet.qe⟩⟩,?_,?_,?_,?_,?_,?_⟩
  ·intro b ak
   have ad:=jW.apart b ak
   cases a4:fr b with
   |none=>rfl
   |some gq=>rw [Gq b gq a4] at ad;cases ad
  ·rintro p ⟨op,aV⟩
   simp only [objs',afterObjs] at aV
   cases an:lookO rU p with
   |some fH=>
    obtain ⟨k,dc,ad,ae,ax,aZ⟩:=Bp p fH an
    rw [←ae,K5 k ad]
    exact jW.one k ⟨dc,aZ⟩
   |none=>
    rw [an] at aV
    simp only at aV
    have hu:σ.used p:=by
     split at aV
     ·rename_i hm
      obtain ⟨k,ai,rfl⟩:=List.mem_map.1 hm
      obtain ⟨ok,ac5⟩:=Gj (lo:=s.lO (ag++aS)) (k:=k) (by rw [K2];exact ai)
      obtain ⟨o',ad,_⟩:=bS.ok k ok ac5
      exact ⟨o',ad⟩
     ·exact ⟨op,aV⟩
    rw [Gs p hu]
    exact h.one p hu
  ·intro t
   exact (h.aC t).mono vx R6
  ·intro p op aV
   by_cases dj:op.owns=true
   ·rcases Bq p op aV dj with⟨k,dc,ad,ae,ax,aZ,bI⟩|⟨ad,ae,ax⟩
    ·rw [ae,aZ]
     exact acU R5 (jW.objs k dc ax)
    ·rw [ax]
     refine (h.objs p op ad).mono vx R6 ?_
     intro b qi oT
     have aZ:=Gr b p op ad dj ae oT
     have bI:∃gq,w.heap[b]?=some gq:=⟨_,Array.getElem?_eq_getElem ((h.objs p op ad).rB qi oT)⟩
     obtain ⟨gq,bI⟩:=bI
     rw [bI]
     exact jW.frame.nZ b gq (by rw [aZ,bI])
   ·cases op with
    |dead=>trivial
    |_=>exact absurd rfl dj
  ·intro p op b aV dj ak
   rcases Bq p op aV dj with⟨k,dc,ad,ae,ax,aZ,bI⟩|⟨ad,ae,ax⟩
   ·rw [aZ] at ak
    have b9:=jW.own k dc b ax bI ak
    refine ⟨b9.1,?_⟩
    cases a4:fr b with
    |none=>rfl
    |some gq=>rw [Gq b gq a4] at b9;cases b9.2
   ·rw [ax] at ak
    have aZ:=h.own p op b ad dj ak
    refine ⟨?_,aZ.2⟩
    refine Classical.byContradiction fun vw=>?_
    have bI:=jW.apart b vw
    rw [Gr b p op ad dj ae ak] at bI
    have:=(h.objs p op ad).rB dj ak
    rw [Array.getElem?_eq_getElem this] at bI
    cases bI
  ·intro p mz op Br b cc aV Bs dj Bt ak
   rcases Bq p op aV dj with⟨k,dc,ad,ae,ax,aZ,bI⟩|⟨ad,ae,ax⟩
   ·rw [aZ] at ak
    rcases Bq mz Br Bs Bt with⟨bg,Bn,c3,fQ,hd,jD,rV⟩|⟨c3,fQ,hd⟩
    ·rw [jD]
     exact jW.sep k bg dc Bn b (by rintro rfl;exact cc (ad.symm.trans c3)) ax hd bI rV ak
    ·rw [hd]
     intro fE
     have b9:=(jW.own k dc b ax bI ak).2
     rw [Gr b mz Br c3 Bt fQ fE] at b9
     have:=(h.objs mz Br c3).rB Bt fE
     rw [Array.getElem?_eq_getElem this] at b9
     cases b9
   ·rw [ax] at ak
    rcases Bq mz Br Bs Bt with⟨bg,Bn,c3,fQ,hd,jD,rV⟩|⟨c3,fQ,hd⟩
    ·rw [jD]
     intro fE
     have b9:=(jW.own bg Bn b hd rV fE).2
     rw [Gr b p op ad dj ae ak] at b9
     have:=(h.objs p op ad).rB dj ak
     rw [Array.getElem?_eq_getElem this] at b9
     cases b9
    ·rw [hd]
     exact h.sep p mz op Br b cc ad c3 dj Bt ak
 have pc:bK ca jy (o8 objs') (renA φ (s.Gp eh)) v:=RW R5 yx
 have FV:∀p,10000≤p→dP (objs' p)→dP (σ.objs p):=by
  intro p aV gC
  simp only [objs',afterObjs] at gC
  cases an:lookO rU p with
  |some fH=>
   obtain ⟨k,dc,a2,bb,bJ,ek⟩:=Bp p fH an
   rcases K6 k a2 with⟨ae,ax,aZ,bI⟩|⟨_,ae⟩
   ·obtain ⟨aP,b9⟩:=ym bI
    obtain ⟨o',e0,hR⟩:=bS.ok k _ b9
    rw [b9] at bI
    rw [←bb,aZ,e0]
    exact acZ hR bI
   ·rw [bb] at ae;exact absurd ae (Nat.not_lt.2 aV)
  |none=>
   rw [an] at gC
   simp only at gC
   split at gC
   ·exact absurd gC AY
   ·exact gC
 refine ⟨_,ca,jy,⟨ai,by rw [St.tb];exact FV⟩,vx,ac4.put pc hr,qp v,kl v,?_⟩
 intro p aV ak
 rw [St.tb]
 obtain ⟨cs,gC⟩:=ym ak
 refine ⟨?_,Gs p ⟨_,gC⟩⟩
 show dP (objs' p)
 simp only [objs',afterObjs]
 by_cases K7:p∈(s.ins.map (·.1)).map (e1 bT)
 ·obtain ⟨k,kX,rfl⟩:=List.mem_map.1 K7
  obtain ⟨q,bL,rfl⟩:=List.mem_map.1 kX
  have ad:=cE q bL
  by_cases aZ:10000≤q.1
  ·rw [if_pos aZ] at ad
   simp only [Bool.and_eq_true,List.any_eq_true,beq_iff_eq] at ad
   obtain ⟨_,mz,Bs,bI,b9⟩:=ad
   have pd:q.1∈s.outs.map (·.1):=List.mem_map.2 ⟨mz,Bs,bI⟩
   have ac6:φ q.1=e1 bT q.1:=by rw [←kv];simp only [o9,if_pos aZ]
   obtain ⟨fH,e0⟩:=K1 (φ:=φ) (lo:=s.nt eh) (k:=q.1) (by rw [K3];exact pd)
   obtain ⟨k,dc,a2,bb,bJ,ek⟩:=Bp _ fH e0
   have c1:k=q.1:=R2 k q.1 a2 pd bb
   subst c1
   have h8:dP (lookO (s.nt eh) q.1):=RZ (ls:=eh) (n:=(resW eh s.res 0).2) cm Bs bI b9
   rw [ek] at h8
   rw [←ac6]
   have nu:lookO rU (φ q.1)=some fH:=e0
   rw [nu,bJ]
   rcases h8 with⟨atG,h8⟩|⟨kx,atH,h8⟩
   ·cases h8;exact rG
   ·cases h8;exact rH
  ·rw [if_neg aZ] at ad
   simp only [Bool.and_eq_true,decide_eq_true_eq] at ad
   exact absurd ad.2 (Nat.not_lt.2 aV)
 ·cases an:lookO rU p with
  |some fH=>
   exfalso
   obtain ⟨k,dc,a2,bb,bJ,ek⟩:=Bp p fH an
   rcases K6 k a2 with⟨ae,ax,aZ,bI⟩|⟨ae,_⟩
   ·exact K7 (List.mem_map.2 ⟨k,ax,by rw [←aZ,bb]⟩)
   ·rw [bb,gC] at ae;cases ae
  |none=>
   simp only
   rw [if_neg K7]
   exact ak
end
end Go.Am
namespace Go.Am
set_option linter.unusedVariables false
structure yH where
 s:gf
 F:List D→Option (List D)
 base:Nat
 ns:List tE
abbrev tH:=Tmp→Option yH
def iE(P:Program)(G:cT)(H:tH):Prop:=∀t e,H t=some e→eP P G e.s e.F
def Gt:AV→List Key
 | .row k=>[k]
 | .map k=>[k]
 |_=>[]
def Gu:AV→List Key
 | .agg cs=>cs.flatMap Gt
 | .fn _ as h7=>as.flatMap Gt++h7.flatMap Gt
 |x=>Gt x
def Gv:AV→List Key
 | .ptr k _=>[k]
 |_=>[]
def R7:AV→List Key
 | .agg cs=>cs.flatMap Gv
 | .fn _ as h7=>as.flatMap Gv++h7.flatMap Gv
 |x=>Gv x
def R8(objs:b6)(k:Key):List AV:=match objs k with
 |some (.box cs)=>cs
 |_=>[]
section
variable{β:Type}
def R9(G:cT)(C:kU)(σ:St)(o:Oper)(x:Operand)(args:List Operand)(k:St→Option β):Option β:=
 let rJ:=(x::args).map (evA G σ.aC)
 let fk:=rJ.flatMap R7
 let bc:=fk.flatMap (R8 σ.objs)
 let g0:=bc.flatMap R7
 let bm:=g0.flatMap (R8 σ.objs)
 frzX [rJ.flatMap Gu++bc.flatMap Gu++bm.flatMap Gu,g0,fk] σ fun σ=>callX G C σ o x args k
def Sa(o:Oper):Tmp:=match o.op,o.dst with
 | .store _ (.tmp a) _,_=>20000+a
 | .mapUpdate _ (.tmp a) _ _,_=>30000+a
 |_,some d=>d
 |_,none=>9999
def ac7:Op→List Operand
 | .buildSlice _ _ hY=>hY.toList.map (·.2)
 | .build _ hY=>hY.toList.map (·.2)
 | .box _ x=>[x]
 | .store _ _ x=>[x]
 | .mapUpdate _ _ _ x=>[x]
 | .call ⟨.builtin .append,args,_⟩=>args.toList.drop 1
 |_=>[]
def ifcP:D→Option (TypeId×D)
 | .di t x=>some (t,x)
 |_=>none
def fh{dJ:Type}(t c:Nat)(a b:Option dJ):Option dJ:=if t=c then a else b
def selM(qf:TypeId→Option FuncId)(t:TypeId)(k:FuncId→Option D):List TypeId→Option D
 |[]=>none
 |c::r=>fh t c (match qf c with
  |some f=>k f
  |none=>none) (selM qf t k r)
def invX(T:bY)(G:cT)(C:kU)(σ:St)(o:Oper)(x:Operand)(name:String)(args:List Operand)(k:St→Option β):Option β:=
 match evA G σ.aC x with
 | .d a=>match allSome ((args.map (evA G σ.aC)).map (toD σ.objs)) with
  |some aD=>R (ifcP a) fun p=>R (selM (fun t=>T.qf t name) p.1 (fun f=>C (o.dst.getD 9999) f (p.2::aD)) T.Pu) fun r=>aw ((args.map (evA G σ.aC)).all isDA) (k (σ.put o.dst (.d r)))
  |none=>none
 |_=>none
def opF(T:bY)(G:cT)(C:kU)(H:tH)(je:Tmp→Bool)(σ:St)(o:Oper)(k:St→Option β):Option β:=
 match o.op with
 | .call ⟨.value x,args,_⟩=>match H (o.dst.getD 9999) with
  |some e=>nilX e.ns σ fun σ=>callH G e.s e.F e.base σ o x args.toList k
  |none=>match je (o.dst.getD 9999) with
   |true=>R9 G C σ o x args.toList k
   |false=>callX G C σ o x args.toList k
 | .call ⟨.invoke x name,args,_⟩=>invX T G C σ o x name args.toList k
 | .slice _ _ _ _ _=>match je (Sa o) with
  |true=>stepX T G σ o fun aR=>takeX (o.dst.getD 9999) aR k
  |false=>stepX T G σ o k
 |_=>match je (Sa o) with
  |true=>frzX [((ac7 o.op).map (evA G σ.aC)).flatMap Gu] σ fun σ=>stepX T G σ o k
  |false=>stepX T G σ o k
def K8(T:bY)(G:cT)(C:kU)(H:tH)(je:Tmp→Bool):List Oper→St→(St→Option β)→Option β
 |[],σ,k=>k σ
 |o::r,σ,k=>opF T G C H je σ o fun aR=>K8 T G C H je r aR k
def K9(o:Oper):Bool:=still o||n7 o.op
def execGF(T:bY)(G:cT)(C:kU)(H:tH)(je:Tmp→Bool)(all:Array Oper):List (Option (Nat×Bool)×List Oper)→St→(St→Option β)→Option β
 |[],σ,k=>k σ
 |(none,os)::r,σ,k=>K8 T G C H je os σ fun aR=>execGF T G C H je all r aR k
 |(some (j,want),os)::r,σ,k=>match(all[j]?).bind (·.dst),lastDst os with
  |some d,some bu=>match σ.aC d with
   | .d x=>if os.all (fun o=>K9 o&&o.dst !=some d)=true then
     (if(kept all os (flat r)).all (·==bu)=true then
      R (gD x want (qy T G C os σ fun aR=>match aR.aC bu with
       | .d v=>some v
       |_=>none)) fun v=>execGF T G C H je all r ((jU (dstsOf os) σ).put (some bu) (.d v)) k
     else R (gD x want (qy T G C os σ fun aR=>match slD aR (kept all os (flat r)) with
       |some l=>some (.agg l)
       |none=>none)) fun v=>execGF T G C H je all r (tC (kept all os (flat r)) v (jU (dstsOf os) σ)) k) else none
   |_=>none
  |_,_=>none
def Sb(T:bY)(G:cT)(C:kU)(H:tH)(je:Tmp→Bool)(all:Array Oper)(σ:St)(k:St→Option β):Option β:=execGF T G C H je all (groups all.toList) σ k
end
theorem yI{objs:b6}{k d:Key}{o:cl}(h:dP (some o)→dP (objs k)∨k=d):∀j,dP (b0 objs k (some o) j)→dP (objs j)∨j=d:=by
 intro j aF
 by_cases fe:j=k
 ·subst fe;rw [dW] at aF;exact h aF
 ·rw [cq _ _ fe] at aF;exact .inl aF
theorem ac8{T:bY}{ev:Operand→AV}{objs:b6}{d:Key}{o:Op}{r:AV}{b3:List (Key×cl)}(h:effOp0 T ev objs d o=some (r,b3)):∀j,dP (updO objs b3 j)→dP (objs j)∨j=d:=by
 have new:∀{o:cl},∀j,dP (updO objs [(d,o)] j)→dP (objs j)∨j=d:=by
  intro o
  exact yI (fun _=> .inr rfl)
 have row:∀{k:Key} {n fj:Nat} {es gZ:List (List D)},objs k=some (.row fj gZ)→∀j,dP (updO objs [(k,.row n es)] j)→dP (objs j)∨j=d:=by
  intro k n fj es gZ ai
  exact yI (fun _=> .inl (by rw [ai];exact rH))
 have mp:∀{k:Key} {es:List (Value×D)},∀j,dP (updO objs [(k,.map es)] j)→dP (objs j)∨j=d:=by
  intro k es
  exact yI (fun h=>absurd h yl)
 cases o<;>simp only [effOp0,reduceCtorEq] at h
 case alloc=>split at h<;>cases h;exact new
 case box=>split at h<;>cases h;exact new
 case buildSlice=>
  split at h
  case h_2=>cases h
  split at h
  case h_2=>cases h
  split at h
  case h_2=>cases h
  split at h<;>cases h
  exact new
 case makeSlice=>
  split at h
  case h_2=>cases h
  split at h
  case h_2=>cases h
  split at h
  case h_2=>cases h
  split at h<;>cases h
  exact new
 case makeMap=>split at h<;>cases h;exact new
 case store=>
  split at h
  case h_2=>cases h
  split at h
  case isFalse=>cases h
  split at h
  ·split at h
   case h_2=>cases h
   split at h<;>cases h
   rename_i ai _
   exact yI fun _=> .inl (by rw [ai];exact rG)
  ·split at h
   case h_2=>cases h
   split at h
   case isFalse=>cases h
   split at h<;>cases h
   exact row (by assumption)
  ·cases h
 case mapUpdate=>
  split at h
  case h_2=>cases h
  split at h
  case h_2=>cases h
  split at h
  case isFalse=>cases h
  split at h
  case h_2=>cases h
  split at h
  case h_2=>cases h
  split at h<;>cases h
  exact mp
 case insert=>
  split at h
  case h_2=>cases h
  split at h
  case h_2=>cases h
  split at h
  case isFalse=>cases h
  split at h
  case h_2=>cases h
  split at h
  case h_2=>cases h
  split at h<;>cases h
  exact mp
 case call=>
  split at h
  ·split at h
   case h_2=>cases h
   split at h
   case h_2=>cases h
   split at h
   case h_2=>cases h
   split at h
   case h_2=>cases h
   split at h
   case isFalse=>cases h
   split at h
   ·split at h<;>cases h
    exact new
   ·split at h
    case h_2=>cases h
    split at h<;>cases h
    intro j aF
    rcases yI (d:=d) (fun _=> .inr rfl) j aF with ad|ad
    ·exact yI (fun h=>absurd h AY) j ad
    ·exact .inr ad
   ·cases h
  ·split at h
   case h_2=>cases h
   split at h
   case h_2=>cases h
   split at h
   case h_2=>cases h
   split at h
   case h_2=>cases h
   split at h
   case isFalse=>cases h
   split at h
   ·split at h
    case h_2=>cases h
    split at h<;>cases h
    exact row (by assumption)
   ·split at h
    case h_2=>cases h
    split at h<;>cases h
    exact row (by assumption)
   ·cases h
  ·cases h
theorem ac9{T:bY}{ev:Operand→AV}{objs:b6}{d:Key}{o:Op}{r:AV}{b3:List (Key×cl)}(h:fF T ev objs d o=some (r,b3)):∀j,dP (updO objs b3 j)→dP (objs j)∨j=d:=by
 obtain ⟨⟨g1,qn⟩,aq,ak⟩:=ta h
 have ad:=ac8 aq
 intro j aF
 by_cases ay:j=d
 ·exact .inr ay
 rcases u1 (T.born d) d g1 qn with e|⟨n,es,rfl,rfl,e⟩|⟨n3,n,es,rfl,rfl,e⟩|⟨off,cs,aD,rfl,rfl,ec,e⟩
 ·rw [ak] at e;cases e;exact ad j aF
 ·rw [ak] at e;cases e
  exact ad j (by simp only [updO,cq _ _ ay] at aF⊢;exact aF)
 ·rw [ak] at e;cases e
  exact ad j (by simp only [updO,cq _ _ ay] at aF⊢;exact aF)
 ·rw [ak] at e;cases e
  exact ad j (by simp only [updO,cq _ _ ay] at aF⊢;exact aF)
section
variable{P:Program}{T:bY}{G:cT}{N:Nat}{σ:St}{all:Array Oper}{ib:List Key}
theorem eL.put(h:eL ib σ){dst:Option Tmp}{r:AV}:eL ib (σ.put dst r):=by
 intro k ai ak
 rw [St.tb] at ak
 exact h k ai ak
theorem La(b1:eL ib σ){o:Oper}(ay:∀d,o.dst=some d→d<10000){aR:St}(h:stepA T G σ o=some aR):eL ib aR:=by
 unfold stepA at h
 split at h
 ·cases h;exact b1.put
 ·split at h
  ·cases h;exact b1.put
  ·split at h
   case h_2=>cases h
   rename_i r b3 he
   cases h
   refine eL.put ?_
   intro k ai ak
   rcases ac9 he k ak with ad|ad
   ·exact b1 k ai ad
   ·exfalso
    have:o.dst.getD 9999<10000:=by
     cases az:o.dst with
     |none=>simp
     |some d=>exact ay d az
    exact absurd this (Nat.not_lt.2 (ad▸ai))
theorem Sc(b1:eL ib σ){o:Oper}(ay:∀d,o.dst=some d→d<10000){K:St→Prop}(h:vDo P T G o K σ):vDo P T G o (fun aR=>eL ib aR∧K aR) σ:=by
 unfold vDo at*
 split
 ·rename_i aR aB
  simp only [aB] at h
  exact ⟨La b1 ay aB,h⟩
 ·rename_i aB
  simp only [aB] at h
  unfold vCall at*
  split at h
  case h_2=>cases h
  split at h
  case h_2=>cases h
  obtain ⟨lf,aD,dX,ad,ae,ax,aZ,bI,b9⟩:=h
  exact ⟨lf,aD,dX,ad,ae,ax,aZ,bI,fun r au=>⟨b1.put,b9 r au⟩⟩
theorem Lb:∀{l:List Oper} {σ:St} {K:St→Prop},eL ib σ→(∀o∈l,∀d,o.dst=some d→d<10000)→vOps P T G all l K σ→vOps P T G all l (fun aR=>eL ib aR∧K aR) σ
 |[],σ,K,b1,_,h=>⟨b1,h⟩
 |o::l,σ,K,b1,ay,h=>by
  unfold vOps at*
  rw [vOp_eq] at*
  cases hw:wantA all σ o with
  |none=>rw [hw] at h;exact h
  |some w=>
   rw [hw] at h
   cases w with
   |true=>exact n9 (fun aR ⟨ad,ae⟩=>Lb ad (fun o az=>ay o (by simp [az])) ae) (Sc b1 (ay o (by simp)) h)
   |false=>exact Lb b1.put (fun o az=>ay o (by simp [az])) h
end
section
variable{P:Program}{T:bY}{G:cT}{C:kU}{H:tH}{je:Tmp→Bool}{N:Nat}{σ:St}{all:Array Oper}{ib:List Key}
def mI(P:Program)(G:cT)(N:Nat)(all:Array Oper)(i:Nat)(l:List Oper)(K:St→Prop)(σ:St):Prop:=
 ∀m fr ρ a w (Q:Exit→Act→World→Prop),iz G m→Den m fr ρ σ a w→N≤a.tmps.size→a.defers=[]→(∀cr w',hq N m fr ρ σ K cr w'→Q .normal cr w')→wpOps P all Q (List.range' i l.length) a w
def h9(P:Program)(G:cT)(N:Nat)(o:Oper)(K:St→Prop)(σ:St):Prop:=
 ∀m fr ρ a w (Q:Exit→Act→World→Prop),iz G m→Den m fr ρ σ a w→N≤a.tmps.size→a.defers=[]→o.wp P a w (hq N m fr ρ σ K) Q
theorem ada{i:Nat}{K:St→Prop}(h:K σ):mI P G N all i [] K σ:=fun m fr ρ a w Q cy cu bQ ay gF=>gF a w ⟨σ,m,ρ,h,Mem.le_refl m,cu,bQ,ay,jx.refl _ _⟩
theorem adb{i:Nat}{o:Oper}{l:List Oper}{K:St→Prop}(af:all[i]?=some o)(bx:o.guard=none)(h:h9 P G N o (mI P G N all (i+1) l K) σ):mI P G N all i (o::l) K σ:=by
 intro m fr ρ a w Q cy cu bQ ay gF
 rw [List.length_cons,List.range'_succ,wpOps_cons]
 refine wpOp_mono (K:=hq N m fr ρ σ (mI P G N all (i+1) l K)) ?_ ?_
 ·rintro cr w' ⟨aR,ca,cn,br,bj,bS,db,dA,ed⟩
  exact br ca fr cn cr w' Q (cy.mono bj) bS db dA fun nj iX au=>gF nj iX (au.trans bj ed)
 ·unfold wpOp
  simp only [af]
  have:Region.wanted o (yielded all a.tmps)=true:=by simp [Region.wanted,bx]
  rw [if_pos this]
  exact .inl (h m fr ρ a w Q cy cu bQ ay)
theorem h9.mono{o:Oper}{K K':St→Prop}(ai:∀σ,K σ→K' σ)(h:h9 P G N o K σ):h9 P G N o K' σ:=
 fun m fr ρ a w Q cy cu bQ ay=>by
  have:=h m fr ρ a w Q cy cu bQ ay
  unfold Oper.wp at*
  generalize (execOp a.eval o).run P w=r at*
  cases r with
  |ok n w'=>
   cases n<;>simp only [Oper.upon] at this⊢<;>first|exact this.mono ai|exact this|skip
   ·refine this.mono fun e iX he=>?_
    cases e with
    |returned v=>exact he.mono ai
    |panicked c=>exact he
    |outgrown=>exact he
   ·exact this.mono fun v iX he=>he.mono ai
  |halt x w'=>cases x<;>exact this
theorem h9.Bg{o:Oper}{K:St→Prop}{τ:St}(he:fR σ τ)(h:h9 P G N o K τ):h9 P G N o K σ:=by
 intro m fr ρ a w Q cy cu bQ ay
 obtain ⟨ca,cn,ad,ae,ax⟩:=he m fr ρ a w cu
 have:=h ca fr cn a w Q (cy.mono ad) ae bQ ay
 unfold Oper.wp at*
 generalize (execOp a.eval o).run P w=r at*
 cases r with
 |ok n w'=>
  cases n<;>simp only [Oper.upon] at this⊢<;>first|exact this.trans ad ax|exact this|skip
  ·refine this.mono fun e iX he=>?_
   cases e with
   |returned v=>exact he.trans ad ax
   |panicked c=>exact he
   |outgrown=>exact he
  ·exact this.mono fun v iX he=>he.trans ad ax
 |halt x w'=>cases x<;>exact this
theorem Lc(a0:dn P T){o:Oper}(fx:∀d,o.dst=some d→d<N){K:St→Prop}(h:vDo P T G o K σ):h9 P G N o K σ:=
 fun m fr ρ a w Q cy cu bQ ay=>Km a0 cy cu bQ ay fx h
theorem ade{ks:List Key}(h:eL ib σ):eL ib (freeze ks σ):=by
 intro k ai ak
 have fE:dP (if k∈ks then some .dead else(σ.objs k).map (Bm σ.objs ks)):=ak
 split at fE
 ·exact absurd fE AY
 ·cases az:σ.objs k with
  |none=>rw [az] at fE;exact absurd fE rI
  |some dc=>
   rw [az] at fE
   cases dc with
   |box cs=>exact h k ai (by rw [az];exact rG)
   |dead=>exact absurd fE AY
   |row=>exact h k ai (by rw [az];exact rH)
   |map=>exact absurd fE yl
theorem Bu{β:Type}:∀{l:List (List Key)} {σ:St} {k:St→Option β} {b:β},eL ib σ→frzX l σ k=some b→∃τ,fR σ τ∧eL ib τ∧k τ=some b
 |[],σ,k,b,b1,h=>⟨σ,fR.refl σ,b1,h⟩
 |ks::r,σ,k,b,b1,h=>by
  unfold frzX at h
  split at h
  ·exact Bu b1 h
  ·split at h
   case isFalse=>cases h
   rename_i dL
   obtain ⟨τ,ad,ae,ax⟩:=Bu (ade b1) h
   exact ⟨τ,(acQ _ dL).trans ad,ae,ax⟩
theorem adf{β:Type}{t:Tmp}{σ:St}{k:St→Option β}{b:β}(b1:eL ib σ)(h:takeX t σ k=some b):∃τ,fR σ τ∧eL ib τ∧k τ=some b:=by
 unfold takeX at h
 split at h
 case h_2=>cases h
 rename_i key cx i len aG
 split at h
 case h_2=>cases h
 rename_i bg es ai aq
 split at h
 case isFalse=>cases h
 rename_i c1
 obtain ⟨c1,jC,ll⟩:=c1
 subst c1
 obtain ⟨ad,ae⟩:=kr h
 refine ⟨_,acR aG ai aq (of_decide_eq_true ad) jC,?_,ae⟩
 intro j aF aj
 simp only at aj
 by_cases ax:j=t
 ·subst ax;exact absurd ll (Nat.not_lt.2 aF)
 ·rw [cq _ _ ax] at aj
  by_cases aZ:j=key
  ·subst aZ;exact absurd jC (Nat.not_lt.2 aF)
  ·rw [cq _ _ aZ] at aj;exact b1 j aF aj
theorem h9.out{o:Oper}{K:St→Prop}(h:h9 P G N o (fun aR=>∃τ,fR aR τ∧K τ) σ):h9 P G N o K σ:=
 fun m fr ρ a w Q cy cu bQ ay=>by
  have key:∀{cr w'},hq N m fr ρ σ (fun aR=>∃τ,fR aR τ∧K τ) cr w'→hq N m fr ρ σ K cr w':=by
   rintro cr w' ⟨aR,ca,cn,⟨τ,a2,bb⟩,ae,ax,aZ,bI,b9⟩
   obtain ⟨vb,vc,aQ,aW,bA⟩:=a2 ca fr cn cr w' ax
   exact ⟨τ,vb,vc,bb,Mem.le_trans ae aQ,aW,aZ,bI,b9.trans bA⟩
  have:=h m fr ρ a w Q cy cu bQ ay
  unfold Oper.wp at*
  generalize (execOp a.eval o).run P w=r at*
  cases r with
  |ok n w'=>
   cases n<;>simp only [Oper.upon] at this⊢<;>first|exact key this|exact this|skip
   ·refine this.mono fun e iX he=>?_
    cases e with
    |returned v=>exact key he
    |panicked c=>exact he
    |outgrown=>exact he
   ·exact this.mono fun v iX he=>key he
  |halt x w'=>cases x<;>exact this
theorem Sd{β:Type}(a0:dn P T)(bV:fI P G C){o:Oper}(fx:∀d,o.dst=some d→d<N){x:Operand}{args:Array Operand}{dd:Array TypeId}(az:o.op= .call ⟨.value x,args,dd⟩){k:St→Option β}{b:β}(b1:eL ib σ)
  (h:callX G C σ o x args.toList k=some b):h9 P G N o (fun aR=>k aR=some b∧eL ib aR) σ:=by
 refine Lc a0 fx (n9 ?_ (Gd (T:=T) bV az h))
 rintro aR ⟨ad,ae,_⟩
 refine ⟨ad,fun j aF ak=>b1 j aF (by rw [←ae];exact ak)⟩
theorem Se{qf:TypeId→Option FuncId}{t:TypeId}{k:FuncId→Option D}{r:D}:∀{l:List TypeId},selM qf t k l=some r→∃f,qf t=some f∧k f=some r
 |[],h=>by cases h
 |c::l,h=>by
  unfold selM fh at h
  split at h
  ·rename_i aj
   subst aj
   split at h
   ·rename_i f a4;exact ⟨f,a4,h⟩
   ·cases h
  ·exact Se h
theorem adg{P:Program}{t:TypeId}{name:String}{f:FuncId}(hm:Fb P t name f)(n:Nat)(v:Value)(w:World):(method (n+1) t v name).run P w= .ok (f,v) w:=by
 obtain ⟨info,m,d,ad,ae,ax,aZ,bI,b9⟩:=hm
 have aQ:(typeInfo t).run P w= .ok info w:=by simp [typeInfo,ad]
 unfold method
 simp only [Sem.run_bind,aQ,Result.andThen_ok,ae,ax,follow,Sem.run_pure,aZ,receiverAt,run_underlying bI]
 cases d<;>first|(simp only [Place.get,Sem.run_pure,Result.andThen_ok];done)|(exact absurd rfl (b9 _))
theorem adh{P:Program}{va:Operand→Value}{x:Operand}{name:String}{args:Array Operand}{dd:Array TypeId}{ty:TypeId}{t:TypeId}{v:Value}{f:FuncId}{w:World}(ah:va x= .iface t v)(hm:Fb P t name f)(a4:u3 P f):
  (do let d←resolve va {callee:= .invoke x name,args:=args,argTypes:=dd} ty;invoke d.target d.args:Sem Next).run P w= .ok (.enter f (#[v]++args.map va)) w:=by
 obtain ⟨fn,ad,ae,ax⟩:=a4
 have hX:0<Made.depth:=by decide
 have ay:∃n,P.types.size+Made.depth=n+1:=⟨P.types.size+Made.depth-1,by omega⟩
 obtain ⟨n,aJ⟩:=ay
 have bG:(#[Value.iface t v]++args.map va)[0]?=some (Value.iface t v):=by rw [Array.getElem?_append_left (by simp)];rfl
 have aQ:(#[Value.iface t v]++args.map va).extract 1 (#[Value.iface t v]++args.map va).size=args.map va:=by apply Array.ext';simp [List.extract,List.take_of_length_le]
 have aW:(program:Sem Program).run P w= .ok P w:=rfl
 have vx:=adg hm n v w
 have Ld:(callFunc f (#[v]++args.map va)).run P w= .ok (.enter f (#[v]++args.map va)) w:=by
  simp only [callFunc,Sem.run_bind,aW,Result.andThen_ok,ad,ae,ax,Bool.false_eq_true,if_false,Sem.run_pure]
 simp only [Sem.run_bind,resolve,ah,Sem.run_pure,Result.andThen_ok,invoke,bG,aQ,callMethod,aW,aJ,vx,Ld]
theorem adi{β:Type}(a0:dn P T)(bV:fI P G C){o:Oper}(fx:∀d,o.dst=some d→d<N){x:Operand}{name:String}{args:Array Operand}{dd:Array TypeId}(az:o.op= .call ⟨.invoke x name,args,dd⟩){k:St→Option β}{b:β}(b1:eL ib σ)
  (h:invX T G C σ o x name args.toList k=some b):h9 P G N o (fun aR=>k aR=some b∧eL ib aR) σ:=by
 unfold invX at h
 split at h
 case h_2=>cases h
 rename_i d ay
 split at h
 case h_2=>cases h
 rename_i aD ec
 obtain ⟨p,aV,h⟩:=ew h
 obtain ⟨r,au,h⟩:=ew h
 obtain ⟨bI,b9⟩:=kr h
 obtain ⟨f,a4,Ld⟩:=Se au
 have Sf:=bV _ _ _ _ Ld
 have A6:=a0.JI _ _ _ a4
 obtain ⟨t,y⟩:=p
 have adj:d= .di t y:=by
  unfold ifcP at aV
  split at aV
  ·cases aV;rfl
  ·cases aV
 subst adj
 intro m fr ρ a w Q cy Le bQ fU
 have cW:=AD (a:=a) cy Le.aC
 have hr:∀d,o.dst=some d→d<a.tmps.size:=fun d ay=>Nat.lt_of_lt_of_le (fx d ay) bQ
 have qp:∀v,N≤(a.put o.dst v).tmps.size:=by intro v;cases o.dst<;>simpa [Act.put] using bQ
 have kl:∀v,(a.put o.dst v).defers=[]:=by intro v;cases o.dst<;>exact fU
 have ah:=cW x
 rw [ay] at ah
 have ah:=ah.mu
 obtain ⟨v,J9,adk⟩:∃v,a.eval x= .iface t v∧cS m y v:=by
  generalize a.eval x=u at ah
  cases ah with|di _ _ v h=>exact ⟨v,rfl,h⟩
 have Kk:(execOp a.eval o).run P w= .ok (.enter f (#[v]++args.map a.eval)) w:=by
  unfold execOp
  rw [az]
  exact adh J9 A6 Sf.fn
 unfold Oper.wp
 rw [Kk]
 have Kl:u2 m (y::aD) (#[v]++args.map a.eval).toList:=by
  obtain ⟨a2,bb⟩:=oV ec
  refine ⟨by simp [a2],?_⟩
  intro i d iA ay aM
  simp only [Array.toList_append,List.cons_append,List.nil_append,Array.toList_map] at aM
  cases i with
  |zero=>
   simp at ay aM
   subst ay;subst aM
   exact adk
  |succ i=>
   simp only [List.getElem?_cons_succ] at ay aM
   have bJ:=bb i d ay
   simp only [List.getElem?_map,Option.map_eq_some_iff] at bJ aM
   obtain ⟨z,⟨q,bL,rfl⟩,adl⟩:=bJ
   obtain ⟨atI,Sg,rfl⟩:=aM
   rw [bL] at Sg;cases Sg
   exact Ki (List.all_eq_true.1 bI _ (List.mem_map.2 ⟨q,List.mem_of_getElem? bL,rfl⟩)) adl (cW q)
 have qq:=Sf.run m _ w _ cy Le.Qq Kl
 simp only [Array.toArray_toList] at qq
 refine qq.mono fun e w' he=>?_
 obtain ⟨iA,ca,sZ,rfl,br,bj,bS,db⟩:=he
 subst br
 have adm:=Le.kept bj bS
 exact ⟨_,ca,ρ,⟨b9,fun j aF ak=>b1 j aF (by simpa using ak)⟩,bj,adm.put (.d _ _ db) hr,qp iA,kl iA,fun k ai ak=>⟨by simpa using ak,rfl⟩⟩
theorem adn{β:Type}(a0:dn P T)(bV:fI P G C)(eM:iE P G H)(bQ:N<10000){o:Oper}(fx:∀d,o.dst=some d→d<N){k:St→Option β}{b:β}(b1:eL ib σ)(h:opF T G C H je σ o k=some b):
  h9 P G N o (fun aR=>k aR=some b∧eL ib aR) σ:=by
 unfold opF at h
 split at h
 ·rename_i x args dd az
  split at h
  ·rename_i e he
   obtain ⟨τ,t1,Lf,h⟩:=vt b1 h
   refine h9.Bg t1 ?_
   refine h9.mono (K:=fun aR=>k aR=some b∧∀p,10000≤p→dP (aR.objs p)→dP (τ.objs p)) (fun aR ⟨ad,ae⟩=>⟨ad,fun p aV ak=>Lf p aV (ae p aV ak)⟩) ?_
   intro m fr ρ a w Q cy cu lM ay
   exact callH_ok cy cu lM ay fx (eM _ _ he) az h (Q:=Q)
  ·split at h
   ·unfold R9 at h
    simp only at h
    obtain ⟨τ,ad,ae,ax⟩:=Bu b1 h
    exact h9.Bg ad (Sd a0 bV fx az ae ax)
   ·exact Sd a0 bV fx az b1 h
 ·rename_i x name args dd az
  exact adi a0 bV fx az b1 h
 ·have step:∀{τ:St} {k:St→Option β},eL ib τ→stepX T G τ o k=some b→h9 P G N o (fun aR=>k aR=some b∧eL ib aR) τ:=by
   intro τ k b1 h
   obtain ⟨aR,ad,ae⟩:=yC h
   refine Lc a0 fx ?_
   unfold vDo
   rw [ad]
   exact ⟨ae,La b1 (fun d ay=>Nat.lt_trans (fx d ay) bQ) ad⟩
  split at h
  ·refine h9.out (h9.mono ?_ (step b1 h))
   rintro aR ⟨ad,ae⟩
   obtain ⟨τ,a2,bb,bJ⟩:=adf ae ad
   exact ⟨τ,a2,bJ,bb⟩
  ·exact step b1 h
 ·have step:∀{τ:St},eL ib τ→stepX T G τ o k=some b→h9 P G N o (fun aR=>k aR=some b∧eL ib aR) τ:=by
   intro τ b1 h
   obtain ⟨aR,ad,ae⟩:=yC h
   refine Lc a0 fx ?_
   unfold vDo
   rw [ad]
   exact ⟨ae,La b1 (fun d ay=>Nat.lt_trans (fx d ay) bQ) ad⟩
  split at h
  ·obtain ⟨τ,ad,ae,ax⟩:=Bu b1 h
   exact h9.Bg ad (step ae ax)
  ·exact step b1 h
theorem Sh{β:Type}(a0:dn P T)(bV:fI P G C)(eM:iE P G H)(bQ:N<10000){K:St→Prop}:∀{os:List Oper} {r:List Oper} {i:Nat} {σ:St} {k:St→Option β} {b:β},(∀o∈os,o.guard=none)→(∀o∈os,∀d,o.dst=some d→d<N)→(∀j,(os++r)[j]?=all[i+j]?)→eL ib σ→
  (∀aR,eL ib aR→k aR=some b→mI P G N all (i+os.length) r K aR)→K8 T G C H je os σ k=some b→mI P G N all i (os++r) K σ
 |[],r,i,σ,k,b,_,_,_,b1,ai,h=>ai σ b1 h
 |o::os,r,i,σ,k,b,bx,ay,fp,b1,ai,h=>by
  have af:all[i]?=some o:=by simpa using(fp 0).symm
  refine adb af (bx o (by simp)) (h9.mono ?_ (adn a0 bV eM bQ (ay o (by simp)) b1 h))
  rintro aR ⟨ad,ae⟩
  refine Sh a0 bV eM bQ (fun o az=>bx o (by simp [az])) (fun o az=>ay o (by simp [az])) (fun j=>by have:=fp (j+1);simpa [Nat.add_assoc,Nat.add_comm 1 j] using this) ae ?_ ad
  intro o2 ax aZ
  have:=ai o2 ax aZ
  rw [show i+(o::os).length=i+1+os.length by simp;omega] at this
  exact this
theorem bK.shrink{m pe:Mem}{ρ Lg:cK}{U ob:Key→Prop}{x:AV}{v:Value}(h:bK m ρ U x v):∀{v0:Value},bK pe Lg ob x v0→bK m ρ ob x v:=by
 induction h with
 |any v=>intro v0 _;exact .any _
 |d x v h=>intro v0 _;exact .d _ _ h
 |agg cs vs an h ih=>
  intro v0 aq
  cases aq with|agg _ vy ln Bv=>
  refine .agg _ _ an fun i c v aj aM=>?_
  have af:i<vy.size:=by rw [ln];exact (List.getElem?_eq_some_iff.1 aj).1
  exact ih i c v aj aM (Bv i c _ aj (Array.getElem?_eq_getElem af))
 |aL cs vs an h ih=>
  intro v0 aq
  cases aq with|aL _ vy ln Bv=>
  refine .aL _ _ an fun i c v aj aM=>?_
  have af:i<vy.size:=by rw [ln];exact (List.getElem?_eq_some_iff.1 aj).1
  exact ih i c v aj aM (Bv i c _ aj (Array.getElem?_eq_getElem af))
 |dO cs off b o vs T dI ak xs ad ae=>intro v0 _;exact .dO _ _ b o vs T dI ak xs ad ae
 |ptr key off b hu h=>intro v0 aq;cases aq with|ptr _ _ _ kj _=>exact .ptr _ _ b kj h
 |fb key k i off b o len cap hu h=>intro v0 aq;cases aq with|fb _ _ _ _ _ _ _ _ kj _=>exact .fb _ _ _ _ b o len cap kj h
 |row key hu=>intro v0 aq;cases aq with|row _ kj=>exact .row _ kj
 |sub key k i len b o L cap a hu h hle aA=>
  intro v0 aq
  cases aq with
  |sub _ _ _ _ _ _ _ _ _ kj=>exact .sub _ _ _ _ b o L cap a kj h hle aA
  |jv _ _ _ kj=>exact .sub _ _ _ _ b o L cap a kj h hle aA
 |jv key k i hu h=>
  intro v0 aq
  cases aq with
  |sub _ _ _ _ _ _ _ _ _ kj=>exact .jv _ _ _ kj h
  |jv _ _ _ kj=>exact .jv _ _ _ kj h
 |map key hu=>intro v0 aq;cases aq with|map _ kj=>exact .map _ kj
 |fn f first captured vs ws an dS h bh ih uL=>
  intro v0 aq
  cases aq with|fn _ _ _ vy ado ln adp Bv adq=>
  refine .fn _ _ _ _ _ an dS (fun i c v aj aM=>?_) (fun i c v aj aM=>?_)
  ·have af:i<vy.size:=by rw [ln];exact (List.getElem?_eq_some_iff.1 aj).1
   exact ih i c v aj aM (Bv i c _ aj (Array.getElem?_eq_getElem af))
  ·have af:i<ado.size:=by rw [adp];exact (List.getElem?_eq_some_iff.1 aj).1
   exact uL i c v aj aM (adq i c _ aj (Array.getElem?_eq_getElem af))
theorem h5.shrink{m pe:Mem}{ρ Lg:cK}{U ob:Key→Prop}{o:cl}{v v0:Value}{w w0:World}(h:h5 m ρ U v w o)(aq:h5 pe Lg ob v0 w0 o):h5 m ρ ob v w o:=by
 cases o with
 |dead=>trivial
 |box cs=>
  obtain ⟨b,vs,T,aQ,aW,bA,cz⟩:=h
  obtain ⟨Bw,vy,eF,f1,f2,f3,f4⟩:=aq
  refine ⟨b,vs,T,aQ,aW,bA,fun i c x aj ah=>?_⟩
  have af:i<vy.size:=by rw [f3];exact (List.getElem?_eq_some_iff.1 aj).1
  exact (cz i c x aj ah).shrink (f4 i c _ aj (Array.getElem?_eq_getElem af))
 |row=>exact h
 |map=>exact h
theorem adr{m ca:Mem}{fr:eE}{ρ cn:cK}{σ aR:St}{a cr:Act}{w w':World}{aD:List Tmp}(h:Den m fr ρ σ a w)(bh:Den ca fr cn aR cr w')(nh:b6.ext σ.objs aR.objs)(aB:∀t,t∉aD→aR.aC t=σ.aC t){bu:Tmp}{v:D}(aM:aR.aC bu= .d v)(vn:bu∈aD):
  Den ca fr cn ((jU aD σ).put (some bu) (.d v)) cr w':=by
 have gX:((jU aD σ).put (some bu) (.d v)).objs=σ.objs:=by simp [jU]
 refine ⟨bh.mem,bh.frame,bh.apart,?_,?_,?_,?_,?_⟩
 ·rintro k ⟨o,az⟩
  rw [gX] at az
  exact bh.one k ⟨o,nh k o az⟩
 ·intro t
  by_cases ll:t=bu
  ·subst ll
   simp only [St.put,dW]
   have:=bh.aC t
   rw [aM] at this
   exact .d _ _ this.mu
  ·simp only [St.put,cq _ _ ll,jU]
   split
   ·exact .any _
   ·rename_i aJ
    have ad:=bh.aC t
    rw [aB t aJ] at ad
    exact ad.shrink (h.aC t)
 ·intro k o ai
  rw [gX] at ai
  exact (bh.objs k o (nh k o ai)).shrink (h.objs k o ai)
 ·intro k o b ai az ak
  rw [gX] at ai
  exact bh.own k o b (nh k o ai) az ak
 ·intro k bg o o' b cc ai dZ az mF ak
  rw [gX] at ai dZ
  exact bh.sep k bg o o' b cc (nh k o ai) (nh bg o' dZ) az mF ak
theorem ads{m ca:Mem}{fr:eE}{ρ cn:cK}{σ aR:St}{a cr:Act}{w w':World}{aD:List Tmp}(h:Den m fr ρ σ a w)(bh:Den ca fr cn aR cr w')(nh:b6.ext σ.objs aR.objs)(aB:∀t,t∉aD→aR.aC t=σ.aC t){ts:List Tmp}{v:D}(aM:∀t∈ts,aR.aC t= .d (aa v (ts.idxOf t))):
  Den ca fr cn (tC ts v (jU aD σ)) cr w':=by
 have gX:(tC ts v (jU aD σ)).objs=σ.objs:=rfl
 refine ⟨bh.mem,bh.frame,bh.apart,?_,?_,?_,?_,?_⟩
 ·rintro k ⟨o,az⟩
  rw [gX] at az
  exact bh.one k ⟨o,nh k o az⟩
 ·intro t
  by_cases ll:t∈ts
  ·have ae:(tC ts v (jU aD σ)).aC t= .d (aa v (ts.idxOf t)):=by simp only [tC,if_pos ll]
   rw [ae]
   have:=bh.aC t
   rw [aM t ll] at this
   exact .d _ _ this.mu
  ·have ae:(tC ts v (jU aD σ)).aC t=(jU aD σ).aC t:=by simp only [tC,if_neg ll]
   rw [ae]
   simp only [jU]
   split
   ·exact .any _
   ·rename_i aJ
    have ad:=bh.aC t
    rw [aB t aJ] at ad
    exact ad.shrink (h.aC t)
 ·intro k o ai
  rw [gX] at ai
  exact (bh.objs k o (nh k o ai)).shrink (h.objs k o ai)
 ·intro k o b ai az ak
  rw [gX] at ai
  exact bh.own k o b (nh k o ai) az ak
 ·intro k bg o o' b cc ai dZ az mF ak
  rw [gX] at ai dZ
  exact bh.sep k bg o o' b cc (nh k o ai) (nh bg o' dZ) az mF ak
theorem adt{T:bY}{ev:Operand→AV}{objs:b6}{d:Key}{op:Op}{r:AV}{b3:List (Key×cl)}(aB:n7 op=true)(he:fF T ev objs d op=some (r,b3)):objs d=none:=
 (yr (objs':=fun _=>none) aB rfl he).2.1
theorem adu{β:Type}(bV:fI P G C){o:Oper}(aB:K9 o=true){k:St→Option β}{b:β}(h:opX T G C σ o k=some b):
  vDo P T G o (fun aR=>k aR=some b∧b6.ext σ.objs aR.objs∧∀t,o.dst≠some t→aR.aC t=σ.aC t) σ:=by
 rcases Bool.or_eq_true_iff.1 aB with aB|aB
 ·refine n9 ?_ (RD bV aB h)
  rintro aR ⟨ad,ae,ax⟩
  exact ⟨ad,by rw [ae];exact fun _ _ h=>h,ax⟩
 ·have RE:∀x args dd,o.op≠ .call ⟨.value x,args,dd⟩:=by
   intro x args dd he
   rw [he] at aB
   cases aB
  unfold opX at h
  split at h
  ·exact absurd (by assumption) (RE _ _ _)
  ·obtain ⟨aR,ad,ae⟩:=yC h
   unfold vDo
   rw [ad]
   unfold stepA at ad
   rw [(oX (objs:=σ.objs) aB).1,(oX aB).2] at ad
   simp only at ad
   split at ad
   case h_2=>cases ad
   rename_i r b3 he
   cases ad
   have mD:σ.objs (o.dst.getD 9999)=none:=adt aB he
   obtain ⟨_,_,gq,rfl⟩:=yr aB mD he
   refine ⟨ae,?_,fun t aG=>o5 aG⟩
   rw [St.tb]
   exact b6.FF mD gq
theorem Lh{β:Type}(bV:fI P G C){j:Nat}{want:Bool}{d:Tmp}(ay:(all[j]?).bind (·.dst)=some d):∀{os:List Oper} {σ:St} {k:St→Option β} {b:β},(∀o∈os,o.guard=some (j,want))→(∀o∈os,K9 o=true∧o.dst≠some d)→σ.aC d= .d (.val (.bool want))→
  qy T G C os σ k=some b→vOps P T G all os (fun aR=>k aR=some b∧b6.ext σ.objs aR.objs∧∀t,t∉dstsOf os→aR.aC t=σ.aC t) σ
 |[],σ,k,b,_,_,_,h=>⟨h,fun _ _ h=>h,fun _ _=>rfl⟩
 |o::os,σ,k,b,bx,aB,hw,h=>by
  have aq:=aB o (by simp)
  unfold vOps vOp
  rw [bx o (by simp)]
  simp only [ay,hw,if_true]
  refine n9 ?_ (adu bV aq.1 h)
  rintro aR ⟨ad,ae,ax⟩
  refine kV ?_ (Lh bV ay (fun o az=>bx o (by simp [az])) (fun o az=>aB o (by simp [az])) (by rw [ax d aq.2];exact hw) ad)
  rintro o2 ⟨a2,bb,bJ⟩
  refine ⟨a2,fun cx Si az=>bb cx Si (ae cx Si az),?_⟩
  intro t aG
  have nr:t∉dstsOf os:=fun aj=>aG (by
   unfold dstsOf at aj⊢
   simp only [List.filterMap_cons]
   cases o.dst<;>simp [aj])
  have vm:o.dst≠some t:=fun aj=>aG (by unfold dstsOf;simp [aj])
  rw [bJ t nr,ax t vm]
theorem Li(a0:dn P T){fr:eE}{Q:Exit→Act→World→Prop}:∀(os r:List Oper) (i:Nat) (m:Mem) (ρ:cK) (σ:St) (a:Act) (w:World) (K:St→Prop),(∀j,(os++r)[j]?=all[i+j]?)→
  iz G m→Den m fr ρ σ a w→N≤a.tmps.size→a.defers=[]→(∀o∈os,∀d,o.dst=some d→d<N)→vOps P T G all os K σ→
  (∀cr w',hq N m fr ρ σ K cr w'→wpOps P all Q (List.range' (i+os.length) r.length) cr w')→wpOps P all Q (List.range' i (os++r).length) a w
 |[],r,i,m,ρ,σ,a,w,K,_,cy,h,bQ,fU,_,aM,Lj=>Lj a w ⟨σ,m,ρ,aM,Mem.le_refl m,h,bQ,fU,jx.refl _ _⟩
 |o::os,r,i,m,ρ,σ,a,w,K,an,cy,h,bQ,fU,fx,aM,Lj=>by
  rw [List.cons_append,List.length_cons,List.range'_succ,wpOps_cons]
  have af:all[i]?=some o:=by simpa using(an 0).symm
  refine wpOp_mono ?_ (vOp_ok a0 cy h bQ fU af (fx o (by simp)) aM)
  rintro cr w' ⟨aR,ca,cn,br,bj,bS,db,dA,ed⟩
  refine Li a0 os r (i+1) ca cn aR cr w' K (fun j=>by have:=an (j+1);simpa [Nat.add_assoc,Nat.add_comm 1 j] using this) (cy.mono bj) bS db dA (fun o az=>fx o (by simp [az])) br ?_
  intro nj iX au
  have:=Lj nj iX (au.trans bj ed)
  rw [show i+(o::os).length=i+1+os.length by simp;omega] at this
  exact this
theorem Sj(i:Nat):aa ja i=ja:=by unfold aa;cases i<;>rfl
theorem Bx{β:Type}(a0:dn P T)(bV:fI P G C)(eM:iE P G H)(bQ:N<10000){K:St→Prop}:∀{gs:List (Option (Nat×Bool)×List Oper)} {i:Nat} {σ:St} {k:St→Option β} {b:β},(∀g∈gs,∀o∈g.2,o.guard=g.1)→(∀o∈flat gs,∀d,o.dst=some d→d<N)→(∀j,(flat gs)[j]?=all[i+j]?)→eL ib σ→
  (∀aR,eL ib aR→k aR=some b→K aR)→execGF T G C H je all gs σ k=some b→mI P G N all i (flat gs) K σ
 |[],i,σ,k,b,_,_,_,b1,ai,h=>ada (ai σ b1 h)
 |(none,os)::r,i,σ,k,b,bx,ay,fp,b1,ai,h=>by
  show mI P G N all i (os++flat r) K σ
  refine Sh a0 bV eM bQ (fun o az=>bx (none,os) (by simp) o az) (fun o az=>ay o (by simp [flat,az])) fp b1 ?_ h
  intro aR ad ae
  refine Bx a0 bV eM bQ (fun g hm=>bx g (by simp [hm])) (fun o az=>ay o (by simp only [flat,List.flatMap_cons,List.mem_append];exact .inr az)) ?_ ad ai ae
  intro j
  have:=fp (os.length+j)
  rw [←Nat.add_assoc] at this
  rw [←this]
  show _=(os++flat r)[os.length+j]?
  rw [List.getElem?_append_right (by omega)]
  simp
 |(some (j,want),os)::r,i,σ,k,b,bx,ay,fp,b1,ai,h=>by
  show mI P G N all i (os++flat r) K σ
  unfold execGF at h
  split at h
  case h_2=>cases h
  rename_i d bu yJ vn
  split at h
  case h_2=>cases h
  rename_i x ah
  split at h
  case isFalse=>cases h
  rename_i a7
  simp only [List.all_eq_true,Bool.and_eq_true,bne_iff_ne,ne_eq] at a7
  split at h
  ·obtain ⟨v,ad,ae⟩:=ew h
   have km:∀o∈os,o.guard=some (j,want):=fun o az=>bx (some (j,want),os) (by simp) o az
   have Lk:mI P G N all (i+os.length) (flat r) K ((jU (dstsOf os) σ).put (some bu) (.d v)):=by
    refine Bx a0 bV eM bQ (fun g hm=>bx g (by simp [hm])) (fun o az=>ay o (by simp only [flat,List.flatMap_cons,List.mem_append];exact .inr az)) ?_ (eL.put (σ:=jU (dstsOf os) σ) b1) ai ae
    intro By
    have:=fp (os.length+By)
    rw [←Nat.add_assoc] at this
    rw [←this]
    show _=(os++flat r)[os.length+By]?
    rw [List.getElem?_append_right (by omega)]
    simp
   have aM:vOps P T G all os (fun aR=>b6.ext σ.objs aR.objs∧(∀t,t∉dstsOf os→aR.aC t=σ.aC t)∧aR.aC bu= .d v) σ:=by
    unfold gD at ad
    split at ad
    ·rename_i lJ
     split at ad
     ·rename_i ak
      subst ak
      refine kV ?_ (Lh bV yJ km a7 ah ad)
      rintro aR ⟨a2,bb,bJ⟩
      refine ⟨bb,bJ,?_⟩
      split at a2
      ·rename_i u hu;cases a2;exact hu
      ·cases a2
     ·rename_i ak
      cases ad
      refine kV ?_ (Bh yJ km (fun o az=>(a7 o az).2) (.inl (by rw [ah];cases lJ<;>cases want<;>simp_all)))
      rintro aR ⟨a2,bb,bJ⟩
      exact ⟨by rw [a2];exact fun _ _ h=>h,bb,bJ bu vn⟩
    ·rename_i vs
     cases ad
     refine kV ?_ (Bh yJ km (fun o az=>(a7 o az).2) (.inr ⟨_,ah⟩))
     rintro aR ⟨a2,bb,bJ⟩
     exact ⟨by rw [a2];exact fun _ _ h=>h,bb,bJ bu vn⟩
    ·cases ad
   intro m fr ρ a w Q cy cu lM fU gF
   refine Li a0 os (flat r) i m ρ σ a w _ fp cy cu lM fU (fun o az=>ay o (by simp [flat,az])) aM ?_
   rintro cr w' ⟨aR,ca,cn,⟨a2,bb,bJ⟩,bj,bS,db,dA,ed⟩
   have jW:=adr cu bS a2 bb bJ (RJ vn)
   refine Lk ca fr cn cr w' Q (cy.mono bj) jW db dA ?_
   intro nj iX au
   refine gF nj iX (au.trans bj ?_)
   intro cx c1 ak
   exact ⟨by rw [St.tb];exact ak,(ed cx c1 ak).2⟩
  ·obtain ⟨v,ad,ae⟩:=ew h
   have km:∀o∈os,o.guard=some (j,want):=fun o az=>bx (some (j,want),os) (by simp) o az
   have Lk:mI P G N all (i+os.length) (flat r) K (tC (kept all os (flat r)) v (jU (dstsOf os) σ)):=by
    refine Bx a0 bV eM bQ (fun g hm=>bx g (by simp [hm])) (fun o az=>ay o (by simp only [flat,List.flatMap_cons,List.mem_append];exact .inr az)) ?_ b1 ai ae
    intro By
    have:=fp (os.length+By)
    rw [←Nat.add_assoc] at this
    rw [←this]
    show _=(os++flat r)[os.length+By]?
    rw [List.getElem?_append_right (by omega)]
    simp
   have aM:vOps P T G all os (fun aR=>b6.ext σ.objs aR.objs∧(∀t,t∉dstsOf os→aR.aC t=σ.aC t)∧(∀t∈kept all os (flat r),aR.aC t= .d (aa v ((kept all os (flat r)).idxOf t)))) σ:=by
    unfold gD at ad
    split at ad
    ·rename_i lJ
     split at ad
     ·rename_i ak
      subst ak
      refine kV ?_ (Lh bV yJ km a7 ah ad)
      rintro aR ⟨a2,bb,bJ⟩
      refine ⟨bb,bJ,?_⟩
      split at a2
      ·rename_i l an;cases a2;exact fun t aG=>acC an aG
      ·cases a2
     ·rename_i ak
      cases ad
      refine kV ?_ (KP yJ km (fun o az=>(a7 o az).2) (.inl (by rw [ah];cases lJ<;>cases want<;>simp_all)))
      rintro aR ⟨a2,bb,bJ⟩
      exact ⟨by rw [a2];exact fun _ _ h=>h,bb,fun t aG=>by rw [bJ t (List.mem_filter.1 aG).1,Sj]⟩
    ·rename_i vs
     cases ad
     refine kV ?_ (KP yJ km (fun o az=>(a7 o az).2) (.inr ⟨_,ah⟩))
     rintro aR ⟨a2,bb,bJ⟩
     exact ⟨by rw [a2];exact fun _ _ h=>h,bb,fun t aG=>by rw [bJ t (List.mem_filter.1 aG).1,Sj]⟩
    ·cases ad
   intro m fr ρ a w Q cy cu lM fU gF
   refine Li a0 os (flat r) i m ρ σ a w _ fp cy cu lM fU (fun o az=>ay o (by simp [flat,az])) aM ?_
   rintro cr w' ⟨aR,ca,cn,⟨a2,bb,bJ⟩,bj,bS,db,dA,ed⟩
   have jW:=ads cu bS a2 bb bJ
   refine Lk ca fr cn cr w' Q (cy.mono bj) jW db dA ?_
   intro nj iX au
   refine gF nj iX (au.trans bj ?_)
   intro cx c1 ak
   exact ⟨ak,(ed cx c1 ak).2⟩
theorem adv{β:Type}(a0:dn P T)(bV:fI P G C)(eM:iE P G H)(bQ:N<10000){k:St→Option β}{b:β}(ay:∀o∈all.toList,∀d,o.dst=some d→d<N)(b1:eL ib σ)(h:Sb T G C H je all σ k=some b):
  mI P G N all 0 all.toList (fun aR=>eL ib aR∧k aR=some b) σ:=by
 have:=Bx (P:=P) (N:=N) (ib:=ib) (all:=all) (i:=0) a0 bV eM bQ (K:=fun aR=>eL ib aR∧k aR=some b) (fun g hm o az=>Gc _ _ _ hm o az) (by rw [tD];exact ay) (by rw [tD];intro j;simp) b1 (fun aR ad ae=>⟨ad,ae⟩) h
 rwa [tD] at this
theorem adw{Q:Exit→St→Prop}{id:Nat}{ops:Array Oper}(h:mI P G N ops 0 ops.toList (Q .normal) σ):fS P T G N (.region id ops false) σ Q:=by
 intro m fr ρ a w cy cu lM ay
 refine wp_region ?_
 rw [List.range_eq_range']
 have:=h m fr ρ a w (fun e cr w'=>hq N m fr ρ σ (Q e) cr w') cy cu lM ay (fun cr w' au=>au)
 simpa using this
end
end Go.Am
namespace Go.Am
set_option linter.unusedVariables false
def backW(ops:Array Oper):Bool:=
 (List.range ops.size).all fun j=>match ops[j]? with
  |some o=>o.after.all (fun e=>!Region.binds .any e||decide (e.on<j))&&(match o.guard with
   |none=>true
   |some (g,_)=>decide (g<j))
  |none=>true
def Bz(ops:Array Oper)(j:Nat):Bool:=
 (List.range j).all fun i=>(List.range (j+1)).any fun k=>decide (i<k)&&match ops[k]? with
  |some o=>o.after.any (fun e=>Region.binds .any e&&decide (e.on=i))
  |none=>false
def Ll(ops:Array Oper)(p:Nat):Bool:=backW ops&&(List.range ops.size).all fun j=>decide (j<p)||Bz ops j
theorem vz{ops:Array Oper}(h:backW ops=true){j:Nat}{o:Oper}(az:ops[j]?=some o):(∀e∈o.after,Region.binds .any e=true→e.on<j)∧∀g b,o.guard=some (g,b)→g<j:=by
 have aF:j<ops.size:=(Array.getElem?_eq_some_iff.1 az).1
 have ad:=List.all_eq_true.1 h j (List.mem_range.2 aF)
 simp only [az,Bool.and_eq_true] at ad
 refine ⟨fun e he ak=>?_,fun g b bx=>?_⟩
 ·have:=Array.all_eq_true'.1 ad.1 e he
  simpa [ak] using this
 ·have:=ad.2
  rw [bx] at this
  simpa using this
theorem adx{ops:Array Oper}{j i:Nat}(h:Bz ops j=true)(af:i<j):∃k o,i<k∧k≤j∧ops[k]?=some o∧∃e∈o.after,Region.binds .any e=true∧e.on=i:=by
 have ad:=List.all_eq_true.1 h i (List.mem_range.2 af)
 obtain ⟨k,ai,ae⟩:=List.any_eq_true.1 ad
 simp only [Bool.and_eq_true,decide_eq_true_eq] at ae
 obtain ⟨ax,aZ⟩:=ae
 cases az:ops[k]? with
 |none=>rw [az] at aZ;cases aZ
 |some o=>
  rw [az] at aZ
  obtain ⟨e,he,bI⟩:=Array.any_eq_true'.1 aZ
  simp only [Bool.and_eq_true,decide_eq_true_eq] at bI
  have:=List.mem_range.1 ai
  exact ⟨k,o,ax,by omega,az,e,he,bI⟩
def yK(ops:Array Oper)(listed:Array Bool):Prop:=∀j o,ops[j]?=some o→listed.getD j true=true→∀e∈o.after,Region.binds .any e=true→listed.getD e.on false=true
section
variable{P:Program}{ops gg:Array Oper}{Q:Exit→Act→World→Prop}
theorem rW{i:Nat}(h:i<ops.size):(ops++gg)[i]?=ops[i]?:=Array.getElem?_append_left h
theorem yL{l r:Array Bool}{d:Bool}{i:Nat}(h:i<l.size):(l++r).getD i d=l.getD i d:=by
 have ae:i<l.size+r.size:=by omega
 simp only [Array.getD_eq_getD_getElem?,Array.getElem?_append_left h]
theorem ady{l:Array Bool}{m:Nat}{d:Bool}{i:Nat}(h:l.size≤i)(ae:i<l.size+m):(l++Array.replicate m false).getD i d=false:=by
 simp only [Array.getD_eq_getD_getElem?,Array.getElem?_append_right h]
 rw [Array.getElem?_replicate,if_pos (by omega)];rfl
theorem Lm{l:Array Bool}{i:Nat}(h:i<l.size)(d e:Bool):l.getD i d=l.getD i e:=by
 simp [Array.getD,h]
theorem Ln{all:Array Oper}{L:Array Bool}{j:Nat}(b1:L.size=all.size)(an:Bz all j=true)(hinv:yK all L)(au:j∈Region.ready .any all L):∀(d i:Nat),j-i≤d→i<j→L.getD i false=true
 |0,i,h,af=>by omega
 |d+1,i,h,af=>by
  obtain ⟨k,o',ad,ai,ae,e,ax,aZ,bI⟩:=adx an af
  rw [←bI]
  by_cases adz:k=j
  ·subst adz
   obtain ⟨_,lh,br,bj⟩:=mem_ready.1 au
   rw [ae] at br;cases br
   exact bj e ax aZ
  ·have b9:=Ln b1 an hinv au d k (by omega) (by omega)
   have dL:=(Array.getElem?_eq_some_iff.1 ae).1
   rw [Lm (by omega) false true] at b9
   exact hinv k o' ae b9 e ax aZ
theorem BA{all:Array Oper}{L:Array Bool}{i:Nat}(h:i∈Region.ready .any all L):i<all.size:=(Array.getElem?_eq_some_iff.1 (mem_ready.1 h).2.choose_spec.1).1
theorem adA{all:Array Oper}{L:Array Bool}(aB:L.size=all.size)(h:yK all L){i:Nat}(af:i∈Region.ready .any all L):yK all (L.setIfInBounds i true):=by
 obtain ⟨ad,eg,ae,ax⟩:=mem_ready.1 af
 have bW:=BA af
 have up:∀{j:Nat},L.getD j false=true→(L.setIfInBounds i true).getD j false=true:=by
  intro j aF
  by_cases cM:j<L.size
  ·by_cases kP:i=j
   ·subst kP;simp [Array.getD,cM]
   ·simp [Array.getD,cM] at aF⊢
    rw [Array.getElem_setIfInBounds_ne cM kP];exact aF
  ·simp [Array.getD,cM] at aF
 intro j o' az aF e he jX
 have cM:j<L.size:=by have:=(Array.getElem?_eq_some_iff.1 az).1;omega
 by_cases kP:i=j
 ·subst kP
  rw [ae] at az;cases az
  exact up (ax e he jX)
 ·refine up (h j o' az ?_ e he jX)
  simp [Array.getD,cM] at aF⊢
  rw [Array.getElem_setIfInBounds_ne cM kP] at aF;exact aF
theorem Sk{listed:Array Bool}(ak:backW (ops++gg)=true)(aB:listed.size=ops.size){i:Nat}(af:i<ops.size):i∈Region.ready .any (ops++gg) (listed++Array.replicate gg.size false)↔i∈Region.ready .any ops listed:=by
 rw [mem_ready,mem_ready,yL (by omega),rW af]
 refine and_congr_right fun _=>?_
 constructor
 ·rintro ⟨o',az,h⟩
  refine ⟨o',az,fun e he jX=>?_⟩
  have:=(vz ak (by rw [rW af];exact az)).1 e he jX
  rw [←h e he jX,yL (by omega)]
 ·rintro ⟨o',az,h⟩
  refine ⟨o',az,fun e he jX=>?_⟩
  have:=(vz ak (by rw [rW af];exact az)).1 e he jX
  rw [yL (by omega),h e he jX]
theorem Sl{all:Array Oper}{L:Array Bool}(aB:L.size=all.size)(h:∀i,i<all.size→L.getD i false=true):Region.ready .any all L=[]:=by
 refine List.eq_nil_iff_forall_not_mem.2 fun i af=>?_
 have bP:=BA af
 have ad:=(mem_ready.1 af).1
 rw [Lm (by omega) true false,h i bP] at ad;cases ad
theorem adB{all:Array Oper}{L:Array Bool}(ak:backW all=true)(aB:L.size=all.size)(h:Region.ready .any all L=[]):∀(i:Nat),i<all.size→L.getD i false=true:=by
 intro i
 induction i using Nat.strongRecOn with
 |_ i ih=>
  intro af
  refine Classical.byContradiction fun aj=>?_
  have a4:L.getD i true=false:=by rw [Lm (by omega) true false];simpa using aj
  have:i∈Region.ready .any all L:=by
   refine mem_ready.2 ⟨a4,all[i],by simp [af],fun e he jX=>?_⟩
   have bP:=(vz ak (j:=i) (o:=all[i]) (by simp [af])).1 e he jX
   exact ih e.on bP (by omega)
  rw [h] at this;cases this
theorem adC(ak:backW (ops++gg)=true):backW ops=true:=by
 refine List.all_eq_true.2 fun j aF=>?_
 have aF:=List.mem_range.1 aF
 have ad:=List.all_eq_true.1 ak j (List.mem_range.2 (by simp;omega))
 rwa [rW aF] at ad
theorem adD{tm:Array Value}{g:Nat}(h:g<ops.size):yielded (ops++gg) tm g=yielded ops tm g:=by
 unfold yielded;rw [rW h]
theorem adE(ak:backW (ops++gg)=true){i:Nat}(af:i<ops.size){o':Oper}(az:ops[i]?=some o')(tm:Array Value):Region.wanted o' (yielded (ops++gg) tm)=Region.wanted o' (yielded ops tm):=by
 unfold Region.wanted
 cases bx:o'.guard with
 |none=>rfl
 |some p=>
  obtain ⟨g,b⟩:=p
  have:=(vz ak (by rw [rW af];exact az)).2 g b bx
  simp only [adD (Nat.lt_trans this af)]
theorem adF(ak:backW (ops++gg)=true){i:Nat}(af:i<ops.size){K:Act→World→Prop}{a:Act}{w:World}:wpOp P (ops++gg) Q i K a w=wpOp P ops Q i K a w:=by
 unfold wpOp
 rw [rW af]
 have:ops[i]?=some ops[i]:=by simp [af]
 rw [this]
 simp only [adE ak af this]
theorem adG{all:Array Oper}:∀(fuel:Nat) (L:Array Bool) (a:Act) (w:World),Region.ready .any all L=[]→Q .normal a w→wpAny P .any all Q fuel L a w
 |0,L,a,w,h,gF=>⟨h,gF⟩
 |fuel+1,L,a,w,h,gF=>⟨fun _=>gF,fun i af=>by rw [h] at af;cases af⟩
def ky(n j:Nat):Array Bool:=Array.ofFn (n:=n) fun i=>decide (i.val<j)
theorem Sm{n j:Nat}:(ky n j).size=n:=by simp [ky]
theorem vA{n j i:Nat}{d:Bool}(h:i<n):(ky n j).getD i d=decide (i<j):=by
 simp [ky,Array.getD,h]
theorem adH{n j:Nat}:(ky n j).setIfInBounds j true=ky n (j+1):=by
 apply Array.ext
 ·simp [ky]
 ·intro i ad ae
  simp [ky] at ad
  by_cases h:i=j
  ·subst h;simp [ky]
  ·rw [Array.getElem_setIfInBounds_ne (by simpa [ky] using ad) (by omega)]
   simp [ky];omega
theorem Sn{all:Array Oper}(ak:backW all=true){p:Nat}(an:∀j,p≤j→j<all.size→Bz all j=true):∀(d j:Nat) (a:Act) (w:World),p≤j→j+d=all.size→wpOps P all Q (List.range' j d) a w→wpAny P .any all Q d (ky all.size j) a w
 |0,j,a,w,aV,ay,h=>by
  refine ⟨Sl Sm fun i af=>by rw [vA af];simp;omega,by simpa [wpOps] using h⟩
 |d+1,j,a,w,aV,ay,h=>by
  have aF:j<all.size:=by omega
  have hinv:yK all (ky all.size j):=by
   intro i o az af e he jX
   have bW:=(Array.getElem?_eq_some_iff.1 az).1
   rw [vA bW] at af
   have:=(vz ak az).1 e he jX
   rw [vA (by omega)]
   simp at af⊢;omega
  have So:j∈Region.ready .any all (ky all.size j):=by
   refine mem_ready.2 ⟨by rw [vA aF];simp,all[j],by simp [aF],fun e he jX=>?_⟩
   have:=(vz ak (j:=j) (o:=all[j]) (by simp [aF])).1 e he jX
   rw [vA (by omega)];simpa using this
  refine ⟨fun aq=>(by rw [aq] at So;cases So),fun i af=>?_⟩
  have ff:=BA af
  have ad:=(mem_ready.1 af).1
  rw [vA ff] at ad
  have kP:i=j:=by
   have c3:j≤i:=by simpa using ad
   by_cases aj:i=j
   ·exact aj
   ·have:=Ln Sm (an i (by omega) ff) hinv af i j (by omega) (by omega)
    rw [vA aF] at this;simp at this
  subst kP
  rw [List.range'_succ,wpOps_cons] at h
  refine wpOp_mono (fun cr w' bL=>?_) h
  rw [adH]
  exact Sn ak an d (i+1) cr w' (by omega) (by omega) bL
theorem adI{listed:Array Bool}{m:Nat}(h:∀i,i<listed.size→listed.getD i false=true):listed++Array.replicate m false=ky (listed.size+m) listed.size:=by
 apply Array.ext
 ·simp [ky]
 ·intro i ad ae
  simp at ad
  by_cases af:i<listed.size
  ·have:=h i af
   simp [Array.getD,af] at this
   rw [Array.getElem_append_left af,this];simp [ky,af]
  ·rw [Array.getElem_append_right (by omega)];simp [ky];omega
theorem adJ{listed:Array Bool}{m i:Nat}(af:i<listed.size):(listed++Array.replicate m false).setIfInBounds i true=listed.setIfInBounds i true++Array.replicate m false:=by
 apply Array.ext
 ·simp
 ·intro j ad ae
  simp at ad
  by_cases aF:j<listed.size
  ·rw [Array.getElem_append_left (by simpa using aF)]
   by_cases kP:i=j
   ·subst kP;simp
   ·rw [Array.getElem_setIfInBounds_ne (by simp;omega) kP,Array.getElem_append_left aF,Array.getElem_setIfInBounds_ne aF kP]
  ·rw [Array.getElem_append_right (by simp;omega),Array.getElem_setIfInBounds_ne (by simp;omega) (by omega),Array.getElem_append_right (by omega)]
   simp
end
theorem Sp{P:Program}{Q:Exit→Act→World→Prop}{all:Array Oper}:∀{n:Nat} {L:Array Bool} {a:Act} {w:World},wpAny P .any all Q n L a w→∀k,n≤k→wpAny P .any all Q k L a w
 |0,L,a,w,h,k,ai=>adG k L a w h.1 h.2
 |n+1,L,a,w,h,0,ai=>by omega
 |n+1,L,a,w,h,k+1,ai=>⟨h.1,fun i af=>wpOp_mono (fun cr w' bh=>Sp bh k (by omega)) (h.2 i af)⟩
section
variable{P:Program}{T:bY}{G:cT}{ops gg:Array Oper}{Q:Exit→Act→World→Prop}
theorem adK{m:Mem}{fr:eE}{N:Nat}(a0:dn P T){K:St→Prop}(ak:backW (ops++gg)=true)(an:∀j,ops.size≤j→j<(ops++gg).size→Bz (ops++gg) j=true)(fx:∀o∈ops,∀d,o.dst=some d→d<N):∀(fuel:Nat) (listed:Array Bool) (m:Mem) (ρ:cK) (σ:St) (a:Act) (w:World),
  listed.size=ops.size→yK ops listed→iz G m→Den m fr ρ σ a w→N≤a.tmps.size→a.defers=[]→hD P T G ops K fuel listed σ→(∀cr w',hq N m fr ρ σ K cr w'→wpOps P (ops++gg) Q (List.range' ops.size gg.size) cr w')→wpAny P .any (ops++gg) Q (fuel+gg.size) (listed++Array.replicate gg.size false) a w:=by
 have fin:∀{fuel:Nat} {listed:Array Bool} {m:Mem} {ρ:cK} {σ:St} {a:Act} {w:World},listed.size=ops.size→Region.ready .any ops listed=[]→iz G m→Den m fr ρ σ a w→N≤a.tmps.size→a.defers=[]→K σ→(∀cr w',hq N m fr ρ σ K cr w'→wpOps P (ops++gg) Q (List.range' ops.size gg.size) cr w')→wpAny P .any (ops++gg) Q gg.size (listed++Array.replicate gg.size false) a w:=by
  intro fuel listed m ρ σ a w aB au cy h bQ fU ai gF
  have adL:=adB (adC ak) aB au
  rw [adI (fun i af=>adL i (by omega)),aB,←Array.size_append]
  exact Sn ak an _ _ _ _ (Nat.le_refl _) (by simp) (gF a w ⟨σ,m,ρ,ai,Mem.le_refl m,h,bQ,fU,jx.refl _ _⟩)
 intro fuel
 induction fuel with
 |zero=>
  intro listed m ρ σ a w aB hinv cy h bQ fU aM gF
  rw [Nat.zero_add]
  exact fin (fuel:=0) aB aM.1 cy h bQ fU aM.2 gF
 |succ fuel ih=>
  intro listed m ρ σ a w aB hinv cy h bQ fU aM gF
  by_cases au:Region.ready .any ops listed=[]
  ·have:=fin (fuel:=0) aB au cy h bQ fU (aM.1 au) gF
   exact Sp this _ (by omega)
  ·rw [Nat.add_right_comm]
   have adM:yK (ops++gg) (listed++Array.replicate gg.size false):=by
    intro j o' az aF e he jX
    have cM:=(Array.getElem?_eq_some_iff.1 az).1
    simp at cM
    by_cases Sq:j<ops.size
    ·rw [yL (by omega)] at aF
     rw [rW Sq] at az
     have:=(vz ak (by rw [rW Sq];exact az)).1 e he jX
     rw [yL (by omega)]
     exact hinv j o' az aF e he jX
    ·rw [ady (by omega) (by omega)] at aF;cases aF
   refine ⟨fun aq=>absurd ?_ au,fun i af=>?_⟩
   ·refine List.eq_nil_iff_forall_not_mem.2 fun i af=>?_
    have:=(Sk ak aB (BA af)).2 af
    rw [aq] at this;cases this
   ·by_cases ql:i<ops.size
    ·have nb:=(Sk ak aB ql).1 af
     have ad:=aM.2 i nb
     obtain ⟨_,eg,az,_⟩:=mem_ready.1 nb
     unfold amOp at ad
     simp only [az] at ad
     rw [adF ak ql]
     refine wpOp_mono ?_ (vOp_ok a0 cy h bQ fU az (fx eg (Array.mem_of_getElem? az)) ad)
     rintro cr w' ⟨aR,ca,cn,br,bj,bS,db,dA,ed⟩
     rw [adJ (by omega)]
     refine ih _ ca cn aR cr w' (by simp [aB]) (adA aB hinv nb) (cy.mono bj) bS db dA br ?_
     rintro nj iX ⟨o2,vb,vc,dT,dw,gA,o3,vd,ve⟩
     exact gF nj iX ⟨o2,vb,vc,dT,Mem.le_trans bj dw,gA,o3,vd,ed.trans ve⟩
    ·refine absurd (Sl aB fun j aF=>?_) au
     have:=Ln (by simp [aB]) (an i (by omega) (BA af)) adM af i j (by omega) (by omega)
     rwa [yL (by omega)] at this
end
theorem adN{P:Program}{T:bY}{G:cT}{N:Nat}{σ:St}{Q:Exit→St→Prop}(a0:dn P T)(hm:P.follows .mixedOrders=true){id:Nat}{ops gg:Array Oper}(bQ:dstOk N ops=true)(ak:Ll (ops++gg) ops.size=true)
  {K:St→Prop} (fV:∀aR,K aR→mI P G N (ops++gg) ops.size gg.toList (Q .normal) aR) (h:hD P T G ops K ops.size (Array.replicate ops.size false) σ):fS P T G N (.region id (ops++gg) true) σ Q:=by
 intro m fr ρ a w cy cu lM ay
 refine wp_region_any hm ?_
 simp only [Ll,Bool.and_eq_true] at ak
 have e:Array.replicate (ops++gg).size false=Array.replicate ops.size false++Array.replicate gg.size false:=by
  rw [Array.size_append,Array.replicate_append_replicate]
 rw [e,Array.size_append]
 refine adK (m:=m) (fr:=fr) (N:=N) (T:=T) a0 ak.1 (fun j ad ae=>?_) (tp bQ) ops.size _ m ρ σ a _ (by simp) ?_ cy (cu.drew _) lM ay h ?_
 ·have:=List.all_eq_true.1 ak.2 j (List.mem_range.2 ae)
  simp only [Bool.or_eq_true,decide_eq_true_eq] at this
  exact this.resolve_left (by omega)
 ·intro j o' az aF
  have:=(Array.getElem?_eq_some_iff.1 az).1
  simp [Array.getD,this] at aF
 ·rintro cr w' ⟨aR,ca,cn,br,bj,bS,db,dA,ed⟩
  have:=fV aR br ca fr cn cr w' (fun e cr w'=>hq N m fr ρ σ (Q e) cr w') (cy.mono bj) bS db dA (fun nj iX au=>au.trans bj ed)
  simpa using this
end Go.Am
namespace Go.Am
set_option linter.unusedVariables false
section
variable{β:Type}
def bo(f:List D→Option (List D⊕β)):Nat→List D→Option β
 |0,_=>none
 |n+1,ls=>R (f ls) fun x=>match x with
  | .inl eh=>bo f n eh
  | .inr b=>some b
end
def firstR:Code→Nat
 | .region id _ _=>id
 | .seq x _=>firstR x
 | .cond _ x _=>firstR x
 | .block _ c=>firstR c
 | .loop c=>firstR c
 | .scope c=>firstR c
 |_=>0
def adO(c:Tmp)(x y:Code):Nat:=(c*1000+firstR y)*1000+firstR x
structure kY where
 T:bY
 G:cT
 C:kU
 n:Nat
 ib:List Key
 loops:Nat→Option o7
 adP:Nat→Option o7
 blocks:Nat→Option o7
 nv:Nat→Option (List Nat)
 H:tH
 je:Tmp→Bool
 pre:Nat→List (List Key)
def aU{β:Type}(b:Option β):Option (List D⊕β):=R b fun b=>some (.inr b)
def a6{β:Type}(f:List D→Option β):List D⊕β→Option β
 | .inl ls=>f ls
 | .inr b=>some b
def joinX{β:Type}(ib:List Key)(eV:o7)(run:(Exit→St→Option (List D⊕β))→Option (List D⊕β))(k:Exit→St→Option β):Option β:=
 R (run fun e aR=>match e with
  | .normal=>absX ib eV aR fun ls=>some (.inl ls)
  |e=>aU (k e aR)) (a6 fun ls=>k .normal (restore eV ls))
def BB{β:Type}(id:Nat)(k:Exit→St→Option β)(e:Exit)(σ:St):Option β:=match e with
 | .exit rO=>if rO=id then k .normal σ else k (.exit rO) σ
 |e=>k e σ
def adQ{β:Type}(k:Exit→St→Option β)(e:Exit)(σ:St):Option β:=match e with
 | .goto _=>none
 |e=>k e σ
def exec(X:kY):Code→{β:Type}→St→(Exit→St→Option β)→Option β
 | .skip,_,σ,k=>k .normal σ
 | .label _,_,σ,k=>k .normal σ
 | .scope c,_,σ,k=>exec X c σ (adQ k)
 | .exit id,_,σ,k=>k (.exit id) σ
 | .ret,_,σ,k=>k .ret σ
 | .region id ops d,_,σ,k=>frzX (X.pre id) σ fun σ=>match X.nv id with
  |none=>match d with
   |true=>RB X.T X.G X.C ops σ fun aR=>k .normal aR
   |false=>Sb X.T X.G X.C X.H X.je ops σ fun aR=>k .normal aR
  |some ord=>if d=true∧ord.length=ops.size then ordX X.T X.G X.C ops ord (Array.replicate ops.size false) σ fun aR=>k .normal aR
   else if d=true∧ord.length≤ops.size∧Ll ops ord.length=true then ordX X.T X.G X.C (ops.extract 0 ord.length) ord (Array.replicate ord.length false) σ fun aR=>execGF X.T X.G X.C X.H X.je ops (groups (ops.extract ord.length ops.size).toList) aR fun o2=>k .normal o2
   else none
 | .seq x y,_,σ,k=>exec X x σ fun e aR=>match e with
  | .normal=>exec X y aR k
  |e=>k e aR
 | .cond (.tmp c) x y,_,σ,k=>match σ.aC c with
  | .d a=>match X.adP (adO c x y) with
   |none=>oif a (exec X x σ k) (exec X y σ k)
   |some eV=>joinX X.ib eV (fun bg=>oif a (exec X x σ bg) (exec X y σ bg)) k
  |_=>none
 | .block id c,_,σ,k=>match X.blocks id with
  |none=>exec X c σ (BB id k)
  |some eV=>joinX X.ib eV (fun bg=>exec X c σ (BB id bg)) k
 | .loop c,_,σ,k=>match X.loops (firstR c) with
  |none=>none
  |some eV=>absX X.ib eV σ fun Lo=>bo (fun ls=>exec X c (restore eV ls) fun e aR=>match e with
   | .normal=>absX X.ib eV aR fun eh=>some (.inl eh)
   |e=>aU (k e aR)) X.n Lo
 | .cond (.const v) x y,_,σ,k=>match v with
  | .bool true=>exec X x σ k
  | .bool false=>exec X y σ k
  |_=>none
 |_,_,_,_=>none
section
variable{P:Program}{T:bY}{G:cT}{N:Nat}{σ:St}{all:Array Oper}{ib:List Key}
theorem Sr{K K':St→Prop}(ai:∀σ,K σ→K' σ):∀(fuel:Nat) {listed:Array Bool} {σ:St},hD P T G all K fuel listed σ→hD P T G all K' fuel listed σ
 |0,_,_,h=>⟨h.1,ai _ h.2⟩
 |fuel+1,_,_,h=>⟨fun aq=>ai _ (h.1 aq),fun i af=>tk (fun _ bh=>Sr ai fuel bh) (h.2 i af)⟩
theorem BC{K:St→Prop}(ay:∀o∈all,∀d,o.dst=some d→d<10000):∀(fuel:Nat) {listed:Array Bool} {σ:St},eL ib σ→hD P T G all K fuel listed σ→hD P T G all (fun aR=>eL ib aR∧K aR) fuel listed σ
 |0,_,_,b1,h=>⟨h.1,b1,h.2⟩
 |fuel+1,_,σ,b1,h=>by
  refine ⟨fun aq=>⟨b1,h.1 aq⟩,fun i af=>?_⟩
  have ad:=h.2 i af
  unfold amOp at ad⊢
  split at ad
  ·exact BC ay fuel b1 ad
  ·rename_i o az
   rw [vOp_eq] at ad⊢
   have adR:=ay o (Array.mem_of_getElem? az)
   cases hw:wantA all σ o with
   |none=>rw [hw] at ad;exact ad
   |some w=>
    rw [hw] at ad
    cases w with
    |true=>exact n9 (fun aR ⟨ae,ax⟩=>BC ay fuel ae ax) (Sc b1 adR ad)
    |false=>exact BC ay fuel b1.put ad
theorem adS{Q:Exit→St→Prop}(a0:dn P T)(hm:P.follows .mixedOrders=true){id:Nat}{ops:Array Oper}(bQ:dstOk N ops=true)
  (h:hD P T G ops (Q .normal) ops.size (Array.replicate ops.size false) σ):fS P T G N (.region id ops true) σ Q:=by
 intro m fr ρ a w cy cu lM ay
 refine wp_region_any hm ?_
 exact Kv (m:=m) (fr:=fr) (N:=N) (Q:=fun e cr w'=>hq N m fr ρ σ (Q e) cr w') a0 (tp bQ) ops.size _ m ρ σ a _ cy (cu.drew _) lM ay h (fun cr w' au=>au)
def nw(T:bY)(os:Nat→Option (List Nat))(N:Nat):Code→Bool
 | .region id ops d=>dstOk N ops&&(!d||(os id).isSome||ordFrom T ops (List.range ops.size) (Array.replicate ops.size false))
 | .seq x y=>nw T os N x&&nw T os N y
 | .cond _ x y=>nw T os N x&&nw T os N y
 | .block _ c=>nw T os N c
 | .loop c=>nw T os N c
 | .scope c=>nw T os N c
 |_=>true
def lP{β:Type}(ib:List Key)(k:Exit→St→Option β)(b:β)(e:Exit)(σ:St):Prop:=∃τ,fR σ τ∧eL ib τ∧k e τ=some b
theorem Ss{β:Type}{x:Option β}{y:List D⊕β}(h:aU x=some y):∃b,x=some b∧y= .inr b:=by
 obtain ⟨b,ad,ae⟩:=ew h
 exact ⟨b,ad,(Option.some.inj ae).symm⟩
theorem Su{β:Type}{eV:o7}{c:Code}{run:(Exit→St→Option (List D⊕β))→Option (List D⊕β)}{k:Exit→St→Option β}{b:β}
  (ha:∀bg b',run bg=some b'→fS P T G N c σ (lP ib bg b')) (h:joinX ib eV run k=some b):fS P T G N c σ (lP ib k b):=by
 obtain ⟨x,ad,ae⟩:=ew h
 refine yt (ha _ _ ad) ?_
 rintro e aR ⟨τ,a2,bb,bJ⟩
 have other:∀cX,e=cX→aU (k cX τ)=some x→lP ib k b e aR:=by
  rintro cX rfl ax
  obtain ⟨b',aZ,rfl⟩:=Ss ax
  cases ae
  exact ⟨τ,a2,bb,aZ⟩
 cases e with
 |normal=>
  obtain ⟨ls,br,bj,bS⟩:=Gk bb bJ
  cases bS
  exact ⟨_,a2.trans br,bj,ae⟩
 |exit id=>exact other _ rfl bJ
 |goto l=>exact other _ rfl bJ
 |ret=>exact other _ rfl bJ
 |panic c=>exact other _ rfl bJ
 |outgrown=>exact other _ rfl bJ
theorem adT{β:Type}{f:List D→Option (List D⊕β)}{n:Nat}{ls:List D}{b:β}(h:bo f n ls=some b):∃m,n=m+1∧((∃eh,f ls=some (.inl eh)∧bo f m eh=some b)∨f ls=some (.inr b)):=by
 cases n with
 |zero=>cases h
 |succ m=>
  obtain ⟨x,ad,ae⟩:=ew h
  refine ⟨m,rfl,?_⟩
  cases x with
  |inl eh=>exact .inl ⟨eh,ad,ae⟩
  |inr b'=>cases ae;exact .inr ad
theorem lP.block{β:Type}{id:Nat}{k:Exit→St→Option β}{b:β}{e:Exit}{σ:St}(h:lP ib (BB id k) b e σ):inBlockQ id (lP ib k b) e σ:=by
 obtain ⟨τ,a2,bb,bJ⟩:=h
 cases e with
 |exit rO=>
  simp only [inBlockQ]
  unfold BB at bJ
  by_cases af:rO=id
  ·simp only [af,if_true] at bJ⊢;exact ⟨τ,a2,bb,bJ⟩
  ·simp only [af,if_false] at bJ⊢;exact ⟨τ,a2,bb,bJ⟩
 |normal=>exact ⟨τ,a2,bb,bJ⟩
 |goto l=>exact ⟨τ,a2,bb,bJ⟩
 |ret=>exact ⟨τ,a2,bb,bJ⟩
 |panic c=>exact ⟨τ,a2,bb,bJ⟩
 |outgrown=>exact ⟨τ,a2,bb,bJ⟩
theorem pf(X:kY)(a0:dn P X.T)(bV:fI P X.G X.C)(eM:iE P X.G X.H)(hm:P.follows .mixedOrders=true)(bQ:N<10000):∀(c:Code) {β:Type} {σ:St} {k:Exit→St→Option β} {b:β},nw X.T X.nv N c=true→eL X.ib σ→exec X c σ k=some b→fS P X.T X.G N c σ (lP X.ib k b)
 | .skip,β,σ,k,b,_,b1,h=>aa5 ⟨σ,fR.refl σ,b1,h⟩
 | .label l,β,σ,k,b,_,b1,h=>aa6 ⟨σ,fR.refl σ,b1,h⟩
 | .exit id,β,σ,k,b,_,b1,h=>aa7 ⟨σ,fR.refl σ,b1,h⟩
 | .ret,β,σ,k,b,_,b1,h=>aa8 ⟨σ,fR.refl σ,b1,h⟩
 | .region id ops d,β,σ,k,b,a7,b1,h=>by
  simp only [nw,Bool.and_eq_true,Bool.or_eq_true,Bool.not_eq_true'] at a7
  have fx:∀o∈ops.toList,∀d,o.dst=some d→d<10000:=fun o az d ay=>Nat.lt_trans (tp a7.1 o (by simpa using az) d ay) bQ
  have Lp:∀aR,eL X.ib aR∧k .normal aR=some b→lP X.ib k b .normal aR:=fun aR bh=>⟨aR,fR.refl aR,bh⟩
  unfold exec at h
  have ah:=Bu b1 h
  clear h b1
  obtain ⟨σ,adU,b1,h⟩:=ah
  refine Kw adU ?_
  split at h
  ·rename_i yu
   split at h
   ·have ad:=acK (P:=P) (all:=ops) (σ:=σ) bV (K:=fun aR=>∃τ,mH aR τ∧k .normal τ=some b) (fun σ τ hw ⟨vf,ad,ae⟩=>⟨vf,hw.trans ad,ae⟩) (fun aR bh=>⟨aR,mH.refl _,bh⟩) h
    have ae:vOps P X.T X.G ops ops.toList (lP X.ib k b .normal) σ:=by
     refine kV ?_ (Lb b1 fx ad)
     rintro aR ⟨a2,τ,bb,bJ⟩
     refine ⟨τ,bb.Bg,?_,bJ⟩
     intro j aF ak
     rw [←bb.1] at ak
     exact a2 j aF ak
    exact aby a0 hm a7.1 (a7.2.resolve_left (by simp [yu])) ae
   ·have ad:=adv (P:=P) (all:=ops) (σ:=σ) a0 bV eM bQ (fun o az d ay=>tp a7.1 o (by simpa using az) d ay) b1 h
    exact adw (fun m fr ρ a w Q cy cu lM ay gF=>ad m fr ρ a w Q cy cu lM ay (fun cr w' au=>gF cr w' (au.mono Lp)))
  ·rename_i ord yu
   split at h
   case isFalse=>
    split at h
    case isFalse=>cases h
    rename_i aj
    obtain ⟨rfl,hlen,Sv⟩:=aj
    have jA:ops=ops.extract 0 ord.length++ops.extract ord.length ops.size:=by
     rw [Array.extract_append_extract,Nat.max_eq_right hlen];simp
    have na:ord.length=(ops.extract 0 ord.length).size:=by simp;omega
    have ad:=KS (P:=P) bV ord _ σ h
    generalize ops.extract 0 ord.length=cN at*
    generalize ops.extract ord.length ops.size=yc at*
    subst jA
    rw [na] at ad
    have lQ:dstOk N cN=true:=by
     have:=a7.1
     unfold dstOk at this⊢
     simp only [Array.toList_append,List.all_append,Bool.and_eq_true] at this
     exact this.1
    rw [na] at Sv
    refine adN a0 hm lQ Sv ?_ (BC (fun o az d ay=>Nat.lt_trans (tp lQ o az d ay) bQ) _ b1 ad)
    rintro aR ⟨Lf,ah⟩
    have ae:=Bx (P:=P) (N:=N) (ib:=X.ib) (all:=cN++yc) (i:=cN.size) a0 bV eM bQ (K:=lP X.ib k b .normal) (fun g hm o az=>Gc _ _ _ hm o az) (by rw [tD];intro o' az d ay;exact tp a7.1 _ (by simp at az⊢;exact .inr az) d ay) (by
     rw [tD];intro j
     rw [Array.getElem?_append_right (by omega)];simp) Lf (fun o2 ad ae=>Lp o2 ⟨ad,ae⟩) ah
    rwa [tD] at ae
   rename_i aj
   obtain ⟨rfl,hlen⟩:=aj
   have ad:=KS (P:=P) bV ord _ σ h
   rw [hlen] at ad
   exact adS a0 hm a7.1 (Sr Lp _ (BC (fun o az d ay=>Nat.lt_trans (tp a7.1 o az d ay) bQ) _ b1 ad))
 | .seq x y,β,σ,k,b,a7,b1,h=>by
  simp only [nw,Bool.and_eq_true] at a7
  refine aa9 (yt (pf X a0 bV eM hm bQ x a7.1 b1 h) ?_)
  rintro e aR ⟨τ,a2,bb,bJ⟩
  cases e with
  |normal=>
   simp only [thenQ]
   refine Kw a2 (pf X a0 bV eM hm bQ y a7.2 bb bJ)
  |exit id=>exact ⟨τ,a2,bb,bJ⟩
  |goto l=>exact ⟨τ,a2,bb,bJ⟩
  |ret=>exact ⟨τ,a2,bb,bJ⟩
  |panic c=>exact ⟨τ,a2,bb,bJ⟩
  |outgrown=>exact ⟨τ,a2,bb,bJ⟩
 | .cond c x y,β,σ,k,b,a7,b1,h=>by
  simp only [nw,Bool.and_eq_true] at a7
  cases c with
  |tmp c=>
   unfold exec at h
   split at h
   case h_2=>cases h
   rename_i a aA
   have two:∀{β:Type} (bg:Exit→St→Option β) (b':β),oif a (exec X x σ bg) (exec X y σ bg)=some b'→fS P X.T X.G N (.cond (.tmp c) x y) σ (lP X.ib bg b'):=by
    intro β bg b' h
    rcases Rq h with⟨rfl,ad⟩|⟨rfl,ad⟩
    ·exact FX (b:=true) aA (by rw [if_pos rfl];exact pf X a0 bV eM hm bQ x a7.1 b1 ad)
    ·exact FX (b:=false) aA (by rw [if_neg (by simp)];exact pf X a0 bV eM hm bQ y a7.2 b1 ad)
   split at h
   ·exact two k b h
   ·exact Su (fun bg b' bh=>two bg b' bh) h
  |const v=>
   unfold exec at h
   split at h
   ·exact FX (b:=true) rfl (by rw [if_pos rfl];exact pf X a0 bV eM hm bQ x a7.1 b1 h)
   ·exact FX (b:=false) rfl (by rw [if_neg (by simp)];exact pf X a0 bV eM hm bQ y a7.2 b1 h)
   ·cases h
  |global g=>cases h
  |func f=>cases h
 | .block id c,β,σ,k,b,a7,b1,h=>by
  have one:∀{β:Type} (bg:Exit→St→Option β) (b':β),exec X c σ (BB id bg)=some b'→fS P X.T X.G N (.block id c) σ (lP X.ib bg b'):=by
   intro β bg b' h
   exact abc (yt (pf X a0 bV eM hm bQ c a7 b1 h) (fun e aR bh=>bh.block))
  unfold exec at h
  split at h
  ·exact one k b h
  ·exact Su (fun bg b' bh=>one bg b' bh) h
 | .loop c,β,σ,k,b,a7,b1,h=>by
  unfold exec at h
  split at h
  case h_1=>cases h
  rename_i eV qA
  obtain ⟨Lo,aQ,aW,bA⟩:=Gk b1 h
  generalize a4:(fun ls=>exec X c (restore eV ls) fun e aR=>match e with
   | .normal=>absX X.ib eV aR fun eh=>some (Sum.inl eh)
   |e=>aU (k e aR))=f at bA
  refine abm (ι:={p:List D×Nat//bo f p.2 p.1=some b∧eL X.ib (restore eV p.1)}) (fun p=>restore eV p.1.1) (fun p=>p.1.2) ⟨(Lo,X.n),bA,aW⟩ aQ ?_
  rintro ⟨⟨ls,n⟩,Sw,gI⟩
  simp only at Sw gI⊢
  obtain ⟨m,rfl,ax⟩:=adT Sw
  have round:∀x,f ls=some x→fS P X.T X.G N c (restore eV ls) (lP X.ib (fun e aR=>match e with
   | .normal=>absX X.ib eV aR fun eh=>some (Sum.inl eh)
   |e=>aU (k e aR)) x):=by
   intro x ah
   rw [←a4] at ah
   exact pf X a0 bV eM hm bQ c a7 gI ah
  have go:∀x,f ls=some x→(∀eh,x= .inl eh→bo f m eh=some b)→(∀b',x= .inr b'→b'=b)→fS P X.T X.G N c (restore eV ls) (thenQ (fun aR=>∃j:{p:List D×Nat//bo f p.2 p.1=some b∧eL X.ib (restore eV p.1)},fR aR (restore eV j.1.1)∧j.1.2<m+1) (lP X.ib k b)):=by
   intro x ah an au
   refine yt (round x ah) ?_
   rintro e aR ⟨τ,a2,bb,bJ⟩
   have other:∀cX,e=cX→aU (k cX τ)=some x→lP X.ib k b e aR:=by
    rintro cX rfl ax
    obtain ⟨b',aZ,rfl⟩:=Ss ax
    rw [au b' rfl] at aZ
    exact ⟨τ,a2,bb,aZ⟩
   cases e with
   |normal=>
    obtain ⟨eh,br,bj,bS⟩:=Gk bb bJ
    cases bS
    exact ⟨⟨(eh,m),an eh rfl,bj⟩,a2.trans br,Nat.lt_succ_self m⟩
   |exit id=>exact other _ rfl bJ
   |goto l=>exact other _ rfl bJ
   |ret=>exact other _ rfl bJ
   |panic c=>exact other _ rfl bJ
   |outgrown=>exact other _ rfl bJ
  rcases ax with⟨eh,aZ,bI⟩|aZ
  ·exact go _ aZ (by rintro _ ⟨⟩;exact bI) (by rintro _ ⟨⟩)
  ·exact go _ aZ (by rintro _ ⟨⟩) (by rintro _ ⟨⟩;rfl)
 | .rangeFunc _ _ _ _,β,σ,k,b,_,b1,h=>by cases h
 | .scope c,β,σ,k,b,a7,b1,h=>abb (yt (pf X a0 bV eM hm bQ c (by simpa [nw] using a7) b1 h) (by
   rintro e aR ⟨τ,a2,bb,bJ⟩
   cases e with
   |goto l=>cases bJ
   |normal=>exact ⟨τ,a2,bb,bJ⟩
   |exit id=>exact ⟨τ,a2,bb,bJ⟩
   |ret=>exact ⟨τ,a2,bb,bJ⟩
   |panic c=>exact ⟨τ,a2,bb,bJ⟩
   |outgrown=>exact ⟨τ,a2,bb,bJ⟩))
 | .goto _,β,σ,k,b,_,b1,h=>by cases h
 | .refuse _,β,σ,k,b,_,b1,h=>by cases h
end
theorem Sx{P:Program}{T:bY}{G:cT}{N:Nat}{c:Code}{σ:St}{Q:Exit→St→Prop}(h:fS P T G N c σ (fun e aR=>∃τ,fR aR τ∧Q e τ)):fS P T G N c σ Q:=by
 intro m fr ρ a w cy cu bQ ay
 refine wp_mono (h m fr ρ a w cy cu bQ ay) ?_
 rintro e cr w' ⟨aR,ca,cn,⟨τ,gE,gF⟩,ae,ax,aZ,bI,b9⟩
 obtain ⟨vb,vc,a2,bb,bJ⟩:=gE ca fr cn cr w' ax
 exact ⟨τ,vb,vc,gF,Mem.le_trans ae a2,bb,aZ,bI,b9.trans bJ⟩
def adV(T:bY)(rs:List ResultVar)(e:Exit)(σ:St):Option D:=match e with
 | .normal=>R (resA T σ rs) (toD σ.objs)
 | .ret=>R (resA T σ rs) (toD σ.objs)
 |_=>none
def execF(X:kY)(fn:Func)(args:List AV):Option D:=match fn.body with
 |some c=>exec X c (start args fun _=>none) (adV X.T fn.results.toList)
 |none=>none
def lR(T:bY)(os:Nat→Option (List Nat))(fn:Func):Bool:=match fn.body with
 |some c=>nw T os fn.ntmps c&&decide (fn.ntmps<10000)&&!(fn.name== "runtime.NumGoroutine")
 |none=>false
theorem adW{xs cN:List AV}(h:hS (fun k=>k) (fun _=>False) xs cN):fR (start xs fun _=>none) (start cN fun _=>none):=by
 intro m fr ρ a w cu
 refine ⟨m,ρ,Mem.le_refl m,⟨cu.mem,cu.frame,cu.apart,?_,?_,?_,?_,?_⟩,?_⟩
 ·rintro k ⟨o,az⟩;cases az
 ·intro t
  have ad:=cu.aC t
  obtain ⟨ae,ax⟩:=h.ok
  simp only [start] at ad⊢
  cases aT:cN[t]? with
  |none=>rw [List.getD_eq_getElem?_getD,aT];exact .any _
  |some y=>
   obtain ⟨x,ah,hle⟩:=ax t y aT
   rw [List.getD_eq_getElem?_getD,ah] at ad
   rw [List.getD_eq_getElem?_getD,aT]
   have aZ:AvLe0 (fun k=>k) (St.used (start cN fun _=>none)) x y:=by
    unfold AvLe0 at hle⊢
    split at hle<;>first|exact hle|(exact absurd hle.2 id)
   exact aZ.ok (ρ:=ρ) ad
 ·intro k o ai;cases ai
 ·intro k o b ai;cases ai
 ·intro k bg o o' b _ ai;cases ai
 ·intro k _ aj;exact absurd aj rI
theorem adX{P:Program}(X:kY)(a0:dn P X.T)(bV:fI P X.G X.C)(eM:iE P X.G X.H)(hm:P.follows .mixedOrders=true)(jE:X.ib=[]){f:FuncId}{fn:Func}(a4:P.funcs[f]?=some fn)(a7:lR X.T X.nv fn=true){aD:List D}{as:List AV}(hle:hS (fun k=>k) (fun _=>False) (aD.map .d) as)(hlen:decide (aD.length≤fn.ntmps)=true){r:D}
  (h:execF X fn as=some r):dq P X.G f aD (·=r):=by
 have hlen:=of_decide_eq_true hlen
 unfold execF at h
 unfold lR at a7
 split at h
 case h_2=>cases h
 rename_i c ak
 simp only [ak,Bool.and_eq_true,decide_eq_true_eq,Bool.not_eq_true'] at a7
 refine abp a0 a4 ak a7.2 hlen ?_
 refine Kw (adW hle) ?_
 refine Sx (yt (pf X a0 bV eM hm a7.1.2 c a7.1.1 (by intro k _ aj;exact absurd aj rI) h) ?_)
 rintro e aR ⟨τ,a2,bb,bJ⟩
 have fin:R (resA X.T τ fn.results.toList) (toD τ.objs)=some r→∃Sy d x,resA X.T τ fn.results.toList=some Sy∧toD τ.objs Sy=some d∧d.le x∧x=r:=by
  intro ad
  obtain ⟨u,ae,ax⟩:=ew ad
  exact ⟨u,r,r,ae,ax,D.le_refl _,rfl⟩
 refine ⟨τ,a2,?_⟩
 cases e with
 |normal=>exact ⟨.inl rfl,fin bJ⟩
 |ret=>exact ⟨.inr rfl,fin bJ⟩
 |exit id=>cases bJ
 |goto l=>cases bJ
 |panic c=>cases bJ
 |outgrown=>cases bJ
def Gw(s:gf)(ls:List D):St:=⟨fun t=>(s.tG ls).getD t .any,lookO (s.lO ls)⟩
def adY(X:kY)(s:gf)(ns:List tE)(rs:List ResultVar)(e:Exit)(σ:St):Option (List D):=match e with
 | .normal=>R (resA X.T σ rs) fun x=>absX X.ib ⟨[(0,s.res)],s.outs,ns⟩ ⟨fun t=>if t=0 then x else .any,σ.objs⟩ some
 | .ret=>R (resA X.T σ rs) fun x=>absX X.ib ⟨[(0,s.res)],s.outs,ns⟩ ⟨fun t=>if t=0 then x else .any,σ.objs⟩ some
 |_=>none
def Lq(X:kY)(fn:Func)(s:gf)(ns:List tE)(ls:List D):Option (List D):=match fn.body with
 |some c=>exec X c (Gw s ls) (adY X s ns fn.results.toList)
 |none=>none
theorem adZ{P:Program}(X:kY)(a0:dn P X.T)(bV:fI P X.G X.C)(eM:iE P X.G X.H)(hm:P.follows .mixedOrders=true){s:gf}{fn:Func}(a4:P.funcs[s.f]?=some fn)(a7:lR X.T X.nv fn=true)(hlen:decide (s.args.length≤fn.ntmps)=true)
  (jE:(s.ins.all fun p=>decide (p.1<10000)||X.ib.contains p.1)=true) {ns:List tE} {F:List D→Option (List D)} (h:∀ls eh,F ls=some eh→Lq X fn s ns ls=some eh):eP P X.G s F:=by
 have hlen:=of_decide_eq_true hlen
 unfold lR at a7
 split at a7
 case h_2=>cases a7
 rename_i c ak
 simp only [Bool.and_eq_true,decide_eq_true_eq,Bool.not_eq_true'] at a7
 refine ⟨⟨fn,a4,a7.2,by rw [ak];rfl⟩,?_⟩
 intro ls eh jd m fr ρ w vs cy cu an Fi
 have ah:=h ls eh jd
 unfold Lq at ah
 rw [ak] at ah
 simp only at ah
 have Lr:(s.tG ls).length=s.args.length:=by
  have:∀(l:List jB) (n:Nat),(resWs ls l n).1.length=l.length:=by
   intro l
   induction l with
   |nil=>intro n;rfl
   |cons x r ih=>intro n;simp [resWs,ih]
  exact this _ _
 have ad0:eL X.ib (Gw s ls):=by
  intro k ai ak
  obtain ⟨cs,gC⟩:=ym ak
  have:=tx gC
  have ad:kp (s.lO ls)=s.ins.map (·.1):=vr _ _ _
  rw [ad] at this
  obtain ⟨p,aV,rfl⟩:=List.mem_map.1 this
  have ae:=List.all_eq_true.1 jE p aV
  simp only [Bool.or_eq_true,decide_eq_true_eq,List.contains_eq_mem] at ae
  rcases ae with ae|ae
  ·exact absurd ae (Nat.not_lt.2 ai)
  ·exact ae
 have hw:=pf X a0 bV eM hm a7.1.2 c a7.1.1 ad0 ah
 refine calls_of_wp a4 ak ?_
 have A9:Den m fr ρ (Gw s ls) {tmps:=vs.toArray++Array.replicate (fn.ntmps-vs.toArray.size) undef,defers:=[]} w:=by
  refine ⟨cu.mem,cu.frame,cu.apart,cu.one,?_,cu.objs,cu.own,cu.sep⟩
  intro t
  simp only [Gw]
  by_cases aG:t<vs.length
  ·have bP:t<(s.tG ls).length:=by rw [←an];exact aG
   have ay:=List.getElem?_eq_getElem bP
   have aM:=List.getElem?_eq_getElem aG
   have aQ:(s.tG ls).getD t .any=(s.tG ls)[t]:=by rw [List.getD_eq_getElem?_getD,ay];rfl
   have aW:(vs.toArray++Array.replicate (fn.ntmps-vs.toArray.size) undef).getD t undef=vs[t]:=by
    rw [Array.getD_eq_getD_getElem?,Array.getElem?_append_left (by simpa using aG)]
    simp [aG]
   rw [aQ,aW]
   exact Fi t _ _ ay aM
  ·have aQ:(s.tG ls).getD t .any= .any:=by rw [List.getD_eq_getElem?_getD,List.getElem?_eq_none (by omega)];rfl
   rw [aQ]
   exact .any _
 have fi:fn.ntmps≤(vs.toArray++Array.replicate (fn.ntmps-vs.toArray.size) undef).size:=by simp;omega
 refine wp_mono (Sx hw m fr ρ _ w cy A9 fi rfl) ?_
 rintro e cr w' ⟨aR,ca,cn,⟨bb,bJ⟩,bI,b9,e0,hR,iZ⟩
 have fin:(R (resA X.T aR fn.results.toList) fun x=>absX X.ib ⟨[(0,s.res)],s.outs,ns⟩ ⟨fun t=>if t=0 then x else .any,aR.objs⟩ some)=some eh→
   cr.defers=[]∧∃v,(results fn cr.tmps).run P w'= .ok v w'∧∃v1 eU ld,Ending.returned v= .returned v1∧m.le eU∧Gn eU fr ld (lookO (s.nt eh)) w'∧bK eU ld (o8 (lookO (s.nt eh))) (s.Gp eh) v1∧∀k,10000≤k→dP (lookO (s.lO ls) k)→ld k=ρ k:=by
  intro ad
  obtain ⟨x,ae,ax⟩:=ew ad
  obtain ⟨v,br,bj⟩:=QY (P:=P) a0 b9 ae
  obtain ⟨atJ,r1,r2,r3⟩:=Gk (σ:=⟨fun t=>if t=0 then x else .any,aR.objs⟩) bb ax
  cases r3
  have ad1:Den ca fr cn ⟨fun t=>if t=0 then x else .any,aR.objs⟩ {tmps:= #[v],defers:=[]} w':=by
   refine ⟨b9.mem,b9.frame,b9.apart,b9.one,?_,b9.objs,b9.own,b9.sep⟩
   intro t
   by_cases aG:t=0
   ·subst aG;exact bj
   ·simp only [aG,if_false];exact .any _
  obtain ⟨iY,jy,t1,t2,t3⟩:=r1 ca fr cn _ w' ad1
  have ad2:=t2.aC 0
  refine ⟨hR,v,br,v,iY,jy,rfl,Mem.le_trans bI t1,⟨t2.mem,t2.frame,t2.apart,t2.one,fun _=> .any _,t2.objs,t2.own,t2.sep⟩,?_,?_⟩
  ·exact ad2
  ·intro k ai ad3
   obtain ⟨sW,sX⟩:=iZ k ai ad3
   rw [(t3 k ai sW).2,sX]
 cases e with
 |normal=>exact fin bJ
 |ret=>exact fin bJ
 |exit id=>cases bJ
 |goto l=>cases bJ
 |panic c=>cases bJ
 |outgrown=>cases bJ
theorem tI{P:Program}{T:bY}{os:Nat→Option (List Nat)}{f:FuncId}{fn:Func}(a4:P.funcs[f]?=some fn)(a7:lR T os fn=true):u3 P f:=by
 unfold lR at a7
 split at a7
 case h_2=>cases a7
 rename_i c ak
 simp only [Bool.and_eq_true,decide_eq_true_eq,Bool.not_eq_true'] at a7
 exact ⟨fn,a4,a7.2,by rw [ak];rfl⟩
theorem tJ{P:Program}{G:cT}{s:gf}{F:List D→Option (List D)}(qB:u3 P s.f)(h:∀ls,F ls=none):eP P G s F:=
 ⟨qB,fun ls eh bh=>by rw [h] at bh;cases bh⟩
def tabH:List (Tmp×yH)→tH
 |[],_=>none
 |(t',e)::r,t=>if t=t' then some e else tabH r t
theorem ad4{P:Program}{G:cT}:iE P G (tabH []):=by intro t e h;cases h
theorem ad5{P:Program}{G:cT}{t:Tmp}{e:yH}{l:List (Tmp×yH)}(h:eP P G e.s e.F)(bh:iE P G (tabH l)):iE P G (tabH ((t,e)::l)):=by
 intro t' cX he
 unfold tabH at he
 split at he
 ·cases he;exact h
 ·exact bh t' cX he
def ft:List (Nat×List (List Key))→Nat→List (List Key)
 |[],_=>[]
 |(j,s)::r,k=>if k=j then s else ft r k
def fz(l:List Tmp)(t:Tmp):Bool:=l.contains t
def tabC:List (FuncId×(List D→Option D))→kU
 |[],_,_,_=>none
 |(hB,F)::r,d,f,aD=>if f=hB then F aD else tabC r d f aD
def a5(P:Program)(G:cT)(f:FuncId)(F:List D→Option D):Prop:=∀aD r,F aD=some r→dq P G f aD (·=r)
theorem ad6{P:Program}{G:cT}:fI P G (tabC []):=by intro d f aD r h;cases h
theorem ad7{P:Program}{G:cT}{f:FuncId}{F:List D→Option D}{l:List (FuncId×(List D→Option D))}(h:a5 P G f F)(bh:fI P G (tabC l)):fI P G (tabC ((f,F)::l)):=by
 intro d hB aD r au
 unfold tabC at au
 split at au
 ·rename_i e;subst e;exact h aD r au
 ·exact bh d hB aD r au
def ck:List (Nat×o7)→Nat→Option o7
 |[],_=>none
 |(j,s)::r,k=>if k=j then some s else ck r k
def fs:List (Nat×List Nat)→Nat→Option (List Nat)
 |[],_=>none
 |(j,s)::r,k=>if k=j then some s else fs r k
def isFc(f:FuncId)(x:D):Bool:=match x with
 | .val (.func (.func hB) a b)=>hB==f&&a.size==0&&b.size==0
 |_=>false
theorem Ls{f:FuncId}{x:D}(h:isFc f x=true):x= .val (.func (.func f) #[] #[]):=by
 unfold isFc at h
 split at h
 ·rename_i hB a b
  simp only [Bool.and_eq_true,beq_iff_eq] at h
  obtain ⟨⟨rfl,ad⟩,ae⟩:=h
  rw [Array.eq_empty_of_size_eq_zero ad,Array.eq_empty_of_size_eq_zero ae]
 ·cases h
def fnOf(f:FuncId)(x:D):Option (List D):=match x with
 | .fn (.func hB) first vp=>if hB=f∧first.isEmpty=true then some vp else none
 |_=>none
theorem jY{f:FuncId}{x:D}{vp:List D}(h:fnOf f x=some vp):x= .fn (.func f) [] vp:=by
 unfold fnOf at h
 split at h
 ·split at h
  ·rename_i aj
   cases h
   rw [aj.1,List.isEmpty_iff.1 aj.2]
  ·cases h
 ·cases h
theorem le_nil:hS (fun k=>k) (fun _=>False) (List.map AV.d []) []:=trivial
theorem lS{x:D}{y:AV}{xs:List D}{cN:List AV}(h:AvLe0 (fun k=>k) (fun _=>False) (.d x) y)(bh:hS (fun k=>k) (fun _=>False) (List.map AV.d xs) cN):hS (fun k=>k) (fun _=>False) (List.map AV.d (x::xs)) (y::cN):=⟨h,bh⟩
theorem ad8{x:D}:AvLe0 (fun k=>k) (fun _=>False) (.d x) (.d x):=⟨x,rfl,D.le_refl x⟩
theorem mJ{c:List D}{o:Nat}:AvLe0 (fun k=>k) (fun _=>False) (.d (.ref c o)) (.dO c o):= .inr rfl
end Go.Am
namespace Go.Am
set_option linter.unusedVariables false
def ao(t:Nat):Nat×jB:=(t,.b .d)
def sp(t:Nat):Nat×jB:=(t,.b (.ptr t 0))
def cI(t k:Nat):Nat×jB:=(t,.b (.row k))
def aY(k n:Nat):Key×jV:=(k,.box (List.replicate n (.b .d)))
def b8(k n:Nat):Key×jV:=(k,.row n)
def ad9(P:Program)(G:cT)(n:Nat)(c:List (FuncId×(List D→Option D)))(l j b:List (Nat×o7)):kY:=⟨eK P,G,tabC c,n,[],ck l,ck j,ck b,fs [],tabH [],fz [],ft []⟩
theorem dz{P:Program}(X:kY)(a0:dn P X.T)(bV:fI P X.G X.C)(eM:iE P X.G X.H)(hm:P.follows .mixedOrders=true)(jE:X.ib=[]){f:FuncId}{fn:Func}(a4:P.funcs[f]?=some fn)(a7:lR X.T X.nv fn=true){aD:List D}{as:List AV}(hle:hS (fun k=>k) (fun _=>False) (aD.map .d) as)(hlen:decide (aD.length≤fn.ntmps)=true)
  {o:Option D} (he:execF X fn as=o) {r:D} (h:o=some r):dq P X.G f aD (·=r):=adX X a0 bV eM hm jE a4 a7 hle hlen (he.trans h)
theorem mK{P:Program}(X:kY)(a0:dn P X.T)(bV:fI P X.G X.C)(eM:iE P X.G X.H)(hm:P.follows .mixedOrders=true){s:gf}{fn:Func}(a4:P.funcs[s.f]?=some fn)(a7:lR X.T X.nv fn=true)(hlen:decide (s.args.length≤fn.ntmps)=true)
  (jE:(s.ins.all fun p=>decide (p.1<10000)||X.ib.contains p.1)=true) (ns:List tE) {F:List D→Option (List D)} (h:∀ls,Lq X fn s ns ls=F ls):eP P X.G s F:=adZ X a0 bV eM hm a4 a7 hlen jE fun ls eh bh=>(h ls).trans bh
theorem bu{x:D}{xs:List D}{cN:List AV}(h:hS (fun k=>k) (fun _=>False) (List.map AV.d xs) cN):hS (fun k=>k) (fun _=>False) (List.map AV.d (x::xs)) (.d x::cN):=lS ad8 h
def un0(g:Option D):List D→Option D
 |[]=>g
 |_=>none
@[simp] theorem atK {g:Option D}:un0 g []=g:=rfl
theorem yB{P:Program}(X:kY)(a0:dn P X.T)(bV:fI P X.G X.C)(eM:iE P X.G X.H)(hm:P.follows .mixedOrders=true)(jE:X.ib=[]){f:FuncId}{fn:Func}(a4:P.funcs[f]?=some fn)(a7:lR X.T X.nv fn=true)(hlen:decide (0≤fn.ntmps)=true){g:Option D}(he:execF X fn []=g):a5 P X.G f (un0 g):=by
 intro aD r h
 unfold un0 at h
 split at h
 case h_2=>cases h
 exact dz X a0 bV eM hm jE a4 a7 le_nil hlen he h
def un1(g:D→Option D):List D→Option D
 |[ab]=>g ab
 |_=>none
@[simp] theorem atL {g:D→Option D} {ab:D}:un1 g [ab]=g ab:=rfl
theorem cb{P:Program}(X:kY)(a0:dn P X.T)(bV:fI P X.G X.C)(eM:iE P X.G X.H)(hm:P.follows .mixedOrders=true)(jE:X.ib=[]){f:FuncId}{fn:Func}(a4:P.funcs[f]?=some fn)(a7:lR X.T X.nv fn=true)(hlen:decide (1≤fn.ntmps)=true){g:D→Option D}(he:∀ab,execF X fn [.d ab]=g ab):a5 P X.G f (un1 g):=by
 intro aD r h
 unfold un1 at h
 split at h
 case h_2=>cases h
 exact dz X a0 bV eM hm jE a4 a7 (bu le_nil) hlen (he _) h
def un2(g:D→D→Option D):List D→Option D
 |[ab,ag]=>g ab ag
 |_=>none
@[simp] theorem atM {g:D→D→Option D} {ab ag:D}:un2 g [ab,ag]=g ab ag:=rfl
theorem dx{P:Program}(X:kY)(a0:dn P X.T)(bV:fI P X.G X.C)(eM:iE P X.G X.H)(hm:P.follows .mixedOrders=true)(jE:X.ib=[]){f:FuncId}{fn:Func}(a4:P.funcs[f]?=some fn)(a7:lR X.T X.nv fn=true)(hlen:decide (2≤fn.ntmps)=true){g:D→D→Option D}(he:∀ab ag,execF X fn [.d ab,.d ag]=g ab ag):a5 P X.G f (un2 g):=by
 intro aD r h
 unfold un2 at h
 split at h
 case h_2=>cases h
 exact dz X a0 bV eM hm jE a4 a7 (bu (bu le_nil)) hlen (he _ _) h
def un3(g:D→D→D→Option D):List D→Option D
 |[ab,ag,aS]=>g ab ag aS
 |_=>none
@[simp] theorem atN {g:D→D→D→Option D} {ab ag aS:D}:un3 g [ab,ag,aS]=g ab ag aS:=rfl
theorem g2{P:Program}(X:kY)(a0:dn P X.T)(bV:fI P X.G X.C)(eM:iE P X.G X.H)(hm:P.follows .mixedOrders=true)(jE:X.ib=[]){f:FuncId}{fn:Func}(a4:P.funcs[f]?=some fn)(a7:lR X.T X.nv fn=true)(hlen:decide (3≤fn.ntmps)=true){g:D→D→D→Option D}(he:∀ab ag aS,execF X fn [.d ab,.d ag,.d aS]=g ab ag aS):a5 P X.G f (un3 g):=by
 intro aD r h
 unfold un3 at h
 split at h
 case h_2=>cases h
 exact dz X a0 bV eM hm jE a4 a7 (bu (bu (bu le_nil))) hlen (he _ _ _) h
def un4(g:D→D→D→D→Option D):List D→Option D
 |[ab,ag,aS,bN]=>g ab ag aS bN
 |_=>none
@[simp] theorem atO {g:D→D→D→D→Option D} {ab ag aS bN:D}:un4 g [ab,ag,aS,bN]=g ab ag aS bN:=rfl
theorem tK{P:Program}(X:kY)(a0:dn P X.T)(bV:fI P X.G X.C)(eM:iE P X.G X.H)(hm:P.follows .mixedOrders=true)(jE:X.ib=[]){f:FuncId}{fn:Func}(a4:P.funcs[f]?=some fn)(a7:lR X.T X.nv fn=true)(hlen:decide (4≤fn.ntmps)=true){g:D→D→D→D→Option D}(he:∀ab ag aS bN,execF X fn [.d ab,.d ag,.d aS,.d bN]=g ab ag aS bN):a5 P X.G f (un4 g):=by
 intro aD r h
 unfold un4 at h
 split at h
 case h_2=>cases h
 exact dz X a0 bV eM hm jE a4 a7 (bu (bu (bu (bu le_nil)))) hlen (he _ _ _ _) h
def un5(g:D→D→D→D→D→Option D):List D→Option D
 |[ab,ag,aS,bN,en]=>g ab ag aS bN en
 |_=>none
@[simp] theorem atP {g:D→D→D→D→D→Option D} {ab ag aS bN en:D}:un5 g [ab,ag,aS,bN,en]=g ab ag aS bN en:=rfl
theorem Lt{P:Program}(X:kY)(a0:dn P X.T)(bV:fI P X.G X.C)(eM:iE P X.G X.H)(hm:P.follows .mixedOrders=true)(jE:X.ib=[]){f:FuncId}{fn:Func}(a4:P.funcs[f]?=some fn)(a7:lR X.T X.nv fn=true)(hlen:decide (5≤fn.ntmps)=true){g:D→D→D→D→D→Option D}(he:∀ab ag aS bN en,execF X fn [.d ab,.d ag,.d aS,.d bN,.d en]=g ab ag aS bN en):a5 P X.G f (un5 g):=by
 intro aD r h
 unfold un5 at h
 split at h
 case h_2=>cases h
 exact dz X a0 bV eM hm jE a4 a7 (bu (bu (bu (bu (bu le_nil))))) hlen (he _ _ _ _ _) h
def un6(g:D→D→D→D→D→D→Option D):List D→Option D
 |[ab,ag,aS,bN,en,gJ]=>g ab ag aS bN en gJ
 |_=>none
@[simp] theorem atQ {g:D→D→D→D→D→D→Option D} {ab ag aS bN en gJ:D}:un6 g [ab,ag,aS,bN,en,gJ]=g ab ag aS bN en gJ:=rfl
theorem Sz{P:Program}(X:kY)(a0:dn P X.T)(bV:fI P X.G X.C)(eM:iE P X.G X.H)(hm:P.follows .mixedOrders=true)(jE:X.ib=[]){f:FuncId}{fn:Func}(a4:P.funcs[f]?=some fn)(a7:lR X.T X.nv fn=true)(hlen:decide (6≤fn.ntmps)=true){g:D→D→D→D→D→D→Option D}(he:∀ab ag aS bN en gJ,execF X fn [.d ab,.d ag,.d aS,.d bN,.d en,.d gJ]=g ab ag aS bN en gJ):a5 P X.G f (un6 g):=by
 intro aD r h
 unfold un6 at h
 split at h
 case h_2=>cases h
 exact dz X a0 bV eM hm jE a4 a7 (bu (bu (bu (bu (bu (bu le_nil)))))) hlen (he _ _ _ _ _ _) h
def un7(g:D→D→D→D→D→D→D→Option D):List D→Option D
 |[ab,ag,aS,bN,en,gJ,ia]=>g ab ag aS bN en gJ ia
 |_=>none
@[simp] theorem atS {g:D→D→D→D→D→D→D→Option D} {ab ag aS bN en gJ ia:D}:un7 g [ab,ag,aS,bN,en,gJ,ia]=g ab ag aS bN en gJ ia:=rfl
end Go.Am
namespace Go.Am
set_option linter.unusedVariables false
@[congr] theorem atT {α β:Type} {x y:Option α} {f:α→Option β} (h:x=y):R x f=R y f:=by rw [h]
@[simp] theorem c9 {α β:Type} {a:α} {f:α→Option β}:R (some a) f=f a:=rfl
@[simp] theorem atU {α β:Type} {f:α→Option β}:R (none:Option α) f=none:=rfl
@[congr] theorem atV {β:Type} {c d:Bool} {p:Option β} (h:c=d):aw c p=aw d p:=by rw [h]
@[simp] theorem mL {β:Type} {p:Option β}:aw true p=p:=rfl
@[simp] theorem atW {β:Type} {p:Option β}:aw false p=none:=rfl
@[congr] theorem atX {β:Type} {x y:D} {p q:Option β} (h:x=y):oif x p q=oif y p q:=by rw [h]
@[simp] theorem jf {β:Type} {b:Bool} {p q:Option β}:oif (ar b) p q=if b=true then p else q:=by cases b<;>rfl
@[congr] theorem atY {x y:D} {w:Bool} {p:Option D} (h:x=y):gD x w p=gD y w p:=by rw [h]
@[simp] theorem rX {b w:Bool} {p:Option D}:gD (ar b) w p=if b=w then p else some ja:=rfl
@[simp] theorem atZ {dJ:Type} {b w:Bool} {p q:Option dJ}:vk (ar b) w p q=if b=w then p else q:=rfl
@[simp] theorem at0 {dJ:Type} {w:Bool} {p q:Option dJ}:vk ja w p q=q:=rfl
@[simp] theorem at1 {w:Bool} {p:Option D}:gD ja w p=some ja:=rfl
@[simp] theorem rY {t:Bool} {a b:D}:pickP (ar t) a b=some (if t=true then a else b):=rfl
@[simp] theorem SA {c:Prop} [Decidable c] {a b:Bool}:(if c then ar a else ar b)=ar (if c then a else b):=by split<;>rfl
@[simp] theorem Lu {α:Type} {c:Prop} [Decidable c] {a b:α}:(if c then some a else some b)=some (if c then a else b):=by split<;>rfl
@[simp] theorem at2 {α:Type} {c:Prop} [Decidable c] {a b d:α}:(if c then(if c then a else b) else d)=if c then a else d:=by split<;>simp_all
@[simp] theorem Lv {β:Type} {b:β}:aU (some b)=some (.inr b):=rfl
@[simp] theorem at3 {β:Type}:aU (none:Option β)=none:=rfl
@[simp] theorem ny {β:Type} {f:List D→Option β} {ls:List D}:a6 f (.inl ls)=f ls:=rfl
@[simp] theorem BD {β:Type} {f:List D→Option β} {b:β}:a6 f (.inr b)=some b:=rfl
@[simp] theorem mM {x:D} {l:List D}:I (x::l) 0=x:=rfl
@[simp] theorem og {x:D} {l:List D} {n:Nat}:I (x::l) (n+1)=I l n:=rfl
@[simp] theorem aea {k:Nat} {es:List (List D)}:esD (.aE k es)=es:=rfl
@[simp] theorem aeb {es:List (Value×D)}:fq (.mp es)=es:=rfl
@[simp] theorem aec {cs:List D}:celsD (.agg cs)=cs:=rfl
@[simp] theorem at4 {cs:List D} {i:Nat}:aa (.agg cs) i=cs.getD i ja:=rfl
@[simp] theorem aed {n:Int}:bD (J n)=true:=rfl
@[simp] theorem aee {n:Bool}:bD (ar n)=true:=rfl
@[simp] theorem aef {n:ByteArray}:bD (aI n)=true:=rfl
@[simp] theorem aeg {k:Nat} {es:List (List D)}:bD (.aE k es)=true:=rfl
@[simp] theorem at5 {es:List (Value×D)}:bD (.mp es)=true:=rfl
@[simp] theorem aeh:bD (.val (.slice none 0 0))=true:=rfl
@[simp] theorem aei {n:Int}:(J n).one=true:=rfl
@[simp] theorem aej {n:Bool}:(ar n).one=true:=rfl
@[simp] theorem aek {n:ByteArray}:(aI n).one=true:=rfl
@[simp] theorem ael {k:Nat} {es:List (List D)}:(D.aE k es).one=true:=rfl
@[simp] theorem aem:(D.val (.slice none 0 0)).one=true:=rfl
@[simp] theorem at6 {n:Nat} {cs:List D}:aK n (.agg cs)=(cs.length==n&&cs.all D.one):=rfl
@[simp] theorem at7:nilP (.val (.slice none 0 0))=true:=rfl
@[simp] theorem hg {n off:Nat} {cs:List D}:aX false n off cs=cs[off]?:=rfl
theorem vB{n off:Nat}{cs:List D}:aX true n off cs=if off+n≤cs.length then some (.agg ((cs.drop off).take n)) else none:=rfl
@[simp] theorem SB {a:Bool} {n off:Nat} {cs:List D}:jT a n off (.agg cs)=aX a n off cs:=rfl
@[simp] theorem Lw {i:Nat} {vs:List D}:extP i (.aL vs)=vs[i]?:=rfl
@[simp] theorem aen {k:Nat} {es:List (List D)}:lenP (.aE k es)=some (J es.length):=rfl
@[simp] theorem aeo:lenP (.val (.slice none 0 0))=some (J 0):=rfl
@[simp] theorem Lx {s:ByteArray}:nq (aI s)=some (J s.size):=rfl
@[simp] theorem SC {k:Nat} {es:List (List D)} {i:Nat}:a3 k (.aE k es) (J (i:Int))=es[i]?:=by
 simp [a3,J]
@[simp] theorem aua {k:Nat} {es:List (List D)}:a3 k (.aE k es) (J 0)=es[0]?:=by
 simp [a3,J]
theorem Ly{n:Nat}{i:Int}(h:0≤i)(bh:i<n):ct n (J i)=some i.toNat:=by
 simp [ct,J,h,bh]
@[simp] theorem lp {n i:Nat}:ct n (J (i:Int))=if i<n then some i else none:=by
 simp [ct,J]
@[simp] theorem aep {k:Nat} {es:List (List D)}:elP (.aE k es)=some (k,es):=rfl
@[simp] theorem aub:elP (.val (.slice none 0 0))=some (0,[]):=rfl
theorem gK{n b:Nat}(ad:n*b≤140737488355328)(ae:n≤4611686018427387904):c2 n b=true:=by simp [c2,ad,ae]
section
variable{bt:Bool}{a b:Int}
@[simp] theorem yM:binP bt .lss (J a) (J b)=some (ar (decide (a<b))):=rfl
@[simp] theorem Gx:binP bt .leq (J a) (J b)=some (ar (decide (a≤b))):=rfl
@[simp] theorem lT:binP bt .gtr (J a) (J b)=some (ar (decide (a>b))):=rfl
@[simp] theorem yN:binP bt .geq (J a) (J b)=some (ar (decide (a≥b))):=rfl
@[simp] theorem yO:binP bt .eql (J a) (J b)=some (ar (a==b)):=rfl
@[simp] theorem tL:binP bt .neq (J a) (J b)=some (ar (a !=b)):=rfl
theorem Gy:binP bt .add (J a) (J b)=some (J (IntKind.i64.wrap (a+b))):=rfl
theorem Lz:binP bt .sub (J a) (J b)=some (J (IntKind.i64.wrap (a-b))):=rfl
theorem aeq:binP bt .mul (J a) (J b)=some (J (IntKind.i64.wrap (a*b))):=rfl
theorem dU(ad:-9223372036854775808≤a+b)(ae:a+b≤9223372036854775807):binP bt .add (J a) (J b)=some (J (a+b)):=by rw [Gy,wrap64 _ ad ae]
theorem lq(ad:-9223372036854775808≤a-b)(ae:a-b≤9223372036854775807):binP bt .sub (J a) (J b)=some (J (a-b)):=by rw [Lz,wrap64 _ ad ae]
theorem Gz(ad:-9223372036854775808≤a*b)(ae:a*b≤9223372036854775807):binP bt .mul (J a) (J b)=some (J (a*b)):=by rw [aeq,wrap64 _ ad ae]
theorem SD(h:b≠0):binP bt .quo (J a) (J b)=some (J (IntKind.i64.wrap (a.tdiv b))):=by simp [binP,intBin,J,h,toDo]
theorem BE(h:b≠0):binP bt .rem (J a) (J b)=some (J (a.tmod b)):=by simp [binP,intBin,J,h,toDo]
@[simp] theorem LA {x y:ByteArray}:binP bt .eql (aI x) (aI y)=some (ar (decide (x=y))):=rfl
@[simp] theorem SE {x y:ByteArray}:binP bt .neq (aI x) (aI y)=some (ar (!decide (x=y))):=rfl
@[simp] theorem aer {x y:ByteArray}:binP bt .lss (aI x) (aI y)=some (ar (blt x y)):=rfl
@[simp] theorem LB {x y:ByteArray}:binP bt .gtr (aI x) (aI y)=some (ar (!(blt x y||decide (x=y)))):=rfl
@[simp] theorem auc {x y:Bool}:binP true .eql (ar x) (ar y)=some (ar (x==y)):=rfl
@[simp] theorem aud {x y:Bool}:binP true .neq (ar x) (ar y)=some (ar (x !=y)):=rfl
@[simp] theorem yP {x:Bool}:unP .not (ar x)=some (ar (!x)):=rfl
end
attribute [simp] List.getElem?_cons_zero List.getElem?_cons_succ List.getElem?_nil List.getD_cons_zero List.getD_cons_succ
theorem iterL_s{β:Type}{f:List D→Option (List D⊕β)}{n:Nat}{ls:List D}:bo f (n+1) ls=R (f ls) fun x=>match x with
  | .inl eh=>bo f n eh
  | .inr b=>some b:=rfl
theorem SF{β:Type}{f:List D→Option (List D⊕β)}(eB:Nat→List D):∀{m n j:Nat},(∀i,j≤i→i<j+m→f (eB i)=some (.inl (eB (i+1))))→m≤n→bo f n (eB j)=bo f (n-m) (eB (j+m))
 |0,n,j,_,_=>rfl
 |m+1,0,j,_,h=>absurd h (by omega)
 |m+1,n+1,j,aB,h=>by
  rw [iterL_s,aB j (Nat.le_refl j) (by omega)]
  simp only [c9]
  have:=SF (f:=f) eB (m:=m) (n:=n) (j:=j+1) (fun i ad ae=>aB i (by omega) (by omega)) (by omega)
  rw [this]
  congr 1
  ·omega
  ·congr 1;omega
theorem jF{β:Type}{f:List D→Option (List D⊕β)}{ls:List D}{n:Nat}{b:β}(eB:Nat→List D)(m:Nat)(aq:ls=eB 0)(aB:∀i,i<m→f (eB i)=some (.inl (eB (i+1))))(he:f (eB m)=some (.inr b))(aJ:m<n):bo f n ls=some b:=by
 subst aq
 rw [SF eB (m:=m) (fun i _ h=>aB i (by omega)) (by omega)]
 obtain ⟨k,ai⟩:∃k,n-m=k+1:=⟨n-m-1,by omega⟩
 rw [ai,iterL_s,Nat.zero_add,he]
 rfl
end Go.Am
