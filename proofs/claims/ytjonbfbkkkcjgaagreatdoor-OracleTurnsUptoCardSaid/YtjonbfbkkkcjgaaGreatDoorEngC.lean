/- An evaluator of code over such values, and that what it answers the code does. No condition. -/
import Derived.Test.YtjonbfbkkkcjgaaGreatDoorEngS
import Derived.KernelRfl
set_option linter.all false
set_option linter.unnecessarySimpa false
namespace Go.Am
def af{b c:Type}(x:Option b)(f:b->Option c):Option c:=match x with|some a=>f a|none=>none
def cR{c d:Type}{x:Option c}{f:c->Option d}{b:d}(h:af x f=some b):∃a,x=some a/\f a=some b:=by
 cases x with
 |none=>cases h
 |some a=>exact⟨a,rfl,h⟩
def bF{a:Type}(c:Bool)(p:Option a):Option a:=match c with|true=>p|false=>none
def hE{a:Type}{c:Bool}{p:Option a}{b:a}(h:bF c p=some b):c=true/\p=some b:=by
 cases c with
 |false=>cases h
 |true=>exact⟨rfl,h⟩
def a6{a:Type}(x:D)(p q:Option a):Option a:=match x with| .val (.bool true)=>p| .val (.bool false)=>q|_=>none
def Co{a:Type}{x:D}{p q:Option a}{b:a}(h:a6 x p q=some b):(x= .val (.bool true)/\p=some b)\/(x= .val (.bool false)/\q=some b):=by
 unfold a6 at h;split at h;.exact .inl ⟨rfl,h⟩
 .exact .inr ⟨rfl,h⟩
 cases h
def hF:D:= .val (.tuple #[])
def kR:Option az->oX
 |some (.d r)=>some r|_=>none
def r3{x:Option az}{r:D}(h:kR x=some r):x=some (.d r):=by
 unfold kR at h;split at h;.cases h;rfl
 cases h
def dK:D->lZ
 | .agg cs=>cs|_=>[]
def ad(x:D)(i:Nat):D:=(dK x).getD i hF
def aF:D->mW
 | .aw _ es=>es|_=>[]
def dT:D->List (Value×D)
 | .mp es=>es|_=>[]
def c8(x:D):Bool:=x.one
def cz(n:Nat)(x:D):Bool:=match x with| .agg cs=>cs.length==n&&cs.all D.one|_=>false
def jy(x:D):Bool:=match x with| .val (.slice none 0 0)=>true|_=>false
def Cp{n:Nat}{x:D}(h:cz n x=true):∃cs,x= .agg cs/\cs.length=n/\cs.all D.one=true:=by
 unfold cz at h;split at h;.rename_i cs;rw[xan,xbQ]at h;exact⟨cs,rfl,h.1,h.2⟩
 cases h
def Zy{n:Nat}{cs:lZ}(h:cs.length=n):((List.range n).map λi=>az.d (ad (.agg cs) i))=cs.map .d:=by
 apply xbG;intro i;simp only[xag];by_cases ag:i<n;.rw[xbN ag,xaa oZ];simp[ad,dK,xbf,h,ag]
 rw[xaH uZ,xaH oZ];rfl
def aV(bt:Bool)(op:BinOp)(x y:D):oX:=match x,y with
 | .val (.int k a),.val (.int c b)=>kR (match op with
  | .shl=>if b<0 then none else some (.d (.val (.int k (k.wrap (a*2^(min b.toNat k.bits))))))
  | .shr=>if b<0 then none else some (.d (.val (.int k (a.fdiv (2^(min b.toNat k.bits))))))
  |_=>if k=c then xL op k a b else none)
 | .val (.string a),.val (.string b)=>kR (Hq op a b)| .val (.bool a),.val (.bool b)=>if bt then kR (Hr op a b)else none
 |_,_=>none
def Zz{T:bC}{t:TypeId}{op:BinOp}{x y r:D}(h:aV (xM T t) op x y=some r):qd T op t (.d x) (.d y)=some (.d r):=by
 unfold aV at h;unfold qd;split at h;.have:=r3 h;cases op<;>exact this
 .exact r3 h
 .split at h;.rename_i a;simp only[a,xaD];exact r3 h
  cases h
 cases h
def H4(l:List TypeDesc)(op:BinOp)(x y:D):oX:=match x,y with| .agg a,.agg b=>kR (Hs op l a b)|_,_=>none
def ZA{T:bC}{t:TypeId}{op:BinOp}{x y r:D}{l:List TypeDesc}(ah:T.eqs t=some l)(h:H4 l op x y=some r):qd T op t (.d x) (.d y)=some (.d r):=by
 unfold H4 at h;split at h;.unfold qd;simp only[ah];exact r3 h
 cases h
def Cq(op:BinOp)(x y:D):oX:=match op with
 | .eql=>if jy y then(match x with| .val (.slice none _ _)=>some (.val (.bool true))| .aw _ (_::_)=>some (.val (.bool false))|_=>none)else none
 | .neq=>if jy y then(match x with| .val (.slice none _ _)=>some (.val (.bool false))| .aw _ (_::_)=>some (.val (.bool true))|_=>none)else none
 |_=>none
def cd(op:UnOp)(x:D):oX:=match op,x with| .not,.val (.bool b)=>some (.val (.bool !b))| .neg,.val (.int k n)=>some (.val (.int k (k.wrap (0-n))))|_,_=>none
def j4(k:IntKind)(x:D):oX:=match x with| .val (.int _ n)=>some (.val (.int k (k.wrap n)))|_=>none
def Of(x:D):oX:=match x with| .val (.string b)=>some (.val (.string b))|_=>none
def um(es:mW):oX:=match nO es with|some a=>some (.val (.string (BT a)))|none=>none
def Og(x:D):oX:=match x with| .aw 1 es=>um es| .val (.slice none 0 _)=>um []|_=>none
def en(c a b:D):oX:=match c with
 | .val (.bool t)=>some (if t then a else b)
 |_=>none
def aR(agg:Bool)(n off:Nat)(cs:lZ):oX:=match agg with
 |true=>if off+n<=cs.length then some (.agg ((cs.drop off).take n))else none
 |false=>cs[off]?
def jk(agg:Bool)(n off:Nat)(x:D):oX:=match x with| .agg cs=>aR agg n off cs|_=>none
def eJ(i:Nat)(x:D):oX:=match x with| .aB vs=>vs[i]?|_=>none
def mN(s i:D):oX:=match s,i with| .val (.string s),.val (.int _ n)=>kR (BS s n)|_,_=>none
def lj(x:oX)(a:Nat):Option Nat:=match x with
 |none=>some a|some (.val (.int _ n))=>if 0<=n then some n.toNat else none
 |_=>none
theorem Cr(x:oX)(d:Nat):lM (x.map .d) d=lj x d:=by cases x with|none=>rfl|some x=>cases x<;>first|rfl|(rename_i v;cases v<;>rfl)
def Oh(s:D)(lo ag:oX):oX:=match s with
 | .val (.string s)=>match lj ag s.size,lj lo 0 with
  |some h,some l=>if l<=h/\h<=s.size then some (.val (.string (s.extract l h)))else none
  |_,_=>none
 |_=>none
def j5(k:Nat)(x:D)(lo ag:oX):oX:=match x with
 | .aw a es=>match lj ag es.length,lj lo 0 with
  |some h,some l=>if l<=h/\h<=es.length/\a=k then some (.aw a ((es.drop l).take (h-l)))else none
  |_,_=>none
 |_=>none
def hG(n:Nat)(lo ag:oX):Option (Nat×Nat):=match lj ag n,lj lo 0 with
 |some h,some l=>if l<=h/\h<=n then some (l,h-l)else none
 |_,_=>none
def lk(x:D):oX:=match x with| .val (.string s)=>some (.val (.int .i64 s.size))|_=>none
def dL(x:D):oX:=match x with| .aw _ es=>some (.val (.int .i64 es.length))| .val (.slice _ n _)=>some (.val (.int .i64 n))|_=>none
def Oi(x:D):oX:=match x with| .val (.map none)=>some (.val (.int .i64 0))| .mp es=>some (.val (.int .i64 es.length))|_=>none
def bc(k:Nat)(x i:D):oY:=match i with
 | .val (.int _ n)=>if 0<=n then(match x with
  | .aw a es=>if a=k then es[n.toNat]? else none
  |_=>none)else none
 |_=>none
def cI(n:Nat)(i:D):Option Nat:=match i with
 | .val (.int _ j)=>if 0<=j/\j<n then some j.toNat else none
 |_=>none
def jz(x:D):Option (Nat×mW):=match x with| .aw k es=>some (k,es)| .val (.slice none 0 _)=>some (0,[])|_=>none
def hZ(ed:Bool)(l:lZ):oX:=kR (mE ed (l.map .d))
def b1(n bytes:Nat):Bool:=decide (n*bytes<=140737488355328)&&decide (n<=4611686018427387904)
def e5(bytes:Nat)(l c:D):Option Nat:=match l,c with
 | .val (.int _ l),.val (.int _ c)=>if 0<=l/\l<=c/\(bytes:Int)*c<=281474976710656/\c<=9223372036854775807 then some l.toNat else none
 |_,_=>none
def gU(kind:TypeDesc)(zero:Value)(ok:Bool)(es:List (Value×D))(k:D):oX:=match k with
 | .val a=>match findD kind a es with
  |some (some x)=>some (if ok then .aB [x,.val (.bool true)]else x)
  |some none=>some (if ok then .aB [mF zero,.val (.bool false)]else mF zero)
  |none=>none
 |_=>none
def jA(x:D):Option (List (Value×D)):=match x with| .val (.map none)=>some []| .mp es=>some es|_=>none
def lU(kind:TypeDesc)(es:List (Value×D))(k x:D):Option (List (Value×D)):=match k with| .val a=>mG kind a x es|_=>none
section
variable{β:Type}
def x3:List az->Option β->Option β
 |[],p=>p| .d a::r,p=>bF (c8 a) (x3 r p)|x::r,p=>if x.one=true then x3 r p else none
def H5{p:Option β}{b:β}:∀{cs:List az},x3 cs p=some b->cs.all az.one=true/\p=some b
 |[],h=>⟨rfl,h⟩
 |x::r,h=>by
  unfold x3 at h;split at h;.rename_i e;cases e
  .rename_i a g f e;cases e;obtain⟨ab,ae⟩:=hE h;obtain⟨ai,c⟩:=H5 ae;exact⟨by rw[xbc,ai,xbA];exact ab,c⟩
  rename_i e;cases e;split at h;.rename_i d;obtain⟨ai,c⟩:=H5 h;exact⟨by rw[xbc,ai,xbA];exact d,c⟩
  cases h
def uo(n:Nat)(x:az)(k:List az->Option β):Option β:=match x with
 | .d a=>match n with|1=>bF (c8 a) (k [.d a])|_=>bF (cz n a) (k ((List.range n).map λi=> .d (ad a i)))
 | .agg cs=>x3 cs (k cs)|x=>match cellsOf x with|some cs=>k cs|none=>none
def Cs{n:Nat}{x:az}{k:List az->Option β}{b:β}(h:uo n x k=some b):∃cs,cellsOf x=some cs/\k cs=some b:=by
 unfold uo at h;split at h
 .rename_i a;split at h
  .obtain⟨ab,ae⟩:=hE h;refine⟨_,?_,ae⟩;unfold c8 at ab;unfold cellsOf;split;.rename_i e;cases e;cases ab
   .rename_i e;cases e
   rw[xac (show az.one (.d a)=true from ab)]
  obtain⟨ab,ae⟩:=hE h;obtain⟨cs,rfl,f,g⟩:=Cp ab;rw[Zy f]at ae;exact⟨_,by simp only[cellsOf,g,xaD],ae⟩
 .obtain⟨ab,ae⟩:=H5 h;exact⟨_,by simp only[cellsOf,ab,xaD],ae⟩
 split at h;.rename_i cs c;exact⟨cs,c,h⟩
 cases h
def Ct(place:Nat->Option (Nat×Nat))(cells:List az):List (Nat×az)->(List az->Option β)->Option β
 |[],k=>k cells|(i,x)::rest,k=>match place i with|none=>none|some (off,size)=>uo size x λcs=>if cs.length=size/\off+cs.length<=cells.length then Ct place (kl cells off cs) rest k else none
def Oj{place:Nat->Option (Nat×Nat)}:∀{parts:List (Nat×az)} {cells:List az} {k:List az->Option β} {b:β},Ct place cells parts k=some b->∃cs,rP place cells parts=some cs/\k cs=some b
 |[],cells,k,b,h=>⟨cells,rfl,h⟩
 |(i,x)::rest,cells,k,b,h=>by
  unfold Ct at h;split at h;.cases h
  rename_i off size d;obtain⟨cs,ab,ae⟩:=Cs h;split at ae
  case isFalse=>cases ae
  rename_i c;obtain⟨out,ai,a⟩:=Oj ae;exact⟨out,by unfold rP;simp only[d,ab];rw[xac c];exact ai,a⟩
def Cu(size:Nat)(n:Nat):List (Nat×az)->(mW->Option β)->Option β
 |[],k=>k []
 |(i,x)::r,k=>if i=n then uo size x λcs=>match iw cs with
   |some a=>if a.length=size then Cu size (n+1) r λl=>k (a::l)else none
   |none=>none
  else none
def Ol{size:Nat}:∀{parts:List (Nat×az)} {n:Nat} {k:mW->Option β} {b:β},Cu size n parts k=some b->∃es,qh size n parts=some es/\k es=some b
 |[],n,k,b,h=>⟨[],rfl,h⟩
 |(i,x)::r,n,k,b,h=>by
  unfold Cu at h;split at h
  case isFalse=>cases h
  rename_i ag;obtain⟨cs,ab,ae⟩:=Cs h;split at ae
  case h_2=>cases ae
  rename_i c a;split at ae
  case isFalse=>cases ae
  rename_i ah;obtain⟨es,ai,d⟩:=Ol ae;exact⟨c::es,by unfold qh;simp only[ag,xaD,ab,a,ai,ah],d⟩
end
section
variable{β:Type}
def kS(T:bC)(G:cj)(σ:ar)(o:Oper)(k:ar->Option β):Option β:=match eN T G σ o with|some a=>k a|none=>none
def hi(σ:ar)(dst:Option Tmp)(k:ar->Option β)(p:oX):Option β:=af p λv=>k (σ.put dst (.d v))
def jB(T:bC)(σ:ar)(dst:Option Tmp)(k:ar->Option β)(r:az)(a:List (Key×b6)):Option β:=match mH (T.born (dst.getD 9999)) (dst.getD 9999) (r,a)with|(r,a)=>k (ar.put ⟨σ.au,cD σ.objs a⟩ dst r)
def Cv:Option az->Option oX
 |none=>some none|some (.d a)=>some (some a)|_=>none
theorem Om{x:Option az}{y:oX}(h:Cv x=some y):x=y.map .d:=by unfold Cv at h;split at h<;>cases h<;>rfl
def On(T:bC)(t:TypeId):Bool:=match T t with|some ⟨.slice _,_,_,_⟩=>true|_=>false
def H6(T:bC)(G:cj)(σ:ar)(o:Oper)(op:BinOp)(t:TypeId)(x y:Operand)(k:ar->Option β):Option β:=match bD G σ.au x,bD G σ.au y with
 | .d a,.d b=>match On T t with|true=>hi σ o.dst k (Cq op a b)|false=>match T.eqs t with|some l=>hi σ o.dst k (H4 l op a b)|none=>hi σ o.dst k (aV (xM T t) op a b)
 |_,_=>kS T G σ o k
def H7(T:bC)(G:cj)(σ:ar)(o:Oper)(s:TypeId)(x:Operand)(f:Nat)(k:ar->Option β):Option β:=match xO T s f with
 |some (off,i)=>match bD G σ.au x with| .d a=>hi σ o.dst k (jk (o2 i.desc) i.size off a)|_=>kS T G σ o k
 |none=>none
def H8(T:bC)(G:cj)(σ:ar)(o:Oper)(t:TypeId)(a:Operand)(k:ar->Option β):Option β:=match T t with
 |some i=>match bD G σ.au a with
  | .cH cs off=>hi σ o.dst k (aR (o2 i.desc) i.size off cs)
  | .ey key c cN off=>match σ.objs key with
   |some (.row b es)=>if c=b then af es[cN]? λe=>hi σ o.dst k (aR (o2 i.desc) i.size off e)else none
   |_=>none
  |_=>kS T G σ o k
 |none=>none
def H9(T:bC)(G:cj)(σ:ar)(o:Oper)(t:TypeId)(x cN:Operand)(k:ar->Option β):Option β:=match T t with
 |some ⟨.slice e,_,_,_⟩=>match T e with
  |some b=>match bD G σ.au cN with
   | .d i=>match bD G σ.au x with
    | .d a=>af (bc b.size a i) λc=>k (σ.put o.dst (.cH c 0))
    | .row key=>match σ.objs key with
     |some (.row f es)=>if f=b.size then af (cI es.length i) λn=>k (σ.put o.dst (.ey key f n 0))else none
     |_=>none
    | .sub key f i0 len=>if f=b.size then af (cI len i) λn=>k (σ.put o.dst (.ey key f (i0+n) 0))else none
    |_=>none
   |_=>none
  |none=>none
 |some ⟨.array len e,_,_,_⟩=>match T e with
  |some b=>match bD G σ.au cN with
   | .d i=>af (cI len i) λn=>match xP (bD G σ.au x) (n*b.size)with|some r=>k (σ.put o.dst r)|none=>none
   |_=>none
  |none=>none
 |_=>none
def Ia(T:bC)(G:cj)(σ:ar)(o:Oper)(t:TypeId)(x:Operand)(lo ag:Option Operand)(k:ar->Option β):Option β:=match Cv (lo.map (bD G σ.au)),Cv (ag.map (bD G σ.au))with
 |some l,some h=>match T t with
  |some ⟨.string,_,_,_⟩=>match bD G σ.au x with| .d a=>hi σ o.dst k (Oh a l h)|_=>none
  |some ⟨.slice e,_,_,_⟩=>match T e with
   |some c=>match bD G σ.au x with
    | .d a=>hi σ o.dst k (j5 c.size a l h)
    | .row key=>match σ.objs key with
     |some (.row b es)=>if b=c.size then af (hG es.length l h) λp=>k (σ.put o.dst (.sub key b p.1 p.2))else none
     |_=>none
    | .sub key b i0 len=>if b=c.size then af (hG len l h) λp=>k (σ.put o.dst (.sub key b (i0+p.1) p.2))else none
    |_=>none
   |none=>none
  |_=>kS T G σ o k
 |_,_=>none
def Ib(T:bC)(G:cj)(σ:ar)(o:Oper)(args:List Operand)(b:List TypeId)(k:ar->Option β):Option β:=match b,args with
 |[t],[x]=>match bD G σ.au x with
  | .d a=>match T t with|some ⟨.string,_,_,_⟩=>hi σ o.dst k (lk a)|some ⟨.slice _,_,_,_⟩=>hi σ o.dst k (dL a)|some ⟨.map _ _,_,_,_⟩=>hi σ o.dst k (Oi a)|_=>none
  |_=>kS T G σ o k
 |_,_=>none
def Ic(T:bC)(G:cj)(σ:ar)(o:Oper)(args:List Operand)(g:List TypeId)(k:ar->Option β):Option β:=match g,args with
 |[t,t'],[s,x]=>match T t,T t',σ.objs (o.dst.getD 9999)with
  |some ⟨.slice e,_,_,_⟩,some ⟨.slice _,_,_,_⟩,none=>match T e with
   |some b=>
    let go:Nat×mW->Option β:=λp=>bF (decide (p.1=b.size\/p.2=[])&&decide (0<b.size)) (match bD G σ.au s with
     | .d a=>bF (jy a&&b1 p.2.length b.bytes) (jB T σ o.dst k (.row (o.dst.getD 9999)) [(o.dst.getD 9999,.row b.size p.2)])
     | .row key=>match σ.objs key with
      |some (.row c es)=>if c=b.size/\key<10000 then bF (b1 (es.length+p.2.length) b.bytes) (jB T σ o.dst k (.row (o.dst.getD 9999)) [(key,.dead),(o.dst.getD 9999,.row c (es++p.2))])else none
      |_=>none
     |_=>none)
    match bD G σ.au x with
    | .d a=>af (jz a) go
    | .sub key c i len=>match σ.objs key with
     |some (.row f es)=>if c=f then bF (decide (i+len<=es.length)) (go (c,(es.drop i).take len))else none
     |_=>none
    |y=>match jg σ.objs y with|some p=>go p|none=>none
   |none=>none
  |_,_,_=>none
 |_,_=>none
def Ie(T:bC)(G:cj)(σ:ar)(o:Oper)(args:List Operand)(g:List TypeId)(k:ar->Option β):Option β:=match g,args with
 |[t,t'],[s,x]=>match T t with
  |some ⟨.slice e,_,_,_⟩=>match T e with
   |some f=>
    let go:Nat×mW->Option β:=λp=>bF (decide (p.1=f.size\/p.2=[])) (match bD G σ.au s with
     | .row key=>match σ.objs key with
      |some (.row b es)=>if b=f.size then jB T σ o.dst k (.d (.val (.int .i64 (min p.2.length es.length:Nat)))) [(key,.row b (p.2.take (min p.2.length es.length)++es.drop (min p.2.length es.length)))]else none
      |_=>none
     | .sub key b i len=>match σ.objs key with
      |some (.row c es)=>if b=f.size/\c=b then bF (decide (i+len<=es.length)) (jB T σ o.dst k (.d (.val (.int .i64 (min p.2.length len:Nat)))) [(key,.row b (es.take i++p.2.take (min p.2.length len)++es.drop (i+min p.2.length len)))])else none
      |_=>none
     |_=>none)
    match bD G σ.au x with
    | .d a=>af (jz a) go
    | .sub key b i len=>match σ.objs key with
     |some (.row c es)=>if b=c then bF (decide (i+len<=es.length)) (go (b,(es.drop i).take len))else none
     |_=>none
    |y=>match jg σ.objs y with|some p=>go p|none=>none
   |none=>none
  |_=>none
 |_,_=>none
def Ig(T:bC)(G:cj)(σ:ar)(o:Oper)(args:List Operand)(d:List TypeId)(k:ar->Option β):Option β:=match d,args with
 |[t],[s]=>match T t with
  |some ⟨.slice e,_,_,_⟩=>match T e with
   |some a=>match bD G σ.au s with
    | .sub key b i len=>match σ.objs key with
     |some (.row c es)=>if b=a.size/\c=b/\a.zero.cells.toList.all hA=true then bF (decide (i+len<=es.length)) (jB T σ o.dst k .any [(key,.row b (es.take i++List.replicate len (a.zero.cells.toList.map .val)++es.drop (i+len)))])else none
     |_=>none
    |_=>none
   |none=>none
  |_=>none
 |_,_=>none
def Ih(T:bC)(G:cj)(σ:ar)(o:Oper)(t:TypeId)(x i:Operand)(ok:Bool)(k:ar->Option β):Option β:=match T t with
 |some ⟨.map f e,_,_,_⟩=>match T f,T e with
  |some a,some b=>if qf a.desc then(match bD G σ.au i with
   | .d c=>match bD G σ.au x with
    | .d m=>af (jA m) λes=>hi σ o.dst k (gU a.desc b.zero ok es c)| .map key=>match σ.objs key with|some (.map es)=>hi σ o.dst k (gU a.desc b.zero ok es c)|_=>none
    |_=>none
   |_=>none)else none
  |_,_=>none
 |_=>none
def Cw(T:bC)(G:cj)(σ:ar)(o:Oper)(t:TypeId)(m i x:Operand)(k:ar->Option β):Option β:=match T t with
 |some ⟨.map b _,_,_,_⟩=>match T b with
  |some a=>if qf a.desc then(match bD G σ.au m,bD G σ.au i,bD G σ.au x with
   | .map key,.d c,.d v=>match σ.objs key with|some (.map es)=>af (lU a.desc es c v) λl=>jB T σ o.dst k .any [(key,.map l)]|_=>none
   |_,_,_=>none)else none
  |none=>none
 |_=>none
def Ii(T:bC)(G:cj)(σ:ar)(o:Oper)(t:TypeId)(a x:Operand)(k:ar->Option β):Option β:=match T t with
 |some i=>uo i.size (bD G σ.au x) λcs=>if cs.length=i.size then(match bD G σ.au a with
  | .ptr key off=>match σ.objs key with
   |some (.box cells)=>if off+cs.length<=cells.length then jB T σ o.dst k .any [(key,.box (kl cells off cs))]else none
   |_=>none
  | .ey key b cN off=>match σ.objs key,iw cs with
   |some (.row d es),some c=>if b=d/\off+c.length<=b then af es[cN]? λe=>jB T σ o.dst k .any [(key,.row b (es.set cN (dS e off c)))]else none
   |_,_=>none
  |_=>none)else none
 |none=>none
def Ij(T:bC)(G:cj)(σ:ar)(o:Oper)(t:TypeId)(parts:Array (Nat×Operand))(k:ar->Option β):Option β:=match Hu T t with|some (pl,z)=>Ct pl (zeroCells z) (parts.toList.map λp=>(p.1,bD G σ.au p.2)) λout=>k (σ.put o.dst (tP out))|none=>none
def Ik(T:bC)(G:cj)(σ:ar)(o:Oper)(t:TypeId)(n:Nat)(parts:Array (Nat×Operand))(k:ar->Option β):Option β:=match T t,σ.objs (o.dst.getD 9999)with
 |some ⟨.slice e,_,_,_⟩,none=>match T e with
  |some a=>Cu a.size 0 (parts.toList.map λp=>(p.1,bD G σ.au p.2)) λes=>if es.length=n/\0<a.size/\n*a.size<=16777216 then jB T σ o.dst k (.row (o.dst.getD 9999)) [(o.dst.getD 9999,.row a.size es)]else none
  |none=>none
 |_,_=>none
def Il(T:bC)(G:cj)(σ:ar)(o:Oper)(t:TypeId)(l c:Operand)(k:ar->Option β):Option β:=match T t,σ.objs (o.dst.getD 9999)with
 |some ⟨.slice e,_,_,_⟩,none=>match T e with
  |some a=>match bD G σ.au l,bD G σ.au c with
   | .d l,.d c=>if a.zero.cells.toList.all hA then af (e5 a.bytes l c) λn=>jB T σ o.dst k (.row (o.dst.getD 9999)) [(o.dst.getD 9999,.row a.size (List.replicate n (a.zero.cells.toList.map .val)))]else none
   |_,_=>none
  |none=>none
 |_,_=>none
def Im(T:bC)(G:cj)(σ:ar)(o:Oper)(s t:TypeId)(x:Operand)(k:ar->Option β):Option β:=match T s,T t,bD G σ.au x with
 |some _,some ⟨.int i,_,_,_⟩,.d a=>hi σ o.dst k (j4 i a)
 |some ⟨.slice e,_,_,_⟩,some ⟨.string,_,_,_⟩,y=>match T e with
  |some ⟨.int .u8,_,_,_⟩=>match y with
   | .d a=>hi σ o.dst k (Og a)| .row key=>match σ.objs key with|some (.row 1 es)=>hi σ o.dst k (um es)|_=>kS T G σ o k
   | .sub key 1 i len=>match σ.objs key with|some (.row 1 es)=>bF (decide (i+len<=es.length)) (hi σ o.dst k (um ((es.drop i).take len)))|_=>kS T G σ o k
   |_=>kS T G σ o k
  |_=>kS T G σ o k
 |some _,some ⟨.string,_,_,_⟩,.d a=>hi σ o.dst k (Of a)|_,_,_=>kS T G σ o k
def Cx(T:bC)(G:cj)(σ:ar)(o:Oper)(ed:Bool)(args:List Operand)(k:ar->Option β):Option β:=match iw (args.map (bD G σ.au))with|some a=>hi σ o.dst k (hZ ed a)|none=>none
def eY:az->az->Option (D×D)
 | .d a,.d b=>some (a,b)|_,_=>none
theorem ZB{x y:az}{p:D×D}(h:eY x y=some p):x= .d p.1/\y= .d p.2:=by unfold eY at h;split at h<;>cases h;exact⟨rfl,rfl⟩
def Oo{T:bC}{ev:Operand->az}{c a b:Operand}{t:Bool}(e:ev c= .d (.val (.bool t)))(h:eY (ev a) (ev b)=none):dk T ev (.pick c a b)=some (if t then ev a else ev b):=by
 simp only[dk,e];generalize ev a=x at*;generalize ev b=y at*;split;.cases h
 rfl
def nZ(T:bC)(G:cj)(σ:ar)(o:Oper)(k:ar->Option β):Option β:=match o.op with
 | .binOp op t x y _=>H6 T G σ o op t x y k| .unOp op _ x=>match bD G σ.au x with| .d a=>hi σ o.dst k (cd op a)|_=>none
 | .convert s t x=>Im T G σ o s t x k
 | .pick c a b=>match bD G σ.au c with
  | .d c=>match eY (bD G σ.au a) (bD G σ.au b)with|some p=>hi σ o.dst k (en c p.1 p.2)|none=>a6 c (k (σ.put o.dst (bD G σ.au a))) (k (σ.put o.dst (bD G σ.au b)))
  |_=>none
 | .field s x f=>H7 T G σ o s x f k| .extract x i=>match bD G σ.au x with| .d a=>hi σ o.dst k (eJ i a)|_=>kS T G σ o k
 | .index t x i=>match T t with
  |some ⟨.string,_,_,_⟩=>match bD G σ.au x,bD G σ.au i with| .d a,.d b=>hi σ o.dst k (mN a b)|_,_=>none
  |some ⟨.array len e,_,_,_⟩=>match T e with
   |some h=>match bD G σ.au x,bD G σ.au i with| .d a,.d b=>af (cI len b) λn=>hi σ o.dst k (jk (o2 h.desc) h.size (n*h.size) a)|_,_=>none
   |none=>none
  |_=>none
 | .load t a=>H8 T G σ o t a k| .indexAddr t x cN=>H9 T G σ o t x cN k| .slice t x lo ag none=>Ia T G σ o t x lo ag k| .lookup t x i ok=>Ih T G σ o t x i ok k| .mapUpdate t m i x=>Cw T G σ o t m i x k| .insert t m i x=>Cw T G σ o t m i x k| .store t a x=>Ii T G σ o t a x k| .build t parts=>Ij T G σ o t parts k| .buildSlice t n parts=>Ik T G σ o t n parts k| .makeSlice t l c=>Il T G σ o t l c k| .box t x=>match T t,σ.objs (o.dst.getD 9999)with|some i,none=>uo i.size (bD G σ.au x) λcs=>jB T σ o.dst k (.ptr (o.dst.getD 9999) 0) [(o.dst.getD 9999,.box cs)]|_,_=>none
 | .call ⟨.builtin .len,args,g⟩=>Ib T G σ o args.toList g.toList k| .call ⟨.builtin .append,args,g⟩=>Ic T G σ o args.toList g.toList k| .call ⟨.builtin .copy,args,g⟩=>Ie T G σ o args.toList g.toList k| .call ⟨.builtin .clear,args,g⟩=>Ig T G σ o args.toList g.toList k| .call ⟨.builtin .max,args,_⟩=>Cx T G σ o true args.toList k| .call ⟨.builtin .min,args,_⟩=>Cx T G σ o false args.toList k|_=>kS T G σ o k
variable{T:bC}{G:cj}{σ:ar}{o:Oper}{k:ar->Option β}{b:β}
def l0(h:kS T G σ o k=some b):∃a,eN T G σ o=some a/\k a=some b:=by
 unfold kS at h;split at h;.exact⟨_,by assumption,h⟩
 cases h
def jC{r:az}(h:dk T (bD G σ.au) o.op=some r)(c:k (σ.put o.dst r)=some b):∃a,eN T G σ o=some a/\k a=some b:=⟨_,by unfold eN;rw[h],c⟩
def iI{r:az}(ak:dk T (bD G σ.au) o.op=none)(h:cM T (bD G σ.au) σ.objs o.op=some r)(c:k (σ.put o.dst r)=some b):∃a,eN T G σ o=some a/\k a=some b:=⟨_,by unfold eN;rw[ak,h],c⟩
def mO{r:az}{a:List (Key×b6)}(ak:dk T (bD G σ.au) o.op=none)(ab:cM T (bD G σ.au) σ.objs o.op=none)(h:c7 T (bD G σ.au) σ.objs (o.dst.getD 9999) o.op=some (r,a)) (d:jB T σ o.dst k r a=some b):∃c,eN T G σ o=some c/\k c=some b:=⟨_,by unfold eN;rw[ak,ab];unfold e4;rw[h];rfl,by unfold jB at d;exact d⟩
def ZC{op:BinOp}{t:TypeId}{x y:Operand}{u:TypeId}(j:o.op= .binOp op t x y u)(h:H6 T G σ o op t x y k=some b):∃m,eN T G σ o=some m/\k m=some b:=by
 unfold H6 at h;split at h
 .rename_i a c g i;split at h
  .rename_i aj;obtain⟨v,ab,ae⟩:=cR h;have e:∀{d},jy d=true->d= .val (.slice none 0 0):=by
    intro d p;unfold jy at p;split at p;.rfl
    cases p
   unfold On at aj;split at aj
   case h_2=>cases aj
   rename_i w z A B s;have q:c= .val (.slice none 0 0)->dk T (bD G σ.au) o.op=none:=by intro n;subst n;rw[j];simp only[dk,g,i,qd]
   unfold Cq at ab;split at ab
   .split at ab
    case isFalse=>cases ab
    rename_i f;have f:=e f;subst f;refine iI (r:= .d v) (q rfl) ?_ ae;rw[j];simp only[cM,s,i,qg,xaD,g,jw];split at ab<;>cases ab<;>simp
   .split at ab
    case isFalse=>cases ab
    rename_i f;have f:=e f;subst f;refine iI (r:= .d v) (q rfl) ?_ ae;rw[j];simp only[cM,s,i,qg,xaD,g,jw];split at ab<;>cases ab<;>simp
   cases ab
  split at h;.rename_i l ah;obtain⟨v,ab,ae⟩:=cR h;exact jC (by rw[j];simp only[dk,g,i];exact ZA ah ab) ae
  obtain⟨v,ab,ae⟩:=cR h;exact jC (by rw[j];simp only[dk,g,i];exact Zz ab) ae
 exact l0 h
def Cy{i:gj}{off:Nat}{cs:lZ}{v:D}(h:aR (o2 i.desc) i.size off cs=some v):nM i cs off=some (.d v):=by
 unfold aR at h;unfold nM;cases a:o2 i.desc with
 |true=>
  simp only[a]at h;simp only[xaD];split at h;.rename_i c;rw[xac c];cases h;rfl
  cases h
 |false=>simp only[a]at h;simp[h]
def ZD{s:TypeId}{x:Operand}{f:Nat}(g:o.op= .field s x f)(h:H7 T G σ o s x f k=some b):∃c,eN T G σ o=some c/\k c=some b:=by
 unfold H7 at h;split at h
 case h_2=>cases h
 rename_i off i e;split at h
 .rename_i a d;obtain⟨v,ab,ae⟩:=cR h;unfold jk at ab;split at ab
  case h_2=>cases ab
  exact jC (by rw[g];simp only[dk,e,d];exact Cy ab) ae
 exact l0 h
def ZE{t:TypeId}{a:Operand}(d:o.op= .load t a)(h:H8 T G σ o t a k=some b):∃c,eN T G σ o=some c/\k c=some b:=by
 unfold H8 at h;split at h
 case h_2=>cases h
 rename_i i ag;split at h;.rename_i cs off f;obtain⟨v,ab,ae⟩:=cR h;exact iI (by rw[d];rfl) (by rw[d];simp only[cM,ag,f];exact Cy ab) ae
 .rename_i key n cN off f;split at h
  case h_2=>cases h
  rename_i m es l;split at h
  case isFalse=>cases h
  rename_i g;obtain⟨e,ab,ae⟩:=cR h;obtain⟨v,ai,j⟩:=cR ae;exact iI (by rw[d];rfl) (by rw[d];simp only[cM,ag,f,l,g,xaD,ab];exact Cy ai) j
 exact l0 h
def Io{n m:Nat}{i:D}(h:cI n i=some m):∃c j,i= .val (.int c j)/\0<=j/\j<n/\m=j.toNat:=by
 unfold cI at h;split at h
 case h_2=>cases h
 split at h
 case isFalse=>cases h
 rename_i a;cases h;exact⟨_,_,rfl,a.1,a.2,rfl⟩
def ZF{t:TypeId}{x cN:Operand}(f:o.op= .indexAddr t x cN)(h:H9 T G σ o t x cN k=some b):∃p,eN T G σ o=some p/\k p=some b:=by
 unfold H9 at h;split at h
 .rename_i e s1 s2 A m;split at h
  case h_2=>cases h
  rename_i y l;split at h
  case h_2=>cases h
  rename_i i ag;split at h
  .rename_i a g;obtain⟨c,ab,ae⟩:=cR h;unfold bc at ab;split at ab
   case h_2=>cases ab
   split at ab
   case isFalse=>cases ab
   rename_i u;split at ab
   case h_2=>cases ab
   split at ab
   case isFalse=>cases ab
   rename_i q;exact iI (by rw[f];rfl) (by rw[f];simp only[cM,m,ag,l,g,u,q,xaD,ab]) ae
  .rename_i key g;split at h
   case h_2=>cases h
   rename_i z es q;split at h
   case isFalse=>cases h
   rename_i d;obtain⟨n,ab,ae⟩:=cR h;obtain⟨s,j,rfl,g1,g2,rfl⟩:=Io ab;exact iI (by rw[f];rfl) (by rw[f];simp only[cM,m,ag,l,g,g1,xaD,q,d,g2,and_self]) (d▸ae)
  .rename_i key z i0 len g;split at h
   case isFalse=>cases h
   rename_i d;obtain⟨n,ab,ae⟩:=cR h;obtain⟨s,j,rfl,g1,g2,rfl⟩:=Io ab;exact iI (by rw[f];rfl) (by rw[f];simp only[cM,m,ag,l,g,g1,xaD,d,g2,and_self]) (d▸ae)
  cases h
 .rename_i len e s1 s2 A m;split at h
  case h_2=>cases h
  rename_i y l;split at h
  case h_2=>cases h
  rename_i i ag;obtain⟨n,ab,ae⟩:=cR h;obtain⟨s,j,rfl,g1,g2,rfl⟩:=Io ab;split at ae
  case h_2=>cases ae
  rename_i r w;exact iI (by rw[f];rfl) (by rw[f];simp only[cM,m,ag,l,g1,g2,and_self,xaD];exact w) ae
 cases h
def ZG{t:TypeId}{x:Operand}{lo ag:Option Operand}(j:o.op= .slice t x lo ag none)(h:Ia T G σ o t x lo ag k=some b):∃q,eN T G σ o=some q/\k q=some b:=by
 unfold Ia at h;split at h
 case h_2=>cases h
 rename_i l aX ah c;have ah:=Om ah;have c:=Om c;split at h
 .rename_i s1 s2 w f;split at h
  case h_2=>cases h
  rename_i a g;obtain⟨v,ab,ae⟩:=cR h;unfold Oh at ab;split at ab
  case h_2=>cases ab
  split at ab
  case h_2=>cases ab
  rename_i m n;split at ab
  case isFalse=>cases ab
  rename_i d;cases ab;exact jC (by rw[j];simp only[dk,f,g,ah,c,Cr,m,n];rw[xac d]) ae
 .rename_i e s1 s2 w f;split at h
  case h_2=>cases h
  rename_i y r;split at h
  .rename_i a g;obtain⟨v,ab,ae⟩:=cR h;unfold j5 at ab;split at ab
   case h_2=>cases ab
   split at ab
   case h_2=>cases ab
   rename_i m n;split at ab
   case isFalse=>cases ab
   rename_i d;cases ab;exact iI (by rw[j];simp only[dk,f]) (by rw[j];simp only[cM,f,r,g,hB,ah,c,Cr,m,n];rw[xac ⟨d.1,d.2.1⟩,xac d.2.2]) ae
  .rename_i key g;split at h
   case h_2=>cases h
   rename_i u es s;split at h
   case isFalse=>cases h
   rename_i i;obtain⟨p,ab,ae⟩:=cR h;unfold hG at ab;split at ab
   case h_2=>cases ab
   rename_i m n;split at ab
   case isFalse=>cases ab
   rename_i d;cases ab;exact iI (by rw[j];simp only[dk,f]) (by rw[j];simp only[cM,f,r,g,hB,s,ah,c,Cr,m,n];rw[xac d,xac i]) ae
  .rename_i key u i0 len g;split at h
   case isFalse=>cases h
   rename_i i;obtain⟨p,ab,ae⟩:=cR h;unfold hG at ab;split at ab
   case h_2=>cases ab
   rename_i m n;split at ab
   case isFalse=>cases ab
   rename_i d;cases ab;exact iI (by rw[j];simp only[dk,f]) (by rw[j];simp only[cM,f,r,g,hB,ah,c,Cr,m,n];rw[xac d,xac i]) ae
  cases h
 exact l0 h
def ZH{args:Array Operand}{l:Array TypeId}(d:o.op= .call ⟨.builtin .len,args,l⟩)(h:Ib T G σ o args.toList l.toList k=some b):∃m,eN T G σ o=some m/\k m=some b:=by
 unfold Ib at h;split at h
 case h_2=>cases h
 rename_i t x f g;have j:dk T (bD G σ.au) o.op=none:=by rw[d];rfl
 split at h
 .rename_i a i;split at h;.rename_i s1 s2 n c;obtain⟨v,ab,ae⟩:=cR h;unfold lk at ab;split at ab<;>cases ab;exact iI j (by rw[d];simp only[cM,f,g,c,i]) ae
  .rename_i e s1 s2 n c;obtain⟨v,ab,ae⟩:=cR h;unfold dL at ab;split at ab<;>cases ab;.exact iI j (by rw[d];simp only[cM,f,g,c,i,hB]) ae
   exact iI j (by rw[d];simp only[cM,f,g,c,i,hB]) ae
  .rename_i p q s1 s2 n c;obtain⟨v,ab,ae⟩:=cR h;unfold Oi at ab;split at ab<;>cases ab;.exact iI j (by rw[d];simp only[cM,f,g,c,i]) ae
   exact iI j (by rw[d];simp only[cM,f,g,c,i]) ae
  cases h
 exact l0 h
theorem Oq{a:D}{p:Nat×mW}(h:jz a=some p)(objs:bP):jg objs (.d a)=some p:=by unfold jz at h;split at h<;>cases h<;>rfl
def ZI{args:Array Operand}{q:Array TypeId}(r:o.op= .call ⟨.builtin .append,args,q⟩)(h:Ic T G σ o args.toList q.toList k=some b):∃c,eN T G σ o=some c/\k c=some b:=by
 unfold Ic at h;split at h
 case h_2=>cases h
 rename_i t t' s x y z;split at h
 case h_2=>cases h
 rename_i e s1 s2 O M J K L E n A;split at h
 case h_2=>cases h
 rename_i l B;have u:dk T (bD G σ.au) o.op=none:=by rw[r];rfl
 have C:cM T (bD G σ.au) σ.objs o.op=none:=by rw[r];rfl
 have key:∀p:Nat×mW,jg σ.objs (bD G σ.au x)=some p->bF (decide (p.1=l.size\/p.2=[])&&decide (0<l.size)) (match bD G σ.au s with
     | .d a=>bF (jy a&&b1 p.2.length l.bytes) (jB T σ o.dst k (.row (o.dst.getD 9999)) [(o.dst.getD 9999,.row l.size p.2)])
     | .row key=>match σ.objs key with
      |some (.row m es)=>if m=l.size/\key<10000 then bF (b1 (es.length+p.2.length) l.bytes) (jB T σ o.dst k (.row (o.dst.getD 9999)) [(key,.dead),(o.dst.getD 9999,.row m (es++p.2))])else none
      |_=>none
     |_=>none)=some b->∃c,eN T G σ o=some c/\k c=some b:=by
  rintro⟨N,P⟩ f h;obtain⟨ak,h⟩:=hE h;simp only[xan,xaC]at ak;split at h
  .rename_i a j;obtain⟨ab,h⟩:=hE h;simp only[xan,b1,xaC]at ab;have H:a= .val (.slice none 0 0):=by
    have:=ab.1;unfold jy at this;split at this;.rfl
    cases this
   have ae:=ab.2;clear ab;refine mO u C ?_ h;rw[r];simp only[c7,y,z,E,n,A,B,f,j,H];rw[xac ak,xac ae]
  .rename_i key j;split at h
   case h_2=>cases h
   rename_i m es w;split at h
   case isFalse=>cases h
   rename_i g;obtain⟨ab,h⟩:=hE h;simp only[xan,b1,xaC]at ab;refine mO u C ?_ h;rw[r];simp only[c7,y,z,E,n,A,B,f,j,w];rw[xac ak,xac ⟨g.1,ab.1,ab.2,g.2⟩]
  .cases h
 simp only at h;split at h;.rename_i a j;obtain⟨p,ab,ae⟩:=cR h;exact key p (by rw[j];exact Oq ab _) ae
 .rename_i F m i len j;split at h
  case h_2=>cases h
  rename_i I es w;split at h
  case isFalse=>cases h
  rename_i g;obtain⟨ab,ae⟩:=hE h;have f:jg σ.objs (bD G σ.au x)=some (m,(es.drop i).take len):=by rw[j];simp only[jg,w];rw[xac ⟨g,xbb ab⟩]
  exact key (m,(es.drop i).take len) f ae
 split at h
 case h_2=>cases h
 rename_i p u;exact key p u h
def ZJ{args:Array Operand}{c:Array TypeId}(f:o.op= .call ⟨.builtin .clear,args,c⟩)(h:Ig T G σ o args.toList c.toList k=some b):∃d,eN T G σ o=some d/\k d=some b:=by
 unfold Ig at h;split at h
 case h_2=>cases h
 rename_i t s g j;split at h
 case h_2=>cases h
 rename_i e s1 s2 y r;split at h
 case h_2=>cases h
 rename_i w m;have q:dk T (bD G σ.au) o.op=none:=by rw[f];rfl
 have p:cM T (bD G σ.au) σ.objs o.op=none:=by rw[f];rfl
 split at h
 case h_2=>cases h
 rename_i key x i len l;split at h
 case h_2=>cases h
 rename_i u es n;split at h
 case isFalse=>cases h
 rename_i a;obtain⟨ak,h⟩:=hE h;simp only[xaC]at ak;refine mO q p ?_ h;rw[f];simp only[c7,g,j,r,m,l,n];rw[xac ⟨a.1,a.2.1,ak,a.2.2⟩]
def ZK{args:Array Operand}{q:Array TypeId}(r:o.op= .call ⟨.builtin .copy,args,q⟩)(h:Ie T G σ o args.toList q.toList k=some b):∃g,eN T G σ o=some g/\k g=some b:=by
 unfold Ie at h;split at h
 case h_2=>cases h
 rename_i t t' s x y z;split at h
 case h_2=>cases h
 rename_i e s1 s2 H C;split at h
 case h_2=>cases h
 rename_i w A;have u:dk T (bD G σ.au) o.op=none:=by rw[r];rfl
 have B:cM T (bD G σ.au) σ.objs o.op=none:=by rw[r];rfl
 have key:∀p:Nat×mW,jg σ.objs (bD G σ.au x)=some p->bF (decide (p.1=w.size\/p.2=[])) (match bD G σ.au s with
     | .row key=>match σ.objs key with
      |some (.row f es)=>if f=w.size then jB T σ o.dst k (.d (.val (.int .i64 (min p.2.length es.length:Nat)))) [(key,.row f (p.2.take (min p.2.length es.length)++es.drop (min p.2.length es.length)))]else none
      |_=>none
     | .sub key f i len=>match σ.objs key with
      |some (.row m es)=>if f=w.size/\m=f then bF (decide (i+len<=es.length)) (jB T σ o.dst k (.d (.val (.int .i64 (min p.2.length len:Nat)))) [(key,.row f (es.take i++p.2.take (min p.2.length len)++es.drop (i+min p.2.length len)))])else none
      |_=>none
     |_=>none)=some b->∃g,eN T G σ o=some g/\k g=some b:=by
  rintro⟨F,I⟩ j h;obtain⟨ak,h⟩:=hE h;simp only[xaC]at ak;split at h
  .rename_i key l;split at h
   case h_2=>cases h
   rename_i f es n;split at h
   case isFalse=>cases h
   rename_i c;refine mO u B ?_ h;rw[r];simp only[c7,y,z,C,A,j,l,n];rw[xac ak,xac c]
  .rename_i key f i len l;split at h
   case h_2=>cases h
   rename_i m es n;split at h
   case isFalse=>cases h
   rename_i c;obtain⟨ab,h⟩:=hE h;simp only[xaC]at ab;refine mO u B ?_ h;rw[r];simp only[c7,y,z,C,A,j,l,n];rw[xac ak,xac ⟨c.1,c.2,ab⟩]
  .cases h
 simp only at h;split at h;.rename_i a l;obtain⟨p,ab,ae⟩:=cR h;exact key p (by rw[l];exact Oq ab _) ae
 .rename_i E f i len l;split at h
  case h_2=>cases h
  rename_i m es n;split at h
  case isFalse=>cases h
  rename_i c;obtain⟨ab,ae⟩:=hE h;have j:jg σ.objs (bD G σ.au x)=some (f,(es.drop i).take len):=by rw[l];simp only[jg,n];rw[xac ⟨c,xbb ab⟩]
  exact key (f,(es.drop i).take len) j ae
 split at h
 case h_2=>cases h
 rename_i p u;exact key p u h
def Ot{c f:gj}{t g e:TypeId}{s1 s2:Nat}{m:Value}(l:T t=some ⟨.map g e,s1,s2,m⟩)(ab:T g=some c)(ae:T e=some f)(j:qf c.desc=true){ok:Bool}{es:List (Value×D)}{i v:D} (h:gU c.desc f.zero ok es i=some v):∃u,i= .val u/\rQ T t es u ok=some (.d v):=by
 unfold gU at h;split at h
 case h_2=>cases h
 rename_i u;refine⟨u,rfl,?_⟩;unfold rQ;simp only[l,ab,ae,j,xaD];split at h;.rename_i x a;cases h;simp only[a]
 .rename_i a;cases h;simp only[a]
 cases h
def ZL{t:TypeId}{x i:Operand}{ok:Bool}(d:o.op= .lookup t x i ok)(h:Ih T G σ o t x i ok k=some b):∃c,eN T G σ o=some c/\k c=some b:=by
 unfold Ih at h;split at h
 case h_2=>cases h
 rename_i q l s1 s2 s j;split at h
 case h_2=>cases h
 rename_i p n ab ae;split at h
 case isFalse=>cases h
 rename_i g;split at h
 case h_2=>cases h
 rename_i r a;split at h;.rename_i m f;obtain⟨es,g1,g2⟩:=cR h;obtain⟨v,g3,g4⟩:=cR g2;obtain⟨u,rfl,g5⟩:=Ot j ab ae g g3;refine iI (by rw[d];rfl) ?_ g4;rw[d];simp only[cM,a,f];unfold jA at g1;split at g1<;>cases g1<;>exact g5
 .rename_i key f;split at h
  case h_2=>cases h
  rename_i es e;obtain⟨v,g3,g4⟩:=cR h;obtain⟨u,rfl,g5⟩:=Ot j ab ae g g3;refine iI (by rw[d];rfl) ?_ g4;rw[d];simp only[cM,a,f,e,g5]
 cases h
def Ou{t:TypeId}{m i x:Operand}(a:o.op= .mapUpdate t m i x\/o.op= .insert t m i x)(h:Cw T G σ o t m i x k=some b):∃c,eN T G σ o=some c/\k c=some b:=by
 unfold Cw at h;split at h
 case h_2=>cases h
 rename_i r p s1 s2 u n;split at h
 case h_2=>cases h
 rename_i q ab;split at h
 case isFalse=>cases h
 rename_i j;split at h
 case h_2=>cases h
 rename_i key s v e f g;split at h
 case h_2=>cases h
 rename_i es d;obtain⟨l,g1,g2⟩:=cR h;unfold lU at g1;split at g1
 case h_2=>cases g1
 rcases a with a|a<;>
 .refine mO (by rw[a];rfl) (by rw[a];rfl) ?_ g2;rw[a];simp only[c7,n,ab,j,xaD,e,f,g,d,g1]
def ZM{t:TypeId}{a x:Operand}(c:o.op= .store t a x)(h:Ii T G σ o t a x k=some b):∃d,eN T G σ o=some d/\k d=some b:=by
 unfold Ii at h;split at h
 case h_2=>cases h
 rename_i i ag;obtain⟨cs,ab,ae⟩:=Cs h;split at ae
 case isFalse=>cases ae
 rename_i ah;split at ae
 .rename_i key off f;split at ae
  case h_2=>cases ae
  rename_i cells l;split at ae
  case isFalse=>cases ae
  rename_i g;refine mO (by rw[c];rfl) (by rw[c];rfl) ?_ ae;rw[c];simp only[c7,ag,ab,f,l];rw[xac ah,xac g]
 .rename_i key p cN off f;split at ae
  case h_2=>cases ae
  rename_i n es m l j;split at ae
  case isFalse=>cases ae
  rename_i g;obtain⟨e,g1,g2⟩:=cR ae;refine mO (by rw[c];rfl) (by rw[c];rfl) ?_ g2;rw[c];simp only[c7,ag,ab,f,l,j,g1];rw[xac ah,xac g]
 cases ae
def ZN{t:TypeId}{parts:Array (Nat×Operand)}(d:o.op= .build t parts)(h:Ij T G σ o t parts k=some b):∃a,eN T G σ o=some a/\k a=some b:=by
 unfold Ij at h;split at h
 case h_2=>cases h
 rename_i pl z c;obtain⟨cs,ab,ae⟩:=Oj h;exact jC (by rw[d];simp only[dk,BR,c,ab]) ae
def ZO{t:TypeId}{n:Nat}{parts:Array (Nat×Operand)}(c:o.op= .buildSlice t n parts)(h:Ik T G σ o t n parts k=some b):∃a,eN T G σ o=some a/\k a=some b:=by
 unfold Ik at h;split at h
 case h_2=>cases h
 rename_i e s1 s2 l i f;split at h
 case h_2=>cases h
 rename_i j g;obtain⟨es,ab,ae⟩:=Ol h;split at ae
 case isFalse=>cases ae
 rename_i d;refine mO (by rw[c];rfl) (by rw[c];rfl) ?_ ae;rw[c];simp only[c7,i,f,g,ab];rw[xac d]
def ZP{t:TypeId}{l c:Operand}(f:o.op= .makeSlice t l c)(h:Il T G σ o t l c k=some b):∃d,eN T G σ o=some d/\k d=some b:=by
 unfold Il at h;split at h
 case h_2=>cases h
 rename_i e s1 s2 u m i;split at h
 case h_2=>cases h
 rename_i r j;split at h
 case h_2=>cases h
 rename_i s q ah g;split at h
 case isFalse=>cases h
 rename_i p;obtain⟨n,ab,ae⟩:=cR h;unfold e5 at ab;split at ab
 case h_2=>cases ab
 split at ab
 case isFalse=>cases ab
 rename_i a;cases ab;refine mO (by rw[f];rfl) (by rw[f];rfl) ?_ ae;rw[f];simp only[c7,m,i,j,ah,g];rw[xac ⟨a.1,a.2.1,a.2.2.1,a.2.2.2,p⟩]
def ZQ{s t:TypeId}{x:Operand}(l:o.op= .convert s t x)(h:Im T G σ o s t x k=some b):∃f,eN T G σ o=some f/\k f=some b:=by
 unfold Im at h;split at h;.rename_i q i s1 s2 u a aj g c;obtain⟨v,ab,ae⟩:=cR h;unfold j4 at ab;split at ab<;>cases ab;exact jC (by rw[l];simp only[dk,aj,g,c]) ae
 .rename_i e _ _ _ _ _ _ y aj g;split at h
  case h_2=>exact l0 h
  rename_i r;have fin:∀{es:mW},lN σ.objs (bD G σ.au x)=some es->dk T (bD G σ.au) (.convert s t x)=none->∀{v:D},um es=some v->k (σ.put o.dst (.d v))=some b->∃f,eN T G σ o=some f/\k f=some b:=by
   intro es ab ak v m j;unfold um at m;split at m
   case h_2=>cases m
   rename_i w n;cases m;exact iI (by rw[l];exact ak) (by rw[l];simp only[cM,aj,g,r,ab,n]) j
  split at h
  .rename_i a c;obtain⟨v,ab,ae⟩:=cR h;unfold Og at ab;split at ab;.exact fin (by rw[c];rfl) (by simp only[dk,aj,g,c]) ab ae
   .exact fin (by rw[c];rfl) (by simp only[dk,aj,g,c]) ab ae
   cases ab
  .rename_i key c;split at h
   case h_2=>exact l0 h
   rename_i es j;obtain⟨v,ab,ae⟩:=cR h;exact fin (by rw[c];simp only[lN,j]) (by simp only[dk,aj,g,c]) ab ae
  .rename_i key i len c;split at h
   case h_2=>exact l0 h
   rename_i es j;obtain⟨p,h⟩:=hE h;obtain⟨v,ab,ae⟩:=cR h;exact fin (by rw[c];simp only[lN,j];rw[xac (xbb p)]) (by simp only[dk,aj,g,c]) ab ae
  exact l0 h
 .rename_i q s1 s2 u a aj g c;obtain⟨v,ab,ae⟩:=cR h;unfold Of at ab;split at ab<;>cases ab;exact jC (by rw[l];simp only[dk,aj,g,c]) ae
 exact l0 h
def r4(h:nZ T G σ o k=some b):∃m,eN T G σ o=some m/\k m=some b:=by
 unfold nZ at h;split at h;.exact ZC aZ h
 .rename_i f;split at h
  .rename_i a g;obtain⟨v,ab,ae⟩:=cR h;unfold cd at ab;split at ab<;>cases ab;.exact jC (by rw[f];simp only[dk,g]) ae
   exact jC (by rw[f];simp only[dk,g]) ae
  cases h
 .exact ZQ aZ h
 .rename_i c x y f;split at h
  case h_2=>cases h
  rename_i F j;split at h
  .rename_i p q;obtain⟨g,B⟩:=ZB q;obtain⟨v,ab,ae⟩:=cR h;unfold en at ab;split at ab<;>cases ab;rename_i t;refine jC ?_ ae;rw[f];simp only[dk,j,g,B];split;.rename_i w z;simp only[az.d.injEq]at w z;rw[w,z];cases t<;>rfl
   cases t<;>rfl
  rename_i q;rcases Co h with⟨rfl,ab⟩|⟨rfl,ab⟩
  .exact jC (by rw[f];exact Oo j q) ab
  exact jC (by rw[f];exact Oo j q) ab
 .exact ZD aZ h
 .rename_i x i f;split at h
  .rename_i a g;obtain⟨v,ab,ae⟩:=cR h;unfold eJ at ab;split at ab
   case h_2=>cases ab
   exact jC (by rw[f];simp only[dk,g,ab]) ae
  exact l0 h
 .rename_i t x i f;split at h
  .rename_i s1 s2 E s;split at h
   case h_2=>cases h
   rename_i a c g j;obtain⟨v,ab,ae⟩:=cR h;unfold mN at ab;split at ab
   case h_2=>cases ab
   exact jC (by rw[f];simp only[dk,s,g,j];exact r3 ab) ae
  .rename_i len e s1 s2 E s;split at h
   case h_2=>cases h
   rename_i H r;split at h
   case h_2=>cases h
   rename_i a c g j;obtain⟨n,g1,h⟩:=cR h;obtain⟨v,ab,ae⟩:=cR h;unfold cI at g1;split at g1
   case h_2=>cases g1
   split at g1
   case isFalse=>cases g1
   rename_i D;cases g1;unfold jk at ab;split at ab
   case h_2=>cases ab
   exact jC (by rw[f];simp only[dk,s,g,j];rw[xac D];simp only[r];exact Cy ab) ae
  cases h
 .exact ZE aZ h
 .exact ZF aZ h
 .exact ZG aZ h
 .exact ZL aZ h
 .rename_i f;exact Ou (.inl f) h
 .rename_i f;exact Ou (.inr f) h
 .exact ZM aZ h
 .exact ZN aZ h
 .exact ZO aZ h
 .exact ZP aZ h
 .rename_i t x f;split at h
  case h_2=>cases h
  rename_i i ag C;obtain⟨cs,ab,ae⟩:=Cs h;exact mO (by rw[f];rfl) (by rw[f];rfl) (by rw[f];simp only[c7,ab,C]) ae
 .exact ZH aZ h
 .exact ZI aZ h
 .exact ZK aZ h
 .exact ZJ aZ h
 .rename_i args u f;unfold Cx at h;split at h
  case h_2=>cases h
  rename_i A l;obtain⟨v,ab,ae⟩:=cR h;exact jC (by rw[f];simp only[dk,tO l];exact r3 ab) ae
 .rename_i args u f;unfold Cx at h;split at h
  case h_2=>cases h
  rename_i A l;obtain⟨v,ab,ae⟩:=cR h;exact jC (by rw[f];simp only[dk,tO l];exact r3 ab) ae
 exact l0 h
end
section
variable{β:Type}
abbrev h0:=Tmp->FuncId->lZ->oX
def x4(G:cj)(C:h0)(σ:ar)(o:Oper)(x:Operand)(args:List Operand)(k:ar->Option β):Option β:=match qm (bD G σ.au x)with
 |some (f,pre,post)=>match fk ((pre++args.map (bD G σ.au)++post).map (toD σ.objs))with|some a=>af (C (o.dst.getD 9999) f a) λr=>bF ((pre++args.map (bD G σ.au)++post).all nU||r.flat) (k (σ.put o.dst (.d r)))|none=>none
 |none=>none
def Ov:D->Option (FuncId×lZ)
 | .fn (.func f) [] c=>some (f,c)| .val (.func (.func f) a b)=>if a.size=0/\b.size=0 then some (f,[])else none
 |_=>none
def Cz(f:FuncId)(a:lZ):List (FuncId×(lZ->oX))->oX
 |[]=>none|(g,F)::r=>if f=g then F a else Cz f a r
def kT(l:List (FuncId×(lZ->oX)))(v:D)(a:lZ):oX:=af (Ov v) λp=>Cz p.1 (a++p.2) l
def Ow(t:Tmp):List (Nat×List FuncId)->List FuncId
 |[]=>[]|(d,l)::r=>if t=d then l else Ow t r
def Ip(l:List FuncId)(G:cj)(C:h0)(σ:ar)(o:Oper)(x:Operand)(args:List Operand)(k:ar->Option β):Option β:=match bD G σ.au x,fk ((args.map (bD G σ.au)).map (toD σ.objs))with| .d v,some a=>af (kT (l.map λg=>(g,C (o.dst.getD 9999) g)) v a) λr=>bF ((args.map (bD G σ.au)).all nU||r.flat) (k (σ.put o.dst (.d r)))|_,_=>none
def r5(T:bC)(G:cj)(C:h0)(σ:ar)(o:Oper)(x:Operand)(args:List Operand)(k:ar->Option β):Option β:=match Ow (o.dst.getD 9999) T.dyn with|[]=>x4 G C σ o x args k|g::l=>Ip (g::l) G C σ o x args k
def mP(T:bC)(G:cj)(C:h0)(σ:ar)(o:Oper)(k:ar->Option β):Option β:=match o.op with| .call ⟨.value x,args,_⟩=>r5 T G C σ o x args.toList k|_=>nZ T G σ o k
def n0(T:bC)(G:cj)(C:h0):List Oper->ar->(ar->Option β)->Option β
 |[],σ,k=>k σ|o::r,σ,k=>mP T G C σ o λa=>n0 T G C r a k
def pf:List Oper->List (Option (Nat×Bool)×List Oper)
 |[]=>[]
 |o::r=>match pf r with
  |(g,os)::rest=>if g=o.guard then(g,o::os)::rest else(o.guard,[o])::(g,os)::rest
  |[]=>[(o.guard,[o])]
def cE(x:D)(want:Bool)(p:oX):oX:=match x with
 | .val (.bool b)=>if b=want then p else some hF
 | .val (.tuple _)=>some hF|_=>none
def r6{a:Type}(x:D)(want:Bool)(p q:Option a):Option a:=match x with
 | .val (.bool b)=>if b=want then p else q
 | .val (.tuple _)=>q|_=>none
def Iq:List Oper->ar->ar
 |[],σ=>σ|o::r,σ=>Iq r (σ.put o.dst (.d hF))
def qu:List Oper->Option Tmp
 |[]=>none|[o]=>o.dst|_::r=>qu r
def dstsOf(os:List Oper):List Tmp:=os.filterMap (·.dst)
def still(o:Oper):Bool:=gm o.op||gE o.op||fl o.op
def qv(ts:List Tmp)(v:D)(σ:ar):ar:=⟨λt=>if t∈ts then .d (ad v (ts.idxOf t))else σ.au t,σ.objs⟩
def x5(σ:ar):List Tmp->oY
 |[]=>some []|t::r=>match σ.au t,x5 σ r with| .d v,some l=>some (v::l)|_,_=>none
def kept(all:Array Oper)(os l:List Oper):List Tmp:=(dstsOf os).filter λt=>l.any λo=>(o.looksAt all).contains t
def Ox{σ:ar}:∀{ts:List Tmp}{l:lZ},x5 σ ts=some l->l.length=ts.length/\∀(i:Nat)(t:Tmp),ts[i]?=some t->∃v,l[i]?=some v/\σ.au t= .d v
 |[],l,h=>by cases h;exact⟨rfl,λi t h=>by simp at h⟩
 |t::r,l,h=>by
  unfold x5 at h;split at h
  case h_2=>cases h
  rename_i v b a ah;cases h;have ih:=Ox ah;refine⟨by simp[ih.1],λi u hu=>?_⟩;cases i with|zero=>simp at hu;subst hu;exact⟨v,rfl,a⟩|succ i=>exact ih.2 i u (by simpa using hu)
def ZR{σ:ar}{ts:List Tmp}{l:lZ}(h:x5 σ ts=some l){t:Tmp}(a:t∈ts):σ.au t= .d (ad (.agg l) (ts.idxOf t)):=by
 have ab:ts[ts.idxOf t]?=some t:=by have:=List.idxOf_lt_length_of_mem a;rw[xaa this,List.getElem_idxOf]
 obtain⟨v,ae,ai⟩:=(Ox h).2 _ t ab;rw[ai]
 congr 1
 show v=l.getD _ _;simp[List.getD,ae]
def iJ(a:List Tmp)(σ:ar):ar:=⟨λt=>if t∈a then .any else σ.au t,σ.objs⟩
def blind(all:Array Oper)(a:List Tmp)(l:List Oper):Bool:=l.all λo=>a.all λd=>!(o.looksAt all).contains d&&o.dst !=some d
def Oy(all:Array Oper)(d br:Tmp)(os l:List Oper):Bool:=os.all (λo=>still o&&o.dst !=some d)&&blind all ((dstsOf os).filter (·!=br)) l
def flat(gs:List (Option (Nat×Bool)×List Oper)):List Oper:=gs.flatMap (·.2)
def qw(T:bC)(G:cj)(C:h0)(all:Array Oper):List (Option (Nat×Bool)×List Oper)->ar->(ar->Option β)->Option β
 |[],σ,k=>k σ|(none,os)::r,σ,k=>n0 T G C os σ λa=>qw T G C all r a k
 |(some (j,want),os)::r,σ,k=>match(all[j]?).bind (·.dst),qu os with
  |some d,some br=>match σ.au d with
   | .d x=>if Oy all d br os (flat r)=true then
     af (cE x want (n0 T G C os σ λa=>match a.au br with| .d v=>some v|_=>none)) λv=>qw T G C all r ((iJ (dstsOf os) σ).put (some br) (.d v)) k
    else if os.all (λo=>o.dst !=some d)=true then r6 x want (n0 T G C os σ λa=>qw T G C all r a k) (qw T G C all r (Iq os σ) k)else none
   |_=>none
  |_,_=>none
def Oz(T:bC)(G:cj)(C:h0)(all:Array Oper)(σ:ar)(k:ar->Option β):Option β:=qw T G C all (pf all.toList) σ k
def OA:Op->Bool
 | .store _ _ _=>true|_=>false
def Ir(all:Array Oper)(listed:Array Bool)(i:Nat):Bool:=match all[i]? with|none=>false|some b=>((waits all i).all λj=>!listed.getD j true&&match all[j]? with|some a=>a.after.any λe=>Region.binds .any e&&(e.on==i||(waits all i).contains e.on)|none=>false)&&(List.range all.size).all λj=>j==i||listed.getD j true||(waits all i).contains j||match all[j]? with|some a=>b.apart all a&&!OA a.op|none=>true
def CA(all:Array Oper)(listed:Array Bool)(i:Nat)(σ:ar)(o:Oper):Bool:=match o.op with
 | .load _ (.tmp a)=>match σ.au a with| .ptr _ _=>Ir all listed i|_=>false
 |_=>false
def qx(all:Array Oper)(listed:Array Bool)(i:Nat):List Oper:=(List.range all.size).filterMap λj=>if j==i||listed.getD j true||(waits all i).contains j then none else all[j]?
def CB(all:Array Oper)(listed:Array Bool)(i:Nat)(au:Nat->az)(o:Oper):Bool:=((waits all i).all λj=>!listed.getD j true&&match all[j]? with|some a=>a.after.any λe=>Region.binds .any e&&(e.on==i||(waits all i).contains e.on)|none=>false)&&(qx all listed i).all λy=>o.apart all y&&nW au o y&&(jj o.op++(qx all listed i).flatMap λy=>nX y.op).all λt=>y.dst !=some t
def uq(T:bC)(G:cj)(C:h0)(all:Array Oper):lX->Array Bool->ar->(ar->Option β)->Option β
 |[],listed,σ,k=>if(Region.ready .any all listed).isEmpty=true then k σ else none
 |i::r,listed,σ,k=>match all[i]? with
  |some o=>if o.guard=none/\(Region.ready .any all listed).contains i=true/\(NJ all listed i||CA all listed i σ o||CB all listed i σ.au o||HQ T all listed i)=true then mP T G C σ o λa=>uq T G C all r (listed.setIfInBounds i true) a k else none
  |none=>none
def fu(P:Program)(G:cj)(C:h0):Prop:=∀d f a r,C d f a=some r->cF P G f a (·=r)
def pg:∀l:List Oper,flat (pf l)=l
 |[]=>rfl
 |o::r=>by
  have ih:=pg r;unfold pf;split;.rename_i g os rest a;rw[a]at ih;split<;>simp_all [flat]
  rename_i a;rw[a]at ih;simp[flat]at ih;subst ih;rfl
def x6:∀(l:List Oper)(g:Option (Nat×Bool)) (os:List Oper),(g,os)∈pf l->∀o∈os,o.guard=g
 |[],g,os,h=>by cases h
 |o::r,g,os,h=>by
  have ih:=x6 r;unfold pf at h;split at h
  .rename_i e c rest b;split at h
   .rename_i d;rcases xam.1 h with ab|ab
    .cases ab;intro q a;rcases xam.1 a with rfl|a
     .exact d.symm
     exact ih g c (by rw[b];simp) q a
    exact ih g os (by rw[b];simp[ab])
   rcases xam.1 h with ab|ab;.cases ab;intro q a;simp at a;subst a;rfl
   exact ih g os (by rw[b];exact ab)
  simp at h;obtain⟨rfl,rfl⟩:=h;intro q a;simp at a;subst a;rfl
variable{P:Program}{T:bC}{G:cj}{C:h0}{σ:ar}{all:Array Oper}
def OB{e:Type}:∀{a b:List (Option e)} {x y:List e},fk a=some x->fk b=some y->fk (a++b)=some (x++y)
 |[],b,x,y,h,d=>by cases h;exact d
 |none::a,b,x,y,h,d=>by cases h
 |some c::a,b,x,y,h,d=>by
  simp only[fk,xbs]at h⊢;split at h
  case h_2=>cases h
  rename_i z ab;cases h;rw[OB ab d];rfl
def OC{objs:bP}:∀(l:lZ),fk ((l.map az.d).map (toD objs))=some l
 |[]=>rfl|c::r=>by have:=OC (objs:=objs) r;have e:toD objs (az.d c)=some c:=rfl;simp only[xaw,e,fk];rw[this]
def OD{f:FuncId}{a:lZ}{C:FuncId->lZ->oX}{r:D}:∀{l:List FuncId},Cz f a (l.map λg=>(g,C g))=some r->C f a=some r
 |[],h=>by cases h
 |g::l,h=>by
  simp only[xaw,Cz]at h;split at h;.rename_i e;rw[e];exact h
  exact OD h
def ZS{l:List FuncId}{o:Oper}{x:Operand}{args:List Operand}{k:ar->Option β}{b:β}(h:Ip l G C σ o x args k=some b):x4 G C σ o x args k=some b:=by
 unfold Ip at h;split at h
 case h_2=>cases h
 rename_i v t q i;obtain⟨r,ab,ae⟩:=cR h;obtain⟨p,ai,m⟩:=cR ab;have n:=OD (C:=C (o.dst.getD 9999)) m;obtain⟨f,a⟩:=p;have g:qm (.d v)=some (f,[],a.map .d):=by
  unfold Ov at ai;split at ai;.cases ai;rfl
  .split at ai;.rename_i j;cases ai;simp only[qm,xac j,xbd]
   cases ai
  cases ai
 unfold x4;rw[q,g];simp only[xaM,List.map_append];rw[OB i (OC a)];simp only;rw[n];obtain⟨g1,g2⟩:=hE ae;have e:((args.map (bD G σ.au))++a.map az.d).all nU=(args.map (bD G σ.au)).all nU:=by
  rw[List.all_append];have:(a.map az.d).all nU=true:=by rw[xay];intro y s;obtain⟨c,_,rfl⟩:=xaK.1 s;rfl
  rw[this,xbA]
 rw[e];exact ae
def ZT{o:Oper}{x:Operand}{args:List Operand}{k:ar->Option β}{b:β}(h:r5 T G C σ o x args k=some b):x4 G C σ o x args k=some b:=by
 unfold r5 at h;split at h;.exact h
 exact ZS h
def CC(q:fu P G C){p:bC}{o:Oper}{x:Operand}{args:Array Operand}{j:Array TypeId}(m:o.op= .call ⟨.value x,args,j⟩){k:ar->Option β}{b:β}(h:r5 p G C σ o x args.toList k=some b):cm P T G o (λa=>k a=some b/\a.objs=σ.objs/\∀t,o.dst≠some t->a.au t=σ.au t) σ:=by
 have i:fl o.op=true:=by rw[m];rfl
 rw[km (o7 i)]
 replace h:=ZT h
 unfold x4 at h;unfold gR;rw[m];simp only;split at h
 case h_2=>cases h
 rename_i f pre post c;simp only[c];split at h
 case h_2=>cases h
 rename_i l g;obtain⟨r,ab,ae⟩:=cR h;obtain⟨ae,ai⟩:=hE ae;refine⟨l,l,(·=r),g,mI.refl _,q _ _ _ _ ab,⟨r,rfl⟩,?_,?_⟩
 .rcases xbx.1 ae with ae|ae;.exact .inr ae
  exact .inl (by rintro _ rfl;exact ae)
 rintro _ rfl;refine⟨ai,by simp,?_⟩;intro t n;cases s:o.dst with|none=>rfl|some d=>rw[s]at n;simp only[ar.put];exact ca _ _ (λe=>n (by rw[e]))
def Is(c:fu P G C){o:Oper}{k:ar->Option β}{b:β}(h:mP T G C σ o k=some b):cm P T G o (λa=>k a=some b) σ:=by
 unfold mP at h;split at h;.exact lf (λ_ h=>h.1) (CC c aZ h)
 obtain⟨a,ab,ae⟩:=r4 h;unfold cm;rw[ab];exact ae
def mQ{dst:Option Tmp}{r:az}{t:Tmp}(a:dst≠some t):(σ.put dst r).au t=σ.au t:=by cases dst with|none=>rfl|some d=>simp only[ar.put];exact ca _ _ (λe=>a (by rw[e]))
def OE(e:fu P G C){o:Oper}(aj:still o=true){k:ar->Option β}{b:β}(h:mP T G C σ o k=some b):cm P T G o (λa=>k a=some b/\a.objs=σ.objs/\∀t,o.dst≠some t->a.au t=σ.au t) σ:=by
 unfold mP at h;split at h;.exact CC e aZ h
 rename_i f;obtain⟨a,ab,ae⟩:=r4 h;unfold cm;rw[ab];have c:e4 T (bD G σ.au) σ.objs (o.dst.getD 9999) o.op=none:=by
  unfold still at aj;simp only[xbk]at aj;rcases aj with(aj|aj)|aj
  .exact(tZ aj).2
  .exact ua aj
  exact(HP aj).2.2
 unfold eN at ab;split at ab;.cases ab;exact⟨ae,by simp,λt d=>mQ d⟩
 split at ab;.cases ab;exact⟨ae,by simp,λt d=>mQ d⟩
 rw[c]at ab;cases ab
def jD{l:List Oper}:∀{σ:ar}{K K':ar->Prop},(∀σ,K σ->K' σ)->dY P T G all l K σ->dY P T G all l K' σ:=by
 induction l with
 |nil=>intro σ K K' a h;exact a _ h
 |cons o l ih=>intro σ K K' a h;exact xT (λc b=>ih a b) h
def It{l r:List Oper}:∀{σ:ar}{K:ar->Prop},dY P T G all l (dY P T G all r K) σ->dY P T G all (l++r) K σ:=by
 induction l with
 |nil=>intro σ K h;exact h
 |cons o l ih=>intro σ K h;exact xT (λb a=>ih a) h
def jE(σ τ:ar):Prop:=σ.objs=τ.objs/\∀t,τ.au t= .any\/σ.au t=τ.au t
theorem jE.refl(σ:ar):jE σ σ:=⟨rfl,λ_=> .inr rfl⟩
def jE.trans{σ τ b:ar}(h:jE σ τ)(a:jE τ b):jE σ b:=by
 refine⟨h.1.trans a.1,λt=>?_⟩;rcases a.2 t with ae|ae
 .exact .inl ae
 rcases h.2 t with ab|ab;.exact .inl (ae▸ab)
 exact .inr (ab.trans ae)
def jE.r7{σ τ:ar}(h:jE σ τ):eX σ τ:=by
 obtain⟨s,o⟩:=σ;obtain⟨s',o'⟩:=τ;obtain⟨ab,ae⟩:=h;simp only at ab ae;subst ab;intro m fr ρ b w hD;refine⟨m,ρ,Mem.le_refl m,⟨hD.mem,hD.frame,hD.apart,hD.one,?_,hD.objs,hD.own,hD.sep⟩,λk c a=>⟨a,rfl⟩⟩;intro t;rcases ae t with h|h;.simp only[h];exact .any _
 have:=hD.au t;simp only at this⊢;rw[<-h];exact this
def OF{d:Tmp}{r:az}:∀{l:List Oper}{σ:ar}{K:ar->Prop},(∀o∈l,d∉o.looksAt all/\o.dst≠some d)->dY P T G all l K (σ.put (some d) r)=dY P T G all l (λa=>K (a.put (some d) r)) σ
 |[],σ,K,h=>rfl
 |o::l,σ,K,h=>by
  have ak:=h o sZ;have ih:∀{σ:ar},dY P T G all l K (σ.put (some d) r)=dY P T G all l (λa=>K (a.put (some d) r)) σ:=OF λo' b=>h o' (by simp[b]);unfold dY;rw[ft,ft,kP (by rintro _ ⟨⟩;exact ak.1)];cases c:hh all σ o with
  |none=>rfl
  |some w=>
   cases w with
   |true=>simp only;rw[gS (all:=all) (by rintro _ ⟨⟩;exact ak.1) (by rintro _ ⟨⟩;exact ak.2)];simp only[ih]
   |false=>simp only;rw[<-ih,put_comm (by rintro _ ⟨⟩;exact ak.2)]
def ZU{d:Tmp}{a:az}{l:List Oper}{σ:ar}{K:ar->Prop}(e:∀σ τ,jE σ τ->K τ->K σ)(ah:∀o∈l,d∉o.looksAt all/\o.dst≠some d)(h:dY P T G all l K (σ.put (some d) .any)):dY P T G all l K (σ.put (some d) a):=by
 rw[OF ah]at h⊢;refine jD (λf c=>e _ _ ?_ c) h;refine⟨rfl,λt=>?_⟩;by_cases b:t=d;.subst b;exact .inl (by simp[ar.put])
 exact .inr (by simp[ar.put,ca _ _ b])
def Iu{l:List Oper}{K:ar->Prop}(k:∀σ τ,jE σ τ->K τ->K σ):∀(g:List Tmp){σ τ:ar},(∀d∈g,∀o∈l,d∉o.looksAt all/\o.dst≠some d)->(∀t,t∉g->σ.au t=τ.au t)->(∀d∈g,τ.au d= .any\/σ.au d=τ.au d)->σ.objs=τ.objs->dY P T G all l K τ->dY P T G all l K σ
 |[],σ,τ,_,ab,ae,ai,h=>by
  have:σ=τ:=by
   cases σ;cases τ;simp only at ab ai;subst ai
   congr 1
   funext t
   exact ab t sZ
  rw[this];exact h
 |d::g,σ,τ,m,ab,ae,ai,h=>by
  by_cases n:τ.au d= .any
  .have e:τ=τ.put (some d) .any:=by
    cases τ;simp only[ar.put]
    congr 1
    funext t
    by_cases i:t=d;.subst i;simp only[dw];exact n
    rw[ca _ _ i]
   rw[e]at h;have p:=ZU (a:=σ.au d) k (λo q=>m d sZ o q) h;refine Iu (τ:=τ.put (some d) (σ.au d)) k g (λf c=>m f (by simp[c])) ?_ ?_ ai p
   .intro t i;by_cases b:t=d;.subst b;simp[ar.put]
    simp only[ar.put,ca _ _ b];exact ab t (by simp[b,i])
   intro f c;by_cases b:f=d;.subst b;simp[ar.put]
   simp only[ar.put,ca _ _ b];exact ae f (by simp[c])
  refine Iu k g (λf c=>m f (by simp[c])) ?_ (λf c=>ae f (by simp[c])) ai h;intro t i;by_cases b:t=d
  .subst b;rcases ae t (by simp)with j|j
   .exact absurd j n
   exact j
  exact ab t (by simp[b,i])
def OG(c:fu P G C):∀{os:List Oper}{σ:ar}{k:ar->Option β}{b:β},(∀o∈os,o.guard=none)->n0 T G C os σ k=some b->dY P T G all os (λa=>k a=some b) σ
 |[],σ,k,b,_,h=>h|o::os,σ,k,b,d,h=>by unfold dY da;rw[d o sZ];exact lf (λa e=>OG c (λo f=>d o (by simp[f])) e) (Is c h)
def OH(i:fu P G C){j:Nat}{want:Bool}{d:Tmp}(l:(all[j]?).bind (·.dst)=some d):∀{os:List Oper}{σ:ar}{k:ar->Option β}{b:β},(∀o∈os,o.guard=some (j,want))->(∀o∈os,still o=true/\o.dst≠some d)->σ.au d= .d (.val (.bool want))->n0 T G C os σ k=some b->dY P T G all os (λa=>k a=some b/\a.objs=σ.objs/\∀t,t∉dstsOf os->a.au t=σ.au t) σ
 |[],σ,k,b,_,_,_,h=>⟨h,rfl,λ_ _=>rfl⟩
 |o::os,σ,k,b,m,aj,hw,h=>by
  have ak:=aj o sZ;unfold dY da;rw[m o sZ];simp only[l,hw,xaD];refine lf ?_ (OE i ak.1 h);rintro a ⟨ab,ae,ai⟩;refine jD ?_ (OH i l (λo e=>m o (by simp[e])) (λo e=>aj o (by simp[e])) (by rw[ai d ak.2];exact hw) ab);rintro p ⟨g1,g2,g3⟩;refine⟨g1,g2.trans ae,?_⟩;intro t n;have f:t∉dstsOf os:=λc=>n (by unfold dstsOf at c⊢;simp only[xbY];cases o.dst<;>simp[c])
  have g:o.dst≠some t:=λc=>n (by unfold dstsOf;simp[c]);rw[g3 t f,ai t g]
def x7{j:Nat}{want:Bool}{d:Tmp}(k:(all[j]?).bind (·.dst)=some d):∀{os:List Oper}{σ:ar},(∀o∈os,o.guard=some (j,want))->(∀o∈os,o.dst≠some d)->(σ.au d= .d (.val (.bool (!want)))\/∃vs,σ.au d= .d (.val (.tuple vs)))->dY P T G all os (λa=>a.objs=σ.objs/\(∀t,t∉dstsOf os->a.au t=σ.au t)/\∀br,qu os=some br->a.au br= .d hF) σ
 |[],σ,_,_,_=>⟨rfl,λ_ _=>rfl,by intro br h;cases h⟩
 |o::os,σ,l,aj,b=>by
  have ak:=aj o sZ;unfold dY;have key:dY P T G all os (λa=>a.objs=σ.objs/\(∀t,t∉dstsOf (o::os)->a.au t=σ.au t)/\∀br,qu (o::os)=some br->a.au br= .d hF) (σ.put o.dst (.d (.val (.tuple #[])))):=by
   have i:(σ.put o.dst (.d (.val (.tuple #[])))).au d= .d (.val (.bool (!want)))\/∃vs,(σ.put o.dst (.d (.val (.tuple #[])))).au d= .d (.val (.tuple vs)):=by rw[mQ ak];exact b
   refine jD ?_ (x7 k (λo e=>l o (by simp[e])) (λo e=>aj o (by simp[e])) i);rintro a ⟨ab,ae,ai⟩;refine⟨ab.trans sZ,?_,?_⟩
   .intro t m;have f:t∉dstsOf os:=λc=>m (by
     unfold dstsOf at c⊢;simp only[xbY];cases o.dst<;>simp[c])
    have g:o.dst≠some t:=λc=>m (by unfold dstsOf;simp[c]);rw[ae t f,mQ g]
   intro br ah;cases os with|nil=>simp only[qu]at ah;rw[ae br (by simp[dstsOf]),ah];simp[ar.put,hF]|cons q n=>exact ai br ah
  unfold da;rw[l o sZ];simp only[k];rcases b with b|⟨vs,b⟩
  .simp only[b];rw[xab (by cases want<;>simp)];exact key
  simp only[b];exact key
def Iv{j:Nat}{want:Bool}{d:Tmp}(m:(all[j]?).bind (·.dst)=some d):∀{os:List Oper}{σ:ar},(∀o∈os,o.guard=some (j,want))->(∀o∈os,o.dst≠some d)->(σ.au d= .d (.val (.bool (!want)))\/∃vs,σ.au d= .d (.val (.tuple vs)))->dY P T G all os (λa=>a.objs=σ.objs/\(∀t,t∉dstsOf os->a.au t=σ.au t)/\∀t∈dstsOf os,a.au t= .d hF) σ
 |[],σ,_,_,_=>⟨rfl,λ_ _=>rfl,by intro t h;cases h⟩
 |o::os,σ,n,aj,f=>by
  have ak:=aj o sZ;unfold dY;have key:dY P T G all os (λa=>a.objs=σ.objs/\(∀t,t∉dstsOf (o::os)->a.au t=σ.au t)/\∀t∈dstsOf (o::os),a.au t= .d hF) (σ.put o.dst (.d (.val (.tuple #[])))):=by
   have l:(σ.put o.dst (.d (.val (.tuple #[])))).au d= .d (.val (.bool (!want)))\/∃vs,(σ.put o.dst (.d (.val (.tuple #[])))).au d= .d (.val (.tuple vs)):=by rw[mQ ak];exact f
   refine jD ?_ (Iv m (λo e=>n o (by simp[e])) (λo e=>aj o (by simp[e])) l);rintro a ⟨ab,ae,ai⟩;refine⟨ab.trans sZ,?_,?_⟩
   .intro t c;have b:t∉dstsOf os:=λg=>c (by
     unfold dstsOf at g⊢;simp only[xbY];cases o.dst<;>simp[g])
    have i:o.dst≠some t:=λg=>c (by unfold dstsOf;simp[g]);rw[ae t b,mQ i]
   intro t c;by_cases b:t∈dstsOf os;.exact ai t b
   have k:o.dst=some t:=by
    unfold dstsOf at c b;simp only[xbY]at c;cases e:o.dst with
    |none=>rw[e]at c;exact absurd c b
    |some u=>
     rw[e]at c;rcases xam.1 c with rfl|h
     .rfl
     exact absurd h b
   rw[ae t b,k];simp[ar.put,hF]
  unfold da;rw[n o sZ];simp only[m];rcases f with f|⟨vs,f⟩
  .simp only[f];rw[xab (by cases want<;>simp)];exact key
  simp only[f];exact key
def ZV(d:fu P G C){o:Oper}{k:ar->Option β}{b:β}(h:mP T G C σ o k=some b):cm P T G o (λa=>k a=some b/\∀t,o.dst≠some t->a.au t=σ.au t) σ:=by
 unfold mP at h;split at h;.exact lf (λ_ h=>⟨h.1,h.2.2⟩) (CC d aZ h)
 obtain⟨a,ab,ae⟩:=r4 h;unfold cm;rw[ab];refine⟨ae,λt c=>?_⟩;unfold eN at ab;split at ab;.cases ab;exact mQ c
 split at ab;.cases ab;exact mQ c
 split at ab;.cases ab;exact mQ c
 cases ab
def OI(e:fu P G C){j:Nat}{want:Bool}{d:Tmp}(f:(all[j]?).bind (·.dst)=some d):∀{os:List Oper}{σ:ar}{k:ar->Option β}{b:β},(∀o∈os,o.guard=some (j,want))->(∀o∈os,o.dst≠some d)->σ.au d= .d (.val (.bool want))->n0 T G C os σ k=some b->dY P T G all os (λa=>k a=some b) σ
 |[],σ,k,b,_,_,_,h=>h|o::os,σ,k,b,g,aj,hw,h=>by unfold dY da;rw[g o sZ];simp only[f,hw,xaD];refine lf ?_ (ZV e h);rintro a ⟨ab,ai⟩;exact OI e f (λo c=>g o (by simp[c])) (λo c=>aj o (by simp[c])) (by rw[ai d (aj o sZ)];exact hw) ab
def Iw{j:Nat}{want:Bool}{d:Tmp}(e:(all[j]?).bind (·.dst)=some d){K:ar->Prop}:∀{os:List Oper}{σ:ar},(∀o∈os,o.guard=some (j,want))->(∀o∈os,o.dst≠some d)->(σ.au d= .d (.val (.bool (!want)))\/∃vs,σ.au d= .d (.val (.tuple vs)))->K (Iq os σ)->dY P T G all os K σ
 |[],σ,_,_,_,h=>h
 |o::os,σ,f,aj,a,h=>by
  have ak:=aj o sZ;have c:(σ.put o.dst (.d (.val (.tuple #[])))).au d= .d (.val (.bool (!want)))\/∃vs,(σ.put o.dst (.d (.val (.tuple #[])))).au d= .d (.val (.tuple vs)):=by rw[mQ ak];exact a
  have key:dY P T G all os K (σ.put o.dst (.d (.val (.tuple #[])))):=Iw e (λo b=>f o (by simp[b])) (λo b=>aj o (by simp[b])) c h;unfold dY da;rw[f o sZ];simp only[e];rcases a with a|⟨vs,a⟩
  .simp only[a];rw[xab (by cases want<;>simp)];exact key
  simp only[a];exact key
def OJ:∀{os:List Oper}{br:Tmp},qu os=some br->br∈dstsOf os
 |[],br,h=>by cases h
 |[o],br,h=>by simp only[qu]at h;simp[dstsOf,h]|o::q::r,br,h=>by have:=OJ (os:=q::r) h;unfold dstsOf at this⊢;rw[xbY];cases o.dst<;>simp[this]
def r8(p:fu P G C){K:ar->Prop}(y:∀σ τ,jE σ τ->K τ->K σ):∀{gs:List (Option (Nat×Bool)×List Oper)} {σ:ar} {k:ar->Option β} {b:β},(∀g∈gs,∀o∈g.2,o.guard=g.1)->(∀a,k a=some b->K a)->qw T G C all gs σ k=some b->dY P T G all (flat gs) K σ
 |[],σ,k,b,_,q,h=>q _ h|(none,os)::r,σ,k,b,l,q,h=>by show dY P T G all (os++flat r) K σ;refine It (jD ?_ (OG p (λo f=>l (none,os) sZ o f) h));intro a L;exact r8 p y (λg m=>l g (by simp[m])) q L
 |(some (j,want),os)::r,σ,k,b,l,q,h=>by
  show dY P T G all (os++flat r) K σ;unfold qw at h;split at h
  case h_2=>cases h
  rename_i d br z D;split at h
  case h_2=>cases h
  rename_i x A;split at h
  case isFalse=>
   split at h
   case isFalse=>cases h
   rename_i n;simp only[xay,bne_iff_ne,ne_eq]at n;have e:∀o∈os,o.guard=some (j,want):=λo f=>l (some (j,want),os) sZ o f;unfold r6 at h;refine It ?_;split at h
   .rename_i I;split at h;.rename_i B;subst B;exact jD (λa L=>r8 p y (λg m=>l g (by simp[m])) q L) (OI p z e n A h)
    rename_i B;exact Iw z e n (.inl (by rw[A];cases I<;>cases want<;>simp_all)) (r8 p y (λg m=>l g (by simp[m])) q h)
   .exact Iw z e n (.inr ⟨_,A⟩) (r8 p y (λg m=>l g (by simp[m])) q h)
   cases h
  rename_i F;simp only[Oy,xan,xay,bne_iff_ne,ne_eq,blind,xbL,xcr,List.contains_eq_mem,decide_eq_false_iff_not]at F;obtain⟨i,H⟩:=F;obtain⟨v,ab,ae⟩:=cR h;have e:∀o∈os,o.guard=some (j,want):=λo f=>l (some (j,want),os) sZ o f;have rest:=r8 p y (λg m=>l g (by simp[m])) q ae;have fin:∀a:ar,a.objs=σ.objs->(∀t,t∉dstsOf os->a.au t=σ.au t)->a.au br= .d v->dY P T G all (flat r) K a:=by
   intro a O Q R;refine Iu y ((dstsOf os).filter (·!=br)) ?_ ?_ ?_ ?_ rest;.intro J s o f;have c:=xbL.1 s;exact H o f J ⟨c.1,by simpa using c.2⟩
   .intro t N;simp only[xbL,bne_iff_ne,ne_eq,not_and,Decidable.not_not]at N;by_cases w:t=br;.subst w;simp[ar.put,R]
    have E:t∉dstsOf os:=λS=>w (N S);simp only[ar.put,ca _ _ w,iJ,E,xaG];exact Q t E
   .intro J s;have c:=xbL.1 s;have M:J≠br:=by simpa using c.2
    refine .inl ?_;simp only[ar.put,ca _ _ M,iJ,c.1,xaD]
   simp[ar.put,iJ,O]
  unfold cE at ab;refine It ?_;split at ab
  .rename_i I;split at ab
   .rename_i B;subst B;refine jD ?_ (OH p z e i A ab);rintro a ⟨g1,g2,g3⟩;refine fin a g2 g3 ?_;split at g1;.rename_i u hu;cases g1;exact hu
    cases g1
   rename_i B;cases ab;refine jD ?_ (x7 z e (λo f=>(i o f).2) (.inl (by rw[A];cases I<;>cases want<;>simp_all)));rintro a ⟨g1,g2,g3⟩;exact fin a g1 g2 (g3 br D)
  .rename_i vs;cases ab;refine jD ?_ (x7 z e (λo f=>(i o f).2) (.inr ⟨_,A⟩));rintro a ⟨g1,g2,g3⟩;exact fin a g1 g2 (g3 br D)
  cases ab
def OK{i:Nat}{n:Oper}{listed:Array Bool}(ag:all[i]?=some n)(h:Ir all listed i=true):(∀j c,j∈waits all i->all[j]?=some c->∃e∈c.after,Region.binds .any e=true/\(e.on=i\/e.on∈waits all i))/\(∀j,j∈waits all i->listed.getD j true=false)/\ ∀j c,all[j]?=some c->j≠i->listed.getD j true=false->j∉waits all i->n.apart all c=true/\∀t a x,c.op≠ .store t a x:=by
 simp only[Ir,ag,xan,xay,xbU]at h;refine⟨λj c g b=>?_,λj g=>by simpa using(h.1 j g).1,λj c b k m l=>?_⟩;.have ab:=(h.1 j g).2;simp only[b]at ab;obtain⟨e,f,d⟩:=Array.any_eq_true'.1 ab;simp only[xan,xbk,xbQ,List.contains_iff_mem]at d;exact⟨e,f,d.1,d.2⟩
 have ab:=h.2 j (xaN.1 b).1;simp only[b,xbk,xbQ,k,false_or,m,xaq,xan,List.contains_iff_mem,l]at ab;refine⟨ab.1,?_⟩;intro t a x f;rw[f]at ab;simp[OA]at ab
def OL{i:Nat}{c:Oper}{listed:Array Bool}{au:Nat->az}(h:CB all listed i au c=true):(∀j a,j∈waits all i->all[j]?=some a->∃e∈a.after,Region.binds .any e=true/\(e.on=i\/e.on∈waits all i))/\(∀j,j∈waits all i->listed.getD j true=false)/\ ∀j a,all[j]?=some a->j≠i->listed.getD j true=false->j∉waits all i->c.apart all a=true/\nW au c a=true/\(∀t∈jj c.op++(qx all listed i).flatMap (λy=>nX y.op),a.dst≠some t)/\∀t∈nX a.op,t∈jj c.op++(qx all listed i).flatMap (λy=>nX y.op):=by
 simp only[CB,xan,xay]at h;refine⟨λj a f b=>?_,λj f=>by simpa using(h.1 j f).1,λj a b g m k=>?_⟩;.have ab:=(h.1 j f).2;simp only[b]at ab;obtain⟨e,o,d⟩:=Array.any_eq_true'.1 ab;simp only[xan,xbk,xbQ,List.contains_iff_mem]at d;exact⟨e,o,d.1,d.2⟩
 have n:a∈qx all listed i:=by
  unfold qx;rw[List.mem_filterMap];refine⟨j,by simpa using(xaN.1 b).1,?_⟩;have:(j==i||listed.getD j true||(waits all i).contains j)=false:=by simp only[Bool.or_eq_false_iff,beq_eq_false_iff_ne,ne_eq];exact⟨⟨g,m⟩,by simpa using k⟩
  rw[this];simpa using b
 obtain⟨ab,ae⟩:=h.2 a n;refine⟨ab.1,ab.2,λt l=>by simpa using ae t l,λt l=>xbT _ (List.mem_flatMap.2 ⟨a,n,l⟩)⟩
def Ix(m:fu P G C){k:ar->Option β}{b:β}:∀(ord:lX)(listed:Array Bool)(σ:ar),uq T G C all ord listed σ k=some b->gf P T G all (λd=>k d=some b) ord.length listed σ
 |[],listed,σ,h=>by
  unfold uq at h;split at h;.rename_i j;exact⟨List.isEmpty_iff.1 j,h⟩
  cases h
 |i::r,listed,σ,h=>by
  unfold uq at h;split at h
  case h_2=>cases h
  rename_i o ag;split at h
  case isFalse=>cases h
  rename_i p;obtain⟨l,j,c⟩:=p;have H:fm P T G all i (gf P T G all (λd=>k d=some b) r.length (listed.setIfInBounds i true)) σ:=by unfold fm;simp only[ag];unfold da;simp only[l];exact lf (λd n=>Ix m r _ d n) (Is m h)
  rcases xbx.1 c with c|c
  case inr=>obtain⟨e,f,g⟩:=Cb ag c;exact B9 ag e r.length listed σ f g (by simpa using j) (.inr trivial) H
  rcases xbx.1 c with c|c
  case inr=>obtain⟨e,f,g⟩:=OL c;exact N2 ag l e (s0:=σ.au) (L:=jj o.op++(qx all listed i).flatMap (λy=>nX y.op)) (λt s=>xaZ _ s) r.length listed σ (λ_ _=>rfl) f g (by simpa using j) H
  rcases xbx.1 c with c|c;.obtain⟨e,f,g⟩:=NK ag c;exact NH ag e r.length listed σ f g (by simpa using j) (.inr trivial) H
  unfold CA at c;split at c
  case h_2=>cases c
  rename_i t a q;split at c
  case h_2=>cases c
  rename_i u off aj;obtain⟨e,f,g⟩:=OK ag c;exact NU ag q l e r.length listed σ aj f g (by simpa using j) H
def ZW(c:fu P G C){K:ar->Prop}(d:∀σ τ,jE σ τ->K τ->K σ){k:ar->Option β}{b:β}(e:∀a,k a=some b->K a)(h:Oz T G C all σ k=some b):dY P T G all all.toList K σ:=by
 have:=r8 (P:=P) c d (λg f o i=>x6 _ _ _ f o i) e h
 rwa [pg]at this
end
inductive l1 where
 |any
 |d
 |x8 (f:FuncId)
 |fd (f:FuncId) (m:Nat)
 |cH (off:Nat)
 |ptr (k:Key) (off:Nat)
 |row (k:Key)
 |map (k:Key)
 |sub (k:Key) (ZX:Nat)
inductive SW where
 |b (s:l1)
 |fn (f:Fn) (first cap:List l1)
 |agg (cs:List l1)
 |aB (cs:List l1)
inductive iK where
 |dead
 |box (cs:List SW)
 |row (k:Nat)
 |map
inductive qy where
 |slot (t K n:Nat)
 |box (k i K n:Nat)
 |all (t ZX:Nat)
structure jF where
 au:List (Nat×SW)
 objs:List (Key×iK)
 ll:List qy
def bI(ls:lZ)(n:Nat):D:=ls.getD n hF
def Iy:D->Nat
 | .val (.int _ n)=>n.toNat|_=>0
def qz(ls:lZ):l1->Nat->az×Nat
 | .any,n=>(.any,n)| .d,n=>(.d (bI ls n),n+1)| .x8 f,n=>(.d (.val (.func (.func f) #[] #[])),n)| .fd f m,n=>(.d (.fn (.func f) [] ((List.range m).map λi=>bI ls (n+i))),n+m)| .cH off,n=>(.cH (dK (bI ls n)) off,n+1)| .ptr k off,n=>(.ptr k off,n)| .row k,n=>(.row k,n)| .map k,n=>(.map k,n)| .sub k a,n=>(.sub k a (Iy (bI ls n)) (Iy (bI ls (n+1))),n+2)
def kU(ls:lZ):List l1->Nat->List az×Nat
 |[],n=>([],n)|s::r,n=>((qz ls s n).1::(kU ls r (qz ls s n).2).1,(kU ls r (qz ls s n).2).2)
def ln(ls:lZ):SW->Nat->az×Nat
 | .b s,n=>qz ls s n| .fn f first cap,n=>(.fn f (kU ls first n).1 (kU ls cap (kU ls first n).2).1,(kU ls cap (kU ls first n).2).2)
 | .agg cs,n=>(.agg (kU ls cs n).1,(kU ls cs n).2)| .aB cs,n=>(.aB (kU ls cs n).1,(kU ls cs n).2)
def mR(ls:lZ):List SW->Nat->List az×Nat
 |[],n=>([],n)|s::r,n=>((ln ls s n).1::(mR ls r (ln ls s n).2).1,(mR ls r (ln ls s n).2).2)
def r9(ls:lZ):iK->Nat->b6×Nat
 | .dead,n=>(.dead,n)| .box cs,n=>(.box (mR ls cs n).1,(mR ls cs n).2)| .row k,n=>(.row k (aF (bI ls n)),n+1)| .map,n=>(.map (dT (bI ls n)),n+1)
def qA(ls:lZ):List (Nat×SW)->Nat->List (Nat×az)×Nat
 |[],n=>([],n)|(t,s)::r,n=>((t,(ln ls s n).1)::(qA ls r (ln ls s n).2).1,(qA ls r (ln ls s n).2).2)
def kV(ls:lZ):List (Key×iK)->Nat->List (Key×b6)×Nat
 |[],n=>([],n)|(t,s)::r,n=>((t,(r9 ls s n).1)::(kV ls r (r9 ls s n).2).1,(kV ls r (r9 ls s n).2).2)
def restore(a:jF)(ls:lZ):ar:=NO (qA ls a.au 0).1 (kV ls a.objs (qA ls a.au 0).2).1
def OM:az->l1->List (Key×Key)
 | .ptr k _,.ptr a _=>[(a,k)]| .row k,.row a=>[(a,k)]| .map k,.map a=>[(a,k)]| .sub k _ _ _,.sub a _=>[(a,k)]|_,_=>[]
def x9:List az->List l1->List (Key×Key)
 |x::xs,s::a=>OM x s++x9 xs a|_,_=>[]
def ON:az->SW->List (Key×Key)
 |x,.b s=>OM x s| .fn _ as dm,.fn _ a ts=>x9 as a++x9 dm ts| .agg cs,.agg a=>x9 cs a| .aB cs,.aB a=>x9 cs a|_,_=>[]
def CD:List az->List SW->List (Key×Key)
 |x::xs,s::a=>ON x s++CD xs a|_,_=>[]
def OO(σ:ar):List (Nat×SW)->List (Key×Key)
 |[]=>[]|(t,s)::r=>ON (σ.au t) s++OO σ r
def ur(σ:ar):List (Key×iK)->List (Key×Key)->List (Key×Key)
 |[],a=>a|(k,.box b)::r,a=>match σ.objs (ee a k)with|some (.box c)=>ur σ r (a++CD c b)|_=>ur σ r a
 |_::r,a=>ur σ r a
def CE(h:List (Key×Key))(ks:List Key):az->l1->oY
 |_,.any=>some []|x,.d=>(Ce x).map λa=>[a]| .d (.val (.func (.func f) a b)),.x8 j=>if f=j/\a.size=0/\b.size=0 then some []else none
 | .d (.fn (.func j) first g),.fd f m=>if j=f/\first.isEmpty=true/\g.length=m then some g else none
 | .cH cs off,.cH e=>if off=e then some [.agg cs]else none
 | .ptr k off,.ptr c e=>if k=ee h c/\off=e/\ks.contains c then some []else none
 | .row k,.row c=>if k=ee h c/\ks.contains c then some []else none
 | .map k,.map c=>if k=ee h c/\ks.contains c then some []else none
 | .sub k n i len,.sub c l=>if k=ee h c/\n=l/\ks.contains c then some [.val (.int .i64 (i:Nat)),.val (.int .i64 (len:Nat))]else none
 |_,_=>none
def ph(x y:oY):oY:=match x,y with|some a,some b=>some (a++b)|_,_=>none
def uu(a:List (Key×Key))(ks:List Key):List az->List l1->oY
 |[],[]=>some []|x::xs,s::b=>ph (CE a ks x s) (uu a ks xs b)|_,_=>none
def CF(c:List (Key×Key))(ks:List Key):az->SW->oY
 |x,.b s=>CE c ks x s| .fn (.func f) as dm,.fn (.func d) a ts=>if f=d then ph (uu c ks as a) (uu c ks dm ts)else none
 | .agg cs,.agg a=>uu c ks cs a| .aB cs,.aB a=>uu c ks cs a|_,_=>none
def CG(a:List (Key×Key))(ks:List Key):List az->List SW->oY
 |[],[]=>some []|x::xs,s::b=>ph (CF a ks x s) (CG a ks xs b)|_,_=>none
def Iz(c:List (Key×Key))(ks:List Key):Option b6->iK->oY
 |some _,.dead=>some []|some (.box xs),.box b=>CG c ks xs b|some (.row k es),.row a=>if k=a then some [.aw k es]else none
 |some (.map es),.map=>some [.mp es]|_,_=>none
def IA(a:List (Key×Key))(ks:List Key)(σ:ar):List (Nat×SW)->oY
 |[]=>some []|(t,s)::r=>ph (CF a ks (σ.au t) s) (IA a ks σ r)
def CH(a:List (Key×Key))(ks:List Key)(σ:ar):List (Key×iK)->oY
 |[]=>some []|(k,s)::r=>ph (Iz a ks (σ.objs (ee a k)) s) (CH a ks σ r)
section
variable{β:Type}
def kW:List qy->ar->(ar->Option β)->Option β
 |[],σ,k=>k σ
 | .slot t K n::r,σ,k=>match σ.au t,σ.objs K with
  | .d a,none=>if K<10000 then bF (jy a) (kW r ⟨bL σ.au t (.row K),bL σ.objs K (some (.row n []))⟩ k)else none
  |_,_=>kW r σ k
 | .box b i K n::r,σ,k=>match σ.objs b with
  |some (.box c)=>match c[i]?,σ.objs K with
   |some (.d a),none=>if K<10000 then bF (jy a) (kW r ⟨σ.au,bL (bL σ.objs b (some (.box (c.set i (.row K))))) K (some (.row n []))⟩ k)else none
   |_,_=>kW r σ k
  |_=>kW r σ k
 | .all t b::r,σ,k=>match σ.au t with
  | .row K=>match σ.objs K with
   |some (.row n es)=>if n=b then kW r ⟨bL σ.au t (.sub K n 0 es.length),σ.objs⟩ k else none
   |_=>kW r σ k
  |_=>kW r σ k
def uv:iK->Bool
 | .box _=>true| .row _=>true| .map=>true|_=>false
def OP(ib:List Key)(a:List (Key×Key))(objs:List (Key×iK)):Bool:=objs.all (λp=>decide (p.1<10000)||ib.contains p.1)&&ib.all (λk=>ee a k==k&&objs.any λp=>p.1==k&&uv p.2)&&decide ((objs.map (·.1)).Nodup)
def n1(ib:List Key)(a:jF)(σ:ar)(k:lZ->Option β):Option β:=kW a.ll σ λσ=>
  let b:=ur σ a.objs (OO σ a.au)
  if r1 (ee b) (a.objs.map (·.1))&&OP ib b a.objs=true then
   match ph (IA b (a.objs.map (·.1)) σ a.au) (CH b (a.objs.map (·.1)) σ a.objs)with|some ls=>k ls|none=>none
  else none
end
def sa{x y:oY}{l:lZ}(h:ph x y=some l):∃a b,x=some a/\y=some b/\l=a++b:=by
 unfold ph at h;split at h;.cases h;exact⟨_,_,rfl,rfl,rfl⟩
 cases h
def At(ls:lZ)(n:Nat)(a:lZ):Prop:=∀j d,a[j]?=some d->ls[n+j]?=some d
def At.left{ls:lZ}{n:Nat}{a b:lZ}(h:At ls n (a++b)):At ls n a:=λj d c=>h j d (by rw[xap (lV.1 c).1];exact c)
def At.right{ls:lZ}{n:Nat}{a b:lZ}(h:At ls n (a++b)):At ls (n+a.length) b:=λj d c=>by
 have:=h (a.length+j) d (by rw[xas oZ];simpa using c)
 rwa [<-xbl]at this
def At.bI{ls:lZ}{n:Nat}{a:D}(h:At ls n [a]):bI ls n=a:=by have:=h 0 a rfl;simp only[xbw]at this;simp[Am.bI,xbf,this]
section
variable{gA:List (Key×Key)}{ks:List Key}{ls:lZ}{U:Key->Prop}
def OQ(g:∀k,ks.contains k=true->U k){x:az}{s:l1}{n:Nat}{a:lZ}(h:CE gA ks x s=some a)(f:At ls n a):lg (ee gA) U x (qz ls s n).1/\(qz ls s n).2=n+a.length:=by
 unfold CE at h;split at h;.cases h;exact⟨trivial,rfl⟩
 .obtain⟨d,p,rfl⟩:=xae.1 h;refine⟨⟨_,p,?_⟩,rfl⟩;rw[f.bI];exact D.le_refl _
 .split at h;.rename_i c;obtain⟨rfl,m,o⟩:=c;cases h;rw[xbp m,xbp o];exact⟨⟨_,rfl,D.le_refl _⟩,rfl⟩
  cases h
 .split at h
  .rename_i c;obtain⟨rfl,ab,rfl⟩:=c;cases h;refine⟨⟨_,rfl,?_⟩,rfl⟩;rw[List.isEmpty_iff.1 ab];have e:((List.range a.length).map λi=>bI ls (n+i))=a:=by
    apply xbG;intro i;rw[xag];by_cases ag:i<a.length;.rw[xbN ag,xaa ag];have:=f i a[i] (xaa ag);simp[Am.bI,xbf,this]
    rw[xaH uZ,xaH oZ];rfl
   skip
   rw[e];exact D.le_refl _
  cases h
 .split at h;.rename_i c;cases h;subst c;refine⟨.inl ?_,rfl⟩;rw[f.bI];rfl
  cases h
 .split at h;.rename_i c;cases h;exact⟨⟨by rw[c.1,c.2.1],g _ c.2.2⟩,rfl⟩
  cases h
 .split at h;.rename_i c;cases h;exact⟨⟨by rw[c.1],g _ c.2⟩,rfl⟩
  cases h
 .split at h;.rename_i c;cases h;exact⟨⟨by rw[c.1],g _ c.2⟩,rfl⟩
  cases h
 .split at h;.rename_i c;cases h;obtain⟨ab,ae,ai⟩:=c;have j:=f.left (a:=[_]) (b:=[_]);have l:At ls (n+1) [D.val (.int .i64 ((_:Nat):Int))]:=At.right (a:=[_]) (b:=[_]) f;simp only[qz];rw[j.bI,l.bI];exact⟨⟨by rw[ab,ae];simp[Iy],g _ ai⟩,rfl⟩
  cases h
 cases h
def ya(e:∀k,ks.contains k=true->U k):∀{d:List az}{c:List l1}{n:Nat}{a:lZ},uu gA ks d c=some a->At ls n a->gT (ee gA) U d (kU ls c n).1/\(kU ls c n).2=n+a.length
 |[],[],n,a,h,b=>by cases h;exact⟨trivial,rfl⟩
 |x::d,s::c,n,a,h,b=>by obtain⟨aG,a2,ab,ae,rfl⟩:=sa h;obtain⟨g1,g2⟩:=OQ e ab b.left;have f:=b.right;rw[<-g2]at f;obtain⟨g3,g4⟩:=ya e ae f;refine⟨⟨g1,g3⟩,?_⟩;show(kU ls c (qz ls s n).2).2=_;rw[g4,g2,xaS];omega
 |[],_::_,n,a,h,_=>by cases h
 |_::_,[],n,a,h,_=>by cases h
def ZY{x y:az}(h:lg (ee gA) U x y):o9 (ee gA) U x y:=by cases y<;>first|exact h|exact h.elim
def OR(c:∀k,ks.contains k=true->U k){x:az}{s:SW}{n:Nat}{a:lZ}(h:CF gA ks x s=some a)(b:At ls n a):o9 (ee gA) U x (ln ls s n).1/\(ln ls s n).2=n+a.length:=by
 unfold CF at h;split at h;.obtain⟨g1,g2⟩:=OQ c h b;exact⟨ZY g1,g2⟩
 .split at h;.rename_i e;subst e;obtain⟨aG,a2,ab,ae,rfl⟩:=sa h;obtain⟨g1,g2⟩:=ya c ab b.left;have d:=b.right;rw[<-g2]at d;obtain⟨g3,g4⟩:=ya c ae d;refine⟨⟨rfl,g1,g3⟩,?_⟩;simp only[ln];rw[g4,g2,xaS];omega
  cases h
 .obtain⟨g1,g2⟩:=ya c h b;exact⟨g1,g2⟩
 .obtain⟨g1,g2⟩:=ya c h b;exact⟨g1,g2⟩
 cases h
def IB(e:∀k,ks.contains k=true->U k):∀{d:List az}{c:List SW}{n:Nat}{a:lZ},CG gA ks d c=some a->At ls n a->nV (ee gA) U d (mR ls c n).1/\(mR ls c n).2=n+a.length
 |[],[],n,a,h,b=>by cases h;exact⟨trivial,rfl⟩
 |x::d,s::c,n,a,h,b=>by obtain⟨aG,a2,ab,ae,rfl⟩:=sa h;obtain⟨g1,g2⟩:=OR e ab b.left;have f:=b.right;rw[<-g2]at f;obtain⟨g3,g4⟩:=IB e ae f;refine⟨⟨g1,g3⟩,?_⟩;show(mR ls c (ln ls s n).2).2=_;rw[g4,g2,xaS];omega
 |[],_::_,n,a,h,_=>by cases h
 |_::_,[],n,a,h,_=>by cases h
def ZZ(c:∀k,ks.contains k=true->U k){x:Option b6}{s:iK}{n:Nat}{a:lZ}(h:Iz gA ks x s=some a)(b:At ls n a):(∃o',x=some o'/\rZ (ee gA) U o' (r9 ls s n).1)/\(r9 ls s n).2=n+a.length:=by
 unfold Iz at h;split at h;.cases h;exact⟨⟨_,rfl,trivial⟩,rfl⟩
 .obtain⟨g1,g2⟩:=IB c h b;exact⟨⟨_,rfl,⟨_,rfl,g1⟩⟩,g2⟩
 .split at h;.rename_i d;cases h;subst d;refine⟨⟨_,rfl,⟨_,rfl,.inl ?_⟩⟩,rfl⟩;rw[b.bI];rfl
  cases h
 .cases h;refine⟨⟨_,rfl,?_⟩,rfl⟩;simp only[r9,rZ];rw[b.bI];rfl
 cases h
def OS(c:∀k,ks.contains k=true->U k){σ:ar}:∀{l:List (Nat×SW)} {n:Nat} {a:lZ},IA gA ks σ l=some a->At ls n a->ue (ee gA) U σ (qA ls l n).1/\(qA ls l n).2=n+a.length
 |[],n,a,h,b=>by cases h;exact⟨trivial,rfl⟩
 |(t,s)::r,n,a,h,b=>by obtain⟨aG,a2,ab,ae,rfl⟩:=sa h;obtain⟨g1,g2⟩:=OR c ab b.left;have d:=b.right;rw[<-g2]at d;obtain⟨g3,g4⟩:=OS c ae d;refine⟨⟨g1,g3⟩,?_⟩;simp only[qA];rw[g4,g2,xaS];omega
def IC(c:∀k,ks.contains k=true->U k){σ:ar}:∀{l:List (Key×iK)} {n:Nat} {a:lZ},CH gA ks σ l=some a->At ls n a->r0 (ee gA) U σ (kV ls l n).1/\(kV ls l n).2=n+a.length
 |[],n,a,h,b=>by cases h;exact⟨trivial,rfl⟩
 |(t,s)::r,n,a,h,b=>by obtain⟨aG,a2,ab,ae,rfl⟩:=sa h;obtain⟨g1,g2⟩:=ZZ c ab b.left;have d:=b.right;rw[<-g2]at d;obtain⟨g3,g4⟩:=IC c ae d;refine⟨⟨g1,g3⟩,?_⟩;simp only[kV];rw[g4,g2,xaS];omega
end
def sb(ls:lZ):∀(l:List (Key×iK)) (n:Nat),ji (kV ls l n).1=l.map (·.1)
 |[],n=>rfl|(k,s)::r,n=>by have:=sb ls r (r9 ls s n).2;simp only[kV,ji,xaw]at this⊢;rw[<-this]
def CI:∀{lo:List (Key×b6)} {k:Key},k∈ji lo->∃o,dh lo k=some o
 |[],k,h=>by cases h
 |(j,x)::r,k,h=>by
  unfold dh;by_cases a:k=j;.exact⟨x,by rw[xac a]⟩
  rw[xab a];simp only[ji,xaw,xam]at h;exact CI (h.resolve_left a)
def dO(ib:List Key)(σ:ar):Prop:=∀k,10000<=k->ds (σ.objs k)->k∈ib
def ID(ls:lZ):∀(l:List (Key×iK)) (n:Nat) (k:Key),(l.map (·.1)).Nodup->(∃s,(k,s)∈l/\uv s=true)->ds (dh (kV ls l n).1 k)
 |[],n,k,_,⟨_,h,_⟩=>by cases h
 |(j,s)::r,n,k,a,⟨c,h,aj⟩=>by
  simp only[kV,dh];simp only[xaw,List.nodup_cons]at a;rcases xam.1 h with ab|ab
  .cases ab;rw[xac rfl];cases s<;>first|cases aj|skip
   .exact o5
   .exact nT
   exact qk
  have b:k≠j:=by rintro rfl;exact a.1 (xaK.2 ⟨_,ab,rfl⟩)
  rw[xab b];exact ID ls r _ k a.2 ⟨c,ab,aj⟩
def n2{u:Type}{ib:List Key}:∀{l:List qy}{σ:ar}{k:ar->Option u}{b:u},dO ib σ->kW l σ k=some b->∃τ,eX σ τ/\dO ib τ/\k τ=some b
 |[],σ,k,b,c,h=>⟨σ,eX.refl σ,c,h⟩
 | .slot t K n::r,σ,k,b,c,h=>by
  unfold kW at h;split at h
  .rename_i a aj p;split at h
   case isFalse=>cases h
   rename_i g;obtain⟨ab,ae⟩:=hE h;have q:a= .val (.slice none 0 0):=by
    unfold jy at ab;split at ab;.rfl
    cases ab
   subst q;obtain⟨τ,g1,g2,g3⟩:=n2 (ib:=ib) (by
    intro j f e;by_cases d:j=K;.exact absurd g (Nat.not_lt.2 (d▸f))
    simp only[ca _ _ d]at e;exact c j f e) ae
   exact⟨τ,(Y4 t K n aj p).trans g1,g2,g3⟩
  exact n2 c h
 | .box s i K n::r,σ,k,b,c,h=>by
  unfold kW at h;split at h
  .rename_i x o;split at h
   .rename_i a ag p;split at h
    case isFalse=>cases h
    rename_i g;obtain⟨ab,ae⟩:=hE h;have q:a= .val (.slice none 0 0):=by
     unfold jy at ab;split at ab;.rfl
     cases ab
    subst q;obtain⟨τ,g1,g2,g3⟩:=n2 (ib:=ib) (by
     intro j f e;by_cases d:j=K;.exact absurd g (Nat.not_lt.2 (d▸f))
     simp only[ca _ _ d]at e;by_cases m:j=s;.subst m;exact c j f (by rw[o];exact o5)
     simp only[ca _ _ m]at e;exact c j f e) ae
    exact⟨τ,(Y5 s i K n o ag p).trans g1,g2,g3⟩
   exact n2 c h
  exact n2 c h
 | .all t s::r,σ,k,b,c,h=>by
  unfold kW at h;split at h
  .rename_i K aj;split at h
   .rename_i n es o;split at h
    case isFalse=>cases h
    rename_i w;subst w;obtain⟨τ,g1,g2,g3⟩:=n2 (ib:=ib) (σ:=⟨bL σ.au t (.sub K n 0 es.length),σ.objs⟩) (λj f e=>c j f e) h;exact⟨τ,(Y6 t K n aj o).trans g1,g2,g3⟩
   exact n2 c h
  exact n2 c h
def CJ{z:Type}{ib:List Key}{e:jF}{σ:ar}{k:lZ->Option z}{b:z}(E:dO ib σ)(h:n1 ib e σ k=some b):∃ls,eX σ (restore e ls)/\dO ib (restore e ls)/\k ls=some b:=by
 unfold n1 at h;obtain⟨τ,g1,g2,g3⟩:=n2 E h;simp only at g3;split at g3
 case isFalse=>cases g3
 rename_i x;simp only[OP,xan,xay,xbk,xaC,xbQ,xbz,List.contains_eq_mem]at x;obtain⟨q,⟨r,s⟩,t⟩:=x;split at g3
 case h_2=>cases g3
 rename_i ls u;obtain⟨aG,a2,A,B,rfl⟩:=sa u;have g:At (aG++a2) 0 (aG++a2):=λj d F=>by rw[xav];exact F
 have w:∀k,(e.objs.map (·.1)).contains k=true->∃o,dh (kV (aG++a2) e.objs (qA (aG++a2) e.au 0).2).1 k=some o:=by intro k l;exact CI (by rw[sb];simpa using l)
 obtain⟨I,J⟩:=OS w A g.left;have y:=g.right;rw[<-J]at y;obtain⟨K,N⟩:=IC w B y;have i:eX τ (restore e (aG++a2)):=by refine Y0 _ (by rw[sb];exact q) I K ?_;intro k l n;have G:=g2 k l n;obtain⟨C,p,c,a,m⟩:=s k G;refine⟨?_,C⟩;obtain⟨L,M⟩:=p;simp only at a m;subst a;exact ID _ _ _ _ t ⟨_,c,m⟩
 refine⟨_,g1.trans i,?_,g3⟩;intro k l n;obtain⟨o,H⟩:=tX n;have:=qt H;rw[sb]at this;obtain⟨p,c,a⟩:=xaK.1 this;rcases r p c with f|f
 .rw[a]at f;exact absurd f (Nat.not_lt.2 l)
 rw[a]at f;exact f
def CK(objs:bP)(cs:List az):oY:=if cs.all nU=true then fk (cs.map (toD objs))else none
def qB(objs:bP)(ks:List Key):az->az
 | .ptr k off=>if k∈ks then match objs k with
   |some (.box cs)=>match CK objs cs with|some a=> .cH a off|none=> .ptr k off
   |_=> .ptr k off
  else .ptr k off
 | .row k=>if k∈ks then match objs k with|some (.row n es)=> .d (.aw n es)|_=> .row k
  else .row k
 | .map k=>if k∈ks then match objs k with|some (.map es)=> .d (.mp es)|_=> .map k
  else .map k
 |x=>x
def CL(objs:bP)(ks:List Key):az->az
 | .agg cs=>tP (cs.map (qB objs ks))| .fn f first cap=> .fn f (first.map (qB objs ks)) (cap.map (qB objs ks))
 |x=>qB objs ks x
def yb(objs:bP)(ks:List Key):b6->b6
 | .box cs=> .box (cs.map (CL objs ks))|o=>o
def IE(objs:bP)(k:Key):Bool:=match objs k with|some (.row _ _)=>decide (k<10000)|some (.map _)=>decide (k<10000)|some (.box cs)=>decide (k<10000)&&(CK objs cs).isSome|_=>false
def freeze(ks:List Key)(σ:ar):ar:=⟨λt=>CL σ.objs ks (σ.au t),λk=>if k∈ks then some .dead else(σ.objs k).map (yb σ.objs ks)⟩
section
variable{m:Mem}{fr:dr}{ρ:cp}{σ:ar}{a:Act}{w:World}{ks:List Key}
def Z0(h:Den m fr ρ σ a w){key off:Nat}{cs:List az}{g:lZ}(p:σ.objs key=some (.box cs))(d:CK σ.objs cs=some g)(z:key∈ks){U:Key->Prop}{v:Value}(A:bz m ρ σ.used (.ptr key off) v):bz (Den.part m ρ ks w) ρ U (.cH g off) v:=by
 have k:=Den.nS m ρ ks w;obtain⟨b,vs,s,n,t,o,u⟩:=h.objs _ _ p;have x:=h.BY p rfl z (by rw[n];rfl);unfold CK at d;split at d
 case isFalse=>cases d
 rename_i i;obtain⟨g1,g2⟩:=mK d;rw[xaU]at g1;cases A with
 |ptr _ _ b' hu q=>
  rw[n]at q;cases q;have:=bz.cH (m:=Den.part m ρ ks w) (ρ:=ρ) (U:=U) g off b 0 vs s (0,0) (by rw[x];exact t) (λj=>(vs[j]?).getD undef) ?_ ?_
  .simpa using this
  .intro j c f;have e:j<vs.size:=by rw[o,<-g1];exact(lV.1 f).1
   simp[xaj e]
  intro j c f;have e:j<vs.size:=by rw[o,<-g1];exact(lV.1 f).1
  have g3:=g2 j c f;rw[xag,xae]at g3;obtain⟨y,r,l⟩:=g3;have:=u j y vs[j] r (xaj e);simp only[xaj e,xbn];exact(HM (xay.1 i y (xad r)) l this).mono k
def OT(h:Den m fr ρ σ a w){x:az}{v:Value}(c:bz m ρ σ.used x v):bz (Den.part m ρ ks w) ρ (freeze ks σ).used (qB σ.objs ks x) v:=by
 have b:=Den.nS m ρ ks w;have e:∀k,σ.used k->(freeze ks σ).used k/\ρ k=ρ k:=by
  rintro k ⟨o,j⟩;refine⟨?_,rfl⟩;unfold ar.used freeze;by_cases f:k∈ks;.exact⟨.dead,by simp[f]⟩
  exact⟨yb σ.objs ks o,by simp[f,j]⟩
 unfold qB;split
 .rename_i k off;split
  .rename_i g;split
   .rename_i cs f;split;.rename_i l i;exact Z0 h f i g c
    exact c.mono b e
   exact c.mono b e
  exact c.mono b e
 .rename_i k;split
  .rename_i g;split;.rename_i n es f;cases c;exact .d _ _ (HH h f g)
   exact c.mono b e
  exact c.mono b e
 .rename_i k;split
  .rename_i g;split;.rename_i es f;cases c;exact .d _ _ (X4 h f g)
   exact c.mono b e
  exact c.mono b e
 exact c.mono b e
def IF(h:Den m fr ρ σ a w){cs:List az}{vs:Array Value}(ah:vs.size=cs.length)(aX:∀(i:Nat)(c:az)(v:Value),cs[i]?=some c->vs[i]?=some v->bz m ρ σ.used c v):vs.size=(cs.map (qB σ.objs ks)).length/\∀(i:Nat)(c:az)(v:Value),(cs.map (qB σ.objs ks))[i]?=some c->vs[i]?=some v->bz (Den.part m ρ ks w) ρ (freeze ks σ).used c v:=by refine⟨by simpa using ah,?_⟩;intro i c v b d;simp only[xag,xae]at b;obtain⟨y,e,rfl⟩:=b;exact OT h (aX i y v e d)
def OU(h:Den m fr ρ σ a w){x:az}{v:Value}(d:bz m ρ σ.used x v):bz (Den.part m ρ ks w) ρ (freeze ks σ).used (CL σ.objs ks x) v:=by
 unfold CL;split
 .cases d with|agg _ vs ah aX=>
  obtain⟨ab,ae⟩:=IF (ks:=ks) h ah aX;exact BP (.agg _ _ ab ae)
 .cases d with|fn _ _ _ vs f ah c aX b=>
  obtain⟨ab,ae⟩:=IF (ks:=ks) h ah aX;obtain⟨ai,e⟩:=IF (ks:=ks) h c b;exact .fn _ _ _ _ _ ab ai ae e
 exact OT h d
def Z1(ks:List Key)(L:ks.all (IE σ.objs)=true):eX σ (freeze ks σ):=by
 intro m fr ρ a w h;have z:=Den.nS m ρ ks w;have G:∀k∈ks,(k<10000/\∃n es,σ.objs k=some (.row n es))\/(k<10000/\∃es,σ.objs k=some (.map es))\/(k<10000/\∃cs,σ.objs k=some (.box cs)):=by
  intro k d;have:=xay.1 L k d;unfold IE at this;split at this
  .rename_i n es e;exact .inl ⟨xbb this,n,es,e⟩
  .rename_i es e;exact .inr (.inl ⟨xbb this,es,e⟩)
  .rename_i cs e;simp only[xan,xaC]at this;exact .inr (.inr ⟨this.1,cs,e⟩)
  cases this
 have own:∀k∈ks,∃o,σ.objs k=some o/\o.owns=true:=by
  intro k d;rcases G k d with⟨_,n,es,e⟩|⟨_,es,e⟩|⟨_,cs,e⟩
  .exact⟨_,e,rfl⟩
  .exact⟨_,e,rfl⟩
  exact⟨_,e,rfl⟩
 have p:∀b,Den.part m ρ ks w b=m b\/∃k∈ks,blockOf (ρ k)=some b/\Den.part m ρ ks w b=w.heap[b]?:=by
  intro b;unfold Den.part;cases Q:m b with
  |some x=>exact .inl rfl
  |none=>
   simp only;by_cases g:∃k∈ks,blockOf (ρ k)=some b;.rw[xac g];obtain⟨k,ab,ae⟩:=g;exact .inr ⟨k,ab,ae,rfl⟩
   rw[xab g];exact .inl rfl
 have hg:∀k o,(freeze ks σ).objs k=some o->o.owns=true->k∉ks/\∃o0,σ.objs k=some o0/\o=yb σ.objs ks o0/\o0.owns=true:=by
  intro k o d q;unfold freeze at d;simp only at d;split at d;.cases d;cases q
  rename_i A;obtain⟨o0,ab,rfl⟩:=xae.1 d;refine⟨A,o0,ab,rfl,?_⟩;cases o0<;>first|rfl|exact q
 refine⟨Den.part m ρ ks w,ρ,z,⟨?_,h.frame,?_,?_,?_,?_,?_,?_⟩,?_⟩
 .intro b o f;rcases p b with e|⟨k,_,_,e⟩
  .rw[e]at f;exact h.mem b o f
  rw[e]at f;exact f
 .intro b f;rcases p b with e|⟨k,ab,ae,e⟩
  .rw[e]at f;exact h.apart b f
  obtain⟨o,ai,E⟩:=own k ab;exact(h.own k o b ai E ae).2
 .rintro k ⟨o,q⟩;unfold freeze at q;simp only at q;split at q;.rename_i d;obtain⟨o,ai,E⟩:=own k d;exact h.one k ⟨o,ai⟩
  obtain⟨o0,ab,rfl⟩:=xae.1 q;exact h.one k ⟨o0,ab⟩
 .intro t;exact OU h (h.au t)
 .intro k o d;have F:=d;unfold freeze at d;simp only at d;split at d
  .cases d;trivial
  obtain⟨o0,ab,rfl⟩:=xae.1 d;have ae:=h.objs k o0 ab;cases o0 with
  |dead=>trivial|box cs=>obtain⟨b,vs,T,s,u,B,C⟩:=ae;refine⟨b,vs,T,s,u,by simpa using B,?_⟩;intro i c x g O;simp only[xag,xae]at g;obtain⟨y,bX,rfl⟩:=g;exact OU h (C i y x bX O)
  |row n es=>
   rcases ae with⟨s,u⟩|⟨b,o,cap,vs,R,s,u,B,C,I,S⟩;.exact .inl ⟨s,u⟩
   exact .inr ⟨b,o,cap,vs,R,s,u,B,C,I,λi e j c ag Y=>by obtain⟨x,g1,g2⟩:=S i e j c ag Y;exact⟨x,g1,g2.mono z⟩⟩
  |map es=>obtain⟨r,D,clock,s,u,B,C,I⟩:=ae;exact⟨r,D,clock,s,u,B,C,λi e x X O=>(I i e x X O).mono z⟩
 .intro k o b d q f;obtain⟨A,o0,ab,rfl,ae⟩:=hg k o d q;have ai:=h.own k o0 b ab ae f;refine⟨?_,ai.2⟩;rcases p b with e|⟨H,E,U,e⟩
  .rw[e];exact ai.1
  obtain⟨o',V,W⟩:=own H E;exact absurd U (h.sep k H o0 o' b (by rintro rfl;exact A E) ab V ae W f)
 .intro k H o o' b M d F q N f;obtain⟨A,o0,ab,rfl,ae⟩:=hg k o d q;obtain⟨Z,P,J,rfl,K⟩:=hg H o' F N;exact h.sep k H o0 P b M ab J ae K f
 intro k d f;refine⟨?_,rfl⟩;have A:k∉ks:=by
  intro Q;rcases G k Q with⟨l,_⟩|⟨l,_⟩|⟨l,_⟩
  .exact absurd d (Nat.not_le.2 l)
  .exact absurd d (Nat.not_le.2 l)
  exact absurd d (Nat.not_le.2 l)
 show ds (if k∈ks then some .dead else(σ.objs k).map (yb σ.objs ks));rw[xab A];rcases f with⟨c,g⟩|⟨n,es,g⟩|⟨es,g⟩
 .rw[g];exact o5
 .rw[g];exact nT
 rw[g];exact qk
end
def sc{a:Type}:List (List Key)->ar->(ar->Option a)->Option a
 |[],σ,k=>k σ|ks::r,σ,k=>match ks with|[]=>sc r σ k|_=>if ks.all (IE σ.objs)=true then sc r (freeze ks σ) k else none
def uw{b:Type}(t:Tmp)(σ:ar)(k:ar->Option b):Option b:=match σ.au t with
 | .sub key a i len=>match σ.objs key,σ.objs t with
  |some (.row c es),none=>if a=c/\key<10000/\t<10000 then bF (decide (i+len<=es.length)) (k ⟨bL σ.au t (.row t),bL (bL σ.objs key (some .dead)) t (some (.row a ((es.drop i).take len)))⟩)else none
  |_,_=>none
 |_=>none
def Z2{σ:ar}{t key q i len:Nat}{es:mW}(cx:σ.au t= .sub key q i len)(H:σ.objs key=some (.row q es))(ak:σ.objs t=none)(cA:i+len<=es.length)(R:key<10000):eX σ ⟨bL σ.au t (.row t),bL (bL σ.objs key (some .dead)) t (some (.row q ((es.drop i).take len)))⟩:=by
 intro m fr ρ a w h;have S:key≠t:=by rintro rfl;rw[H]at ak;cases ak
 have C:((es.drop i).take len).length=len:=uZ
 have n:∀j o,(bL (bL σ.objs key (some .dead)) t (some (.row q ((es.drop i).take len)))) j=some o->(j=t/\o= .row q ((es.drop i).take len))\/(j=key/\o= .dead)\/(j≠t/\j≠key/\σ.objs j=some o):=by
  intro j o y;by_cases ab:j=t;.subst ab;rw[dw]at y;cases y;exact .inl ⟨rfl,rfl⟩
  rw[ca _ _ ab]at y;by_cases ae:j=key;.subst ae;rw[dw]at y;cases y;exact .inr (.inl ⟨rfl,rfl⟩)
  rw[ca _ _ ae]at y;exact .inr (.inr ⟨ab,ae,y⟩)
 let v:=a.tmps.getD t undef
 have T:=h.au t;rw[cx]at T;have N:∀k,σ.used k->ar.used ⟨bL σ.au t (.row t),bL (bL σ.objs key (some .dead)) t (some (.row q ((es.drop i).take len)))⟩ k/\bL ρ t v k=ρ k:=by
  rintro k ⟨o,r⟩;have l:k≠t:=by rintro rfl;rw[r]at ak;cases ak
  refine⟨?_,ca _ _ l⟩;by_cases ae:k=key;.subst ae;exact⟨.dead,by simp only[ca _ _ l,dw]⟩
  exact⟨o,by simp only[ca _ _ l,ca _ _ ae];exact r⟩
 have piece:hA v=true/\(blockOf v=none\/blockOf v=blockOf (ρ key))/\gC m (bL ρ t v) (ar.used ⟨bL σ.au t (.row t),bL (bL σ.objs key (some .dead)) t (some (.row q ((es.drop i).take len)))⟩) v w (.row q ((es.drop i).take len)):=by
  have M:=h.objs key _ H;generalize V:a.tmps.getD t undef=u at T;have U:v=u:=V;rw[U];cases T with
  |hf _ _ _ hu O=>exact⟨rfl,.inl rfl,.inl ⟨rfl,by simp⟩⟩
  |sub _ _ _ _ b o L cap bX hu O Y Q=>
   refine⟨rfl,.inr (by rw[O];rfl),?_⟩;rcases M with⟨J,X⟩|⟨b',o',W,vs,Z,J,X,cK,b5,b3,b0⟩
   .rw[O]at J;cases J
   rw[O]at J;cases J;refine .inr ⟨b,bX,cap-i,vs,Z,by rw[C],X,by rw[C];omega,?_,?_,?_⟩
   .by_cases G:i<cap
    .rw[Q.1 G,xbl,<-xba];have:i+(cap-i)=cap:=oZ
     rw[this];exact b5
    have:cap-i=0:=oZ
    rw[this,Nat.zero_mul];have:=Q.2;omega
   .intro e ck;exact b3 e (xbq (xbr ck))
   intro p e j c I y;rw[xaQ]at I;split at I
   case isFalse=>cases I
   rename_i cC;rw[xaY]at I;obtain⟨x,g1,g2⟩:=b0 (i+p) e j c I y;have G:i<cap:=by have:=(lV.1 I).1;omega
   refine⟨x,?_,g2⟩;rw[Q.1 G];have:o+i*q+p*q+j=o+(i+p)*q+j:=by rw[xba];omega
   rw[this];exact g1
 obtain⟨cU,g,de⟩:=piece;refine⟨m,bL ρ t v,Mem.le_refl m,⟨h.mem,h.frame,h.apart,?_,?_,?_,?_,?_⟩,?_⟩
 .rintro k ⟨o,r⟩;rcases n k o r with⟨rfl,_⟩|⟨rfl,_⟩|⟨ab,ae,ai⟩;.rw[dw];exact cU
  .rw[ca _ _ S];exact h.one _ ⟨_,H⟩
  rw[ca _ _ ab];exact h.one _ ⟨_,ai⟩
 .intro s;by_cases aj:s=t;.subst aj;simp only[dw];have:bz m (bL ρ s v) (ar.used ⟨bL σ.au s (.row s),bL (bL σ.objs key (some .dead)) s (some (.row q ((es.drop i).take len)))⟩) (.row s) (bL ρ s v s):= .row s ⟨_,dw _ _ _⟩;rw[dw]at this;exact this
  simp only[ca _ _ aj];exact(h.au s).mono (Mem.le_refl m) N
 .intro k o f;rcases n k o f with⟨rfl,rfl⟩|⟨rfl,rfl⟩|⟨ab,ae,ai⟩
  .rw[dw];exact de
  .trivial
  rw[ca _ _ ab];exact(h.objs k o ai).mono (Mem.le_refl m) N (λb _ _=>rfl)
 .intro k o b f r d;rcases n k o f with⟨rfl,rfl⟩|⟨rfl,rfl⟩|⟨ab,ae,ai⟩
  .rw[dw]at d;rcases g with g|g
   .rw[g]at d;cases d
   exact h.own key _ b H rfl (by rw[<-g];exact d)
  .cases r
  rw[ca _ _ ab]at d;exact h.own k o b ai r d
 .intro k P o o' b z f B r A d;rcases n k o f with⟨rfl,rfl⟩|⟨rfl,rfl⟩|⟨ab,ae,ai⟩
  .rcases n P o' B with⟨rfl,rfl⟩|⟨rfl,rfl⟩|⟨E,K,F⟩;.exact absurd rfl z
   .cases A
   rw[dw]at d;rw[ca _ _ E];rcases g with g|g
   .rw[g]at d;cases d
   exact h.sep key P _ o' b (xbZ K) H F rfl A (by rw[<-g];exact d)
  .cases r
  rw[ca _ _ ab]at d;rcases n P o' B with⟨rfl,rfl⟩|⟨rfl,rfl⟩|⟨E,K,F⟩
  .rw[dw];rcases g with g|g
   .rw[g];exact λaX=>by cases aX
   rw[g];exact h.sep k key o _ b ae ai H r rfl d
  .cases A
  rw[ca _ _ E];exact h.sep k P o o' b z ai F r A d
 intro k f d;have l:k≠t:=by rintro rfl;rw[ak]at d;exact o6 d
 have z:k≠key:=by rintro rfl;exact absurd R (Nat.not_lt.2 f)
 exact⟨by simp only[ca _ _ l,ca _ _ z];exact d,ca _ _ l⟩
def qC(φ:Key->Key):az->az
 | .any=> .any| .d x=> .d x| .cH cs off=> .cH cs off| .ptr k off=> .ptr (φ k) off| .ey k a i off=> .ey (φ k) a i off| .row k=> .row (φ k)| .sub k a i len=> .sub (φ k) a i len| .map k=> .map (φ k)|_=> .any
def yc(φ:Key->Key):az->az
 | .agg cs=> .agg (cs.map (qC φ))| .aB cs=> .aB (cs.map (qC φ))| .fn f as dm=> .fn f (as.map (qC φ)) (dm.map (qC φ))|x=>qC φ x
def pj(φ:Key->Key):b6->b6
 | .box cs=> .box (cs.map (yc φ))|o=>o
section
variable{m:Mem}{ρ l2:cp}{U qD:Key->Prop}{φ:Key->Key}
def OV(h:∀k,U k->qD (φ k)/\l2 (φ k)=ρ k){x:az}{v:Value}(f:bz m ρ U x v):bz m l2 qD (qC φ x) v:=by cases f with|any v=>exact .any _|d x v f=>exact .d _ _ f|agg=>exact .any _|aB=>exact .any _|cH cs off b o vs T j n p ab ae=>exact .cH _ _ b o vs T j n p ab ae|ptr k off b hu c=>exact .ptr _ _ b (h k hu).1 ((h k hu).2.trans c)|ey k g i off b o len cap hu c=>exact .ey _ _ _ _ b o len cap (h k hu).1 ((h k hu).2.trans c)|row k hu=>rw[<-(h k hu).2];exact .row _ (h k hu).1|sub k g i len b o L cap a hu c e l=>exact .sub _ _ _ _ b o L cap a (h k hu).1 ((h k hu).2.trans c) e l|hf k g i hu c=>exact .hf _ _ _ (h k hu).1 ((h k hu).2.trans c)|map k hu=>rw[<-(h k hu).2];exact .map _ (h k hu).1|fn=>exact .any _
def CM(h:∀k,U k->qD (φ k)/\l2 (φ k)=ρ k){cs:List az}{vs:Array Value}(ah:vs.size=cs.length)(aX:∀(i:Nat)(c:az)(v:Value),cs[i]?=some c->vs[i]?=some v->bz m ρ U c v):vs.size=(cs.map (qC φ)).length/\∀(i:Nat)(c:az)(v:Value),(cs.map (qC φ))[i]?=some c->vs[i]?=some v->bz m l2 qD c v:=by refine⟨by simpa using ah,?_⟩;intro i c v a b;simp only[xag,xae]at a;obtain⟨y,d,rfl⟩:=a;exact OV h (aX i y v d b)
def OW(h:∀k,U k->qD (φ k)/\l2 (φ k)=ρ k){x:az}{v:Value}(a:bz m ρ U x v):bz m l2 qD (yc φ x) v:=by
 unfold yc;split
 .cases a with|agg _ vs ah aX=>
  obtain⟨ab,ae⟩:=CM h ah aX;exact .agg _ _ ab ae
 .cases a with|aB _ vs ah aX=>
  obtain⟨ab,ae⟩:=CM h ah aX;exact .aB _ _ ab ae
 .cases a with|fn _ _ _ vs e ah c aX b=>
  obtain⟨ab,ae⟩:=CM h ah aX;obtain⟨ai,d⟩:=CM h c b;exact .fn _ _ _ _ _ ab ai ae d
 exact OV h a
def Z3(h:∀k,U k->qD (φ k)/\l2 (φ k)=ρ k){o:b6}{v:Value}{w:World}(a:gC m ρ U v w o):gC m l2 qD v w (pj φ o):=by
 cases o with
 |dead=>trivial|box cs=>obtain⟨b,vs,T,e,f,g,j⟩:=a;refine⟨b,vs,T,e,f,by simpa using g,?_⟩;intro i c x d l;simp only[xag,xae]at d;obtain⟨y,n,rfl⟩:=d;exact OW h (j i y x n l)
 |row=>exact a|map=>exact a
theorem Z4{o:b6}:(pj φ o).owns=o.owns:=by cases o<;>rfl
end
def Z5:Act:={tmps:= #[],defers:=[]}
def pk(m:Mem)(fr:dr)(ρ:cp)(E:bP)(w:World):Prop:=Den m fr ρ ⟨λ_=> .any,E⟩ Z5 w
def mS(E:bP)(k:Key):Prop:=∃o,E k=some o
structure eK where
 f:FuncId
 args:List SW
 ins:List (Key×iK)
 res:SW
 outs:List (Key×iK)
def eK.qE(s:eK)(ls:lZ):List az:=(mR ls s.args 0).1
def eK.ko(s:eK)(ls:lZ):List (Key×b6):=(kV ls s.ins (mR ls s.args 0).2).1
def eK.CN(s:eK)(ls:lZ):az:=(ln ls s.res 0).1
def eK.lp(s:eK)(ls:lZ):List (Key×b6):=(kV ls s.outs (ln ls s.res 0).2).1
structure qF(P:Program)(G:cj)(s:eK)(F:lZ->oY):Prop where
 fn:qj P s.f
 run:∀ls CO,F ls=some CO->∀(m:Mem)(fr:dr)(ρ:cp)(w:World)(vs:List Value),gk G m->pk m fr ρ (dh (s.ko ls)) w->vs.length=(s.qE ls).length->(∀(i:Nat)(x:az)(v:Value),(s.qE ls)[i]?=some x->vs[i]?=some v->bz m ρ (mS (dh (s.ko ls))) x v)->Calls P s.f vs.toArray w λe w'=>∃v rV l2,e= .returned v/\m.le rV/\pk rV fr l2 (dh (s.lp CO)) w'/\bz rV l2 (mS (dh (s.lp CO))) (s.CN CO) v/\ ∀k,10000<=k->ds (dh (s.ko ls) k)->l2 k=ρ k
def mT(a:List (Key×Key))(base:Nat)(k:Key):Key:=if 10000<=k then ee a k else base+(k-9000)
def qG(objs:bP)(dead:List Key)(outs:List (Key×b6)):bP:=λp=>match dh outs p with|some o=>some o|none=>if p∈dead then some .dead else objs p
def Z6:iK->Bool
 | .row _=>true| .map=>true|_=>false
def OX(objs:bP)(a:List (Key×Key))(base:Nat)(s:eK):Bool:=r1 (ee a) (s.ins.map (·.1))&&r1 (mT a base) (s.outs.map (·.1))&&decide ((s.ins.map (·.1)).Nodup)&&decide ((s.outs.map (·.1)).Nodup)&&s.outs.all (λp=>if 10000<=p.1 then s.ins.any (λq=>q.1==p.1&&uv q.2)else decide (9000<=p.1)&&decide (mT a base p.1<10000)&&(objs (mT a base p.1)).isNone)&&s.ins.all (λq=>if 10000<=q.1 then uv q.2&&s.outs.any (λp=>p.1==q.1&&uv p.2)else Z6 q.2&&decide (ee a q.1<10000))
section
variable{β:Type}
def IG(G:cj)(s:eK)(F:lZ->oY)(base:Nat)(σ:ar)(o:Oper)(x:Operand)(args:List Operand)(k:ar->Option β):Option β:=match qm (bD G σ.au x)with
 |some (f,pre,post)=>
  if f=s.f then
   let b:=pre++args.map (bD G σ.au)++post
   let a:=ur σ s.ins (CD b s.args)
   let ks:=s.ins.map (·.1)
   if OX σ.objs a base s=true then
    match ph (CG a ks b s.args) (CH a ks σ s.ins)with|some ls=>af (F ls) λc=>k (ar.put ⟨σ.au,qG σ.objs (ks.map (ee a)) ((s.lp c).map λp=>(mT a base p.1,pj (mT a base) p.2))⟩ o.dst (yc (mT a base) (s.CN c)))|none=>none
   else none
  else none
 |none=>none
end
section
variable{P:Program}{T:bC}{G:cj}{m:Mem}{fr:dr}{ρ:cp}{σ:ar}{a:Act}{w:World}{N:Nat}
def Z7(K:gk G m)(h:Den m fr ρ σ a w){o:Oper}{x:Operand}{args:Array Operand}{E:Array TypeId}(C:o.op= .call ⟨.value x,args,E⟩){f:FuncId}{pre post:List az}(b:qm (bD G σ.au x)=some (f,pre,post))(L:qj P f): ∃vs:List Value,vs.length=(pre++args.toList.map (bD G σ.au)++post).length/\(∀(i:Nat)(c:az)(v:Value),(pre++args.toList.map (bD G σ.au)++post)[i]?=some c->vs[i]?=some v->bz m ρ σ.used c v)/\(execOp a.eval o).run P w= .ok (.enter f vs.toArray) w:=by
 have t:=xK (a:=a) K h.au;have l:=t x;have k:∃first cap,a.eval x= .func (.func f) first cap/\first.size=pre.length/\cap.size=post.length/\(∀(i:Nat)(c:az)(v:Value),pre[i]?=some c->first[i]?=some v->bz m ρ σ.used c v)/\(∀(i:Nat)(c:az)(v:Value),post[i]?=some c->cap[i]?=some v->bz m ρ σ.used c v):=by
  unfold qm at b;split at b
  .rename_i H first cap s
   split at b
   case isFalse=>cases b
   rename_i ak;cases b;rw[s]at l;exact⟨first,cap,l.fq,by simpa using ak.1,by simpa using ak.2,by intro i c v e;simp at e,by intro i c v e;simp at e⟩
  .rename_i H first cap s
   cases b;rw[s]at l;generalize a.eval x=u at l;cases l with|fn _ _ _ vs F ah n g z=>exact⟨vs,F,rfl,ah,n,g,z⟩
  .rename_i H first cap s
   cases b;rw[s]at l;have l:=l.kN;generalize a.eval x=u at l;cases l with|fn _ _ _ vs F ah n g z=>
   refine⟨vs,F,rfl,by simpa using ah,by simpa using n,?_,?_⟩;.intro i c v e j;simp only[xag,xae]at e;obtain⟨y,D,rfl⟩:=e;exact .d _ _ (g i y v D j)
   intro i c v e j;simp only[xag,xae]at e;obtain⟨y,D,rfl⟩:=e;exact .d _ _ (z i y v D j)
  .cases b
 obtain⟨first,cap,A,r,B,g1,g2⟩:=k;refine⟨(first++args.map a.eval++cap).toList,by simp[r,B],?_,?_⟩
 .intro i c v e j;simp only[Array.toList_append,Array.toList_map]at j;have J:first.toList.length=pre.length:=by simpa using r
  by_cases ab:i<pre.length;.rw[xaL,xap ab]at e;rw[xaL,xap oZ]at j;exact g1 i c v e (by simpa using j)
  by_cases ae:i<pre.length+args.size;.rw[xap uZ,xas oZ]at e;rw[xap uZ,xas oZ,J]at j;simp only[xag,xae]at e j;obtain⟨p,M,rfl⟩:=e;obtain⟨q,I,rfl⟩:=j;rw[M]at I;cases I;exact t _
  rw[xas uZ]at e;rw[xas uZ]at j;refine g2 _ c v e ?_;rw[<-j];simp only[xaS,xaU,xbX,r];simp
 unfold execOp;rw[C];simp only[Array.toArray_toList];exact Nt A L
def OY{φ:Key->Key}:∀{lo:List (Key×b6)} {p:Key} {o:b6},dh (lo.map λq=>(φ q.1,pj φ q.2)) p=some o->∃k o0,k∈ji lo/\φ k=p/\o=pj φ o0/\((ji lo).Nodup->dh lo k=some o0)
 |[],p,o,h=>by cases h
 |(j,x)::r,p,o,h=>by
  simp only[xaw,dh]at h;split at h;.rename_i e;cases h;exact⟨j,x,by simp[ji],e.symm,rfl,λ_=>by simp[dh]⟩
  obtain⟨k,o0,ab,ae,ai,d⟩:=OY h;refine⟨k,o0,?_,ae,ai,?_⟩;.simp only[ji,xaw,xam]at ab⊢;exact .inr ab
  intro b;simp only[ji,xaw,List.nodup_cons]at b ab;have c:k≠j:=by rintro rfl;exact b.1 ab
  simp only[dh,xab c];exact d b.2
def IH{φ:Key->Key}:∀{lo:List (Key×b6)} {k:Key},k∈ji lo->∃o,dh (lo.map λq=>(φ q.1,pj φ q.2)) (φ k)=some o
 |[],k,h=>by cases h
 |(j,x)::r,k,h=>by
  simp only[xaw,dh];split;.exact⟨_,rfl⟩
  rename_i b;simp only[ji,xaw,xam]at h;rcases h with rfl|h
  .exact absurd rfl b
  exact IH h
def OZ{ls:lZ}{l:List (Key×iK)}{n:Nat}{k:Key}(e:(l.map (·.1)).Nodup){q:Key×iK}(f:q∈l)(d:q.1=k)(c:uv q.2=true):ds (dh (kV ls l n).1 k):=by obtain⟨a,b⟩:=q;simp only at d c;subst d;exact ID ls l n _ e ⟨_,f,c⟩
def Z8{φ:Key->Key}{U:Key->Prop}{o o':b6}(h:rZ φ U o' o)(b:ds (some o)):ds (some o'):=by
 cases o with
 |dead=>exact absurd b xQ|box=>obtain⟨c,rfl,_⟩:=h;exact o5
 |row=>obtain⟨es,rfl,_⟩:=h;exact nT
 |map=>cases o'<;>first|exact qk|exact h.elim|cases h
def Z9(O0:gk G m)(h:Den m fr ρ σ a w)(O1:N<=a.tmps.size)(aaa:a.defers=[]){o:Oper}(Hy:∀d,o.dst=some d->d<N){s:eK}{F:lZ->oY}(HC:qF P G s F){base:Nat} {x:Operand} {args:Array Operand} {aab:Array TypeId} (II:o.op= .call ⟨.value x,args,aab⟩) {O2:Type} {k:ar->Option O2} {b:O2} (cK:IG G s F base σ o x args.toList k=some b) {Q:Exit->Act->World->Prop}:o.wp P a w (gz N m fr ρ σ (λO3=>k O3=some b/\∀p,10000<=p->ds (O3.objs p)->ds (σ.objs p))) Q:=by
 have aac:∀d,o.dst=some d->d<a.tmps.size:=λd aad=>xch (Hy d aad) O1;have aae:∀v,N<=(a.put o.dst v).tmps.size:=by intro v;cases o.dst<;>simpa[Act.put]using O1
 have aaf:∀v,(a.put o.dst v).defers=[]:=by intro v;cases o.dst<;>exact aaa
 unfold IG at cK;split at cK
 case h_2=>cases cK
 rename_i f pre post HB;split at cK
 case isFalse=>cases cK
 rename_i ek;subst ek;simp only at cK;generalize anQ:ur σ s.ins (CD (pre++args.toList.map (bD G σ.au)++post) s.args)=b0 at cK;generalize aag:pre++args.toList.map (bD G σ.au)++post=anR at cK;split at cK
 case isFalse=>cases cK
 rename_i ix;split at cK
 case h_2=>cases cK
 rename_i ls aah;obtain⟨L,aai,b3⟩:=cR cK;simp only[OX,xan,xay,xaC]at ix;obtain⟨⟨⟨⟨⟨c1,c2⟩,b8⟩,eZ⟩,jl⟩,jm⟩:=ix;obtain⟨aG,a2,IJ,IK,rfl⟩:=sa aah;have BW:At (aG++a2) 0 (aG++a2):=λj d aaj=>by rw[xav];exact aaj
 have cA:ji (s.ko (aG++a2))=s.ins.map (·.1):=sb _ _ _;have X:ji (s.lp L)=s.outs.map (·.1):=sb _ _ _;have O4:∀k,(s.ins.map (·.1)).contains k=true->mS (dh (s.ko (aG++a2))) k:=by intro k b3;exact CI (by rw[cA];simpa using b3)
 obtain⟨aak,aal⟩:=IB O4 IJ BW.left;have O5:=BW.right;rw[<-aal]at O5;obtain⟨fB,anS⟩:=IC O4 IK O5;have fB:r0 (ee b0) (mS (dh (s.ko (aG++a2)))) σ (s.ko (aG++a2)):=fB;have HD:∀k j,k∈s.ins.map (·.1)->j∈s.ins.map (·.1)->ee b0 k=ee b0 j->k=j:=Ch c1;have eI:∀k j,k∈s.outs.map (·.1)->j∈s.outs.map (·.1)->mT b0 base k=mT b0 base j->k=j:=Ch c2;have cU:∀{o o':b6},rZ (ee b0) (mS (dh (s.ko (aG++a2)))) o' o->o.owns=true->o'.owns=true:=by
  intro o o' Z II;cases o with
  |dead=>cases II
  |box=>obtain⟨aam,rfl,_⟩:=Z;rfl
  |row=>obtain⟨es,rfl,_⟩:=Z;rfl
  |map=>cases Z;rfl
 have nR:∀{k o},dh (s.ko (aG++a2)) k=some o->k∈s.ins.map (·.1):=λb3=>by rw[<-cA];exact qt b3
 have aan:∀{k o},dh (s.lp L) k=some o->k∈s.outs.map (·.1):=λb3=>by rw[<-X];exact qt b3
 let passed:Key->Prop:=λp=>∃k,k∈s.ins.map (·.1)/\ee b0 k=p
 let eV:Mem:=λb=>match fr b with|some o=>some o|none=>open Classical in if∃k o,σ.objs k=some o/\o.owns=true/\¬passed k/\blockOf (ρ k)=some b then w.heap[b]? else none
 let U:dr:=⟨eV,fr.os,fr.out,fr.low⟩
 have I:∀b o,fr b=some o->U b=some o:=by intro b o g;simp only[U,eV,g]
 have C:∀b k o,σ.objs k=some o->o.owns=true->¬passed k->blockOf (ρ k)=some b->U b=w.heap[b]?:=by intro b k o ab ae ai r;have H:=(h.own k o b ab ae r).2;simp only[U,eV,H];rw[xac ⟨k,o,ab,ae,ai,r⟩]
 have J:∀b,U b≠none->fr b≠none\/∃k o,σ.objs k=some o/\o.owns=true/\¬passed k/\blockOf (ρ k)=some b:=by intro b g;cases ek:fr b with|some o=>exact .inl sZ|none=>refine .inr ?_;refine xbi λK=>g ?_;simp only[U,eV,ek];rw[xab K]
 have HE:pk m U (λk=>ρ (ee b0 k)) (dh (s.ko (aG++a2))) w:=by
  refine⟨h.mem,⟨?_,⟨h.frame.quiet.os,h.frame.quiet.out,h.frame.quiet.low⟩⟩,?_,?_,λ_=> .any _,?_,?_,?_⟩
  .intro b o g;cases ek:fr b with
   |some o'=>rw[I b o' ek]at g;cases g;exact h.frame.iv b _ ek
   |none=>
    simp only[U,eV,ek]at g;split at g;.exact g
    cases g
  .intro b g;refine xbi λK=>?_;rcases J b K with ab|⟨k,o,ab,ae,ai,r⟩
   .exact ab (h.apart b g)
   exact g (h.own k o b ab ae r).1
  .rintro k ⟨o,Y⟩;obtain⟨o',ab,_⟩:=fB.ok k o Y;exact h.one _ ⟨o',ab⟩
  .intro k o Y;obtain⟨o',ab,ae⟩:=fB.ok k o Y;have ai:=h.objs _ _ ab;cases o with
   |dead=>trivial|box anT=>obtain⟨aam,rfl,Z⟩:=ae;obtain⟨b,vs,T,IJ,IK,aao,aap⟩:=ai;have:=nV.cells Z ⟨aao,aap⟩;exact⟨b,vs,T,IJ,IK,this.1,this.2⟩
   |row anU anV=>obtain⟨es,rfl,Z⟩:=ae;exact Z.ok ai
   |map es=>cases ae;exact ai
  .intro k o b Y fg g;obtain⟨o',ab,ae⟩:=fB.ok k o Y;have ai:=h.own _ o' b ab (cU ae fg) g;refine⟨ai.1,?_⟩;refine xbi λK=>?_;rcases J b K with r|⟨cx,anW,r,H,bX,nQ⟩
   .exact r ai.2
   have dR:ee b0 k≠cx:=by rintro rfl;exact bX ⟨k,nR Y,rfl⟩
   exact h.sep _ _ _ _ b dR ab r (cU ae fg) H g nQ
  intro k cx o o' b dR Y j0 rS rR g;obtain⟨y,ab,ae⟩:=fB.ok k o Y;obtain⟨aaq,V,de⟩:=fB.ok cx o' j0;exact h.sep (ee b0 k) (ee b0 cx) y aaq b (λe=>dR (HD k cx (nR Y) (nR j0) e)) ab V (cU ae rS) (cU de rR) g
 obtain⟨vs,O6,v2,v3⟩:=Z7 (P:=P) O0 h II HB HC.fn;rw[aag]at O6 v2;obtain⟨aar,aas⟩:=aak.ok;have lQ:=HC.run _ _ aai m U _ w vs O0 HE (O6.trans aar.symm) (by intro i y v aat aau;obtain⟨aav,aaw,Z⟩:=aas i y aat;exact Z.ok (v2 i aav v aaw aau))
 unfold Oper.wp;rw[v3];refine lQ.mono λe w' aax=>?_;obtain⟨v,IL,hC,rfl,lR,E,aay,lP⟩:=aax;generalize O7:mT b0 base=φ at*
 let l:=(s.lp L).map λp=>(φ p.1,pj φ p.2)
 let objs':=qG σ.objs ((s.ins.map (·.1)).map (ee b0)) l
 let M:cp:=λp=>match(s.outs.map (·.1)).find? (λk=>φ k==p)with|some k=>hC k|none=>ρ p
 have O:∀k,k∈s.outs.map (·.1)->M (φ k)=hC k:=by intro k b3;simp only[M];cases dE:(s.outs.map (·.1)).find? (λcx=>φ cx==φ k)with|none=>exact absurd (List.find?_eq_none.1 dE k b3) sZ|some cx=>have ab:=List.find?_some dE;simp only[xbQ]at ab;rw[eI cx k (List.mem_of_find?_eq_some dE) b3 ab]
 have fs:∀k,k∈s.outs.map (·.1)->(10000<=k/\k∈s.ins.map (·.1)/\φ k=ee b0 k/\ds (dh (s.ko (aG++a2)) k))\/(σ.objs (φ k)=none/\φ k<10000):=by
  intro k b3;obtain⟨p,z,rfl⟩:=xaK.1 b3;have ab:=jl p z;by_cases gD:10000<=p.1
  .rw[xac gD]at ab;obtain⟨q,CP,ae⟩:=xbz.1 ab;simp only[xan,xbQ]at ae;refine .inl ⟨gD,xaK.2 ⟨q,CP,ae.1⟩,?_,OZ b8 CP ae.1 ae.2⟩;rw[<-O7];simp only[mT,xac gD]
  rw[xab gD]at ab;simp only[xan,xaC,Option.isNone_iff_eq_none]at ab;exact .inr ⟨ab.2,ab.1.2⟩
 have A:∀p,σ.used p->M p=ρ p:=by
  rintro p ⟨op,z⟩;simp only[M];cases dE:(s.outs.map (·.1)).find? (λcx=>φ cx==p)with
  |none=>rfl
  |some k=>
   have ab:=List.find?_some dE;simp only[xbQ]at ab;rcases fs k (List.mem_of_find?_eq_some dE)with⟨ae,ai,r,H⟩|⟨ae,_⟩
   .simp only;rw[lP k ae H,<-r,ab]
   rw[ab,z]at ae;cases ae
 have c:∀p op,dh l p=some op->∃k o0,k∈s.outs.map (·.1)/\φ k=p/\op=pj φ o0/\dh (s.lp L) k=some o0:=by intro p op z;obtain⟨k,o0,ab,ae,ai,r⟩:=OY z;rw[X]at ab r;exact⟨k,o0,ab,ae,ai,r eZ⟩
 have S:∀k,mS (dh (s.lp L)) k->mS objs' (φ k)/\M (φ k)=hC k:=by rintro k ⟨o0,ab⟩;refine⟨?_,O k (aan ab)⟩;obtain⟨dD,ae⟩:=IH (φ:=φ) (qt ab);exact⟨dD,by simp only[objs',qG,l,ae]⟩
 have R:∀p,σ.used p->mS objs' p/\M p=ρ p:=by
  rintro p ⟨op,z⟩;refine⟨?_,A p ⟨op,z⟩⟩;unfold mS;simp only[objs',qG];cases ah:dh l p with
  |some dD=>exact⟨dD,rfl⟩
  |none=>
   simp only;split;.exact⟨_,rfl⟩
   exact⟨op,z⟩
 have B:∀p op,objs' p=some op->op.owns=true->(∃k o0,φ k=p/\op=pj φ o0/\dh (s.lp L) k=some o0/\M p=hC k/\o0.owns=true)\/(σ.objs p=some op/\¬passed p/\M p=ρ p):=by
  intro p op z u;simp only[objs',qG]at z;cases ah:dh l p with
  |some dD=>rw[ah]at z;cases z;obtain⟨k,o0,ab,ae,ai,r⟩:=c p op ah;refine .inl ⟨k,o0,ae,ai,r,?_,by rw[ai,Z4]at u;exact u⟩;rw[<-ae];exact O k ab
  |none=>
   rw[ah]at z;simp only at z;split at z;.cases z;cases u
   rename_i aaz;refine .inr ⟨z,?_,A p ⟨op,z⟩⟩;rintro⟨k,b3,rfl⟩;exact aaz (xaK.2 ⟨k,b3,rfl⟩)
 have HA:Den IL fr M ⟨σ.au,objs'⟩ a w':=by
  refine⟨E.mem,⟨λb eU g=>E.frame.iv b eU (I b eU g),⟨E.frame.quiet.os,E.frame.quiet.out,E.frame.quiet.low⟩⟩,?_,?_,?_,?_,?_,?_⟩;.intro b g;have ab:=E.apart b g;cases ek:fr b with|none=>rfl|some eU=>rw[I b eU ek]at ab;cases ab
  .rintro p ⟨op,z⟩;simp only[objs',qG]at z;cases ah:dh l p with
   |some dD=>obtain⟨k,o0,ab,ae,ai,r⟩:=c p dD ah;rw[<-ae,O k ab];exact E.one k ⟨o0,r⟩
   |none=>
    rw[ah]at z;simp only at z;have hu:σ.used p:=by
     split at z;.rename_i aaA;obtain⟨k,b3,rfl⟩:=xaK.1 aaA;obtain⟨ok,M0⟩:=CI (lo:=s.ko (aG++a2)) (k:=k) (by rw[cA];exact b3);obtain⟨o',ab,_⟩:=fB.ok k ok M0;exact⟨o',ab⟩
     exact⟨op,z⟩
    rw[A p hu];exact h.one p hu
  .intro t;exact(h.au t).mono lR R
  .intro p op z;by_cases u:op.owns=true
   .rcases B p op z u with⟨k,o0,ab,ae,ai,r,H⟩|⟨ab,ae,ai⟩;.rw[ae,r];exact Z3 S (E.objs k o0 ai)
    rw[ai];refine(h.objs p op ab).mono lR R ?_;intro b aaB Hz;have r:=C b p op ab u ae Hz;have H:∃eU,w.heap[b]?=some eU:=⟨_,xaj ((h.objs p op ab).o3 aaB Hz)⟩;obtain⟨eU,H⟩:=H;rw[H];exact E.frame.iv b eU (by rw[r,H])
   cases op with|dead=>trivial|_=>exact absurd rfl u
  .intro p op b z u g;rcases B p op z u with⟨k,o0,ab,ae,ai,r,H⟩|⟨ab,ae,ai⟩
   .rw[r]at g;have bX:=E.own k o0 b ai H g;refine⟨bX.1,?_⟩;cases ek:fr b with|none=>rfl|some eU=>rw[I b eU ek]at bX;cases bX.2
   rw[ai]at g;have r:=h.own p op b ab u g;refine⟨?_,r.2⟩;refine xbi λK=>?_;have H:=E.apart b K;rw[C b p op ab u ae g]at H;have:=(h.objs p op ab).o3 u g;rw[xaj this]at H;cases H
  intro p lO op ff b dR z eW u b5 g;rcases B p op z u with⟨k,o0,ab,ae,ai,r,H⟩|⟨ab,ae,ai⟩
  .rw[r]at g;rcases B lO ff eW b5 with⟨cx,nP,V,de,ck,je,jf⟩|⟨V,de,ck⟩
   .rw[je];exact E.sep k cx o0 nP b (by rintro rfl;exact dR (ab.symm.trans V)) ai ck H jf g
   rw[ck];intro gd;have bX:=(E.own k o0 b ai H g).2;rw[C b lO ff V b5 de gd]at bX;have:=(h.objs lO ff V).o3 b5 gd;rw[xaj this]at bX;cases bX
  rw[ai]at g;rcases B lO ff eW b5 with⟨cx,nP,V,de,ck,je,jf⟩|⟨V,de,ck⟩
  .rw[je];intro gd;have bX:=(E.own cx nP b ck jf gd).2;rw[C b p op ab u ae g]at bX;have:=(h.objs p op ab).o3 u g;rw[xaj this]at bX;cases bX
  rw[ck];exact h.sep p lO op ff b dR ab V u b5 g
 have aaC:bz IL M (mS objs') (yc φ (s.CN L)) v:=OW S aay;have MZ:∀p,10000<=p->ds (objs' p)->ds (σ.objs p):=by
  intro p z W;simp only[objs',qG]at W;cases ah:dh l p with
  |some dD=>
   obtain⟨k,o0,g1,g2,g3,g4⟩:=c p dD ah;rcases fs k g1 with⟨ae,ai,r,H⟩|⟨_,ae⟩;.obtain⟨bK,bX⟩:=tX H;obtain⟨o',nQ,aaD⟩:=fB.ok k _ bX;rw[bX]at H;rw[<-g2,r,nQ];exact Z8 aaD H
   rw[g2]at ae;exact absurd ae (Nat.not_lt.2 z)
  |none=>
   rw[ah]at W;simp only at W;split at W;.exact absurd W xQ
   exact W
 refine⟨_,IL,M,⟨b3,by rw[ar.ql];exact MZ⟩,lR,HA.put aaC aac,aae v,aaf v,?_⟩;intro p z g;rw[ar.ql];obtain⟨cs,W⟩:=tX g;refine⟨?_,A p ⟨_,W⟩⟩;show ds (objs' p);simp only[objs',qG];by_cases cC:p∈(s.ins.map (·.1)).map (ee b0)
 .obtain⟨k,aaE,rfl⟩:=xaK.1 cC;obtain⟨q,CP,rfl⟩:=xaK.1 aaE;have ab:=jm q CP;by_cases r:10000<=q.1
  .rw[xac r]at ab;simp only[xan,xbz,xbQ]at ab;obtain⟨_,lO,eW,H,bX⟩:=ab;have Hx:q.1∈s.outs.map (·.1):=xaK.2 ⟨lO,eW,H⟩;have aaF:φ q.1=ee b0 q.1:=by rw[<-O7];simp only[mT,xac r]
   obtain⟨dD,nQ⟩:=IH (φ:=φ) (lo:=s.lp L) (k:=q.1) (by rw[X];exact Hx);obtain⟨k,o0,g1,g2,g3,g4⟩:=c _ dD nQ;have aaG:k=q.1:=eI k q.1 g1 Hx g2;subst aaG;have g5:ds (dh (s.lp L) q.1):=OZ (ls:=L) (n:=(ln L s.res 0).2) eZ eW H bX;rw[g4]at g5;rw[<-aaF];have g7:dh l (φ q.1)=some dD:=nQ;rw[g7,g3];rcases g5 with⟨anX,g5⟩|⟨iL,aaH,g5⟩|⟨aaH,g5⟩
   .cases g5;exact o5
   .cases g5;exact nT
   cases g5;exact qk
  rw[xab r]at ab;simp only[xan,xaC]at ab;exact absurd ab.2 (Nat.not_lt.2 z)
 cases ah:dh l p with
 |some dD=>
  exfalso;obtain⟨k,o0,g1,g2,g3,g4⟩:=c p dD ah;rcases fs k g1 with⟨ae,ai,r,H⟩|⟨ae,_⟩
  .exact cC (xaK.2 ⟨k,ai,by rw[<-r,g2]⟩)
  rw[g2,W]at ae;cases ae
 |none=>simp only;rw[xab cC];exact g
end
structure ux where
 s:eK
 F:lZ->oY
 base:Nat
 ll:List qy
abbrev qH:=Tmp->Option ux
def jG(P:Program)(G:cj)(H:qH):Prop:=∀t e,H t=some e->qF P G e.s e.F
def CQ:az->List Key
 | .row k=>[k]| .map k=>[k]|_=>[]
def CR:az->List Key
 | .agg cs=>cs.flatMap CQ| .fn _ as dm=>as.flatMap CQ++dm.flatMap CQ|x=>CQ x
def CS:az->List Key
 | .ptr k _=>[k]|_=>[]
def O8:az->List Key
 | .agg cs=>cs.flatMap CS| .fn _ as dm=>as.flatMap CS++dm.flatMap CS|x=>CS x
def O9(objs:bP)(k:Key):List az:=match objs k with|some (.box cs)=>cs|_=>[]
section
variable{β:Type}
def Pa(T:bC)(G:cj)(C:h0)(σ:ar)(o:Oper)(x:Operand)(args:List Operand)(k:ar->Option β):Option β:=
 let a:=(x::args).map (bD G σ.au)
 let b:=a.flatMap O8
 let c1:=b.flatMap (O9 σ.objs)
 let c:=c1.flatMap O8
 let c2:=c.flatMap (O9 σ.objs)
 sc [a.flatMap CR++c1.flatMap CR++c2.flatMap CR,c,b] σ λσ=>r5 T G C σ o x args k
def Pb(o:Oper):Tmp:=match o.op,o.dst with| .store _ (.tmp a) _,_=>20000+a| .mapUpdate _ (.tmp a) _ _,_=>30000+a|_,some d=>d|_,none=>9999
def aaI:Op->List Operand
 | .buildSlice _ _ a=>a.toList.map (·.2)| .build _ a=>a.toList.map (·.2)| .box _ x=>[x]| .store _ _ x=>[x]| .mapUpdate _ _ _ x=>[x]| .call ⟨.builtin .append,args,_⟩=>args.toList.drop 1|_=>[]
def uy:D->Option (TypeId×D)
 | .cT t x=>some (t,x)|_=>none
def ez{d:Type}(t c:Nat)(a b:Option d):Option d:=if t=c then a else b
def CT(mD:TypeId->Option FuncId)(t:TypeId)(k:FuncId->oX):List TypeId->oX
 |[]=>none|c::r=>ez t c (match mD c with|some f=>k f|none=>none) (CT mD t k r)
def IM(T:bC)(G:cj)(C:h0)(σ:ar)(o:Oper)(x:Operand)(name:String)(args:List Operand)(k:ar->Option β):Option β:=match bD G σ.au x with
 | .d a=>match fk ((args.map (bD G σ.au)).map (toD σ.objs))with|some b=>af (uy a) λp=>af (CT (λt=>T.mD t name) p.1 (λf=>C (o.dst.getD 9999) f (p.2::b)) T.Hn) λr=>bF ((args.map (bD G σ.au)).all nU) (k (σ.put o.dst (.d r)))|none=>none
 |_=>none
def CU(T:bC)(G:cj)(gn:Tmp->Bool)(σ:ar)(o:Oper)(k:ar->Option β):Option β:=match gn (Pb o)with|true=>sc [((aaI o.op).map (bD G σ.au)).flatMap CR] σ λσ=>nZ T G σ o k|false=>nZ T G σ o k
def IN(T:bC)(G:cj)(C:h0)(H:qH)(gn:Tmp->Bool)(σ:ar)(o:Oper)(k:ar->Option β):Option β:=match o.op with
 | .call ⟨.value x,args,_⟩=>match H (o.dst.getD 9999)with
  |some e=>kW e.ll σ λσ=>IG G e.s e.F e.base σ o x args.toList λa=>match gn (o.dst.getD 9999)with|true=>uw (o.dst.getD 9999) a k|false=>k a
  |none=>match gn (o.dst.getD 9999)with|true=>Pa T G C σ o x args.toList k|false=>r5 T G C σ o x args.toList k
 | .call ⟨.invoke x name,args,_⟩=>IM T G C σ o x name args.toList k| .slice _ _ _ _ _=>match gn (Pb o)with|true=>nZ T G σ o λa=>uw (o.dst.getD 9999) a k|false=>nZ T G σ o k
 | .store _ _ (.tmp t)=>match gn (40000+t)with|true=>uw t σ λσ=>nZ T G σ o k|false=>CU T G gn σ o k
 |_=>CU T G gn σ o k
def IP(T:bC)(G:cj)(C:h0)(H:qH)(gn:Tmp->Bool):List Oper->ar->(ar->Option β)->Option β
 |[],σ,k=>k σ|o::r,σ,k=>IN T G C H gn σ o λa=>IP T G C H gn r a k
def IQ(o:Oper):Bool:=still o||lS o.op
def sd(T:bC)(G:cj)(C:h0)(H:qH)(gn:Tmp->Bool)(all:Array Oper):List (Option (Nat×Bool)×List Oper)->ar->(ar->Option β)->Option β
 |[],σ,k=>k σ|(none,os)::r,σ,k=>IP T G C H gn os σ λa=>sd T G C H gn all r a k
 |(some (j,want),os)::r,σ,k=>match(all[j]?).bind (·.dst),qu os with
  |some d,some br=>match σ.au d with
   | .d x=>if os.all (λo=>IQ o&&o.dst !=some d)=true then
     (if(kept all os (flat r)).all (·==br)=true then
      af (cE x want (n0 T G C os σ λa=>match a.au br with| .d v=>some v|_=>none)) λv=>sd T G C H gn all r ((iJ (dstsOf os) σ).put (some br) (.d v)) k
     else af (cE x want (n0 T G C os σ λa=>match x5 a (kept all os (flat r))with|some l=>some (.agg l)|none=>none)) λv=>sd T G C H gn all r (qv (kept all os (flat r)) v (iJ (dstsOf os) σ)) k)else none
   |_=>none
  |_,_=>none
def Pc(T:bC)(G:cj)(C:h0)(H:qH)(gn:Tmp->Bool)(all:Array Oper)(σ:ar)(k:ar->Option β):Option β:=sd T G C H gn all (pf all.toList) σ k
end
def uz{objs:bP}{k d:Key}{o:b6}(h:ds (some o)->ds (objs k)\/k=d):∀j,ds (bL objs k (some o) j)->ds (objs j)\/j=d:=by
 intro j b;by_cases a:j=k;.subst a;rw[dw]at b;exact h b
 rw[ca _ _ a]at b;exact .inl b
def aaJ{T:bC}{ev:Operand->az}{objs:bP}{d:Key}{o:Op}{r:az}{c:List (Key×b6)}(h:c7 T ev objs d o=some (r,c)):∀j,ds (cD objs c j)->ds (objs j)\/j=d:=by
 have new:∀{o:b6},∀j,ds (cD objs [(d,o)] j)->ds (objs j)\/j=d:=by intro o;exact uz (λ_=> .inr rfl)
 have row:∀{k:Key}{n e:Nat}{es a:mW},objs k=some (.row e a)->∀j,ds (cD objs [(k,.row n es)] j)->ds (objs j)\/j=d:=by intro k n e es a b;exact uz (λ_=> .inl (by rw[b];exact nT))
 have mp:∀{k:Key}{es a:List (Value×D)},objs k=some (.map a)->∀j,ds (cD objs [(k,.map es)] j)->ds (objs j)\/j=d:=by intro k es a b;exact uz (λ_=> .inl (by rw[b];exact qk))
 cases o<;>simp only[c7,reduceCtorEq]at h
 case alloc=>split at h<;>cases h;exact new
 case box=>split at h<;>cases h;exact new
 case buildSlice=>
  split at h
  case h_2=>cases h
  split at h
  case h_2=>cases h
  split at h
  case h_2=>cases h
  split at h<;>cases h;exact new
 case makeSlice=>
  split at h
  case h_2=>cases h
  split at h
  case h_2=>cases h
  split at h
  case h_2=>cases h
  split at h<;>cases h;exact new
 case makeMap=>split at h<;>cases h;exact new
 case store=>
  split at h
  case h_2=>cases h
  split at h
  case isFalse=>cases h
  split at h
  .split at h
   case h_2=>cases h
   split at h<;>cases h;rename_i b _;exact uz λ_=> .inl (by rw[b];exact o5)
  .split at h
   case h_2=>cases h
   split at h
   case isFalse=>cases h
   split at h<;>cases h;exact row aZ
  cases h
 case mapUpdate=>
  split at h
  case h_2=>cases h
  split at h
  case h_2=>cases h
  split at h
  case isFalse=>cases h
  split at h
  case h_2=>cases h
  split at h
  case h_2=>cases h
  split at h<;>cases h;exact mp aZ
 case insert=>
  split at h
  case h_2=>cases h
  split at h
  case h_2=>cases h
  split at h
  case isFalse=>cases h
  split at h
  case h_2=>cases h
  split at h
  case h_2=>cases h
  split at h<;>cases h;exact mp aZ
 case call=>
  split at h
  .split at h
   case h_2=>cases h
   split at h
   case h_2=>cases h
   split at h
   case h_2=>cases h
   split at h
   case h_2=>cases h
   split at h
   case isFalse=>cases h
   split at h;.split at h<;>cases h;exact new
   .split at h
    case h_2=>cases h
    split at h<;>cases h;intro j f;rcases uz (d:=d) (λ_=> .inr rfl) j f with ab|ab
    .exact uz (λh=>absurd h xQ) j ab
    exact .inr ab
   cases h
  .split at h
   case h_2=>cases h
   split at h
   case h_2=>cases h
   split at h
   case h_2=>cases h
   split at h
   case h_2=>cases h
   split at h
   case isFalse=>cases h
   split at h
   .split at h
    case h_2=>cases h
    split at h<;>cases h;exact row aZ
   .split at h
    case h_2=>cases h
    split at h<;>cases h;exact row aZ
   cases h
  .split at h
   case h_2=>cases h
   split at h
   case h_2=>cases h
   split at h
   case h_2=>cases h
   split at h
   case h_2=>cases h
   split at h
   case h_2=>cases h
   split at h<;>cases h;exact row aZ
  cases h
def aaK{T:bC}{ev:Operand->az}{objs:bP}{d:Key}{o:Op}{r:az}{b:List (Key×b6)}(h:e4 T ev objs d o=some (r,b)):∀j,ds (cD objs b j)->ds (objs j)\/j=d:=by
 obtain⟨⟨k,c⟩,ak,f⟩:=qi h;have ab:=aaJ ak;intro j a;by_cases g:j=d
 .exact .inr g
 rcases rU (T.born d) d k c with e|⟨n,es,rfl,rfl,e⟩|⟨m,n,es,rfl,rfl,e⟩|⟨off,cs,l,rfl,rfl,i,e⟩;.rw[f]at e;cases e;exact ab j a
 .rw[f]at e;cases e;exact ab j (by simp only[cD,ca _ _ g]at a⊢;exact a)
 .rw[f]at e;cases e;exact ab j (by simp only[cD,ca _ _ g]at a⊢;exact a)
 rw[f]at e;cases e;exact ab j (by simp only[cD,ca _ _ g]at a⊢;exact a)
section
variable{P:Program}{T:bC}{G:cj}{N:Nat}{σ:ar}{all:Array Oper}{ib:List Key}
def dO.put(h:dO ib σ){dst:Option Tmp}{r:az}:dO ib (σ.put dst r):=by intro k b a;rw[ar.ql]at a;exact h k b a
def CV(b:dO ib σ){o:Oper}(f:∀d,o.dst=some d->d<10000){a:ar}(h:eN T G σ o=some a):dO ib a:=by
 unfold eN at h;split at h;.cases h;exact b.put
 split at h;.cases h;exact b.put
 split at h
 case h_2=>cases h
 rename_i r j g;cases h;refine dO.put ?_;intro k c e;rcases aaK g k e with ab|ab
 .exact b k c ab
 exfalso;have:o.dst.getD 9999<10000:=by cases i:o.dst with|none=>simp|some d=>exact f d i
 exact absurd this (Nat.not_lt.2 (ab▸c))
def Pd(c:dO ib σ){o:Oper}(j:∀d,o.dst=some d->d<10000){K:ar->Prop}(h:cm P T G o K σ):cm P T G o (λa=>dO ib a/\K a) σ:=by
 unfold cm at*;split;.rename_i a aj;simp only[aj]at h;exact⟨CV c j aj,h⟩
 rename_i aj;simp only[aj]at h;unfold gR at*;split at h
 case h_2=>cases h
 split at h
 case h_2=>cases h
 obtain⟨b,e,R,ab,ae,ai,f,g,i⟩:=h;exact⟨b,e,R,ab,ae,ai,f,g,λr k=>⟨c.put,i r k⟩⟩
def IS:∀{l:List Oper}{σ:ar}{K:ar->Prop},dO ib σ->(∀o∈l,∀d,o.dst=some d->d<10000)->dY P T G all l K σ->dY P T G all l (λa=>dO ib a/\K a) σ
 |[],σ,K,b,_,h=>⟨b,h⟩|o::l,σ,K,b,c,h=>by unfold dY at*;rw[ft]at*;cases f:hh all σ o with|none=>rw[f]at h;exact h|some w=>rw[f]at h;cases w with|true=>exact lf (λa ⟨ab,ae⟩=>IS ab (λo e=>c o (by simp[e])) ae) (Pd b (c o sZ) h)|false=>exact IS b.put (λo e=>c o (by simp[e])) h
end
section
variable{P:Program}{T:bC}{G:cj}{C:h0}{H:qH}{gn:Tmp->Bool}{N:Nat}{σ:ar}{all:Array Oper}{ib:List Key}
def kX(P:Program)(G:cj)(N:Nat)(all:Array Oper)(i:Nat)(l:List Oper)(K:ar->Prop)(σ:ar):Prop:= ∀m fr ρ a w (Q:Exit->Act->World->Prop),gk G m->Den m fr ρ σ a w->N<=a.tmps.size->a.defers=[]->(∀b w',gz N m fr ρ σ K b w'->Q .normal b w')->wpOps P all Q (List.range' i l.length) a w
def gp(P:Program)(G:cj)(N:Nat)(o:Oper)(K:ar->Prop)(σ:ar):Prop:= ∀m fr ρ a w (Q:Exit->Act->World->Prop),gk G m->Den m fr ρ σ a w->N<=a.tmps.size->a.defers=[]->o.wp P a w (gz N m fr ρ σ K) Q
def aaL{i:Nat}{K:ar->Prop}(h:K σ):kX P G N all i [] K σ:=λm fr ρ a w Q e hD b d c=>c a w ⟨σ,m,ρ,h,Mem.le_refl m,hD,b,d,ia.refl _ _⟩
def aaM{i:Nat}{o:Oper}{l:List Oper}{K:ar->Prop}(ag:all[i]?=some o)(p:o.guard=none)(h:gp P G N o (kX P G N all (i+1) l K) σ):kX P G N all i (o::l) K σ:=by
 intro m fr ρ a w Q e hD j n k;rw[xal,List.range'_succ,wpOps_cons];refine wpOp_mono (K:=gz N m fr ρ σ (kX P G N all (i+1) l K)) ?_ ?_;.rintro g w' ⟨z,r,d,s,f,t,u,x,y⟩;exact s r fr d g w' Q (e.mono f) t u x λb c q=>k b c (q.trans f y)
 unfold wpOp;simp only[ag];have:Region.wanted o (yielded all a.tmps)=true:=by simp[Region.wanted,p]
 rw[xac this];exact .inl (h m fr ρ a w Q e hD j n)
def gp.mono{o:Oper}{K K':ar->Prop}(d:∀σ,K σ->K' σ)(h:gp P G N o K σ):gp P G N o K' σ:=λm fr ρ a w Q g hD i j=>by
  have:=h m fr ρ a w Q g hD i j;unfold Oper.wp at*;generalize (execOp a.eval o).run P w=r at*;cases r with
  |ok n w'=>
   cases n<;>simp only[Oper.upon]at this⊢<;>first|exact this.mono d|exact this|skip
   .refine this.mono λe f b=>?_;cases e with|returned v=>exact b.mono d|panicked c=>exact b|outgrown=>exact b
   exact this.mono λv f b=>b.mono d
  |halt x w'=>cases x<;>exact this
def gp.r7{o:Oper}{K:ar->Prop}{τ:ar}(b:eX σ τ)(h:gp P G N o K τ):gp P G N o K σ:=by
 intro m fr ρ a w Q g hD i j;obtain⟨k,f,ab,ae,ai⟩:=b m fr ρ a w hD;have:=h k fr f a w Q (g.mono ab) ae i j;unfold Oper.wp at*;generalize (execOp a.eval o).run P w=r at*;cases r with
 |ok n w'=>
  cases n<;>simp only[Oper.upon]at this⊢<;>first|exact this.trans ab ai|exact this|skip
  .refine this.mono λe d b=>?_;cases e with|returned v=>exact b.trans ab ai|panicked c=>exact b|outgrown=>exact b
  exact this.mono λv d b=>b.trans ab ai
 |halt x w'=>cases x<;>exact this
def CW(f:cV P T){o:Oper}(b:∀d,o.dst=some d->d<N){K:ar->Prop}(h:cm P T G o K σ):gp P G N o K σ:=λm fr ρ a w Q c hD e g=>HN f c hD e g b h
def aaN{ks:List Key}(h:dO ib σ):dO ib (freeze ks σ):=by
 intro k c d;have a:ds (if k∈ks then some .dead else(σ.objs k).map (yb σ.objs ks)):=d;split at a
 .exact absurd a xQ
 cases b:σ.objs k with|none=>rw[b]at a;exact absurd a o6|some o0=>rw[b]at a;cases o0 with|box cs=>exact h k c (by rw[b];exact o5)|dead=>exact absurd a xQ|row=>exact h k c (by rw[b];exact nT)|map=>exact h k c (by rw[b];exact qk)
def yd{d:Type}:∀{l:List (List Key)} {σ:ar} {k:ar->Option d} {b:d},dO ib σ->sc l σ k=some b->∃τ,eX σ τ/\dO ib τ/\k τ=some b
 |[],σ,k,b,a,h=>⟨σ,eX.refl σ,a,h⟩
 |ks::r,σ,k,b,a,h=>by
  unfold sc at h;split at h;.exact yd a h
  split at h
  case isFalse=>cases h
  rename_i c;obtain⟨τ,ab,ae,ai⟩:=yd (aaN a) h;exact⟨τ,(Z1 _ c).trans ab,ae,ai⟩
def IT{l:Type}{t:Tmp}{σ:ar}{k:ar->Option l}{b:l}(m:dO ib σ)(h:uw t σ k=some b):∃τ,eX σ τ/\dO ib τ/\k τ=some b:=by
 unfold uw at h;split at h
 case h_2=>cases h
 rename_i key q i len o;split at h
 case h_2=>cases h
 rename_i p es n ak;split at h
 case isFalse=>cases h
 rename_i a;obtain⟨a,c,f⟩:=a;subst a;obtain⟨ab,ae⟩:=hE h;refine⟨_,Z2 o n ak (xbb ab) c,?_,ae⟩;intro j e d;simp only at d;by_cases ai:j=t;.subst ai;exact absurd f (Nat.not_lt.2 e)
 rw[ca _ _ ai]at d;by_cases g:j=key;.subst g;exact absurd c (Nat.not_lt.2 e)
 rw[ca _ _ g]at d;exact m j e d
def gp.out{o:Oper}{K:ar->Prop}(h:gp P G N o (λb=>∃τ,eX b τ/\K τ) σ):gp P G N o K σ:=λm fr ρ a w Q y hD z A=>by
  have key:∀{g w'},gz N m fr ρ σ (λb=>∃τ,eX b τ/\K τ) g w'->gz N m fr ρ σ K g w':=by rintro g w' ⟨b,B,k,⟨τ,g1,g2⟩,ae,ai,s,t,u⟩;obtain⟨i,f,l,p,q⟩:=g1 B fr k g w' ai;exact⟨τ,i,f,g2,Mem.le_trans ae l,p,s,t,u.trans q⟩
  have:=h m fr ρ a w Q y hD z A;unfold Oper.wp at*;generalize (execOp a.eval o).run P w=r at*;cases r with
  |ok n w'=>
   cases n<;>simp only[Oper.upon]at this⊢<;>first|exact key this|exact this|skip
   .refine this.mono λe j d=>?_;cases e with|returned v=>exact key d|panicked c=>exact d|outgrown=>exact d
   exact this.mono λv j d=>key d
  |halt x w'=>cases x<;>exact this
def Pe{f:Type}(l:cV P T)(g:fu P G C){o:Oper}(c:∀d,o.dst=some d->d<N){x:Operand}{args:Array Operand}{e:Array TypeId}(p:o.op= .call ⟨.value x,args,e⟩){k:ar->Option f}{b:f}(i:dO ib σ) (h:r5 T G C σ o x args.toList k=some b):gp P G N o (λa=>k a=some b/\dO ib a) σ:=by refine CW l c (lf ?_ (CC (T:=T) g p h));rintro a ⟨ab,ae,_⟩;refine⟨ab,λj n m=>i j n (by rw[<-ae];exact m)⟩
def Pf{mD:TypeId->Option FuncId}{t:TypeId}{k:FuncId->oX}{r:D}:∀{l:List TypeId},CT mD t k l=some r->∃f,mD t=some f/\k f=some r
 |[],h=>by cases h
 |c::l,h=>by
  unfold CT ez at h;split at h
  .rename_i a;subst a;split at h;.rename_i f b;exact⟨f,b,h⟩
   cases h
  exact Pf h
def aaO{P:Program}{t:TypeId}{name:String}{f:FuncId}(h:BN P t name f)(n:Nat)(v:Value)(w:World):(method (n+1) t v name).run P w= .ok (f,v) w:=by
 obtain⟨a,m,d,ab,ae,ai,c,e,g⟩:=h;have b:(typeInfo t).run P w= .ok a w:=by simp[typeInfo,ab]
 unfold method;simp only[xai,b,xaf,ae,ai,follow,xaz,c,receiverAt,xau e];cases d<;>first|(simp only[Place.get,xaz,xaf];done)|(exact absurd rfl (g _))
def aaP{P:Program}{va:Operand->Value}{x:Operand}{name:String}{args:Array Operand}{c:Array TypeId}{ty:TypeId}{t:TypeId}{v:Value}{f:FuncId}{w:World}(o:va x= .iface t v)(l:BN P t name f)(k:qj P f):(do let d<-resolve va {callee:= .invoke x name,args:=args,argTypes:=c} ty;invoke d.target d.args:Sem Next).run P w= .ok (.enter f (#[v]++args.map va)) w:=by
 obtain⟨fn,ab,ae,ai⟩:=k;have g:0<Made.depth:=dZ
 have j:∃n,P.types.size+Made.depth=n+1:=⟨P.types.size+Made.depth-1,by omega⟩;obtain⟨n,m⟩:=j;have h:(#[Value.iface t v]++args.map va)[0]?=some (Value.iface t v):=by rw[xbt sZ];rfl
 have i:(#[Value.iface t v]++args.map va).extract 1 (#[Value.iface t v]++args.map va).size=args.map va:=by apply xbO;simp[List.extract,xbC]
 have e:(program:Sem Program).run P w= .ok P w:=rfl;have b:=aaO l n v w;have a:(callFunc f (#[v]++args.map va)).run P w= .ok (.enter f (#[v]++args.map va)) w:=by simp only[callFunc,xai,e,xaf,ab,ae,ai,xaq,xaG,xaz]
 simp only[xai,resolve,o,xaz,xaf,invoke,h,i,callMethod,e,m,b,a]
def aaQ{cx:Type}(dD:cV P T)(dE:fu P G C){o:Oper}(A:∀d,o.dst=some d->d<N){x:Operand}{name:String}{args:Array Operand}{b3:Array TypeId}(fg:o.op= .call ⟨.invoke x name,args,b3⟩){k:ar->Option cx}{b:cx}(dR:dO ib σ) (h:IM T G C σ o x name args.toList k=some b):gp P G N o (λJ=>k J=some b/\dO ib J) σ:=by
 unfold IM at h;split at h
 case h_2=>cases h
 rename_i d l;split at h
 case h_2=>cases h
 rename_i cU W;obtain⟨p,K,h⟩:=cR h;obtain⟨r,eW,h⟩:=cR h;obtain⟨de,cK⟩:=hE h;obtain⟨f,ek,R⟩:=Pf eW;have D:=dE _ _ _ _ R;have Y:=dD.BO _ _ _ ek;obtain⟨t,y⟩:=p;have X:d= .cT t y:=by
  unfold uy at K;split at K;.cases K;rfl
  cases K
 subst X;intro m fr ρ a w Q b0 n ck U;have B:=xK (a:=a) b0 n.au;have S:∀d,o.dst=some d->d<a.tmps.size:=λd l=>xch (A d l) ck;have E:∀v,N<=(a.put o.dst v).tmps.size:=by intro v;cases o.dst<;>simpa[Act.put]using ck
 have V:∀v,(a.put o.dst v).defers=[]:=by intro v;cases o.dst<;>exact U
 have I:=B x;rw[l]at I;have I:=I.kN;obtain⟨v,Z,bX⟩:∃v,a.eval x= .iface t v/\bM m y v:=by generalize a.eval x=u at I;cases I with|cT _ _ v h=>exact⟨v,rfl,h⟩
 have g:(execOp a.eval o).run P w= .ok (.enter f (#[v]++args.map a.eval)) w:=by unfold execOp;rw[fg];exact aaP Z Y D.fn
 unfold Oper.wp;rw[g];have L:j1 m (y::cU) (#[v]++args.map a.eval).toList:=by obtain⟨g1,g2⟩:=mK W;refine⟨by simp[g1],?_⟩;intro i d dN l s;simp only[Array.toList_append,xbs,xaM,Array.toList_map]at s;cases i with|zero=>simp at l s;subst l;subst s;exact bX|succ i=>simp only[xct]at l s;have g3:=g2 i d l;simp only[xag,xae]at g3 s;obtain⟨z,⟨q,cA,rfl⟩,b5⟩:=g3;obtain⟨fB,F,rfl⟩:=s;rw[cA]at F;cases F;exact HM (xay.1 de _ (xaK.2 ⟨q,xad cA,rfl⟩)) b5 (B q)
 have c:=D.run m _ w _ b0 n.Np L;simp only[Array.toArray_toList]at c;refine c.mono λe w' eV=>?_;obtain⟨dN,ff,hC,rfl,fs,cC,eU,gd⟩:=eV;subst fs;have M:=n.kept cC eU;exact⟨_,ff,ρ,⟨cK,λj eI O=>dR j eI (by simpa using O)⟩,cC,M.put (.d _ _ gd) S,E dN,V dN,λk gD O=>⟨by simpa using O,rfl⟩⟩
def Pg{f:Type}(i:cV P T)(l:fu P G C)(hH:jG P G H)(g:N<10000){o:Oper}(c:∀d,o.dst=some d->d<N){k:ar->Option f}{b:f}(e:dO ib σ)(h:CU T G gn σ o k=some b):gp P G N o (λa=>k a=some b/\dO ib a) σ:=by
 unfold CU at h;have step:∀{τ:ar},dO ib τ->nZ T G τ o k=some b->gp P G N o (λa=>k a=some b/\dO ib a) τ:=by intro τ e h;obtain⟨a,ab,ae⟩:=r4 h;refine CW i c ?_;unfold cm;rw[ab];exact⟨ae,CV e (λd j=>xco (c d j) g) ab⟩
 split at h;.obtain⟨τ,ab,ae,ai⟩:=yd e h;exact gp.r7 ab (step ae ai)
 exact step e h
def aaR{y:Type}(i:cV P T)(j:fu P G C)(hH:jG P G H)(q:N<10000){o:Oper}(f:∀d,o.dst=some d->d<N){k:ar->Option y}{b:y}(g:dO ib σ)(h:IN T G C H gn σ o k=some b):gp P G N o (λc=>k c=some b/\dO ib c) σ:=by
 unfold IN at h;split at h
 .rename_i x args u n;split at h
  .rename_i e F;obtain⟨τ,t1,r,h⟩:=n2 g h;refine gp.r7 t1 ?_;generalize t:(λc=>match gn (o.dst.getD 9999)with|true=>uw (o.dst.getD 9999) c k|false=>k c)=B at h;have main:gp P G N o (λc=>B c=some b/\dO ib c) τ:=by refine gp.mono (K:=λc=>B c=some b/\∀p,10000<=p->ds (c.objs p)->ds (τ.objs p)) (λc ⟨ab,ae⟩=>⟨ab,λp A E=>r p A (ae p A E)⟩) ?_;intro m fr ρ a w Q D hD s l;exact Z9 D hD s l f (hH _ _ F) n h (Q:=Q)
   refine gp.out (gp.mono ?_ main);rintro c ⟨ab,ae⟩;subst t;simp only at ab;split at ab;.obtain⟨z,g1,g2,g3⟩:=IT ae ab;exact⟨z,g1,g3,g2⟩
   exact⟨c,eX.refl c,ab,ae⟩
  split at h;.unfold Pa at h;simp only at h;obtain⟨τ,ab,ae,ai⟩:=yd g h;exact gp.r7 ab (Pe i j f n ae ai)
  exact Pe i j f n g h
 .rename_i x name args u n;exact aaQ i j f n g h
 .have step:∀{τ:ar}{k:ar->Option y},dO ib τ->nZ T G τ o k=some b->gp P G N o (λc=>k c=some b/\dO ib c) τ:=by
   intro τ k g h;obtain⟨c,ab,ae⟩:=r4 h;refine CW i f ?_;unfold cm;rw[ab];exact⟨ae,CV g (λd l=>xco (f d l) q) ab⟩
  split at h;.refine gp.out (gp.mono ?_ (step g h));rintro c ⟨ab,ae⟩;obtain⟨τ,g1,g2,g3⟩:=IT ae ab;exact⟨τ,g1,g3,g2⟩
  exact step g h
 .split at h;.obtain⟨τ,g1,g2,g3⟩:=IT g h;refine gp.r7 g1 ?_;obtain⟨c,ab,ae⟩:=r4 g3;refine CW i f ?_;unfold cm;rw[ab];exact⟨ae,CV g2 (λd l=>xco (f d l) q) ab⟩
  exact Pg i j hH q f g h
 exact Pg i j hH q f g h
def Ph{t:Type}(p:cV P T)(m:fu P G C)(hH:jG P G H)(n:N<10000){K:ar->Prop}:∀{os:List Oper}{r:List Oper}{i:Nat}{σ:ar}{k:ar->Option t}{b:t},(∀o∈os,o.guard=none)->(∀o∈os,∀d,o.dst=some d->d<N)->(∀j,(os++r)[j]?=all[i+j]?)->dO ib σ->(∀a,dO ib a->k a=some b->kX P G N all (i+os.length) r K a)->IP T G C H gn os σ k=some b->kX P G N all i (os++r) K σ
 |[],r,i,σ,k,b,_,_,_,f,g,h=>g σ f h
 |o::os,r,i,σ,k,b,s,q,c,f,g,h=>by
  have ag:all[i]?=some o:=by simpa using(c 0).symm
  refine aaM ag (s o sZ) (gp.mono ?_ (aaR p m hH n (q o sZ) f h));rintro a ⟨ab,ae⟩;refine Ph p m hH n (λo l=>s o (by simp[l])) (λo l=>q o (by simp[l])) (λj=>by have:=c (j+1);simpa[xbl,Nat.add_comm 1 j]using this) ae ?_ ab;intro e ai u;have:=g e ai u;rw[show i+(o::os).length=i+1+os.length by simp;omega]at this;exact this
def bz.shrink{m m0:Mem}{ρ y:cp}{U z:Key->Prop}{x:az}{v:Value}(h:bz m ρ U x v):∀{v0:Value},bz m0 y z x v0->bz m ρ z x v:=by
 induction h with
 |any v=>intro v0 _;exact .any _
 |d x v h=>intro v0 _;exact .d _ _ h
 |agg cs vs ah h ih=>
  intro v0 ak;cases ak with|agg _ n l j=>
  refine .agg _ _ ah λi c v g p=>?_;have ag:i<n.size:=by rw[l];exact(lV.1 g).1
  exact ih i c v g p (j i c _ g (xaj ag))
 |aB cs vs ah h ih=>
  intro v0 ak;cases ak with|aB _ n l j=>
  refine .aB _ _ ah λi c v g p=>?_;have ag:i<n.size:=by rw[l];exact(lV.1 g).1
  exact ih i c v g p (j i c _ g (xaj ag))
 |cH cs off b o vs T B D E ab ae=>intro v0 _;exact .cH _ _ b o vs T B D E ab ae
 |ptr key off b hu h=>intro v0 ak;cases ak with|ptr _ _ _ e _=>exact .ptr _ _ b e h
 |ey key k i off b o len cap hu h=>intro v0 ak;cases ak with|ey _ _ _ _ _ _ _ _ e _=>exact .ey _ _ _ _ b o len cap e h
 |row key hu=>intro v0 ak;cases ak with|row _ e=>exact .row _ e
 |sub key k i len b o L cap a hu h s A=>intro v0 ak;cases ak with|sub _ _ _ _ _ _ _ _ _ e=>exact .sub _ _ _ _ b o L cap a e h s A|hf _ _ _ e=>exact .sub _ _ _ _ b o L cap a e h s A
 |hf key k i hu h=>intro v0 ak;cases ak with|sub _ _ _ _ _ _ _ _ _ e=>exact .hf _ _ _ e h|hf _ _ _ e=>exact .hf _ _ _ e h
 |map key hu=>intro v0 ak;cases ak with|map _ e=>exact .map _ e
 |fn f first captured vs I ah t h F ih u=>
  intro v0 ak;cases ak with|fn _ _ _ n w l r j q=>
  refine .fn _ _ _ _ _ ah t (λi c v g p=>?_) (λi c v g p=>?_)
  .have ag:i<n.size:=by rw[l];exact(lV.1 g).1
   exact ih i c v g p (j i c _ g (xaj ag))
  .have ag:i<w.size:=by rw[r];exact(lV.1 g).1
   exact u i c v g p (q i c _ g (xaj ag))
def gC.shrink{m m0:Mem}{ρ e:cp}{U f:Key->Prop}{o:b6}{v v0:Value}{w w0:World}(h:gC m ρ U v w o)(ak:gC m0 e f v0 w0 o):gC m ρ f v w o:=by
 cases o with
 |dead=>trivial
 |box cs=>
  obtain⟨b,vs,T,g,j,k,l⟩:=h;obtain⟨p,d,T0,f1,f2,f3,f4⟩:=ak;refine⟨b,vs,T,g,j,k,λi c x a n=>?_⟩;have ag:i<d.size:=by rw[f3];exact(lV.1 a).1
  exact(l i c x a n).shrink (f4 i c _ a (xaj ag))
 |row=>exact h|map=>exact h
def aaS{m z:Mem}{fr:dr}{ρ p:cp}{σ i:ar}{a x:Act}{w w':World}{q:List Tmp}(h:Den m fr ρ σ a w)(f:Den z fr p i x w')(c:bP.ext σ.objs i.objs)(aj:∀t,t∉q->i.au t=σ.au t){br:Tmp}{v:D}(E:i.au br= .d v)(A:br∈q):Den z fr p ((iJ q σ).put (some br) (.d v)) x w':=by
 have e:((iJ q σ).put (some br) (.d v)).objs=σ.objs:=by simp[iJ]
 refine⟨f.mem,f.frame,f.apart,?_,?_,?_,?_,?_⟩;.rintro k ⟨o,j⟩;rw[e]at j;exact f.one k ⟨o,c k o j⟩
 .intro t;by_cases n:t=br;.subst n;simp only[ar.put,dw];have:=f.au t;rw[E]at this;exact .d _ _ this.kN
  simp only[ar.put,ca _ _ n,iJ];split;.exact .any _
  rename_i B;have ab:=f.au t;rw[aj t B]at ab;exact ab.shrink (h.au t)
 .intro k o g;rw[e]at g;exact(f.objs k o (c k o g)).shrink (h.objs k o g)
 .intro k o b g j r;rw[e]at g;exact f.own k o b (c k o g) j r
 intro k y o o' b s g l j u r;rw[e]at g l;exact f.sep k y o o' b s (c k o g) (c y o' l) j u r
def aaT{m z:Mem}{fr:dr}{ρ q:cp}{σ i:ar}{a x:Act}{w w':World}{l:List Tmp}(h:Den m fr ρ σ a w)(f:Den z fr q i x w')(c:bP.ext σ.objs i.objs)(aj:∀t,t∉l->i.au t=σ.au t){ts:List Tmp}{v:D}(B:∀t∈ts,i.au t= .d (ad v (ts.idxOf t))):Den z fr q (qv ts v (iJ l σ)) x w':=by
 have e:(qv ts v (iJ l σ)).objs=σ.objs:=rfl;refine⟨f.mem,f.frame,f.apart,?_,?_,?_,?_,?_⟩;.rintro k ⟨o,n⟩;rw[e]at n;exact f.one k ⟨o,c k o n⟩
 .intro t;by_cases j:t∈ts
  .have ae:(qv ts v (iJ l σ)).au t= .d (ad v (ts.idxOf t)):=by simp only[qv,xac j]
   rw[ae];have:=f.au t;rw[B t j]at this;exact .d _ _ this.kN
  have ae:(qv ts v (iJ l σ)).au t=(iJ l σ).au t:=by simp only[qv,xab j]
  rw[ae];simp only[iJ];split;.exact .any _
  rename_i A;have ab:=f.au t;rw[aj t A]at ab;exact ab.shrink (h.au t)
 .intro k o g;rw[e]at g;exact(f.objs k o (c k o g)).shrink (h.objs k o g)
 .intro k o b g n r;rw[e]at g;exact f.own k o b (c k o g) n r
 intro k y o o' b s g p n u r;rw[e]at g p;exact f.sep k y o o' b s (c k o g) (c y o' p) n u r
theorem aaU{T:bC}{ev:Operand->az}{objs:bP}{d:Key}{op:Op}{r:az}{a:List (Key×b6)}(aj:lS op=true)(b:e4 T ev objs d op=some (r,a)):objs d=none:=(ub (objs':=λ_=>none) aj rfl b).2.1
def aaV{g:Type}(i:fu P G C){o:Oper}(aj:IQ o=true){k:ar->Option g}{b:g}(h:mP T G C σ o k=some b):cm P T G o (λc=>k c=some b/\bP.ext σ.objs c.objs/\∀t,o.dst≠some t->c.au t=σ.au t) σ:=by
 rcases xbx.1 aj with aj|aj;.refine lf ?_ (OE i aj h);rintro c ⟨ab,ae,ai⟩;exact⟨ab,by rw[ae];exact λ_ _ h=>h,ai⟩
 have f:∀x args d,o.op≠ .call ⟨.value x,args,d⟩:=by intro x args d e;rw[e]at aj;cases aj
 unfold mP at h;split at h;.exact absurd aZ (f _ _ _)
 obtain⟨c,ab,ae⟩:=r4 h;unfold cm;rw[ab];unfold eN at ab;rw[(mL (objs:=σ.objs) aj).1,(mL aj).2]at ab;simp only at ab;split at ab
 case h_2=>cases ab
 rename_i r m e;cases ab;have a:σ.objs (o.dst.getD 9999)=none:=aaU aj e;obtain⟨_,_,l,rfl⟩:=ub aj a e;refine⟨ae,?_,λt j=>mQ j⟩;rw[ar.ql];exact bP.B2 a l
def IU{r:Type}(i:fu P G C){j:Nat}{want:Bool}{d:Tmp}(l:(all[j]?).bind (·.dst)=some d):∀{os:List Oper}{σ:ar}{k:ar->Option r}{b:r},(∀o∈os,o.guard=some (j,want))->(∀o∈os,IQ o=true/\o.dst≠some d)->σ.au d= .d (.val (.bool want))->n0 T G C os σ k=some b->dY P T G all os (λa=>k a=some b/\bP.ext σ.objs a.objs/\∀t,t∉dstsOf os->a.au t=σ.au t) σ
 |[],σ,k,b,_,_,_,h=>⟨h,λ_ _ h=>h,λ_ _=>rfl⟩
 |o::os,σ,k,b,m,aj,hw,h=>by
  have ak:=aj o sZ;unfold dY da;rw[m o sZ];simp only[l,hw,xaD];refine lf ?_ (aaV i ak.1 h);rintro a ⟨ab,ae,ai⟩;refine jD ?_ (IU i l (λo c=>m o (by simp[c])) (λo c=>aj o (by simp[c])) (by rw[ai d ak.2];exact hw) ab);rintro s ⟨g1,g2,g3⟩;refine⟨g1,λp q c=>g2 p q (ae p q c),?_⟩;intro t n;have f:t∉dstsOf os:=λe=>n (by unfold dstsOf at e⊢;simp only[xbY];cases o.dst<;>simp[e])
  have g:o.dst≠some t:=λe=>n (by unfold dstsOf;simp[e]);rw[g3 t f,ai t g]
def IV(t:cV P T){fr:dr}{Q:Exit->Act->World->Prop}:∀(os r:List Oper)(i:Nat)(m:Mem)(ρ:cp)(σ:ar)(a:Act)(w:World)(K:ar->Prop),(∀j,(os++r)[j]?=all[i+j]?)->gk G m->Den m fr ρ σ a w->N<=a.tmps.size->a.defers=[]->(∀o∈os,∀d,o.dst=some d->d<N)->dY P T G all os K σ->(∀f w',gz N m fr ρ σ K f w'->wpOps P all Q (List.range' (i+os.length) r.length) f w')->wpOps P all Q (List.range' i (os++r).length) a w
 |[],r,i,m,ρ,σ,a,w,K,_,k,h,l,e,_,n,c=>c a w ⟨σ,m,ρ,n,Mem.le_refl m,h,l,e,ia.refl _ _⟩
 |o::os,r,i,m,ρ,σ,a,w,K,ah,k,h,l,e,b,n,c=>by
  rw[xbs,xal,List.range'_succ,wpOps_cons];have ag:all[i]?=some o:=by simpa using(ah 0).symm
  refine wpOp_mono ?_ (HO t k h l e ag (b o sZ) n);rintro f w' ⟨s,z,q,A,u,B,D,E,F⟩;refine IV t os r (i+1) z q s f w' K (λj=>by have:=ah (j+1);simpa[xbl,Nat.add_comm 1 j]using this) (k.mono u) B D E (λo x=>b o (by simp[x])) A ?_;intro g p y;have:=c g p (y.trans u F);rw[show i+(o::os).length=i+1+os.length by simp;omega]at this;exact this
theorem Pj(i:Nat):ad hF i=hF:=by unfold ad;cases i<;>rfl
def ye{dD:Type}(S:cV P T)(O:fu P G C)(hH:jG P G H)(b5:N<10000){K:ar->Prop}:∀{gs:List (Option (Nat×Bool)×List Oper)} {i:Nat} {σ:ar} {k:ar->Option dD} {b:dD},(∀g∈gs,∀o∈g.2,o.guard=g.1)->(∀o∈flat gs,∀d,o.dst=some d->d<N)->(∀j,(flat gs)[j]?=all[i+j]?)->dO ib σ->(∀c,dO ib c->k c=some b->K c)->sd T G C H gn all gs σ k=some b->kX P G N all i (flat gs) K σ
 |[],i,σ,k,b,_,_,_,R,U,h=>aaL (U σ R h)|(none,os)::r,i,σ,k,b,F,D,f,R,U,h=>by show kX P G N all i (os++flat r) K σ;refine Ph S O hH b5 (λo e=>F (none,os) sZ o e) (λo e=>D o (by simp[flat,e])) f R ?_ h;intro c ab ae;refine ye S O hH b5 (λg X=>F g (by simp[X])) (λo e=>D o (by simp only[flat,List.flatMap_cons,xar];exact .inr e)) ?_ ab U ae;intro j;have:=f (os.length+j);rw[<-xbl]at this;rw[<-this];show _=(os++flat r)[os.length+j]?;rw[xas oZ];simp
 |(some (j,want),os)::r,i,σ,k,b,F,D,f,R,U,h=>by
  show kX P G N all i (os++flat r) K σ;unfold sd at h;split at h
  case h_2=>cases h
  rename_i d br s J;split at h
  case h_2=>cases h
  rename_i x V;split at h
  case isFalse=>cases h
  rename_i p;simp only[xay,xan,bne_iff_ne,ne_eq]at p;split at h
  .obtain⟨v,ab,ae⟩:=cR h;have n:∀o∈os,o.guard=some (j,want):=λo e=>F (some (j,want),os) sZ o e;have q:kX P G N all (i+os.length) (flat r) K ((iJ (dstsOf os) σ).put (some br) (.d v)):=by
    refine ye S O hH b5 (λg X=>F g (by simp[X])) (λo e=>D o (by simp only[flat,List.flatMap_cons,xar];exact .inr e)) ?_ (dO.put (σ:=iJ (dstsOf os) σ) R) U ae;intro Z;have:=f (os.length+Z);rw[<-xbl]at this;rw[<-this];show _=(os++flat r)[os.length+Z]?;rw[xas oZ];simp
   have cC:dY P T G all os (λc=>bP.ext σ.objs c.objs/\(∀t,t∉dstsOf os->c.au t=σ.au t)/\c.au br= .d v) σ:=by
    unfold cE at ab;split at ab
    .rename_i b0;split at ab
     .rename_i y;subst y;refine jD ?_ (IU O s n p V ab);rintro c ⟨g1,g2,g3⟩;refine⟨g2,g3,?_⟩;split at g1;.rename_i u hu;cases g1;exact hu
      cases g1
     rename_i y;cases ab;refine jD ?_ (x7 s n (λo e=>(p o e).2) (.inl (by rw[V];cases b0<;>cases want<;>simp_all)));rintro c ⟨g1,g2,g3⟩;exact⟨by rw[g1];exact λ_ _ h=>h,g2,g3 br J⟩
    .rename_i vs;cases ab;refine jD ?_ (x7 s n (λo e=>(p o e).2) (.inr ⟨_,V⟩));rintro c ⟨g1,g2,g3⟩;exact⟨by rw[g1];exact λ_ _ h=>h,g2,g3 br J⟩
    cases ab
   intro m fr ρ a w Q W hD B E ck;refine IV S os (flat r) i m ρ σ a w _ f W hD B E (λo e=>D o (by simp[flat,e])) cC ?_;rintro b3 w' ⟨c,cU,M,⟨g1,g2,g3⟩,bX,de,cK,dE,dR⟩;have A:=aaS hD de g1 g2 g3 (OJ J);refine q cU fr M b3 w' Q (W.mono bX) A cK dE ?_;intro z L cA;refine ck z L (cA.trans bX ?_);intro cx I y;exact⟨by rw[ar.ql];exact y,(dR cx I y).2⟩
  obtain⟨v,ab,ae⟩:=cR h;have n:∀o∈os,o.guard=some (j,want):=λo e=>F (some (j,want),os) sZ o e;have q:kX P G N all (i+os.length) (flat r) K (qv (kept all os (flat r)) v (iJ (dstsOf os) σ)):=by refine ye S O hH b5 (λg X=>F g (by simp[X])) (λo e=>D o (by simp only[flat,List.flatMap_cons,xar];exact .inr e)) ?_ R U ae;intro Z;have:=f (os.length+Z);rw[<-xbl]at this;rw[<-this];show _=(os++flat r)[os.length+Z]?;rw[xas oZ];simp
  have cC:dY P T G all os (λc=>bP.ext σ.objs c.objs/\(∀t,t∉dstsOf os->c.au t=σ.au t)/\(∀t∈kept all os (flat r),c.au t= .d (ad v ((kept all os (flat r)).idxOf t)))) σ:=by
   unfold cE at ab;split at ab
   .rename_i b0;split at ab
    .rename_i y;subst y;refine jD ?_ (IU O s n p V ab);rintro c ⟨g1,g2,g3⟩;refine⟨g2,g3,?_⟩;split at g1;.rename_i l ah;cases g1;exact λt Y=>ZR ah Y
     cases g1
    rename_i y;cases ab;refine jD ?_ (Iv s n (λo e=>(p o e).2) (.inl (by rw[V];cases b0<;>cases want<;>simp_all)));rintro c ⟨g1,g2,g3⟩;exact⟨by rw[g1];exact λ_ _ h=>h,g2,λt Y=>by rw[g3 t (xbL.1 Y).1,Pj]⟩
   .rename_i vs;cases ab;refine jD ?_ (Iv s n (λo e=>(p o e).2) (.inr ⟨_,V⟩));rintro c ⟨g1,g2,g3⟩;exact⟨by rw[g1];exact λ_ _ h=>h,g2,λt Y=>by rw[g3 t (xbL.1 Y).1,Pj]⟩
   cases ab
  intro m fr ρ a w Q W hD B E ck;refine IV S os (flat r) i m ρ σ a w _ f W hD B E (λo e=>D o (by simp[flat,e])) cC ?_;rintro b3 w' ⟨c,cU,M,⟨g1,g2,g3⟩,bX,de,cK,dE,dR⟩;have A:=aaT hD de g1 g2 g3;refine q cU fr M b3 w' Q (W.mono bX) A cK dE ?_;intro z L cA;refine ck z L (cA.trans bX ?_);intro cx I y;exact⟨y,(dR cx I y).2⟩
def aaW{c:Type}(m:cV P T)(e:fu P G C)(hH:jG P G H)(l:N<10000){k:ar->Option c}{b:c}(n:∀o∈all.toList,∀d,o.dst=some d->d<N)(f:dO ib σ)(h:Pc T G C H gn all σ k=some b):kX P G N all 0 all.toList (λa=>dO ib a/\k a=some b) σ:=by
 have:=ye (P:=P) (N:=N) (ib:=ib) (all:=all) (i:=0) m e hH l (K:=λa=>dO ib a/\k a=some b) (λg p o q=>x6 _ _ _ p o q) (by rw[pg];exact n) (by rw[pg];intro j;simp) f (λa ab ae=>⟨ab,ae⟩) h
 rwa [pg]at this
def aaX{Q:Exit->ar->Prop}{id:Nat}{ops:Array Oper}(h:kX P G N ops 0 ops.toList (Q .normal) σ):fh P T G N (.region id ops false) σ Q:=by intro m fr ρ a w d hD b f;refine wp_region ?_;rw[List.range_eq_range'];have:=h m fr ρ a w (λe c w'=>gz N m fr ρ σ (Q e) c w') d hD b f (λc w' g=>g);simpa using this
end
def n3(ops:Array Oper):Bool:=(List.range ops.size).all λj=>match ops[j]? with
  |some o=>o.after.all (λe=>!Region.binds .any e||decide (e.on<j))&&(match o.guard with|none=>true|some (g,_)=>decide (g<j))
  |none=>true
def yf(ops:Array Oper)(j:Nat):Bool:=(List.range j).all λi=>(List.range (j+1)).any λk=>decide (i<k)&&match ops[k]? with|some o=>o.after.any (λe=>Region.binds .any e&&decide (e.on=i))|none=>false
def IW(ops:Array Oper)(p:Nat):Bool:=n3 ops&&(List.range ops.size).all λj=>decide (j<p)||yf ops j
def se{ops:Array Oper}(h:n3 ops=true){j:Nat}{o:Oper}(a:ops[j]?=some o):(∀e∈o.after,Region.binds .any e=true->e.on<j)/\∀g b,o.guard=some (g,b)->g<j:=by
 have i:j<ops.size:=(xaN.1 a).1;have ab:=xay.1 h j (xbU.2 i);simp only[a,xan]at ab;refine⟨λe d c=>?_,λg b f=>?_⟩
 .have:=Array.all_eq_true'.1 ab.1 e d;simpa[c]using this
 have:=ab.2;rw[f]at this;simpa using this
def aaY{ops:Array Oper}{j i:Nat}(h:yf ops j=true)(ag:i<j):∃k o,i<k/\k<=j/\ops[k]?=some o/\∃e∈o.after,Region.binds .any e=true/\e.on=i:=by
 have ab:=xay.1 h i (xbU.2 ag);obtain⟨k,f,ae⟩:=xbz.1 ab;simp only[xan,xaC]at ae;obtain⟨ai,a⟩:=ae;cases b:ops[k]? with
 |none=>rw[b]at a;cases a
 |some o=>rw[b]at a;obtain⟨e,d,c⟩:=Array.any_eq_true'.1 a;simp only[xan,xaC]at c;have:=xbU.1 f;exact⟨k,o,ai,by omega,b,e,d,c⟩
def uA(ops:Array Oper)(listed:Array Bool):Prop:=∀j o,ops[j]?=some o->listed.getD j true=true->∀e∈o.after,Region.binds .any e=true->listed.getD e.on false=true
section
variable{P:Program}{ops gG:Array Oper}{Q:Exit->Act->World->Prop}
def pn{i:Nat}(h:i<ops.size):(ops++gG)[i]?=ops[i]?:=xbt h
def uB{l r:Array Bool}{d:Bool}{i:Nat}(h:i<l.size):(l++r).getD i d=l.getD i d:=by
 have ae:i<l.size+r.size:=oZ
 simp only[xbj,xbt h]
theorem aaZ{l:Array Bool}{m:Nat}{d:Bool}{i:Nat}(h:l.size<=i)(ae:i<l.size+m):(l++Array.replicate m false).getD i d=false:=by simp only[xbj,Array.getElem?_append_right h];rw[Array.getElem?_replicate,xac oZ];rfl
def IX{l:Array Bool}{i:Nat}(h:i<l.size)(d e:Bool):l.getD i d=l.getD i e:=by simp[Array.getD,h]
def IY{all:Array Oper}{L:Array Bool}{j:Nat}(n:L.size=all.size)(ah:yf all j=true)(a:uA all L)(g:j∈Region.ready .any all L):∀(d i:Nat),j-i<=d->i<j->L.getD i false=true
 |0,i,h,ag=>by omega
 |d+1,i,h,ag=>by
  obtain⟨k,o',ab,q,ae,e,ai,c,m⟩:=aaY ah ag;rw[<-m];by_cases b:k=j;.subst b;obtain⟨_,r,l,p⟩:=xbW.1 g;rw[ae]at l;cases l;exact p e ai c
  have f:=IY n ah a g d k oZ oZ;have o:=(xaN.1 ae).1;rw[IX oZ false true]at f;exact a k o' ae f e ai c
def yg{all:Array Oper}{L:Array Bool}{i:Nat}(h:i∈Region.ready .any all L):i<all.size:=(xaN.1 (xbW.1 h).2.choose_spec.1).1
def aa0{all:Array Oper}{L:Array Bool}(aj:L.size=all.size)(h:uA all L){i:Nat}(ag:i∈Region.ready .any all L):uA all (L.setIfInBounds i true):=by
 obtain⟨ab,l,ae,ai⟩:=xbW.1 ag;have k:=yg ag;have up:∀{j:Nat},L.getD j false=true->(L.setIfInBounds i true).getD j false=true:=by
  intro j c;by_cases a:j<L.size
  .by_cases b:i=j;.subst b;simp[Array.getD,a]
   simp[Array.getD,a]at c⊢;rw[xbM a b];exact c
  simp[Array.getD,a]at c
 intro j o' f c e g d;have a:j<L.size:=by have:=(xaN.1 f).1;omega
 by_cases b:i=j;.subst b;rw[ae]at f;cases f;exact up (ai e g d)
 refine up (h j o' f ?_ e g d);simp[Array.getD,a]at c⊢;rw[xbM a b]at c;exact c
def Pk{listed:Array Bool}(d:n3 (ops++gG)=true)(aj:listed.size=ops.size){i:Nat}(ag:i<ops.size):i∈Region.ready .any (ops++gG) (listed++Array.replicate gG.size false)↔i∈Region.ready .any ops listed:=by
 rw[xbW,xbW,uB oZ,pn ag];refine and_congr_right λ_=>?_;constructor;.rintro⟨o',c,h⟩;refine⟨o',c,λe b a=>?_⟩;have:=(se d (by rw[pn ag];exact c)).1 e b a;rw[<-h e b a,uB oZ]
 rintro⟨o',c,h⟩;refine⟨o',c,λe b a=>?_⟩;have:=(se d (by rw[pn ag];exact c)).1 e b a;rw[uB oZ,h e b a]
def Pl{all:Array Oper}{L:Array Bool}(aj:L.size=all.size)(h:∀i,i<all.size->L.getD i false=true):Region.ready .any all L=[]:=by refine List.eq_nil_iff_forall_not_mem.2 λi ag=>?_;have a:=yg ag;have ab:=(xbW.1 ag).1;rw[IX oZ true false,h i a]at ab;cases ab
def aa1{all:Array Oper}{L:Array Bool}(c:n3 all=true)(aj:L.size=all.size)(h:Region.ready .any all L=[]):∀(i:Nat),i<all.size->L.getD i false=true:=by
 intro i
 induction i using Nat.strongRecOn with
 |_ i ih=>
  intro ag;refine xbi λd=>?_;have g:L.getD i true=false:=by rw[IX oZ true false];simpa using d
  have:i∈Region.ready .any all L:=by refine xbW.2 ⟨g,all[i],by simp[ag],λe f a=>?_⟩;have b:=(se c (j:=i) (o:=all[i]) (by simp[ag])).1 e f a;exact ih e.on b oZ
  rw[h]at this;cases this
def aa2(b:n3 (ops++gG)=true):n3 ops=true:=by
 refine xay.2 λj a=>?_;have a:=xbU.1 a;have ab:=xay.1 b j (xbU.2 uZ)
 rwa [pn a]at ab
def aa3{tm:Array Value}{g:Nat}(h:g<ops.size):yielded (ops++gG) tm g=yielded ops tm g:=by unfold yielded;rw[pn h]
def aa4(a:n3 (ops++gG)=true){i:Nat}(ag:i<ops.size){o':Oper}(d:ops[i]?=some o')(tm:Array Value):Region.wanted o' (yielded (ops++gG) tm)=Region.wanted o' (yielded ops tm):=by unfold Region.wanted;cases c:o'.guard with|none=>rfl|some p=>obtain⟨g,b⟩:=p;have:=(se a (by rw[pn ag];exact d)).2 g b c;simp only[aa3 (xco this ag)]
def aa5(b:n3 (ops++gG)=true){i:Nat}(ag:i<ops.size){K:Act->World->Prop}{a:Act}{w:World}:wpOp P (ops++gG) Q i K a w=wpOp P ops Q i K a w:=by
 unfold wpOp;rw[pn ag];have:ops[i]?=some ops[i]:=by simp[ag]
 rw[this];simp only[aa4 b ag this]
def aa6{all:Array Oper}:∀(fuel:Nat)(L:Array Bool)(a:Act)(w:World),Region.ready .any all L=[]->Q .normal a w->wpAny P .any all Q fuel L a w
 |0,L,a,w,h,b=>⟨h,b⟩|fuel+1,L,a,w,h,b=>⟨λ_=>b,λi ag=>by rw[h]at ag;cases ag⟩
def jn(n j:Nat):Array Bool:=Array.ofFn (n:=n) λi=>decide (i.val<j)
def Pm{n j:Nat}:(jn n j).size=n:=by simp[jn]
def sf{n j i:Nat}{d:Bool}(h:i<n):(jn n j).getD i d=decide (i<j):=by simp[jn,Array.getD,h]
def aa7{n j:Nat}:(jn n j).setIfInBounds j true=jn n (j+1):=by
 apply Array.ext;.simp[jn]
 intro i ab ae;simp[jn]at ab;by_cases h:i=j;.subst h;simp[jn]
 rw[xbM (by simpa[jn]using ab) oZ];simp[jn];omega
def Pn{all:Array Oper}(l:n3 all=true){p:Nat}(ah:∀j,p<=j->j<all.size->yf all j=true):∀(d j:Nat)(a:Act)(w:World),p<=j->j+d=all.size->wpOps P all Q (List.range' j d) a w->wpAny P .any all Q d (jn all.size j) a w
 |0,j,a,w,y,x,h=>by refine⟨Pl Pm λi ag=>by rw[sf ag];simp;omega,by simpa[wpOps]using h⟩
 |d+1,j,a,w,y,x,h=>by
  have k:j<all.size:=oZ
  have f:uA all (jn all.size j):=by intro i o r ag e m b;have q:=(xaN.1 r).1;rw[sf q]at ag;have:=(se l r).1 e m b;rw[sf oZ];simp at ag⊢;omega
  have g:j∈Region.ready .any all (jn all.size j):=by refine xbW.2 ⟨by rw[sf k];simp,all[j],by simp[k],λe m b=>?_⟩;have:=(se l (j:=j) (o:=all[j]) (by simp[k])).1 e m b;rw[sf oZ];simpa using this
  refine⟨λak=>(by rw[ak]at g;cases g),λi ag=>?_⟩;have c:=yg ag;have ab:=(xbW.1 ag).1;rw[sf c]at ab;have n:i=j:=by
   have t:j<=i:=by simpa using ab
   by_cases u:i=j;.exact u
   have:=IY Pm (ah i oZ c) f ag i j oZ oZ;rw[sf k]at this;simp at this
  subst n;rw[List.range'_succ,wpOps_cons]at h;refine wpOp_mono (λs w' z=>?_) h;rw[aa7];exact Pn l ah d (i+1) s w' oZ oZ z
def aa8{listed:Array Bool}{m:Nat}(h:∀i,i<listed.size->listed.getD i false=true):listed++Array.replicate m false=jn (listed.size+m) listed.size:=by
 apply Array.ext;.simp[jn]
 intro i ab ae;simp at ab;by_cases ag:i<listed.size;.have:=h i ag;simp[Array.getD,ag]at this;rw[Array.getElem_append_left ag,this];simp[jn,ag]
 rw[Array.getElem_append_right oZ];simp[jn];omega
def aa9{listed:Array Bool}{m i:Nat}(ag:i<listed.size):(listed++Array.replicate m false).setIfInBounds i true=listed.setIfInBounds i true++Array.replicate m false:=by
 apply Array.ext;.simp
 intro j ab ae;simp at ab;by_cases b:j<listed.size
 .rw[Array.getElem_append_left (by simpa using b)];by_cases a:i=j;.subst a;simp
  rw[xbM uZ a,Array.getElem_append_left b,xbM b a]
 rw[Array.getElem_append_right uZ,xbM uZ oZ,Array.getElem_append_right oZ];simp
end
def Po{P:Program}{Q:Exit->Act->World->Prop}{all:Array Oper}:∀{n:Nat}{L:Array Bool}{a:Act}{w:World},wpAny P .any all Q n L a w->∀k,n<=k->wpAny P .any all Q k L a w
 |0,L,a,w,h,k,b=>aa6 k L a w h.1 h.2|n+1,L,a,w,h,0,b=>by omega|n+1,L,a,w,h,k+1,b=>⟨h.1,λi ag=>wpOp_mono (λd w' c=>Po c k oZ) (h.2 i ag)⟩
section
variable{P:Program}{T:bC}{G:cj}{ops gG:Array Oper}{Q:Exit->Act->World->Prop}
def aba{m:Mem}{fr:dr}{N:Nat}(R:cV P T){K:ar->Prop}(s:n3 (ops++gG)=true)(ah:∀j,ops.size<=j->j<(ops++gG).size->yf (ops++gG) j=true)(x:∀o∈ops,∀d,o.dst=some d->d<N):∀(fuel:Nat)(listed:Array Bool)(m:Mem)(ρ:cp)(σ:ar)(a:Act)(w:World),listed.size=ops.size->uA ops listed->gk G m->Den m fr ρ σ a w->N<=a.tmps.size->a.defers=[]->gf P T G ops K fuel listed σ->(∀g w',gz N m fr ρ σ K g w'->wpOps P (ops++gG) Q (List.range' ops.size gG.size) g w')->wpAny P .any (ops++gG) Q (fuel+gG.size) (listed++Array.replicate gG.size false) a w:=by
 have fin:∀{fuel:Nat}{listed:Array Bool}{m:Mem}{ρ:cp}{σ:ar}{a:Act}{w:World},listed.size=ops.size->Region.ready .any ops listed=[]->gk G m->Den m fr ρ σ a w->N<=a.tmps.size->a.defers=[]->K σ->(∀g w',gz N m fr ρ σ K g w'->wpOps P (ops++gG) Q (List.range' ops.size gG.size) g w')->wpAny P .any (ops++gG) Q gG.size (listed++Array.replicate gG.size false) a w:=by intro fuel listed m ρ σ a w aj t p h q b S r;have k:=aa1 (aa2 s) aj t;rw[aa8 (λi ag=>k i oZ),aj,<-Array.size_append];exact Pn s ah _ _ _ _ (xaR _) sZ (r a w ⟨σ,m,ρ,S,Mem.le_refl m,h,q,b,ia.refl _ _⟩)
 intro fuel
 induction fuel with
 |zero=>intro listed m ρ σ a w aj c p h q b B r;rw[xav];exact fin (fuel:=0) aj B.1 p h q b B.2 r
 |succ fuel ih=>
  intro listed m ρ σ a w aj c p h q b B r;by_cases t:Region.ready .any ops listed=[];.have:=fin (fuel:=0) aj t p h q b (B.1 t) r;exact Po this _ oZ
  rw[Nat.add_right_comm];have n:uA (ops++gG) (listed++Array.replicate gG.size false):=by
   intro j o' f z e M u;have F:=(xaN.1 f).1;simp at F;by_cases A:j<ops.size
   .rw[uB oZ]at z;rw[pn A]at f;have:=(se s (by rw[pn A];exact f)).1 e M u;rw[uB oZ];exact c j o' f z e M u
   rw[aaZ oZ oZ]at z;cases z
  refine⟨λak=>absurd ?_ t,λi ag=>?_⟩;.refine List.eq_nil_iff_forall_not_mem.2 λi ag=>?_;have:=(Pk s aj (yg ag)).2 ag;rw[ak]at this;cases this
  by_cases y:i<ops.size;.have l:=(Pk s aj y).1 ag;have ab:=B.2 i l;obtain⟨_,V,f,_⟩:=xbW.1 l;unfold fm at ab;simp only[f]at ab;rw[aa5 s y];refine wpOp_mono ?_ (HO R p h q b f (x V (Array.mem_of_getElem? f)) ab);rintro g w' ⟨L,U,J,b3,O,b0,ck,cA,cC⟩;rw[aa9 oZ];refine ih _ U J L g w' (by simp[aj]) (aa0 aj c l) (p.mono O) b0 ck cA b3 ?_;rintro E I ⟨D,H,C,W,X,Y,Z,bX,b5⟩;exact r E I ⟨D,H,C,W,Mem.le_trans O X,Y,Z,bX,cC.trans b5⟩
  refine absurd (Pl aj λj z=>?_) t;have:=IY (by simp[aj]) (ah i oZ (yg ag)) n ag i j oZ oZ
  rwa [uB oZ]at this
end
def abb{P:Program}{T:bC}{G:cj}{N:Nat}{σ:ar}{Q:Exit->ar->Prop}(q:cV P T)(t:P.follows .mixedOrders=true){id:Nat}{ops c:Array Oper}(p:qs N ops=true)(g:IW (ops++c) ops.size=true) {K:ar->Prop} (o:∀b,K b->kX P G N (ops++c) ops.size c.toList (Q .normal) b) (h:gf P T G ops K ops.size (Array.replicate ops.size false) σ):fh P T G N (.region id (ops++c) true) σ Q:=by
 intro m fr ρ a w k hD f r;refine wp_region_any t ?_;simp only[IW,xan]at g;have e:Array.replicate (ops++c).size false=Array.replicate ops.size false++Array.replicate c.size false:=by rw[Array.size_append,Array.replicate_append_replicate]
 rw[e,Array.size_append];refine aba (m:=m) (fr:=fr) (N:=N) (T:=T) q g.1 (λj ab ae=>?_) (o8 p) ops.size _ m ρ σ a _ sZ ?_ k (hD.drew _) f r h ?_;.have:=xay.1 g.2 j (xbU.2 ae);simp only[xbk,xaC]at this;exact this.resolve_left oZ
 .intro j o' u s;have:=(xaN.1 u).1;simp[Array.getD,this]at s
 rintro d w' ⟨b,y,i,z,l,A,B,C,D⟩;have:=o b z y fr i d w' (λe d w'=>gz N m fr ρ σ (Q e) d w') (k.mono l) A B C (λn E x=>x.trans l D);simpa using this
section
variable{β:Type}
def aS(f:lZ->Option (lZ⊕β)):Nat->lZ->Option β
 |0,_=>none|n+1,ls=>af (f ls) λx=>match x with| .inl a=>aS f n a| .inr b=>some b
end
def qI:Code->Nat
 | .region id _ _=>id| .seq x _=>qI x| .cond _ x _=>qI x| .block _ c=>qI c| .loop c=>qI c| .scope c=>qI c|_=>0
def abc(c:Tmp)(x y:Code):Nat:=(c*1000+qI y)*1000+qI x
structure jo where
 T:bC
 G:cj
 C:h0
 n:Nat
 ib:List Key
 loops:Nat->Option jF
 abd:Nat->Option jF
 blocks:Nat->Option jF
 l3:Nat->Option lX
 H:qH
 gn:Tmp->Bool
 pre:Nat->List (List Key)
def aY{a:Type}(b:Option a):Option (lZ⊕a):=af b λb=>some (.inr b)
def aH{a:Type}(f:lZ->Option a):lZ⊕a->Option a
 | .inl ls=>f ls| .inr b=>some b
def IZ{b:Type}(ib:List Key)(c:jF)(run:(Exit->ar->Option (lZ⊕b))->Option (lZ⊕b))(k:Exit->ar->Option b):Option b:=af (run λe a=>match e with| .normal=>n1 ib c a λls=>some (.inl ls)|e=>aY (k e a)) (aH λls=>k .normal (restore c ls))
def yh{b:Type}(id:Nat)(k:Exit->ar->Option b)(e:Exit)(σ:ar):Option b:=match e with
 | .exit a=>if a=id then k .normal σ else k (.exit a) σ
 |e=>k e σ
def abe{a:Type}(k:Exit->ar->Option a)(e:Exit)(σ:ar):Option a:=match e with| .goto _=>none|e=>k e σ
def CX{b:Type}(T:bC)(G:cj)(C:h0)(all:Array Oper):lX->Array Bool->ar->(Array Bool->ar->Option b)->Option b
 |[],listed,σ,k=>k listed σ
 |i::r,listed,σ,k=>match all[i]? with
  |some o=>if o.guard=none/\(Region.ready .any all listed).contains i=true/\(NJ all listed i||CA all listed i σ o||CB all listed i σ.au o||HQ T all listed i)=true then mP T G C σ o λa=>CX T G C all r (listed.setIfInBounds i true) a k else none
  |none=>none
def Pp{P:Program}{T:bC}{G:cj}{C:h0}{all:Array Oper}{q:Type}(n:fu P G C){k:Array Bool->ar->Option q}{b:q}{K:ar->Prop}{f:Nat}(p:∀listed σ,k listed σ=some b->gf P T G all K f listed σ): ∀(ord:lX)(listed:Array Bool)(σ:ar),CX T G C all ord listed σ k=some b->gf P T G all K (ord.length+f) listed σ
 |[],listed,σ,h=>by rw[xaA,xav];exact p _ _ h
 |i::r,listed,σ,h=>by
  unfold CX at h;split at h
  case h_2=>cases h
  rename_i o ag;split at h
  case isFalse=>cases h
  rename_i u;obtain⟨l,j,c⟩:=u;have H:fm P T G all i (gf P T G all K (r.length+f) (listed.setIfInBounds i true)) σ:=by unfold fm;simp only[ag];unfold da;simp only[l];exact lf (λm s=>Pp n p r _ m s) (Is n h)
  rw[show(i::r).length+f=r.length+f+1 by simp;omega];rcases xbx.1 c with c|c
  case inr=>obtain⟨d,e,g⟩:=Cb ag c;exact B9 ag d (r.length+f) listed σ e g (by simpa using j) (.inr trivial) H
  rcases xbx.1 c with c|c
  case inr=>obtain⟨d,e,g⟩:=OL c;exact N2 ag l d (s0:=σ.au) (L:=jj o.op++(qx all listed i).flatMap (λy=>nX y.op)) (λt x=>xaZ _ x) (r.length+f) listed σ (λ_ _=>rfl) e g (by simpa using j) H
  rcases xbx.1 c with c|c;.obtain⟨d,e,g⟩:=NK ag c;exact NH ag d (r.length+f) listed σ e g (by simpa using j) (.inr trivial) H
  unfold CA at c;split at c
  case h_2=>cases c
  rename_i t a w;split at c
  case h_2=>cases c
  rename_i z off aj;obtain⟨d,e,g⟩:=OK ag c;exact NU ag w l d (r.length+f) listed σ aj e g (by simpa using j) H
def exec(X:jo):Code->{l:Type}->ar->(Exit->ar->Option l)->Option l
 | .skip,_,σ,k=>k .normal σ| .label _,_,σ,k=>k .normal σ| .scope c,_,σ,k=>exec X c σ (abe k)| .exit id,_,σ,k=>k (.exit id) σ| .ret,_,σ,k=>k .ret σ
 | .region id ops d,_,σ,k=>sc (X.pre id) σ λσ=>match X.l3 id with
  |none=>match d with|true=>Oz X.T X.G X.C ops σ λb=>k .normal b|false=>Pc X.T X.G X.C X.H X.gn ops σ λb=>k .normal b
  |some ord=>if d=true/\ord.length=ops.size then uq X.T X.G X.C ops ord (Array.replicate ops.size false) σ λb=>k .normal b
   else if d=true/\ord.length<=ops.size/\IW ops ord.length=true then uq X.T X.G X.C (ops.extract 0 ord.length) ord (Array.replicate ord.length false) σ λb=>sd X.T X.G X.C X.H X.gn ops (pf (ops.extract ord.length ops.size).toList) b λf=>k .normal f
   else if d=true/\ord.length<=ops.size then CX X.T X.G X.C ops ord (Array.replicate ops.size false) σ λlisted b=>if qq X.T ops (List.range' ord.length (ops.size-ord.length)) listed=true then qw X.T X.G X.C ops (pf (ops.toList.drop ord.length)) b λf=>k .normal f else none
   else none
 | .seq x y,_,σ,k=>exec X x σ λe b=>match e with| .normal=>exec X y b k|e=>k e b
 | .cond (.tmp c) x y,_,σ,k=>match σ.au c with
  | .d a=>match X.abd (abc c x y)with|none=>a6 a (exec X x σ k) (exec X y σ k)|some g=>IZ X.ib g (λh=>a6 a (exec X x σ h) (exec X y σ h)) k
  |_=>none
 | .block id c,_,σ,k=>match X.blocks id with|none=>exec X c σ (yh id k)|some g=>IZ X.ib g (λh=>exec X c σ (yh id h)) k
 | .loop c,_,σ,k=>match X.loops (qI c)with|none=>none|some g=>n1 X.ib g σ λj=>aS (λls=>exec X c (restore g ls) λe b=>match e with| .normal=>n1 X.ib g b λi=>some (.inl i)|e=>aY (k e b)) X.n j
 | .cond (.const v) x y,_,σ,k=>match v with| .bool true=>exec X x σ k| .bool false=>exec X y σ k|_=>none
 |_,_,_,_=>none
section
variable{P:Program}{T:bC}{G:cj}{N:Nat}{σ:ar}{all:Array Oper}{ib:List Key}
def I1{K K':ar->Prop}(a:∀σ,K σ->K' σ):∀(fuel:Nat){listed:Array Bool}{σ:ar},gf P T G all K fuel listed σ->gf P T G all K' fuel listed σ
 |0,_,_,h=>⟨h.1,a _ h.2⟩|fuel+1,_,_,h=>⟨λak=>a _ (h.1 ak),λi ag=>qp (λ_ b=>I1 a fuel b) (h.2 i ag)⟩
def uC{K:ar->Prop}(c:∀o∈all,∀d,o.dst=some d->d<10000):∀(fuel:Nat){listed:Array Bool}{σ:ar},dO ib σ->gf P T G all K fuel listed σ->gf P T G all (λa=>dO ib a/\K a) fuel listed σ
 |0,_,_,b,h=>⟨h.1,b,h.2⟩
 |fuel+1,_,σ,b,h=>by
  refine⟨λak=>⟨b,h.1 ak⟩,λi ag=>?_⟩;have ab:=h.2 i ag;unfold fm at ab⊢;split at ab
  .exact uC c fuel b ab
  rename_i o g;rw[ft]at ab⊢;have e:=c o (Array.mem_of_getElem? g);cases f:hh all σ o with|none=>rw[f]at ab;exact ab|some w=>rw[f]at ab;cases w with|true=>exact lf (λa ⟨ae,ai⟩=>uC c fuel ae ai) (Pd b e ab)|false=>exact uC c fuel b.put ab
def Pq{Q:Exit->ar->Prop}(g:cV P T)(j:P.follows .mixedOrders=true){id:Nat}{ops:Array Oper}(f:qs N ops=true) (h:gf P T G ops (Q .normal) ops.size (Array.replicate ops.size false) σ):fh P T G N (.region id ops true) σ Q:=by intro m fr ρ a w d hD b i;refine wp_region_any j ?_;exact HS (m:=m) (fr:=fr) (N:=N) (Q:=λe c w'=>gz N m fr ρ σ (Q e) c w') g (o8 f) ops.size _ m ρ σ a _ d (hD.drew _) b i h (λc w' k=>k)
def lq(T:bC)(os:Nat->Option lX)(N:Nat):Code->Bool
 | .region id ops d=>qs N ops&&(!d||(os id).isSome||qq T ops (List.range ops.size) (Array.replicate ops.size false))| .seq x y=>lq T os N x&&lq T os N y| .cond _ x y=>lq T os N x&&lq T os N y| .block _ c=>lq T os N c| .loop c=>lq T os N c| .scope c=>lq T os N c|_=>true
def kp{a:Type}(ib:List Key)(k:Exit->ar->Option a)(b:a)(e:Exit)(σ:ar):Prop:=∃τ,eX σ τ/\dO ib τ/\k e τ=some b
def Pr{a:Type}{x:Option a}{y:lZ⊕a}(h:aY x=some y):∃b,x=some b/\y= .inr b:=by obtain⟨b,ab,ae⟩:=cR h;exact⟨b,ab,(xaX ae).symm⟩
def Ps{d:Type}{p:jF}{c:Code}{run:(Exit->ar->Option (lZ⊕d))->Option (lZ⊕d)}{k:Exit->ar->Option d}{b:d} (a:∀i b',run i=some b'->fh P T G N c σ (kp ib i b')) (h:IZ ib p run k=some b):fh P T G N c σ (kp ib k b):=by
 obtain⟨x,ab,ae⟩:=cR h;refine ud (a _ _ ab) ?_;rintro e g ⟨τ,g1,g2,g3⟩;have other:∀f,e=f->aY (k f τ)=some x->kp ib k b e g:=by rintro f rfl ai;obtain⟨b',j,rfl⟩:=Pr ai;cases ae;exact⟨τ,g1,g2,j⟩
 cases e with
 |normal=>obtain⟨ls,m,n,o⟩:=CJ g2 g3;cases o;exact⟨_,g1.trans m,n,ae⟩
 |exit id=>exact other _ rfl g3|goto l=>exact other _ rfl g3|ret=>exact other _ rfl g3|panic c=>exact other _ rfl g3|outgrown=>exact other _ rfl g3
def abf{c:Type}{f:lZ->Option (lZ⊕c)}{n:Nat}{ls:lZ}{b:c}(h:aS f n ls=some b):∃m,n=m+1/\((∃a,f ls=some (.inl a)/\aS f m a=some b)\/f ls=some (.inr b)):=by
 cases n with
 |zero=>cases h
 |succ m=>obtain⟨x,ab,ae⟩:=cR h;refine⟨m,rfl,?_⟩;cases x with|inl a=>exact .inl ⟨a,ab,ae⟩|inr b'=>cases ae;exact .inr ab
def kp.block{d:Type}{id:Nat}{k:Exit->ar->Option d}{b:d}{e:Exit}{σ:ar}(h:kp ib (yh id k) b e σ):xV id (kp ib k b) e σ:=by
 obtain⟨τ,g1,g2,g3⟩:=h;cases e with
 |exit a=>
  simp only[xV];unfold yh at g3;by_cases ag:a=id;.simp only[ag,xaD]at g3⊢;exact⟨τ,g1,g2,g3⟩
  simp only[ag,xaG]at g3⊢;exact⟨τ,g1,g2,g3⟩
 |normal=>exact⟨τ,g1,g2,g3⟩|goto l=>exact⟨τ,g1,g2,g3⟩|ret=>exact⟨τ,g1,g2,g3⟩|panic c=>exact⟨τ,g1,g2,g3⟩|outgrown=>exact⟨τ,g1,g2,g3⟩
def mU(X:jo)(F:cV P X.T)(B:fu P X.G X.C)(hH:jG P X.G X.H)(A:P.follows .mixedOrders=true)(E:N<10000):∀(c:Code){t:Type}{σ:ar}{k:Exit->ar->Option t}{b:t},lq X.T X.l3 N c=true->dO X.ib σ->exec X c σ k=some b->fh P X.T X.G N c σ (kp X.ib k b)
 | .skip,t,σ,k,b,_,s,h=>YM ⟨σ,eX.refl σ,s,h⟩| .label l,t,σ,k,b,_,s,h=>YN ⟨σ,eX.refl σ,s,h⟩| .exit id,t,σ,k,b,_,s,h=>YO ⟨σ,eX.refl σ,s,h⟩| .ret,t,σ,k,b,_,s,h=>YP ⟨σ,eX.refl σ,s,h⟩
 | .region id ops d,t,σ,k,b,r,s,h=>by
  simp only[lq,xan,xbk,xcr]at r;have Z:∀o∈ops.toList,∀d,o.dst=some d->d<10000:=λo z d L=>xco (o8 r.1 o (by simpa using z) d L) E;have I:∀q,dO X.ib q/\k .normal q=some b->kp X.ib k b .normal q:=λq O=>⟨q,eX.refl q,O⟩;unfold exec at h;have U:=yd s h;clear h s;obtain⟨σ,cx,s,h⟩:=U;refine HT cx ?_;split at h
  .rename_i S;split at h
   .have ab:=ZW (P:=P) (all:=ops) (σ:=σ) B (K:=λq=>∃τ,jE q τ/\k .normal τ=some b) (λσ τ hw ⟨eI,ab,ae⟩=>⟨eI,hw.trans ab,ae⟩) (λq O=>⟨q,jE.refl _,O⟩) h;have ae:dY P X.T X.G ops ops.toList (kp X.ib k b .normal) σ:=by
     refine jD ?_ (IS s Z ab);rintro q ⟨g1,τ,g2,g3⟩;refine⟨τ,g2.r7,?_,g3⟩;intro j cK W;rw[<-g2.1]at W;exact g1 j cK W
    exact Y3 F A r.1 (r.2.resolve_left (by simp[S])) ae
   have ab:=aaW (P:=P) (all:=ops) (σ:=σ) F B hH E (λo z d L=>o8 r.1 o (by simpa using z) d L) s h;exact aaX (λm fr ρ a w Q gD hD de L fB=>ab m fr ρ a w Q gD hD de L (λff w' dR=>fB ff w' (dR.mono I)))
  rename_i ord S;split at h
  case isFalse=>
   split at h
   case isFalse=>
    split at h
    case isFalse=>cases h
    rename_i Y;obtain⟨rfl,J⟩:=Y;have ab:=Pp (P:=P) (T:=X.T) (G:=X.G) (all:=ops) (f:=(List.range' ord.length (ops.size-ord.length)).length) (K:=λq=>∃τ,jE q τ/\k .normal τ=some b) B (λlisted q dE=>by
     split at dE
     case isFalse=>cases dE
     rename_i z;refine HR _ _ _ z ?_;have ae:=r8 (P:=P) B (K:=λq=>∃τ,jE q τ/\k .normal τ=some b) (λσ τ hw ⟨eI,ab,ae⟩=>⟨eI,hw.trans ab,ae⟩) (λg A o z=>x6 _ _ _ A o z) (λq O=>⟨q,jE.refl _,O⟩) dE;rw[pg]at ae;have ai:=NQ (P:=P) (T:=X.T) (G:=X.G) (all:=ops) (ops.toList.drop ord.length) ord.length q _ (λj=>by simp) ae;simpa using ai) ord _ σ h
    rw[List.length_range',show ord.length+(ops.size-ord.length)=ops.size by omega]at ab;refine Pq F A r.1 (I1 ?_ _ (uC (λo z d L=>xco (o8 r.1 o z d L) E) _ s ab));rintro q ⟨g1,τ,g2,g3⟩;refine⟨τ,g2.r7,?_,g3⟩;intro j cK W;rw[<-g2.1]at W;exact g1 j cK W
   rename_i Y;obtain⟨rfl,J,b3⟩:=Y;have dD:ops=ops.extract 0 ord.length++ops.extract ord.length ops.size:=by rw[Array.extract_append_extract,Nat.max_eq_right J];simp
   have b5:ord.length=(ops.extract 0 ord.length).size:=uZ
   have ab:=Ix (P:=P) B ord _ σ h;generalize ops.extract 0 ord.length=ek at*;generalize ops.extract ord.length ops.size=lQ at*;subst dD;rw[b5]at ab;have ck:qs N ek=true:=by have:=r.1;unfold qs at this⊢;simp only[Array.toList_append,List.all_append,xan]at this;exact this.1
   rw[b5]at b3;refine abb F A ck b3 ?_ (uC (λo z d L=>xco (o8 ck o z d L) E) _ s ab);rintro q ⟨cU,U⟩;have ae:=ye (P:=P) (N:=N) (ib:=X.ib) (all:=ek++lQ) (i:=ek.size) F B hH E (K:=kp X.ib k b .normal) (λg A o z=>x6 _ _ _ A o z) (by rw[pg];intro o' z d L;exact o8 r.1 _ (by simp at z⊢;exact .inr z) d L) (by rw[pg];intro j;rw[Array.getElem?_append_right oZ];simp) cU (λcA ab ae=>I cA ⟨ab,ae⟩) U
   rwa [pg]at ae
  rename_i Y;obtain⟨rfl,J⟩:=Y;have ab:=Ix (P:=P) B ord _ σ h;rw[J]at ab;exact Pq F A r.1 (I1 I _ (uC (λo z d L=>xco (o8 r.1 o z d L) E) _ s ab))
 | .seq x y,t,σ,k,b,r,s,h=>by simp only[lq,xan]at r;refine YQ (ud (mU X F B hH A E x r.1 s h) ?_);rintro e q ⟨τ,g1,g2,g3⟩;cases e with|normal=>simp only[Cc];refine HT g1 (mU X F B hH A E y r.2 g2 g3)|exit id=>exact⟨τ,g1,g2,g3⟩|goto l=>exact⟨τ,g1,g2,g3⟩|ret=>exact⟨τ,g1,g2,g3⟩|panic c=>exact⟨τ,g1,g2,g3⟩|outgrown=>exact⟨τ,g1,g2,g3⟩
 | .cond c x y,t,σ,k,b,r,s,h=>by
  simp only[lq,xan]at r;cases c with
  |tmp c=>
   unfold exec at h;split at h
   case h_2=>cases h
   rename_i a eW;have two:∀{t:Type}(M:Exit->ar->Option t)(b':t),a6 a (exec X x σ M) (exec X y σ M)=some b'->fh P X.T X.G N (.cond (.tmp c) x y) σ (kp X.ib M b'):=by
    intro t M b' h;rcases Co h with⟨rfl,ab⟩|⟨rfl,ab⟩
    .exact Cd (b:=true) eW (by rw[xac rfl];exact mU X F B hH A E x r.1 s ab)
    exact Cd (b:=false) eW (by rw[xab sZ];exact mU X F B hH A E y r.2 s ab)
   split at h;.exact two k b h
   exact Ps (λM b' O=>two M b' O) h
  |const v=>
   unfold exec at h;split at h;.exact Cd (b:=true) rfl (by rw[xac rfl];exact mU X F B hH A E x r.1 s h)
   .exact Cd (b:=false) rfl (by rw[xab sZ];exact mU X F B hH A E y r.2 s h)
   cases h
  |global g=>cases h
  |func f=>cases h
 | .block id c,t,σ,k,b,r,s,h=>by
  have one:∀{t:Type}(M:Exit->ar->Option t)(b':t),exec X c σ (yh id M)=some b'->fh P X.T X.G N (.block id c) σ (kp X.ib M b'):=by intro t M b' h;exact YT (ud (mU X F B hH A E c r s h) (λe q O=>O.block))
  unfold exec at h;split at h;.exact one k b h
  exact Ps (λM b' O=>one M b' O) h
 | .loop c,t,σ,k,b,r,s,h=>by
  unfold exec at h;split at h
  case h_1=>cases h
  rename_i R ix;obtain⟨eV,fs,eU,fg⟩:=CJ s h;generalize hC:(λls=>exec X c (restore R ls) λe q=>match e with| .normal=>n1 X.ib R q λu=>some (Sum.inl u)|e=>aY (k e q))=f at fg;refine YW (ι:={p:lZ×Nat//aS f p.2 p.1=some b/\dO X.ib (restore R p.1)}) (λp=>restore R p.1.1) (λp=>p.1.2) ⟨(eV,X.n),fg,eU⟩ fs ?_;rintro⟨⟨ls,n⟩,bX,b0⟩;simp only at bX b0⊢;obtain⟨m,rfl,ai⟩:=abf bX;have round:∀x,f ls=some x->fh P X.T X.G N c (restore R ls) (kp X.ib (λe q=>match e with| .normal=>n1 X.ib R q λu=>some (Sum.inl u)|e=>aY (k e q)) x):=by intro x U;rw[<-hC]at U;exact mU X F B hH A E c r b0 U
  have go:∀x,f ls=some x->(∀u,x= .inl u->aS f m u=some b)->(∀b',x= .inr b'->b'=b)->fh P X.T X.G N c (restore R ls) (Cc (λq=>∃j:{p:lZ×Nat//aS f p.2 p.1=some b/\dO X.ib (restore R p.1)},eX q (restore R j.1.1)/\j.1.2<m+1) (kp X.ib k b)):=by
   intro x U ah dR;refine ud (round x U) ?_;rintro e q ⟨τ,g1,g2,g3⟩;have other:∀cC,e=cC->aY (k cC τ)=some x->kp X.ib k b e q:=by rintro cC rfl ai;obtain⟨b',V,rfl⟩:=Pr ai;rw[dR b' rfl]at V;exact⟨τ,g1,g2,V⟩
   cases e with
   |normal=>obtain⟨u,j0,je,jf⟩:=CJ g2 g3;cases jf;exact⟨⟨(u,m),ah u rfl,je⟩,g1.trans j0,Nat.lt_succ_self m⟩
   |exit id=>exact other _ rfl g3|goto l=>exact other _ rfl g3|ret=>exact other _ rfl g3|panic c=>exact other _ rfl g3|outgrown=>exact other _ rfl g3
  rcases ai with⟨u,V,gd⟩|V;.exact go _ V (by rintro _ ⟨⟩;exact gd) (by rintro _ ⟨⟩)
  exact go _ V (by rintro _ ⟨⟩) (by rintro _ ⟨⟩;rfl)
 | .rangeFunc _ _ _ _,t,σ,k,b,_,s,h=>by cases h
 | .scope c,t,σ,k,b,r,s,h=>YS (ud (mU X F B hH A E c (by simpa[lq]using r) s h) (by
   rintro e q ⟨τ,g1,g2,g3⟩;cases e with
   |goto l=>cases g3
   |normal=>exact⟨τ,g1,g2,g3⟩|exit id=>exact⟨τ,g1,g2,g3⟩|ret=>exact⟨τ,g1,g2,g3⟩|panic c=>exact⟨τ,g1,g2,g3⟩|outgrown=>exact⟨τ,g1,g2,g3⟩))
 | .goto _,t,σ,k,b,_,s,h=>by cases h
 | .refuse _,t,σ,k,b,_,s,h=>by cases h
end
def Pt{P:Program}{T:bC}{G:cj}{N:Nat}{c:Code}{σ:ar}{Q:Exit->ar->Prop}(h:fh P T G N c σ (λe d=>∃τ,eX d τ/\Q e τ)):fh P T G N c σ Q:=by intro m fr ρ a w o hD p r;refine wp_mono (h m fr ρ a w o hD p r) ?_;rintro e i w' ⟨d,s,g,⟨τ,n,q⟩,ae,ai,j,k,l⟩;obtain⟨f,b,g1,g2,g3⟩:=n s fr g i w' ai;exact⟨τ,f,b,q,Mem.le_trans ae g1,g2,j,k,l.trans g3⟩
def abg(T:bC)(a:List ResultVar)(e:Exit)(σ:ar):oX:=match e with| .normal=>af (mM T σ a) (toD σ.objs)| .ret=>af (mM T σ a) (toD σ.objs)|_=>none
def po(X:jo)(fn:Func)(args:List az):oX:=match fn.body with|some c=>exec X c (start args λ_=>none) (abg X.T fn.results.toList)|none=>none
def kq(T:bC)(os:Nat->Option lX)(fn:Func):Bool:=match fn.body with|some c=>lq T os fn.ntmps c&&decide (fn.ntmps<10000)&&!(fn.name== "runtime.NumGoroutine")|none=>false
def abh{g e:List az}(h:gT (λk=>k) (λ_=>False) g e):eX (start g λ_=>none) (start e λ_=>none):=by
 intro m fr ρ a w hD;refine⟨m,ρ,Mem.le_refl m,⟨hD.mem,hD.frame,hD.apart,?_,?_,?_,?_,?_⟩,?_⟩;.rintro k ⟨o,l⟩;cases l
 .intro t;have ab:=hD.au t;obtain⟨ae,ai⟩:=h.ok;simp only[start]at ab⊢;cases f:e[t]? with
  |none=>rw[xbf,f];exact .any _
  |some y=>
   obtain⟨x,n,c⟩:=ai t y f;rw[xbf,n]at ab;rw[xbf,f];have i:lg (λk=>k) (ar.used (start e λ_=>none)) x y:=by unfold lg at c⊢;split at c<;>first|exact c|(exact absurd c.2 id)
   exact i.ok (ρ:=ρ) ab
 .intro k o d;cases d
 .intro k o b d;cases d
 .intro k p o o' b _ d;cases d
 intro k _ j;exact absurd j o6
def abi{P:Program}(X:jo)(m:cV P X.T)(o:fu P X.G X.C)(hH:jG P X.G X.H)(t:P.follows .mixedOrders=true)(s:X.ib=[]){f:FuncId}{fn:Func}(q:P.funcs[f]?=some fn)(b:kq X.T X.l3 fn=true){i:lZ}{as:List az}(j:gT (λk=>k) (λ_=>False) (i.map .d) as)(a:decide (i.length<=fn.ntmps)=true){r:D} (h:po X fn as=some r):cF P X.G f i (·=r):=by
 have a:=xbb a;unfold po at h;unfold kq at b;split at h
 case h_2=>cases h
 rename_i c n;simp only[n,xan,xaC,xcr]at b;refine YY m q n b.2 a ?_;refine HT (abh j) ?_;refine Pt (ud (mU X m o hH t b.1.2 c b.1.1 (by intro k _ p;exact absurd p o6) h) ?_);rintro e w ⟨τ,g1,g2,g3⟩;have fin:af (mM X.T τ fn.results.toList) (toD τ.objs)=some r->∃g d x,mM X.T τ fn.results.toList=some g/\toD τ.objs g=some d/\d.le x/\x=r:=by intro ab;obtain⟨u,ae,ai⟩:=cR ab;exact⟨u,r,r,ae,ai,D.le_refl _,rfl⟩
 refine⟨τ,g1,?_⟩;cases e with
 |normal=>exact⟨.inl rfl,fin g3⟩|ret=>exact⟨.inr rfl,fin g3⟩|exit id=>cases g3
 |goto l=>cases g3
 |panic c=>cases g3
 |outgrown=>cases g3
def CY(s:eK)(ls:lZ):ar:=⟨λt=>(s.qE ls).getD t .any,dh (s.ko ls)⟩
def abj(X:jo)(s:eK)(ll:List qy)(a:List ResultVar)(e:Exit)(σ:ar):oY:=match e with
 | .normal=>af (mM X.T σ a) λx=>n1 X.ib ⟨[(0,s.res)],s.outs,ll⟩ ⟨λt=>if t=0 then x else .any,σ.objs⟩ some
 | .ret=>af (mM X.T σ a) λx=>n1 X.ib ⟨[(0,s.res)],s.outs,ll⟩ ⟨λt=>if t=0 then x else .any,σ.objs⟩ some
 |_=>none
def I2(X:jo)(fn:Func)(s:eK)(ll:List qy)(ls:lZ):oY:=match fn.body with|some c=>exec X c (CY s ls) (abj X s ll fn.results.toList)|none=>none
def abk{P:Program}(X:jo)(U:cV P X.T)(ck:fu P X.G X.C)(hH:jG P X.G X.H)(cU:P.follows .mixedOrders=true){s:eK}{fn:Func}(W:P.funcs[s.f]?=some fn)(b:kq X.T X.l3 fn=true)(i:decide (s.args.length<=fn.ntmps)=true) (M:(s.ins.all λp=>decide (p.1<10000)||X.ib.contains p.1)=true) {ll:List qy} {F:lZ->oY} (h:∀ls a,F ls=some a->I2 X fn s ll ls=some a):qF P X.G s F:=by
 have i:=xbb i;unfold kq at b;split at b
 case h_2=>cases b
 rename_i c y;simp only[xan,xaC,xcr]at b;refine⟨⟨fn,W,b.2,by rw[y];rfl⟩,?_⟩;intro ls a cA m fr ρ w vs cC hD ah j;have E:=h ls a cA;unfold I2 at E;rw[y]at E;simp only at E;have cx:(s.qE ls).length=s.args.length:=by
  have:∀(l:List SW)(n:Nat),(mR ls l n).1.length=l.length:=by
   intro l
   induction l with
   |nil=>intro n;rfl
   |cons x r ih=>intro n;simp[mR,ih]
  exact this _ _
 have J:dO X.ib (CY s ls):=by
  intro k B y;obtain⟨cs,L⟩:=tX y;have:=qt L;have ab:ji (s.ko ls)=s.ins.map (·.1):=sb _ _ _;rw[ab]at this;obtain⟨p,de,rfl⟩:=xaK.1 this;have ae:=xay.1 M p de;simp only[xbk,xaC,List.contains_eq_mem]at ae;rcases ae with ae|ae
  .exact absurd ae (Nat.not_lt.2 B)
  exact ae
 have dE:=mU X U ck hH cU b.1.2 c b.1.1 J E;refine calls_of_wp W y ?_;have z:Den m fr ρ (CY s ls) {tmps:=vs.toArray++Array.replicate (fn.ntmps-vs.toArray.size) undef,defers:=[]} w:=by
  refine⟨hD.mem,hD.frame,hD.apart,hD.one,?_,hD.objs,hD.own,hD.sep⟩;intro t;simp only[CY];by_cases q:t<vs.length
  .have N:t<(s.qE ls).length:=by rw[<-ah];exact q
   have V:=xaa N;have cK:=xaa q;have I:(s.qE ls).getD t .any=(s.qE ls)[t]:=by rw[xbf,V];rfl
   have bX:(vs.toArray++Array.replicate (fn.ntmps-vs.toArray.size) undef).getD t undef=vs[t]:=by rw[xbj,xbt (by simpa using q)];simp[q]
   rw[I,bX];exact j t _ _ V cK
  have I:(s.qE ls).getD t .any= .any:=by rw[xbf,xaH oZ];rfl
  rw[I];exact .any _
 have Q:fn.ntmps<=(vs.toArray++Array.replicate (fn.ntmps-vs.toArray.size) undef).size:=uZ
 refine wp_mono (Pt dE m fr ρ _ w cC z Q rfl) ?_;rintro e S w' ⟨d,Y,A,⟨g2,g3⟩,b5,g,eI,b3,b0⟩;have fin:(af (mM X.T d fn.results.toList) λx=>n1 X.ib ⟨[(0,s.res)],s.outs,ll⟩ ⟨λt=>if t=0 then x else .any,d.objs⟩ some)=some a->S.defers=[]/\∃v,(results fn S.tmps).run P w'= .ok v w'/\∃Z m1 u,Ending.returned v= .returned Z/\m.le m1/\pk m1 fr u (dh (s.lp a)) w'/\bz m1 u (mS (dh (s.lp a))) (s.CN a) Z/\∀k,10000<=k->ds (dh (s.ko ls) k)->u k=ρ k:=by
  intro ab;obtain⟨x,ae,ai⟩:=cR ab;obtain⟨v,dD,eV⟩:=NM (P:=P) U g ae;obtain⟨dR,c3,df,ek⟩:=CJ (σ:=⟨λt=>if t=0 then x else .any,d.objs⟩) g2 ai;cases ek;have o:Den Y fr A ⟨λt=>if t=0 then x else .any,d.objs⟩ {tmps:= #[v],defers:=[]} w':=by
   refine⟨g.mem,g.frame,g.apart,g.one,?_,g.objs,g.own,g.sep⟩;intro t;by_cases q:t=0;.subst q;exact eV
   simp only[q,xaG];exact .any _
  obtain⟨m2,R,t1,t2,t3⟩:=c3 Y fr A _ w' o;have O:=t2.au 0;refine⟨b3,v,dD,v,m2,R,rfl,Mem.le_trans b5 t1,⟨t2.mem,t2.frame,t2.apart,t2.one,λ_=> .any _,t2.objs,t2.own,t2.sep⟩,?_,?_⟩
  .exact O
  intro k B K;obtain⟨cu,cW⟩:=b0 k B K;rw[(t3 k B cu).2,cW]
 cases e with
 |normal=>exact fin g3|ret=>exact fin g3|exit id=>cases g3
 |goto l=>cases g3
 |panic c=>cases g3
 |outgrown=>cases g3
def abl{P:Program}{T:bC}{os:Nat->Option lX}{f:FuncId}{fn:Func}(d:P.funcs[f]?=some fn)(a:kq T os fn=true):qj P f:=by
 unfold kq at a;split at a
 case h_2=>cases a
 rename_i c b;simp only[xan,xaC,xcr]at a;exact⟨fn,d,a.2,by rw[b];rfl⟩
def sg{P:Program}{G:cj}{s:eK}{F:lZ->oY}(a:qj P s.f)(h:∀ls,F ls=none):qF P G s F:=⟨a,λls c b=>by rw[h]at b;cases b⟩
def dq:List (Tmp×ux)->qH
 |[],_=>none|(t',e)::r,t=>if t=t' then some e else dq r t
def abm{P:Program}{G:cj}:jG P G (dq []):=by intro t e h;cases h
def abn{P:Program}{G:cj}{t:Tmp}{e:ux}{l:List (Tmp×ux)}(h:qF P G e.s e.F)(c:jG P G (dq l)):jG P G (dq ((t,e)::l)):=by
 intro t' b a;unfold dq at a;split at a;.cases a;exact h
 exact c t' b a
def dF:List (Nat×List (List Key))->Nat->List (List Key)
 |[],_=>[]|(j,s)::r,k=>if k=j then s else dF r k
def dH(l:List Tmp)(t:Tmp):Bool:=l.contains t
def fv:List (FuncId×(lZ->oX))->h0
 |[],_,_,_=>none|(b,F)::r,d,f,a=>if f=b then F a else fv r d f a
def lr(P:Program)(G:cj)(f:FuncId)(F:lZ->oX):Prop:=∀a r,F a=some r->cF P G f a (·=r)
def abo{P:Program}{G:cj}:fu P G (fv []):=by intro d f a r h;cases h
def abp{P:Program}{G:cj}{f:FuncId}{F:lZ->oX}{l:List (FuncId×(lZ->oX))}(h:lr P G f F)(g:fu P G (fv l)):fu P G (fv ((f,F)::l)):=by
 intro d c b r a;unfold fv at a;split at a;.rename_i e;subst e;exact h b r a
 exact g d c b r a
def bE:List (Nat×jF)->Nat->Option jF
 |[],_=>none|(j,s)::r,k=>if k=j then some s else bE r k
def dG:List (Nat×lX)->Nat->Option lX
 |[],_=>none|(j,s)::r,k=>if k=j then some s else dG r k
def sh(f:FuncId)(x:D):Bool:=match x with| .val (.func (.func c) a b)=>c==f&&a.size==0&&b.size==0|_=>false
def Pu{f:FuncId}{x:D}(h:sh f x=true):x= .val (.func (.func f) #[] #[]):=by
 unfold sh at h;split at h;.rename_i c a b;simp only[xan,xbQ]at h;obtain⟨⟨rfl,ab⟩,ae⟩:=h;rw[xbp ab,xbp ae]
 cases h
def fJ(f:FuncId)(x:D):oY:=match x with
 | .fn (.func b) first a=>if b=f/\first.isEmpty=true then some a else none
 |_=>none
def gV{f:FuncId}{x:D}{a:lZ}(h:fJ f x=some a):x= .fn (.func f) [] a:=by
 unfold fJ at h;split at h
 .split at h;.rename_i b;cases h;rw[b.1,List.isEmpty_iff.1 b.2]
  cases h
 cases h
def le_nil:gT (λk=>k) (λ_=>False) (List.map az.d []) []:=trivial
def e0{x:D}{y:az}{a:lZ}{b:List az}(h:lg (λk=>k) (λ_=>False) (.d x) y)(c:gT (λk=>k) (λ_=>False) (List.map az.d a) b):gT (λk=>k) (λ_=>False) (List.map az.d (x::a)) (y::b):=⟨h,c⟩
def abq{x:D}:lg (λk=>k) (λ_=>False) (.d x) (.d x):=⟨x,rfl,D.le_refl x⟩
theorem e6{c:lZ}{o:Nat}:lg (λk=>k) (λ_=>False) (.d (.ref c o)) (.cH c o):= .inr rfl
def aq(t:Nat):Nat×SW:=(t,.b .d)
def sp(t:Nat):Nat×SW:=(t,.b (.ptr t 0))
def a1(t k:Nat):Nat×SW:=(t,.b (.row k))
def aW(k n:Nat):Key×iK:=(k,.box (List.replicate n (.b .d)))
def aJ(k n:Nat):Key×iK:=(k,.row n)
def lu(l:lX):jF:=⟨l.map λv=>if v<1000 then aq v else sp (v/1000),(l.filter λv=>decide (1000<=v)).map λv=>aW (v/1000) (v%1000),[]⟩
def abr(b:Bool)(k:Nat):Nat:=if b&&decide (1000<=k)&&decide (k<1000000)then k*1000 else k
def bB(b:Bool)(l:List (lX×jF)):List (Nat×jF):=l.flatMap λp=>p.1.map λk=>(abr b k,p.2)
def bW(b:Bool)(l:List (lX×lX)):List (Nat×jF):=bB b (l.map λp=>(p.1,lu p.2))
def abt(P:Program)(G:cj)(n:Nat)(c:List (FuncId×(lZ->oX)))(l j b:List (Nat×jF)):jo:=⟨dn P,G,fv c,n,[],bE l,bE j,bE b,dG [],dq [],dH [],dF []⟩
def cY{P:Program}(X:jo)(j:cV P X.T)(i:fu P X.G X.C)(hH:jG P X.G X.H)(n:P.follows .mixedOrders=true){f:FuncId}{fn:Func}(m:P.funcs[f]?=some fn){b:lZ}{as:List az}(e:gT (λk=>k) (λ_=>False) (b.map .d) as) {o:oX} {r:D} (h:o=some r) (c:X.ib=[]:=by rfl) (g:kq X.T X.l3 fn=true:=by kernel_rfl) (a:decide (b.length<=fn.ntmps)=true:=by kernel_rfl) (l:po X fn as=o:=by kernel_rfl):cF P X.G f b (·=r):=abi X j i hH n c m g e a (l.trans h)
def jH{P:Program}(X:jo)(g:cV P X.T)(e:fu P X.G X.C)(hH:jG P X.G X.H)(j:P.follows .mixedOrders=true){s:eK}{fn:Func}(i:P.funcs[s.f]?=some fn)(ll:List qy){F:lZ->oY}(c:kq X.T X.l3 fn=true:=by kernel_rfl)(a:decide (s.args.length<=fn.ntmps)=true:=by kernel_rfl) (b:(s.ins.all λp=>decide (p.1<10000)||X.ib.contains p.1)=true:=by kernel_rfl) (h:∀ls,I2 X fn s ll ls=F ls:=by intros;kernel_rfl):qF P X.G s F:=abk X g e hH j i c a b λls k d=>(h ls).trans d
def br{x:D}{a:lZ}{b:List az}(h:gT (λk=>k) (λ_=>False) (List.map az.d a) b):gT (λk=>k) (λ_=>False) (List.map az.d (x::a)) (.d x::b):=e0 abq h class si (P:Program) (X:jo):Prop where
 t:cV P X.T
 c:fu P X.G X.C
 h:jG P X.G X.H
 m:P.follows .mixedOrders=true
def iy(P:Program)(f:FuncId)(h:(P.funcs[f]?).isSome=true):Func:=(P.funcs[f]?).get h
def uD{P:Program}{f:FuncId}{h:(P.funcs[f]?).isSome=true}:P.funcs[f]?=some (iy P f h):=by unfold iy;rw[Option.some_get]
def yi(g:oX):lZ->oX
 |[]=>g|_=>none
@[simp] theorem abu {g:oX}:yi g []=g:=rfl
def uj{P:Program}(X:jo)[S:si P X]{f:FuncId}{g:oX}(aj:(P.funcs[f]?).isSome=true:=by kernel_rfl)(b:X.ib=[]:=by rfl)(d:kq X.T X.l3 (iy P f aj)=true:=by kernel_rfl)(a:decide (0<=(iy P f aj).ntmps)=true:=by kernel_rfl)(e:po X (iy P f aj) []=g:=by intros;kernel_rfl):lr P X.G f (yi g):=by
 intro i r h;unfold yi at h;split at h
 case h_2=>cases h
 exact cY X S.t S.c S.h S.m uD le_nil h b d a e
def cO(g:D->oX):lZ->oX
 |[a0]=>g a0|_=>none
@[simp] theorem kr {g:D->oX} {a0:D}:cO g [a0]=g a0:=rfl
def bS{P:Program}(X:jo)[S:si P X]{f:FuncId}{g:D->oX}(aj:(P.funcs[f]?).isSome=true:=by kernel_rfl)(b:X.ib=[]:=by rfl)(e:kq X.T X.l3 (iy P f aj)=true:=by kernel_rfl)(a:decide (1<=(iy P f aj).ntmps)=true:=by kernel_rfl)(i:∀a0,po X (iy P f aj) [.d a0]=g a0:=by intros;kernel_rfl):lr P X.G f (cO g):=by
 intro j r h;unfold cO at h;split at h
 case h_2=>cases h
 exact cY X S.t S.c S.h S.m uD (br le_nil) h b e a (i _)
def di(g:D->D->oX):lZ->oX
 |[a0,aG]=>g a0 aG|_=>none
@[simp] theorem sj {g:D->D->oX} {a0 aG:D}:di g [a0,aG]=g a0 aG:=rfl
def cy{P:Program}(X:jo)[S:si P X]{f:FuncId}{g:D->D->oX}(aj:(P.funcs[f]?).isSome=true:=by kernel_rfl)(b:X.ib=[]:=by rfl)(e:kq X.T X.l3 (iy P f aj)=true:=by kernel_rfl)(a:decide (2<=(iy P f aj).ntmps)=true:=by kernel_rfl)(i:∀a0 aG,po X (iy P f aj) [.d a0,.d aG]=g a0 aG:=by intros;kernel_rfl):lr P X.G f (di g):=by
 intro j r h;unfold di at h;split at h
 case h_2=>cases h
 exact cY X S.t S.c S.h S.m uD (br (br le_nil)) h b e a (i _ _)
def gH(g:D->D->D->oX):lZ->oX
 |[a0,aG,a2]=>g a0 aG a2|_=>none
@[simp] theorem abv {g:D->D->D->oX} {a0 aG a2:D}:gH g [a0,aG,a2]=g a0 aG a2:=rfl
def fo{P:Program}(X:jo)[S:si P X]{f:FuncId}{g:D->D->D->oX}(aj:(P.funcs[f]?).isSome=true:=by kernel_rfl)(b:X.ib=[]:=by rfl)(e:kq X.T X.l3 (iy P f aj)=true:=by kernel_rfl)(a:decide (3<=(iy P f aj).ntmps)=true:=by kernel_rfl)(i:∀a0 aG a2,po X (iy P f aj) [.d a0,.d aG,.d a2]=g a0 aG a2:=by intros;kernel_rfl):lr P X.G f (gH g):=by
 intro j r h;unfold gH at h;split at h
 case h_2=>cases h
 exact cY X S.t S.c S.h S.m uD (br (br (br le_nil))) h b e a (i _ _ _)
def qJ(g:D->D->D->D->oX):lZ->oX
 |[a0,aG,a2,a3]=>g a0 aG a2 a3|_=>none
@[simp] theorem abw {g:D->D->D->D->oX} {a0 aG a2 a3:D}:qJ g [a0,aG,a2,a3]=g a0 aG a2 a3:=rfl
def yj{P:Program}(X:jo)[S:si P X]{f:FuncId}{g:D->D->D->D->oX}(aj:(P.funcs[f]?).isSome=true:=by kernel_rfl)(b:X.ib=[]:=by rfl)(e:kq X.T X.l3 (iy P f aj)=true:=by kernel_rfl)(a:decide (4<=(iy P f aj).ntmps)=true:=by kernel_rfl)(i:∀a0 aG a2 a3,po X (iy P f aj) [.d a0,.d aG,.d a2,.d a3]=g a0 aG a2 a3:=by intros;kernel_rfl):lr P X.G f (qJ g):=by
 intro j r h;unfold qJ at h;split at h
 case h_2=>cases h
 exact cY X S.t S.c S.h S.m uD (br (br (br (br le_nil)))) h b e a (i _ _ _ _)
def CZ(g:D->D->D->D->D->oX):lZ->oX
 |[a0,aG,a2,a3,a4]=>g a0 aG a2 a3 a4|_=>none
@[simp] theorem abx {g:D->D->D->D->D->oX} {a0 aG a2 a3 a4:D}:CZ g [a0,aG,a2,a3,a4]=g a0 aG a2 a3 a4:=rfl
def aby{P:Program}(X:jo)[S:si P X]{f:FuncId}{g:D->D->D->D->D->oX}(aj:(P.funcs[f]?).isSome=true:=by kernel_rfl)(b:X.ib=[]:=by rfl)(e:kq X.T X.l3 (iy P f aj)=true:=by kernel_rfl)(a:decide (5<=(iy P f aj).ntmps)=true:=by kernel_rfl)(i:∀a0 aG a2 a3 a4,po X (iy P f aj) [.d a0,.d aG,.d a2,.d a3,.d a4]=g a0 aG a2 a3 a4:=by intros;kernel_rfl):lr P X.G f (CZ g):=by
 intro j r h;unfold CZ at h;split at h
 case h_2=>cases h
 exact cY X S.t S.c S.h S.m uD (br (br (br (br (br le_nil))))) h b e a (i _ _ _ _ _)
def abz(g:D->D->D->D->D->D->oX):lZ->oX
 |[a0,aG,a2,a3,a4,a5]=>g a0 aG a2 a3 a4 a5|_=>none
@[simp] theorem abA {g:D->D->D->D->D->D->oX} {a0 aG a2 a3 a4 a5:D}:abz g [a0,aG,a2,a3,a4,a5]=g a0 aG a2 a3 a4 a5:=rfl
def abB(g:D->D->D->D->D->D->D->oX):lZ->oX
 |[a0,aG,a2,a3,a4,a5,a]=>g a0 aG a2 a3 a4 a5 a|_=>none
@[simp] theorem anY {g:D->D->D->D->D->D->D->oX} {a0 aG a2 a3 a4 a5 a:D}:abB g [a0,aG,a2,a3,a4,a5,a]=g a0 aG a2 a3 a4 a5 a:=rfl
def sk{P:Program}{T:bC}{os:Nat->Option lX}{f:FuncId}{fn:Func}(h:P.funcs[f]?=some fn)(a:kq T os fn=true:=by kernel_rfl):qj P f:=abl h a
section
variable{β:Type}
abbrev b7(x:D)(m:oX)(k:D->Option β):Option β:=af (cE x true m) λv=>af (en x v (aE false)) k
abbrev cZ(x:D)(m:oX)(k:D->Option β):Option β:=af (cE x false m) λv=>af (en x (aE true) v) k
abbrev aU(m:oX):oX:=af m λv=>some v
abbrev aN(o:BinOp)(a b:D)(k:D->Option β):Option β:=af (aV false o a b) k
abbrev bO(a b:D)(k:D->Option β):Option β:=af (bc 1 a b) λc=>af (aR false 1 0 c) k
abbrev cr(x:D)(j:Nat)(k:D->Option β):Option β:=af ((aF x)[j]?) λc=>af (aR false 1 0 c) k
abbrev bh(x:D)(k:D->Option β):Option β:=af (dL x) k
abbrev aK(n:Nat)(x:D)(k:Option β):Option β:=bF (cz n x) k
abbrev av(l:lZ):Option (lZ⊕β):=some (.inl l)
abbrev ax(x:D):D:= .aw 1 (aF x)
abbrev aM(o:BinOp)(a b:D)(x y:Option β):Option β:=aN o a b λv=>a6 v x y
abbrev db(m:oX)(x y:Option β):Option β:=af m λv=>a6 v x y
abbrev a7:D:= .val (.slice none 0 0)
abbrev al:D:=aa 0
abbrev bH:D:=aa 1
abbrev bo:D:=aE false
abbrev cf:D:=aE true
abbrev bu(x:D)(k:D->Option β):Option β:=aN .add x (aa 1) k
abbrev bT(x:D)(k:D->Option β):Option β:=af (eJ 0 x) k
abbrev bU(x:D)(k:D->Option β):Option β:=af (eJ 1 x) k
abbrev ct(y i:D)(k:Nat->Option β):Option β:=af (cI (aF y).length i) k
abbrev bp(x:D)(k:Option β):Option β:=bF (c8 x) k
abbrev bx(l:lZ):Option (lZ⊕(lZ⊕β)):=aY (av l)
abbrev cc(x:D):D:= .agg [ad x 0,ad x 1,ad x 2,ad x 3]
abbrev eo(x:D):D:= .agg [ad x 0,ad x 1,ad x 2,ad x 3,ad x 4,ad x 5,ad x 6,ad x 7]
end
attribute [simp, go_sem] b7 cZ aU aM db a7 al bH bo cf bu bT bU ct bp bx aN bO cr bh aK av ax cc eo
attribute [go_sem] abu kr sj abv abw abx abA
def uE(i:Nat):List (FuncId×(lZ->oX))->lZ->oX
 |[],_=>none|(f,F)::l,a=>match(a[i]?).bind (fJ f)with|some _=>F a|none=>uE i l a
def abC{P:Program}{G:cj}{f:FuncId}{i:Nat}:lr P G f (uE i []):=by intro a r h;cases h
def uF{P:Program}{G:cj}{f g:FuncId}{i:Nat}{F:lZ->oX}{l:List (FuncId×(lZ->oX))}(h:lr P G f F)(b:lr P G f (uE i l)):lr P G f (uE i ((g,F)::l)):=by
 intro c r a;unfold uE at a;split at a;.exact h _ _ a
 exact b _ _ a
@[congr] def anZ {a b:Type} {x y:Option a} {f:a->Option b} (h:x=y):af x f=af y f:=by rw[h]
@[simp] theorem cL {b c:Type} {a:b} {f:b->Option c}:af (some a) f=f a:=rfl
@[simp] theorem an0 {a b:Type} {f:a->Option b}:af (none:Option a) f=none:=rfl
@[congr] def an1 {a:Type} {c d:Bool} {p:Option a} (h:c=d):bF c p=bF d p:=by rw[h]
@[simp] theorem l4 {a:Type} {p:Option a}:bF true p=p:=rfl
@[simp] theorem an2 {a:Type} {p:Option a}:bF false p=none:=rfl
@[congr] def an3 {a:Type} {x y:D} {p q:Option a} (h:x=y):a6 x p q=a6 y p q:=by rw[h]
@[simp] theorem iM {a:Type} {b:Bool} {p q:Option a}:a6 (aE b) p q=if b=true then p else q:=by cases b<;>rfl
@[congr] def an4 {x y:D} {w:Bool} {p:oX} (h:x=y):cE x w p=cE y w p:=by rw[h]
@[simp] theorem pq {b w:Bool} {p:oX}:cE (aE b) w p=if b=w then p else some hF:=rfl
@[simp] theorem an5 {a:Type} {b w:Bool} {p q:Option a}:r6 (aE b) w p q=if b=w then p else q:=rfl
@[simp] theorem an6 {a:Type} {w:Bool} {p q:Option a}:r6 hF w p q=q:=rfl
@[simp] theorem an7 {w:Bool} {p:oX}:cE hF w p=some hF:=rfl
@[simp] theorem pr {t:Bool} {a b:D}:en (aE t) a b=some (if t=true then a else b):=rfl
@[simp] theorem Pv {c:Prop} [Decidable c] {a b:Bool}:(if c then aE a else aE b)=aE (if c then a else b):=by split<;>rfl
@[simp] theorem I3 {d:Type} {c:Prop} [Decidable c] {a b:d}:(if c then some a else some b)=some (if c then a else b):=by split<;>rfl
@[simp] theorem an8 {e:Type} {c:Prop} [Decidable c] {a b d:e}:(if c then(if c then a else b)else d)=if c then a else d:=by split<;>simp_all
@[simp] theorem I4 {a:Type} {b:a}:aY (some b)=some (.inr b):=rfl
@[simp] theorem an9 {a:Type}:aY (none:Option a)=none:=rfl
@[simp] theorem l5 {a:Type} {f:lZ->Option a} {ls:lZ}:aH f (.inl ls)=f ls:=rfl
@[simp] theorem yk {a:Type} {f:lZ->Option a} {b:a}:aH f (.inr b)=some b:=rfl
@[simp] theorem l6 {x:D} {l:lZ}:bI (x::l) 0=x:=rfl
@[simp] theorem mV {x:D} {l:lZ} {n:Nat}:bI (x::l) (n+1)=bI l n:=rfl
@[simp] theorem abD {k:Nat} {es:mW}:aF (.aw k es)=es:=rfl
@[simp] theorem abE {es:List (Value×D)}:dT (.mp es)=es:=rfl
@[simp] theorem abF {cs:lZ}:dK (.agg cs)=cs:=rfl
@[simp] theorem aoa {cs:lZ} {i:Nat}:ad (.agg cs) i=cs.getD i hF:=rfl
@[simp] theorem I5 {n:Int}:c8 (aa n)=true:=rfl
@[simp] theorem abG {n:Bool}:c8 (aE n)=true:=rfl
@[simp] theorem abH {n:ByteArray}:c8 (aD n)=true:=rfl
@[simp] theorem abI {k:Nat} {es:mW}:c8 (.aw k es)=true:=rfl
@[simp] theorem aob {es:List (Value×D)}:c8 (.mp es)=true:=rfl
@[simp] theorem abJ:c8 (.val (.slice none 0 0))=true:=rfl
@[simp] theorem abK {n:Int}:(aa n).one=true:=rfl
@[simp] theorem abL {n:Bool}:(aE n).one=true:=rfl
@[simp] theorem abM {n:ByteArray}:(aD n).one=true:=rfl
@[simp] theorem abN {k:Nat} {es:mW}:(D.aw k es).one=true:=rfl
@[simp] theorem abO:(D.val (.slice none 0 0)).one=true:=rfl
@[simp] theorem aoc {n:Nat} {cs:lZ}:cz n (.agg cs)=(cs.length==n&&cs.all D.one):=rfl
@[simp] theorem aod:jy (.val (.slice none 0 0))=true:=rfl
@[simp] theorem gq {n off:Nat} {cs:lZ}:aR false n off cs=cs[off]?:=rfl
theorem sl{n off:Nat}{cs:lZ}:aR true n off cs=if off+n<=cs.length then some (.agg ((cs.drop off).take n))else none:=rfl
@[simp] theorem Pw {a:Bool} {n off:Nat} {cs:lZ}:jk a n off (.agg cs)=aR a n off cs:=rfl
@[simp] theorem I6 {i:Nat} {vs:lZ}:eJ i (.aB vs)=vs[i]?:=rfl
@[simp] theorem abP {k:Nat} {es:mW}:dL (.aw k es)=some (aa es.length):=rfl
@[simp] theorem abQ:dL (.val (.slice none 0 0))=some (aa 0):=rfl
@[simp] theorem I7 {s:ByteArray}:lk (aD s)=some (aa s.size):=rfl
@[simp] theorem Px {k:Nat} {es:mW} {i:Nat}:bc k (.aw k es) (aa (i:Int))=es[i]?:=by simp[bc,aa]
@[simp] theorem aoe {k:Nat} {es:mW}:bc k (.aw k es) (aa 0)=es[0]?:=by simp[bc,aa]
def I8{n:Nat}{i:Int}(h:0<=i)(a:i<n):cI n (aa i)=some i.toNat:=by simp[cI,aa,h,a]
@[simp] theorem jI {n i:Nat}:cI n (aa (i:Int))=if i<n then some i else none:=by simp[cI,aa]
@[simp] theorem abR {k:Nat} {es:mW}:jz (.aw k es)=some (k,es):=rfl
@[simp] theorem aof:jz (.val (.slice none 0 0))=some (0,[]):=rfl
def sm{n b:Nat}(ab:n*b<=140737488355328)(ae:n<=4611686018427387904):b1 n b=true:=by simp[b1,ab,ae]
section
variable{bt:Bool}{a b:Int}
@[simp] theorem C0:aV bt .lss (aa a) (aa b)=some (aE (decide (a<b))):=rfl
@[simp] theorem C1:aV bt .leq (aa a) (aa b)=some (aE (decide (a<=b))):=rfl
@[simp] theorem lv:aV bt .gtr (aa a) (aa b)=some (aE (decide (a>b))):=rfl
@[simp] theorem yl:aV bt .geq (aa a) (aa b)=some (aE (decide (a>=b))):=rfl
@[simp] theorem uG:aV bt .eql (aa a) (aa b)=some (aE (a==b)):=rfl
@[simp] theorem uH:aV bt .neq (aa a) (aa b)=some (aE (a !=b)):=rfl
theorem C2:aV bt .add (aa a) (aa b)=some (aa (IntKind.i64.wrap (a+b))):=rfl
theorem I9:aV bt .sub (aa a) (aa b)=some (aa (IntKind.i64.wrap (a-b))):=rfl
theorem abS:aV bt .mul (aa a) (aa b)=some (aa (IntKind.i64.wrap (a*b))):=rfl
def dx(ab:-9223372036854775808<=a+b)(ae:a+b<=9223372036854775807):aV bt .add (aa a) (aa b)=some (aa (a+b)):=by rw[C2,wrap64 _ ab ae]
def j6(ab:-9223372036854775808<=a-b)(ae:a-b<=9223372036854775807):aV bt .sub (aa a) (aa b)=some (aa (a-b)):=by rw[I9,wrap64 _ ab ae]
def qK(ab:-9223372036854775808<=a*b)(ae:a*b<=9223372036854775807):aV bt .mul (aa a) (aa b)=some (aa (a*b)):=by rw[abS,wrap64 _ ab ae]
def Py(h:b≠0):aV bt .quo (aa a) (aa b)=some (aa (IntKind.i64.wrap (a.tdiv b))):=by simp[aV,xL,aa,h,kR]
def ym(h:b≠0):aV bt .rem (aa a) (aa b)=some (aa (a.tmod b)):=by simp[aV,xL,aa,h,kR]
@[simp] theorem Ja {x y:ByteArray}:aV bt .eql (aD x) (aD y)=some (aE (decide (x=y))):=rfl
@[simp] theorem Pz {x y:ByteArray}:aV bt .neq (aD x) (aD y)=some (aE (!decide (x=y))):=rfl
@[simp] theorem abT {x y:ByteArray}:aV bt .lss (aD x) (aD y)=some (aE (blt x y)):=rfl
@[simp] theorem Jb {x y:ByteArray}:aV bt .gtr (aD x) (aD y)=some (aE (!(blt x y||decide (x=y)))):=rfl
@[simp] theorem aog {x y:Bool}:aV true .eql (aE x) (aE y)=some (aE (x==y)):=rfl
@[simp] theorem abU {x y:Bool}:aV true .neq (aE x) (aE y)=some (aE (x !=y)):=rfl
@[simp] theorem uI {x:Bool}:cd .not (aE x)=some (aE (!x)):=rfl
end
attribute [simp] xbF xct List.getElem?_nil List.getD_cons_zero List.getD_cons_succ
theorem ic{c:Type}{f:lZ->Option (lZ⊕c)}{n:Nat}{ls:lZ}:aS f (n+1) ls=af (f ls) λx=>match x with| .inl a=>aS f n a| .inr b=>some b:=rfl
def PA{a:Type}{f:lZ->Option (lZ⊕a)}(dy:Nat->lZ):∀{m n j:Nat},(∀i,j<=i->i<j+m->f (dy i)=some (.inl (dy (i+1))))->m<=n->aS f n (dy j)=aS f (n-m) (dy (j+m))
 |0,n,j,_,_=>rfl|m+1,0,j,_,h=>absurd h oZ
 |m+1,n+1,j,aj,h=>by
  rw[ic,aj j (xaR j) oZ];simp only[cL];have:=PA (f:=f) dy (m:=m) (n:=n) (j:=j+1) (λi ab ae=>aj i oZ oZ) oZ;rw[this]
  congr 1
  .omega
  congr 1;omega
theorem iN{a:Type}{f:lZ->Option (lZ⊕a)}{ls:lZ}{n:Nat}{b:a}(dy:Nat->lZ)(m:Nat)(ak:ls=dy 0)(aj:∀i,i<m->f (dy i)=some (.inl (dy (i+1))))(c:f (dy m)=some (.inr b))(e:m<n):aS f n ls=some b:=by subst ak;rw[PA dy (m:=m) (λi _ h=>aj i oZ) oZ];obtain⟨k,d⟩:∃k,n-m=k+1:=⟨n-m-1,by omega⟩;rw[d,ic,xav,c];rfl
end Go.Am
