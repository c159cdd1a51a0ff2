/- An evaluator of code over such values, and that what it answers the code does. No condition. -/
import Derived.Test.YtjonbfbkkkcjgaaGreatDoorEngS
import Derived.KernelRfl
set_option linter.all false
set_option linter.unnecessarySimpa false
namespace Go.Am
def af{b c:Type}(x:Option b)(f:b->Option c):Option c:=match x with|some a=>f a|none=>none
def cR{c d:Type}{x:Option c}{f:c->Option d}{b:d}(h:af x f=some b):∃a,x=some a/\f a=some b:=by
 cases x with
 |none=>cases h
 |some a=>exact⟨a,rfl,h⟩
def bJ{a:Type}(c:Bool)(p:Option a):Option a:=match c with|true=>p|false=>none
def hA{a:Type}{c:Bool}{p:Option a}{b:a}(h:bJ c p=some b):c=true/\p=some b:=by
 cases c with
 |false=>cases h
 |true=>exact⟨rfl,h⟩
def a6{a:Type}(x:D)(p q:Option a):Option a:=match x with| .val (.bool true)=>p| .val (.bool false)=>q|_=>none
def Cm{a:Type}{x:D}{p q:Option a}{b:a}(h:a6 x p q=some b):(x= .val (.bool true)/\p=some b)\/(x= .val (.bool false)/\q=some b):=by
 unfold a6 at h;split at h;.exact .inl ⟨rfl,h⟩
 .exact .inr ⟨rfl,h⟩
 cases h
def hB:D:= .val (.tuple #[])
def kL:Option aB->oX
 |some (.d r)=>some r|_=>none
def r1{x:Option aB}{r:D}(h:kL x=some r):x=some (.d r):=by
 unfold kL at h;split at h;.cases h;rfl
 cases h
def dM:D->lZ
 | .agg cs=>cs|_=>[]
def ae(x:D)(i:Nat):D:=(dM x).getD i hB
def aE:D->mW
 | .aw _ es=>es|_=>[]
def dU:D->List (Value×D)
 | .mp es=>es|_=>[]
def c7(x:D):Bool:=x.one
def cz(n:Nat)(x:D):Bool:=match x with| .agg cs=>cs.length==n&&cs.all D.one|_=>false
def jv(x:D):Bool:=match x with| .val (.slice none 0 0)=>true|_=>false
def Cn{n:Nat}{x:D}(h:cz n x=true):∃cs,x= .agg cs/\cs.length=n/\cs.all D.one=true:=by
 unfold cz at h;split at h;.rename_i cs;rw[xam,xbQ]at h;exact⟨cs,rfl,h.1,h.2⟩
 cases h
def Y9{n:Nat}{cs:lZ}(h:cs.length=n):((List.range n).map λi=>aB.d (ae (.agg cs) i))=cs.map .d:=by
 apply xbG;intro i;simp only[xah];by_cases ag:i<n;.rw[xbN ag,xaa oZ];simp[ae,dM,xbe,h,ag]
 rw[xaH uZ,xaH oZ];rfl
def aW(bt:Bool)(op:BinOp)(x y:D):oX:=match x,y with
 | .val (.int k a),.val (.int c b)=>kL (match op with
  | .shl=>if b<0 then none else some (.d (.val (.int k (k.wrap (a*2^(min b.toNat k.bits))))))
  | .shr=>if b<0 then none else some (.d (.val (.int k (a.fdiv (2^(min b.toNat k.bits))))))
  |_=>if k=c then xM op k a b else none)
 | .val (.string a),.val (.string b)=>kL (Hr op a b)| .val (.bool a),.val (.bool b)=>if bt then kL (Hs op a b)else none
 |_,_=>none
def Za{T:bC}{t:TypeId}{op:BinOp}{x y r:D}(h:aW (xN T t) op x y=some r):p9 T op t (.d x) (.d y)=some (.d r):=by
 unfold aW at h;unfold p9;split at h;.have:=r1 h;cases op<;>exact this
 .exact r1 h
 .split at h;.rename_i a;simp only[a,xaC];exact r1 h
  cases h
 cases h
def H5(l:List TypeDesc)(op:BinOp)(x y:D):oX:=match x,y with| .agg a,.agg b=>kL (Ht op l a b)|_,_=>none
def Zb{T:bC}{t:TypeId}{op:BinOp}{x y r:D}{l:List TypeDesc}(ah:T.eqs t=some l)(h:H5 l op x y=some r):p9 T op t (.d x) (.d y)=some (.d r):=by
 unfold H5 at h;split at h;.unfold p9;simp only[ah];exact r1 h
 cases h
def Co(op:BinOp)(x y:D):oX:=match op with
 | .eql=>if jv y then(match x with| .val (.slice none _ _)=>some (.val (.bool true))| .aw _ (_::_)=>some (.val (.bool false))|_=>none)else none
 | .neq=>if jv y then(match x with| .val (.slice none _ _)=>some (.val (.bool false))| .aw _ (_::_)=>some (.val (.bool true))|_=>none)else none
 |_=>none
def cd(op:UnOp)(x:D):oX:=match op,x with| .not,.val (.bool b)=>some (.val (.bool !b))| .neg,.val (.int k n)=>some (.val (.int k (k.wrap (0-n))))|_,_=>none
def j2(k:IntKind)(x:D):oX:=match x with| .val (.int _ n)=>some (.val (.int k (k.wrap n)))|_=>none
def Ol(x:D):oX:=match x with| .val (.string b)=>some (.val (.string b))|_=>none
def uo(es:mW):oX:=match nK es with|some a=>some (.val (.string (BR a)))|none=>none
def Om(x:D):oX:=match x with| .aw 1 es=>uo es| .val (.slice none 0 _)=>uo []|_=>none
def en(c a b:D):oX:=match c with
 | .val (.bool t)=>some (if t then a else b)
 |_=>none
def aQ(agg:Bool)(n off:Nat)(cs:lZ):oX:=match agg with
 |true=>if off+n<=cs.length then some (.agg ((cs.drop off).take n))else none
 |false=>cs[off]?
def jg(agg:Bool)(n off:Nat)(x:D):oX:=match x with| .agg cs=>aQ agg n off cs|_=>none
def e0(i:Nat)(x:D):oX:=match x with| .aC vs=>vs[i]?|_=>none
def mG(s i:D):oX:=match s,i with| .val (.string s),.val (.int _ n)=>kL (BQ s n)|_,_=>none
def lf(x:oX)(a:Nat):Option Nat:=match x with
 |none=>some a|some (.val (.int _ n))=>if 0<=n then some n.toNat else none
 |_=>none
theorem Cp(x:oX)(d:Nat):lN (x.map .d) d=lf x d:=by cases x with|none=>rfl|some x=>cases x<;>first|rfl|(rename_i v;cases v<;>rfl)
def On(s:D)(lo ag:oX):oX:=match s with
 | .val (.string s)=>match lf ag s.size,lf lo 0 with
  |some h,some l=>if l<=h/\h<=s.size then some (.val (.string (s.extract l h)))else none
  |_,_=>none
 |_=>none
def j3(k:Nat)(x:D)(lo ag:oX):oX:=match x with
 | .aw a es=>match lf ag es.length,lf lo 0 with
  |some h,some l=>if l<=h/\h<=es.length/\a=k then some (.aw a ((es.drop l).take (h-l)))else none
  |_,_=>none
 |_=>none
def hC(n:Nat)(lo ag:oX):Option (Nat×Nat):=match lf ag n,lf lo 0 with
 |some h,some l=>if l<=h/\h<=n then some (l,h-l)else none
 |_,_=>none
def lg(x:D):oX:=match x with| .val (.string s)=>some (.val (.int .i64 s.size))|_=>none
def dN(x:D):oX:=match x with| .aw _ es=>some (.val (.int .i64 es.length))| .val (.slice _ n _)=>some (.val (.int .i64 n))|_=>none
def Oo(x:D):oX:=match x with| .val (.map none)=>some (.val (.int .i64 0))| .mp es=>some (.val (.int .i64 es.length))|_=>none
def ba(k:Nat)(x i:D):oY:=match i with
 | .val (.int _ n)=>if 0<=n then(match x with
  | .aw a es=>if a=k then es[n.toNat]? else none
  |_=>none)else none
 |_=>none
def cI(n:Nat)(i:D):Option Nat:=match i with
 | .val (.int _ j)=>if 0<=j/\j<n then some j.toNat else none
 |_=>none
def jw(x:D):Option (Nat×mW):=match x with| .aw k es=>some (k,es)| .val (.slice none 0 _)=>some (0,[])|_=>none
def hU(ed:Bool)(l:lZ):oX:=kL (mx ed (l.map .d))
def b2(n bytes:Nat):Bool:=decide (n*bytes<=140737488355328)&&decide (n<=4611686018427387904)
def eM(bytes:Nat)(l c:D):Option Nat:=match l,c with
 | .val (.int _ l),.val (.int _ c)=>if 0<=l/\l<=c/\(bytes:Int)*c<=281474976710656/\c<=9223372036854775807 then some l.toNat else none
 |_,_=>none
def gT(kind:TypeDesc)(zero:Value)(ok:Bool)(es:List (Value×D))(k:D):oX:=match k with
 | .val a=>match findD kind a es with
  |some (some x)=>some (if ok then .aC [x,.val (.bool true)]else x)
  |some none=>some (if ok then .aC [my zero,.val (.bool false)]else my zero)
  |none=>none
 |_=>none
def jx(x:D):Option (List (Value×D)):=match x with| .val (.map none)=>some []| .mp es=>some es|_=>none
def l0(kind:TypeDesc)(es:List (Value×D))(k x:D):Option (List (Value×D)):=match k with| .val a=>mz kind a x es|_=>none
section
variable{β:Type}
def x4:List aB->Option β->Option β
 |[],p=>p| .d a::r,p=>bJ (c7 a) (x4 r p)|x::r,p=>if x.one=true then x4 r p else none
def H6{p:Option β}{b:β}:∀{cs:List aB},x4 cs p=some b->cs.all aB.one=true/\p=some b
 |[],h=>⟨rfl,h⟩
 |x::r,h=>by
  unfold x4 at h;split at h;.rename_i e;cases e
  .rename_i a g f e;cases e;obtain⟨ab,ad⟩:=hA h;obtain⟨ai,c⟩:=H6 ad;exact⟨by rw[xbb,ai,xbA];exact ab,c⟩
  rename_i e;cases e;split at h;.rename_i d;obtain⟨ai,c⟩:=H6 h;exact⟨by rw[xbb,ai,xbA];exact d,c⟩
  cases h
def uq(n:Nat)(x:aB)(k:List aB->Option β):Option β:=match x with
 | .d a=>match n with|1=>bJ (c7 a) (k [.d a])|_=>bJ (cz n a) (k ((List.range n).map λi=> .d (ae a i)))
 | .agg cs=>x4 cs (k cs)|x=>match cellsOf x with|some cs=>k cs|none=>none
def Cq{n:Nat}{x:aB}{k:List aB->Option β}{b:β}(h:uq n x k=some b):∃cs,cellsOf x=some cs/\k cs=some b:=by
 unfold uq at h;split at h
 .rename_i a;split at h
  .obtain⟨ab,ad⟩:=hA h;refine⟨_,?_,ad⟩;unfold c7 at ab;unfold cellsOf;split;.rename_i e;cases e;cases ab
   .rename_i e;cases e
   rw[xac (show aB.one (.d a)=true from ab)]
  obtain⟨ab,ad⟩:=hA h;obtain⟨cs,rfl,f,g⟩:=Cn ab;rw[Y9 f]at ad;exact⟨_,by simp only[cellsOf,g,xaC],ad⟩
 .obtain⟨ab,ad⟩:=H6 h;exact⟨_,by simp only[cellsOf,ab,xaC],ad⟩
 split at h;.rename_i cs c;exact⟨cs,c,h⟩
 cases h
def Cr(place:Nat->Option (Nat×Nat))(cells:List aB):List (Nat×aB)->(List aB->Option β)->Option β
 |[],k=>k cells|(i,x)::rest,k=>match place i with|none=>none|some (off,size)=>uq size x λcs=>if cs.length=size/\off+cs.length<=cells.length then Cr place (kg cells off cs) rest k else none
def Oq{place:Nat->Option (Nat×Nat)}:∀{parts:List (Nat×aB)} {cells:List aB} {k:List aB->Option β} {b:β},Cr place cells parts k=some b->∃cs,rN place cells parts=some cs/\k cs=some b
 |[],cells,k,b,h=>⟨cells,rfl,h⟩
 |(i,x)::rest,cells,k,b,h=>by
  unfold Cr at h;split at h;.cases h
  rename_i off size d;obtain⟨cs,ab,ad⟩:=Cq h;split at ad
  case isFalse=>cases ad
  rename_i c;obtain⟨out,ai,a⟩:=Oq ad;exact⟨out,by unfold rN;simp only[d,ab];rw[xac c];exact ai,a⟩
def Cs(size:Nat)(n:Nat):List (Nat×aB)->(mW->Option β)->Option β
 |[],k=>k []
 |(i,x)::r,k=>if i=n then uq size x λcs=>match ir cs with
   |some a=>if a.length=size then Cs size (n+1) r λl=>k (a::l)else none
   |none=>none
  else none
def Ot{size:Nat}:∀{parts:List (Nat×aB)} {n:Nat} {k:mW->Option β} {b:β},Cs size n parts k=some b->∃es,qd size n parts=some es/\k es=some b
 |[],n,k,b,h=>⟨[],rfl,h⟩
 |(i,x)::r,n,k,b,h=>by
  unfold Cs at h;split at h
  case isFalse=>cases h
  rename_i ag;obtain⟨cs,ab,ad⟩:=Cq h;split at ad
  case h_2=>cases ad
  rename_i c a;split at ad
  case isFalse=>cases ad
  rename_i ah;obtain⟨es,ai,d⟩:=Ot ad;exact⟨c::es,by unfold qd;simp only[ag,xaC,ab,a,ai,ah],d⟩
end
section
variable{β:Type}
def kM(T:bC)(G:cj)(σ:ar)(o:Oper)(k:ar->Option β):Option β:=match eR T G σ o with|some a=>k a|none=>none
def hi(σ:ar)(dst:Option Tmp)(k:ar->Option β)(p:oX):Option β:=af p λv=>k (σ.put dst (.d v))
def jy(T:bC)(σ:ar)(dst:Option Tmp)(k:ar->Option β)(r:aB)(a:List (Key×b5)):Option β:=match mA (T.born (dst.getD 9999)) (dst.getD 9999) (r,a)with|(r,a)=>k (ar.put ⟨σ.au,cD σ.objs a⟩ dst r)
def Ct:Option aB->Option oX
 |none=>some none|some (.d a)=>some (some a)|_=>none
theorem Ou{x:Option aB}{y:oX}(h:Ct x=some y):x=y.map .d:=by unfold Ct at h;split at h<;>cases h<;>rfl
def Ov(T:bC)(t:TypeId):Bool:=match T t with|some ⟨.slice _,_,_,_⟩=>true|_=>false
def H7(T:bC)(G:cj)(σ:ar)(o:Oper)(op:BinOp)(t:TypeId)(x y:Operand)(k:ar->Option β):Option β:=match bD G σ.au x,bD G σ.au y with
 | .d a,.d b=>match Ov T t with|true=>hi σ o.dst k (Co op a b)|false=>match T.eqs t with|some l=>hi σ o.dst k (H5 l op a b)|none=>hi σ o.dst k (aW (xN T t) op a b)
 |_,_=>kM T G σ o k
def H8(T:bC)(G:cj)(σ:ar)(o:Oper)(s:TypeId)(x:Operand)(f:Nat)(k:ar->Option β):Option β:=match xP T s f with
 |some (off,i)=>match bD G σ.au x with| .d a=>hi σ o.dst k (jg (oT i.desc) i.size off a)|_=>kM T G σ o k
 |none=>none
def H9(T:bC)(G:cj)(σ:ar)(o:Oper)(t:TypeId)(a:Operand)(k:ar->Option β):Option β:=match T t with
 |some i=>match bD G σ.au a with
  | .cH cs off=>hi σ o.dst k (aQ (oT i.desc) i.size off cs)
  | .eB key c cN off=>match σ.objs key with
   |some (.row b es)=>if c=b then af es[cN]? λe=>hi σ o.dst k (aQ (oT i.desc) i.size off e)else none
   |_=>none
  |_=>kM T G σ o k
 |none=>none
def Ia(T:bC)(G:cj)(σ:ar)(o:Oper)(t:TypeId)(x cN:Operand)(k:ar->Option β):Option β:=match T t with
 |some ⟨.slice e,_,_,_⟩=>match T e with
  |some b=>match bD G σ.au cN with
   | .d i=>match bD G σ.au x with
    | .d a=>af (ba b.size a i) λc=>k (σ.put o.dst (.cH c 0))
    | .row key=>match σ.objs key with
     |some (.row f es)=>if f=b.size then af (cI es.length i) λn=>k (σ.put o.dst (.eB key f n 0))else none
     |_=>none
    | .sub key f i0 len=>if f=b.size then af (cI len i) λn=>k (σ.put o.dst (.eB key f (i0+n) 0))else none
    |_=>none
   |_=>none
  |none=>none
 |some ⟨.array len e,_,_,_⟩=>match T e with
  |some b=>match bD G σ.au cN with
   | .d i=>af (cI len i) λn=>match xQ (bD G σ.au x) (n*b.size)with|some r=>k (σ.put o.dst r)|none=>none
   |_=>none
  |none=>none
 |_=>none
def Ib(T:bC)(G:cj)(σ:ar)(o:Oper)(t:TypeId)(x:Operand)(lo ag:Option Operand)(k:ar->Option β):Option β:=match Ct (lo.map (bD G σ.au)),Ct (ag.map (bD G σ.au))with
 |some l,some h=>match T t with
  |some ⟨.string,_,_,_⟩=>match bD G σ.au x with| .d a=>hi σ o.dst k (On a l h)|_=>none
  |some ⟨.slice e,_,_,_⟩=>match T e with
   |some c=>match bD G σ.au x with
    | .d a=>hi σ o.dst k (j3 c.size a l h)
    | .row key=>match σ.objs key with
     |some (.row b es)=>if b=c.size then af (hC es.length l h) λp=>k (σ.put o.dst (.sub key b p.1 p.2))else none
     |_=>none
    | .sub key b i0 len=>if b=c.size then af (hC len l h) λp=>k (σ.put o.dst (.sub key b (i0+p.1) p.2))else none
    |_=>none
   |none=>none
  |_=>kM T G σ o k
 |_,_=>none
def Ic(T:bC)(G:cj)(σ:ar)(o:Oper)(args:List Operand)(b:List TypeId)(k:ar->Option β):Option β:=match b,args with
 |[t],[x]=>match bD G σ.au x with
  | .d a=>match T t with|some ⟨.string,_,_,_⟩=>hi σ o.dst k (lg a)|some ⟨.slice _,_,_,_⟩=>hi σ o.dst k (dN a)|some ⟨.map _ _,_,_,_⟩=>hi σ o.dst k (Oo a)|_=>none
  |_=>kM T G σ o k
 |_,_=>none
def Ie(T:bC)(G:cj)(σ:ar)(o:Oper)(args:List Operand)(g:List TypeId)(k:ar->Option β):Option β:=match g,args with
 |[t,t'],[s,x]=>match T t,T t',σ.objs (o.dst.getD 9999)with
  |some ⟨.slice e,_,_,_⟩,some ⟨.slice _,_,_,_⟩,none=>match T e with
   |some b=>
    let go:Nat×mW->Option β:=λp=>bJ (decide (p.1=b.size\/p.2=[])&&decide (0<b.size)) (match bD G σ.au s with
     | .d a=>bJ (jv a&&b2 p.2.length b.bytes) (jy T σ o.dst k (.row (o.dst.getD 9999)) [(o.dst.getD 9999,.row b.size p.2)])
     | .row key=>match σ.objs key with
      |some (.row c es)=>if c=b.size/\key<10000 then bJ (b2 (es.length+p.2.length) b.bytes) (jy T σ o.dst k (.row (o.dst.getD 9999)) [(key,.dead),(o.dst.getD 9999,.row c (es++p.2))])else none
      |_=>none
     |_=>none)
    match bD G σ.au x with
    | .d a=>af (jw a) go
    | .sub key c i len=>match σ.objs key with
     |some (.row f es)=>if c=f then bJ (decide (i+len<=es.length)) (go (c,(es.drop i).take len))else none
     |_=>none
    |y=>match jc σ.objs y with|some p=>go p|none=>none
   |none=>none
  |_,_,_=>none
 |_,_=>none
def Ig(T:bC)(G:cj)(σ:ar)(o:Oper)(args:List Operand)(g:List TypeId)(k:ar->Option β):Option β:=match g,args with
 |[t,t'],[s,x]=>match T t with
  |some ⟨.slice e,_,_,_⟩=>match T e with
   |some f=>
    let go:Nat×mW->Option β:=λp=>bJ (decide (p.1=f.size\/p.2=[])) (match bD G σ.au s with
     | .row key=>match σ.objs key with
      |some (.row b es)=>if b=f.size then jy T σ o.dst k (.d (.val (.int .i64 (min p.2.length es.length:Nat)))) [(key,.row b (p.2.take (min p.2.length es.length)++es.drop (min p.2.length es.length)))]else none
      |_=>none
     | .sub key b i len=>match σ.objs key with
      |some (.row c es)=>if b=f.size/\c=b then bJ (decide (i+len<=es.length)) (jy T σ o.dst k (.d (.val (.int .i64 (min p.2.length len:Nat)))) [(key,.row b (es.take i++p.2.take (min p.2.length len)++es.drop (i+min p.2.length len)))])else none
      |_=>none
     |_=>none)
    match bD G σ.au x with
    | .d a=>af (jw a) go
    | .sub key b i len=>match σ.objs key with
     |some (.row c es)=>if b=c then bJ (decide (i+len<=es.length)) (go (b,(es.drop i).take len))else none
     |_=>none
    |y=>match jc σ.objs y with|some p=>go p|none=>none
   |none=>none
  |_=>none
 |_,_=>none
def Ih(T:bC)(G:cj)(σ:ar)(o:Oper)(args:List Operand)(d:List TypeId)(k:ar->Option β):Option β:=match d,args with
 |[t],[s]=>match T t with
  |some ⟨.slice e,_,_,_⟩=>match T e with
   |some a=>match bD G σ.au s with
    | .sub key b i len=>match σ.objs key with
     |some (.row c es)=>if b=a.size/\c=b/\a.zero.cells.toList.all hx=true then bJ (decide (i+len<=es.length)) (jy T σ o.dst k .any [(key,.row b (es.take i++List.replicate len (a.zero.cells.toList.map .val)++es.drop (i+len)))])else none
     |_=>none
    |_=>none
   |none=>none
  |_=>none
 |_,_=>none
def Ii(T:bC)(G:cj)(σ:ar)(o:Oper)(t:TypeId)(x i:Operand)(ok:Bool)(k:ar->Option β):Option β:=match T t with
 |some ⟨.map f e,_,_,_⟩=>match T f,T e with
  |some a,some b=>if qb a.desc then(match bD G σ.au i with
   | .d c=>match bD G σ.au x with
    | .d m=>af (jx m) λes=>hi σ o.dst k (gT a.desc b.zero ok es c)| .map key=>match σ.objs key with|some (.map es)=>hi σ o.dst k (gT a.desc b.zero ok es c)|_=>none
    |_=>none
   |_=>none)else none
  |_,_=>none
 |_=>none
def Cu(T:bC)(G:cj)(σ:ar)(o:Oper)(t:TypeId)(m i x:Operand)(k:ar->Option β):Option β:=match T t with
 |some ⟨.map b _,_,_,_⟩=>match T b with
  |some a=>if qb a.desc then(match bD G σ.au m,bD G σ.au i,bD G σ.au x with
   | .map key,.d c,.d v=>match σ.objs key with|some (.map es)=>af (l0 a.desc es c v) λl=>jy T σ o.dst k .any [(key,.map l)]|_=>none
   |_,_,_=>none)else none
  |none=>none
 |_=>none
def Ij(T:bC)(G:cj)(σ:ar)(o:Oper)(t:TypeId)(a x:Operand)(k:ar->Option β):Option β:=match T t with
 |some i=>uq i.size (bD G σ.au x) λcs=>if cs.length=i.size then(match bD G σ.au a with
  | .ptr key off=>match σ.objs key with
   |some (.box cells)=>if off+cs.length<=cells.length then jy T σ o.dst k .any [(key,.box (kg cells off cs))]else none
   |_=>none
  | .eB key b cN off=>match σ.objs key,ir cs with
   |some (.row d es),some c=>if b=d/\off+c.length<=b then af es[cN]? λe=>jy T σ o.dst k .any [(key,.row b (es.set cN (dH e off c)))]else none
   |_,_=>none
  |_=>none)else none
 |none=>none
def Ik(T:bC)(G:cj)(σ:ar)(o:Oper)(t:TypeId)(parts:Array (Nat×Operand))(k:ar->Option β):Option β:=match Hv T t with|some (pl,z)=>Cr pl (zeroCells z) (parts.toList.map λp=>(p.1,bD G σ.au p.2)) λout=>k (σ.put o.dst (tQ out))|none=>none
def Il(T:bC)(G:cj)(σ:ar)(o:Oper)(t:TypeId)(n:Nat)(parts:Array (Nat×Operand))(k:ar->Option β):Option β:=match T t,σ.objs (o.dst.getD 9999)with
 |some ⟨.slice e,_,_,_⟩,none=>match T e with
  |some a=>Cs a.size 0 (parts.toList.map λp=>(p.1,bD G σ.au p.2)) λes=>if es.length=n/\0<a.size/\n*a.size<=16777216 then jy T σ o.dst k (.row (o.dst.getD 9999)) [(o.dst.getD 9999,.row a.size es)]else none
  |none=>none
 |_,_=>none
def Im(T:bC)(G:cj)(σ:ar)(o:Oper)(t:TypeId)(l c:Operand)(k:ar->Option β):Option β:=match T t,σ.objs (o.dst.getD 9999)with
 |some ⟨.slice e,_,_,_⟩,none=>match T e with
  |some a=>match bD G σ.au l,bD G σ.au c with
   | .d l,.d c=>if a.zero.cells.toList.all hx then af (eM a.bytes l c) λn=>jy T σ o.dst k (.row (o.dst.getD 9999)) [(o.dst.getD 9999,.row a.size (List.replicate n (a.zero.cells.toList.map .val)))]else none
   |_,_=>none
  |none=>none
 |_,_=>none
def Io(T:bC)(G:cj)(σ:ar)(o:Oper)(s t:TypeId)(x:Operand)(k:ar->Option β):Option β:=match T s,T t,bD G σ.au x with
 |some _,some ⟨.int i,_,_,_⟩,.d a=>hi σ o.dst k (j2 i a)
 |some ⟨.slice e,_,_,_⟩,some ⟨.string,_,_,_⟩,y=>match T e with
  |some ⟨.int .u8,_,_,_⟩=>match y with
   | .d a=>hi σ o.dst k (Om a)| .row key=>match σ.objs key with|some (.row 1 es)=>hi σ o.dst k (uo es)|_=>kM T G σ o k
   | .sub key 1 i len=>match σ.objs key with|some (.row 1 es)=>bJ (decide (i+len<=es.length)) (hi σ o.dst k (uo ((es.drop i).take len)))|_=>kM T G σ o k
   |_=>kM T G σ o k
  |_=>kM T G σ o k
 |some _,some ⟨.string,_,_,_⟩,.d a=>hi σ o.dst k (Ol a)|_,_,_=>kM T G σ o k
def Cv(T:bC)(G:cj)(σ:ar)(o:Oper)(ed:Bool)(args:List Operand)(k:ar->Option β):Option β:=match ir (args.map (bD G σ.au))with|some a=>hi σ o.dst k (hU ed a)|none=>none
def e1:aB->aB->Option (D×D)
 | .d a,.d b=>some (a,b)|_,_=>none
theorem Zc{x y:aB}{p:D×D}(h:e1 x y=some p):x= .d p.1/\y= .d p.2:=by unfold e1 at h;split at h<;>cases h;exact⟨rfl,rfl⟩
def Ow{T:bC}{ev:Operand->aB}{c a b:Operand}{t:Bool}(e:ev c= .d (.val (.bool t)))(h:e1 (ev a) (ev b)=none):dh T ev (.pick c a b)=some (if t then ev a else ev b):=by
 simp only[dh,e];generalize ev a=x at*;generalize ev b=y at*;split;.cases h
 rfl
def nV(T:bC)(G:cj)(σ:ar)(o:Oper)(k:ar->Option β):Option β:=match o.op with
 | .binOp op t x y _=>H7 T G σ o op t x y k| .unOp op _ x=>match bD G σ.au x with| .d a=>hi σ o.dst k (cd op a)|_=>none
 | .convert s t x=>Io T G σ o s t x k
 | .pick c a b=>match bD G σ.au c with
  | .d c=>match e1 (bD G σ.au a) (bD G σ.au b)with|some p=>hi σ o.dst k (en c p.1 p.2)|none=>a6 c (k (σ.put o.dst (bD G σ.au a))) (k (σ.put o.dst (bD G σ.au b)))
  |_=>none
 | .field s x f=>H8 T G σ o s x f k| .extract x i=>match bD G σ.au x with| .d a=>hi σ o.dst k (e0 i a)|_=>kM T G σ o k
 | .index t x i=>match T t with
  |some ⟨.string,_,_,_⟩=>match bD G σ.au x,bD G σ.au i with| .d a,.d b=>hi σ o.dst k (mG a b)|_,_=>none
  |some ⟨.array len e,_,_,_⟩=>match T e with
   |some h=>match bD G σ.au x,bD G σ.au i with| .d a,.d b=>af (cI len b) λn=>hi σ o.dst k (jg (oT h.desc) h.size (n*h.size) a)|_,_=>none
   |none=>none
  |_=>none
 | .load t a=>H9 T G σ o t a k| .indexAddr t x cN=>Ia T G σ o t x cN k| .slice t x lo ag none=>Ib T G σ o t x lo ag k| .lookup t x i ok=>Ii T G σ o t x i ok k| .mapUpdate t m i x=>Cu T G σ o t m i x k| .insert t m i x=>Cu T G σ o t m i x k| .store t a x=>Ij T G σ o t a x k| .build t parts=>Ik T G σ o t parts k| .buildSlice t n parts=>Il T G σ o t n parts k| .makeSlice t l c=>Im T G σ o t l c k| .box t x=>match T t,σ.objs (o.dst.getD 9999)with|some i,none=>uq i.size (bD G σ.au x) λcs=>jy T σ o.dst k (.ptr (o.dst.getD 9999) 0) [(o.dst.getD 9999,.box cs)]|_,_=>none
 | .call ⟨.builtin .len,args,g⟩=>Ic T G σ o args.toList g.toList k| .call ⟨.builtin .append,args,g⟩=>Ie T G σ o args.toList g.toList k| .call ⟨.builtin .copy,args,g⟩=>Ig T G σ o args.toList g.toList k| .call ⟨.builtin .clear,args,g⟩=>Ih T G σ o args.toList g.toList k| .call ⟨.builtin .max,args,_⟩=>Cv T G σ o true args.toList k| .call ⟨.builtin .min,args,_⟩=>Cv T G σ o false args.toList k|_=>kM T G σ o k
variable{T:bC}{G:cj}{σ:ar}{o:Oper}{k:ar->Option β}{b:β}
def l1(h:kM T G σ o k=some b):∃a,eR T G σ o=some a/\k a=some b:=by
 unfold kM at h;split at h;.exact⟨_,by assumption,h⟩
 cases h
def jz{r:aB}(h:dh T (bD G σ.au) o.op=some r)(c:k (σ.put o.dst r)=some b):∃a,eR T G σ o=some a/\k a=some b:=⟨_,by unfold eR;rw[h],c⟩
def iF{r:aB}(ak:dh T (bD G σ.au) o.op=none)(h:cM T (bD G σ.au) σ.objs o.op=some r)(c:k (σ.put o.dst r)=some b):∃a,eR T G σ o=some a/\k a=some b:=⟨_,by unfold eR;rw[ak,h],c⟩
def mH{r:aB}{a:List (Key×b5)}(ak:dh T (bD G σ.au) o.op=none)(ab:cM T (bD G σ.au) σ.objs o.op=none)(h:c6 T (bD G σ.au) σ.objs (o.dst.getD 9999) o.op=some (r,a)) (d:jy T σ o.dst k r a=some b):∃c,eR T G σ o=some c/\k c=some b:=⟨_,by unfold eR;rw[ak,ab];unfold e4;rw[h];rfl,by unfold jy at d;exact d⟩
def Zd{op:BinOp}{t:TypeId}{x y:Operand}{u:TypeId}(j:o.op= .binOp op t x y u)(h:H7 T G σ o op t x y k=some b):∃m,eR T G σ o=some m/\k m=some b:=by
 unfold H7 at h;split at h
 .rename_i a c g i;split at h
  .rename_i aj;obtain⟨v,ab,ad⟩:=cR h;have e:∀{d},jv d=true->d= .val (.slice none 0 0):=by
    intro d p;unfold jv at p;split at p;.rfl
    cases p
   unfold Ov at aj;split at aj
   case h_2=>cases aj
   rename_i w z A B s;have q:c= .val (.slice none 0 0)->dh T (bD G σ.au) o.op=none:=by intro n;subst n;rw[j];simp only[dh,g,i,p9]
   unfold Co at ab;split at ab
   .split at ab
    case isFalse=>cases ab
    rename_i f;have f:=e f;subst f;refine iF (r:= .d v) (q rfl) ?_ ad;rw[j];simp only[cM,s,i,qc,xaC,g,jt];split at ab<;>cases ab<;>simp
   .split at ab
    case isFalse=>cases ab
    rename_i f;have f:=e f;subst f;refine iF (r:= .d v) (q rfl) ?_ ad;rw[j];simp only[cM,s,i,qc,xaC,g,jt];split at ab<;>cases ab<;>simp
   cases ab
  split at h;.rename_i l ah;obtain⟨v,ab,ad⟩:=cR h;exact jz (by rw[j];simp only[dh,g,i];exact Zb ah ab) ad
  obtain⟨v,ab,ad⟩:=cR h;exact jz (by rw[j];simp only[dh,g,i];exact Za ab) ad
 exact l1 h
def Cw{i:gl}{off:Nat}{cs:lZ}{v:D}(h:aQ (oT i.desc) i.size off cs=some v):nI i cs off=some (.d v):=by
 unfold aQ at h;unfold nI;cases a:oT i.desc with
 |true=>
  simp only[a]at h;simp only[xaC];split at h;.rename_i c;rw[xac c];cases h;rfl
  cases h
 |false=>simp only[a]at h;simp[h]
def Ze{s:TypeId}{x:Operand}{f:Nat}(g:o.op= .field s x f)(h:H8 T G σ o s x f k=some b):∃c,eR T G σ o=some c/\k c=some b:=by
 unfold H8 at h;split at h
 case h_2=>cases h
 rename_i off i e;split at h
 .rename_i a d;obtain⟨v,ab,ad⟩:=cR h;unfold jg at ab;split at ab
  case h_2=>cases ab
  exact jz (by rw[g];simp only[dh,e,d];exact Cw ab) ad
 exact l1 h
def Zf{t:TypeId}{a:Operand}(d:o.op= .load t a)(h:H9 T G σ o t a k=some b):∃c,eR T G σ o=some c/\k c=some b:=by
 unfold H9 at h;split at h
 case h_2=>cases h
 rename_i i ag;split at h;.rename_i cs off f;obtain⟨v,ab,ad⟩:=cR h;exact iF (by rw[d];rfl) (by rw[d];simp only[cM,ag,f];exact Cw ab) ad
 .rename_i key n cN off f;split at h
  case h_2=>cases h
  rename_i m es l;split at h
  case isFalse=>cases h
  rename_i g;obtain⟨e,ab,ad⟩:=cR h;obtain⟨v,ai,j⟩:=cR ad;exact iF (by rw[d];rfl) (by rw[d];simp only[cM,ag,f,l,g,xaC,ab];exact Cw ai) j
 exact l1 h
def Ip{n m:Nat}{i:D}(h:cI n i=some m):∃c j,i= .val (.int c j)/\0<=j/\j<n/\m=j.toNat:=by
 unfold cI at h;split at h
 case h_2=>cases h
 split at h
 case isFalse=>cases h
 rename_i a;cases h;exact⟨_,_,rfl,a.1,a.2,rfl⟩
def Zg{t:TypeId}{x cN:Operand}(f:o.op= .indexAddr t x cN)(h:Ia T G σ o t x cN k=some b):∃p,eR T G σ o=some p/\k p=some b:=by
 unfold Ia at h;split at h
 .rename_i e s1 s2 A m;split at h
  case h_2=>cases h
  rename_i y l;split at h
  case h_2=>cases h
  rename_i i ag;split at h
  .rename_i a g;obtain⟨c,ab,ad⟩:=cR h;unfold ba at ab;split at ab
   case h_2=>cases ab
   split at ab
   case isFalse=>cases ab
   rename_i u;split at ab
   case h_2=>cases ab
   split at ab
   case isFalse=>cases ab
   rename_i q;exact iF (by rw[f];rfl) (by rw[f];simp only[cM,m,ag,l,g,u,q,xaC,ab]) ad
  .rename_i key g;split at h
   case h_2=>cases h
   rename_i z es q;split at h
   case isFalse=>cases h
   rename_i d;obtain⟨n,ab,ad⟩:=cR h;obtain⟨s,j,rfl,g1,g2,rfl⟩:=Ip ab;exact iF (by rw[f];rfl) (by rw[f];simp only[cM,m,ag,l,g,g1,xaC,q,d,g2,and_self]) (d▸ad)
  .rename_i key z i0 len g;split at h
   case isFalse=>cases h
   rename_i d;obtain⟨n,ab,ad⟩:=cR h;obtain⟨s,j,rfl,g1,g2,rfl⟩:=Ip ab;exact iF (by rw[f];rfl) (by rw[f];simp only[cM,m,ag,l,g,g1,xaC,d,g2,and_self]) (d▸ad)
  cases h
 .rename_i len e s1 s2 A m;split at h
  case h_2=>cases h
  rename_i y l;split at h
  case h_2=>cases h
  rename_i i ag;obtain⟨n,ab,ad⟩:=cR h;obtain⟨s,j,rfl,g1,g2,rfl⟩:=Ip ab;split at ad
  case h_2=>cases ad
  rename_i r w;exact iF (by rw[f];rfl) (by rw[f];simp only[cM,m,ag,l,g1,g2,and_self,xaC];exact w) ad
 cases h
def Zh{t:TypeId}{x:Operand}{lo ag:Option Operand}(j:o.op= .slice t x lo ag none)(h:Ib T G σ o t x lo ag k=some b):∃q,eR T G σ o=some q/\k q=some b:=by
 unfold Ib at h;split at h
 case h_2=>cases h
 rename_i l a1 ah c;have ah:=Ou ah;have c:=Ou c;split at h
 .rename_i s1 s2 w f;split at h
  case h_2=>cases h
  rename_i a g;obtain⟨v,ab,ad⟩:=cR h;unfold On at ab;split at ab
  case h_2=>cases ab
  split at ab
  case h_2=>cases ab
  rename_i m n;split at ab
  case isFalse=>cases ab
  rename_i d;cases ab;exact jz (by rw[j];simp only[dh,f,g,ah,c,Cp,m,n];rw[xac d]) ad
 .rename_i e s1 s2 w f;split at h
  case h_2=>cases h
  rename_i y r;split at h
  .rename_i a g;obtain⟨v,ab,ad⟩:=cR h;unfold j3 at ab;split at ab
   case h_2=>cases ab
   split at ab
   case h_2=>cases ab
   rename_i m n;split at ab
   case isFalse=>cases ab
   rename_i d;cases ab;exact iF (by rw[j];simp only[dh,f]) (by rw[j];simp only[cM,f,r,g,hy,ah,c,Cp,m,n];rw[xac ⟨d.1,d.2.1⟩,xac d.2.2]) ad
  .rename_i key g;split at h
   case h_2=>cases h
   rename_i u es s;split at h
   case isFalse=>cases h
   rename_i i;obtain⟨p,ab,ad⟩:=cR h;unfold hC at ab;split at ab
   case h_2=>cases ab
   rename_i m n;split at ab
   case isFalse=>cases ab
   rename_i d;cases ab;exact iF (by rw[j];simp only[dh,f]) (by rw[j];simp only[cM,f,r,g,hy,s,ah,c,Cp,m,n];rw[xac d,xac i]) ad
  .rename_i key u i0 len g;split at h
   case isFalse=>cases h
   rename_i i;obtain⟨p,ab,ad⟩:=cR h;unfold hC at ab;split at ab
   case h_2=>cases ab
   rename_i m n;split at ab
   case isFalse=>cases ab
   rename_i d;cases ab;exact iF (by rw[j];simp only[dh,f]) (by rw[j];simp only[cM,f,r,g,hy,ah,c,Cp,m,n];rw[xac d,xac i]) ad
  cases h
 exact l1 h
def Zi{args:Array Operand}{l:Array TypeId}(d:o.op= .call ⟨.builtin .len,args,l⟩)(h:Ic T G σ o args.toList l.toList k=some b):∃m,eR T G σ o=some m/\k m=some b:=by
 unfold Ic at h;split at h
 case h_2=>cases h
 rename_i t x f g;have j:dh T (bD G σ.au) o.op=none:=by rw[d];rfl
 split at h
 .rename_i a i;split at h;.rename_i s1 s2 n c;obtain⟨v,ab,ad⟩:=cR h;unfold lg at ab;split at ab<;>cases ab;exact iF j (by rw[d];simp only[cM,f,g,c,i]) ad
  .rename_i e s1 s2 n c;obtain⟨v,ab,ad⟩:=cR h;unfold dN at ab;split at ab<;>cases ab;.exact iF j (by rw[d];simp only[cM,f,g,c,i,hy]) ad
   exact iF j (by rw[d];simp only[cM,f,g,c,i,hy]) ad
  .rename_i p q s1 s2 n c;obtain⟨v,ab,ad⟩:=cR h;unfold Oo at ab;split at ab<;>cases ab;.exact iF j (by rw[d];simp only[cM,f,g,c,i]) ad
   exact iF j (by rw[d];simp only[cM,f,g,c,i]) ad
  cases h
 exact l1 h
theorem Ox{a:D}{p:Nat×mW}(h:jw a=some p)(objs:bP):jc objs (.d a)=some p:=by unfold jw at h;split at h<;>cases h<;>rfl
def Zj{args:Array Operand}{q:Array TypeId}(r:o.op= .call ⟨.builtin .append,args,q⟩)(h:Ie T G σ o args.toList q.toList k=some b):∃c,eR T G σ o=some c/\k c=some b:=by
 unfold Ie at h;split at h
 case h_2=>cases h
 rename_i t t' s x y z;split at h
 case h_2=>cases h
 rename_i e s1 s2 O M J K L E n A;split at h
 case h_2=>cases h
 rename_i l B;have u:dh T (bD G σ.au) o.op=none:=by rw[r];rfl
 have C:cM T (bD G σ.au) σ.objs o.op=none:=by rw[r];rfl
 have key:∀p:Nat×mW,jc σ.objs (bD G σ.au x)=some p->bJ (decide (p.1=l.size\/p.2=[])&&decide (0<l.size)) (match bD G σ.au s with
     | .d a=>bJ (jv a&&b2 p.2.length l.bytes) (jy T σ o.dst k (.row (o.dst.getD 9999)) [(o.dst.getD 9999,.row l.size p.2)])
     | .row key=>match σ.objs key with
      |some (.row m es)=>if m=l.size/\key<10000 then bJ (b2 (es.length+p.2.length) l.bytes) (jy T σ o.dst k (.row (o.dst.getD 9999)) [(key,.dead),(o.dst.getD 9999,.row m (es++p.2))])else none
      |_=>none
     |_=>none)=some b->∃c,eR T G σ o=some c/\k c=some b:=by
  rintro⟨N,P⟩ f h;obtain⟨ak,h⟩:=hA h;simp only[xam,xaF]at ak;split at h
  .rename_i a j;obtain⟨ab,h⟩:=hA h;simp only[xam,b2,xaF]at ab;have H:a= .val (.slice none 0 0):=by
    have:=ab.1;unfold jv at this;split at this;.rfl
    cases this
   have ad:=ab.2;clear ab;refine mH u C ?_ h;rw[r];simp only[c6,y,z,E,n,A,B,f,j,H];rw[xac ak,xac ad]
  .rename_i key j;split at h
   case h_2=>cases h
   rename_i m es w;split at h
   case isFalse=>cases h
   rename_i g;obtain⟨ab,h⟩:=hA h;simp only[xam,b2,xaF]at ab;refine mH u C ?_ h;rw[r];simp only[c6,y,z,E,n,A,B,f,j,w];rw[xac ak,xac ⟨g.1,ab.1,ab.2,g.2⟩]
  .cases h
 simp only at h;split at h;.rename_i a j;obtain⟨p,ab,ad⟩:=cR h;exact key p (by rw[j];exact Ox ab _) ad
 .rename_i F m i len j;split at h
  case h_2=>cases h
  rename_i I es w;split at h
  case isFalse=>cases h
  rename_i g;obtain⟨ab,ad⟩:=hA h;have f:jc σ.objs (bD G σ.au x)=some (m,(es.drop i).take len):=by rw[j];simp only[jc,w];rw[xac ⟨g,xbg ab⟩]
  exact key (m,(es.drop i).take len) f ad
 split at h
 case h_2=>cases h
 rename_i p u;exact key p u h
def Zk{args:Array Operand}{c:Array TypeId}(f:o.op= .call ⟨.builtin .clear,args,c⟩)(h:Ih T G σ o args.toList c.toList k=some b):∃d,eR T G σ o=some d/\k d=some b:=by
 unfold Ih at h;split at h
 case h_2=>cases h
 rename_i t s g j;split at h
 case h_2=>cases h
 rename_i e s1 s2 y r;split at h
 case h_2=>cases h
 rename_i w m;have q:dh T (bD G σ.au) o.op=none:=by rw[f];rfl
 have p:cM T (bD G σ.au) σ.objs o.op=none:=by rw[f];rfl
 split at h
 case h_2=>cases h
 rename_i key x i len l;split at h
 case h_2=>cases h
 rename_i u es n;split at h
 case isFalse=>cases h
 rename_i a;obtain⟨ak,h⟩:=hA h;simp only[xaF]at ak;refine mH q p ?_ h;rw[f];simp only[c6,g,j,r,m,l,n];rw[xac ⟨a.1,a.2.1,ak,a.2.2⟩]
def Zl{args:Array Operand}{q:Array TypeId}(r:o.op= .call ⟨.builtin .copy,args,q⟩)(h:Ig T G σ o args.toList q.toList k=some b):∃g,eR T G σ o=some g/\k g=some b:=by
 unfold Ig at h;split at h
 case h_2=>cases h
 rename_i t t' s x y z;split at h
 case h_2=>cases h
 rename_i e s1 s2 H C;split at h
 case h_2=>cases h
 rename_i w A;have u:dh T (bD G σ.au) o.op=none:=by rw[r];rfl
 have B:cM T (bD G σ.au) σ.objs o.op=none:=by rw[r];rfl
 have key:∀p:Nat×mW,jc σ.objs (bD G σ.au x)=some p->bJ (decide (p.1=w.size\/p.2=[])) (match bD G σ.au s with
     | .row key=>match σ.objs key with
      |some (.row f es)=>if f=w.size then jy T σ o.dst k (.d (.val (.int .i64 (min p.2.length es.length:Nat)))) [(key,.row f (p.2.take (min p.2.length es.length)++es.drop (min p.2.length es.length)))]else none
      |_=>none
     | .sub key f i len=>match σ.objs key with
      |some (.row m es)=>if f=w.size/\m=f then bJ (decide (i+len<=es.length)) (jy T σ o.dst k (.d (.val (.int .i64 (min p.2.length len:Nat)))) [(key,.row f (es.take i++p.2.take (min p.2.length len)++es.drop (i+min p.2.length len)))])else none
      |_=>none
     |_=>none)=some b->∃g,eR T G σ o=some g/\k g=some b:=by
  rintro⟨F,I⟩ j h;obtain⟨ak,h⟩:=hA h;simp only[xaF]at ak;split at h
  .rename_i key l;split at h
   case h_2=>cases h
   rename_i f es n;split at h
   case isFalse=>cases h
   rename_i c;refine mH u B ?_ h;rw[r];simp only[c6,y,z,C,A,j,l,n];rw[xac ak,xac c]
  .rename_i key f i len l;split at h
   case h_2=>cases h
   rename_i m es n;split at h
   case isFalse=>cases h
   rename_i c;obtain⟨ab,h⟩:=hA h;simp only[xaF]at ab;refine mH u B ?_ h;rw[r];simp only[c6,y,z,C,A,j,l,n];rw[xac ak,xac ⟨c.1,c.2,ab⟩]
  .cases h
 simp only at h;split at h;.rename_i a l;obtain⟨p,ab,ad⟩:=cR h;exact key p (by rw[l];exact Ox ab _) ad
 .rename_i E f i len l;split at h
  case h_2=>cases h
  rename_i m es n;split at h
  case isFalse=>cases h
  rename_i c;obtain⟨ab,ad⟩:=hA h;have j:jc σ.objs (bD G σ.au x)=some (f,(es.drop i).take len):=by rw[l];simp only[jc,n];rw[xac ⟨c,xbg ab⟩]
  exact key (f,(es.drop i).take len) j ad
 split at h
 case h_2=>cases h
 rename_i p u;exact key p u h
def Oy{c f:gl}{t g e:TypeId}{s1 s2:Nat}{m:Value}(l:T t=some ⟨.map g e,s1,s2,m⟩)(ab:T g=some c)(ad:T e=some f)(j:qb c.desc=true){ok:Bool}{es:List (Value×D)}{i v:D} (h:gT c.desc f.zero ok es i=some v):∃u,i= .val u/\rO T t es u ok=some (.d v):=by
 unfold gT at h;split at h
 case h_2=>cases h
 rename_i u;refine⟨u,rfl,?_⟩;unfold rO;simp only[l,ab,ad,j,xaC];split at h;.rename_i x a;cases h;simp only[a]
 .rename_i a;cases h;simp only[a]
 cases h
def Zm{t:TypeId}{x i:Operand}{ok:Bool}(d:o.op= .lookup t x i ok)(h:Ii T G σ o t x i ok k=some b):∃c,eR T G σ o=some c/\k c=some b:=by
 unfold Ii at h;split at h
 case h_2=>cases h
 rename_i q l s1 s2 s j;split at h
 case h_2=>cases h
 rename_i p n ab ad;split at h
 case isFalse=>cases h
 rename_i g;split at h
 case h_2=>cases h
 rename_i r a;split at h;.rename_i m f;obtain⟨es,g1,g2⟩:=cR h;obtain⟨v,g3,g4⟩:=cR g2;obtain⟨u,rfl,g5⟩:=Oy j ab ad g g3;refine iF (by rw[d];rfl) ?_ g4;rw[d];simp only[cM,a,f];unfold jx at g1;split at g1<;>cases g1<;>exact g5
 .rename_i key f;split at h
  case h_2=>cases h
  rename_i es e;obtain⟨v,g3,g4⟩:=cR h;obtain⟨u,rfl,g5⟩:=Oy j ab ad g g3;refine iF (by rw[d];rfl) ?_ g4;rw[d];simp only[cM,a,f,e,g5]
 cases h
def Oz{t:TypeId}{m i x:Operand}(a:o.op= .mapUpdate t m i x\/o.op= .insert t m i x)(h:Cu T G σ o t m i x k=some b):∃c,eR T G σ o=some c/\k c=some b:=by
 unfold Cu at h;split at h
 case h_2=>cases h
 rename_i r p s1 s2 u n;split at h
 case h_2=>cases h
 rename_i q ab;split at h
 case isFalse=>cases h
 rename_i j;split at h
 case h_2=>cases h
 rename_i key s v e f g;split at h
 case h_2=>cases h
 rename_i es d;obtain⟨l,g1,g2⟩:=cR h;unfold l0 at g1;split at g1
 case h_2=>cases g1
 rcases a with a|a<;>
 .refine mH (by rw[a];rfl) (by rw[a];rfl) ?_ g2;rw[a];simp only[c6,n,ab,j,xaC,e,f,g,d,g1]
def Zn{t:TypeId}{a x:Operand}(c:o.op= .store t a x)(h:Ij T G σ o t a x k=some b):∃d,eR T G σ o=some d/\k d=some b:=by
 unfold Ij at h;split at h
 case h_2=>cases h
 rename_i i ag;obtain⟨cs,ab,ad⟩:=Cq h;split at ad
 case isFalse=>cases ad
 rename_i ah;split at ad
 .rename_i key off f;split at ad
  case h_2=>cases ad
  rename_i cells l;split at ad
  case isFalse=>cases ad
  rename_i g;refine mH (by rw[c];rfl) (by rw[c];rfl) ?_ ad;rw[c];simp only[c6,ag,ab,f,l];rw[xac ah,xac g]
 .rename_i key p cN off f;split at ad
  case h_2=>cases ad
  rename_i n es m l j;split at ad
  case isFalse=>cases ad
  rename_i g;obtain⟨e,g1,g2⟩:=cR ad;refine mH (by rw[c];rfl) (by rw[c];rfl) ?_ g2;rw[c];simp only[c6,ag,ab,f,l,j,g1];rw[xac ah,xac g]
 cases ad
def Zo{t:TypeId}{parts:Array (Nat×Operand)}(d:o.op= .build t parts)(h:Ik T G σ o t parts k=some b):∃a,eR T G σ o=some a/\k a=some b:=by
 unfold Ik at h;split at h
 case h_2=>cases h
 rename_i pl z c;obtain⟨cs,ab,ad⟩:=Oq h;exact jz (by rw[d];simp only[dh,BP,c,ab]) ad
def Zp{t:TypeId}{n:Nat}{parts:Array (Nat×Operand)}(c:o.op= .buildSlice t n parts)(h:Il T G σ o t n parts k=some b):∃a,eR T G σ o=some a/\k a=some b:=by
 unfold Il at h;split at h
 case h_2=>cases h
 rename_i e s1 s2 l i f;split at h
 case h_2=>cases h
 rename_i j g;obtain⟨es,ab,ad⟩:=Ot h;split at ad
 case isFalse=>cases ad
 rename_i d;refine mH (by rw[c];rfl) (by rw[c];rfl) ?_ ad;rw[c];simp only[c6,i,f,g,ab];rw[xac d]
def Zq{t:TypeId}{l c:Operand}(f:o.op= .makeSlice t l c)(h:Im T G σ o t l c k=some b):∃d,eR T G σ o=some d/\k d=some b:=by
 unfold Im at h;split at h
 case h_2=>cases h
 rename_i e s1 s2 u m i;split at h
 case h_2=>cases h
 rename_i r j;split at h
 case h_2=>cases h
 rename_i s q ah g;split at h
 case isFalse=>cases h
 rename_i p;obtain⟨n,ab,ad⟩:=cR h;unfold eM at ab;split at ab
 case h_2=>cases ab
 split at ab
 case isFalse=>cases ab
 rename_i a;cases ab;refine mH (by rw[f];rfl) (by rw[f];rfl) ?_ ad;rw[f];simp only[c6,m,i,j,ah,g];rw[xac ⟨a.1,a.2.1,a.2.2.1,a.2.2.2,p⟩]
def Zr{s t:TypeId}{x:Operand}(l:o.op= .convert s t x)(h:Io T G σ o s t x k=some b):∃f,eR T G σ o=some f/\k f=some b:=by
 unfold Io at h;split at h;.rename_i q i s1 s2 u a aj g c;obtain⟨v,ab,ad⟩:=cR h;unfold j2 at ab;split at ab<;>cases ab;exact jz (by rw[l];simp only[dh,aj,g,c]) ad
 .rename_i e _ _ _ _ _ _ y aj g;split at h
  case h_2=>exact l1 h
  rename_i r;have fin:∀{es:mW},lO σ.objs (bD G σ.au x)=some es->dh T (bD G σ.au) (.convert s t x)=none->∀{v:D},uo es=some v->k (σ.put o.dst (.d v))=some b->∃f,eR T G σ o=some f/\k f=some b:=by
   intro es ab ak v m j;unfold uo at m;split at m
   case h_2=>cases m
   rename_i w n;cases m;exact iF (by rw[l];exact ak) (by rw[l];simp only[cM,aj,g,r,ab,n]) j
  split at h
  .rename_i a c;obtain⟨v,ab,ad⟩:=cR h;unfold Om at ab;split at ab;.exact fin (by rw[c];rfl) (by simp only[dh,aj,g,c]) ab ad
   .exact fin (by rw[c];rfl) (by simp only[dh,aj,g,c]) ab ad
   cases ab
  .rename_i key c;split at h
   case h_2=>exact l1 h
   rename_i es j;obtain⟨v,ab,ad⟩:=cR h;exact fin (by rw[c];simp only[lO,j]) (by simp only[dh,aj,g,c]) ab ad
  .rename_i key i len c;split at h
   case h_2=>exact l1 h
   rename_i es j;obtain⟨p,h⟩:=hA h;obtain⟨v,ab,ad⟩:=cR h;exact fin (by rw[c];simp only[lO,j];rw[xac (xbg p)]) (by simp only[dh,aj,g,c]) ab ad
  exact l1 h
 .rename_i q s1 s2 u a aj g c;obtain⟨v,ab,ad⟩:=cR h;unfold Ol at ab;split at ab<;>cases ab;exact jz (by rw[l];simp only[dh,aj,g,c]) ad
 exact l1 h
def r2(h:nV T G σ o k=some b):∃m,eR T G σ o=some m/\k m=some b:=by
 unfold nV at h;split at h;.exact Zd aZ h
 .rename_i f;split at h
  .rename_i a g;obtain⟨v,ab,ad⟩:=cR h;unfold cd at ab;split at ab<;>cases ab;.exact jz (by rw[f];simp only[dh,g]) ad
   exact jz (by rw[f];simp only[dh,g]) ad
  cases h
 .exact Zr aZ h
 .rename_i c x y f;split at h
  case h_2=>cases h
  rename_i F j;split at h
  .rename_i p q;obtain⟨g,B⟩:=Zc q;obtain⟨v,ab,ad⟩:=cR h;unfold en at ab;split at ab<;>cases ab;rename_i t;refine jz ?_ ad;rw[f];simp only[dh,j,g,B];split;.rename_i w z;simp only[aB.d.injEq]at w z;rw[w,z];cases t<;>rfl
   cases t<;>rfl
  rename_i q;rcases Cm h with⟨rfl,ab⟩|⟨rfl,ab⟩
  .exact jz (by rw[f];exact Ow j q) ab
  exact jz (by rw[f];exact Ow j q) ab
 .exact Ze aZ h
 .rename_i x i f;split at h
  .rename_i a g;obtain⟨v,ab,ad⟩:=cR h;unfold e0 at ab;split at ab
   case h_2=>cases ab
   exact jz (by rw[f];simp only[dh,g,ab]) ad
  exact l1 h
 .rename_i t x i f;split at h
  .rename_i s1 s2 E s;split at h
   case h_2=>cases h
   rename_i a c g j;obtain⟨v,ab,ad⟩:=cR h;unfold mG at ab;split at ab
   case h_2=>cases ab
   exact jz (by rw[f];simp only[dh,s,g,j];exact r1 ab) ad
  .rename_i len e s1 s2 E s;split at h
   case h_2=>cases h
   rename_i H r;split at h
   case h_2=>cases h
   rename_i a c g j;obtain⟨n,g1,h⟩:=cR h;obtain⟨v,ab,ad⟩:=cR h;unfold cI at g1;split at g1
   case h_2=>cases g1
   split at g1
   case isFalse=>cases g1
   rename_i D;cases g1;unfold jg at ab;split at ab
   case h_2=>cases ab
   exact jz (by rw[f];simp only[dh,s,g,j];rw[xac D];simp only[r];exact Cw ab) ad
  cases h
 .exact Zf aZ h
 .exact Zg aZ h
 .exact Zh aZ h
 .exact Zm aZ h
 .rename_i f;exact Oz (.inl f) h
 .rename_i f;exact Oz (.inr f) h
 .exact Zn aZ h
 .exact Zo aZ h
 .exact Zp aZ h
 .exact Zq aZ h
 .rename_i t x f;split at h
  case h_2=>cases h
  rename_i i ag C;obtain⟨cs,ab,ad⟩:=Cq h;exact mH (by rw[f];rfl) (by rw[f];rfl) (by rw[f];simp only[c6,ab,C]) ad
 .exact Zi aZ h
 .exact Zj aZ h
 .exact Zl aZ h
 .exact Zk aZ h
 .rename_i args u f;unfold Cv at h;split at h
  case h_2=>cases h
  rename_i A l;obtain⟨v,ab,ad⟩:=cR h;exact jz (by rw[f];simp only[dh,tP l];exact r1 ab) ad
 .rename_i args u f;unfold Cv at h;split at h
  case h_2=>cases h
  rename_i A l;obtain⟨v,ab,ad⟩:=cR h;exact jz (by rw[f];simp only[dh,tP l];exact r1 ab) ad
 exact l1 h
end
section
variable{β:Type}
abbrev hV:=Tmp->FuncId->lZ->oX
def x5(G:cj)(C:hV)(σ:ar)(o:Oper)(x:Operand)(args:List Operand)(k:ar->Option β):Option β:=match qi (bD G σ.au x)with
 |some (f,pre,post)=>match fk ((pre++args.map (bD G σ.au)++post).map (toD σ.objs))with|some a=>af (C (o.dst.getD 9999) f a) λr=>bJ ((pre++args.map (bD G σ.au)++post).all nQ||r.flat) (k (σ.put o.dst (.d r)))|none=>none
 |none=>none
def OA:D->Option (FuncId×lZ)
 | .fn (.func f) [] c=>some (f,c)| .val (.func (.func f) a b)=>if a.size=0/\b.size=0 then some (f,[])else none
 |_=>none
def Cx(f:FuncId)(a:lZ):List (FuncId×(lZ->oX))->oX
 |[]=>none|(g,F)::r=>if f=g then F a else Cx f a r
def kN(l:List (FuncId×(lZ->oX)))(v:D)(a:lZ):oX:=af (OA v) λp=>Cx p.1 (a++p.2) l
def OB(t:Tmp):List (Nat×List FuncId)->List FuncId
 |[]=>[]|(d,l)::r=>if t=d then l else OB t r
def Iq(l:List FuncId)(G:cj)(C:hV)(σ:ar)(o:Oper)(x:Operand)(args:List Operand)(k:ar->Option β):Option β:=match bD G σ.au x,fk ((args.map (bD G σ.au)).map (toD σ.objs))with| .d v,some a=>af (kN (l.map λg=>(g,C (o.dst.getD 9999) g)) v a) λr=>bJ ((args.map (bD G σ.au)).all nQ||r.flat) (k (σ.put o.dst (.d r)))|_,_=>none
def r3(T:bC)(G:cj)(C:hV)(σ:ar)(o:Oper)(x:Operand)(args:List Operand)(k:ar->Option β):Option β:=match OB (o.dst.getD 9999) T.dyn with|[]=>x5 G C σ o x args k|g::l=>Iq (g::l) G C σ o x args k
def mI(T:bC)(G:cj)(C:hV)(σ:ar)(o:Oper)(k:ar->Option β):Option β:=match o.op with| .call ⟨.value x,args,_⟩=>r3 T G C σ o x args.toList k|_=>nV T G σ o k
def nW(T:bC)(G:cj)(C:hV):List Oper->ar->(ar->Option β)->Option β
 |[],σ,k=>k σ|o::r,σ,k=>mI T G C σ o λa=>nW T G C r a k
def o9:List Oper->List (Option (Nat×Bool)×List Oper)
 |[]=>[]
 |o::r=>match o9 r with
  |(g,os)::rest=>if g=o.guard then(g,o::os)::rest else(o.guard,[o])::(g,os)::rest
  |[]=>[(o.guard,[o])]
def cE(x:D)(want:Bool)(p:oX):oX:=match x with
 | .val (.bool b)=>if b=want then p else some hB
 | .val (.tuple _)=>some hB|_=>none
def r4{a:Type}(x:D)(want:Bool)(p q:Option a):Option a:=match x with
 | .val (.bool b)=>if b=want then p else q
 | .val (.tuple _)=>q|_=>none
def Ir:List Oper->ar->ar
 |[],σ=>σ|o::r,σ=>Ir r (σ.put o.dst (.d hB))
def qp:List Oper->Option Tmp
 |[]=>none|[o]=>o.dst|_::r=>qp r
def dstsOf(os:List Oper):List Tmp:=os.filterMap (·.dst)
def still(o:Oper):Bool:=gp o.op||gI o.op||fl o.op
def qq(ts:List Tmp)(v:D)(σ:ar):ar:=⟨λt=>if t∈ts then .d (ae v (ts.idxOf t))else σ.au t,σ.objs⟩
def x6(σ:ar):List Tmp->oY
 |[]=>some []|t::r=>match σ.au t,x6 σ r with| .d v,some l=>some (v::l)|_,_=>none
def kept(all:Array Oper)(os l:List Oper):List Tmp:=(dstsOf os).filter λt=>l.any λo=>(o.looksAt all).contains t
def OC{σ:ar}:∀{ts:List Tmp}{l:lZ},x6 σ ts=some l->l.length=ts.length/\∀(i:Nat)(t:Tmp),ts[i]?=some t->∃v,l[i]?=some v/\σ.au t= .d v
 |[],l,h=>by cases h;exact⟨rfl,λi t h=>by simp at h⟩
 |t::r,l,h=>by
  unfold x6 at h;split at h
  case h_2=>cases h
  rename_i v b a ah;cases h;have ih:=OC ah;refine⟨by simp[ih.1],λi u hu=>?_⟩;cases i with|zero=>simp at hu;subst hu;exact⟨v,rfl,a⟩|succ i=>exact ih.2 i u (by simpa using hu)
def Zs{σ:ar}{ts:List Tmp}{l:lZ}(h:x6 σ ts=some l){t:Tmp}(a:t∈ts):σ.au t= .d (ae (.agg l) (ts.idxOf t)):=by
 have ab:ts[ts.idxOf t]?=some t:=by have:=List.idxOf_lt_length_of_mem a;rw[xaa this,List.getElem_idxOf]
 obtain⟨v,ad,ai⟩:=(OC h).2 _ t ab;rw[ai]
 congr 1
 show v=l.getD _ _;simp[List.getD,ad]
def iG(a:List Tmp)(σ:ar):ar:=⟨λt=>if t∈a then .any else σ.au t,σ.objs⟩
def blind(all:Array Oper)(a:List Tmp)(l:List Oper):Bool:=l.all λo=>a.all λd=>!(o.looksAt all).contains d&&o.dst !=some d
def OD(all:Array Oper)(d br:Tmp)(os l:List Oper):Bool:=os.all (λo=>still o&&o.dst !=some d)&&blind all ((dstsOf os).filter (·!=br)) l
def flat(gs:List (Option (Nat×Bool)×List Oper)):List Oper:=gs.flatMap (·.2)
def qs(T:bC)(G:cj)(C:hV)(all:Array Oper):List (Option (Nat×Bool)×List Oper)->ar->(ar->Option β)->Option β
 |[],σ,k=>k σ|(none,os)::r,σ,k=>nW T G C os σ λa=>qs T G C all r a k
 |(some (j,want),os)::r,σ,k=>match(all[j]?).bind (·.dst),qp os with
  |some d,some br=>match σ.au d with
   | .d x=>if OD all d br os (flat r)=true then
     af (cE x want (nW T G C os σ λa=>match a.au br with| .d v=>some v|_=>none)) λv=>qs T G C all r ((iG (dstsOf os) σ).put (some br) (.d v)) k
    else if os.all (λo=>o.dst !=some d)=true then r4 x want (nW T G C os σ λa=>qs T G C all r a k) (qs T G C all r (Ir os σ) k)else none
   |_=>none
  |_,_=>none
def OE(T:bC)(G:cj)(C:hV)(all:Array Oper)(σ:ar)(k:ar->Option β):Option β:=qs T G C all (o9 all.toList) σ k
def OF:Op->Bool
 | .store _ _ _=>true|_=>false
def Is(all:Array Oper)(listed:Array Bool)(i:Nat):Bool:=match all[i]? with|none=>false|some b=>((waits all i).all λj=>!listed.getD j true&&match all[j]? with|some a=>a.after.any λe=>Region.binds .any e&&(e.on==i||(waits all i).contains e.on)|none=>false)&&(List.range all.size).all λj=>j==i||listed.getD j true||(waits all i).contains j||match all[j]? with|some a=>b.apart all a&&!OF a.op|none=>true
def Cy(all:Array Oper)(listed:Array Bool)(i:Nat)(σ:ar)(o:Oper):Bool:=match o.op with
 | .load _ (.tmp a)=>match σ.au a with| .ptr _ _=>Is all listed i|_=>false
 |_=>false
def qt(all:Array Oper)(listed:Array Bool)(i:Nat):List Oper:=(List.range all.size).filterMap λj=>if j==i||listed.getD j true||(waits all i).contains j then none else all[j]?
def Cz(all:Array Oper)(listed:Array Bool)(i:Nat)(au:Nat->aB)(o:Oper):Bool:=((waits all i).all λj=>!listed.getD j true&&match all[j]? with|some a=>a.after.any λe=>Region.binds .any e&&(e.on==i||(waits all i).contains e.on)|none=>false)&&(qt all listed i).all λy=>o.apart all y&&nS au o y&&(jf o.op++(qt all listed i).flatMap λy=>nT y.op).all λt=>y.dst !=some t
def ur(T:bC)(G:cj)(C:hV)(all:Array Oper):lX->Array Bool->ar->(ar->Option β)->Option β
 |[],listed,σ,k=>if(Region.ready .any all listed).isEmpty=true then k σ else none
 |i::r,listed,σ,k=>match all[i]? with
  |some o=>if o.guard=none/\(Region.ready .any all listed).contains i=true/\(NP all listed i||Cy all listed i σ o||Cz all listed i σ.au o||HR T all listed i)=true then mI T G C σ o λa=>ur T G C all r (listed.setIfInBounds i true) a k else none
  |none=>none
def fw(P:Program)(G:cj)(C:hV):Prop:=∀d f a r,C d f a=some r->cF P G f a (·=r)
def pb:∀l:List Oper,flat (o9 l)=l
 |[]=>rfl
 |o::r=>by
  have ih:=pb r;unfold o9;split;.rename_i g os rest a;rw[a]at ih;split<;>simp_all [flat]
  rename_i a;rw[a]at ih;simp[flat]at ih;subst ih;rfl
def x7:∀(l:List Oper)(g:Option (Nat×Bool)) (os:List Oper),(g,os)∈o9 l->∀o∈os,o.guard=g
 |[],g,os,h=>by cases h
 |o::r,g,os,h=>by
  have ih:=x7 r;unfold o9 at h;split at h
  .rename_i e c rest b;split at h
   .rename_i d;rcases xao.1 h with ab|ab
    .cases ab;intro q a;rcases xao.1 a with rfl|a
     .exact d.symm
     exact ih g c (by rw[b];simp) q a
    exact ih g os (by rw[b];simp[ab])
   rcases xao.1 h with ab|ab;.cases ab;intro q a;simp at a;subst a;rfl
   exact ih g os (by rw[b];exact ab)
  simp at h;obtain⟨rfl,rfl⟩:=h;intro q a;simp at a;subst a;rfl
variable{P:Program}{T:bC}{G:cj}{C:hV}{σ:ar}{all:Array Oper}
def OG{e:Type}:∀{a b:List (Option e)} {x y:List e},fk a=some x->fk b=some y->fk (a++b)=some (x++y)
 |[],b,x,y,h,d=>by cases h;exact d
 |none::a,b,x,y,h,d=>by cases h
 |some c::a,b,x,y,h,d=>by
  simp only[fk,xbs]at h⊢;split at h
  case h_2=>cases h
  rename_i z ab;cases h;rw[OG ab d];rfl
def OH{objs:bP}:∀(l:lZ),fk ((l.map aB.d).map (toD objs))=some l
 |[]=>rfl|c::r=>by have:=OH (objs:=objs) r;have e:toD objs (aB.d c)=some c:=rfl;simp only[xaw,e,fk];rw[this]
def OI{f:FuncId}{a:lZ}{C:FuncId->lZ->oX}{r:D}:∀{l:List FuncId},Cx f a (l.map λg=>(g,C g))=some r->C f a=some r
 |[],h=>by cases h
 |g::l,h=>by
  simp only[xaw,Cx]at h;split at h;.rename_i e;rw[e];exact h
  exact OI h
def Zt{l:List FuncId}{o:Oper}{x:Operand}{args:List Operand}{k:ar->Option β}{b:β}(h:Iq l G C σ o x args k=some b):x5 G C σ o x args k=some b:=by
 unfold Iq at h;split at h
 case h_2=>cases h
 rename_i v t q i;obtain⟨r,ab,ad⟩:=cR h;obtain⟨p,ai,m⟩:=cR ab;have n:=OI (C:=C (o.dst.getD 9999)) m;obtain⟨f,a⟩:=p;have g:qi (.d v)=some (f,[],a.map .d):=by
  unfold OA at ai;split at ai;.cases ai;rfl
  .split at ai;.rename_i j;cases ai;simp only[qi,xac j,xbc]
   cases ai
  cases ai
 unfold x5;rw[q,g];simp only[xaM,List.map_append];rw[OG i (OH a)];simp only;rw[n];obtain⟨g1,g2⟩:=hA ad;have e:((args.map (bD G σ.au))++a.map aB.d).all nQ=(args.map (bD G σ.au)).all nQ:=by
  rw[List.all_append];have:(a.map aB.d).all nQ=true:=by rw[xay];intro y s;obtain⟨c,_,rfl⟩:=xaK.1 s;rfl
  rw[this,xbA]
 rw[e];exact ad
def Zu{o:Oper}{x:Operand}{args:List Operand}{k:ar->Option β}{b:β}(h:r3 T G C σ o x args k=some b):x5 G C σ o x args k=some b:=by
 unfold r3 at h;split at h;.exact h
 exact Zt h
def CA(q:fw P G C){p:bC}{o:Oper}{x:Operand}{args:Array Operand}{j:Array TypeId}(m:o.op= .call ⟨.value x,args,j⟩){k:ar->Option β}{b:β}(h:r3 p G C σ o x args.toList k=some b):cn P T G o (λa=>k a=some b/\a.objs=σ.objs/\∀t,o.dst≠some t->a.au t=σ.au t) σ:=by
 have i:fl o.op=true:=by rw[m];rfl
 rw[kh (o2 i)]
 replace h:=Zu h
 unfold x5 at h;unfold gQ;rw[m];simp only;split at h
 case h_2=>cases h
 rename_i f pre post c;simp only[c];split at h
 case h_2=>cases h
 rename_i l g;obtain⟨r,ab,ad⟩:=cR h;obtain⟨ad,ai⟩:=hA ad;refine⟨l,l,(·=r),g,mB.refl _,q _ _ _ _ ab,⟨r,rfl⟩,?_,?_⟩
 .rcases xbx.1 ad with ad|ad;.exact .inr ad
  exact .inl (by rintro _ rfl;exact ad)
 rintro _ rfl;refine⟨ai,by simp,?_⟩;intro t n;cases s:o.dst with|none=>rfl|some d=>rw[s]at n;simp only[ar.put];exact b9 _ _ (λe=>n (by rw[e]))
def It(c:fw P G C){o:Oper}{k:ar->Option β}{b:β}(h:mI T G C σ o k=some b):cn P T G o (λa=>k a=some b) σ:=by
 unfold mI at h;split at h;.exact la (λ_ h=>h.1) (CA c aZ h)
 obtain⟨a,ab,ad⟩:=r2 h;unfold cn;rw[ab];exact ad
def mJ{dst:Option Tmp}{r:aB}{t:Tmp}(a:dst≠some t):(σ.put dst r).au t=σ.au t:=by cases dst with|none=>rfl|some d=>simp only[ar.put];exact b9 _ _ (λe=>a (by rw[e]))
def OJ(e:fw P G C){o:Oper}(aj:still o=true){k:ar->Option β}{b:β}(h:mI T G C σ o k=some b):cn P T G o (λa=>k a=some b/\a.objs=σ.objs/\∀t,o.dst≠some t->a.au t=σ.au t) σ:=by
 unfold mI at h;split at h;.exact CA e aZ h
 rename_i f;obtain⟨a,ab,ad⟩:=r2 h;unfold cn;rw[ab];have c:e4 T (bD G σ.au) σ.objs (o.dst.getD 9999) o.op=none:=by
  unfold still at aj;simp only[xbk]at aj;rcases aj with(aj|aj)|aj
  .exact(ua aj).2
  .exact ub aj
  exact(HQ aj).2.2
 unfold eR at ab;split at ab;.cases ab;exact⟨ad,by simp,λt d=>mJ d⟩
 split at ab;.cases ab;exact⟨ad,by simp,λt d=>mJ d⟩
 rw[c]at ab;cases ab
def jA{l:List Oper}:∀{σ:ar}{K K':ar->Prop},(∀σ,K σ->K' σ)->dX P T G all l K σ->dX P T G all l K' σ:=by
 induction l with
 |nil=>intro σ K K' a h;exact a _ h
 |cons o l ih=>intro σ K K' a h;exact xU (λc b=>ih a b) h
def Iu{l r:List Oper}:∀{σ:ar}{K:ar->Prop},dX P T G all l (dX P T G all r K) σ->dX P T G all (l++r) K σ:=by
 induction l with
 |nil=>intro σ K h;exact h
 |cons o l ih=>intro σ K h;exact xU (λb a=>ih a) h
def jB(σ τ:ar):Prop:=σ.objs=τ.objs/\∀t,τ.au t= .any\/σ.au t=τ.au t
theorem jB.refl(σ:ar):jB σ σ:=⟨rfl,λ_=> .inr rfl⟩
def jB.trans{σ τ b:ar}(h:jB σ τ)(a:jB τ b):jB σ b:=by
 refine⟨h.1.trans a.1,λt=>?_⟩;rcases a.2 t with ad|ad
 .exact .inl ad
 rcases h.2 t with ab|ab;.exact .inl (ad▸ab)
 exact .inr (ab.trans ad)
def jB.r5{σ τ:ar}(h:jB σ τ):eZ σ τ:=by
 obtain⟨s,o⟩:=σ;obtain⟨s',o'⟩:=τ;obtain⟨ab,ad⟩:=h;simp only at ab ad;subst ab;intro m fr ρ b w hD;refine⟨m,ρ,Mem.le_refl m,⟨hD.mem,hD.frame,hD.apart,hD.one,?_,hD.objs,hD.own,hD.sep⟩,λk c a=>⟨a,rfl⟩⟩;intro t;rcases ad t with h|h;.simp only[h];exact .any _
 have:=hD.au t;simp only at this⊢;rw[<-h];exact this
def OK{d:Tmp}{r:aB}:∀{l:List Oper}{σ:ar}{K:ar->Prop},(∀o∈l,d∉o.looksAt all/\o.dst≠some d)->dX P T G all l K (σ.put (some d) r)=dX P T G all l (λa=>K (a.put (some d) r)) σ
 |[],σ,K,h=>rfl
 |o::l,σ,K,h=>by
  have ak:=h o sZ;have ih:∀{σ:ar},dX P T G all l K (σ.put (some d) r)=dX P T G all l (λa=>K (a.put (some d) r)) σ:=OK λo' b=>h o' (by simp[b]);unfold dX;rw[fv,fv,kJ (by rintro _ ⟨⟩;exact ak.1)];cases c:hh all σ o with
  |none=>rfl
  |some w=>
   cases w with
   |true=>simp only;rw[gR (all:=all) (by rintro _ ⟨⟩;exact ak.1) (by rintro _ ⟨⟩;exact ak.2)];simp only[ih]
   |false=>simp only;rw[<-ih,put_comm (by rintro _ ⟨⟩;exact ak.2)]
def Zv{d:Tmp}{a:aB}{l:List Oper}{σ:ar}{K:ar->Prop}(e:∀σ τ,jB σ τ->K τ->K σ)(ah:∀o∈l,d∉o.looksAt all/\o.dst≠some d)(h:dX P T G all l K (σ.put (some d) .any)):dX P T G all l K (σ.put (some d) a):=by
 rw[OK ah]at h⊢;refine jA (λf c=>e _ _ ?_ c) h;refine⟨rfl,λt=>?_⟩;by_cases b:t=d;.subst b;exact .inl (by simp[ar.put])
 exact .inr (by simp[ar.put,b9 _ _ b])
def Iv{l:List Oper}{K:ar->Prop}(k:∀σ τ,jB σ τ->K τ->K σ):∀(g:List Tmp){σ τ:ar},(∀d∈g,∀o∈l,d∉o.looksAt all/\o.dst≠some d)->(∀t,t∉g->σ.au t=τ.au t)->(∀d∈g,τ.au d= .any\/σ.au d=τ.au d)->σ.objs=τ.objs->dX P T G all l K τ->dX P T G all l K σ
 |[],σ,τ,_,ab,ad,ai,h=>by
  have:σ=τ:=by
   cases σ;cases τ;simp only at ab ai;subst ai
   congr 1
   funext t
   exact ab t sZ
  rw[this];exact h
 |d::g,σ,τ,m,ab,ad,ai,h=>by
  by_cases n:τ.au d= .any
  .have e:τ=τ.put (some d) .any:=by
    cases τ;simp only[ar.put]
    congr 1
    funext t
    by_cases i:t=d;.subst i;simp only[dv];exact n
    rw[b9 _ _ i]
   rw[e]at h;have p:=Zv (a:=σ.au d) k (λo q=>m d sZ o q) h;refine Iv (τ:=τ.put (some d) (σ.au d)) k g (λf c=>m f (by simp[c])) ?_ ?_ ai p
   .intro t i;by_cases b:t=d;.subst b;simp[ar.put]
    simp only[ar.put,b9 _ _ b];exact ab t (by simp[b,i])
   intro f c;by_cases b:f=d;.subst b;simp[ar.put]
   simp only[ar.put,b9 _ _ b];exact ad f (by simp[c])
  refine Iv k g (λf c=>m f (by simp[c])) ?_ (λf c=>ad f (by simp[c])) ai h;intro t i;by_cases b:t=d
  .subst b;rcases ad t (by simp)with j|j
   .exact absurd j n
   exact j
  exact ab t (by simp[b,i])
def OL(c:fw P G C):∀{os:List Oper}{σ:ar}{k:ar->Option β}{b:β},(∀o∈os,o.guard=none)->nW T G C os σ k=some b->dX P T G all os (λa=>k a=some b) σ
 |[],σ,k,b,_,h=>h|o::os,σ,k,b,d,h=>by unfold dX c9;rw[d o sZ];exact la (λa e=>OL c (λo f=>d o (by simp[f])) e) (It c h)
def OM(i:fw P G C){j:Nat}{want:Bool}{d:Tmp}(l:(all[j]?).bind (·.dst)=some d):∀{os:List Oper}{σ:ar}{k:ar->Option β}{b:β},(∀o∈os,o.guard=some (j,want))->(∀o∈os,still o=true/\o.dst≠some d)->σ.au d= .d (.val (.bool want))->nW T G C os σ k=some b->dX P T G all os (λa=>k a=some b/\a.objs=σ.objs/\∀t,t∉dstsOf os->a.au t=σ.au t) σ
 |[],σ,k,b,_,_,_,h=>⟨h,rfl,λ_ _=>rfl⟩
 |o::os,σ,k,b,m,aj,hw,h=>by
  have ak:=aj o sZ;unfold dX c9;rw[m o sZ];simp only[l,hw,xaC];refine la ?_ (OJ i ak.1 h);rintro a ⟨ab,ad,ai⟩;refine jA ?_ (OM i l (λo e=>m o (by simp[e])) (λo e=>aj o (by simp[e])) (by rw[ai d ak.2];exact hw) ab);rintro p ⟨g1,g2,g3⟩;refine⟨g1,g2.trans ad,?_⟩;intro t n;have f:t∉dstsOf os:=λc=>n (by unfold dstsOf at c⊢;simp only[xbY];cases o.dst<;>simp[c])
  have g:o.dst≠some t:=λc=>n (by unfold dstsOf;simp[c]);rw[g3 t f,ai t g]
def x8{j:Nat}{want:Bool}{d:Tmp}(k:(all[j]?).bind (·.dst)=some d):∀{os:List Oper}{σ:ar},(∀o∈os,o.guard=some (j,want))->(∀o∈os,o.dst≠some d)->(σ.au d= .d (.val (.bool (!want)))\/∃vs,σ.au d= .d (.val (.tuple vs)))->dX P T G all os (λa=>a.objs=σ.objs/\(∀t,t∉dstsOf os->a.au t=σ.au t)/\∀br,qp os=some br->a.au br= .d hB) σ
 |[],σ,_,_,_=>⟨rfl,λ_ _=>rfl,by intro br h;cases h⟩
 |o::os,σ,l,aj,b=>by
  have ak:=aj o sZ;unfold dX;have key:dX P T G all os (λa=>a.objs=σ.objs/\(∀t,t∉dstsOf (o::os)->a.au t=σ.au t)/\∀br,qp (o::os)=some br->a.au br= .d hB) (σ.put o.dst (.d (.val (.tuple #[])))):=by
   have i:(σ.put o.dst (.d (.val (.tuple #[])))).au d= .d (.val (.bool (!want)))\/∃vs,(σ.put o.dst (.d (.val (.tuple #[])))).au d= .d (.val (.tuple vs)):=by rw[mJ ak];exact b
   refine jA ?_ (x8 k (λo e=>l o (by simp[e])) (λo e=>aj o (by simp[e])) i);rintro a ⟨ab,ad,ai⟩;refine⟨ab.trans sZ,?_,?_⟩
   .intro t m;have f:t∉dstsOf os:=λc=>m (by
     unfold dstsOf at c⊢;simp only[xbY];cases o.dst<;>simp[c])
    have g:o.dst≠some t:=λc=>m (by unfold dstsOf;simp[c]);rw[ad t f,mJ g]
   intro br ah;cases os with|nil=>simp only[qp]at ah;rw[ad br (by simp[dstsOf]),ah];simp[ar.put,hB]|cons q n=>exact ai br ah
  unfold c9;rw[l o sZ];simp only[k];rcases b with b|⟨vs,b⟩
  .simp only[b];rw[xab (by cases want<;>simp)];exact key
  simp only[b];exact key
def Iw{j:Nat}{want:Bool}{d:Tmp}(m:(all[j]?).bind (·.dst)=some d):∀{os:List Oper}{σ:ar},(∀o∈os,o.guard=some (j,want))->(∀o∈os,o.dst≠some d)->(σ.au d= .d (.val (.bool (!want)))\/∃vs,σ.au d= .d (.val (.tuple vs)))->dX P T G all os (λa=>a.objs=σ.objs/\(∀t,t∉dstsOf os->a.au t=σ.au t)/\∀t∈dstsOf os,a.au t= .d hB) σ
 |[],σ,_,_,_=>⟨rfl,λ_ _=>rfl,by intro t h;cases h⟩
 |o::os,σ,n,aj,f=>by
  have ak:=aj o sZ;unfold dX;have key:dX P T G all os (λa=>a.objs=σ.objs/\(∀t,t∉dstsOf (o::os)->a.au t=σ.au t)/\∀t∈dstsOf (o::os),a.au t= .d hB) (σ.put o.dst (.d (.val (.tuple #[])))):=by
   have l:(σ.put o.dst (.d (.val (.tuple #[])))).au d= .d (.val (.bool (!want)))\/∃vs,(σ.put o.dst (.d (.val (.tuple #[])))).au d= .d (.val (.tuple vs)):=by rw[mJ ak];exact f
   refine jA ?_ (Iw m (λo e=>n o (by simp[e])) (λo e=>aj o (by simp[e])) l);rintro a ⟨ab,ad,ai⟩;refine⟨ab.trans sZ,?_,?_⟩
   .intro t c;have b:t∉dstsOf os:=λg=>c (by
     unfold dstsOf at g⊢;simp only[xbY];cases o.dst<;>simp[g])
    have i:o.dst≠some t:=λg=>c (by unfold dstsOf;simp[g]);rw[ad t b,mJ i]
   intro t c;by_cases b:t∈dstsOf os;.exact ai t b
   have k:o.dst=some t:=by
    unfold dstsOf at c b;simp only[xbY]at c;cases e:o.dst with
    |none=>rw[e]at c;exact absurd c b
    |some u=>
     rw[e]at c;rcases xao.1 c with rfl|h
     .rfl
     exact absurd h b
   rw[ad t b,k];simp[ar.put,hB]
  unfold c9;rw[n o sZ];simp only[m];rcases f with f|⟨vs,f⟩
  .simp only[f];rw[xab (by cases want<;>simp)];exact key
  simp only[f];exact key
def Zw(d:fw P G C){o:Oper}{k:ar->Option β}{b:β}(h:mI T G C σ o k=some b):cn P T G o (λa=>k a=some b/\∀t,o.dst≠some t->a.au t=σ.au t) σ:=by
 unfold mI at h;split at h;.exact la (λ_ h=>⟨h.1,h.2.2⟩) (CA d aZ h)
 obtain⟨a,ab,ad⟩:=r2 h;unfold cn;rw[ab];refine⟨ad,λt c=>?_⟩;unfold eR at ab;split at ab;.cases ab;exact mJ c
 split at ab;.cases ab;exact mJ c
 split at ab;.cases ab;exact mJ c
 cases ab
def ON(e:fw P G C){j:Nat}{want:Bool}{d:Tmp}(f:(all[j]?).bind (·.dst)=some d):∀{os:List Oper}{σ:ar}{k:ar->Option β}{b:β},(∀o∈os,o.guard=some (j,want))->(∀o∈os,o.dst≠some d)->σ.au d= .d (.val (.bool want))->nW T G C os σ k=some b->dX P T G all os (λa=>k a=some b) σ
 |[],σ,k,b,_,_,_,h=>h|o::os,σ,k,b,g,aj,hw,h=>by unfold dX c9;rw[g o sZ];simp only[f,hw,xaC];refine la ?_ (Zw e h);rintro a ⟨ab,ai⟩;exact ON e f (λo c=>g o (by simp[c])) (λo c=>aj o (by simp[c])) (by rw[ai d (aj o sZ)];exact hw) ab
def Ix{j:Nat}{want:Bool}{d:Tmp}(e:(all[j]?).bind (·.dst)=some d){K:ar->Prop}:∀{os:List Oper}{σ:ar},(∀o∈os,o.guard=some (j,want))->(∀o∈os,o.dst≠some d)->(σ.au d= .d (.val (.bool (!want)))\/∃vs,σ.au d= .d (.val (.tuple vs)))->K (Ir os σ)->dX P T G all os K σ
 |[],σ,_,_,_,h=>h
 |o::os,σ,f,aj,a,h=>by
  have ak:=aj o sZ;have c:(σ.put o.dst (.d (.val (.tuple #[])))).au d= .d (.val (.bool (!want)))\/∃vs,(σ.put o.dst (.d (.val (.tuple #[])))).au d= .d (.val (.tuple vs)):=by rw[mJ ak];exact a
  have key:dX P T G all os K (σ.put o.dst (.d (.val (.tuple #[])))):=Ix e (λo b=>f o (by simp[b])) (λo b=>aj o (by simp[b])) c h;unfold dX c9;rw[f o sZ];simp only[e];rcases a with a|⟨vs,a⟩
  .simp only[a];rw[xab (by cases want<;>simp)];exact key
  simp only[a];exact key
def OO:∀{os:List Oper}{br:Tmp},qp os=some br->br∈dstsOf os
 |[],br,h=>by cases h
 |[o],br,h=>by simp only[qp]at h;simp[dstsOf,h]|o::q::r,br,h=>by have:=OO (os:=q::r) h;unfold dstsOf at this⊢;rw[xbY];cases o.dst<;>simp[this]
def r6(p:fw P G C){K:ar->Prop}(y:∀σ τ,jB σ τ->K τ->K σ):∀{gs:List (Option (Nat×Bool)×List Oper)} {σ:ar} {k:ar->Option β} {b:β},(∀g∈gs,∀o∈g.2,o.guard=g.1)->(∀a,k a=some b->K a)->qs T G C all gs σ k=some b->dX P T G all (flat gs) K σ
 |[],σ,k,b,_,q,h=>q _ h|(none,os)::r,σ,k,b,l,q,h=>by show dX P T G all (os++flat r) K σ;refine Iu (jA ?_ (OL p (λo f=>l (none,os) sZ o f) h));intro a L;exact r6 p y (λg m=>l g (by simp[m])) q L
 |(some (j,want),os)::r,σ,k,b,l,q,h=>by
  show dX P T G all (os++flat r) K σ;unfold qs at h;split at h
  case h_2=>cases h
  rename_i d br z D;split at h
  case h_2=>cases h
  rename_i x A;split at h
  case isFalse=>
   split at h
   case isFalse=>cases h
   rename_i n;simp only[xay,bne_iff_ne,ne_eq]at n;have e:∀o∈os,o.guard=some (j,want):=λo f=>l (some (j,want),os) sZ o f;unfold r4 at h;refine Iu ?_;split at h
   .rename_i I;split at h;.rename_i B;subst B;exact jA (λa L=>r6 p y (λg m=>l g (by simp[m])) q L) (ON p z e n A h)
    rename_i B;exact Ix z e n (.inl (by rw[A];cases I<;>cases want<;>simp_all)) (r6 p y (λg m=>l g (by simp[m])) q h)
   .exact Ix z e n (.inr ⟨_,A⟩) (r6 p y (λg m=>l g (by simp[m])) q h)
   cases h
  rename_i F;simp only[OD,xam,xay,bne_iff_ne,ne_eq,blind,xbL,xcr,List.contains_eq_mem,decide_eq_false_iff_not]at F;obtain⟨i,H⟩:=F;obtain⟨v,ab,ad⟩:=cR h;have e:∀o∈os,o.guard=some (j,want):=λo f=>l (some (j,want),os) sZ o f;have rest:=r6 p y (λg m=>l g (by simp[m])) q ad;have fin:∀a:ar,a.objs=σ.objs->(∀t,t∉dstsOf os->a.au t=σ.au t)->a.au br= .d v->dX P T G all (flat r) K a:=by
   intro a O Q R;refine Iv y ((dstsOf os).filter (·!=br)) ?_ ?_ ?_ ?_ rest;.intro J s o f;have c:=xbL.1 s;exact H o f J ⟨c.1,by simpa using c.2⟩
   .intro t N;simp only[xbL,bne_iff_ne,ne_eq,not_and,Decidable.not_not]at N;by_cases w:t=br;.subst w;simp[ar.put,R]
    have E:t∉dstsOf os:=λS=>w (N S);simp only[ar.put,b9 _ _ w,iG,E,xaG];exact Q t E
   .intro J s;have c:=xbL.1 s;have M:J≠br:=by simpa using c.2
    refine .inl ?_;simp only[ar.put,b9 _ _ M,iG,c.1,xaC]
   simp[ar.put,iG,O]
  unfold cE at ab;refine Iu ?_;split at ab
  .rename_i I;split at ab
   .rename_i B;subst B;refine jA ?_ (OM p z e i A ab);rintro a ⟨g1,g2,g3⟩;refine fin a g2 g3 ?_;split at g1;.rename_i u hu;cases g1;exact hu
    cases g1
   rename_i B;cases ab;refine jA ?_ (x8 z e (λo f=>(i o f).2) (.inl (by rw[A];cases I<;>cases want<;>simp_all)));rintro a ⟨g1,g2,g3⟩;exact fin a g1 g2 (g3 br D)
  .rename_i vs;cases ab;refine jA ?_ (x8 z e (λo f=>(i o f).2) (.inr ⟨_,A⟩));rintro a ⟨g1,g2,g3⟩;exact fin a g1 g2 (g3 br D)
  cases ab
def OP{i:Nat}{n:Oper}{listed:Array Bool}(ag:all[i]?=some n)(h:Is all listed i=true):(∀j c,j∈waits all i->all[j]?=some c->∃e∈c.after,Region.binds .any e=true/\(e.on=i\/e.on∈waits all i))/\(∀j,j∈waits all i->listed.getD j true=false)/\ ∀j c,all[j]?=some c->j≠i->listed.getD j true=false->j∉waits all i->n.apart all c=true/\∀t a x,c.op≠ .store t a x:=by
 simp only[Is,ag,xam,xay,xbU]at h;refine⟨λj c g b=>?_,λj g=>by simpa using(h.1 j g).1,λj c b k m l=>?_⟩;.have ab:=(h.1 j g).2;simp only[b]at ab;obtain⟨e,f,d⟩:=Array.any_eq_true'.1 ab;simp only[xam,xbk,xbQ,List.contains_iff_mem]at d;exact⟨e,f,d.1,d.2⟩
 have ab:=h.2 j (xaN.1 b).1;simp only[b,xbk,xbQ,k,false_or,m,xaq,xam,List.contains_iff_mem,l]at ab;refine⟨ab.1,?_⟩;intro t a x f;rw[f]at ab;simp[OF]at ab
def OQ{i:Nat}{c:Oper}{listed:Array Bool}{au:Nat->aB}(h:Cz all listed i au c=true):(∀j a,j∈waits all i->all[j]?=some a->∃e∈a.after,Region.binds .any e=true/\(e.on=i\/e.on∈waits all i))/\(∀j,j∈waits all i->listed.getD j true=false)/\ ∀j a,all[j]?=some a->j≠i->listed.getD j true=false->j∉waits all i->c.apart all a=true/\nS au c a=true/\(∀t∈jf c.op++(qt all listed i).flatMap (λy=>nT y.op),a.dst≠some t)/\∀t∈nT a.op,t∈jf c.op++(qt all listed i).flatMap (λy=>nT y.op):=by
 simp only[Cz,xam,xay]at h;refine⟨λj a f b=>?_,λj f=>by simpa using(h.1 j f).1,λj a b g m k=>?_⟩;.have ab:=(h.1 j f).2;simp only[b]at ab;obtain⟨e,o,d⟩:=Array.any_eq_true'.1 ab;simp only[xam,xbk,xbQ,List.contains_iff_mem]at d;exact⟨e,o,d.1,d.2⟩
 have n:a∈qt all listed i:=by
  unfold qt;rw[List.mem_filterMap];refine⟨j,by simpa using(xaN.1 b).1,?_⟩;have:(j==i||listed.getD j true||(waits all i).contains j)=false:=by simp only[Bool.or_eq_false_iff,beq_eq_false_iff_ne,ne_eq];exact⟨⟨g,m⟩,by simpa using k⟩
  rw[this];simpa using b
 obtain⟨ab,ad⟩:=h.2 a n;refine⟨ab.1,ab.2,λt l=>by simpa using ad t l,λt l=>xbT _ (List.mem_flatMap.2 ⟨a,n,l⟩)⟩
def Iy(m:fw P G C){k:ar->Option β}{b:β}:∀(ord:lX)(listed:Array Bool)(σ:ar),ur T G C all ord listed σ k=some b->gg P T G all (λd=>k d=some b) ord.length listed σ
 |[],listed,σ,h=>by
  unfold ur at h;split at h;.rename_i j;exact⟨List.isEmpty_iff.1 j,h⟩
  cases h
 |i::r,listed,σ,h=>by
  unfold ur at h;split at h
  case h_2=>cases h
  rename_i o ag;split at h
  case isFalse=>cases h
  rename_i p;obtain⟨l,j,c⟩:=p;have H:fm P T G all i (gg P T G all (λd=>k d=some b) r.length (listed.setIfInBounds i true)) σ:=by unfold fm;simp only[ag];unfold c9;simp only[l];exact la (λd n=>Iy m r _ d n) (It m h)
  rcases xbx.1 c with c|c
  case inr=>obtain⟨e,f,g⟩:=B9 ag c;exact B7 ag e r.length listed σ f g (by simpa using j) (.inr trivial) H
  rcases xbx.1 c with c|c
  case inr=>obtain⟨e,f,g⟩:=OQ c;exact N7 ag l e (s0:=σ.au) (L:=jf o.op++(qt all listed i).flatMap (λy=>nT y.op)) (λt s=>xaY _ s) r.length listed σ (λ_ _=>rfl) f g (by simpa using j) H
  rcases xbx.1 c with c|c;.obtain⟨e,f,g⟩:=NQ ag c;exact NN ag e r.length listed σ f g (by simpa using j) (.inr trivial) H
  unfold Cy at c;split at c
  case h_2=>cases c
  rename_i t a q;split at c
  case h_2=>cases c
  rename_i u off aj;obtain⟨e,f,g⟩:=OP ag c;exact NZ ag q l e r.length listed σ aj f g (by simpa using j) H
def Zx(c:fw P G C){K:ar->Prop}(d:∀σ τ,jB σ τ->K τ->K σ){k:ar->Option β}{b:β}(e:∀a,k a=some b->K a)(h:OE T G C all σ k=some b):dX P T G all all.toList K σ:=by
 have:=r6 (P:=P) c d (λg f o i=>x7 _ _ _ f o i) e h
 rwa [pb]at this
end
inductive l2 where
 |any
 |d
 |x9 (f:FuncId)
 |fd (f:FuncId) (m:Nat)
 |cH (off:Nat)
 |ptr (k:Key) (off:Nat)
 |row (k:Key)
 |map (k:Key)
 |sub (k:Key) (Zy:Nat)
inductive SW where
 |b (s:l2)
 |fn (f:Fn) (first cap:List l2)
 |agg (cs:List l2)
 |aC (cs:List l2)
inductive iH where
 |dead
 |box (cs:List SW)
 |row (k:Nat)
 |map
inductive qu where
 |slot (t K n:Nat)
 |box (k i K n:Nat)
 |all (t Zy:Nat)
structure jC where
 au:List (Nat×SW)
 objs:List (Key×iH)
 lh:List qu
def bG(ls:lZ)(n:Nat):D:=ls.getD n hB
def Iz:D->Nat
 | .val (.int _ n)=>n.toNat|_=>0
def qv(ls:lZ):l2->Nat->aB×Nat
 | .any,n=>(.any,n)| .d,n=>(.d (bG ls n),n+1)| .x9 f,n=>(.d (.val (.func (.func f) #[] #[])),n)| .fd f m,n=>(.d (.fn (.func f) [] ((List.range m).map λi=>bG ls (n+i))),n+m)| .cH off,n=>(.cH (dM (bG ls n)) off,n+1)| .ptr k off,n=>(.ptr k off,n)| .row k,n=>(.row k,n)| .map k,n=>(.map k,n)| .sub k a,n=>(.sub k a (Iz (bG ls n)) (Iz (bG ls (n+1))),n+2)
def kO(ls:lZ):List l2->Nat->List aB×Nat
 |[],n=>([],n)|s::r,n=>((qv ls s n).1::(kO ls r (qv ls s n).2).1,(kO ls r (qv ls s n).2).2)
def lj(ls:lZ):SW->Nat->aB×Nat
 | .b s,n=>qv ls s n| .fn f first cap,n=>(.fn f (kO ls first n).1 (kO ls cap (kO ls first n).2).1,(kO ls cap (kO ls first n).2).2)
 | .agg cs,n=>(.agg (kO ls cs n).1,(kO ls cs n).2)| .aC cs,n=>(.aC (kO ls cs n).1,(kO ls cs n).2)
def mK(ls:lZ):List SW->Nat->List aB×Nat
 |[],n=>([],n)|s::r,n=>((lj ls s n).1::(mK ls r (lj ls s n).2).1,(mK ls r (lj ls s n).2).2)
def r7(ls:lZ):iH->Nat->b5×Nat
 | .dead,n=>(.dead,n)| .box cs,n=>(.box (mK ls cs n).1,(mK ls cs n).2)| .row k,n=>(.row k (aE (bG ls n)),n+1)| .map,n=>(.map (dU (bG ls n)),n+1)
def qw(ls:lZ):List (Nat×SW)->Nat->List (Nat×aB)×Nat
 |[],n=>([],n)|(t,s)::r,n=>((t,(lj ls s n).1)::(qw ls r (lj ls s n).2).1,(qw ls r (lj ls s n).2).2)
def kP(ls:lZ):List (Key×iH)->Nat->List (Key×b5)×Nat
 |[],n=>([],n)|(t,s)::r,n=>((t,(r7 ls s n).1)::(kP ls r (r7 ls s n).2).1,(kP ls r (r7 ls s n).2).2)
def restore(a:jC)(ls:lZ):ar:=NU (qw ls a.au 0).1 (kP ls a.objs (qw ls a.au 0).2).1
def OR:aB->l2->List (Key×Key)
 | .ptr k _,.ptr a _=>[(a,k)]| .row k,.row a=>[(a,k)]| .map k,.map a=>[(a,k)]| .sub k _ _ _,.sub a _=>[(a,k)]|_,_=>[]
def ya:List aB->List l2->List (Key×Key)
 |x::xs,s::a=>OR x s++ya xs a|_,_=>[]
def OS:aB->SW->List (Key×Key)
 |x,.b s=>OR x s| .fn _ as da,.fn _ a ts=>ya as a++ya da ts| .agg cs,.agg a=>ya cs a| .aC cs,.aC a=>ya cs a|_,_=>[]
def CB:List aB->List SW->List (Key×Key)
 |x::xs,s::a=>OS x s++CB xs a|_,_=>[]
def OT(σ:ar):List (Nat×SW)->List (Key×Key)
 |[]=>[]|(t,s)::r=>OS (σ.au t) s++OT σ r
def uu(σ:ar):List (Key×iH)->List (Key×Key)->List (Key×Key)
 |[],a=>a|(k,.box b)::r,a=>match σ.objs (ee a k)with|some (.box c)=>uu σ r (a++CB c b)|_=>uu σ r a
 |_::r,a=>uu σ r a
def CC(h:List (Key×Key))(ks:List Key):aB->l2->oY
 |_,.any=>some []|x,.d=>(Cc x).map λa=>[a]| .d (.val (.func (.func f) a b)),.x9 j=>if f=j/\a.size=0/\b.size=0 then some []else none
 | .d (.fn (.func j) first g),.fd f m=>if j=f/\first.isEmpty=true/\g.length=m then some g else none
 | .cH cs off,.cH e=>if off=e then some [.agg cs]else none
 | .ptr k off,.ptr c e=>if k=ee h c/\off=e/\ks.contains c then some []else none
 | .row k,.row c=>if k=ee h c/\ks.contains c then some []else none
 | .map k,.map c=>if k=ee h c/\ks.contains c then some []else none
 | .sub k n i len,.sub c l=>if k=ee h c/\n=l/\ks.contains c then some [.val (.int .i64 (i:Nat)),.val (.int .i64 (len:Nat))]else none
 |_,_=>none
def pc(x y:oY):oY:=match x,y with|some a,some b=>some (a++b)|_,_=>none
def uv(a:List (Key×Key))(ks:List Key):List aB->List l2->oY
 |[],[]=>some []|x::xs,s::b=>pc (CC a ks x s) (uv a ks xs b)|_,_=>none
def CD(c:List (Key×Key))(ks:List Key):aB->SW->oY
 |x,.b s=>CC c ks x s| .fn (.func f) as da,.fn (.func d) a ts=>if f=d then pc (uv c ks as a) (uv c ks da ts)else none
 | .agg cs,.agg a=>uv c ks cs a| .aC cs,.aC a=>uv c ks cs a|_,_=>none
def CE(a:List (Key×Key))(ks:List Key):List aB->List SW->oY
 |[],[]=>some []|x::xs,s::b=>pc (CD a ks x s) (CE a ks xs b)|_,_=>none
def IA(c:List (Key×Key))(ks:List Key):Option b5->iH->oY
 |some _,.dead=>some []|some (.box xs),.box b=>CE c ks xs b|some (.row k es),.row a=>if k=a then some [.aw k es]else none
 |some (.map es),.map=>some [.mp es]|_,_=>none
def IB(a:List (Key×Key))(ks:List Key)(σ:ar):List (Nat×SW)->oY
 |[]=>some []|(t,s)::r=>pc (CD a ks (σ.au t) s) (IB a ks σ r)
def CF(a:List (Key×Key))(ks:List Key)(σ:ar):List (Key×iH)->oY
 |[]=>some []|(k,s)::r=>pc (IA a ks (σ.objs (ee a k)) s) (CF a ks σ r)
section
variable{β:Type}
def kQ:List qu->ar->(ar->Option β)->Option β
 |[],σ,k=>k σ
 | .slot t K n::r,σ,k=>match σ.au t,σ.objs K with
  | .d a,none=>if K<10000 then bJ (jv a) (kQ r ⟨bL σ.au t (.row K),bL σ.objs K (some (.row n []))⟩ k)else none
  |_,_=>kQ r σ k
 | .box b i K n::r,σ,k=>match σ.objs b with
  |some (.box c)=>match c[i]?,σ.objs K with
   |some (.d a),none=>if K<10000 then bJ (jv a) (kQ r ⟨σ.au,bL (bL σ.objs b (some (.box (c.set i (.row K))))) K (some (.row n []))⟩ k)else none
   |_,_=>kQ r σ k
  |_=>kQ r σ k
 | .all t b::r,σ,k=>match σ.au t with
  | .row K=>match σ.objs K with
   |some (.row n es)=>if n=b then kQ r ⟨bL σ.au t (.sub K n 0 es.length),σ.objs⟩ k else none
   |_=>kQ r σ k
  |_=>kQ r σ k
def uw:iH->Bool
 | .box _=>true| .row _=>true| .map=>true|_=>false
def OU(ib:List Key)(a:List (Key×Key))(objs:List (Key×iH)):Bool:=objs.all (λp=>decide (p.1<10000)||ib.contains p.1)&&ib.all (λk=>ee a k==k&&objs.any λp=>p.1==k&&uw p.2)&&decide ((objs.map (·.1)).Nodup)
def nX(ib:List Key)(a:jC)(σ:ar)(k:lZ->Option β):Option β:=kQ a.lh σ λσ=>
  let b:=uu σ a.objs (OT σ a.au)
  if rZ (ee b) (a.objs.map (·.1))&&OU ib b a.objs=true then
   match pc (IB b (a.objs.map (·.1)) σ a.au) (CF b (a.objs.map (·.1)) σ a.objs)with|some ls=>k ls|none=>none
  else none
end
def r8{x y:oY}{l:lZ}(h:pc x y=some l):∃a b,x=some a/\y=some b/\l=a++b:=by
 unfold pc at h;split at h;.cases h;exact⟨_,_,rfl,rfl,rfl⟩
 cases h
def At(ls:lZ)(n:Nat)(a:lZ):Prop:=∀j d,a[j]?=some d->ls[n+j]?=some d
def At.left{ls:lZ}{n:Nat}{a b:lZ}(h:At ls n (a++b)):At ls n a:=λj d c=>h j d (by rw[xap (lV.1 c).1];exact c)
def At.right{ls:lZ}{n:Nat}{a b:lZ}(h:At ls n (a++b)):At ls (n+a.length) b:=λj d c=>by
 have:=h (a.length+j) d (by rw[xas oZ];simpa using c)
 rwa [<-xbl]at this
def At.bG{ls:lZ}{n:Nat}{a:D}(h:At ls n [a]):bG ls n=a:=by have:=h 0 a rfl;simp only[xbw]at this;simp[Am.bG,xbe,this]
section
variable{gC:List (Key×Key)}{ks:List Key}{ls:lZ}{U:Key->Prop}
def OV(g:∀k,ks.contains k=true->U k){x:aB}{s:l2}{n:Nat}{a:lZ}(h:CC gC ks x s=some a)(f:At ls n a):lb (ee gC) U x (qv ls s n).1/\(qv ls s n).2=n+a.length:=by
 unfold CC at h;split at h;.cases h;exact⟨trivial,rfl⟩
 .obtain⟨d,p,rfl⟩:=xae.1 h;refine⟨⟨_,p,?_⟩,rfl⟩;rw[f.bG];exact D.le_refl _
 .split at h;.rename_i c;obtain⟨rfl,m,o⟩:=c;cases h;rw[xbp m,xbp o];exact⟨⟨_,rfl,D.le_refl _⟩,rfl⟩
  cases h
 .split at h
  .rename_i c;obtain⟨rfl,ab,rfl⟩:=c;cases h;refine⟨⟨_,rfl,?_⟩,rfl⟩;rw[List.isEmpty_iff.1 ab];have e:((List.range a.length).map λi=>bG ls (n+i))=a:=by
    apply xbG;intro i;rw[xah];by_cases ag:i<a.length;.rw[xbN ag,xaa ag];have:=f i a[i] (xaa ag);simp[Am.bG,xbe,this]
    rw[xaH uZ,xaH oZ];rfl
   skip
   rw[e];exact D.le_refl _
  cases h
 .split at h;.rename_i c;cases h;subst c;refine⟨.inl ?_,rfl⟩;rw[f.bG];rfl
  cases h
 .split at h;.rename_i c;cases h;exact⟨⟨by rw[c.1,c.2.1],g _ c.2.2⟩,rfl⟩
  cases h
 .split at h;.rename_i c;cases h;exact⟨⟨by rw[c.1],g _ c.2⟩,rfl⟩
  cases h
 .split at h;.rename_i c;cases h;exact⟨⟨by rw[c.1],g _ c.2⟩,rfl⟩
  cases h
 .split at h;.rename_i c;cases h;obtain⟨ab,ad,ai⟩:=c;have j:=f.left (a:=[_]) (b:=[_]);have l:At ls (n+1) [D.val (.int .i64 ((_:Nat):Int))]:=At.right (a:=[_]) (b:=[_]) f;simp only[qv];rw[j.bG,l.bG];exact⟨⟨by rw[ab,ad];simp[Iz],g _ ai⟩,rfl⟩
  cases h
 cases h
def yb(e:∀k,ks.contains k=true->U k):∀{d:List aB}{c:List l2}{n:Nat}{a:lZ},uv gC ks d c=some a->At ls n a->gS (ee gC) U d (kO ls c n).1/\(kO ls c n).2=n+a.length
 |[],[],n,a,h,b=>by cases h;exact⟨trivial,rfl⟩
 |x::d,s::c,n,a,h,b=>by obtain⟨aG,a2,ab,ad,rfl⟩:=r8 h;obtain⟨g1,g2⟩:=OV e ab b.left;have f:=b.right;rw[<-g2]at f;obtain⟨g3,g4⟩:=yb e ad f;refine⟨⟨g1,g3⟩,?_⟩;show(kO ls c (qv ls s n).2).2=_;rw[g4,g2,xaS];omega
 |[],_::_,n,a,h,_=>by cases h
 |_::_,[],n,a,h,_=>by cases h
def Zz{x y:aB}(h:lb (ee gC) U x y):o4 (ee gC) U x y:=by cases y<;>first|exact h|exact h.elim
def OW(c:∀k,ks.contains k=true->U k){x:aB}{s:SW}{n:Nat}{a:lZ}(h:CD gC ks x s=some a)(b:At ls n a):o4 (ee gC) U x (lj ls s n).1/\(lj ls s n).2=n+a.length:=by
 unfold CD at h;split at h;.obtain⟨g1,g2⟩:=OV c h b;exact⟨Zz g1,g2⟩
 .split at h;.rename_i e;subst e;obtain⟨aG,a2,ab,ad,rfl⟩:=r8 h;obtain⟨g1,g2⟩:=yb c ab b.left;have d:=b.right;rw[<-g2]at d;obtain⟨g3,g4⟩:=yb c ad d;refine⟨⟨rfl,g1,g3⟩,?_⟩;simp only[lj];rw[g4,g2,xaS];omega
  cases h
 .obtain⟨g1,g2⟩:=yb c h b;exact⟨g1,g2⟩
 .obtain⟨g1,g2⟩:=yb c h b;exact⟨g1,g2⟩
 cases h
def IC(e:∀k,ks.contains k=true->U k):∀{d:List aB}{c:List SW}{n:Nat}{a:lZ},CE gC ks d c=some a->At ls n a->nR (ee gC) U d (mK ls c n).1/\(mK ls c n).2=n+a.length
 |[],[],n,a,h,b=>by cases h;exact⟨trivial,rfl⟩
 |x::d,s::c,n,a,h,b=>by obtain⟨aG,a2,ab,ad,rfl⟩:=r8 h;obtain⟨g1,g2⟩:=OW e ab b.left;have f:=b.right;rw[<-g2]at f;obtain⟨g3,g4⟩:=IC e ad f;refine⟨⟨g1,g3⟩,?_⟩;show(mK ls c (lj ls s n).2).2=_;rw[g4,g2,xaS];omega
 |[],_::_,n,a,h,_=>by cases h
 |_::_,[],n,a,h,_=>by cases h
def ZA(c:∀k,ks.contains k=true->U k){x:Option b5}{s:iH}{n:Nat}{a:lZ}(h:IA gC ks x s=some a)(b:At ls n a):(∃o',x=some o'/\rX (ee gC) U o' (r7 ls s n).1)/\(r7 ls s n).2=n+a.length:=by
 unfold IA at h;split at h;.cases h;exact⟨⟨_,rfl,trivial⟩,rfl⟩
 .obtain⟨g1,g2⟩:=IC c h b;exact⟨⟨_,rfl,⟨_,rfl,g1⟩⟩,g2⟩
 .split at h;.rename_i d;cases h;subst d;refine⟨⟨_,rfl,⟨_,rfl,.inl ?_⟩⟩,rfl⟩;rw[b.bG];rfl
  cases h
 .cases h;refine⟨⟨_,rfl,?_⟩,rfl⟩;simp only[r7,rX];rw[b.bG];rfl
 cases h
def OX(c:∀k,ks.contains k=true->U k){σ:ar}:∀{l:List (Nat×SW)} {n:Nat} {a:lZ},IB gC ks σ l=some a->At ls n a->uf (ee gC) U σ (qw ls l n).1/\(qw ls l n).2=n+a.length
 |[],n,a,h,b=>by cases h;exact⟨trivial,rfl⟩
 |(t,s)::r,n,a,h,b=>by obtain⟨aG,a2,ab,ad,rfl⟩:=r8 h;obtain⟨g1,g2⟩:=OW c ab b.left;have d:=b.right;rw[<-g2]at d;obtain⟨g3,g4⟩:=OX c ad d;refine⟨⟨g1,g3⟩,?_⟩;simp only[qw];rw[g4,g2,xaS];omega
def ID(c:∀k,ks.contains k=true->U k){σ:ar}:∀{l:List (Key×iH)} {n:Nat} {a:lZ},CF gC ks σ l=some a->At ls n a->rY (ee gC) U σ (kP ls l n).1/\(kP ls l n).2=n+a.length
 |[],n,a,h,b=>by cases h;exact⟨trivial,rfl⟩
 |(t,s)::r,n,a,h,b=>by obtain⟨aG,a2,ab,ad,rfl⟩:=r8 h;obtain⟨g1,g2⟩:=ZA c ab b.left;have d:=b.right;rw[<-g2]at d;obtain⟨g3,g4⟩:=ID c ad d;refine⟨⟨g1,g3⟩,?_⟩;simp only[kP];rw[g4,g2,xaS];omega
end
def r9(ls:lZ):∀(l:List (Key×iH)) (n:Nat),je (kP ls l n).1=l.map (·.1)
 |[],n=>rfl|(k,s)::r,n=>by have:=r9 ls r (r7 ls s n).2;simp only[kP,je,xaw]at this⊢;rw[<-this]
def CG:∀{lo:List (Key×b5)} {k:Key},k∈je lo->∃o,dg lo k=some o
 |[],k,h=>by cases h
 |(j,x)::r,k,h=>by
  unfold dg;by_cases a:k=j;.exact⟨x,by rw[xac a]⟩
  rw[xab a];simp only[je,xaw,xao]at h;exact CG (h.resolve_left a)
def dR(ib:List Key)(σ:ar):Prop:=∀k,10000<=k->dp (σ.objs k)->k∈ib
def IE(ls:lZ):∀(l:List (Key×iH)) (n:Nat) (k:Key),(l.map (·.1)).Nodup->(∃s,(k,s)∈l/\uw s=true)->dp (dg (kP ls l n).1 k)
 |[],n,k,_,⟨_,h,_⟩=>by cases h
 |(j,s)::r,n,k,a,⟨c,h,aj⟩=>by
  simp only[kP,dg];simp only[xaw,List.nodup_cons]at a;rcases xao.1 h with ab|ab
  .cases ab;rw[xac rfl];cases s<;>first|cases aj|skip
   .exact oW
   .exact nP
   exact qg
  have b:k≠j:=by rintro rfl;exact a.1 (xaK.2 ⟨_,ab,rfl⟩)
  rw[xab b];exact IE ls r _ k a.2 ⟨c,ab,aj⟩
def nY{u:Type}{ib:List Key}:∀{l:List qu}{σ:ar}{k:ar->Option u}{b:u},dR ib σ->kQ l σ k=some b->∃τ,eZ σ τ/\dR ib τ/\k τ=some b
 |[],σ,k,b,c,h=>⟨σ,eZ.refl σ,c,h⟩
 | .slot t K n::r,σ,k,b,c,h=>by
  unfold kQ at h;split at h
  .rename_i a aj p;split at h
   case isFalse=>cases h
   rename_i g;obtain⟨ab,ad⟩:=hA h;have q:a= .val (.slice none 0 0):=by
    unfold jv at ab;split at ab;.rfl
    cases ab
   subst q;obtain⟨τ,g1,g2,g3⟩:=nY (ib:=ib) (by
    intro j f e;by_cases d:j=K;.exact absurd g (Nat.not_lt.2 (d▸f))
    simp only[b9 _ _ d]at e;exact c j f e) ad
   exact⟨τ,(YF t K n aj p).trans g1,g2,g3⟩
  exact nY c h
 | .box s i K n::r,σ,k,b,c,h=>by
  unfold kQ at h;split at h
  .rename_i x o;split at h
   .rename_i a ag p;split at h
    case isFalse=>cases h
    rename_i g;obtain⟨ab,ad⟩:=hA h;have q:a= .val (.slice none 0 0):=by
     unfold jv at ab;split at ab;.rfl
     cases ab
    subst q;obtain⟨τ,g1,g2,g3⟩:=nY (ib:=ib) (by
     intro j f e;by_cases d:j=K;.exact absurd g (Nat.not_lt.2 (d▸f))
     simp only[b9 _ _ d]at e;by_cases m:j=s;.subst m;exact c j f (by rw[o];exact oW)
     simp only[b9 _ _ m]at e;exact c j f e) ad
    exact⟨τ,(YG s i K n o ag p).trans g1,g2,g3⟩
   exact nY c h
  exact nY c h
 | .all t s::r,σ,k,b,c,h=>by
  unfold kQ at h;split at h
  .rename_i K aj;split at h
   .rename_i n es o;split at h
    case isFalse=>cases h
    rename_i w;subst w;obtain⟨τ,g1,g2,g3⟩:=nY (ib:=ib) (σ:=⟨bL σ.au t (.sub K n 0 es.length),σ.objs⟩) (λj f e=>c j f e) h;exact⟨τ,(YH t K n aj o).trans g1,g2,g3⟩
   exact nY c h
  exact nY c h
def CH{z:Type}{ib:List Key}{e:jC}{σ:ar}{k:lZ->Option z}{b:z}(E:dR ib σ)(h:nX ib e σ k=some b):∃ls,eZ σ (restore e ls)/\dR ib (restore e ls)/\k ls=some b:=by
 unfold nX at h;obtain⟨τ,g1,g2,g3⟩:=nY E h;simp only at g3;split at g3
 case isFalse=>cases g3
 rename_i x;simp only[OU,xam,xay,xbk,xaF,xbQ,xbz,List.contains_eq_mem]at x;obtain⟨q,⟨r,s⟩,t⟩:=x;split at g3
 case h_2=>cases g3
 rename_i ls u;obtain⟨aG,a2,A,B,rfl⟩:=r8 u;have g:At (aG++a2) 0 (aG++a2):=λj d F=>by rw[xav];exact F
 have w:∀k,(e.objs.map (·.1)).contains k=true->∃o,dg (kP (aG++a2) e.objs (qw (aG++a2) e.au 0).2).1 k=some o:=by intro k l;exact CG (by rw[r9];simpa using l)
 obtain⟨I,J⟩:=OX w A g.left;have y:=g.right;rw[<-J]at y;obtain⟨K,N⟩:=ID w B y;have i:eZ τ (restore e (aG++a2)):=by refine YB _ (by rw[r9];exact q) I K ?_;intro k l n;have G:=g2 k l n;obtain⟨C,p,c,a,m⟩:=s k G;refine⟨?_,C⟩;obtain⟨L,M⟩:=p;simp only at a m;subst a;exact IE _ _ _ _ t ⟨_,c,m⟩
 refine⟨_,g1.trans i,?_,g3⟩;intro k l n;obtain⟨o,H⟩:=tY n;have:=qo H;rw[r9]at this;obtain⟨p,c,a⟩:=xaK.1 this;rcases r p c with f|f
 .rw[a]at f;exact absurd f (Nat.not_lt.2 l)
 rw[a]at f;exact f
def CI(objs:bP)(cs:List aB):oY:=if cs.all nQ=true then fk (cs.map (toD objs))else none
def qx(objs:bP)(ks:List Key):aB->aB
 | .ptr k off=>if k∈ks then match objs k with
   |some (.box cs)=>match CI objs cs with|some a=> .cH a off|none=> .ptr k off
   |_=> .ptr k off
  else .ptr k off
 | .row k=>if k∈ks then match objs k with|some (.row n es)=> .d (.aw n es)|_=> .row k
  else .row k
 | .map k=>if k∈ks then match objs k with|some (.map es)=> .d (.mp es)|_=> .map k
  else .map k
 |x=>x
def CJ(objs:bP)(ks:List Key):aB->aB
 | .agg cs=>tQ (cs.map (qx objs ks))| .fn f first cap=> .fn f (first.map (qx objs ks)) (cap.map (qx objs ks))
 |x=>qx objs ks x
def yc(objs:bP)(ks:List Key):b5->b5
 | .box cs=> .box (cs.map (CJ objs ks))|o=>o
def IF(objs:bP)(k:Key):Bool:=match objs k with|some (.row _ _)=>decide (k<10000)|some (.map _)=>decide (k<10000)|some (.box cs)=>decide (k<10000)&&(CI objs cs).isSome|_=>false
def freeze(ks:List Key)(σ:ar):ar:=⟨λt=>CJ σ.objs ks (σ.au t),λk=>if k∈ks then some .dead else(σ.objs k).map (yc σ.objs ks)⟩
section
variable{m:Mem}{fr:dn}{ρ:cq}{σ:ar}{a:Act}{w:World}{ks:List Key}
def ZB(h:Den m fr ρ σ a w){key off:Nat}{cs:List aB}{g:lZ}(p:σ.objs key=some (.box cs))(d:CI σ.objs cs=some g)(z:key∈ks){U:Key->Prop}{v:Value}(A:bA m ρ σ.used (.ptr key off) v):bA (Den.part m ρ ks w) ρ U (.cH g off) v:=by
 have k:=Den.nO m ρ ks w;obtain⟨b,vs,s,n,t,o,u⟩:=h.objs _ _ p;have x:=h.BW p rfl z (by rw[n];rfl);unfold CI at d;split at d
 case isFalse=>cases d
 rename_i i;obtain⟨g1,g2⟩:=mD d;rw[xaU]at g1;cases A with
 |ptr _ _ b' hu q=>
  rw[n]at q;cases q;have:=bA.cH (m:=Den.part m ρ ks w) (ρ:=ρ) (U:=U) g off b 0 vs s (0,0) (by rw[x];exact t) (λj=>(vs[j]?).getD undef) ?_ ?_
  .simpa using this
  .intro j c f;have e:j<vs.size:=by rw[o,<-g1];exact(lV.1 f).1
   simp[xaj e]
  intro j c f;have e:j<vs.size:=by rw[o,<-g1];exact(lV.1 f).1
  have g3:=g2 j c f;rw[xah,xae]at g3;obtain⟨y,r,l⟩:=g3;have:=u j y vs[j] r (xaj e);simp only[xaj e,xbn];exact(HN (xay.1 i y (xad r)) l this).mono k
def OY(h:Den m fr ρ σ a w){x:aB}{v:Value}(c:bA m ρ σ.used x v):bA (Den.part m ρ ks w) ρ (freeze ks σ).used (qx σ.objs ks x) v:=by
 have b:=Den.nO m ρ ks w;have e:∀k,σ.used k->(freeze ks σ).used k/\ρ k=ρ k:=by
  rintro k ⟨o,j⟩;refine⟨?_,rfl⟩;unfold ar.used freeze;by_cases f:k∈ks;.exact⟨.dead,by simp[f]⟩
  exact⟨yc σ.objs ks o,by simp[f,j]⟩
 unfold qx;split
 .rename_i k off;split
  .rename_i g;split
   .rename_i cs f;split;.rename_i l i;exact ZB h f i g c
    exact c.mono b e
   exact c.mono b e
  exact c.mono b e
 .rename_i k;split
  .rename_i g;split;.rename_i n es f;cases c;exact .d _ _ (HI h f g)
   exact c.mono b e
  exact c.mono b e
 .rename_i k;split
  .rename_i g;split;.rename_i es f;cases c;exact .d _ _ (XF h f g)
   exact c.mono b e
  exact c.mono b e
 exact c.mono b e
def IG(h:Den m fr ρ σ a w){cs:List aB}{vs:Array Value}(ah:vs.size=cs.length)(a1:∀(i:Nat)(c:aB)(v:Value),cs[i]?=some c->vs[i]?=some v->bA m ρ σ.used c v):vs.size=(cs.map (qx σ.objs ks)).length/\∀(i:Nat)(c:aB)(v:Value),(cs.map (qx σ.objs ks))[i]?=some c->vs[i]?=some v->bA (Den.part m ρ ks w) ρ (freeze ks σ).used c v:=by refine⟨by simpa using ah,?_⟩;intro i c v b d;simp only[xah,xae]at b;obtain⟨y,e,rfl⟩:=b;exact OY h (a1 i y v e d)
def OZ(h:Den m fr ρ σ a w){x:aB}{v:Value}(d:bA m ρ σ.used x v):bA (Den.part m ρ ks w) ρ (freeze ks σ).used (CJ σ.objs ks x) v:=by
 unfold CJ;split
 .cases d with|agg _ vs ah a1=>
  obtain⟨ab,ad⟩:=IG (ks:=ks) h ah a1;exact BN (.agg _ _ ab ad)
 .cases d with|fn _ _ _ vs f ah c a1 b=>
  obtain⟨ab,ad⟩:=IG (ks:=ks) h ah a1;obtain⟨ai,e⟩:=IG (ks:=ks) h c b;exact .fn _ _ _ _ _ ab ai ad e
 exact OY h d
def ZC(ks:List Key)(L:ks.all (IF σ.objs)=true):eZ σ (freeze ks σ):=by
 intro m fr ρ a w h;have z:=Den.nO m ρ ks w;have G:∀k∈ks,(k<10000/\∃n es,σ.objs k=some (.row n es))\/(k<10000/\∃es,σ.objs k=some (.map es))\/(k<10000/\∃cs,σ.objs k=some (.box cs)):=by
  intro k d;have:=xay.1 L k d;unfold IF at this;split at this
  .rename_i n es e;exact .inl ⟨xbg this,n,es,e⟩
  .rename_i es e;exact .inr (.inl ⟨xbg this,es,e⟩)
  .rename_i cs e;simp only[xam,xaF]at this;exact .inr (.inr ⟨this.1,cs,e⟩)
  cases this
 have own:∀k∈ks,∃o,σ.objs k=some o/\o.owns=true:=by
  intro k d;rcases G k d with⟨_,n,es,e⟩|⟨_,es,e⟩|⟨_,cs,e⟩
  .exact⟨_,e,rfl⟩
  .exact⟨_,e,rfl⟩
  exact⟨_,e,rfl⟩
 have p:∀b,Den.part m ρ ks w b=m b\/∃k∈ks,blockOf (ρ k)=some b/\Den.part m ρ ks w b=w.heap[b]?:=by
  intro b;unfold Den.part;cases Q:m b with
  |some x=>exact .inl rfl
  |none=>
   simp only;by_cases g:∃k∈ks,blockOf (ρ k)=some b;.rw[xac g];obtain⟨k,ab,ad⟩:=g;exact .inr ⟨k,ab,ad,rfl⟩
   rw[xab g];exact .inl rfl
 have hg:∀k o,(freeze ks σ).objs k=some o->o.owns=true->k∉ks/\∃o0,σ.objs k=some o0/\o=yc σ.objs ks o0/\o0.owns=true:=by
  intro k o d q;unfold freeze at d;simp only at d;split at d;.cases d;cases q
  rename_i A;obtain⟨o0,ab,rfl⟩:=xae.1 d;refine⟨A,o0,ab,rfl,?_⟩;cases o0<;>first|rfl|exact q
 refine⟨Den.part m ρ ks w,ρ,z,⟨?_,h.frame,?_,?_,?_,?_,?_,?_⟩,?_⟩
 .intro b o f;rcases p b with e|⟨k,_,_,e⟩
  .rw[e]at f;exact h.mem b o f
  rw[e]at f;exact f
 .intro b f;rcases p b with e|⟨k,ab,ad,e⟩
  .rw[e]at f;exact h.apart b f
  obtain⟨o,ai,E⟩:=own k ab;exact(h.own k o b ai E ad).2
 .rintro k ⟨o,q⟩;unfold freeze at q;simp only at q;split at q;.rename_i d;obtain⟨o,ai,E⟩:=own k d;exact h.one k ⟨o,ai⟩
  obtain⟨o0,ab,rfl⟩:=xae.1 q;exact h.one k ⟨o0,ab⟩
 .intro t;exact OZ h (h.au t)
 .intro k o d;have F:=d;unfold freeze at d;simp only at d;split at d
  .cases d;trivial
  obtain⟨o0,ab,rfl⟩:=xae.1 d;have ad:=h.objs k o0 ab;cases o0 with
  |dead=>trivial|box cs=>obtain⟨b,vs,T,s,u,B,C⟩:=ad;refine⟨b,vs,T,s,u,by simpa using B,?_⟩;intro i c x g O;simp only[xah,xae]at g;obtain⟨y,bX,rfl⟩:=g;exact OZ h (C i y x bX O)
  |row n es=>
   rcases ad with⟨s,u⟩|⟨b,o,cap,vs,R,s,u,B,C,I,S⟩;.exact .inl ⟨s,u⟩
   exact .inr ⟨b,o,cap,vs,R,s,u,B,C,I,λi e j c ag Y=>by obtain⟨x,g1,g2⟩:=S i e j c ag Y;exact⟨x,g1,g2.mono z⟩⟩
  |map es=>obtain⟨r,D,clock,s,u,B,C,I⟩:=ad;exact⟨r,D,clock,s,u,B,C,λi e x X O=>(I i e x X O).mono z⟩
 .intro k o b d q f;obtain⟨A,o0,ab,rfl,ad⟩:=hg k o d q;have ai:=h.own k o0 b ab ad f;refine⟨?_,ai.2⟩;rcases p b with e|⟨H,E,U,e⟩
  .rw[e];exact ai.1
  obtain⟨o',V,W⟩:=own H E;exact absurd U (h.sep k H o0 o' b (by rintro rfl;exact A E) ab V ad W f)
 .intro k H o o' b M d F q N f;obtain⟨A,o0,ab,rfl,ad⟩:=hg k o d q;obtain⟨Z,P,J,rfl,K⟩:=hg H o' F N;exact h.sep k H o0 P b M ab J ad K f
 intro k d f;refine⟨?_,rfl⟩;have A:k∉ks:=by
  intro Q;rcases G k Q with⟨l,_⟩|⟨l,_⟩|⟨l,_⟩
  .exact absurd d (Nat.not_le.2 l)
  .exact absurd d (Nat.not_le.2 l)
  exact absurd d (Nat.not_le.2 l)
 show dp (if k∈ks then some .dead else(σ.objs k).map (yc σ.objs ks));rw[xab A];rcases f with⟨c,g⟩|⟨n,es,g⟩|⟨es,g⟩
 .rw[g];exact oW
 .rw[g];exact nP
 rw[g];exact qg
end
def sa{a:Type}:List (List Key)->ar->(ar->Option a)->Option a
 |[],σ,k=>k σ|ks::r,σ,k=>match ks with|[]=>sa r σ k|_=>if ks.all (IF σ.objs)=true then sa r (freeze ks σ) k else none
def ux{b:Type}(t:Tmp)(σ:ar)(k:ar->Option b):Option b:=match σ.au t with
 | .sub key a i len=>match σ.objs key,σ.objs t with
  |some (.row c es),none=>if a=c/\key<10000/\t<10000 then bJ (decide (i+len<=es.length)) (k ⟨bL σ.au t (.row t),bL (bL σ.objs key (some .dead)) t (some (.row a ((es.drop i).take len)))⟩)else none
  |_,_=>none
 |_=>none
def ZD{σ:ar}{t key q i len:Nat}{es:mW}(cy:σ.au t= .sub key q i len)(H:σ.objs key=some (.row q es))(ak:σ.objs t=none)(cA:i+len<=es.length)(R:key<10000):eZ σ ⟨bL σ.au t (.row t),bL (bL σ.objs key (some .dead)) t (some (.row q ((es.drop i).take len)))⟩:=by
 intro m fr ρ a w h;have S:key≠t:=by rintro rfl;rw[H]at ak;cases ak
 have C:((es.drop i).take len).length=len:=uZ
 have n:∀j o,(bL (bL σ.objs key (some .dead)) t (some (.row q ((es.drop i).take len)))) j=some o->(j=t/\o= .row q ((es.drop i).take len))\/(j=key/\o= .dead)\/(j≠t/\j≠key/\σ.objs j=some o):=by
  intro j o y;by_cases ab:j=t;.subst ab;rw[dv]at y;cases y;exact .inl ⟨rfl,rfl⟩
  rw[b9 _ _ ab]at y;by_cases ad:j=key;.subst ad;rw[dv]at y;cases y;exact .inr (.inl ⟨rfl,rfl⟩)
  rw[b9 _ _ ad]at y;exact .inr (.inr ⟨ab,ad,y⟩)
 let v:=a.tmps.getD t undef
 have T:=h.au t;rw[cy]at T;have N:∀k,σ.used k->ar.used ⟨bL σ.au t (.row t),bL (bL σ.objs key (some .dead)) t (some (.row q ((es.drop i).take len)))⟩ k/\bL ρ t v k=ρ k:=by
  rintro k ⟨o,r⟩;have l:k≠t:=by rintro rfl;rw[r]at ak;cases ak
  refine⟨?_,b9 _ _ l⟩;by_cases ad:k=key;.subst ad;exact⟨.dead,by simp only[b9 _ _ l,dv]⟩
  exact⟨o,by simp only[b9 _ _ l,b9 _ _ ad];exact r⟩
 have piece:hx v=true/\(blockOf v=none\/blockOf v=blockOf (ρ key))/\gG m (bL ρ t v) (ar.used ⟨bL σ.au t (.row t),bL (bL σ.objs key (some .dead)) t (some (.row q ((es.drop i).take len)))⟩) v w (.row q ((es.drop i).take len)):=by
  have M:=h.objs key _ H;generalize V:a.tmps.getD t undef=u at T;have U:v=u:=V;rw[U];cases T with
  |hf _ _ _ hu O=>exact⟨rfl,.inl rfl,.inl ⟨rfl,by simp⟩⟩
  |sub _ _ _ _ b o L cap bX hu O Y Q=>
   refine⟨rfl,.inr (by rw[O];rfl),?_⟩;rcases M with⟨J,X⟩|⟨b',o',W,vs,Z,J,X,cK,b4,b3,b1⟩
   .rw[O]at J;cases J
   rw[O]at J;cases J;refine .inr ⟨b,bX,cap-i,vs,Z,by rw[C],X,by rw[C];omega,?_,?_,?_⟩
   .by_cases G:i<cap
    .rw[Q.1 G,xbl,<-xaZ];have:i+(cap-i)=cap:=oZ
     rw[this];exact b4
    have:cap-i=0:=oZ
    rw[this,Nat.zero_mul];have:=Q.2;omega
   .intro e ck;exact b3 e (xbq (xbr ck))
   intro p e j c I y;rw[xaQ]at I;split at I
   case isFalse=>cases I
   rename_i cC;rw[xaX]at I;obtain⟨x,g1,g2⟩:=b1 (i+p) e j c I y;have G:i<cap:=by have:=(lV.1 I).1;omega
   refine⟨x,?_,g2⟩;rw[Q.1 G];have:o+i*q+p*q+j=o+(i+p)*q+j:=by rw[xaZ];omega
   rw[this];exact g1
 obtain⟨cT,g,dc⟩:=piece;refine⟨m,bL ρ t v,Mem.le_refl m,⟨h.mem,h.frame,h.apart,?_,?_,?_,?_,?_⟩,?_⟩
 .rintro k ⟨o,r⟩;rcases n k o r with⟨rfl,_⟩|⟨rfl,_⟩|⟨ab,ad,ai⟩;.rw[dv];exact cT
  .rw[b9 _ _ S];exact h.one _ ⟨_,H⟩
  rw[b9 _ _ ab];exact h.one _ ⟨_,ai⟩
 .intro s;by_cases aj:s=t;.subst aj;simp only[dv];have:bA m (bL ρ s v) (ar.used ⟨bL σ.au s (.row s),bL (bL σ.objs key (some .dead)) s (some (.row q ((es.drop i).take len)))⟩) (.row s) (bL ρ s v s):= .row s ⟨_,dv _ _ _⟩;rw[dv]at this;exact this
  simp only[b9 _ _ aj];exact(h.au s).mono (Mem.le_refl m) N
 .intro k o f;rcases n k o f with⟨rfl,rfl⟩|⟨rfl,rfl⟩|⟨ab,ad,ai⟩
  .rw[dv];exact dc
  .trivial
  rw[b9 _ _ ab];exact(h.objs k o ai).mono (Mem.le_refl m) N (λb _ _=>rfl)
 .intro k o b f r d;rcases n k o f with⟨rfl,rfl⟩|⟨rfl,rfl⟩|⟨ab,ad,ai⟩
  .rw[dv]at d;rcases g with g|g
   .rw[g]at d;cases d
   exact h.own key _ b H rfl (by rw[<-g];exact d)
  .cases r
  rw[b9 _ _ ab]at d;exact h.own k o b ai r d
 .intro k P o o' b z f B r A d;rcases n k o f with⟨rfl,rfl⟩|⟨rfl,rfl⟩|⟨ab,ad,ai⟩
  .rcases n P o' B with⟨rfl,rfl⟩|⟨rfl,rfl⟩|⟨E,K,F⟩;.exact absurd rfl z
   .cases A
   rw[dv]at d;rw[b9 _ _ E];rcases g with g|g
   .rw[g]at d;cases d
   exact h.sep key P _ o' b (xbZ K) H F rfl A (by rw[<-g];exact d)
  .cases r
  rw[b9 _ _ ab]at d;rcases n P o' B with⟨rfl,rfl⟩|⟨rfl,rfl⟩|⟨E,K,F⟩
  .rw[dv];rcases g with g|g
   .rw[g];exact λa1=>by cases a1
   rw[g];exact h.sep k key o _ b ad ai H r rfl d
  .cases A
  rw[b9 _ _ E];exact h.sep k P o o' b z ai F r A d
 intro k f d;have l:k≠t:=by rintro rfl;rw[ak]at d;exact o1 d
 have z:k≠key:=by rintro rfl;exact absurd R (Nat.not_lt.2 f)
 exact⟨by simp only[b9 _ _ l,b9 _ _ z];exact d,b9 _ _ l⟩
def qy(φ:Key->Key):aB->aB
 | .any=> .any| .d x=> .d x| .cH cs off=> .cH cs off| .ptr k off=> .ptr (φ k) off| .eB k a i off=> .eB (φ k) a i off| .row k=> .row (φ k)| .sub k a i len=> .sub (φ k) a i len| .map k=> .map (φ k)|_=> .any
def yd(φ:Key->Key):aB->aB
 | .agg cs=> .agg (cs.map (qy φ))| .aC cs=> .aC (cs.map (qy φ))| .fn f as da=> .fn f (as.map (qy φ)) (da.map (qy φ))|x=>qy φ x
def pd(φ:Key->Key):b5->b5
 | .box cs=> .box (cs.map (yd φ))|o=>o
section
variable{m:Mem}{ρ l3:cq}{U qz:Key->Prop}{φ:Key->Key}
def O0(h:∀k,U k->qz (φ k)/\l3 (φ k)=ρ k){x:aB}{v:Value}(f:bA m ρ U x v):bA m l3 qz (qy φ x) v:=by cases f with|any v=>exact .any _|d x v f=>exact .d _ _ f|agg=>exact .any _|aC=>exact .any _|cH cs off b o vs T j n p ab ad=>exact .cH _ _ b o vs T j n p ab ad|ptr k off b hu c=>exact .ptr _ _ b (h k hu).1 ((h k hu).2.trans c)|eB k g i off b o len cap hu c=>exact .eB _ _ _ _ b o len cap (h k hu).1 ((h k hu).2.trans c)|row k hu=>rw[<-(h k hu).2];exact .row _ (h k hu).1|sub k g i len b o L cap a hu c e l=>exact .sub _ _ _ _ b o L cap a (h k hu).1 ((h k hu).2.trans c) e l|hf k g i hu c=>exact .hf _ _ _ (h k hu).1 ((h k hu).2.trans c)|map k hu=>rw[<-(h k hu).2];exact .map _ (h k hu).1|fn=>exact .any _
def CK(h:∀k,U k->qz (φ k)/\l3 (φ k)=ρ k){cs:List aB}{vs:Array Value}(ah:vs.size=cs.length)(a1:∀(i:Nat)(c:aB)(v:Value),cs[i]?=some c->vs[i]?=some v->bA m ρ U c v):vs.size=(cs.map (qy φ)).length/\∀(i:Nat)(c:aB)(v:Value),(cs.map (qy φ))[i]?=some c->vs[i]?=some v->bA m l3 qz c v:=by refine⟨by simpa using ah,?_⟩;intro i c v a b;simp only[xah,xae]at a;obtain⟨y,d,rfl⟩:=a;exact O0 h (a1 i y v d b)
def O1(h:∀k,U k->qz (φ k)/\l3 (φ k)=ρ k){x:aB}{v:Value}(a:bA m ρ U x v):bA m l3 qz (yd φ x) v:=by
 unfold yd;split
 .cases a with|agg _ vs ah a1=>
  obtain⟨ab,ad⟩:=CK h ah a1;exact .agg _ _ ab ad
 .cases a with|aC _ vs ah a1=>
  obtain⟨ab,ad⟩:=CK h ah a1;exact .aC _ _ ab ad
 .cases a with|fn _ _ _ vs e ah c a1 b=>
  obtain⟨ab,ad⟩:=CK h ah a1;obtain⟨ai,d⟩:=CK h c b;exact .fn _ _ _ _ _ ab ai ad d
 exact O0 h a
def ZE(h:∀k,U k->qz (φ k)/\l3 (φ k)=ρ k){o:b5}{v:Value}{w:World}(a:gG m ρ U v w o):gG m l3 qz v w (pd φ o):=by
 cases o with
 |dead=>trivial|box cs=>obtain⟨b,vs,T,e,f,g,j⟩:=a;refine⟨b,vs,T,e,f,by simpa using g,?_⟩;intro i c x d l;simp only[xah,xae]at d;obtain⟨y,n,rfl⟩:=d;exact O1 h (j i y x n l)
 |row=>exact a|map=>exact a
theorem ZF{o:b5}:(pd φ o).owns=o.owns:=by cases o<;>rfl
end
def ZG:Act:={tmps:= #[],defers:=[]}
def pe(m:Mem)(fr:dn)(ρ:cq)(E:bP)(w:World):Prop:=Den m fr ρ ⟨λ_=> .any,E⟩ ZG w
def mL(E:bP)(k:Key):Prop:=∃o,E k=some o
structure eN where
 f:FuncId
 args:List SW
 ins:List (Key×iH)
 res:SW
 outs:List (Key×iH)
def eN.qA(s:eN)(ls:lZ):List aB:=(mK ls s.args 0).1
def eN.kj(s:eN)(ls:lZ):List (Key×b5):=(kP ls s.ins (mK ls s.args 0).2).1
def eN.CL(s:eN)(ls:lZ):aB:=(lj ls s.res 0).1
def eN.lk(s:eN)(ls:lZ):List (Key×b5):=(kP ls s.outs (lj ls s.res 0).2).1
structure qB(P:Program)(G:cj)(s:eN)(F:lZ->oY):Prop where
 fn:qf P s.f
 run:∀ls CM,F ls=some CM->∀(m:Mem)(fr:dn)(ρ:cq)(w:World)(vs:List Value),gm G m->pe m fr ρ (dg (s.kj ls)) w->vs.length=(s.qA ls).length->(∀(i:Nat)(x:aB)(v:Value),(s.qA ls)[i]?=some x->vs[i]?=some v->bA m ρ (mL (dg (s.kj ls))) x v)->Calls P s.f vs.toArray w λe w'=>∃v rT l3,e= .returned v/\m.le rT/\pe rT fr l3 (dg (s.lk CM)) w'/\bA rT l3 (mL (dg (s.lk CM))) (s.CL CM) v/\ ∀k,10000<=k->dp (dg (s.kj ls) k)->l3 k=ρ k
def mM(a:List (Key×Key))(base:Nat)(k:Key):Key:=if 10000<=k then ee a k else base+(k-9000)
def qC(objs:bP)(dead:List Key)(outs:List (Key×b5)):bP:=λp=>match dg outs p with|some o=>some o|none=>if p∈dead then some .dead else objs p
def ZH:iH->Bool
 | .row _=>true| .map=>true|_=>false
def O2(objs:bP)(a:List (Key×Key))(base:Nat)(s:eN):Bool:=rZ (ee a) (s.ins.map (·.1))&&rZ (mM a base) (s.outs.map (·.1))&&decide ((s.ins.map (·.1)).Nodup)&&decide ((s.outs.map (·.1)).Nodup)&&s.outs.all (λp=>if 10000<=p.1 then s.ins.any (λq=>q.1==p.1&&uw q.2)else decide (9000<=p.1)&&decide (mM a base p.1<10000)&&(objs (mM a base p.1)).isNone)&&s.ins.all (λq=>if 10000<=q.1 then uw q.2&&s.outs.any (λp=>p.1==q.1&&uw p.2)else ZH q.2&&decide (ee a q.1<10000))
section
variable{β:Type}
def IH(G:cj)(s:eN)(F:lZ->oY)(base:Nat)(σ:ar)(o:Oper)(x:Operand)(args:List Operand)(k:ar->Option β):Option β:=match qi (bD G σ.au x)with
 |some (f,pre,post)=>
  if f=s.f then
   let b:=pre++args.map (bD G σ.au)++post
   let a:=uu σ s.ins (CB b s.args)
   let ks:=s.ins.map (·.1)
   if O2 σ.objs a base s=true then
    match pc (CE a ks b s.args) (CF a ks σ s.ins)with|some ls=>af (F ls) λc=>k (ar.put ⟨σ.au,qC σ.objs (ks.map (ee a)) ((s.lk c).map λp=>(mM a base p.1,pd (mM a base) p.2))⟩ o.dst (yd (mM a base) (s.CL c)))|none=>none
   else none
  else none
 |none=>none
end
section
variable{P:Program}{T:bC}{G:cj}{m:Mem}{fr:dn}{ρ:cq}{σ:ar}{a:Act}{w:World}{N:Nat}
def ZI(K:gm G m)(h:Den m fr ρ σ a w){o:Oper}{x:Operand}{args:Array Operand}{E:Array TypeId}(C:o.op= .call ⟨.value x,args,E⟩){f:FuncId}{pre post:List aB}(b:qi (bD G σ.au x)=some (f,pre,post))(L:qf P f): ∃vs:List Value,vs.length=(pre++args.toList.map (bD G σ.au)++post).length/\(∀(i:Nat)(c:aB)(v:Value),(pre++args.toList.map (bD G σ.au)++post)[i]?=some c->vs[i]?=some v->bA m ρ σ.used c v)/\(execOp a.eval o).run P w= .ok (.enter f vs.toArray) w:=by
 have t:=xL (a:=a) K h.au;have l:=t x;have k:∃first cap,a.eval x= .func (.func f) first cap/\first.size=pre.length/\cap.size=post.length/\(∀(i:Nat)(c:aB)(v:Value),pre[i]?=some c->first[i]?=some v->bA m ρ σ.used c v)/\(∀(i:Nat)(c:aB)(v:Value),post[i]?=some c->cap[i]?=some v->bA m ρ σ.used c v):=by
  unfold qi at b;split at b
  .rename_i H first cap s
   split at b
   case isFalse=>cases b
   rename_i ak;cases b;rw[s]at l;exact⟨first,cap,l.ft,by simpa using ak.1,by simpa using ak.2,by intro i c v e;simp at e,by intro i c v e;simp at e⟩
  .rename_i H first cap s
   cases b;rw[s]at l;generalize a.eval x=u at l;cases l with|fn _ _ _ vs F ah n g z=>exact⟨vs,F,rfl,ah,n,g,z⟩
  .rename_i H first cap s
   cases b;rw[s]at l;have l:=l.kH;generalize a.eval x=u at l;cases l with|fn _ _ _ vs F ah n g z=>
   refine⟨vs,F,rfl,by simpa using ah,by simpa using n,?_,?_⟩;.intro i c v e j;simp only[xah,xae]at e;obtain⟨y,D,rfl⟩:=e;exact .d _ _ (g i y v D j)
   intro i c v e j;simp only[xah,xae]at e;obtain⟨y,D,rfl⟩:=e;exact .d _ _ (z i y v D j)
  .cases b
 obtain⟨first,cap,A,r,B,g1,g2⟩:=k;refine⟨(first++args.map a.eval++cap).toList,by simp[r,B],?_,?_⟩
 .intro i c v e j;simp only[Array.toList_append,Array.toList_map]at j;have J:first.toList.length=pre.length:=by simpa using r
  by_cases ab:i<pre.length;.rw[xaL,xap ab]at e;rw[xaL,xap oZ]at j;exact g1 i c v e (by simpa using j)
  by_cases ad:i<pre.length+args.size;.rw[xap uZ,xas oZ]at e;rw[xap uZ,xas oZ,J]at j;simp only[xah,xae]at e j;obtain⟨p,M,rfl⟩:=e;obtain⟨q,I,rfl⟩:=j;rw[M]at I;cases I;exact t _
  rw[xas uZ]at e;rw[xas uZ]at j;refine g2 _ c v e ?_;rw[<-j];simp only[xaS,xaU,xbX,r];simp
 unfold execOp;rw[C];simp only[Array.toArray_toList];exact Nz A L
def O3{φ:Key->Key}:∀{lo:List (Key×b5)} {p:Key} {o:b5},dg (lo.map λq=>(φ q.1,pd φ q.2)) p=some o->∃k o0,k∈je lo/\φ k=p/\o=pd φ o0/\((je lo).Nodup->dg lo k=some o0)
 |[],p,o,h=>by cases h
 |(j,x)::r,p,o,h=>by
  simp only[xaw,dg]at h;split at h;.rename_i e;cases h;exact⟨j,x,by simp[je],e.symm,rfl,λ_=>by simp[dg]⟩
  obtain⟨k,o0,ab,ad,ai,d⟩:=O3 h;refine⟨k,o0,?_,ad,ai,?_⟩;.simp only[je,xaw,xao]at ab⊢;exact .inr ab
  intro b;simp only[je,xaw,List.nodup_cons]at b ab;have c:k≠j:=by rintro rfl;exact b.1 ab
  simp only[dg,xab c];exact d b.2
def II{φ:Key->Key}:∀{lo:List (Key×b5)} {k:Key},k∈je lo->∃o,dg (lo.map λq=>(φ q.1,pd φ q.2)) (φ k)=some o
 |[],k,h=>by cases h
 |(j,x)::r,k,h=>by
  simp only[xaw,dg];split;.exact⟨_,rfl⟩
  rename_i b;simp only[je,xaw,xao]at h;rcases h with rfl|h
  .exact absurd rfl b
  exact II h
def O4{ls:lZ}{l:List (Key×iH)}{n:Nat}{k:Key}(e:(l.map (·.1)).Nodup){q:Key×iH}(f:q∈l)(d:q.1=k)(c:uw q.2=true):dp (dg (kP ls l n).1 k):=by obtain⟨a,b⟩:=q;simp only at d c;subst d;exact IE ls l n _ e ⟨_,f,c⟩
def ZJ{φ:Key->Key}{U:Key->Prop}{o o':b5}(h:rX φ U o' o)(b:dp (some o)):dp (some o'):=by
 cases o with
 |dead=>exact absurd b xR|box=>obtain⟨c,rfl,_⟩:=h;exact oW
 |row=>obtain⟨es,rfl,_⟩:=h;exact nP
 |map=>cases o'<;>first|exact qg|exact h.elim|cases h
def ZK(O5:gm G m)(h:Den m fr ρ σ a w)(O6:N<=a.tmps.size)(ZL:a.defers=[]){o:Oper}(Hz:∀d,o.dst=some d->d<N){s:eN}{F:lZ->oY}(HD:qB P G s F){base:Nat} {x:Operand} {args:Array Operand} {ZM:Array TypeId} (IJ:o.op= .call ⟨.value x,args,ZM⟩) {O7:Type} {k:ar->Option O7} {b:O7} (cK:IH G s F base σ o x args.toList k=some b) {Q:Exit->Act->World->Prop}:o.wp P a w (gB N m fr ρ σ (λO8=>k O8=some b/\∀p,10000<=p->dp (O8.objs p)->dp (σ.objs p))) Q:=by
 have ZN:∀d,o.dst=some d->d<a.tmps.size:=λd ZO=>xch (Hz d ZO) O6;have ZP:∀v,N<=(a.put o.dst v).tmps.size:=by intro v;cases o.dst<;>simpa[Act.put]using O6
 have ZQ:∀v,(a.put o.dst v).defers=[]:=by intro v;cases o.dst<;>exact ZL
 unfold IH at cK;split at cK
 case h_2=>cases cK
 rename_i f pre post HC;split at cK
 case isFalse=>cases cK
 rename_i ek;subst ek;simp only at cK;generalize anG:uu σ s.ins (CB (pre++args.toList.map (bD G σ.au)++post) s.args)=b1 at cK;generalize ZR:pre++args.toList.map (bD G σ.au)++post=anH at cK;split at cK
 case isFalse=>cases cK
 rename_i iu;split at cK
 case h_2=>cases cK
 rename_i ls ZS;obtain⟨L,ZT,b3⟩:=cR cK;simp only[O2,xam,xay,xaF]at iu;obtain⟨⟨⟨⟨⟨c1,c2⟩,b6⟩,e2⟩,jh⟩,ji⟩:=iu;obtain⟨aG,a2,IK,IL,rfl⟩:=r8 ZS;have BU:At (aG++a2) 0 (aG++a2):=λj d ZU=>by rw[xav];exact ZU
 have cA:je (s.kj (aG++a2))=s.ins.map (·.1):=r9 _ _ _;have X:je (s.lk L)=s.outs.map (·.1):=r9 _ _ _;have O9:∀k,(s.ins.map (·.1)).contains k=true->mL (dg (s.kj (aG++a2))) k:=by intro k b3;exact CG (by rw[cA];simpa using b3)
 obtain⟨ZV,ZW⟩:=IC O9 IK BU.left;have Pa:=BU.right;rw[<-ZW]at Pa;obtain⟨fE,anI⟩:=ID O9 IL Pa;have fE:rY (ee b1) (mL (dg (s.kj (aG++a2)))) σ (s.kj (aG++a2)):=fE;have HE:∀k j,k∈s.ins.map (·.1)->j∈s.ins.map (·.1)->ee b1 k=ee b1 j->k=j:=Cf c1;have eL:∀k j,k∈s.outs.map (·.1)->j∈s.outs.map (·.1)->mM b1 base k=mM b1 base j->k=j:=Cf c2;have cT:∀{o o':b5},rX (ee b1) (mL (dg (s.kj (aG++a2)))) o' o->o.owns=true->o'.owns=true:=by
  intro o o' Z IJ;cases o with
  |dead=>cases IJ
  |box=>obtain⟨ZX,rfl,_⟩:=Z;rfl
  |row=>obtain⟨es,rfl,_⟩:=Z;rfl
  |map=>cases Z;rfl
 have nN:∀{k o},dg (s.kj (aG++a2)) k=some o->k∈s.ins.map (·.1):=λb3=>by rw[<-cA];exact qo b3
 have ZY:∀{k o},dg (s.lk L) k=some o->k∈s.outs.map (·.1):=λb3=>by rw[<-X];exact qo b3
 let passed:Key->Prop:=λp=>∃k,k∈s.ins.map (·.1)/\ee b1 k=p
 let eX:Mem:=λb=>match fr b with|some o=>some o|none=>open Classical in if∃k o,σ.objs k=some o/\o.owns=true/\¬passed k/\blockOf (ρ k)=some b then w.heap[b]? else none
 let U:dn:=⟨eX,fr.os,fr.out,fr.low⟩
 have I:∀b o,fr b=some o->U b=some o:=by intro b o g;simp only[U,eX,g]
 have C:∀b k o,σ.objs k=some o->o.owns=true->¬passed k->blockOf (ρ k)=some b->U b=w.heap[b]?:=by intro b k o ab ad ai r;have H:=(h.own k o b ab ad r).2;simp only[U,eX,H];rw[xac ⟨k,o,ab,ad,ai,r⟩]
 have J:∀b,U b≠none->fr b≠none\/∃k o,σ.objs k=some o/\o.owns=true/\¬passed k/\blockOf (ρ k)=some b:=by intro b g;cases ek:fr b with|some o=>exact .inl sZ|none=>refine .inr ?_;refine xbi λK=>g ?_;simp only[U,eX,ek];rw[xab K]
 have HF:pe m U (λk=>ρ (ee b1 k)) (dg (s.kj (aG++a2))) w:=by
  refine⟨h.mem,⟨?_,⟨h.frame.quiet.os,h.frame.quiet.out,h.frame.quiet.low⟩⟩,?_,?_,λ_=> .any _,?_,?_,?_⟩
  .intro b o g;cases ek:fr b with
   |some o'=>rw[I b o' ek]at g;cases g;exact h.frame.iq b _ ek
   |none=>
    simp only[U,eX,ek]at g;split at g;.exact g
    cases g
  .intro b g;refine xbi λK=>?_;rcases J b K with ab|⟨k,o,ab,ad,ai,r⟩
   .exact ab (h.apart b g)
   exact g (h.own k o b ab ad r).1
  .rintro k ⟨o,Y⟩;obtain⟨o',ab,_⟩:=fE.ok k o Y;exact h.one _ ⟨o',ab⟩
  .intro k o Y;obtain⟨o',ab,ad⟩:=fE.ok k o Y;have ai:=h.objs _ _ ab;cases o with
   |dead=>trivial|box anJ=>obtain⟨ZX,rfl,Z⟩:=ad;obtain⟨b,vs,T,IK,IL,ZZ,Z0⟩:=ai;have:=nR.cells Z ⟨ZZ,Z0⟩;exact⟨b,vs,T,IK,IL,this.1,this.2⟩
   |row anK anL=>obtain⟨es,rfl,Z⟩:=ad;exact Z.ok ai
   |map es=>cases ad;exact ai
  .intro k o b Y fe g;obtain⟨o',ab,ad⟩:=fE.ok k o Y;have ai:=h.own _ o' b ab (cT ad fe) g;refine⟨ai.1,?_⟩;refine xbi λK=>?_;rcases J b K with r|⟨cy,anM,r,H,bX,nM⟩
   .exact r ai.2
   have dT:ee b1 k≠cy:=by rintro rfl;exact bX ⟨k,nN Y,rfl⟩
   exact h.sep _ _ _ _ b dT ab r (cT ad fe) H g nM
  intro k cy o o' b dT Y jY rQ rP g;obtain⟨y,ab,ad⟩:=fE.ok k o Y;obtain⟨Z1,V,dc⟩:=fE.ok cy o' jY;exact h.sep (ee b1 k) (ee b1 cy) y Z1 b (λe=>dT (HE k cy (nN Y) (nN jY) e)) ab V (cT ad rQ) (cT dc rP) g
 obtain⟨vs,Pb,v2,v3⟩:=ZI (P:=P) O5 h IJ HC HD.fn;rw[ZR]at Pb v2;obtain⟨Z2,Z3⟩:=ZV.ok;have lR:=HD.run _ _ ZT m U _ w vs O5 HF (Pb.trans Z2.symm) (by intro i y v Z4 Z5;obtain⟨Z6,Z7,Z⟩:=Z3 i y Z4;exact Z.ok (v2 i Z6 v Z7 Z5))
 unfold Oper.wp;rw[v3];refine lR.mono λe w' Z8=>?_;obtain⟨v,IM,hz,rfl,lS,E,Z9,lQ⟩:=Z8;generalize Pc:mM b1 base=φ at*
 let l:=(s.lk L).map λp=>(φ p.1,pd φ p.2)
 let objs':=qC σ.objs ((s.ins.map (·.1)).map (ee b1)) l
 let M:cq:=λp=>match(s.outs.map (·.1)).find? (λk=>φ k==p)with|some k=>hz k|none=>ρ p
 have O:∀k,k∈s.outs.map (·.1)->M (φ k)=hz k:=by intro k b3;simp only[M];cases dE:(s.outs.map (·.1)).find? (λcy=>φ cy==φ k)with|none=>exact absurd (List.find?_eq_none.1 dE k b3) sZ|some cy=>have ab:=List.find?_some dE;simp only[xbQ]at ab;rw[eL cy k (List.mem_of_find?_eq_some dE) b3 ab]
 have fu:∀k,k∈s.outs.map (·.1)->(10000<=k/\k∈s.ins.map (·.1)/\φ k=ee b1 k/\dp (dg (s.kj (aG++a2)) k))\/(σ.objs (φ k)=none/\φ k<10000):=by
  intro k b3;obtain⟨p,z,rfl⟩:=xaK.1 b3;have ab:=jh p z;by_cases gH:10000<=p.1
  .rw[xac gH]at ab;obtain⟨q,CN,ad⟩:=xbz.1 ab;simp only[xam,xbQ]at ad;refine .inl ⟨gH,xaK.2 ⟨q,CN,ad.1⟩,?_,O4 b6 CN ad.1 ad.2⟩;rw[<-Pc];simp only[mM,xac gH]
  rw[xab gH]at ab;simp only[xam,xaF,Option.isNone_iff_eq_none]at ab;exact .inr ⟨ab.2,ab.1.2⟩
 have A:∀p,σ.used p->M p=ρ p:=by
  rintro p ⟨op,z⟩;simp only[M];cases dE:(s.outs.map (·.1)).find? (λcy=>φ cy==p)with
  |none=>rfl
  |some k=>
   have ab:=List.find?_some dE;simp only[xbQ]at ab;rcases fu k (List.mem_of_find?_eq_some dE)with⟨ad,ai,r,H⟩|⟨ad,_⟩
   .simp only;rw[lQ k ad H,<-r,ab]
   rw[ab,z]at ad;cases ad
 have c:∀p op,dg l p=some op->∃k o0,k∈s.outs.map (·.1)/\φ k=p/\op=pd φ o0/\dg (s.lk L) k=some o0:=by intro p op z;obtain⟨k,o0,ab,ad,ai,r⟩:=O3 z;rw[X]at ab r;exact⟨k,o0,ab,ad,ai,r e2⟩
 have S:∀k,mL (dg (s.lk L)) k->mL objs' (φ k)/\M (φ k)=hz k:=by rintro k ⟨o0,ab⟩;refine⟨?_,O k (ZY ab)⟩;obtain⟨dD,ad⟩:=II (φ:=φ) (qo ab);exact⟨dD,by simp only[objs',qC,l,ad]⟩
 have R:∀p,σ.used p->mL objs' p/\M p=ρ p:=by
  rintro p ⟨op,z⟩;refine⟨?_,A p ⟨op,z⟩⟩;unfold mL;simp only[objs',qC];cases ah:dg l p with
  |some dD=>exact⟨dD,rfl⟩
  |none=>
   simp only;split;.exact⟨_,rfl⟩
   exact⟨op,z⟩
 have B:∀p op,objs' p=some op->op.owns=true->(∃k o0,φ k=p/\op=pd φ o0/\dg (s.lk L) k=some o0/\M p=hz k/\o0.owns=true)\/(σ.objs p=some op/\¬passed p/\M p=ρ p):=by
  intro p op z u;simp only[objs',qC]at z;cases ah:dg l p with
  |some dD=>rw[ah]at z;cases z;obtain⟨k,o0,ab,ad,ai,r⟩:=c p op ah;refine .inl ⟨k,o0,ad,ai,r,?_,by rw[ai,ZF]at u;exact u⟩;rw[<-ad];exact O k ab
  |none=>
   rw[ah]at z;simp only at z;split at z;.cases z;cases u
   rename_i aaa;refine .inr ⟨z,?_,A p ⟨op,z⟩⟩;rintro⟨k,b3,rfl⟩;exact aaa (xaK.2 ⟨k,b3,rfl⟩)
 have HB:Den IM fr M ⟨σ.au,objs'⟩ a w':=by
  refine⟨E.mem,⟨λb eW g=>E.frame.iq b eW (I b eW g),⟨E.frame.quiet.os,E.frame.quiet.out,E.frame.quiet.low⟩⟩,?_,?_,?_,?_,?_,?_⟩;.intro b g;have ab:=E.apart b g;cases ek:fr b with|none=>rfl|some eW=>rw[I b eW ek]at ab;cases ab
  .rintro p ⟨op,z⟩;simp only[objs',qC]at z;cases ah:dg l p with
   |some dD=>obtain⟨k,o0,ab,ad,ai,r⟩:=c p dD ah;rw[<-ad,O k ab];exact E.one k ⟨o0,r⟩
   |none=>
    rw[ah]at z;simp only at z;have hu:σ.used p:=by
     split at z;.rename_i aab;obtain⟨k,b3,rfl⟩:=xaK.1 aab;obtain⟨ok,M7⟩:=CG (lo:=s.kj (aG++a2)) (k:=k) (by rw[cA];exact b3);obtain⟨o',ab,_⟩:=fE.ok k ok M7;exact⟨o',ab⟩
     exact⟨op,z⟩
    rw[A p hu];exact h.one p hu
  .intro t;exact(h.au t).mono lS R
  .intro p op z;by_cases u:op.owns=true
   .rcases B p op z u with⟨k,o0,ab,ad,ai,r,H⟩|⟨ab,ad,ai⟩;.rw[ad,r];exact ZE S (E.objs k o0 ai)
    rw[ai];refine(h.objs p op ab).mono lS R ?_;intro b aac HA;have r:=C b p op ab u ad HA;have H:∃eW,w.heap[b]?=some eW:=⟨_,xaj ((h.objs p op ab).oU aac HA)⟩;obtain⟨eW,H⟩:=H;rw[H];exact E.frame.iq b eW (by rw[r,H])
   cases op with|dead=>trivial|_=>exact absurd rfl u
  .intro p op b z u g;rcases B p op z u with⟨k,o0,ab,ad,ai,r,H⟩|⟨ab,ad,ai⟩
   .rw[r]at g;have bX:=E.own k o0 b ai H g;refine⟨bX.1,?_⟩;cases ek:fr b with|none=>rfl|some eW=>rw[I b eW ek]at bX;cases bX.2
   rw[ai]at g;have r:=h.own p op b ab u g;refine⟨?_,r.2⟩;refine xbi λK=>?_;have H:=E.apart b K;rw[C b p op ab u ad g]at H;have:=(h.objs p op ab).oU u g;rw[xaj this]at H;cases H
  intro p lP op fc b dT z eY u b4 g;rcases B p op z u with⟨k,o0,ab,ad,ai,r,H⟩|⟨ab,ad,ai⟩
  .rw[r]at g;rcases B lP fc eY b4 with⟨cy,nL,V,dc,ck,ja,jb⟩|⟨V,dc,ck⟩
   .rw[ja];exact E.sep k cy o0 nL b (by rintro rfl;exact dT (ab.symm.trans V)) ai ck H jb g
   rw[ck];intro gf;have bX:=(E.own k o0 b ai H g).2;rw[C b lP fc V b4 dc gf]at bX;have:=(h.objs lP fc V).oU b4 gf;rw[xaj this]at bX;cases bX
  rw[ai]at g;rcases B lP fc eY b4 with⟨cy,nL,V,dc,ck,ja,jb⟩|⟨V,dc,ck⟩
  .rw[ja];intro gf;have bX:=(E.own cy nL b ck jb gf).2;rw[C b p op ab u ad g]at bX;have:=(h.objs p op ab).oU u g;rw[xaj this]at bX;cases bX
  rw[ck];exact h.sep p lP op fc b dT ab V u b4 g
 have aad:bA IM M (mL objs') (yd φ (s.CL L)) v:=O1 S Z9;have M6:∀p,10000<=p->dp (objs' p)->dp (σ.objs p):=by
  intro p z W;simp only[objs',qC]at W;cases ah:dg l p with
  |some dD=>
   obtain⟨k,o0,g1,g2,g3,g4⟩:=c p dD ah;rcases fu k g1 with⟨ad,ai,r,H⟩|⟨_,ad⟩;.obtain⟨bK,bX⟩:=tY H;obtain⟨o',nM,aae⟩:=fE.ok k _ bX;rw[bX]at H;rw[<-g2,r,nM];exact ZJ aae H
   rw[g2]at ad;exact absurd ad (Nat.not_lt.2 z)
  |none=>
   rw[ah]at W;simp only at W;split at W;.exact absurd W xR
   exact W
 refine⟨_,IM,M,⟨b3,by rw[ar.qh];exact M6⟩,lS,HB.put aad ZN,ZP v,ZQ v,?_⟩;intro p z g;rw[ar.qh];obtain⟨cs,W⟩:=tY g;refine⟨?_,A p ⟨_,W⟩⟩;show dp (objs' p);simp only[objs',qC];by_cases cC:p∈(s.ins.map (·.1)).map (ee b1)
 .obtain⟨k,aaf,rfl⟩:=xaK.1 cC;obtain⟨q,CN,rfl⟩:=xaK.1 aaf;have ab:=ji q CN;by_cases r:10000<=q.1
  .rw[xac r]at ab;simp only[xam,xbz,xbQ]at ab;obtain⟨_,lP,eY,H,bX⟩:=ab;have Hy:q.1∈s.outs.map (·.1):=xaK.2 ⟨lP,eY,H⟩;have aag:φ q.1=ee b1 q.1:=by rw[<-Pc];simp only[mM,xac r]
   obtain⟨dD,nM⟩:=II (φ:=φ) (lo:=s.lk L) (k:=q.1) (by rw[X];exact Hy);obtain⟨k,o0,g1,g2,g3,g4⟩:=c _ dD nM;have aah:k=q.1:=eL k q.1 g1 Hy g2;subst aah;have g5:dp (dg (s.lk L) q.1):=O4 (ls:=L) (n:=(lj L s.res 0).2) e2 eY H bX;rw[g4]at g5;rw[<-aag];have g7:dg l (φ q.1)=some dD:=nM;rw[g7,g3];rcases g5 with⟨anN,g5⟩|⟨jj,aai,g5⟩|⟨aai,g5⟩
   .cases g5;exact oW
   .cases g5;exact nP
   cases g5;exact qg
  rw[xab r]at ab;simp only[xam,xaF]at ab;exact absurd ab.2 (Nat.not_lt.2 z)
 cases ah:dg l p with
 |some dD=>
  exfalso;obtain⟨k,o0,g1,g2,g3,g4⟩:=c p dD ah;rcases fu k g1 with⟨ad,ai,r,H⟩|⟨ad,_⟩
  .exact cC (xaK.2 ⟨k,ai,by rw[<-r,g2]⟩)
  rw[g2,W]at ad;cases ad
 |none=>simp only;rw[xab cC];exact g
end
structure uy where
 s:eN
 F:lZ->oY
 base:Nat
 lh:List qu
abbrev qD:=Tmp->Option uy
def jD(P:Program)(G:cj)(H:qD):Prop:=∀t e,H t=some e->qB P G e.s e.F
def CO:aB->List Key
 | .row k=>[k]| .map k=>[k]|_=>[]
def CP:aB->List Key
 | .agg cs=>cs.flatMap CO| .fn _ as da=>as.flatMap CO++da.flatMap CO|x=>CO x
def CQ:aB->List Key
 | .ptr k _=>[k]|_=>[]
def Pd:aB->List Key
 | .agg cs=>cs.flatMap CQ| .fn _ as da=>as.flatMap CQ++da.flatMap CQ|x=>CQ x
def Pe(objs:bP)(k:Key):List aB:=match objs k with|some (.box cs)=>cs|_=>[]
section
variable{β:Type}
def Pf(T:bC)(G:cj)(C:hV)(σ:ar)(o:Oper)(x:Operand)(args:List Operand)(k:ar->Option β):Option β:=
 let a:=(x::args).map (bD G σ.au)
 let b:=a.flatMap Pd
 let c1:=b.flatMap (Pe σ.objs)
 let c:=c1.flatMap Pd
 let c2:=c.flatMap (Pe σ.objs)
 sa [a.flatMap CP++c1.flatMap CP++c2.flatMap CP,c,b] σ λσ=>r3 T G C σ o x args k
def Pg(o:Oper):Tmp:=match o.op,o.dst with| .store _ (.tmp a) _,_=>20000+a| .mapUpdate _ (.tmp a) _ _,_=>30000+a|_,some d=>d|_,none=>9999
def aaj:Op->List Operand
 | .buildSlice _ _ a=>a.toList.map (·.2)| .build _ a=>a.toList.map (·.2)| .box _ x=>[x]| .store _ _ x=>[x]| .mapUpdate _ _ _ x=>[x]| .call ⟨.builtin .append,args,_⟩=>args.toList.drop 1|_=>[]
def uz:D->Option (TypeId×D)
 | .cS t x=>some (t,x)|_=>none
def eC{d:Type}(t c:Nat)(a b:Option d):Option d:=if t=c then a else b
def CR(mw:TypeId->Option FuncId)(t:TypeId)(k:FuncId->oX):List TypeId->oX
 |[]=>none|c::r=>eC t c (match mw c with|some f=>k f|none=>none) (CR mw t k r)
def IN(T:bC)(G:cj)(C:hV)(σ:ar)(o:Oper)(x:Operand)(name:String)(args:List Operand)(k:ar->Option β):Option β:=match bD G σ.au x with
 | .d a=>match fk ((args.map (bD G σ.au)).map (toD σ.objs))with|some b=>af (uz a) λp=>af (CR (λt=>T.mw t name) p.1 (λf=>C (o.dst.getD 9999) f (p.2::b)) T.Ho) λr=>bJ ((args.map (bD G σ.au)).all nQ) (k (σ.put o.dst (.d r)))|none=>none
 |_=>none
def CS(T:bC)(G:cj)(gq:Tmp->Bool)(σ:ar)(o:Oper)(k:ar->Option β):Option β:=match gq (Pg o)with|true=>sa [((aaj o.op).map (bD G σ.au)).flatMap CP] σ λσ=>nV T G σ o k|false=>nV T G σ o k
def IP(T:bC)(G:cj)(C:hV)(H:qD)(gq:Tmp->Bool)(σ:ar)(o:Oper)(k:ar->Option β):Option β:=match o.op with
 | .call ⟨.value x,args,_⟩=>match H (o.dst.getD 9999)with
  |some e=>kQ e.lh σ λσ=>IH G e.s e.F e.base σ o x args.toList λa=>match gq (o.dst.getD 9999)with|true=>ux (o.dst.getD 9999) a k|false=>k a
  |none=>match gq (o.dst.getD 9999)with|true=>Pf T G C σ o x args.toList k|false=>r3 T G C σ o x args.toList k
 | .call ⟨.invoke x name,args,_⟩=>IN T G C σ o x name args.toList k| .slice _ _ _ _ _=>match gq (Pg o)with|true=>nV T G σ o λa=>ux (o.dst.getD 9999) a k|false=>nV T G σ o k
 | .store _ _ (.tmp t)=>match gq (40000+t)with|true=>ux t σ λσ=>nV T G σ o k|false=>CS T G gq σ o k
 |_=>CS T G gq σ o k
def IQ(T:bC)(G:cj)(C:hV)(H:qD)(gq:Tmp->Bool):List Oper->ar->(ar->Option β)->Option β
 |[],σ,k=>k σ|o::r,σ,k=>IP T G C H gq σ o λa=>IQ T G C H gq r a k
def IS(o:Oper):Bool:=still o||lT o.op
def sb(T:bC)(G:cj)(C:hV)(H:qD)(gq:Tmp->Bool)(all:Array Oper):List (Option (Nat×Bool)×List Oper)->ar->(ar->Option β)->Option β
 |[],σ,k=>k σ|(none,os)::r,σ,k=>IQ T G C H gq os σ λa=>sb T G C H gq all r a k
 |(some (j,want),os)::r,σ,k=>match(all[j]?).bind (·.dst),qp os with
  |some d,some br=>match σ.au d with
   | .d x=>if os.all (λo=>IS o&&o.dst !=some d)=true then
     (if(kept all os (flat r)).all (·==br)=true then
      af (cE x want (nW T G C os σ λa=>match a.au br with| .d v=>some v|_=>none)) λv=>sb T G C H gq all r ((iG (dstsOf os) σ).put (some br) (.d v)) k
     else af (cE x want (nW T G C os σ λa=>match x6 a (kept all os (flat r))with|some l=>some (.agg l)|none=>none)) λv=>sb T G C H gq all r (qq (kept all os (flat r)) v (iG (dstsOf os) σ)) k)else none
   |_=>none
  |_,_=>none
def Ph(T:bC)(G:cj)(C:hV)(H:qD)(gq:Tmp->Bool)(all:Array Oper)(σ:ar)(k:ar->Option β):Option β:=sb T G C H gq all (o9 all.toList) σ k
end
def uA{objs:bP}{k d:Key}{o:b5}(h:dp (some o)->dp (objs k)\/k=d):∀j,dp (bL objs k (some o) j)->dp (objs j)\/j=d:=by
 intro j b;by_cases a:j=k;.subst a;rw[dv]at b;exact h b
 rw[b9 _ _ a]at b;exact .inl b
def aak{T:bC}{ev:Operand->aB}{objs:bP}{d:Key}{o:Op}{r:aB}{c:List (Key×b5)}(h:c6 T ev objs d o=some (r,c)):∀j,dp (cD objs c j)->dp (objs j)\/j=d:=by
 have new:∀{o:b5},∀j,dp (cD objs [(d,o)] j)->dp (objs j)\/j=d:=by intro o;exact uA (λ_=> .inr rfl)
 have row:∀{k:Key}{n e:Nat}{es a:mW},objs k=some (.row e a)->∀j,dp (cD objs [(k,.row n es)] j)->dp (objs j)\/j=d:=by intro k n e es a b;exact uA (λ_=> .inl (by rw[b];exact nP))
 have mp:∀{k:Key}{es a:List (Value×D)},objs k=some (.map a)->∀j,dp (cD objs [(k,.map es)] j)->dp (objs j)\/j=d:=by intro k es a b;exact uA (λ_=> .inl (by rw[b];exact qg))
 cases o<;>simp only[c6,reduceCtorEq]at h
 case alloc=>split at h<;>cases h;exact new
 case box=>split at h<;>cases h;exact new
 case buildSlice=>
  split at h
  case h_2=>cases h
  split at h
  case h_2=>cases h
  split at h
  case h_2=>cases h
  split at h<;>cases h;exact new
 case makeSlice=>
  split at h
  case h_2=>cases h
  split at h
  case h_2=>cases h
  split at h
  case h_2=>cases h
  split at h<;>cases h;exact new
 case makeMap=>split at h<;>cases h;exact new
 case store=>
  split at h
  case h_2=>cases h
  split at h
  case isFalse=>cases h
  split at h
  .split at h
   case h_2=>cases h
   split at h<;>cases h;rename_i b _;exact uA λ_=> .inl (by rw[b];exact oW)
  .split at h
   case h_2=>cases h
   split at h
   case isFalse=>cases h
   split at h<;>cases h;exact row aZ
  cases h
 case mapUpdate=>
  split at h
  case h_2=>cases h
  split at h
  case h_2=>cases h
  split at h
  case isFalse=>cases h
  split at h
  case h_2=>cases h
  split at h
  case h_2=>cases h
  split at h<;>cases h;exact mp aZ
 case insert=>
  split at h
  case h_2=>cases h
  split at h
  case h_2=>cases h
  split at h
  case isFalse=>cases h
  split at h
  case h_2=>cases h
  split at h
  case h_2=>cases h
  split at h<;>cases h;exact mp aZ
 case call=>
  split at h
  .split at h
   case h_2=>cases h
   split at h
   case h_2=>cases h
   split at h
   case h_2=>cases h
   split at h
   case h_2=>cases h
   split at h
   case isFalse=>cases h
   split at h;.split at h<;>cases h;exact new
   .split at h
    case h_2=>cases h
    split at h<;>cases h;intro j f;rcases uA (d:=d) (λ_=> .inr rfl) j f with ab|ab
    .exact uA (λh=>absurd h xR) j ab
    exact .inr ab
   cases h
  .split at h
   case h_2=>cases h
   split at h
   case h_2=>cases h
   split at h
   case h_2=>cases h
   split at h
   case h_2=>cases h
   split at h
   case isFalse=>cases h
   split at h
   .split at h
    case h_2=>cases h
    split at h<;>cases h;exact row aZ
   .split at h
    case h_2=>cases h
    split at h<;>cases h;exact row aZ
   cases h
  .split at h
   case h_2=>cases h
   split at h
   case h_2=>cases h
   split at h
   case h_2=>cases h
   split at h
   case h_2=>cases h
   split at h
   case h_2=>cases h
   split at h<;>cases h;exact row aZ
  cases h
def aal{T:bC}{ev:Operand->aB}{objs:bP}{d:Key}{o:Op}{r:aB}{b:List (Key×b5)}(h:e4 T ev objs d o=some (r,b)):∀j,dp (cD objs b j)->dp (objs j)\/j=d:=by
 obtain⟨⟨k,c⟩,ak,f⟩:=qe h;have ab:=aak ak;intro j a;by_cases g:j=d
 .exact .inr g
 rcases rS (T.born d) d k c with e|⟨n,es,rfl,rfl,e⟩|⟨m,n,es,rfl,rfl,e⟩|⟨off,cs,l,rfl,rfl,i,e⟩;.rw[f]at e;cases e;exact ab j a
 .rw[f]at e;cases e;exact ab j (by simp only[cD,b9 _ _ g]at a⊢;exact a)
 .rw[f]at e;cases e;exact ab j (by simp only[cD,b9 _ _ g]at a⊢;exact a)
 rw[f]at e;cases e;exact ab j (by simp only[cD,b9 _ _ g]at a⊢;exact a)
section
variable{P:Program}{T:bC}{G:cj}{N:Nat}{σ:ar}{all:Array Oper}{ib:List Key}
def dR.put(h:dR ib σ){dst:Option Tmp}{r:aB}:dR ib (σ.put dst r):=by intro k b a;rw[ar.qh]at a;exact h k b a
def CT(b:dR ib σ){o:Oper}(f:∀d,o.dst=some d->d<10000){a:ar}(h:eR T G σ o=some a):dR ib a:=by
 unfold eR at h;split at h;.cases h;exact b.put
 split at h;.cases h;exact b.put
 split at h
 case h_2=>cases h
 rename_i r j g;cases h;refine dR.put ?_;intro k c e;rcases aal g k e with ab|ab
 .exact b k c ab
 exfalso;have:o.dst.getD 9999<10000:=by cases i:o.dst with|none=>simp|some d=>exact f d i
 exact absurd this (Nat.not_lt.2 (ab▸c))
def Pj(c:dR ib σ){o:Oper}(j:∀d,o.dst=some d->d<10000){K:ar->Prop}(h:cn P T G o K σ):cn P T G o (λa=>dR ib a/\K a) σ:=by
 unfold cn at*;split;.rename_i a aj;simp only[aj]at h;exact⟨CT c j aj,h⟩
 rename_i aj;simp only[aj]at h;unfold gQ at*;split at h
 case h_2=>cases h
 split at h
 case h_2=>cases h
 obtain⟨b,e,R,ab,ad,ai,f,g,i⟩:=h;exact⟨b,e,R,ab,ad,ai,f,g,λr k=>⟨c.put,i r k⟩⟩
def IT:∀{l:List Oper}{σ:ar}{K:ar->Prop},dR ib σ->(∀o∈l,∀d,o.dst=some d->d<10000)->dX P T G all l K σ->dX P T G all l (λa=>dR ib a/\K a) σ
 |[],σ,K,b,_,h=>⟨b,h⟩|o::l,σ,K,b,c,h=>by unfold dX at*;rw[fv]at*;cases f:hh all σ o with|none=>rw[f]at h;exact h|some w=>rw[f]at h;cases w with|true=>exact la (λa ⟨ab,ad⟩=>IT ab (λo e=>c o (by simp[e])) ad) (Pj b (c o sZ) h)|false=>exact IT b.put (λo e=>c o (by simp[e])) h
end
section
variable{P:Program}{T:bC}{G:cj}{C:hV}{H:qD}{gq:Tmp->Bool}{N:Nat}{σ:ar}{all:Array Oper}{ib:List Key}
def kR(P:Program)(G:cj)(N:Nat)(all:Array Oper)(i:Nat)(l:List Oper)(K:ar->Prop)(σ:ar):Prop:= ∀m fr ρ a w (Q:Exit->Act->World->Prop),gm G m->Den m fr ρ σ a w->N<=a.tmps.size->a.defers=[]->(∀b w',gB N m fr ρ σ K b w'->Q .normal b w')->wpOps P all Q (List.range' i l.length) a w
def gr(P:Program)(G:cj)(N:Nat)(o:Oper)(K:ar->Prop)(σ:ar):Prop:= ∀m fr ρ a w (Q:Exit->Act->World->Prop),gm G m->Den m fr ρ σ a w->N<=a.tmps.size->a.defers=[]->o.wp P a w (gB N m fr ρ σ K) Q
def aam{i:Nat}{K:ar->Prop}(h:K σ):kR P G N all i [] K σ:=λm fr ρ a w Q e hD b d c=>c a w ⟨σ,m,ρ,h,Mem.le_refl m,hD,b,d,h6.refl _ _⟩
def aan{i:Nat}{o:Oper}{l:List Oper}{K:ar->Prop}(ag:all[i]?=some o)(p:o.guard=none)(h:gr P G N o (kR P G N all (i+1) l K) σ):kR P G N all i (o::l) K σ:=by
 intro m fr ρ a w Q e hD j n k;rw[xal,List.range'_succ,wpOps_cons];refine wpOp_mono (K:=gB N m fr ρ σ (kR P G N all (i+1) l K)) ?_ ?_;.rintro g w' ⟨z,r,d,s,f,t,u,x,y⟩;exact s r fr d g w' Q (e.mono f) t u x λb c q=>k b c (q.trans f y)
 unfold wpOp;simp only[ag];have:Region.wanted o (yielded all a.tmps)=true:=by simp[Region.wanted,p]
 rw[xac this];exact .inl (h m fr ρ a w Q e hD j n)
def gr.mono{o:Oper}{K K':ar->Prop}(d:∀σ,K σ->K' σ)(h:gr P G N o K σ):gr P G N o K' σ:=λm fr ρ a w Q g hD i j=>by
  have:=h m fr ρ a w Q g hD i j;unfold Oper.wp at*;generalize (execOp a.eval o).run P w=r at*;cases r with
  |ok n w'=>
   cases n<;>simp only[Oper.upon]at this⊢<;>first|exact this.mono d|exact this|skip
   .refine this.mono λe f b=>?_;cases e with|returned v=>exact b.mono d|panicked c=>exact b|outgrown=>exact b
   exact this.mono λv f b=>b.mono d
  |halt x w'=>cases x<;>exact this
def gr.r5{o:Oper}{K:ar->Prop}{τ:ar}(b:eZ σ τ)(h:gr P G N o K τ):gr P G N o K σ:=by
 intro m fr ρ a w Q g hD i j;obtain⟨k,f,ab,ad,ai⟩:=b m fr ρ a w hD;have:=h k fr f a w Q (g.mono ab) ad i j;unfold Oper.wp at*;generalize (execOp a.eval o).run P w=r at*;cases r with
 |ok n w'=>
  cases n<;>simp only[Oper.upon]at this⊢<;>first|exact this.trans ab ai|exact this|skip
  .refine this.mono λe d b=>?_;cases e with|returned v=>exact b.trans ab ai|panicked c=>exact b|outgrown=>exact b
  exact this.mono λv d b=>b.trans ab ai
 |halt x w'=>cases x<;>exact this
def CU(f:cU P T){o:Oper}(b:∀d,o.dst=some d->d<N){K:ar->Prop}(h:cn P T G o K σ):gr P G N o K σ:=λm fr ρ a w Q c hD e g=>HO f c hD e g b h
def aao{ks:List Key}(h:dR ib σ):dR ib (freeze ks σ):=by
 intro k c d;have a:dp (if k∈ks then some .dead else(σ.objs k).map (yc σ.objs ks)):=d;split at a
 .exact absurd a xR
 cases b:σ.objs k with|none=>rw[b]at a;exact absurd a o1|some o0=>rw[b]at a;cases o0 with|box cs=>exact h k c (by rw[b];exact oW)|dead=>exact absurd a xR|row=>exact h k c (by rw[b];exact nP)|map=>exact h k c (by rw[b];exact qg)
def ye{d:Type}:∀{l:List (List Key)} {σ:ar} {k:ar->Option d} {b:d},dR ib σ->sa l σ k=some b->∃τ,eZ σ τ/\dR ib τ/\k τ=some b
 |[],σ,k,b,a,h=>⟨σ,eZ.refl σ,a,h⟩
 |ks::r,σ,k,b,a,h=>by
  unfold sa at h;split at h;.exact ye a h
  split at h
  case isFalse=>cases h
  rename_i c;obtain⟨τ,ab,ad,ai⟩:=ye (aao a) h;exact⟨τ,(ZC _ c).trans ab,ad,ai⟩
def IU{l:Type}{t:Tmp}{σ:ar}{k:ar->Option l}{b:l}(m:dR ib σ)(h:ux t σ k=some b):∃τ,eZ σ τ/\dR ib τ/\k τ=some b:=by
 unfold ux at h;split at h
 case h_2=>cases h
 rename_i key q i len o;split at h
 case h_2=>cases h
 rename_i p es n ak;split at h
 case isFalse=>cases h
 rename_i a;obtain⟨a,c,f⟩:=a;subst a;obtain⟨ab,ad⟩:=hA h;refine⟨_,ZD o n ak (xbg ab) c,?_,ad⟩;intro j e d;simp only at d;by_cases ai:j=t;.subst ai;exact absurd f (Nat.not_lt.2 e)
 rw[b9 _ _ ai]at d;by_cases g:j=key;.subst g;exact absurd c (Nat.not_lt.2 e)
 rw[b9 _ _ g]at d;exact m j e d
def gr.out{o:Oper}{K:ar->Prop}(h:gr P G N o (λb=>∃τ,eZ b τ/\K τ) σ):gr P G N o K σ:=λm fr ρ a w Q y hD z A=>by
  have key:∀{g w'},gB N m fr ρ σ (λb=>∃τ,eZ b τ/\K τ) g w'->gB N m fr ρ σ K g w':=by rintro g w' ⟨b,B,k,⟨τ,g1,g2⟩,ad,ai,s,t,u⟩;obtain⟨i,f,l,p,q⟩:=g1 B fr k g w' ai;exact⟨τ,i,f,g2,Mem.le_trans ad l,p,s,t,u.trans q⟩
  have:=h m fr ρ a w Q y hD z A;unfold Oper.wp at*;generalize (execOp a.eval o).run P w=r at*;cases r with
  |ok n w'=>
   cases n<;>simp only[Oper.upon]at this⊢<;>first|exact key this|exact this|skip
   .refine this.mono λe j d=>?_;cases e with|returned v=>exact key d|panicked c=>exact d|outgrown=>exact d
   exact this.mono λv j d=>key d
  |halt x w'=>cases x<;>exact this
def Pk{f:Type}(l:cU P T)(g:fw P G C){o:Oper}(c:∀d,o.dst=some d->d<N){x:Operand}{args:Array Operand}{e:Array TypeId}(p:o.op= .call ⟨.value x,args,e⟩){k:ar->Option f}{b:f}(i:dR ib σ) (h:r3 T G C σ o x args.toList k=some b):gr P G N o (λa=>k a=some b/\dR ib a) σ:=by refine CU l c (la ?_ (CA (T:=T) g p h));rintro a ⟨ab,ad,_⟩;refine⟨ab,λj n m=>i j n (by rw[<-ad];exact m)⟩
def Pl{mw:TypeId->Option FuncId}{t:TypeId}{k:FuncId->oX}{r:D}:∀{l:List TypeId},CR mw t k l=some r->∃f,mw t=some f/\k f=some r
 |[],h=>by cases h
 |c::l,h=>by
  unfold CR eC at h;split at h
  .rename_i a;subst a;split at h;.rename_i f b;exact⟨f,b,h⟩
   cases h
  exact Pl h
def aap{P:Program}{t:TypeId}{name:String}{f:FuncId}(h:BL P t name f)(n:Nat)(v:Value)(w:World):(method (n+1) t v name).run P w= .ok (f,v) w:=by
 obtain⟨a,m,d,ab,ad,ai,c,e,g⟩:=h;have b:(typeInfo t).run P w= .ok a w:=by simp[typeInfo,ab]
 unfold method;simp only[xai,b,xaf,ad,ai,follow,xaz,c,receiverAt,xau e];cases d<;>first|(simp only[Place.get,xaz,xaf];done)|(exact absurd rfl (g _))
def aaq{P:Program}{va:Operand->Value}{x:Operand}{name:String}{args:Array Operand}{c:Array TypeId}{ty:TypeId}{t:TypeId}{v:Value}{f:FuncId}{w:World}(o:va x= .iface t v)(l:BL P t name f)(k:qf P f):(do let d<-resolve va {callee:= .invoke x name,args:=args,argTypes:=c} ty;invoke d.target d.args:Sem Next).run P w= .ok (.enter f (#[v]++args.map va)) w:=by
 obtain⟨fn,ab,ad,ai⟩:=k;have g:0<Made.depth:=dZ
 have j:∃n,P.types.size+Made.depth=n+1:=⟨P.types.size+Made.depth-1,by omega⟩;obtain⟨n,m⟩:=j;have h:(#[Value.iface t v]++args.map va)[0]?=some (Value.iface t v):=by rw[xbt sZ];rfl
 have i:(#[Value.iface t v]++args.map va).extract 1 (#[Value.iface t v]++args.map va).size=args.map va:=by apply xbO;simp[List.extract,xbC]
 have e:(program:Sem Program).run P w= .ok P w:=rfl;have b:=aap l n v w;have a:(callFunc f (#[v]++args.map va)).run P w= .ok (.enter f (#[v]++args.map va)) w:=by simp only[callFunc,xai,e,xaf,ab,ad,ai,xaq,xaG,xaz]
 simp only[xai,resolve,o,xaz,xaf,invoke,h,i,callMethod,e,m,b,a]
def aar{cy:Type}(dD:cU P T)(dE:fw P G C){o:Oper}(A:∀d,o.dst=some d->d<N){x:Operand}{name:String}{args:Array Operand}{b3:Array TypeId}(fe:o.op= .call ⟨.invoke x name,args,b3⟩){k:ar->Option cy}{b:cy}(dT:dR ib σ) (h:IN T G C σ o x name args.toList k=some b):gr P G N o (λJ=>k J=some b/\dR ib J) σ:=by
 unfold IN at h;split at h
 case h_2=>cases h
 rename_i d l;split at h
 case h_2=>cases h
 rename_i cT W;obtain⟨p,K,h⟩:=cR h;obtain⟨r,eY,h⟩:=cR h;obtain⟨dc,cK⟩:=hA h;obtain⟨f,ek,R⟩:=Pl eY;have D:=dE _ _ _ _ R;have Y:=dD.BM _ _ _ ek;obtain⟨t,y⟩:=p;have X:d= .cS t y:=by
  unfold uz at K;split at K;.cases K;rfl
  cases K
 subst X;intro m fr ρ a w Q b1 n ck U;have B:=xL (a:=a) b1 n.au;have S:∀d,o.dst=some d->d<a.tmps.size:=λd l=>xch (A d l) ck;have E:∀v,N<=(a.put o.dst v).tmps.size:=by intro v;cases o.dst<;>simpa[Act.put]using ck
 have V:∀v,(a.put o.dst v).defers=[]:=by intro v;cases o.dst<;>exact U
 have I:=B x;rw[l]at I;have I:=I.kH;obtain⟨v,Z,bX⟩:∃v,a.eval x= .iface t v/\bN m y v:=by generalize a.eval x=u at I;cases I with|cS _ _ v h=>exact⟨v,rfl,h⟩
 have g:(execOp a.eval o).run P w= .ok (.enter f (#[v]++args.map a.eval)) w:=by unfold execOp;rw[fe];exact aaq Z Y D.fn
 unfold Oper.wp;rw[g];have L:jZ m (y::cT) (#[v]++args.map a.eval).toList:=by obtain⟨g1,g2⟩:=mD W;refine⟨by simp[g1],?_⟩;intro i d dQ l s;simp only[Array.toList_append,xbs,xaM,Array.toList_map]at s;cases i with|zero=>simp at l s;subst l;subst s;exact bX|succ i=>simp only[xct]at l s;have g3:=g2 i d l;simp only[xah,xae]at g3 s;obtain⟨z,⟨q,cA,rfl⟩,b4⟩:=g3;obtain⟨fE,F,rfl⟩:=s;rw[cA]at F;cases F;exact HN (xay.1 dc _ (xaK.2 ⟨q,xad cA,rfl⟩)) b4 (B q)
 have c:=D.run m _ w _ b1 n.Nv L;simp only[Array.toArray_toList]at c;refine c.mono λe w' eX=>?_;obtain⟨dQ,fc,hz,rfl,fu,cC,eW,gf⟩:=eX;subst fu;have M:=n.kept cC eW;exact⟨_,fc,ρ,⟨cK,λj eL O=>dT j eL (by simpa using O)⟩,cC,M.put (.d _ _ gf) S,E dQ,V dQ,λk gH O=>⟨by simpa using O,rfl⟩⟩
def Pm{f:Type}(i:cU P T)(l:fw P G C)(hH:jD P G H)(g:N<10000){o:Oper}(c:∀d,o.dst=some d->d<N){k:ar->Option f}{b:f}(e:dR ib σ)(h:CS T G gq σ o k=some b):gr P G N o (λa=>k a=some b/\dR ib a) σ:=by
 unfold CS at h;have step:∀{τ:ar},dR ib τ->nV T G τ o k=some b->gr P G N o (λa=>k a=some b/\dR ib a) τ:=by intro τ e h;obtain⟨a,ab,ad⟩:=r2 h;refine CU i c ?_;unfold cn;rw[ab];exact⟨ad,CT e (λd j=>xco (c d j) g) ab⟩
 split at h;.obtain⟨τ,ab,ad,ai⟩:=ye e h;exact gr.r5 ab (step ad ai)
 exact step e h
def aas{y:Type}(i:cU P T)(j:fw P G C)(hH:jD P G H)(q:N<10000){o:Oper}(f:∀d,o.dst=some d->d<N){k:ar->Option y}{b:y}(g:dR ib σ)(h:IP T G C H gq σ o k=some b):gr P G N o (λc=>k c=some b/\dR ib c) σ:=by
 unfold IP at h;split at h
 .rename_i x args u n;split at h
  .rename_i e F;obtain⟨τ,t1,r,h⟩:=nY g h;refine gr.r5 t1 ?_;generalize t:(λc=>match gq (o.dst.getD 9999)with|true=>ux (o.dst.getD 9999) c k|false=>k c)=B at h;have main:gr P G N o (λc=>B c=some b/\dR ib c) τ:=by refine gr.mono (K:=λc=>B c=some b/\∀p,10000<=p->dp (c.objs p)->dp (τ.objs p)) (λc ⟨ab,ad⟩=>⟨ab,λp A E=>r p A (ad p A E)⟩) ?_;intro m fr ρ a w Q D hD s l;exact ZK D hD s l f (hH _ _ F) n h (Q:=Q)
   refine gr.out (gr.mono ?_ main);rintro c ⟨ab,ad⟩;subst t;simp only at ab;split at ab;.obtain⟨z,g1,g2,g3⟩:=IU ad ab;exact⟨z,g1,g3,g2⟩
   exact⟨c,eZ.refl c,ab,ad⟩
  split at h;.unfold Pf at h;simp only at h;obtain⟨τ,ab,ad,ai⟩:=ye g h;exact gr.r5 ab (Pk i j f n ad ai)
  exact Pk i j f n g h
 .rename_i x name args u n;exact aar i j f n g h
 .have step:∀{τ:ar}{k:ar->Option y},dR ib τ->nV T G τ o k=some b->gr P G N o (λc=>k c=some b/\dR ib c) τ:=by
   intro τ k g h;obtain⟨c,ab,ad⟩:=r2 h;refine CU i f ?_;unfold cn;rw[ab];exact⟨ad,CT g (λd l=>xco (f d l) q) ab⟩
  split at h;.refine gr.out (gr.mono ?_ (step g h));rintro c ⟨ab,ad⟩;obtain⟨τ,g1,g2,g3⟩:=IU ad ab;exact⟨τ,g1,g3,g2⟩
  exact step g h
 .split at h;.obtain⟨τ,g1,g2,g3⟩:=IU g h;refine gr.r5 g1 ?_;obtain⟨c,ab,ad⟩:=r2 g3;refine CU i f ?_;unfold cn;rw[ab];exact⟨ad,CT g2 (λd l=>xco (f d l) q) ab⟩
  exact Pm i j hH q f g h
 exact Pm i j hH q f g h
def Pn{t:Type}(p:cU P T)(m:fw P G C)(hH:jD P G H)(n:N<10000){K:ar->Prop}:∀{os:List Oper}{r:List Oper}{i:Nat}{σ:ar}{k:ar->Option t}{b:t},(∀o∈os,o.guard=none)->(∀o∈os,∀d,o.dst=some d->d<N)->(∀j,(os++r)[j]?=all[i+j]?)->dR ib σ->(∀a,dR ib a->k a=some b->kR P G N all (i+os.length) r K a)->IQ T G C H gq os σ k=some b->kR P G N all i (os++r) K σ
 |[],r,i,σ,k,b,_,_,_,f,g,h=>g σ f h
 |o::os,r,i,σ,k,b,s,q,c,f,g,h=>by
  have ag:all[i]?=some o:=by simpa using(c 0).symm
  refine aan ag (s o sZ) (gr.mono ?_ (aas p m hH n (q o sZ) f h));rintro a ⟨ab,ad⟩;refine Pn p m hH n (λo l=>s o (by simp[l])) (λo l=>q o (by simp[l])) (λj=>by have:=c (j+1);simpa[xbl,Nat.add_comm 1 j]using this) ad ?_ ab;intro e ai u;have:=g e ai u;rw[show i+(o::os).length=i+1+os.length by simp;omega]at this;exact this
def bA.shrink{m m0:Mem}{ρ y:cq}{U z:Key->Prop}{x:aB}{v:Value}(h:bA m ρ U x v):∀{v0:Value},bA m0 y z x v0->bA m ρ z x v:=by
 induction h with
 |any v=>intro v0 _;exact .any _
 |d x v h=>intro v0 _;exact .d _ _ h
 |agg cs vs ah h ih=>
  intro v0 ak;cases ak with|agg _ n l j=>
  refine .agg _ _ ah λi c v g p=>?_;have ag:i<n.size:=by rw[l];exact(lV.1 g).1
  exact ih i c v g p (j i c _ g (xaj ag))
 |aC cs vs ah h ih=>
  intro v0 ak;cases ak with|aC _ n l j=>
  refine .aC _ _ ah λi c v g p=>?_;have ag:i<n.size:=by rw[l];exact(lV.1 g).1
  exact ih i c v g p (j i c _ g (xaj ag))
 |cH cs off b o vs T B D E ab ad=>intro v0 _;exact .cH _ _ b o vs T B D E ab ad
 |ptr key off b hu h=>intro v0 ak;cases ak with|ptr _ _ _ e _=>exact .ptr _ _ b e h
 |eB key k i off b o len cap hu h=>intro v0 ak;cases ak with|eB _ _ _ _ _ _ _ _ e _=>exact .eB _ _ _ _ b o len cap e h
 |row key hu=>intro v0 ak;cases ak with|row _ e=>exact .row _ e
 |sub key k i len b o L cap a hu h s A=>intro v0 ak;cases ak with|sub _ _ _ _ _ _ _ _ _ e=>exact .sub _ _ _ _ b o L cap a e h s A|hf _ _ _ e=>exact .sub _ _ _ _ b o L cap a e h s A
 |hf key k i hu h=>intro v0 ak;cases ak with|sub _ _ _ _ _ _ _ _ _ e=>exact .hf _ _ _ e h|hf _ _ _ e=>exact .hf _ _ _ e h
 |map key hu=>intro v0 ak;cases ak with|map _ e=>exact .map _ e
 |fn f first captured vs I ah t h F ih u=>
  intro v0 ak;cases ak with|fn _ _ _ n w l r j q=>
  refine .fn _ _ _ _ _ ah t (λi c v g p=>?_) (λi c v g p=>?_)
  .have ag:i<n.size:=by rw[l];exact(lV.1 g).1
   exact ih i c v g p (j i c _ g (xaj ag))
  .have ag:i<w.size:=by rw[r];exact(lV.1 g).1
   exact u i c v g p (q i c _ g (xaj ag))
def gG.shrink{m m0:Mem}{ρ e:cq}{U f:Key->Prop}{o:b5}{v v0:Value}{w w0:World}(h:gG m ρ U v w o)(ak:gG m0 e f v0 w0 o):gG m ρ f v w o:=by
 cases o with
 |dead=>trivial
 |box cs=>
  obtain⟨b,vs,T,g,j,k,l⟩:=h;obtain⟨p,d,T0,f1,f2,f3,f4⟩:=ak;refine⟨b,vs,T,g,j,k,λi c x a n=>?_⟩;have ag:i<d.size:=by rw[f3];exact(lV.1 a).1
  exact(l i c x a n).shrink (f4 i c _ a (xaj ag))
 |row=>exact h|map=>exact h
def aat{m z:Mem}{fr:dn}{ρ p:cq}{σ i:ar}{a x:Act}{w w':World}{q:List Tmp}(h:Den m fr ρ σ a w)(f:Den z fr p i x w')(c:bP.ext σ.objs i.objs)(aj:∀t,t∉q->i.au t=σ.au t){br:Tmp}{v:D}(E:i.au br= .d v)(A:br∈q):Den z fr p ((iG q σ).put (some br) (.d v)) x w':=by
 have e:((iG q σ).put (some br) (.d v)).objs=σ.objs:=by simp[iG]
 refine⟨f.mem,f.frame,f.apart,?_,?_,?_,?_,?_⟩;.rintro k ⟨o,j⟩;rw[e]at j;exact f.one k ⟨o,c k o j⟩
 .intro t;by_cases n:t=br;.subst n;simp only[ar.put,dv];have:=f.au t;rw[E]at this;exact .d _ _ this.kH
  simp only[ar.put,b9 _ _ n,iG];split;.exact .any _
  rename_i B;have ab:=f.au t;rw[aj t B]at ab;exact ab.shrink (h.au t)
 .intro k o g;rw[e]at g;exact(f.objs k o (c k o g)).shrink (h.objs k o g)
 .intro k o b g j r;rw[e]at g;exact f.own k o b (c k o g) j r
 intro k y o o' b s g l j u r;rw[e]at g l;exact f.sep k y o o' b s (c k o g) (c y o' l) j u r
def aau{m z:Mem}{fr:dn}{ρ q:cq}{σ i:ar}{a x:Act}{w w':World}{l:List Tmp}(h:Den m fr ρ σ a w)(f:Den z fr q i x w')(c:bP.ext σ.objs i.objs)(aj:∀t,t∉l->i.au t=σ.au t){ts:List Tmp}{v:D}(B:∀t∈ts,i.au t= .d (ae v (ts.idxOf t))):Den z fr q (qq ts v (iG l σ)) x w':=by
 have e:(qq ts v (iG l σ)).objs=σ.objs:=rfl;refine⟨f.mem,f.frame,f.apart,?_,?_,?_,?_,?_⟩;.rintro k ⟨o,n⟩;rw[e]at n;exact f.one k ⟨o,c k o n⟩
 .intro t;by_cases j:t∈ts
  .have ad:(qq ts v (iG l σ)).au t= .d (ae v (ts.idxOf t)):=by simp only[qq,xac j]
   rw[ad];have:=f.au t;rw[B t j]at this;exact .d _ _ this.kH
  have ad:(qq ts v (iG l σ)).au t=(iG l σ).au t:=by simp only[qq,xab j]
  rw[ad];simp only[iG];split;.exact .any _
  rename_i A;have ab:=f.au t;rw[aj t A]at ab;exact ab.shrink (h.au t)
 .intro k o g;rw[e]at g;exact(f.objs k o (c k o g)).shrink (h.objs k o g)
 .intro k o b g n r;rw[e]at g;exact f.own k o b (c k o g) n r
 intro k y o o' b s g p n u r;rw[e]at g p;exact f.sep k y o o' b s (c k o g) (c y o' p) n u r
theorem aav{T:bC}{ev:Operand->aB}{objs:bP}{d:Key}{op:Op}{r:aB}{a:List (Key×b5)}(aj:lT op=true)(b:e4 T ev objs d op=some (r,a)):objs d=none:=(uc (objs':=λ_=>none) aj rfl b).2.1
def aaw{g:Type}(i:fw P G C){o:Oper}(aj:IS o=true){k:ar->Option g}{b:g}(h:mI T G C σ o k=some b):cn P T G o (λc=>k c=some b/\bP.ext σ.objs c.objs/\∀t,o.dst≠some t->c.au t=σ.au t) σ:=by
 rcases xbx.1 aj with aj|aj;.refine la ?_ (OJ i aj h);rintro c ⟨ab,ad,ai⟩;exact⟨ab,by rw[ad];exact λ_ _ h=>h,ai⟩
 have f:∀x args d,o.op≠ .call ⟨.value x,args,d⟩:=by intro x args d e;rw[e]at aj;cases aj
 unfold mI at h;split at h;.exact absurd aZ (f _ _ _)
 obtain⟨c,ab,ad⟩:=r2 h;unfold cn;rw[ab];unfold eR at ab;rw[(mE (objs:=σ.objs) aj).1,(mE aj).2]at ab;simp only at ab;split at ab
 case h_2=>cases ab
 rename_i r m e;cases ab;have a:σ.objs (o.dst.getD 9999)=none:=aav aj e;obtain⟨_,_,l,rfl⟩:=uc aj a e;refine⟨ad,?_,λt j=>mJ j⟩;rw[ar.qh];exact bP.B0 a l
def IV{r:Type}(i:fw P G C){j:Nat}{want:Bool}{d:Tmp}(l:(all[j]?).bind (·.dst)=some d):∀{os:List Oper}{σ:ar}{k:ar->Option r}{b:r},(∀o∈os,o.guard=some (j,want))->(∀o∈os,IS o=true/\o.dst≠some d)->σ.au d= .d (.val (.bool want))->nW T G C os σ k=some b->dX P T G all os (λa=>k a=some b/\bP.ext σ.objs a.objs/\∀t,t∉dstsOf os->a.au t=σ.au t) σ
 |[],σ,k,b,_,_,_,h=>⟨h,λ_ _ h=>h,λ_ _=>rfl⟩
 |o::os,σ,k,b,m,aj,hw,h=>by
  have ak:=aj o sZ;unfold dX c9;rw[m o sZ];simp only[l,hw,xaC];refine la ?_ (aaw i ak.1 h);rintro a ⟨ab,ad,ai⟩;refine jA ?_ (IV i l (λo c=>m o (by simp[c])) (λo c=>aj o (by simp[c])) (by rw[ai d ak.2];exact hw) ab);rintro s ⟨g1,g2,g3⟩;refine⟨g1,λp q c=>g2 p q (ad p q c),?_⟩;intro t n;have f:t∉dstsOf os:=λe=>n (by unfold dstsOf at e⊢;simp only[xbY];cases o.dst<;>simp[e])
  have g:o.dst≠some t:=λe=>n (by unfold dstsOf;simp[e]);rw[g3 t f,ai t g]
def IW(t:cU P T){fr:dn}{Q:Exit->Act->World->Prop}:∀(os r:List Oper)(i:Nat)(m:Mem)(ρ:cq)(σ:ar)(a:Act)(w:World)(K:ar->Prop),(∀j,(os++r)[j]?=all[i+j]?)->gm G m->Den m fr ρ σ a w->N<=a.tmps.size->a.defers=[]->(∀o∈os,∀d,o.dst=some d->d<N)->dX P T G all os K σ->(∀f w',gB N m fr ρ σ K f w'->wpOps P all Q (List.range' (i+os.length) r.length) f w')->wpOps P all Q (List.range' i (os++r).length) a w
 |[],r,i,m,ρ,σ,a,w,K,_,k,h,l,e,_,n,c=>c a w ⟨σ,m,ρ,n,Mem.le_refl m,h,l,e,h6.refl _ _⟩
 |o::os,r,i,m,ρ,σ,a,w,K,ah,k,h,l,e,b,n,c=>by
  rw[xbs,xal,List.range'_succ,wpOps_cons];have ag:all[i]?=some o:=by simpa using(ah 0).symm
  refine wpOp_mono ?_ (HP t k h l e ag (b o sZ) n);rintro f w' ⟨s,z,q,A,u,B,D,E,F⟩;refine IW t os r (i+1) z q s f w' K (λj=>by have:=ah (j+1);simpa[xbl,Nat.add_comm 1 j]using this) (k.mono u) B D E (λo x=>b o (by simp[x])) A ?_;intro g p y;have:=c g p (y.trans u F);rw[show i+(o::os).length=i+1+os.length by simp;omega]at this;exact this
theorem Po(i:Nat):ae hB i=hB:=by unfold ae;cases i<;>rfl
def yf{dD:Type}(S:cU P T)(O:fw P G C)(hH:jD P G H)(b4:N<10000){K:ar->Prop}:∀{gs:List (Option (Nat×Bool)×List Oper)} {i:Nat} {σ:ar} {k:ar->Option dD} {b:dD},(∀g∈gs,∀o∈g.2,o.guard=g.1)->(∀o∈flat gs,∀d,o.dst=some d->d<N)->(∀j,(flat gs)[j]?=all[i+j]?)->dR ib σ->(∀c,dR ib c->k c=some b->K c)->sb T G C H gq all gs σ k=some b->kR P G N all i (flat gs) K σ
 |[],i,σ,k,b,_,_,_,R,U,h=>aam (U σ R h)|(none,os)::r,i,σ,k,b,F,D,f,R,U,h=>by show kR P G N all i (os++flat r) K σ;refine Pn S O hH b4 (λo e=>F (none,os) sZ o e) (λo e=>D o (by simp[flat,e])) f R ?_ h;intro c ab ad;refine yf S O hH b4 (λg X=>F g (by simp[X])) (λo e=>D o (by simp only[flat,List.flatMap_cons,xar];exact .inr e)) ?_ ab U ad;intro j;have:=f (os.length+j);rw[<-xbl]at this;rw[<-this];show _=(os++flat r)[os.length+j]?;rw[xas oZ];simp
 |(some (j,want),os)::r,i,σ,k,b,F,D,f,R,U,h=>by
  show kR P G N all i (os++flat r) K σ;unfold sb at h;split at h
  case h_2=>cases h
  rename_i d br s J;split at h
  case h_2=>cases h
  rename_i x V;split at h
  case isFalse=>cases h
  rename_i p;simp only[xay,xam,bne_iff_ne,ne_eq]at p;split at h
  .obtain⟨v,ab,ad⟩:=cR h;have n:∀o∈os,o.guard=some (j,want):=λo e=>F (some (j,want),os) sZ o e;have q:kR P G N all (i+os.length) (flat r) K ((iG (dstsOf os) σ).put (some br) (.d v)):=by
    refine yf S O hH b4 (λg X=>F g (by simp[X])) (λo e=>D o (by simp only[flat,List.flatMap_cons,xar];exact .inr e)) ?_ (dR.put (σ:=iG (dstsOf os) σ) R) U ad;intro Z;have:=f (os.length+Z);rw[<-xbl]at this;rw[<-this];show _=(os++flat r)[os.length+Z]?;rw[xas oZ];simp
   have cC:dX P T G all os (λc=>bP.ext σ.objs c.objs/\(∀t,t∉dstsOf os->c.au t=σ.au t)/\c.au br= .d v) σ:=by
    unfold cE at ab;split at ab
    .rename_i b1;split at ab
     .rename_i y;subst y;refine jA ?_ (IV O s n p V ab);rintro c ⟨g1,g2,g3⟩;refine⟨g2,g3,?_⟩;split at g1;.rename_i u hu;cases g1;exact hu
      cases g1
     rename_i y;cases ab;refine jA ?_ (x8 s n (λo e=>(p o e).2) (.inl (by rw[V];cases b1<;>cases want<;>simp_all)));rintro c ⟨g1,g2,g3⟩;exact⟨by rw[g1];exact λ_ _ h=>h,g2,g3 br J⟩
    .rename_i vs;cases ab;refine jA ?_ (x8 s n (λo e=>(p o e).2) (.inr ⟨_,V⟩));rintro c ⟨g1,g2,g3⟩;exact⟨by rw[g1];exact λ_ _ h=>h,g2,g3 br J⟩
    cases ab
   intro m fr ρ a w Q W hD B E ck;refine IW S os (flat r) i m ρ σ a w _ f W hD B E (λo e=>D o (by simp[flat,e])) cC ?_;rintro b3 w' ⟨c,cT,M,⟨g1,g2,g3⟩,bX,dc,cK,dE,dT⟩;have A:=aat hD dc g1 g2 g3 (OO J);refine q cT fr M b3 w' Q (W.mono bX) A cK dE ?_;intro z L cA;refine ck z L (cA.trans bX ?_);intro cy I y;exact⟨by rw[ar.qh];exact y,(dT cy I y).2⟩
  obtain⟨v,ab,ad⟩:=cR h;have n:∀o∈os,o.guard=some (j,want):=λo e=>F (some (j,want),os) sZ o e;have q:kR P G N all (i+os.length) (flat r) K (qq (kept all os (flat r)) v (iG (dstsOf os) σ)):=by refine yf S O hH b4 (λg X=>F g (by simp[X])) (λo e=>D o (by simp only[flat,List.flatMap_cons,xar];exact .inr e)) ?_ R U ad;intro Z;have:=f (os.length+Z);rw[<-xbl]at this;rw[<-this];show _=(os++flat r)[os.length+Z]?;rw[xas oZ];simp
  have cC:dX P T G all os (λc=>bP.ext σ.objs c.objs/\(∀t,t∉dstsOf os->c.au t=σ.au t)/\(∀t∈kept all os (flat r),c.au t= .d (ae v ((kept all os (flat r)).idxOf t)))) σ:=by
   unfold cE at ab;split at ab
   .rename_i b1;split at ab
    .rename_i y;subst y;refine jA ?_ (IV O s n p V ab);rintro c ⟨g1,g2,g3⟩;refine⟨g2,g3,?_⟩;split at g1;.rename_i l ah;cases g1;exact λt Y=>Zs ah Y
     cases g1
    rename_i y;cases ab;refine jA ?_ (Iw s n (λo e=>(p o e).2) (.inl (by rw[V];cases b1<;>cases want<;>simp_all)));rintro c ⟨g1,g2,g3⟩;exact⟨by rw[g1];exact λ_ _ h=>h,g2,λt Y=>by rw[g3 t (xbL.1 Y).1,Po]⟩
   .rename_i vs;cases ab;refine jA ?_ (Iw s n (λo e=>(p o e).2) (.inr ⟨_,V⟩));rintro c ⟨g1,g2,g3⟩;exact⟨by rw[g1];exact λ_ _ h=>h,g2,λt Y=>by rw[g3 t (xbL.1 Y).1,Po]⟩
   cases ab
  intro m fr ρ a w Q W hD B E ck;refine IW S os (flat r) i m ρ σ a w _ f W hD B E (λo e=>D o (by simp[flat,e])) cC ?_;rintro b3 w' ⟨c,cT,M,⟨g1,g2,g3⟩,bX,dc,cK,dE,dT⟩;have A:=aau hD dc g1 g2 g3;refine q cT fr M b3 w' Q (W.mono bX) A cK dE ?_;intro z L cA;refine ck z L (cA.trans bX ?_);intro cy I y;exact⟨y,(dT cy I y).2⟩
def aax{c:Type}(m:cU P T)(e:fw P G C)(hH:jD P G H)(l:N<10000){k:ar->Option c}{b:c}(n:∀o∈all.toList,∀d,o.dst=some d->d<N)(f:dR ib σ)(h:Ph T G C H gq all σ k=some b):kR P G N all 0 all.toList (λa=>dR ib a/\k a=some b) σ:=by
 have:=yf (P:=P) (N:=N) (ib:=ib) (all:=all) (i:=0) m e hH l (K:=λa=>dR ib a/\k a=some b) (λg p o q=>x7 _ _ _ p o q) (by rw[pb];exact n) (by rw[pb];intro j;simp) f (λa ab ad=>⟨ab,ad⟩) h
 rwa [pb]at this
def aay{Q:Exit->ar->Prop}{id:Nat}{ops:Array Oper}(h:kR P G N ops 0 ops.toList (Q .normal) σ):ff P T G N (.region id ops false) σ Q:=by intro m fr ρ a w d hD b f;refine wp_region ?_;rw[List.range_eq_range'];have:=h m fr ρ a w (λe c w'=>gB N m fr ρ σ (Q e) c w') d hD b f (λc w' g=>g);simpa using this
end
def nZ(ops:Array Oper):Bool:=(List.range ops.size).all λj=>match ops[j]? with
  |some o=>o.after.all (λe=>!Region.binds .any e||decide (e.on<j))&&(match o.guard with|none=>true|some (g,_)=>decide (g<j))
  |none=>true
def yg(ops:Array Oper)(j:Nat):Bool:=(List.range j).all λi=>(List.range (j+1)).any λk=>decide (i<k)&&match ops[k]? with|some o=>o.after.any (λe=>Region.binds .any e&&decide (e.on=i))|none=>false
def IX(ops:Array Oper)(p:Nat):Bool:=nZ ops&&(List.range ops.size).all λj=>decide (j<p)||yg ops j
def sc{ops:Array Oper}(h:nZ ops=true){j:Nat}{o:Oper}(a:ops[j]?=some o):(∀e∈o.after,Region.binds .any e=true->e.on<j)/\∀g b,o.guard=some (g,b)->g<j:=by
 have i:j<ops.size:=(xaN.1 a).1;have ab:=xay.1 h j (xbU.2 i);simp only[a,xam]at ab;refine⟨λe d c=>?_,λg b f=>?_⟩
 .have:=Array.all_eq_true'.1 ab.1 e d;simpa[c]using this
 have:=ab.2;rw[f]at this;simpa using this
def aaz{ops:Array Oper}{j i:Nat}(h:yg ops j=true)(ag:i<j):∃k o,i<k/\k<=j/\ops[k]?=some o/\∃e∈o.after,Region.binds .any e=true/\e.on=i:=by
 have ab:=xay.1 h i (xbU.2 ag);obtain⟨k,f,ad⟩:=xbz.1 ab;simp only[xam,xaF]at ad;obtain⟨ai,a⟩:=ad;cases b:ops[k]? with
 |none=>rw[b]at a;cases a
 |some o=>rw[b]at a;obtain⟨e,d,c⟩:=Array.any_eq_true'.1 a;simp only[xam,xaF]at c;have:=xbU.1 f;exact⟨k,o,ai,by omega,b,e,d,c⟩
def uB(ops:Array Oper)(listed:Array Bool):Prop:=∀j o,ops[j]?=some o->listed.getD j true=true->∀e∈o.after,Region.binds .any e=true->listed.getD e.on false=true
section
variable{P:Program}{ops gK:Array Oper}{Q:Exit->Act->World->Prop}
def pf{i:Nat}(h:i<ops.size):(ops++gK)[i]?=ops[i]?:=xbt h
def uC{l r:Array Bool}{d:Bool}{i:Nat}(h:i<l.size):(l++r).getD i d=l.getD i d:=by
 have ad:i<l.size+r.size:=oZ
 simp only[xbj,xbt h]
theorem aaA{l:Array Bool}{m:Nat}{d:Bool}{i:Nat}(h:l.size<=i)(ad:i<l.size+m):(l++Array.replicate m false).getD i d=false:=by simp only[xbj,Array.getElem?_append_right h];rw[Array.getElem?_replicate,xac oZ];rfl
def IY{l:Array Bool}{i:Nat}(h:i<l.size)(d e:Bool):l.getD i d=l.getD i e:=by simp[Array.getD,h]
def IZ{all:Array Oper}{L:Array Bool}{j:Nat}(n:L.size=all.size)(ah:yg all j=true)(a:uB all L)(g:j∈Region.ready .any all L):∀(d i:Nat),j-i<=d->i<j->L.getD i false=true
 |0,i,h,ag=>by omega
 |d+1,i,h,ag=>by
  obtain⟨k,o',ab,q,ad,e,ai,c,m⟩:=aaz ah ag;rw[<-m];by_cases b:k=j;.subst b;obtain⟨_,r,l,p⟩:=xbW.1 g;rw[ad]at l;cases l;exact p e ai c
  have f:=IZ n ah a g d k oZ oZ;have o:=(xaN.1 ad).1;rw[IY oZ false true]at f;exact a k o' ad f e ai c
def yh{all:Array Oper}{L:Array Bool}{i:Nat}(h:i∈Region.ready .any all L):i<all.size:=(xaN.1 (xbW.1 h).2.choose_spec.1).1
def aaB{all:Array Oper}{L:Array Bool}(aj:L.size=all.size)(h:uB all L){i:Nat}(ag:i∈Region.ready .any all L):uB all (L.setIfInBounds i true):=by
 obtain⟨ab,l,ad,ai⟩:=xbW.1 ag;have k:=yh ag;have up:∀{j:Nat},L.getD j false=true->(L.setIfInBounds i true).getD j false=true:=by
  intro j c;by_cases a:j<L.size
  .by_cases b:i=j;.subst b;simp[Array.getD,a]
   simp[Array.getD,a]at c⊢;rw[xbM a b];exact c
  simp[Array.getD,a]at c
 intro j o' f c e g d;have a:j<L.size:=by have:=(xaN.1 f).1;omega
 by_cases b:i=j;.subst b;rw[ad]at f;cases f;exact up (ai e g d)
 refine up (h j o' f ?_ e g d);simp[Array.getD,a]at c⊢;rw[xbM a b]at c;exact c
def Pp{listed:Array Bool}(d:nZ (ops++gK)=true)(aj:listed.size=ops.size){i:Nat}(ag:i<ops.size):i∈Region.ready .any (ops++gK) (listed++Array.replicate gK.size false)↔i∈Region.ready .any ops listed:=by
 rw[xbW,xbW,uC oZ,pf ag];refine and_congr_right λ_=>?_;constructor;.rintro⟨o',c,h⟩;refine⟨o',c,λe b a=>?_⟩;have:=(sc d (by rw[pf ag];exact c)).1 e b a;rw[<-h e b a,uC oZ]
 rintro⟨o',c,h⟩;refine⟨o',c,λe b a=>?_⟩;have:=(sc d (by rw[pf ag];exact c)).1 e b a;rw[uC oZ,h e b a]
def Pq{all:Array Oper}{L:Array Bool}(aj:L.size=all.size)(h:∀i,i<all.size->L.getD i false=true):Region.ready .any all L=[]:=by refine List.eq_nil_iff_forall_not_mem.2 λi ag=>?_;have a:=yh ag;have ab:=(xbW.1 ag).1;rw[IY oZ true false,h i a]at ab;cases ab
def aaC{all:Array Oper}{L:Array Bool}(c:nZ all=true)(aj:L.size=all.size)(h:Region.ready .any all L=[]):∀(i:Nat),i<all.size->L.getD i false=true:=by
 intro i
 induction i using Nat.strongRecOn with
 |_ i ih=>
  intro ag;refine xbi λd=>?_;have g:L.getD i true=false:=by rw[IY oZ true false];simpa using d
  have:i∈Region.ready .any all L:=by refine xbW.2 ⟨g,all[i],by simp[ag],λe f a=>?_⟩;have b:=(sc c (j:=i) (o:=all[i]) (by simp[ag])).1 e f a;exact ih e.on b oZ
  rw[h]at this;cases this
def aaD(b:nZ (ops++gK)=true):nZ ops=true:=by
 refine xay.2 λj a=>?_;have a:=xbU.1 a;have ab:=xay.1 b j (xbU.2 uZ)
 rwa [pf a]at ab
def aaE{tm:Array Value}{g:Nat}(h:g<ops.size):yielded (ops++gK) tm g=yielded ops tm g:=by unfold yielded;rw[pf h]
def aaF(a:nZ (ops++gK)=true){i:Nat}(ag:i<ops.size){o':Oper}(d:ops[i]?=some o')(tm:Array Value):Region.wanted o' (yielded (ops++gK) tm)=Region.wanted o' (yielded ops tm):=by unfold Region.wanted;cases c:o'.guard with|none=>rfl|some p=>obtain⟨g,b⟩:=p;have:=(sc a (by rw[pf ag];exact d)).2 g b c;simp only[aaE (xco this ag)]
def aaG(b:nZ (ops++gK)=true){i:Nat}(ag:i<ops.size){K:Act->World->Prop}{a:Act}{w:World}:wpOp P (ops++gK) Q i K a w=wpOp P ops Q i K a w:=by
 unfold wpOp;rw[pf ag];have:ops[i]?=some ops[i]:=by simp[ag]
 rw[this];simp only[aaF b ag this]
def aaH{all:Array Oper}:∀(fuel:Nat)(L:Array Bool)(a:Act)(w:World),Region.ready .any all L=[]->Q .normal a w->wpAny P .any all Q fuel L a w
 |0,L,a,w,h,b=>⟨h,b⟩|fuel+1,L,a,w,h,b=>⟨λ_=>b,λi ag=>by rw[h]at ag;cases ag⟩
def jk(n j:Nat):Array Bool:=Array.ofFn (n:=n) λi=>decide (i.val<j)
def Pr{n j:Nat}:(jk n j).size=n:=by simp[jk]
def sd{n j i:Nat}{d:Bool}(h:i<n):(jk n j).getD i d=decide (i<j):=by simp[jk,Array.getD,h]
def aaI{n j:Nat}:(jk n j).setIfInBounds j true=jk n (j+1):=by
 apply Array.ext;.simp[jk]
 intro i ab ad;simp[jk]at ab;by_cases h:i=j;.subst h;simp[jk]
 rw[xbM (by simpa[jk]using ab) oZ];simp[jk];omega
def Ps{all:Array Oper}(l:nZ all=true){p:Nat}(ah:∀j,p<=j->j<all.size->yg all j=true):∀(d j:Nat)(a:Act)(w:World),p<=j->j+d=all.size->wpOps P all Q (List.range' j d) a w->wpAny P .any all Q d (jk all.size j) a w
 |0,j,a,w,y,x,h=>by refine⟨Pq Pr λi ag=>by rw[sd ag];simp;omega,by simpa[wpOps]using h⟩
 |d+1,j,a,w,y,x,h=>by
  have k:j<all.size:=oZ
  have f:uB all (jk all.size j):=by intro i o r ag e m b;have q:=(xaN.1 r).1;rw[sd q]at ag;have:=(sc l r).1 e m b;rw[sd oZ];simp at ag⊢;omega
  have g:j∈Region.ready .any all (jk all.size j):=by refine xbW.2 ⟨by rw[sd k];simp,all[j],by simp[k],λe m b=>?_⟩;have:=(sc l (j:=j) (o:=all[j]) (by simp[k])).1 e m b;rw[sd oZ];simpa using this
  refine⟨λak=>(by rw[ak]at g;cases g),λi ag=>?_⟩;have c:=yh ag;have ab:=(xbW.1 ag).1;rw[sd c]at ab;have n:i=j:=by
   have t:j<=i:=by simpa using ab
   by_cases u:i=j;.exact u
   have:=IZ Pr (ah i oZ c) f ag i j oZ oZ;rw[sd k]at this;simp at this
  subst n;rw[List.range'_succ,wpOps_cons]at h;refine wpOp_mono (λs w' z=>?_) h;rw[aaI];exact Ps l ah d (i+1) s w' oZ oZ z
def aaJ{listed:Array Bool}{m:Nat}(h:∀i,i<listed.size->listed.getD i false=true):listed++Array.replicate m false=jk (listed.size+m) listed.size:=by
 apply Array.ext;.simp[jk]
 intro i ab ad;simp at ab;by_cases ag:i<listed.size;.have:=h i ag;simp[Array.getD,ag]at this;rw[Array.getElem_append_left ag,this];simp[jk,ag]
 rw[Array.getElem_append_right oZ];simp[jk];omega
def aaK{listed:Array Bool}{m i:Nat}(ag:i<listed.size):(listed++Array.replicate m false).setIfInBounds i true=listed.setIfInBounds i true++Array.replicate m false:=by
 apply Array.ext;.simp
 intro j ab ad;simp at ab;by_cases b:j<listed.size
 .rw[Array.getElem_append_left (by simpa using b)];by_cases a:i=j;.subst a;simp
  rw[xbM uZ a,Array.getElem_append_left b,xbM b a]
 rw[Array.getElem_append_right uZ,xbM uZ oZ,Array.getElem_append_right oZ];simp
end
def Pt{P:Program}{Q:Exit->Act->World->Prop}{all:Array Oper}:∀{n:Nat}{L:Array Bool}{a:Act}{w:World},wpAny P .any all Q n L a w->∀k,n<=k->wpAny P .any all Q k L a w
 |0,L,a,w,h,k,b=>aaH k L a w h.1 h.2|n+1,L,a,w,h,0,b=>by omega|n+1,L,a,w,h,k+1,b=>⟨h.1,λi ag=>wpOp_mono (λd w' c=>Pt c k oZ) (h.2 i ag)⟩
section
variable{P:Program}{T:bC}{G:cj}{ops gK:Array Oper}{Q:Exit->Act->World->Prop}
def aaL{m:Mem}{fr:dn}{N:Nat}(R:cU P T){K:ar->Prop}(s:nZ (ops++gK)=true)(ah:∀j,ops.size<=j->j<(ops++gK).size->yg (ops++gK) j=true)(x:∀o∈ops,∀d,o.dst=some d->d<N):∀(fuel:Nat)(listed:Array Bool)(m:Mem)(ρ:cq)(σ:ar)(a:Act)(w:World),listed.size=ops.size->uB ops listed->gm G m->Den m fr ρ σ a w->N<=a.tmps.size->a.defers=[]->gg P T G ops K fuel listed σ->(∀g w',gB N m fr ρ σ K g w'->wpOps P (ops++gK) Q (List.range' ops.size gK.size) g w')->wpAny P .any (ops++gK) Q (fuel+gK.size) (listed++Array.replicate gK.size false) a w:=by
 have fin:∀{fuel:Nat}{listed:Array Bool}{m:Mem}{ρ:cq}{σ:ar}{a:Act}{w:World},listed.size=ops.size->Region.ready .any ops listed=[]->gm G m->Den m fr ρ σ a w->N<=a.tmps.size->a.defers=[]->K σ->(∀g w',gB N m fr ρ σ K g w'->wpOps P (ops++gK) Q (List.range' ops.size gK.size) g w')->wpAny P .any (ops++gK) Q gK.size (listed++Array.replicate gK.size false) a w:=by intro fuel listed m ρ σ a w aj t p h q b S r;have k:=aaC (aaD s) aj t;rw[aaJ (λi ag=>k i oZ),aj,<-Array.size_append];exact Ps s ah _ _ _ _ (xaR _) sZ (r a w ⟨σ,m,ρ,S,Mem.le_refl m,h,q,b,h6.refl _ _⟩)
 intro fuel
 induction fuel with
 |zero=>intro listed m ρ σ a w aj c p h q b B r;rw[xav];exact fin (fuel:=0) aj B.1 p h q b B.2 r
 |succ fuel ih=>
  intro listed m ρ σ a w aj c p h q b B r;by_cases t:Region.ready .any ops listed=[];.have:=fin (fuel:=0) aj t p h q b (B.1 t) r;exact Pt this _ oZ
  rw[Nat.add_right_comm];have n:uB (ops++gK) (listed++Array.replicate gK.size false):=by
   intro j o' f z e M u;have F:=(xaN.1 f).1;simp at F;by_cases A:j<ops.size
   .rw[uC oZ]at z;rw[pf A]at f;have:=(sc s (by rw[pf A];exact f)).1 e M u;rw[uC oZ];exact c j o' f z e M u
   rw[aaA oZ oZ]at z;cases z
  refine⟨λak=>absurd ?_ t,λi ag=>?_⟩;.refine List.eq_nil_iff_forall_not_mem.2 λi ag=>?_;have:=(Pp s aj (yh ag)).2 ag;rw[ak]at this;cases this
  by_cases y:i<ops.size;.have l:=(Pp s aj y).1 ag;have ab:=B.2 i l;obtain⟨_,V,f,_⟩:=xbW.1 l;unfold fm at ab;simp only[f]at ab;rw[aaG s y];refine wpOp_mono ?_ (HP R p h q b f (x V (Array.mem_of_getElem? f)) ab);rintro g w' ⟨L,U,J,b3,O,b1,ck,cA,cC⟩;rw[aaK oZ];refine ih _ U J L g w' (by simp[aj]) (aaB aj c l) (p.mono O) b1 ck cA b3 ?_;rintro E I ⟨D,H,C,W,X,Y,Z,bX,b4⟩;exact r E I ⟨D,H,C,W,Mem.le_trans O X,Y,Z,bX,cC.trans b4⟩
  refine absurd (Pq aj λj z=>?_) t;have:=IZ (by simp[aj]) (ah i oZ (yh ag)) n ag i j oZ oZ
  rwa [uC oZ]at this
end
def aaM{P:Program}{T:bC}{G:cj}{N:Nat}{σ:ar}{Q:Exit->ar->Prop}(q:cU P T)(t:P.follows .mixedOrders=true){id:Nat}{ops c:Array Oper}(p:qn N ops=true)(g:IX (ops++c) ops.size=true) {K:ar->Prop} (o:∀b,K b->kR P G N (ops++c) ops.size c.toList (Q .normal) b) (h:gg P T G ops K ops.size (Array.replicate ops.size false) σ):ff P T G N (.region id (ops++c) true) σ Q:=by
 intro m fr ρ a w k hD f r;refine wp_region_any t ?_;simp only[IX,xam]at g;have e:Array.replicate (ops++c).size false=Array.replicate ops.size false++Array.replicate c.size false:=by rw[Array.size_append,Array.replicate_append_replicate]
 rw[e,Array.size_append];refine aaL (m:=m) (fr:=fr) (N:=N) (T:=T) q g.1 (λj ab ad=>?_) (o3 p) ops.size _ m ρ σ a _ sZ ?_ k (hD.drew _) f r h ?_;.have:=xay.1 g.2 j (xbU.2 ad);simp only[xbk,xaF]at this;exact this.resolve_left oZ
 .intro j o' u s;have:=(xaN.1 u).1;simp[Array.getD,this]at s
 rintro d w' ⟨b,y,i,z,l,A,B,C,D⟩;have:=o b z y fr i d w' (λe d w'=>gB N m fr ρ σ (Q e) d w') (k.mono l) A B C (λn E x=>x.trans l D);simpa using this
section
variable{β:Type}
def aR(f:lZ->Option (lZ⊕β)):Nat->lZ->Option β
 |0,_=>none|n+1,ls=>af (f ls) λx=>match x with| .inl a=>aR f n a| .inr b=>some b
end
def qE:Code->Nat
 | .region id _ _=>id| .seq x _=>qE x| .cond _ x _=>qE x| .block _ c=>qE c| .loop c=>qE c| .scope c=>qE c|_=>0
def aaN(c:Tmp)(x y:Code):Nat:=(c*1000+qE y)*1000+qE x
structure jl where
 T:bC
 G:cj
 C:hV
 n:Nat
 ib:List Key
 loops:Nat->Option jC
 aaO:Nat->Option jC
 blocks:Nat->Option jC
 l4:Nat->Option lX
 H:qD
 gq:Tmp->Bool
 pre:Nat->List (List Key)
def aY{a:Type}(b:Option a):Option (lZ⊕a):=af b λb=>some (.inr b)
def aI{a:Type}(f:lZ->Option a):lZ⊕a->Option a
 | .inl ls=>f ls| .inr b=>some b
def I1{b:Type}(ib:List Key)(c:jC)(run:(Exit->ar->Option (lZ⊕b))->Option (lZ⊕b))(k:Exit->ar->Option b):Option b:=af (run λe a=>match e with| .normal=>nX ib c a λls=>some (.inl ls)|e=>aY (k e a)) (aI λls=>k .normal (restore c ls))
def yi{b:Type}(id:Nat)(k:Exit->ar->Option b)(e:Exit)(σ:ar):Option b:=match e with
 | .exit a=>if a=id then k .normal σ else k (.exit a) σ
 |e=>k e σ
def aaP{a:Type}(k:Exit->ar->Option a)(e:Exit)(σ:ar):Option a:=match e with| .goto _=>none|e=>k e σ
def CV{b:Type}(T:bC)(G:cj)(C:hV)(all:Array Oper):lX->Array Bool->ar->(Array Bool->ar->Option b)->Option b
 |[],listed,σ,k=>k listed σ
 |i::r,listed,σ,k=>match all[i]? with
  |some o=>if o.guard=none/\(Region.ready .any all listed).contains i=true/\(NP all listed i||Cy all listed i σ o||Cz all listed i σ.au o||HR T all listed i)=true then mI T G C σ o λa=>CV T G C all r (listed.setIfInBounds i true) a k else none
  |none=>none
def Pu{P:Program}{T:bC}{G:cj}{C:hV}{all:Array Oper}{q:Type}(n:fw P G C){k:Array Bool->ar->Option q}{b:q}{K:ar->Prop}{f:Nat}(p:∀listed σ,k listed σ=some b->gg P T G all K f listed σ): ∀(ord:lX)(listed:Array Bool)(σ:ar),CV T G C all ord listed σ k=some b->gg P T G all K (ord.length+f) listed σ
 |[],listed,σ,h=>by rw[xaA,xav];exact p _ _ h
 |i::r,listed,σ,h=>by
  unfold CV at h;split at h
  case h_2=>cases h
  rename_i o ag;split at h
  case isFalse=>cases h
  rename_i u;obtain⟨l,j,c⟩:=u;have H:fm P T G all i (gg P T G all K (r.length+f) (listed.setIfInBounds i true)) σ:=by unfold fm;simp only[ag];unfold c9;simp only[l];exact la (λm s=>Pu n p r _ m s) (It n h)
  rw[show(i::r).length+f=r.length+f+1 by simp;omega];rcases xbx.1 c with c|c
  case inr=>obtain⟨d,e,g⟩:=B9 ag c;exact B7 ag d (r.length+f) listed σ e g (by simpa using j) (.inr trivial) H
  rcases xbx.1 c with c|c
  case inr=>obtain⟨d,e,g⟩:=OQ c;exact N7 ag l d (s0:=σ.au) (L:=jf o.op++(qt all listed i).flatMap (λy=>nT y.op)) (λt x=>xaY _ x) (r.length+f) listed σ (λ_ _=>rfl) e g (by simpa using j) H
  rcases xbx.1 c with c|c;.obtain⟨d,e,g⟩:=NQ ag c;exact NN ag d (r.length+f) listed σ e g (by simpa using j) (.inr trivial) H
  unfold Cy at c;split at c
  case h_2=>cases c
  rename_i t a w;split at c
  case h_2=>cases c
  rename_i z off aj;obtain⟨d,e,g⟩:=OP ag c;exact NZ ag w l d (r.length+f) listed σ aj e g (by simpa using j) H
def exec(X:jl):Code->{l:Type}->ar->(Exit->ar->Option l)->Option l
 | .skip,_,σ,k=>k .normal σ| .label _,_,σ,k=>k .normal σ| .scope c,_,σ,k=>exec X c σ (aaP k)| .exit id,_,σ,k=>k (.exit id) σ| .ret,_,σ,k=>k .ret σ
 | .region id ops d,_,σ,k=>sa (X.pre id) σ λσ=>match X.l4 id with
  |none=>match d with|true=>OE X.T X.G X.C ops σ λb=>k .normal b|false=>Ph X.T X.G X.C X.H X.gq ops σ λb=>k .normal b
  |some ord=>if d=true/\ord.length=ops.size then ur X.T X.G X.C ops ord (Array.replicate ops.size false) σ λb=>k .normal b
   else if d=true/\ord.length<=ops.size/\IX ops ord.length=true then ur X.T X.G X.C (ops.extract 0 ord.length) ord (Array.replicate ord.length false) σ λb=>sb X.T X.G X.C X.H X.gq ops (o9 (ops.extract ord.length ops.size).toList) b λf=>k .normal f
   else if d=true/\ord.length<=ops.size then CV X.T X.G X.C ops ord (Array.replicate ops.size false) σ λlisted b=>if qm X.T ops (List.range' ord.length (ops.size-ord.length)) listed=true then qs X.T X.G X.C ops (o9 (ops.toList.drop ord.length)) b λf=>k .normal f else none
   else none
 | .seq x y,_,σ,k=>exec X x σ λe b=>match e with| .normal=>exec X y b k|e=>k e b
 | .cond (.tmp c) x y,_,σ,k=>match σ.au c with
  | .d a=>match X.aaO (aaN c x y)with|none=>a6 a (exec X x σ k) (exec X y σ k)|some g=>I1 X.ib g (λh=>a6 a (exec X x σ h) (exec X y σ h)) k
  |_=>none
 | .block id c,_,σ,k=>match X.blocks id with|none=>exec X c σ (yi id k)|some g=>I1 X.ib g (λh=>exec X c σ (yi id h)) k
 | .loop c,_,σ,k=>match X.loops (qE c)with|none=>none|some g=>nX X.ib g σ λj=>aR (λls=>exec X c (restore g ls) λe b=>match e with| .normal=>nX X.ib g b λi=>some (.inl i)|e=>aY (k e b)) X.n j
 | .cond (.const v) x y,_,σ,k=>match v with| .bool true=>exec X x σ k| .bool false=>exec X y σ k|_=>none
 |_,_,_,_=>none
section
variable{P:Program}{T:bC}{G:cj}{N:Nat}{σ:ar}{all:Array Oper}{ib:List Key}
def I2{K K':ar->Prop}(a:∀σ,K σ->K' σ):∀(fuel:Nat){listed:Array Bool}{σ:ar},gg P T G all K fuel listed σ->gg P T G all K' fuel listed σ
 |0,_,_,h=>⟨h.1,a _ h.2⟩|fuel+1,_,_,h=>⟨λak=>a _ (h.1 ak),λi ag=>ql (λ_ b=>I2 a fuel b) (h.2 i ag)⟩
def uD{K:ar->Prop}(c:∀o∈all,∀d,o.dst=some d->d<10000):∀(fuel:Nat){listed:Array Bool}{σ:ar},dR ib σ->gg P T G all K fuel listed σ->gg P T G all (λa=>dR ib a/\K a) fuel listed σ
 |0,_,_,b,h=>⟨h.1,b,h.2⟩
 |fuel+1,_,σ,b,h=>by
  refine⟨λak=>⟨b,h.1 ak⟩,λi ag=>?_⟩;have ab:=h.2 i ag;unfold fm at ab⊢;split at ab
  .exact uD c fuel b ab
  rename_i o g;rw[fv]at ab⊢;have e:=c o (Array.mem_of_getElem? g);cases f:hh all σ o with|none=>rw[f]at ab;exact ab|some w=>rw[f]at ab;cases w with|true=>exact la (λa ⟨ad,ai⟩=>uD c fuel ad ai) (Pj b e ab)|false=>exact uD c fuel b.put ab
def Pv{Q:Exit->ar->Prop}(g:cU P T)(j:P.follows .mixedOrders=true){id:Nat}{ops:Array Oper}(f:qn N ops=true) (h:gg P T G ops (Q .normal) ops.size (Array.replicate ops.size false) σ):ff P T G N (.region id ops true) σ Q:=by intro m fr ρ a w d hD b i;refine wp_region_any j ?_;exact HT (m:=m) (fr:=fr) (N:=N) (Q:=λe c w'=>gB N m fr ρ σ (Q e) c w') g (o3 f) ops.size _ m ρ σ a _ d (hD.drew _) b i h (λc w' k=>k)
def ll(T:bC)(os:Nat->Option lX)(N:Nat):Code->Bool
 | .region id ops d=>qn N ops&&(!d||(os id).isSome||qm T ops (List.range ops.size) (Array.replicate ops.size false))| .seq x y=>ll T os N x&&ll T os N y| .cond _ x y=>ll T os N x&&ll T os N y| .block _ c=>ll T os N c| .loop c=>ll T os N c| .scope c=>ll T os N c|_=>true
def kk{a:Type}(ib:List Key)(k:Exit->ar->Option a)(b:a)(e:Exit)(σ:ar):Prop:=∃τ,eZ σ τ/\dR ib τ/\k e τ=some b
def Pw{a:Type}{x:Option a}{y:lZ⊕a}(h:aY x=some y):∃b,x=some b/\y= .inr b:=by obtain⟨b,ab,ad⟩:=cR h;exact⟨b,ab,(xba ad).symm⟩
def Px{d:Type}{p:jC}{c:Code}{run:(Exit->ar->Option (lZ⊕d))->Option (lZ⊕d)}{k:Exit->ar->Option d}{b:d} (a:∀i b',run i=some b'->ff P T G N c σ (kk ib i b')) (h:I1 ib p run k=some b):ff P T G N c σ (kk ib k b):=by
 obtain⟨x,ab,ad⟩:=cR h;refine ue (a _ _ ab) ?_;rintro e g ⟨τ,g1,g2,g3⟩;have other:∀f,e=f->aY (k f τ)=some x->kk ib k b e g:=by rintro f rfl ai;obtain⟨b',j,rfl⟩:=Pw ai;cases ad;exact⟨τ,g1,g2,j⟩
 cases e with
 |normal=>obtain⟨ls,m,n,o⟩:=CH g2 g3;cases o;exact⟨_,g1.trans m,n,ad⟩
 |exit id=>exact other _ rfl g3|goto l=>exact other _ rfl g3|ret=>exact other _ rfl g3|panic c=>exact other _ rfl g3|outgrown=>exact other _ rfl g3
def aaQ{c:Type}{f:lZ->Option (lZ⊕c)}{n:Nat}{ls:lZ}{b:c}(h:aR f n ls=some b):∃m,n=m+1/\((∃a,f ls=some (.inl a)/\aR f m a=some b)\/f ls=some (.inr b)):=by
 cases n with
 |zero=>cases h
 |succ m=>obtain⟨x,ab,ad⟩:=cR h;refine⟨m,rfl,?_⟩;cases x with|inl a=>exact .inl ⟨a,ab,ad⟩|inr b'=>cases ad;exact .inr ab
def kk.block{d:Type}{id:Nat}{k:Exit->ar->Option d}{b:d}{e:Exit}{σ:ar}(h:kk ib (yi id k) b e σ):xW id (kk ib k b) e σ:=by
 obtain⟨τ,g1,g2,g3⟩:=h;cases e with
 |exit a=>
  simp only[xW];unfold yi at g3;by_cases ag:a=id;.simp only[ag,xaC]at g3⊢;exact⟨τ,g1,g2,g3⟩
  simp only[ag,xaG]at g3⊢;exact⟨τ,g1,g2,g3⟩
 |normal=>exact⟨τ,g1,g2,g3⟩|goto l=>exact⟨τ,g1,g2,g3⟩|ret=>exact⟨τ,g1,g2,g3⟩|panic c=>exact⟨τ,g1,g2,g3⟩|outgrown=>exact⟨τ,g1,g2,g3⟩
def mN(X:jl)(F:cU P X.T)(B:fw P X.G X.C)(hH:jD P X.G X.H)(A:P.follows .mixedOrders=true)(E:N<10000):∀(c:Code){t:Type}{σ:ar}{k:Exit->ar->Option t}{b:t},ll X.T X.l4 N c=true->dR X.ib σ->exec X c σ k=some b->ff P X.T X.G N c σ (kk X.ib k b)
 | .skip,t,σ,k,b,_,s,h=>Yn ⟨σ,eZ.refl σ,s,h⟩| .label l,t,σ,k,b,_,s,h=>Yo ⟨σ,eZ.refl σ,s,h⟩| .exit id,t,σ,k,b,_,s,h=>Yp ⟨σ,eZ.refl σ,s,h⟩| .ret,t,σ,k,b,_,s,h=>Yq ⟨σ,eZ.refl σ,s,h⟩
 | .region id ops d,t,σ,k,b,r,s,h=>by
  simp only[ll,xam,xbk,xcr]at r;have Z:∀o∈ops.toList,∀d,o.dst=some d->d<10000:=λo z d L=>xco (o3 r.1 o (by simpa using z) d L) E;have I:∀q,dR X.ib q/\k .normal q=some b->kk X.ib k b .normal q:=λq O=>⟨q,eZ.refl q,O⟩;unfold exec at h;have U:=ye s h;clear h s;obtain⟨σ,cy,s,h⟩:=U;refine HU cy ?_;split at h
  .rename_i S;split at h
   .have ab:=Zx (P:=P) (all:=ops) (σ:=σ) B (K:=λq=>∃τ,jB q τ/\k .normal τ=some b) (λσ τ hw ⟨eL,ab,ad⟩=>⟨eL,hw.trans ab,ad⟩) (λq O=>⟨q,jB.refl _,O⟩) h;have ad:dX P X.T X.G ops ops.toList (kk X.ib k b .normal) σ:=by
     refine jA ?_ (IT s Z ab);rintro q ⟨g1,τ,g2,g3⟩;refine⟨τ,g2.r5,?_,g3⟩;intro j cK W;rw[<-g2.1]at W;exact g1 j cK W
    exact YE F A r.1 (r.2.resolve_left (by simp[S])) ad
   have ab:=aax (P:=P) (all:=ops) (σ:=σ) F B hH E (λo z d L=>o3 r.1 o (by simpa using z) d L) s h;exact aay (λm fr ρ a w Q gH hD dc L fE=>ab m fr ρ a w Q gH hD dc L (λfc w' dT=>fE fc w' (dT.mono I)))
  rename_i ord S;split at h
  case isFalse=>
   split at h
   case isFalse=>
    split at h
    case isFalse=>cases h
    rename_i Y;obtain⟨rfl,J⟩:=Y;have ab:=Pu (P:=P) (T:=X.T) (G:=X.G) (all:=ops) (f:=(List.range' ord.length (ops.size-ord.length)).length) (K:=λq=>∃τ,jB q τ/\k .normal τ=some b) B (λlisted q dE=>by
     split at dE
     case isFalse=>cases dE
     rename_i z;refine HS _ _ _ z ?_;have ad:=r6 (P:=P) B (K:=λq=>∃τ,jB q τ/\k .normal τ=some b) (λσ τ hw ⟨eL,ab,ad⟩=>⟨eL,hw.trans ab,ad⟩) (λg A o z=>x7 _ _ _ A o z) (λq O=>⟨q,jB.refl _,O⟩) dE;rw[pb]at ad;have ai:=NV (P:=P) (T:=X.T) (G:=X.G) (all:=ops) (ops.toList.drop ord.length) ord.length q _ (λj=>by simp) ad;simpa using ai) ord _ σ h
    rw[List.length_range',show ord.length+(ops.size-ord.length)=ops.size by omega]at ab;refine Pv F A r.1 (I2 ?_ _ (uD (λo z d L=>xco (o3 r.1 o z d L) E) _ s ab));rintro q ⟨g1,τ,g2,g3⟩;refine⟨τ,g2.r5,?_,g3⟩;intro j cK W;rw[<-g2.1]at W;exact g1 j cK W
   rename_i Y;obtain⟨rfl,J,b3⟩:=Y;have dD:ops=ops.extract 0 ord.length++ops.extract ord.length ops.size:=by rw[Array.extract_append_extract,Nat.max_eq_right J];simp
   have b4:ord.length=(ops.extract 0 ord.length).size:=uZ
   have ab:=Iy (P:=P) B ord _ σ h;generalize ops.extract 0 ord.length=ek at*;generalize ops.extract ord.length ops.size=lR at*;subst dD;rw[b4]at ab;have ck:qn N ek=true:=by have:=r.1;unfold qn at this⊢;simp only[Array.toList_append,List.all_append,xam]at this;exact this.1
   rw[b4]at b3;refine aaM F A ck b3 ?_ (uD (λo z d L=>xco (o3 ck o z d L) E) _ s ab);rintro q ⟨cT,U⟩;have ad:=yf (P:=P) (N:=N) (ib:=X.ib) (all:=ek++lR) (i:=ek.size) F B hH E (K:=kk X.ib k b .normal) (λg A o z=>x7 _ _ _ A o z) (by rw[pb];intro o' z d L;exact o3 r.1 _ (by simp at z⊢;exact .inr z) d L) (by rw[pb];intro j;rw[Array.getElem?_append_right oZ];simp) cT (λcA ab ad=>I cA ⟨ab,ad⟩) U
   rwa [pb]at ad
  rename_i Y;obtain⟨rfl,J⟩:=Y;have ab:=Iy (P:=P) B ord _ σ h;rw[J]at ab;exact Pv F A r.1 (I2 I _ (uD (λo z d L=>xco (o3 r.1 o z d L) E) _ s ab))
 | .seq x y,t,σ,k,b,r,s,h=>by simp only[ll,xam]at r;refine Yr (ue (mN X F B hH A E x r.1 s h) ?_);rintro e q ⟨τ,g1,g2,g3⟩;cases e with|normal=>simp only[Ca];refine HU g1 (mN X F B hH A E y r.2 g2 g3)|exit id=>exact⟨τ,g1,g2,g3⟩|goto l=>exact⟨τ,g1,g2,g3⟩|ret=>exact⟨τ,g1,g2,g3⟩|panic c=>exact⟨τ,g1,g2,g3⟩|outgrown=>exact⟨τ,g1,g2,g3⟩
 | .cond c x y,t,σ,k,b,r,s,h=>by
  simp only[ll,xam]at r;cases c with
  |tmp c=>
   unfold exec at h;split at h
   case h_2=>cases h
   rename_i a eY;have two:∀{t:Type}(M:Exit->ar->Option t)(b':t),a6 a (exec X x σ M) (exec X y σ M)=some b'->ff P X.T X.G N (.cond (.tmp c) x y) σ (kk X.ib M b'):=by
    intro t M b' h;rcases Cm h with⟨rfl,ab⟩|⟨rfl,ab⟩
    .exact Cb (b:=true) eY (by rw[xac rfl];exact mN X F B hH A E x r.1 s ab)
    exact Cb (b:=false) eY (by rw[xab sZ];exact mN X F B hH A E y r.2 s ab)
   split at h;.exact two k b h
   exact Px (λM b' O=>two M b' O) h
  |const v=>
   unfold exec at h;split at h;.exact Cb (b:=true) rfl (by rw[xac rfl];exact mN X F B hH A E x r.1 s h)
   .exact Cb (b:=false) rfl (by rw[xab sZ];exact mN X F B hH A E y r.2 s h)
   cases h
  |global g=>cases h
  |func f=>cases h
 | .block id c,t,σ,k,b,r,s,h=>by
  have one:∀{t:Type}(M:Exit->ar->Option t)(b':t),exec X c σ (yi id M)=some b'->ff P X.T X.G N (.block id c) σ (kk X.ib M b'):=by intro t M b' h;exact Yu (ue (mN X F B hH A E c r s h) (λe q O=>O.block))
  unfold exec at h;split at h;.exact one k b h
  exact Px (λM b' O=>one M b' O) h
 | .loop c,t,σ,k,b,r,s,h=>by
  unfold exec at h;split at h
  case h_1=>cases h
  rename_i R iu;obtain⟨eX,fu,eW,fe⟩:=CH s h;generalize hz:(λls=>exec X c (restore R ls) λe q=>match e with| .normal=>nX X.ib R q λu=>some (Sum.inl u)|e=>aY (k e q))=f at fe;refine Yx (ι:={p:lZ×Nat//aR f p.2 p.1=some b/\dR X.ib (restore R p.1)}) (λp=>restore R p.1.1) (λp=>p.1.2) ⟨(eX,X.n),fe,eW⟩ fu ?_;rintro⟨⟨ls,n⟩,bX,b1⟩;simp only at bX b1⊢;obtain⟨m,rfl,ai⟩:=aaQ bX;have round:∀x,f ls=some x->ff P X.T X.G N c (restore R ls) (kk X.ib (λe q=>match e with| .normal=>nX X.ib R q λu=>some (Sum.inl u)|e=>aY (k e q)) x):=by intro x U;rw[<-hz]at U;exact mN X F B hH A E c r b1 U
  have go:∀x,f ls=some x->(∀u,x= .inl u->aR f m u=some b)->(∀b',x= .inr b'->b'=b)->ff P X.T X.G N c (restore R ls) (Ca (λq=>∃j:{p:lZ×Nat//aR f p.2 p.1=some b/\dR X.ib (restore R p.1)},eZ q (restore R j.1.1)/\j.1.2<m+1) (kk X.ib k b)):=by
   intro x U ah dT;refine ue (round x U) ?_;rintro e q ⟨τ,g1,g2,g3⟩;have other:∀cC,e=cC->aY (k cC τ)=some x->kk X.ib k b e q:=by rintro cC rfl ai;obtain⟨b',V,rfl⟩:=Pw ai;rw[dT b' rfl]at V;exact⟨τ,g1,g2,V⟩
   cases e with
   |normal=>obtain⟨u,jY,ja,jb⟩:=CH g2 g3;cases jb;exact⟨⟨(u,m),ah u rfl,ja⟩,g1.trans jY,Nat.lt_succ_self m⟩
   |exit id=>exact other _ rfl g3|goto l=>exact other _ rfl g3|ret=>exact other _ rfl g3|panic c=>exact other _ rfl g3|outgrown=>exact other _ rfl g3
  rcases ai with⟨u,V,gf⟩|V;.exact go _ V (by rintro _ ⟨⟩;exact gf) (by rintro _ ⟨⟩)
  exact go _ V (by rintro _ ⟨⟩) (by rintro _ ⟨⟩;rfl)
 | .rangeFunc _ _ _ _,t,σ,k,b,_,s,h=>by cases h
 | .scope c,t,σ,k,b,r,s,h=>Yt (ue (mN X F B hH A E c (by simpa[ll]using r) s h) (by
   rintro e q ⟨τ,g1,g2,g3⟩;cases e with
   |goto l=>cases g3
   |normal=>exact⟨τ,g1,g2,g3⟩|exit id=>exact⟨τ,g1,g2,g3⟩|ret=>exact⟨τ,g1,g2,g3⟩|panic c=>exact⟨τ,g1,g2,g3⟩|outgrown=>exact⟨τ,g1,g2,g3⟩))
 | .goto _,t,σ,k,b,_,s,h=>by cases h
 | .refuse _,t,σ,k,b,_,s,h=>by cases h
end
def Py{P:Program}{T:bC}{G:cj}{N:Nat}{c:Code}{σ:ar}{Q:Exit->ar->Prop}(h:ff P T G N c σ (λe d=>∃τ,eZ d τ/\Q e τ)):ff P T G N c σ Q:=by intro m fr ρ a w o hD p r;refine wp_mono (h m fr ρ a w o hD p r) ?_;rintro e i w' ⟨d,s,g,⟨τ,n,q⟩,ad,ai,j,k,l⟩;obtain⟨f,b,g1,g2,g3⟩:=n s fr g i w' ai;exact⟨τ,f,b,q,Mem.le_trans ad g1,g2,j,k,l.trans g3⟩
def aaR(T:bC)(a:List ResultVar)(e:Exit)(σ:ar):oX:=match e with| .normal=>af (mF T σ a) (toD σ.objs)| .ret=>af (mF T σ a) (toD σ.objs)|_=>none
def pg(X:jl)(fn:Func)(args:List aB):oX:=match fn.body with|some c=>exec X c (start args λ_=>none) (aaR X.T fn.results.toList)|none=>none
def kl(T:bC)(os:Nat->Option lX)(fn:Func):Bool:=match fn.body with|some c=>ll T os fn.ntmps c&&decide (fn.ntmps<10000)&&!(fn.name== "runtime.NumGoroutine")|none=>false
def aaS{g e:List aB}(h:gS (λk=>k) (λ_=>False) g e):eZ (start g λ_=>none) (start e λ_=>none):=by
 intro m fr ρ a w hD;refine⟨m,ρ,Mem.le_refl m,⟨hD.mem,hD.frame,hD.apart,?_,?_,?_,?_,?_⟩,?_⟩;.rintro k ⟨o,l⟩;cases l
 .intro t;have ab:=hD.au t;obtain⟨ad,ai⟩:=h.ok;simp only[start]at ab⊢;cases f:e[t]? with
  |none=>rw[xbe,f];exact .any _
  |some y=>
   obtain⟨x,n,c⟩:=ai t y f;rw[xbe,n]at ab;rw[xbe,f];have i:lb (λk=>k) (ar.used (start e λ_=>none)) x y:=by unfold lb at c⊢;split at c<;>first|exact c|(exact absurd c.2 id)
   exact i.ok (ρ:=ρ) ab
 .intro k o d;cases d
 .intro k o b d;cases d
 .intro k p o o' b _ d;cases d
 intro k _ j;exact absurd j o1
def aaT{P:Program}(X:jl)(m:cU P X.T)(o:fw P X.G X.C)(hH:jD P X.G X.H)(t:P.follows .mixedOrders=true)(s:X.ib=[]){f:FuncId}{fn:Func}(q:P.funcs[f]?=some fn)(b:kl X.T X.l4 fn=true){i:lZ}{as:List aB}(j:gS (λk=>k) (λ_=>False) (i.map .d) as)(a:decide (i.length<=fn.ntmps)=true){r:D} (h:pg X fn as=some r):cF P X.G f i (·=r):=by
 have a:=xbg a;unfold pg at h;unfold kl at b;split at h
 case h_2=>cases h
 rename_i c n;simp only[n,xam,xaF,xcr]at b;refine Yz m q n b.2 a ?_;refine HU (aaS j) ?_;refine Py (ue (mN X m o hH t b.1.2 c b.1.1 (by intro k _ p;exact absurd p o1) h) ?_);rintro e w ⟨τ,g1,g2,g3⟩;have fin:af (mF X.T τ fn.results.toList) (toD τ.objs)=some r->∃g d x,mF X.T τ fn.results.toList=some g/\toD τ.objs g=some d/\d.le x/\x=r:=by intro ab;obtain⟨u,ad,ai⟩:=cR ab;exact⟨u,r,r,ad,ai,D.le_refl _,rfl⟩
 refine⟨τ,g1,?_⟩;cases e with
 |normal=>exact⟨.inl rfl,fin g3⟩|ret=>exact⟨.inr rfl,fin g3⟩|exit id=>cases g3
 |goto l=>cases g3
 |panic c=>cases g3
 |outgrown=>cases g3
def CW(s:eN)(ls:lZ):ar:=⟨λt=>(s.qA ls).getD t .any,dg (s.kj ls)⟩
def aaU(X:jl)(s:eN)(lh:List qu)(a:List ResultVar)(e:Exit)(σ:ar):oY:=match e with
 | .normal=>af (mF X.T σ a) λx=>nX X.ib ⟨[(0,s.res)],s.outs,lh⟩ ⟨λt=>if t=0 then x else .any,σ.objs⟩ some
 | .ret=>af (mF X.T σ a) λx=>nX X.ib ⟨[(0,s.res)],s.outs,lh⟩ ⟨λt=>if t=0 then x else .any,σ.objs⟩ some
 |_=>none
def I3(X:jl)(fn:Func)(s:eN)(lh:List qu)(ls:lZ):oY:=match fn.body with|some c=>exec X c (CW s ls) (aaU X s lh fn.results.toList)|none=>none
def aaV{P:Program}(X:jl)(U:cU P X.T)(ck:fw P X.G X.C)(hH:jD P X.G X.H)(cT:P.follows .mixedOrders=true){s:eN}{fn:Func}(W:P.funcs[s.f]?=some fn)(b:kl X.T X.l4 fn=true)(i:decide (s.args.length<=fn.ntmps)=true) (M:(s.ins.all λp=>decide (p.1<10000)||X.ib.contains p.1)=true) {lh:List qu} {F:lZ->oY} (h:∀ls a,F ls=some a->I3 X fn s lh ls=some a):qB P X.G s F:=by
 have i:=xbg i;unfold kl at b;split at b
 case h_2=>cases b
 rename_i c y;simp only[xam,xaF,xcr]at b;refine⟨⟨fn,W,b.2,by rw[y];rfl⟩,?_⟩;intro ls a cA m fr ρ w vs cC hD ah j;have E:=h ls a cA;unfold I3 at E;rw[y]at E;simp only at E;have cy:(s.qA ls).length=s.args.length:=by
  have:∀(l:List SW)(n:Nat),(mK ls l n).1.length=l.length:=by
   intro l
   induction l with
   |nil=>intro n;rfl
   |cons x r ih=>intro n;simp[mK,ih]
  exact this _ _
 have J:dR X.ib (CW s ls):=by
  intro k B y;obtain⟨cs,L⟩:=tY y;have:=qo L;have ab:je (s.kj ls)=s.ins.map (·.1):=r9 _ _ _;rw[ab]at this;obtain⟨p,dc,rfl⟩:=xaK.1 this;have ad:=xay.1 M p dc;simp only[xbk,xaF,List.contains_eq_mem]at ad;rcases ad with ad|ad
  .exact absurd ad (Nat.not_lt.2 B)
  exact ad
 have dE:=mN X U ck hH cT b.1.2 c b.1.1 J E;refine calls_of_wp W y ?_;have z:Den m fr ρ (CW s ls) {tmps:=vs.toArray++Array.replicate (fn.ntmps-vs.toArray.size) undef,defers:=[]} w:=by
  refine⟨hD.mem,hD.frame,hD.apart,hD.one,?_,hD.objs,hD.own,hD.sep⟩;intro t;simp only[CW];by_cases q:t<vs.length
  .have N:t<(s.qA ls).length:=by rw[<-ah];exact q
   have V:=xaa N;have cK:=xaa q;have I:(s.qA ls).getD t .any=(s.qA ls)[t]:=by rw[xbe,V];rfl
   have bX:(vs.toArray++Array.replicate (fn.ntmps-vs.toArray.size) undef).getD t undef=vs[t]:=by rw[xbj,xbt (by simpa using q)];simp[q]
   rw[I,bX];exact j t _ _ V cK
  have I:(s.qA ls).getD t .any= .any:=by rw[xbe,xaH oZ];rfl
  rw[I];exact .any _
 have Q:fn.ntmps<=(vs.toArray++Array.replicate (fn.ntmps-vs.toArray.size) undef).size:=uZ
 refine wp_mono (Py dE m fr ρ _ w cC z Q rfl) ?_;rintro e S w' ⟨d,Y,A,⟨g2,g3⟩,b4,g,eL,b3,b1⟩;have fin:(af (mF X.T d fn.results.toList) λx=>nX X.ib ⟨[(0,s.res)],s.outs,lh⟩ ⟨λt=>if t=0 then x else .any,d.objs⟩ some)=some a->S.defers=[]/\∃v,(results fn S.tmps).run P w'= .ok v w'/\∃Z m1 u,Ending.returned v= .returned Z/\m.le m1/\pe m1 fr u (dg (s.lk a)) w'/\bA m1 u (mL (dg (s.lk a))) (s.CL a) Z/\∀k,10000<=k->dp (dg (s.kj ls) k)->u k=ρ k:=by
  intro ab;obtain⟨x,ad,ai⟩:=cR ab;obtain⟨v,dD,eX⟩:=NS (P:=P) U g ad;obtain⟨dT,c5,dk,ek⟩:=CH (σ:=⟨λt=>if t=0 then x else .any,d.objs⟩) g2 ai;cases ek;have o:Den Y fr A ⟨λt=>if t=0 then x else .any,d.objs⟩ {tmps:= #[v],defers:=[]} w':=by
   refine⟨g.mem,g.frame,g.apart,g.one,?_,g.objs,g.own,g.sep⟩;intro t;by_cases q:t=0;.subst q;exact eX
   simp only[q,xaG];exact .any _
  obtain⟨m2,R,t1,t2,t3⟩:=c5 Y fr A _ w' o;have O:=t2.au 0;refine⟨b3,v,dD,v,m2,R,rfl,Mem.le_trans b4 t1,⟨t2.mem,t2.frame,t2.apart,t2.one,λ_=> .any _,t2.objs,t2.own,t2.sep⟩,?_,?_⟩
  .exact O
  intro k B K;obtain⟨cr,cV⟩:=b1 k B K;rw[(t3 k B cr).2,cV]
 cases e with
 |normal=>exact fin g3|ret=>exact fin g3|exit id=>cases g3
 |goto l=>cases g3
 |panic c=>cases g3
 |outgrown=>cases g3
def aaW{P:Program}{T:bC}{os:Nat->Option lX}{f:FuncId}{fn:Func}(d:P.funcs[f]?=some fn)(a:kl T os fn=true):qf P f:=by
 unfold kl at a;split at a
 case h_2=>cases a
 rename_i c b;simp only[xam,xaF,xcr]at a;exact⟨fn,d,a.2,by rw[b];rfl⟩
def se{P:Program}{G:cj}{s:eN}{F:lZ->oY}(a:qf P s.f)(h:∀ls,F ls=none):qB P G s F:=⟨a,λls c b=>by rw[h]at b;cases b⟩
def dq:List (Tmp×uy)->qD
 |[],_=>none|(t',e)::r,t=>if t=t' then some e else dq r t
def aaX{P:Program}{G:cj}:jD P G (dq []):=by intro t e h;cases h
def aaY{P:Program}{G:cj}{t:Tmp}{e:uy}{l:List (Tmp×uy)}(h:qB P G e.s e.F)(c:jD P G (dq l)):jD P G (dq ((t,e)::l)):=by
 intro t' b a;unfold dq at a;split at a;.cases a;exact h
 exact c t' b a
def dI:List (Nat×List (List Key))->Nat->List (List Key)
 |[],_=>[]|(j,s)::r,k=>if k=j then s else dI r k
def dO(l:List Tmp)(t:Tmp):Bool:=l.contains t
def fx:List (FuncId×(lZ->oX))->hV
 |[],_,_,_=>none|(b,F)::r,d,f,a=>if f=b then F a else fx r d f a
def ln(P:Program)(G:cj)(f:FuncId)(F:lZ->oX):Prop:=∀a r,F a=some r->cF P G f a (·=r)
def aaZ{P:Program}{G:cj}:fw P G (fx []):=by intro d f a r h;cases h
def aa0{P:Program}{G:cj}{f:FuncId}{F:lZ->oX}{l:List (FuncId×(lZ->oX))}(h:ln P G f F)(g:fw P G (fx l)):fw P G (fx ((f,F)::l)):=by
 intro d c b r a;unfold fx at a;split at a;.rename_i e;subst e;exact h b r a
 exact g d c b r a
def bF:List (Nat×jC)->Nat->Option jC
 |[],_=>none|(j,s)::r,k=>if k=j then some s else bF r k
def dJ:List (Nat×lX)->Nat->Option lX
 |[],_=>none|(j,s)::r,k=>if k=j then some s else dJ r k
def sf(f:FuncId)(x:D):Bool:=match x with| .val (.func (.func c) a b)=>c==f&&a.size==0&&b.size==0|_=>false
def Pz{f:FuncId}{x:D}(h:sf f x=true):x= .val (.func (.func f) #[] #[]):=by
 unfold sf at h;split at h;.rename_i c a b;simp only[xam,xbQ]at h;obtain⟨⟨rfl,ab⟩,ad⟩:=h;rw[xbp ab,xbp ad]
 cases h
def fM(f:FuncId)(x:D):oY:=match x with
 | .fn (.func b) first a=>if b=f/\first.isEmpty=true then some a else none
 |_=>none
def gU{f:FuncId}{x:D}{a:lZ}(h:fM f x=some a):x= .fn (.func f) [] a:=by
 unfold fM at h;split at h
 .split at h;.rename_i b;cases h;rw[b.1,List.isEmpty_iff.1 b.2]
  cases h
 cases h
def le_nil:gS (λk=>k) (λ_=>False) (List.map aB.d []) []:=trivial
def fg{x:D}{y:aB}{a:lZ}{b:List aB}(h:lb (λk=>k) (λ_=>False) (.d x) y)(c:gS (λk=>k) (λ_=>False) (List.map aB.d a) b):gS (λk=>k) (λ_=>False) (List.map aB.d (x::a)) (y::b):=⟨h,c⟩
def aa1{x:D}:lb (λk=>k) (λ_=>False) (.d x) (.d x):=⟨x,rfl,D.le_refl x⟩
theorem fo{c:lZ}{o:Nat}:lb (λk=>k) (λ_=>False) (.d (.ref c o)) (.cH c o):= .inr rfl
def aq(t:Nat):Nat×SW:=(t,.b .d)
def sp(t:Nat):Nat×SW:=(t,.b (.ptr t 0))
def aX(t k:Nat):Nat×SW:=(t,.b (.row k))
def aV(k n:Nat):Key×iH:=(k,.box (List.replicate n (.b .d)))
def aJ(k n:Nat):Key×iH:=(k,.row n)
def lp(l:lX):jC:=⟨l.map λv=>if v<1000 then aq v else sp (v/1000),(l.filter λv=>decide (1000<=v)).map λv=>aV (v/1000) (v%1000),[]⟩
def aa2(b:Bool)(k:Nat):Nat:=if b&&decide (1000<=k)&&decide (k<1000000)then k*1000 else k
def bz(b:Bool)(l:List (lX×jC)):List (Nat×jC):=l.flatMap λp=>p.1.map λk=>(aa2 b k,p.2)
def bS(b:Bool)(l:List (lX×lX)):List (Nat×jC):=bz b (l.map λp=>(p.1,lp p.2))
def aa3(P:Program)(G:cj)(n:Nat)(c:List (FuncId×(lZ->oX)))(l j b:List (Nat×jC)):jl:=⟨dm P,G,fx c,n,[],bF l,bF j,bF b,dJ [],dq [],dO [],dI []⟩
def cW{P:Program}(X:jl)(j:cU P X.T)(i:fw P X.G X.C)(hH:jD P X.G X.H)(n:P.follows .mixedOrders=true){f:FuncId}{fn:Func}(m:P.funcs[f]?=some fn){b:lZ}{as:List aB}(e:gS (λk=>k) (λ_=>False) (b.map .d) as) {o:oX} {r:D} (h:o=some r) (c:X.ib=[]:=by rfl) (g:kl X.T X.l4 fn=true:=by kernel_rfl) (a:decide (b.length<=fn.ntmps)=true:=by kernel_rfl) (l:pg X fn as=o:=by kernel_rfl):cF P X.G f b (·=r):=aaT X j i hH n c m g e a (l.trans h)
def jE{P:Program}(X:jl)(g:cU P X.T)(e:fw P X.G X.C)(hH:jD P X.G X.H)(j:P.follows .mixedOrders=true){s:eN}{fn:Func}(i:P.funcs[s.f]?=some fn)(lh:List qu){F:lZ->oY}(c:kl X.T X.l4 fn=true:=by kernel_rfl)(a:decide (s.args.length<=fn.ntmps)=true:=by kernel_rfl) (b:(s.ins.all λp=>decide (p.1<10000)||X.ib.contains p.1)=true:=by kernel_rfl) (h:∀ls,I3 X fn s lh ls=F ls:=by intros;kernel_rfl):qB P X.G s F:=aaV X g e hH j i c a b λls k d=>(h ls).trans d
def br{x:D}{a:lZ}{b:List aB}(h:gS (λk=>k) (λ_=>False) (List.map aB.d a) b):gS (λk=>k) (λ_=>False) (List.map aB.d (x::a)) (.d x::b):=fg aa1 h class sg (P:Program) (X:jl):Prop where
 t:cU P X.T
 c:fw P X.G X.C
 h:jD P X.G X.H
 m:P.follows .mixedOrders=true
def iv(P:Program)(f:FuncId)(h:(P.funcs[f]?).isSome=true):Func:=(P.funcs[f]?).get h
def uE{P:Program}{f:FuncId}{h:(P.funcs[f]?).isSome=true}:P.funcs[f]?=some (iv P f h):=by unfold iv;rw[Option.some_get]
def yj(g:oX):lZ->oX
 |[]=>g|_=>none
@[simp] theorem aa4 {g:oX}:yj g []=g:=rfl
def uk{P:Program}(X:jl)[S:sg P X]{f:FuncId}{g:oX}(aj:(P.funcs[f]?).isSome=true:=by kernel_rfl)(b:X.ib=[]:=by rfl)(d:kl X.T X.l4 (iv P f aj)=true:=by kernel_rfl)(a:decide (0<=(iv P f aj).ntmps)=true:=by kernel_rfl)(e:pg X (iv P f aj) []=g:=by intros;kernel_rfl):ln P X.G f (yj g):=by
 intro i r h;unfold yj at h;split at h
 case h_2=>cases h
 exact cW X S.t S.c S.h S.m uE le_nil h b d a e
def cO(g:D->oX):lZ->oX
 |[a0]=>g a0|_=>none
@[simp] theorem km {g:D->oX} {a0:D}:cO g [a0]=g a0:=rfl
def bR{P:Program}(X:jl)[S:sg P X]{f:FuncId}{g:D->oX}(aj:(P.funcs[f]?).isSome=true:=by kernel_rfl)(b:X.ib=[]:=by rfl)(e:kl X.T X.l4 (iv P f aj)=true:=by kernel_rfl)(a:decide (1<=(iv P f aj).ntmps)=true:=by kernel_rfl)(i:∀a0,pg X (iv P f aj) [.d a0]=g a0:=by intros;kernel_rfl):ln P X.G f (cO g):=by
 intro j r h;unfold cO at h;split at h
 case h_2=>cases h
 exact cW X S.t S.c S.h S.m uE (br le_nil) h b e a (i _)
def db(g:D->D->oX):lZ->oX
 |[a0,aG]=>g a0 aG|_=>none
@[simp] theorem sh {g:D->D->oX} {a0 aG:D}:db g [a0,aG]=g a0 aG:=rfl
def cx{P:Program}(X:jl)[S:sg P X]{f:FuncId}{g:D->D->oX}(aj:(P.funcs[f]?).isSome=true:=by kernel_rfl)(b:X.ib=[]:=by rfl)(e:kl X.T X.l4 (iv P f aj)=true:=by kernel_rfl)(a:decide (2<=(iv P f aj).ntmps)=true:=by kernel_rfl)(i:∀a0 aG,pg X (iv P f aj) [.d a0,.d aG]=g a0 aG:=by intros;kernel_rfl):ln P X.G f (db g):=by
 intro j r h;unfold db at h;split at h
 case h_2=>cases h
 exact cW X S.t S.c S.h S.m uE (br (br le_nil)) h b e a (i _ _)
def gV(g:D->D->D->oX):lZ->oX
 |[a0,aG,a2]=>g a0 aG a2|_=>none
@[simp] theorem aa5 {g:D->D->D->oX} {a0 aG a2:D}:gV g [a0,aG,a2]=g a0 aG a2:=rfl
def fy{P:Program}(X:jl)[S:sg P X]{f:FuncId}{g:D->D->D->oX}(aj:(P.funcs[f]?).isSome=true:=by kernel_rfl)(b:X.ib=[]:=by rfl)(e:kl X.T X.l4 (iv P f aj)=true:=by kernel_rfl)(a:decide (3<=(iv P f aj).ntmps)=true:=by kernel_rfl)(i:∀a0 aG a2,pg X (iv P f aj) [.d a0,.d aG,.d a2]=g a0 aG a2:=by intros;kernel_rfl):ln P X.G f (gV g):=by
 intro j r h;unfold gV at h;split at h
 case h_2=>cases h
 exact cW X S.t S.c S.h S.m uE (br (br (br le_nil))) h b e a (i _ _ _)
def ph(g:D->D->D->D->oX):lZ->oX
 |[a0,aG,a2,a3]=>g a0 aG a2 a3|_=>none
@[simp] theorem aa6 {g:D->D->D->D->oX} {a0 aG a2 a3:D}:ph g [a0,aG,a2,a3]=g a0 aG a2 a3:=rfl
def uF{P:Program}(X:jl)[S:sg P X]{f:FuncId}{g:D->D->D->D->oX}(aj:(P.funcs[f]?).isSome=true:=by kernel_rfl)(b:X.ib=[]:=by rfl)(e:kl X.T X.l4 (iv P f aj)=true:=by kernel_rfl)(a:decide (4<=(iv P f aj).ntmps)=true:=by kernel_rfl)(i:∀a0 aG a2 a3,pg X (iv P f aj) [.d a0,.d aG,.d a2,.d a3]=g a0 aG a2 a3:=by intros;kernel_rfl):ln P X.G f (ph g):=by
 intro j r h;unfold ph at h;split at h
 case h_2=>cases h
 exact cW X S.t S.c S.h S.m uE (br (br (br (br le_nil)))) h b e a (i _ _ _ _)
def CX(g:D->D->D->D->D->oX):lZ->oX
 |[a0,aG,a2,a3,a4]=>g a0 aG a2 a3 a4|_=>none
@[simp] theorem aa7 {g:D->D->D->D->D->oX} {a0 aG a2 a3 a4:D}:CX g [a0,aG,a2,a3,a4]=g a0 aG a2 a3 a4:=rfl
def aa8{P:Program}(X:jl)[S:sg P X]{f:FuncId}{g:D->D->D->D->D->oX}(aj:(P.funcs[f]?).isSome=true:=by kernel_rfl)(b:X.ib=[]:=by rfl)(e:kl X.T X.l4 (iv P f aj)=true:=by kernel_rfl)(a:decide (5<=(iv P f aj).ntmps)=true:=by kernel_rfl)(i:∀a0 aG a2 a3 a4,pg X (iv P f aj) [.d a0,.d aG,.d a2,.d a3,.d a4]=g a0 aG a2 a3 a4:=by intros;kernel_rfl):ln P X.G f (CX g):=by
 intro j r h;unfold CX at h;split at h
 case h_2=>cases h
 exact cW X S.t S.c S.h S.m uE (br (br (br (br (br le_nil))))) h b e a (i _ _ _ _ _)
def aa9(g:D->D->D->D->D->D->oX):lZ->oX
 |[a0,aG,a2,a3,a4,a5]=>g a0 aG a2 a3 a4 a5|_=>none
@[simp] theorem aba {g:D->D->D->D->D->D->oX} {a0 aG a2 a3 a4 a5:D}:aa9 g [a0,aG,a2,a3,a4,a5]=g a0 aG a2 a3 a4 a5:=rfl
def abb(g:D->D->D->D->D->D->D->oX):lZ->oX
 |[a0,aG,a2,a3,a4,a5,a]=>g a0 aG a2 a3 a4 a5 a|_=>none
@[simp] theorem anO {g:D->D->D->D->D->D->D->oX} {a0 aG a2 a3 a4 a5 a:D}:abb g [a0,aG,a2,a3,a4,a5,a]=g a0 aG a2 a3 a4 a5 a:=rfl
def si{P:Program}{T:bC}{os:Nat->Option lX}{f:FuncId}{fn:Func}(h:P.funcs[f]?=some fn)(a:kl T os fn=true:=by kernel_rfl):qf P f:=aaW h a
section
variable{β:Type}
abbrev cb(x:D)(m:oX)(k:D->Option β):Option β:=af (cE x true m) λv=>af (en x v (aF false)) k
abbrev c0(x:D)(m:oX)(k:D->Option β):Option β:=af (cE x false m) λv=>af (en x (aF true) v) k
abbrev aT(m:oX):oX:=af m λv=>some v
abbrev aN(o:BinOp)(a b:D)(k:D->Option β):Option β:=af (aW false o a b) k
abbrev bM(a b:D)(k:D->Option β):Option β:=af (ba 1 a b) λc=>af (aQ false 1 0 c) k
abbrev cu(x:D)(j:Nat)(k:D->Option β):Option β:=af ((aE x)[j]?) λc=>af (aQ false 1 0 c) k
abbrev bf(x:D)(k:D->Option β):Option β:=af (dN x) k
abbrev aM(n:Nat)(x:D)(k:Option β):Option β:=bJ (cz n x) k
abbrev av(l:lZ):Option (lZ⊕β):=some (.inl l)
abbrev ay(x:D):D:= .aw 1 (aE x)
abbrev aL(o:BinOp)(a b:D)(x y:Option β):Option β:=aN o a b λv=>a6 v x y
abbrev dd(m:oX)(x y:Option β):Option β:=af m λv=>a6 v x y
abbrev a7:D:= .val (.slice none 0 0)
abbrev al:D:=aa 0
abbrev bE:D:=aa 1
abbrev bo:D:=aF false
abbrev cf:D:=aF true
abbrev bs(x:D)(k:D->Option β):Option β:=aN .add x (aa 1) k
abbrev bT(x:D)(k:D->Option β):Option β:=af (e0 0 x) k
abbrev bU(x:D)(k:D->Option β):Option β:=af (e0 1 x) k
abbrev cm(y i:D)(k:Nat->Option β):Option β:=af (cI (aE y).length i) k
abbrev bu(x:D)(k:Option β):Option β:=bJ (c7 x) k
abbrev bw(l:lZ):Option (lZ⊕(lZ⊕β)):=aY (av l)
abbrev b7(x:D):D:= .agg [ae x 0,ae x 1,ae x 2,ae x 3]
abbrev eo(x:D):D:= .agg [ae x 0,ae x 1,ae x 2,ae x 3,ae x 4,ae x 5,ae x 6,ae x 7]
end
attribute [simp, go_sem] cb c0 aT aL dd a7 al bE bo cf bs bT bU cm bu bw aN bM cu bf aM av ay b7 eo
attribute [go_sem] aa4 km sh aa5 aa6 aa7 aba
def uG(i:Nat):List (FuncId×(lZ->oX))->lZ->oX
 |[],_=>none|(f,F)::l,a=>match(a[i]?).bind (fM f)with|some _=>F a|none=>uG i l a
def abc{P:Program}{G:cj}{f:FuncId}{i:Nat}:ln P G f (uG i []):=by intro a r h;cases h
def uH{P:Program}{G:cj}{f g:FuncId}{i:Nat}{F:lZ->oX}{l:List (FuncId×(lZ->oX))}(h:ln P G f F)(b:ln P G f (uG i l)):ln P G f (uG i ((g,F)::l)):=by
 intro c r a;unfold uG at a;split at a;.exact h _ _ a
 exact b _ _ a
@[congr] def anP {a b:Type} {x y:Option a} {f:a->Option b} (h:x=y):af x f=af y f:=by rw[h]
@[simp] theorem cL {b c:Type} {a:b} {f:b->Option c}:af (some a) f=f a:=rfl
@[simp] theorem anQ {a b:Type} {f:a->Option b}:af (none:Option a) f=none:=rfl
@[congr] def anR {a:Type} {c d:Bool} {p:Option a} (h:c=d):bJ c p=bJ d p:=by rw[h]
@[simp] theorem l5 {a:Type} {p:Option a}:bJ true p=p:=rfl
@[simp] theorem anS {a:Type} {p:Option a}:bJ false p=none:=rfl
@[congr] def anT {a:Type} {x y:D} {p q:Option a} (h:x=y):a6 x p q=a6 y p q:=by rw[h]
@[simp] theorem iI {a:Type} {b:Bool} {p q:Option a}:a6 (aF b) p q=if b=true then p else q:=by cases b<;>rfl
@[congr] def anU {x y:D} {w:Bool} {p:oX} (h:x=y):cE x w p=cE y w p:=by rw[h]
@[simp] theorem pj {b w:Bool} {p:oX}:cE (aF b) w p=if b=w then p else some hB:=rfl
@[simp] theorem anV {a:Type} {b w:Bool} {p q:Option a}:r4 (aF b) w p q=if b=w then p else q:=rfl
@[simp] theorem anW {a:Type} {w:Bool} {p q:Option a}:r4 hB w p q=q:=rfl
@[simp] theorem anX {w:Bool} {p:oX}:cE hB w p=some hB:=rfl
@[simp] theorem pk {t:Bool} {a b:D}:en (aF t) a b=some (if t=true then a else b):=rfl
@[simp] theorem PA {c:Prop} [Decidable c] {a b:Bool}:(if c then aF a else aF b)=aF (if c then a else b):=by split<;>rfl
@[simp] theorem I4 {d:Type} {c:Prop} [Decidable c] {a b:d}:(if c then some a else some b)=some (if c then a else b):=by split<;>rfl
@[simp] theorem anY {e:Type} {c:Prop} [Decidable c] {a b d:e}:(if c then(if c then a else b)else d)=if c then a else d:=by split<;>simp_all
@[simp] theorem I5 {a:Type} {b:a}:aY (some b)=some (.inr b):=rfl
@[simp] theorem anZ {a:Type}:aY (none:Option a)=none:=rfl
@[simp] theorem l6 {a:Type} {f:lZ->Option a} {ls:lZ}:aI f (.inl ls)=f ls:=rfl
@[simp] theorem yk {a:Type} {f:lZ->Option a} {b:a}:aI f (.inr b)=some b:=rfl
@[simp] theorem l7 {x:D} {l:lZ}:bG (x::l) 0=x:=rfl
@[simp] theorem mO {x:D} {l:lZ} {n:Nat}:bG (x::l) (n+1)=bG l n:=rfl
@[simp] theorem abd {k:Nat} {es:mW}:aE (.aw k es)=es:=rfl
@[simp] theorem abe {es:List (Value×D)}:dU (.mp es)=es:=rfl
@[simp] theorem abf {cs:lZ}:dM (.agg cs)=cs:=rfl
@[simp] theorem an0 {cs:lZ} {i:Nat}:ae (.agg cs) i=cs.getD i hB:=rfl
@[simp] theorem I6 {n:Int}:c7 (aa n)=true:=rfl
@[simp] theorem abg {n:Bool}:c7 (aF n)=true:=rfl
@[simp] theorem abh {n:ByteArray}:c7 (aD n)=true:=rfl
@[simp] theorem abi {k:Nat} {es:mW}:c7 (.aw k es)=true:=rfl
@[simp] theorem an1 {es:List (Value×D)}:c7 (.mp es)=true:=rfl
@[simp] theorem abj:c7 (.val (.slice none 0 0))=true:=rfl
@[simp] theorem abk {n:Int}:(aa n).one=true:=rfl
@[simp] theorem abl {n:Bool}:(aF n).one=true:=rfl
@[simp] theorem abm {n:ByteArray}:(aD n).one=true:=rfl
@[simp] theorem abn {k:Nat} {es:mW}:(D.aw k es).one=true:=rfl
@[simp] theorem abo:(D.val (.slice none 0 0)).one=true:=rfl
@[simp] theorem an2 {n:Nat} {cs:lZ}:cz n (.agg cs)=(cs.length==n&&cs.all D.one):=rfl
@[simp] theorem an3:jv (.val (.slice none 0 0))=true:=rfl
@[simp] theorem gu {n off:Nat} {cs:lZ}:aQ false n off cs=cs[off]?:=rfl
theorem sj{n off:Nat}{cs:lZ}:aQ true n off cs=if off+n<=cs.length then some (.agg ((cs.drop off).take n))else none:=rfl
@[simp] theorem PB {a:Bool} {n off:Nat} {cs:lZ}:jg a n off (.agg cs)=aQ a n off cs:=rfl
@[simp] theorem I7 {i:Nat} {vs:lZ}:e0 i (.aC vs)=vs[i]?:=rfl
@[simp] theorem abp {k:Nat} {es:mW}:dN (.aw k es)=some (aa es.length):=rfl
@[simp] theorem abq:dN (.val (.slice none 0 0))=some (aa 0):=rfl
@[simp] theorem I8 {s:ByteArray}:lg (aD s)=some (aa s.size):=rfl
@[simp] theorem PC {k:Nat} {es:mW} {i:Nat}:ba k (.aw k es) (aa (i:Int))=es[i]?:=by simp[ba,aa]
@[simp] theorem an4 {k:Nat} {es:mW}:ba k (.aw k es) (aa 0)=es[0]?:=by simp[ba,aa]
def I9{n:Nat}{i:Int}(h:0<=i)(a:i<n):cI n (aa i)=some i.toNat:=by simp[cI,aa,h,a]
@[simp] theorem jF {n i:Nat}:cI n (aa (i:Int))=if i<n then some i else none:=by simp[cI,aa]
@[simp] theorem abr {k:Nat} {es:mW}:jw (.aw k es)=some (k,es):=rfl
@[simp] theorem an5:jw (.val (.slice none 0 0))=some (0,[]):=rfl
def sk{n b:Nat}(ab:n*b<=140737488355328)(ad:n<=4611686018427387904):b2 n b=true:=by simp[b2,ab,ad]
section
variable{bt:Bool}{a b:Int}
@[simp] theorem CY:aW bt .lss (aa a) (aa b)=some (aF (decide (a<b))):=rfl
@[simp] theorem CZ:aW bt .leq (aa a) (aa b)=some (aF (decide (a<=b))):=rfl
@[simp] theorem lq:aW bt .gtr (aa a) (aa b)=some (aF (decide (a>b))):=rfl
@[simp] theorem yl:aW bt .geq (aa a) (aa b)=some (aF (decide (a>=b))):=rfl
@[simp] theorem uI:aW bt .eql (aa a) (aa b)=some (aF (a==b)):=rfl
@[simp] theorem uJ:aW bt .neq (aa a) (aa b)=some (aF (a !=b)):=rfl
theorem C0:aW bt .add (aa a) (aa b)=some (aa (IntKind.i64.wrap (a+b))):=rfl
theorem Ja:aW bt .sub (aa a) (aa b)=some (aa (IntKind.i64.wrap (a-b))):=rfl
theorem abt:aW bt .mul (aa a) (aa b)=some (aa (IntKind.i64.wrap (a*b))):=rfl
def dw(ab:-9223372036854775808<=a+b)(ad:a+b<=9223372036854775807):aW bt .add (aa a) (aa b)=some (aa (a+b)):=by rw[C0,wrap64 _ ab ad]
def j4(ab:-9223372036854775808<=a-b)(ad:a-b<=9223372036854775807):aW bt .sub (aa a) (aa b)=some (aa (a-b)):=by rw[Ja,wrap64 _ ab ad]
def qF(ab:-9223372036854775808<=a*b)(ad:a*b<=9223372036854775807):aW bt .mul (aa a) (aa b)=some (aa (a*b)):=by rw[abt,wrap64 _ ab ad]
def PD(h:b≠0):aW bt .quo (aa a) (aa b)=some (aa (IntKind.i64.wrap (a.tdiv b))):=by simp[aW,xM,aa,h,kL]
def ym(h:b≠0):aW bt .rem (aa a) (aa b)=some (aa (a.tmod b)):=by simp[aW,xM,aa,h,kL]
@[simp] theorem Jb {x y:ByteArray}:aW bt .eql (aD x) (aD y)=some (aF (decide (x=y))):=rfl
@[simp] theorem PE {x y:ByteArray}:aW bt .neq (aD x) (aD y)=some (aF (!decide (x=y))):=rfl
@[simp] theorem abu {x y:ByteArray}:aW bt .lss (aD x) (aD y)=some (aF (blt x y)):=rfl
@[simp] theorem Jc {x y:ByteArray}:aW bt .gtr (aD x) (aD y)=some (aF (!(blt x y||decide (x=y)))):=rfl
@[simp] theorem an6 {x y:Bool}:aW true .eql (aF x) (aF y)=some (aF (x==y)):=rfl
@[simp] theorem abv {x y:Bool}:aW true .neq (aF x) (aF y)=some (aF (x !=y)):=rfl
@[simp] theorem uK {x:Bool}:cd .not (aF x)=some (aF (!x)):=rfl
end
attribute [simp] xbF xct List.getElem?_nil List.getD_cons_zero List.getD_cons_succ
theorem h7{c:Type}{f:lZ->Option (lZ⊕c)}{n:Nat}{ls:lZ}:aR f (n+1) ls=af (f ls) λx=>match x with| .inl a=>aR f n a| .inr b=>some b:=rfl
def PF{a:Type}{f:lZ->Option (lZ⊕a)}(dx:Nat->lZ):∀{m n j:Nat},(∀i,j<=i->i<j+m->f (dx i)=some (.inl (dx (i+1))))->m<=n->aR f n (dx j)=aR f (n-m) (dx (j+m))
 |0,n,j,_,_=>rfl|m+1,0,j,_,h=>absurd h oZ
 |m+1,n+1,j,aj,h=>by
  rw[h7,aj j (xaR j) oZ];simp only[cL];have:=PF (f:=f) dx (m:=m) (n:=n) (j:=j+1) (λi ab ad=>aj i oZ oZ) oZ;rw[this]
  congr 1
  .omega
  congr 1;omega
theorem iJ{a:Type}{f:lZ->Option (lZ⊕a)}{ls:lZ}{n:Nat}{b:a}(dx:Nat->lZ)(m:Nat)(ak:ls=dx 0)(aj:∀i,i<m->f (dx i)=some (.inl (dx (i+1))))(c:f (dx m)=some (.inr b))(e:m<n):aR f n ls=some b:=by subst ak;rw[PF dx (m:=m) (λi _ h=>aj i oZ) oZ];obtain⟨k,d⟩:∃k,n-m=k+1:=⟨n-m-1,by omega⟩;rw[d,h7,xav,c];rfl
end Go.Am
