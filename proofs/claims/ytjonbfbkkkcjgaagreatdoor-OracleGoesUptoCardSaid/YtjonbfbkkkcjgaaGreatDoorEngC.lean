/- An evaluator of code over such values, and that what it answers the code does. No condition. -/
import Derived.Test.YtjonbfbkkkcjgaaGreatDoorEngS
import Derived.KernelRfl
set_option linter.all false
set_option linter.unnecessarySimpa false
namespace Go.Am
def af{b c:Type}(x:Option b)(f:b->Option c):Option c:=match x with|some a=>f a|none=>none
def cN{c d:Type}{x:Option c}{f:c->Option d}{b:d}(h:af x f=some b):∃a,x=some a/\f a=some b:=by
 cases x with
 |none=>cases h
 |some a=>exact⟨a,rfl,h⟩
def bG{a:Type}(c:Bool)(p:Option a):Option a:=match c with|true=>p|false=>none
def gZ{a:Type}{c:Bool}{p:Option a}{b:a}(h:bG c p=some b):c=true/\p=some b:=by
 cases c with
 |false=>cases h
 |true=>exact⟨rfl,h⟩
def aV{a:Type}(x:D)(p q:Option a):Option a:=match x with| .val (.bool true)=>p| .val (.bool false)=>q|_=>none
def A8{a:Type}{x:D}{p q:Option a}{b:a}(h:aV x p q=some b):(x= .val (.bool true)/\p=some b)\/(x= .val (.bool false)/\q=some b):=by
 unfold aV at h;split at h;.exact .inl ⟨rfl,h⟩
 .exact .inr ⟨rfl,h⟩
 cases h
def gn:D:= .val (.tuple #[])
def km:Option ax->oX
 |some (.d r)=>some r|_=>none
def q9{x:Option ax}{r:D}(h:km x=some r):x=some (.d r):=by
 unfold km at h;split at h;.cases h;rfl
 cases h
def dB:D->lZ
 | .agg cs=>cs|_=>[]
def ae(x:D)(i:Nat):D:=(dB x).getD i gn
def aF:D->mW
 | .aw _ es=>es|_=>[]
def dJ:D->List (Value×D)
 | .mp es=>es|_=>[]
def da(x:D):Bool:=x.one
def cw(n:Nat)(x:D):Bool:=match x with| .agg cs=>cs.length==n&&cs.all D.one|_=>false
def iW(x:D):Bool:=match x with| .val (.slice none 0 0)=>true|_=>false
def A9{n:Nat}{x:D}(h:cw n x=true):∃cs,x= .agg cs/\cs.length=n/\cs.all D.one=true:=by
 unfold cw at h;split at h;.rename_i cs;rw[xam,xbQ]at h;exact⟨cs,rfl,h.1,h.2⟩
 cases h
def Xk{n:Nat}{cs:lZ}(h:cs.length=n):((List.range n).map λi=>ax.d (ae (.agg cs) i))=cs.map .d:=by
 apply xbJ;intro i;simp only[xag];by_cases ag:i<n;.rw[xbN ag,xaa oZ];simp[ae,dB,xbc,h,ag]
 rw[xaG uZ,xaG oZ];rfl
def aP(bt:Bool)(op:BinOp)(x y:D):oX:=match x,y with
 | .val (.int k a),.val (.int c b)=>km (match op with
  | .shl=>if b<0 then none else some (.d (.val (.int k (k.wrap (a*2^(min b.toNat k.bits))))))
  | .shr=>if b<0 then none else some (.d (.val (.int k (a.fdiv (2^(min b.toNat k.bits))))))
  |_=>if k=c then wm op k a b else none)
 | .val (.string a),.val (.string b)=>km (FK op a b)| .val (.bool a),.val (.bool b)=>if bt then km (FL op a b)else none
 |_,_=>none
def Xl{T:br}{t:TypeId}{op:BinOp}{x y r:D}(h:aP (wo T t) op x y=some r):pr T op t (.d x) (.d y)=some (.d r):=by
 unfold aP at h;unfold pr;split at h;.have:=q9 h;cases op<;>exact this
 .exact q9 h
 .split at h;.rename_i a;simp only[a,xaE];exact q9 h
  cases h
 cases h
def Gn(l:List TypeDesc)(op:BinOp)(x y:D):oX:=match x,y with| .agg a,.agg b=>km (FM op l a b)|_,_=>none
def Xm{T:br}{t:TypeId}{op:BinOp}{x y r:D}{l:List TypeDesc}(ah:T.eqs t=some l)(h:Gn l op x y=some r):pr T op t (.d x) (.d y)=some (.d r):=by
 unfold Gn at h;split at h;.unfold pr;simp only[ah];exact q9 h
 cases h
def Ba(op:BinOp)(x y:D):oX:=match op with
 | .eql=>if iW y then(match x with| .val (.slice none _ _)=>some (.val (.bool true))| .aw _ (_::_)=>some (.val (.bool false))|_=>none)else none
 | .neq=>if iW y then(match x with| .val (.slice none _ _)=>some (.val (.bool false))| .aw _ (_::_)=>some (.val (.bool true))|_=>none)else none
 |_=>none
def cb(op:UnOp)(x:D):oX:=match op,x with| .not,.val (.bool b)=>some (.val (.bool !b))| .neg,.val (.int k n)=>some (.val (.int k (k.wrap (0-n))))|_,_=>none
def jB(k:IntKind)(x:D):oX:=match x with| .val (.int _ n)=>some (.val (.int k (k.wrap n)))|_=>none
def Mb(x:D):oX:=match x with| .val (.string b)=>some (.val (.string b))|_=>none
def tb(es:mW):oX:=match mS es with|some a=>some (.val (.string (AD a)))|none=>none
def Mc(x:D):oX:=match x with| .aw 1 es=>tb es| .val (.slice none 0 _)=>tb []|_=>none
def dQ(c a b:D):oX:=match c with
 | .val (.bool t)=>some (if t then a else b)
 |_=>none
def aN(agg:Bool)(n off:Nat)(cs:lZ):oX:=match agg with
 |true=>if off+n<=cs.length then some (.agg ((cs.drop off).take n))else none
 |false=>cs[off]?
def iE(agg:Bool)(n off:Nat)(x:D):oX:=match x with| .agg cs=>aN agg n off cs|_=>none
def eK(i:Nat)(x:D):oX:=match x with| .az vs=>vs[i]?|_=>none
def l2(s i:D):oX:=match s,i with| .val (.string s),.val (.int _ n)=>km (AB s n)|_,_=>none
def ld(x:oX)(a:Nat):Option Nat:=match x with
 |none=>some a|some (.val (.int _ n))=>if 0<=n then some n.toNat else none
 |_=>none
theorem Bb(x:oX)(d:Nat):k8 (x.map .d) d=ld x d:=by cases x with|none=>rfl|some x=>cases x<;>first|rfl|(rename_i v;cases v<;>rfl)
def Md(s:D)(lo ag:oX):oX:=match s with
 | .val (.string s)=>match ld ag s.size,ld lo 0 with
  |some h,some l=>if l<=h/\h<=s.size then some (.val (.string (s.extract l h)))else none
  |_,_=>none
 |_=>none
def jC(k:Nat)(x:D)(lo ag:oX):oX:=match x with
 | .aw a es=>match ld ag es.length,ld lo 0 with
  |some h,some l=>if l<=h/\h<=es.length/\a=k then some (.aw a ((es.drop l).take (h-l)))else none
  |_,_=>none
 |_=>none
def h5(n:Nat)(lo ag:oX):Option (Nat×Nat):=match ld ag n,ld lo 0 with
 |some h,some l=>if l<=h/\h<=n then some (l,h-l)else none
 |_,_=>none
def kO(x:D):oX:=match x with| .val (.string s)=>some (.val (.int .i64 s.size))|_=>none
def dK(x:D):oX:=match x with| .aw _ es=>some (.val (.int .i64 es.length))| .val (.slice _ n _)=>some (.val (.int .i64 n))|_=>none
def Me(x:D):oX:=match x with| .val (.map none)=>some (.val (.int .i64 0))| .mp es=>some (.val (.int .i64 es.length))|_=>none
def a8(k:Nat)(x i:D):oY:=match i with
 | .val (.int _ n)=>if 0<=n then(match x with
  | .aw a es=>if a=k then es[n.toNat]? else none
  |_=>none)else none
 |_=>none
def cS(n:Nat)(i:D):Option Nat:=match i with
 | .val (.int _ j)=>if 0<=j/\j<n then some j.toNat else none
 |_=>none
def jR(x:D):Option (Nat×mW):=match x with| .aw k es=>some (k,es)| .val (.slice none 0 _)=>some (0,[])|_=>none
def ht(dU:Bool)(l:lZ):oX:=km (lN dU (l.map .d))
def bZ(n bytes:Nat):Bool:=decide (n*bytes<=140737488355328)&&decide (n<=4611686018427387904)
def fm(bytes:Nat)(l c:D):Option Nat:=match l,c with
 | .val (.int _ l),.val (.int _ c)=>if 0<=l/\l<=c/\(bytes:Int)*c<=281474976710656/\c<=9223372036854775807 then some l.toNat else none
 |_,_=>none
def gA(kind:TypeDesc)(zero:Value)(ok:Bool)(es:List (Value×D))(k:D):oX:=match k with
 | .val a=>match findD kind a es with
  |some (some x)=>some (if ok then .az [x,.val (.bool true)]else x)
  |some none=>some (if ok then .az [lO zero,.val (.bool false)]else lO zero)
  |none=>none
 |_=>none
def iX(x:D):Option (List (Value×D)):=match x with| .val (.map none)=>some []| .mp es=>some es|_=>none
def lf(kind:TypeDesc)(es:List (Value×D))(k x:D):Option (List (Value×D)):=match k with| .val a=>lQ kind a x es|_=>none
section
variable{β:Type}
def wJ:List ax->Option β->Option β
 |[],p=>p| .d a::r,p=>bG (da a) (wJ r p)|x::r,p=>if x.one=true then wJ r p else none
def Gp{p:Option β}{b:β}:∀{cs:List ax},wJ cs p=some b->cs.all ax.one=true/\p=some b
 |[],h=>⟨rfl,h⟩
 |x::r,h=>by
  unfold wJ at h;split at h;.rename_i e;cases e
  .rename_i a g f e;cases e;obtain⟨ab,ad⟩:=gZ h;obtain⟨ai,c⟩:=Gp ad;exact⟨by rw[xba,ai,xby];exact ab,c⟩
  rename_i e;cases e;split at h;.rename_i d;obtain⟨ai,c⟩:=Gp h;exact⟨by rw[xba,ai,xby];exact d,c⟩
  cases h
def tc(n:Nat)(x:ax)(k:List ax->Option β):Option β:=match x with
 | .d a=>match n with|1=>bG (da a) (k [.d a])|_=>bG (cw n a) (k ((List.range n).map λi=> .d (ae a i)))
 | .agg cs=>wJ cs (k cs)|x=>match cellsOf x with|some cs=>k cs|none=>none
def Bc{n:Nat}{x:ax}{k:List ax->Option β}{b:β}(h:tc n x k=some b):∃cs,cellsOf x=some cs/\k cs=some b:=by
 unfold tc at h;split at h
 .rename_i a;split at h
  .obtain⟨ab,ad⟩:=gZ h;refine⟨_,?_,ad⟩;unfold da at ab;unfold cellsOf;split;.rename_i e;cases e;cases ab
   .rename_i e;cases e
   rw[xac (show ax.one (.d a)=true from ab)]
  obtain⟨ab,ad⟩:=gZ h;obtain⟨cs,rfl,f,g⟩:=A9 ab;rw[Xk f]at ad;exact⟨_,by simp only[cellsOf,g,xaE],ad⟩
 .obtain⟨ab,ad⟩:=Gp h;exact⟨_,by simp only[cellsOf,ab,xaE],ad⟩
 split at h;.rename_i cs c;exact⟨cs,c,h⟩
 cases h
def Bd(place:Nat->Option (Nat×Nat))(cells:List ax):List (Nat×ax)->(List ax->Option β)->Option β
 |[],k=>k cells|(i,x)::rest,k=>match place i with|none=>none|some (off,size)=>tc size x λcs=>if cs.length=size/\off+cs.length<=cells.length then Bd place (jN cells off cs) rest k else none
def Mf{place:Nat->Option (Nat×Nat)}:∀{parts:List (Nat×ax)} {cells:List ax} {k:List ax->Option β} {b:β},Bd place cells parts k=some b->∃cs,qW place cells parts=some cs/\k cs=some b
 |[],cells,k,b,h=>⟨cells,rfl,h⟩
 |(i,x)::rest,cells,k,b,h=>by
  unfold Bd at h;split at h;.cases h
  rename_i off size d;obtain⟨cs,ab,ad⟩:=Bc h;split at ad
  case isFalse=>cases ad
  rename_i c;obtain⟨out,ai,a⟩:=Mf ad;exact⟨out,by unfold qW;simp only[d,ab];rw[xac c];exact ai,a⟩
def Be(size:Nat)(n:Nat):List (Nat×ax)->(mW->Option β)->Option β
 |[],k=>k []
 |(i,x)::r,k=>if i=n then tc size x λcs=>match hS cs with
   |some a=>if a.length=size then Be size (n+1) r λl=>k (a::l)else none
   |none=>none
  else none
def Mg{size:Nat}:∀{parts:List (Nat×ax)} {n:Nat} {k:mW->Option β} {b:β},Be size n parts k=some b->∃es,pA size n parts=some es/\k es=some b
 |[],n,k,b,h=>⟨[],rfl,h⟩
 |(i,x)::r,n,k,b,h=>by
  unfold Be at h;split at h
  case isFalse=>cases h
  rename_i ag;obtain⟨cs,ab,ad⟩:=Bc h;split at ad
  case h_2=>cases ad
  rename_i c a;split at ad
  case isFalse=>cases ad
  rename_i ah;obtain⟨es,ai,d⟩:=Mg ad;exact⟨c::es,by unfold pA;simp only[ag,xaE,ab,a,ai,ah],d⟩
end
section
variable{β:Type}
def kn(T:br)(G:ca)(σ:aq)(o:Oper)(k:aq->Option β):Option β:=match eD T G σ o with|some a=>k a|none=>none
def gK(σ:aq)(dst:Option Tmp)(k:aq->Option β)(p:oX):Option β:=af p λv=>k (σ.put dst (.d v))
def iY(T:br)(σ:aq)(dst:Option Tmp)(k:aq->Option β)(r:ax)(a:List (Key×b1)):Option β:=match lR (T.born (dst.getD 9999)) (dst.getD 9999) (r,a)with|(r,a)=>k (aq.put ⟨σ.au,cA σ.objs a⟩ dst r)
def Bf:Option ax->Option oX
 |none=>some none|some (.d a)=>some (some a)|_=>none
theorem Mh{x:Option ax}{y:oX}(h:Bf x=some y):x=y.map .d:=by unfold Bf at h;split at h<;>cases h<;>rfl
def Mi(T:br)(t:TypeId):Bool:=match T t with|some ⟨.slice _,_,_,_⟩=>true|_=>false
def Gq(T:br)(G:ca)(σ:aq)(o:Oper)(op:BinOp)(t:TypeId)(x y:Operand)(k:aq->Option β):Option β:=match bs G σ.au x,bs G σ.au y with
 | .d a,.d b=>match Mi T t with|true=>gK σ o.dst k (Ba op a b)|false=>match T.eqs t with|some l=>gK σ o.dst k (Gn l op a b)|none=>gK σ o.dst k (aP (wo T t) op a b)
 |_,_=>kn T G σ o k
def Gr(T:br)(G:ca)(σ:aq)(o:Oper)(s:TypeId)(x:Operand)(f:Nat)(k:aq->Option β):Option β:=match wu T s f with
 |some (off,i)=>match bs G σ.au x with| .d a=>gK σ o.dst k (iE (oc i.desc) i.size off a)|_=>kn T G σ o k
 |none=>none
def Gs(T:br)(G:ca)(σ:aq)(o:Oper)(t:TypeId)(a:Operand)(k:aq->Option β):Option β:=match T t with
 |some i=>match bs G σ.au a with
  | .cE cs off=>gK σ o.dst k (aN (oc i.desc) i.size off cs)
  | .ek key c c0 off=>match σ.objs key with
   |some (.row b es)=>if c=b then af es[c0]? λe=>gK σ o.dst k (aN (oc i.desc) i.size off e)else none
   |_=>none
  |_=>kn T G σ o k
 |none=>none
def Gt(T:br)(G:ca)(σ:aq)(o:Oper)(t:TypeId)(x c0:Operand)(k:aq->Option β):Option β:=match T t with
 |some ⟨.slice e,_,_,_⟩=>match T e with
  |some b=>match bs G σ.au c0 with
   | .d i=>match bs G σ.au x with
    | .d a=>af (a8 b.size a i) λc=>k (σ.put o.dst (.cE c 0))
    | .row key=>match σ.objs key with
     |some (.row f es)=>if f=b.size then af (cS es.length i) λn=>k (σ.put o.dst (.ek key f n 0))else none
     |_=>none
    | .sub key f i0 len=>if f=b.size then af (cS len i) λn=>k (σ.put o.dst (.ek key f (i0+n) 0))else none
    |_=>none
   |_=>none
  |none=>none
 |some ⟨.array len e,_,_,_⟩=>match T e with
  |some b=>match bs G σ.au c0 with
   | .d i=>af (cS len i) λn=>match wv (bs G σ.au x) (n*b.size)with|some r=>k (σ.put o.dst r)|none=>none
   |_=>none
  |none=>none
 |_=>none
def Gu(T:br)(G:ca)(σ:aq)(o:Oper)(t:TypeId)(x:Operand)(lo ag:Option Operand)(k:aq->Option β):Option β:=match Bf (lo.map (bs G σ.au)),Bf (ag.map (bs G σ.au))with
 |some l,some h=>match T t with
  |some ⟨.string,_,_,_⟩=>match bs G σ.au x with| .d a=>gK σ o.dst k (Md a l h)|_=>none
  |some ⟨.slice e,_,_,_⟩=>match T e with
   |some c=>match bs G σ.au x with
    | .d a=>gK σ o.dst k (jC c.size a l h)
    | .row key=>match σ.objs key with
     |some (.row b es)=>if b=c.size then af (h5 es.length l h) λp=>k (σ.put o.dst (.sub key b p.1 p.2))else none
     |_=>none
    | .sub key b i0 len=>if b=c.size then af (h5 len l h) λp=>k (σ.put o.dst (.sub key b (i0+p.1) p.2))else none
    |_=>none
   |none=>none
  |_=>kn T G σ o k
 |_,_=>none
def Gv(T:br)(G:ca)(σ:aq)(o:Oper)(args:List Operand)(b:List TypeId)(k:aq->Option β):Option β:=match b,args with
 |[t],[x]=>match bs G σ.au x with
  | .d a=>match T t with|some ⟨.string,_,_,_⟩=>gK σ o.dst k (kO a)|some ⟨.slice _,_,_,_⟩=>gK σ o.dst k (dK a)|some ⟨.map _ _,_,_,_⟩=>gK σ o.dst k (Me a)|_=>none
  |_=>kn T G σ o k
 |_,_=>none
def Gw(T:br)(G:ca)(σ:aq)(o:Oper)(args:List Operand)(g:List TypeId)(k:aq->Option β):Option β:=match g,args with
 |[t,t'],[s,x]=>match T t,T t',σ.objs (o.dst.getD 9999)with
  |some ⟨.slice e,_,_,_⟩,some ⟨.slice _,_,_,_⟩,none=>match T e with
   |some b=>
    let go:Nat×mW->Option β:=λp=>bG (decide (p.1=b.size\/p.2=[])&&decide (0<b.size)) (match bs G σ.au s with
     | .d a=>bG (iW a&&bZ p.2.length b.bytes) (iY T σ o.dst k (.row (o.dst.getD 9999)) [(o.dst.getD 9999,.row b.size p.2)])
     | .row key=>match σ.objs key with
      |some (.row c es)=>if c=b.size/\key<10000 then bG (bZ (es.length+p.2.length) b.bytes) (iY T σ o.dst k (.row (o.dst.getD 9999)) [(key,.dead),(o.dst.getD 9999,.row c (es++p.2))])else none
      |_=>none
     |_=>none)
    match bs G σ.au x with
    | .d a=>af (jR a) go
    | .sub key c i len=>match σ.objs key with
     |some (.row f es)=>if c=f then bG (decide (i+len<=es.length)) (go (c,(es.drop i).take len))else none
     |_=>none
    |y=>match iA σ.objs y with|some p=>go p|none=>none
   |none=>none
  |_,_,_=>none
 |_,_=>none
def Gx(T:br)(G:ca)(σ:aq)(o:Oper)(args:List Operand)(g:List TypeId)(k:aq->Option β):Option β:=match g,args with
 |[t,t'],[s,x]=>match T t with
  |some ⟨.slice e,_,_,_⟩=>match T e with
   |some f=>
    let go:Nat×mW->Option β:=λp=>bG (decide (p.1=f.size\/p.2=[])) (match bs G σ.au s with
     | .row key=>match σ.objs key with
      |some (.row b es)=>if b=f.size then iY T σ o.dst k (.d (.val (.int .i64 (min p.2.length es.length:Nat)))) [(key,.row b (p.2.take (min p.2.length es.length)++es.drop (min p.2.length es.length)))]else none
      |_=>none
     | .sub key b i len=>match σ.objs key with
      |some (.row c es)=>if b=f.size/\c=b then bG (decide (i+len<=es.length)) (iY T σ o.dst k (.d (.val (.int .i64 (min p.2.length len:Nat)))) [(key,.row b (es.take i++p.2.take (min p.2.length len)++es.drop (i+min p.2.length len)))])else none
      |_=>none
     |_=>none)
    match bs G σ.au x with
    | .d a=>af (jR a) go
    | .sub key b i len=>match σ.objs key with
     |some (.row c es)=>if b=c then bG (decide (i+len<=es.length)) (go (b,(es.drop i).take len))else none
     |_=>none
    |y=>match iA σ.objs y with|some p=>go p|none=>none
   |none=>none
  |_=>none
 |_,_=>none
def Gy(T:br)(G:ca)(σ:aq)(o:Oper)(args:List Operand)(d:List TypeId)(k:aq->Option β):Option β:=match d,args with
 |[t],[s]=>match T t with
  |some ⟨.slice e,_,_,_⟩=>match T e with
   |some a=>match bs G σ.au s with
    | .sub key b i len=>match σ.objs key with
     |some (.row c es)=>if b=a.size/\c=b/\a.zero.cells.toList.all gX=true then bG (decide (i+len<=es.length)) (iY T σ o.dst k .any [(key,.row b (es.take i++List.replicate len (a.zero.cells.toList.map .val)++es.drop (i+len)))])else none
     |_=>none
    |_=>none
   |none=>none
  |_=>none
 |_,_=>none
def Gz(T:br)(G:ca)(σ:aq)(o:Oper)(t:TypeId)(x i:Operand)(ok:Bool)(k:aq->Option β):Option β:=match T t with
 |some ⟨.map f e,_,_,_⟩=>match T f,T e with
  |some a,some b=>if pt a.desc then(match bs G σ.au i with
   | .d c=>match bs G σ.au x with
    | .d m=>af (iX m) λes=>gK σ o.dst k (gA a.desc b.zero ok es c)| .map key=>match σ.objs key with|some (.map es)=>gK σ o.dst k (gA a.desc b.zero ok es c)|_=>none
    |_=>none
   |_=>none)else none
  |_,_=>none
 |_=>none
def Bg(T:br)(G:ca)(σ:aq)(o:Oper)(t:TypeId)(m i x:Operand)(k:aq->Option β):Option β:=match T t with
 |some ⟨.map b _,_,_,_⟩=>match T b with
  |some a=>if pt a.desc then(match bs G σ.au m,bs G σ.au i,bs G σ.au x with
   | .map key,.d c,.d v=>match σ.objs key with|some (.map es)=>af (lf a.desc es c v) λl=>iY T σ o.dst k .any [(key,.map l)]|_=>none
   |_,_,_=>none)else none
  |none=>none
 |_=>none
def GA(T:br)(G:ca)(σ:aq)(o:Oper)(t:TypeId)(a x:Operand)(k:aq->Option β):Option β:=match T t with
 |some i=>tc i.size (bs G σ.au x) λcs=>if cs.length=i.size then(match bs G σ.au a with
  | .ptr key off=>match σ.objs key with
   |some (.box cells)=>if off+cs.length<=cells.length then iY T σ o.dst k .any [(key,.box (jN cells off cs))]else none
   |_=>none
  | .ek key b c0 off=>match σ.objs key,hS cs with
   |some (.row d es),some c=>if b=d/\off+c.length<=b then af es[c0]? λe=>iY T σ o.dst k .any [(key,.row b (es.set c0 (er e off c)))]else none
   |_,_=>none
  |_=>none)else none
 |none=>none
def GB(T:br)(G:ca)(σ:aq)(o:Oper)(t:TypeId)(parts:Array (Nat×Operand))(k:aq->Option β):Option β:=match FO T t with|some (pl,z)=>Bd pl (zeroCells z) (parts.toList.map λp=>(p.1,bs G σ.au p.2)) λout=>k (σ.put o.dst (sL out))|none=>none
def GC(T:br)(G:ca)(σ:aq)(o:Oper)(t:TypeId)(n:Nat)(parts:Array (Nat×Operand))(k:aq->Option β):Option β:=match T t,σ.objs (o.dst.getD 9999)with
 |some ⟨.slice e,_,_,_⟩,none=>match T e with
  |some a=>Be a.size 0 (parts.toList.map λp=>(p.1,bs G σ.au p.2)) λes=>if es.length=n/\0<a.size/\n*a.size<=16777216 then iY T σ o.dst k (.row (o.dst.getD 9999)) [(o.dst.getD 9999,.row a.size es)]else none
  |none=>none
 |_,_=>none
def GD(T:br)(G:ca)(σ:aq)(o:Oper)(t:TypeId)(l c:Operand)(k:aq->Option β):Option β:=match T t,σ.objs (o.dst.getD 9999)with
 |some ⟨.slice e,_,_,_⟩,none=>match T e with
  |some a=>match bs G σ.au l,bs G σ.au c with
   | .d l,.d c=>if a.zero.cells.toList.all gX then af (fm a.bytes l c) λn=>iY T σ o.dst k (.row (o.dst.getD 9999)) [(o.dst.getD 9999,.row a.size (List.replicate n (a.zero.cells.toList.map .val)))]else none
   |_,_=>none
  |none=>none
 |_,_=>none
def GF(T:br)(G:ca)(σ:aq)(o:Oper)(s t:TypeId)(x:Operand)(k:aq->Option β):Option β:=match T s,T t,bs G σ.au x with
 |some _,some ⟨.int i,_,_,_⟩,.d a=>gK σ o.dst k (jB i a)
 |some ⟨.slice e,_,_,_⟩,some ⟨.string,_,_,_⟩,y=>match T e with
  |some ⟨.int .u8,_,_,_⟩=>match y with
   | .d a=>gK σ o.dst k (Mc a)| .row key=>match σ.objs key with|some (.row 1 es)=>gK σ o.dst k (tb es)|_=>kn T G σ o k
   | .sub key 1 i len=>match σ.objs key with|some (.row 1 es)=>bG (decide (i+len<=es.length)) (gK σ o.dst k (tb ((es.drop i).take len)))|_=>kn T G σ o k
   |_=>kn T G σ o k
  |_=>kn T G σ o k
 |some _,some ⟨.string,_,_,_⟩,.d a=>gK σ o.dst k (Mb a)|_,_,_=>kn T G σ o k
def Bh(T:br)(G:ca)(σ:aq)(o:Oper)(dU:Bool)(args:List Operand)(k:aq->Option β):Option β:=match hS (args.map (bs G σ.au))with|some a=>gK σ o.dst k (ht dU a)|none=>none
def eL:ax->ax->Option (D×D)
 | .d a,.d b=>some (a,b)|_,_=>none
theorem Xn{x y:ax}{p:D×D}(h:eL x y=some p):x= .d p.1/\y= .d p.2:=by unfold eL at h;split at h<;>cases h;exact⟨rfl,rfl⟩
def Mj{T:br}{ev:Operand->ax}{c a b:Operand}{t:Bool}(e:ev c= .d (.val (.bool t)))(h:eL (ev a) (ev b)=none):db T ev (.pick c a b)=some (if t then ev a else ev b):=by
 simp only[db,e];generalize ev a=x at*;generalize ev b=y at*;split;.cases h
 rfl
def ni(T:br)(G:ca)(σ:aq)(o:Oper)(k:aq->Option β):Option β:=match o.op with
 | .binOp op t x y _=>Gq T G σ o op t x y k| .unOp op _ x=>match bs G σ.au x with| .d a=>gK σ o.dst k (cb op a)|_=>none
 | .convert s t x=>GF T G σ o s t x k
 | .pick c a b=>match bs G σ.au c with
  | .d c=>match eL (bs G σ.au a) (bs G σ.au b)with|some p=>gK σ o.dst k (dQ c p.1 p.2)|none=>aV c (k (σ.put o.dst (bs G σ.au a))) (k (σ.put o.dst (bs G σ.au b)))
  |_=>none
 | .field s x f=>Gr T G σ o s x f k| .extract x i=>match bs G σ.au x with| .d a=>gK σ o.dst k (eK i a)|_=>kn T G σ o k
 | .index t x i=>match T t with
  |some ⟨.string,_,_,_⟩=>match bs G σ.au x,bs G σ.au i with| .d a,.d b=>gK σ o.dst k (l2 a b)|_,_=>none
  |some ⟨.array len e,_,_,_⟩=>match T e with
   |some h=>match bs G σ.au x,bs G σ.au i with| .d a,.d b=>af (cS len b) λn=>gK σ o.dst k (iE (oc h.desc) h.size (n*h.size) a)|_,_=>none
   |none=>none
  |_=>none
 | .load t a=>Gs T G σ o t a k| .indexAddr t x c0=>Gt T G σ o t x c0 k| .slice t x lo ag none=>Gu T G σ o t x lo ag k| .lookup t x i ok=>Gz T G σ o t x i ok k| .mapUpdate t m i x=>Bg T G σ o t m i x k| .insert t m i x=>Bg T G σ o t m i x k| .store t a x=>GA T G σ o t a x k| .build t parts=>GB T G σ o t parts k| .buildSlice t n parts=>GC T G σ o t n parts k| .makeSlice t l c=>GD T G σ o t l c k| .box t x=>match T t,σ.objs (o.dst.getD 9999)with|some i,none=>tc i.size (bs G σ.au x) λcs=>iY T σ o.dst k (.ptr (o.dst.getD 9999) 0) [(o.dst.getD 9999,.box cs)]|_,_=>none
 | .call ⟨.builtin .len,args,g⟩=>Gv T G σ o args.toList g.toList k| .call ⟨.builtin .append,args,g⟩=>Gw T G σ o args.toList g.toList k| .call ⟨.builtin .copy,args,g⟩=>Gx T G σ o args.toList g.toList k| .call ⟨.builtin .clear,args,g⟩=>Gy T G σ o args.toList g.toList k| .call ⟨.builtin .max,args,_⟩=>Bh T G σ o true args.toList k| .call ⟨.builtin .min,args,_⟩=>Bh T G σ o false args.toList k|_=>kn T G σ o k
variable{T:br}{G:ca}{σ:aq}{o:Oper}{k:aq->Option β}{b:β}
def lg(h:kn T G σ o k=some b):∃a,eD T G σ o=some a/\k a=some b:=by
 unfold kn at h;split at h;.exact⟨_,by assumption,h⟩
 cases h
def iZ{r:ax}(h:db T (bs G σ.au) o.op=some r)(c:k (σ.put o.dst r)=some b):∃a,eD T G σ o=some a/\k a=some b:=⟨_,by unfold eD;rw[h],c⟩
def h6{r:ax}(ak:db T (bs G σ.au) o.op=none)(h:cH T (bs G σ.au) σ.objs o.op=some r)(c:k (σ.put o.dst r)=some b):∃a,eD T G σ o=some a/\k a=some b:=⟨_,by unfold eD;rw[ak,h],c⟩
def l3{r:ax}{a:List (Key×b1)}(ak:db T (bs G σ.au) o.op=none)(ab:cH T (bs G σ.au) σ.objs o.op=none)(h:cZ T (bs G σ.au) σ.objs (o.dst.getD 9999) o.op=some (r,a)) (d:iY T σ o.dst k r a=some b):∃c,eD T G σ o=some c/\k c=some b:=⟨_,by unfold eD;rw[ak,ab];unfold eR;rw[h];rfl,by unfold iY at d;exact d⟩
def Xo{op:BinOp}{t:TypeId}{x y:Operand}{u:TypeId}(j:o.op= .binOp op t x y u)(h:Gq T G σ o op t x y k=some b):∃m,eD T G σ o=some m/\k m=some b:=by
 unfold Gq at h;split at h
 .rename_i a c g i;split at h
  .rename_i aj;obtain⟨v,ab,ad⟩:=cN h;have e:∀{d},iW d=true->d= .val (.slice none 0 0):=by
    intro d p;unfold iW at p;split at p;.rfl
    cases p
   unfold Mi at aj;split at aj
   case h_2=>cases aj
   rename_i w z A B s;have q:c= .val (.slice none 0 0)->db T (bs G σ.au) o.op=none:=by intro n;subst n;rw[j];simp only[db,g,i,pr]
   unfold Ba at ab;split at ab
   .split at ab
    case isFalse=>cases ab
    rename_i f;have f:=e f;subst f;refine h6 (r:= .d v) (q rfl) ?_ ad;rw[j];simp only[cH,s,i,pw,xaE,g,iU];split at ab<;>cases ab<;>simp
   .split at ab
    case isFalse=>cases ab
    rename_i f;have f:=e f;subst f;refine h6 (r:= .d v) (q rfl) ?_ ad;rw[j];simp only[cH,s,i,pw,xaE,g,iU];split at ab<;>cases ab<;>simp
   cases ab
  split at h;.rename_i l ah;obtain⟨v,ab,ad⟩:=cN h;exact iZ (by rw[j];simp only[db,g,i];exact Xm ah ab) ad
  obtain⟨v,ab,ad⟩:=cN h;exact iZ (by rw[j];simp only[db,g,i];exact Xl ab) ad
 exact lg h
def Bi{i:fQ}{off:Nat}{cs:lZ}{v:D}(h:aN (oc i.desc) i.size off cs=some v):mQ i cs off=some (.d v):=by
 unfold aN at h;unfold mQ;cases a:oc i.desc with
 |true=>
  simp only[a]at h;simp only[xaE];split at h;.rename_i c;rw[xac c];cases h;rfl
  cases h
 |false=>simp only[a]at h;simp[h]
def Xp{s:TypeId}{x:Operand}{f:Nat}(g:o.op= .field s x f)(h:Gr T G σ o s x f k=some b):∃c,eD T G σ o=some c/\k c=some b:=by
 unfold Gr at h;split at h
 case h_2=>cases h
 rename_i off i e;split at h
 .rename_i a d;obtain⟨v,ab,ad⟩:=cN h;unfold iE at ab;split at ab
  case h_2=>cases ab
  exact iZ (by rw[g];simp only[db,e,d];exact Bi ab) ad
 exact lg h
def Xq{t:TypeId}{a:Operand}(d:o.op= .load t a)(h:Gs T G σ o t a k=some b):∃c,eD T G σ o=some c/\k c=some b:=by
 unfold Gs at h;split at h
 case h_2=>cases h
 rename_i i ag;split at h;.rename_i cs off f;obtain⟨v,ab,ad⟩:=cN h;exact h6 (by rw[d];rfl) (by rw[d];simp only[cH,ag,f];exact Bi ab) ad
 .rename_i key n c0 off f;split at h
  case h_2=>cases h
  rename_i m es l;split at h
  case isFalse=>cases h
  rename_i g;obtain⟨e,ab,ad⟩:=cN h;obtain⟨v,ai,j⟩:=cN ad;exact h6 (by rw[d];rfl) (by rw[d];simp only[cH,ag,f,l,g,xaE,ab];exact Bi ai) j
 exact lg h
def GG{n m:Nat}{i:D}(h:cS n i=some m):∃c j,i= .val (.int c j)/\0<=j/\j<n/\m=j.toNat:=by
 unfold cS at h;split at h
 case h_2=>cases h
 split at h
 case isFalse=>cases h
 rename_i a;cases h;exact⟨_,_,rfl,a.1,a.2,rfl⟩
def Xr{t:TypeId}{x c0:Operand}(f:o.op= .indexAddr t x c0)(h:Gt T G σ o t x c0 k=some b):∃p,eD T G σ o=some p/\k p=some b:=by
 unfold Gt at h;split at h
 .rename_i e s1 s2 A m;split at h
  case h_2=>cases h
  rename_i y l;split at h
  case h_2=>cases h
  rename_i i ag;split at h
  .rename_i a g;obtain⟨c,ab,ad⟩:=cN h;unfold a8 at ab;split at ab
   case h_2=>cases ab
   split at ab
   case isFalse=>cases ab
   rename_i u;split at ab
   case h_2=>cases ab
   split at ab
   case isFalse=>cases ab
   rename_i q;exact h6 (by rw[f];rfl) (by rw[f];simp only[cH,m,ag,l,g,u,q,xaE,ab]) ad
  .rename_i key g;split at h
   case h_2=>cases h
   rename_i z es q;split at h
   case isFalse=>cases h
   rename_i d;obtain⟨n,ab,ad⟩:=cN h;obtain⟨s,j,rfl,g1,g2,rfl⟩:=GG ab;exact h6 (by rw[f];rfl) (by rw[f];simp only[cH,m,ag,l,g,g1,xaE,q,d,g2,and_self]) (d▸ad)
  .rename_i key z i0 len g;split at h
   case isFalse=>cases h
   rename_i d;obtain⟨n,ab,ad⟩:=cN h;obtain⟨s,j,rfl,g1,g2,rfl⟩:=GG ab;exact h6 (by rw[f];rfl) (by rw[f];simp only[cH,m,ag,l,g,g1,xaE,d,g2,and_self]) (d▸ad)
  cases h
 .rename_i len e s1 s2 A m;split at h
  case h_2=>cases h
  rename_i y l;split at h
  case h_2=>cases h
  rename_i i ag;obtain⟨n,ab,ad⟩:=cN h;obtain⟨s,j,rfl,g1,g2,rfl⟩:=GG ab;split at ad
  case h_2=>cases ad
  rename_i r w;exact h6 (by rw[f];rfl) (by rw[f];simp only[cH,m,ag,l,g1,g2,and_self,xaE];exact w) ad
 cases h
def Xs{t:TypeId}{x:Operand}{lo ag:Option Operand}(j:o.op= .slice t x lo ag none)(h:Gu T G σ o t x lo ag k=some b):∃q,eD T G σ o=some q/\k q=some b:=by
 unfold Gu at h;split at h
 case h_2=>cases h
 rename_i l aY ah c;have ah:=Mh ah;have c:=Mh c;split at h
 .rename_i s1 s2 w f;split at h
  case h_2=>cases h
  rename_i a g;obtain⟨v,ab,ad⟩:=cN h;unfold Md at ab;split at ab
  case h_2=>cases ab
  split at ab
  case h_2=>cases ab
  rename_i m n;split at ab
  case isFalse=>cases ab
  rename_i d;cases ab;exact iZ (by rw[j];simp only[db,f,g,ah,c,Bb,m,n];rw[xac d]) ad
 .rename_i e s1 s2 w f;split at h
  case h_2=>cases h
  rename_i y r;split at h
  .rename_i a g;obtain⟨v,ab,ad⟩:=cN h;unfold jC at ab;split at ab
   case h_2=>cases ab
   split at ab
   case h_2=>cases ab
   rename_i m n;split at ab
   case isFalse=>cases ab
   rename_i d;cases ab;exact h6 (by rw[j];simp only[db,f]) (by rw[j];simp only[cH,f,r,g,gY,ah,c,Bb,m,n];rw[xac ⟨d.1,d.2.1⟩,xac d.2.2]) ad
  .rename_i key g;split at h
   case h_2=>cases h
   rename_i u es s;split at h
   case isFalse=>cases h
   rename_i i;obtain⟨p,ab,ad⟩:=cN h;unfold h5 at ab;split at ab
   case h_2=>cases ab
   rename_i m n;split at ab
   case isFalse=>cases ab
   rename_i d;cases ab;exact h6 (by rw[j];simp only[db,f]) (by rw[j];simp only[cH,f,r,g,gY,s,ah,c,Bb,m,n];rw[xac d,xac i]) ad
  .rename_i key u i0 len g;split at h
   case isFalse=>cases h
   rename_i i;obtain⟨p,ab,ad⟩:=cN h;unfold h5 at ab;split at ab
   case h_2=>cases ab
   rename_i m n;split at ab
   case isFalse=>cases ab
   rename_i d;cases ab;exact h6 (by rw[j];simp only[db,f]) (by rw[j];simp only[cH,f,r,g,gY,ah,c,Bb,m,n];rw[xac d,xac i]) ad
  cases h
 exact lg h
def Xt{args:Array Operand}{l:Array TypeId}(d:o.op= .call ⟨.builtin .len,args,l⟩)(h:Gv T G σ o args.toList l.toList k=some b):∃m,eD T G σ o=some m/\k m=some b:=by
 unfold Gv at h;split at h
 case h_2=>cases h
 rename_i t x f g;have j:db T (bs G σ.au) o.op=none:=by rw[d];rfl
 split at h
 .rename_i a i;split at h;.rename_i s1 s2 n c;obtain⟨v,ab,ad⟩:=cN h;unfold kO at ab;split at ab<;>cases ab;exact h6 j (by rw[d];simp only[cH,f,g,c,i]) ad
  .rename_i e s1 s2 n c;obtain⟨v,ab,ad⟩:=cN h;unfold dK at ab;split at ab<;>cases ab;.exact h6 j (by rw[d];simp only[cH,f,g,c,i,gY]) ad
   exact h6 j (by rw[d];simp only[cH,f,g,c,i,gY]) ad
  .rename_i p q s1 s2 n c;obtain⟨v,ab,ad⟩:=cN h;unfold Me at ab;split at ab<;>cases ab;.exact h6 j (by rw[d];simp only[cH,f,g,c,i]) ad
   exact h6 j (by rw[d];simp only[cH,f,g,c,i]) ad
  cases h
 exact lg h
theorem Mk{a:D}{p:Nat×mW}(h:jR a=some p)(objs:bK):iA objs (.d a)=some p:=by unfold jR at h;split at h<;>cases h<;>rfl
def Xu{args:Array Operand}{q:Array TypeId}(r:o.op= .call ⟨.builtin .append,args,q⟩)(h:Gw T G σ o args.toList q.toList k=some b):∃c,eD T G σ o=some c/\k c=some b:=by
 unfold Gw at h;split at h
 case h_2=>cases h
 rename_i t t' s x y z;split at h
 case h_2=>cases h
 rename_i e s1 s2 O M J K L E n A;split at h
 case h_2=>cases h
 rename_i l B;have u:db T (bs G σ.au) o.op=none:=by rw[r];rfl
 have C:cH T (bs G σ.au) σ.objs o.op=none:=by rw[r];rfl
 have key:∀p:Nat×mW,iA σ.objs (bs G σ.au x)=some p->bG (decide (p.1=l.size\/p.2=[])&&decide (0<l.size)) (match bs G σ.au s with
     | .d a=>bG (iW a&&bZ p.2.length l.bytes) (iY T σ o.dst k (.row (o.dst.getD 9999)) [(o.dst.getD 9999,.row l.size p.2)])
     | .row key=>match σ.objs key with
      |some (.row m es)=>if m=l.size/\key<10000 then bG (bZ (es.length+p.2.length) l.bytes) (iY T σ o.dst k (.row (o.dst.getD 9999)) [(key,.dead),(o.dst.getD 9999,.row m (es++p.2))])else none
      |_=>none
     |_=>none)=some b->∃c,eD T G σ o=some c/\k c=some b:=by
  rintro⟨N,P⟩ f h;obtain⟨ak,h⟩:=gZ h;simp only[xam,xaC]at ak;split at h
  .rename_i a j;obtain⟨ab,h⟩:=gZ h;simp only[xam,bZ,xaC]at ab;have H:a= .val (.slice none 0 0):=by
    have:=ab.1;unfold iW at this;split at this;.rfl
    cases this
   have ad:=ab.2;clear ab;refine l3 u C ?_ h;rw[r];simp only[cZ,y,z,E,n,A,B,f,j,H];rw[xac ak,xac ad]
  .rename_i key j;split at h
   case h_2=>cases h
   rename_i m es w;split at h
   case isFalse=>cases h
   rename_i g;obtain⟨ab,h⟩:=gZ h;simp only[xam,bZ,xaC]at ab;refine l3 u C ?_ h;rw[r];simp only[cZ,y,z,E,n,A,B,f,j,w];rw[xac ak,xac ⟨g.1,ab.1,ab.2,g.2⟩]
  .cases h
 simp only at h;split at h;.rename_i a j;obtain⟨p,ab,ad⟩:=cN h;exact key p (by rw[j];exact Mk ab _) ad
 .rename_i F m i len j;split at h
  case h_2=>cases h
  rename_i I es w;split at h
  case isFalse=>cases h
  rename_i g;obtain⟨ab,ad⟩:=gZ h;have f:iA σ.objs (bs G σ.au x)=some (m,(es.drop i).take len):=by rw[j];simp only[iA,w];rw[xac ⟨g,xbe ab⟩]
  exact key (m,(es.drop i).take len) f ad
 split at h
 case h_2=>cases h
 rename_i p u;exact key p u h
def Xv{args:Array Operand}{c:Array TypeId}(f:o.op= .call ⟨.builtin .clear,args,c⟩)(h:Gy T G σ o args.toList c.toList k=some b):∃d,eD T G σ o=some d/\k d=some b:=by
 unfold Gy at h;split at h
 case h_2=>cases h
 rename_i t s g j;split at h
 case h_2=>cases h
 rename_i e s1 s2 y r;split at h
 case h_2=>cases h
 rename_i w m;have q:db T (bs G σ.au) o.op=none:=by rw[f];rfl
 have p:cH T (bs G σ.au) σ.objs o.op=none:=by rw[f];rfl
 split at h
 case h_2=>cases h
 rename_i key x i len l;split at h
 case h_2=>cases h
 rename_i u es n;split at h
 case isFalse=>cases h
 rename_i a;obtain⟨ak,h⟩:=gZ h;simp only[xaC]at ak;refine l3 q p ?_ h;rw[f];simp only[cZ,g,j,r,m,l,n];rw[xac ⟨a.1,a.2.1,ak,a.2.2⟩]
def Xw{args:Array Operand}{q:Array TypeId}(r:o.op= .call ⟨.builtin .copy,args,q⟩)(h:Gx T G σ o args.toList q.toList k=some b):∃g,eD T G σ o=some g/\k g=some b:=by
 unfold Gx at h;split at h
 case h_2=>cases h
 rename_i t t' s x y z;split at h
 case h_2=>cases h
 rename_i e s1 s2 H C;split at h
 case h_2=>cases h
 rename_i w A;have u:db T (bs G σ.au) o.op=none:=by rw[r];rfl
 have B:cH T (bs G σ.au) σ.objs o.op=none:=by rw[r];rfl
 have key:∀p:Nat×mW,iA σ.objs (bs G σ.au x)=some p->bG (decide (p.1=w.size\/p.2=[])) (match bs G σ.au s with
     | .row key=>match σ.objs key with
      |some (.row f es)=>if f=w.size then iY T σ o.dst k (.d (.val (.int .i64 (min p.2.length es.length:Nat)))) [(key,.row f (p.2.take (min p.2.length es.length)++es.drop (min p.2.length es.length)))]else none
      |_=>none
     | .sub key f i len=>match σ.objs key with
      |some (.row m es)=>if f=w.size/\m=f then bG (decide (i+len<=es.length)) (iY T σ o.dst k (.d (.val (.int .i64 (min p.2.length len:Nat)))) [(key,.row f (es.take i++p.2.take (min p.2.length len)++es.drop (i+min p.2.length len)))])else none
      |_=>none
     |_=>none)=some b->∃g,eD T G σ o=some g/\k g=some b:=by
  rintro⟨F,I⟩ j h;obtain⟨ak,h⟩:=gZ h;simp only[xaC]at ak;split at h
  .rename_i key l;split at h
   case h_2=>cases h
   rename_i f es n;split at h
   case isFalse=>cases h
   rename_i c;refine l3 u B ?_ h;rw[r];simp only[cZ,y,z,C,A,j,l,n];rw[xac ak,xac c]
  .rename_i key f i len l;split at h
   case h_2=>cases h
   rename_i m es n;split at h
   case isFalse=>cases h
   rename_i c;obtain⟨ab,h⟩:=gZ h;simp only[xaC]at ab;refine l3 u B ?_ h;rw[r];simp only[cZ,y,z,C,A,j,l,n];rw[xac ak,xac ⟨c.1,c.2,ab⟩]
  .cases h
 simp only at h;split at h;.rename_i a l;obtain⟨p,ab,ad⟩:=cN h;exact key p (by rw[l];exact Mk ab _) ad
 .rename_i E f i len l;split at h
  case h_2=>cases h
  rename_i m es n;split at h
  case isFalse=>cases h
  rename_i c;obtain⟨ab,ad⟩:=gZ h;have j:iA σ.objs (bs G σ.au x)=some (f,(es.drop i).take len):=by rw[l];simp only[iA,n];rw[xac ⟨c,xbe ab⟩]
  exact key (f,(es.drop i).take len) j ad
 split at h
 case h_2=>cases h
 rename_i p u;exact key p u h
def Ml{c f:fQ}{t g e:TypeId}{s1 s2:Nat}{m:Value}(l:T t=some ⟨.map g e,s1,s2,m⟩)(ab:T g=some c)(ad:T e=some f)(j:pt c.desc=true){ok:Bool}{es:List (Value×D)}{i v:D} (h:gA c.desc f.zero ok es i=some v):∃u,i= .val u/\qX T t es u ok=some (.d v):=by
 unfold gA at h;split at h
 case h_2=>cases h
 rename_i u;refine⟨u,rfl,?_⟩;unfold qX;simp only[l,ab,ad,j,xaE];split at h;.rename_i x a;cases h;simp only[a]
 .rename_i a;cases h;simp only[a]
 cases h
def Xx{t:TypeId}{x i:Operand}{ok:Bool}(d:o.op= .lookup t x i ok)(h:Gz T G σ o t x i ok k=some b):∃c,eD T G σ o=some c/\k c=some b:=by
 unfold Gz at h;split at h
 case h_2=>cases h
 rename_i q l s1 s2 s j;split at h
 case h_2=>cases h
 rename_i p n ab ad;split at h
 case isFalse=>cases h
 rename_i g;split at h
 case h_2=>cases h
 rename_i r a;split at h;.rename_i m f;obtain⟨es,g1,g2⟩:=cN h;obtain⟨v,g3,g4⟩:=cN g2;obtain⟨u,rfl,g5⟩:=Ml j ab ad g g3;refine h6 (by rw[d];rfl) ?_ g4;rw[d];simp only[cH,a,f];unfold iX at g1;split at g1<;>cases g1<;>exact g5
 .rename_i key f;split at h
  case h_2=>cases h
  rename_i es e;obtain⟨v,g3,g4⟩:=cN h;obtain⟨u,rfl,g5⟩:=Ml j ab ad g g3;refine h6 (by rw[d];rfl) ?_ g4;rw[d];simp only[cH,a,f,e,g5]
 cases h
def Mm{t:TypeId}{m i x:Operand}(a:o.op= .mapUpdate t m i x\/o.op= .insert t m i x)(h:Bg T G σ o t m i x k=some b):∃c,eD T G σ o=some c/\k c=some b:=by
 unfold Bg at h;split at h
 case h_2=>cases h
 rename_i r p s1 s2 u n;split at h
 case h_2=>cases h
 rename_i q ab;split at h
 case isFalse=>cases h
 rename_i j;split at h
 case h_2=>cases h
 rename_i key s v e f g;split at h
 case h_2=>cases h
 rename_i es d;obtain⟨l,g1,g2⟩:=cN h;unfold lf at g1;split at g1
 case h_2=>cases g1
 rcases a with a|a<;>
 .refine l3 (by rw[a];rfl) (by rw[a];rfl) ?_ g2;rw[a];simp only[cZ,n,ab,j,xaE,e,f,g,d,g1]
def Xy{t:TypeId}{a x:Operand}(c:o.op= .store t a x)(h:GA T G σ o t a x k=some b):∃d,eD T G σ o=some d/\k d=some b:=by
 unfold GA at h;split at h
 case h_2=>cases h
 rename_i i ag;obtain⟨cs,ab,ad⟩:=Bc h;split at ad
 case isFalse=>cases ad
 rename_i ah;split at ad
 .rename_i key off f;split at ad
  case h_2=>cases ad
  rename_i cells l;split at ad
  case isFalse=>cases ad
  rename_i g;refine l3 (by rw[c];rfl) (by rw[c];rfl) ?_ ad;rw[c];simp only[cZ,ag,ab,f,l];rw[xac ah,xac g]
 .rename_i key p c0 off f;split at ad
  case h_2=>cases ad
  rename_i n es m l j;split at ad
  case isFalse=>cases ad
  rename_i g;obtain⟨e,g1,g2⟩:=cN ad;refine l3 (by rw[c];rfl) (by rw[c];rfl) ?_ g2;rw[c];simp only[cZ,ag,ab,f,l,j,g1];rw[xac ah,xac g]
 cases ad
def Xz{t:TypeId}{parts:Array (Nat×Operand)}(d:o.op= .build t parts)(h:GB T G σ o t parts k=some b):∃a,eD T G σ o=some a/\k a=some b:=by
 unfold GB at h;split at h
 case h_2=>cases h
 rename_i pl z c;obtain⟨cs,ab,ad⟩:=Mf h;exact iZ (by rw[d];simp only[db,AA,c,ab]) ad
def XA{t:TypeId}{n:Nat}{parts:Array (Nat×Operand)}(c:o.op= .buildSlice t n parts)(h:GC T G σ o t n parts k=some b):∃a,eD T G σ o=some a/\k a=some b:=by
 unfold GC at h;split at h
 case h_2=>cases h
 rename_i e s1 s2 l i f;split at h
 case h_2=>cases h
 rename_i j g;obtain⟨es,ab,ad⟩:=Mg h;split at ad
 case isFalse=>cases ad
 rename_i d;refine l3 (by rw[c];rfl) (by rw[c];rfl) ?_ ad;rw[c];simp only[cZ,i,f,g,ab];rw[xac d]
def XB{t:TypeId}{l c:Operand}(f:o.op= .makeSlice t l c)(h:GD T G σ o t l c k=some b):∃d,eD T G σ o=some d/\k d=some b:=by
 unfold GD at h;split at h
 case h_2=>cases h
 rename_i e s1 s2 u m i;split at h
 case h_2=>cases h
 rename_i r j;split at h
 case h_2=>cases h
 rename_i s q ah g;split at h
 case isFalse=>cases h
 rename_i p;obtain⟨n,ab,ad⟩:=cN h;unfold fm at ab;split at ab
 case h_2=>cases ab
 split at ab
 case isFalse=>cases ab
 rename_i a;cases ab;refine l3 (by rw[f];rfl) (by rw[f];rfl) ?_ ad;rw[f];simp only[cZ,m,i,j,ah,g];rw[xac ⟨a.1,a.2.1,a.2.2.1,a.2.2.2,p⟩]
def XC{s t:TypeId}{x:Operand}(l:o.op= .convert s t x)(h:GF T G σ o s t x k=some b):∃f,eD T G σ o=some f/\k f=some b:=by
 unfold GF at h;split at h;.rename_i q i s1 s2 u a aj g c;obtain⟨v,ab,ad⟩:=cN h;unfold jB at ab;split at ab<;>cases ab;exact iZ (by rw[l];simp only[db,aj,g,c]) ad
 .rename_i e _ _ _ _ _ _ y aj g;split at h
  case h_2=>exact lg h
  rename_i r;have fin:∀{es:mW},k9 σ.objs (bs G σ.au x)=some es->db T (bs G σ.au) (.convert s t x)=none->∀{v:D},tb es=some v->k (σ.put o.dst (.d v))=some b->∃f,eD T G σ o=some f/\k f=some b:=by
   intro es ab ak v m j;unfold tb at m;split at m
   case h_2=>cases m
   rename_i w n;cases m;exact h6 (by rw[l];exact ak) (by rw[l];simp only[cH,aj,g,r,ab,n]) j
  split at h
  .rename_i a c;obtain⟨v,ab,ad⟩:=cN h;unfold Mc at ab;split at ab;.exact fin (by rw[c];rfl) (by simp only[db,aj,g,c]) ab ad
   .exact fin (by rw[c];rfl) (by simp only[db,aj,g,c]) ab ad
   cases ab
  .rename_i key c;split at h
   case h_2=>exact lg h
   rename_i es j;obtain⟨v,ab,ad⟩:=cN h;exact fin (by rw[c];simp only[k9,j]) (by simp only[db,aj,g,c]) ab ad
  .rename_i key i len c;split at h
   case h_2=>exact lg h
   rename_i es j;obtain⟨p,h⟩:=gZ h;obtain⟨v,ab,ad⟩:=cN h;exact fin (by rw[c];simp only[k9,j];rw[xac (xbe p)]) (by simp only[db,aj,g,c]) ab ad
  exact lg h
 .rename_i q s1 s2 u a aj g c;obtain⟨v,ab,ad⟩:=cN h;unfold Mb at ab;split at ab<;>cases ab;exact iZ (by rw[l];simp only[db,aj,g,c]) ad
 exact lg h
def ra(h:ni T G σ o k=some b):∃m,eD T G σ o=some m/\k m=some b:=by
 unfold ni at h;split at h;.exact Xo aZ h
 .rename_i f;split at h
  .rename_i a g;obtain⟨v,ab,ad⟩:=cN h;unfold cb at ab;split at ab<;>cases ab;.exact iZ (by rw[f];simp only[db,g]) ad
   exact iZ (by rw[f];simp only[db,g]) ad
  cases h
 .exact XC aZ h
 .rename_i c x y f;split at h
  case h_2=>cases h
  rename_i F j;split at h
  .rename_i p q;obtain⟨g,B⟩:=Xn q;obtain⟨v,ab,ad⟩:=cN h;unfold dQ at ab;split at ab<;>cases ab;rename_i t;refine iZ ?_ ad;rw[f];simp only[db,j,g,B];split;.rename_i w z;simp only[ax.d.injEq]at w z;rw[w,z];cases t<;>rfl
   cases t<;>rfl
  rename_i q;rcases A8 h with⟨rfl,ab⟩|⟨rfl,ab⟩
  .exact iZ (by rw[f];exact Mj j q) ab
  exact iZ (by rw[f];exact Mj j q) ab
 .exact Xp aZ h
 .rename_i x i f;split at h
  .rename_i a g;obtain⟨v,ab,ad⟩:=cN h;unfold eK at ab;split at ab
   case h_2=>cases ab
   exact iZ (by rw[f];simp only[db,g,ab]) ad
  exact lg h
 .rename_i t x i f;split at h
  .rename_i s1 s2 E s;split at h
   case h_2=>cases h
   rename_i a c g j;obtain⟨v,ab,ad⟩:=cN h;unfold l2 at ab;split at ab
   case h_2=>cases ab
   exact iZ (by rw[f];simp only[db,s,g,j];exact q9 ab) ad
  .rename_i len e s1 s2 E s;split at h
   case h_2=>cases h
   rename_i H r;split at h
   case h_2=>cases h
   rename_i a c g j;obtain⟨n,g1,h⟩:=cN h;obtain⟨v,ab,ad⟩:=cN h;unfold cS at g1;split at g1
   case h_2=>cases g1
   split at g1
   case isFalse=>cases g1
   rename_i D;cases g1;unfold iE at ab;split at ab
   case h_2=>cases ab
   exact iZ (by rw[f];simp only[db,s,g,j];rw[xac D];simp only[r];exact Bi ab) ad
  cases h
 .exact Xq aZ h
 .exact Xr aZ h
 .exact Xs aZ h
 .exact Xx aZ h
 .rename_i f;exact Mm (.inl f) h
 .rename_i f;exact Mm (.inr f) h
 .exact Xy aZ h
 .exact Xz aZ h
 .exact XA aZ h
 .exact XB aZ h
 .rename_i t x f;split at h
  case h_2=>cases h
  rename_i i ag C;obtain⟨cs,ab,ad⟩:=Bc h;exact l3 (by rw[f];rfl) (by rw[f];rfl) (by rw[f];simp only[cZ,ab,C]) ad
 .exact Xt aZ h
 .exact Xu aZ h
 .exact Xw aZ h
 .exact Xv aZ h
 .rename_i args u f;unfold Bh at h;split at h
  case h_2=>cases h
  rename_i A l;obtain⟨v,ab,ad⟩:=cN h;exact iZ (by rw[f];simp only[db,sK l];exact q9 ab) ad
 .rename_i args u f;unfold Bh at h;split at h
  case h_2=>cases h
  rename_i A l;obtain⟨v,ab,ad⟩:=cN h;exact iZ (by rw[f];simp only[db,sK l];exact q9 ab) ad
 exact lg h
end
section
variable{β:Type}
abbrev hv:=Tmp->FuncId->lZ->oX
def wK(G:ca)(C:hv)(σ:aq)(o:Oper)(x:Operand)(args:List Operand)(k:aq->Option β):Option β:=match pF (bs G σ.au x)with
 |some (f,pre,post)=>match e0 ((pre++args.map (bs G σ.au)++post).map (toD σ.objs))with|some a=>af (C (o.dst.getD 9999) f a) λr=>bG ((pre++args.map (bs G σ.au)++post).all nc||r.flat) (k (σ.put o.dst (.d r)))|none=>none
 |none=>none
def Mn:D->Option (FuncId×lZ)
 | .fn (.func f) [] c=>some (f,c)| .val (.func (.func f) a b)=>if a.size=0/\b.size=0 then some (f,[])else none
 |_=>none
def Bj(f:FuncId)(a:lZ):List (FuncId×(lZ->oX))->oX
 |[]=>none|(g,F)::r=>if f=g then F a else Bj f a r
def lh(l:List (FuncId×(lZ->oX)))(v:D)(a:lZ):oX:=af (Mn v) λp=>Bj p.1 (a++p.2) l
def Mo(t:Tmp):List (Nat×List FuncId)->List FuncId
 |[]=>[]|(d,l)::r=>if t=d then l else Mo t r
def GH(l:List FuncId)(G:ca)(C:hv)(σ:aq)(o:Oper)(x:Operand)(args:List Operand)(k:aq->Option β):Option β:=match bs G σ.au x,e0 ((args.map (bs G σ.au)).map (toD σ.objs))with| .d v,some a=>af (lh (l.map λg=>(g,C (o.dst.getD 9999) g)) v a) λr=>bG ((args.map (bs G σ.au)).all nc||r.flat) (k (σ.put o.dst (.d r)))|_,_=>none
def rb(T:br)(G:ca)(C:hv)(σ:aq)(o:Oper)(x:Operand)(args:List Operand)(k:aq->Option β):Option β:=match Mo (o.dst.getD 9999) T.dyn with|[]=>wK G C σ o x args k|g::l=>GH (g::l) G C σ o x args k
def l4(T:br)(G:ca)(C:hv)(σ:aq)(o:Oper)(k:aq->Option β):Option β:=match o.op with| .call ⟨.value x,args,_⟩=>rb T G C σ o x args.toList k|_=>ni T G σ o k
def nj(T:br)(G:ca)(C:hv):List Oper->aq->(aq->Option β)->Option β
 |[],σ,k=>k σ|o::r,σ,k=>l4 T G C σ o λa=>nj T G C r a k
def ov:List Oper->List (Option (Nat×Bool)×List Oper)
 |[]=>[]
 |o::r=>match ov r with
  |(g,os)::rest=>if g=o.guard then(g,o::os)::rest else(o.guard,[o])::(g,os)::rest
  |[]=>[(o.guard,[o])]
def cu(x:D)(want:Bool)(p:oX):oX:=match x with
 | .val (.bool b)=>if b=want then p else some gn
 | .val (.tuple _)=>some gn|_=>none
def pM{a:Type}(x:D)(want:Bool)(p q:Option a):Option a:=match x with
 | .val (.bool b)=>if b=want then p else q
 | .val (.tuple _)=>q|_=>none
def GI:List Oper->aq->aq
 |[],σ=>σ|o::r,σ=>GI r (σ.put o.dst (.d gn))
def pN:List Oper->Option Tmp
 |[]=>none|[o]=>o.dst|_::r=>pN r
def dstsOf(os:List Oper):List Tmp:=os.filterMap (·.dst)
def still(o:Oper):Bool:=fT o.op||gl o.op||e1 o.op
def pO(ts:List Tmp)(v:D)(σ:aq):aq:=⟨λt=>if t∈ts then .d (ae v (ts.idxOf t))else σ.au t,σ.objs⟩
def wL(σ:aq):List Tmp->oY
 |[]=>some []|t::r=>match σ.au t,wL σ r with| .d v,some l=>some (v::l)|_,_=>none
def kept(all:Array Oper)(os l:List Oper):List Tmp:=(dstsOf os).filter λt=>l.any λo=>(o.looksAt all).contains t
def Mp{σ:aq}:∀{ts:List Tmp}{l:lZ},wL σ ts=some l->l.length=ts.length/\∀(i:Nat)(t:Tmp),ts[i]?=some t->∃v,l[i]?=some v/\σ.au t= .d v
 |[],l,h=>by cases h;exact⟨rfl,λi t h=>by simp at h⟩
 |t::r,l,h=>by
  unfold wL at h;split at h
  case h_2=>cases h
  rename_i v b a ah;cases h;have ih:=Mp ah;refine⟨by simp[ih.1],λi u hu=>?_⟩;cases i with|zero=>simp at hu;subst hu;exact⟨v,rfl,a⟩|succ i=>exact ih.2 i u (by simpa using hu)
def XD{σ:aq}{ts:List Tmp}{l:lZ}(h:wL σ ts=some l){t:Tmp}(a:t∈ts):σ.au t= .d (ae (.agg l) (ts.idxOf t)):=by
 have ab:ts[ts.idxOf t]?=some t:=by have:=List.idxOf_lt_length_of_mem a;rw[xaa this,List.getElem_idxOf]
 obtain⟨v,ad,ai⟩:=(Mp h).2 _ t ab;rw[ai]
 congr 1
 show v=l.getD _ _;simp[List.getD,ad]
def h7(a:List Tmp)(σ:aq):aq:=⟨λt=>if t∈a then .any else σ.au t,σ.objs⟩
def blind(all:Array Oper)(a:List Tmp)(l:List Oper):Bool:=l.all λo=>a.all λd=>!(o.looksAt all).contains d&&o.dst !=some d
def Mq(all:Array Oper)(d bj:Tmp)(os l:List Oper):Bool:=os.all (λo=>still o&&o.dst !=some d)&&blind all ((dstsOf os).filter (·!=bj)) l
def flat(gs:List (Option (Nat×Bool)×List Oper)):List Oper:=gs.flatMap (·.2)
def pP(T:br)(G:ca)(C:hv)(all:Array Oper):List (Option (Nat×Bool)×List Oper)->aq->(aq->Option β)->Option β
 |[],σ,k=>k σ|(none,os)::r,σ,k=>nj T G C os σ λa=>pP T G C all r a k
 |(some (j,want),os)::r,σ,k=>match(all[j]?).bind (·.dst),pN os with
  |some d,some bj=>match σ.au d with
   | .d x=>if Mq all d bj os (flat r)=true then
     af (cu x want (nj T G C os σ λa=>match a.au bj with| .d v=>some v|_=>none)) λv=>pP T G C all r ((h7 (dstsOf os) σ).put (some bj) (.d v)) k
    else if os.all (λo=>o.dst !=some d)=true then pM x want (nj T G C os σ λa=>pP T G C all r a k) (pP T G C all r (GI os σ) k)else none
   |_=>none
  |_,_=>none
def Mr(T:br)(G:ca)(C:hv)(all:Array Oper)(σ:aq)(k:aq->Option β):Option β:=pP T G C all (ov all.toList) σ k
def Ms:Op->Bool
 | .store _ _ _=>true|_=>false
def GJ(all:Array Oper)(listed:Array Bool)(i:Nat):Bool:=match all[i]? with|none=>false|some b=>((waits all i).all λj=>!listed.getD j true&&match all[j]? with|some a=>a.after.any λe=>Region.binds .any e&&(e.on==i||(waits all i).contains e.on)|none=>false)&&(List.range all.size).all λj=>j==i||listed.getD j true||(waits all i).contains j||match all[j]? with|some a=>b.apart all a&&!Ms a.op|none=>true
def Bk(all:Array Oper)(listed:Array Bool)(i:Nat)(σ:aq)(o:Oper):Bool:=match o.op with
 | .load _ (.tmp a)=>match σ.au a with| .ptr _ _=>GJ all listed i|_=>false
 |_=>false
def pQ(all:Array Oper)(listed:Array Bool)(i:Nat):List Oper:=(List.range all.size).filterMap λj=>if j==i||listed.getD j true||(waits all i).contains j then none else all[j]?
def Bl(all:Array Oper)(listed:Array Bool)(i:Nat)(au:Nat->ax)(o:Oper):Bool:=((waits all i).all λj=>!listed.getD j true&&match all[j]? with|some a=>a.after.any λe=>Region.binds .any e&&(e.on==i||(waits all i).contains e.on)|none=>false)&&(pQ all listed i).all λy=>o.apart all y&&nf au o y&&(iD o.op++(pQ all listed i).flatMap λy=>ng y.op).all λt=>y.dst !=some t
def te(T:br)(G:ca)(C:hv)(all:Array Oper):lX->Array Bool->aq->(aq->Option β)->Option β
 |[],listed,σ,k=>if(Region.ready .any all listed).isEmpty=true then k σ else none
 |i::r,listed,σ,k=>match all[i]? with
  |some o=>if o.guard=none/\(Region.ready .any all listed).contains i=true/\(LF all listed i||Bk all listed i σ o||Bl all listed i σ.au o||Ga T all listed i)=true then l4 T G C σ o λa=>te T G C all r (listed.setIfInBounds i true) a k else none
  |none=>none
def e6(P:Program)(G:ca)(C:hv):Prop:=∀d f a r,C d f a=some r->cC P G f a (·=r)
def ow:∀l:List Oper,flat (ov l)=l
 |[]=>rfl
 |o::r=>by
  have ih:=ow r;unfold ov;split;.rename_i g os rest a;rw[a]at ih;split<;>simp_all [flat]
  rename_i a;rw[a]at ih;simp[flat]at ih;subst ih;rfl
def wM:∀(l:List Oper)(g:Option (Nat×Bool)) (os:List Oper),(g,os)∈ov l->∀o∈os,o.guard=g
 |[],g,os,h=>by cases h
 |o::r,g,os,h=>by
  have ih:=wM r;unfold ov at h;split at h
  .rename_i e c rest b;split at h
   .rename_i d;rcases xan.1 h with ab|ab
    .cases ab;intro q a;rcases xan.1 a with rfl|a
     .exact d.symm
     exact ih g c (by rw[b];simp) q a
    exact ih g os (by rw[b];simp[ab])
   rcases xan.1 h with ab|ab;.cases ab;intro q a;simp at a;subst a;rfl
   exact ih g os (by rw[b];exact ab)
  simp at h;obtain⟨rfl,rfl⟩:=h;intro q a;simp at a;subst a;rfl
variable{P:Program}{T:br}{G:ca}{C:hv}{σ:aq}{all:Array Oper}
def Mt{e:Type}:∀{a b:List (Option e)} {x y:List e},e0 a=some x->e0 b=some y->e0 (a++b)=some (x++y)
 |[],b,x,y,h,d=>by cases h;exact d
 |none::a,b,x,y,h,d=>by cases h
 |some c::a,b,x,y,h,d=>by
  simp only[e0,xbD]at h⊢;split at h
  case h_2=>cases h
  rename_i z ab;cases h;rw[Mt ab d];rfl
def Mu{objs:bK}:∀(l:lZ),e0 ((l.map ax.d).map (toD objs))=some l
 |[]=>rfl|c::r=>by have:=Mu (objs:=objs) r;have e:toD objs (ax.d c)=some c:=rfl;simp only[xav,e,e0];rw[this]
def Mv{f:FuncId}{a:lZ}{C:FuncId->lZ->oX}{r:D}:∀{l:List FuncId},Bj f a (l.map λg=>(g,C g))=some r->C f a=some r
 |[],h=>by cases h
 |g::l,h=>by
  simp only[xav,Bj]at h;split at h;.rename_i e;rw[e];exact h
  exact Mv h
def XE{l:List FuncId}{o:Oper}{x:Operand}{args:List Operand}{k:aq->Option β}{b:β}(h:GH l G C σ o x args k=some b):wK G C σ o x args k=some b:=by
 unfold GH at h;split at h
 case h_2=>cases h
 rename_i v t q i;obtain⟨r,ab,ad⟩:=cN h;obtain⟨p,ai,m⟩:=cN ab;have n:=Mv (C:=C (o.dst.getD 9999)) m;obtain⟨f,a⟩:=p;have g:pF (.d v)=some (f,[],a.map .d):=by
  unfold Mn at ai;split at ai;.cases ai;rfl
  .split at ai;.rename_i j;cases ai;simp only[pF,xac j,xbb]
   cases ai
  cases ai
 unfold wK;rw[q,g];simp only[xaM,List.map_append];rw[Mt i (Mu a)];simp only;rw[n];obtain⟨g1,g2⟩:=gZ ad;have e:((args.map (bs G σ.au))++a.map ax.d).all nc=(args.map (bs G σ.au)).all nc:=by
  rw[List.all_append];have:(a.map ax.d).all nc=true:=by rw[xax];intro y s;obtain⟨c,_,rfl⟩:=xaK.1 s;rfl
  rw[this,xby]
 rw[e];exact ad
def XF{o:Oper}{x:Operand}{args:List Operand}{k:aq->Option β}{b:β}(h:rb T G C σ o x args k=some b):wK G C σ o x args k=some b:=by
 unfold rb at h;split at h;.exact h
 exact XE h
def Bm(q:e6 P G C){p:br}{o:Oper}{x:Operand}{args:Array Operand}{j:Array TypeId}(m:o.op= .call ⟨.value x,args,j⟩){k:aq->Option β}{b:β}(h:rb p G C σ o x args.toList k=some b):cf P T G o (λa=>k a=some b/\a.objs=σ.objs/\∀t,o.dst≠some t->a.au t=σ.au t) σ:=by
 have i:e1 o.op=true:=by rw[m];rfl
 rw[jP (oi i)]
 replace h:=XF h
 unfold wK at h;unfold gx;rw[m];simp only;split at h
 case h_2=>cases h
 rename_i f pre post c;simp only[c];split at h
 case h_2=>cases h
 rename_i l g;obtain⟨r,ab,ad⟩:=cN h;obtain⟨ad,ai⟩:=gZ ad;refine⟨l,l,(·=r),g,lS.refl _,q _ _ _ _ ab,⟨r,rfl⟩,?_,?_⟩
 .rcases xbw.1 ad with ad|ad;.exact .inr ad
  exact .inl (by rintro _ rfl;exact ad)
 rintro _ rfl;refine⟨ai,by simp,?_⟩;intro t n;cases s:o.dst with|none=>rfl|some d=>rw[s]at n;simp only[aq.put];exact b4 _ _ (λe=>n (by rw[e]))
def GK(c:e6 P G C){o:Oper}{k:aq->Option β}{b:β}(h:l4 T G C σ o k=some b):cf P T G o (λa=>k a=some b) σ:=by
 unfold l4 at h;split at h;.exact kL (λ_ h=>h.1) (Bm c aZ h)
 obtain⟨a,ab,ad⟩:=ra h;unfold cf;rw[ab];exact ad
def l5{dst:Option Tmp}{r:ax}{t:Tmp}(a:dst≠some t):(σ.put dst r).au t=σ.au t:=by cases dst with|none=>rfl|some d=>simp only[aq.put];exact b4 _ _ (λe=>a (by rw[e]))
def Mw(e:e6 P G C){o:Oper}(aj:still o=true){k:aq->Option β}{b:β}(h:l4 T G C σ o k=some b):cf P T G o (λa=>k a=some b/\a.objs=σ.objs/\∀t,o.dst≠some t->a.au t=σ.au t) σ:=by
 unfold l4 at h;split at h;.exact Bm e aZ h
 rename_i f;obtain⟨a,ab,ad⟩:=ra h;unfold cf;rw[ab];have c:eR T (bs G σ.au) σ.objs (o.dst.getD 9999) o.op=none:=by
  unfold still at aj;simp only[xbg]at aj;rcases aj with(aj|aj)|aj
  .exact(sV aj).2
  .exact sW aj
  exact(F9 aj).2.2
 unfold eD at ab;split at ab;.cases ab;exact⟨ad,by simp,λt d=>l5 d⟩
 split at ab;.cases ab;exact⟨ad,by simp,λt d=>l5 d⟩
 rw[c]at ab;cases ab
def ja{l:List Oper}:∀{σ:aq}{K K':aq->Prop},(∀σ,K σ->K' σ)->dP P T G all l K σ->dP P T G all l K' σ:=by
 induction l with
 |nil=>intro σ K K' a h;exact a _ h
 |cons o l ih=>intro σ K K' a h;exact wA (λc b=>ih a b) h
def GL{l r:List Oper}:∀{σ:aq}{K:aq->Prop},dP P T G all l (dP P T G all r K) σ->dP P T G all (l++r) K σ:=by
 induction l with
 |nil=>intro σ K h;exact h
 |cons o l ih=>intro σ K h;exact wA (λb a=>ih a) h
def jb(σ τ:aq):Prop:=σ.objs=τ.objs/\∀t,τ.au t= .any\/σ.au t=τ.au t
theorem jb.refl(σ:aq):jb σ σ:=⟨rfl,λ_=> .inr rfl⟩
def jb.trans{σ τ b:aq}(h:jb σ τ)(a:jb τ b):jb σ b:=by
 refine⟨h.1.trans a.1,λt=>?_⟩;rcases a.2 t with ad|ad
 .exact .inl ad
 rcases h.2 t with ab|ab;.exact .inl (ad▸ab)
 exact .inr (ab.trans ad)
def jb.re{σ τ:aq}(h:jb σ τ):eJ σ τ:=by
 obtain⟨s,o⟩:=σ;obtain⟨s',o'⟩:=τ;obtain⟨ab,ad⟩:=h;simp only at ab ad;subst ab;intro m fr ρ c w a;refine⟨m,ρ,Mem.le_refl m,⟨a.mem,a.frame,a.apart,a.one,?_,a.objs,a.own,a.sep⟩,λk d b=>⟨b,rfl⟩⟩;intro t;rcases ad t with h|h;.simp only[h];exact .any _
 have:=a.au t;simp only at this⊢;rw[<-h];exact this
def Mx{d:Tmp}{r:ax}:∀{l:List Oper}{σ:aq}{K:aq->Prop},(∀o∈l,d∉o.looksAt all/\o.dst≠some d)->dP P T G all l K (σ.put (some d) r)=dP P T G all l (λa=>K (a.put (some d) r)) σ
 |[],σ,K,h=>rfl
 |o::l,σ,K,h=>by
  have ak:=h o sZ;have ih:∀{σ:aq},dP P T G all l K (σ.put (some d) r)=dP P T G all l (λa=>K (a.put (some d) r)) σ:=Mx λo' b=>h o' (by simp[b]);unfold dP;rw[e5,e5,kk (by rintro _ ⟨⟩;exact ak.1)];cases c:gJ all σ o with
  |none=>rfl
  |some w=>
   cases w with
   |true=>simp only;rw[gy (all:=all) (by rintro _ ⟨⟩;exact ak.1) (by rintro _ ⟨⟩;exact ak.2)];simp only[ih]
   |false=>simp only;rw[<-ih,put_comm (by rintro _ ⟨⟩;exact ak.2)]
def XG{d:Tmp}{a:ax}{l:List Oper}{σ:aq}{K:aq->Prop}(e:∀σ τ,jb σ τ->K τ->K σ)(ah:∀o∈l,d∉o.looksAt all/\o.dst≠some d)(h:dP P T G all l K (σ.put (some d) .any)):dP P T G all l K (σ.put (some d) a):=by
 rw[Mx ah]at h⊢;refine ja (λf c=>e _ _ ?_ c) h;refine⟨rfl,λt=>?_⟩;by_cases b:t=d;.subst b;exact .inl (by simp[aq.put])
 exact .inr (by simp[aq.put,b4 _ _ b])
def GM{l:List Oper}{K:aq->Prop}(k:∀σ τ,jb σ τ->K τ->K σ):∀(g:List Tmp){σ τ:aq},(∀d∈g,∀o∈l,d∉o.looksAt all/\o.dst≠some d)->(∀t,t∉g->σ.au t=τ.au t)->(∀d∈g,τ.au d= .any\/σ.au d=τ.au d)->σ.objs=τ.objs->dP P T G all l K τ->dP P T G all l K σ
 |[],σ,τ,_,ab,ad,ai,h=>by
  have:σ=τ:=by
   cases σ;cases τ;simp only at ab ai;subst ai
   congr 1
   funext t
   exact ab t sZ
  rw[this];exact h
 |d::g,σ,τ,m,ab,ad,ai,h=>by
  by_cases n:τ.au d= .any
  .have e:τ=τ.put (some d) .any:=by
    cases τ;simp only[aq.put]
    congr 1
    funext t
    by_cases i:t=d;.subst i;simp only[dq];exact n
    rw[b4 _ _ i]
   rw[e]at h;have p:=XG (a:=σ.au d) k (λo q=>m d sZ o q) h;refine GM (τ:=τ.put (some d) (σ.au d)) k g (λf c=>m f (by simp[c])) ?_ ?_ ai p
   .intro t i;by_cases b:t=d;.subst b;simp[aq.put]
    simp only[aq.put,b4 _ _ b];exact ab t (by simp[b,i])
   intro f c;by_cases b:f=d;.subst b;simp[aq.put]
   simp only[aq.put,b4 _ _ b];exact ad f (by simp[c])
  refine GM k g (λf c=>m f (by simp[c])) ?_ (λf c=>ad f (by simp[c])) ai h;intro t i;by_cases b:t=d
  .subst b;rcases ad t (by simp)with j|j
   .exact absurd j n
   exact j
  exact ab t (by simp[b,i])
def My(c:e6 P G C):∀{os:List Oper}{σ:aq}{k:aq->Option β}{b:β},(∀o∈os,o.guard=none)->nj T G C os σ k=some b->dP P T G all os (λa=>k a=some b) σ
 |[],σ,k,b,_,h=>h|o::os,σ,k,b,d,h=>by unfold dP c3;rw[d o sZ];exact kL (λa e=>My c (λo f=>d o (by simp[f])) e) (GK c h)
def Mz(i:e6 P G C){j:Nat}{want:Bool}{d:Tmp}(l:(all[j]?).bind (·.dst)=some d):∀{os:List Oper}{σ:aq}{k:aq->Option β}{b:β},(∀o∈os,o.guard=some (j,want))->(∀o∈os,still o=true/\o.dst≠some d)->σ.au d= .d (.val (.bool want))->nj T G C os σ k=some b->dP P T G all os (λa=>k a=some b/\a.objs=σ.objs/\∀t,t∉dstsOf os->a.au t=σ.au t) σ
 |[],σ,k,b,_,_,_,h=>⟨h,rfl,λ_ _=>rfl⟩
 |o::os,σ,k,b,m,aj,hw,h=>by
  have ak:=aj o sZ;unfold dP c3;rw[m o sZ];simp only[l,hw,xaE];refine kL ?_ (Mw i ak.1 h);rintro a ⟨ab,ad,ai⟩;refine ja ?_ (Mz i l (λo e=>m o (by simp[e])) (λo e=>aj o (by simp[e])) (by rw[ai d ak.2];exact hw) ab);rintro p ⟨g1,g2,g3⟩;refine⟨g1,g2.trans ad,?_⟩;intro t n;have f:t∉dstsOf os:=λc=>n (by unfold dstsOf at c⊢;simp only[xbX];cases o.dst<;>simp[c])
  have g:o.dst≠some t:=λc=>n (by unfold dstsOf;simp[c]);rw[g3 t f,ai t g]
def wN{j:Nat}{want:Bool}{d:Tmp}(k:(all[j]?).bind (·.dst)=some d):∀{os:List Oper}{σ:aq},(∀o∈os,o.guard=some (j,want))->(∀o∈os,o.dst≠some d)->(σ.au d= .d (.val (.bool (!want)))\/∃vs,σ.au d= .d (.val (.tuple vs)))->dP P T G all os (λa=>a.objs=σ.objs/\(∀t,t∉dstsOf os->a.au t=σ.au t)/\∀bj,pN os=some bj->a.au bj= .d gn) σ
 |[],σ,_,_,_=>⟨rfl,λ_ _=>rfl,by intro bj h;cases h⟩
 |o::os,σ,l,aj,b=>by
  have ak:=aj o sZ;unfold dP;have key:dP P T G all os (λa=>a.objs=σ.objs/\(∀t,t∉dstsOf (o::os)->a.au t=σ.au t)/\∀bj,pN (o::os)=some bj->a.au bj= .d gn) (σ.put o.dst (.d (.val (.tuple #[])))):=by
   have i:(σ.put o.dst (.d (.val (.tuple #[])))).au d= .d (.val (.bool (!want)))\/∃vs,(σ.put o.dst (.d (.val (.tuple #[])))).au d= .d (.val (.tuple vs)):=by rw[l5 ak];exact b
   refine ja ?_ (wN k (λo e=>l o (by simp[e])) (λo e=>aj o (by simp[e])) i);rintro a ⟨ab,ad,ai⟩;refine⟨ab.trans sZ,?_,?_⟩
   .intro t m;have f:t∉dstsOf os:=λc=>m (by
     unfold dstsOf at c⊢;simp only[xbX];cases o.dst<;>simp[c])
    have g:o.dst≠some t:=λc=>m (by unfold dstsOf;simp[c]);rw[ad t f,l5 g]
   intro bj ah;cases os with|nil=>simp only[pN]at ah;rw[ad bj (by simp[dstsOf]),ah];simp[aq.put,gn]|cons q n=>exact ai bj ah
  unfold c3;rw[l o sZ];simp only[k];rcases b with b|⟨vs,b⟩
  .simp only[b];rw[xab (by cases want<;>simp)];exact key
  simp only[b];exact key
def GN{j:Nat}{want:Bool}{d:Tmp}(m:(all[j]?).bind (·.dst)=some d):∀{os:List Oper}{σ:aq},(∀o∈os,o.guard=some (j,want))->(∀o∈os,o.dst≠some d)->(σ.au d= .d (.val (.bool (!want)))\/∃vs,σ.au d= .d (.val (.tuple vs)))->dP P T G all os (λa=>a.objs=σ.objs/\(∀t,t∉dstsOf os->a.au t=σ.au t)/\∀t∈dstsOf os,a.au t= .d gn) σ
 |[],σ,_,_,_=>⟨rfl,λ_ _=>rfl,by intro t h;cases h⟩
 |o::os,σ,n,aj,f=>by
  have ak:=aj o sZ;unfold dP;have key:dP P T G all os (λa=>a.objs=σ.objs/\(∀t,t∉dstsOf (o::os)->a.au t=σ.au t)/\∀t∈dstsOf (o::os),a.au t= .d gn) (σ.put o.dst (.d (.val (.tuple #[])))):=by
   have l:(σ.put o.dst (.d (.val (.tuple #[])))).au d= .d (.val (.bool (!want)))\/∃vs,(σ.put o.dst (.d (.val (.tuple #[])))).au d= .d (.val (.tuple vs)):=by rw[l5 ak];exact f
   refine ja ?_ (GN m (λo e=>n o (by simp[e])) (λo e=>aj o (by simp[e])) l);rintro a ⟨ab,ad,ai⟩;refine⟨ab.trans sZ,?_,?_⟩
   .intro t c;have b:t∉dstsOf os:=λg=>c (by
     unfold dstsOf at g⊢;simp only[xbX];cases o.dst<;>simp[g])
    have i:o.dst≠some t:=λg=>c (by unfold dstsOf;simp[g]);rw[ad t b,l5 i]
   intro t c;by_cases b:t∈dstsOf os;.exact ai t b
   have k:o.dst=some t:=by
    unfold dstsOf at c b;simp only[xbX]at c;cases e:o.dst with
    |none=>rw[e]at c;exact absurd c b
    |some u=>
     rw[e]at c;rcases xan.1 c with rfl|h
     .rfl
     exact absurd h b
   rw[ad t b,k];simp[aq.put,gn]
  unfold c3;rw[n o sZ];simp only[m];rcases f with f|⟨vs,f⟩
  .simp only[f];rw[xab (by cases want<;>simp)];exact key
  simp only[f];exact key
def XH(d:e6 P G C){o:Oper}{k:aq->Option β}{b:β}(h:l4 T G C σ o k=some b):cf P T G o (λa=>k a=some b/\∀t,o.dst≠some t->a.au t=σ.au t) σ:=by
 unfold l4 at h;split at h;.exact kL (λ_ h=>⟨h.1,h.2.2⟩) (Bm d aZ h)
 obtain⟨a,ab,ad⟩:=ra h;unfold cf;rw[ab];refine⟨ad,λt c=>?_⟩;unfold eD at ab;split at ab;.cases ab;exact l5 c
 split at ab;.cases ab;exact l5 c
 split at ab;.cases ab;exact l5 c
 cases ab
def MA(e:e6 P G C){j:Nat}{want:Bool}{d:Tmp}(f:(all[j]?).bind (·.dst)=some d):∀{os:List Oper}{σ:aq}{k:aq->Option β}{b:β},(∀o∈os,o.guard=some (j,want))->(∀o∈os,o.dst≠some d)->σ.au d= .d (.val (.bool want))->nj T G C os σ k=some b->dP P T G all os (λa=>k a=some b) σ
 |[],σ,k,b,_,_,_,h=>h|o::os,σ,k,b,g,aj,hw,h=>by unfold dP c3;rw[g o sZ];simp only[f,hw,xaE];refine kL ?_ (XH e h);rintro a ⟨ab,ai⟩;exact MA e f (λo c=>g o (by simp[c])) (λo c=>aj o (by simp[c])) (by rw[ai d (aj o sZ)];exact hw) ab
def GO{j:Nat}{want:Bool}{d:Tmp}(e:(all[j]?).bind (·.dst)=some d){K:aq->Prop}:∀{os:List Oper}{σ:aq},(∀o∈os,o.guard=some (j,want))->(∀o∈os,o.dst≠some d)->(σ.au d= .d (.val (.bool (!want)))\/∃vs,σ.au d= .d (.val (.tuple vs)))->K (GI os σ)->dP P T G all os K σ
 |[],σ,_,_,_,h=>h
 |o::os,σ,f,aj,a,h=>by
  have ak:=aj o sZ;have c:(σ.put o.dst (.d (.val (.tuple #[])))).au d= .d (.val (.bool (!want)))\/∃vs,(σ.put o.dst (.d (.val (.tuple #[])))).au d= .d (.val (.tuple vs)):=by rw[l5 ak];exact a
  have key:dP P T G all os K (σ.put o.dst (.d (.val (.tuple #[])))):=GO e (λo b=>f o (by simp[b])) (λo b=>aj o (by simp[b])) c h;unfold dP c3;rw[f o sZ];simp only[e];rcases a with a|⟨vs,a⟩
  .simp only[a];rw[xab (by cases want<;>simp)];exact key
  simp only[a];exact key
def MB:∀{os:List Oper}{bj:Tmp},pN os=some bj->bj∈dstsOf os
 |[],bj,h=>by cases h
 |[o],bj,h=>by simp only[pN]at h;simp[dstsOf,h]|o::q::r,bj,h=>by have:=MB (os:=q::r) h;unfold dstsOf at this⊢;rw[xbX];cases o.dst<;>simp[this]
def rf(p:e6 P G C){K:aq->Prop}(y:∀σ τ,jb σ τ->K τ->K σ):∀{gs:List (Option (Nat×Bool)×List Oper)} {σ:aq} {k:aq->Option β} {b:β},(∀g∈gs,∀o∈g.2,o.guard=g.1)->(∀a,k a=some b->K a)->pP T G C all gs σ k=some b->dP P T G all (flat gs) K σ
 |[],σ,k,b,_,q,h=>q _ h|(none,os)::r,σ,k,b,l,q,h=>by show dP P T G all (os++flat r) K σ;refine GL (ja ?_ (My p (λo f=>l (none,os) sZ o f) h));intro a L;exact rf p y (λg m=>l g (by simp[m])) q L
 |(some (j,want),os)::r,σ,k,b,l,q,h=>by
  show dP P T G all (os++flat r) K σ;unfold pP at h;split at h
  case h_2=>cases h
  rename_i d bj z D;split at h
  case h_2=>cases h
  rename_i x A;split at h
  case isFalse=>
   split at h
   case isFalse=>cases h
   rename_i n;simp only[xax,bne_iff_ne,ne_eq]at n;have e:∀o∈os,o.guard=some (j,want):=λo f=>l (some (j,want),os) sZ o f;unfold pM at h;refine GL ?_;split at h
   .rename_i I;split at h;.rename_i B;subst B;exact ja (λa L=>rf p y (λg m=>l g (by simp[m])) q L) (MA p z e n A h)
    rename_i B;exact GO z e n (.inl (by rw[A];cases I<;>cases want<;>simp_all)) (rf p y (λg m=>l g (by simp[m])) q h)
   .exact GO z e n (.inr ⟨_,A⟩) (rf p y (λg m=>l g (by simp[m])) q h)
   cases h
  rename_i F;simp only[Mq,xam,xax,bne_iff_ne,ne_eq,blind,xbL,xcp,List.contains_eq_mem,decide_eq_false_iff_not]at F;obtain⟨i,H⟩:=F;obtain⟨v,ab,ad⟩:=cN h;have e:∀o∈os,o.guard=some (j,want):=λo f=>l (some (j,want),os) sZ o f;have rest:=rf p y (λg m=>l g (by simp[m])) q ad;have fin:∀a:aq,a.objs=σ.objs->(∀t,t∉dstsOf os->a.au t=σ.au t)->a.au bj= .d v->dP P T G all (flat r) K a:=by
   intro a O Q R;refine GM y ((dstsOf os).filter (·!=bj)) ?_ ?_ ?_ ?_ rest;.intro J s o f;have c:=xbL.1 s;exact H o f J ⟨c.1,by simpa using c.2⟩
   .intro t N;simp only[xbL,bne_iff_ne,ne_eq,not_and,Decidable.not_not]at N;by_cases w:t=bj;.subst w;simp[aq.put,R]
    have E:t∉dstsOf os:=λS=>w (N S);simp only[aq.put,b4 _ _ w,h7,E,xaF];exact Q t E
   .intro J s;have c:=xbL.1 s;have M:J≠bj:=by simpa using c.2
    refine .inl ?_;simp only[aq.put,b4 _ _ M,h7,c.1,xaE]
   simp[aq.put,h7,O]
  unfold cu at ab;refine GL ?_;split at ab
  .rename_i I;split at ab
   .rename_i B;subst B;refine ja ?_ (Mz p z e i A ab);rintro a ⟨g1,g2,g3⟩;refine fin a g2 g3 ?_;split at g1;.rename_i u hu;cases g1;exact hu
    cases g1
   rename_i B;cases ab;refine ja ?_ (wN z e (λo f=>(i o f).2) (.inl (by rw[A];cases I<;>cases want<;>simp_all)));rintro a ⟨g1,g2,g3⟩;exact fin a g1 g2 (g3 bj D)
  .rename_i vs;cases ab;refine ja ?_ (wN z e (λo f=>(i o f).2) (.inr ⟨_,A⟩));rintro a ⟨g1,g2,g3⟩;exact fin a g1 g2 (g3 bj D)
  cases ab
def MC{i:Nat}{n:Oper}{listed:Array Bool}(ag:all[i]?=some n)(h:GJ all listed i=true):(∀j c,j∈waits all i->all[j]?=some c->∃e∈c.after,Region.binds .any e=true/\(e.on=i\/e.on∈waits all i))/\(∀j,j∈waits all i->listed.getD j true=false)/\ ∀j c,all[j]?=some c->j≠i->listed.getD j true=false->j∉waits all i->n.apart all c=true/\∀t a x,c.op≠ .store t a x:=by
 simp only[GJ,ag,xam,xax,xbT]at h;refine⟨λj c g b=>?_,λj g=>by simpa using(h.1 j g).1,λj c b k m l=>?_⟩;.have ab:=(h.1 j g).2;simp only[b]at ab;obtain⟨e,f,d⟩:=Array.any_eq_true'.1 ab;simp only[xam,xbg,xbQ,List.contains_iff_mem]at d;exact⟨e,f,d.1,d.2⟩
 have ab:=h.2 j (xaN.1 b).1;simp only[b,xbg,xbQ,k,false_or,m,xaq,xam,List.contains_iff_mem,l]at ab;refine⟨ab.1,?_⟩;intro t a x f;rw[f]at ab;simp[Ms]at ab
def MD{i:Nat}{c:Oper}{listed:Array Bool}{au:Nat->ax}(h:Bl all listed i au c=true):(∀j a,j∈waits all i->all[j]?=some a->∃e∈a.after,Region.binds .any e=true/\(e.on=i\/e.on∈waits all i))/\(∀j,j∈waits all i->listed.getD j true=false)/\ ∀j a,all[j]?=some a->j≠i->listed.getD j true=false->j∉waits all i->c.apart all a=true/\nf au c a=true/\(∀t∈iD c.op++(pQ all listed i).flatMap (λy=>ng y.op),a.dst≠some t)/\∀t∈ng a.op,t∈iD c.op++(pQ all listed i).flatMap (λy=>ng y.op):=by
 simp only[Bl,xam,xax]at h;refine⟨λj a f b=>?_,λj f=>by simpa using(h.1 j f).1,λj a b g m k=>?_⟩;.have ab:=(h.1 j f).2;simp only[b]at ab;obtain⟨e,o,d⟩:=Array.any_eq_true'.1 ab;simp only[xam,xbg,xbQ,List.contains_iff_mem]at d;exact⟨e,o,d.1,d.2⟩
 have n:a∈pQ all listed i:=by
  unfold pQ;rw[List.mem_filterMap];refine⟨j,by simpa using(xaN.1 b).1,?_⟩;have:(j==i||listed.getD j true||(waits all i).contains j)=false:=by simp only[Bool.or_eq_false_iff,beq_eq_false_iff_ne,ne_eq];exact⟨⟨g,m⟩,by simpa using k⟩
  rw[this];simpa using b
 obtain⟨ab,ad⟩:=h.2 a n;refine⟨ab.1,ab.2,λt l=>by simpa using ad t l,λt l=>xbS _ (List.mem_flatMap.2 ⟨a,n,l⟩)⟩
def GP(m:e6 P G C){k:aq->Option β}{b:β}:∀(ord:lX)(listed:Array Bool)(σ:aq),te T G C all ord listed σ k=some b->fL P T G all (λd=>k d=some b) ord.length listed σ
 |[],listed,σ,h=>by
  unfold te at h;split at h;.rename_i j;exact⟨List.isEmpty_iff.1 j,h⟩
  cases h
 |i::r,listed,σ,h=>by
  unfold te at h;split at h
  case h_2=>cases h
  rename_i o ag;split at h
  case isFalse=>cases h
  rename_i p;obtain⟨l,j,c⟩:=p;have H:e2 P T G all i (fL P T G all (λd=>k d=some b) r.length (listed.setIfInBounds i true)) σ:=by unfold e2;simp only[ag];unfold c3;simp only[l];exact kL (λd n=>GP m r _ d n) (GK m h)
  rcases xbw.1 c with c|c
  case inr=>obtain⟨e,f,g⟩:=AV ag c;exact AT ag e r.length listed σ f g (by simpa using j) (.inr trivial) H
  rcases xbw.1 c with c|c
  case inr=>obtain⟨e,f,g⟩:=MD c;exact LY ag l e (s0:=σ.au) (L:=iD o.op++(pQ all listed i).flatMap (λy=>ng y.op)) (λt s=>xaW _ s) r.length listed σ (λ_ _=>rfl) f g (by simpa using j) H
  rcases xbw.1 c with c|c;.obtain⟨e,f,g⟩:=LG ag c;exact LC ag e r.length listed σ f g (by simpa using j) (.inr trivial) H
  unfold Bk at c;split at c
  case h_2=>cases c
  rename_i t a q;split at c
  case h_2=>cases c
  rename_i u off aj;obtain⟨e,f,g⟩:=MC ag c;exact LQ ag q l e r.length listed σ aj f g (by simpa using j) H
def XI(c:e6 P G C){K:aq->Prop}(d:∀σ τ,jb σ τ->K τ->K σ){k:aq->Option β}{b:β}(e:∀a,k a=some b->K a)(h:Mr T G C all σ k=some b):dP P T G all all.toList K σ:=by
 have:=rf (P:=P) c d (λg f o i=>wM _ _ _ f o i) e h
 rwa [ow]at this
end
inductive lj where
 |any
 |d
 |wO (f:FuncId)
 |fd (f:FuncId) (m:Nat)
 |cE (off:Nat)
 |ptr (k:Key) (off:Nat)
 |row (k:Key)
 |map (k:Key)
 |sub (k:Key) (XJ:Nat)
inductive SW where
 |b (s:lj)
 |fn (f:Fn) (first cap:List lj)
 |agg (cs:List lj)
 |az (cs:List lj)
inductive h8 where
 |dead
 |box (cs:List SW)
 |row (k:Nat)
 |map
inductive pR where
 |slot (t K n:Nat)
 |box (k i K n:Nat)
 |all (t XJ:Nat)
structure jc where
 au:List (Nat×SW)
 objs:List (Key×h8)
 kP:List pR
def bz(ls:lZ)(n:Nat):D:=ls.getD n gn
def GQ:D->Nat
 | .val (.int _ n)=>n.toNat|_=>0
def pS(ls:lZ):lj->Nat->ax×Nat
 | .any,n=>(.any,n)| .d,n=>(.d (bz ls n),n+1)| .wO f,n=>(.d (.val (.func (.func f) #[] #[])),n)| .fd f m,n=>(.d (.fn (.func f) [] ((List.range m).map λi=>bz ls (n+i))),n+m)| .cE off,n=>(.cE (dB (bz ls n)) off,n+1)| .ptr k off,n=>(.ptr k off,n)| .row k,n=>(.row k,n)| .map k,n=>(.map k,n)| .sub k a,n=>(.sub k a (GQ (bz ls n)) (GQ (bz ls (n+1))),n+2)
def ko(ls:lZ):List lj->Nat->List ax×Nat
 |[],n=>([],n)|s::r,n=>((pS ls s n).1::(ko ls r (pS ls s n).2).1,(ko ls r (pS ls s n).2).2)
def kQ(ls:lZ):SW->Nat->ax×Nat
 | .b s,n=>pS ls s n| .fn f first cap,n=>(.fn f (ko ls first n).1 (ko ls cap (ko ls first n).2).1,(ko ls cap (ko ls first n).2).2)
 | .agg cs,n=>(.agg (ko ls cs n).1,(ko ls cs n).2)| .az cs,n=>(.az (ko ls cs n).1,(ko ls cs n).2)
def l6(ls:lZ):List SW->Nat->List ax×Nat
 |[],n=>([],n)|s::r,n=>((kQ ls s n).1::(l6 ls r (kQ ls s n).2).1,(l6 ls r (kQ ls s n).2).2)
def rh(ls:lZ):h8->Nat->b1×Nat
 | .dead,n=>(.dead,n)| .box cs,n=>(.box (l6 ls cs n).1,(l6 ls cs n).2)| .row k,n=>(.row k (aF (bz ls n)),n+1)| .map,n=>(.map (dJ (bz ls n)),n+1)
def pT(ls:lZ):List (Nat×SW)->Nat->List (Nat×ax)×Nat
 |[],n=>([],n)|(t,s)::r,n=>((t,(kQ ls s n).1)::(pT ls r (kQ ls s n).2).1,(pT ls r (kQ ls s n).2).2)
def kp(ls:lZ):List (Key×h8)->Nat->List (Key×b1)×Nat
 |[],n=>([],n)|(t,s)::r,n=>((t,(rh ls s n).1)::(kp ls r (rh ls s n).2).1,(kp ls r (rh ls s n).2).2)
def restore(a:jc)(ls:lZ):aq:=LK (pT ls a.au 0).1 (kp ls a.objs (pT ls a.au 0).2).1
def ME:ax->lj->List (Key×Key)
 | .ptr k _,.ptr a _=>[(a,k)]| .row k,.row a=>[(a,k)]| .map k,.map a=>[(a,k)]| .sub k _ _ _,.sub a _=>[(a,k)]|_,_=>[]
def wP:List ax->List lj->List (Key×Key)
 |x::xs,s::a=>ME x s++wP xs a|_,_=>[]
def MF:ax->SW->List (Key×Key)
 |x,.b s=>ME x s| .fn _ as et,.fn _ a ts=>wP as a++wP et ts| .agg cs,.agg a=>wP cs a| .az cs,.az a=>wP cs a|_,_=>[]
def Bn:List ax->List SW->List (Key×Key)
 |x::xs,s::a=>MF x s++Bn xs a|_,_=>[]
def MG(σ:aq):List (Nat×SW)->List (Key×Key)
 |[]=>[]|(t,s)::r=>MF (σ.au t) s++MG σ r
def tg(σ:aq):List (Key×h8)->List (Key×Key)->List (Key×Key)
 |[],a=>a|(k,.box b)::r,a=>match σ.objs (dV a k)with|some (.box c)=>tg σ r (a++Bn c b)|_=>tg σ r a
 |_::r,a=>tg σ r a
def Bo(h:List (Key×Key))(ks:List Key):ax->lj->oY
 |_,.any=>some []|x,.d=>(AY x).map λa=>[a]| .d (.val (.func (.func f) a b)),.wO j=>if f=j/\a.size=0/\b.size=0 then some []else none
 | .d (.fn (.func j) first g),.fd f m=>if j=f/\first.isEmpty=true/\g.length=m then some g else none
 | .cE cs off,.cE e=>if off=e then some [.agg cs]else none
 | .ptr k off,.ptr c e=>if k=dV h c/\off=e/\ks.contains c then some []else none
 | .row k,.row c=>if k=dV h c/\ks.contains c then some []else none
 | .map k,.map c=>if k=dV h c/\ks.contains c then some []else none
 | .sub k n i len,.sub c l=>if k=dV h c/\n=l/\ks.contains c then some [.val (.int .i64 (i:Nat)),.val (.int .i64 (len:Nat))]else none
 |_,_=>none
def ox(x y:oY):oY:=match x,y with|some a,some b=>some (a++b)|_,_=>none
def th(a:List (Key×Key))(ks:List Key):List ax->List lj->oY
 |[],[]=>some []|x::xs,s::b=>ox (Bo a ks x s) (th a ks xs b)|_,_=>none
def Bp(c:List (Key×Key))(ks:List Key):ax->SW->oY
 |x,.b s=>Bo c ks x s| .fn (.func f) as et,.fn (.func d) a ts=>if f=d then ox (th c ks as a) (th c ks et ts)else none
 | .agg cs,.agg a=>th c ks cs a| .az cs,.az a=>th c ks cs a|_,_=>none
def Bq(a:List (Key×Key))(ks:List Key):List ax->List SW->oY
 |[],[]=>some []|x::xs,s::b=>ox (Bp a ks x s) (Bq a ks xs b)|_,_=>none
def GR(c:List (Key×Key))(ks:List Key):Option b1->h8->oY
 |some _,.dead=>some []|some (.box xs),.box b=>Bq c ks xs b|some (.row k es),.row a=>if k=a then some [.aw k es]else none
 |some (.map es),.map=>some [.mp es]|_,_=>none
def GS(a:List (Key×Key))(ks:List Key)(σ:aq):List (Nat×SW)->oY
 |[]=>some []|(t,s)::r=>ox (Bp a ks (σ.au t) s) (GS a ks σ r)
def Br(a:List (Key×Key))(ks:List Key)(σ:aq):List (Key×h8)->oY
 |[]=>some []|(k,s)::r=>ox (GR a ks (σ.objs (dV a k)) s) (Br a ks σ r)
section
variable{β:Type}
def kq:List pR->aq->(aq->Option β)->Option β
 |[],σ,k=>k σ
 | .slot t K n::r,σ,k=>match σ.au t,σ.objs K with
  | .d a,none=>if K<10000 then bG (iW a) (kq r ⟨bE σ.au t (.row K),bE σ.objs K (some (.row n []))⟩ k)else none
  |_,_=>kq r σ k
 | .box b i K n::r,σ,k=>match σ.objs b with
  |some (.box c)=>match c[i]?,σ.objs K with
   |some (.d a),none=>if K<10000 then bG (iW a) (kq r ⟨σ.au,bE (bE σ.objs b (some (.box (c.set i (.row K))))) K (some (.row n []))⟩ k)else none
   |_,_=>kq r σ k
  |_=>kq r σ k
 | .all t b::r,σ,k=>match σ.au t with
  | .row K=>match σ.objs K with
   |some (.row n es)=>if n=b then kq r ⟨bE σ.au t (.sub K n 0 es.length),σ.objs⟩ k else none
   |_=>kq r σ k
  |_=>kq r σ k
def ti:h8->Bool
 | .box _=>true| .row _=>true| .map=>true|_=>false
def MH(ib:List Key)(a:List (Key×Key))(objs:List (Key×h8)):Bool:=objs.all (λp=>decide (p.1<10000)||ib.contains p.1)&&ib.all (λk=>dV a k==k&&objs.any λp=>p.1==k&&ti p.2)&&decide ((objs.map (·.1)).Nodup)
def nk(ib:List Key)(a:jc)(σ:aq)(k:lZ->Option β):Option β:=kq a.kP σ λσ=>
  let b:=tg σ a.objs (MG σ a.au)
  if q7 (dV b) (a.objs.map (·.1))&&MH ib b a.objs=true then
   match ox (GS b (a.objs.map (·.1)) σ a.au) (Br b (a.objs.map (·.1)) σ a.objs)with|some ls=>k ls|none=>none
  else none
end
def ri{x y:oY}{l:lZ}(h:ox x y=some l):∃a b,x=some a/\y=some b/\l=a++b:=by
 unfold ox at h;split at h;.cases h;exact⟨_,_,rfl,rfl,rfl⟩
 cases h
def At(ls:lZ)(n:Nat)(a:lZ):Prop:=∀j d,a[j]?=some d->ls[n+j]?=some d
def At.left{ls:lZ}{n:Nat}{a b:lZ}(h:At ls n (a++b)):At ls n a:=λj d c=>h j d (by rw[xao (lV.1 c).1];exact c)
def At.right{ls:lZ}{n:Nat}{a b:lZ}(h:At ls n (a++b)):At ls (n+a.length) b:=λj d c=>by
 have:=h (a.length+j) d (by rw[xas oZ];simpa using c)
 rwa [<-xbk]at this
def At.bz{ls:lZ}{n:Nat}{a:D}(h:At ls n [a]):bz ls n=a:=by have:=h 0 a rfl;simp only[xbv]at this;simp[Am.bz,xbc,this]
section
variable{gg:List (Key×Key)}{ks:List Key}{ls:lZ}{U:Key->Prop}
def MI(g:∀k,ks.contains k=true->U k){x:ax}{s:lj}{n:Nat}{a:lZ}(h:Bo gg ks x s=some a)(f:At ls n a):kM (dV gg) U x (pS ls s n).1/\(pS ls s n).2=n+a.length:=by
 unfold Bo at h;split at h;.cases h;exact⟨trivial,rfl⟩
 .obtain⟨d,p,rfl⟩:=xae.1 h;refine⟨⟨_,p,?_⟩,rfl⟩;rw[f.bz];exact D.le_refl _
 .split at h;.rename_i c;obtain⟨rfl,m,o⟩:=c;cases h;rw[xbp m,xbp o];exact⟨⟨_,rfl,D.le_refl _⟩,rfl⟩
  cases h
 .split at h
  .rename_i c;obtain⟨rfl,ab,rfl⟩:=c;cases h;refine⟨⟨_,rfl,?_⟩,rfl⟩;rw[List.isEmpty_iff.1 ab];have e:((List.range a.length).map λi=>bz ls (n+i))=a:=by
    apply xbJ;intro i;rw[xag];by_cases ag:i<a.length;.rw[xbN ag,xaa ag];have:=f i a[i] (xaa ag);simp[Am.bz,xbc,this]
    rw[xaG uZ,xaG oZ];rfl
   skip
   rw[e];exact D.le_refl _
  cases h
 .split at h;.rename_i c;cases h;subst c;refine⟨.inl ?_,rfl⟩;rw[f.bz];rfl
  cases h
 .split at h;.rename_i c;cases h;exact⟨⟨by rw[c.1,c.2.1],g _ c.2.2⟩,rfl⟩
  cases h
 .split at h;.rename_i c;cases h;exact⟨⟨by rw[c.1],g _ c.2⟩,rfl⟩
  cases h
 .split at h;.rename_i c;cases h;exact⟨⟨by rw[c.1],g _ c.2⟩,rfl⟩
  cases h
 .split at h;.rename_i c;cases h;obtain⟨ab,ad,ai⟩:=c;have j:=f.left (a:=[_]) (b:=[_]);have l:At ls (n+1) [D.val (.int .i64 ((_:Nat):Int))]:=At.right (a:=[_]) (b:=[_]) f;simp only[pS];rw[j.bz,l.bz];exact⟨⟨by rw[ab,ad];simp[GQ],g _ ai⟩,rfl⟩
  cases h
 cases h
def wQ(e:∀k,ks.contains k=true->U k):∀{d:List ax}{c:List lj}{n:Nat}{a:lZ},th gg ks d c=some a->At ls n a->gz (dV gg) U d (ko ls c n).1/\(ko ls c n).2=n+a.length
 |[],[],n,a,h,b=>by cases h;exact⟨trivial,rfl⟩
 |x::d,s::c,n,a,h,b=>by obtain⟨aE,a2,ab,ad,rfl⟩:=ri h;obtain⟨g1,g2⟩:=MI e ab b.left;have f:=b.right;rw[<-g2]at f;obtain⟨g3,g4⟩:=wQ e ad f;refine⟨⟨g1,g3⟩,?_⟩;show(ko ls c (pS ls s n).2).2=_;rw[g4,g2,xaR];omega
 |[],_::_,n,a,h,_=>by cases h
 |_::_,[],n,a,h,_=>by cases h
def XK{x y:ax}(h:kM (dV gg) U x y):om (dV gg) U x y:=by cases y<;>first|exact h|exact h.elim
def MJ(c:∀k,ks.contains k=true->U k){x:ax}{s:SW}{n:Nat}{a:lZ}(h:Bp gg ks x s=some a)(b:At ls n a):om (dV gg) U x (kQ ls s n).1/\(kQ ls s n).2=n+a.length:=by
 unfold Bp at h;split at h;.obtain⟨g1,g2⟩:=MI c h b;exact⟨XK g1,g2⟩
 .split at h;.rename_i e;subst e;obtain⟨aE,a2,ab,ad,rfl⟩:=ri h;obtain⟨g1,g2⟩:=wQ c ab b.left;have d:=b.right;rw[<-g2]at d;obtain⟨g3,g4⟩:=wQ c ad d;refine⟨⟨rfl,g1,g3⟩,?_⟩;simp only[kQ];rw[g4,g2,xaR];omega
  cases h
 .obtain⟨g1,g2⟩:=wQ c h b;exact⟨g1,g2⟩
 .obtain⟨g1,g2⟩:=wQ c h b;exact⟨g1,g2⟩
 cases h
def GU(e:∀k,ks.contains k=true->U k):∀{d:List ax}{c:List SW}{n:Nat}{a:lZ},Bq gg ks d c=some a->At ls n a->nd (dV gg) U d (l6 ls c n).1/\(l6 ls c n).2=n+a.length
 |[],[],n,a,h,b=>by cases h;exact⟨trivial,rfl⟩
 |x::d,s::c,n,a,h,b=>by obtain⟨aE,a2,ab,ad,rfl⟩:=ri h;obtain⟨g1,g2⟩:=MJ e ab b.left;have f:=b.right;rw[<-g2]at f;obtain⟨g3,g4⟩:=GU e ad f;refine⟨⟨g1,g3⟩,?_⟩;show(l6 ls c (kQ ls s n).2).2=_;rw[g4,g2,xaR];omega
 |[],_::_,n,a,h,_=>by cases h
 |_::_,[],n,a,h,_=>by cases h
def XL(c:∀k,ks.contains k=true->U k){x:Option b1}{s:h8}{n:Nat}{a:lZ}(h:GR gg ks x s=some a)(b:At ls n a):(∃o',x=some o'/\q5 (dV gg) U o' (rh ls s n).1)/\(rh ls s n).2=n+a.length:=by
 unfold GR at h;split at h;.cases h;exact⟨⟨_,rfl,trivial⟩,rfl⟩
 .obtain⟨g1,g2⟩:=GU c h b;exact⟨⟨_,rfl,⟨_,rfl,g1⟩⟩,g2⟩
 .split at h;.rename_i d;cases h;subst d;refine⟨⟨_,rfl,⟨_,rfl,.inl ?_⟩⟩,rfl⟩;rw[b.bz];rfl
  cases h
 .cases h;refine⟨⟨_,rfl,?_⟩,rfl⟩;simp only[rh,q5];rw[b.bz];rfl
 cases h
def MK(c:∀k,ks.contains k=true->U k){σ:aq}:∀{l:List (Nat×SW)} {n:Nat} {a:lZ},GS gg ks σ l=some a->At ls n a->s4 (dV gg) U σ (pT ls l n).1/\(pT ls l n).2=n+a.length
 |[],n,a,h,b=>by cases h;exact⟨trivial,rfl⟩
 |(t,s)::r,n,a,h,b=>by obtain⟨aE,a2,ab,ad,rfl⟩:=ri h;obtain⟨g1,g2⟩:=MJ c ab b.left;have d:=b.right;rw[<-g2]at d;obtain⟨g3,g4⟩:=MK c ad d;refine⟨⟨g1,g3⟩,?_⟩;simp only[pT];rw[g4,g2,xaR];omega
def GV(c:∀k,ks.contains k=true->U k){σ:aq}:∀{l:List (Key×h8)} {n:Nat} {a:lZ},Br gg ks σ l=some a->At ls n a->q6 (dV gg) U σ (kp ls l n).1/\(kp ls l n).2=n+a.length
 |[],n,a,h,b=>by cases h;exact⟨trivial,rfl⟩
 |(t,s)::r,n,a,h,b=>by obtain⟨aE,a2,ab,ad,rfl⟩:=ri h;obtain⟨g1,g2⟩:=XL c ab b.left;have d:=b.right;rw[<-g2]at d;obtain⟨g3,g4⟩:=GV c ad d;refine⟨⟨g1,g3⟩,?_⟩;simp only[kp];rw[g4,g2,xaR];omega
end
def rj(ls:lZ):∀(l:List (Key×h8)) (n:Nat),iC (kp ls l n).1=l.map (·.1)
 |[],n=>rfl|(k,s)::r,n=>by have:=rj ls r (rh ls s n).2;simp only[kp,iC,xav]at this⊢;rw[<-this]
def Bs:∀{lo:List (Key×b1)} {k:Key},k∈iC lo->∃o,c9 lo k=some o
 |[],k,h=>by cases h
 |(j,x)::r,k,h=>by
  unfold c9;by_cases a:k=j;.exact⟨x,by rw[xac a]⟩
  rw[xab a];simp only[iC,xav,xan]at h;exact Bs (h.resolve_left a)
def dE(ib:List Key)(σ:aq):Prop:=∀k,10000<=k->dj (σ.objs k)->k∈ib
def GW(ls:lZ):∀(l:List (Key×h8)) (n:Nat) (k:Key),(l.map (·.1)).Nodup->(∃s,(k,s)∈l/\ti s=true)->dj (c9 (kp ls l n).1 k)
 |[],n,k,_,⟨_,h,_⟩=>by cases h
 |(j,s)::r,n,k,a,⟨c,h,aj⟩=>by
  simp only[kp,c9];simp only[xav,List.nodup_cons]at a;rcases xan.1 h with ab|ab
  .cases ab;rw[xac rfl];cases s<;>first|cases aj|skip
   .exact og
   .exact nb
   exact pD
  have b:k≠j:=by rintro rfl;exact a.1 (xaK.2 ⟨_,ab,rfl⟩)
  rw[xab b];exact GW ls r _ k a.2 ⟨c,ab,aj⟩
def nm{u:Type}{ib:List Key}:∀{l:List pR}{σ:aq}{k:aq->Option u}{b:u},dE ib σ->kq l σ k=some b->∃τ,eJ σ τ/\dE ib τ/\k τ=some b
 |[],σ,k,b,c,h=>⟨σ,eJ.refl σ,c,h⟩
 | .slot t K n::r,σ,k,b,c,h=>by
  unfold kq at h;split at h
  .rename_i a aj p;split at h
   case isFalse=>cases h
   rename_i g;obtain⟨ab,ad⟩:=gZ h;have q:a= .val (.slice none 0 0):=by
    unfold iW at ab;split at ab;.rfl
    cases ab
   subst q;obtain⟨τ,g1,g2,g3⟩:=nm (ib:=ib) (by
    intro j f e;by_cases d:j=K;.exact absurd g (Nat.not_lt.2 (d▸f))
    simp only[b4 _ _ d]at e;exact c j f e) ad
   exact⟨τ,(WQ t K n aj p).trans g1,g2,g3⟩
  exact nm c h
 | .box s i K n::r,σ,k,b,c,h=>by
  unfold kq at h;split at h
  .rename_i x o;split at h
   .rename_i a ag p;split at h
    case isFalse=>cases h
    rename_i g;obtain⟨ab,ad⟩:=gZ h;have q:a= .val (.slice none 0 0):=by
     unfold iW at ab;split at ab;.rfl
     cases ab
    subst q;obtain⟨τ,g1,g2,g3⟩:=nm (ib:=ib) (by
     intro j f e;by_cases d:j=K;.exact absurd g (Nat.not_lt.2 (d▸f))
     simp only[b4 _ _ d]at e;by_cases m:j=s;.subst m;exact c j f (by rw[o];exact og)
     simp only[b4 _ _ m]at e;exact c j f e) ad
    exact⟨τ,(WR s i K n o ag p).trans g1,g2,g3⟩
   exact nm c h
  exact nm c h
 | .all t s::r,σ,k,b,c,h=>by
  unfold kq at h;split at h
  .rename_i K aj;split at h
   .rename_i n es o;split at h
    case isFalse=>cases h
    rename_i w;subst w;obtain⟨τ,g1,g2,g3⟩:=nm (ib:=ib) (σ:=⟨bE σ.au t (.sub K n 0 es.length),σ.objs⟩) (λj f e=>c j f e) h;exact⟨τ,(WS t K n aj o).trans g1,g2,g3⟩
   exact nm c h
  exact nm c h
def Bt{z:Type}{ib:List Key}{e:jc}{σ:aq}{k:lZ->Option z}{b:z}(E:dE ib σ)(h:nk ib e σ k=some b):∃ls,eJ σ (restore e ls)/\dE ib (restore e ls)/\k ls=some b:=by
 unfold nk at h;obtain⟨τ,g1,g2,g3⟩:=nm E h;simp only at g3;split at g3
 case isFalse=>cases g3
 rename_i x;simp only[MH,xam,xax,xbg,xaC,xbQ,xbn,List.contains_eq_mem]at x;obtain⟨q,⟨r,s⟩,t⟩:=x;split at g3
 case h_2=>cases g3
 rename_i ls u;obtain⟨aE,a2,A,B,rfl⟩:=ri u;have g:At (aE++a2) 0 (aE++a2):=λj d F=>by rw[xaw];exact F
 have w:∀k,(e.objs.map (·.1)).contains k=true->∃o,c9 (kp (aE++a2) e.objs (pT (aE++a2) e.au 0).2).1 k=some o:=by intro k l;exact Bs (by rw[rj];simpa using l)
 obtain⟨I,J⟩:=MK w A g.left;have y:=g.right;rw[<-J]at y;obtain⟨K,N⟩:=GV w B y;have i:eJ τ (restore e (aE++a2)):=by refine WL _ (by rw[rj];exact q) I K ?_;intro k l n;have G:=g2 k l n;obtain⟨C,p,c,a,m⟩:=s k G;refine⟨?_,C⟩;obtain⟨L,M⟩:=p;simp only at a m;subst a;exact GW _ _ _ _ t ⟨_,c,m⟩
 refine⟨_,g1.trans i,?_,g3⟩;intro k l n;obtain⟨o,H⟩:=sT n;have:=pL H;rw[rj]at this;obtain⟨p,c,a⟩:=xaK.1 this;rcases r p c with f|f
 .rw[a]at f;exact absurd f (Nat.not_lt.2 l)
 rw[a]at f;exact f
def Bu(objs:bK)(cs:List ax):oY:=if cs.all nc=true then e0 (cs.map (toD objs))else none
def pU(objs:bK)(ks:List Key):ax->ax
 | .ptr k off=>if k∈ks then match objs k with
   |some (.box cs)=>match Bu objs cs with|some a=> .cE a off|none=> .ptr k off
   |_=> .ptr k off
  else .ptr k off
 | .row k=>if k∈ks then match objs k with|some (.row n es)=> .d (.aw n es)|_=> .row k
  else .row k
 | .map k=>if k∈ks then match objs k with|some (.map es)=> .d (.mp es)|_=> .map k
  else .map k
 |x=>x
def Bv(objs:bK)(ks:List Key):ax->ax
 | .agg cs=>sL (cs.map (pU objs ks))| .fn f first cap=> .fn f (first.map (pU objs ks)) (cap.map (pU objs ks))
 |x=>pU objs ks x
def wR(objs:bK)(ks:List Key):b1->b1
 | .box cs=> .box (cs.map (Bv objs ks))|o=>o
def GX(objs:bK)(k:Key):Bool:=match objs k with|some (.row _ _)=>decide (k<10000)|some (.map _)=>decide (k<10000)|some (.box cs)=>decide (k<10000)&&(Bu objs cs).isSome|_=>false
def freeze(ks:List Key)(σ:aq):aq:=⟨λt=>Bv σ.objs ks (σ.au t),λk=>if k∈ks then some .dead else(σ.objs k).map (wR σ.objs ks)⟩
section
variable{m:Mem}{fr:dh}{ρ:ch}{σ:aq}{a:Act}{w:World}{ks:List Key}
def XM(h:Den m fr ρ σ a w){key off:Nat}{cs:List ax}{g:lZ}(p:σ.objs key=some (.box cs))(d:Bu σ.objs cs=some g)(z:key∈ks){U:Key->Prop}{v:Value}(A:bo m ρ σ.used (.ptr key off) v):bo (Den.part m ρ ks w) ρ U (.cE g off) v:=by
 have k:=Den.na m ρ ks w;obtain⟨b,vs,s,n,t,o,u⟩:=h.objs _ _ p;have x:=h.AI p rfl z (by rw[n];rfl);unfold Bu at d;split at d
 case isFalse=>cases d
 rename_i i;obtain⟨g1,g2⟩:=lU d;rw[xaT]at g1;cases A with
 |ptr _ _ b' hu q=>
  rw[n]at q;cases q;have:=bo.cE (m:=Den.part m ρ ks w) (ρ:=ρ) (U:=U) g off b 0 vs s (0,0) (by rw[x];exact t) (λj=>(vs[j]?).getD undef) ?_ ?_
  .simpa using this
  .intro j c f;have e:j<vs.size:=by rw[o,<-g1];exact(lV.1 f).1
   simp[xaj e]
  intro j c f;have e:j<vs.size:=by rw[o,<-g1];exact(lV.1 f).1
  have g3:=g2 j c f;rw[xag,xae]at g3;obtain⟨y,r,l⟩:=g3;have:=u j y vs[j] r (xaj e);simp only[xaj e,xbm];exact(F6 (xax.1 i y (xad r)) l this).mono k
def ML(h:Den m fr ρ σ a w){x:ax}{v:Value}(c:bo m ρ σ.used x v):bo (Den.part m ρ ks w) ρ (freeze ks σ).used (pU σ.objs ks x) v:=by
 have b:=Den.na m ρ ks w;have e:∀k,σ.used k->(freeze ks σ).used k/\ρ k=ρ k:=by
  rintro k ⟨o,j⟩;refine⟨?_,rfl⟩;unfold aq.used freeze;by_cases f:k∈ks;.exact⟨.dead,by simp[f]⟩
  exact⟨wR σ.objs ks o,by simp[f,j]⟩
 unfold pU;split
 .rename_i k off;split
  .rename_i g;split
   .rename_i cs f;split;.rename_i l i;exact XM h f i g c
    exact c.mono b e
   exact c.mono b e
  exact c.mono b e
 .rename_i k;split
  .rename_i g;split;.rename_i n es f;cases c;exact .d _ _ (F1 h f g)
   exact c.mono b e
  exact c.mono b e
 .rename_i k;split
  .rename_i g;split;.rename_i es f;cases c;exact .d _ _ (VO h f g)
   exact c.mono b e
  exact c.mono b e
 exact c.mono b e
def GY(h:Den m fr ρ σ a w){cs:List ax}{vs:Array Value}(ah:vs.size=cs.length)(aY:∀(i:Nat)(c:ax)(v:Value),cs[i]?=some c->vs[i]?=some v->bo m ρ σ.used c v):vs.size=(cs.map (pU σ.objs ks)).length/\∀(i:Nat)(c:ax)(v:Value),(cs.map (pU σ.objs ks))[i]?=some c->vs[i]?=some v->bo (Den.part m ρ ks w) ρ (freeze ks σ).used c v:=by refine⟨by simpa using ah,?_⟩;intro i c v b d;simp only[xag,xae]at b;obtain⟨y,e,rfl⟩:=b;exact ML h (aY i y v e d)
def MM(h:Den m fr ρ σ a w){x:ax}{v:Value}(d:bo m ρ σ.used x v):bo (Den.part m ρ ks w) ρ (freeze ks σ).used (Bv σ.objs ks x) v:=by
 unfold Bv;split
 .cases d with|agg _ vs ah aY=>
  obtain⟨ab,ad⟩:=GY (ks:=ks) h ah aY;exact Ay (.agg _ _ ab ad)
 .cases d with|fn _ _ _ vs f ah c aY b=>
  obtain⟨ab,ad⟩:=GY (ks:=ks) h ah aY;obtain⟨ai,e⟩:=GY (ks:=ks) h c b;exact .fn _ _ _ _ _ ab ai ad e
 exact ML h d
def XN(ks:List Key)(M:ks.all (GX σ.objs)=true):eJ σ (freeze ks σ):=by
 intro m fr ρ a w h;have A:=Den.na m ρ ks w;have H:∀k∈ks,(k<10000/\∃n es,σ.objs k=some (.row n es))\/(k<10000/\∃es,σ.objs k=some (.map es))\/(k<10000/\∃cs,σ.objs k=some (.box cs)):=by
  intro k d;have:=xax.1 M k d;unfold GX at this;split at this
  .rename_i n es e;exact .inl ⟨xbe this,n,es,e⟩
  .rename_i es e;exact .inr (.inl ⟨xbe this,es,e⟩)
  .rename_i cs e;simp only[xam,xaC]at this;exact .inr (.inr ⟨this.1,cs,e⟩)
  cases this
 have own:∀k∈ks,∃o,σ.objs k=some o/\o.owns=true:=by
  intro k d;rcases H k d with⟨_,n,es,e⟩|⟨_,es,e⟩|⟨_,cs,e⟩
  .exact⟨_,e,rfl⟩
  .exact⟨_,e,rfl⟩
  exact⟨_,e,rfl⟩
 have q:∀b,Den.part m ρ ks w b=m b\/∃k∈ks,blockOf (ρ k)=some b/\Den.part m ρ ks w b=w.heap[b]?:=by
  intro b;unfold Den.part;cases R:m b with
  |some x=>exact .inl rfl
  |none=>
   simp only;by_cases l:∃k∈ks,blockOf (ρ k)=some b;.rw[xac l];obtain⟨k,ab,ad⟩:=l;exact .inr ⟨k,ab,ad,rfl⟩
   rw[xab l];exact .inl rfl
 have gI:∀k o,(freeze ks σ).objs k=some o->o.owns=true->k∉ks/\∃f,σ.objs k=some f/\o=wR σ.objs ks f/\f.owns=true:=by
  intro k o d s;unfold freeze at d;simp only at d;split at d;.cases d;cases s
  rename_i B;obtain⟨f,ab,rfl⟩:=xae.1 d;refine⟨B,f,ab,rfl,?_⟩;cases f<;>first|rfl|exact s
 refine⟨Den.part m ρ ks w,ρ,A,⟨?_,h.frame,?_,?_,?_,?_,?_,?_⟩,?_⟩
 .intro b o g;rcases q b with e|⟨k,_,_,e⟩
  .rw[e]at g;exact h.mem b o g
  rw[e]at g;exact g
 .intro b g;rcases q b with e|⟨k,ab,ad,e⟩
  .rw[e]at g;exact h.apart b g
  obtain⟨o,ai,F⟩:=own k ab;exact(h.own k o b ai F ad).2
 .rintro k ⟨o,s⟩;unfold freeze at s;simp only at s;split at s;.rename_i d;obtain⟨o,ai,F⟩:=own k d;exact h.one k ⟨o,ai⟩
  obtain⟨f,ab,rfl⟩:=xae.1 s;exact h.one k ⟨f,ab⟩
 .intro t;exact MM h (h.au t)
 .intro k o d;have G:=d;unfold freeze at d;simp only at d;split at d
  .cases d;trivial
  obtain⟨f,ab,rfl⟩:=xae.1 d;have ad:=h.objs k f ab;cases f with
  |dead=>trivial|box cs=>obtain⟨b,vs,T,u,z,C,D⟩:=ad;refine⟨b,vs,T,u,z,by simpa using C,?_⟩;intro i c x l P;simp only[xag,xae]at l;obtain⟨y,bU,rfl⟩:=l;exact MM h (D i y x bU P)
  |row n es=>
   rcases ad with⟨u,z⟩|⟨b,o,cap,vs,S,u,z,C,D,J,U⟩;.exact .inl ⟨u,z⟩
   exact .inr ⟨b,o,cap,vs,S,u,z,C,D,J,λi e j c ag Z=>by obtain⟨x,g1,g2⟩:=U i e j c ag Z;exact⟨x,g1,g2.mono A⟩⟩
  |map es=>obtain⟨r,E,clock,u,z,C,D,J⟩:=ad;exact⟨r,E,clock,u,z,C,D,λi e x Y P=>(J i e x Y P).mono A⟩
 .intro k o b d s g;obtain⟨B,f,ab,rfl,ad⟩:=gI k o d s;have ai:=h.own k f b ab ad g;refine⟨?_,ai.2⟩;rcases q b with e|⟨I,F,V,e⟩
  .rw[e];exact ai.1
  obtain⟨o',W,X⟩:=own I F;exact absurd V (h.sep k I f o' b (by rintro rfl;exact B F) ab W ad X g)
 .intro k I o o' b N d G s O g;obtain⟨B,f,ab,rfl,ad⟩:=gI k o d s;obtain⟨bY,Q,K,rfl,L⟩:=gI I o' G O;exact h.sep k I f Q b N ab K ad L g
 intro k d g;refine⟨?_,rfl⟩;have B:k∉ks:=by
  intro R;rcases H k R with⟨p,_⟩|⟨p,_⟩|⟨p,_⟩
  .exact absurd d (Nat.not_le.2 p)
  .exact absurd d (Nat.not_le.2 p)
  exact absurd d (Nat.not_le.2 p)
 show dj (if k∈ks then some .dead else(σ.objs k).map (wR σ.objs ks));rw[xab B];rcases g with⟨c,l⟩|⟨n,es,l⟩|⟨es,l⟩
 .rw[l];exact og
 .rw[l];exact nb
 rw[l];exact pD
end
def rk{a:Type}:List (List Key)->aq->(aq->Option a)->Option a
 |[],σ,k=>k σ|ks::r,σ,k=>match ks with|[]=>rk r σ k|_=>if ks.all (GX σ.objs)=true then rk r (freeze ks σ) k else none
def tj{b:Type}(t:Tmp)(σ:aq)(k:aq->Option b):Option b:=match σ.au t with
 | .sub key a i len=>match σ.objs key,σ.objs t with
  |some (.row c es),none=>if a=c/\key<10000/\t<10000 then bG (decide (i+len<=es.length)) (k ⟨bE σ.au t (.row t),bE (bE σ.objs key (some .dead)) t (some (.row a ((es.drop i).take len)))⟩)else none
  |_,_=>none
 |_=>none
def XO{σ:aq}{t key q i len:Nat}{es:mW}(cL:σ.au t= .sub key q i len)(H:σ.objs key=some (.row q es))(ak:σ.objs t=none)(cv:i+len<=es.length)(R:key<10000):eJ σ ⟨bE σ.au t (.row t),bE (bE σ.objs key (some .dead)) t (some (.row q ((es.drop i).take len)))⟩:=by
 intro m fr ρ a w h;have S:key≠t:=by rintro rfl;rw[H]at ak;cases ak
 have C:((es.drop i).take len).length=len:=uZ
 have n:∀j o,(bE (bE σ.objs key (some .dead)) t (some (.row q ((es.drop i).take len)))) j=some o->(j=t/\o= .row q ((es.drop i).take len))\/(j=key/\o= .dead)\/(j≠t/\j≠key/\σ.objs j=some o):=by
  intro j o y;by_cases ab:j=t;.subst ab;rw[dq]at y;cases y;exact .inl ⟨rfl,rfl⟩
  rw[b4 _ _ ab]at y;by_cases ad:j=key;.subst ad;rw[dq]at y;cases y;exact .inr (.inl ⟨rfl,rfl⟩)
  rw[b4 _ _ ad]at y;exact .inr (.inr ⟨ab,ad,y⟩)
 let v:=a.tmps.getD t undef
 have T:=h.au t;rw[cL]at T;have N:∀k,σ.used k->aq.used ⟨bE σ.au t (.row t),bE (bE σ.objs key (some .dead)) t (some (.row q ((es.drop i).take len)))⟩ k/\bE ρ t v k=ρ k:=by
  rintro k ⟨o,r⟩;have l:k≠t:=by rintro rfl;rw[r]at ak;cases ak
  refine⟨?_,b4 _ _ l⟩;by_cases ad:k=key;.subst ad;exact⟨.dead,by simp only[b4 _ _ l,dq]⟩
  exact⟨o,by simp only[b4 _ _ l,b4 _ _ ad];exact r⟩
 have piece:gX v=true/\(blockOf v=none\/blockOf v=blockOf (ρ key))/\gj m (bE ρ t v) (aq.used ⟨bE σ.au t (.row t),bE (bE σ.objs key (some .dead)) t (some (.row q ((es.drop i).take len)))⟩) v w (.row q ((es.drop i).take len)):=by
  have M:=h.objs key _ H;generalize V:a.tmps.getD t undef=u at T;have U:v=u:=V;rw[U];cases T with
  |gH _ _ _ hu O=>exact⟨rfl,.inl rfl,.inl ⟨rfl,by simp⟩⟩
  |sub _ _ _ _ b o L cap bY hu O Y Q=>
   refine⟨rfl,.inr (by rw[O];rfl),?_⟩;rcases M with⟨J,X⟩|⟨b',o',W,vs,Z,J,X,cU,bU,b5,bX⟩
   .rw[O]at J;cases J
   rw[O]at J;cases J;refine .inr ⟨b,bY,cap-i,vs,Z,by rw[C],X,by rw[C];omega,?_,?_,?_⟩
   .by_cases G:i<cap
    .rw[Q.1 G,xbk,<-xaY];have:i+(cap-i)=cap:=oZ
     rw[this];exact bU
    have:cap-i=0:=oZ
    rw[this,Nat.zero_mul];have:=Q.2;omega
   .intro e b6;exact b5 e (xbq (xbr b6))
   intro p e j c I y;rw[xaP]at I;split at I
   case isFalse=>cases I
   rename_i cz;rw[xaV]at I;obtain⟨x,g1,g2⟩:=bX (i+p) e j c I y;have G:i<cap:=by have:=(lV.1 I).1;omega
   refine⟨x,?_,g2⟩;rw[Q.1 G];have:o+i*q+p*q+j=o+(i+p)*q+j:=by rw[xaY];omega
   rw[this];exact g1
 obtain⟨cy,g,di⟩:=piece;refine⟨m,bE ρ t v,Mem.le_refl m,⟨h.mem,h.frame,h.apart,?_,?_,?_,?_,?_⟩,?_⟩
 .rintro k ⟨o,r⟩;rcases n k o r with⟨rfl,_⟩|⟨rfl,_⟩|⟨ab,ad,ai⟩;.rw[dq];exact cy
  .rw[b4 _ _ S];exact h.one _ ⟨_,H⟩
  rw[b4 _ _ ab];exact h.one _ ⟨_,ai⟩
 .intro s;by_cases aj:s=t;.subst aj;simp only[dq];have:bo m (bE ρ s v) (aq.used ⟨bE σ.au s (.row s),bE (bE σ.objs key (some .dead)) s (some (.row q ((es.drop i).take len)))⟩) (.row s) (bE ρ s v s):= .row s ⟨_,dq _ _ _⟩;rw[dq]at this;exact this
  simp only[b4 _ _ aj];exact(h.au s).mono (Mem.le_refl m) N
 .intro k o f;rcases n k o f with⟨rfl,rfl⟩|⟨rfl,rfl⟩|⟨ab,ad,ai⟩
  .rw[dq];exact di
  .trivial
  rw[b4 _ _ ab];exact(h.objs k o ai).mono (Mem.le_refl m) N (λb _ _=>rfl)
 .intro k o b f r d;rcases n k o f with⟨rfl,rfl⟩|⟨rfl,rfl⟩|⟨ab,ad,ai⟩
  .rw[dq]at d;rcases g with g|g
   .rw[g]at d;cases d
   exact h.own key _ b H rfl (by rw[<-g];exact d)
  .cases r
  rw[b4 _ _ ab]at d;exact h.own k o b ai r d
 .intro k P o o' b z f B r A d;rcases n k o f with⟨rfl,rfl⟩|⟨rfl,rfl⟩|⟨ab,ad,ai⟩
  .rcases n P o' B with⟨rfl,rfl⟩|⟨rfl,rfl⟩|⟨E,K,F⟩;.exact absurd rfl z
   .cases A
   rw[dq]at d;rw[b4 _ _ E];rcases g with g|g
   .rw[g]at d;cases d
   exact h.sep key P _ o' b (xcc K) H F rfl A (by rw[<-g];exact d)
  .cases r
  rw[b4 _ _ ab]at d;rcases n P o' B with⟨rfl,rfl⟩|⟨rfl,rfl⟩|⟨E,K,F⟩
  .rw[dq];rcases g with g|g
   .rw[g];exact λaY=>by cases aY
   rw[g];exact h.sep k key o _ b ad ai H r rfl d
  .cases A
  rw[b4 _ _ E];exact h.sep k P o o' b z ai F r A d
 intro k f d;have l:k≠t:=by rintro rfl;rw[ak]at d;exact oh d
 have z:k≠key:=by rintro rfl;exact absurd R (Nat.not_lt.2 f)
 exact⟨by simp only[b4 _ _ l,b4 _ _ z];exact d,b4 _ _ l⟩
def pV(φ:Key->Key):ax->ax
 | .any=> .any| .d x=> .d x| .cE cs off=> .cE cs off| .ptr k off=> .ptr (φ k) off| .ek k a i off=> .ek (φ k) a i off| .row k=> .row (φ k)| .sub k a i len=> .sub (φ k) a i len| .map k=> .map (φ k)|_=> .any
def wS(φ:Key->Key):ax->ax
 | .agg cs=> .agg (cs.map (pV φ))| .az cs=> .az (cs.map (pV φ))| .fn f as et=> .fn f (as.map (pV φ)) (et.map (pV φ))|x=>pV φ x
def oy(φ:Key->Key):b1->b1
 | .box cs=> .box (cs.map (wS φ))|o=>o
section
variable{m:Mem}{ρ lk:ch}{U pW:Key->Prop}{φ:Key->Key}
def MN(h:∀k,U k->pW (φ k)/\lk (φ k)=ρ k){x:ax}{v:Value}(f:bo m ρ U x v):bo m lk pW (pV φ x) v:=by cases f with|any v=>exact .any _|d x v f=>exact .d _ _ f|agg=>exact .any _|az=>exact .any _|cE cs off b o vs T j n p ab ad=>exact .cE _ _ b o vs T j n p ab ad|ptr k off b hu c=>exact .ptr _ _ b (h k hu).1 ((h k hu).2.trans c)|ek k g i off b o len cap hu c=>exact .ek _ _ _ _ b o len cap (h k hu).1 ((h k hu).2.trans c)|row k hu=>rw[<-(h k hu).2];exact .row _ (h k hu).1|sub k g i len b o L cap a hu c e l=>exact .sub _ _ _ _ b o L cap a (h k hu).1 ((h k hu).2.trans c) e l|gH k g i hu c=>exact .gH _ _ _ (h k hu).1 ((h k hu).2.trans c)|map k hu=>rw[<-(h k hu).2];exact .map _ (h k hu).1|fn=>exact .any _
def Bw(h:∀k,U k->pW (φ k)/\lk (φ k)=ρ k){cs:List ax}{vs:Array Value}(ah:vs.size=cs.length)(aY:∀(i:Nat)(c:ax)(v:Value),cs[i]?=some c->vs[i]?=some v->bo m ρ U c v):vs.size=(cs.map (pV φ)).length/\∀(i:Nat)(c:ax)(v:Value),(cs.map (pV φ))[i]?=some c->vs[i]?=some v->bo m lk pW c v:=by refine⟨by simpa using ah,?_⟩;intro i c v a b;simp only[xag,xae]at a;obtain⟨y,d,rfl⟩:=a;exact MN h (aY i y v d b)
def MO(h:∀k,U k->pW (φ k)/\lk (φ k)=ρ k){x:ax}{v:Value}(a:bo m ρ U x v):bo m lk pW (wS φ x) v:=by
 unfold wS;split
 .cases a with|agg _ vs ah aY=>
  obtain⟨ab,ad⟩:=Bw h ah aY;exact .agg _ _ ab ad
 .cases a with|az _ vs ah aY=>
  obtain⟨ab,ad⟩:=Bw h ah aY;exact .az _ _ ab ad
 .cases a with|fn _ _ _ vs e ah c aY b=>
  obtain⟨ab,ad⟩:=Bw h ah aY;obtain⟨ai,d⟩:=Bw h c b;exact .fn _ _ _ _ _ ab ai ad d
 exact MN h a
def XP(h:∀k,U k->pW (φ k)/\lk (φ k)=ρ k){o:b1}{v:Value}{w:World}(a:gj m ρ U v w o):gj m lk pW v w (oy φ o):=by
 cases o with
 |dead=>trivial|box cs=>obtain⟨b,vs,T,e,f,g,j⟩:=a;refine⟨b,vs,T,e,f,by simpa using g,?_⟩;intro i c x d l;simp only[xag,xae]at d;obtain⟨y,n,rfl⟩:=d;exact MO h (j i y x n l)
 |row=>exact a|map=>exact a
theorem XQ{o:b1}:(oy φ o).owns=o.owns:=by cases o<;>rfl
end
def XR:Act:={tmps:= #[],defers:=[]}
def oz(m:Mem)(fr:dh)(ρ:ch)(E:bK)(w:World):Prop:=Den m fr ρ ⟨λ_=> .any,E⟩ XR w
def l7(E:bK)(k:Key):Prop:=∃o,E k=some o
structure eA where
 f:FuncId
 args:List SW
 ins:List (Key×h8)
 res:SW
 outs:List (Key×h8)
def eA.pX(s:eA)(ls:lZ):List ax:=(l6 ls s.args 0).1
def eA.jS(s:eA)(ls:lZ):List (Key×b1):=(kp ls s.ins (l6 ls s.args 0).2).1
def eA.Bx(s:eA)(ls:lZ):ax:=(kQ ls s.res 0).1
def eA.kR(s:eA)(ls:lZ):List (Key×b1):=(kp ls s.outs (kQ ls s.res 0).2).1
structure pY(P:Program)(G:ca)(s:eA)(F:lZ->oY):Prop where
 fn:pC P s.f
 run:∀ls By,F ls=some By->∀(m:Mem)(fr:dh)(ρ:ch)(w:World)(vs:List Value),fR G m->oz m fr ρ (c9 (s.jS ls)) w->vs.length=(s.pX ls).length->(∀(i:Nat)(x:ax)(v:Value),(s.pX ls)[i]?=some x->vs[i]?=some v->bo m ρ (l7 (c9 (s.jS ls))) x v)->Calls P s.f vs.toArray w λe w'=>∃v q1 lk,e= .returned v/\m.le q1/\oz q1 fr lk (c9 (s.kR By)) w'/\bo q1 lk (l7 (c9 (s.kR By))) (s.Bx By) v/\ ∀k,10000<=k->dj (c9 (s.jS ls) k)->lk k=ρ k
def l8(a:List (Key×Key))(base:Nat)(k:Key):Key:=if 10000<=k then dV a k else base+(k-9000)
def pZ(objs:bK)(dead:List Key)(outs:List (Key×b1)):bK:=λp=>match c9 outs p with|some o=>some o|none=>if p∈dead then some .dead else objs p
def XS:h8->Bool
 | .row _=>true| .map=>true|_=>false
def MP(objs:bK)(a:List (Key×Key))(base:Nat)(s:eA):Bool:=q7 (dV a) (s.ins.map (·.1))&&q7 (l8 a base) (s.outs.map (·.1))&&decide ((s.ins.map (·.1)).Nodup)&&decide ((s.outs.map (·.1)).Nodup)&&s.outs.all (λp=>if 10000<=p.1 then s.ins.any (λq=>q.1==p.1&&ti q.2)else decide (9000<=p.1)&&decide (l8 a base p.1<10000)&&(objs (l8 a base p.1)).isNone)&&s.ins.all (λq=>if 10000<=q.1 then ti q.2&&s.outs.any (λp=>p.1==q.1&&ti p.2)else XS q.2&&decide (dV a q.1<10000))
section
variable{β:Type}
def GZ(G:ca)(s:eA)(F:lZ->oY)(base:Nat)(σ:aq)(o:Oper)(x:Operand)(args:List Operand)(k:aq->Option β):Option β:=match pF (bs G σ.au x)with
 |some (f,pre,post)=>
  if f=s.f then
   let b:=pre++args.map (bs G σ.au)++post
   let a:=tg σ s.ins (Bn b s.args)
   let ks:=s.ins.map (·.1)
   if MP σ.objs a base s=true then
    match ox (Bq a ks b s.args) (Br a ks σ s.ins)with|some ls=>af (F ls) λc=>k (aq.put ⟨σ.au,pZ σ.objs (ks.map (dV a)) ((s.kR c).map λp=>(l8 a base p.1,oy (l8 a base) p.2))⟩ o.dst (wS (l8 a base) (s.Bx c)))|none=>none
   else none
  else none
 |none=>none
end
section
variable{P:Program}{T:br}{G:ca}{m:Mem}{fr:dh}{ρ:ch}{σ:aq}{a:Act}{w:World}{N:Nat}
def XT(K:fR G m)(h:Den m fr ρ σ a w){o:Oper}{x:Operand}{args:Array Operand}{E:Array TypeId}(C:o.op= .call ⟨.value x,args,E⟩){f:FuncId}{pre post:List ax}(b:pF (bs G σ.au x)=some (f,pre,post))(L:pC P f): ∃vs:List Value,vs.length=(pre++args.toList.map (bs G σ.au)++post).length/\(∀(i:Nat)(c:ax)(v:Value),(pre++args.toList.map (bs G σ.au)++post)[i]?=some c->vs[i]?=some v->bo m ρ σ.used c v)/\(execOp a.eval o).run P w= .ok (.enter f vs.toArray) w:=by
 have t:=wk (a:=a) K h.au;have l:=t x;have k:∃first cap,a.eval x= .func (.func f) first cap/\first.size=pre.length/\cap.size=post.length/\(∀(i:Nat)(c:ax)(v:Value),pre[i]?=some c->first[i]?=some v->bo m ρ σ.used c v)/\(∀(i:Nat)(c:ax)(v:Value),post[i]?=some c->cap[i]?=some v->bo m ρ σ.used c v):=by
  unfold pF at b;split at b
  .rename_i H first cap s
   split at b
   case isFalse=>cases b
   rename_i ak;cases b;rw[s]at l;exact⟨first,cap,l.e4,by simpa using ak.1,by simpa using ak.2,by intro i c v e;simp at e,by intro i c v e;simp at e⟩
  .rename_i H first cap s
   cases b;rw[s]at l;generalize a.eval x=u at l;cases l with|fn _ _ _ vs F ah n g z=>exact⟨vs,F,rfl,ah,n,g,z⟩
  .rename_i H first cap s
   cases b;rw[s]at l;have l:=l.kh;generalize a.eval x=u at l;cases l with|fn _ _ _ vs F ah n g z=>
   refine⟨vs,F,rfl,by simpa using ah,by simpa using n,?_,?_⟩;.intro i c v e j;simp only[xag,xae]at e;obtain⟨y,D,rfl⟩:=e;exact .d _ _ (g i y v D j)
   intro i c v e j;simp only[xag,xae]at e;obtain⟨y,D,rfl⟩:=e;exact .d _ _ (z i y v D j)
  .cases b
 obtain⟨first,cap,A,r,B,g1,g2⟩:=k;refine⟨(first++args.map a.eval++cap).toList,by simp[r,B],?_,?_⟩
 .intro i c v e j;simp only[Array.toList_append,Array.toList_map]at j;have J:first.toList.length=pre.length:=by simpa using r
  by_cases ab:i<pre.length;.rw[xaL,xao ab]at e;rw[xaL,xao oZ]at j;exact g1 i c v e (by simpa using j)
  by_cases ad:i<pre.length+args.size;.rw[xao uZ,xas oZ]at e;rw[xao uZ,xas oZ,J]at j;simp only[xag,xae]at e j;obtain⟨p,M,rfl⟩:=e;obtain⟨q,I,rfl⟩:=j;rw[M]at I;cases I;exact t _
  rw[xas uZ]at e;rw[xas uZ]at j;refine g2 _ c v e ?_;rw[<-j];simp only[xaR,xaT,xbW,r];simp
 unfold execOp;rw[C];simp only[Array.toArray_toList];exact Lp A L
def MQ{φ:Key->Key}:∀{lo:List (Key×b1)} {p:Key} {o:b1},c9 (lo.map λq=>(φ q.1,oy φ q.2)) p=some o->∃k b,k∈iC lo/\φ k=p/\o=oy φ b/\((iC lo).Nodup->c9 lo k=some b)
 |[],p,o,h=>by cases h
 |(j,x)::r,p,o,h=>by
  simp only[xav,c9]at h;split at h;.rename_i e;cases h;exact⟨j,x,by simp[iC],e.symm,rfl,λ_=>by simp[c9]⟩
  obtain⟨k,b,ab,ad,ai,f⟩:=MQ h;refine⟨k,b,?_,ad,ai,?_⟩;.simp only[iC,xav,xan]at ab⊢;exact .inr ab
  intro c;simp only[iC,xav,List.nodup_cons]at c ab;have d:k≠j:=by rintro rfl;exact c.1 ab
  simp only[c9,xab d];exact f c.2
def G0{φ:Key->Key}:∀{lo:List (Key×b1)} {k:Key},k∈iC lo->∃o,c9 (lo.map λq=>(φ q.1,oy φ q.2)) (φ k)=some o
 |[],k,h=>by cases h
 |(j,x)::r,k,h=>by
  simp only[xav,c9];split;.exact⟨_,rfl⟩
  rename_i b;simp only[iC,xav,xan]at h;rcases h with rfl|h
  .exact absurd rfl b
  exact G0 h
def MR{ls:lZ}{l:List (Key×h8)}{n:Nat}{k:Key}(e:(l.map (·.1)).Nodup){q:Key×h8}(f:q∈l)(d:q.1=k)(c:ti q.2=true):dj (c9 (kp ls l n).1 k):=by obtain⟨a,b⟩:=q;simp only at d c;subst d;exact GW ls l n _ e ⟨_,f,c⟩
def XU{φ:Key->Key}{U:Key->Prop}{o o':b1}(h:q5 φ U o' o)(b:dj (some o)):dj (some o'):=by
 cases o with
 |dead=>exact absurd b wx|box=>obtain⟨c,rfl,_⟩:=h;exact og
 |row=>obtain⟨es,rfl,_⟩:=h;exact nb
 |map=>cases o'<;>first|exact pD|exact h.elim|cases h
def XV(MS:fR G m)(h:Den m fr ρ σ a w)(MT:N<=a.tmps.size)(XW:a.defers=[]){o:Oper}(FW:∀d,o.dst=some d->d<N){s:eA}{F:lZ->oY}(FY:pY P G s F){base:Nat} {x:Operand} {args:Array Operand} {XX:Array TypeId} (G1:o.op= .call ⟨.value x,args,XX⟩) {MU:Type} {k:aq->Option MU} {b:MU} (de:GZ G s F base σ o x args.toList k=some b) {Q:Exit->Act->World->Prop}:o.wp P a w (gf N m fr ρ σ (λMV=>k MV=some b/\∀p,10000<=p->dj (MV.objs p)->dj (σ.objs p))) Q:=by
 have XY:∀d,o.dst=some d->d<a.tmps.size:=λd XZ=>xcg (FW d XZ) MT;have X0:∀v,N<=(a.put o.dst v).tmps.size:=by intro v;cases o.dst<;>simpa[Act.put]using MT
 have X1:∀v,(a.put o.dst v).defers=[]:=by intro v;cases o.dst<;>exact XW
 unfold GZ at de;split at de
 case h_2=>cases de
 rename_i f pre post FX;split at de
 case isFalse=>cases de
 rename_i dN;subst dN;simp only at de;generalize alA:tg σ s.ins (Bn (pre++args.toList.map (bs G σ.au)++post) s.args)=b6 at de;generalize X2:pre++args.toList.map (bs G σ.au)++post=alB at de;split at de
 case isFalse=>cases de
 rename_i jx;split at de
 case h_2=>cases de
 rename_i ls X3;obtain⟨L,X4,bX⟩:=cN de;simp only[MP,xam,xax,xaC]at jx;obtain⟨⟨⟨⟨⟨c1,c2⟩,b3⟩,eM⟩,iF⟩,iG⟩:=jx;obtain⟨aE,a2,G2,G3,rfl⟩:=ri X3;have FV:At (aE++a2) 0 (aE++a2):=λj d X5=>by rw[xaw];exact X5
 have cz:iC (s.jS (aE++a2))=s.ins.map (·.1):=rj _ _ _;have Y:iC (s.kR L)=s.outs.map (·.1):=rj _ _ _;have MW:∀k,(s.ins.map (·.1)).contains k=true->l7 (c9 (s.jS (aE++a2))) k:=by intro k bX;exact Bs (by rw[cz];simpa using bX)
 obtain⟨X6,X7⟩:=GU MW G2 FV.left;have MX:=FV.right;rw[<-X7]at MX;obtain⟨fK,alC⟩:=GV MW G3 MX;have fK:q6 (dV b6) (l7 (c9 (s.jS (aE++a2)))) σ (s.jS (aE++a2)):=fK;have KY:∀k j,k∈s.ins.map (·.1)->j∈s.ins.map (·.1)->dV b6 k=dV b6 j->k=j:=A1 c1;have eQ:∀k j,k∈s.outs.map (·.1)->j∈s.outs.map (·.1)->l8 b6 base k=l8 b6 base j->k=j:=A1 c2;have di:∀{o o':b1},q5 (dV b6) (l7 (c9 (s.jS (aE++a2)))) o' o->o.owns=true->o'.owns=true:=by
  intro o o' bY G1;cases o with
  |dead=>cases G1
  |box=>obtain⟨X8,rfl,_⟩:=bY;rfl
  |row=>obtain⟨es,rfl,_⟩:=bY;rfl
  |map=>cases bY;rfl
 have mT:∀{k o},c9 (s.jS (aE++a2)) k=some o->k∈s.ins.map (·.1):=λbX=>by rw[<-cz];exact pL bX
 have X9:∀{k o},c9 (s.kR L) k=some o->k∈s.outs.map (·.1):=λbX=>by rw[<-Y];exact pL bX
 let passed:Key->Prop:=λp=>∃k,k∈s.ins.map (·.1)/\dV b6 k=p
 let eI:Mem:=λb=>match fr b with|some o=>some o|none=>open Classical in if∃k o,σ.objs k=some o/\o.owns=true/\¬passed k/\blockOf (ρ k)=some b then w.heap[b]? else none
 let V:dh:=⟨eI,fr.os,fr.out,fr.low⟩
 have I:∀b o,fr b=some o->V b=some o:=by intro b o g;simp only[V,eI,g]
 have C:∀b k o,σ.objs k=some o->o.owns=true->¬passed k->blockOf (ρ k)=some b->V b=w.heap[b]?:=by intro b k o ab ad ai r;have H:=(h.own k o b ab ad r).2;simp only[V,eI,H];rw[xac ⟨k,o,ab,ad,ai,r⟩]
 have J:∀b,V b≠none->fr b≠none\/∃k o,σ.objs k=some o/\o.owns=true/\¬passed k/\blockOf (ρ k)=some b:=by intro b g;cases dN:fr b with|some o=>exact .inl sZ|none=>refine .inr ?_;refine xbi λK=>g ?_;simp only[V,eI,dN];rw[xab K]
 have FT:oz m V (λk=>ρ (dV b6 k)) (c9 (s.jS (aE++a2))) w:=by
  refine⟨h.mem,⟨?_,⟨h.frame.quiet.os,h.frame.quiet.out,h.frame.quiet.low⟩⟩,?_,?_,λ_=> .any _,?_,?_,?_⟩
  .intro b o g;cases dN:fr b with
   |some o'=>rw[I b o' dN]at g;cases g;exact h.frame.hR b _ dN
   |none=>
    simp only[V,eI,dN]at g;split at g;.exact g
    cases g
  .intro b g;refine xbi λK=>?_;rcases J b K with ab|⟨k,o,ab,ad,ai,r⟩
   .exact ab (h.apart b g)
   exact g (h.own k o b ab ad r).1
  .rintro k ⟨o,Z⟩;obtain⟨o',ab,_⟩:=fK.ok k o Z;exact h.one _ ⟨o',ab⟩
  .intro k o Z;obtain⟨o',ab,ad⟩:=fK.ok k o Z;have ai:=h.objs _ _ ab;cases o with
   |dead=>trivial|box alD=>obtain⟨X8,rfl,bY⟩:=ad;obtain⟨b,vs,T,G2,G3,Ya,Yb⟩:=ai;have:=nd.cells bY ⟨Ya,Yb⟩;exact⟨b,vs,T,G2,G3,this.1,this.2⟩
   |row alE alF=>obtain⟨es,rfl,bY⟩:=ad;exact bY.ok ai
   |map es=>cases ad;exact ai
  .intro k o b Z eW g;obtain⟨o',ab,ad⟩:=fK.ok k o Z;have ai:=h.own _ o' b ab (di ad eW) g;refine⟨ai.1,?_⟩;refine xbi λK=>?_;rcases J b K with r|⟨cy,alG,r,H,bU,py⟩
   .exact r ai.2
   have dS:dV b6 k≠cy:=by rintro rfl;exact bU ⟨k,mT Z,rfl⟩
   exact h.sep _ _ _ _ b dS ab r (di ad eW) H g py
  intro k cy o o' b dS Z jw qY pz g;obtain⟨y,ab,ad⟩:=fK.ok k o Z;obtain⟨Yc,W,cU⟩:=fK.ok cy o' jw;exact h.sep (dV b6 k) (dV b6 cy) y Yc b (λe=>dS (KY k cy (mT Z) (mT jw) e)) ab W (di ad qY) (di cU pz) g
 obtain⟨vs,MY,v2,v3⟩:=XT (P:=P) MS h G1 FX FY.fn;rw[X2]at MY v2;obtain⟨Yd,Ye⟩:=X6.ok;have jO:=FY.run _ _ X4 m V _ w vs MS FT (MY.trans Yd.symm) (by intro i y v Yf Yg;obtain⟨Yh,Yi,bY⟩:=Ye i y Yf;exact bY.ok (v2 i Yh v Yi Yg))
 unfold Oper.wp;rw[v3];refine jO.mono λe w' Yj=>?_;obtain⟨v,G4,hr,rfl,mU,E,Yk,mV⟩:=Yj;generalize MZ:l8 b6 base=φ at*
 let l:=(s.kR L).map λp=>(φ p.1,oy φ p.2)
 let objs':=pZ σ.objs ((s.ins.map (·.1)).map (dV b6)) l
 let O:ch:=λp=>match(s.outs.map (·.1)).find? (λk=>φ k==p)with|some k=>hr k|none=>ρ p
 have R:∀k,k∈s.outs.map (·.1)->O (φ k)=hr k:=by intro k bX;simp only[O];cases dD:(s.outs.map (·.1)).find? (λcy=>φ cy==φ k)with|none=>exact absurd (List.find?_eq_none.1 dD k bX) sZ|some cy=>have ab:=List.find?_some dD;simp only[xbQ]at ab;rw[eQ cy k (List.mem_of_find?_eq_some dD) bX ab]
 have fw:∀k,k∈s.outs.map (·.1)->(10000<=k/\k∈s.ins.map (·.1)/\φ k=dV b6 k/\dj (c9 (s.jS (aE++a2)) k))\/(σ.objs (φ k)=none/\φ k<10000):=by
  intro k bX;obtain⟨p,z,rfl⟩:=xaK.1 bX;have ab:=iF p z;by_cases gk:10000<=p.1
  .rw[xac gk]at ab;obtain⟨q,Bz,ad⟩:=xbn.1 ab;simp only[xam,xbQ]at ad;refine .inl ⟨gk,xaK.2 ⟨q,Bz,ad.1⟩,?_,MR b3 Bz ad.1 ad.2⟩;rw[<-MZ];simp only[l8,xac gk]
  rw[xab gk]at ab;simp only[xam,xaC,Option.isNone_iff_eq_none]at ab;exact .inr ⟨ab.2,ab.1.2⟩
 have A:∀p,σ.used p->O p=ρ p:=by
  rintro p ⟨op,z⟩;simp only[O];cases dD:(s.outs.map (·.1)).find? (λcy=>φ cy==p)with
  |none=>rfl
  |some k=>
   have ab:=List.find?_some dD;simp only[xbQ]at ab;rcases fw k (List.mem_of_find?_eq_some dD)with⟨ad,ai,r,H⟩|⟨ad,_⟩
   .simp only;rw[mV k ad H,<-r,ab]
   rw[ab,z]at ad;cases ad
 have c:∀p op,c9 l p=some op->∃k M,k∈s.outs.map (·.1)/\φ k=p/\op=oy φ M/\c9 (s.kR L) k=some M:=by intro p op z;obtain⟨k,M,ab,ad,ai,r⟩:=MQ z;rw[Y]at ab r;exact⟨k,M,ab,ad,ai,r eM⟩
 have U:∀k,l7 (c9 (s.kR L)) k->l7 objs' (φ k)/\O (φ k)=hr k:=by rintro k ⟨M,ab⟩;refine⟨?_,R k (X9 ab)⟩;obtain⟨dA,ad⟩:=G0 (φ:=φ) (pL ab);exact⟨dA,by simp only[objs',pZ,l,ad]⟩
 have S:∀p,σ.used p->l7 objs' p/\O p=ρ p:=by
  rintro p ⟨op,z⟩;refine⟨?_,A p ⟨op,z⟩⟩;unfold l7;simp only[objs',pZ];cases ah:c9 l p with
  |some dA=>exact⟨dA,rfl⟩
  |none=>
   simp only;split;.exact⟨_,rfl⟩
   exact⟨op,z⟩
 have B:∀p op,objs' p=some op->op.owns=true->(∃k M,φ k=p/\op=oy φ M/\c9 (s.kR L) k=some M/\O p=hr k/\M.owns=true)\/(σ.objs p=some op/\¬passed p/\O p=ρ p):=by
  intro p op z u;simp only[objs',pZ]at z;cases ah:c9 l p with
  |some dA=>rw[ah]at z;cases z;obtain⟨k,M,ab,ad,ai,r⟩:=c p op ah;refine .inl ⟨k,M,ad,ai,r,?_,by rw[ai,XQ]at u;exact u⟩;rw[<-ad];exact R k ab
  |none=>
   rw[ah]at z;simp only at z;split at z;.cases z;cases u
   rename_i Yl;refine .inr ⟨z,?_,A p ⟨op,z⟩⟩;rintro⟨k,bX,rfl⟩;exact Yl (xaK.2 ⟨k,bX,rfl⟩)
 have FU:Den G4 fr O ⟨σ.au,objs'⟩ a w':=by
  refine⟨E.mem,⟨λb eP g=>E.frame.hR b eP (I b eP g),⟨E.frame.quiet.os,E.frame.quiet.out,E.frame.quiet.low⟩⟩,?_,?_,?_,?_,?_,?_⟩;.intro b g;have ab:=E.apart b g;cases dN:fr b with|none=>rfl|some eP=>rw[I b eP dN]at ab;cases ab
  .rintro p ⟨op,z⟩;simp only[objs',pZ]at z;cases ah:c9 l p with
   |some dA=>obtain⟨k,M,ab,ad,ai,r⟩:=c p dA ah;rw[<-ad,R k ab];exact E.one k ⟨M,r⟩
   |none=>
    rw[ah]at z;simp only at z;have hu:σ.used p:=by
     split at z;.rename_i Ym;obtain⟨k,bX,rfl⟩:=xaK.1 Ym;obtain⟨ok,Yn⟩:=Bs (lo:=s.jS (aE++a2)) (k:=k) (by rw[cz];exact bX);obtain⟨o',ab,_⟩:=fK.ok k ok Yn;exact⟨o',ab⟩
     exact⟨op,z⟩
    rw[A p hu];exact h.one p hu
  .intro t;exact(h.au t).mono mU S
  .intro p op z;by_cases u:op.owns=true
   .rcases B p op z u with⟨k,M,ab,ad,ai,r,H⟩|⟨ab,ad,ai⟩;.rw[ad,r];exact XP U (E.objs k M ai)
    rw[ai];refine(h.objs p op ab).mono mU S ?_;intro b Yo AG;have r:=C b p op ab u ad AG;have H:∃eP,w.heap[b]?=some eP:=⟨_,xaj ((h.objs p op ab).od Yo AG)⟩;obtain⟨eP,H⟩:=H;rw[H];exact E.frame.hR b eP (by rw[r,H])
   cases op with|dead=>trivial|_=>exact absurd rfl u
  .intro p op b z u g;rcases B p op z u with⟨k,M,ab,ad,ai,r,H⟩|⟨ab,ad,ai⟩
   .rw[r]at g;have bU:=E.own k M b ai H g;refine⟨bU.1,?_⟩;cases dN:fr b with|none=>rfl|some eP=>rw[I b eP dN]at bU;cases bU.2
   rw[ai]at g;have r:=h.own p op b ab u g;refine⟨?_,r.2⟩;refine xbi λK=>?_;have H:=E.apart b K;rw[C b p op ab u ad g]at H;have:=(h.objs p op ab).od u g;rw[xaj this]at H;cases H
  intro p lP op eV b dS z eO u b5 g;rcases B p op z u with⟨k,M,ab,ad,ai,r,H⟩|⟨ab,ad,ai⟩
  .rw[r]at g;rcases B lP eV eO b5 with⟨cy,px,W,cU,cv,iz,ki⟩|⟨W,cU,cv⟩
   .rw[iz];exact E.sep k cy M px b (by rintro rfl;exact dS (ab.symm.trans W)) ai cv H ki g
   rw[cv];intro ga;have bU:=(E.own k M b ai H g).2;rw[C b lP eV W b5 cU ga]at bU;have:=(h.objs lP eV W).od b5 ga;rw[xaj this]at bU;cases bU
  rw[ai]at g;rcases B lP eV eO b5 with⟨cy,px,W,cU,cv,iz,ki⟩|⟨W,cU,cv⟩
  .rw[iz];intro ga;have bU:=(E.own cy px b cv ki ga).2;rw[C b p op ab u ad g]at bU;have:=(h.objs p op ab).od u g;rw[xaj this]at bU;cases bU
  rw[cv];exact h.sep p lP op eV b dS ab W u b5 g
 have Yp:bo G4 O (l7 objs') (wS φ (s.Bx L)) v:=MO U Yk;have KZ:∀p,10000<=p->dj (objs' p)->dj (σ.objs p):=by
  intro p z X;simp only[objs',pZ]at X;cases ah:c9 l p with
  |some dA=>
   obtain⟨k,M,g1,g2,g3,g4⟩:=c p dA ah;rcases fw k g1 with⟨ad,ai,r,H⟩|⟨_,ad⟩;.obtain⟨bF,bU⟩:=sT H;obtain⟨o',py,Yq⟩:=fK.ok k _ bU;rw[bU]at H;rw[<-g2,r,py];exact XU Yq H
   rw[g2]at ad;exact absurd ad (Nat.not_lt.2 z)
  |none=>
   rw[ah]at X;simp only at X;split at X;.exact absurd X wx
   exact X
 refine⟨_,G4,O,⟨bX,by rw[aq.pE];exact KZ⟩,mU,FU.put Yp XY,X0 v,X1 v,?_⟩;intro p z g;rw[aq.pE];obtain⟨cs,X⟩:=sT g;refine⟨?_,A p ⟨_,X⟩⟩;show dj (objs' p);simp only[objs',pZ];by_cases cL:p∈(s.ins.map (·.1)).map (dV b6)
 .obtain⟨k,Yr,rfl⟩:=xaK.1 cL;obtain⟨q,Bz,rfl⟩:=xaK.1 Yr;have ab:=iG q Bz;by_cases r:10000<=q.1
  .rw[xac r]at ab;simp only[xam,xbn,xbQ]at ab;obtain⟨_,lP,eO,H,bU⟩:=ab;have FR:q.1∈s.outs.map (·.1):=xaK.2 ⟨lP,eO,H⟩;have Ys:φ q.1=dV b6 q.1:=by rw[<-MZ];simp only[l8,xac r]
   obtain⟨dA,py⟩:=G0 (φ:=φ) (lo:=s.kR L) (k:=q.1) (by rw[Y];exact FR);obtain⟨k,M,g1,g2,g3,g4⟩:=c _ dA py;have Yt:k=q.1:=eQ k q.1 g1 FR g2;subst Yt;have g5:dj (c9 (s.kR L) q.1):=MR (ls:=L) (n:=(kQ L s.res 0).2) eM eO H bU;rw[g4]at g5;rw[<-Ys];have g7:c9 l (φ q.1)=some dA:=py;rw[g7,g3];rcases g5 with⟨alH,g5⟩|⟨iH,Yu,g5⟩|⟨Yu,g5⟩
   .cases g5;exact og
   .cases g5;exact nb
   cases g5;exact pD
  rw[xab r]at ab;simp only[xam,xaC]at ab;exact absurd ab.2 (Nat.not_lt.2 z)
 cases ah:c9 l p with
 |some dA=>
  exfalso;obtain⟨k,M,g1,g2,g3,g4⟩:=c p dA ah;rcases fw k g1 with⟨ad,ai,r,H⟩|⟨ad,_⟩
  .exact cL (xaK.2 ⟨k,ai,by rw[<-r,g2]⟩)
  rw[g2,X]at ad;cases ad
 |none=>simp only;rw[xab cL];exact g
end
structure tk where
 s:eA
 F:lZ->oY
 base:Nat
 kP:List pR
abbrev p0:=Tmp->Option tk
def jd(P:Program)(G:ca)(H:p0):Prop:=∀t e,H t=some e->pY P G e.s e.F
def BA:ax->List Key
 | .row k=>[k]| .map k=>[k]|_=>[]
def BB:ax->List Key
 | .agg cs=>cs.flatMap BA| .fn _ as et=>as.flatMap BA++et.flatMap BA|x=>BA x
def BC:ax->List Key
 | .ptr k _=>[k]|_=>[]
def M0:ax->List Key
 | .agg cs=>cs.flatMap BC| .fn _ as et=>as.flatMap BC++et.flatMap BC|x=>BC x
def M1(objs:bK)(k:Key):List ax:=match objs k with|some (.box cs)=>cs|_=>[]
section
variable{β:Type}
def M3(T:br)(G:ca)(C:hv)(σ:aq)(o:Oper)(x:Operand)(args:List Operand)(k:aq->Option β):Option β:=
 let a:=(x::args).map (bs G σ.au)
 let b:=a.flatMap M0
 let c1:=b.flatMap (M1 σ.objs)
 let c:=c1.flatMap M0
 let c2:=c.flatMap (M1 σ.objs)
 rk [a.flatMap BB++c1.flatMap BB++c2.flatMap BB,c,b] σ λσ=>rb T G C σ o x args k
def M4(o:Oper):Tmp:=match o.op,o.dst with| .store _ (.tmp a) _,_=>20000+a| .mapUpdate _ (.tmp a) _ _,_=>30000+a|_,some d=>d|_,none=>9999
def Yv:Op->List Operand
 | .buildSlice _ _ a=>a.toList.map (·.2)| .build _ a=>a.toList.map (·.2)| .box _ x=>[x]| .store _ _ x=>[x]| .mapUpdate _ _ _ x=>[x]| .call ⟨.builtin .append,args,_⟩=>args.toList.drop 1|_=>[]
def tl:D->Option (TypeId×D)
 | .cP t x=>some (t,x)|_=>none
def en{d:Type}(t c:Nat)(a b:Option d):Option d:=if t=c then a else b
def BD(lM:TypeId->Option FuncId)(t:TypeId)(k:FuncId->oX):List TypeId->oX
 |[]=>none|c::r=>en t c (match lM c with|some f=>k f|none=>none) (BD lM t k r)
def G5(T:br)(G:ca)(C:hv)(σ:aq)(o:Oper)(x:Operand)(name:String)(args:List Operand)(k:aq->Option β):Option β:=match bs G σ.au x with
 | .d a=>match e0 ((args.map (bs G σ.au)).map (toD σ.objs))with|some b=>af (tl a) λp=>af (BD (λt=>T.lM t name) p.1 (λf=>C (o.dst.getD 9999) f (p.2::b)) T.FH) λr=>bG ((args.map (bs G σ.au)).all nc) (k (σ.put o.dst (.d r)))|none=>none
 |_=>none
def BE(T:br)(G:ca)(fU:Tmp->Bool)(σ:aq)(o:Oper)(k:aq->Option β):Option β:=match fU (M4 o)with|true=>rk [((Yv o.op).map (bs G σ.au)).flatMap BB] σ λσ=>ni T G σ o k|false=>ni T G σ o k
def G6(T:br)(G:ca)(C:hv)(H:p0)(fU:Tmp->Bool)(σ:aq)(o:Oper)(k:aq->Option β):Option β:=match o.op with
 | .call ⟨.value x,args,_⟩=>match H (o.dst.getD 9999)with
  |some e=>kq e.kP σ λσ=>GZ G e.s e.F e.base σ o x args.toList λa=>match fU (o.dst.getD 9999)with|true=>tj (o.dst.getD 9999) a k|false=>k a
  |none=>match fU (o.dst.getD 9999)with|true=>M3 T G C σ o x args.toList k|false=>rb T G C σ o x args.toList k
 | .call ⟨.invoke x name,args,_⟩=>G5 T G C σ o x name args.toList k| .slice _ _ _ _ _=>match fU (M4 o)with|true=>ni T G σ o λa=>tj (o.dst.getD 9999) a k|false=>ni T G σ o k
 | .store _ _ (.tmp t)=>match fU (40000+t)with|true=>tj t σ λσ=>ni T G σ o k|false=>BE T G fU σ o k
 |_=>BE T G fU σ o k
def G7(T:br)(G:ca)(C:hv)(H:p0)(fU:Tmp->Bool):List Oper->aq->(aq->Option β)->Option β
 |[],σ,k=>k σ|o::r,σ,k=>G6 T G C H fU σ o λa=>G7 T G C H fU r a k
def G8(o:Oper):Bool:=still o||la o.op
def rl(T:br)(G:ca)(C:hv)(H:p0)(fU:Tmp->Bool)(all:Array Oper):List (Option (Nat×Bool)×List Oper)->aq->(aq->Option β)->Option β
 |[],σ,k=>k σ|(none,os)::r,σ,k=>G7 T G C H fU os σ λa=>rl T G C H fU all r a k
 |(some (j,want),os)::r,σ,k=>match(all[j]?).bind (·.dst),pN os with
  |some d,some bj=>match σ.au d with
   | .d x=>if os.all (λo=>G8 o&&o.dst !=some d)=true then
     (if(kept all os (flat r)).all (·==bj)=true then
      af (cu x want (nj T G C os σ λa=>match a.au bj with| .d v=>some v|_=>none)) λv=>rl T G C H fU all r ((h7 (dstsOf os) σ).put (some bj) (.d v)) k
     else af (cu x want (nj T G C os σ λa=>match wL a (kept all os (flat r))with|some l=>some (.agg l)|none=>none)) λv=>rl T G C H fU all r (pO (kept all os (flat r)) v (h7 (dstsOf os) σ)) k)else none
   |_=>none
  |_,_=>none
def M5(T:br)(G:ca)(C:hv)(H:p0)(fU:Tmp->Bool)(all:Array Oper)(σ:aq)(k:aq->Option β):Option β:=rl T G C H fU all (ov all.toList) σ k
end
def tn{objs:bK}{k d:Key}{o:b1}(h:dj (some o)->dj (objs k)\/k=d):∀j,dj (bE objs k (some o) j)->dj (objs j)\/j=d:=by
 intro j b;by_cases a:j=k;.subst a;rw[dq]at b;exact h b
 rw[b4 _ _ a]at b;exact .inl b
def Yw{T:br}{ev:Operand->ax}{objs:bK}{d:Key}{o:Op}{r:ax}{c:List (Key×b1)}(h:cZ T ev objs d o=some (r,c)):∀j,dj (cA objs c j)->dj (objs j)\/j=d:=by
 have new:∀{o:b1},∀j,dj (cA objs [(d,o)] j)->dj (objs j)\/j=d:=by intro o;exact tn (λ_=> .inr rfl)
 have row:∀{k:Key}{n e:Nat}{es a:mW},objs k=some (.row e a)->∀j,dj (cA objs [(k,.row n es)] j)->dj (objs j)\/j=d:=by intro k n e es a b;exact tn (λ_=> .inl (by rw[b];exact nb))
 have mp:∀{k:Key}{es a:List (Value×D)},objs k=some (.map a)->∀j,dj (cA objs [(k,.map es)] j)->dj (objs j)\/j=d:=by intro k es a b;exact tn (λ_=> .inl (by rw[b];exact pD))
 cases o<;>simp only[cZ,reduceCtorEq]at h
 case alloc=>split at h<;>cases h;exact new
 case box=>split at h<;>cases h;exact new
 case buildSlice=>
  split at h
  case h_2=>cases h
  split at h
  case h_2=>cases h
  split at h
  case h_2=>cases h
  split at h<;>cases h;exact new
 case makeSlice=>
  split at h
  case h_2=>cases h
  split at h
  case h_2=>cases h
  split at h
  case h_2=>cases h
  split at h<;>cases h;exact new
 case makeMap=>split at h<;>cases h;exact new
 case store=>
  split at h
  case h_2=>cases h
  split at h
  case isFalse=>cases h
  split at h
  .split at h
   case h_2=>cases h
   split at h<;>cases h;rename_i b _;exact tn λ_=> .inl (by rw[b];exact og)
  .split at h
   case h_2=>cases h
   split at h
   case isFalse=>cases h
   split at h<;>cases h;exact row aZ
  cases h
 case mapUpdate=>
  split at h
  case h_2=>cases h
  split at h
  case h_2=>cases h
  split at h
  case isFalse=>cases h
  split at h
  case h_2=>cases h
  split at h
  case h_2=>cases h
  split at h<;>cases h;exact mp aZ
 case insert=>
  split at h
  case h_2=>cases h
  split at h
  case h_2=>cases h
  split at h
  case isFalse=>cases h
  split at h
  case h_2=>cases h
  split at h
  case h_2=>cases h
  split at h<;>cases h;exact mp aZ
 case call=>
  split at h
  .split at h
   case h_2=>cases h
   split at h
   case h_2=>cases h
   split at h
   case h_2=>cases h
   split at h
   case h_2=>cases h
   split at h
   case isFalse=>cases h
   split at h;.split at h<;>cases h;exact new
   .split at h
    case h_2=>cases h
    split at h<;>cases h;intro j f;rcases tn (d:=d) (λ_=> .inr rfl) j f with ab|ab
    .exact tn (λh=>absurd h wx) j ab
    exact .inr ab
   cases h
  .split at h
   case h_2=>cases h
   split at h
   case h_2=>cases h
   split at h
   case h_2=>cases h
   split at h
   case h_2=>cases h
   split at h
   case isFalse=>cases h
   split at h
   .split at h
    case h_2=>cases h
    split at h<;>cases h;exact row aZ
   .split at h
    case h_2=>cases h
    split at h<;>cases h;exact row aZ
   cases h
  .split at h
   case h_2=>cases h
   split at h
   case h_2=>cases h
   split at h
   case h_2=>cases h
   split at h
   case h_2=>cases h
   split at h
   case h_2=>cases h
   split at h<;>cases h;exact row aZ
  cases h
def Yx{T:br}{ev:Operand->ax}{objs:bK}{d:Key}{o:Op}{r:ax}{b:List (Key×b1)}(h:eR T ev objs d o=some (r,b)):∀j,dj (cA objs b j)->dj (objs j)\/j=d:=by
 obtain⟨⟨k,c⟩,ak,f⟩:=pB h;have ab:=Yw ak;intro j a;by_cases g:j=d
 .exact .inr g
 rcases q0 (T.born d) d k c with e|⟨n,es,rfl,rfl,e⟩|⟨m,n,es,rfl,rfl,e⟩|⟨off,cs,l,rfl,rfl,i,e⟩;.rw[f]at e;cases e;exact ab j a
 .rw[f]at e;cases e;exact ab j (by simp only[cA,b4 _ _ g]at a⊢;exact a)
 .rw[f]at e;cases e;exact ab j (by simp only[cA,b4 _ _ g]at a⊢;exact a)
 rw[f]at e;cases e;exact ab j (by simp only[cA,b4 _ _ g]at a⊢;exact a)
section
variable{P:Program}{T:br}{G:ca}{N:Nat}{σ:aq}{all:Array Oper}{ib:List Key}
def dE.put(h:dE ib σ){dst:Option Tmp}{r:ax}:dE ib (σ.put dst r):=by intro k b a;rw[aq.pE]at a;exact h k b a
def BF(b:dE ib σ){o:Oper}(f:∀d,o.dst=some d->d<10000){a:aq}(h:eD T G σ o=some a):dE ib a:=by
 unfold eD at h;split at h;.cases h;exact b.put
 split at h;.cases h;exact b.put
 split at h
 case h_2=>cases h
 rename_i r j g;cases h;refine dE.put ?_;intro k c e;rcases Yx g k e with ab|ab
 .exact b k c ab
 exfalso;have:o.dst.getD 9999<10000:=by cases i:o.dst with|none=>simp|some d=>exact f d i
 exact absurd this (Nat.not_lt.2 (ab▸c))
def M6(c:dE ib σ){o:Oper}(j:∀d,o.dst=some d->d<10000){K:aq->Prop}(h:cf P T G o K σ):cf P T G o (λa=>dE ib a/\K a) σ:=by
 unfold cf at*;split;.rename_i a aj;simp only[aj]at h;exact⟨BF c j aj,h⟩
 rename_i aj;simp only[aj]at h;unfold gx at*;split at h
 case h_2=>cases h
 split at h
 case h_2=>cases h
 obtain⟨b,e,R,ab,ad,ai,f,g,i⟩:=h;exact⟨b,e,R,ab,ad,ai,f,g,λr k=>⟨c.put,i r k⟩⟩
def G9:∀{l:List Oper}{σ:aq}{K:aq->Prop},dE ib σ->(∀o∈l,∀d,o.dst=some d->d<10000)->dP P T G all l K σ->dP P T G all l (λa=>dE ib a/\K a) σ
 |[],σ,K,b,_,h=>⟨b,h⟩|o::l,σ,K,b,c,h=>by unfold dP at*;rw[e5]at*;cases f:gJ all σ o with|none=>rw[f]at h;exact h|some w=>rw[f]at h;cases w with|true=>exact kL (λa ⟨ab,ad⟩=>G9 ab (λo e=>c o (by simp[e])) ad) (M6 b (c o sZ) h)|false=>exact G9 b.put (λo e=>c o (by simp[e])) h
end
section
variable{P:Program}{T:br}{G:ca}{C:hv}{H:p0}{fU:Tmp->Bool}{N:Nat}{σ:aq}{all:Array Oper}{ib:List Key}
def kr(P:Program)(G:ca)(N:Nat)(all:Array Oper)(i:Nat)(l:List Oper)(K:aq->Prop)(σ:aq):Prop:= ∀m fr ρ a w (Q:Exit->Act->World->Prop),fR G m->Den m fr ρ σ a w->N<=a.tmps.size->a.defers=[]->(∀b w',gf N m fr ρ σ K b w'->Q .normal b w')->wpOps P all Q (List.range' i l.length) a w
def fV(P:Program)(G:ca)(N:Nat)(o:Oper)(K:aq->Prop)(σ:aq):Prop:= ∀m fr ρ a w (Q:Exit->Act->World->Prop),fR G m->Den m fr ρ σ a w->N<=a.tmps.size->a.defers=[]->o.wp P a w (gf N m fr ρ σ K) Q
def Yy{i:Nat}{K:aq->Prop}(h:K σ):kr P G N all i [] K σ:=λm fr ρ a w Q f b c e d=>d a w ⟨σ,m,ρ,h,Mem.le_refl m,b,c,e,hI.refl _ _⟩
def Yz{i:Nat}{o:Oper}{l:List Oper}{K:aq->Prop}(ag:all[i]?=some o)(q:o.guard=none)(h:fV P G N o (kr P G N all (i+1) l K) σ):kr P G N all i (o::l) K σ:=by
 intro m fr ρ a w Q e j k p n;rw[xal,List.range'_succ,wpOps_cons];refine wpOp_mono (K:=gf N m fr ρ σ (kr P G N all (i+1) l K)) ?_ ?_;.rintro g w' ⟨A,s,d,t,f,u,x,y,z⟩;exact t s fr d g w' Q (e.mono f) u x y λb c r=>n b c (r.trans f z)
 unfold wpOp;simp only[ag];have:Region.wanted o (yielded all a.tmps)=true:=by simp[Region.wanted,q]
 rw[xac this];exact .inl (h m fr ρ a w Q e j k p)
def fV.mono{o:Oper}{K K':aq->Prop}(d:∀σ,K σ->K' σ)(h:fV P G N o K σ):fV P G N o K' σ:=λm fr ρ a w Q i g j k=>by
  have:=h m fr ρ a w Q i g j k;unfold Oper.wp at*;generalize (execOp a.eval o).run P w=r at*;cases r with
  |ok n w'=>
   cases n<;>simp only[Oper.upon]at this⊢<;>first|exact this.mono d|exact this|skip
   .refine this.mono λe f b=>?_;cases e with|returned v=>exact b.mono d|panicked c=>exact b|outgrown=>exact b
   exact this.mono λv f b=>b.mono d
  |halt x w'=>cases x<;>exact this
def fV.re{o:Oper}{K:aq->Prop}{τ:aq}(b:eJ σ τ)(h:fV P G N o K τ):fV P G N o K σ:=by
 intro m fr ρ a w Q i g j k;obtain⟨l,f,ab,ad,ai⟩:=b m fr ρ a w g;have:=h l fr f a w Q (i.mono ab) ad j k;unfold Oper.wp at*;generalize (execOp a.eval o).run P w=r at*;cases r with
 |ok n w'=>
  cases n<;>simp only[Oper.upon]at this⊢<;>first|exact this.trans ab ai|exact this|skip
  .refine this.mono λe d b=>?_;cases e with|returned v=>exact b.trans ab ai|panicked c=>exact b|outgrown=>exact b
  exact this.mono λv d b=>b.trans ab ai
 |halt x w'=>cases x<;>exact this
def BG(g:cQ P T){o:Oper}(b:∀d,o.dst=some d->d<N){K:aq->Prop}(h:cf P T G o K σ):fV P G N o K σ:=λm fr ρ a w Q e c f i=>F7 g e c f i b h
def YA{ks:List Key}(h:dE ib σ):dE ib (freeze ks σ):=by
 intro k c d;have a:dj (if k∈ks then some .dead else(σ.objs k).map (wR σ.objs ks)):=d;split at a
 .exact absurd a wx
 cases b:σ.objs k with|none=>rw[b]at a;exact absurd a oh|some e=>rw[b]at a;cases e with|box cs=>exact h k c (by rw[b];exact og)|dead=>exact absurd a wx|row=>exact h k c (by rw[b];exact nb)|map=>exact h k c (by rw[b];exact pD)
def wT{d:Type}:∀{l:List (List Key)} {σ:aq} {k:aq->Option d} {b:d},dE ib σ->rk l σ k=some b->∃τ,eJ σ τ/\dE ib τ/\k τ=some b
 |[],σ,k,b,a,h=>⟨σ,eJ.refl σ,a,h⟩
 |ks::r,σ,k,b,a,h=>by
  unfold rk at h;split at h;.exact wT a h
  split at h
  case isFalse=>cases h
  rename_i c;obtain⟨τ,ab,ad,ai⟩:=wT (YA a) h;exact⟨τ,(XN _ c).trans ab,ad,ai⟩
def Ha{l:Type}{t:Tmp}{σ:aq}{k:aq->Option l}{b:l}(m:dE ib σ)(h:tj t σ k=some b):∃τ,eJ σ τ/\dE ib τ/\k τ=some b:=by
 unfold tj at h;split at h
 case h_2=>cases h
 rename_i key q i len o;split at h
 case h_2=>cases h
 rename_i p es n ak;split at h
 case isFalse=>cases h
 rename_i a;obtain⟨a,c,f⟩:=a;subst a;obtain⟨ab,ad⟩:=gZ h;refine⟨_,XO o n ak (xbe ab) c,?_,ad⟩;intro j e d;simp only at d;by_cases ai:j=t;.subst ai;exact absurd f (Nat.not_lt.2 e)
 rw[b4 _ _ ai]at d;by_cases g:j=key;.subst g;exact absurd c (Nat.not_lt.2 e)
 rw[b4 _ _ g]at d;exact m j e d
def fV.out{o:Oper}{K:aq->Prop}(h:fV P G N o (λb=>∃τ,eJ b τ/\K τ) σ):fV P G N o K σ:=λm fr ρ a w Q z y A B=>by
  have key:∀{g w'},gf N m fr ρ σ (λb=>∃τ,eJ b τ/\K τ) g w'->gf N m fr ρ σ K g w':=by rintro g w' ⟨b,D,k,⟨τ,g1,g2⟩,ad,ai,s,t,u⟩;obtain⟨i,f,l,p,q⟩:=g1 D fr k g w' ai;exact⟨τ,i,f,g2,Mem.le_trans ad l,p,s,t,u.trans q⟩
  have:=h m fr ρ a w Q z y A B;unfold Oper.wp at*;generalize (execOp a.eval o).run P w=r at*;cases r with
  |ok n w'=>
   cases n<;>simp only[Oper.upon]at this⊢<;>first|exact key this|exact this|skip
   .refine this.mono λe j d=>?_;cases e with|returned v=>exact key d|panicked c=>exact d|outgrown=>exact d
   exact this.mono λv j d=>key d
  |halt x w'=>cases x<;>exact this
def M7{f:Type}(l:cQ P T)(g:e6 P G C){o:Oper}(c:∀d,o.dst=some d->d<N){x:Operand}{args:Array Operand}{e:Array TypeId}(p:o.op= .call ⟨.value x,args,e⟩){k:aq->Option f}{b:f}(i:dE ib σ) (h:rb T G C σ o x args.toList k=some b):fV P G N o (λa=>k a=some b/\dE ib a) σ:=by refine BG l c (kL ?_ (Bm (T:=T) g p h));rintro a ⟨ab,ad,_⟩;refine⟨ab,λj n m=>i j n (by rw[<-ad];exact m)⟩
def M8{lM:TypeId->Option FuncId}{t:TypeId}{k:FuncId->oX}{r:D}:∀{l:List TypeId},BD lM t k l=some r->∃f,lM t=some f/\k f=some r
 |[],h=>by cases h
 |c::l,h=>by
  unfold BD en at h;split at h
  .rename_i a;subst a;split at h;.rename_i f b;exact⟨f,b,h⟩
   cases h
  exact M8 h
def YB{P:Program}{t:TypeId}{name:String}{f:FuncId}(h:Aw P t name f)(n:Nat)(v:Value)(w:World):(method (n+1) t v name).run P w= .ok (f,v) w:=by
 obtain⟨a,m,d,ab,ad,ai,c,e,g⟩:=h;have b:(typeInfo t).run P w= .ok a w:=by simp[typeInfo,ab]
 unfold method;simp only[xai,b,xaf,ad,ai,follow,xay,c,receiverAt,xau e];cases d<;>first|(simp only[Place.get,xay,xaf];done)|(exact absurd rfl (g _))
def YC{P:Program}{va:Operand->Value}{x:Operand}{name:String}{args:Array Operand}{c:Array TypeId}{ty:TypeId}{t:TypeId}{v:Value}{f:FuncId}{w:World}(o:va x= .iface t v)(l:Aw P t name f)(k:pC P f):(do let d<-resolve va {callee:= .invoke x name,args:=args,argTypes:=c} ty;invoke d.target d.args:Sem Next).run P w= .ok (.enter f (#[v]++args.map va)) w:=by
 obtain⟨fn,ab,ad,ai⟩:=k;have g:0<Made.depth:=dZ
 have j:∃n,P.types.size+Made.depth=n+1:=⟨P.types.size+Made.depth-1,by omega⟩;obtain⟨n,m⟩:=j;have h:(#[Value.iface t v]++args.map va)[0]?=some (Value.iface t v):=by rw[xbs sZ];rfl
 have i:(#[Value.iface t v]++args.map va).extract 1 (#[Value.iface t v]++args.map va).size=args.map va:=by apply xbO;simp[List.extract,xbz]
 have e:(program:Sem Program).run P w= .ok P w:=rfl;have b:=YB l n v w;have a:(callFunc f (#[v]++args.map va)).run P w= .ok (.enter f (#[v]++args.map va)) w:=by simp only[callFunc,xai,e,xaf,ab,ad,ai,xaq,xaF,xay]
 simp only[xai,resolve,o,xay,xaf,invoke,h,i,callMethod,e,m,b,a]
def YD{cL:Type}(dS:cQ P T)(de:e6 P G C){o:Oper}(A:∀d,o.dst=some d->d<N){x:Operand}{name:String}{args:Array Operand}{b5:Array TypeId}(eQ:o.op= .call ⟨.invoke x name,args,b5⟩){k:aq->Option cL}{b:cL}(dD:dE ib σ) (h:G5 T G C σ o x name args.toList k=some b):fV P G N o (λJ=>k J=some b/\dE ib J) σ:=by
 unfold G5 at h;split at h
 case h_2=>cases h
 rename_i d l;split at h
 case h_2=>cases h
 rename_i cy W;obtain⟨p,K,h⟩:=cN h;obtain⟨r,eW,h⟩:=cN h;obtain⟨di,cU⟩:=gZ h;obtain⟨f,eI,R⟩:=M8 eW;have D:=de _ _ _ _ R;have Y:=dS.Ax _ _ _ eI;obtain⟨t,y⟩:=p;have X:d= .cP t y:=by
  unfold tl at K;split at K;.cases K;rfl
  cases K
 subst X;intro m fr ρ a w Q bX n b6 U;have B:=wk (a:=a) bX n.au;have S:∀d,o.dst=some d->d<a.tmps.size:=λd l=>xcg (A d l) b6;have E:∀v,N<=(a.put o.dst v).tmps.size:=by intro v;cases o.dst<;>simpa[Act.put]using b6
 have V:∀v,(a.put o.dst v).defers=[]:=by intro v;cases o.dst<;>exact U
 have I:=B x;rw[l]at I;have I:=I.kh;obtain⟨v,Z,bY⟩:∃v,a.eval x= .iface t v/\bH m y v:=by generalize a.eval x=u at I;cases I with|cP _ _ v h=>exact⟨v,rfl,h⟩
 have g:(execOp a.eval o).run P w= .ok (.enter f (#[v]++args.map a.eval)) w:=by unfold execOp;rw[eQ];exact YC Z Y D.fn
 unfold Oper.wp;rw[g];have L:jy m (y::cy) (#[v]++args.map a.eval).toList:=by obtain⟨g1,g2⟩:=lU W;refine⟨by simp[g1],?_⟩;intro i d dC l s;simp only[Array.toList_append,xbD,xaM,Array.toList_map]at s;cases i with|zero=>simp at l s;subst l;subst s;exact bY|succ i=>simp only[xcs]at l s;have g3:=g2 i d l;simp only[xag,xae]at g3 s;obtain⟨z,⟨q,cv,rfl⟩,bU⟩:=g3;obtain⟨gk,F,rfl⟩:=s;rw[cv]at F;cases F;exact F6 (xax.1 di _ (xaK.2 ⟨q,xad cv,rfl⟩)) bU (B q)
 have c:=D.run m _ w _ bX n.Ll L;simp only[Array.toArray_toList]at c;refine c.mono λe w' dA=>?_;obtain⟨dC,eO,fK,rfl,eV,cz,fw,eP⟩:=dA;subst eV;have M:=n.kept cz fw;exact⟨_,eO,ρ,⟨cU,λj dN O=>dD j dN (by simpa using O)⟩,cz,M.put (.d _ _ eP) S,E dC,V dC,λk ga O=>⟨by simpa using O,rfl⟩⟩
def M9{f:Type}(i:cQ P T)(l:e6 P G C)(hH:jd P G H)(g:N<10000){o:Oper}(c:∀d,o.dst=some d->d<N){k:aq->Option f}{b:f}(e:dE ib σ)(h:BE T G fU σ o k=some b):fV P G N o (λa=>k a=some b/\dE ib a) σ:=by
 unfold BE at h;have step:∀{τ:aq},dE ib τ->ni T G τ o k=some b->fV P G N o (λa=>k a=some b/\dE ib a) τ:=by intro τ e h;obtain⟨a,ab,ad⟩:=ra h;refine BG i c ?_;unfold cf;rw[ab];exact⟨ad,BF e (λd j=>xcm (c d j) g) ab⟩
 split at h;.obtain⟨τ,ab,ad,ai⟩:=wT e h;exact fV.re ab (step ad ai)
 exact step e h
def YE{y:Type}(i:cQ P T)(j:e6 P G C)(hH:jd P G H)(q:N<10000){o:Oper}(f:∀d,o.dst=some d->d<N){k:aq->Option y}{b:y}(g:dE ib σ)(h:G6 T G C H fU σ o k=some b):fV P G N o (λc=>k c=some b/\dE ib c) σ:=by
 unfold G6 at h;split at h
 .rename_i x args u n;split at h
  .rename_i e I;obtain⟨τ,t1,r,h⟩:=nm g h;refine fV.re t1 ?_;generalize t:(λc=>match fU (o.dst.getD 9999)with|true=>tj (o.dst.getD 9999) c k|false=>k c)=B at h;have main:fV P G N o (λc=>B c=some b/\dE ib c) τ:=by refine fV.mono (K:=λc=>B c=some b/\∀p,10000<=p->dj (c.objs p)->dj (τ.objs p)) (λc ⟨ab,ad⟩=>⟨ab,λp A F=>r p A (ad p A F)⟩) ?_;intro m fr ρ a w Q E D s l;exact XV E D s l f (hH _ _ I) n h (Q:=Q)
   refine fV.out (fV.mono ?_ main);rintro c ⟨ab,ad⟩;subst t;simp only at ab;split at ab;.obtain⟨z,g1,g2,g3⟩:=Ha ad ab;exact⟨z,g1,g3,g2⟩
   exact⟨c,eJ.refl c,ab,ad⟩
  split at h;.unfold M3 at h;simp only at h;obtain⟨τ,ab,ad,ai⟩:=wT g h;exact fV.re ab (M7 i j f n ad ai)
  exact M7 i j f n g h
 .rename_i x name args u n;exact YD i j f n g h
 .have step:∀{τ:aq}{k:aq->Option y},dE ib τ->ni T G τ o k=some b->fV P G N o (λc=>k c=some b/\dE ib c) τ:=by
   intro τ k g h;obtain⟨c,ab,ad⟩:=ra h;refine BG i f ?_;unfold cf;rw[ab];exact⟨ad,BF g (λd l=>xcm (f d l) q) ab⟩
  split at h;.refine fV.out (fV.mono ?_ (step g h));rintro c ⟨ab,ad⟩;obtain⟨τ,g1,g2,g3⟩:=Ha ad ab;exact⟨τ,g1,g3,g2⟩
  exact step g h
 .split at h;.obtain⟨τ,g1,g2,g3⟩:=Ha g h;refine fV.re g1 ?_;obtain⟨c,ab,ad⟩:=ra g3;refine BG i f ?_;unfold cf;rw[ab];exact⟨ad,BF g2 (λd l=>xcm (f d l) q) ab⟩
  exact M9 i j hH q f g h
 exact M9 i j hH q f g h
def Na{t:Type}(p:cQ P T)(m:e6 P G C)(hH:jd P G H)(n:N<10000){K:aq->Prop}:∀{os:List Oper}{r:List Oper}{i:Nat}{σ:aq}{k:aq->Option t}{b:t},(∀o∈os,o.guard=none)->(∀o∈os,∀d,o.dst=some d->d<N)->(∀j,(os++r)[j]?=all[i+j]?)->dE ib σ->(∀a,dE ib a->k a=some b->kr P G N all (i+os.length) r K a)->G7 T G C H fU os σ k=some b->kr P G N all i (os++r) K σ
 |[],r,i,σ,k,b,_,_,_,f,g,h=>g σ f h
 |o::os,r,i,σ,k,b,s,q,c,f,g,h=>by
  have ag:all[i]?=some o:=by simpa using(c 0).symm
  refine Yz ag (s o sZ) (fV.mono ?_ (YE p m hH n (q o sZ) f h));rintro a ⟨ab,ad⟩;refine Na p m hH n (λo l=>s o (by simp[l])) (λo l=>q o (by simp[l])) (λj=>by have:=c (j+1);simpa[xbk,Nat.add_comm 1 j]using this) ad ?_ ab;intro e ai u;have:=g e ai u;rw[show i+(o::os).length=i+1+os.length by simp;omega]at this;exact this
def bo.shrink{m m0:Mem}{ρ y:ch}{U z:Key->Prop}{x:ax}{v:Value}(h:bo m ρ U x v):∀{v0:Value},bo m0 y z x v0->bo m ρ z x v:=by
 induction h with
 |any v=>intro v0 _;exact .any _
 |d x v h=>intro v0 _;exact .d _ _ h
 |agg cs vs ah h ih=>
  intro v0 ak;cases ak with|agg _ n l j=>
  refine .agg _ _ ah λi c v g p=>?_;have ag:i<n.size:=by rw[l];exact(lV.1 g).1
  exact ih i c v g p (j i c _ g (xaj ag))
 |az cs vs ah h ih=>
  intro v0 ak;cases ak with|az _ n l j=>
  refine .az _ _ ah λi c v g p=>?_;have ag:i<n.size:=by rw[l];exact(lV.1 g).1
  exact ih i c v g p (j i c _ g (xaj ag))
 |cE cs off b o vs T B D E ab ad=>intro v0 _;exact .cE _ _ b o vs T B D E ab ad
 |ptr key off b hu h=>intro v0 ak;cases ak with|ptr _ _ _ e _=>exact .ptr _ _ b e h
 |ek key k i off b o len cap hu h=>intro v0 ak;cases ak with|ek _ _ _ _ _ _ _ _ e _=>exact .ek _ _ _ _ b o len cap e h
 |row key hu=>intro v0 ak;cases ak with|row _ e=>exact .row _ e
 |sub key k i len b o L cap a hu h s A=>intro v0 ak;cases ak with|sub _ _ _ _ _ _ _ _ _ e=>exact .sub _ _ _ _ b o L cap a e h s A|gH _ _ _ e=>exact .sub _ _ _ _ b o L cap a e h s A
 |gH key k i hu h=>intro v0 ak;cases ak with|sub _ _ _ _ _ _ _ _ _ e=>exact .gH _ _ _ e h|gH _ _ _ e=>exact .gH _ _ _ e h
 |map key hu=>intro v0 ak;cases ak with|map _ e=>exact .map _ e
 |fn f first captured vs I ah t h F ih u=>
  intro v0 ak;cases ak with|fn _ _ _ n w l r j q=>
  refine .fn _ _ _ _ _ ah t (λi c v g p=>?_) (λi c v g p=>?_)
  .have ag:i<n.size:=by rw[l];exact(lV.1 g).1
   exact ih i c v g p (j i c _ g (xaj ag))
  .have ag:i<w.size:=by rw[r];exact(lV.1 g).1
   exact u i c v g p (q i c _ g (xaj ag))
def gj.shrink{m m0:Mem}{ρ e:ch}{U f:Key->Prop}{o:b1}{v v0:Value}{w w0:World}(h:gj m ρ U v w o)(ak:gj m0 e f v0 w0 o):gj m ρ f v w o:=by
 cases o with
 |dead=>trivial
 |box cs=>
  obtain⟨b,vs,T,g,j,k,l⟩:=h;obtain⟨p,d,T0,f1,f2,f3,f4⟩:=ak;refine⟨b,vs,T,g,j,k,λi c x a n=>?_⟩;have ag:i<d.size:=by rw[f3];exact(lV.1 a).1
  exact(l i c x a n).shrink (f4 i c _ a (xaj ag))
 |row=>exact h|map=>exact h
def YF{m z:Mem}{fr:dh}{ρ p:ch}{σ i:aq}{a x:Act}{w w':World}{q:List Tmp}(h:Den m fr ρ σ a w)(f:Den z fr p i x w')(c:bK.ext σ.objs i.objs)(aj:∀t,t∉q->i.au t=σ.au t){bj:Tmp}{v:D}(E:i.au bj= .d v)(A:bj∈q):Den z fr p ((h7 q σ).put (some bj) (.d v)) x w':=by
 have e:((h7 q σ).put (some bj) (.d v)).objs=σ.objs:=by simp[h7]
 refine⟨f.mem,f.frame,f.apart,?_,?_,?_,?_,?_⟩;.rintro k ⟨o,j⟩;rw[e]at j;exact f.one k ⟨o,c k o j⟩
 .intro t;by_cases n:t=bj;.subst n;simp only[aq.put,dq];have:=f.au t;rw[E]at this;exact .d _ _ this.kh
  simp only[aq.put,b4 _ _ n,h7];split;.exact .any _
  rename_i B;have ab:=f.au t;rw[aj t B]at ab;exact ab.shrink (h.au t)
 .intro k o g;rw[e]at g;exact(f.objs k o (c k o g)).shrink (h.objs k o g)
 .intro k o b g j r;rw[e]at g;exact f.own k o b (c k o g) j r
 intro k y o o' b s g l j u r;rw[e]at g l;exact f.sep k y o o' b s (c k o g) (c y o' l) j u r
def YG{m z:Mem}{fr:dh}{ρ q:ch}{σ i:aq}{a x:Act}{w w':World}{l:List Tmp}(h:Den m fr ρ σ a w)(f:Den z fr q i x w')(c:bK.ext σ.objs i.objs)(aj:∀t,t∉l->i.au t=σ.au t){ts:List Tmp}{v:D}(B:∀t∈ts,i.au t= .d (ae v (ts.idxOf t))):Den z fr q (pO ts v (h7 l σ)) x w':=by
 have e:(pO ts v (h7 l σ)).objs=σ.objs:=rfl;refine⟨f.mem,f.frame,f.apart,?_,?_,?_,?_,?_⟩;.rintro k ⟨o,n⟩;rw[e]at n;exact f.one k ⟨o,c k o n⟩
 .intro t;by_cases j:t∈ts
  .have ad:(pO ts v (h7 l σ)).au t= .d (ae v (ts.idxOf t)):=by simp only[pO,xac j]
   rw[ad];have:=f.au t;rw[B t j]at this;exact .d _ _ this.kh
  have ad:(pO ts v (h7 l σ)).au t=(h7 l σ).au t:=by simp only[pO,xab j]
  rw[ad];simp only[h7];split;.exact .any _
  rename_i A;have ab:=f.au t;rw[aj t A]at ab;exact ab.shrink (h.au t)
 .intro k o g;rw[e]at g;exact(f.objs k o (c k o g)).shrink (h.objs k o g)
 .intro k o b g n r;rw[e]at g;exact f.own k o b (c k o g) n r
 intro k y o o' b s g p n u r;rw[e]at g p;exact f.sep k y o o' b s (c k o g) (c y o' p) n u r
theorem YH{T:br}{ev:Operand->ax}{objs:bK}{d:Key}{op:Op}{r:ax}{a:List (Key×b1)}(aj:la op=true)(b:eR T ev objs d op=some (r,a)):objs d=none:=(sX (objs':=λ_=>none) aj rfl b).2.1
def YI{g:Type}(i:e6 P G C){o:Oper}(aj:G8 o=true){k:aq->Option g}{b:g}(h:l4 T G C σ o k=some b):cf P T G o (λc=>k c=some b/\bK.ext σ.objs c.objs/\∀t,o.dst≠some t->c.au t=σ.au t) σ:=by
 rcases xbw.1 aj with aj|aj;.refine kL ?_ (Mw i aj h);rintro c ⟨ab,ad,ai⟩;exact⟨ab,by rw[ad];exact λ_ _ h=>h,ai⟩
 have f:∀x args d,o.op≠ .call ⟨.value x,args,d⟩:=by intro x args d e;rw[e]at aj;cases aj
 unfold l4 at h;split at h;.exact absurd aZ (f _ _ _)
 obtain⟨c,ab,ad⟩:=ra h;unfold cf;rw[ab];unfold eD at ab;rw[(l0 (objs:=σ.objs) aj).1,(l0 aj).2]at ab;simp only at ab;split at ab
 case h_2=>cases ab
 rename_i r m e;cases ab;have a:σ.objs (o.dst.getD 9999)=none:=YH aj e;obtain⟨_,_,l,rfl⟩:=sX aj a e;refine⟨ad,?_,λt j=>l5 j⟩;rw[aq.pE];exact bK.AM a l
def Hb{r:Type}(i:e6 P G C){j:Nat}{want:Bool}{d:Tmp}(l:(all[j]?).bind (·.dst)=some d):∀{os:List Oper}{σ:aq}{k:aq->Option r}{b:r},(∀o∈os,o.guard=some (j,want))->(∀o∈os,G8 o=true/\o.dst≠some d)->σ.au d= .d (.val (.bool want))->nj T G C os σ k=some b->dP P T G all os (λa=>k a=some b/\bK.ext σ.objs a.objs/\∀t,t∉dstsOf os->a.au t=σ.au t) σ
 |[],σ,k,b,_,_,_,h=>⟨h,λ_ _ h=>h,λ_ _=>rfl⟩
 |o::os,σ,k,b,m,aj,hw,h=>by
  have ak:=aj o sZ;unfold dP c3;rw[m o sZ];simp only[l,hw,xaE];refine kL ?_ (YI i ak.1 h);rintro a ⟨ab,ad,ai⟩;refine ja ?_ (Hb i l (λo c=>m o (by simp[c])) (λo c=>aj o (by simp[c])) (by rw[ai d ak.2];exact hw) ab);rintro s ⟨g1,g2,g3⟩;refine⟨g1,λp q c=>g2 p q (ad p q c),?_⟩;intro t n;have f:t∉dstsOf os:=λe=>n (by unfold dstsOf at e⊢;simp only[xbX];cases o.dst<;>simp[e])
  have g:o.dst≠some t:=λe=>n (by unfold dstsOf;simp[e]);rw[g3 t f,ai t g]
def Hc(t:cQ P T){fr:dh}{Q:Exit->Act->World->Prop}:∀(os r:List Oper)(i:Nat)(m:Mem)(ρ:ch)(σ:aq)(a:Act)(w:World)(K:aq->Prop),(∀j,(os++r)[j]?=all[i+j]?)->fR G m->Den m fr ρ σ a w->N<=a.tmps.size->a.defers=[]->(∀o∈os,∀d,o.dst=some d->d<N)->dP P T G all os K σ->(∀f w',gf N m fr ρ σ K f w'->wpOps P all Q (List.range' (i+os.length) r.length) f w')->wpOps P all Q (List.range' i (os++r).length) a w
 |[],r,i,m,ρ,σ,a,w,K,_,k,h,l,e,_,n,c=>c a w ⟨σ,m,ρ,n,Mem.le_refl m,h,l,e,hI.refl _ _⟩
 |o::os,r,i,m,ρ,σ,a,w,K,ah,k,h,l,e,b,n,c=>by
  rw[xbD,xal,List.range'_succ,wpOps_cons];have ag:all[i]?=some o:=by simpa using(ah 0).symm
  refine wpOp_mono ?_ (F8 t k h l e ag (b o sZ) n);rintro f w' ⟨s,z,q,A,u,B,D,E,F⟩;refine Hc t os r (i+1) z q s f w' K (λj=>by have:=ah (j+1);simpa[xbk,Nat.add_comm 1 j]using this) (k.mono u) B D E (λo x=>b o (by simp[x])) A ?_;intro g p y;have:=c g p (y.trans u F);rw[show i+(o::os).length=i+1+os.length by simp;omega]at this;exact this
theorem Nb(i:Nat):ae gn i=gn:=by unfold ae;cases i<;>rfl
def wU{dA:Type}(S:cQ P T)(O:e6 P G C)(hH:jd P G H)(b5:N<10000){K:aq->Prop}:∀{gs:List (Option (Nat×Bool)×List Oper)} {i:Nat} {σ:aq} {k:aq->Option dA} {b:dA},(∀g∈gs,∀o∈g.2,o.guard=g.1)->(∀o∈flat gs,∀d,o.dst=some d->d<N)->(∀j,(flat gs)[j]?=all[i+j]?)->dE ib σ->(∀c,dE ib c->k c=some b->K c)->rl T G C H fU all gs σ k=some b->kr P G N all i (flat gs) K σ
 |[],i,σ,k,b,_,_,_,R,U,h=>Yy (U σ R h)|(none,os)::r,i,σ,k,b,F,D,f,R,U,h=>by show kr P G N all i (os++flat r) K σ;refine Na S O hH b5 (λo e=>F (none,os) sZ o e) (λo e=>D o (by simp[flat,e])) f R ?_ h;intro c ab ad;refine wU S O hH b5 (λg Y=>F g (by simp[Y])) (λo e=>D o (by simp only[flat,List.flatMap_cons,xar];exact .inr e)) ?_ ab U ad;intro j;have:=f (os.length+j);rw[<-xbk]at this;rw[<-this];show _=(os++flat r)[os.length+j]?;rw[xas oZ];simp
 |(some (j,want),os)::r,i,σ,k,b,F,D,f,R,U,h=>by
  show kr P G N all i (os++flat r) K σ;unfold rl at h;split at h
  case h_2=>cases h
  rename_i d bj s J;split at h
  case h_2=>cases h
  rename_i x V;split at h
  case isFalse=>cases h
  rename_i p;simp only[xax,xam,bne_iff_ne,ne_eq]at p;split at h
  .obtain⟨v,ab,ad⟩:=cN h;have n:∀o∈os,o.guard=some (j,want):=λo e=>F (some (j,want),os) sZ o e;have q:kr P G N all (i+os.length) (flat r) K ((h7 (dstsOf os) σ).put (some bj) (.d v)):=by
    refine wU S O hH b5 (λg Y=>F g (by simp[Y])) (λo e=>D o (by simp only[flat,List.flatMap_cons,xar];exact .inr e)) ?_ (dE.put (σ:=h7 (dstsOf os) σ) R) U ad;intro bY;have:=f (os.length+bY);rw[<-xbk]at this;rw[<-this];show _=(os++flat r)[os.length+bY]?;rw[xas oZ];simp
   have cL:dP P T G all os (λc=>bK.ext σ.objs c.objs/\(∀t,t∉dstsOf os->c.au t=σ.au t)/\c.au bj= .d v) σ:=by
    unfold cu at ab;split at ab
    .rename_i b6;split at ab
     .rename_i y;subst y;refine ja ?_ (Hb O s n p V ab);rintro c ⟨g1,g2,g3⟩;refine⟨g2,g3,?_⟩;split at g1;.rename_i u hu;cases g1;exact hu
      cases g1
     rename_i y;cases ab;refine ja ?_ (wN s n (λo e=>(p o e).2) (.inl (by rw[V];cases b6<;>cases want<;>simp_all)));rintro c ⟨g1,g2,g3⟩;exact⟨by rw[g1];exact λ_ _ h=>h,g2,g3 bj J⟩
    .rename_i vs;cases ab;refine ja ?_ (wN s n (λo e=>(p o e).2) (.inr ⟨_,V⟩));rintro c ⟨g1,g2,g3⟩;exact⟨by rw[g1];exact λ_ _ h=>h,g2,g3 bj J⟩
    cases ab
   intro m fr ρ a w Q X W B E cv;refine Hc S os (flat r) i m ρ σ a w _ f X W B E (λo e=>D o (by simp[flat,e])) cL ?_;rintro bX w' ⟨c,di,M,⟨g1,g2,g3⟩,bU,cU,de,dD,dS⟩;have A:=YF W cU g1 g2 g3 (MB J);refine q di fr M bX w' Q (X.mono bU) A de dD ?_;intro z L cz;refine cv z L (cz.trans bU ?_);intro cy I y;exact⟨by rw[aq.pE];exact y,(dS cy I y).2⟩
  obtain⟨v,ab,ad⟩:=cN h;have n:∀o∈os,o.guard=some (j,want):=λo e=>F (some (j,want),os) sZ o e;have q:kr P G N all (i+os.length) (flat r) K (pO (kept all os (flat r)) v (h7 (dstsOf os) σ)):=by refine wU S O hH b5 (λg Y=>F g (by simp[Y])) (λo e=>D o (by simp only[flat,List.flatMap_cons,xar];exact .inr e)) ?_ R U ad;intro bY;have:=f (os.length+bY);rw[<-xbk]at this;rw[<-this];show _=(os++flat r)[os.length+bY]?;rw[xas oZ];simp
  have cL:dP P T G all os (λc=>bK.ext σ.objs c.objs/\(∀t,t∉dstsOf os->c.au t=σ.au t)/\(∀t∈kept all os (flat r),c.au t= .d (ae v ((kept all os (flat r)).idxOf t)))) σ:=by
   unfold cu at ab;split at ab
   .rename_i b6;split at ab
    .rename_i y;subst y;refine ja ?_ (Hb O s n p V ab);rintro c ⟨g1,g2,g3⟩;refine⟨g2,g3,?_⟩;split at g1;.rename_i l ah;cases g1;exact λt Z=>XD ah Z
     cases g1
    rename_i y;cases ab;refine ja ?_ (GN s n (λo e=>(p o e).2) (.inl (by rw[V];cases b6<;>cases want<;>simp_all)));rintro c ⟨g1,g2,g3⟩;exact⟨by rw[g1];exact λ_ _ h=>h,g2,λt Z=>by rw[g3 t (xbL.1 Z).1,Nb]⟩
   .rename_i vs;cases ab;refine ja ?_ (GN s n (λo e=>(p o e).2) (.inr ⟨_,V⟩));rintro c ⟨g1,g2,g3⟩;exact⟨by rw[g1];exact λ_ _ h=>h,g2,λt Z=>by rw[g3 t (xbL.1 Z).1,Nb]⟩
   cases ab
  intro m fr ρ a w Q X W B E cv;refine Hc S os (flat r) i m ρ σ a w _ f X W B E (λo e=>D o (by simp[flat,e])) cL ?_;rintro bX w' ⟨c,di,M,⟨g1,g2,g3⟩,bU,cU,de,dD,dS⟩;have A:=YG W cU g1 g2 g3;refine q di fr M bX w' Q (X.mono bU) A de dD ?_;intro z L cz;refine cv z L (cz.trans bU ?_);intro cy I y;exact⟨y,(dS cy I y).2⟩
def YJ{c:Type}(m:cQ P T)(e:e6 P G C)(hH:jd P G H)(l:N<10000){k:aq->Option c}{b:c}(n:∀o∈all.toList,∀d,o.dst=some d->d<N)(f:dE ib σ)(h:M5 T G C H fU all σ k=some b):kr P G N all 0 all.toList (λa=>dE ib a/\k a=some b) σ:=by
 have:=wU (P:=P) (N:=N) (ib:=ib) (all:=all) (i:=0) m e hH l (K:=λa=>dE ib a/\k a=some b) (λg p o q=>wM _ _ _ p o q) (by rw[ow];exact n) (by rw[ow];intro j;simp) f (λa ab ad=>⟨ab,ad⟩) h
 rwa [ow]at this
def YK{Q:Exit->aq->Prop}{id:Nat}{ops:Array Oper}(h:kr P G N ops 0 ops.toList (Q .normal) σ):eX P T G N (.region id ops false) σ Q:=by intro m fr ρ a w f d b g;refine wp_region ?_;rw[List.range_eq_range'];have:=h m fr ρ a w (λe c w'=>gf N m fr ρ σ (Q e) c w') f d b g (λc w' i=>i);simpa using this
end
def np(ops:Array Oper):Bool:=(List.range ops.size).all λj=>match ops[j]? with
  |some o=>o.after.all (λe=>!Region.binds .any e||decide (e.on<j))&&(match o.guard with|none=>true|some (g,_)=>decide (g<j))
  |none=>true
def wV(ops:Array Oper)(j:Nat):Bool:=(List.range j).all λi=>(List.range (j+1)).any λk=>decide (i<k)&&match ops[k]? with|some o=>o.after.any (λe=>Region.binds .any e&&decide (e.on=i))|none=>false
def Hd(ops:Array Oper)(p:Nat):Bool:=np ops&&(List.range ops.size).all λj=>decide (j<p)||wV ops j
def rm{ops:Array Oper}(h:np ops=true){j:Nat}{o:Oper}(a:ops[j]?=some o):(∀e∈o.after,Region.binds .any e=true->e.on<j)/\∀g b,o.guard=some (g,b)->g<j:=by
 have i:j<ops.size:=(xaN.1 a).1;have ab:=xax.1 h j (xbT.2 i);simp only[a,xam]at ab;refine⟨λe d c=>?_,λg b f=>?_⟩
 .have:=Array.all_eq_true'.1 ab.1 e d;simpa[c]using this
 have:=ab.2;rw[f]at this;simpa using this
def YL{ops:Array Oper}{j i:Nat}(h:wV ops j=true)(ag:i<j):∃k o,i<k/\k<=j/\ops[k]?=some o/\∃e∈o.after,Region.binds .any e=true/\e.on=i:=by
 have ab:=xax.1 h i (xbT.2 ag);obtain⟨k,f,ad⟩:=xbn.1 ab;simp only[xam,xaC]at ad;obtain⟨ai,a⟩:=ad;cases b:ops[k]? with
 |none=>rw[b]at a;cases a
 |some o=>rw[b]at a;obtain⟨e,d,c⟩:=Array.any_eq_true'.1 a;simp only[xam,xaC]at c;have:=xbT.1 f;exact⟨k,o,ai,by omega,b,e,d,c⟩
def tp(ops:Array Oper)(listed:Array Bool):Prop:=∀j o,ops[j]?=some o->listed.getD j true=true->∀e∈o.after,Region.binds .any e=true->listed.getD e.on false=true
section
variable{P:Program}{ops gp:Array Oper}{Q:Exit->Act->World->Prop}
def oA{i:Nat}(h:i<ops.size):(ops++gp)[i]?=ops[i]?:=xbs h
def tq{l r:Array Bool}{d:Bool}{i:Nat}(h:i<l.size):(l++r).getD i d=l.getD i d:=by
 have ad:i<l.size+r.size:=oZ
 simp only[xbj,xbs h]
theorem YM{l:Array Bool}{m:Nat}{d:Bool}{i:Nat}(h:l.size<=i)(ad:i<l.size+m):(l++Array.replicate m false).getD i d=false:=by simp only[xbj,Array.getElem?_append_right h];rw[Array.getElem?_replicate,xac oZ];rfl
def He{l:Array Bool}{i:Nat}(h:i<l.size)(d e:Bool):l.getD i d=l.getD i e:=by simp[Array.getD,h]
def Hf{all:Array Oper}{L:Array Bool}{j:Nat}(n:L.size=all.size)(ah:wV all j=true)(a:tp all L)(g:j∈Region.ready .any all L):∀(d i:Nat),j-i<=d->i<j->L.getD i false=true
 |0,i,h,ag=>by omega
 |d+1,i,h,ag=>by
  obtain⟨k,o',ab,q,ad,e,ai,c,m⟩:=YL ah ag;rw[<-m];by_cases b:k=j;.subst b;obtain⟨_,r,l,p⟩:=xbV.1 g;rw[ad]at l;cases l;exact p e ai c
  have f:=Hf n ah a g d k oZ oZ;have o:=(xaN.1 ad).1;rw[He oZ false true]at f;exact a k o' ad f e ai c
def wW{all:Array Oper}{L:Array Bool}{i:Nat}(h:i∈Region.ready .any all L):i<all.size:=(xaN.1 (xbV.1 h).2.choose_spec.1).1
def YN{all:Array Oper}{L:Array Bool}(aj:L.size=all.size)(h:tp all L){i:Nat}(ag:i∈Region.ready .any all L):tp all (L.setIfInBounds i true):=by
 obtain⟨ab,l,ad,ai⟩:=xbV.1 ag;have k:=wW ag;have up:∀{j:Nat},L.getD j false=true->(L.setIfInBounds i true).getD j false=true:=by
  intro j c;by_cases a:j<L.size
  .by_cases b:i=j;.subst b;simp[Array.getD,a]
   simp[Array.getD,a]at c⊢;rw[xbM a b];exact c
  simp[Array.getD,a]at c
 intro j o' f c e g d;have a:j<L.size:=by have:=(xaN.1 f).1;omega
 by_cases b:i=j;.subst b;rw[ad]at f;cases f;exact up (ai e g d)
 refine up (h j o' f ?_ e g d);simp[Array.getD,a]at c⊢;rw[xbM a b]at c;exact c
def Nc{listed:Array Bool}(d:np (ops++gp)=true)(aj:listed.size=ops.size){i:Nat}(ag:i<ops.size):i∈Region.ready .any (ops++gp) (listed++Array.replicate gp.size false)↔i∈Region.ready .any ops listed:=by
 rw[xbV,xbV,tq oZ,oA ag];refine and_congr_right λ_=>?_;constructor;.rintro⟨o',c,h⟩;refine⟨o',c,λe b a=>?_⟩;have:=(rm d (by rw[oA ag];exact c)).1 e b a;rw[<-h e b a,tq oZ]
 rintro⟨o',c,h⟩;refine⟨o',c,λe b a=>?_⟩;have:=(rm d (by rw[oA ag];exact c)).1 e b a;rw[tq oZ,h e b a]
def Nd{all:Array Oper}{L:Array Bool}(aj:L.size=all.size)(h:∀i,i<all.size->L.getD i false=true):Region.ready .any all L=[]:=by refine List.eq_nil_iff_forall_not_mem.2 λi ag=>?_;have a:=wW ag;have ab:=(xbV.1 ag).1;rw[He oZ true false,h i a]at ab;cases ab
def YO{all:Array Oper}{L:Array Bool}(c:np all=true)(aj:L.size=all.size)(h:Region.ready .any all L=[]):∀(i:Nat),i<all.size->L.getD i false=true:=by
 intro i
 induction i using Nat.strongRecOn with
 |_ i ih=>
  intro ag;refine xbi λd=>?_;have g:L.getD i true=false:=by rw[He oZ true false];simpa using d
  have:i∈Region.ready .any all L:=by refine xbV.2 ⟨g,all[i],by simp[ag],λe f a=>?_⟩;have b:=(rm c (j:=i) (o:=all[i]) (by simp[ag])).1 e f a;exact ih e.on b oZ
  rw[h]at this;cases this
def YP(b:np (ops++gp)=true):np ops=true:=by
 refine xax.2 λj a=>?_;have a:=xbT.1 a;have ab:=xax.1 b j (xbT.2 uZ)
 rwa [oA a]at ab
def YQ{tm:Array Value}{g:Nat}(h:g<ops.size):yielded (ops++gp) tm g=yielded ops tm g:=by unfold yielded;rw[oA h]
def YR(a:np (ops++gp)=true){i:Nat}(ag:i<ops.size){o':Oper}(d:ops[i]?=some o')(tm:Array Value):Region.wanted o' (yielded (ops++gp) tm)=Region.wanted o' (yielded ops tm):=by unfold Region.wanted;cases c:o'.guard with|none=>rfl|some p=>obtain⟨g,b⟩:=p;have:=(rm a (by rw[oA ag];exact d)).2 g b c;simp only[YQ (xcm this ag)]
def YS(b:np (ops++gp)=true){i:Nat}(ag:i<ops.size){K:Act->World->Prop}{a:Act}{w:World}:wpOp P (ops++gp) Q i K a w=wpOp P ops Q i K a w:=by
 unfold wpOp;rw[oA ag];have:ops[i]?=some ops[i]:=by simp[ag]
 rw[this];simp only[YR b ag this]
def YT{all:Array Oper}:∀(fuel:Nat)(L:Array Bool)(a:Act)(w:World),Region.ready .any all L=[]->Q .normal a w->wpAny P .any all Q fuel L a w
 |0,L,a,w,h,b=>⟨h,b⟩|fuel+1,L,a,w,h,b=>⟨λ_=>b,λi ag=>by rw[h]at ag;cases ag⟩
def iI(n j:Nat):Array Bool:=Array.ofFn (n:=n) λi=>decide (i.val<j)
def Nf{n j:Nat}:(iI n j).size=n:=by simp[iI]
def rn{n j i:Nat}{d:Bool}(h:i<n):(iI n j).getD i d=decide (i<j):=by simp[iI,Array.getD,h]
def YU{n j:Nat}:(iI n j).setIfInBounds j true=iI n (j+1):=by
 apply Array.ext;.simp[iI]
 intro i ab ad;simp[iI]at ab;by_cases h:i=j;.subst h;simp[iI]
 rw[xbM (by simpa[iI]using ab) oZ];simp[iI];omega
def Ng{all:Array Oper}(l:np all=true){p:Nat}(ah:∀j,p<=j->j<all.size->wV all j=true):∀(d j:Nat)(a:Act)(w:World),p<=j->j+d=all.size->wpOps P all Q (List.range' j d) a w->wpAny P .any all Q d (iI all.size j) a w
 |0,j,a,w,y,x,h=>by refine⟨Nd Nf λi ag=>by rw[rn ag];simp;omega,by simpa[wpOps]using h⟩
 |d+1,j,a,w,y,x,h=>by
  have k:j<all.size:=oZ
  have f:tp all (iI all.size j):=by intro i o r ag e m b;have q:=(xaN.1 r).1;rw[rn q]at ag;have:=(rm l r).1 e m b;rw[rn oZ];simp at ag⊢;omega
  have g:j∈Region.ready .any all (iI all.size j):=by refine xbV.2 ⟨by rw[rn k];simp,all[j],by simp[k],λe m b=>?_⟩;have:=(rm l (j:=j) (o:=all[j]) (by simp[k])).1 e m b;rw[rn oZ];simpa using this
  refine⟨λak=>(by rw[ak]at g;cases g),λi ag=>?_⟩;have c:=wW ag;have ab:=(xbV.1 ag).1;rw[rn c]at ab;have n:i=j:=by
   have t:j<=i:=by simpa using ab
   by_cases u:i=j;.exact u
   have:=Hf Nf (ah i oZ c) f ag i j oZ oZ;rw[rn k]at this;simp at this
  subst n;rw[List.range'_succ,wpOps_cons]at h;refine wpOp_mono (λs w' z=>?_) h;rw[YU];exact Ng l ah d (i+1) s w' oZ oZ z
def YV{listed:Array Bool}{m:Nat}(h:∀i,i<listed.size->listed.getD i false=true):listed++Array.replicate m false=iI (listed.size+m) listed.size:=by
 apply Array.ext;.simp[iI]
 intro i ab ad;simp at ab;by_cases ag:i<listed.size;.have:=h i ag;simp[Array.getD,ag]at this;rw[Array.getElem_append_left ag,this];simp[iI,ag]
 rw[Array.getElem_append_right oZ];simp[iI];omega
def YW{listed:Array Bool}{m i:Nat}(ag:i<listed.size):(listed++Array.replicate m false).setIfInBounds i true=listed.setIfInBounds i true++Array.replicate m false:=by
 apply Array.ext;.simp
 intro j ab ad;simp at ab;by_cases b:j<listed.size
 .rw[Array.getElem_append_left (by simpa using b)];by_cases a:i=j;.subst a;simp
  rw[xbM uZ a,Array.getElem_append_left b,xbM b a]
 rw[Array.getElem_append_right uZ,xbM uZ oZ,Array.getElem_append_right oZ];simp
end
def Nh{P:Program}{Q:Exit->Act->World->Prop}{all:Array Oper}:∀{n:Nat}{L:Array Bool}{a:Act}{w:World},wpAny P .any all Q n L a w->∀k,n<=k->wpAny P .any all Q k L a w
 |0,L,a,w,h,k,b=>YT k L a w h.1 h.2|n+1,L,a,w,h,0,b=>by omega|n+1,L,a,w,h,k+1,b=>⟨h.1,λi ag=>wpOp_mono (λd w' c=>Nh c k oZ) (h.2 i ag)⟩
section
variable{P:Program}{T:br}{G:ca}{ops gp:Array Oper}{Q:Exit->Act->World->Prop}
def YX{m:Mem}{fr:dh}{N:Nat}(R:cQ P T){K:aq->Prop}(s:np (ops++gp)=true)(ah:∀j,ops.size<=j->j<(ops++gp).size->wV (ops++gp) j=true)(x:∀o∈ops,∀d,o.dst=some d->d<N):∀(fuel:Nat)(listed:Array Bool)(m:Mem)(ρ:ch)(σ:aq)(a:Act)(w:World),listed.size=ops.size->tp ops listed->fR G m->Den m fr ρ σ a w->N<=a.tmps.size->a.defers=[]->fL P T G ops K fuel listed σ->(∀g w',gf N m fr ρ σ K g w'->wpOps P (ops++gp) Q (List.range' ops.size gp.size) g w')->wpAny P .any (ops++gp) Q (fuel+gp.size) (listed++Array.replicate gp.size false) a w:=by
 have fin:∀{fuel:Nat}{listed:Array Bool}{m:Mem}{ρ:ch}{σ:aq}{a:Act}{w:World},listed.size=ops.size->Region.ready .any ops listed=[]->fR G m->Den m fr ρ σ a w->N<=a.tmps.size->a.defers=[]->K σ->(∀g w',gf N m fr ρ σ K g w'->wpOps P (ops++gp) Q (List.range' ops.size gp.size) g w')->wpAny P .any (ops++gp) Q gp.size (listed++Array.replicate gp.size false) a w:=by intro fuel listed m ρ σ a w aj t p h q b S r;have k:=YO (YP s) aj t;rw[YV (λi ag=>k i oZ),aj,<-Array.size_append];exact Ng s ah _ _ _ _ (xaQ _) sZ (r a w ⟨σ,m,ρ,S,Mem.le_refl m,h,q,b,hI.refl _ _⟩)
 intro fuel
 induction fuel with
 |zero=>intro listed m ρ σ a w aj c p h q b B r;rw[xaw];exact fin (fuel:=0) aj B.1 p h q b B.2 r
 |succ fuel ih=>
  intro listed m ρ σ a w aj c p h q b B r;by_cases t:Region.ready .any ops listed=[];.have:=fin (fuel:=0) aj t p h q b (B.1 t) r;exact Nh this _ oZ
  rw[Nat.add_right_comm];have n:tp (ops++gp) (listed++Array.replicate gp.size false):=by
   intro j o' f z e M u;have F:=(xaN.1 f).1;simp at F;by_cases A:j<ops.size
   .rw[tq oZ]at z;rw[oA A]at f;have:=(rm s (by rw[oA A];exact f)).1 e M u;rw[tq oZ];exact c j o' f z e M u
   rw[YM oZ oZ]at z;cases z
  refine⟨λak=>absurd ?_ t,λi ag=>?_⟩;.refine List.eq_nil_iff_forall_not_mem.2 λi ag=>?_;have:=(Nc s aj (wW ag)).2 ag;rw[ak]at this;cases this
  by_cases y:i<ops.size;.have l:=(Nc s aj y).1 ag;have ab:=B.2 i l;obtain⟨_,V,f,_⟩:=xbV.1 l;unfold e2 at ab;simp only[f]at ab;rw[YS s y];refine wpOp_mono ?_ (F8 R p h q b f (x V (Array.mem_of_getElem? f)) ab);rintro g w' ⟨L,U,J,b5,O,bX,b6,cv,cz⟩;rw[YW oZ];refine ih _ U J L g w' (by simp[aj]) (YN aj c l) (p.mono O) bX b6 cv b5 ?_;rintro E I ⟨D,H,C,W,X,Y,Z,bY,bU⟩;exact r E I ⟨D,H,C,W,Mem.le_trans O X,Y,Z,bY,cz.trans bU⟩
  refine absurd (Nd aj λj z=>?_) t;have:=Hf (by simp[aj]) (ah i oZ (wW ag)) n ag i j oZ oZ
  rwa [tq oZ]at this
end
def YY{P:Program}{T:br}{G:ca}{N:Nat}{σ:aq}{Q:Exit->aq->Prop}(r:cQ P T)(u:P.follows .mixedOrders=true){id:Nat}{ops c:Array Oper}(q:pK N ops=true)(g:Hd (ops++c) ops.size=true) {K:aq->Prop} (p:∀b,K b->kr P G N (ops++c) ops.size c.toList (Q .normal) b) (h:fL P T G ops K ops.size (Array.replicate ops.size false) σ):eX P T G N (.region id (ops++c) true) σ Q:=by
 intro m fr ρ a w k o f s;refine wp_region_any u ?_;simp only[Hd,xam]at g;have e:Array.replicate (ops++c).size false=Array.replicate ops.size false++Array.replicate c.size false:=by rw[Array.size_append,Array.replicate_append_replicate]
 rw[e,Array.size_append];refine YX (m:=m) (fr:=fr) (N:=N) (T:=T) r g.1 (λj ab ad=>?_) (oj q) ops.size _ m ρ σ a _ sZ ?_ k (o.drew _) f s h ?_;.have:=xax.1 g.2 j (xbT.2 ad);simp only[xbg,xaC]at this;exact this.resolve_left oZ
 .intro j o' x t;have:=(xaN.1 x).1;simp[Array.getD,this]at t
 rintro d w' ⟨b,z,i,A,l,B,C,D,E⟩;have:=p b A z fr i d w' (λe d w'=>gf N m fr ρ σ (Q e) d w') (k.mono l) B C D (λn F y=>y.trans l E);simpa using this
section
variable{β:Type}
def aS(f:lZ->Option (lZ⊕β)):Nat->lZ->Option β
 |0,_=>none|n+1,ls=>af (f ls) λx=>match x with| .inl a=>aS f n a| .inr b=>some b
end
def p1:Code->Nat
 | .region id _ _=>id| .seq x _=>p1 x| .cond _ x _=>p1 x| .block _ c=>p1 c| .loop c=>p1 c| .scope c=>p1 c|_=>0
def YZ(c:Tmp)(x y:Code):Nat:=(c*1000+p1 y)*1000+p1 x
structure iJ where
 T:br
 G:ca
 C:hv
 n:Nat
 ib:List Key
 loops:Nat->Option jc
 Y0:Nat->Option jc
 blocks:Nat->Option jc
 ll:Nat->Option lX
 H:p0
 fU:Tmp->Bool
 pre:Nat->List (List Key)
def aT{a:Type}(b:Option a):Option (lZ⊕a):=af b λb=>some (.inr b)
def aG{a:Type}(f:lZ->Option a):lZ⊕a->Option a
 | .inl ls=>f ls| .inr b=>some b
def Hg{b:Type}(ib:List Key)(c:jc)(run:(Exit->aq->Option (lZ⊕b))->Option (lZ⊕b))(k:Exit->aq->Option b):Option b:=af (run λe a=>match e with| .normal=>nk ib c a λls=>some (.inl ls)|e=>aT (k e a)) (aG λls=>k .normal (restore c ls))
def wX{b:Type}(id:Nat)(k:Exit->aq->Option b)(e:Exit)(σ:aq):Option b:=match e with
 | .exit a=>if a=id then k .normal σ else k (.exit a) σ
 |e=>k e σ
def Y1{a:Type}(k:Exit->aq->Option a)(e:Exit)(σ:aq):Option a:=match e with| .goto _=>none|e=>k e σ
def BH{b:Type}(T:br)(G:ca)(C:hv)(all:Array Oper):lX->Array Bool->aq->(Array Bool->aq->Option b)->Option b
 |[],listed,σ,k=>k listed σ
 |i::r,listed,σ,k=>match all[i]? with
  |some o=>if o.guard=none/\(Region.ready .any all listed).contains i=true/\(LF all listed i||Bk all listed i σ o||Bl all listed i σ.au o||Ga T all listed i)=true then l4 T G C σ o λa=>BH T G C all r (listed.setIfInBounds i true) a k else none
  |none=>none
def Ni{P:Program}{T:br}{G:ca}{C:hv}{all:Array Oper}{q:Type}(n:e6 P G C){k:Array Bool->aq->Option q}{b:q}{K:aq->Prop}{f:Nat}(p:∀listed σ,k listed σ=some b->fL P T G all K f listed σ): ∀(ord:lX)(listed:Array Bool)(σ:aq),BH T G C all ord listed σ k=some b->fL P T G all K (ord.length+f) listed σ
 |[],listed,σ,h=>by rw[xaA,xaw];exact p _ _ h
 |i::r,listed,σ,h=>by
  unfold BH at h;split at h
  case h_2=>cases h
  rename_i o ag;split at h
  case isFalse=>cases h
  rename_i u;obtain⟨l,j,c⟩:=u;have H:e2 P T G all i (fL P T G all K (r.length+f) (listed.setIfInBounds i true)) σ:=by unfold e2;simp only[ag];unfold c3;simp only[l];exact kL (λm s=>Ni n p r _ m s) (GK n h)
  rw[show(i::r).length+f=r.length+f+1 by simp;omega];rcases xbw.1 c with c|c
  case inr=>obtain⟨d,e,g⟩:=AV ag c;exact AT ag d (r.length+f) listed σ e g (by simpa using j) (.inr trivial) H
  rcases xbw.1 c with c|c
  case inr=>obtain⟨d,e,g⟩:=MD c;exact LY ag l d (s0:=σ.au) (L:=iD o.op++(pQ all listed i).flatMap (λy=>ng y.op)) (λt x=>xaW _ x) (r.length+f) listed σ (λ_ _=>rfl) e g (by simpa using j) H
  rcases xbw.1 c with c|c;.obtain⟨d,e,g⟩:=LG ag c;exact LC ag d (r.length+f) listed σ e g (by simpa using j) (.inr trivial) H
  unfold Bk at c;split at c
  case h_2=>cases c
  rename_i t a w;split at c
  case h_2=>cases c
  rename_i z off aj;obtain⟨d,e,g⟩:=MC ag c;exact LQ ag w l d (r.length+f) listed σ aj e g (by simpa using j) H
def exec(X:iJ):Code->{l:Type}->aq->(Exit->aq->Option l)->Option l
 | .skip,_,σ,k=>k .normal σ| .label _,_,σ,k=>k .normal σ| .scope c,_,σ,k=>exec X c σ (Y1 k)| .exit id,_,σ,k=>k (.exit id) σ| .ret,_,σ,k=>k .ret σ
 | .region id ops d,_,σ,k=>rk (X.pre id) σ λσ=>match X.ll id with
  |none=>match d with|true=>Mr X.T X.G X.C ops σ λb=>k .normal b|false=>M5 X.T X.G X.C X.H X.fU ops σ λb=>k .normal b
  |some ord=>if d=true/\ord.length=ops.size then te X.T X.G X.C ops ord (Array.replicate ops.size false) σ λb=>k .normal b
   else if d=true/\ord.length<=ops.size/\Hd ops ord.length=true then te X.T X.G X.C (ops.extract 0 ord.length) ord (Array.replicate ord.length false) σ λb=>rl X.T X.G X.C X.H X.fU ops (ov (ops.extract ord.length ops.size).toList) b λf=>k .normal f
   else if d=true/\ord.length<=ops.size then BH X.T X.G X.C ops ord (Array.replicate ops.size false) σ λlisted b=>if pJ X.T ops (List.range' ord.length (ops.size-ord.length)) listed=true then pP X.T X.G X.C ops (ov (ops.toList.drop ord.length)) b λf=>k .normal f else none
   else none
 | .seq x y,_,σ,k=>exec X x σ λe b=>match e with| .normal=>exec X y b k|e=>k e b
 | .cond (.tmp c) x y,_,σ,k=>match σ.au c with
  | .d a=>match X.Y0 (YZ c x y)with|none=>aV a (exec X x σ k) (exec X y σ k)|some g=>Hg X.ib g (λh=>aV a (exec X x σ h) (exec X y σ h)) k
  |_=>none
 | .block id c,_,σ,k=>match X.blocks id with|none=>exec X c σ (wX id k)|some g=>Hg X.ib g (λh=>exec X c σ (wX id h)) k
 | .loop c,_,σ,k=>match X.loops (p1 c)with|none=>none|some g=>nk X.ib g σ λj=>aS (λls=>exec X c (restore g ls) λe b=>match e with| .normal=>nk X.ib g b λi=>some (.inl i)|e=>aT (k e b)) X.n j
 | .cond (.const v) x y,_,σ,k=>match v with| .bool true=>exec X x σ k| .bool false=>exec X y σ k|_=>none
 |_,_,_,_=>none
section
variable{P:Program}{T:br}{G:ca}{N:Nat}{σ:aq}{all:Array Oper}{ib:List Key}
def Hh{K K':aq->Prop}(a:∀σ,K σ->K' σ):∀(fuel:Nat){listed:Array Bool}{σ:aq},fL P T G all K fuel listed σ->fL P T G all K' fuel listed σ
 |0,_,_,h=>⟨h.1,a _ h.2⟩|fuel+1,_,_,h=>⟨λak=>a _ (h.1 ak),λi ag=>pI (λ_ b=>Hh a fuel b) (h.2 i ag)⟩
def tu{K:aq->Prop}(c:∀o∈all,∀d,o.dst=some d->d<10000):∀(fuel:Nat){listed:Array Bool}{σ:aq},dE ib σ->fL P T G all K fuel listed σ->fL P T G all (λa=>dE ib a/\K a) fuel listed σ
 |0,_,_,b,h=>⟨h.1,b,h.2⟩
 |fuel+1,_,σ,b,h=>by
  refine⟨λak=>⟨b,h.1 ak⟩,λi ag=>?_⟩;have ab:=h.2 i ag;unfold e2 at ab⊢;split at ab
  .exact tu c fuel b ab
  rename_i o g;rw[e5]at ab⊢;have e:=c o (Array.mem_of_getElem? g);cases f:gJ all σ o with|none=>rw[f]at ab;exact ab|some w=>rw[f]at ab;cases w with|true=>exact kL (λa ⟨ad,ai⟩=>tu c fuel ad ai) (M6 b e ab)|false=>exact tu c fuel b.put ab
def Nj{Q:Exit->aq->Prop}(i:cQ P T)(k:P.follows .mixedOrders=true){id:Nat}{ops:Array Oper}(g:pK N ops=true) (h:fL P T G ops (Q .normal) ops.size (Array.replicate ops.size false) σ):eX P T G N (.region id ops true) σ Q:=by intro m fr ρ a w f d b j;refine wp_region_any k ?_;exact Gc (m:=m) (fr:=fr) (N:=N) (Q:=λe c w'=>gf N m fr ρ σ (Q e) c w') i (oj g) ops.size _ m ρ σ a _ f (d.drew _) b j h (λc w' l=>l)
def kS(T:br)(os:Nat->Option lX)(N:Nat):Code->Bool
 | .region id ops d=>pK N ops&&(!d||(os id).isSome||pJ T ops (List.range ops.size) (Array.replicate ops.size false))| .seq x y=>kS T os N x&&kS T os N y| .cond _ x y=>kS T os N x&&kS T os N y| .block _ c=>kS T os N c| .loop c=>kS T os N c| .scope c=>kS T os N c|_=>true
def jT{a:Type}(ib:List Key)(k:Exit->aq->Option a)(b:a)(e:Exit)(σ:aq):Prop:=∃τ,eJ σ τ/\dE ib τ/\k e τ=some b
def Nk{a:Type}{x:Option a}{y:lZ⊕a}(h:aT x=some y):∃b,x=some b/\y= .inr b:=by obtain⟨b,ab,ad⟩:=cN h;exact⟨b,ab,(xaZ ad).symm⟩
def Nl{d:Type}{p:jc}{c:Code}{run:(Exit->aq->Option (lZ⊕d))->Option (lZ⊕d)}{k:Exit->aq->Option d}{b:d} (a:∀i b',run i=some b'->eX P T G N c σ (jT ib i b')) (h:Hg ib p run k=some b):eX P T G N c σ (jT ib k b):=by
 obtain⟨x,ab,ad⟩:=cN h;refine s3 (a _ _ ab) ?_;rintro e g ⟨τ,g1,g2,g3⟩;have other:∀f,e=f->aT (k f τ)=some x->jT ib k b e g:=by rintro f rfl ai;obtain⟨b',j,rfl⟩:=Nk ai;cases ad;exact⟨τ,g1,g2,j⟩
 cases e with
 |normal=>obtain⟨ls,m,n,o⟩:=Bt g2 g3;cases o;exact⟨_,g1.trans m,n,ad⟩
 |exit id=>exact other _ rfl g3|goto l=>exact other _ rfl g3|ret=>exact other _ rfl g3|panic c=>exact other _ rfl g3|outgrown=>exact other _ rfl g3
def Y2{c:Type}{f:lZ->Option (lZ⊕c)}{n:Nat}{ls:lZ}{b:c}(h:aS f n ls=some b):∃m,n=m+1/\((∃a,f ls=some (.inl a)/\aS f m a=some b)\/f ls=some (.inr b)):=by
 cases n with
 |zero=>cases h
 |succ m=>obtain⟨x,ab,ad⟩:=cN h;refine⟨m,rfl,?_⟩;cases x with|inl a=>exact .inl ⟨a,ab,ad⟩|inr b'=>cases ad;exact .inr ab
def jT.block{d:Type}{id:Nat}{k:Exit->aq->Option d}{b:d}{e:Exit}{σ:aq}(h:jT ib (wX id k) b e σ):wC id (jT ib k b) e σ:=by
 obtain⟨τ,g1,g2,g3⟩:=h;cases e with
 |exit a=>
  simp only[wC];unfold wX at g3;by_cases ag:a=id;.simp only[ag,xaE]at g3⊢;exact⟨τ,g1,g2,g3⟩
  simp only[ag,xaF]at g3⊢;exact⟨τ,g1,g2,g3⟩
 |normal=>exact⟨τ,g1,g2,g3⟩|goto l=>exact⟨τ,g1,g2,g3⟩|ret=>exact⟨τ,g1,g2,g3⟩|panic c=>exact⟨τ,g1,g2,g3⟩|outgrown=>exact⟨τ,g1,g2,g3⟩
def l9(X:iJ)(F:cQ P X.T)(B:e6 P X.G X.C)(hH:jd P X.G X.H)(A:P.follows .mixedOrders=true)(E:N<10000):∀(c:Code){t:Type}{σ:aq}{k:Exit->aq->Option t}{b:t},kS X.T X.ll N c=true->dE X.ib σ->exec X c σ k=some b->eX P X.T X.G N c σ (jT X.ib k b)
 | .skip,t,σ,k,b,_,s,h=>Ww ⟨σ,eJ.refl σ,s,h⟩| .label l,t,σ,k,b,_,s,h=>Wx ⟨σ,eJ.refl σ,s,h⟩| .exit id,t,σ,k,b,_,s,h=>Wy ⟨σ,eJ.refl σ,s,h⟩| .ret,t,σ,k,b,_,s,h=>Wz ⟨σ,eJ.refl σ,s,h⟩
 | .region id ops d,t,σ,k,b,r,s,h=>by
  simp only[kS,xam,xbg,xcp]at r;have Z:∀o∈ops.toList,∀d,o.dst=some d->d<10000:=λo z d L=>xcm (oj r.1 o (by simpa using z) d L) E;have I:∀q,dE X.ib q/\k .normal q=some b->jT X.ib k b .normal q:=λq O=>⟨q,eJ.refl q,O⟩;unfold exec at h;have U:=wT s h;clear h s;obtain⟨σ,cL,s,h⟩:=U;refine Gd cL ?_;split at h
  .rename_i S;split at h
   .have ab:=XI (P:=P) (all:=ops) (σ:=σ) B (K:=λq=>∃τ,jb q τ/\k .normal τ=some b) (λσ τ hw ⟨dN,ab,ad⟩=>⟨dN,hw.trans ab,ad⟩) (λq O=>⟨q,jb.refl _,O⟩) h;have ad:dP P X.T X.G ops ops.toList (jT X.ib k b .normal) σ:=by
     refine ja ?_ (G9 s Z ab);rintro q ⟨g1,τ,g2,g3⟩;refine⟨τ,g2.re,?_,g3⟩;intro j cU W;rw[<-g2.1]at W;exact g1 j cU W
    exact WO F A r.1 (r.2.resolve_left (by simp[S])) ad
   have ab:=YJ (P:=P) (all:=ops) (σ:=σ) F B hH E (λo z d L=>oj r.1 o (by simpa using z) d L) s h;exact YK (λm fr ρ a w Q gk ga di L fK=>ab m fr ρ a w Q gk ga di L (λeO w' dD=>fK eO w' (dD.mono I)))
  rename_i ord S;split at h
  case isFalse=>
   split at h
   case isFalse=>
    split at h
    case isFalse=>cases h
    rename_i Y;obtain⟨rfl,J⟩:=Y;have ab:=Ni (P:=P) (T:=X.T) (G:=X.G) (all:=ops) (f:=(List.range' ord.length (ops.size-ord.length)).length) (K:=λq=>∃τ,jb q τ/\k .normal τ=some b) B (λlisted q de=>by
     split at de
     case isFalse=>cases de
     rename_i z;refine Gb _ _ _ z ?_;have ad:=rf (P:=P) B (K:=λq=>∃τ,jb q τ/\k .normal τ=some b) (λσ τ hw ⟨dN,ab,ad⟩=>⟨dN,hw.trans ab,ad⟩) (λg A o z=>wM _ _ _ A o z) (λq O=>⟨q,jb.refl _,O⟩) de;rw[ow]at ad;have ai:=LM (P:=P) (T:=X.T) (G:=X.G) (all:=ops) (ops.toList.drop ord.length) ord.length q _ (λj=>by simp) ad;simpa using ai) ord _ σ h
    rw[List.length_range',show ord.length+(ops.size-ord.length)=ops.size by omega]at ab;refine Nj F A r.1 (Hh ?_ _ (tu (λo z d L=>xcm (oj r.1 o z d L) E) _ s ab));rintro q ⟨g1,τ,g2,g3⟩;refine⟨τ,g2.re,?_,g3⟩;intro j cU W;rw[<-g2.1]at W;exact g1 j cU W
   rename_i Y;obtain⟨rfl,J,b5⟩:=Y;have dS:ops=ops.extract 0 ord.length++ops.extract ord.length ops.size:=by rw[Array.extract_append_extract,Nat.max_eq_right J];simp
   have bU:ord.length=(ops.extract 0 ord.length).size:=uZ
   have ab:=GP (P:=P) B ord _ σ h;generalize ops.extract 0 ord.length=eI at*;generalize ops.extract ord.length ops.size=jO at*;subst dS;rw[bU]at ab;have b6:pK N eI=true:=by have:=r.1;unfold pK at this⊢;simp only[Array.toList_append,List.all_append,xam]at this;exact this.1
   rw[bU]at b5;refine YY F A b6 b5 ?_ (tu (λo z d L=>xcm (oj b6 o z d L) E) _ s ab);rintro q ⟨cy,U⟩;have ad:=wU (P:=P) (N:=N) (ib:=X.ib) (all:=eI++jO) (i:=eI.size) F B hH E (K:=jT X.ib k b .normal) (λg A o z=>wM _ _ _ A o z) (by rw[ow];intro o' z d L;exact oj r.1 _ (by simp at z⊢;exact .inr z) d L) (by rw[ow];intro j;rw[Array.getElem?_append_right oZ];simp) cy (λcv ab ad=>I cv ⟨ab,ad⟩) U
   rwa [ow]at ad
  rename_i Y;obtain⟨rfl,J⟩:=Y;have ab:=GP (P:=P) B ord _ σ h;rw[J]at ab;exact Nj F A r.1 (Hh I _ (tu (λo z d L=>xcm (oj r.1 o z d L) E) _ s ab))
 | .seq x y,t,σ,k,b,r,s,h=>by simp only[kS,xam]at r;refine WA (s3 (l9 X F B hH A E x r.1 s h) ?_);rintro e q ⟨τ,g1,g2,g3⟩;cases e with|normal=>simp only[AW];refine Gd g1 (l9 X F B hH A E y r.2 g2 g3)|exit id=>exact⟨τ,g1,g2,g3⟩|goto l=>exact⟨τ,g1,g2,g3⟩|ret=>exact⟨τ,g1,g2,g3⟩|panic c=>exact⟨τ,g1,g2,g3⟩|outgrown=>exact⟨τ,g1,g2,g3⟩
 | .cond c x y,t,σ,k,b,r,s,h=>by
  simp only[kS,xam]at r;cases c with
  |tmp c=>
   unfold exec at h;split at h
   case h_2=>cases h
   rename_i a eW;have two:∀{t:Type}(M:Exit->aq->Option t)(b':t),aV a (exec X x σ M) (exec X y σ M)=some b'->eX P X.T X.G N (.cond (.tmp c) x y) σ (jT X.ib M b'):=by
    intro t M b' h;rcases A8 h with⟨rfl,ab⟩|⟨rfl,ab⟩
    .exact AX (b:=true) eW (by rw[xac rfl];exact l9 X F B hH A E x r.1 s ab)
    exact AX (b:=false) eW (by rw[xab sZ];exact l9 X F B hH A E y r.2 s ab)
   split at h;.exact two k b h
   exact Nl (λM b' O=>two M b' O) h
  |const v=>
   unfold exec at h;split at h;.exact AX (b:=true) rfl (by rw[xac rfl];exact l9 X F B hH A E x r.1 s h)
   .exact AX (b:=false) rfl (by rw[xab sZ];exact l9 X F B hH A E y r.2 s h)
   cases h
  |global g=>cases h
  |func f=>cases h
 | .block id c,t,σ,k,b,r,s,h=>by
  have one:∀{t:Type}(M:Exit->aq->Option t)(b':t),exec X c σ (wX id M)=some b'->eX P X.T X.G N (.block id c) σ (jT X.ib M b'):=by intro t M b' h;exact WD (s3 (l9 X F B hH A E c r s h) (λe q O=>O.block))
  unfold exec at h;split at h;.exact one k b h
  exact Nl (λM b' O=>one M b' O) h
 | .loop c,t,σ,k,b,r,s,h=>by
  unfold exec at h;split at h
  case h_1=>cases h
  rename_i R jx;obtain⟨dA,eV,fw,eQ⟩:=Bt s h;generalize hr:(λls=>exec X c (restore R ls) λe q=>match e with| .normal=>nk X.ib R q λu=>some (Sum.inl u)|e=>aT (k e q))=f at eQ;refine WH (ι:={p:lZ×Nat//aS f p.2 p.1=some b/\dE X.ib (restore R p.1)}) (λp=>restore R p.1.1) (λp=>p.1.2) ⟨(dA,X.n),eQ,fw⟩ eV ?_;rintro⟨⟨ls,n⟩,bY,bX⟩;simp only at bY bX⊢;obtain⟨m,rfl,ai⟩:=Y2 bY;have round:∀x,f ls=some x->eX P X.T X.G N c (restore R ls) (jT X.ib (λe q=>match e with| .normal=>nk X.ib R q λu=>some (Sum.inl u)|e=>aT (k e q)) x):=by intro x U;rw[<-hr]at U;exact l9 X F B hH A E c r bX U
  have go:∀x,f ls=some x->(∀u,x= .inl u->aS f m u=some b)->(∀b',x= .inr b'->b'=b)->eX P X.T X.G N c (restore R ls) (AW (λq=>∃j:{p:lZ×Nat//aS f p.2 p.1=some b/\dE X.ib (restore R p.1)},eJ q (restore R j.1.1)/\j.1.2<m+1) (jT X.ib k b)):=by
   intro x U ah dD;refine s3 (round x U) ?_;rintro e q ⟨τ,g1,g2,g3⟩;have other:∀cz,e=cz->aT (k cz τ)=some x->jT X.ib k b e q:=by rintro cz rfl ai;obtain⟨b',V,rfl⟩:=Nk ai;rw[dD b' rfl]at V;exact⟨τ,g1,g2,V⟩
   cases e with
   |normal=>obtain⟨u,jw,iz,ki⟩:=Bt g2 g3;cases ki;exact⟨⟨(u,m),ah u rfl,iz⟩,g1.trans jw,Nat.lt_succ_self m⟩
   |exit id=>exact other _ rfl g3|goto l=>exact other _ rfl g3|ret=>exact other _ rfl g3|panic c=>exact other _ rfl g3|outgrown=>exact other _ rfl g3
  rcases ai with⟨u,V,eP⟩|V;.exact go _ V (by rintro _ ⟨⟩;exact eP) (by rintro _ ⟨⟩)
  exact go _ V (by rintro _ ⟨⟩) (by rintro _ ⟨⟩;rfl)
 | .rangeFunc _ _ _ _,t,σ,k,b,_,s,h=>by cases h
 | .scope c,t,σ,k,b,r,s,h=>WC (s3 (l9 X F B hH A E c (by simpa[kS]using r) s h) (by
   rintro e q ⟨τ,g1,g2,g3⟩;cases e with
   |goto l=>cases g3
   |normal=>exact⟨τ,g1,g2,g3⟩|exit id=>exact⟨τ,g1,g2,g3⟩|ret=>exact⟨τ,g1,g2,g3⟩|panic c=>exact⟨τ,g1,g2,g3⟩|outgrown=>exact⟨τ,g1,g2,g3⟩))
 | .goto _,t,σ,k,b,_,s,h=>by cases h
 | .refuse _,t,σ,k,b,_,s,h=>by cases h
end
def Nn{P:Program}{T:br}{G:ca}{N:Nat}{c:Code}{σ:aq}{Q:Exit->aq->Prop}(h:eX P T G N c σ (λe d=>∃τ,eJ d τ/\Q e τ)):eX P T G N c σ Q:=by intro m fr ρ a w p n q s;refine wp_mono (h m fr ρ a w p n q s) ?_;rintro e i w' ⟨d,t,g,⟨τ,o,r⟩,ad,ai,j,k,l⟩;obtain⟨f,b,g1,g2,g3⟩:=o t fr g i w' ai;exact⟨τ,f,b,r,Mem.le_trans ad g1,g2,j,k,l.trans g3⟩
def Y3(T:br)(a:List ResultVar)(e:Exit)(σ:aq):oX:=match e with| .normal=>af (l1 T σ a) (toD σ.objs)| .ret=>af (l1 T σ a) (toD σ.objs)|_=>none
def oB(X:iJ)(fn:Func)(args:List ax):oX:=match fn.body with|some c=>exec X c (start args λ_=>none) (Y3 X.T fn.results.toList)|none=>none
def jU(T:br)(os:Nat->Option lX)(fn:Func):Bool:=match fn.body with|some c=>kS T os fn.ntmps c&&decide (fn.ntmps<10000)&&!(fn.name== "runtime.NumGoroutine")|none=>false
def Y4{i f:List ax}(h:gz (λk=>k) (λ_=>False) i f):eJ (start i λ_=>none) (start f λ_=>none):=by
 intro m fr ρ a w e;refine⟨m,ρ,Mem.le_refl m,⟨e.mem,e.frame,e.apart,?_,?_,?_,?_,?_⟩,?_⟩;.rintro k ⟨o,n⟩;cases n
 .intro t;have ab:=e.au t;obtain⟨ad,ai⟩:=h.ok;simp only[start]at ab⊢;cases g:f[t]? with
  |none=>rw[xbc,g];exact .any _
  |some y=>
   obtain⟨x,p,c⟩:=ai t y g;rw[xbc,p]at ab;rw[xbc,g];have j:kM (λk=>k) (aq.used (start f λ_=>none)) x y:=by unfold kM at c⊢;split at c<;>first|exact c|(exact absurd c.2 id)
   exact j.ok (ρ:=ρ) ab
 .intro k o d;cases d
 .intro k o b d;cases d
 .intro k q o o' b _ d;cases d
 intro k _ l;exact absurd l oh
def Y5{P:Program}(X:iJ)(m:cQ P X.T)(o:e6 P X.G X.C)(hH:jd P X.G X.H)(t:P.follows .mixedOrders=true)(s:X.ib=[]){f:FuncId}{fn:Func}(q:P.funcs[f]?=some fn)(b:jU X.T X.ll fn=true){i:lZ}{as:List ax}(j:gz (λk=>k) (λ_=>False) (i.map .d) as)(a:decide (i.length<=fn.ntmps)=true){r:D} (h:oB X fn as=some r):cC P X.G f i (·=r):=by
 have a:=xbe a;unfold oB at h;unfold jU at b;split at h
 case h_2=>cases h
 rename_i c n;simp only[n,xam,xaC,xcp]at b;refine WJ m q n b.2 a ?_;refine Gd (Y4 j) ?_;refine Nn (s3 (l9 X m o hH t b.1.2 c b.1.1 (by intro k _ p;exact absurd p oh) h) ?_);rintro e w ⟨τ,g1,g2,g3⟩;have fin:af (l1 X.T τ fn.results.toList) (toD τ.objs)=some r->∃g d x,l1 X.T τ fn.results.toList=some g/\toD τ.objs g=some d/\d.le x/\x=r:=by intro ab;obtain⟨u,ad,ai⟩:=cN ab;exact⟨u,r,r,ad,ai,D.le_refl _,rfl⟩
 refine⟨τ,g1,?_⟩;cases e with
 |normal=>exact⟨.inl rfl,fin g3⟩|ret=>exact⟨.inr rfl,fin g3⟩|exit id=>cases g3
 |goto l=>cases g3
 |panic c=>cases g3
 |outgrown=>cases g3
def BI(s:eA)(ls:lZ):aq:=⟨λt=>(s.pX ls).getD t .any,c9 (s.jS ls)⟩
def Y6(X:iJ)(s:eA)(kP:List pR)(a:List ResultVar)(e:Exit)(σ:aq):oY:=match e with
 | .normal=>af (l1 X.T σ a) λx=>nk X.ib ⟨[(0,s.res)],s.outs,kP⟩ ⟨λt=>if t=0 then x else .any,σ.objs⟩ some
 | .ret=>af (l1 X.T σ a) λx=>nk X.ib ⟨[(0,s.res)],s.outs,kP⟩ ⟨λt=>if t=0 then x else .any,σ.objs⟩ some
 |_=>none
def Hi(X:iJ)(fn:Func)(s:eA)(kP:List pR)(ls:lZ):oY:=match fn.body with|some c=>exec X c (BI s ls) (Y6 X s kP fn.results.toList)|none=>none
def Y7{P:Program}(X:iJ)(V:cQ P X.T)(cv:e6 P X.G X.C)(hH:jd P X.G X.H)(di:P.follows .mixedOrders=true){s:eA}{fn:Func}(Y:P.funcs[s.f]?=some fn)(b:jU X.T X.ll fn=true)(i:decide (s.args.length<=fn.ntmps)=true) (N:(s.ins.all λp=>decide (p.1<10000)||X.ib.contains p.1)=true) {kP:List pR} {F:lZ->oY} (h:∀ls a,F ls=some a->Hi X fn s kP ls=some a):pY P X.G s F:=by
 have i:=xbe i;unfold jU at b;split at b
 case h_2=>cases b
 rename_i c z;simp only[xam,xaC,xcp]at b;refine⟨⟨fn,Y,b.2,by rw[z];rfl⟩,?_⟩;intro ls a cz m fr ρ w vs cL j ah o;have I:=h ls a cz;unfold Hi at I;rw[z]at I;simp only at I;have cy:(s.pX ls).length=s.args.length:=by
  have:∀(l:List SW)(n:Nat),(l6 ls l n).1.length=l.length:=by
   intro l
   induction l with
   |nil=>intro n;rfl
   |cons x r ih=>intro n;simp[l6,ih]
  exact this _ _
 have K:dE X.ib (BI s ls):=by
  intro k E z;obtain⟨cs,M⟩:=sT z;have:=pL M;have ab:iC (s.jS ls)=s.ins.map (·.1):=rj _ _ _;rw[ab]at this;obtain⟨p,cU,rfl⟩:=xaK.1 this;have ad:=xax.1 N p cU;simp only[xbg,xaC,List.contains_eq_mem]at ad;rcases ad with ad|ad
  .exact absurd ad (Nat.not_lt.2 E)
  exact ad
 have dD:=l9 X V cv hH di b.1.2 c b.1.1 K I;refine calls_of_wp Y z ?_;have A:Den m fr ρ (BI s ls) {tmps:=vs.toArray++Array.replicate (fn.ntmps-vs.toArray.size) undef,defers:=[]} w:=by
  refine⟨j.mem,j.frame,j.apart,j.one,?_,j.objs,j.own,j.sep⟩;intro t;simp only[BI];by_cases u:t<vs.length
  .have O:t<(s.pX ls).length:=by rw[<-ah];exact u
   have W:=xaa O;have de:=xaa u;have J:(s.pX ls).getD t .any=(s.pX ls)[t]:=by rw[xbc,W];rfl
   have bU:(vs.toArray++Array.replicate (fn.ntmps-vs.toArray.size) undef).getD t undef=vs[t]:=by rw[xbj,xbs (by simpa using u)];simp[u]
   rw[J,bU];exact o t _ _ W de
  have J:(s.pX ls).getD t .any= .any:=by rw[xbc,xaG oZ];rfl
  rw[J];exact .any _
 have R:fn.ntmps<=(vs.toArray++Array.replicate (fn.ntmps-vs.toArray.size) undef).size:=uZ
 refine wp_mono (Nn dD m fr ρ _ w cL A R rfl) ?_;rintro e U w' ⟨d,Z,B,⟨g2,g3⟩,b5,g,eQ,bX,b6⟩;have fin:(af (l1 X.T d fn.results.toList) λx=>nk X.ib ⟨[(0,s.res)],s.outs,kP⟩ ⟨λt=>if t=0 then x else .any,d.objs⟩ some)=some a->U.defers=[]/\∃v,(results fn U.tmps).run P w'= .ok v w'/\∃bY m1 y,Ending.returned v= .returned bY/\m.le m1/\oz m1 fr y (c9 (s.kR a)) w'/\bo m1 y (l7 (c9 (s.kR a))) (s.Bx a) bY/\∀k,10000<=k->dj (c9 (s.jS ls) k)->y k=ρ k:=by
  intro ab;obtain⟨x,ad,ai⟩:=cN ab;obtain⟨v,dA,eI⟩:=LI (P:=P) V g ad;obtain⟨dS,c7,dm,dN⟩:=Bt (σ:=⟨λt=>if t=0 then x else .any,d.objs⟩) g2 ai;cases dN;have q:Den Z fr B ⟨λt=>if t=0 then x else .any,d.objs⟩ {tmps:= #[v],defers:=[]} w':=by
   refine⟨g.mem,g.frame,g.apart,g.one,?_,g.objs,g.own,g.sep⟩;intro t;by_cases u:t=0;.subst u;exact eI
   simp only[u,xaF];exact .any _
  obtain⟨m2,S,t1,t2,t3⟩:=c7 Z fr B _ w' q;have Q:=t2.au 0;refine⟨bX,v,dA,v,m2,S,rfl,Mem.le_trans b5 t1,⟨t2.mem,t2.frame,t2.apart,t2.one,λ_=> .any _,t2.objs,t2.own,t2.sep⟩,?_,?_⟩
  .exact Q
  intro k E L;obtain⟨cr,cR⟩:=b6 k E L;rw[(t3 k E cr).2,cR]
 cases e with
 |normal=>exact fin g3|ret=>exact fin g3|exit id=>cases g3
 |goto l=>cases g3
 |panic c=>cases g3
 |outgrown=>cases g3
def Y8{P:Program}{T:br}{os:Nat->Option lX}{f:FuncId}{fn:Func}(d:P.funcs[f]?=some fn)(a:jU T os fn=true):pC P f:=by
 unfold jU at a;split at a
 case h_2=>cases a
 rename_i c b;simp only[xam,xaC,xcp]at a;exact⟨fn,d,a.2,by rw[b];rfl⟩
def rp{P:Program}{G:ca}{s:eA}{F:lZ->oY}(a:pC P s.f)(h:∀ls,F ls=none):pY P G s F:=⟨a,λls c b=>by rw[h]at b;cases b⟩
def dr:List (Tmp×tk)->p0
 |[],_=>none|(t',e)::r,t=>if t=t' then some e else dr r t
def Y9{P:Program}{G:ca}:jd P G (dr []):=by intro t e h;cases h
def Za{P:Program}{G:ca}{t:Tmp}{e:tk}{l:List (Tmp×tk)}(h:pY P G e.s e.F)(c:jd P G (dr l)):jd P G (dr ((t,e)::l)):=by
 intro t' b a;unfold dr at a;split at a;.cases a;exact h
 exact c t' b a
def dF:List (Nat×List (List Key))->Nat->List (List Key)
 |[],_=>[]|(j,s)::r,k=>if k=j then s else dF r k
def dL(l:List Tmp)(t:Tmp):Bool:=l.contains t
def fo:List (FuncId×(lZ->oX))->hv
 |[],_,_,_=>none|(b,F)::r,d,f,a=>if f=b then F a else fo r d f a
def kT(P:Program)(G:ca)(f:FuncId)(F:lZ->oX):Prop:=∀a r,F a=some r->cC P G f a (·=r)
def Zb{P:Program}{G:ca}:e6 P G (fo []):=by intro d f a r h;cases h
def Zc{P:Program}{G:ca}{f:FuncId}{F:lZ->oX}{l:List (FuncId×(lZ->oX))}(h:kT P G f F)(g:e6 P G (fo l)):e6 P G (fo ((f,F)::l)):=by
 intro d c b r a;unfold fo at a;split at a;.rename_i e;subst e;exact h b r a
 exact g d c b r a
def bD:List (Nat×jc)->Nat->Option jc
 |[],_=>none|(j,s)::r,k=>if k=j then some s else bD r k
def dG:List (Nat×lX)->Nat->Option lX
 |[],_=>none|(j,s)::r,k=>if k=j then some s else dG r k
def rq(f:FuncId)(x:D):Bool:=match x with| .val (.func (.func c) a b)=>c==f&&a.size==0&&b.size==0|_=>false
def No{f:FuncId}{x:D}(h:rq f x=true):x= .val (.func (.func f) #[] #[]):=by
 unfold rq at h;split at h;.rename_i c a b;simp only[xam,xbQ]at h;obtain⟨⟨rfl,ab⟩,ad⟩:=h;rw[xbp ab,xbp ad]
 cases h
def fp(f:FuncId)(x:D):oY:=match x with
 | .fn (.func b) first a=>if b=f/\first.isEmpty=true then some a else none
 |_=>none
def gB{f:FuncId}{x:D}{a:lZ}(h:fp f x=some a):x= .fn (.func f) [] a:=by
 unfold fp at h;split at h
 .split at h;.rename_i b;cases h;rw[b.1,List.isEmpty_iff.1 b.2]
  cases h
 cases h
def le_nil:gz (λk=>k) (λ_=>False) (List.map ax.d []) []:=trivial
def eY{x:D}{y:ax}{a:lZ}{b:List ax}(h:kM (λk=>k) (λ_=>False) (.d x) y)(c:gz (λk=>k) (λ_=>False) (List.map ax.d a) b):gz (λk=>k) (λ_=>False) (List.map ax.d (x::a)) (y::b):=⟨h,c⟩
def Zd{x:D}:kM (λk=>k) (λ_=>False) (.d x) (.d x):=⟨x,rfl,D.le_refl x⟩
theorem e3{c:lZ}{o:Nat}:kM (λk=>k) (λ_=>False) (.d (.ref c o)) (.cE c o):= .inr rfl
def ar(t:Nat):Nat×SW:=(t,.b .d)
def sp(t:Nat):Nat×SW:=(t,.b (.ptr t 0))
def ba(t k:Nat):Nat×SW:=(t,.b (.row k))
def aW(k n:Nat):Key×h8:=(k,.box (List.replicate n (.b .d)))
def aH(k n:Nat):Key×h8:=(k,.row n)
def kU(l:lX):jc:=⟨l.map λv=>if v<1000 then ar v else sp (v/1000),(l.filter λv=>decide (1000<=v)).map λv=>aW (v/1000) (v%1000),[]⟩
def Ze(b:Bool)(k:Nat):Nat:=if b&&decide (1000<=k)&&decide (k<1000000)then k*1000 else k
def bB(b:Bool)(l:List (lX×jc)):List (Nat×jc):=l.flatMap λp=>p.1.map λk=>(Ze b k,p.2)
def bN(b:Bool)(l:List (lX×lX)):List (Nat×jc):=bB b (l.map λp=>(p.1,kU p.2))
def Zf(P:Program)(G:ca)(n:Nat)(c:List (FuncId×(lZ->oX)))(l j b:List (Nat×jc)):iJ:=⟨dn P,G,fo c,n,[],bD l,bD j,bD b,dG [],dr [],dL [],dF []⟩
def cV{P:Program}(X:iJ)(j:cQ P X.T)(i:e6 P X.G X.C)(hH:jd P X.G X.H)(n:P.follows .mixedOrders=true){f:FuncId}{fn:Func}(m:P.funcs[f]?=some fn){b:lZ}{as:List ax}(e:gz (λk=>k) (λ_=>False) (b.map .d) as) {o:oX} {r:D} (h:o=some r) (c:X.ib=[]:=by rfl) (g:jU X.T X.ll fn=true:=by kernel_rfl) (a:decide (b.length<=fn.ntmps)=true:=by kernel_rfl) (l:oB X fn as=o:=by kernel_rfl):cC P X.G f b (·=r):=Y5 X j i hH n c m g e a (l.trans h)
def je{P:Program}(X:iJ)(g:cQ P X.T)(e:e6 P X.G X.C)(hH:jd P X.G X.H)(j:P.follows .mixedOrders=true){s:eA}{fn:Func}(i:P.funcs[s.f]?=some fn)(kP:List pR){F:lZ->oY}(c:jU X.T X.ll fn=true:=by kernel_rfl)(a:decide (s.args.length<=fn.ntmps)=true:=by kernel_rfl) (b:(s.ins.all λp=>decide (p.1<10000)||X.ib.contains p.1)=true:=by kernel_rfl) (h:∀ls,Hi X fn s kP ls=F ls:=by intros;kernel_rfl):pY P X.G s F:=Y7 X g e hH j i c a b λls k d=>(h ls).trans d
def bj{x:D}{a:lZ}{b:List ax}(h:gz (λk=>k) (λ_=>False) (List.map ax.d a) b):gz (λk=>k) (λ_=>False) (List.map ax.d (x::a)) (.d x::b):=eY Zd h class rr (P:Program) (X:iJ):Prop where
 t:cQ P X.T
 c:e6 P X.G X.C
 h:jd P X.G X.H
 m:P.follows .mixedOrders=true
def hT(P:Program)(f:FuncId)(h:(P.funcs[f]?).isSome=true):Func:=(P.funcs[f]?).get h
def tw{P:Program}{f:FuncId}{h:(P.funcs[f]?).isSome=true}:P.funcs[f]?=some (hT P f h):=by unfold hT;rw[Option.some_get]
def wY(g:oX):lZ->oX
 |[]=>g|_=>none
@[simp] theorem Zg {g:oX}:wY g []=g:=rfl
def s9{P:Program}(X:iJ)[S:rr P X]{f:FuncId}{g:oX}(aj:(P.funcs[f]?).isSome=true:=by kernel_rfl)(b:X.ib=[]:=by rfl)(d:jU X.T X.ll (hT P f aj)=true:=by kernel_rfl)(a:decide (0<=(hT P f aj).ntmps)=true:=by kernel_rfl)(e:oB X (hT P f aj) []=g:=by intros;kernel_rfl):kT P X.G f (wY g):=by
 intro i r h;unfold wY at h;split at h
 case h_2=>cases h
 exact cV X S.t S.c S.h S.m tw le_nil h b d a e
def cO(g:D->oX):lZ->oX
 |[a0]=>g a0|_=>none
@[simp] theorem jV {g:D->oX} {a0:D}:cO g [a0]=g a0:=rfl
def bT{P:Program}(X:iJ)[S:rr P X]{f:FuncId}{g:D->oX}(aj:(P.funcs[f]?).isSome=true:=by kernel_rfl)(b:X.ib=[]:=by rfl)(e:jU X.T X.ll (hT P f aj)=true:=by kernel_rfl)(a:decide (1<=(hT P f aj).ntmps)=true:=by kernel_rfl)(i:∀a0,oB X (hT P f aj) [.d a0]=g a0:=by intros;kernel_rfl):kT P X.G f (cO g):=by
 intro j r h;unfold cO at h;split at h
 case h_2=>cases h
 exact cV X S.t S.c S.h S.m tw (bj le_nil) h b e a (i _)
def du(g:D->D->oX):lZ->oX
 |[a0,aE]=>g a0 aE|_=>none
@[simp] theorem ru {g:D->D->oX} {a0 aE:D}:du g [a0,aE]=g a0 aE:=rfl
def cM{P:Program}(X:iJ)[S:rr P X]{f:FuncId}{g:D->D->oX}(aj:(P.funcs[f]?).isSome=true:=by kernel_rfl)(b:X.ib=[]:=by rfl)(e:jU X.T X.ll (hT P f aj)=true:=by kernel_rfl)(a:decide (2<=(hT P f aj).ntmps)=true:=by kernel_rfl)(i:∀a0 aE,oB X (hT P f aj) [.d a0,.d aE]=g a0 aE:=by intros;kernel_rfl):kT P X.G f (du g):=by
 intro j r h;unfold du at h;split at h
 case h_2=>cases h
 exact cV X S.t S.c S.h S.m tw (bj (bj le_nil)) h b e a (i _ _)
def hx(g:D->D->D->oX):lZ->oX
 |[a0,aE,a2]=>g a0 aE a2|_=>none
@[simp] theorem Zh {g:D->D->D->oX} {a0 aE a2:D}:hx g [a0,aE,a2]=g a0 aE a2:=rfl
def gL{P:Program}(X:iJ)[S:rr P X]{f:FuncId}{g:D->D->D->oX}(aj:(P.funcs[f]?).isSome=true:=by kernel_rfl)(b:X.ib=[]:=by rfl)(e:jU X.T X.ll (hT P f aj)=true:=by kernel_rfl)(a:decide (3<=(hT P f aj).ntmps)=true:=by kernel_rfl)(i:∀a0 aE a2,oB X (hT P f aj) [.d a0,.d aE,.d a2]=g a0 aE a2:=by intros;kernel_rfl):kT P X.G f (hx g):=by
 intro j r h;unfold hx at h;split at h
 case h_2=>cases h
 exact cV X S.t S.c S.h S.m tw (bj (bj (bj le_nil))) h b e a (i _ _ _)
def p2(g:D->D->D->D->oX):lZ->oX
 |[a0,aE,a2,a3]=>g a0 aE a2 a3|_=>none
@[simp] theorem Zi {g:D->D->D->D->oX} {a0 aE a2 a3:D}:p2 g [a0,aE,a2,a3]=g a0 aE a2 a3:=rfl
def wZ{P:Program}(X:iJ)[S:rr P X]{f:FuncId}{g:D->D->D->D->oX}(aj:(P.funcs[f]?).isSome=true:=by kernel_rfl)(b:X.ib=[]:=by rfl)(e:jU X.T X.ll (hT P f aj)=true:=by kernel_rfl)(a:decide (4<=(hT P f aj).ntmps)=true:=by kernel_rfl)(i:∀a0 aE a2 a3,oB X (hT P f aj) [.d a0,.d aE,.d a2,.d a3]=g a0 aE a2 a3:=by intros;kernel_rfl):kT P X.G f (p2 g):=by
 intro j r h;unfold p2 at h;split at h
 case h_2=>cases h
 exact cV X S.t S.c S.h S.m tw (bj (bj (bj (bj le_nil)))) h b e a (i _ _ _ _)
def BJ(g:D->D->D->D->D->oX):lZ->oX
 |[a0,aE,a2,a3,a4]=>g a0 aE a2 a3 a4|_=>none
@[simp] theorem Zj {g:D->D->D->D->D->oX} {a0 aE a2 a3 a4:D}:BJ g [a0,aE,a2,a3,a4]=g a0 aE a2 a3 a4:=rfl
def Zk{P:Program}(X:iJ)[S:rr P X]{f:FuncId}{g:D->D->D->D->D->oX}(aj:(P.funcs[f]?).isSome=true:=by kernel_rfl)(b:X.ib=[]:=by rfl)(e:jU X.T X.ll (hT P f aj)=true:=by kernel_rfl)(a:decide (5<=(hT P f aj).ntmps)=true:=by kernel_rfl)(i:∀a0 aE a2 a3 a4,oB X (hT P f aj) [.d a0,.d aE,.d a2,.d a3,.d a4]=g a0 aE a2 a3 a4:=by intros;kernel_rfl):kT P X.G f (BJ g):=by
 intro j r h;unfold BJ at h;split at h
 case h_2=>cases h
 exact cV X S.t S.c S.h S.m tw (bj (bj (bj (bj (bj le_nil))))) h b e a (i _ _ _ _ _)
def Zl(g:D->D->D->D->D->D->oX):lZ->oX
 |[a0,aE,a2,a3,a4,a5]=>g a0 aE a2 a3 a4 a5|_=>none
@[simp] theorem Zm {g:D->D->D->D->D->D->oX} {a0 aE a2 a3 a4 a5:D}:Zl g [a0,aE,a2,a3,a4,a5]=g a0 aE a2 a3 a4 a5:=rfl
def Zn(g:D->D->D->D->D->D->D->oX):lZ->oX
 |[a0,aE,a2,a3,a4,a5,a]=>g a0 aE a2 a3 a4 a5 a|_=>none
@[simp] theorem alI {g:D->D->D->D->D->D->D->oX} {a0 aE a2 a3 a4 a5 a:D}:Zn g [a0,aE,a2,a3,a4,a5,a]=g a0 aE a2 a3 a4 a5 a:=rfl
def rv{P:Program}{T:br}{os:Nat->Option lX}{f:FuncId}{fn:Func}(h:P.funcs[f]?=some fn)(a:jU T os fn=true:=by kernel_rfl):pC P f:=Y8 h a
section
variable{β:Type}
abbrev cj(x:D)(m:oX)(k:D->Option β):Option β:=af (cu x true m) λv=>af (dQ x v (aD false)) k
abbrev cI(x:D)(m:oX)(k:D->Option β):Option β:=af (cu x false m) λv=>af (dQ x (aD true) v) k
abbrev aR(m:oX):oX:=af m λv=>some v
abbrev aK(o:BinOp)(a b:D)(k:D->Option β):Option β:=af (aP false o a b) k
abbrev bO(a b:D)(k:D->Option β):Option β:=af (a8 1 a b) λc=>af (aN false 1 0 c) k
abbrev ct(x:D)(j:Nat)(k:D->Option β):Option β:=af ((aF x)[j]?) λc=>af (aN false 1 0 c) k
abbrev bd(x:D)(k:D->Option β):Option β:=af (dK x) k
abbrev aJ(n:Nat)(x:D)(k:Option β):Option β:=bG (cw n x) k
abbrev av(l:lZ):Option (lZ⊕β):=some (.inl l)
abbrev aB(x:D):D:= .aw 1 (aF x)
abbrev aL(o:BinOp)(a b:D)(x y:Option β):Option β:=aK o a b λv=>aV v x y
abbrev dc(m:oX)(x y:Option β):Option β:=af m λv=>aV v x y
abbrev aX:D:= .val (.slice none 0 0)
abbrev an:D:=aa 0
abbrev bC:D:=aa 1
abbrev bh:D:=aD false
abbrev cc:D:=aD true
abbrev bq(x:D)(k:D->Option β):Option β:=aK .add x (aa 1) k
abbrev bP(x:D)(k:D->Option β):Option β:=af (eK 0 x) k
abbrev bQ(x:D)(k:D->Option β):Option β:=af (eK 1 x) k
abbrev cF(y i:D)(k:Nat->Option β):Option β:=af (cS (aF y).length i) k
abbrev bp(x:D)(k:Option β):Option β:=bG (da x) k
abbrev bx(l:lZ):Option (lZ⊕(lZ⊕β)):=aT (av l)
abbrev cn(x:D):D:= .agg [ae x 0,ae x 1,ae x 2,ae x 3]
abbrev eo(x:D):D:= .agg [ae x 0,ae x 1,ae x 2,ae x 3,ae x 4,ae x 5,ae x 6,ae x 7]
end
attribute [simp, go_sem] cj cI aR aL dc aX an bC bh cc bq bP bQ cF bp bx aK bO ct bd aJ av aB cn eo
attribute [go_sem] Zg jV ru Zh Zi Zj Zm
def tx(i:Nat):List (FuncId×(lZ->oX))->lZ->oX
 |[],_=>none|(f,F)::l,a=>match(a[i]?).bind (fp f)with|some _=>F a|none=>tx i l a
def Zo{P:Program}{G:ca}{f:FuncId}{i:Nat}:kT P G f (tx i []):=by intro a r h;cases h
def tz{P:Program}{G:ca}{f g:FuncId}{i:Nat}{F:lZ->oX}{l:List (FuncId×(lZ->oX))}(h:kT P G f F)(b:kT P G f (tx i l)):kT P G f (tx i ((g,F)::l)):=by
 intro c r a;unfold tx at a;split at a;.exact h _ _ a
 exact b _ _ a
@[congr] def alJ {a b:Type} {x y:Option a} {f:a->Option b} (h:x=y):af x f=af y f:=by rw[h]
@[simp] theorem cG {b c:Type} {a:b} {f:b->Option c}:af (some a) f=f a:=rfl
@[simp] theorem alK {a b:Type} {f:a->Option b}:af (none:Option a) f=none:=rfl
@[congr] def alL {a:Type} {c d:Bool} {p:Option a} (h:c=d):bG c p=bG d p:=by rw[h]
@[simp] theorem ln {a:Type} {p:Option a}:bG true p=p:=rfl
@[simp] theorem alM {a:Type} {p:Option a}:bG false p=none:=rfl
@[congr] def alN {a:Type} {x y:D} {p q:Option a} (h:x=y):aV x p q=aV y p q:=by rw[h]
@[simp] theorem h9 {a:Type} {b:Bool} {p q:Option a}:aV (aD b) p q=if b=true then p else q:=by cases b<;>rfl
@[congr] def alO {x y:D} {w:Bool} {p:oX} (h:x=y):cu x w p=cu y w p:=by rw[h]
@[simp] theorem oC {b w:Bool} {p:oX}:cu (aD b) w p=if b=w then p else some gn:=rfl
@[simp] theorem alP {a:Type} {b w:Bool} {p q:Option a}:pM (aD b) w p q=if b=w then p else q:=rfl
@[simp] theorem alQ {a:Type} {w:Bool} {p q:Option a}:pM gn w p q=q:=rfl
@[simp] theorem alR {w:Bool} {p:oX}:cu gn w p=some gn:=rfl
@[simp] theorem oD {t:Bool} {a b:D}:dQ (aD t) a b=some (if t=true then a else b):=rfl
@[simp] theorem Np {c:Prop} [Decidable c] {a b:Bool}:(if c then aD a else aD b)=aD (if c then a else b):=by split<;>rfl
@[simp] theorem Hj {d:Type} {c:Prop} [Decidable c] {a b:d}:(if c then some a else some b)=some (if c then a else b):=by split<;>rfl
@[simp] theorem alS {e:Type} {c:Prop} [Decidable c] {a b d:e}:(if c then(if c then a else b)else d)=if c then a else d:=by split<;>simp_all
@[simp] theorem Hk {a:Type} {b:a}:aT (some b)=some (.inr b):=rfl
@[simp] theorem alT {a:Type}:aT (none:Option a)=none:=rfl
@[simp] theorem lp {a:Type} {f:lZ->Option a} {ls:lZ}:aG f (.inl ls)=f ls:=rfl
@[simp] theorem w1 {a:Type} {f:lZ->Option a} {b:a}:aG f (.inr b)=some b:=rfl
@[simp] theorem lq {x:D} {l:lZ}:bz (x::l) 0=x:=rfl
@[simp] theorem ma {x:D} {l:lZ} {n:Nat}:bz (x::l) (n+1)=bz l n:=rfl
@[simp] theorem Zp {k:Nat} {es:mW}:aF (.aw k es)=es:=rfl
@[simp] theorem Zq {es:List (Value×D)}:dJ (.mp es)=es:=rfl
@[simp] theorem Zr {cs:lZ}:dB (.agg cs)=cs:=rfl
@[simp] theorem alU {cs:lZ} {i:Nat}:ae (.agg cs) i=cs.getD i gn:=rfl
@[simp] theorem Hl {n:Int}:da (aa n)=true:=rfl
@[simp] theorem Zs {n:Bool}:da (aD n)=true:=rfl
@[simp] theorem Zt {n:ByteArray}:da (aA n)=true:=rfl
@[simp] theorem Zu {k:Nat} {es:mW}:da (.aw k es)=true:=rfl
@[simp] theorem alV {es:List (Value×D)}:da (.mp es)=true:=rfl
@[simp] theorem Zv:da (.val (.slice none 0 0))=true:=rfl
@[simp] theorem Zw {n:Int}:(aa n).one=true:=rfl
@[simp] theorem Zx {n:Bool}:(aD n).one=true:=rfl
@[simp] theorem Zy {n:ByteArray}:(aA n).one=true:=rfl
@[simp] theorem Zz {k:Nat} {es:mW}:(D.aw k es).one=true:=rfl
@[simp] theorem ZA:(D.val (.slice none 0 0)).one=true:=rfl
@[simp] theorem alW {n:Nat} {cs:lZ}:cw n (.agg cs)=(cs.length==n&&cs.all D.one):=rfl
@[simp] theorem alX:iW (.val (.slice none 0 0))=true:=rfl
@[simp] theorem fW {n off:Nat} {cs:lZ}:aN false n off cs=cs[off]?:=rfl
theorem ry{n off:Nat}{cs:lZ}:aN true n off cs=if off+n<=cs.length then some (.agg ((cs.drop off).take n))else none:=rfl
@[simp] theorem Nq {a:Bool} {n off:Nat} {cs:lZ}:iE a n off (.agg cs)=aN a n off cs:=rfl
@[simp] theorem Hm {i:Nat} {vs:lZ}:eK i (.az vs)=vs[i]?:=rfl
@[simp] theorem ZB {k:Nat} {es:mW}:dK (.aw k es)=some (aa es.length):=rfl
@[simp] theorem ZC:dK (.val (.slice none 0 0))=some (aa 0):=rfl
@[simp] theorem Hn {s:ByteArray}:kO (aA s)=some (aa s.size):=rfl
@[simp] theorem Nr {k:Nat} {es:mW} {i:Nat}:a8 k (.aw k es) (aa (i:Int))=es[i]?:=by simp[a8,aa]
@[simp] theorem alY {k:Nat} {es:mW}:a8 k (.aw k es) (aa 0)=es[0]?:=by simp[a8,aa]
def Ho{n:Nat}{i:Int}(h:0<=i)(a:i<n):cS n (aa i)=some i.toNat:=by simp[cS,aa,h,a]
@[simp] theorem jW {n i:Nat}:cS n (aa (i:Int))=if i<n then some i else none:=by simp[cS,aa]
@[simp] theorem ZD {k:Nat} {es:mW}:jR (.aw k es)=some (k,es):=rfl
@[simp] theorem alZ:jR (.val (.slice none 0 0))=some (0,[]):=rfl
def rz{n b:Nat}(ab:n*b<=140737488355328)(ad:n<=4611686018427387904):bZ n b=true:=by simp[bZ,ab,ad]
section
variable{bt:Bool}{a b:Int}
@[simp] theorem BK:aP bt .lss (aa a) (aa b)=some (aD (decide (a<b))):=rfl
@[simp] theorem BL:aP bt .leq (aa a) (aa b)=some (aD (decide (a<=b))):=rfl
@[simp] theorem kV:aP bt .gtr (aa a) (aa b)=some (aD (decide (a>b))):=rfl
@[simp] theorem w2:aP bt .geq (aa a) (aa b)=some (aD (decide (a>=b))):=rfl
@[simp] theorem tA:aP bt .eql (aa a) (aa b)=some (aD (a==b)):=rfl
@[simp] theorem tB:aP bt .neq (aa a) (aa b)=some (aD (a !=b)):=rfl
theorem BM:aP bt .add (aa a) (aa b)=some (aa (IntKind.i64.wrap (a+b))):=rfl
theorem Hp:aP bt .sub (aa a) (aa b)=some (aa (IntKind.i64.wrap (a-b))):=rfl
theorem ZE:aP bt .mul (aa a) (aa b)=some (aa (IntKind.i64.wrap (a*b))):=rfl
def ds(ab:-9223372036854775808<=a+b)(ad:a+b<=9223372036854775807):aP bt .add (aa a) (aa b)=some (aa (a+b)):=by rw[BM,wrap64 _ ab ad]
def jX(ab:-9223372036854775808<=a-b)(ad:a-b<=9223372036854775807):aP bt .sub (aa a) (aa b)=some (aa (a-b)):=by rw[Hp,wrap64 _ ab ad]
def p3(ab:-9223372036854775808<=a*b)(ad:a*b<=9223372036854775807):aP bt .mul (aa a) (aa b)=some (aa (a*b)):=by rw[ZE,wrap64 _ ab ad]
def Ns(h:b≠0):aP bt .quo (aa a) (aa b)=some (aa (IntKind.i64.wrap (a.tdiv b))):=by simp[aP,wm,aa,h,km]
def w3(h:b≠0):aP bt .rem (aa a) (aa b)=some (aa (a.tmod b)):=by simp[aP,wm,aa,h,km]
@[simp] theorem Hq {x y:ByteArray}:aP bt .eql (aA x) (aA y)=some (aD (decide (x=y))):=rfl
@[simp] theorem Nt {x y:ByteArray}:aP bt .neq (aA x) (aA y)=some (aD (!decide (x=y))):=rfl
@[simp] theorem ZF {x y:ByteArray}:aP bt .lss (aA x) (aA y)=some (aD (blt x y)):=rfl
@[simp] theorem Hr {x y:ByteArray}:aP bt .gtr (aA x) (aA y)=some (aD (!(blt x y||decide (x=y)))):=rfl
@[simp] theorem al0 {x y:Bool}:aP true .eql (aD x) (aD y)=some (aD (x==y)):=rfl
@[simp] theorem ZG {x y:Bool}:aP true .neq (aD x) (aD y)=some (aD (x !=y)):=rfl
@[simp] theorem tC {x:Bool}:cb .not (aD x)=some (aD (!x)):=rfl
end
attribute [simp] xbE xcs List.getElem?_nil List.getD_cons_zero List.getD_cons_succ
theorem hJ{c:Type}{f:lZ->Option (lZ⊕c)}{n:Nat}{ls:lZ}:aS f (n+1) ls=af (f ls) λx=>match x with| .inl a=>aS f n a| .inr b=>some b:=rfl
def Nu{a:Type}{f:lZ->Option (lZ⊕a)}(I:Nat->lZ):∀{m n j:Nat},(∀i,j<=i->i<j+m->f (I i)=some (.inl (I (i+1))))->m<=n->aS f n (I j)=aS f (n-m) (I (j+m))
 |0,n,j,_,_=>rfl|m+1,0,j,_,h=>absurd h oZ
 |m+1,n+1,j,aj,h=>by
  rw[hJ,aj j (xaQ j) oZ];simp only[cG];have:=Nu (f:=f) I (m:=m) (n:=n) (j:=j+1) (λi ab ad=>aj i oZ oZ) oZ;rw[this]
  congr 1
  .omega
  congr 1;omega
theorem ia{a:Type}{f:lZ->Option (lZ⊕a)}{ls:lZ}{n:Nat}{b:a}(I:Nat->lZ)(m:Nat)(ak:ls=I 0)(aj:∀i,i<m->f (I i)=some (.inl (I (i+1))))(c:f (I m)=some (.inr b))(e:m<n):aS f n ls=some b:=by subst ak;rw[Nu I (m:=m) (λi _ h=>aj i oZ) oZ];obtain⟨k,d⟩:∃k,n-m=k+1:=⟨n-m-1,by omega⟩;rw[d,hJ,xaw,c];rfl
end Go.Am
