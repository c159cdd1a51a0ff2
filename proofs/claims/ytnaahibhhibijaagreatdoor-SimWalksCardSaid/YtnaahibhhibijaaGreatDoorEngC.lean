/- An evaluator of code over such values, and that what it answers the code does. No condition. -/
import Derived.Test.YtnaahibhhibijaaGreatDoorEngS
import Derived.KernelRfl
set_option linter.all false
set_option linter.unnecessarySimpa false
namespace Go.Am
def R{α β:Type}(x:Option α)(f:α->Option β):Option β:=match x with|some a=>f a|none=>none
def ef{α β:Type}{x:Option α}{f:α->Option β}{b:β}(h:R x f=some b):∃a,x=some a/\f a=some b:=by
 cases x with
 |none=>cases h
 |some a=>exact⟨a,rfl,h⟩
def aD{β:Type}(c:Bool)(p:Option β):Option β:=match c with|true=>p|false=>none
def lx{β:Type}{c:Bool}{p:Option β}{b:β}(h:aD c p=some b):c=true/\p=some b:=by
 cases c with
 |false=>cases h
 |true=>exact⟨rfl,h⟩
def aE{β:Type}(x:D)(p q:Option β):Option β:=match x with| .val (.bool true)=>p| .val (.bool false)=>q|_=>none
def Xt{β:Type}{x:D}{p q:Option β}{b:β}(h:aE x p q=some b):(x= .val (.bool true)/\p=some b)\/(x= .val (.bool false)/\q=some b):=by
 unfold aE at h;split at h;.exact .inl ⟨rfl,h⟩
 .exact .inr ⟨rfl,h⟩
 cases h
def jY:D:= .val (.tuple #[])
def oj:Option aS->Option D
 |some (.d r)=>some r|_=>none
def yz{x:Option aS}{r:D}(h:oj x=some r):x=some (.d r):=by
 unfold oj at h;split at h;.cases h;rfl
 cases h
def KK:D->List D
 | .agg cs=>cs|_=>[]
def aa(x:D)(i:Nat):D:=(KK x).getD i jY
def aB:D->List (List D)
 | .aA _ es=>es|_=>[]
def gk:D->List (Value×D)
 | .mp es=>es|_=>[]
def bT(x:D):Bool:=x.one
def aX(n:Nat)(x:D):Bool:=match x with| .agg cs=>cs.length==n&&cs.all D.one|_=>false
def mz(x:D):Bool:=match x with| .val (.slice none 0 0)=>true|_=>false
def ajr{n:Nat}{x:D}(h:aX n x=true):∃cs,x= .agg cs/\cs.length=n/\cs.all D.one=true:=by
 unfold aX at h;split at h;.rename_i cs;rw[xao,xbK]at h;exact⟨cs,rfl,h.1,h.2⟩
 cases h
def ajs{n:Nat}{cs:List D}(h:cs.length=n):((List.range n).map λi=>aS.d (aa (.agg cs) i))=cs.map .d:=by
 apply xcc;intro i;simp only[xag];by_cases ag:i<n;.rw[xbX ag,xad (by omega)];simp[aa,KK,xbh,h,ag]
 rw[xaY (by simp;omega),xaY (by omega)];rfl
def aj(bt:Bool)(op:BinOp)(x y:D):Option D:=match x,y with
 | .val (.int k a),.val (.int bu b)=>oj (match op with
  | .shl=>if b<0 then none else some (.d (.val (.int k (k.wrap (a*2^(min b.toNat k.bits))))))
  | .shr=>if b<0 then none else some (.d (.val (.int k (a.fdiv (2^(min b.toNat k.bits))))))
  |_=>if k=bu then Et op k a b else none)
 | .val (.string a),.val (.string b)=>oj (JN op a b)| .val (.bool a),.val (.bool b)=>if bt then oj (OZ op a b)else none
 |_,_=>none
def ajt{T:ca}{t:TypeId}{op:BinOp}{x y r:D}(h:aj (Eu T t) op x y=some r):wa T op t (.d x) (.d y)=some (.d r):=by
 unfold aj at h;unfold wa;split at h;.have:=yz h;cases op<;>exact this
 .exact yz h
 .split at h;.rename_i ak;simp only[ak,xaz];exact yz h
  cases h
 cases h
def PZ(l:List TypeDesc)(op:BinOp)(x y:D):Option D:=match x,y with| .agg xs,.agg c0=>oj (O0 op l xs c0)|_,_=>none
def aju{T:ca}{t:TypeId}{op:BinOp}{x y r:D}{l:List TypeDesc}(an:T.eqs t=some l)(h:PZ l op x y=some r):wa T op t (.d x) (.d y)=some (.d r):=by
 unfold PZ at h;split at h;.unfold wa;simp only[an];exact yz h
 cases h
def KL(op:BinOp)(x y:D):Option D:=match op with
 | .eql=>if mz y then(match x with| .val (.slice none _ _)=>some (.val (.bool true))| .aA _ (_::_)=>some (.val (.bool false))|_=>none)else none
 | .neq=>if mz y then(match x with| .val (.slice none _ _)=>some (.val (.bool false))| .aA _ (_::_)=>some (.val (.bool true))|_=>none)else none
 |_=>none
def da(op:UnOp)(x:D):Option D:=match op,x with| .not,.val (.bool b)=>some (.val (.bool !b))| .neg,.val (.int k n)=>some (.val (.int k (k.wrap (0-n))))|_,_=>none
def iz(k:IntKind)(x:D):Option D:=match x with| .val (.int _ n)=>some (.val (.int k (k.wrap n)))|_=>none
def Xu(x:D):Option D:=match x with| .val (.string b)=>some (.val (.string b))|_=>none
def uD(es:List (List D)):Option D:=match sA es with|some fx=>some (.val (.string (JS fx)))|none=>none
def Xv(x:D):Option D:=match x with| .aA 1 es=>uD es| .val (.slice none 0 _)=>uD []|_=>none
def b1(c a b:D):Option D:=match c with
 | .val (.bool t)=>some (if t then a else b)
 |_=>none
def a7(agg:Bool)(n off:Nat)(cs:List D):Option D:=match agg with
 |true=>if off+n<=cs.length then some (.agg ((cs.drop off).take n))else none
 |false=>cs[off]?
def l2(agg:Bool)(n off:Nat)(x:D):Option D:=match x with| .agg cs=>a7 agg n off cs|_=>none
def bf(i:Nat)(x:D):Option D:=match x with| .aO vs=>vs[i]?|_=>none
def q9(s i:D):Option D:=match s,i with| .val (.string s),.val (.int _ n)=>oj (JR s n)|_,_=>none
def qe(x:Option D)(O4:Nat):Option Nat:=match x with
 |none=>some O4|some (.val (.int _ n))=>if 0<=n then some n.toNat else none
 |_=>none
theorem KM(x:Option D)(d:Nat):p0 (x.map .d) d=qe x d:=by cases x with|none=>rfl|some x=>cases x<;>first|rfl|(rename_i v;cases v<;>rfl)
def Xw(s:D)(lo ag:Option D):Option D:=match s with
 | .val (.string s)=>match qe ag s.size,qe lo 0 with
  |some h,some l=>if l<=h/\h<=s.size then some (.val (.string (s.extract l h)))else none
  |_,_=>none
 |_=>none
def mA(k:Nat)(x:D)(lo ag:Option D):Option D:=match x with
 | .aA bu es=>match qe ag es.length,qe lo 0 with
  |some h,some l=>if l<=h/\h<=es.length/\bu=k then some (.aA bu ((es.drop l).take (h-l)))else none
  |_,_=>none
 |_=>none
def pf(n:Nat)(lo ag:Option D):Option (Nat×Nat):=match qe ag n,qe lo 0 with
 |some h,some l=>if l<=h/\h<=n then some (l,h-l)else none
 |_,_=>none
def m3(x:D):Option D:=match x with| .val (.string s)=>some (.val (.int .i64 s.size))|_=>none
def bF(x:D):Option D:=match x with| .aA _ es=>some (.val (.int .i64 es.length))| .val (.slice _ n _)=>some (.val (.int .i64 n))|_=>none
def Xx(x:D):Option D:=match x with| .val (.map none)=>some (.val (.int .i64 0))| .mp es=>some (.val (.int .i64 es.length))|_=>none
def bk(k:Nat)(x i:D):Option (List D):=match i with
 | .val (.int _ n)=>if 0<=n then(match x with
  | .aA bu es=>if bu=k then es[n.toNat]? else none
  |_=>none)else none
 |_=>none
def cV(n:Nat)(i:D):Option Nat:=match i with
 | .val (.int _ j)=>if 0<=j/\j<n then some j.toNat else none
 |_=>none
def l3(x:D):Option (Nat×List (List D)):=match x with| .aA k es=>some (k,es)| .val (.slice none 0 _)=>some (0,[])|_=>none
def iW(fw:Bool)(l:List D):Option D:=oj (qP fw (l.map .d))
def cJ(n bytes:Nat):Bool:=decide (n*bytes<=140737488355328)&&decide (n<=4611686018427387904)
def om(bytes:Nat)(l c:D):Option Nat:=match l,c with
 | .val (.int _ l),.val (.int _ c)=>if 0<=l/\l<=c/\(bytes:Int)*c<=281474976710656/\c<=9223372036854775807 then some l.toNat else none
 |_,_=>none
def kl(kind:TypeDesc)(zero:Value)(ok:Bool)(es:List (Value×D))(k:D):Option D:=match k with
 | .val eB=>match findD kind eB es with
  |some (some x)=>some (if ok then .aO [x,.val (.bool true)]else x)
  |some none=>some (if ok then .aO [qQ zero,.val (.bool false)]else qQ zero)
  |none=>none
 |_=>none
def mB(x:D):Option (List (Value×D)):=match x with| .val (.map none)=>some []| .mp es=>some es|_=>none
def ra(kind:TypeDesc)(es:List (Value×D))(k x:D):Option (List (Value×D)):=match k with| .val eB=>qR kind eB x es|_=>none
section
variable{β:Type}
def Fc:List aS->Option β->Option β
 |[],p=>p| .d a::r,p=>aD (bT a) (Fc r p)|x::r,p=>if x.one=true then Fc r p else none
def P0{p:Option β}{b:β}:∀{cs:List aS},Fc cs p=some b->cs.all aS.one=true/\p=some b
 |[],h=>⟨rfl,h⟩
 |x::r,h=>by
  unfold Fc at h;split at h;.rename_i e;cases e
  .rename_i a sz n8 e;cases e;obtain⟨ab,ad⟩:=lx h;obtain⟨ax,a8⟩:=P0 ad;exact⟨by rw[xba,ax,xbt];exact ab,a8⟩
  rename_i e;cases e;split at h;.rename_i ae;obtain⟨ax,a8⟩:=P0 h;exact⟨by rw[xba,ax,xbt];exact ae,a8⟩
  cases h
def BU(n:Nat)(x:aS)(k:List aS->Option β):Option β:=match x with
 | .d a=>match n with|1=>aD (bT a) (k [.d a])|_=>aD (aX n a) (k ((List.range n).map λi=> .d (aa a i)))
 | .agg cs=>Fc cs (k cs)|x=>match cellsOf x with|some cs=>k cs|none=>none
def KN{n:Nat}{x:aS}{k:List aS->Option β}{b:β}(h:BU n x k=some b):∃cs,cellsOf x=some cs/\k cs=some b:=by
 unfold BU at h;split at h
 .rename_i a;split at h
  .obtain⟨ab,ad⟩:=lx h;refine⟨_,?_,ad⟩;unfold bT at ab;unfold cellsOf;split;.rename_i he;cases he;cases ab
   .rename_i he;cases he
   rw[xaa (show aS.one (.d a)=true from ab)]
  obtain⟨ab,ad⟩:=lx h;obtain⟨cs,rfl,aN,aV⟩:=ajr ab;rw[ajs aN]at ad;exact⟨_,by simp only[cellsOf,aV,xaz],ad⟩
 .obtain⟨ab,ad⟩:=P0 h;exact⟨_,by simp only[cellsOf,ab,xaz],ad⟩
 split at h;.rename_i cs gT;exact⟨cs,gT,h⟩
 cases h
def KO(place:Nat->Option (Nat×Nat))(cells:List aS):List (Nat×aS)->(List aS->Option β)->Option β
 |[],k=>k cells|(i,x)::rest,k=>match place i with|none=>none|some (off,size)=>BU size x λcs=>if cs.length=size/\off+cs.length<=cells.length then KO place (nk cells off cs) rest k else none
def Xy{place:Nat->Option (Nat×Nat)}:∀{parts:List (Nat×aS)} {cells:List aS} {k:List aS->Option β} {b:β},KO place cells parts k=some b->∃cs,x3 place cells parts=some cs/\k cs=some b
 |[],cells,k,b,h=>⟨cells,rfl,h⟩
 |(i,x)::rest,cells,k,b,h=>by
  unfold KO at h;split at h;.cases h
  rename_i off size aU;obtain⟨cs,ab,ad⟩:=KN h;split at ad
  case isFalse=>cases ad
  rename_i ai;obtain⟨out,ax,a8⟩:=Xy ad;exact⟨out,by unfold x3;simp only[aU,ab];rw[xaa ai];exact ax,a8⟩
def KP(size:Nat)(n:Nat):List (Nat×aS)->(List (List D)->Option β)->Option β
 |[],k=>k []
 |(i,x)::r,k=>if i=n then BU size x λcs=>match k0 cs with
   |some ds=>if ds.length=size then KP size (n+1) r λl=>k (ds::l)else none
   |none=>none
  else none
def Xz{size:Nat}:∀{parts:List (Nat×aS)} {n:Nat} {k:List (List D)->Option β} {b:β},KP size n parts k=some b->∃es,wg size n parts=some es/\k es=some b
 |[],n,k,b,h=>⟨[],rfl,h⟩
 |(i,x)::r,n,k,b,h=>by
  unfold KP at h;split at h
  case isFalse=>cases h
  rename_i ag;obtain⟨cs,ab,ad⟩:=KN h;split at ad
  case h_2=>cases ad
  rename_i ds eh;split at ad
  case isFalse=>cases ad
  rename_i an;obtain⟨es,ax,a8⟩:=Xz ad;exact⟨ds::es,by unfold wg;simp only[ag,xaz,ab,eh,ax,an],a8⟩
end
section
variable{β:Type}
def oo(T:ca)(G:c9)(σ:aI)(o:Oper)(k:aI->Option β):Option β:=match gr T G σ o with|some aT=>k aT|none=>none
def jC(σ:aI)(dst:Option Tmp)(k:aI->Option β)(p:Option D):Option β:=R p λv=>k (σ.put dst (.d v))
def mC(T:ca)(σ:aI)(dst:Option Tmp)(k:aI->Option β)(r:aS)(cE:List (Key×cO)):Option β:=match qU (T.born (dst.getD 9999)) (dst.getD 9999) (r,cE)with|(r,cE)=>k (aI.put ⟨σ.aJ,dp σ.objs cE⟩ dst r)
def KQ:Option aS->Option (Option D)
 |none=>some none|some (.d a)=>some (some a)|_=>none
theorem XA{x:Option aS}{y:Option D}(h:KQ x=some y):x=y.map .d:=by unfold KQ at h;split at h<;>cases h<;>rfl
def XB(T:ca)(t:TypeId):Bool:=match T t with|some ⟨.slice _,_,_,_⟩=>true|_=>false
def P1(T:ca)(G:c9)(σ:aI)(o:Oper)(op:BinOp)(t:TypeId)(x y:Operand)(k:aI->Option β):Option β:=match b8 G σ.aJ x,b8 G σ.aJ y with
 | .d a,.d b=>match XB T t with|true=>jC σ o.dst k (KL op a b)|false=>match T.eqs t with|some l=>jC σ o.dst k (PZ l op a b)|none=>jC σ o.dst k (aj (Eu T t) op a b)
 |_,_=>oo T G σ o k
def P2(T:ca)(G:c9)(σ:aI)(o:Oper)(s:TypeId)(x:Operand)(f:Nat)(k:aI->Option β):Option β:=match Ey T s f with
 |some (off,i)=>match b8 G σ.aJ x with| .d a=>jC σ o.dst k (l2 (ua i.desc) i.size off a)|_=>oo T G σ o k
 |none=>none
def P3(T:ca)(G:c9)(σ:aI)(o:Oper)(t:TypeId)(a:Operand)(k:aI->Option β):Option β:=match T t with
 |some i=>match b8 G σ.aJ a with
  | .ek cs off=>jC σ o.dst k (a7 (ua i.desc) i.size off cs)
  | .fR key cN eT off=>match σ.objs key with
   |some (.row bu es)=>if cN=bu then R es[eT]? λe=>jC σ o.dst k (a7 (ua i.desc) i.size off e)else none
   |_=>none
  |_=>oo T G σ o k
 |none=>none
def P4(T:ca)(G:c9)(σ:aI)(o:Oper)(t:TypeId)(x eT:Operand)(k:aI->Option β):Option β:=match T t with
 |some ⟨.slice e,_,_,_⟩=>match T e with
  |some bj=>match b8 G σ.aJ eT with
   | .d i=>match b8 G σ.aJ x with
    | .d a=>R (bk bj.size a i) λc=>k (σ.put o.dst (.ek c 0))
    | .row key=>match σ.objs key with
     |some (.row bu es)=>if bu=bj.size then R (cV es.length i) λn=>k (σ.put o.dst (.fR key bu n 0))else none
     |_=>none
    | .sub key bu i0 len=>if bu=bj.size then R (cV len i) λn=>k (σ.put o.dst (.fR key bu (i0+n) 0))else none
    |_=>none
   |_=>none
  |none=>none
 |some ⟨.array len e,_,_,_⟩=>match T e with
  |some bj=>match b8 G σ.aJ eT with
   | .d i=>R (cV len i) λn=>match Ez (b8 G σ.aJ x) (n*bj.size)with|some r=>k (σ.put o.dst r)|none=>none
   |_=>none
  |none=>none
 |_=>none
def P5(T:ca)(G:c9)(σ:aI)(o:Oper)(t:TypeId)(x:Operand)(lo ag:Option Operand)(k:aI->Option β):Option β:=match KQ (lo.map (b8 G σ.aJ)),KQ (ag.map (b8 G σ.aJ))with
 |some l,some h=>match T t with
  |some ⟨.string,_,_,_⟩=>match b8 G σ.aJ x with| .d a=>jC σ o.dst k (Xw a l h)|_=>none
  |some ⟨.slice e,_,_,_⟩=>match T e with
   |some bj=>match b8 G σ.aJ x with
    | .d a=>jC σ o.dst k (mA bj.size a l h)
    | .row key=>match σ.objs key with
     |some (.row bu es)=>if bu=bj.size then R (pf es.length l h) λp=>k (σ.put o.dst (.sub key bu p.1 p.2))else none
     |_=>none
    | .sub key bu i0 len=>if bu=bj.size then R (pf len l h) λp=>k (σ.put o.dst (.sub key bu (i0+p.1) p.2))else none
    |_=>none
   |none=>none
  |_=>oo T G σ o k
 |_,_=>none
def P6(T:ca)(G:c9)(σ:aI)(o:Oper)(args:List Operand)(dq:List TypeId)(k:aI->Option β):Option β:=match dq,args with
 |[t],[x]=>match b8 G σ.aJ x with
  | .d a=>match T t with|some ⟨.string,_,_,_⟩=>jC σ o.dst k (m3 a)|some ⟨.slice _,_,_,_⟩=>jC σ o.dst k (bF a)|some ⟨.map _ _,_,_,_⟩=>jC σ o.dst k (Xx a)|_=>none
  |_=>oo T G σ o k
 |_,_=>none
def P7(T:ca)(G:c9)(σ:aI)(o:Oper)(args:List Operand)(dq:List TypeId)(k:aI->Option β):Option β:=match dq,args with
 |[t,t'],[s,x]=>match T t,T t',σ.objs (o.dst.getD 9999)with
  |some ⟨.slice e,_,_,_⟩,some ⟨.slice _,_,_,_⟩,none=>match T e with
   |some bj=>
    let go:Nat×List (List D)->Option β:=λp=>aD (decide (p.1=bj.size\/p.2=[])&&decide (0<bj.size)) (match b8 G σ.aJ s with
     | .d a=>aD (mz a&&cJ p.2.length bj.bytes) (mC T σ o.dst k (.row (o.dst.getD 9999)) [(o.dst.getD 9999,.row bj.size p.2)])
     | .row key=>match σ.objs key with
      |some (.row bu es)=>if bu=bj.size/\key<10000 then aD (cJ (es.length+p.2.length) bj.bytes) (mC T σ o.dst k (.row (o.dst.getD 9999)) [(key,.dead),(o.dst.getD 9999,.row bu (es++p.2))])else none
      |_=>none
     |_=>none)
    match b8 G σ.aJ x with
    | .d a=>R (l3 a) go
    | .sub key bu i len=>match σ.objs key with
     |some (.row pg es)=>if bu=pg then aD (decide (i+len<=es.length)) (go (bu,(es.drop i).take len))else none
     |_=>none
    |y=>match lU σ.objs y with|some p=>go p|none=>none
   |none=>none
  |_,_,_=>none
 |_,_=>none
def P8(T:ca)(G:c9)(σ:aI)(o:Oper)(args:List Operand)(dq:List TypeId)(k:aI->Option β):Option β:=match dq,args with
 |[t,t'],[s,x]=>match T t with
  |some ⟨.slice e,_,_,_⟩=>match T e with
   |some bj=>
    let go:Nat×List (List D)->Option β:=λp=>aD (decide (p.1=bj.size\/p.2=[])) (match b8 G σ.aJ s with
     | .row key=>match σ.objs key with
      |some (.row bu es)=>if bu=bj.size then mC T σ o.dst k (.d (.val (.int .i64 (min p.2.length es.length:Nat)))) [(key,.row bu (p.2.take (min p.2.length es.length)++es.drop (min p.2.length es.length)))]else none
      |_=>none
     | .sub key bu i len=>match σ.objs key with
      |some (.row pg es)=>if bu=bj.size/\pg=bu then aD (decide (i+len<=es.length)) (mC T σ o.dst k (.d (.val (.int .i64 (min p.2.length len:Nat)))) [(key,.row bu (es.take i++p.2.take (min p.2.length len)++es.drop (i+min p.2.length len)))])else none
      |_=>none
     |_=>none)
    match b8 G σ.aJ x with
    | .d a=>R (l3 a) go
    | .sub key bu i len=>match σ.objs key with
     |some (.row pg es)=>if bu=pg then aD (decide (i+len<=es.length)) (go (bu,(es.drop i).take len))else none
     |_=>none
    |y=>match lU σ.objs y with|some p=>go p|none=>none
   |none=>none
  |_=>none
 |_,_=>none
def P9(T:ca)(G:c9)(σ:aI)(o:Oper)(args:List Operand)(dq:List TypeId)(k:aI->Option β):Option β:=match dq,args with
 |[t],[s]=>match T t with
  |some ⟨.slice e,_,_,_⟩=>match T e with
   |some bj=>match b8 G σ.aJ s with
    | .sub key bu i len=>match σ.objs key with
     |some (.row pg es)=>if bu=bj.size/\pg=bu/\bj.zero.cells.toList.all jP=true then aD (decide (i+len<=es.length)) (mC T σ o.dst k .any [(key,.row bu (es.take i++List.replicate len (bj.zero.cells.toList.map .val)++es.drop (i+len)))])else none
     |_=>none
    |_=>none
   |none=>none
  |_=>none
 |_,_=>none
def Qa(T:ca)(G:c9)(σ:aI)(o:Oper)(t:TypeId)(x i:Operand)(ok:Bool)(k:aI->Option β):Option β:=match T t with
 |some ⟨.map hU h9,_,_,_⟩=>match T hU,T h9 with
  |some hK,some bj=>if wc hK.desc then(match b8 G σ.aJ i with
   | .d eB=>match b8 G σ.aJ x with
    | .d m=>R (mB m) λes=>jC σ o.dst k (kl hK.desc bj.zero ok es eB)| .map key=>match σ.objs key with|some (.map es)=>jC σ o.dst k (kl hK.desc bj.zero ok es eB)|_=>none
    |_=>none
   |_=>none)else none
  |_,_=>none
 |_=>none
def KR(T:ca)(G:c9)(σ:aI)(o:Oper)(t:TypeId)(m i x:Operand)(k:aI->Option β):Option β:=match T t with
 |some ⟨.map hU _,_,_,_⟩=>match T hU with
  |some hK=>if wc hK.desc then(match b8 G σ.aJ m,b8 G σ.aJ i,b8 G σ.aJ x with
   | .map key,.d eB,.d v=>match σ.objs key with|some (.map es)=>R (ra hK.desc es eB v) λl=>mC T σ o.dst k .any [(key,.map l)]|_=>none
   |_,_,_=>none)else none
  |none=>none
 |_=>none
def Qb(T:ca)(G:c9)(σ:aI)(o:Oper)(t:TypeId)(a x:Operand)(k:aI->Option β):Option β:=match T t with
 |some i=>BU i.size (b8 G σ.aJ x) λcs=>if cs.length=i.size then(match b8 G σ.aJ a with
  | .ptr key off=>match σ.objs key with
   |some (.box cells)=>if off+cs.length<=cells.length then mC T σ o.dst k .any [(key,.box (nk cells off cs))]else none
   |_=>none
  | .fR key cN eT off=>match σ.objs key,k0 cs with
   |some (.row bu es),some ds=>if cN=bu/\off+ds.length<=cN then R es[eT]? λe=>mC T σ o.dst k .any [(key,.row cN (es.set eT (lV e off ds)))]else none
   |_,_=>none
  |_=>none)else none
 |none=>none
def Qc(T:ca)(G:c9)(σ:aI)(o:Oper)(t:TypeId)(parts:Array (Nat×Operand))(k:aI->Option β):Option β:=match O3 T t with|some (pl,z)=>KO pl (zeroCells z) (parts.toList.map λp=>(p.1,b8 G σ.aJ p.2)) λout=>k (σ.put o.dst (Bm out))|none=>none
def Qd(T:ca)(G:c9)(σ:aI)(o:Oper)(t:TypeId)(n:Nat)(parts:Array (Nat×Operand))(k:aI->Option β):Option β:=match T t,σ.objs (o.dst.getD 9999)with
 |some ⟨.slice e,_,_,_⟩,none=>match T e with
  |some bj=>KP bj.size 0 (parts.toList.map λp=>(p.1,b8 G σ.aJ p.2)) λes=>if es.length=n/\0<bj.size/\n*bj.size<=16777216 then mC T σ o.dst k (.row (o.dst.getD 9999)) [(o.dst.getD 9999,.row bj.size es)]else none
  |none=>none
 |_,_=>none
def Qe(T:ca)(G:c9)(σ:aI)(o:Oper)(t:TypeId)(l c:Operand)(k:aI->Option β):Option β:=match T t,σ.objs (o.dst.getD 9999)with
 |some ⟨.slice e,_,_,_⟩,none=>match T e with
  |some bj=>match b8 G σ.aJ l,b8 G σ.aJ c with
   | .d l,.d c=>if bj.zero.cells.toList.all jP then R (om bj.bytes l c) λn=>mC T σ o.dst k (.row (o.dst.getD 9999)) [(o.dst.getD 9999,.row bj.size (List.replicate n (bj.zero.cells.toList.map .val)))]else none
   |_,_=>none
  |none=>none
 |_,_=>none
def Qf(T:ca)(G:c9)(σ:aI)(o:Oper)(s t:TypeId)(x:Operand)(k:aI->Option β):Option β:=match T s,T t,b8 G σ.aJ x with
 |some _,some ⟨.int i,_,_,_⟩,.d a=>jC σ o.dst k (iz i a)
 |some ⟨.slice e,_,_,_⟩,some ⟨.string,_,_,_⟩,y=>match T e with
  |some ⟨.int .u8,_,_,_⟩=>match y with
   | .d a=>jC σ o.dst k (Xv a)| .row key=>match σ.objs key with|some (.row 1 es)=>jC σ o.dst k (uD es)|_=>oo T G σ o k
   | .sub key 1 i len=>match σ.objs key with|some (.row 1 es)=>aD (decide (i+len<=es.length)) (jC σ o.dst k (uD ((es.drop i).take len)))|_=>oo T G σ o k
   |_=>oo T G σ o k
  |_=>oo T G σ o k
 |some _,some ⟨.string,_,_,_⟩,.d a=>jC σ o.dst k (Xu a)|_,_,_=>oo T G σ o k
def KS(T:ca)(G:c9)(σ:aI)(o:Oper)(fw:Bool)(args:List Operand)(k:aI->Option β):Option β:=match k0 (args.map (b8 G σ.aJ))with|some ds=>jC σ o.dst k (iW fw ds)|none=>none
def gV:aS->aS->Option (D×D)
 | .d a,.d b=>some (a,b)|_,_=>none
theorem ajv{x y:aS}{p:D×D}(h:gV x y=some p):x= .d p.1/\y= .d p.2:=by unfold gV at h;split at h<;>cases h;exact⟨rfl,rfl⟩
def XC{T:ca}{ev:Operand->aS}{c a b:Operand}{t:Bool}(ai:ev c= .d (.val (.bool t)))(h:gV (ev a) (ev b)=none):dW T ev (.pick c a b)=some (if t then ev a else ev b):=by
 simp only[dW,ai];generalize ev a=x at*;generalize ev b=y at*;split;.cases h
 rfl
def uE(T:ca)(G:c9)(σ:aI)(o:Oper)(k:aI->Option β):Option β:=match o.op with
 | .binOp op t x y _=>P1 T G σ o op t x y k| .unOp op _ x=>match b8 G σ.aJ x with| .d a=>jC σ o.dst k (da op a)|_=>none
 | .convert s t x=>Qf T G σ o s t x k
 | .pick c a b=>match b8 G σ.aJ c with
  | .d c=>match gV (b8 G σ.aJ a) (b8 G σ.aJ b)with|some p=>jC σ o.dst k (b1 c p.1 p.2)|none=>aE c (k (σ.put o.dst (b8 G σ.aJ a))) (k (σ.put o.dst (b8 G σ.aJ b)))
  |_=>none
 | .field s x f=>P2 T G σ o s x f k| .extract x i=>match b8 G σ.aJ x with| .d a=>jC σ o.dst k (bf i a)|_=>oo T G σ o k
 | .index t x i=>match T t with
  |some ⟨.string,_,_,_⟩=>match b8 G σ.aJ x,b8 G σ.aJ i with| .d a,.d b=>jC σ o.dst k (q9 a b)|_,_=>none
  |some ⟨.array len e,_,_,_⟩=>match T e with
   |some bj=>match b8 G σ.aJ x,b8 G σ.aJ i with| .d a,.d b=>R (cV len b) λn=>jC σ o.dst k (l2 (ua bj.desc) bj.size (n*bj.size) a)|_,_=>none
   |none=>none
  |_=>none
 | .load t a=>P3 T G σ o t a k| .indexAddr t x eT=>P4 T G σ o t x eT k| .slice t x lo ag none=>P5 T G σ o t x lo ag k| .lookup t x i ok=>Qa T G σ o t x i ok k| .mapUpdate t m i x=>KR T G σ o t m i x k| .insert t m i x=>KR T G σ o t m i x k| .store t a x=>Qb T G σ o t a x k| .build t parts=>Qc T G σ o t parts k| .buildSlice t n parts=>Qd T G σ o t n parts k| .makeSlice t l c=>Qe T G σ o t l c k| .box t x=>match T t,σ.objs (o.dst.getD 9999)with|some i,none=>BU i.size (b8 G σ.aJ x) λcs=>mC T σ o.dst k (.ptr (o.dst.getD 9999) 0) [(o.dst.getD 9999,.box cs)]|_,_=>none
 | .call ⟨.builtin .len,args,dq⟩=>P6 T G σ o args.toList dq.toList k| .call ⟨.builtin .append,args,dq⟩=>P7 T G σ o args.toList dq.toList k| .call ⟨.builtin .copy,args,dq⟩=>P8 T G σ o args.toList dq.toList k| .call ⟨.builtin .clear,args,dq⟩=>P9 T G σ o args.toList dq.toList k| .call ⟨.builtin .max,args,_⟩=>KS T G σ o true args.toList k| .call ⟨.builtin .min,args,_⟩=>KS T G σ o false args.toList k|_=>oo T G σ o k
variable{T:ca}{G:c9}{σ:aI}{o:Oper}{k:aI->Option β}{b:β}
def qf(h:oo T G σ o k=some b):∃aT,gr T G σ o=some aT/\k aT=some b:=by
 unfold oo at h;split at h;.exact⟨_,by assumption,h⟩
 cases h
def mD{r:aS}(h:dW T (b8 G σ.aJ) o.op=some r)(ah:k (σ.put o.dst r)=some b):∃aT,gr T G σ o=some aT/\k aT=some b:=⟨_,by unfold gr;rw[h],ah⟩
def ly{r:aS}(aq:dW T (b8 G σ.aJ) o.op=none)(h:dn T (b8 G σ.aJ) σ.objs o.op=some r)(ah:k (σ.put o.dst r)=some b):∃aT,gr T G σ o=some aT/\k aT=some b:=⟨_,by unfold gr;rw[aq,h],ah⟩
def rb{r:aS}{cE:List (Key×cO)}(aq:dW T (b8 G σ.aJ) o.op=none)(ab:dn T (b8 G σ.aJ) σ.objs o.op=none)(h:dR T (b8 G σ.aJ) σ.objs (o.dst.getD 9999) o.op=some (r,cE)) (ah:mC T σ o.dst k r cE=some b):∃aT,gr T G σ o=some aT/\k aT=some b:=⟨_,by unfold gr;rw[aq,ab];unfold gK;rw[h];rfl,by unfold mC at ah;exact ah⟩
def ajw{op:BinOp}{t:TypeId}{x y:Operand}{x4:TypeId}(aR:o.op= .binOp op t x y x4)(h:P1 T G σ o op t x y k=some b):∃aT,gr T G σ o=some aT/\k aT=some b:=by
 unfold P1 at h;split at h
 .rename_i a c aH ai;split at h
  .rename_i av;obtain⟨v,ab,ad⟩:=ef h;have XD:∀{d},mz d=true->d= .val (.slice none 0 0):=by
    intro d az;unfold mz at az;split at az;.rfl
    cases az
   unfold XB at av;split at av
   case h_2=>cases av
   rename_i aN aV bS cT aF;have ak:c= .val (.slice none 0 0)->dW T (b8 G σ.aJ) o.op=none:=by intro dX;subst dX;rw[aR];simp only[dW,aH,ai,wa]
   unfold KL at ab;split at ab
   .split at ab
    case isFalse=>cases ab
    rename_i aC;have aC:=XD aC;subst aC;refine ly (r:= .d v) (ak rfl) ?_ ad;rw[aR];simp only[dn,aF,ai,we,xaz,aH,mn];split at ab<;>cases ab<;>simp
   .split at ab
    case isFalse=>cases ab
    rename_i aC;have aC:=XD aC;subst aC;refine ly (r:= .d v) (ak rfl) ?_ ad;rw[aR];simp only[dn,aF,ai,we,xaz,aH,mn];split at ab<;>cases ab<;>simp
   cases ab
  split at h;.rename_i l an;obtain⟨v,ab,ad⟩:=ef h;exact mD (by rw[aR];simp only[dW,aH,ai];exact aju an ab) ad
  obtain⟨v,ab,ad⟩:=ef h;exact mD (by rw[aR];simp only[dW,aH,ai];exact ajt ab) ad
 exact qf h
def KT{i:iu}{off:Nat}{cs:List D}{v:D}(h:a7 (ua i.desc) i.size off cs=some v):sw i cs off=some (.d v):=by
 unfold a7 at h;unfold sw;cases az:ua i.desc with
 |true=>
  simp only[az]at h;simp only[xaz];split at h;.rename_i ai;rw[xaa ai];cases h;rfl
  cases h
 |false=>simp only[az]at h;simp[h]
def ajx{s:TypeId}{x:Operand}{f:Nat}(aR:o.op= .field s x f)(h:P2 T G σ o s x f k=some b):∃aT,gr T G σ o=some aT/\k aT=some b:=by
 unfold P2 at h;split at h
 case h_2=>cases h
 rename_i off i ba;split at h
 .rename_i a aH;obtain⟨v,ab,ad⟩:=ef h;unfold l2 at ab;split at ab
  case h_2=>cases ab
  exact mD (by rw[aR];simp only[dW,ba,aH];exact KT ab) ad
 exact qf h
def ajy{t:TypeId}{a:Operand}(aR:o.op= .load t a)(h:P3 T G σ o t a k=some b):∃aT,gr T G σ o=some aT/\k aT=some b:=by
 unfold P3 at h;split at h
 case h_2=>cases h
 rename_i i ag;split at h;.rename_i cs off aH;obtain⟨v,ab,ad⟩:=ef h;exact ly (by rw[aR];rfl) (by rw[aR];simp only[dn,ag,aH];exact KT ab) ad
 .rename_i key cN eT off aH;split at h
  case h_2=>cases h
  rename_i bu es ah;split at h
  case isFalse=>cases h
  rename_i dd;obtain⟨e,ab,ad⟩:=ef h;obtain⟨v,ax,a8⟩:=ef ad;exact ly (by rw[aR];rfl) (by rw[aR];simp only[dn,ag,aH,ah,dd,xaz,ab];exact KT ax) a8
 exact qf h
def Qg{n m:Nat}{i:D}(h:cV n i=some m):∃KU j,i= .val (.int KU j)/\0<=j/\j<n/\m=j.toNat:=by
 unfold cV at h;split at h
 case h_2=>cases h
 split at h
 case isFalse=>cases h
 rename_i ai;cases h;exact⟨_,_,rfl,ai.1,ai.2,rfl⟩
def ajz{t:TypeId}{x eT:Operand}(aR:o.op= .indexAddr t x eT)(h:P4 T G σ o t x eT k=some b):∃aT,gr T G σ o=some aT/\k aT=some b:=by
 unfold P4 at h;split at h
 .rename_i e s1 s2 jZ aF;split at h
  case h_2=>cases h
  rename_i bj he;split at h
  case h_2=>cases h
  rename_i i ag;split at h
  .rename_i a aH;obtain⟨c,ab,ad⟩:=ef h;unfold bk at ab;split at ab
   case h_2=>cases ab
   split at ab
   case isFalse=>cases ab
   rename_i aC;split at ab
   case h_2=>cases ab
   split at ab
   case isFalse=>cases ab
   rename_i ah;exact ly (by rw[aR];rfl) (by rw[aR];simp only[dn,aF,ag,he,aH,aC,ah,xaz,ab]) ad
  .rename_i key aH;split at h
   case h_2=>cases h
   rename_i bu es ah;split at h
   case isFalse=>cases h
   rename_i dd;obtain⟨n,ab,ad⟩:=ef h;obtain⟨KU,j,rfl,g1,g2,rfl⟩:=Qg ab;exact ly (by rw[aR];rfl) (by rw[aR];simp only[dn,aF,ag,he,aH,g1,xaz,ah,dd,g2,and_self]) (dd▸ad)
  .rename_i key bu i0 len aH;split at h
   case isFalse=>cases h
   rename_i dd;obtain⟨n,ab,ad⟩:=ef h;obtain⟨KU,j,rfl,g1,g2,rfl⟩:=Qg ab;exact ly (by rw[aR];rfl) (by rw[aR];simp only[dn,aF,ag,he,aH,g1,xaz,dd,g2,and_self]) (dd▸ad)
  cases h
 .rename_i len e s1 s2 jZ aF;split at h
  case h_2=>cases h
  rename_i bj he;split at h
  case h_2=>cases h
  rename_i i ag;obtain⟨n,ab,ad⟩:=ef h;obtain⟨KU,j,rfl,g1,g2,rfl⟩:=Qg ab;split at ad
  case h_2=>cases ad
  rename_i r au;exact ly (by rw[aR];rfl) (by rw[aR];simp only[dn,aF,ag,he,g1,g2,and_self,xaz];exact au) ad
 cases h
def ajA{t:TypeId}{x:Operand}{lo ag:Option Operand}(aR:o.op= .slice t x lo ag none)(h:P5 T G σ o t x lo ag k=some b):∃aT,gr T G σ o=some aT/\k aT=some b:=by
 unfold P5 at h;split at h
 case h_2=>cases h
 rename_i l bU an wK;have an:=XA an;have wK:=XA wK;split at h
 .rename_i s1 s2 jZ aF;split at h
  case h_2=>cases h
  rename_i a aH;obtain⟨v,ab,ad⟩:=ef h;unfold Xw at ab;split at ab
  case h_2=>cases ab
  split at ab
  case h_2=>cases ab
  rename_i bG bw;split at ab
  case isFalse=>cases ab
  rename_i ai;cases ab;exact mD (by rw[aR];simp only[dW,aF,aH,an,wK,KM,bG,bw];rw[xaa ai]) ad
 .rename_i e s1 s2 jZ aF;split at h
  case h_2=>cases h
  rename_i bj he;split at h
  .rename_i a aH;obtain⟨v,ab,ad⟩:=ef h;unfold mA at ab;split at ab
   case h_2=>cases ab
   split at ab
   case h_2=>cases ab
   rename_i bG bw;split at ab
   case isFalse=>cases ab
   rename_i ai;cases ab;exact ly (by rw[aR];simp only[dW,aF]) (by rw[aR];simp only[dn,aF,he,aH,jQ,an,wK,KM,bG,bw];rw[xaa ⟨ai.1,ai.2.1⟩,xaa ai.2.2]) ad
  .rename_i key aH;split at h
   case h_2=>cases h
   rename_i bu es ah;split at h
   case isFalse=>cases h
   rename_i dd;obtain⟨p,ab,ad⟩:=ef h;unfold pf at ab;split at ab
   case h_2=>cases ab
   rename_i bG bw;split at ab
   case isFalse=>cases ab
   rename_i ai;cases ab;exact ly (by rw[aR];simp only[dW,aF]) (by rw[aR];simp only[dn,aF,he,aH,jQ,ah,an,wK,KM,bG,bw];rw[xaa ai,xaa dd]) ad
  .rename_i key bu i0 len aH;split at h
   case isFalse=>cases h
   rename_i dd;obtain⟨p,ab,ad⟩:=ef h;unfold pf at ab;split at ab
   case h_2=>cases ab
   rename_i bG bw;split at ab
   case isFalse=>cases ab
   rename_i ai;cases ab;exact ly (by rw[aR];simp only[dW,aF]) (by rw[aR];simp only[dn,aF,he,aH,jQ,an,wK,KM,bG,bw];rw[xaa ai,xaa dd]) ad
  cases h
 exact qf h
def ajB{args:Array Operand}{dq:Array TypeId}(aR:o.op= .call ⟨.builtin .len,args,dq⟩)(h:P6 T G σ o args.toList dq.toList k=some b):∃aT,gr T G σ o=some aT/\k aT=some b:=by
 unfold P6 at h;split at h
 case h_2=>cases h
 rename_i t x aN aV;have aU:dW T (b8 G σ.aJ) o.op=none:=by rw[aR];rfl
 split at h
 .rename_i a aH;split at h;.rename_i s1 s2 jZ aF;obtain⟨v,ab,ad⟩:=ef h;unfold m3 at ab;split at ab<;>cases ab;exact ly aU (by rw[aR];simp only[dn,aN,aV,aF,aH]) ad
  .rename_i e s1 s2 jZ aF;obtain⟨v,ab,ad⟩:=ef h;unfold bF at ab;split at ab<;>cases ab;.exact ly aU (by rw[aR];simp only[dn,aN,aV,aF,aH,jQ]) ad
   exact ly aU (by rw[aR];simp only[dn,aN,aV,aF,aH,jQ]) ad
  .rename_i bG bw s1 s2 jZ aF;obtain⟨v,ab,ad⟩:=ef h;unfold Xx at ab;split at ab<;>cases ab;.exact ly aU (by rw[aR];simp only[dn,aN,aV,aF,aH]) ad
   exact ly aU (by rw[aR];simp only[dn,aN,aV,aF,aH]) ad
  cases h
 exact qf h
theorem XE{a:D}{p:Nat×List (List D)}(h:l3 a=some p)(objs:cB):lU objs (.d a)=some p:=by unfold l3 at h;split at h<;>cases h<;>rfl
def ajC{args:Array Operand}{dq:Array TypeId}(aR:o.op= .call ⟨.builtin .append,args,dq⟩)(h:P7 T G σ o args.toList dq.toList k=some b):∃aT,gr T G σ o=some aT/\k aT=some b:=by
 unfold P7 at h;split at h
 case h_2=>cases h
 rename_i t t' s x aN aV;split at h
 case h_2=>cases h
 rename_i e s1 s2 jZ c1 az1 az2 az3 aF ug az;split at h
 case h_2=>cases h
 rename_i bj he;have aU:dW T (b8 G σ.aJ) o.op=none:=by rw[aR];rfl
 have hm:dn T (b8 G σ.aJ) σ.objs o.op=none:=by rw[aR];rfl
 have key:∀p:Nat×List (List D),lU σ.objs (b8 G σ.aJ x)=some p->aD (decide (p.1=bj.size\/p.2=[])&&decide (0<bj.size)) (match b8 G σ.aJ s with
     | .d a=>aD (mz a&&cJ p.2.length bj.bytes) (mC T σ o.dst k (.row (o.dst.getD 9999)) [(o.dst.getD 9999,.row bj.size p.2)])
     | .row key=>match σ.objs key with
      |some (.row bu es)=>if bu=bj.size/\key<10000 then aD (cJ (es.length+p.2.length) bj.bytes) (mC T σ o.dst k (.row (o.dst.getD 9999)) [(key,.dead),(o.dst.getD 9999,.row bu (es++p.2))])else none
      |_=>none
     |_=>none)=some b->∃aT,gr T G σ o=some aT/\k aT=some b:=by
  rintro⟨cN,xs⟩ eN h;obtain⟨aq,h⟩:=lx h;simp only[xao,xaG]at aq;split at h
  .rename_i a aH;obtain⟨ab,h⟩:=lx h;simp only[xao,cJ,xaG]at ab;have aC:a= .val (.slice none 0 0):=by
    have:=ab.1;unfold mz at this;split at this;.rfl
    cases this
   have ad:=ab.2;clear ab;refine rb aU hm ?_ h;rw[aR];simp only[dR,aN,aV,aF,ug,az,he,eN,aH,aC];rw[xaa aq,xaa ad]
  .rename_i key aH;split at h
   case h_2=>cases h
   rename_i bu es ah;split at h
   case isFalse=>cases h
   rename_i dd;obtain⟨ab,h⟩:=lx h;simp only[xao,cJ,xaG]at ab;refine rb aU hm ?_ h;rw[aR];simp only[dR,aN,aV,aF,ug,az,he,eN,aH,ah];rw[xaa aq,xaa ⟨dd.1,ab.1,ab.2,dd.2⟩]
  .cases h
 simp only at h;split at h;.rename_i a aH;obtain⟨p,ab,ad⟩:=ef h;exact key p (by rw[aH];exact XE ab _) ad
 .rename_i ajD bu i len aH;split at h
  case h_2=>cases h
  rename_i pg es ah;split at h
  case isFalse=>cases h
  rename_i dd;obtain⟨ab,ad⟩:=lx h;have eN:lU σ.objs (b8 G σ.aJ x)=some (bu,(es.drop i).take len):=by rw[aH];simp only[lU,ah];rw[xaa ⟨dd,xaX ab⟩]
  exact key (bu,(es.drop i).take len) eN ad
 split at h
 case h_2=>cases h
 rename_i p aU;exact key p aU h
def ajE{args:Array Operand}{dq:Array TypeId}(aR:o.op= .call ⟨.builtin .clear,args,dq⟩)(h:P9 T G σ o args.toList dq.toList k=some b):∃aT,gr T G σ o=some aT/\k aT=some b:=by
 unfold P9 at h;split at h
 case h_2=>cases h
 rename_i t s aN aV;split at h
 case h_2=>cases h
 rename_i e s1 s2 jZ aF;split at h
 case h_2=>cases h
 rename_i bj he;have aU:dW T (b8 G σ.aJ) o.op=none:=by rw[aR];rfl
 have hm:dn T (b8 G σ.aJ) σ.objs o.op=none:=by rw[aR];rfl
 split at h
 case h_2=>cases h
 rename_i key bu i len aH;split at h
 case h_2=>cases h
 rename_i pg es ah;split at h
 case isFalse=>cases h
 rename_i dd;obtain⟨aq,h⟩:=lx h;simp only[xaG]at aq;refine rb aU hm ?_ h;rw[aR];simp only[dR,aN,aV,aF,he,aH,ah];rw[xaa ⟨dd.1,dd.2.1,aq,dd.2.2⟩]
def ajF{args:Array Operand}{dq:Array TypeId}(aR:o.op= .call ⟨.builtin .copy,args,dq⟩)(h:P8 T G σ o args.toList dq.toList k=some b):∃aT,gr T G σ o=some aT/\k aT=some b:=by
 unfold P8 at h;split at h
 case h_2=>cases h
 rename_i t t' s x aN aV;split at h
 case h_2=>cases h
 rename_i e s1 s2 jZ aF;split at h
 case h_2=>cases h
 rename_i bj he;have aU:dW T (b8 G σ.aJ) o.op=none:=by rw[aR];rfl
 have hm:dn T (b8 G σ.aJ) σ.objs o.op=none:=by rw[aR];rfl
 have key:∀p:Nat×List (List D),lU σ.objs (b8 G σ.aJ x)=some p->aD (decide (p.1=bj.size\/p.2=[])) (match b8 G σ.aJ s with
     | .row key=>match σ.objs key with
      |some (.row bu es)=>if bu=bj.size then mC T σ o.dst k (.d (.val (.int .i64 (min p.2.length es.length:Nat)))) [(key,.row bu (p.2.take (min p.2.length es.length)++es.drop (min p.2.length es.length)))]else none
      |_=>none
     | .sub key bu i len=>match σ.objs key with
      |some (.row pg es)=>if bu=bj.size/\pg=bu then aD (decide (i+len<=es.length)) (mC T σ o.dst k (.d (.val (.int .i64 (min p.2.length len:Nat)))) [(key,.row bu (es.take i++p.2.take (min p.2.length len)++es.drop (i+min p.2.length len)))])else none
      |_=>none
     |_=>none)=some b->∃aT,gr T G σ o=some aT/\k aT=some b:=by
  rintro⟨cN,xs⟩ eN h;obtain⟨aq,h⟩:=lx h;simp only[xaG]at aq;split at h
  .rename_i key aH;split at h
   case h_2=>cases h
   rename_i bu es ah;split at h
   case isFalse=>cases h
   rename_i dd;refine rb aU hm ?_ h;rw[aR];simp only[dR,aN,aV,aF,he,eN,aH,ah];rw[xaa aq,xaa dd]
  .rename_i key bu i len aH;split at h
   case h_2=>cases h
   rename_i pg es ah;split at h
   case isFalse=>cases h
   rename_i dd;obtain⟨ab,h⟩:=lx h;simp only[xaG]at ab;refine rb aU hm ?_ h;rw[aR];simp only[dR,aN,aV,aF,he,eN,aH,ah];rw[xaa aq,xaa ⟨dd.1,dd.2,ab⟩]
  .cases h
 simp only at h;split at h;.rename_i a aH;obtain⟨p,ab,ad⟩:=ef h;exact key p (by rw[aH];exact XE ab _) ad
 .rename_i ajD bu i len aH;split at h
  case h_2=>cases h
  rename_i pg es ah;split at h
  case isFalse=>cases h
  rename_i dd;obtain⟨ab,ad⟩:=lx h;have eN:lU σ.objs (b8 G σ.aJ x)=some (bu,(es.drop i).take len):=by rw[aH];simp only[lU,ah];rw[xaa ⟨dd,xaX ab⟩]
  exact key (bu,(es.drop i).take len) eN ad
 split at h
 case h_2=>cases h
 rename_i p aU;exact key p aU h
def XF{hK bj:iu}{t hU h9:TypeId}{s1 s2:Nat}{jZ:Value}(aF:T t=some ⟨.map hU h9,s1,s2,jZ⟩)(ab:T hU=some hK)(ad:T h9=some bj)(ah:wc hK.desc=true){ok:Bool}{es:List (Value×D)}{eB v:D} (h:kl hK.desc bj.zero ok es eB=some v):∃u,eB= .val u/\x7 T t es u ok=some (.d v):=by
 unfold kl at h;split at h
 case h_2=>cases h
 rename_i u;refine⟨u,rfl,?_⟩;unfold x7;simp only[aF,ab,ad,ah,xaz];split at h;.rename_i x ae;cases h;simp only[ae]
 .rename_i ae;cases h;simp only[ae]
 cases h
def ajG{t:TypeId}{x i:Operand}{ok:Bool}(aR:o.op= .lookup t x i ok)(h:Qa T G σ o t x i ok k=some b):∃aT,gr T G σ o=some aT/\k aT=some b:=by
 unfold Qa at h;split at h
 case h_2=>cases h
 rename_i hU h9 s1 s2 jZ aF;split at h
 case h_2=>cases h
 rename_i hK bj ab ad;split at h
 case isFalse=>cases h
 rename_i ah;split at h
 case h_2=>cases h
 rename_i eB EB;split at h;.rename_i m hm;obtain⟨es,g1,g2⟩:=ef h;obtain⟨v,g3,g4⟩:=ef g2;obtain⟨u,rfl,g5⟩:=XF aF ab ad ah g3;refine ly (by rw[aR];rfl) ?_ g4;rw[aR];simp only[dn,EB,hm];unfold mB at g1;split at g1<;>cases g1<;>exact g5
 .rename_i key hm;split at h
  case h_2=>cases h
  rename_i es l4;obtain⟨v,g3,g4⟩:=ef h;obtain⟨u,rfl,g5⟩:=XF aF ab ad ah g3;refine ly (by rw[aR];rfl) ?_ g4;rw[aR];simp only[dn,EB,hm,l4,g5]
 cases h
def XG{t:TypeId}{m i x:Operand}(aR:o.op= .mapUpdate t m i x\/o.op= .insert t m i x)(h:KR T G σ o t m i x k=some b):∃aT,gr T G σ o=some aT/\k aT=some b:=by
 unfold KR at h;split at h
 case h_2=>cases h
 rename_i hU h9 s1 s2 jZ aF;split at h
 case h_2=>cases h
 rename_i hK ab;split at h
 case isFalse=>cases h
 rename_i ah;split at h
 case h_2=>cases h
 rename_i key eB v aN aV bS;split at h
 case h_2=>cases h
 rename_i es l4;obtain⟨l,g1,g2⟩:=ef h;unfold ra at g1;split at g1
 case h_2=>cases g1
 rcases aR with aR|aR<;>
 .refine rb (by rw[aR];rfl) (by rw[aR];rfl) ?_ g2;rw[aR];simp only[dR,aF,ab,ah,xaz,aN,aV,bS,l4,g1]
def ajH{t:TypeId}{a x:Operand}(aR:o.op= .store t a x)(h:Qb T G σ o t a x k=some b):∃aT,gr T G σ o=some aT/\k aT=some b:=by
 unfold Qb at h;split at h
 case h_2=>cases h
 rename_i i ag;obtain⟨cs,ab,ad⟩:=KN h;split at ad
 case isFalse=>cases ad
 rename_i an;split at ad
 .rename_i key off aH;split at ad
  case h_2=>cases ad
  rename_i cells ah;split at ad
  case isFalse=>cases ad
  rename_i ai;refine rb (by rw[aR];rfl) (by rw[aR];rfl) ?_ ad;rw[aR];simp only[dR,ag,ab,aH,ah];rw[xaa an,xaa ai]
 .rename_i key cN eT off aH;split at ad
  case h_2=>cases ad
  rename_i bu es ds ah eh;split at ad
  case isFalse=>cases ad
  rename_i ai;obtain⟨e,g1,g2⟩:=ef ad;refine rb (by rw[aR];rfl) (by rw[aR];rfl) ?_ g2;rw[aR];simp only[dR,ag,ab,aH,ah,eh,g1];rw[xaa an,xaa ai]
 cases ad
def ajI{t:TypeId}{parts:Array (Nat×Operand)}(aR:o.op= .build t parts)(h:Qc T G σ o t parts k=some b):∃aT,gr T G σ o=some aT/\k aT=some b:=by
 unfold Qc at h;split at h
 case h_2=>cases h
 rename_i pl z ak;obtain⟨cs,ab,ad⟩:=Xy h;exact mD (by rw[aR];simp only[dW,JQ,ak,ab]) ad
def ajJ{t:TypeId}{n:Nat}{parts:Array (Nat×Operand)}(aR:o.op= .buildSlice t n parts)(h:Qd T G σ o t n parts k=some b):∃aT,gr T G σ o=some aT/\k aT=some b:=by
 unfold Qd at h;split at h
 case h_2=>cases h
 rename_i e s1 s2 jZ aF az;split at h
 case h_2=>cases h
 rename_i bj he;obtain⟨es,ab,ad⟩:=Xz h;split at ad
 case isFalse=>cases ad
 rename_i ai;refine rb (by rw[aR];rfl) (by rw[aR];rfl) ?_ ad;rw[aR];simp only[dR,aF,az,he,ab];rw[xaa ai]
def ajK{t:TypeId}{l c:Operand}(aR:o.op= .makeSlice t l c)(h:Qe T G σ o t l c k=some b):∃aT,gr T G σ o=some aT/\k aT=some b:=by
 unfold Qe at h;split at h
 case h_2=>cases h
 rename_i e s1 s2 jZ aF az;split at h
 case h_2=>cases h
 rename_i bj he;split at h
 case h_2=>cases h
 rename_i nj iv an ai;split at h
 case isFalse=>cases h
 rename_i bm;obtain⟨n,ab,ad⟩:=ef h;unfold om at ab;split at ab
 case h_2=>cases ab
 split at ab
 case isFalse=>cases ab
 rename_i kA;cases ab;refine rb (by rw[aR];rfl) (by rw[aR];rfl) ?_ ad;rw[aR];simp only[dR,aF,az,he,an,ai];rw[xaa ⟨kA.1,kA.2.1,kA.2.2.1,kA.2.2.2,bm⟩]
def ajL{s t:TypeId}{x:Operand}(aR:o.op= .convert s t x)(h:Qf T G σ o s t x k=some b):∃aT,gr T G σ o=some aT/\k aT=some b:=by
 unfold Qf at h;split at h;.rename_i q i s1 s2 jZ a av aF ae;obtain⟨v,ab,ad⟩:=ef h;unfold iz at ab;split at ab<;>cases ab;exact mD (by rw[aR];simp only[dW,av,aF,ae]) ad
 .rename_i e _ _ _ _ _ _ y av aF;split at h
  case h_2=>exact qf h
  rename_i he;have fin:∀{es:List (List D)},p2 σ.objs (b8 G σ.aJ x)=some es->dW T (b8 G σ.aJ) (.convert s t x)=none->∀{v:D},uD es=some v->k (σ.put o.dst (.d v))=some b->∃aT,gr T G σ o=some aT/\k aT=some b:=by
   intro es ab aq v aK ah;unfold uD at aK;split at aK
   case h_2=>cases aK
   rename_i fx ak;cases aK;exact ly (by rw[aR];exact aq) (by rw[aR];simp only[dn,av,aF,he,ab,ak]) ah
  split at h
  .rename_i a ae;obtain⟨v,ab,ad⟩:=ef h;unfold Xv at ab;split at ab;.exact fin (by rw[ae];rfl) (by simp only[dW,av,aF,ae]) ab ad
   .exact fin (by rw[ae];rfl) (by simp only[dW,av,aF,ae]) ab ad
   cases ab
  .rename_i key ae;split at h
   case h_2=>exact qf h
   rename_i es ah;obtain⟨v,ab,ad⟩:=ef h;exact fin (by rw[ae];simp only[p2,ah]) (by simp only[dW,av,aF,ae]) ab ad
  .rename_i key i len ae;split at h
   case h_2=>exact qf h
   rename_i es ah;obtain⟨ai,h⟩:=lx h;obtain⟨v,ab,ad⟩:=ef h;exact fin (by rw[ae];simp only[p2,ah];rw[xaa (xaX ai)]) (by simp only[dW,av,aF,ae]) ab ad
  exact qf h
 .rename_i q s1 s2 jZ a av aF ae;obtain⟨v,ab,ad⟩:=ef h;unfold Xu at ab;split at ab<;>cases ab;exact mD (by rw[aR];simp only[dW,av,aF,ae]) ad
 exact qf h
def BV(h:uE T G σ o k=some b):∃aT,gr T G σ o=some aT/\k aT=some b:=by
 unfold uE at h;split at h;.exact ajw (by assumption) h
 .rename_i aR;split at h
  .rename_i a aH;obtain⟨v,ab,ad⟩:=ef h;unfold da at ab;split at ab<;>cases ab;.exact mD (by rw[aR];simp only[dW,aH]) ad
   exact mD (by rw[aR];simp only[dW,aH]) ad
  cases h
 .exact ajL (by assumption) h
 .rename_i c x y aR;split at h
  case h_2=>cases h
  rename_i iv ai;split at h
  .rename_i p aU;obtain⟨aH,ak⟩:=ajv aU;obtain⟨v,ab,ad⟩:=ef h;unfold b1 at ab;split at ab<;>cases ab;rename_i t;refine mD ?_ ad;rw[aR];simp only[dW,ai,aH,ak];split;.rename_i aN aV;simp only[aS.d.injEq]at aN aV;rw[aN,aV];cases t<;>rfl
   cases t<;>rfl
  rename_i aU;rcases Xt h with⟨rfl,ab⟩|⟨rfl,ab⟩
  .exact mD (by rw[aR];exact XC ai aU) ab
  exact mD (by rw[aR];exact XC ai aU) ab
 .exact ajx (by assumption) h
 .rename_i x i aR;split at h
  .rename_i a aH;obtain⟨v,ab,ad⟩:=ef h;unfold bf at ab;split at ab
   case h_2=>cases ab
   exact mD (by rw[aR];simp only[dW,aH,ab]) ad
  exact qf h
 .rename_i t x i aR;split at h
  .rename_i s1 s2 jZ aF;split at h
   case h_2=>cases h
   rename_i a c aH ai;obtain⟨v,ab,ad⟩:=ef h;unfold q9 at ab;split at ab
   case h_2=>cases ab
   exact mD (by rw[aR];simp only[dW,aF,aH,ai];exact yz ab) ad
  .rename_i len e s1 s2 jZ aF;split at h
   case h_2=>cases h
   rename_i bj iw;split at h
   case h_2=>cases h
   rename_i a c aH ai;obtain⟨n,g1,h⟩:=ef h;obtain⟨v,ab,ad⟩:=ef h;unfold cV at g1;split at g1
   case h_2=>cases g1
   split at g1
   case isFalse=>cases g1
   rename_i aC;cases g1;unfold l2 at ab;split at ab
   case h_2=>cases ab
   exact mD (by rw[aR];simp only[dW,aF,aH,ai];rw[xaa aC];simp only[iw];exact KT ab) ad
  cases h
 .exact ajy (by assumption) h
 .exact ajz (by assumption) h
 .exact ajA (by assumption) h
 .exact ajG (by assumption) h
 .rename_i aR;exact XG (.inl aR) h
 .rename_i aR;exact XG (.inr aR) h
 .exact ajH (by assumption) h
 .exact ajI (by assumption) h
 .exact ajJ (by assumption) h
 .exact ajK (by assumption) h
 .rename_i t x aR;split at h
  case h_2=>cases h
  rename_i i ag az;obtain⟨cs,ab,ad⟩:=KN h;exact rb (by rw[aR];rfl) (by rw[aR];rfl) (by rw[aR];simp only[dR,ab,az]) ad
 .exact ajB (by assumption) h
 .exact ajC (by assumption) h
 .exact ajF (by assumption) h
 .exact ajE (by assumption) h
 .rename_i args dq aR;unfold KS at h;split at h
  case h_2=>cases h
  rename_i ds eh;obtain⟨v,ab,ad⟩:=ef h;exact mD (by rw[aR];simp only[dW,Bl eh];exact yz ab) ad
 .rename_i args dq aR;unfold KS at h;split at h
  case h_2=>cases h
  rename_i ds eh;obtain⟨v,ab,ad⟩:=ef h;exact mD (by rw[aR];simp only[dW,Bl eh];exact yz ab) ad
 exact qf h
end
section
variable{β:Type}
abbrev lz:=Tmp->FuncId->List D->Option D
def Fe(G:c9)(C:lz)(σ:aI)(o:Oper)(x:Operand)(args:List Operand)(k:aI->Option β):Option β:=match wv (b8 G σ.aJ x)with
 |some (f,pre,post)=>match hb ((pre++args.map (b8 G σ.aJ)++post).map (toD σ.objs))with|some ds=>R (C (o.dst.getD 9999) f ds) λr=>aD ((pre++args.map (b8 G σ.aJ)++post).all sM||r.flat) (k (σ.put o.dst (.d r)))|none=>none
 |none=>none
def XH:D->Option (FuncId×List D)
 | .fn (.func f) [] oq=>some (f,oq)| .val (.func (.func f) a b)=>if a.size=0/\b.size=0 then some (f,[])else none
 |_=>none
def KV(f:FuncId)(ds:List D):List (FuncId×(List D->Option D))->Option D
 |[]=>none|(g,F)::r=>if f=g then F ds else KV f ds r
def Ff(l:List (FuncId×(List D->Option D)))(v:D)(ds:List D):Option D:=R (XH v) λp=>KV p.1 (ds++p.2) l
def XI(t:Tmp):List (Nat×List FuncId)->List FuncId
 |[]=>[]|(d,l)::r=>if t=d then l else XI t r
def Qh(l:List FuncId)(G:c9)(C:lz)(σ:aI)(o:Oper)(x:Operand)(args:List Operand)(k:aI->Option β):Option β:=match b8 G σ.aJ x,hb ((args.map (b8 G σ.aJ)).map (toD σ.objs))with| .d v,some ds=>R (Ff (l.map λg=>(g,C (o.dst.getD 9999) g)) v ds) λr=>aD ((args.map (b8 G σ.aJ)).all sM||r.flat) (k (σ.put o.dst (.d r)))|_,_=>none
def yA(T:ca)(G:c9)(C:lz)(σ:aI)(o:Oper)(x:Operand)(args:List Operand)(k:aI->Option β):Option β:=match XI (o.dst.getD 9999) T.dyn with|[]=>Fe G C σ o x args k|g::l=>Qh (g::l) G C σ o x args k
def sS(T:ca)(G:c9)(C:lz)(σ:aI)(o:Oper)(k:aI->Option β):Option β:=match o.op with| .call ⟨.value x,args,_⟩=>yA T G C σ o x args.toList k|_=>uE T G σ o k
def sT(T:ca)(G:c9)(C:lz):List Oper->aI->(aI->Option β)->Option β
 |[],σ,k=>k σ|o::r,σ,k=>sS T G C σ o λaT=>sT T G C r aT k
def wL:List Oper->List (Option (Nat×Bool)×List Oper)
 |[]=>[]
 |o::r=>match wL r with
  |(g,os)::rest=>if g=o.guard then(g,o::os)::rest else(o.guard,[o])::(g,os)::rest
  |[]=>[(o.guard,[o])]
def bN(x:D)(want:Bool)(p:Option D):Option D:=match x with
 | .val (.bool b)=>if b=want then p else some jY
 | .val (.tuple _)=>some jY|_=>none
def yB{ei:Type}(x:D)(want:Bool)(p q:Option ei):Option ei:=match x with
 | .val (.bool b)=>if b=want then p else q
 | .val (.tuple _)=>q|_=>none
def Qi:List Oper->aI->aI
 |[],σ=>σ|o::r,σ=>Qi r (σ.put o.dst (.d jY))
def wM:List Oper->Option Tmp
 |[]=>none|[o]=>o.dst|_::r=>wM r
def dstsOf(os:List Oper):List Tmp:=os.filterMap (·.dst)
def still(o:Oper):Bool:=iy o.op||iR o.op||hf o.op
def wN(ts:List Tmp)(v:D)(σ:aI):aI:=⟨λt=>if t∈ts then .d (aa v (ts.idxOf t))else σ.aJ t,σ.objs⟩
def Fg(σ:aI):List Tmp->Option (List D)
 |[]=>some []|t::r=>match σ.aJ t,Fg σ r with| .d v,some l=>some (v::l)|_,_=>none
def kept(all:Array Oper)(os l:List Oper):List Tmp:=(dstsOf os).filter λt=>l.any λo=>(o.looksAt all).contains t
def XJ{σ:aI}:∀{ts:List Tmp}{l:List D},Fg σ ts=some l->l.length=ts.length/\∀(i:Nat)(t:Tmp),ts[i]?=some t->∃v,l[i]?=some v/\σ.aJ t= .d v
 |[],l,h=>by cases h;exact⟨rfl,λi t h=>by simp at h⟩
 |t::r,l,h=>by
  unfold Fg at h;split at h
  case h_2=>cases h
  rename_i v nj aK an;cases h;have ih:=XJ an;refine⟨by simp[ih.1],λi u hu=>?_⟩;cases i with|zero=>simp at hu;subst hu;exact⟨v,rfl,aK⟩|succ i=>exact ih.2 i u (by simpa using hu)
def ajM{σ:aI}{ts:List Tmp}{l:List D}(h:Fg σ ts=some l){t:Tmp}(aF:t∈ts):σ.aJ t= .d (aa (.agg l) (ts.idxOf t)):=by
 have ab:ts[ts.idxOf t]?=some t:=by have:=List.idxOf_lt_length_of_mem aF;rw[xad this,List.getElem_idxOf]
 obtain⟨v,ad,ax⟩:=(XJ h).2 _ t ab;rw[ax]
 congr 1
 show v=l.getD _ _;simp[List.getD,ad]
def lA(ds:List Tmp)(σ:aI):aI:=⟨λt=>if t∈ds then .any else σ.aJ t,σ.objs⟩
def blind(all:Array Oper)(ds:List Tmp)(l:List Oper):Bool:=l.all λo=>ds.all λd=>!(o.looksAt all).contains d&&o.dst !=some d
def XK(all:Array Oper)(d cq:Tmp)(os l:List Oper):Bool:=os.all (λo=>still o&&o.dst !=some d)&&blind all ((dstsOf os).filter (·!=cq)) l
def flat(gs:List (Option (Nat×Bool)×List Oper)):List Oper:=gs.flatMap (·.2)
def yC(T:ca)(G:c9)(C:lz)(all:Array Oper):List (Option (Nat×Bool)×List Oper)->aI->(aI->Option β)->Option β
 |[],σ,k=>k σ|(none,os)::r,σ,k=>sT T G C os σ λaT=>yC T G C all r aT k
 |(some (j,want),os)::r,σ,k=>match(all[j]?).bind (·.dst),wM os with
  |some d,some cq=>match σ.aJ d with
   | .d x=>if XK all d cq os (flat r)=true then
     R (bN x want (sT T G C os σ λaT=>match aT.aJ cq with| .d v=>some v|_=>none)) λv=>yC T G C all r ((lA (dstsOf os) σ).put (some cq) (.d v)) k
    else if os.all (λo=>o.dst !=some d)=true then yB x want (sT T G C os σ λaT=>yC T G C all r aT k) (yC T G C all r (Qi os σ) k)else none
   |_=>none
  |_,_=>none
def XL(T:ca)(G:c9)(C:lz)(all:Array Oper)(σ:aI)(k:aI->Option β):Option β:=yC T G C all (wL all.toList) σ k
def XM:Op->Bool
 | .store _ _ _=>true|_=>false
def Qj(all:Array Oper)(listed:Array Bool)(i:Nat):Bool:=match all[i]? with|none=>false|some eO=>((waits all i).all λj=>!listed.getD j true&&match all[j]? with|some cZ=>cZ.after.any λe=>Region.binds .any e&&(e.on==i||(waits all i).contains e.on)|none=>false)&&(List.range all.size).all λj=>j==i||listed.getD j true||(waits all i).contains j||match all[j]? with|some cZ=>eO.apart all cZ&&!XM cZ.op|none=>true
def XN(all:Array Oper)(listed:Array Bool)(i:Nat)(σ:aI)(o:Oper):Bool:=match o.op with
 | .load _ (.tmp a)=>match σ.aJ a with| .ptr _ _=>Qj all listed i|_=>false
 |_=>false
def yD(all:Array Oper)(listed:Array Bool)(i:Nat):List Oper:=(List.range all.size).filterMap λj=>if j==i||listed.getD j true||(waits all i).contains j then none else all[j]?
def Qk(all:Array Oper)(listed:Array Bool)(i:Nat)(aJ:Nat->aS)(o:Oper):Bool:=((waits all i).all λj=>!listed.getD j true&&match all[j]? with|some cZ=>cZ.after.any λe=>Region.binds .any e&&(e.on==i||(waits all i).contains e.on)|none=>false)&&(yD all listed i).all λy=>o.apart all y&&sQ aJ o y&&(mx o.op++(yD all listed i).flatMap λy=>uB y.op).all λt=>y.dst !=some t
def BW(T:ca)(G:c9)(C:lz)(all:Array Oper):List Nat->Array Bool->aI->(aI->Option β)->Option β
 |[],listed,σ,k=>if(Region.ready .any all listed).isEmpty=true then k σ else none
 |i::r,listed,σ,k=>match all[i]? with
  |some o=>if o.guard=none/\(Region.ready .any all listed).contains i=true/\(aid all listed i||XN all listed i σ o||Qk all listed i σ.aJ o||WY T all listed i)=true then sS T G C σ o λaT=>BW T G C all r (listed.setIfInBounds i true) aT k else none
  |none=>none
def gM(P:Program)(G:c9)(C:lz):Prop:=∀d f ds r,C d f ds=some r->eD P G f ds (·=r)
def wO:∀l:List Oper,flat (wL l)=l
 |[]=>rfl
 |o::r=>by
  have ih:=wO r;unfold wL;split;.rename_i g os rest bB;rw[bB]at ih;split<;>simp_all [flat]
  rename_i bB;rw[bB]at ih;simp[flat]at ih;subst ih;rfl
def KW:∀(l:List Oper)(g:Option (Nat×Bool)) (os:List Oper),(g,os)∈wL l->∀o∈os,o.guard=g
 |[],g,os,h=>by cases h
 |o::r,g,os,h=>by
  have ih:=KW r;unfold wL at h;split at h
  .rename_i qY ajN rest bB;split at h
   .rename_i he;rcases xas.1 h with ab|ab
    .cases ab;intro q bP;rcases xas.1 bP with rfl|bP
     .exact he.symm
     exact ih g ajN (by rw[bB];simp) q bP
    exact ih g os (by rw[bB];simp[ab])
   rcases xas.1 h with ab|ab;.cases ab;intro q bP;simp at bP;subst bP;rfl
   exact ih g os (by rw[bB];exact ab)
  simp at h;obtain⟨rfl,rfl⟩:=h;intro q bP;simp at bP;subst bP;rfl
variable{P:Program}{T:ca}{G:c9}{C:lz}{σ:aI}{all:Array Oper}
def XO{α:Type}:∀{a b:List (Option α)} {x y:List α},hb a=some x->hb b=some y->hb (a++b)=some (x++y)
 |[],b,x,y,h,bs=>by cases h;exact bs
 |none::a,b,x,y,h,bs=>by cases h
 |some c::a,b,x,y,h,bs=>by
  simp only[hb,xbv]at h⊢;split at h
  case h_2=>cases h
  rename_i z ab;cases h;rw[XO ab bs];rfl
def XP{objs:cB}:∀(l:List D),hb ((l.map aS.d).map (toD objs))=some l
 |[]=>rfl|c::r=>by have:=XP (objs:=objs) r;have e:toD objs (aS.d c)=some c:=rfl;simp only[xay,e,hb];rw[this]
def XQ{f:FuncId}{ds:List D}{C:FuncId->List D->Option D}{r:D}:∀{l:List FuncId},KV f ds (l.map λg=>(g,C g))=some r->C f ds=some r
 |[],h=>by cases h
 |g::l,h=>by
  simp only[xay,KV]at h;split at h;.rename_i e;rw[e];exact h
  exact XQ h
def ajO{l:List FuncId}{o:Oper}{x:Operand}{args:List Operand}{k:aI->Option β}{b:β}(h:Qh l G C σ o x args k=some b):Fe G C σ o x args k=some b:=by
 unfold Qh at h;split at h
 case h_2=>cases h
 rename_i v ds aK eh;obtain⟨r,ab,ad⟩:=ef h;obtain⟨p,ax,a8⟩:=ef ab;have b3:=XQ (C:=C (o.dst.getD 9999)) a8;obtain⟨f,oq⟩:=p;have gv:wv (.d v)=some (f,[],oq.map .d):=by
  unfold XH at ax;split at ax;.cases ax;rfl
  .split at ax;.rename_i fl;cases ax;simp only[wv,xaa fl,xbf]
   cases ax
  cases ax
 unfold Fe;rw[aK,gv];simp only[xaI,List.map_append];rw[XO eh (XP oq)];simp only;rw[b3];obtain⟨g1,g2⟩:=lx ad;have fS:((args.map (b8 G σ.aJ))++oq.map aS.d).all sM=(args.map (b8 G σ.aJ)).all sM:=by
  rw[List.all_append];have:(oq.map aS.d).all sM=true:=by rw[xau];intro y aP;obtain⟨c,_,rfl⟩:=xaR.1 aP;rfl
  rw[this,xbt]
 rw[fS];exact ad
def ajP{o:Oper}{x:Operand}{args:List Operand}{k:aI->Option β}{b:β}(h:yA T G C σ o x args k=some b):Fe G C σ o x args k=some b:=by
 unfold yA at h;split at h;.exact h
 exact ajO h
def KX(cg:gM P G C){dB:ca}{o:Oper}{x:Operand}{args:Array Operand}{dq:Array TypeId}(aR:o.op= .call ⟨.value x,args,dq⟩){k:aI->Option β}{b:β}(h:yA dB G C σ o x args.toList k=some b):c3 P T G o (λaT=>k aT=some b/\aT.objs=σ.objs/\∀t,o.dst≠some t->aT.aJ t=σ.aJ t) σ:=by
 have dI:hf o.op=true:=by rw[aR];rfl
 rw[nt (uo dI)]
 replace h:=ajP h
 unfold Fe at h;unfold jk;rw[aR];simp only;split at h
 case h_2=>cases h
 rename_i f pre post gv;simp only[gv];split at h
 case h_2=>cases h
 rename_i ds eh;obtain⟨r,ab,ad⟩:=ef h;obtain⟨ad,ax⟩:=lx ad;refine⟨ds,ds,(·=r),eh,qV.refl _,cg _ _ _ _ ab,⟨r,rfl⟩,?_,?_⟩
 .rcases xbF.1 ad with ad|ad;.exact .inr ad
  exact .inl (by rintro _ rfl;exact ad)
 rintro _ rfl;refine⟨ax,by simp,?_⟩;intro t aF;cases az:o.dst with|none=>rfl|some d=>rw[az]at aF;simp only[aI.put];exact cU _ _ (λe=>aF (by rw[e]))
def XR(cg:gM P G C){o:Oper}{k:aI->Option β}{b:β}(h:sS T G C σ o k=some b):c3 P T G o (λaT=>k aT=some b) σ:=by
 unfold sS at h;split at h;.exact p9 (λ_ h=>h.1) (KX cg (by assumption) h)
 obtain⟨aT,ab,ad⟩:=BV h;unfold c3;rw[ab];exact ad
def re{dst:Option Tmp}{r:aS}{t:Tmp}(aF:dst≠some t):(σ.put dst r).aJ t=σ.aJ t:=by cases dst with|none=>rfl|some d=>simp only[aI.put];exact cU _ _ (λe=>aF (by rw[e]))
def XS(cg:gM P G C){o:Oper}(av:still o=true){k:aI->Option β}{b:β}(h:sS T G C σ o k=some b):c3 P T G o (λaT=>k aT=some b/\aT.objs=σ.objs/\∀t,o.dst≠some t->aT.aJ t=σ.aJ t) σ:=by
 unfold sS at h;split at h;.exact KX cg (by assumption) h
 rename_i XT;obtain⟨aT,ab,ad⟩:=BV h;unfold c3;rw[ab];have ajQ:gK T (b8 G σ.aJ) σ.objs (o.dst.getD 9999) o.op=none:=by
  unfold still at av;simp only[xbe]at av;rcases av with(av|av)|av
  .exact(BE av).2
  .exact BF av
  exact(PA av).2.2
 unfold gr at ab;split at ab;.cases ab;exact⟨ad,by simp,λt aF=>re aF⟩
 split at ab;.cases ab;exact⟨ad,by simp,λt aF=>re aF⟩
 rw[ajQ]at ab;cases ab
def mE{l:List Oper}:∀{σ:aI}{K K':aI->Prop},(∀σ,K σ->K' σ)->fg P T G all l K σ->fg P T G all l K' σ:=by
 induction l with
 |nil=>intro σ K K' ah h;exact ah _ h
 |cons o l ih=>intro σ K K' ah h;exact EX (λaT bs=>ih ah bs) h
def Ql{l r:List Oper}:∀{σ:aI}{K:aI->Prop},fg P T G all l (fg P T G all r K) σ->fg P T G all (l++r) K σ:=by
 induction l with
 |nil=>intro σ K h;exact h
 |cons o l ih=>intro σ K h;exact EX (λaT bs=>ih bs) h
def ot(σ τ:aI):Prop:=σ.objs=τ.objs/\∀t,τ.aJ t= .any\/σ.aJ t=τ.aJ t
theorem ot.refl(σ:aI):ot σ σ:=⟨rfl,λ_=> .inr rfl⟩
def ot.trans{σ τ yr:aI}(h:ot σ τ)(bs:ot τ yr):ot σ yr:=by
 refine⟨h.1.trans bs.1,λt=>?_⟩;rcases bs.2 t with ad|ad
 .exact .inl ad
 rcases h.2 t with ab|ab;.exact .inl (ad▸ab)
 exact .inr (ab.trans ad)
def ot.Fh{σ τ:aI}(h:ot σ τ):gC σ τ:=by
 obtain⟨s,o⟩:=σ;obtain⟨s',o'⟩:=τ;obtain⟨ab,ad⟩:=h;simp only at ab ad;subst ab;intro m fr ρ ac w cK;refine⟨m,ρ,Mem.le_refl m,⟨cK.mem,cK.frame,cK.apart,cK.one,?_,cK.objs,cK.own,cK.sep⟩,λk ah ak=>⟨ak,rfl⟩⟩;intro t;rcases ad t with h|h;.simp only[h];exact .any _
 have:=cK.aJ t;simp only at this⊢;rw[<-h];exact this
def XU{d:Tmp}{r:aS}:∀{l:List Oper}{σ:aI}{K:aI->Prop},(∀o∈l,d∉o.looksAt all/\o.dst≠some d)->fg P T G all l K (σ.put (some d) r)=fg P T G all l (λaT=>K (aT.put (some d) r)) σ
 |[],σ,K,h=>rfl
 |o::l,σ,K,h=>by
  have aq:=h o (by simp);have ih:∀{σ:aI},fg P T G all l K (σ.put (some d) r)=fg P T G all l (λaT=>K (aT.put (some d) r)) σ:=XU λo' oh=>h o' (by simp[oh]);unfold fg;rw[hl,hl,oc (by rintro _ ⟨⟩;exact aq.1)];cases hw:jz all σ o with
  |none=>rfl
  |some w=>
   cases w with
   |true=>simp only;rw[jl (all:=all) (by rintro _ ⟨⟩;exact aq.1) (by rintro _ ⟨⟩;exact aq.2)];simp only[ih]
   |false=>simp only;rw[<-ih,put_comm (by rintro _ ⟨⟩;exact aq.2)]
def ajR{d:Tmp}{a:aS}{l:List Oper}{σ:aI}{K:aI->Prop}(gu:∀σ τ,ot σ τ->K τ->K σ)(an:∀o∈l,d∉o.looksAt all/\o.dst≠some d)(h:fg P T G all l K (σ.put (some d) .any)):fg P T G all l K (σ.put (some d) a):=by
 rw[XU an]at h⊢;refine mE (λaT bs=>gu _ _ ?_ bs) h;refine⟨rfl,λt=>?_⟩;by_cases aF:t=d;.subst aF;exact .inl (by simp[aI.put])
 exact .inr (by simp[aI.put,cU _ _ aF])
def Qm{l:List Oper}{K:aI->Prop}(gu:∀σ τ,ot σ τ->K τ->K σ):∀(ds:List Tmp){σ τ:aI},(∀d∈ds,∀o∈l,d∉o.looksAt all/\o.dst≠some d)->(∀t,t∉ds->σ.aJ t=τ.aJ t)->(∀d∈ds,τ.aJ d= .any\/σ.aJ d=τ.aJ d)->σ.objs=τ.objs->fg P T G all l K τ->fg P T G all l K σ
 |[],σ,τ,_,ab,ad,ax,h=>by
  have:σ=τ:=by
   cases σ;cases τ;simp only at ab ax;subst ax
   congr 1
   funext t
   exact ab t (by simp)
  rw[this];exact h
 |d::ds,σ,τ,ak,ab,ad,ax,h=>by
  by_cases az:τ.aJ d= .any
  .have e:τ=τ.put (some d) .any:=by
    cases τ;simp only[aI.put]
    congr 1
    funext t
    by_cases aF:t=d;.subst aF;simp only[ew];exact az
    rw[cU _ _ aF]
   rw[e]at h;have bs:=ajR (a:=σ.aJ d) gu (λo aR=>ak d (by simp) o aR) h;refine Qm (τ:=τ.put (some d) (σ.aJ d)) gu ds (λqg iK=>ak qg (by simp[iK])) ?_ ?_ ax bs
   .intro t aF;by_cases uF:t=d;.subst uF;simp[aI.put]
    simp only[aI.put,cU _ _ uF];exact ab t (by simp[uF,aF])
   intro qg iK;by_cases uF:qg=d;.subst uF;simp[aI.put]
   simp only[aI.put,cU _ _ uF];exact ad qg (by simp[iK])
  refine Qm gu ds (λqg iK=>ak qg (by simp[iK])) ?_ (λqg iK=>ad qg (by simp[iK])) ax h;intro t aF;by_cases uF:t=d
  .subst uF;rcases ad t (by simp)with a8|a8
   .exact absurd a8 az
   exact a8
  exact ab t (by simp[uF,aF])
def XV(cg:gM P G C):∀{os:List Oper}{σ:aI}{k:aI->Option β}{b:β},(∀o∈os,o.guard=none)->sT T G C os σ k=some b->fg P T G all os (λaT=>k aT=some b) σ
 |[],σ,k,b,_,h=>h|o::os,σ,k,b,bB,h=>by unfold fg dY;rw[bB o (by simp)];exact p9 (λaT bs=>XV cg (λo aR=>bB o (by simp[aR])) bs) (XR cg h)
def XW(cg:gM P G C){j:Nat}{want:Bool}{d:Tmp}(az:(all[j]?).bind (·.dst)=some d):∀{os:List Oper}{σ:aI}{k:aI->Option β}{b:β},(∀o∈os,o.guard=some (j,want))->(∀o∈os,still o=true/\o.dst≠some d)->σ.aJ d= .d (.val (.bool want))->sT T G C os σ k=some b->fg P T G all os (λaT=>k aT=some b/\aT.objs=σ.objs/\∀t,t∉dstsOf os->aT.aJ t=σ.aJ t) σ
 |[],σ,k,b,_,_,_,h=>⟨h,rfl,λ_ _=>rfl⟩
 |o::os,σ,k,b,bB,av,hw,h=>by
  have aq:=av o (by simp);unfold fg dY;rw[bB o (by simp)];simp only[az,hw,xaz];refine p9 ?_ (XS cg aq.1 h);rintro aT ⟨ab,ad,ax⟩;refine mE ?_ (XW cg az (λo aR=>bB o (by simp[aR])) (λo aR=>av o (by simp[aR])) (by rw[ax d aq.2];exact hw) ab);rintro q5 ⟨g1,g2,g3⟩;refine⟨g1,g2.trans ad,?_⟩;intro t aF;have ph:t∉dstsOf os:=λai=>aF (by unfold dstsOf at ai⊢;simp only[xbP];cases o.dst<;>simp[ai])
  have yE:o.dst≠some t:=λai=>aF (by unfold dstsOf;simp[ai]);rw[g3 t ph,ax t yE]
def Fi{j:Nat}{want:Bool}{d:Tmp}(az:(all[j]?).bind (·.dst)=some d):∀{os:List Oper}{σ:aI},(∀o∈os,o.guard=some (j,want))->(∀o∈os,o.dst≠some d)->(σ.aJ d= .d (.val (.bool (!want)))\/∃vs,σ.aJ d= .d (.val (.tuple vs)))->fg P T G all os (λaT=>aT.objs=σ.objs/\(∀t,t∉dstsOf os->aT.aJ t=σ.aJ t)/\∀cq,wM os=some cq->aT.aJ cq= .d jY) σ
 |[],σ,_,_,_=>⟨rfl,λ_ _=>rfl,by intro cq h;cases h⟩
 |o::os,σ,bB,av,hw=>by
  have aq:=av o (by simp);unfold fg;have key:fg P T G all os (λaT=>aT.objs=σ.objs/\(∀t,t∉dstsOf (o::os)->aT.aJ t=σ.aJ t)/\∀cq,wM (o::os)=some cq->aT.aJ cq= .d jY) (σ.put o.dst (.d (.val (.tuple #[])))):=by
   have Fj:(σ.put o.dst (.d (.val (.tuple #[])))).aJ d= .d (.val (.bool (!want)))\/∃vs,(σ.put o.dst (.d (.val (.tuple #[])))).aJ d= .d (.val (.tuple vs)):=by rw[re aq];exact hw
   refine mE ?_ (Fi az (λo aR=>bB o (by simp[aR])) (λo aR=>av o (by simp[aR])) Fj);rintro aT ⟨ab,ad,ax⟩;refine⟨ab.trans (by simp),?_,?_⟩
   .intro t aF;have ph:t∉dstsOf os:=λai=>aF (by
     unfold dstsOf at ai⊢;simp only[xbP];cases o.dst<;>simp[ai])
    have yE:o.dst≠some t:=λai=>aF (by unfold dstsOf;simp[ai]);rw[ad t ph,re yE]
   intro cq an;cases os with|nil=>simp only[wM]at an;rw[ad cq (by simp[dstsOf]),an];simp[aI.put,jY]|cons q az4=>exact ax cq an
  unfold dY;rw[bB o (by simp)];simp only[az];rcases hw with hw|⟨vs,hw⟩
  .simp only[hw];rw[xab (by cases want<;>simp)];exact key
  simp only[hw];exact key
def Qn{j:Nat}{want:Bool}{d:Tmp}(az:(all[j]?).bind (·.dst)=some d):∀{os:List Oper}{σ:aI},(∀o∈os,o.guard=some (j,want))->(∀o∈os,o.dst≠some d)->(σ.aJ d= .d (.val (.bool (!want)))\/∃vs,σ.aJ d= .d (.val (.tuple vs)))->fg P T G all os (λaT=>aT.objs=σ.objs/\(∀t,t∉dstsOf os->aT.aJ t=σ.aJ t)/\∀t∈dstsOf os,aT.aJ t= .d jY) σ
 |[],σ,_,_,_=>⟨rfl,λ_ _=>rfl,by intro t h;cases h⟩
 |o::os,σ,bB,av,hw=>by
  have aq:=av o (by simp);unfold fg;have key:fg P T G all os (λaT=>aT.objs=σ.objs/\(∀t,t∉dstsOf (o::os)->aT.aJ t=σ.aJ t)/\∀t∈dstsOf (o::os),aT.aJ t= .d jY) (σ.put o.dst (.d (.val (.tuple #[])))):=by
   have Fj:(σ.put o.dst (.d (.val (.tuple #[])))).aJ d= .d (.val (.bool (!want)))\/∃vs,(σ.put o.dst (.d (.val (.tuple #[])))).aJ d= .d (.val (.tuple vs)):=by rw[re aq];exact hw
   refine mE ?_ (Qn az (λo aR=>bB o (by simp[aR])) (λo aR=>av o (by simp[aR])) Fj);rintro aT ⟨ab,ad,ax⟩;refine⟨ab.trans (by simp),?_,?_⟩
   .intro t aF;have ph:t∉dstsOf os:=λai=>aF (by
     unfold dstsOf at ai⊢;simp only[xbP];cases o.dst<;>simp[ai])
    have yE:o.dst≠some t:=λai=>aF (by unfold dstsOf;simp[ai]);rw[ad t ph,re yE]
   intro t aF;by_cases ph:t∈dstsOf os;.exact ax t ph
   have kH:o.dst=some t:=by
    unfold dstsOf at aF ph;simp only[xbP]at aF;cases aR:o.dst with
    |none=>rw[aR]at aF;exact absurd aF ph
    |some u=>
     rw[aR]at aF;rcases xas.1 aF with rfl|h
     .rfl
     exact absurd h ph
   rw[ad t ph,kH];simp[aI.put,jY]
  unfold dY;rw[bB o (by simp)];simp only[az];rcases hw with hw|⟨vs,hw⟩
  .simp only[hw];rw[xab (by cases want<;>simp)];exact key
  simp only[hw];exact key
def ajS(cg:gM P G C){o:Oper}{k:aI->Option β}{b:β}(h:sS T G C σ o k=some b):c3 P T G o (λaT=>k aT=some b/\∀t,o.dst≠some t->aT.aJ t=σ.aJ t) σ:=by
 unfold sS at h;split at h;.exact p9 (λ_ h=>⟨h.1,h.2.2⟩) (KX cg (by assumption) h)
 obtain⟨aT,ab,ad⟩:=BV h;unfold c3;rw[ab];refine⟨ad,λt aF=>?_⟩;unfold gr at ab;split at ab;.cases ab;exact re aF
 split at ab;.cases ab;exact re aF
 split at ab;.cases ab;exact re aF
 cases ab
def XX(cg:gM P G C){j:Nat}{want:Bool}{d:Tmp}(az:(all[j]?).bind (·.dst)=some d):∀{os:List Oper}{σ:aI}{k:aI->Option β}{b:β},(∀o∈os,o.guard=some (j,want))->(∀o∈os,o.dst≠some d)->σ.aJ d= .d (.val (.bool want))->sT T G C os σ k=some b->fg P T G all os (λaT=>k aT=some b) σ
 |[],σ,k,b,_,_,_,h=>h|o::os,σ,k,b,bB,av,hw,h=>by unfold fg dY;rw[bB o (by simp)];simp only[az,hw,xaz];refine p9 ?_ (ajS cg h);rintro aT ⟨ab,ax⟩;exact XX cg az (λo aR=>bB o (by simp[aR])) (λo aR=>av o (by simp[aR])) (by rw[ax d (av o (by simp))];exact hw) ab
def Qo{j:Nat}{want:Bool}{d:Tmp}(az:(all[j]?).bind (·.dst)=some d){K:aI->Prop}:∀{os:List Oper}{σ:aI},(∀o∈os,o.guard=some (j,want))->(∀o∈os,o.dst≠some d)->(σ.aJ d= .d (.val (.bool (!want)))\/∃vs,σ.aJ d= .d (.val (.tuple vs)))->K (Qi os σ)->fg P T G all os K σ
 |[],σ,_,_,_,h=>h
 |o::os,σ,bB,av,hw,h=>by
  have aq:=av o (by simp);have Fj:(σ.put o.dst (.d (.val (.tuple #[])))).aJ d= .d (.val (.bool (!want)))\/∃vs,(σ.put o.dst (.d (.val (.tuple #[])))).aJ d= .d (.val (.tuple vs)):=by rw[re aq];exact hw
  have key:fg P T G all os K (σ.put o.dst (.d (.val (.tuple #[])))):=Qo az (λo aR=>bB o (by simp[aR])) (λo aR=>av o (by simp[aR])) Fj h;unfold fg dY;rw[bB o (by simp)];simp only[az];rcases hw with hw|⟨vs,hw⟩
  .simp only[hw];rw[xab (by cases want<;>simp)];exact key
  simp only[hw];exact key
def XY:∀{os:List Oper}{cq:Tmp},wM os=some cq->cq∈dstsOf os
 |[],cq,h=>by cases h
 |[o],cq,h=>by simp only[wM]at h;simp[dstsOf,h]|o::q::r,cq,h=>by have:=XY (os:=q::r) h;unfold dstsOf at this⊢;rw[xbP];cases o.dst<;>simp[this]
def BX(cg:gM P G C){K:aI->Prop}(gu:∀σ τ,ot σ τ->K τ->K σ):∀{gs:List (Option (Nat×Bool)×List Oper)} {σ:aI} {k:aI->Option β} {b:β},(∀g∈gs,∀o∈g.2,o.guard=g.1)->(∀aT,k aT=some b->K aT)->yC T G C all gs σ k=some b->fg P T G all (flat gs) K σ
 |[],σ,k,b,_,ah,h=>ah _ h|(none,os)::r,σ,k,b,bB,ah,h=>by show fg P T G all (os++flat r) K σ;refine Ql (mE ?_ (XV cg (λo aR=>bB (none,os) (by simp) o aR) h));intro aT bs;exact BX cg gu (λg hm=>bB g (by simp[hm])) ah bs
 |(some (j,want),os)::r,σ,k,b,bB,ah,h=>by
  show fg P T G all (os++flat r) K σ;unfold yC at h;split at h
  case h_2=>cases h
  rename_i d cq az yG;split at h
  case h_2=>cases h
  rename_i x ae;split at h
  case isFalse=>
   split at h
   case isFalse=>cases h
   rename_i fb;simp only[xau,bne_iff_ne,ne_eq]at fb;have hd:∀o∈os,o.guard=some (j,want):=λo aR=>bB (some (j,want),os) (by simp) o aR;unfold yB at h;refine Ql ?_;split at h
   .rename_i nr;split at h;.rename_i ak;subst ak;exact mE (λaT bs=>BX cg gu (λg hm=>bB g (by simp[hm])) ah bs) (XX cg az hd fb ae h)
    rename_i ak;exact Qo az hd fb (.inl (by rw[ae];cases nr<;>cases want<;>simp_all)) (BX cg gu (λg hm=>bB g (by simp[hm])) ah h)
   .exact Qo az hd fb (.inr ⟨_,ae⟩) (BX cg gu (λg hm=>bB g (by simp[hm])) ah h)
   cases h
  rename_i bq;simp only[XK,xao,xau,bne_iff_ne,ne_eq,blind,xby,Bool.not_eq_true',List.contains_eq_mem,decide_eq_false_iff_not]at bq;obtain⟨Qp,ajT⟩:=bq;obtain⟨v,ab,ad⟩:=ef h;have hd:∀o∈os,o.guard=some (j,want):=λo aR=>bB (some (j,want),os) (by simp) o aR;have rest:=BX cg gu (λg hm=>bB g (by simp[hm])) ah ad;have fin:∀aT:aI,aT.objs=σ.objs->(∀t,t∉dstsOf os->aT.aJ t=σ.aJ t)->aT.aJ cq= .d v->fg P T G all (flat r) K aT:=by
   intro aT aN aV bS;refine Qm gu ((dstsOf os).filter (·!=cq)) ?_ ?_ ?_ ?_ rest;.intro qg iK o aR;have Fk:=xby.1 iK;exact ajT o aR qg ⟨Fk.1,by simpa using Fk.2⟩
   .intro t aF;simp only[xby,bne_iff_ne,ne_eq,not_and,Decidable.not_not]at aF;by_cases m4:t=cq;.subst m4;simp[aI.put,bS]
    have hX:t∉dstsOf os:=λai=>m4 (aF ai);simp only[aI.put,cU _ _ m4,lA,hX,xaA];exact aV t hX
   .intro qg iK;have Fk:=xby.1 iK;have cf:qg≠cq:=by simpa using Fk.2
    refine .inl ?_;simp only[aI.put,cU _ _ cf,lA,Fk.1,xaz]
   simp[aI.put,lA,aN]
  unfold bN at ab;refine Ql ?_;split at ab
  .rename_i nr;split at ab
   .rename_i ak;subst ak;refine mE ?_ (XW cg az hd Qp ae ab);rintro aT ⟨g1,g2,g3⟩;refine fin aT g2 g3 ?_;split at g1;.rename_i u hu;cases g1;exact hu
    cases g1
   rename_i ak;cases ab;refine mE ?_ (Fi az hd (λo aR=>(Qp o aR).2) (.inl (by rw[ae];cases nr<;>cases want<;>simp_all)));rintro aT ⟨g1,g2,g3⟩;exact fin aT g1 g2 (g3 cq yG)
  .rename_i vs;cases ab;refine mE ?_ (Fi az hd (λo aR=>(Qp o aR).2) (.inr ⟨_,ae⟩));rintro aT ⟨g1,g2,g3⟩;exact fin aT g1 g2 (g3 cq yG)
  cases ab
def ajU{i:Nat}{eO:Oper}{listed:Array Bool}(ag:all[i]?=some eO)(h:Qj all listed i=true):(∀j cZ,j∈waits all i->all[j]?=some cZ->∃e∈cZ.after,Region.binds .any e=true/\(e.on=i\/e.on∈waits all i))/\(∀j,j∈waits all i->listed.getD j true=false)/\ ∀j cZ,all[j]?=some cZ->j≠i->listed.getD j true=false->j∉waits all i->eO.apart all cZ=true/\∀t a x,cZ.op≠ .store t a x:=by
 simp only[Qj,ag,xao,xau,xbN]at h;refine⟨λj cZ aG iU=>?_,λj aG=>by simpa using(h.1 j aG).1,λj cZ iU cf og hX=>?_⟩;.have ab:=(h.1 j aG).2;simp only[iU]at ab;obtain⟨e,he,ak⟩:=Array.any_eq_true'.1 ab;simp only[xao,xbe,xbK,List.contains_iff_mem]at ak;exact⟨e,he,ak.1,ak.2⟩
 have ab:=h.2 j (xaS.1 iU).1;simp only[iU,xbe,xbK,cf,false_or,og,xaq,xao,List.contains_iff_mem,hX]at ab;refine⟨ab.1,?_⟩;intro t a x he;rw[he]at ab;simp[XM]at ab
def ajV{i:Nat}{eO:Oper}{listed:Array Bool}{aJ:Nat->aS}(h:Qk all listed i aJ eO=true):(∀j cZ,j∈waits all i->all[j]?=some cZ->∃e∈cZ.after,Region.binds .any e=true/\(e.on=i\/e.on∈waits all i))/\(∀j,j∈waits all i->listed.getD j true=false)/\ ∀j cZ,all[j]?=some cZ->j≠i->listed.getD j true=false->j∉waits all i->eO.apart all cZ=true/\sQ aJ eO cZ=true/\(∀t∈mx eO.op++(yD all listed i).flatMap (λy=>uB y.op),cZ.dst≠some t)/\∀t∈uB cZ.op,t∈mx eO.op++(yD all listed i).flatMap (λy=>uB y.op):=by
 simp only[Qk,xao,xau]at h;refine⟨λj cZ aG iU=>?_,λj aG=>by simpa using(h.1 j aG).1,λj cZ iU cf og hX=>?_⟩;.have ab:=(h.1 j aG).2;simp only[iU]at ab;obtain⟨e,he,ak⟩:=Array.any_eq_true'.1 ab;simp only[xao,xbe,xbK,List.contains_iff_mem]at ak;exact⟨e,he,ak.1,ak.2⟩
 have hm:cZ∈yD all listed i:=by
  unfold yD;rw[List.mem_filterMap];refine⟨j,by simpa using(xaS.1 iU).1,?_⟩;have:(j==i||listed.getD j true||(waits all i).contains j)=false:=by simp only[Bool.or_eq_false_iff,beq_eq_false_iff_ne,ne_eq];exact⟨⟨cf,og⟩,by simpa using hX⟩
  rw[this];simpa using iU
 obtain⟨ab,ad⟩:=h.2 cZ hm;refine⟨ab.1,ab.2,λt aF=>by simpa using ad t aF,λt aF=>List.mem_append_right _ (xcj.2 ⟨cZ,hm,aF⟩)⟩
def Qq(cg:gM P G C){k:aI->Option β}{b:β}:∀(ord:List Nat)(listed:Array Bool)(σ:aI),BW T G C all ord listed σ k=some b->iS P T G all (λaT=>k aT=some b) ord.length listed σ
 |[],listed,σ,h=>by
  unfold BW at h;split at h;.rename_i au;exact⟨List.isEmpty_iff.1 au,h⟩
  cases h
 |i::r,listed,σ,h=>by
  unfold BW at h;split at h
  case h_2=>cases h
  rename_i o ag;split at h
  case isFalse=>cases h
  rename_i ai;obtain⟨bB,au,ba⟩:=ai;have H:hy P T G all i (iS P T G all (λaT=>k aT=some b) r.length (listed.setIfInBounds i true)) σ:=by unfold hy;simp only[ag];unfold dY;simp only[bB];exact p9 (λaT bs=>Qq cg r _ aT bs) (XR cg h)
  rcases xbF.1 ba with ba|ba
  case inr=>obtain⟨bG,bw,cl⟩:=PH ag ba;exact PG ag bG r.length listed σ bw cl (by simpa using au) (.inr trivial) H
  rcases xbF.1 ba with ba|ba
  case inr=>obtain⟨bG,bw,cl⟩:=ajV ba;exact ajk ag bB bG (s0:=σ.aJ) (L:=mx o.op++(yD all listed i).flatMap (λy=>uB y.op)) (λt aF=>xbU _ aF) r.length listed σ (λ_ _=>rfl) bw cl (by simpa using au) H
  rcases xbF.1 ba with ba|ba;.obtain⟨bG,bw,cl⟩:=aie ag ba;exact aic ag bG r.length listed σ bw cl (by simpa using au) (.inr trivial) H
  unfold XN at ba;split at ba
  case h_2=>cases ba
  rename_i t a aR;split at ba
  case h_2=>cases ba
  rename_i cN off av;obtain⟨bG,bw,cl⟩:=ajU ag ba;exact aiX ag aR bB bG r.length listed σ av bw cl (by simpa using au) H
def ajW(cg:gM P G C){K:aI->Prop}(gu:∀σ τ,ot σ τ->K τ->K σ){k:aI->Option β}{b:β}(ah:∀aT,k aT=some b->K aT)(h:XL T G C all σ k=some b):fg P T G all all.toList K σ:=by
 have:=BX (P:=P) cg gu (λg hm o aR=>KW _ _ _ hm o aR) ah h
 rwa [wO]at this
end
inductive qh where
 |any
 |d
 |Qr (f:FuncId)
 |fd (f:FuncId) (m:Nat)
 |ek (off:Nat)
 |ptr (k:Key) (off:Nat)
 |row (k:Key)
 |map (k:Key)
 |sub (k:Key) (cN:Nat)
inductive k3 where
 |b (s:qh)
 |fn (f:Fn) (first cap:List qh)
 |agg (cs:List qh)
 |aO (cs:List qh)
inductive lB where
 |dead
 |box (cs:List k3)
 |row (k:Nat)
 |map
inductive wP where
 |slot (t K n:Nat)
 |box (k i K n:Nat)
 |all (t cN:Nat)
structure rf where
 aJ:List (Nat×k3)
 objs:List (Key×lB)
 pj:List wP
def I(ls:List D)(n:Nat):D:=ls.getD n jY
def Qs:D->Nat
 | .val (.int _ n)=>n.toNat|_=>0
def wQ(ls:List D):qh->Nat->aS×Nat
 | .any,n=>(.any,n)| .d,n=>(.d (I ls n),n+1)| .Qr f,n=>(.d (.val (.func (.func f) #[] #[])),n)| .fd f m,n=>(.d (.fn (.func f) [] ((List.range m).map λi=>I ls (n+i))),n+m)| .ek off,n=>(.ek (KK (I ls n)) off,n+1)| .ptr k off,n=>(.ptr k off,n)| .row k,n=>(.row k,n)| .map k,n=>(.map k,n)| .sub k cN,n=>(.sub k cN (Qs (I ls n)) (Qs (I ls (n+1))),n+2)
def ou(ls:List D):List qh->Nat->List aS×Nat
 |[],n=>([],n)|s::r,n=>((wQ ls s n).1::(ou ls r (wQ ls s n).2).1,(ou ls r (wQ ls s n).2).2)
def pk(ls:List D):k3->Nat->aS×Nat
 | .b s,n=>wQ ls s n| .fn f first cap,n=>(.fn f (ou ls first n).1 (ou ls cap (ou ls first n).2).1,(ou ls cap (ou ls first n).2).2)
 | .agg cs,n=>(.agg (ou ls cs n).1,(ou ls cs n).2)| .aO cs,n=>(.aO (ou ls cs n).1,(ou ls cs n).2)
def rh(ls:List D):List k3->Nat->List aS×Nat
 |[],n=>([],n)|s::r,n=>((pk ls s n).1::(rh ls r (pk ls s n).2).1,(rh ls r (pk ls s n).2).2)
def yH(ls:List D):lB->Nat->cO×Nat
 | .dead,n=>(.dead,n)| .box cs,n=>(.box (rh ls cs n).1,(rh ls cs n).2)| .row k,n=>(.row k (aB (I ls n)),n+1)| .map,n=>(.map (gk (I ls n)),n+1)
def wR(ls:List D):List (Nat×k3)->Nat->List (Nat×aS)×Nat
 |[],n=>([],n)|(t,s)::r,n=>((t,(pk ls s n).1)::(wR ls r (pk ls s n).2).1,(wR ls r (pk ls s n).2).2)
def ov(ls:List D):List (Key×lB)->Nat->List (Key×cO)×Nat
 |[],n=>([],n)|(t,s)::r,n=>((t,(yH ls s n).1)::(ov ls r (yH ls s n).2).1,(ov ls r (yH ls s n).2).2)
def restore(fA:rf)(ls:List D):aI:=W4 (wR ls fA.aJ 0).1 (ov ls fA.objs (wR ls fA.aJ 0).2).1
def XZ:aS->qh->List (Key×Key)
 | .ptr k _,.ptr bu _=>[(bu,k)]| .row k,.row bu=>[(bu,k)]| .map k,.map bu=>[(bu,k)]| .sub k _ _ _,.sub bu _=>[(bu,k)]|_,_=>[]
def Fl:List aS->List qh->List (Key×Key)
 |x::xs,s::gE=>XZ x s++Fl xs gE|_,_=>[]
def X0:aS->k3->List (Key×Key)
 |x,.b s=>XZ x s| .fn _ as gb,.fn _ gE ts=>Fl as gE++Fl gb ts| .agg cs,.agg gE=>Fl cs gE| .aO cs,.aO gE=>Fl cs gE|_,_=>[]
def KY:List aS->List k3->List (Key×Key)
 |x::xs,s::gE=>X0 x s++KY xs gE|_,_=>[]
def X1(σ:aI):List (Nat×k3)->List (Key×Key)
 |[]=>[]|(t,s)::r=>X0 (σ.aJ t) s++X1 σ r
def BY(σ:aI):List (Key×lB)->List (Key×Key)->List (Key×Key)
 |[],ch=>ch|(k,.box gE)::r,ch=>match σ.objs (fz ch k)with|some (.box xs)=>BY σ r (ch++KY xs gE)|_=>BY σ r ch
 |_::r,ch=>BY σ r ch
def KZ(ch:List (Key×Key))(ks:List Key):aS->qh->Option (List D)
 |_,.any=>some []|x,.d=>(Kz x).map λa=>[a]| .d (.val (.func (.func f) a b)),.Qr kj=>if f=kj/\a.size=0/\b.size=0 then some []else none
 | .d (.fn (.func kj) first oq),.fd f m=>if kj=f/\first.isEmpty=true/\oq.length=m then some oq else none
 | .ek cs off,.ek Qt=>if off=Qt then some [.agg cs]else none
 | .ptr k off,.ptr bu Qt=>if k=fz ch bu/\off=Qt/\ks.contains bu then some []else none
 | .row k,.row bu=>if k=fz ch bu/\ks.contains bu then some []else none
 | .map k,.map bu=>if k=fz ch bu/\ks.contains bu then some []else none
 | .sub k cN i len,.sub bu ajX=>if k=fz ch bu/\cN=ajX/\ks.contains bu then some [.val (.int .i64 (i:Nat)),.val (.int .i64 (len:Nat))]else none
 |_,_=>none
def uG(x y:Option (List D)):Option (List D):=match x,y with|some a,some b=>some (a++b)|_,_=>none
def BZ(ch:List (Key×Key))(ks:List Key):List aS->List qh->Option (List D)
 |[],[]=>some []|x::xs,s::gE=>uG (KZ ch ks x s) (BZ ch ks xs gE)|_,_=>none
def K0(ch:List (Key×Key))(ks:List Key):aS->k3->Option (List D)
 |x,.b s=>KZ ch ks x s| .fn (.func f) as gb,.fn (.func kj) gE ts=>if f=kj then uG (BZ ch ks as gE) (BZ ch ks gb ts)else none
 | .agg cs,.agg gE=>BZ ch ks cs gE| .aO cs,.aO gE=>BZ ch ks cs gE|_,_=>none
def K1(ch:List (Key×Key))(ks:List Key):List aS->List k3->Option (List D)
 |[],[]=>some []|x::xs,s::gE=>uG (K0 ch ks x s) (K1 ch ks xs gE)|_,_=>none
def Qu(ch:List (Key×Key))(ks:List Key):Option cO->lB->Option (List D)
 |some _,.dead=>some []|some (.box xs),.box gE=>K1 ch ks xs gE|some (.row k es),.row bu=>if k=bu then some [.aA k es]else none
 |some (.map es),.map=>some [.mp es]|_,_=>none
def Qv(ch:List (Key×Key))(ks:List Key)(σ:aI):List (Nat×k3)->Option (List D)
 |[]=>some []|(t,s)::r=>uG (K0 ch ks (σ.aJ t) s) (Qv ch ks σ r)
def K2(ch:List (Key×Key))(ks:List Key)(σ:aI):List (Key×lB)->Option (List D)
 |[]=>some []|(k,s)::r=>uG (Qu ch ks (σ.objs (fz ch k)) s) (K2 ch ks σ r)
section
variable{β:Type}
def ow:List wP->aI->(aI->Option β)->Option β
 |[],σ,k=>k σ
 | .slot t K n::r,σ,k=>match σ.aJ t,σ.objs K with
  | .d a,none=>if K<10000 then aD (mz a) (ow r ⟨cr σ.aJ t (.row K),cr σ.objs K (some (.row n []))⟩ k)else none
  |_,_=>ow r σ k
 | .box cN i K n::r,σ,k=>match σ.objs cN with
  |some (.box xs)=>match xs[i]?,σ.objs K with
   |some (.d a),none=>if K<10000 then aD (mz a) (ow r ⟨σ.aJ,cr (cr σ.objs cN (some (.box (xs.set i (.row K))))) K (some (.row n []))⟩ k)else none
   |_,_=>ow r σ k
  |_=>ow r σ k
 | .all t cN::r,σ,k=>match σ.aJ t with
  | .row K=>match σ.objs K with
   |some (.row n es)=>if n=cN then ow r ⟨cr σ.aJ t (.sub K n 0 es.length),σ.objs⟩ k else none
   |_=>ow r σ k
  |_=>ow r σ k
def B0:lB->Bool
 | .box _=>true| .row _=>true| .map=>true|_=>false
def X2(ib:List Key)(ch:List (Key×Key))(objs:List (Key×lB)):Bool:=objs.all (λp=>decide (p.1<10000)||ib.contains p.1)&&ib.all (λk=>fz ch k==k&&objs.any λp=>p.1==k&&B0 p.2)&&decide ((objs.map (·.1)).Nodup)
def sU(ib:List Key)(fA:rf)(σ:aI)(k:List D->Option β):Option β:=ow fA.pj σ λσ=>
  let ch:=BY σ fA.objs (X1 σ fA.aJ)
  if yw (fz ch) (fA.objs.map (·.1))&&X2 ib ch fA.objs=true then
   match uG (Qv ch (fA.objs.map (·.1)) σ fA.aJ) (K2 ch (fA.objs.map (·.1)) σ fA.objs)with|some ls=>k ls|none=>none
  else none
end
def yI{x y:Option (List D)}{l:List D}(h:uG x y=some l):∃a b,x=some a/\y=some b/\l=a++b:=by
 unfold uG at h;split at h;.cases h;exact⟨_,_,rfl,rfl,rfl⟩
 cases h
def lC(ls:List D)(n:Nat)(a:List D):Prop:=∀j d,a[j]?=some d->ls[n+j]?=some d
def lC.left{ls:List D}{n:Nat}{a b:List D}(h:lC ls n (a++b)):lC ls n a:=λj d aG=>h j d (by rw[xaC (xae.1 aG).1];exact aG)
def lC.right{ls:List D}{n:Nat}{a b:List D}(h:lC ls n (a++b)):lC ls (n+a.length) b:=λj d aG=>by
 have:=h (a.length+j) d (by rw[xaD (by omega)];simpa using aG)
 rwa [<-xbg]at this
def lC.I{ls:List D}{n:Nat}{a:D}(h:lC ls n [a]):I ls n=a:=by have:=h 0 a rfl;simp only[xbo]at this;simp[Am.I,xbh,this]
section
variable{ch:List (Key×Key)}{ks:List Key}{ls:List D}{U:Key->Prop}
def X3(gl:∀k,ks.contains k=true->U k){x:aS}{s:qh}{n:Nat}{a:List D}(h:KZ ch ks x s=some a)(fB:lC ls n a):pd (fz ch) U x (wQ ls s n).1/\(wQ ls s n).2=n+a.length:=by
 unfold KZ at h;split at h;.cases h;exact⟨trivial,rfl⟩
 .obtain⟨d,az,rfl⟩:=xaj.1 h;refine⟨⟨_,az,?_⟩,rfl⟩;rw[fB.I];exact D.le_refl _
 .split at h;.rename_i ba;obtain⟨rfl,aH,ak⟩:=ba;cases h;rw[xbk aH,xbk ak];exact⟨⟨_,rfl,D.le_refl _⟩,rfl⟩
  cases h
 .split at h
  .rename_i ba;obtain⟨rfl,ab,rfl⟩:=ba;cases h;refine⟨⟨_,rfl,?_⟩,rfl⟩;rw[List.isEmpty_iff.1 ab];have e:((List.range a.length).map λi=>I ls (n+i))=a:=by
    apply xcc;intro i;rw[xag];by_cases ag:i<a.length;.rw[xbX ag,xad ag];have:=fB i a[i] (xad ag);simp[Am.I,xbh,this]
    rw[xaY (by simp;omega),xaY (by omega)];rfl
   skip
   rw[e];exact D.le_refl _
  cases h
 .split at h;.rename_i ba;cases h;subst ba;refine⟨.inl ?_,rfl⟩;rw[fB.I];rfl
  cases h
 .split at h;.rename_i ba;cases h;exact⟨⟨by rw[ba.1,ba.2.1],gl _ ba.2.2⟩,rfl⟩
  cases h
 .split at h;.rename_i ba;cases h;exact⟨⟨by rw[ba.1],gl _ ba.2⟩,rfl⟩
  cases h
 .split at h;.rename_i ba;cases h;exact⟨⟨by rw[ba.1],gl _ ba.2⟩,rfl⟩
  cases h
 .split at h;.rename_i ba;cases h;obtain⟨ab,ad,ax⟩:=ba;have aN:=fB.left (a:=[_]) (b:=[_]);have aV:lC ls (n+1) [D.val (.int .i64 ((_:Nat):Int))]:=lC.right (a:=[_]) (b:=[_]) fB;simp only[wQ];rw[aN.I,aV.I];exact⟨⟨by rw[ab,ad];simp[Qs],gl _ ax⟩,rfl⟩
  cases h
 cases h
def Fo(gl:∀k,ks.contains k=true->U k):∀{xs:List aS}{gE:List qh}{n:Nat}{a:List D},BZ ch ks xs gE=some a->lC ls n a->jn (fz ch) U xs (ou ls gE n).1/\(ou ls gE n).2=n+a.length
 |[],[],n,a,h,fB=>by cases h;exact⟨trivial,rfl⟩
 |x::xs,s::gE,n,a,h,fB=>by obtain⟨ao,a2,ab,ad,rfl⟩:=yI h;obtain⟨g1,g2⟩:=X3 gl ab fB.left;have au:=fB.right;rw[<-g2]at au;obtain⟨g3,g4⟩:=Fo gl ad au;refine⟨⟨g1,g3⟩,?_⟩;show(ou ls gE (wQ ls s n).2).2=_;rw[g4,g2,xaw];omega
 |[],_::_,n,a,h,_=>by cases h
 |_::_,[],n,a,h,_=>by cases h
def ajY{x y:aS}(h:pd (fz ch) U x y):uw (fz ch) U x y:=by cases y<;>first|exact h|exact h.elim
def X4(gl:∀k,ks.contains k=true->U k){x:aS}{s:k3}{n:Nat}{a:List D}(h:K0 ch ks x s=some a)(fB:lC ls n a):uw (fz ch) U x (pk ls s n).1/\(pk ls s n).2=n+a.length:=by
 unfold K0 at h;split at h;.obtain⟨g1,g2⟩:=X3 gl h fB;exact⟨ajY g1,g2⟩
 .split at h;.rename_i ba;subst ba;obtain⟨ao,a2,ab,ad,rfl⟩:=yI h;obtain⟨g1,g2⟩:=Fo gl ab fB.left;have au:=fB.right;rw[<-g2]at au;obtain⟨g3,g4⟩:=Fo gl ad au;refine⟨⟨rfl,g1,g3⟩,?_⟩;simp only[pk];rw[g4,g2,xaw];omega
  cases h
 .obtain⟨g1,g2⟩:=Fo gl h fB;exact⟨g1,g2⟩
 .obtain⟨g1,g2⟩:=Fo gl h fB;exact⟨g1,g2⟩
 cases h
def Qw(gl:∀k,ks.contains k=true->U k):∀{xs:List aS}{gE:List k3}{n:Nat}{a:List D},K1 ch ks xs gE=some a->lC ls n a->sP (fz ch) U xs (rh ls gE n).1/\(rh ls gE n).2=n+a.length
 |[],[],n,a,h,fB=>by cases h;exact⟨trivial,rfl⟩
 |x::xs,s::gE,n,a,h,fB=>by obtain⟨ao,a2,ab,ad,rfl⟩:=yI h;obtain⟨g1,g2⟩:=X4 gl ab fB.left;have au:=fB.right;rw[<-g2]at au;obtain⟨g3,g4⟩:=Qw gl ad au;refine⟨⟨g1,g3⟩,?_⟩;show(rh ls gE (pk ls s n).2).2=_;rw[g4,g2,xaw];omega
 |[],_::_,n,a,h,_=>by cases h
 |_::_,[],n,a,h,_=>by cases h
def ajZ(gl:∀k,ks.contains k=true->U k){x:Option cO}{s:lB}{n:Nat}{a:List D}(h:Qu ch ks x s=some a)(fB:lC ls n a):(∃o',x=some o'/\yt (fz ch) U o' (yH ls s n).1)/\(yH ls s n).2=n+a.length:=by
 unfold Qu at h;split at h;.cases h;exact⟨⟨_,rfl,trivial⟩,rfl⟩
 .obtain⟨g1,g2⟩:=Qw gl h fB;exact⟨⟨_,rfl,⟨_,rfl,g1⟩⟩,g2⟩
 .split at h;.rename_i ah;cases h;subst ah;refine⟨⟨_,rfl,⟨_,rfl,.inl ?_⟩⟩,rfl⟩;rw[fB.I];rfl
  cases h
 .cases h;refine⟨⟨_,rfl,?_⟩,rfl⟩;simp only[yH,yt];rw[fB.I];rfl
 cases h
def X5(gl:∀k,ks.contains k=true->U k){σ:aI}:∀{l:List (Nat×k3)} {n:Nat} {a:List D},Qv ch ks σ l=some a->lC ls n a->BN (fz ch) U σ (wR ls l n).1/\(wR ls l n).2=n+a.length
 |[],n,a,h,fB=>by cases h;exact⟨trivial,rfl⟩
 |(t,s)::r,n,a,h,fB=>by obtain⟨ao,a2,ab,ad,rfl⟩:=yI h;obtain⟨g1,g2⟩:=X4 gl ab fB.left;have au:=fB.right;rw[<-g2]at au;obtain⟨g3,g4⟩:=X5 gl ad au;refine⟨⟨g1,g3⟩,?_⟩;simp only[wR];rw[g4,g2,xaw];omega
def Qx(gl:∀k,ks.contains k=true->U k){σ:aI}:∀{l:List (Key×lB)} {n:Nat} {a:List D},K2 ch ks σ l=some a->lC ls n a->yv (fz ch) U σ (ov ls l n).1/\(ov ls l n).2=n+a.length
 |[],n,a,h,fB=>by cases h;exact⟨trivial,rfl⟩
 |(t,s)::r,n,a,h,fB=>by obtain⟨ao,a2,ab,ad,rfl⟩:=yI h;obtain⟨g1,g2⟩:=ajZ gl ab fB.left;have au:=fB.right;rw[<-g2]at au;obtain⟨g3,g4⟩:=Qx gl ad au;refine⟨⟨g1,g3⟩,?_⟩;simp only[ov];rw[g4,g2,xaw];omega
end
def yJ(ls:List D):∀(l:List (Key×lB)) (n:Nat),l0 (ov ls l n).1=l.map (·.1)
 |[],n=>rfl|(k,s)::r,n=>by have:=yJ ls r (yH ls s n).2;simp only[ov,l0,xay]at this⊢;rw[<-this]
def K3:∀{lo:List (Key×cO)} {k:Key},k∈l0 lo->∃o,eV lo k=some o
 |[],k,h=>by cases h
 |(j,x)::r,k,h=>by
  unfold eV;by_cases ah:k=j;.exact⟨x,by rw[xaa ah]⟩
  rw[xab ah];simp only[l0,xay,xas]at h;exact K3 (h.resolve_left ah)
def fc(ib:List Key)(σ:aI):Prop:=∀k,10000<=k->eo (σ.objs k)->k∈ib
def Qy(ls:List D):∀(l:List (Key×lB)) (n:Nat) (k:Key),(l.map (·.1)).Nodup->(∃s,(k,s)∈l/\B0 s=true)->eo (eV (ov ls l n).1 k)
 |[],n,k,_,⟨_,h,_⟩=>by cases h
 |(j,s)::r,n,k,aC,⟨gE,h,av⟩=>by
  simp only[ov,eV];simp only[xay,List.nodup_cons]at aC;rcases xas.1 h with ab|ab
  .cases ab;rw[xaa rfl];cases s<;>first|cases av|skip
   .exact ui
   .exact sK
   exact wq
  have cf:k≠j:=by rintro rfl;exact aC.1 (xaR.2 ⟨_,ab,rfl⟩)
  rw[xab cf];exact Qy ls r _ k aC.2 ⟨gE,ab,av⟩
def sV{β:Type}{ib:List Key}:∀{l:List wP}{σ:aI}{k:aI->Option β}{b:β},fc ib σ->ow l σ k=some b->∃τ,gC σ τ/\fc ib τ/\k τ=some b
 |[],σ,k,b,bW,h=>⟨σ,gC.refl σ,bW,h⟩
 | .slot t K n::r,σ,k,b,bW,h=>by
  unfold ow at h;split at h
  .rename_i a av gu;split at h
   case isFalse=>cases h
   rename_i bZ;obtain⟨ab,ad⟩:=lx h;have aH:a= .val (.slice none 0 0):=by
    unfold mz at ab;split at ab;.rfl
    cases ab
   subst aH;obtain⟨τ,g1,g2,g3⟩:=sV (ib:=ib) (by
    intro j aG ak;by_cases fm:j=K;.exact absurd bZ (Nat.not_lt.2 (fm▸aG))
    simp only[cU _ _ fm]at ak;exact bW j aG ak) ad
   exact⟨τ,(aiQ t K n av gu).trans g1,g2,g3⟩
  exact sV bW h
 | .box cN i K n::r,σ,k,b,bW,h=>by
  unfold ow at h;split at h
  .rename_i xs ah;split at h
   .rename_i a ag gu;split at h
    case isFalse=>cases h
    rename_i bZ;obtain⟨ab,ad⟩:=lx h;have aH:a= .val (.slice none 0 0):=by
     unfold mz at ab;split at ab;.rfl
     cases ab
    subst aH;obtain⟨τ,g1,g2,g3⟩:=sV (ib:=ib) (by
     intro j aG ak;by_cases fm:j=K;.exact absurd bZ (Nat.not_lt.2 (fm▸aG))
     simp only[cU _ _ fm]at ak;by_cases yc:j=cN;.subst yc;exact bW j aG (by rw[ah];exact ui)
     simp only[cU _ _ yc]at ak;exact bW j aG ak) ad
    exact⟨τ,(aiR cN i K n ah ag gu).trans g1,g2,g3⟩
   exact sV bW h
  exact sV bW h
 | .all t cN::r,σ,k,b,bW,h=>by
  unfold ow at h;split at h
  .rename_i K av;split at h
   .rename_i n es ah;split at h
    case isFalse=>cases h
    rename_i aC;subst aC;obtain⟨τ,g1,g2,g3⟩:=sV (ib:=ib) (σ:=⟨cr σ.aJ t (.sub K n 0 es.length),σ.objs⟩) (λj aG ak=>bW j aG ak) h;exact⟨τ,(aiS t K n av ah).trans g1,g2,g3⟩
   exact sV bW h
  exact sV bW h
def K4{β:Type}{ib:List Key}{fA:rf}{σ:aI}{k:List D->Option β}{b:β}(bW:fc ib σ)(h:sU ib fA σ k=some b):∃ls,gC σ (restore fA ls)/\fc ib (restore fA ls)/\k ls=some b:=by
 unfold sU at h;obtain⟨τ,g1,g2,g3⟩:=sV bW h;simp only at g3;split at g3
 case isFalse=>cases g3
 rename_i ai;simp only[X2,xao,xau,xbe,xaG,xbK,xbu,List.contains_eq_mem]at ai;obtain⟨yK,⟨ob,aj0⟩,aj1⟩:=ai;split at g3
 case h_2=>cases g3
 rename_i ls Qz;obtain⟨ao,a2,aN,aV,rfl⟩:=yI Qz;have fB:lC (ao++a2) 0 (ao++a2):=λj d aG=>by rw[xaE];exact aG
 have gl:∀k,(fA.objs.map (·.1)).contains k=true->∃o,eV (ov (ao++a2) fA.objs (wR (ao++a2) fA.aJ 0).2).1 k=some o:=by intro k ah;exact K3 (by rw[yJ];simpa using ah)
 obtain⟨bG,bw⟩:=X5 gl aN fB.left;have au:=fB.right;rw[<-bw]at au;obtain⟨cl,dA⟩:=Qx gl aV au;have sW:gC τ (restore fA (ao++a2)):=by refine aiE _ (by rw[yJ];exact yK) bG cl ?_;intro k ah ak;have hm:=g2 k ah ak;obtain⟨b3,p,QA,uH,X6⟩:=aj0 k hm;refine⟨?_,b3⟩;obtain⟨az5,jy⟩:=p;simp only at uH X6;subst uH;exact Qy _ _ _ _ aj1 ⟨_,QA,X6⟩
 refine⟨_,g1.trans sW,?_,g3⟩;intro k ah ak;obtain⟨o,aR⟩:=BB ak;have:=wJ aR;rw[yJ]at this;obtain⟨p,QA,uH⟩:=xaR.1 this;rcases ob p QA with cI|cI
 .rw[uH]at cI;exact absurd cI (Nat.not_lt.2 ah)
 rw[uH]at cI;exact cI
def K5(objs:cB)(cs:List aS):Option (List D):=if cs.all sM=true then hb (cs.map (toD objs))else none
def wS(objs:cB)(ks:List Key):aS->aS
 | .ptr k off=>if k∈ks then match objs k with
   |some (.box cs)=>match K5 objs cs with|some ds=> .ek ds off|none=> .ptr k off
   |_=> .ptr k off
  else .ptr k off
 | .row k=>if k∈ks then match objs k with|some (.row n es)=> .d (.aA n es)|_=> .row k
  else .row k
 | .map k=>if k∈ks then match objs k with|some (.map es)=> .d (.mp es)|_=> .map k
  else .map k
 |x=>x
def K6(objs:cB)(ks:List Key):aS->aS
 | .agg cs=>Bm (cs.map (wS objs ks))| .fn f first cap=> .fn f (first.map (wS objs ks)) (cap.map (wS objs ks))
 |x=>wS objs ks x
def Fp(objs:cB)(ks:List Key):cO->cO
 | .box cs=> .box (cs.map (K6 objs ks))|o=>o
def QB(objs:cB)(k:Key):Bool:=match objs k with|some (.row _ _)=>decide (k<10000)|some (.map _)=>decide (k<10000)|some (.box cs)=>decide (k<10000)&&(K5 objs cs).isSome|_=>false
def freeze(ks:List Key)(σ:aI):aI:=⟨λt=>K6 σ.objs ks (σ.aJ t),λk=>if k∈ks then some .dead else(σ.objs k).map (Fp σ.objs ks)⟩
section
variable{m:Mem}{fr:eS}{ρ:c5}{σ:aI}{a:Act}{w:World}{ks:List Key}
def aj2(h:Den m fr ρ σ a w){key off:Nat}{cs:List aS}{ds:List D}(ah:σ.objs key=some (.box cs))(eh:K5 σ.objs cs=some ds)(hm:key∈ks){U:Key->Prop}{v:Value}(aK:b2 m ρ σ.used (.ptr key off) v):b2 (Den.part m ρ ks w) ρ U (.ek ds off) v:=by
 have hle:=Den.sI m ρ ks w;obtain⟨b,vs,dB,aN,aV,bS,cT⟩:=h.objs _ _ ah;have ak:=h.J9 ah rfl hm (by rw[aN];rfl);unfold K5 at eh;split at eh
 case isFalse=>cases eh
 rename_i PR;obtain⟨g1,g2⟩:=qX eh;rw[xaV]at g1;cases aK with
 |ptr _ _ b' hu au=>
  rw[aN]at au;cases au;have:=b2.ek (m:=Den.part m ρ ks w) (ρ:=ρ) (U:=U) ds off b 0 vs dB (0,0) (by rw[ak];exact aV) (λj=>(vs[j]?).getD undef) ?_ ?_
  .simpa using this
  .intro j c aG;have bZ:j<vs.size:=by rw[bS,<-g1];exact(xae.1 aG).1
   simp[xam bZ]
  intro j c aG;have bZ:j<vs.size:=by rw[bS,<-g1];exact(xae.1 aG).1
  have g3:=g2 j c aG;rw[xag,xaj]at g3;obtain⟨y,aP,um⟩:=g3;have:=cT j y vs[j] aP (xam bZ);simp only[xam bZ,xbm];exact(Pu (xau.1 PR y (xac aP)) um this).mono hle
def X7(h:Den m fr ρ σ a w){x:aS}{v:Value}(ae:b2 m ρ σ.used x v):b2 (Den.part m ρ ks w) ρ (freeze ks σ).used (wS σ.objs ks x) v:=by
 have hle:=Den.sI m ρ ks w;have gl:∀k,σ.used k->(freeze ks σ).used k/\ρ k=ρ k:=by
  rintro k ⟨o,aR⟩;refine⟨?_,rfl⟩;unfold aI.used freeze;by_cases ah:k∈ks;.exact⟨.dead,by simp[ah]⟩
  exact⟨Fp σ.objs ks o,by simp[ah,aR]⟩
 unfold wS;split
 .rename_i k off;split
  .rename_i hm;split
   .rename_i cs ah;split;.rename_i ds eh;exact aj2 h ah eh hm ae
    exact ae.mono hle gl
   exact ae.mono hle gl
  exact ae.mono hle gl
 .rename_i k;split
  .rename_i hm;split;.rename_i n es ah;cases ae;exact .d _ _ (Pp h ah hm)
   exact ae.mono hle gl
  exact ae.mono hle gl
 .rename_i k;split
  .rename_i hm;split;.rename_i es ah;cases ae;exact .d _ _ (ahn h ah hm)
   exact ae.mono hle gl
  exact ae.mono hle gl
 exact ae.mono hle gl
def QC(h:Den m fr ρ σ a w){cs:List aS}{vs:Array Value}(an:vs.size=cs.length)(bU:∀(i:Nat)(c:aS)(v:Value),cs[i]?=some c->vs[i]?=some v->b2 m ρ σ.used c v):vs.size=(cs.map (wS σ.objs ks)).length/\∀(i:Nat)(c:aS)(v:Value),(cs.map (wS σ.objs ks))[i]?=some c->vs[i]?=some v->b2 (Den.part m ρ ks w) ρ (freeze ks σ).used c v:=by refine⟨by simpa using an,?_⟩;intro i c v ai aK;simp only[xag,xaj]at ai;obtain⟨y,aP,rfl⟩:=ai;exact X7 h (bU i y v aP aK)
def X8(h:Den m fr ρ σ a w){x:aS}{v:Value}(ae:b2 m ρ σ.used x v):b2 (Den.part m ρ ks w) ρ (freeze ks σ).used (K6 σ.objs ks x) v:=by
 unfold K6;split
 .cases ae with|agg _ vs an bU=>
  obtain⟨ab,ad⟩:=QC (ks:=ks) h an bU;exact JM (.agg _ _ ab ad)
 .cases ae with|fn _ _ _ vs ws an en bU yh=>
  obtain⟨ab,ad⟩:=QC (ks:=ks) h an bU;obtain⟨ax,a8⟩:=QC (ks:=ks) h en yh;exact .fn _ _ _ _ _ ab ax ad a8
 exact X7 h ae
def aj3(ks:List Key)(ea:ks.all (QB σ.objs)=true):gC σ (freeze ks σ):=by
 intro m fr ρ a w h;have hle:=Den.sI m ρ ks w;have dw:∀k∈ks,(k<10000/\∃n es,σ.objs k=some (.row n es))\/(k<10000/\∃es,σ.objs k=some (.map es))\/(k<10000/\∃cs,σ.objs k=some (.box cs)):=by
  intro k ah;have:=xau.1 ea k ah;unfold QB at this;split at this
  .rename_i n es e;exact .inl ⟨xaX this,n,es,e⟩
  .rename_i es e;exact .inr (.inl ⟨xaX this,es,e⟩)
  .rename_i cs e;simp only[xao,xaG]at this;exact .inr (.inr ⟨this.1,cs,e⟩)
  cases this
 have own:∀k∈ks,∃o,σ.objs k=some o/\o.owns=true:=by
  intro k ah;rcases dw k ah with⟨_,n,es,e⟩|⟨_,es,e⟩|⟨_,cs,e⟩
  .exact⟨_,e,rfl⟩
  .exact⟨_,e,rfl⟩
  exact⟨_,e,rfl⟩
 have fJ:∀b,Den.part m ρ ks w b=m b\/∃k∈ks,blockOf (ρ k)=some b/\Den.part m ρ ks w b=w.heap[b]?:=by
  intro b;unfold Den.part;cases hm:m b with
  |some x=>exact .inl rfl
  |none=>
   simp only;by_cases ai:∃k∈ks,blockOf (ρ k)=some b;.rw[xaa ai];obtain⟨k,ab,ad⟩:=ai;exact .inr ⟨k,ab,ad,rfl⟩
   rw[xab ai];exact .inl rfl
 have jx:∀k o,(freeze ks σ).objs k=some o->o.owns=true->k∉ks/\∃dC,σ.objs k=some dC/\o=Fp σ.objs ks dC/\dC.owns=true:=by
  intro k o ah aR;unfold freeze at ah;simp only at ah;split at ah;.cases ah;cases aR
  rename_i aC;obtain⟨dC,ab,rfl⟩:=xaj.1 ah;refine⟨aC,dC,ab,rfl,?_⟩;cases dC<;>first|rfl|exact aR
 refine⟨Den.part m ρ ks w,ρ,hle,⟨?_,h.frame,?_,?_,?_,?_,?_,?_⟩,?_⟩
 .intro b o ak;rcases fJ b with e|⟨k,_,_,e⟩
  .rw[e]at ak;exact h.mem b o ak
  rw[e]at ak;exact ak
 .intro b ak;rcases fJ b with e|⟨k,ab,ad,e⟩
  .rw[e]at ak;exact h.apart b ak
  obtain⟨o,ax,a8⟩:=own k ab;exact(h.own k o b ax a8 ad).2
 .rintro k ⟨o,aR⟩;unfold freeze at aR;simp only at aR;split at aR;.rename_i ah;obtain⟨o,ax,a8⟩:=own k ah;exact h.one k ⟨o,ax⟩
  obtain⟨dC,ab,rfl⟩:=xaj.1 aR;exact h.one k ⟨dC,ab⟩
 .intro t;exact X8 h (h.aJ t)
 .intro k o ah;have e1:=ah;unfold freeze at ah;simp only at ah;split at ah
  .cases ah;trivial
  obtain⟨dC,ab,rfl⟩:=xaj.1 ah;have ad:=h.objs k dC ab;cases dC with
  |dead=>trivial|box cs=>obtain⟨b,vs,T,aN,aV,bS,cT⟩:=ad;refine⟨b,vs,T,aN,aV,by simpa using bS,?_⟩;intro i c x ai ae;simp only[xag,xaj]at ai;obtain⟨y,aP,rfl⟩:=ai;exact X8 h (cT i y x aP ae)
  |row n es=>
   rcases ad with⟨aN,aV⟩|⟨b,o,cap,vs,dB,aN,aV,bS,cT,dJ,eH⟩;.exact .inl ⟨aN,aV⟩
   exact .inr ⟨b,o,cap,vs,dB,aN,aV,bS,cT,dJ,λi e j c ag aG=>by obtain⟨x,g1,g2⟩:=eH i e j c ag aG;exact⟨x,g1,g2.mono hle⟩⟩
  |map es=>obtain⟨r,dg,clock,aN,aV,bS,cT,dJ⟩:=ad;exact⟨r,dg,clock,aN,aV,bS,cT,λi e x he ae=>(dJ i e x he ae).mono hle⟩
 .intro k o b ah aR ak;obtain⟨aC,dC,ab,rfl,ad⟩:=jx k o ah aR;have ax:=h.own k dC b ab ad ak;refine⟨?_,ax.2⟩;rcases fJ b with e|⟨bu,a8,b3,e⟩
  .rw[e];exact ax.1
  obtain⟨o',cI,fo⟩:=own bu a8;exact absurd b3 (h.sep k bu dC o' b (by rintro rfl;exact aC a8) ab cI ad fo ak)
 .intro k bu o o' b cf ah e1 aR oh ak;obtain⟨aC,dC,ab,rfl,ad⟩:=jx k o ah aR;obtain⟨yf,Fq,dQ,rfl,gR⟩:=jx bu o' e1 oh;exact h.sep k bu dC Fq b cf ab dQ ad gR ak
 intro k ah ak;refine⟨?_,rfl⟩;have aC:k∉ks:=by
  intro hm;rcases dw k hm with⟨bZ,_⟩|⟨bZ,_⟩|⟨bZ,_⟩
  .exact absurd ah (Nat.not_le.2 bZ)
  .exact absurd ah (Nat.not_le.2 bZ)
  exact absurd ah (Nat.not_le.2 bZ)
 show eo (if k∈ks then some .dead else(σ.objs k).map (Fp σ.objs ks));rw[xab aC];rcases ak with⟨c,ai⟩|⟨n,es,ai⟩|⟨es,ai⟩
 .rw[ai];exact ui
 .rw[ai];exact sK
 rw[ai];exact wq
end
def yL{β:Type}:List (List Key)->aI->(aI->Option β)->Option β
 |[],σ,k=>k σ|ks::r,σ,k=>match ks with|[]=>yL r σ k|_=>if ks.all (QB σ.objs)=true then yL r (freeze ks σ) k else none
def Ft{β:Type}(t:Tmp)(σ:aI)(k:aI->Option β):Option β:=match σ.aJ t with
 | .sub key cN i len=>match σ.objs key,σ.objs t with
  |some (.row bu es),none=>if cN=bu/\key<10000/\t<10000 then aD (decide (i+len<=es.length)) (k ⟨cr σ.aJ t (.row t),cr (cr σ.objs key (some .dead)) t (some (.row cN ((es.drop i).take len)))⟩)else none
  |_,_=>none
 |_=>none
def aj4{σ:aI}{t key cN i len:Nat}{es:List (List D)}(aF:σ.aJ t= .sub key cN i len)(ah:σ.objs key=some (.row cN es))(aq:σ.objs t=none)(hle:i+len<=es.length)(jD:key<10000):gC σ ⟨cr σ.aJ t (.row t),cr (cr σ.objs key (some .dead)) t (some (.row cN ((es.drop i).take len)))⟩:=by
 intro m fr ρ a w h;have cf:key≠t:=by rintro rfl;rw[ah]at aq;cases aq
 have bH:((es.drop i).take len).length=len:=by simp;omega
 have B1:∀j o,(cr (cr σ.objs key (some .dead)) t (some (.row cN ((es.drop i).take len)))) j=some o->(j=t/\o= .row cN ((es.drop i).take len))\/(j=key/\o= .dead)\/(j≠t/\j≠key/\σ.objs j=some o):=by
  intro j o aG;by_cases ab:j=t;.subst ab;rw[ew]at aG;cases aG;exact .inl ⟨rfl,rfl⟩
  rw[cU _ _ ab]at aG;by_cases ad:j=key;.subst ad;rw[ew]at aG;cases aG;exact .inr (.inl ⟨rfl,rfl⟩)
  rw[cU _ _ ad]at aG;exact .inr (.inr ⟨ab,ad,aG⟩)
 let v:=a.tmps.getD t undef
 have aK:=h.aJ t;rw[aF]at aK;have EM:∀k,σ.used k->aI.used ⟨cr σ.aJ t (.row t),cr (cr σ.objs key (some .dead)) t (some (.row cN ((es.drop i).take len)))⟩ k/\cr ρ t v k=ρ k:=by
  rintro k ⟨o,aR⟩;have wj:k≠t:=by rintro rfl;rw[aR]at aq;cases aq
  refine⟨?_,cU _ _ wj⟩;by_cases ad:k=key;.subst ad;exact⟨.dead,by simp only[cU _ _ wj,ew]⟩
  exact⟨o,by simp only[cU _ _ wj,cU _ _ ad];exact aR⟩
 have piece:jP v=true/\(blockOf v=none\/blockOf v=blockOf (ρ key))/\iQ m (cr ρ t v) (aI.used ⟨cr σ.aJ t (.row t),cr (cr σ.objs key (some .dead)) t (some (.row cN ((es.drop i).take len)))⟩) v w (.row cN ((es.drop i).take len)):=by
  have o6:=h.objs key _ ah;generalize QD:a.tmps.getD t undef=u at aK;have aj5:v=u:=QD;rw[aj5];cases aK with
  |ju _ _ _ hu au=>exact⟨rfl,.inl rfl,.inl ⟨rfl,by simp⟩⟩
  |sub _ _ _ _ b o L cap ic hu au JV aH=>
   refine⟨rfl,.inr (by rw[au];rfl),?_⟩;rcases o6 with⟨aN,aV⟩|⟨b',o',np,vs,dB,aN,aV,bS,cT,dJ,eH⟩
   .rw[au]at aN;cases aN
   rw[au]at aN;cases aN;refine .inr ⟨b,ic,cap-i,vs,dB,by rw[bH],aV,by rw[bH];omega,?_,?_,?_⟩
   .by_cases QE:i<cap
    .rw[aH.1 QE,xbg,<-xaT];have:i+(cap-i)=cap:=by omega
     rw[this];exact cT
    have:cap-i=0:=by omega
    rw[this,Nat.zero_mul];have:=aH.2;omega
   .intro e he;exact dJ e (xbl (xaZ he))
   intro p e j c aU aG;rw[xaO]at aU;split at aU
   case isFalse=>cases aU
   rename_i sx;rw[xaW]at aU;obtain⟨x,g1,g2⟩:=eH (i+p) e j c aU aG;have QE:i<cap:=by have:=(xae.1 aU).1;omega
   refine⟨x,?_,g2⟩;rw[aH.1 QE];have:o+i*cN+p*cN+j=o+(i+p)*cN+j:=by rw[xaT];omega
   rw[this];exact g1
 obtain⟨eJ,dV,hJ⟩:=piece;refine⟨m,cr ρ t v,Mem.le_refl m,⟨h.mem,h.frame,h.apart,?_,?_,?_,?_,?_⟩,?_⟩
 .rintro k ⟨o,aR⟩;rcases B1 k o aR with⟨rfl,_⟩|⟨rfl,_⟩|⟨ab,ad,ax⟩;.rw[ew];exact eJ
  .rw[cU _ _ cf];exact h.one _ ⟨_,ah⟩
  rw[cU _ _ ab];exact h.one _ ⟨_,ax⟩
 .intro s;by_cases av:s=t;.subst av;simp only[ew];have:b2 m (cr ρ s v) (aI.used ⟨cr σ.aJ s (.row s),cr (cr σ.objs key (some .dead)) s (some (.row cN ((es.drop i).take len)))⟩) (.row s) (cr ρ s v s):= .row s ⟨_,ew _ _ _⟩;rw[ew]at this;exact this
  simp only[cU _ _ av];exact(h.aJ s).mono (Mem.le_refl m) EM
 .intro k o e1;rcases B1 k o e1 with⟨rfl,rfl⟩|⟨rfl,rfl⟩|⟨ab,ad,ax⟩
  .rw[ew];exact hJ
  .trivial
  rw[cU _ _ ab];exact(h.objs k o ax).mono (Mem.le_refl m) EM (λb _ _=>rfl)
 .intro k o b e1 aR ak;rcases B1 k o e1 with⟨rfl,rfl⟩|⟨rfl,rfl⟩|⟨ab,ad,ax⟩
  .rw[ew]at ak;rcases dV with dV|dV
   .rw[dV]at ak;cases ak
   exact h.own key _ b ah rfl (by rw[<-dV];exact ak)
  .cases aR
  rw[cU _ _ ab]at ak;exact h.own k o b ax aR ak
 .intro k bu o o' b dd e1 X9 aR oh ak;rcases B1 k o e1 with⟨rfl,rfl⟩|⟨rfl,rfl⟩|⟨ab,ad,ax⟩
  .rcases B1 bu o' X9 with⟨rfl,rfl⟩|⟨rfl,rfl⟩|⟨dQ,gR,ix⟩;.exact absurd rfl dd
   .cases oh
   rw[ew]at ak;rw[cU _ _ dQ];rcases dV with dV|dV
   .rw[dV]at ak;cases ak
   exact h.sep key bu _ o' b (Ne.symm gR) ah ix rfl oh (by rw[<-dV];exact ak)
  .cases aR
  rw[cU _ _ ab]at ak;rcases B1 bu o' X9 with⟨rfl,rfl⟩|⟨rfl,rfl⟩|⟨dQ,gR,ix⟩
  .rw[ew];rcases dV with dV|dV
   .rw[dV];exact λbU=>by cases bU
   rw[dV];exact h.sep k key o _ b ad ax ah aR rfl ak
  .cases oh
  rw[cU _ _ dQ];exact h.sep k bu o o' b dd ax ix aR oh ak
 intro k e1 ak;have wj:k≠t:=by rintro rfl;rw[aq]at ak;exact uj ak
 have dd:k≠key:=by rintro rfl;exact absurd jD (Nat.not_lt.2 e1)
 exact⟨by simp only[cU _ _ wj,cU _ _ dd];exact ak,cU _ _ wj⟩
def wT(φ:Key->Key):aS->aS
 | .any=> .any| .d x=> .d x| .ek cs off=> .ek cs off| .ptr k off=> .ptr (φ k) off| .fR k cN i off=> .fR (φ k) cN i off| .row k=> .row (φ k)| .sub k cN i len=> .sub (φ k) cN i len| .map k=> .map (φ k)|_=> .any
def Fu(φ:Key->Key):aS->aS
 | .agg cs=> .agg (cs.map (wT φ))| .aO cs=> .aO (cs.map (wT φ))| .fn f as gb=> .fn f (as.map (wT φ)) (gb.map (wT φ))|x=>wT φ x
def uI(φ:Key->Key):cO->cO
 | .box cs=> .box (cs.map (Fu φ))|o=>o
section
variable{m:Mem}{ρ cR:c5}{U mY:Key->Prop}{φ:Key->Key}
def Ya(h:∀k,U k->mY (φ k)/\cR (φ k)=ρ k){x:aS}{v:Value}(ae:b2 m ρ U x v):b2 m cR mY (wT φ x) v:=by cases ae with|any v=>exact .any _|d x v ae=>exact .d _ _ ae|agg=>exact .any _|aO=>exact .any _|ek cs off b o vs T dM hm xs ab ad=>exact .ek _ _ b o vs T dM hm xs ab ad|ptr k off b hu au=>exact .ptr _ _ b (h k hu).1 ((h k hu).2.trans au)|fR k cN i off b o len cap hu au=>exact .fR _ _ _ _ b o len cap (h k hu).1 ((h k hu).2.trans au)|row k hu=>rw[<-(h k hu).2];exact .row _ (h k hu).1|sub k cN i len b o L cap a hu au hle aH=>exact .sub _ _ _ _ b o L cap a (h k hu).1 ((h k hu).2.trans au) hle aH|ju k cN i hu au=>exact .ju _ _ _ (h k hu).1 ((h k hu).2.trans au)|map k hu=>rw[<-(h k hu).2];exact .map _ (h k hu).1|fn=>exact .any _
def K7(h:∀k,U k->mY (φ k)/\cR (φ k)=ρ k){cs:List aS}{vs:Array Value}(an:vs.size=cs.length)(bU:∀(i:Nat)(c:aS)(v:Value),cs[i]?=some c->vs[i]?=some v->b2 m ρ U c v):vs.size=(cs.map (wT φ)).length/\∀(i:Nat)(c:aS)(v:Value),(cs.map (wT φ))[i]?=some c->vs[i]?=some v->b2 m cR mY c v:=by refine⟨by simpa using an,?_⟩;intro i c v ai aK;simp only[xag,xaj]at ai;obtain⟨y,aP,rfl⟩:=ai;exact Ya h (bU i y v aP aK)
def Yb(h:∀k,U k->mY (φ k)/\cR (φ k)=ρ k){x:aS}{v:Value}(ae:b2 m ρ U x v):b2 m cR mY (Fu φ x) v:=by
 unfold Fu;split
 .cases ae with|agg _ vs an bU=>
  obtain⟨ab,ad⟩:=K7 h an bU;exact .agg _ _ ab ad
 .cases ae with|aO _ vs an bU=>
  obtain⟨ab,ad⟩:=K7 h an bU;exact .aO _ _ ab ad
 .cases ae with|fn _ _ _ vs ws an en bU yh=>
  obtain⟨ab,ad⟩:=K7 h an bU;obtain⟨ax,a8⟩:=K7 h en yh;exact .fn _ _ _ _ _ ab ax ad a8
 exact Ya h ae
def aj6(h:∀k,U k->mY (φ k)/\cR (φ k)=ρ k){o:cO}{v:Value}{w:World}(aR:iQ m ρ U v w o):iQ m cR mY v w (uI φ o):=by
 cases o with
 |dead=>trivial|box cs=>obtain⟨b,vs,T,aN,aV,bS,cT⟩:=aR;refine⟨b,vs,T,aN,aV,by simpa using bS,?_⟩;intro i c x ai ae;simp only[xag,xaj]at ai;obtain⟨y,aP,rfl⟩:=ai;exact Yb h (cT i y x aP ae)
 |row=>exact aR|map=>exact aR
theorem aj7{o:cO}:(uI φ o).owns=o.owns:=by cases o<;>rfl
end
def aj8:Act:={tmps:= #[],defers:=[]}
def K8(m:Mem)(fr:eS)(ρ:c5)(E:cB)(w:World):Prop:=Den m fr ρ ⟨λ_=> .any,E⟩ aj8 w
def ri(E:cB)(k:Key):Prop:=∃o,E k=some o
structure hz where
 f:FuncId
 args:List k3
 ins:List (Key×lB)
 res:k3
 outs:List (Key×lB)
def hz.wU(s:hz)(ls:List D):List aS:=(rh ls s.args 0).1
def hz.nw(s:hz)(ls:List D):List (Key×cO):=(ov ls s.ins (rh ls s.args 0).2).1
def hz.K9(s:hz)(ls:List D):aS:=(pk ls s.res 0).1
def hz.pn(s:hz)(ls:List D):List (Key×cO):=(ov ls s.outs (pk ls s.res 0).2).1
structure fX(P:Program)(G:c9)(s:hz)(F:List D->Option (List D)):Prop where
 fn:wo P s.f
 run:∀ls eP,F ls=some eP->∀(m:Mem)(fr:eS)(ρ:c5)(w:World)(vs:List Value),jv G m->K8 m fr ρ (eV (s.nw ls)) w->vs.length=(s.wU ls).length->(∀(i:Nat)(x:aS)(v:Value),(s.wU ls)[i]?=some x->vs[i]?=some v->b2 m ρ (ri (eV (s.nw ls))) x v)->Calls P s.f vs.toArray w λe w'=>∃v cG cR,e= .returned v/\m.le cG/\K8 cG fr cR (eV (s.pn eP)) w'/\b2 cG cR (ri (eV (s.pn eP))) (s.K9 eP) v/\ ∀k,10000<=k->eo (eV (s.nw ls) k)->cR k=ρ k
def rj(ch:List (Key×Key))(base:Nat)(k:Key):Key:=if 10000<=k then fz ch k else base+(k-9000)
def wV(objs:cB)(dead:List Key)(outs:List (Key×cO)):cB:=λp=>match eV outs p with|some o=>some o|none=>if p∈dead then some .dead else objs p
def aj9:lB->Bool
 | .row _=>true| .map=>true|_=>false
def Yc(objs:cB)(ch:List (Key×Key))(base:Nat)(s:hz):Bool:=yw (fz ch) (s.ins.map (·.1))&&yw (rj ch base) (s.outs.map (·.1))&&decide ((s.ins.map (·.1)).Nodup)&&decide ((s.outs.map (·.1)).Nodup)&&s.outs.all (λp=>if 10000<=p.1 then s.ins.any (λq=>q.1==p.1&&B0 q.2)else decide (9000<=p.1)&&decide (rj ch base p.1<10000)&&(objs (rj ch base p.1)).isNone)&&s.ins.all (λq=>if 10000<=q.1 then B0 q.2&&s.outs.any (λp=>p.1==q.1&&B0 p.2)else aj9 q.2&&decide (fz ch q.1<10000))
section
variable{β:Type}
def QF(G:c9)(s:hz)(F:List D->Option (List D))(base:Nat)(σ:aI)(o:Oper)(x:Operand)(args:List Operand)(k:aI->Option β):Option β:=match wv (b8 G σ.aJ x)with
 |some (f,pre,post)=>
  if f=s.f then
   let uk:=pre++args.map (b8 G σ.aJ)++post
   let ch:=BY σ s.ins (KY uk s.args)
   let ks:=s.ins.map (·.1)
   if Yc σ.objs ch base s=true then
    match uG (K1 ch ks uk s.args) (K2 ch ks σ s.ins)with|some ls=>R (F ls) λeP=>k (aI.put ⟨σ.aJ,wV σ.objs (ks.map (fz ch)) ((s.pn eP).map λp=>(rj ch base p.1,uI (rj ch base) p.2))⟩ o.dst (Fu (rj ch base) (s.K9 eP)))|none=>none
   else none
  else none
 |none=>none
end
section
variable{P:Program}{T:ca}{G:c9}{m:Mem}{fr:eS}{ρ:c5}{σ:aI}{a:Act}{w:World}{N:Nat}
def aka(cM:jv G m)(h:Den m fr ρ σ a w){o:Oper}{x:Operand}{args:Array Operand}{dq:Array TypeId}(dI:o.op= .call ⟨.value x,args,dq⟩){f:FuncId}{pre post:List aS}(gv:wv (b8 G σ.aJ x)=some (f,pre,post))(ba:wo P f): ∃vs:List Value,vs.length=(pre++args.toList.map (b8 G σ.aJ)++post).length/\(∀(i:Nat)(c:aS)(v:Value),(pre++args.toList.map (b8 G σ.aJ)++post)[i]?=some c->vs[i]?=some v->b2 m ρ σ.used c v)/\(execOp a.eval o).run P w= .ok (.enter f vs.toArray) w:=by
 have dh:=Es (a:=a) cM h.aJ;have ae:=dh x;have Pv:∃first cap,a.eval x= .func (.func f) first cap/\first.size=pre.length/\cap.size=post.length/\(∀(i:Nat)(c:aS)(v:Value),pre[i]?=some c->first[i]?=some v->b2 m ρ σ.used c v)/\(∀(i:Nat)(c:aS)(v:Value),post[i]?=some c->cap[i]?=some v->b2 m ρ σ.used c v):=by
  unfold wv at gv;split at gv
  .rename_i kj first cap he
   split at gv
   case isFalse=>cases gv
   rename_i aq;cases gv;rw[he]at ae;exact⟨first,cap,ae.hj,by simpa using aq.1,by simpa using aq.2,by intro i c v ai;simp at ai,by intro i c v ai;simp at ai⟩
  .rename_i kj first cap he
   cases gv;rw[he]at ae;generalize a.eval x=u at ae;cases ae with|fn _ _ _ vs ws an en g qY=>exact⟨vs,ws,rfl,an,en,g,qY⟩
  .rename_i kj first cap he
   cases gv;rw[he]at ae;have ae:=ae.n5;generalize a.eval x=u at ae;cases ae with|fn _ _ _ vs ws an en g qY=>
   refine⟨vs,ws,rfl,by simpa using an,by simpa using en,?_,?_⟩;.intro i c v ai aK;simp only[xag,xaj]at ai;obtain⟨y,aP,rfl⟩:=ai;exact .d _ _ (g i y v aP aK)
   intro i c v ai aK;simp only[xag,xaj]at ai;obtain⟨y,aP,rfl⟩:=ai;exact .d _ _ (qY i y v aP aK)
  .cases gv
 obtain⟨first,cap,p1,mZ,jh,g1,g2⟩:=Pv;refine⟨(first++args.map a.eval++cap).toList,by simp[mZ,jh],?_,?_⟩
 .intro i c v ai aK;simp only[Array.toList_append,Array.toList_map]at aK;have aN:first.toList.length=pre.length:=by simpa using mZ
  by_cases ab:i<pre.length;.rw[xaP,xaC ab]at ai;rw[xaP,xaC (by omega)]at aK;exact g1 i c v ai (by simpa using aK)
  by_cases ad:i<pre.length+args.size;.rw[xaC (by simp;omega),xaD (by omega)]at ai;rw[xaC (by simp;omega),xaD (by omega),aN]at aK;simp only[xag,xaj]at ai aK;obtain⟨p,aU,rfl⟩:=ai;obtain⟨q,bP,rfl⟩:=aK;rw[aU]at bP;cases bP;exact dh _
  rw[xaD (by simp;omega)]at ai;rw[xaD (by simp;omega)]at aK;refine g2 _ c v ai ?_;rw[<-aK];simp only[xaw,xaV,xbE,mZ];simp
 unfold execOp;rw[dI];simp only[Array.toArray_toList];exact Wz p1 ba
def Yd{φ:Key->Key}:∀{lo:List (Key×cO)} {p:Key} {o:cO},eV (lo.map λq=>(φ q.1,uI φ q.2)) p=some o->∃k dC,k∈l0 lo/\φ k=p/\o=uI φ dC/\((l0 lo).Nodup->eV lo k=some dC)
 |[],p,o,h=>by cases h
 |(j,x)::r,p,o,h=>by
  simp only[xay,eV]at h;split at h;.rename_i e;cases h;exact⟨j,x,by simp[l0],e.symm,rfl,λ_=>by simp[eV]⟩
  obtain⟨k,dC,ab,ad,ax,a8⟩:=Yd h;refine⟨k,dC,?_,ad,ax,?_⟩;.simp only[l0,xay,xas]at ab⊢;exact .inr ab
  intro aC;simp only[l0,xay,List.nodup_cons]at aC ab;have cf:k≠j:=by rintro rfl;exact aC.1 ab
  simp only[eV,xab cf];exact a8 aC.2
def QG{φ:Key->Key}:∀{lo:List (Key×cO)} {k:Key},k∈l0 lo->∃o,eV (lo.map λq=>(φ q.1,uI φ q.2)) (φ k)=some o
 |[],k,h=>by cases h
 |(j,x)::r,k,h=>by
  simp only[xay,eV];split;.exact⟨_,rfl⟩
  rename_i cf;simp only[l0,xay,xas]at h;rcases h with rfl|h
  .exact absurd rfl cf
  exact QG h
def Ye{ls:List D}{l:List (Key×lB)}{n:Nat}{k:Key}(aC:(l.map (·.1)).Nodup){q:Key×lB}(bP:q∈l)(ah:q.1=k)(ak:B0 q.2=true):eo (eV (ov ls l n).1 k):=by obtain⟨a,b⟩:=q;simp only at ah ak;subst ah;exact Qy ls l n _ aC ⟨_,bP,ak⟩
def akb{φ:Key->Key}{U:Key->Prop}{o o':cO}(h:yt φ U o' o)(ak:eo (some o)):eo (some o'):=by
 cases o with
 |dead=>exact absurd ak EO|box=>obtain⟨xs,rfl,_⟩:=h;exact ui
 |row=>obtain⟨es,rfl,_⟩:=h;exact sK
 |map=>cases o'<;>first|exact wq|exact h.elim|cases h
def akc(cM:jv G m)(h:Den m fr ρ σ a w)(cd:N<=a.tmps.size)(hc:a.defers=[]){o:Oper}(gB:∀d,o.dst=some d->d<N){s:hz}{F:List D->Option (List D)}(bq:fX P G s F){base:Nat} {x:Operand} {args:Array Operand} {dq:Array TypeId} (aR:o.op= .call ⟨.value x,args,dq⟩) {β:Type} {k:aI->Option β} {b:β} (ai:QF G s F base σ o x args.toList k=some b) {Q:Exit->Act->World->Prop}:o.wp P a w (iJ N m fr ρ σ (λaT=>k aT=some b/\∀p,10000<=p->eo (aT.objs p)->eo (σ.objs p))) Q:=by
 have iK:∀d,o.dst=some d->d<a.tmps.size:=λd az=>xcm (gB d az) cd;have sL:∀v,N<=(a.put o.dst v).tmps.size:=by intro v;cases o.dst<;>simpa[Act.put]using cd
 have lY:∀v,(a.put o.dst v).defers=[]:=by intro v;cases o.dst<;>exact hc
 unfold QF at ai;split at ai
 case h_2=>cases ai
 rename_i f pre post gv;split at ai
 case isFalse=>cases ai
 rename_i ba;subst ba;simp only at ai;generalize az6:BY σ s.ins (KY (pre++args.toList.map (b8 G σ.aJ)++post) s.args)=ch at ai;generalize Yf:pre++args.toList.map (b8 G σ.aJ)++post=uk at ai;split at ai
 case isFalse=>cases ai
 rename_i Yg;split at ai
 case h_2=>cases ai
 rename_i ls Qz;obtain⟨eP,hN,ah⟩:=ef ai;simp only[Yc,xao,xau,xaG]at Yg;obtain⟨⟨⟨⟨⟨bh,bo⟩,bC⟩,b5⟩,ct⟩,cu⟩:=Yg;obtain⟨ao,a2,aN,aV,rfl⟩:=yI Qz;have fB:lC (ao++a2) 0 (ao++a2):=λj d aG=>by rw[xaE];exact aG
 have QH:l0 (s.nw (ao++a2))=s.ins.map (·.1):=yJ _ _ _;have QI:l0 (s.pn eP)=s.outs.map (·.1):=yJ _ _ _;have gl:∀k,(s.ins.map (·.1)).contains k=true->ri (eV (s.nw (ao++a2))) k:=by intro k ah;exact K3 (by rw[QH];simpa using ah)
 obtain⟨bG,bw⟩:=Qw gl aN fB.left;have au:=fB.right;rw[<-bw]at au;obtain⟨cl,dA⟩:=Qx gl aV au;have cl:yv (fz ch) (ri (eV (s.nw (ao++a2)))) σ (s.nw (ao++a2)):=cl;have akd:∀k j,k∈s.ins.map (·.1)->j∈s.ins.map (·.1)->fz ch k=fz ch j->k=j:=KB bh;have Yh:∀k j,k∈s.outs.map (·.1)->j∈s.outs.map (·.1)->rj ch base k=rj ch base j->k=j:=KB bo;have jS:∀{o o':cO},yt (fz ch) (ri (eV (s.nw (ao++a2)))) o' o->o.owns=true->o'.owns=true:=by
  intro o o' hle aR;cases o with
  |dead=>cases aR
  |box=>obtain⟨xs,rfl,_⟩:=hle;rfl
  |row=>obtain⟨es,rfl,_⟩:=hle;rfl
  |map=>cases hle;rfl
 have QJ:∀{k o},eV (s.nw (ao++a2)) k=some o->k∈s.ins.map (·.1):=λah=>by rw[<-QH];exact wJ ah
 have ake:∀{k o},eV (s.pn eP) k=some o->k∈s.outs.map (·.1):=λah=>by rw[<-QI];exact wJ ah
 let passed:Key->Prop:=λp=>∃k,k∈s.ins.map (·.1)/\fz ch k=p
 let Fv:Mem:=λb=>match fr b with|some o=>some o|none=>open Classical in if∃k o,σ.objs k=some o/\o.owns=true/\¬passed k/\blockOf (ρ k)=some b then w.heap[b]? else none
 let uJ:eS:=⟨Fv,fr.os,fr.out,fr.low⟩
 have La:∀b o,fr b=some o->uJ b=some o:=by intro b o ak;simp only[uJ,Fv,ak]
 have Lb:∀b k o,σ.objs k=some o->o.owns=true->¬passed k->blockOf (ρ k)=some b->uJ b=w.heap[b]?:=by intro b k o ab ad ax a8;have b3:=(h.own k o b ab ad a8).2;simp only[uJ,Fv,b3];rw[xaa ⟨k,o,ab,ad,ax,a8⟩]
 have Yi:∀b,uJ b≠none->fr b≠none\/∃k o,σ.objs k=some o/\o.owns=true/\¬passed k/\blockOf (ρ k)=some b:=by intro b ak;cases ba:fr b with|some o=>exact .inl (by simp)|none=>refine .inr ?_;refine xbb λyM=>ak ?_;simp only[uJ,Fv,ba];rw[xab yM]
 have E3:K8 m uJ (λk=>ρ (fz ch k)) (eV (s.nw (ao++a2))) w:=by
  refine⟨h.mem,⟨?_,⟨h.frame.quiet.os,h.frame.quiet.out,h.frame.quiet.low⟩⟩,?_,?_,λ_=> .any _,?_,?_,?_⟩
  .intro b o ak;cases ba:fr b with
   |some o'=>rw[La b o' ba]at ak;cases ak;exact h.frame.n4 b _ ba
   |none=>
    simp only[uJ,Fv,ba]at ak;split at ak;.exact ak
    cases ak
  .intro b ak;refine xbb λyM=>?_;rcases Yi b yM with ab|⟨k,o,ab,ad,ax,a8⟩
   .exact ab (h.apart b ak)
   exact ak (h.own k o b ab ad a8).1
  .rintro k ⟨o,l1⟩;obtain⟨o',ab,_⟩:=cl.ok k o l1;exact h.one _ ⟨o',ab⟩
  .intro k o l1;obtain⟨o',ab,ad⟩:=cl.ok k o l1;have ax:=h.objs _ _ ab;cases o with
   |dead=>trivial|box c0=>obtain⟨xs,rfl,hle⟩:=ad;obtain⟨b,vs,T,aN,aV,bS,cT⟩:=ax;have:=sP.cells hle ⟨bS,cT⟩;exact⟨b,vs,T,aN,aV,this.1,this.2⟩
   |row cN c6=>obtain⟨es,rfl,hle⟩:=ad;exact hle.ok ax
   |map es=>cases ad;exact ax
  .intro k o b l1 KC ak;obtain⟨o',ab,ad⟩:=cl.ok k o l1;have ax:=h.own _ o' b ab (jS ad KC) ak;refine⟨ax.1,?_⟩;refine xbb λyM=>?_;rcases Yi b yM with a8|⟨bu,lv,a8,b3,cI,fo⟩
   .exact a8 ax.2
   have cf:fz ch k≠bu:=by rintro rfl;exact cI ⟨k,QJ l1,rfl⟩
   exact h.sep _ _ _ _ b cf ab a8 (jS ad KC) b3 ak fo
  intro k bu o o' b cf l1 E5 PM PN ak;obtain⟨y,ab,ad⟩:=cl.ok k o l1;obtain⟨Pa,dQ,gR⟩:=cl.ok bu o' E5;exact h.sep (fz ch k) (fz ch bu) y Pa b (λe=>cf (akd k bu (QJ l1) (QJ E5) e)) ab dQ (jS ad PM) (jS gR PN) ak
 obtain⟨vs,v1,v2,v3⟩:=aka (P:=P) cM h aR gv bq.fn;rw[Yf]at v1 v2;obtain⟨jU,jV⟩:=bG.ok;have sN:=bq.run _ _ hN m uJ _ w vs cM E3 (v1.trans jU.symm) (by intro i y v aP aK;obtain⟨Fw,akf,hle⟩:=jV i y aP;exact hle.ok (v2 i Fw v akf aK))
 unfold Oper.wp;rw[v3];refine sN.mono λe w' he=>?_;obtain⟨v,cG,cR,rfl,yN,l5,q8,akg⟩:=he;generalize kI:rj ch base=φ at*
 let uK:=(s.pn eP).map λp=>(φ p.1,uI φ p.2)
 let objs':=wV σ.objs ((s.ins.map (·.1)).map (fz ch)) uK
 let k2:c5:=λp=>match(s.outs.map (·.1)).find? (λk=>φ k==p)with|some k=>cR k|none=>ρ p
 have QK:∀k,k∈s.outs.map (·.1)->k2 (φ k)=cR k:=by intro k ah;simp only[k2];cases B2:(s.outs.map (·.1)).find? (λbu=>φ bu==φ k)with|none=>exact absurd (List.find?_eq_none.1 B2 k ah) (by simp)|some bu=>have ab:=List.find?_some B2;simp only[xbK]at ab;rw[Yh bu k (List.mem_of_find?_eq_some B2) ah ab]
 have QL:∀k,k∈s.outs.map (·.1)->(10000<=k/\k∈s.ins.map (·.1)/\φ k=fz ch k/\eo (eV (s.nw (ao++a2)) k))\/(σ.objs (φ k)=none/\φ k<10000):=by
  intro k ah;obtain⟨p,aU,rfl⟩:=xaR.1 ah;have ab:=ct p aU;by_cases bZ:10000<=p.1
  .rw[xaa bZ]at ab;obtain⟨q,bP,ad⟩:=xbu.1 ab;simp only[xao,xbK]at ad;refine .inl ⟨bZ,xaR.2 ⟨q,bP,ad.1⟩,?_,Ye bC bP ad.1 ad.2⟩;rw[<-kI];simp only[rj,xaa bZ]
  rw[xab bZ]at ab;simp only[xao,xaG,Option.isNone_iff_eq_none]at ab;exact .inr ⟨ab.2,ab.1.2⟩
 have Lc:∀p,σ.used p->k2 p=ρ p:=by
  rintro p ⟨op,aU⟩;simp only[k2];cases B2:(s.outs.map (·.1)).find? (λbu=>φ bu==p)with
  |none=>rfl
  |some k=>
   have ab:=List.find?_some B2;simp only[xbK]at ab;rcases QL k (List.mem_of_find?_eq_some B2)with⟨ad,ax,a8,b3⟩|⟨ad,_⟩
   .simp only;rw[akg k ad b3,<-a8,ab]
   rw[ab,aU]at ad;cases ad
 have Fx:∀p op,eV uK p=some op->∃k dC,k∈s.outs.map (·.1)/\φ k=p/\op=uI φ dC/\eV (s.pn eP) k=some dC:=by intro p op aU;obtain⟨k,dC,ab,ad,ax,a8⟩:=Yd aU;rw[QI]at ab a8;exact⟨k,dC,ab,ad,ax,a8 b5⟩
 have Yj:∀k,ri (eV (s.pn eP)) k->ri objs' (φ k)/\k2 (φ k)=cR k:=by rintro k ⟨dC,ab⟩;refine⟨?_,QK k (ake ab)⟩;obtain⟨fW,ad⟩:=QG (φ:=φ) (wJ ab);exact⟨fW,by simp only[objs',wV,uK,ad]⟩
 have Yk:∀p,σ.used p->ri objs' p/\k2 p=ρ p:=by
  rintro p ⟨op,aU⟩;refine⟨?_,Lc p ⟨op,aU⟩⟩;unfold ri;simp only[objs',wV];cases an:eV uK p with
  |some fW=>exact⟨fW,rfl⟩
  |none=>
   simp only;split;.exact⟨_,rfl⟩
   exact⟨op,aU⟩
 have Fy:∀p op,objs' p=some op->op.owns=true->(∃k dC,φ k=p/\op=uI φ dC/\eV (s.pn eP) k=some dC/\k2 p=cR k/\dC.owns=true)\/(σ.objs p=some op/\¬passed p/\k2 p=ρ p):=by
  intro p op aU dI;simp only[objs',wV]at aU;cases an:eV uK p with
  |some fW=>rw[an]at aU;cases aU;obtain⟨k,dC,ab,ad,ax,a8⟩:=Fx p op an;refine .inl ⟨k,dC,ad,ax,a8,?_,by rw[ax,aj7]at dI;exact dI⟩;rw[<-ad];exact QK k ab
  |none=>
   rw[an]at aU;simp only at aU;split at aU;.cases aU;cases dI
   rename_i aC;refine .inr ⟨aU,?_,Lc p ⟨op,aU⟩⟩;rintro⟨k,ah,rfl⟩;exact aC (xaR.2 ⟨k,ah,rfl⟩)
 have akh:Den cG fr k2 ⟨σ.aJ,objs'⟩ a w':=by
  refine⟨l5.mem,⟨λb hV ak=>l5.frame.n4 b hV (La b hV ak),⟨l5.frame.quiet.os,l5.frame.quiet.out,l5.frame.quiet.low⟩⟩,?_,?_,?_,?_,?_,?_⟩;.intro b ak;have ab:=l5.apart b ak;cases ba:fr b with|none=>rfl|some hV=>rw[La b hV ba]at ab;cases ab
  .rintro p ⟨op,aU⟩;simp only[objs',wV]at aU;cases an:eV uK p with
   |some fW=>obtain⟨k,dC,ab,ad,ax,a8⟩:=Fx p fW an;rw[<-ad,QK k ab];exact l5.one k ⟨dC,a8⟩
   |none=>
    rw[an]at aU;simp only at aU;have hu:σ.used p:=by
     split at aU;.rename_i hm;obtain⟨k,ah,rfl⟩:=xaR.1 hm;obtain⟨ok,aki⟩:=K3 (lo:=s.nw (ao++a2)) (k:=k) (by rw[QH];exact ah);obtain⟨o',ab,_⟩:=cl.ok k ok aki;exact⟨o',ab⟩
     exact⟨op,aU⟩
    rw[Lc p hu];exact h.one p hu
  .intro t;exact(h.aJ t).mono yN Yk
  .intro p op aU;by_cases dI:op.owns=true
   .rcases Fy p op aU dI with⟨k,dC,ab,ad,ax,a8,b3⟩|⟨ab,ad,ax⟩;.rw[ad,a8];exact aj6 Yj (l5.objs k dC ax)
    rw[ax];refine(h.objs p op ab).mono yN Yk ?_;intro b sE sF;have a8:=Lb b p op ab dI ad sF;have b3:∃hV,w.heap[b]?=some hV:=⟨_,xam ((h.objs p op ab).uc sE sF)⟩;obtain⟨hV,b3⟩:=b3;rw[b3];exact l5.frame.n4 b hV (by rw[a8,b3])
   cases op with|dead=>trivial|_=>exact absurd rfl dI
  .intro p op b aU dI ak;rcases Fy p op aU dI with⟨k,dC,ab,ad,ax,a8,b3⟩|⟨ab,ad,ax⟩
   .rw[a8]at ak;have cI:=l5.own k dC b ax b3 ak;refine⟨cI.1,?_⟩;cases ba:fr b with|none=>rfl|some hV=>rw[La b hV ba]at cI;cases cI.2
   rw[ax]at ak;have a8:=h.own p op b ab dI ak;refine⟨?_,a8.2⟩;refine xbb λyM=>?_;have b3:=l5.apart b yM;rw[Lb b p op ab dI ad ak]at b3;have:=(h.objs p op ab).uc dI ak;rw[xam this]at b3;cases b3
  intro p n8 op Fz b cf aU wW dI FA ak;rcases Fy p op aU dI with⟨k,dC,ab,ad,ax,a8,b3⟩|⟨ab,ad,ax⟩
  .rw[a8]at ak;rcases Fy n8 Fz wW FA with⟨bu,Fq,dQ,gR,ix,mF,uL⟩|⟨dQ,gR,ix⟩
   .rw[mF];exact l5.sep k bu dC Fq b (by rintro rfl;exact cf (ab.symm.trans dQ)) ax ix b3 uL ak
   rw[ix];intro fU;have cI:=(l5.own k dC b ax b3 ak).2;rw[Lb b n8 Fz dQ FA gR fU]at cI;have:=(h.objs n8 Fz dQ).uc FA fU;rw[xam this]at cI;cases cI
  rw[ax]at ak;rcases Fy n8 Fz wW FA with⟨bu,Fq,dQ,gR,ix,mF,uL⟩|⟨dQ,gR,ix⟩
  .rw[mF];intro fU;have cI:=(l5.own bu Fq b ix uL fU).2;rw[Lb b p op ab dI ad ak]at cI;have:=(h.objs p op ab).uc dI ak;rw[xam this]at cI;cases cI
  rw[ix];exact h.sep p n8 op Fz b cf ab dQ dI FA ak
 have rk:b2 cG k2 (ri objs') (Fu φ (s.K9 eP)) v:=Yb Yj q8;have Ku:∀p,10000<=p->eo (objs' p)->eo (σ.objs p):=by
  intro p aU gT;simp only[objs',wV]at gT;cases an:eV uK p with
  |some fW=>
   obtain⟨k,dC,g1,g2,g3,g4⟩:=Fx p fW an;rcases QL k g1 with⟨ad,ax,a8,b3⟩|⟨_,ad⟩;.obtain⟨aL,cI⟩:=BB b3;obtain⟨o',fo,gD⟩:=cl.ok k _ cI;rw[cI]at b3;rw[<-g2,a8,fo];exact akb gD b3
   rw[g2]at ad;exact absurd ad (Nat.not_lt.2 aU)
  |none=>
   rw[an]at gT;simp only at gT;split at gT;.exact absurd gT EO
   exact gT
 refine⟨_,cG,k2,⟨ah,by rw[aI.wu];exact Ku⟩,yN,akh.put rk iK,sL v,lY v,?_⟩;intro p aU ak;rw[aI.wu];obtain⟨cs,gT⟩:=BB ak;refine⟨?_,Lc p ⟨_,gT⟩⟩;show eo (objs' p);simp only[objs',wV];by_cases QM:p∈(s.ins.map (·.1)).map (fz ch)
 .obtain⟨k,ny,rfl⟩:=xaR.1 QM;obtain⟨q,bP,rfl⟩:=xaR.1 ny;have ab:=cu q bP;by_cases a8:10000<=q.1
  .rw[xaa a8]at ab;simp only[xao,xbu,xbK]at ab;obtain⟨_,n8,wW,b3,cI⟩:=ab;have rl:q.1∈s.outs.map (·.1):=xaR.2 ⟨n8,wW,b3⟩;have akj:φ q.1=fz ch q.1:=by rw[<-kI];simp only[rj,xaa a8]
   obtain⟨fW,fo⟩:=QG (φ:=φ) (lo:=s.pn eP) (k:=q.1) (by rw[QI];exact rl);obtain⟨k,dC,g1,g2,g3,g4⟩:=Fx _ fW fo;have dd:k=q.1:=Yh k q.1 g1 rl g2;subst dd;have g5:eo (eV (s.pn eP) q.1):=Ye (ls:=eP) (n:=(pk eP s.res 0).2) b5 wW b3 cI;rw[g4]at g5;rw[<-akj];have g7:eV uK (φ q.1)=some fW:=fo;rw[g7,g3];rcases g5 with⟨az7,g5⟩|⟨kJ,Yl,g5⟩|⟨Yl,g5⟩
   .cases g5;exact ui
   .cases g5;exact sK
   cases g5;exact wq
  rw[xab a8]at ab;simp only[xao,xaG]at ab;exact absurd ab.2 (Nat.not_lt.2 aU)
 cases an:eV uK p with
 |some fW=>
  exfalso;obtain⟨k,dC,g1,g2,g3,g4⟩:=Fx p fW an;rcases QL k g1 with⟨ad,ax,a8,b3⟩|⟨ad,_⟩
  .exact QM (xaR.2 ⟨k,ax,by rw[<-a8,g2]⟩)
  rw[g2,gT]at ad;cases ad
 |none=>simp only;rw[xab QM];exact ak
end
structure B3 where
 s:hz
 F:List D->Option (List D)
 base:Nat
 pj:List wP
abbrev wX:=Tmp->Option B3
def km(P:Program)(G:c9)(H:wX):Prop:=∀t e,H t=some e->fX P G e.s e.F
def Ld:aS->List Key
 | .row k=>[k]| .map k=>[k]|_=>[]
def Le:aS->List Key
 | .agg cs=>cs.flatMap Ld| .fn _ as gb=>as.flatMap Ld++gb.flatMap Ld|x=>Ld x
def Lf:aS->List Key
 | .ptr k _=>[k]|_=>[]
def Ym:aS->List Key
 | .agg cs=>cs.flatMap Lf| .fn _ as gb=>as.flatMap Lf++gb.flatMap Lf|x=>Lf x
def Yn(objs:cB)(k:Key):List aS:=match objs k with|some (.box cs)=>cs|_=>[]
section
variable{β:Type}
def Yo(T:ca)(G:c9)(C:lz)(σ:aI)(o:Oper)(x:Operand)(args:List Operand)(k:aI->Option β):Option β:=
 let uk:=(x::args).map (b8 G σ.aJ)
 let e3:=uk.flatMap Ym
 let bh:=e3.flatMap (Yn σ.objs)
 let hW:=bh.flatMap Ym
 let bo:=hW.flatMap (Yn σ.objs)
 yL [uk.flatMap Le++bh.flatMap Le++bo.flatMap Le,hW,e3] σ λσ=>yA T G C σ o x args k
def Yp(o:Oper):Tmp:=match o.op,o.dst with| .store _ (.tmp a) _,_=>20000+a| .mapUpdate _ (.tmp a) _ _,_=>30000+a|_,some d=>d|_,none=>9999
def akk:Op->List Operand
 | .buildSlice _ _ jy=>jy.toList.map (·.2)| .build _ jy=>jy.toList.map (·.2)| .box _ x=>[x]| .store _ _ x=>[x]| .mapUpdate _ _ _ x=>[x]| .call ⟨.builtin .append,args,_⟩=>args.toList.drop 1|_=>[]
def B4:D->Option (TypeId×D)
 | .dH t x=>some (t,x)|_=>none
def fY{ei:Type}(t c:Nat)(a b:Option ei):Option ei:=if t=c then a else b
def Lg(qN:TypeId->Option FuncId)(t:TypeId)(k:FuncId->Option D):List TypeId->Option D
 |[]=>none|c::r=>fY t c (match qN c with|some f=>k f|none=>none) (Lg qN t k r)
def QN(T:ca)(G:c9)(C:lz)(σ:aI)(o:Oper)(x:Operand)(name:String)(args:List Operand)(k:aI->Option β):Option β:=match b8 G σ.aJ x with
 | .d a=>match hb ((args.map (b8 G σ.aJ)).map (toD σ.objs))with|some ds=>R (B4 a) λp=>R (Lg (λt=>T.qN t name) p.1 (λf=>C (o.dst.getD 9999) f (p.2::ds)) T.OW) λr=>aD ((args.map (b8 G σ.aJ)).all sM) (k (σ.put o.dst (.d r)))|none=>none
 |_=>none
def QO(T:ca)(G:c9)(C:lz)(H:wX)(j0:Tmp->Bool)(σ:aI)(o:Oper)(k:aI->Option β):Option β:=match o.op with
 | .call ⟨.value x,args,_⟩=>match H (o.dst.getD 9999)with
  |some e=>ow e.pj σ λσ=>QF G e.s e.F e.base σ o x args.toList λaT=>match j0 (o.dst.getD 9999)with|true=>Ft (o.dst.getD 9999) aT k|false=>k aT
  |none=>match j0 (o.dst.getD 9999)with|true=>Yo T G C σ o x args.toList k|false=>yA T G C σ o x args.toList k
 | .call ⟨.invoke x name,args,_⟩=>QN T G C σ o x name args.toList k| .slice _ _ _ _ _=>match j0 (Yp o)with|true=>uE T G σ o λaT=>Ft (o.dst.getD 9999) aT k|false=>uE T G σ o k
 |_=>match j0 (Yp o)with|true=>yL [((akk o.op).map (b8 G σ.aJ)).flatMap Le] σ λσ=>uE T G σ o k|false=>uE T G σ o k
def QP(T:ca)(G:c9)(C:lz)(H:wX)(j0:Tmp->Bool):List Oper->aI->(aI->Option β)->Option β
 |[],σ,k=>k σ|o::r,σ,k=>QO T G C H j0 σ o λaT=>QP T G C H j0 r aT k
def QQ(o:Oper):Bool:=still o||p7 o.op
def yO(T:ca)(G:c9)(C:lz)(H:wX)(j0:Tmp->Bool)(all:Array Oper):List (Option (Nat×Bool)×List Oper)->aI->(aI->Option β)->Option β
 |[],σ,k=>k σ|(none,os)::r,σ,k=>QP T G C H j0 os σ λaT=>yO T G C H j0 all r aT k
 |(some (j,want),os)::r,σ,k=>match(all[j]?).bind (·.dst),wM os with
  |some d,some cq=>match σ.aJ d with
   | .d x=>if os.all (λo=>QQ o&&o.dst !=some d)=true then
     (if(kept all os (flat r)).all (·==cq)=true then
      R (bN x want (sT T G C os σ λaT=>match aT.aJ cq with| .d v=>some v|_=>none)) λv=>yO T G C H j0 all r ((lA (dstsOf os) σ).put (some cq) (.d v)) k
     else R (bN x want (sT T G C os σ λaT=>match Fg aT (kept all os (flat r))with|some l=>some (.agg l)|none=>none)) λv=>yO T G C H j0 all r (wN (kept all os (flat r)) v (lA (dstsOf os) σ)) k)else none
   |_=>none
  |_,_=>none
def Yq(T:ca)(G:c9)(C:lz)(H:wX)(j0:Tmp->Bool)(all:Array Oper)(σ:aI)(k:aI->Option β):Option β:=yO T G C H j0 all (wL all.toList) σ k
end
def B5{objs:cB}{k d:Key}{o:cO}(h:eo (some o)->eo (objs k)\/k=d):∀j,eo (cr objs k (some o) j)->eo (objs j)\/j=d:=by
 intro j aG;by_cases fm:j=k;.subst fm;rw[ew]at aG;exact h aG
 rw[cU _ _ fm]at aG;exact .inl aG
def akl{T:ca}{ev:Operand->aS}{objs:cB}{d:Key}{o:Op}{r:aS}{cE:List (Key×cO)}(h:dR T ev objs d o=some (r,cE)):∀j,eo (dp objs cE j)->eo (objs j)\/j=d:=by
 have new:∀{o:cO},∀j,eo (dp objs [(d,o)] j)->eo (objs j)\/j=d:=by intro o;exact B5 (λ_=> .inr rfl)
 have row:∀{k:Key}{n fI:Nat}{es gj:List (List D)},objs k=some (.row fI gj)->∀j,eo (dp objs [(k,.row n es)] j)->eo (objs j)\/j=d:=by intro k n fI es gj ah;exact B5 (λ_=> .inl (by rw[ah];exact sK))
 have mp:∀{k:Key}{es gj:List (Value×D)},objs k=some (.map gj)->∀j,eo (dp objs [(k,.map es)] j)->eo (objs j)\/j=d:=by intro k es gj ah;exact B5 (λ_=> .inl (by rw[ah];exact wq))
 cases o<;>simp only[dR,reduceCtorEq]at h
 case alloc=>split at h<;>cases h;exact new
 case box=>split at h<;>cases h;exact new
 case buildSlice=>
  split at h
  case h_2=>cases h
  split at h
  case h_2=>cases h
  split at h
  case h_2=>cases h
  split at h<;>cases h;exact new
 case makeSlice=>
  split at h
  case h_2=>cases h
  split at h
  case h_2=>cases h
  split at h
  case h_2=>cases h
  split at h<;>cases h;exact new
 case makeMap=>split at h<;>cases h;exact new
 case store=>
  split at h
  case h_2=>cases h
  split at h
  case isFalse=>cases h
  split at h
  .split at h
   case h_2=>cases h
   split at h<;>cases h;rename_i ah _;exact B5 λ_=> .inl (by rw[ah];exact ui)
  .split at h
   case h_2=>cases h
   split at h
   case isFalse=>cases h
   split at h<;>cases h;exact row (by assumption)
  cases h
 case mapUpdate=>
  split at h
  case h_2=>cases h
  split at h
  case h_2=>cases h
  split at h
  case isFalse=>cases h
  split at h
  case h_2=>cases h
  split at h
  case h_2=>cases h
  split at h<;>cases h;exact mp (by assumption)
 case insert=>
  split at h
  case h_2=>cases h
  split at h
  case h_2=>cases h
  split at h
  case isFalse=>cases h
  split at h
  case h_2=>cases h
  split at h
  case h_2=>cases h
  split at h<;>cases h;exact mp (by assumption)
 case call=>
  split at h
  .split at h
   case h_2=>cases h
   split at h
   case h_2=>cases h
   split at h
   case h_2=>cases h
   split at h
   case h_2=>cases h
   split at h
   case isFalse=>cases h
   split at h;.split at h<;>cases h;exact new
   .split at h
    case h_2=>cases h
    split at h<;>cases h;intro j aG;rcases B5 (d:=d) (λ_=> .inr rfl) j aG with ab|ab
    .exact B5 (λh=>absurd h EO) j ab
    exact .inr ab
   cases h
  .split at h
   case h_2=>cases h
   split at h
   case h_2=>cases h
   split at h
   case h_2=>cases h
   split at h
   case h_2=>cases h
   split at h
   case isFalse=>cases h
   split at h
   .split at h
    case h_2=>cases h
    split at h<;>cases h;exact row (by assumption)
   .split at h
    case h_2=>cases h
    split at h<;>cases h;exact row (by assumption)
   cases h
  .split at h
   case h_2=>cases h
   split at h
   case h_2=>cases h
   split at h
   case h_2=>cases h
   split at h
   case h_2=>cases h
   split at h
   case h_2=>cases h
   split at h<;>cases h;exact row (by assumption)
  cases h
def akm{T:ca}{ev:Operand->aS}{objs:cB}{d:Key}{o:Op}{r:aS}{cE:List (Key×cO)}(h:gK T ev objs d o=some (r,cE)):∀j,eo (dp objs cE j)->eo (objs j)\/j=d:=by
 obtain⟨⟨hx,sJ⟩,aq,ak⟩:=wm h;have ab:=akl aq;intro j aG;by_cases az:j=d
 .exact .inr az
 rcases yg (T.born d) d hx sJ with e|⟨n,es,rfl,rfl,e⟩|⟨p5,n,es,rfl,rfl,e⟩|⟨off,cs,ds,rfl,rfl,eh,e⟩;.rw[ak]at e;cases e;exact ab j aG
 .rw[ak]at e;cases e;exact ab j (by simp only[dp,cU _ _ az]at aG⊢;exact aG)
 .rw[ak]at e;cases e;exact ab j (by simp only[dp,cU _ _ az]at aG⊢;exact aG)
 rw[ak]at e;cases e;exact ab j (by simp only[dp,cU _ _ az]at aG⊢;exact aG)
section
variable{P:Program}{T:ca}{G:c9}{N:Nat}{σ:aI}{all:Array Oper}{ib:List Key}
def fc.put(h:fc ib σ){dst:Option Tmp}{r:aS}:fc ib (σ.put dst r):=by intro k ah ak;rw[aI.wu]at ak;exact h k ah ak
def QR(bW:fc ib σ){o:Oper}(az:∀d,o.dst=some d->d<10000){aT:aI}(h:gr T G σ o=some aT):fc ib aT:=by
 unfold gr at h;split at h;.cases h;exact bW.put
 split at h;.cases h;exact bW.put
 split at h
 case h_2=>cases h
 rename_i r cE he;cases h;refine fc.put ?_;intro k ah ak;rcases akm he k ak with ab|ab
 .exact bW k ah ab
 exfalso;have:o.dst.getD 9999<10000:=by cases aR:o.dst with|none=>simp|some d=>exact az d aR
 exact absurd this (Nat.not_lt.2 (ab▸ah))
def Yr(bW:fc ib σ){o:Oper}(az:∀d,o.dst=some d->d<10000){K:aI->Prop}(h:c3 P T G o K σ):c3 P T G o (λaT=>fc ib aT/\K aT) σ:=by
 unfold c3 at*;split;.rename_i aT av;simp only[av]at h;exact⟨QR bW az av,h⟩
 rename_i av;simp only[av]at h;unfold jk at*;split at h
 case h_2=>cases h
 split at h
 case h_2=>cases h
 obtain⟨m2,ds,eE,ab,ad,ax,a8,b3,cI⟩:=h;exact⟨m2,ds,eE,ab,ad,ax,a8,b3,λr au=>⟨bW.put,cI r au⟩⟩
def QS:∀{l:List Oper}{σ:aI}{K:aI->Prop},fc ib σ->(∀o∈l,∀d,o.dst=some d->d<10000)->fg P T G all l K σ->fg P T G all l (λaT=>fc ib aT/\K aT) σ
 |[],σ,K,bW,_,h=>⟨bW,h⟩|o::l,σ,K,bW,az,h=>by unfold fg at*;rw[hl]at*;cases hw:jz all σ o with|none=>rw[hw]at h;exact h|some w=>rw[hw]at h;cases w with|true=>exact p9 (λaT ⟨ab,ad⟩=>QS ab (λo aR=>az o (by simp[aR])) ad) (Yr bW (az o (by simp)) h)|false=>exact QS bW.put (λo aR=>az o (by simp[aR])) h
end
section
variable{P:Program}{T:ca}{G:c9}{C:lz}{H:wX}{j0:Tmp->Bool}{N:Nat}{σ:aI}{all:Array Oper}{ib:List Key}
def ox(P:Program)(G:c9)(N:Nat)(all:Array Oper)(i:Nat)(l:List Oper)(K:aI->Prop)(σ:aI):Prop:= ∀m fr ρ a w (Q:Exit->Act->World->Prop),jv G m->Den m fr ρ σ a w->N<=a.tmps.size->a.defers=[]->(∀cx w',iJ N m fr ρ σ K cx w'->Q .normal cx w')->wpOps P all Q (List.range' i l.length) a w
def iX(P:Program)(G:c9)(N:Nat)(o:Oper)(K:aI->Prop)(σ:aI):Prop:= ∀m fr ρ a w (Q:Exit->Act->World->Prop),jv G m->Den m fr ρ σ a w->N<=a.tmps.size->a.defers=[]->o.wp P a w (iJ N m fr ρ σ K) Q
def akn{i:Nat}{K:aI->Prop}(h:K σ):ox P G N all i [] K σ:=λm fr ρ a w Q cM cK cd az hM=>hM a w ⟨σ,m,ρ,h,Mem.le_refl m,cK,cd,az,kD.refl _ _⟩
def ako{i:Nat}{o:Oper}{l:List Oper}{K:aI->Prop}(ag:all[i]?=some o)(bB:o.guard=none)(h:iX P G N o (ox P G N all (i+1) l K) σ):ox P G N all i (o::l) K σ:=by
 intro m fr ρ a w Q cM cK cd az hM;rw[xak,List.range'_succ,wpOps_cons];refine wpOp_mono (K:=iJ N m fr ρ σ (ox P G N all (i+1) l K)) ?_ ?_;.rintro cx w' ⟨aT,cG,cR,bG,bw,cl,dA,dZ,eU⟩;exact bG cG fr cR cx w' Q (cM.mono bw) cl dA dZ λpc kE au=>hM pc kE (au.trans bw eU)
 unfold wpOp;simp only[ag];have:Region.wanted o (yielded all a.tmps)=true:=by simp[Region.wanted,bB]
 rw[xaa this];exact .inl (h m fr ρ a w Q cM cK cd az)
def iX.mono{o:Oper}{K K':aI->Prop}(ah:∀σ,K σ->K' σ)(h:iX P G N o K σ):iX P G N o K' σ:=λm fr ρ a w Q cM cK cd az=>by
  have:=h m fr ρ a w Q cM cK cd az;unfold Oper.wp at*;generalize (execOp a.eval o).run P w=r at*;cases r with
  |ok n w'=>
   cases n<;>simp only[Oper.upon]at this⊢<;>first|exact this.mono ah|exact this|skip
   .refine this.mono λe kE he=>?_;cases e with|returned v=>exact he.mono ah|panicked c=>exact he|outgrown=>exact he
   exact this.mono λv kE he=>he.mono ah
  |halt x w'=>cases x<;>exact this
def iX.Fh{o:Oper}{K:aI->Prop}{τ:aI}(he:gC σ τ)(h:iX P G N o K τ):iX P G N o K σ:=by
 intro m fr ρ a w Q cM cK cd az;obtain⟨cG,cR,ab,ad,ax⟩:=he m fr ρ a w cK;have:=h cG fr cR a w Q (cM.mono ab) ad cd az;unfold Oper.wp at*;generalize (execOp a.eval o).run P w=r at*;cases r with
 |ok n w'=>
  cases n<;>simp only[Oper.upon]at this⊢<;>first|exact this.trans ab ax|exact this|skip
  .refine this.mono λe kE he=>?_;cases e with|returned v=>exact he.trans ab ax|panicked c=>exact he|outgrown=>exact he
  exact this.mono λv kE he=>he.trans ab ax
 |halt x w'=>cases x<;>exact this
def QT(bb:dy P T){o:Oper}(gB:∀d,o.dst=some d->d<N){K:aI->Prop}(h:c3 P T G o K σ):iX P G N o K σ:=λm fr ρ a w Q cM cK cd az=>Py bb cM cK cd az gB h
def akp{ks:List Key}(h:fc ib σ):fc ib (freeze ks σ):=by
 intro k ah ak;have fU:eo (if k∈ks then some .dead else(σ.objs k).map (Fp σ.objs ks)):=ak;split at fU
 .exact absurd fU EO
 cases aR:σ.objs k with|none=>rw[aR]at fU;exact absurd fU uj|some dC=>rw[aR]at fU;cases dC with|box cs=>exact h k ah (by rw[aR];exact ui)|dead=>exact absurd fU EO|row=>exact h k ah (by rw[aR];exact sK)|map=>exact h k ah (by rw[aR];exact wq)
def FB{β:Type}:∀{l:List (List Key)} {σ:aI} {k:aI->Option β} {b:β},fc ib σ->yL l σ k=some b->∃τ,gC σ τ/\fc ib τ/\k τ=some b
 |[],σ,k,b,bW,h=>⟨σ,gC.refl σ,bW,h⟩
 |ks::r,σ,k,b,bW,h=>by
  unfold yL at h;split at h;.exact FB bW h
  split at h
  case isFalse=>cases h
  rename_i ea;obtain⟨τ,ab,ad,ax⟩:=FB (akp bW) h;exact⟨τ,(aj3 _ ea).trans ab,ad,ax⟩
def Ys{β:Type}{t:Tmp}{σ:aI}{k:aI->Option β}{b:β}(bW:fc ib σ)(h:Ft t σ k=some b):∃τ,gC σ τ/\fc ib τ/\k τ=some b:=by
 unfold Ft at h;split at h
 case h_2=>cases h
 rename_i key cN i len aF;split at h
 case h_2=>cases h
 rename_i bu es ah aq;split at h
 case isFalse=>cases h
 rename_i dd;obtain⟨dd,jD,m4⟩:=dd;subst dd;obtain⟨ab,ad⟩:=lx h;refine⟨_,aj4 aF ah aq (xaX ab) jD,?_,ad⟩;intro j aG ai;simp only at ai;by_cases ax:j=t;.subst ax;exact absurd m4 (Nat.not_lt.2 aG)
 rw[cU _ _ ax]at ai;by_cases a8:j=key;.subst a8;exact absurd jD (Nat.not_lt.2 aG)
 rw[cU _ _ a8]at ai;exact bW j aG ai
def iX.out{o:Oper}{K:aI->Prop}(h:iX P G N o (λaT=>∃τ,gC aT τ/\K τ) σ):iX P G N o K σ:=λm fr ρ a w Q cM cK cd az=>by
  have key:∀{cx w'},iJ N m fr ρ σ (λaT=>∃τ,gC aT τ/\K τ) cx w'->iJ N m fr ρ σ K cx w':=by rintro cx w' ⟨aT,cG,cR,⟨τ,g1,g2⟩,ad,ax,a8,b3,cI⟩;obtain⟨yn,yo,aN,aV,bS⟩:=g1 cG fr cR cx w' ax;exact⟨τ,yn,yo,g2,Mem.le_trans ad aN,aV,a8,b3,cI.trans bS⟩
  have:=h m fr ρ a w Q cM cK cd az;unfold Oper.wp at*;generalize (execOp a.eval o).run P w=r at*;cases r with
  |ok n w'=>
   cases n<;>simp only[Oper.upon]at this⊢<;>first|exact key this|exact this|skip
   .refine this.mono λe kE he=>?_;cases e with|returned v=>exact key he|panicked c=>exact he|outgrown=>exact he
   exact this.mono λv kE he=>key he
  |halt x w'=>cases x<;>exact this
def Yt{β:Type}(bb:dy P T)(cg:gM P G C){o:Oper}(gB:∀d,o.dst=some d->d<N){x:Operand}{args:Array Operand}{dq:Array TypeId}(aR:o.op= .call ⟨.value x,args,dq⟩){k:aI->Option β}{b:β}(bW:fc ib σ) (h:yA T G C σ o x args.toList k=some b):iX P G N o (λaT=>k aT=some b/\fc ib aT) σ:=by refine QT bb gB (p9 ?_ (KX (T:=T) cg aR h));rintro aT ⟨ab,ad,_⟩;refine⟨ab,λj aG ak=>bW j aG (by rw[<-ad];exact ak)⟩
def Yu{qN:TypeId->Option FuncId}{t:TypeId}{k:FuncId->Option D}{r:D}:∀{l:List TypeId},Lg qN t k l=some r->∃f,qN t=some f/\k f=some r
 |[],h=>by cases h
 |c::l,h=>by
  unfold Lg fY at h;split at h
  .rename_i ai;subst ai;split at h;.rename_i f ba;exact⟨f,ba,h⟩
   cases h
  exact Yu h
def akq{P:Program}{t:TypeId}{name:String}{f:FuncId}(hm:JK P t name f)(n:Nat)(v:Value)(w:World):(method (n+1) t v name).run P w= .ok (f,v) w:=by
 obtain⟨info,m,d,ab,ad,ax,a8,b3,cI⟩:=hm;have aN:(typeInfo t).run P w= .ok info w:=by simp[typeInfo,ab]
 unfold method;simp only[xah,aN,xaf,ad,ax,follow,xav,a8,receiverAt,xat b3];cases d<;>first|(simp only[Place.get,xav,xaf];done)|(exact absurd rfl (cI _))
def akr{P:Program}{va:Operand->Value}{x:Operand}{name:String}{args:Array Operand}{dq:Array TypeId}{ty:TypeId}{t:TypeId}{v:Value}{f:FuncId}{w:World}(ae:va x= .iface t v)(hm:JK P t name f)(ba:wo P f):(do let d<-resolve va {callee:= .invoke x name,args:=args,argTypes:=dq} ty;invoke d.target d.args:Sem Next).run P w= .ok (.enter f (#[v]++args.map va)) w:=by
 obtain⟨fn,ab,ad,ax⟩:=ba;have hL:0<Made.depth:=by decide
 have az:∃n,P.types.size+Made.depth=n+1:=⟨P.types.size+Made.depth-1,by omega⟩;obtain⟨n,aC⟩:=az;have bO:(#[Value.iface t v]++args.map va)[0]?=some (Value.iface t v):=by rw[xbM (by simp)];rfl
 have aN:(#[Value.iface t v]++args.map va).extract 1 (#[Value.iface t v]++args.map va).size=args.map va:=by apply xbG;simp[List.extract,xbw]
 have aV:(program:Sem Program).run P w= .ok P w:=rfl;have yN:=akq hm n v w;have QU:(callFunc f (#[v]++args.map va)).run P w= .ok (.enter f (#[v]++args.map va)) w:=by simp only[callFunc,xah,aV,xaf,ab,ad,ax,xaq,xaA,xav]
 simp only[xah,resolve,ae,xav,xaf,invoke,bO,aN,callMethod,aV,aC,yN,QU]
def aks{β:Type}(bb:dy P T)(cg:gM P G C){o:Oper}(gB:∀d,o.dst=some d->d<N){x:Operand}{name:String}{args:Array Operand}{dq:Array TypeId}(aR:o.op= .call ⟨.invoke x name,args,dq⟩){k:aI->Option β}{b:β}(bW:fc ib σ) (h:QN T G C σ o x name args.toList k=some b):iX P G N o (λaT=>k aT=some b/\fc ib aT) σ:=by
 unfold QN at h;split at h
 case h_2=>cases h
 rename_i d az;split at h
 case h_2=>cases h
 rename_i ds eh;obtain⟨p,aU,h⟩:=ef h;obtain⟨r,au,h⟩:=ef h;obtain⟨b3,cI⟩:=lx h;obtain⟨f,ba,QU⟩:=Yu au;have Yv:=cg _ _ _ _ QU;have EZ:=bb.JL _ _ _ ba;obtain⟨t,y⟩:=p;have akt:d= .dH t y:=by
  unfold B4 at aU;split at aU;.cases aU;rfl
  cases aU
 subst akt;intro m fr ρ a w Q cM QV cd hc;have dh:=Es (a:=a) cM QV.aJ;have iK:∀d,o.dst=some d->d<a.tmps.size:=λd az=>xcm (gB d az) cd;have sL:∀v,N<=(a.put o.dst v).tmps.size:=by intro v;cases o.dst<;>simpa[Act.put]using cd
 have lY:∀v,(a.put o.dst v).defers=[]:=by intro v;cases o.dst<;>exact hc
 have ae:=dh x;rw[az]at ae;have ae:=ae.n5;obtain⟨v,Pk,aku⟩:∃v,a.eval x= .iface t v/\cY m y v:=by generalize a.eval x=u at ae;cases ae with|dH _ _ v h=>exact⟨v,rfl,h⟩
 have Pw:(execOp a.eval o).run P w= .ok (.enter f (#[v]++args.map a.eval)) w:=by unfold execOp;rw[aR];exact akr Pk EZ Yv.fn
 unfold Oper.wp;rw[Pw];have Px:n9 m (y::ds) (#[v]++args.map a.eval).toList:=by obtain⟨g1,g2⟩:=qX eh;refine⟨by simp[g1],?_⟩;intro i d kh az aK;simp only[Array.toList_append,xbv,xaI,Array.toList_map]at aK;cases i with|zero=>simp at az aK;subst az;subst aK;exact aku|succ i=>simp only[xch]at az aK;have g3:=g2 i d az;simp only[xag,xaj]at g3 aK;obtain⟨z,⟨q,bP,rfl⟩,akv⟩:=g3;obtain⟨az8,Yw,rfl⟩:=aK;rw[bP]at Yw;cases Yw;exact Pu (xau.1 b3 _ (xaR.2 ⟨q,xac bP,rfl⟩)) akv (dh q)
 have sN:=Yv.run m _ w _ cM QV.Wt Px;simp only[Array.toArray_toList]at sN;refine sN.mono λe w' he=>?_;obtain⟨kh,cG,sz,rfl,bG,bw,cl,dA⟩:=he;subst bG;have akw:=QV.kept bw cl;exact⟨_,cG,ρ,⟨cI,λj aG ak=>bW j aG (by simpa using ak)⟩,bw,akw.put (.d _ _ dA) iK,sL kh,lY kh,λk ah ak=>⟨by simpa using ak,rfl⟩⟩
def akx{β:Type}(bb:dy P T)(cg:gM P G C)(fh:km P G H)(cd:N<10000){o:Oper}(gB:∀d,o.dst=some d->d<N){k:aI->Option β}{b:β}(bW:fc ib σ)(h:QO T G C H j0 σ o k=some b):iX P G N o (λaT=>k aT=some b/\fc ib aT) σ:=by
 unfold QO at h;split at h
 .rename_i x args dq aR;split at h
  .rename_i e he;obtain⟨τ,t1,QW,h⟩:=sV bW h;refine iX.Fh t1 ?_;generalize e1:(λaT=>match j0 (o.dst.getD 9999)with|true=>Ft (o.dst.getD 9999) aT k|false=>k aT)=bu at h;have main:iX P G N o (λaT=>bu aT=some b/\fc ib aT) τ:=by refine iX.mono (K:=λaT=>bu aT=some b/\∀p,10000<=p->eo (aT.objs p)->eo (τ.objs p)) (λaT ⟨ab,ad⟩=>⟨ab,λp aU ak=>QW p aU (ad p aU ak)⟩) ?_;intro m fr ρ a w Q cM cK nu az;exact akc cM cK nu az gB (fh _ _ he) aR h (Q:=Q)
   refine iX.out (iX.mono ?_ main);rintro aT ⟨ab,ad⟩;subst e1;simp only at ab;split at ab;.obtain⟨aky,g1,g2,g3⟩:=Ys ad ab;exact⟨aky,g1,g3,g2⟩
   exact⟨aT,gC.refl aT,ab,ad⟩
  split at h;.unfold Yo at h;simp only at h;obtain⟨τ,ab,ad,ax⟩:=FB bW h;exact iX.Fh ab (Yt bb cg gB aR ad ax)
  exact Yt bb cg gB aR bW h
 .rename_i x name args dq aR;exact aks bb cg gB aR bW h
 .have step:∀{τ:aI}{k:aI->Option β},fc ib τ->uE T G τ o k=some b->iX P G N o (λaT=>k aT=some b/\fc ib aT) τ:=by
   intro τ k bW h;obtain⟨aT,ab,ad⟩:=BV h;refine QT bb gB ?_;unfold c3;rw[ab];exact⟨ad,QR bW (λd az=>Nat.lt_trans (gB d az) cd) ab⟩
  split at h;.refine iX.out (iX.mono ?_ (step bW h));rintro aT ⟨ab,ad⟩;obtain⟨τ,g1,g2,g3⟩:=Ys ad ab;exact⟨τ,g1,g3,g2⟩
  exact step bW h
 have step:∀{τ:aI},fc ib τ->uE T G τ o k=some b->iX P G N o (λaT=>k aT=some b/\fc ib aT) τ:=by intro τ bW h;obtain⟨aT,ab,ad⟩:=BV h;refine QT bb gB ?_;unfold c3;rw[ab];exact⟨ad,QR bW (λd az=>Nat.lt_trans (gB d az) cd) ab⟩
 split at h;.obtain⟨τ,ab,ad,ax⟩:=FB bW h;exact iX.Fh ab (step ad ax)
 exact step bW h
def Yx{β:Type}(bb:dy P T)(cg:gM P G C)(fh:km P G H)(cd:N<10000){K:aI->Prop}:∀{os:List Oper}{r:List Oper}{i:Nat}{σ:aI}{k:aI->Option β}{b:β},(∀o∈os,o.guard=none)->(∀o∈os,∀d,o.dst=some d->d<N)->(∀j,(os++r)[j]?=all[i+j]?)->fc ib σ->(∀aT,fc ib aT->k aT=some b->ox P G N all (i+os.length) r K aT)->QP T G C H j0 os σ k=some b->ox P G N all i (os++r) K σ
 |[],r,i,σ,k,b,_,_,_,bW,ah,h=>ah σ bW h
 |o::os,r,i,σ,k,b,bB,az,fS,bW,ah,h=>by
  have ag:all[i]?=some o:=by simpa using(fS 0).symm
  refine ako ag (bB o (by simp)) (iX.mono ?_ (akx bb cg fh cd (az o (by simp)) bW h));rintro aT ⟨ab,ad⟩;refine Yx bb cg fh cd (λo aR=>bB o (by simp[aR])) (λo aR=>az o (by simp[aR])) (λj=>by have:=fS (j+1);simpa[xbg,Nat.add_comm 1 j]using this) ad ?_ ab;intro q5 ax a8;have:=ah q5 ax a8;rw[show i+(o::os).length=i+1+os.length by simp;omega]at this;exact this
def b2.shrink{m yP:Mem}{ρ QX:c5}{U qb:Key->Prop}{x:aS}{v:Value}(h:b2 m ρ U x v):∀{v0:Value},b2 yP QX qb x v0->b2 m ρ qb x v:=by
 induction h with
 |any v=>intro v0 _;exact .any _
 |d x v h=>intro v0 _;exact .d _ _ h
 |agg cs vs an h ih=>
  intro v0 aq;cases aq with|agg _ yQ jo FC=>
  refine .agg _ _ an λi c v ai aK=>?_;have ag:i<yQ.size:=by rw[jo];exact(xae.1 ai).1
  exact ih i c v ai aK (FC i c _ ai (xam ag))
 |aO cs vs an h ih=>
  intro v0 aq;cases aq with|aO _ yQ jo FC=>
  refine .aO _ _ an λi c v ai aK=>?_;have ag:i<yQ.size:=by rw[jo];exact(xae.1 ai).1
  exact ih i c v ai aK (FC i c _ ai (xam ag))
 |ek cs off b o vs T dM ak xs ab ad=>intro v0 _;exact .ek _ _ b o vs T dM ak xs ab ad
 |ptr key off b hu h=>intro v0 aq;cases aq with|ptr _ _ _ lW _=>exact .ptr _ _ b lW h
 |fR key k i off b o len cap hu h=>intro v0 aq;cases aq with|fR _ _ _ _ _ _ _ _ lW _=>exact .fR _ _ _ _ b o len cap lW h
 |row key hu=>intro v0 aq;cases aq with|row _ lW=>exact .row _ lW
 |sub key k i len b o L cap a hu h hle aH=>intro v0 aq;cases aq with|sub _ _ _ _ _ _ _ _ _ lW=>exact .sub _ _ _ _ b o L cap a lW h hle aH|ju _ _ _ lW=>exact .sub _ _ _ _ b o L cap a lW h hle aH
 |ju key k i hu h=>intro v0 aq;cases aq with|sub _ _ _ _ _ _ _ _ _ lW=>exact .ju _ _ _ lW h|ju _ _ _ lW=>exact .ju _ _ _ lW h
 |map key hu=>intro v0 aq;cases aq with|map _ lW=>exact .map _ lW
 |fn f first captured vs ws an en h bs ih ss=>
  intro v0 aq;cases aq with|fn _ _ _ yQ akz jo akA FC akB=>
  refine .fn _ _ _ _ _ an en (λi c v ai aK=>?_) (λi c v ai aK=>?_)
  .have ag:i<yQ.size:=by rw[jo];exact(xae.1 ai).1
   exact ih i c v ai aK (FC i c _ ai (xam ag))
  .have ag:i<akz.size:=by rw[akA];exact(xae.1 ai).1
   exact ss i c v ai aK (akB i c _ ai (xam ag))
def iQ.shrink{m yP:Mem}{ρ QX:c5}{U qb:Key->Prop}{o:cO}{v v0:Value}{w w0:World}(h:iQ m ρ U v w o)(aq:iQ yP QX qb v0 w0 o):iQ m ρ qb v w o:=by
 cases o with
 |dead=>trivial
 |box cs=>
  obtain⟨b,vs,T,aN,aV,bS,cT⟩:=h;obtain⟨oy,yQ,e9,f1,f2,f3,f4⟩:=aq;refine⟨b,vs,T,aN,aV,bS,λi c x ai ae=>?_⟩;have ag:i<yQ.size:=by rw[f3];exact(xae.1 ai).1
  exact(cT i c x ai ae).shrink (f4 i c _ ai (xam ag))
 |row=>exact h|map=>exact h
def akC{m cG:Mem}{fr:eS}{ρ cR:c5}{σ aT:aI}{a cx:Act}{w w':World}{ds:List Tmp}(h:Den m fr ρ σ a w)(bs:Den cG fr cR aT cx w')(o9:cB.ext σ.objs aT.objs)(av:∀t,t∉ds->aT.aJ t=σ.aJ t){cq:Tmp}{v:D}(aK:aT.aJ cq= .d v)(yG:cq∈ds):Den cG fr cR ((lA ds σ).put (some cq) (.d v)) cx w':=by
 have hk:((lA ds σ).put (some cq) (.d v)).objs=σ.objs:=by simp[lA]
 refine⟨bs.mem,bs.frame,bs.apart,?_,?_,?_,?_,?_⟩;.rintro k ⟨o,aR⟩;rw[hk]at aR;exact bs.one k ⟨o,o9 k o aR⟩
 .intro t;by_cases m4:t=cq;.subst m4;simp only[aI.put,ew];have:=bs.aJ t;rw[aK]at this;exact .d _ _ this.n5
  simp only[aI.put,cU _ _ m4,lA];split;.exact .any _
  rename_i aC;have ab:=bs.aJ t;rw[av t aC]at ab;exact ab.shrink (h.aJ t)
 .intro k o ah;rw[hk]at ah;exact(bs.objs k o (o9 k o ah)).shrink (h.objs k o ah)
 .intro k o b ah aR ak;rw[hk]at ah;exact bs.own k o b (o9 k o ah) aR ak
 intro k bu o o' b cf ah e1 aR oh ak;rw[hk]at ah e1;exact bs.sep k bu o o' b cf (o9 k o ah) (o9 bu o' e1) aR oh ak
def akD{m cG:Mem}{fr:eS}{ρ cR:c5}{σ aT:aI}{a cx:Act}{w w':World}{ds:List Tmp}(h:Den m fr ρ σ a w)(bs:Den cG fr cR aT cx w')(o9:cB.ext σ.objs aT.objs)(av:∀t,t∉ds->aT.aJ t=σ.aJ t){ts:List Tmp}{v:D}(aK:∀t∈ts,aT.aJ t= .d (aa v (ts.idxOf t))):Den cG fr cR (wN ts v (lA ds σ)) cx w':=by
 have hk:(wN ts v (lA ds σ)).objs=σ.objs:=rfl;refine⟨bs.mem,bs.frame,bs.apart,?_,?_,?_,?_,?_⟩;.rintro k ⟨o,aR⟩;rw[hk]at aR;exact bs.one k ⟨o,o9 k o aR⟩
 .intro t;by_cases m4:t∈ts
  .have ad:(wN ts v (lA ds σ)).aJ t= .d (aa v (ts.idxOf t)):=by simp only[wN,xaa m4]
   rw[ad];have:=bs.aJ t;rw[aK t m4]at this;exact .d _ _ this.n5
  have ad:(wN ts v (lA ds σ)).aJ t=(lA ds σ).aJ t:=by simp only[wN,xab m4]
  rw[ad];simp only[lA];split;.exact .any _
  rename_i aC;have ab:=bs.aJ t;rw[av t aC]at ab;exact ab.shrink (h.aJ t)
 .intro k o ah;rw[hk]at ah;exact(bs.objs k o (o9 k o ah)).shrink (h.objs k o ah)
 .intro k o b ah aR ak;rw[hk]at ah;exact bs.own k o b (o9 k o ah) aR ak
 intro k bu o o' b cf ah e1 aR oh ak;rw[hk]at ah e1;exact bs.sep k bu o o' b cf (o9 k o ah) (o9 bu o' e1) aR oh ak
theorem akE{T:ca}{ev:Operand->aS}{objs:cB}{d:Key}{op:Op}{r:aS}{cE:List (Key×cO)}(av:p7 op=true)(he:gK T ev objs d op=some (r,cE)):objs d=none:=(BG (objs':=λ_=>none) av rfl he).2.1
def akF{β:Type}(cg:gM P G C){o:Oper}(av:QQ o=true){k:aI->Option β}{b:β}(h:sS T G C σ o k=some b):c3 P T G o (λaT=>k aT=some b/\cB.ext σ.objs aT.objs/\∀t,o.dst≠some t->aT.aJ t=σ.aJ t) σ:=by
 rcases xbF.1 av with av|av;.refine p9 ?_ (XS cg av h);rintro aT ⟨ab,ad,ax⟩;exact⟨ab,by rw[ad];exact λ_ _ h=>h,ax⟩
 have XT:∀x args dq,o.op≠ .call ⟨.value x,args,dq⟩:=by intro x args dq he;rw[he]at av;cases av
 unfold sS at h;split at h;.exact absurd (by assumption) (XT _ _ _)
 obtain⟨aT,ab,ad⟩:=BV h;unfold c3;rw[ab];unfold gr at ab;rw[(qZ (objs:=σ.objs) av).1,(qZ av).2]at ab;simp only at ab;split at ab
 case h_2=>cases ab
 rename_i r cE he;cases ab;have oe:σ.objs (o.dst.getD 9999)=none:=akE av he;obtain⟨_,_,hV,rfl⟩:=BG av oe he;refine⟨ad,?_,λt aF=>re aF⟩;rw[aI.wu];exact cB.Kf oe hV
def QY{β:Type}(cg:gM P G C){j:Nat}{want:Bool}{d:Tmp}(az:(all[j]?).bind (·.dst)=some d):∀{os:List Oper}{σ:aI}{k:aI->Option β}{b:β},(∀o∈os,o.guard=some (j,want))->(∀o∈os,QQ o=true/\o.dst≠some d)->σ.aJ d= .d (.val (.bool want))->sT T G C os σ k=some b->fg P T G all os (λaT=>k aT=some b/\cB.ext σ.objs aT.objs/\∀t,t∉dstsOf os->aT.aJ t=σ.aJ t) σ
 |[],σ,k,b,_,_,_,h=>⟨h,λ_ _ h=>h,λ_ _=>rfl⟩
 |o::os,σ,k,b,bB,av,hw,h=>by
  have aq:=av o (by simp);unfold fg dY;rw[bB o (by simp)];simp only[az,hw,xaz];refine p9 ?_ (akF cg aq.1 h);rintro aT ⟨ab,ad,ax⟩;refine mE ?_ (QY cg az (λo aR=>bB o (by simp[aR])) (λo aR=>av o (by simp[aR])) (by rw[ax d aq.2];exact hw) ab);rintro q5 ⟨g1,g2,g3⟩;refine⟨g1,λcN Yy aR=>g2 cN Yy (ad cN Yy aR),?_⟩;intro t aF;have ph:t∉dstsOf os:=λai=>aF (by unfold dstsOf at ai⊢;simp only[xbP];cases o.dst<;>simp[ai])
  have yE:o.dst≠some t:=λai=>aF (by unfold dstsOf;simp[ai]);rw[g3 t ph,ax t yE]
def QZ(bb:dy P T){fr:eS}{Q:Exit->Act->World->Prop}:∀(os r:List Oper)(i:Nat)(m:Mem)(ρ:c5)(σ:aI)(a:Act)(w:World)(K:aI->Prop),(∀j,(os++r)[j]?=all[i+j]?)->jv G m->Den m fr ρ σ a w->N<=a.tmps.size->a.defers=[]->(∀o∈os,∀d,o.dst=some d->d<N)->fg P T G all os K σ->(∀cx w',iJ N m fr ρ σ K cx w'->wpOps P all Q (List.range' (i+os.length) r.length) cx w')->wpOps P all Q (List.range' i (os++r).length) a w
 |[],r,i,m,ρ,σ,a,w,K,_,cM,h,cd,hc,_,aK,Q0=>Q0 a w ⟨σ,m,ρ,aK,Mem.le_refl m,h,cd,hc,kD.refl _ _⟩
 |o::os,r,i,m,ρ,σ,a,w,K,an,cM,h,cd,hc,gB,aK,Q0=>by
  rw[xbv,xak,List.range'_succ,wpOps_cons];have ag:all[i]?=some o:=by simpa using(an 0).symm
  refine wpOp_mono ?_ (Pz bb cM h cd hc ag (gB o (by simp)) aK);rintro cx w' ⟨aT,cG,cR,bG,bw,cl,dA,dZ,eU⟩;refine QZ bb os r (i+1) cG cR aT cx w' K (λj=>by have:=an (j+1);simpa[xbg,Nat.add_comm 1 j]using this) (cM.mono bw) cl dA dZ (λo aR=>gB o (by simp[aR])) bG ?_;intro pc kE au;have:=Q0 pc kE (au.trans bw eU);rw[show i+(o::os).length=i+1+os.length by simp;omega]at this;exact this
theorem Yz(i:Nat):aa jY i=jY:=by unfold aa;cases i<;>rfl
def FD{β:Type}(bb:dy P T)(cg:gM P G C)(fh:km P G H)(cd:N<10000){K:aI->Prop}:∀{gs:List (Option (Nat×Bool)×List Oper)} {i:Nat} {σ:aI} {k:aI->Option β} {b:β},(∀g∈gs,∀o∈g.2,o.guard=g.1)->(∀o∈flat gs,∀d,o.dst=some d->d<N)->(∀j,(flat gs)[j]?=all[i+j]?)->fc ib σ->(∀aT,fc ib aT->k aT=some b->K aT)->yO T G C H j0 all gs σ k=some b->ox P G N all i (flat gs) K σ
 |[],i,σ,k,b,_,_,_,bW,ah,h=>akn (ah σ bW h)|(none,os)::r,i,σ,k,b,bB,az,fS,bW,ah,h=>by show ox P G N all i (os++flat r) K σ;refine Yx bb cg fh cd (λo aR=>bB (none,os) (by simp) o aR) (λo aR=>az o (by simp[flat,aR])) fS bW ?_ h;intro aT ab ad;refine FD bb cg fh cd (λg hm=>bB g (by simp[hm])) (λo aR=>az o (by simp only[flat,xcd,xaL];exact .inr aR)) ?_ ab ah ad;intro j;have:=fS (os.length+j);rw[<-xbg]at this;rw[<-this];show _=(os++flat r)[os.length+j]?;rw[xaD (by omega)];simp
 |(some (j,want),os)::r,i,σ,k,b,bB,az,fS,bW,ah,h=>by
  show ox P G N all i (os++flat r) K σ;unfold yO at h;split at h
  case h_2=>cases h
  rename_i d cq B6 yG;split at h
  case h_2=>cases h
  rename_i x ae;split at h
  case isFalse=>cases h
  rename_i bq;simp only[xau,xao,bne_iff_ne,ne_eq]at bq;split at h
  .obtain⟨v,ab,ad⟩:=ef h;have hd:∀o∈os,o.guard=some (j,want):=λo aR=>bB (some (j,want),os) (by simp) o aR;have Q1:ox P G N all (i+os.length) (flat r) K ((lA (dstsOf os) σ).put (some cq) (.d v)):=by
    refine FD bb cg fh cd (λg hm=>bB g (by simp[hm])) (λo aR=>az o (by simp only[flat,xcd,xaL];exact .inr aR)) ?_ (fc.put (σ:=lA (dstsOf os) σ) bW) ah ad;intro FE;have:=fS (os.length+FE);rw[<-xbg]at this;rw[<-this];show _=(os++flat r)[os.length+FE]?;rw[xaD (by omega)];simp
   have aK:fg P T G all os (λaT=>cB.ext σ.objs aT.objs/\(∀t,t∉dstsOf os->aT.aJ t=σ.aJ t)/\aT.aJ cq= .d v) σ:=by
    unfold bN at ab;split at ab
    .rename_i nr;split at ab
     .rename_i ak;subst ak;refine mE ?_ (QY cg B6 hd bq ae ab);rintro aT ⟨g1,g2,g3⟩;refine⟨g2,g3,?_⟩;split at g1;.rename_i u hu;cases g1;exact hu
      cases g1
     rename_i ak;cases ab;refine mE ?_ (Fi B6 hd (λo aR=>(bq o aR).2) (.inl (by rw[ae];cases nr<;>cases want<;>simp_all)));rintro aT ⟨g1,g2,g3⟩;exact⟨by rw[g1];exact λ_ _ h=>h,g2,g3 cq yG⟩
    .rename_i vs;cases ab;refine mE ?_ (Fi B6 hd (λo aR=>(bq o aR).2) (.inr ⟨_,ae⟩));rintro aT ⟨g1,g2,g3⟩;exact⟨by rw[g1];exact λ_ _ h=>h,g2,g3 cq yG⟩
    cases ab
   intro m fr ρ a w Q cM cK nu hc hM;refine QZ bb os (flat r) i m ρ σ a w _ fS cM cK nu hc (λo aR=>az o (by simp[flat,aR])) aK ?_;rintro cx w' ⟨aT,cG,cR,⟨g1,g2,g3⟩,bw,cl,dA,dZ,eU⟩;have l5:=akC cK cl g1 g2 g3 (XY yG);refine Q1 cG fr cR cx w' Q (cM.mono bw) l5 dA dZ ?_;intro pc kE au;refine hM pc kE (au.trans bw ?_);intro cN dd ak;exact⟨by rw[aI.wu];exact ak,(eU cN dd ak).2⟩
  obtain⟨v,ab,ad⟩:=ef h;have hd:∀o∈os,o.guard=some (j,want):=λo aR=>bB (some (j,want),os) (by simp) o aR;have Q1:ox P G N all (i+os.length) (flat r) K (wN (kept all os (flat r)) v (lA (dstsOf os) σ)):=by refine FD bb cg fh cd (λg hm=>bB g (by simp[hm])) (λo aR=>az o (by simp only[flat,xcd,xaL];exact .inr aR)) ?_ bW ah ad;intro FE;have:=fS (os.length+FE);rw[<-xbg]at this;rw[<-this];show _=(os++flat r)[os.length+FE]?;rw[xaD (by omega)];simp
  have aK:fg P T G all os (λaT=>cB.ext σ.objs aT.objs/\(∀t,t∉dstsOf os->aT.aJ t=σ.aJ t)/\(∀t∈kept all os (flat r),aT.aJ t= .d (aa v ((kept all os (flat r)).idxOf t)))) σ:=by
   unfold bN at ab;split at ab
   .rename_i nr;split at ab
    .rename_i ak;subst ak;refine mE ?_ (QY cg B6 hd bq ae ab);rintro aT ⟨g1,g2,g3⟩;refine⟨g2,g3,?_⟩;split at g1;.rename_i l an;cases g1;exact λt aF=>ajM an aF
     cases g1
    rename_i ak;cases ab;refine mE ?_ (Qn B6 hd (λo aR=>(bq o aR).2) (.inl (by rw[ae];cases nr<;>cases want<;>simp_all)));rintro aT ⟨g1,g2,g3⟩;exact⟨by rw[g1];exact λ_ _ h=>h,g2,λt aF=>by rw[g3 t (xby.1 aF).1,Yz]⟩
   .rename_i vs;cases ab;refine mE ?_ (Qn B6 hd (λo aR=>(bq o aR).2) (.inr ⟨_,ae⟩));rintro aT ⟨g1,g2,g3⟩;exact⟨by rw[g1];exact λ_ _ h=>h,g2,λt aF=>by rw[g3 t (xby.1 aF).1,Yz]⟩
   cases ab
  intro m fr ρ a w Q cM cK nu hc hM;refine QZ bb os (flat r) i m ρ σ a w _ fS cM cK nu hc (λo aR=>az o (by simp[flat,aR])) aK ?_;rintro cx w' ⟨aT,cG,cR,⟨g1,g2,g3⟩,bw,cl,dA,dZ,eU⟩;have l5:=akD cK cl g1 g2 g3;refine Q1 cG fr cR cx w' Q (cM.mono bw) l5 dA dZ ?_;intro pc kE au;refine hM pc kE (au.trans bw ?_);intro cN dd ak;exact⟨ak,(eU cN dd ak).2⟩
def akG{β:Type}(bb:dy P T)(cg:gM P G C)(fh:km P G H)(cd:N<10000){k:aI->Option β}{b:β}(az:∀o∈all.toList,∀d,o.dst=some d->d<N)(bW:fc ib σ)(h:Yq T G C H j0 all σ k=some b):ox P G N all 0 all.toList (λaT=>fc ib aT/\k aT=some b) σ:=by
 have:=FD (P:=P) (N:=N) (ib:=ib) (all:=all) (i:=0) bb cg fh cd (K:=λaT=>fc ib aT/\k aT=some b) (λg hm o aR=>KW _ _ _ hm o aR) (by rw[wO];exact az) (by rw[wO];intro j;simp) bW (λaT ab ad=>⟨ab,ad⟩) h
 rwa [wO]at this
def akH{Q:Exit->aI->Prop}{id:Nat}{ops:Array Oper}(h:ox P G N ops 0 ops.toList (Q .normal) σ):gU P T G N (.region id ops false) σ Q:=by intro m fr ρ a w cM cK nu az;refine wp_region ?_;rw[List.range_eq_range'];have:=h m fr ρ a w (λe cx w'=>iJ N m fr ρ σ (Q e) cx w') cM cK nu az (λcx w' au=>au);simpa using this
end
def sX(ops:Array Oper):Bool:=(List.range ops.size).all λj=>match ops[j]? with
  |some o=>o.after.all (λe=>!Region.binds .any e||decide (e.on<j))&&(match o.guard with|none=>true|some (g,_)=>decide (g<j))
  |none=>true
def FF(ops:Array Oper)(j:Nat):Bool:=(List.range j).all λi=>(List.range (j+1)).any λk=>decide (i<k)&&match ops[k]? with|some o=>o.after.any (λe=>Region.binds .any e&&decide (e.on=i))|none=>false
def Q2(ops:Array Oper)(p:Nat):Bool:=sX ops&&(List.range ops.size).all λj=>decide (j<p)||FF ops j
def yR{ops:Array Oper}(h:sX ops=true){j:Nat}{o:Oper}(aR:ops[j]?=some o):(∀e∈o.after,Region.binds .any e=true->e.on<j)/\∀g b,o.guard=some (g,b)->g<j:=by
 have aG:j<ops.size:=(xaS.1 aR).1;have ab:=xau.1 h j (xbN.2 aG);simp only[aR,xao]at ab;refine⟨λe he ak=>?_,λg b bB=>?_⟩
 .have:=Array.all_eq_true'.1 ab.1 e he;simpa[ak]using this
 have:=ab.2;rw[bB]at this;simpa using this
def akI{ops:Array Oper}{j i:Nat}(h:FF ops j=true)(ag:i<j):∃k o,i<k/\k<=j/\ops[k]?=some o/\∃e∈o.after,Region.binds .any e=true/\e.on=i:=by
 have ab:=xau.1 h i (xbN.2 ag);obtain⟨k,ah,ad⟩:=xbu.1 ab;simp only[xao,xaG]at ad;obtain⟨ax,a8⟩:=ad;cases aR:ops[k]? with
 |none=>rw[aR]at a8;cases a8
 |some o=>rw[aR]at a8;obtain⟨e,he,b3⟩:=Array.any_eq_true'.1 a8;simp only[xao,xaG]at b3;have:=xbN.1 ah;exact⟨k,o,ax,by omega,aR,e,he,b3⟩
def B7(ops:Array Oper)(listed:Array Bool):Prop:=∀j o,ops[j]?=some o->listed.getD j true=true->∀e∈o.after,Region.binds .any e=true->listed.getD e.on false=true
section
variable{P:Program}{ops hn:Array Oper}{Q:Exit->Act->World->Prop}
def uM{i:Nat}(h:i<ops.size):(ops++hn)[i]?=ops[i]?:=xbM h
def B8{l r:Array Bool}{d:Bool}{i:Nat}(h:i<l.size):(l++r).getD i d=l.getD i d:=by
 have ad:i<l.size+r.size:=by omega
 simp only[xbA,xbM h]
theorem akJ{l:Array Bool}{m:Nat}{d:Bool}{i:Nat}(h:l.size<=i)(ad:i<l.size+m):(l++Array.replicate m false).getD i d=false:=by simp only[xbA,Array.getElem?_append_right h];rw[Array.getElem?_replicate,xaa (by omega)];rfl
def Q3{l:Array Bool}{i:Nat}(h:i<l.size)(d e:Bool):l.getD i d=l.getD i e:=by simp[Array.getD,h]
def Q4{all:Array Oper}{L:Array Bool}{j:Nat}(bW:L.size=all.size)(an:FF all j=true)(hinv:B7 all L)(au:j∈Region.ready .any all L):∀(d i:Nat),j-i<=d->i<j->L.getD i false=true
 |0,i,h,ag=>by omega
 |d+1,i,h,ag=>by
  obtain⟨k,o',ab,ah,ad,e,ax,a8,b3⟩:=akI an ag;rw[<-b3];by_cases akK:k=j;.subst akK;obtain⟨_,lv,bG,bw⟩:=xbO.1 au;rw[ad]at bG;cases bG;exact bw e ax a8
  have cI:=Q4 bW an hinv au d k (by omega) (by omega);have ea:=(xaS.1 ad).1;rw[Q3 (by omega) false true]at cI;exact hinv k o' ad cI e ax a8
def FG{all:Array Oper}{L:Array Bool}{i:Nat}(h:i∈Region.ready .any all L):i<all.size:=(xaS.1 (xbO.1 h).2.choose_spec.1).1
def akL{all:Array Oper}{L:Array Bool}(av:L.size=all.size)(h:B7 all L){i:Nat}(ag:i∈Region.ready .any all L):B7 all (L.setIfInBounds i true):=by
 obtain⟨ab,eO,ad,ax⟩:=xbO.1 ag;have bX:=FG ag;have up:∀{j:Nat},L.getD j false=true->(L.setIfInBounds i true).getD j false=true:=by
  intro j aG;by_cases cn:j<L.size
  .by_cases kG:i=j;.subst kG;simp[Array.getD,cn]
   simp[Array.getD,cn]at aG⊢;rw[xbD cn kG];exact aG
  simp[Array.getD,cn]at aG
 intro j o' aR aG e he lD;have cn:j<L.size:=by have:=(xaS.1 aR).1;omega
 by_cases kG:i=j;.subst kG;rw[ad]at aR;cases aR;exact up (ax e he lD)
 refine up (h j o' aR ?_ e he lD);simp[Array.getD,cn]at aG⊢;rw[xbD cn kG]at aG;exact aG
def YA{listed:Array Bool}(ak:sX (ops++hn)=true)(av:listed.size=ops.size){i:Nat}(ag:i<ops.size):i∈Region.ready .any (ops++hn) (listed++Array.replicate hn.size false)↔i∈Region.ready .any ops listed:=by
 rw[xbO,xbO,B8 (by omega),uM ag];refine and_congr_right λ_=>?_;constructor;.rintro⟨o',aR,h⟩;refine⟨o',aR,λe he lD=>?_⟩;have:=(yR ak (by rw[uM ag];exact aR)).1 e he lD;rw[<-h e he lD,B8 (by omega)]
 rintro⟨o',aR,h⟩;refine⟨o',aR,λe he lD=>?_⟩;have:=(yR ak (by rw[uM ag];exact aR)).1 e he lD;rw[B8 (by omega),h e he lD]
def YB{all:Array Oper}{L:Array Bool}(av:L.size=all.size)(h:∀i,i<all.size->L.getD i false=true):Region.ready .any all L=[]:=by refine List.eq_nil_iff_forall_not_mem.2 λi ag=>?_;have bZ:=FG ag;have ab:=(xbO.1 ag).1;rw[Q3 (by omega) true false,h i bZ]at ab;cases ab
def akM{all:Array Oper}{L:Array Bool}(ak:sX all=true)(av:L.size=all.size)(h:Region.ready .any all L=[]):∀(i:Nat),i<all.size->L.getD i false=true:=by
 intro i
 induction i using Nat.strongRecOn with
 |_ i ih=>
  intro ag;refine xbb λai=>?_;have ba:L.getD i true=false:=by rw[Q3 (by omega) true false];simpa using ai
  have:i∈Region.ready .any all L:=by refine xbO.2 ⟨ba,all[i],by simp[ag],λe he lD=>?_⟩;have bZ:=(yR ak (j:=i) (o:=all[i]) (by simp[ag])).1 e he lD;exact ih e.on bZ (by omega)
  rw[h]at this;cases this
def akN(ak:sX (ops++hn)=true):sX ops=true:=by
 refine xau.2 λj aG=>?_;have aG:=xbN.1 aG;have ab:=xau.1 ak j (xbN.2 (by simp;omega))
 rwa [uM aG]at ab
def akO{tm:Array Value}{g:Nat}(h:g<ops.size):yielded (ops++hn) tm g=yielded ops tm g:=by unfold yielded;rw[uM h]
def akP(ak:sX (ops++hn)=true){i:Nat}(ag:i<ops.size){o':Oper}(aR:ops[i]?=some o')(tm:Array Value):Region.wanted o' (yielded (ops++hn) tm)=Region.wanted o' (yielded ops tm):=by unfold Region.wanted;cases bB:o'.guard with|none=>rfl|some p=>obtain⟨g,b⟩:=p;have:=(yR ak (by rw[uM ag];exact aR)).2 g b bB;simp only[akO (Nat.lt_trans this ag)]
def akQ(ak:sX (ops++hn)=true){i:Nat}(ag:i<ops.size){K:Act->World->Prop}{a:Act}{w:World}:wpOp P (ops++hn) Q i K a w=wpOp P ops Q i K a w:=by
 unfold wpOp;rw[uM ag];have:ops[i]?=some ops[i]:=by simp[ag]
 rw[this];simp only[akP ak ag this]
def akR{all:Array Oper}:∀(fuel:Nat)(L:Array Bool)(a:Act)(w:World),Region.ready .any all L=[]->Q .normal a w->wpAny P .any all Q fuel L a w
 |0,L,a,w,h,hM=>⟨h,hM⟩|fuel+1,L,a,w,h,hM=>⟨λ_=>hM,λi ag=>by rw[h]at ag;cases ag⟩
def l6(n j:Nat):Array Bool:=Array.ofFn (n:=n) λi=>decide (i.val<j)
def YC{n j:Nat}:(l6 n j).size=n:=by simp[l6]
def yS{n j i:Nat}{d:Bool}(h:i<n):(l6 n j).getD i d=decide (i<j):=by simp[l6,Array.getD,h]
def akS{n j:Nat}:(l6 n j).setIfInBounds j true=l6 n (j+1):=by
 apply Array.ext;.simp[l6]
 intro i ab ad;simp[l6]at ab;by_cases h:i=j;.subst h;simp[l6]
 rw[xbD (by simpa[l6]using ab) (by omega)];simp[l6];omega
def YD{all:Array Oper}(ak:sX all=true){p:Nat}(an:∀j,p<=j->j<all.size->FF all j=true):∀(d j:Nat)(a:Act)(w:World),p<=j->j+d=all.size->wpOps P all Q (List.range' j d) a w->wpAny P .any all Q d (l6 all.size j) a w
 |0,j,a,w,aU,az,h=>by refine⟨YB YC λi ag=>by rw[yS ag];simp;omega,by simpa[wpOps]using h⟩
 |d+1,j,a,w,aU,az,h=>by
  have aG:j<all.size:=by omega
  have hinv:B7 all (l6 all.size j):=by intro i o aR ag e he lD;have bX:=(xaS.1 aR).1;rw[yS bX]at ag;have:=(yR ak aR).1 e he lD;rw[yS (by omega)];simp at ag⊢;omega
  have YE:j∈Region.ready .any all (l6 all.size j):=by refine xbO.2 ⟨by rw[yS aG];simp,all[j],by simp[aG],λe he lD=>?_⟩;have:=(yR ak (j:=j) (o:=all[j]) (by simp[aG])).1 e he lD;rw[yS (by omega)];simpa using this
  refine⟨λaq=>(by rw[aq]at YE;cases YE),λi ag=>?_⟩;have e4:=FG ag;have ab:=(xbO.1 ag).1;rw[yS e4]at ab;have kG:i=j:=by
   have dQ:j<=i:=by simpa using ab
   by_cases ai:i=j;.exact ai
   have:=Q4 YC (an i (by omega) e4) hinv ag i j (by omega) (by omega);rw[yS aG]at this;simp at this
  subst kG;rw[List.range'_succ,wpOps_cons]at h;refine wpOp_mono (λcx w' bP=>?_) h;rw[akS];exact YD ak an d (i+1) cx w' (by omega) (by omega) bP
def akT{listed:Array Bool}{m:Nat}(h:∀i,i<listed.size->listed.getD i false=true):listed++Array.replicate m false=l6 (listed.size+m) listed.size:=by
 apply Array.ext;.simp[l6]
 intro i ab ad;simp at ab;by_cases ag:i<listed.size;.have:=h i ag;simp[Array.getD,ag]at this;rw[Array.getElem_append_left ag,this];simp[l6,ag]
 rw[Array.getElem_append_right (by omega)];simp[l6];omega
def akU{listed:Array Bool}{m i:Nat}(ag:i<listed.size):(listed++Array.replicate m false).setIfInBounds i true=listed.setIfInBounds i true++Array.replicate m false:=by
 apply Array.ext;.simp
 intro j ab ad;simp at ab;by_cases aG:j<listed.size
 .rw[Array.getElem_append_left (by simpa using aG)];by_cases kG:i=j;.subst kG;simp
  rw[xbD (by simp;omega) kG,Array.getElem_append_left aG,xbD aG kG]
 rw[Array.getElem_append_right (by simp;omega),xbD (by simp;omega) (by omega),Array.getElem_append_right (by omega)];simp
end
def YF{P:Program}{Q:Exit->Act->World->Prop}{all:Array Oper}:∀{n:Nat}{L:Array Bool}{a:Act}{w:World},wpAny P .any all Q n L a w->∀k,n<=k->wpAny P .any all Q k L a w
 |0,L,a,w,h,k,ah=>akR k L a w h.1 h.2|n+1,L,a,w,h,0,ah=>by omega|n+1,L,a,w,h,k+1,ah=>⟨h.1,λi ag=>wpOp_mono (λcx w' bs=>YF bs k (by omega)) (h.2 i ag)⟩
section
variable{P:Program}{T:ca}{G:c9}{ops hn:Array Oper}{Q:Exit->Act->World->Prop}
def akV{m:Mem}{fr:eS}{N:Nat}(bb:dy P T){K:aI->Prop}(ak:sX (ops++hn)=true)(an:∀j,ops.size<=j->j<(ops++hn).size->FF (ops++hn) j=true)(gB:∀o∈ops,∀d,o.dst=some d->d<N):∀(fuel:Nat)(listed:Array Bool)(m:Mem)(ρ:c5)(σ:aI)(a:Act)(w:World),listed.size=ops.size->B7 ops listed->jv G m->Den m fr ρ σ a w->N<=a.tmps.size->a.defers=[]->iS P T G ops K fuel listed σ->(∀cx w',iJ N m fr ρ σ K cx w'->wpOps P (ops++hn) Q (List.range' ops.size hn.size) cx w')->wpAny P .any (ops++hn) Q (fuel+hn.size) (listed++Array.replicate hn.size false) a w:=by
 have fin:∀{fuel:Nat}{listed:Array Bool}{m:Mem}{ρ:c5}{σ:aI}{a:Act}{w:World},listed.size=ops.size->Region.ready .any ops listed=[]->jv G m->Den m fr ρ σ a w->N<=a.tmps.size->a.defers=[]->K σ->(∀cx w',iJ N m fr ρ σ K cx w'->wpOps P (ops++hn) Q (List.range' ops.size hn.size) cx w')->wpAny P .any (ops++hn) Q hn.size (listed++Array.replicate hn.size false) a w:=by intro fuel listed m ρ σ a w av au cM h cd hc ah hM;have akW:=akM (akN ak) av au;rw[akT (λi ag=>akW i (by omega)),av,<-Array.size_append];exact YD ak an _ _ _ _ (xaQ _) (by simp) (hM a w ⟨σ,m,ρ,ah,Mem.le_refl m,h,cd,hc,kD.refl _ _⟩)
 intro fuel
 induction fuel with
 |zero=>intro listed m ρ σ a w av hinv cM h cd hc aK hM;rw[xaE];exact fin (fuel:=0) av aK.1 cM h cd hc aK.2 hM
 |succ fuel ih=>
  intro listed m ρ σ a w av hinv cM h cd hc aK hM;by_cases au:Region.ready .any ops listed=[];.have:=fin (fuel:=0) av au cM h cd hc (aK.1 au) hM;exact YF this _ (by omega)
  rw[Nat.add_right_comm];have akX:B7 (ops++hn) (listed++Array.replicate hn.size false):=by
   intro j o' aR aG e he lD;have cn:=(xaS.1 aR).1;simp at cn;by_cases YG:j<ops.size
   .rw[B8 (by omega)]at aG;rw[uM YG]at aR;have:=(yR ak (by rw[uM YG];exact aR)).1 e he lD;rw[B8 (by omega)];exact hinv j o' aR aG e he lD
   rw[akJ (by omega) (by omega)]at aG;cases aG
  refine⟨λaq=>absurd ?_ au,λi ag=>?_⟩;.refine List.eq_nil_iff_forall_not_mem.2 λi ag=>?_;have:=(YA ak av (FG ag)).2 ag;rw[aq]at this;cases this
  by_cases sH:i<ops.size;.have n6:=(YA ak av sH).1 ag;have ab:=aK.2 i n6;obtain⟨_,eO,aR,_⟩:=xbO.1 n6;unfold hy at ab;simp only[aR]at ab;rw[akQ ak sH];refine wpOp_mono ?_ (Pz bb cM h cd hc aR (gB eO (xbR aR)) ab);rintro cx w' ⟨aT,cG,cR,bG,bw,cl,dA,dZ,eU⟩;rw[akU (by omega)];refine ih _ cG cR aT cx w' (by simp[av]) (akL av hinv n6) (cM.mono bw) cl dA dZ bG ?_;rintro pc kE ⟨q5,yn,yo,eJ,dV,hJ,q6,yp,yq⟩;exact hM pc kE ⟨q5,yn,yo,eJ,Mem.le_trans bw dV,hJ,q6,yp,eU.trans yq⟩
  refine absurd (YB av λj aG=>?_) au;have:=Q4 (by simp[av]) (an i (by omega) (FG ag)) akX ag i j (by omega) (by omega)
  rwa [B8 (by omega)]at this
end
def akY{P:Program}{T:ca}{G:c9}{N:Nat}{σ:aI}{Q:Exit->aI->Prop}(bb:dy P T)(hm:P.follows .mixedOrders=true){id:Nat}{ops hn:Array Oper}(cd:wE N ops=true)(ak:Q2 (ops++hn) ops.size=true) {K:aI->Prop} (gu:∀aT,K aT->ox P G N (ops++hn) ops.size hn.toList (Q .normal) aT) (h:iS P T G ops K ops.size (Array.replicate ops.size false) σ):gU P T G N (.region id (ops++hn) true) σ Q:=by
 intro m fr ρ a w cM cK nu az;refine wp_region_any hm ?_;simp only[Q2,xao]at ak;have e:Array.replicate (ops++hn).size false=Array.replicate ops.size false++Array.replicate hn.size false:=by rw[Array.size_append,Array.replicate_append_replicate]
 rw[e,Array.size_append];refine akV (m:=m) (fr:=fr) (N:=N) (T:=T) bb ak.1 (λj ab ad=>?_) (wF cd) ops.size _ m ρ σ a _ (by simp) ?_ cM (cK.drew _) nu az h ?_;.have:=xau.1 ak.2 j (xbN.2 ad);simp only[xbe,xaG]at this;exact this.resolve_left (by omega)
 .intro j o' aR aG;have:=(xaS.1 aR).1;simp[Array.getD,this]at aG
 rintro cx w' ⟨aT,cG,cR,bG,bw,cl,dA,dZ,eU⟩;have:=gu aT bG cG fr cR cx w' (λe cx w'=>iJ N m fr ρ σ (Q e) cx w') (cM.mono bw) cl dA dZ (λpc kE au=>au.trans bw eU);simpa using this
section
variable{β:Type}
def bI(f:List D->Option (List D⊕β)):Nat->List D->Option β
 |0,_=>none|n+1,ls=>R (f ls) λx=>match x with| .inl eP=>bI f n eP| .inr b=>some b
end
def wY:Code->Nat
 | .region id _ _=>id| .seq x _=>wY x| .cond _ x _=>wY x| .block _ c=>wY c| .loop c=>wY c| .scope c=>wY c|_=>0
def akZ(c:Tmp)(x y:Code):Nat:=(c*1000+wY y)*1000+wY x
structure mG where
 T:ca
 G:c9
 C:lz
 n:Nat
 ib:List Key
 loops:Nat->Option rf
 ak0:Nat->Option rf
 blocks:Nat->Option rf
 po:Nat->Option (List Nat)
 H:wX
 j0:Tmp->Bool
 pre:Nat->List (List Key)
def aY{β:Type}(b:Option β):Option (List D⊕β):=R b λb=>some (.inr b)
def bg{β:Type}(f:List D->Option β):List D⊕β->Option β
 | .inl ls=>f ls| .inr b=>some b
def Q5{β:Type}(ib:List Key)(fA:rf)(run:(Exit->aI->Option (List D⊕β))->Option (List D⊕β))(k:Exit->aI->Option β):Option β:=R (run λe aT=>match e with| .normal=>sU ib fA aT λls=>some (.inl ls)|e=>aY (k e aT)) (bg λls=>k .normal (restore fA ls))
def FH{β:Type}(id:Nat)(k:Exit->aI->Option β)(e:Exit)(σ:aI):Option β:=match e with
 | .exit uv=>if uv=id then k .normal σ else k (.exit uv) σ
 |e=>k e σ
def ak1{β:Type}(k:Exit->aI->Option β)(e:Exit)(σ:aI):Option β:=match e with| .goto _=>none|e=>k e σ
def exec(X:mG):Code->{β:Type}->aI->(Exit->aI->Option β)->Option β
 | .skip,_,σ,k=>k .normal σ| .label _,_,σ,k=>k .normal σ| .scope c,_,σ,k=>exec X c σ (ak1 k)| .exit id,_,σ,k=>k (.exit id) σ| .ret,_,σ,k=>k .ret σ
 | .region id ops d,_,σ,k=>yL (X.pre id) σ λσ=>match X.po id with
  |none=>match d with|true=>XL X.T X.G X.C ops σ λaT=>k .normal aT|false=>Yq X.T X.G X.C X.H X.j0 ops σ λaT=>k .normal aT
  |some ord=>if d=true/\ord.length=ops.size then BW X.T X.G X.C ops ord (Array.replicate ops.size false) σ λaT=>k .normal aT
   else if d=true/\ord.length<=ops.size/\Q2 ops ord.length=true then BW X.T X.G X.C (ops.extract 0 ord.length) ord (Array.replicate ord.length false) σ λaT=>yO X.T X.G X.C X.H X.j0 ops (wL (ops.extract ord.length ops.size).toList) aT λq5=>k .normal q5
   else none
 | .seq x y,_,σ,k=>exec X x σ λe aT=>match e with| .normal=>exec X y aT k|e=>k e aT
 | .cond (.tmp c) x y,_,σ,k=>match σ.aJ c with
  | .d a=>match X.ak0 (akZ c x y)with|none=>aE a (exec X x σ k) (exec X y σ k)|some fA=>Q5 X.ib fA (λbu=>aE a (exec X x σ bu) (exec X y σ bu)) k
  |_=>none
 | .block id c,_,σ,k=>match X.blocks id with|none=>exec X c σ (FH id k)|some fA=>Q5 X.ib fA (λbu=>exec X c σ (FH id bu)) k
 | .loop c,_,σ,k=>match X.loops (wY c)with|none=>none|some fA=>sU X.ib fA σ λQ6=>bI (λls=>exec X c (restore fA ls) λe aT=>match e with| .normal=>sU X.ib fA aT λeP=>some (.inl eP)|e=>aY (k e aT)) X.n Q6
 | .cond (.const v) x y,_,σ,k=>match v with| .bool true=>exec X x σ k| .bool false=>exec X y σ k|_=>none
 |_,_,_,_=>none
section
variable{P:Program}{T:ca}{G:c9}{N:Nat}{σ:aI}{all:Array Oper}{ib:List Key}
def YH{K K':aI->Prop}(ah:∀σ,K σ->K' σ):∀(fuel:Nat){listed:Array Bool}{σ:aI},iS P T G all K fuel listed σ->iS P T G all K' fuel listed σ
 |0,_,_,h=>⟨h.1,ah _ h.2⟩|fuel+1,_,_,h=>⟨λaq=>ah _ (h.1 aq),λi ag=>wB (λ_ bs=>YH ah fuel bs) (h.2 i ag)⟩
def FI{K:aI->Prop}(az:∀o∈all,∀d,o.dst=some d->d<10000):∀(fuel:Nat){listed:Array Bool}{σ:aI},fc ib σ->iS P T G all K fuel listed σ->iS P T G all (λaT=>fc ib aT/\K aT) fuel listed σ
 |0,_,_,bW,h=>⟨h.1,bW,h.2⟩
 |fuel+1,_,σ,bW,h=>by
  refine⟨λaq=>⟨bW,h.1 aq⟩,λi ag=>?_⟩;have ab:=h.2 i ag;unfold hy at ab⊢;split at ab
  .exact FI az fuel bW ab
  rename_i o aR;rw[hl]at ab⊢;have ak2:=az o (xbR aR);cases hw:jz all σ o with|none=>rw[hw]at ab;exact ab|some w=>rw[hw]at ab;cases w with|true=>exact p9 (λaT ⟨ad,ax⟩=>FI az fuel ad ax) (Yr bW ak2 ab)|false=>exact FI az fuel bW.put ab
def ak3{Q:Exit->aI->Prop}(bb:dy P T)(hm:P.follows .mixedOrders=true){id:Nat}{ops:Array Oper}(cd:wE N ops=true) (h:iS P T G ops (Q .normal) ops.size (Array.replicate ops.size false) σ):gU P T G N (.region id ops true) σ Q:=by intro m fr ρ a w cM cK nu az;refine wp_region_any hm ?_;exact PI (m:=m) (fr:=fr) (N:=N) (Q:=λe cx w'=>iJ N m fr ρ σ (Q e) cx w') bb (wF cd) ops.size _ m ρ σ a _ cM (cK.drew _) nu az h (λcx w' au=>au)
def pq(T:ca)(os:Nat->Option (List Nat))(N:Nat):Code->Bool
 | .region id ops d=>wE N ops&&(!d||(os id).isSome||ym T ops (List.range ops.size) (Array.replicate ops.size false))| .seq x y=>pq T os N x&&pq T os N y| .cond _ x y=>pq T os N x&&pq T os N y| .block _ c=>pq T os N c| .loop c=>pq T os N c| .scope c=>pq T os N c|_=>true
def nz{β:Type}(ib:List Key)(k:Exit->aI->Option β)(b:β)(e:Exit)(σ:aI):Prop:=∃τ,gC σ τ/\fc ib τ/\k e τ=some b
def YI{β:Type}{x:Option β}{y:List D⊕β}(h:aY x=some y):∃b,x=some b/\y= .inr b:=by obtain⟨b,ab,ad⟩:=ef h;exact⟨b,ab,(xaN ad).symm⟩
def YJ{β:Type}{fA:rf}{c:Code}{run:(Exit->aI->Option (List D⊕β))->Option (List D⊕β)}{k:Exit->aI->Option β}{b:β} (hv:∀bu b',run bu=some b'->gU P T G N c σ (nz ib bu b')) (h:Q5 ib fA run k=some b):gU P T G N c σ (nz ib k b):=by
 obtain⟨x,ab,ad⟩:=ef h;refine BJ (hv _ _ ab) ?_;rintro e aT ⟨τ,g1,g2,g3⟩;have other:∀c1,e=c1->aY (k c1 τ)=some x->nz ib k b e aT:=by rintro c1 rfl ax;obtain⟨b',a8,rfl⟩:=YI ax;cases ad;exact⟨τ,g1,g2,a8⟩
 cases e with
 |normal=>obtain⟨ls,bG,bw,cl⟩:=K4 g2 g3;cases cl;exact⟨_,g1.trans bG,bw,ad⟩
 |exit id=>exact other _ rfl g3|goto l=>exact other _ rfl g3|ret=>exact other _ rfl g3|panic c=>exact other _ rfl g3|outgrown=>exact other _ rfl g3
def ak4{β:Type}{f:List D->Option (List D⊕β)}{n:Nat}{ls:List D}{b:β}(h:bI f n ls=some b):∃m,n=m+1/\((∃eP,f ls=some (.inl eP)/\bI f m eP=some b)\/f ls=some (.inr b)):=by
 cases n with
 |zero=>cases h
 |succ m=>obtain⟨x,ab,ad⟩:=ef h;refine⟨m,rfl,?_⟩;cases x with|inl eP=>exact .inl ⟨eP,ab,ad⟩|inr b'=>cases ad;exact .inr ab
def nz.block{β:Type}{id:Nat}{k:Exit->aI->Option β}{b:β}{e:Exit}{σ:aI}(h:nz ib (FH id k) b e σ):E2 id (nz ib k b) e σ:=by
 obtain⟨τ,g1,g2,g3⟩:=h;cases e with
 |exit uv=>
  simp only[E2];unfold FH at g3;by_cases ag:uv=id;.simp only[ag,xaz]at g3⊢;exact⟨τ,g1,g2,g3⟩
  simp only[ag,xaA]at g3⊢;exact⟨τ,g1,g2,g3⟩
 |normal=>exact⟨τ,g1,g2,g3⟩|goto l=>exact⟨τ,g1,g2,g3⟩|ret=>exact⟨τ,g1,g2,g3⟩|panic c=>exact⟨τ,g1,g2,g3⟩|outgrown=>exact⟨τ,g1,g2,g3⟩
def rm(X:mG)(bb:dy P X.T)(cg:gM P X.G X.C)(fh:km P X.G X.H)(hm:P.follows .mixedOrders=true)(cd:N<10000):∀(c:Code){β:Type}{σ:aI}{k:Exit->aI->Option β}{b:β},pq X.T X.po N c=true->fc X.ib σ->exec X c σ k=some b->gU P X.T X.G N c σ (nz X.ib k b)
 | .skip,β,σ,k,b,_,bW,h=>aif ⟨σ,gC.refl σ,bW,h⟩| .label l,β,σ,k,b,_,bW,h=>aih ⟨σ,gC.refl σ,bW,h⟩| .exit id,β,σ,k,b,_,bW,h=>aii ⟨σ,gC.refl σ,bW,h⟩| .ret,β,σ,k,b,_,bW,h=>aij ⟨σ,gC.refl σ,bW,h⟩
 | .region id ops d,β,σ,k,b,bq,bW,h=>by
  simp only[pq,xao,xbe,Bool.not_eq_true']at bq;have gB:∀o∈ops.toList,∀d,o.dst=some d->d<10000:=λo aR d az=>Nat.lt_trans (wF bq.1 o (by simpa using aR) d az) cd;have Q7:∀aT,fc X.ib aT/\k .normal aT=some b->nz X.ib k b .normal aT:=λaT bs=>⟨aT,gC.refl aT,bs⟩;unfold exec at h;have ae:=FB bW h;clear h bW;obtain⟨σ,ak5,bW,h⟩:=ae;refine PJ ak5 ?_;split at h
  .rename_i BK;split at h
   .have ab:=ajW (P:=P) (all:=ops) (σ:=σ) cg (K:=λaT=>∃τ,ot aT τ/\k .normal τ=some b) (λσ τ hw ⟨yr,ab,ad⟩=>⟨yr,hw.trans ab,ad⟩) (λaT bs=>⟨aT,ot.refl _,bs⟩) h;have ad:fg P X.T X.G ops ops.toList (nz X.ib k b .normal) σ:=by
     refine mE ?_ (QS bW gB ab);rintro aT ⟨g1,τ,g2,g3⟩;refine⟨τ,g2.Fh,?_,g3⟩;intro j aG ak;rw[<-g2.1]at ak;exact g1 j aG ak
    exact aiI bb hm bq.1 (bq.2.resolve_left (by simp[BK])) ad
   have ab:=akG (P:=P) (all:=ops) (σ:=σ) bb cg fh cd (λo aR d az=>wF bq.1 o (by simpa using aR) d az) bW h;exact akH (λm fr ρ a w Q cM cK nu az hM=>ab m fr ρ a w Q cM cK nu az (λcx w' au=>hM cx w' (au.mono Q7)))
  rename_i ord BK;split at h
  case isFalse=>
   split at h
   case isFalse=>cases h
   rename_i ai;obtain⟨rfl,bH,YK⟩:=ai;have fb:ops=ops.extract 0 ord.length++ops.extract ord.length ops.size:=by rw[Array.extract_append_extract,Nat.max_eq_right bH];simp
   have jh:ord.length=(ops.extract 0 ord.length).size:=by simp;omega
   have ab:=Qq (P:=P) cg ord _ σ h;generalize ops.extract 0 ord.length=c0 at*;generalize ops.extract ord.length ops.size=Bn at*;subst fb;rw[jh]at ab;have nA:wE N c0=true:=by have:=bq.1;unfold wE at this⊢;simp only[Array.toList_append,List.all_append,xao]at this;exact this.1
   rw[jh]at YK;refine akY bb hm nA YK ?_ (FI (λo aR d az=>Nat.lt_trans (wF nA o aR d az) cd) _ bW ab);rintro aT ⟨QW,ae⟩;have ad:=FD (P:=P) (N:=N) (ib:=X.ib) (all:=c0++Bn) (i:=c0.size) bb cg fh cd (K:=nz X.ib k b .normal) (λg hm o aR=>KW _ _ _ hm o aR) (by rw[wO];intro o' aR d az;exact wF bq.1 _ (by simp at aR⊢;exact .inr aR) d az) (by rw[wO];intro j;rw[Array.getElem?_append_right (by omega)];simp) QW (λq5 ab ad=>Q7 q5 ⟨ab,ad⟩) ae
   rwa [wO]at ad
  rename_i ai;obtain⟨rfl,bH⟩:=ai;have ab:=Qq (P:=P) cg ord _ σ h;rw[bH]at ab;exact ak3 bb hm bq.1 (YH Q7 _ (FI (λo aR d az=>Nat.lt_trans (wF bq.1 o aR d az) cd) _ bW ab))
 | .seq x y,β,σ,k,b,bq,bW,h=>by simp only[pq,xao]at bq;refine aik (BJ (rm X bb cg fh hm cd x bq.1 bW h) ?_);rintro e aT ⟨τ,g1,g2,g3⟩;cases e with|normal=>simp only[Kw];refine PJ g1 (rm X bb cg fh hm cd y bq.2 g2 g3)|exit id=>exact⟨τ,g1,g2,g3⟩|goto l=>exact⟨τ,g1,g2,g3⟩|ret=>exact⟨τ,g1,g2,g3⟩|panic c=>exact⟨τ,g1,g2,g3⟩|outgrown=>exact⟨τ,g1,g2,g3⟩
 | .cond c x y,β,σ,k,b,bq,bW,h=>by
  simp only[pq,xao]at bq;cases c with
  |tmp c=>
   unfold exec at h;split at h
   case h_2=>cases h
   rename_i a aH;have two:∀{β:Type}(bu:Exit->aI->Option β)(b':β),aE a (exec X x σ bu) (exec X y σ bu)=some b'->gU P X.T X.G N (.cond (.tmp c) x y) σ (nz X.ib bu b'):=by
    intro β bu b' h;rcases Xt h with⟨rfl,ab⟩|⟨rfl,ab⟩
    .exact Kx (b:=true) aH (by rw[xaa rfl];exact rm X bb cg fh hm cd x bq.1 bW ab)
    exact Kx (b:=false) aH (by rw[xab (by simp)];exact rm X bb cg fh hm cd y bq.2 bW ab)
   split at h;.exact two k b h
   exact YJ (λbu b' bs=>two bu b' bs) h
  |const v=>
   unfold exec at h;split at h;.exact Kx (b:=true) rfl (by rw[xaa rfl];exact rm X bb cg fh hm cd x bq.1 bW h)
   .exact Kx (b:=false) rfl (by rw[xab (by simp)];exact rm X bb cg fh hm cd y bq.2 bW h)
   cases h
  |global g=>cases h
  |func f=>cases h
 | .block id c,β,σ,k,b,bq,bW,h=>by
  have one:∀{β:Type}(bu:Exit->aI->Option β)(b':β),exec X c σ (FH id bu)=some b'->gU P X.T X.G N (.block id c) σ (nz X.ib bu b'):=by intro β bu b' h;exact ain (BJ (rm X bb cg fh hm cd c bq bW h) (λe aT bs=>bs.block))
  unfold exec at h;split at h;.exact one k b h
  exact YJ (λbu b' bs=>one bu b' bs) h
 | .loop c,β,σ,k,b,bq,bW,h=>by
  unfold exec at h;split at h
  case h_1=>cases h
  rename_i fA sY;obtain⟨Q6,aN,aV,bS⟩:=K4 bW h;generalize ba:(λls=>exec X c (restore fA ls) λe aT=>match e with| .normal=>sU X.ib fA aT λeP=>some (Sum.inl eP)|e=>aY (k e aT))=f at bS;refine aix (ι:={p:List D×Nat//bI f p.2 p.1=some b/\fc X.ib (restore fA p.1)}) (λp=>restore fA p.1.1) (λp=>p.1.2) ⟨(Q6,X.n),bS,aV⟩ aN ?_;rintro⟨⟨ls,n⟩,YL,gm⟩;simp only at YL gm⊢;obtain⟨m,rfl,ax⟩:=ak4 YL;have round:∀x,f ls=some x->gU P X.T X.G N c (restore fA ls) (nz X.ib (λe aT=>match e with| .normal=>sU X.ib fA aT λeP=>some (Sum.inl eP)|e=>aY (k e aT)) x):=by intro x ae;rw[<-ba]at ae;exact rm X bb cg fh hm cd c bq gm ae
  have go:∀x,f ls=some x->(∀eP,x= .inl eP->bI f m eP=some b)->(∀b',x= .inr b'->b'=b)->gU P X.T X.G N c (restore fA ls) (Kw (λaT=>∃j:{p:List D×Nat//bI f p.2 p.1=some b/\fc X.ib (restore fA p.1)},gC aT (restore fA j.1.1)/\j.1.2<m+1) (nz X.ib k b)):=by
   intro x ae an au;refine BJ (round x ae) ?_;rintro e aT ⟨τ,g1,g2,g3⟩;have other:∀c1,e=c1->aY (k c1 τ)=some x->nz X.ib k b e aT:=by rintro c1 rfl ax;obtain⟨b',a8,rfl⟩:=YI ax;rw[au b' rfl]at a8;exact⟨τ,g1,g2,a8⟩
   cases e with
   |normal=>obtain⟨eP,bG,bw,cl⟩:=K4 g2 g3;cases cl;exact⟨⟨(eP,m),an eP rfl,bw⟩,g1.trans bG,Nat.lt_succ_self m⟩
   |exit id=>exact other _ rfl g3|goto l=>exact other _ rfl g3|ret=>exact other _ rfl g3|panic c=>exact other _ rfl g3|outgrown=>exact other _ rfl g3
  rcases ax with⟨eP,a8,b3⟩|a8;.exact go _ a8 (by rintro _ ⟨⟩;exact b3) (by rintro _ ⟨⟩)
  exact go _ a8 (by rintro _ ⟨⟩) (by rintro _ ⟨⟩;rfl)
 | .rangeFunc _ _ _ _,β,σ,k,b,_,bW,h=>by cases h
 | .scope c,β,σ,k,b,bq,bW,h=>aim (BJ (rm X bb cg fh hm cd c (by simpa[pq]using bq) bW h) (by
   rintro e aT ⟨τ,g1,g2,g3⟩;cases e with
   |goto l=>cases g3
   |normal=>exact⟨τ,g1,g2,g3⟩|exit id=>exact⟨τ,g1,g2,g3⟩|ret=>exact⟨τ,g1,g2,g3⟩|panic c=>exact⟨τ,g1,g2,g3⟩|outgrown=>exact⟨τ,g1,g2,g3⟩))
 | .goto _,β,σ,k,b,_,bW,h=>by cases h
 | .refuse _,β,σ,k,b,_,bW,h=>by cases h
end
def YM{P:Program}{T:ca}{G:c9}{N:Nat}{c:Code}{σ:aI}{Q:Exit->aI->Prop}(h:gU P T G N c σ (λe aT=>∃τ,gC aT τ/\Q e τ)):gU P T G N c σ Q:=by intro m fr ρ a w cM cK cd az;refine wp_mono (h m fr ρ a w cM cK cd az) ?_;rintro e cx w' ⟨aT,cG,cR,⟨τ,eC,hM⟩,ad,ax,a8,b3,cI⟩;obtain⟨yn,yo,g1,g2,g3⟩:=eC cG fr cR cx w' ax;exact⟨τ,yn,yo,hM,Mem.le_trans ad g1,g2,a8,b3,cI.trans g3⟩
def ak6(T:ca)(rs:List ResultVar)(e:Exit)(σ:aI):Option D:=match e with| .normal=>R (q7 T σ rs) (toD σ.objs)| .ret=>R (q7 T σ rs) (toD σ.objs)|_=>none
def sZ(X:mG)(fn:Func)(args:List aS):Option D:=match fn.body with|some c=>exec X c (start args λ_=>none) (ak6 X.T fn.results.toList)|none=>none
def m5(T:ca)(os:Nat->Option (List Nat))(fn:Func):Bool:=match fn.body with|some c=>pq T os fn.ntmps c&&decide (fn.ntmps<10000)&&!(fn.name== "runtime.NumGoroutine")|none=>false
def ak7{xs c0:List aS}(h:jn (λk=>k) (λ_=>False) xs c0):gC (start xs λ_=>none) (start c0 λ_=>none):=by
 intro m fr ρ a w cK;refine⟨m,ρ,Mem.le_refl m,⟨cK.mem,cK.frame,cK.apart,?_,?_,?_,?_,?_⟩,?_⟩;.rintro k ⟨o,aR⟩;cases aR
 .intro t;have ab:=cK.aJ t;obtain⟨ad,ax⟩:=h.ok;simp only[start]at ab⊢;cases aP:c0[t]? with
  |none=>rw[xbh,aP];exact .any _
  |some y=>
   obtain⟨x,ae,hle⟩:=ax t y aP;rw[xbh,ae]at ab;rw[xbh,aP];have a8:pd (λk=>k) (aI.used (start c0 λ_=>none)) x y:=by unfold pd at hle⊢;split at hle<;>first|exact hle|(exact absurd hle.2 id)
   exact a8.ok (ρ:=ρ) ab
 .intro k o ah;cases ah
 .intro k o b ah;cases ah
 .intro k bu o o' b _ ah;cases ah
 intro k _ ai;exact absurd ai uj
def ak8{P:Program}(X:mG)(bb:dy P X.T)(cg:gM P X.G X.C)(fh:km P X.G X.H)(hm:P.follows .mixedOrders=true)(k4:X.ib=[]){f:FuncId}{fn:Func}(ba:P.funcs[f]?=some fn)(bq:m5 X.T X.po fn=true){ds:List D}{as:List aS}(hle:jn (λk=>k) (λ_=>False) (ds.map .d) as)(bH:decide (ds.length<=fn.ntmps)=true){r:D} (h:sZ X fn as=some r):eD P X.G f ds (·=r):=by
 have bH:=xaX bH;unfold sZ at h;unfold m5 at bq;split at h
 case h_2=>cases h
 rename_i c ak;simp only[ak,xao,xaG,Bool.not_eq_true']at bq;refine aiA bb ba ak bq.2 bH ?_;refine PJ (ak7 hle) ?_;refine YM (BJ (rm X bb cg fh hm bq.1.2 c bq.1.1 (by intro k _ ai;exact absurd ai uj) h) ?_);rintro e aT ⟨τ,g1,g2,g3⟩;have fin:R (q7 X.T τ fn.results.toList) (toD τ.objs)=some r->∃YN d x,q7 X.T τ fn.results.toList=some YN/\toD τ.objs YN=some d/\d.le x/\x=r:=by intro ab;obtain⟨u,ad,ax⟩:=ef ab;exact⟨u,r,r,ad,ax,D.le_refl _,rfl⟩
 refine⟨τ,g1,?_⟩;cases e with
 |normal=>exact⟨.inl rfl,fin g3⟩|ret=>exact⟨.inr rfl,fin g3⟩|exit id=>cases g3
 |goto l=>cases g3
 |panic c=>cases g3
 |outgrown=>cases g3
def Lh(s:hz)(ls:List D):aI:=⟨λt=>(s.wU ls).getD t .any,eV (s.nw ls)⟩
def ak9(X:mG)(s:hz)(pj:List wP)(rs:List ResultVar)(e:Exit)(σ:aI):Option (List D):=match e with
 | .normal=>R (q7 X.T σ rs) λx=>sU X.ib ⟨[(0,s.res)],s.outs,pj⟩ ⟨λt=>if t=0 then x else .any,σ.objs⟩ some
 | .ret=>R (q7 X.T σ rs) λx=>sU X.ib ⟨[(0,s.res)],s.outs,pj⟩ ⟨λt=>if t=0 then x else .any,σ.objs⟩ some
 |_=>none
def Q8(X:mG)(fn:Func)(s:hz)(pj:List wP)(ls:List D):Option (List D):=match fn.body with|some c=>exec X c (Lh s ls) (ak9 X s pj fn.results.toList)|none=>none
def ala{P:Program}(X:mG)(bb:dy P X.T)(cg:gM P X.G X.C)(fh:km P X.G X.H)(hm:P.follows .mixedOrders=true){s:hz}{fn:Func}(ba:P.funcs[s.f]?=some fn)(bq:m5 X.T X.po fn=true)(bH:decide (s.args.length<=fn.ntmps)=true) (k4:(s.ins.all λp=>decide (p.1<10000)||X.ib.contains p.1)=true) {pj:List wP} {F:List D->Option (List D)} (h:∀ls eP,F ls=some eP->Q8 X fn s pj ls=some eP):fX P X.G s F:=by
 have bH:=xaX bH;unfold m5 at bq;split at bq
 case h_2=>cases bq
 rename_i c ak;simp only[xao,xaG,Bool.not_eq_true']at bq;refine⟨⟨fn,ba,bq.2,by rw[ak];rfl⟩,?_⟩;intro ls eP hN m fr ρ w vs cM cK an x6;have ae:=h ls eP hN;unfold Q8 at ae;rw[ak]at ae;simp only at ae;have Li:(s.wU ls).length=s.args.length:=by
  have:∀(l:List k3)(n:Nat),(rh ls l n).1.length=l.length:=by
   intro l
   induction l with
   |nil=>intro n;rfl
   |cons x r ih=>intro n;simp[rh,ih]
  exact this _ _
 have alb:fc X.ib (Lh s ls):=by
  intro k ah ak;obtain⟨cs,gT⟩:=BB ak;have:=wJ gT;have ab:l0 (s.nw ls)=s.ins.map (·.1):=yJ _ _ _;rw[ab]at this;obtain⟨p,aU,rfl⟩:=xaR.1 this;have ad:=xau.1 k4 p aU;simp only[xbe,xaG,List.contains_eq_mem]at ad;rcases ad with ad|ad
  .exact absurd ad (Nat.not_lt.2 ah)
  exact ad
 have hw:=rm X bb cg fh hm bq.1.2 c bq.1.1 alb ae;refine calls_of_wp ba ak ?_;have E3:Den m fr ρ (Lh s ls) {tmps:=vs.toArray++Array.replicate (fn.ntmps-vs.toArray.size) undef,defers:=[]} w:=by
  refine⟨cK.mem,cK.frame,cK.apart,cK.one,?_,cK.objs,cK.own,cK.sep⟩;intro t;simp only[Lh];by_cases aF:t<vs.length
  .have bZ:t<(s.wU ls).length:=by rw[<-an];exact aF
   have az:=xad bZ;have aK:=xad aF;have aN:(s.wU ls).getD t .any=(s.wU ls)[t]:=by rw[xbh,az];rfl
   have aV:(vs.toArray++Array.replicate (fn.ntmps-vs.toArray.size) undef).getD t undef=vs[t]:=by rw[xbA,xbM (by simpa using aF)];simp[aF]
   rw[aN,aV];exact x6 t _ _ az aK
  have aN:(s.wU ls).getD t .any= .any:=by rw[xbh,xaY (by omega)];rfl
  rw[aN];exact .any _
 have fl:fn.ntmps<=(vs.toArray++Array.replicate (fn.ntmps-vs.toArray.size) undef).size:=by simp;omega
 refine wp_mono (YM hw m fr ρ _ w cM E3 fl rfl) ?_;rintro e cx w' ⟨aT,cG,cR,⟨g2,g3⟩,b3,cI,fo,gD,jW⟩;have fin:(R (q7 X.T aT fn.results.toList) λx=>sU X.ib ⟨[(0,s.res)],s.outs,pj⟩ ⟨λt=>if t=0 then x else .any,aT.objs⟩ some)=some eP->cx.defers=[]/\∃v,(results fn cx.tmps).run P w'= .ok v w'/\∃v1 gd m1,Ending.returned v= .returned v1/\m.le gd/\K8 gd fr m1 (eV (s.pn eP)) w'/\b2 gd m1 (ri (eV (s.pn eP))) (s.K9 eP) v1/\∀k,10000<=k->eo (eV (s.nw ls) k)->m1 k=ρ k:=by
  intro ab;obtain⟨x,ad,ax⟩:=ef ab;obtain⟨v,bG,bw⟩:=W2 (P:=P) bb cI ad;obtain⟨az9,eL,eM,lu⟩:=K4 (σ:=⟨λt=>if t=0 then x else .any,aT.objs⟩) g2 ax;cases lu;have alc:Den cG fr cR ⟨λt=>if t=0 then x else .any,aT.objs⟩ {tmps:= #[v],defers:=[]} w':=by
   refine⟨cI.mem,cI.frame,cI.apart,cI.one,?_,cI.objs,cI.own,cI.sep⟩;intro t;by_cases aF:t=0;.subst aF;exact bw
   simp only[aF,xaA];exact .any _
  obtain⟨jm,k2,t1,t2,t3⟩:=eL cG fr cR _ w' alc;have Q9:=t2.aJ 0;refine⟨gD,v,bG,v,jm,k2,rfl,Mem.le_trans b3 t1,⟨t2.mem,t2.frame,t2.apart,t2.one,λ_=> .any _,t2.objs,t2.own,t2.sep⟩,?_,?_⟩
  .exact Q9
  intro k ah ald;obtain⟨v7,v8⟩:=jW k ah ald;rw[(t3 k ah v7).2,v8]
 cases e with
 |normal=>exact fin g3|ret=>exact fin g3|exit id=>cases g3
 |goto l=>cases g3
 |panic c=>cases g3
 |outgrown=>cases g3
def ale{P:Program}{T:ca}{os:Nat->Option (List Nat)}{f:FuncId}{fn:Func}(ba:P.funcs[f]?=some fn)(bq:m5 T os fn=true):wo P f:=by
 unfold m5 at bq;split at bq
 case h_2=>cases bq
 rename_i c ak;simp only[xao,xaG,Bool.not_eq_true']at bq;exact⟨fn,ba,bq.2,by rw[ak];rfl⟩
def yU{P:Program}{G:c9}{s:hz}{F:List D->Option (List D)}(oz:wo P s.f)(h:∀ls,F ls=none):fX P G s F:=⟨oz,λls eP bs=>by rw[h]at bs;cases bs⟩
def fC:List (Tmp×B3)->wX
 |[],_=>none|(t',e)::r,t=>if t=t' then some e else fC r t
def alf{P:Program}{G:c9}:km P G (fC []):=by intro t e h;cases h
def alg{P:Program}{G:c9}{t:Tmp}{e:B3}{l:List (Tmp×B3)}(h:fX P G e.s e.F)(bs:km P G (fC l)):km P G (fC ((t,e)::l)):=by
 intro t' c1 he;unfold fC at he;split at he;.cases he;exact h
 exact bs t' c1 he
def gF:List (Nat×List (List Key))->Nat->List (List Key)
 |[],_=>[]|(j,s)::r,k=>if k=j then s else gF r k
def gN(l:List Tmp)(t:Tmp):Bool:=l.contains t
def fD:List (FuncId×(List D->Option D))->lz
 |[],_,_,_=>none|(kj,F)::r,d,f,ds=>if f=kj then F ds else fD r d f ds
def br(P:Program)(G:c9)(f:FuncId)(F:List D->Option D):Prop:=∀ds r,F ds=some r->eD P G f ds (·=r)
def alh{P:Program}{G:c9}:gM P G (fD []):=by intro d f ds r h;cases h
def ali{P:Program}{G:c9}{f:FuncId}{F:List D->Option D}{l:List (FuncId×(List D->Option D))}(h:br P G f F)(bs:gM P G (fD l)):gM P G (fD ((f,F)::l)):=by
 intro d kj ds r au;unfold fD at au;split at au;.rename_i e;subst e;exact h ds r au
 exact bs d kj ds r au
def cQ:List (Nat×rf)->Nat->Option rf
 |[],_=>none|(j,s)::r,k=>if k=j then some s else cQ r k
def gG:List (Nat×List Nat)->Nat->Option (List Nat)
 |[],_=>none|(j,s)::r,k=>if k=j then some s else gG r k
def FJ(f:FuncId)(x:D):Bool:=match x with| .val (.func (.func kj) a b)=>kj==f&&a.size==0&&b.size==0|_=>false
def alj{f:FuncId}{x:D}(h:FJ f x=true):x= .val (.func (.func f) #[] #[]):=by
 unfold FJ at h;split at h;.rename_i kj a b;simp only[xao,xbK]at h;obtain⟨⟨rfl,ab⟩,ad⟩:=h;rw[xbk ab,xbk ad]
 cases h
def lE(f:FuncId)(x:D):Option (List D):=match x with
 | .fn (.func kj) first oq=>if kj=f/\first.isEmpty=true then some oq else none
 |_=>none
def nB{f:FuncId}{x:D}{oq:List D}(h:lE f x=some oq):x= .fn (.func f) [] oq:=by
 unfold lE at h;split at h
 .split at h;.rename_i ai;cases h;rw[ai.1,List.isEmpty_iff.1 ai.2]
  cases h
 cases h
def le_nil:jn (λk=>k) (λ_=>False) (List.map aS.d []) []:=trivial
def s3{x:D}{y:aS}{xs:List D}{c0:List aS}(h:pd (λk=>k) (λ_=>False) (.d x) y)(bs:jn (λk=>k) (λ_=>False) (List.map aS.d xs) c0):jn (λk=>k) (λ_=>False) (List.map aS.d (x::xs)) (y::c0):=⟨h,bs⟩
def alk{x:D}:pd (λk=>k) (λ_=>False) (.d x) (.d x):=⟨x,rfl,D.le_refl x⟩
theorem uN{c:List D}{o:Nat}:pd (λk=>k) (λ_=>False) (.d (.ref c o)) (.ek c o):= .inr rfl
def al(t:Nat):Nat×k3:=(t,.b .d)
def sp(t:Nat):Nat×k3:=(t,.b (.ptr t 0))
def b7(t k:Nat):Nat×k3:=(t,.b (.row k))
def aZ(k n:Nat):Key×lB:=(k,.box (List.replicate n (.b .d)))
def bJ(k n:Nat):Key×lB:=(k,.row n)
def alm(P:Program)(G:c9)(n:Nat)(c:List (FuncId×(List D->Option D)))(l j b:List (Nat×rf)):mG:=⟨fp P,G,fD c,n,[],cQ l,cQ j,cQ b,gG [],fC [],gN [],gF []⟩
def fi{P:Program}(X:mG)(bb:dy P X.T)(cg:gM P X.G X.C)(fh:km P X.G X.H)(hm:P.follows .mixedOrders=true){f:FuncId}{fn:Func}(ba:P.funcs[f]?=some fn){ds:List D}{as:List aS}(hle:jn (λk=>k) (λ_=>False) (ds.map .d) as) {o:Option D} {r:D} (h:o=some r) (k4:X.ib=[]:=by rfl) (bq:m5 X.T X.po fn=true:=by kernel_rfl) (bH:decide (ds.length<=fn.ntmps)=true:=by kernel_rfl) (he:sZ X fn as=o:=by kernel_rfl):eD P X.G f ds (·=r):=ak8 X bb cg fh hm k4 ba bq hle bH (he.trans h)
def pr{P:Program}(X:mG)(bb:dy P X.T)(cg:gM P X.G X.C)(fh:km P X.G X.H)(hm:P.follows .mixedOrders=true){s:hz}{fn:Func}(ba:P.funcs[s.f]?=some fn)(pj:List wP){F:List D->Option (List D)}(bq:m5 X.T X.po fn=true:=by kernel_rfl)(bH:decide (s.args.length<=fn.ntmps)=true:=by kernel_rfl) (k4:(s.ins.all λp=>decide (p.1<10000)||X.ib.contains p.1)=true:=by kernel_rfl) (h:∀ls,Q8 X fn s pj ls=F ls:=by intros;kernel_rfl):fX P X.G s F:=ala X bb cg fh hm ba bq bH k4 λls eP bs=>(h ls).trans bs
def cq{x:D}{xs:List D}{c0:List aS}(h:jn (λk=>k) (λ_=>False) (List.map aS.d xs) c0):jn (λk=>k) (λ_=>False) (List.map aS.d (x::xs)) (.d x::c0):=s3 alk h
def Ra(g:Option D):List D->Option D
 |[]=>g|_=>none
@[simp] theorem aAa {g:Option D}:Ra g []=g:=rfl
def BS{P:Program}(X:mG)(bb:dy P X.T)(cg:gM P X.G X.C)(fh:km P X.G X.H)(hm:P.follows .mixedOrders=true){f:FuncId}{fn:Func}(ba:P.funcs[f]?=some fn){g:Option D}(k4:X.ib=[]:=by rfl)(bq:m5 X.T X.po fn=true:=by kernel_rfl)(bH:decide (0<=fn.ntmps)=true:=by kernel_rfl)(he:sZ X fn []=g:=by intros;kernel_rfl):br P X.G f (Ra g):=by
 intro ds r h;unfold Ra at h;split at h
 case h_2=>cases h
 exact fi X bb cg fh hm ba le_nil h k4 bq bH he
def Rb(g:D->Option D):List D->Option D
 |[a0]=>g a0|_=>none
@[simp] theorem aAb {g:D->Option D} {a0:D}:Rb g [a0]=g a0:=rfl
def cA{P:Program}(X:mG)(bb:dy P X.T)(cg:gM P X.G X.C)(fh:km P X.G X.H)(hm:P.follows .mixedOrders=true){f:FuncId}{fn:Func}(ba:P.funcs[f]?=some fn){g:D->Option D}(k4:X.ib=[]:=by rfl)(bq:m5 X.T X.po fn=true:=by kernel_rfl)(bH:decide (1<=fn.ntmps)=true:=by kernel_rfl)(he:∀a0,sZ X fn [.d a0]=g a0:=by intros;kernel_rfl):br P X.G f (Rb g):=by
 intro ds r h;unfold Rb at h;split at h
 case h_2=>cases h
 exact fi X bb cg fh hm ba (cq le_nil) h k4 bq bH (he _)
def Rc(g:D->D->Option D):List D->Option D
 |[a0,ao]=>g a0 ao|_=>none
@[simp] theorem aAc {g:D->D->Option D} {a0 ao:D}:Rc g [a0,ao]=g a0 ao:=rfl
def dv{P:Program}(X:mG)(bb:dy P X.T)(cg:gM P X.G X.C)(fh:km P X.G X.H)(hm:P.follows .mixedOrders=true){f:FuncId}{fn:Func}(ba:P.funcs[f]?=some fn){g:D->D->Option D}(k4:X.ib=[]:=by rfl)(bq:m5 X.T X.po fn=true:=by kernel_rfl)(bH:decide (2<=fn.ntmps)=true:=by kernel_rfl)(he:∀a0 ao,sZ X fn [.d a0,.d ao]=g a0 ao:=by intros;kernel_rfl):br P X.G f (Rc g):=by
 intro ds r h;unfold Rc at h;split at h
 case h_2=>cases h
 exact fi X bb cg fh hm ba (cq (cq le_nil)) h k4 bq bH (he _ _)
def Rd(g:D->D->D->Option D):List D->Option D
 |[a0,ao,a2]=>g a0 ao a2|_=>none
@[simp] theorem aAd {g:D->D->D->Option D} {a0 ao a2:D}:Rd g [a0,ao,a2]=g a0 ao a2:=rfl
def jE{P:Program}(X:mG)(bb:dy P X.T)(cg:gM P X.G X.C)(fh:km P X.G X.H)(hm:P.follows .mixedOrders=true){f:FuncId}{fn:Func}(ba:P.funcs[f]?=some fn){g:D->D->D->Option D}(k4:X.ib=[]:=by rfl)(bq:m5 X.T X.po fn=true:=by kernel_rfl)(bH:decide (3<=fn.ntmps)=true:=by kernel_rfl)(he:∀a0 ao a2,sZ X fn [.d a0,.d ao,.d a2]=g a0 ao a2:=by intros;kernel_rfl):br P X.G f (Rd g):=by
 intro ds r h;unfold Rd at h;split at h
 case h_2=>cases h
 exact fi X bb cg fh hm ba (cq (cq (cq le_nil))) h k4 bq bH (he _ _ _)
def Re(g:D->D->D->D->Option D):List D->Option D
 |[a0,ao,a2,a3]=>g a0 ao a2 a3|_=>none
@[simp] theorem aAe {g:D->D->D->D->Option D} {a0 ao a2 a3:D}:Re g [a0,ao,a2,a3]=g a0 ao a2 a3:=rfl
def FK{P:Program}(X:mG)(bb:dy P X.T)(cg:gM P X.G X.C)(fh:km P X.G X.H)(hm:P.follows .mixedOrders=true){f:FuncId}{fn:Func}(ba:P.funcs[f]?=some fn){g:D->D->D->D->Option D}(k4:X.ib=[]:=by rfl)(bq:m5 X.T X.po fn=true:=by kernel_rfl)(bH:decide (4<=fn.ntmps)=true:=by kernel_rfl)(he:∀a0 ao a2 a3,sZ X fn [.d a0,.d ao,.d a2,.d a3]=g a0 ao a2 a3:=by intros;kernel_rfl):br P X.G f (Re g):=by
 intro ds r h;unfold Re at h;split at h
 case h_2=>cases h
 exact fi X bb cg fh hm ba (cq (cq (cq (cq le_nil)))) h k4 bq bH (he _ _ _ _)
def Rf(g:D->D->D->D->D->Option D):List D->Option D
 |[a0,ao,a2,a3,a4]=>g a0 ao a2 a3 a4|_=>none
@[simp] theorem aAf {g:D->D->D->D->D->Option D} {a0 ao a2 a3 a4:D}:Rf g [a0,ao,a2,a3,a4]=g a0 ao a2 a3 a4:=rfl
def aln{P:Program}(X:mG)(bb:dy P X.T)(cg:gM P X.G X.C)(fh:km P X.G X.H)(hm:P.follows .mixedOrders=true){f:FuncId}{fn:Func}(ba:P.funcs[f]?=some fn){g:D->D->D->D->D->Option D}(k4:X.ib=[]:=by rfl)(bq:m5 X.T X.po fn=true:=by kernel_rfl)(bH:decide (5<=fn.ntmps)=true:=by kernel_rfl)(he:∀a0 ao a2 a3 a4,sZ X fn [.d a0,.d ao,.d a2,.d a3,.d a4]=g a0 ao a2 a3 a4:=by intros;kernel_rfl):br P X.G f (Rf g):=by
 intro ds r h;unfold Rf at h;split at h
 case h_2=>cases h
 exact fi X bb cg fh hm ba (cq (cq (cq (cq (cq le_nil))))) h k4 bq bH (he _ _ _ _ _)
def Rg(g:D->D->D->D->D->D->Option D):List D->Option D
 |[a0,ao,a2,a3,a4,a5]=>g a0 ao a2 a3 a4 a5|_=>none
@[simp] theorem aAg {g:D->D->D->D->D->D->Option D} {a0 ao a2 a3 a4 a5:D}:Rg g [a0,ao,a2,a3,a4,a5]=g a0 ao a2 a3 a4 a5:=rfl
def YO{P:Program}(X:mG)(bb:dy P X.T)(cg:gM P X.G X.C)(fh:km P X.G X.H)(hm:P.follows .mixedOrders=true){f:FuncId}{fn:Func}(ba:P.funcs[f]?=some fn){g:D->D->D->D->D->D->Option D}(k4:X.ib=[]:=by rfl)(bq:m5 X.T X.po fn=true:=by kernel_rfl)(bH:decide (6<=fn.ntmps)=true:=by kernel_rfl)(he:∀a0 ao a2 a3 a4 a5,sZ X fn [.d a0,.d ao,.d a2,.d a3,.d a4,.d a5]=g a0 ao a2 a3 a4 a5:=by intros;kernel_rfl):br P X.G f (Rg g):=by
 intro ds r h;unfold Rg at h;split at h
 case h_2=>cases h
 exact fi X bb cg fh hm ba (cq (cq (cq (cq (cq (cq le_nil)))))) h k4 bq bH (he _ _ _ _ _ _)
def alo(g:D->D->D->D->D->D->D->Option D):List D->Option D
 |[a0,ao,a2,a3,a4,a5,j1]=>g a0 ao a2 a3 a4 a5 j1|_=>none
@[simp] theorem aAh {g:D->D->D->D->D->D->D->Option D} {a0 ao a2 a3 a4 a5 j1:D}:alo g [a0,ao,a2,a3,a4,a5,j1]=g a0 ao a2 a3 a4 a5 j1:=rfl
def yV{P:Program}{T:ca}{os:Nat->Option (List Nat)}{f:FuncId}{fn:Func}(h:P.funcs[f]?=some fn)(bq:m5 T os fn=true:=by kernel_rfl):wo P f:=ale h bq
@[congr] def aAi {α β:Type} {x y:Option α} {f:α->Option β} (h:x=y):R x f=R y f:=by rw[h]
@[simp] theorem dx {α β:Type} {a:α} {f:α->Option β}:R (some a) f=f a:=rfl
@[simp] theorem aAj {α β:Type} {f:α->Option β}:R (none:Option α) f=none:=rfl
@[congr] def aAk {β:Type} {c d:Bool} {p:Option β} (h:c=d):aD c p=aD d p:=by rw[h]
@[simp] theorem qi {β:Type} {p:Option β}:aD true p=p:=rfl
@[simp] theorem aAl {β:Type} {p:Option β}:aD false p=none:=rfl
@[congr] def aAm {β:Type} {x y:D} {p q:Option β} (h:x=y):aE x p q=aE y p q:=by rw[h]
@[simp] theorem lF {β:Type} {b:Bool} {p q:Option β}:aE (ay b) p q=if b=true then p else q:=by cases b<;>rfl
@[congr] def aAn {x y:D} {w:Bool} {p:Option D} (h:x=y):bN x w p=bN y w p:=by rw[h]
@[simp] theorem uO {b w:Bool} {p:Option D}:bN (ay b) w p=if b=w then p else some jY:=rfl
@[simp] theorem aAo {ei:Type} {b w:Bool} {p q:Option ei}:yB (ay b) w p q=if b=w then p else q:=rfl
@[simp] theorem aAp {ei:Type} {w:Bool} {p q:Option ei}:yB jY w p q=q:=rfl
@[simp] theorem aAq {w:Bool} {p:Option D}:bN jY w p=some jY:=rfl
@[simp] theorem uP {t:Bool} {a b:D}:b1 (ay t) a b=some (if t=true then a else b):=rfl
@[simp] theorem YP {c:Prop} [Decidable c] {a b:Bool}:(if c then ay a else ay b)=ay (if c then a else b):=by split<;>rfl
@[simp] theorem Rh {α:Type} {c:Prop} [Decidable c] {a b:α}:(if c then some a else some b)=some (if c then a else b):=by split<;>rfl
@[simp] theorem aAr {α:Type} {c:Prop} [Decidable c] {a b d:α}:(if c then(if c then a else b)else d)=if c then a else d:=by split<;>simp_all
@[simp] theorem Ri {β:Type} {b:β}:aY (some b)=some (.inr b):=rfl
@[simp] theorem aAs {β:Type}:aY (none:Option β)=none:=rfl
@[simp] theorem qj {β:Type} {f:List D->Option β} {ls:List D}:bg f (.inl ls)=f ls:=rfl
@[simp] theorem FL {β:Type} {f:List D->Option β} {b:β}:bg f (.inr b)=some b:=rfl
@[simp] theorem ps {x:D} {l:List D}:I (x::l) 0=x:=rfl
@[simp] theorem rn {x:D} {l:List D} {n:Nat}:I (x::l) (n+1)=I l n:=rfl
@[simp] theorem alp {k:Nat} {es:List (List D)}:aB (.aA k es)=es:=rfl
@[simp] theorem alq {es:List (Value×D)}:gk (.mp es)=es:=rfl
@[simp] theorem alr {cs:List D}:KK (.agg cs)=cs:=rfl
@[simp] theorem aAt {cs:List D} {i:Nat}:aa (.agg cs) i=cs.getD i jY:=rfl
@[simp] theorem als {n:Int}:bT (J n)=true:=rfl
@[simp] theorem alu {n:Bool}:bT (ay n)=true:=rfl
@[simp] theorem alv {n:ByteArray}:bT (aQ n)=true:=rfl
@[simp] theorem alw {k:Nat} {es:List (List D)}:bT (.aA k es)=true:=rfl
@[simp] theorem aAu {es:List (Value×D)}:bT (.mp es)=true:=rfl
@[simp] theorem alx:bT (.val (.slice none 0 0))=true:=rfl
@[simp] theorem aly {n:Int}:(J n).one=true:=rfl
@[simp] theorem alz {n:Bool}:(ay n).one=true:=rfl
@[simp] theorem alA {n:ByteArray}:(aQ n).one=true:=rfl
@[simp] theorem alB {k:Nat} {es:List (List D)}:(D.aA k es).one=true:=rfl
@[simp] theorem alC:(D.val (.slice none 0 0)).one=true:=rfl
@[simp] theorem aAv {n:Nat} {cs:List D}:aX n (.agg cs)=(cs.length==n&&cs.all D.one):=rfl
@[simp] theorem aAw:mz (.val (.slice none 0 0))=true:=rfl
@[simp] theorem iA {n off:Nat} {cs:List D}:a7 false n off cs=cs[off]?:=rfl
theorem yW{n off:Nat}{cs:List D}:a7 true n off cs=if off+n<=cs.length then some (.agg ((cs.drop off).take n))else none:=rfl
@[simp] theorem YQ {a:Bool} {n off:Nat} {cs:List D}:l2 a n off (.agg cs)=a7 a n off cs:=rfl
@[simp] theorem Rj {i:Nat} {vs:List D}:bf i (.aO vs)=vs[i]?:=rfl
@[simp] theorem alD {k:Nat} {es:List (List D)}:bF (.aA k es)=some (J es.length):=rfl
@[simp] theorem alE:bF (.val (.slice none 0 0))=some (J 0):=rfl
@[simp] theorem Rk {s:ByteArray}:m3 (aQ s)=some (J s.size):=rfl
@[simp] theorem YR {k:Nat} {es:List (List D)} {i:Nat}:bk k (.aA k es) (J (i:Int))=es[i]?:=by simp[bk,J]
@[simp] theorem aAx {k:Nat} {es:List (List D)}:bk k (.aA k es) (J 0)=es[0]?:=by simp[bk,J]
def Rl{n:Nat}{i:Int}(h:0<=i)(bs:i<n):cV n (J i)=some i.toNat:=by simp[cV,J,h,bs]
@[simp] theorem kn {n i:Nat}:cV n (J (i:Int))=if i<n then some i else none:=by simp[cV,J]
@[simp] theorem alF {k:Nat} {es:List (List D)}:l3 (.aA k es)=some (k,es):=rfl
@[simp] theorem aAy:l3 (.val (.slice none 0 0))=some (0,[]):=rfl
def eW{n b:Nat}(ab:n*b<=140737488355328)(ad:n<=4611686018427387904):cJ n b=true:=by simp[cJ,ab,ad]
section
variable{bt:Bool}{a b:Int}
@[simp] theorem FM:aj bt .lss (J a) (J b)=some (ay (decide (a<b))):=rfl
@[simp] theorem Lj:aj bt .leq (J a) (J b)=some (ay (decide (a<=b))):=rfl
@[simp] theorem oA:aj bt .gtr (J a) (J b)=some (ay (decide (a>b))):=rfl
@[simp] theorem B9:aj bt .geq (J a) (J b)=some (ay (decide (a>=b))):=rfl
@[simp] theorem Ca:aj bt .eql (J a) (J b)=some (ay (a==b)):=rfl
@[simp] theorem yX:aj bt .neq (J a) (J b)=some (ay (a !=b)):=rfl
theorem Lk:aj bt .add (J a) (J b)=some (J (IntKind.i64.wrap (a+b))):=rfl
theorem Rm:aj bt .sub (J a) (J b)=some (J (IntKind.i64.wrap (a-b))):=rfl
theorem alG:aj bt .mul (J a) (J b)=some (J (IntKind.i64.wrap (a*b))):=rfl
def er(ab:-9223372036854775808<=a+b)(ad:a+b<=9223372036854775807):aj bt .add (J a) (J b)=some (J (a+b)):=by rw[Lk,wrap64 _ ab ad]
def mH(ab:-9223372036854775808<=a-b)(ad:a-b<=9223372036854775807):aj bt .sub (J a) (J b)=some (J (a-b)):=by rw[Rm,wrap64 _ ab ad]
def uQ(ab:-9223372036854775808<=a*b)(ad:a*b<=9223372036854775807):aj bt .mul (J a) (J b)=some (J (a*b)):=by rw[alG,wrap64 _ ab ad]
def YS(h:b≠0):aj bt .quo (J a) (J b)=some (J (IntKind.i64.wrap (a.tdiv b))):=by simp[aj,Et,J,h,oj]
def Cb(h:b≠0):aj bt .rem (J a) (J b)=some (J (a.tmod b)):=by simp[aj,Et,J,h,oj]
@[simp] theorem Rn {x y:ByteArray}:aj bt .eql (aQ x) (aQ y)=some (ay (decide (x=y))):=rfl
@[simp] theorem YT {x y:ByteArray}:aj bt .neq (aQ x) (aQ y)=some (ay (!decide (x=y))):=rfl
@[simp] theorem alH {x y:ByteArray}:aj bt .lss (aQ x) (aQ y)=some (ay (blt x y)):=rfl
@[simp] theorem Ro {x y:ByteArray}:aj bt .gtr (aQ x) (aQ y)=some (ay (!(blt x y||decide (x=y)))):=rfl
@[simp] theorem aAz {x y:Bool}:aj true .eql (ay x) (ay y)=some (ay (x==y)):=rfl
@[simp] theorem aAA {x y:Bool}:aj true .neq (ay x) (ay y)=some (ay (x !=y)):=rfl
@[simp] theorem Cc {x:Bool}:da .not (ay x)=some (ay (!x)):=rfl
end
attribute [simp] xbB xch List.getElem?_nil List.getD_cons_zero List.getD_cons_succ
theorem kK{β:Type}{f:List D->Option (List D⊕β)}{n:Nat}{ls:List D}:bI f (n+1) ls=R (f ls) λx=>match x with| .inl eP=>bI f n eP| .inr b=>some b:=rfl
def YU{β:Type}{f:List D->Option (List D⊕β)}(eF:Nat->List D):∀{m n j:Nat},(∀i,j<=i->i<j+m->f (eF i)=some (.inl (eF (i+1))))->m<=n->bI f n (eF j)=bI f (n-m) (eF (j+m))
 |0,n,j,_,_=>rfl|m+1,0,j,_,h=>absurd h (by omega)
 |m+1,n+1,j,av,h=>by
  rw[kK,av j (xaQ j) (by omega)];simp only[dx];have:=YU (f:=f) eF (m:=m) (n:=n) (j:=j+1) (λi ab ad=>av i (by omega) (by omega)) (by omega);rw[this]
  congr 1
  .omega
  congr 1;omega
theorem l7{β:Type}{f:List D->Option (List D⊕β)}{ls:List D}{n:Nat}{b:β}(eF:Nat->List D)(m:Nat)(aq:ls=eF 0)(av:∀i,i<m->f (eF i)=some (.inl (eF (i+1))))(he:f (eF m)=some (.inr b))(aC:m<n):bI f n ls=some b:=by subst aq;rw[YU eF (m:=m) (λi _ h=>av i (by omega)) (by omega)];obtain⟨k,ah⟩:∃k,n-m=k+1:=⟨n-m-1,by omega⟩;rw[ah,kK,xaE,he];rfl
end Go.Am
