/- An evaluator of code over such values, and that what it answers the code does. No condition. -/
import Derived.Test.YthnecpgodmolaaaGreatDoorEngS
import Derived.KernelRfl
set_option linter.all false
set_option linter.unnecessarySimpa false
namespace Go.Am
def aa{α β:Type}(x:Option α)(f:α->Option β):Option β:=match x with|some a=>f a|none=>none
def fw{α β:Type}{x:Option α}{f:α->Option β}{b:β}(h:aa x f=some b):∃a,x=some a/\f a=some b:=by
 cases x with
 |none=>cases h
 |some a=>exact⟨a,rfl,h⟩
def aB{β:Type}(c:Bool)(p:Option β):Option β:=match c with|true=>p|false=>none
def lv{β:Type}{c:Bool}{p:Option β}{b:β}(h:aB c p=some b):c=true/\p=some b:=by
 cases c with
 |false=>cases h
 |true=>exact⟨rfl,h⟩
def aE{β:Type}(x:D)(p q:Option β):Option β:=match x with| .val (.bool true)=>p| .val (.bool false)=>q|_=>none
def X8{β:Type}{x:D}{p q:Option β}{b:β}(h:aE x p q=some b):(x= .val (.bool true)/\p=some b)\/(x= .val (.bool false)/\q=some b):=by
 unfold aE at h;split at h;.exact .inl ⟨rfl,h⟩
 .exact .inr ⟨rfl,h⟩
 cases h
def lx:D:= .val (.tuple #[])
def nS:Option aS->Option D
 |some (.d r)=>some r|_=>none
def yq{x:Option aS}{r:D}(h:nS x=some r):x=some (.d r):=by
 unfold nS at h;split at h;.cases h;rfl
 cases h
def KT:D->List D
 | .agg cs=>cs|_=>[]
def ad(x:D)(i:Nat):D:=(KT x).getD i lx
def aq:D->List (List D)
 | .ax _ es=>es|_=>[]
def ej:D->List (Value×D)
 | .mp es=>es|_=>[]
def bu(x:D):Bool:=x.one
def a4(n:Nat)(x:D):Bool:=match x with| .agg cs=>cs.length==n&&cs.all D.one|_=>false
def nT(x:D):Bool:=match x with| .val (.slice none 0 0)=>true|_=>false
def ajt{n:Nat}{x:D}(h:a4 n x=true):∃cs,x= .agg cs/\cs.length=n/\cs.all D.one=true:=by
 unfold a4 at h;split at h;.rename_i cs;rw[xal,xbz]at h;exact⟨cs,rfl,h.1,h.2⟩
 cases h
def aju{n:Nat}{cs:List D}(h:cs.length=n):((List.range n).map λi=>aS.d (ad (.agg cs) i))=cs.map .d:=by
 apply xca;intro i;simp only[xaj];by_cases ah:i<n;.rw[xbT ah,xab (by omega)];simp[ad,KT,xaM,h,ah]
 rw[xbn (by simp;omega),xbn (by omega)];rfl
def ai(bt:Bool)(op:BinOp)(x y:D):Option D:=match x,y with
 | .val (.int k a),.val (.int bs b)=>nS (match op with
  | .shl=>if b<0 then none else some (.d (.val (.int k (k.wrap (a*2^(min b.toNat k.bits))))))
  | .shr=>if b<0 then none else some (.d (.val (.int k (a.fdiv (2^(min b.toNat k.bits))))))
  |_=>if k=bs then Ef op k a b else none)
 | .val (.string a),.val (.string b)=>nS (Pe op a b)| .val (.bool a),.val (.bool b)=>if bt then nS (Pf op a b)else none
 |_,_=>none
def ajv{T:ch}{t:TypeId}{op:BinOp}{x y r:D}(h:ai (Eg T t) op x y=some r):vV T op t (.d x) (.d y)=some (.d r):=by
 unfold ai at h;unfold vV;split at h;.have:=yq h;cases op<;>exact this
 .exact yq h
 .split at h;.rename_i aj;simp only[aj,xaH];exact yq h
  cases h
 cases h
def yr(l:List TypeDesc)(op:BinOp)(x y:D):Option D:=match x,y with| .agg xs,.agg dm=>nS (JV op l xs dm)|_,_=>none
def ajw{T:ch}{t:TypeId}{op:BinOp}{x y r:D}{l:List TypeDesc}(ar:T.eqs t=some l)(h:yr l op x y=some r):vV T op t (.d x) (.d y)=some (.d r):=by
 unfold yr at h;split at h;.unfold vV;simp only[ar];exact yq h
 cases h
def X9(op:BinOp)(x y:D):Option D:=match op with
 | .eql=>if nT y then(match x with| .val (.slice none _ _)=>some (.val (.bool true))| .ax _ (_::_)=>some (.val (.bool false))|_=>none)else none
 | .neq=>if nT y then(match x with| .val (.slice none _ _)=>some (.val (.bool false))| .ax _ (_::_)=>some (.val (.bool true))|_=>none)else none
 |_=>none
def dp(op:UnOp)(x:D):Option D:=match op,x with| .not,.val (.bool b)=>some (.val (.bool !b))| .neg,.val (.int k n)=>some (.val (.int k (k.wrap (0-n))))|_,_=>none
def km(k:IntKind)(x:D):Option D:=match x with| .val (.int _ n)=>some (.val (.int k (k.wrap n)))|_=>none
def Ya(x:D):Option D:=match x with| .val (.string b)=>some (.val (.string b))|_=>none
def bZ(c a b:D):Option D:=match c with
 | .val (.bool t)=>some (if t then a else b)
 |_=>none
def a3(agg:Bool)(n off:Nat)(cs:List D):Option D:=match agg with
 |true=>if off+n<=cs.length then some (.agg ((cs.drop off).take n))else none
 |false=>cs[off]?
def lS(agg:Bool)(n off:Nat)(x:D):Option D:=match x with| .agg cs=>a3 agg n off cs|_=>none
def br(i:Nat)(x:D):Option D:=match x with| .a1 vs=>vs[i]?|_=>none
def nU(s i:D):Option D:=match s,i with| .val (.string s),.val (.int _ n)=>nS (JZ s n)|_,_=>none
def rj(x:Option D)(Pk:Nat):Option Nat:=match x with
 |none=>some Pk|some (.val (.int _ n))=>if 0<=n then some n.toNat else none
 |_=>none
theorem KU(x:Option D)(d:Nat):qc (x.map .d) d=rj x d:=by cases x with|none=>rfl|some x=>cases x<;>first|rfl|(rename_i v;cases v<;>rfl)
def Yb(s:D)(lo ah:Option D):Option D:=match s with
 | .val (.string s)=>match rj ah s.size,rj lo 0 with
  |some h,some l=>if l<=h/\h<=s.size then some (.val (.string (s.extract l h)))else none
  |_,_=>none
 |_=>none
def rk(k:Nat)(x:D)(lo ah:Option D):Option D:=match x with
 | .ax bs es=>match rj ah es.length,rj lo 0 with
  |some h,some l=>if l<=h/\h<=es.length/\bs=k then some (.ax bs ((es.drop l).take (h-l)))else none
  |_,_=>none
 |_=>none
def ly(n:Nat)(lo ah:Option D):Option (Nat×Nat):=match rj ah n,rj lo 0 with
 |some h,some l=>if l<=h/\h<=n then some (l,h-l)else none
 |_,_=>none
def pw(x:D):Option D:=match x with| .val (.string s)=>some (.val (.int .i64 s.size))|_=>none
def bK(x:D):Option D:=match x with| .ax _ es=>some (.val (.int .i64 es.length))| .val (.slice _ n _)=>some (.val (.int .i64 n))|_=>none
def Yc(x:D):Option D:=match x with| .val (.map none)=>some (.val (.int .i64 0))| .mp es=>some (.val (.int .i64 es.length))|_=>none
def bn(k:Nat)(x i:D):Option (List D):=match i with
 | .val (.int _ n)=>if 0<=n then(match x with
  | .ax bs es=>if bs=k then es[n.toNat]? else none
  |_=>none)else none
 |_=>none
def b9(n:Nat)(i:D):Option Nat:=match i with
 | .val (.int _ j)=>if 0<=j/\j<n then some j.toNat else none
 |_=>none
def kn(x:D):Option (Nat×List (List D)):=match x with| .ax k es=>some (k,es)| .val (.slice none 0 _)=>some (0,[])|_=>none
def lT(hz:Bool)(l:List D):Option D:=nS (q0 hz (l.map .d))
def c1(n bytes:Nat):Bool:=decide (n*bytes<=140737488355328)&&decide (n<=4611686018427387904)
def rl(bytes:Nat)(l c:D):Option Nat:=match l,c with
 | .val (.int _ l),.val (.int _ c)=>if 0<=l/\l<=c/\(bytes:Int)*c<=281474976710656/\c<=9223372036854775807 then some l.toNat else none
 |_,_=>none
def j4(kind:TypeDesc)(zero:Value)(ok:Bool)(es:List (Value×D))(k:D):Option D:=match k with
 | .val fe=>match findD kind fe es with
  |some (some x)=>some (if ok then .a1 [x,.val (.bool true)]else x)
  |some none=>some (if ok then .a1 [sE zero,.val (.bool false)]else sE zero)
  |none=>none
 |_=>none
def lz(x:D):Option (List (Value×D)):=match x with| .val (.map none)=>some []| .mp es=>some es|_=>none
def nr(kind:TypeDesc)(es:List (Value×D))(k x:D):Option (List (Value×D)):=match k with| .val fe=>q1 kind fe x es|_=>none
section
variable{β:Type}
def EX:List aS->Option β->Option β
 |[],p=>p| .d a::r,p=>aB (bu a) (EX r p)|x::r,p=>if x.one=true then EX r p else none
def Qj{p:Option β}{b:β}:∀{cs:List aS},EX cs p=some b->cs.all aS.one=true/\p=some b
 |[],h=>⟨rfl,h⟩
 |x::r,h=>by
  unfold EX at h;split at h;.rename_i e;cases e
  .rename_i a sD oq e;cases e;obtain⟨ab,af⟩:=lv h;obtain⟨aw,a5⟩:=Qj af;exact⟨by rw[xbP,aw,xbo];exact ab,a5⟩
  rename_i e;cases e;split at h;.rename_i ag;obtain⟨aw,a5⟩:=Qj h;exact⟨by rw[xbP,aw,xbo];exact ag,a5⟩
  cases h
def BA(n:Nat)(x:aS)(k:List aS->Option β):Option β:=match x with
 | .d a=>match n with|1=>aB (bu a) (k [.d a])|_=>aB (a4 n a) (k ((List.range n).map λi=> .d (ad a i)))
 | .agg cs=>EX cs (k cs)|x=>match cellsOf x with|some cs=>k cs|none=>none
def KV{n:Nat}{x:aS}{k:List aS->Option β}{b:β}(h:BA n x k=some b):∃cs,cellsOf x=some cs/\k cs=some b:=by
 unfold BA at h;split at h
 .rename_i a;split at h
  .obtain⟨ab,af⟩:=lv h;refine⟨_,?_,af⟩;unfold bu at ab;unfold cellsOf;split;.rename_i he;cases he;cases ab
   .rename_i he;cases he
   rw[xad (show aS.one (.d a)=true from ab)]
  obtain⟨ab,af⟩:=lv h;obtain⟨cs,rfl,aJ,aZ⟩:=ajt ab;rw[aju aJ]at af;exact⟨_,by simp only[cellsOf,aZ,xaH],af⟩
 .obtain⟨ab,af⟩:=Qj h;exact⟨_,by simp only[cellsOf,ab,xaH],af⟩
 split at h;.rename_i cs hL;exact⟨cs,hL,h⟩
 cases h
def KW(place:Nat->Option (Nat×Nat))(cells:List aS):List (Nat×aS)->(List aS->Option β)->Option β
 |[],k=>k cells|(i,x)::rest,k=>match place i with|none=>none|some (off,size)=>BA size x λcs=>if cs.length=size/\off+cs.length<=cells.length then KW place (nJ cells off cs) rest k else none
def Yd{place:Nat->Option (Nat×Nat)}:∀{parts:List (Nat×aS)} {cells:List aS} {k:List aS->Option β} {b:β},KW place cells parts k=some b->∃cs,xY place cells parts=some cs/\k cs=some b
 |[],cells,k,b,h=>⟨cells,rfl,h⟩
 |(i,x)::rest,cells,k,b,h=>by
  unfold KW at h;split at h;.cases h
  rename_i off size aU;obtain⟨cs,ab,af⟩:=KV h;split at af
  case isFalse=>cases af
  rename_i ao;obtain⟨out,aw,a5⟩:=Yd af;exact⟨out,by unfold xY;simp only[aU,ab];rw[xad ao];exact aw,a5⟩
def KX(size:Nat)(n:Nat):List (Nat×aS)->(List (List D)->Option β)->Option β
 |[],k=>k []
 |(i,x)::r,k=>if i=n then BA size x λcs=>match ll cs with
   |some aO=>if aO.length=size then KX size (n+1) r λl=>k (aO::l)else none
   |none=>none
  else none
def Ye{size:Nat}:∀{parts:List (Nat×aS)} {n:Nat} {k:List (List D)->Option β} {b:β},KX size n parts k=some b->∃es,v5 size n parts=some es/\k es=some b
 |[],n,k,b,h=>⟨[],rfl,h⟩
 |(i,x)::r,n,k,b,h=>by
  unfold KX at h;split at h
  case isFalse=>cases h
  rename_i ah;obtain⟨cs,ab,af⟩:=KV h;split at af
  case h_2=>cases af
  rename_i aO e1;split at af
  case isFalse=>cases af
  rename_i ar;obtain⟨es,aw,a5⟩:=Ye af;exact⟨aO::es,by unfold v5;simp only[ah,xaH,ab,e1,aw,ar],a5⟩
end
section
variable{β:Type}
def sV(T:ch)(G:dr)(σ:aI)(o:Oper)(k:aI->Option β):Option β:=match g1 T G σ o with|some aW=>k aW|none=>none
def k3(σ:aI)(dst:Option Tmp)(k:aI->Option β)(p:Option D):Option β:=aa p λv=>k (σ.put dst (.d v))
def mV(T:ch)(σ:aI)(dst:Option Tmp)(k:aI->Option β)(r:aS)(cC:List (Key×cV)):Option β:=match q6 (T.born (dst.getD 9999)) (dst.getD 9999) (r,cC)with|(r,cC)=>k (aI.put ⟨σ.aK,dI σ.objs cC⟩ dst r)
def KY:Option aS->Option (Option D)
 |none=>some none|some (.d a)=>some (some a)|_=>none
theorem Yf{x:Option aS}{y:Option D}(h:KY x=some y):x=y.map .d:=by unfold KY at h;split at h<;>cases h<;>rfl
def Yg(T:ch)(t:TypeId):Bool:=match T t with|some ⟨.slice _,_,_,_⟩=>true|_=>false
def Qk(T:ch)(G:dr)(σ:aI)(o:Oper)(op:BinOp)(t:TypeId)(x y:Operand)(k:aI->Option β):Option β:=match cj G σ.aK x,cj G σ.aK y with
 | .d a,.d b=>match Yg T t with|true=>k3 σ o.dst k (X9 op a b)|false=>match T.eqs t with|some l=>k3 σ o.dst k (yr l op a b)|none=>k3 σ o.dst k (ai (Eg T t) op a b)
 |_,_=>sV T G σ o k
def Ql(T:ch)(G:dr)(σ:aI)(o:Oper)(s:TypeId)(x:Operand)(f:Nat)(k:aI->Option β):Option β:=match Ek T s f with
 |some (off,i)=>match cj G σ.aK x with| .d a=>k3 σ o.dst k (lS (ui i.desc) i.size off a)|_=>sV T G σ o k
 |none=>none
def Qm(T:ch)(G:dr)(σ:aI)(o:Oper)(t:TypeId)(a:Operand)(k:aI->Option β):Option β:=match T t with
 |some i=>match cj G σ.aK a with
  | .ew cs off=>k3 σ o.dst k (a3 (ui i.desc) i.size off cs)
  | .gA key cU fA off=>match σ.objs key with
   |some (.row bs es)=>if cU=bs then aa es[fA]? λe=>k3 σ o.dst k (a3 (ui i.desc) i.size off e)else none
   |_=>none
  |_=>sV T G σ o k
 |none=>none
def Qn(T:ch)(G:dr)(σ:aI)(o:Oper)(t:TypeId)(x fA:Operand)(k:aI->Option β):Option β:=match T t with
 |some ⟨.slice e,_,_,_⟩=>match T e with
  |some bg=>match cj G σ.aK fA with
   | .d i=>match cj G σ.aK x with
    | .d a=>aa (bn bg.size a i) λc=>k (σ.put o.dst (.ew c 0))
    | .row key=>match σ.objs key with
     |some (.row bs es)=>if bs=bg.size then aa (b9 es.length i) λn=>k (σ.put o.dst (.gA key bs n 0))else none
     |_=>none
    | .sub key bs i0 len=>if bs=bg.size then aa (b9 len i) λn=>k (σ.put o.dst (.gA key bs (i0+n) 0))else none
    |_=>none
   |_=>none
  |none=>none
 |some ⟨.array len e,_,_,_⟩=>match T e with
  |some bg=>match cj G σ.aK fA with
   | .d i=>aa (b9 len i) λn=>match El (cj G σ.aK x) (n*bg.size)with|some r=>k (σ.put o.dst r)|none=>none
   |_=>none
  |none=>none
 |_=>none
def Qo(T:ch)(G:dr)(σ:aI)(o:Oper)(t:TypeId)(x:Operand)(lo ah:Option Operand)(k:aI->Option β):Option β:=match KY (lo.map (cj G σ.aK)),KY (ah.map (cj G σ.aK))with
 |some l,some h=>match T t with
  |some ⟨.string,_,_,_⟩=>match cj G σ.aK x with| .d a=>k3 σ o.dst k (Yb a l h)|_=>none
  |some ⟨.slice e,_,_,_⟩=>match T e with
   |some bg=>match cj G σ.aK x with
    | .d a=>k3 σ o.dst k (rk bg.size a l h)
    | .row key=>match σ.objs key with
     |some (.row bs es)=>if bs=bg.size then aa (ly es.length l h) λp=>k (σ.put o.dst (.sub key bs p.1 p.2))else none
     |_=>none
    | .sub key bs i0 len=>if bs=bg.size then aa (ly len l h) λp=>k (σ.put o.dst (.sub key bs (i0+p.1) p.2))else none
    |_=>none
   |none=>none
  |_=>sV T G σ o k
 |_,_=>none
def Qp(T:ch)(G:dr)(σ:aI)(o:Oper)(args:List Operand)(dJ:List TypeId)(k:aI->Option β):Option β:=match dJ,args with
 |[t],[x]=>match cj G σ.aK x with
  | .d a=>match T t with|some ⟨.string,_,_,_⟩=>k3 σ o.dst k (pw a)|some ⟨.slice _,_,_,_⟩=>k3 σ o.dst k (bK a)|some ⟨.map _ _,_,_,_⟩=>k3 σ o.dst k (Yc a)|_=>none
  |_=>sV T G σ o k
 |_,_=>none
def Qq(T:ch)(G:dr)(σ:aI)(o:Oper)(args:List Operand)(dJ:List TypeId)(k:aI->Option β):Option β:=match dJ,args with
 |[t,t'],[s,x]=>match T t,T t',σ.objs (o.dst.getD 9999)with
  |some ⟨.slice e,_,_,_⟩,some ⟨.slice _,_,_,_⟩,none=>match T e with
   |some bg=>
    let go:Nat×List (List D)->Option β:=λp=>aB (decide (p.1=bg.size\/p.2=[])&&decide (0<bg.size)) (match cj G σ.aK s with
     | .d a=>aB (nT a&&c1 p.2.length bg.bytes) (mV T σ o.dst k (.row (o.dst.getD 9999)) [(o.dst.getD 9999,.row bg.size p.2)])
     | .row key=>match σ.objs key with
      |some (.row bs es)=>if bs=bg.size/\key<10000 then aB (c1 (es.length+p.2.length) bg.bytes) (mV T σ o.dst k (.row (o.dst.getD 9999)) [(key,.dead),(o.dst.getD 9999,.row bs (es++p.2))])else none
      |_=>none
     |_=>none)
    match cj G σ.aK x with
    | .d a=>aa (kn a) go
    | .sub key bs i len=>match σ.objs key with
     |some (.row px es)=>if bs=px then aB (decide (i+len<=es.length)) (go (bs,(es.drop i).take len))else none
     |_=>none
    |y=>match mi σ.objs y with|some p=>go p|none=>none
   |none=>none
  |_,_,_=>none
 |_,_=>none
def Qr(T:ch)(G:dr)(σ:aI)(o:Oper)(args:List Operand)(dJ:List TypeId)(k:aI->Option β):Option β:=match dJ,args with
 |[t,t'],[s,x]=>match T t with
  |some ⟨.slice e,_,_,_⟩=>match T e with
   |some bg=>
    let go:Nat×List (List D)->Option β:=λp=>aB (decide (p.1=bg.size\/p.2=[])) (match cj G σ.aK s with
     | .row key=>match σ.objs key with
      |some (.row bs es)=>if bs=bg.size then mV T σ o.dst k (.d (.val (.int .i64 (min p.2.length es.length:Nat)))) [(key,.row bs (p.2.take (min p.2.length es.length)++es.drop (min p.2.length es.length)))]else none
      |_=>none
     | .sub key bs i len=>match σ.objs key with
      |some (.row px es)=>if bs=bg.size/\px=bs then aB (decide (i+len<=es.length)) (mV T σ o.dst k (.d (.val (.int .i64 (min p.2.length len:Nat)))) [(key,.row bs (es.take i++p.2.take (min p.2.length len)++es.drop (i+min p.2.length len)))])else none
      |_=>none
     |_=>none)
    match cj G σ.aK x with
    | .d a=>aa (kn a) go
    | .sub key bs i len=>match σ.objs key with
     |some (.row px es)=>if bs=px then aB (decide (i+len<=es.length)) (go (bs,(es.drop i).take len))else none
     |_=>none
    |y=>match mi σ.objs y with|some p=>go p|none=>none
   |none=>none
  |_=>none
 |_,_=>none
def Qs(T:ch)(G:dr)(σ:aI)(o:Oper)(args:List Operand)(dJ:List TypeId)(k:aI->Option β):Option β:=match dJ,args with
 |[t],[s]=>match T t with
  |some ⟨.slice e,_,_,_⟩=>match T e with
   |some bg=>match cj G σ.aK s with
    | .sub key bs i len=>match σ.objs key with
     |some (.row px es)=>if bs=bg.size/\px=bs/\bg.zero.cells.toList.all ke=true then aB (decide (i+len<=es.length)) (mV T σ o.dst k .any [(key,.row bs (es.take i++List.replicate len (bg.zero.cells.toList.map .val)++es.drop (i+len)))])else none
     |_=>none
    |_=>none
   |none=>none
  |_=>none
 |_,_=>none
def Qt(T:ch)(G:dr)(σ:aI)(o:Oper)(t:TypeId)(x i:Operand)(ok:Bool)(k:aI->Option β):Option β:=match T t with
 |some ⟨.map ir ga,_,_,_⟩=>match T ir,T ga with
  |some h6,some bg=>if vY h6.desc then(match cj G σ.aK i with
   | .d fe=>match cj G σ.aK x with
    | .d m=>aa (lz m) λes=>k3 σ o.dst k (j4 h6.desc bg.zero ok es fe)| .map key=>match σ.objs key with|some (.map es)=>k3 σ o.dst k (j4 h6.desc bg.zero ok es fe)|_=>none
    |_=>none
   |_=>none)else none
  |_,_=>none
 |_=>none
def KZ(T:ch)(G:dr)(σ:aI)(o:Oper)(t:TypeId)(m i x:Operand)(k:aI->Option β):Option β:=match T t with
 |some ⟨.map ir _,_,_,_⟩=>match T ir with
  |some h6=>if vY h6.desc then(match cj G σ.aK m,cj G σ.aK i,cj G σ.aK x with
   | .map key,.d fe,.d v=>match σ.objs key with|some (.map es)=>aa (nr h6.desc es fe v) λl=>mV T σ o.dst k .any [(key,.map l)]|_=>none
   |_,_,_=>none)else none
  |none=>none
 |_=>none
def Qu(T:ch)(G:dr)(σ:aI)(o:Oper)(t:TypeId)(a x:Operand)(k:aI->Option β):Option β:=match T t with
 |some i=>BA i.size (cj G σ.aK x) λcs=>if cs.length=i.size then(match cj G σ.aK a with
  | .ptr key off=>match σ.objs key with
   |some (.box cells)=>if off+cs.length<=cells.length then mV T σ o.dst k .any [(key,.box (nJ cells off cs))]else none
   |_=>none
  | .gA key cU fA off=>match σ.objs key,ll cs with
   |some (.row bs es),some aO=>if cU=bs/\off+aO.length<=cU then aa es[fA]? λe=>mV T σ o.dst k .any [(key,.row cU (es.set fA (dF e off aO)))]else none
   |_,_=>none
  |_=>none)else none
 |none=>none
def Qv(T:ch)(G:dr)(σ:aI)(o:Oper)(t:TypeId)(parts:Array (Nat×Operand))(k:aI->Option β):Option β:=match Pj T t with|some (pl,z)=>KW pl (zeroCells z) (parts.toList.map λp=>(p.1,cj G σ.aK p.2)) λout=>k (σ.put o.dst (A4 out))|none=>none
def Qw(T:ch)(G:dr)(σ:aI)(o:Oper)(t:TypeId)(n:Nat)(parts:Array (Nat×Operand))(k:aI->Option β):Option β:=match T t,σ.objs (o.dst.getD 9999)with
 |some ⟨.slice e,_,_,_⟩,none=>match T e with
  |some bg=>KX bg.size 0 (parts.toList.map λp=>(p.1,cj G σ.aK p.2)) λes=>if es.length=n/\0<bg.size/\n*bg.size<=16777216 then mV T σ o.dst k (.row (o.dst.getD 9999)) [(o.dst.getD 9999,.row bg.size es)]else none
  |none=>none
 |_,_=>none
def Qx(T:ch)(G:dr)(σ:aI)(o:Oper)(t:TypeId)(l c:Operand)(k:aI->Option β):Option β:=match T t,σ.objs (o.dst.getD 9999)with
 |some ⟨.slice e,_,_,_⟩,none=>match T e with
  |some bg=>match cj G σ.aK l,cj G σ.aK c with
   | .d l,.d c=>if bg.zero.cells.toList.all ke then aa (rl bg.bytes l c) λn=>mV T σ o.dst k (.row (o.dst.getD 9999)) [(o.dst.getD 9999,.row bg.size (List.replicate n (bg.zero.cells.toList.map .val)))]else none
   |_,_=>none
  |none=>none
 |_,_=>none
def Qy(T:ch)(G:dr)(σ:aI)(o:Oper)(s t:TypeId)(x:Operand)(k:aI->Option β):Option β:=match T s,T t,cj G σ.aK x with|some _,some ⟨.int i,_,_,_⟩,.d a=>k3 σ o.dst k (km i a)|some _,some ⟨.string,_,_,_⟩,.d a=>k3 σ o.dst k (Ya a)|_,_,_=>sV T G σ o k
def K0(T:ch)(G:dr)(σ:aI)(o:Oper)(hz:Bool)(args:List Operand)(k:aI->Option β):Option β:=match ll (args.map (cj G σ.aK))with|some aO=>k3 σ o.dst k (lT hz aO)|none=>none
def dd:aS->aS->Option (D×D)
 | .d a,.d b=>some (a,b)|_,_=>none
theorem ajx{x y:aS}{p:D×D}(h:dd x y=some p):x= .d p.1/\y= .d p.2:=by unfold dd at h;split at h<;>cases h;exact⟨rfl,rfl⟩
def Yh{T:ch}{ev:Operand->aS}{c a b:Operand}{t:Bool}(ao:ev c= .d (.val (.bool t)))(h:dd (ev a) (ev b)=none):eZ T ev (.pick c a b)=some (if t then ev a else ev b):=by
 simp only[eZ,ao];generalize ev a=x at*;generalize ev b=y at*;split;.cases h
 rfl
def uK(T:ch)(G:dr)(σ:aI)(o:Oper)(k:aI->Option β):Option β:=match o.op with
 | .binOp op t x y _=>Qk T G σ o op t x y k| .unOp op _ x=>match cj G σ.aK x with| .d a=>k3 σ o.dst k (dp op a)|_=>none
 | .convert s t x=>Qy T G σ o s t x k
 | .pick c a b=>match cj G σ.aK c with
  | .d c=>match dd (cj G σ.aK a) (cj G σ.aK b)with|some p=>k3 σ o.dst k (bZ c p.1 p.2)|none=>aE c (k (σ.put o.dst (cj G σ.aK a))) (k (σ.put o.dst (cj G σ.aK b)))
  |_=>none
 | .field s x f=>Ql T G σ o s x f k| .extract x i=>match cj G σ.aK x with| .d a=>k3 σ o.dst k (br i a)|_=>sV T G σ o k
 | .index t x i=>match T t with
  |some ⟨.string,_,_,_⟩=>match cj G σ.aK x,cj G σ.aK i with| .d a,.d b=>k3 σ o.dst k (nU a b)|_,_=>none
  |some ⟨.array len e,_,_,_⟩=>match T e with
   |some bg=>match cj G σ.aK x,cj G σ.aK i with| .d a,.d b=>aa (b9 len b) λn=>k3 σ o.dst k (lS (ui bg.desc) bg.size (n*bg.size) a)|_,_=>none
   |none=>none
  |_=>none
 | .load t a=>Qm T G σ o t a k| .indexAddr t x fA=>Qn T G σ o t x fA k| .slice t x lo ah none=>Qo T G σ o t x lo ah k| .lookup t x i ok=>Qt T G σ o t x i ok k| .mapUpdate t m i x=>KZ T G σ o t m i x k| .insert t m i x=>KZ T G σ o t m i x k| .store t a x=>Qu T G σ o t a x k| .build t parts=>Qv T G σ o t parts k| .buildSlice t n parts=>Qw T G σ o t n parts k| .makeSlice t l c=>Qx T G σ o t l c k| .box t x=>match T t,σ.objs (o.dst.getD 9999)with|some i,none=>BA i.size (cj G σ.aK x) λcs=>mV T σ o.dst k (.ptr (o.dst.getD 9999) 0) [(o.dst.getD 9999,.box cs)]|_,_=>none
 | .call ⟨.builtin .len,args,dJ⟩=>Qp T G σ o args.toList dJ.toList k| .call ⟨.builtin .append,args,dJ⟩=>Qq T G σ o args.toList dJ.toList k| .call ⟨.builtin .copy,args,dJ⟩=>Qr T G σ o args.toList dJ.toList k| .call ⟨.builtin .clear,args,dJ⟩=>Qs T G σ o args.toList dJ.toList k| .call ⟨.builtin .max,args,_⟩=>K0 T G σ o true args.toList k| .call ⟨.builtin .min,args,_⟩=>K0 T G σ o false args.toList k|_=>sV T G σ o k
variable{T:ch}{G:dr}{σ:aI}{o:Oper}{k:aI->Option β}{b:β}
def wE(h:sV T G σ o k=some b):∃aW,g1 T G σ o=some aW/\k aW=some b:=by
 unfold sV at h;split at h;.exact⟨_,by assumption,h⟩
 cases h
def mW{r:aS}(h:eZ T (cj G σ.aK) o.op=some r)(ak:k (σ.put o.dst r)=some b):∃aW,g1 T G σ o=some aW/\k aW=some b:=⟨_,by unfold g1;rw[h],ak⟩
def mu{r:aS}(au:eZ T (cj G σ.aK) o.op=none)(h:dH T (cj G σ.aK) σ.objs o.op=some r)(ak:k (σ.put o.dst r)=some b):∃aW,g1 T G σ o=some aW/\k aW=some b:=⟨_,by unfold g1;rw[au,h],ak⟩
def rm{r:aS}{cC:List (Key×cV)}(au:eZ T (cj G σ.aK) o.op=none)(ab:dH T (cj G σ.aK) σ.objs o.op=none)(h:et T (cj G σ.aK) σ.objs (o.dst.getD 9999) o.op=some (r,cC)) (ak:mV T σ o.dst k r cC=some b):∃aW,g1 T G σ o=some aW/\k aW=some b:=⟨_,by unfold g1;rw[au,ab];unfold hg;rw[h];rfl,by unfold mV at ak;exact ak⟩
def ajy{op:BinOp}{t:TypeId}{x y:Operand}{xZ:TypeId}(aG:o.op= .binOp op t x y xZ)(h:Qk T G σ o op t x y k=some b):∃aW,g1 T G σ o=some aW/\k aW=some b:=by
 unfold Qk at h;split at h
 .rename_i a c aF ao;split at h
  .rename_i aH;obtain⟨v,ab,af⟩:=fw h;have Yi:∀{d},nT d=true->d= .val (.slice none 0 0):=by
    intro d aA;unfold nT at aA;split at aA;.rfl
    cases aA
   unfold Yg at aH;split at aH
   case h_2=>cases aH
   rename_i aJ aZ bN cO aM;have aj:c= .val (.slice none 0 0)->eZ T (cj G σ.aK) o.op=none:=by intro dU;subst dU;rw[aG];simp only[eZ,aF,ao,vV]
   unfold X9 at ab;split at ab
   .split at ab
    case isFalse=>cases ab
    rename_i aL;have aL:=Yi aL;subst aL;refine mu (r:= .d v) (aj rfl) ?_ af;rw[aG];simp only[dH,aM,ao,vZ,xaH,aF,mO];split at ab<;>cases ab<;>simp
   .split at ab
    case isFalse=>cases ab
    rename_i aL;have aL:=Yi aL;subst aL;refine mu (r:= .d v) (aj rfl) ?_ af;rw[aG];simp only[dH,aM,ao,vZ,xaH,aF,mO];split at ab<;>cases ab<;>simp
   cases ab
  split at h;.rename_i l ar;obtain⟨v,ab,af⟩:=fw h;exact mW (by rw[aG];simp only[eZ,aF,ao];exact ajw ar ab) af
  obtain⟨v,ab,af⟩:=fw h;exact mW (by rw[aG];simp only[eZ,aF,ao];exact ajv ab) af
 exact wE h
def K1{i:iQ}{off:Nat}{cs:List D}{v:D}(h:a3 (ui i.desc) i.size off cs=some v):sB i cs off=some (.d v):=by
 unfold a3 at h;unfold sB;cases aA:ui i.desc with
 |true=>
  simp only[aA]at h;simp only[xaH];split at h;.rename_i ao;rw[xad ao];cases h;rfl
  cases h
 |false=>simp only[aA]at h;simp[h]
def ajz{s:TypeId}{x:Operand}{f:Nat}(aG:o.op= .field s x f)(h:Ql T G σ o s x f k=some b):∃aW,g1 T G σ o=some aW/\k aW=some b:=by
 unfold Ql at h;split at h
 case h_2=>cases h
 rename_i off i bd;split at h
 .rename_i a aF;obtain⟨v,ab,af⟩:=fw h;unfold lS at ab;split at ab
  case h_2=>cases ab
  exact mW (by rw[aG];simp only[eZ,bd,aF];exact K1 ab) af
 exact wE h
def ajA{t:TypeId}{a:Operand}(aG:o.op= .load t a)(h:Qm T G σ o t a k=some b):∃aW,g1 T G σ o=some aW/\k aW=some b:=by
 unfold Qm at h;split at h
 case h_2=>cases h
 rename_i i ah;split at h;.rename_i cs off aF;obtain⟨v,ab,af⟩:=fw h;exact mu (by rw[aG];rfl) (by rw[aG];simp only[dH,ah,aF];exact K1 ab) af
 .rename_i key cU fA off aF;split at h
  case h_2=>cases h
  rename_i bs es ak;split at h
  case isFalse=>cases h
  rename_i dk;obtain⟨e,ab,af⟩:=fw h;obtain⟨v,aw,a5⟩:=fw af;exact mu (by rw[aG];rfl) (by rw[aG];simp only[dH,ah,aF,ak,dk,xaH,ab];exact K1 aw) a5
 exact wE h
def Qz{n m:Nat}{i:D}(h:b9 n i=some m):∃K2 j,i= .val (.int K2 j)/\0<=j/\j<n/\m=j.toNat:=by
 unfold b9 at h;split at h
 case h_2=>cases h
 split at h
 case isFalse=>cases h
 rename_i ao;cases h;exact⟨_,_,rfl,ao.1,ao.2,rfl⟩
def ajB{t:TypeId}{x fA:Operand}(aG:o.op= .indexAddr t x fA)(h:Qn T G σ o t x fA k=some b):∃aW,g1 T G σ o=some aW/\k aW=some b:=by
 unfold Qn at h;split at h
 .rename_i e s1 s2 gF aM;split at h
  case h_2=>cases h
  rename_i bg he;split at h
  case h_2=>cases h
  rename_i i ah;split at h
  .rename_i a aF;obtain⟨c,ab,af⟩:=fw h;unfold bn at ab;split at ab
   case h_2=>cases ab
   split at ab
   case isFalse=>cases ab
   rename_i aL;split at ab
   case h_2=>cases ab
   split at ab
   case isFalse=>cases ab
   rename_i ak;exact mu (by rw[aG];rfl) (by rw[aG];simp only[dH,aM,ah,he,aF,aL,ak,xaH,ab]) af
  .rename_i key aF;split at h
   case h_2=>cases h
   rename_i bs es ak;split at h
   case isFalse=>cases h
   rename_i dk;obtain⟨n,ab,af⟩:=fw h;obtain⟨K2,j,rfl,aV,a2,rfl⟩:=Qz ab;exact mu (by rw[aG];rfl) (by rw[aG];simp only[dH,aM,ah,he,aF,aV,xaH,ak,dk,a2,and_self]) (dk▸af)
  .rename_i key bs i0 len aF;split at h
   case isFalse=>cases h
   rename_i dk;obtain⟨n,ab,af⟩:=fw h;obtain⟨K2,j,rfl,aV,a2,rfl⟩:=Qz ab;exact mu (by rw[aG];rfl) (by rw[aG];simp only[dH,aM,ah,he,aF,aV,xaH,dk,a2,and_self]) (dk▸af)
  cases h
 .rename_i len e s1 s2 gF aM;split at h
  case h_2=>cases h
  rename_i bg he;split at h
  case h_2=>cases h
  rename_i i ah;obtain⟨n,ab,af⟩:=fw h;obtain⟨K2,j,rfl,aV,a2,rfl⟩:=Qz ab;split at af
  case h_2=>cases af
  rename_i r av;exact mu (by rw[aG];rfl) (by rw[aG];simp only[dH,aM,ah,he,aV,a2,and_self,xaH];exact av) af
 cases h
def ajC{t:TypeId}{x:Operand}{lo ah:Option Operand}(aG:o.op= .slice t x lo ah none)(h:Qo T G σ o t x lo ah k=some b):∃aW,g1 T G σ o=some aW/\k aW=some b:=by
 unfold Qo at h;split at h
 case h_2=>cases h
 rename_i l bI ar wF;have ar:=Yf ar;have wF:=Yf wF;split at h
 .rename_i s1 s2 gF aM;split at h
  case h_2=>cases h
  rename_i a aF;obtain⟨v,ab,af⟩:=fw h;unfold Yb at ab;split at ab
  case h_2=>cases ab
  split at ab
  case h_2=>cases ab
  rename_i bA bB;split at ab
  case isFalse=>cases ab
  rename_i ao;cases ab;exact mW (by rw[aG];simp only[eZ,aM,aF,ar,wF,KU,bA,bB];rw[xad ao]) af
 .rename_i e s1 s2 gF aM;split at h
  case h_2=>cases h
  rename_i bg he;split at h
  .rename_i a aF;obtain⟨v,ab,af⟩:=fw h;unfold rk at ab;split at ab
   case h_2=>cases ab
   split at ab
   case h_2=>cases ab
   rename_i bA bB;split at ab
   case isFalse=>cases ab
   rename_i ao;cases ab;exact mu (by rw[aG];simp only[eZ,aM]) (by rw[aG];simp only[dH,aM,he,aF,kf,ar,wF,KU,bA,bB];rw[xad ⟨ao.1,ao.2.1⟩,xad ao.2.2]) af
  .rename_i key aF;split at h
   case h_2=>cases h
   rename_i bs es ak;split at h
   case isFalse=>cases h
   rename_i dk;obtain⟨p,ab,af⟩:=fw h;unfold ly at ab;split at ab
   case h_2=>cases ab
   rename_i bA bB;split at ab
   case isFalse=>cases ab
   rename_i ao;cases ab;exact mu (by rw[aG];simp only[eZ,aM]) (by rw[aG];simp only[dH,aM,he,aF,kf,ak,ar,wF,KU,bA,bB];rw[xad ao,xad dk]) af
  .rename_i key bs i0 len aF;split at h
   case isFalse=>cases h
   rename_i dk;obtain⟨p,ab,af⟩:=fw h;unfold ly at ab;split at ab
   case h_2=>cases ab
   rename_i bA bB;split at ab
   case isFalse=>cases ab
   rename_i ao;cases ab;exact mu (by rw[aG];simp only[eZ,aM]) (by rw[aG];simp only[dH,aM,he,aF,kf,ar,wF,KU,bA,bB];rw[xad ao,xad dk]) af
  cases h
 exact wE h
def ajD{args:Array Operand}{dJ:Array TypeId}(aG:o.op= .call ⟨.builtin .len,args,dJ⟩)(h:Qp T G σ o args.toList dJ.toList k=some b):∃aW,g1 T G σ o=some aW/\k aW=some b:=by
 unfold Qp at h;split at h
 case h_2=>cases h
 rename_i t x aJ aZ;have aU:eZ T (cj G σ.aK) o.op=none:=by rw[aG];rfl
 split at h
 .rename_i a aF;split at h;.rename_i s1 s2 gF aM;obtain⟨v,ab,af⟩:=fw h;unfold pw at ab;split at ab<;>cases ab;exact mu aU (by rw[aG];simp only[dH,aJ,aZ,aM,aF]) af
  .rename_i e s1 s2 gF aM;obtain⟨v,ab,af⟩:=fw h;unfold bK at ab;split at ab<;>cases ab;.exact mu aU (by rw[aG];simp only[dH,aJ,aZ,aM,aF,kf]) af
   exact mu aU (by rw[aG];simp only[dH,aJ,aZ,aM,aF,kf]) af
  .rename_i bA bB s1 s2 gF aM;obtain⟨v,ab,af⟩:=fw h;unfold Yc at ab;split at ab<;>cases ab;.exact mu aU (by rw[aG];simp only[dH,aJ,aZ,aM,aF]) af
   exact mu aU (by rw[aG];simp only[dH,aJ,aZ,aM,aF]) af
  cases h
 exact wE h
theorem Yj{a:D}{p:Nat×List (List D)}(h:kn a=some p)(objs:cF):mi objs (.d a)=some p:=by unfold kn at h;split at h<;>cases h<;>rfl
def ajE{args:Array Operand}{dJ:Array TypeId}(aG:o.op= .call ⟨.builtin .append,args,dJ⟩)(h:Qq T G σ o args.toList dJ.toList k=some b):∃aW,g1 T G σ o=some aW/\k aW=some b:=by
 unfold Qq at h;split at h
 case h_2=>cases h
 rename_i t t' s x aJ aZ;split at h
 case h_2=>cases h
 rename_i e s1 s2 gF dw aAn aAo aAp aM ur aA;split at h
 case h_2=>cases h
 rename_i bg he;have aU:eZ T (cj G σ.aK) o.op=none:=by rw[aG];rfl
 have hm:dH T (cj G σ.aK) σ.objs o.op=none:=by rw[aG];rfl
 have key:∀p:Nat×List (List D),mi σ.objs (cj G σ.aK x)=some p->aB (decide (p.1=bg.size\/p.2=[])&&decide (0<bg.size)) (match cj G σ.aK s with
     | .d a=>aB (nT a&&c1 p.2.length bg.bytes) (mV T σ o.dst k (.row (o.dst.getD 9999)) [(o.dst.getD 9999,.row bg.size p.2)])
     | .row key=>match σ.objs key with
      |some (.row bs es)=>if bs=bg.size/\key<10000 then aB (c1 (es.length+p.2.length) bg.bytes) (mV T σ o.dst k (.row (o.dst.getD 9999)) [(key,.dead),(o.dst.getD 9999,.row bs (es++p.2))])else none
      |_=>none
     |_=>none)=some b->∃aW,g1 T G σ o=some aW/\k aW=some b:=by
  rintro⟨cU,xs⟩ e0 h;obtain⟨au,h⟩:=lv h;simp only[xal,xaC]at au;split at h
  .rename_i a aF;obtain⟨ab,h⟩:=lv h;simp only[xal,c1,xaC]at ab;have aL:a= .val (.slice none 0 0):=by
    have:=ab.1;unfold nT at this;split at this;.rfl
    cases this
   have af:=ab.2;clear ab;refine rm aU hm ?_ h;rw[aG];simp only[et,aJ,aZ,aM,ur,aA,he,e0,aF,aL];rw[xad au,xad af]
  .rename_i key aF;split at h
   case h_2=>cases h
   rename_i bs es ak;split at h
   case isFalse=>cases h
   rename_i dk;obtain⟨ab,h⟩:=lv h;simp only[xal,c1,xaC]at ab;refine rm aU hm ?_ h;rw[aG];simp only[et,aJ,aZ,aM,ur,aA,he,e0,aF,ak];rw[xad au,xad ⟨dk.1,ab.1,ab.2,dk.2⟩]
  .cases h
 simp only at h;split at h;.rename_i a aF;obtain⟨p,ab,af⟩:=fw h;exact key p (by rw[aF];exact Yj ab _) af
 .rename_i ajF bs i len aF;split at h
  case h_2=>cases h
  rename_i px es ak;split at h
  case isFalse=>cases h
  rename_i dk;obtain⟨ab,af⟩:=lv h;have e0:mi σ.objs (cj G σ.aK x)=some (bs,(es.drop i).take len):=by rw[aF];simp only[mi,ak];rw[xad ⟨dk,xba ab⟩]
  exact key (bs,(es.drop i).take len) e0 af
 split at h
 case h_2=>cases h
 rename_i p aU;exact key p aU h
def ajG{args:Array Operand}{dJ:Array TypeId}(aG:o.op= .call ⟨.builtin .clear,args,dJ⟩)(h:Qs T G σ o args.toList dJ.toList k=some b):∃aW,g1 T G σ o=some aW/\k aW=some b:=by
 unfold Qs at h;split at h
 case h_2=>cases h
 rename_i t s aJ aZ;split at h
 case h_2=>cases h
 rename_i e s1 s2 gF aM;split at h
 case h_2=>cases h
 rename_i bg he;have aU:eZ T (cj G σ.aK) o.op=none:=by rw[aG];rfl
 have hm:dH T (cj G σ.aK) σ.objs o.op=none:=by rw[aG];rfl
 split at h
 case h_2=>cases h
 rename_i key bs i len aF;split at h
 case h_2=>cases h
 rename_i px es ak;split at h
 case isFalse=>cases h
 rename_i dk;obtain⟨au,h⟩:=lv h;simp only[xaC]at au;refine rm aU hm ?_ h;rw[aG];simp only[et,aJ,aZ,aM,he,aF,ak];rw[xad ⟨dk.1,dk.2.1,au,dk.2.2⟩]
def ajH{args:Array Operand}{dJ:Array TypeId}(aG:o.op= .call ⟨.builtin .copy,args,dJ⟩)(h:Qr T G σ o args.toList dJ.toList k=some b):∃aW,g1 T G σ o=some aW/\k aW=some b:=by
 unfold Qr at h;split at h
 case h_2=>cases h
 rename_i t t' s x aJ aZ;split at h
 case h_2=>cases h
 rename_i e s1 s2 gF aM;split at h
 case h_2=>cases h
 rename_i bg he;have aU:eZ T (cj G σ.aK) o.op=none:=by rw[aG];rfl
 have hm:dH T (cj G σ.aK) σ.objs o.op=none:=by rw[aG];rfl
 have key:∀p:Nat×List (List D),mi σ.objs (cj G σ.aK x)=some p->aB (decide (p.1=bg.size\/p.2=[])) (match cj G σ.aK s with
     | .row key=>match σ.objs key with
      |some (.row bs es)=>if bs=bg.size then mV T σ o.dst k (.d (.val (.int .i64 (min p.2.length es.length:Nat)))) [(key,.row bs (p.2.take (min p.2.length es.length)++es.drop (min p.2.length es.length)))]else none
      |_=>none
     | .sub key bs i len=>match σ.objs key with
      |some (.row px es)=>if bs=bg.size/\px=bs then aB (decide (i+len<=es.length)) (mV T σ o.dst k (.d (.val (.int .i64 (min p.2.length len:Nat)))) [(key,.row bs (es.take i++p.2.take (min p.2.length len)++es.drop (i+min p.2.length len)))])else none
      |_=>none
     |_=>none)=some b->∃aW,g1 T G σ o=some aW/\k aW=some b:=by
  rintro⟨cU,xs⟩ e0 h;obtain⟨au,h⟩:=lv h;simp only[xaC]at au;split at h
  .rename_i key aF;split at h
   case h_2=>cases h
   rename_i bs es ak;split at h
   case isFalse=>cases h
   rename_i dk;refine rm aU hm ?_ h;rw[aG];simp only[et,aJ,aZ,aM,he,e0,aF,ak];rw[xad au,xad dk]
  .rename_i key bs i len aF;split at h
   case h_2=>cases h
   rename_i px es ak;split at h
   case isFalse=>cases h
   rename_i dk;obtain⟨ab,h⟩:=lv h;simp only[xaC]at ab;refine rm aU hm ?_ h;rw[aG];simp only[et,aJ,aZ,aM,he,e0,aF,ak];rw[xad au,xad ⟨dk.1,dk.2,ab⟩]
  .cases h
 simp only at h;split at h;.rename_i a aF;obtain⟨p,ab,af⟩:=fw h;exact key p (by rw[aF];exact Yj ab _) af
 .rename_i ajF bs i len aF;split at h
  case h_2=>cases h
  rename_i px es ak;split at h
  case isFalse=>cases h
  rename_i dk;obtain⟨ab,af⟩:=lv h;have e0:mi σ.objs (cj G σ.aK x)=some (bs,(es.drop i).take len):=by rw[aF];simp only[mi,ak];rw[xad ⟨dk,xba ab⟩]
  exact key (bs,(es.drop i).take len) e0 af
 split at h
 case h_2=>cases h
 rename_i p aU;exact key p aU h
def Yk{h6 bg:iQ}{t ir ga:TypeId}{s1 s2:Nat}{gF:Value}(aM:T t=some ⟨.map ir ga,s1,s2,gF⟩)(ab:T ir=some h6)(af:T ga=some bg)(ak:vY h6.desc=true){ok:Bool}{es:List (Value×D)}{fe v:D} (h:j4 h6.desc bg.zero ok es fe=some v):∃u,fe= .val u/\x1 T t es u ok=some (.d v):=by
 unfold j4 at h;split at h
 case h_2=>cases h
 rename_i u;refine⟨u,rfl,?_⟩;unfold x1;simp only[aM,ab,af,ak,xaH];split at h;.rename_i x ag;cases h;simp only[ag]
 .rename_i ag;cases h;simp only[ag]
 cases h
def ajI{t:TypeId}{x i:Operand}{ok:Bool}(aG:o.op= .lookup t x i ok)(h:Qt T G σ o t x i ok k=some b):∃aW,g1 T G σ o=some aW/\k aW=some b:=by
 unfold Qt at h;split at h
 case h_2=>cases h
 rename_i ir ga s1 s2 gF aM;split at h
 case h_2=>cases h
 rename_i h6 bg ab af;split at h
 case isFalse=>cases h
 rename_i ak;split at h
 case h_2=>cases h
 rename_i fe J3;split at h;.rename_i m hm;obtain⟨es,aV,a2⟩:=fw h;obtain⟨v,bb,cS⟩:=fw a2;obtain⟨u,rfl,hr⟩:=Yk aM ab af ak bb;refine mu (by rw[aG];rfl) ?_ cS;rw[aG];simp only[dH,J3,hm];unfold lz at aV;split at aV<;>cases aV<;>exact hr
 .rename_i key hm;split at h
  case h_2=>cases h
  rename_i es mw;obtain⟨v,bb,cS⟩:=fw h;obtain⟨u,rfl,hr⟩:=Yk aM ab af ak bb;refine mu (by rw[aG];rfl) ?_ cS;rw[aG];simp only[dH,J3,hm,mw,hr]
 cases h
def Yl{t:TypeId}{m i x:Operand}(aG:o.op= .mapUpdate t m i x\/o.op= .insert t m i x)(h:KZ T G σ o t m i x k=some b):∃aW,g1 T G σ o=some aW/\k aW=some b:=by
 unfold KZ at h;split at h
 case h_2=>cases h
 rename_i ir ga s1 s2 gF aM;split at h
 case h_2=>cases h
 rename_i h6 ab;split at h
 case isFalse=>cases h
 rename_i ak;split at h
 case h_2=>cases h
 rename_i key fe v aJ aZ bN;split at h
 case h_2=>cases h
 rename_i es mw;obtain⟨l,aV,a2⟩:=fw h;unfold nr at aV;split at aV
 case h_2=>cases aV
 rcases aG with aG|aG<;>
 .refine rm (by rw[aG];rfl) (by rw[aG];rfl) ?_ a2;rw[aG];simp only[et,aM,ab,ak,xaH,aJ,aZ,bN,mw,aV]
def ajJ{t:TypeId}{a x:Operand}(aG:o.op= .store t a x)(h:Qu T G σ o t a x k=some b):∃aW,g1 T G σ o=some aW/\k aW=some b:=by
 unfold Qu at h;split at h
 case h_2=>cases h
 rename_i i ah;obtain⟨cs,ab,af⟩:=KV h;split at af
 case isFalse=>cases af
 rename_i ar;split at af
 .rename_i key off aF;split at af
  case h_2=>cases af
  rename_i cells ak;split at af
  case isFalse=>cases af
  rename_i ao;refine rm (by rw[aG];rfl) (by rw[aG];rfl) ?_ af;rw[aG];simp only[et,ah,ab,aF,ak];rw[xad ar,xad ao]
 .rename_i key cU fA off aF;split at af
  case h_2=>cases af
  rename_i bs es aO ak e1;split at af
  case isFalse=>cases af
  rename_i ao;obtain⟨e,aV,a2⟩:=fw af;refine rm (by rw[aG];rfl) (by rw[aG];rfl) ?_ a2;rw[aG];simp only[et,ah,ab,aF,ak,e1,aV];rw[xad ar,xad ao]
 cases af
def ajK{t:TypeId}{parts:Array (Nat×Operand)}(aG:o.op= .build t parts)(h:Qv T G σ o t parts k=some b):∃aW,g1 T G σ o=some aW/\k aW=some b:=by
 unfold Qv at h;split at h
 case h_2=>cases h
 rename_i pl z aj;obtain⟨cs,ab,af⟩:=Yd h;exact mW (by rw[aG];simp only[eZ,JY,aj,ab]) af
def ajL{t:TypeId}{n:Nat}{parts:Array (Nat×Operand)}(aG:o.op= .buildSlice t n parts)(h:Qw T G σ o t n parts k=some b):∃aW,g1 T G σ o=some aW/\k aW=some b:=by
 unfold Qw at h;split at h
 case h_2=>cases h
 rename_i e s1 s2 gF aM aA;split at h
 case h_2=>cases h
 rename_i bg he;obtain⟨es,ab,af⟩:=Ye h;split at af
 case isFalse=>cases af
 rename_i ao;refine rm (by rw[aG];rfl) (by rw[aG];rfl) ?_ af;rw[aG];simp only[et,aM,aA,he,ab];rw[xad ao]
def ajM{t:TypeId}{l c:Operand}(aG:o.op= .makeSlice t l c)(h:Qx T G σ o t l c k=some b):∃aW,g1 T G σ o=some aW/\k aW=some b:=by
 unfold Qx at h;split at h
 case h_2=>cases h
 rename_i e s1 s2 gF aM aA;split at h
 case h_2=>cases h
 rename_i bg he;split at h
 case h_2=>cases h
 rename_i sA jj ar ao;split at h
 case isFalse=>cases h
 rename_i bC;obtain⟨n,ab,af⟩:=fw h;unfold rl at ab;split at ab
 case h_2=>cases ab
 split at ab
 case isFalse=>cases ab
 rename_i mh;cases ab;refine rm (by rw[aG];rfl) (by rw[aG];rfl) ?_ af;rw[aG];simp only[et,aM,aA,he,ar,ao];rw[xad ⟨mh.1,mh.2.1,mh.2.2.1,mh.2.2.2,bC⟩]
def ajN{s t:TypeId}{x:Operand}(aG:o.op= .convert s t x)(h:Qy T G σ o s t x k=some b):∃aW,g1 T G σ o=some aW/\k aW=some b:=by
 unfold Qy at h;split at h;.rename_i q i s1 s2 gF a aH aM ag;obtain⟨v,ab,af⟩:=fw h;unfold km at ab;split at ab<;>cases ab;exact mW (by rw[aG];simp only[eZ,aH,aM,ag]) af
 .rename_i q s1 s2 gF a aH aM ag;obtain⟨v,ab,af⟩:=fw h;unfold Ya at ab;split at ab<;>cases ab;exact mW (by rw[aG];simp only[eZ,aH,aM,ag]) af
 exact wE h
def BB(h:uK T G σ o k=some b):∃aW,g1 T G σ o=some aW/\k aW=some b:=by
 unfold uK at h;split at h;.exact ajy (by assumption) h
 .rename_i aG;split at h
  .rename_i a aF;obtain⟨v,ab,af⟩:=fw h;unfold dp at ab;split at ab<;>cases ab;.exact mW (by rw[aG];simp only[eZ,aF]) af
   exact mW (by rw[aG];simp only[eZ,aF]) af
  cases h
 .exact ajN (by assumption) h
 .rename_i c x y aG;split at h
  case h_2=>cases h
  rename_i jj ao;split at h
  .rename_i p aU;obtain⟨aF,aj⟩:=ajx aU;obtain⟨v,ab,af⟩:=fw h;unfold bZ at ab;split at ab<;>cases ab;rename_i t;refine mW ?_ af;rw[aG];simp only[eZ,ao,aF,aj];split;.rename_i aJ aZ;simp only[aS.d.injEq]at aJ aZ;rw[aJ,aZ];cases t<;>rfl
   cases t<;>rfl
  rename_i aU;rcases X8 h with⟨rfl,ab⟩|⟨rfl,ab⟩
  .exact mW (by rw[aG];exact Yh ao aU) ab
  exact mW (by rw[aG];exact Yh ao aU) ab
 .exact ajz (by assumption) h
 .rename_i x i aG;split at h
  .rename_i a aF;obtain⟨v,ab,af⟩:=fw h;unfold br at ab;split at ab
   case h_2=>cases ab
   exact mW (by rw[aG];simp only[eZ,aF,ab]) af
  exact wE h
 .rename_i t x i aG;split at h
  .rename_i s1 s2 gF aM;split at h
   case h_2=>cases h
   rename_i a c aF ao;obtain⟨v,ab,af⟩:=fw h;unfold nU at ab;split at ab
   case h_2=>cases ab
   exact mW (by rw[aG];simp only[eZ,aM,aF,ao];exact yq ab) af
  .rename_i len e s1 s2 gF aM;split at h
   case h_2=>cases h
   rename_i bg iR;split at h
   case h_2=>cases h
   rename_i a c aF ao;obtain⟨n,aV,h⟩:=fw h;obtain⟨v,ab,af⟩:=fw h;unfold b9 at aV;split at aV
   case h_2=>cases aV
   split at aV
   case isFalse=>cases aV
   rename_i aL;cases aV;unfold lS at ab;split at ab
   case h_2=>cases ab
   exact mW (by rw[aG];simp only[eZ,aM,aF,ao];rw[xad aL];simp only[iR];exact K1 ab) af
  cases h
 .exact ajA (by assumption) h
 .exact ajB (by assumption) h
 .exact ajC (by assumption) h
 .exact ajI (by assumption) h
 .rename_i aG;exact Yl (.inl aG) h
 .rename_i aG;exact Yl (.inr aG) h
 .exact ajJ (by assumption) h
 .exact ajK (by assumption) h
 .exact ajL (by assumption) h
 .exact ajM (by assumption) h
 .rename_i t x aG;split at h
  case h_2=>cases h
  rename_i i ah aA;obtain⟨cs,ab,af⟩:=KV h;exact rm (by rw[aG];rfl) (by rw[aG];rfl) (by rw[aG];simp only[et,ab,aA]) af
 .exact ajD (by assumption) h
 .exact ajE (by assumption) h
 .exact ajH (by assumption) h
 .exact ajG (by assumption) h
 .rename_i args dJ aG;unfold K0 at h;split at h
  case h_2=>cases h
  rename_i aO e1;obtain⟨v,ab,af⟩:=fw h;exact mW (by rw[aG];simp only[eZ,A3 e1];exact yq ab) af
 .rename_i args dJ aG;unfold K0 at h;split at h
  case h_2=>cases h
  rename_i aO e1;obtain⟨v,ab,af⟩:=fw h;exact mW (by rw[aG];simp only[eZ,A3 e1];exact yq ab) af
 exact wE h
end
section
variable{β:Type}
abbrev lU:=Tmp->FuncId->List D->Option D
def EY(G:dr)(C:lU)(σ:aI)(o:Oper)(x:Operand)(args:List Operand)(k:aI->Option β):Option β:=match wh (cj G σ.aK x)with
 |some (f,pre,post)=>match hC ((pre++args.map (cj G σ.aK)++post).map (toD σ.objs))with|some aO=>aa (C (o.dst.getD 9999) f aO) λr=>aB ((pre++args.map (cj G σ.aK)++post).all sO||r.flat) (k (σ.put o.dst (.d r)))|none=>none
 |none=>none
def QA:D->Option (FuncId×List D)
 | .fn (.func f) [] oA=>some (f,oA)| .val (.func (.func f) a b)=>if a.size=0/\b.size=0 then some (f,[])else none
 |_=>none
def EZ(f:FuncId)(aO:List D):List (FuncId×(List D->Option D))->Option D
 |[]=>none|(g,F)::r=>if f=g then F aO else EZ f aO r
def BC(l:List (FuncId×(List D->Option D)))(v:D)(aO:List D):Option D:=aa (QA v) λp=>EZ p.1 (aO++p.2) l
def Ym(t:Tmp):List (Nat×List FuncId)->List FuncId
 |[]=>[]|(d,l)::r=>if t=d then l else Ym t r
def QB(l:List FuncId)(G:dr)(C:lU)(σ:aI)(o:Oper)(x:Operand)(args:List Operand)(k:aI->Option β):Option β:=match cj G σ.aK x,hC ((args.map (cj G σ.aK)).map (toD σ.objs))with| .d v,some aO=>aa (BC (l.map λg=>(g,C (o.dst.getD 9999) g)) v aO) λr=>aB ((args.map (cj G σ.aK)).all sO||r.flat) (k (σ.put o.dst (.d r)))|_,_=>none
def ys(T:ch)(G:dr)(C:lU)(σ:aI)(o:Oper)(x:Operand)(args:List Operand)(k:aI->Option β):Option β:=match Ym (o.dst.getD 9999) T.dyn with|[]=>EY G C σ o x args k|g::l=>QB (g::l) G C σ o x args k
def sW(T:ch)(G:dr)(C:lU)(σ:aI)(o:Oper)(k:aI->Option β):Option β:=match o.op with| .call ⟨.value x,args,_⟩=>ys T G C σ o x args.toList k|_=>uK T G σ o k
def sX(T:ch)(G:dr)(C:lU):List Oper->aI->(aI->Option β)->Option β
 |[],σ,k=>k σ|o::r,σ,k=>sW T G C σ o λaW=>sX T G C r aW k
def wG:List Oper->List (Option (Nat×Bool)×List Oper)
 |[]=>[]
 |o::r=>match wG r with
  |(g,os)::rest=>if g=o.guard then(g,o::os)::rest else(o.guard,[o])::(g,os)::rest
  |[]=>[(o.guard,[o])]
def bL(x:D)(want:Bool)(p:Option D):Option D:=match x with
 | .val (.bool b)=>if b=want then p else some lx
 | .val (.tuple _)=>some lx|_=>none
def wH{ek:Type}(x:D)(want:Bool)(p q:Option ek):Option ek:=match x with
 | .val (.bool b)=>if b=want then p else q
 | .val (.tuple _)=>q|_=>none
def QC:List Oper->aI->aI
 |[],σ=>σ|o::r,σ=>QC r (σ.put o.dst (.d lx))
def wI:List Oper->Option Tmp
 |[]=>none|[o]=>o.dst|_::r=>wI r
def dstsOf(os:List Oper):List Tmp:=os.filterMap (·.dst)
def still(o:Oper):Bool:=iT o.op||jk o.op||hE o.op
def wJ(ts:List Tmp)(v:D)(σ:aI):aI:=⟨λt=>if t∈ts then .d (ad v (ts.idxOf t))else σ.aK t,σ.objs⟩
def E0(σ:aI):List Tmp->Option (List D)
 |[]=>some []|t::r=>match σ.aK t,E0 σ r with| .d v,some l=>some (v::l)|_,_=>none
def kept(all:Array Oper)(os l:List Oper):List Tmp:=(dstsOf os).filter λt=>l.any λo=>(o.looksAt all).contains t
def Yn{σ:aI}:∀{ts:List Tmp}{l:List D},E0 σ ts=some l->l.length=ts.length/\∀(i:Nat)(t:Tmp),ts[i]?=some t->∃v,l[i]?=some v/\σ.aK t= .d v
 |[],l,h=>by cases h;exact⟨rfl,λi t h=>by simp at h⟩
 |t::r,l,h=>by
  unfold E0 at h;split at h
  case h_2=>cases h
  rename_i v sA a6 ar;cases h;have ih:=Yn ar;refine⟨by simp[ih.1],λi u hu=>?_⟩;cases i with|zero=>simp at hu;subst hu;exact⟨v,rfl,a6⟩|succ i=>exact ih.2 i u (by simpa using hu)
def ajO{σ:aI}{ts:List Tmp}{l:List D}(h:E0 σ ts=some l){t:Tmp}(aM:t∈ts):σ.aK t= .d (ad (.agg l) (ts.idxOf t)):=by
 have ab:ts[ts.idxOf t]?=some t:=by have:=List.idxOf_lt_length_of_mem aM;rw[xab this,List.getElem_idxOf]
 obtain⟨v,af,aw⟩:=(Yn h).2 _ t ab;rw[aw]
 congr 1
 show v=l.getD _ _;simp[List.getD,af]
def lV(aO:List Tmp)(σ:aI):aI:=⟨λt=>if t∈aO then .any else σ.aK t,σ.objs⟩
def blind(all:Array Oper)(aO:List Tmp)(l:List Oper):Bool:=l.all λo=>aO.all λd=>!(o.looksAt all).contains d&&o.dst !=some d
def Yo(all:Array Oper)(d cb:Tmp)(os l:List Oper):Bool:=os.all (λo=>still o&&o.dst !=some d)&&blind all ((dstsOf os).filter (·!=cb)) l
def flat(gs:List (Option (Nat×Bool)×List Oper)):List Oper:=gs.flatMap (·.2)
def yt(T:ch)(G:dr)(C:lU)(all:Array Oper):List (Option (Nat×Bool)×List Oper)->aI->(aI->Option β)->Option β
 |[],σ,k=>k σ|(none,os)::r,σ,k=>sX T G C os σ λaW=>yt T G C all r aW k
 |(some (j,want),os)::r,σ,k=>match(all[j]?).bind (·.dst),wI os with
  |some d,some cb=>match σ.aK d with
   | .d x=>if Yo all d cb os (flat r)=true then
     aa (bL x want (sX T G C os σ λaW=>match aW.aK cb with| .d v=>some v|_=>none)) λv=>yt T G C all r ((lV (dstsOf os) σ).put (some cb) (.d v)) k
    else if os.all (λo=>o.dst !=some d)=true then wH x want (sX T G C os σ λaW=>yt T G C all r aW k) (yt T G C all r (QC os σ) k)else none
   |_=>none
  |_,_=>none
def Yp(T:ch)(G:dr)(C:lU)(all:Array Oper)(σ:aI)(k:aI->Option β):Option β:=yt T G C all (wG all.toList) σ k
def Yq:Op->Bool
 | .store _ _ _=>true|_=>false
def QD(all:Array Oper)(listed:Array Bool)(i:Nat):Bool:=match all[i]? with|none=>false|some fv=>((waits all i).all λj=>!listed.getD j true&&match all[j]? with|some c8=>c8.after.any λe=>Region.binds .any e&&(e.on==i||(waits all i).contains e.on)|none=>false)&&(List.range all.size).all λj=>j==i||listed.getD j true||(waits all i).contains j||match all[j]? with|some c8=>fv.apart all c8&&!Yq c8.op|none=>true
def Yr(all:Array Oper)(listed:Array Bool)(i:Nat)(σ:aI)(o:Oper):Bool:=match o.op with
 | .load _ (.tmp a)=>match σ.aK a with| .ptr _ _=>QD all listed i|_=>false
 |_=>false
def yu(all:Array Oper)(listed:Array Bool)(i:Nat):List Oper:=(List.range all.size).filterMap λj=>if j==i||listed.getD j true||(waits all i).contains j then none else all[j]?
def QE(all:Array Oper)(listed:Array Bool)(i:Nat)(aK:Nat->aS)(o:Oper):Bool:=((waits all i).all λj=>!listed.getD j true&&match all[j]? with|some c8=>c8.after.any λe=>Region.binds .any e&&(e.on==i||(waits all i).contains e.on)|none=>false)&&(yu all listed i).all λy=>o.apart all y&&sT aK o y&&(mT o.op++(yu all listed i).flatMap λy=>uJ y.op).all λt=>y.dst !=some t
def BD(T:ch)(G:dr)(C:lU)(all:Array Oper):List Nat->Array Bool->aI->(aI->Option β)->Option β
 |[],listed,σ,k=>if(Region.ready .any all listed).isEmpty=true then k σ else none
 |i::r,listed,σ,k=>match all[i]? with
  |some o=>if o.guard=none/\(Region.ready .any all listed).contains i=true/\(aih all listed i||Yr all listed i σ o||QE all listed i σ.aK o||XC T all listed i)=true then sW T G C σ o λaW=>BD T G C all r (listed.setIfInBounds i true) aW k else none
  |none=>none
def hs(P:Program)(G:dr)(C:lU):Prop:=∀d f aO r,C d f aO=some r->ez P G f aO (·=r)
def wK:∀l:List Oper,flat (wG l)=l
 |[]=>rfl
 |o::r=>by
  have ih:=wK r;unfold wG;split;.rename_i g os rest b8;rw[b8]at ih;split<;>simp_all [flat]
  rename_i b8;rw[b8]at ih;simp[flat]at ih;subst ih;rfl
def K3:∀(l:List Oper)(g:Option (Nat×Bool)) (os:List Oper),(g,os)∈wG l->∀o∈os,o.guard=g
 |[],g,os,h=>by cases h
 |o::r,g,os,h=>by
  have ih:=K3 r;unfold wG at h;split at h
  .rename_i lr ajP rest b8;split at h
   .rename_i he;rcases xak.1 h with ab|ab
    .cases ab;intro q bj;rcases xak.1 bj with rfl|bj
     .exact he.symm
     exact ih g ajP (by rw[b8];simp) q bj
    exact ih g os (by rw[b8];simp[ab])
   rcases xak.1 h with ab|ab;.cases ab;intro q bj;simp at bj;subst bj;rfl
   exact ih g os (by rw[b8];exact ab)
  simp at h;obtain⟨rfl,rfl⟩:=h;intro q bj;simp at bj;subst bj;rfl
variable{P:Program}{T:ch}{G:dr}{C:lU}{σ:aI}{all:Array Oper}
def Ys{α:Type}:∀{a b:List (Option α)} {x y:List α},hC a=some x->hC b=some y->hC (a++b)=some (x++y)
 |[],b,x,y,h,bD=>by cases h;exact bD
 |none::a,b,x,y,h,bD=>by cases h
 |some c::a,b,x,y,h,bD=>by
  simp only[hC,xbN]at h⊢;split at h
  case h_2=>cases h
  rename_i z ab;cases h;rw[Ys ab bD];rfl
def Yt{objs:cF}:∀(l:List D),hC ((l.map aS.d).map (toD objs))=some l
 |[]=>rfl|c::r=>by have:=Yt (objs:=objs) r;have e:toD objs (aS.d c)=some c:=rfl;simp only[xaA,e,hC];rw[this]
def Yu{f:FuncId}{aO:List D}{C:FuncId->List D->Option D}{r:D}:∀{l:List FuncId},EZ f aO (l.map λg=>(g,C g))=some r->C f aO=some r
 |[],h=>by cases h
 |g::l,h=>by
  simp only[xaA,EZ]at h;split at h;.rename_i e;rw[e];exact h
  exact Yu h
def ajQ{l:List FuncId}{o:Oper}{x:Operand}{args:List Operand}{k:aI->Option β}{b:β}(h:QB l G C σ o x args k=some b):EY G C σ o x args k=some b:=by
 unfold QB at h;split at h
 case h_2=>cases h
 rename_i v aO a6 e1;obtain⟨r,ab,af⟩:=fw h;obtain⟨p,aw,a5⟩:=fw ab;have ca:=Yu (C:=C (o.dst.getD 9999)) a5;obtain⟨f,oA⟩:=p;have gW:wh (.d v)=some (f,[],oA.map .d):=by
  unfold QA at aw;split at aw;.cases aw;rfl
  .split at aw;.rename_i gQ;cases aw;simp only[wh,xad gQ,xbq]
   cases aw
  cases aw
 unfold EY;rw[a6,gW];simp only[xaG,List.map_append];rw[Ys e1 (Yt oA)];simp only;rw[ca];obtain⟨aV,a2⟩:=lv af;have gB:((args.map (cj G σ.aK))++oA.map aS.d).all sO=(args.map (cj G σ.aK)).all sO:=by
  rw[List.all_append];have:(oA.map aS.d).all sO=true:=by rw[xaz];intro y aP;obtain⟨c,_,rfl⟩:=xax.1 aP;rfl
  rw[this,xbo]
 rw[gB];exact af
def ajR{o:Oper}{x:Operand}{args:List Operand}{k:aI->Option β}{b:β}(h:ys T G C σ o x args k=some b):EY G C σ o x args k=some b:=by
 unfold ys at h;split at h;.exact h
 exact ajQ h
def K4(cf:hs P G C){dO:ch}{o:Oper}{x:Operand}{args:Array Operand}{dJ:Array TypeId}(aG:o.op= .call ⟨.value x,args,dJ⟩){k:aI->Option β}{b:β}(h:ys dO G C σ o x args.toList k=some b):dc P T G o (λaW=>k aW=some b/\aW.objs=σ.objs/\∀t,o.dst≠some t->aW.aK t=σ.aK t) σ:=by
 have eI:hE o.op=true:=by rw[aG];rfl
 rw[nO (uA eI)]
 replace h:=ajR h
 unfold EY at h;unfold jI;rw[aG];simp only;split at h
 case h_2=>cases h
 rename_i f pre post gW;simp only[gW];split at h
 case h_2=>cases h
 rename_i aO e1;obtain⟨r,ab,af⟩:=fw h;obtain⟨af,aw⟩:=lv af;refine⟨aO,aO,(·=r),e1,q7.refl _,cf _ _ _ _ ab,⟨r,rfl⟩,?_,?_⟩
 .rcases xbD.1 af with af|af;.exact .inr af
  exact .inl (by rintro _ rfl;exact af)
 rintro _ rfl;refine⟨aw,by simp,?_⟩;intro t aM;cases aA:o.dst with|none=>rfl|some d=>rw[aA]at aM;simp only[aI.put];exact cZ _ _ (λe=>aM (by rw[e]))
def Yv(cf:hs P G C){o:Oper}{k:aI->Option β}{b:β}(h:sW T G C σ o k=some b):dc P T G o (λaW=>k aW=some b) σ:=by
 unfold sW at h;split at h;.exact qj (λ_ h=>h.1) (K4 cf (by assumption) h)
 obtain⟨aW,ab,af⟩:=BB h;unfold dc;rw[ab];exact af
def rn{dst:Option Tmp}{r:aS}{t:Tmp}(aM:dst≠some t):(σ.put dst r).aK t=σ.aK t:=by cases dst with|none=>rfl|some d=>simp only[aI.put];exact cZ _ _ (λe=>aM (by rw[e]))
def Yw(cf:hs P G C){o:Oper}(aH:still o=true){k:aI->Option β}{b:β}(h:sW T G C σ o k=some b):dc P T G o (λaW=>k aW=some b/\aW.objs=σ.objs/\∀t,o.dst≠some t->aW.aK t=σ.aK t) σ:=by
 unfold sW at h;split at h;.exact K4 cf (by assumption) h
 rename_i Yx;obtain⟨aW,ab,af⟩:=BB h;unfold dc;rw[ab];have ajS:hg T (cj G σ.aK) σ.objs (o.dst.getD 9999) o.op=none:=by
  unfold still at aH;simp only[xbd]at aH;rcases aH with(aH|aH)|aH
  .exact(Bk aH).2
  .exact Bl aH
  exact(PW aH).2.2
 unfold g1 at ab;split at ab;.cases ab;exact⟨af,by simp,λt aM=>rn aM⟩
 split at ab;.cases ab;exact⟨af,by simp,λt aM=>rn aM⟩
 rw[ajS]at ab;cases ab
def mX{l:List Oper}:∀{σ:aI}{K K':aI->Prop},(∀σ,K σ->K' σ)->fT P T G all l K σ->fT P T G all l K' σ:=by
 induction l with
 |nil=>intro σ K K' ak h;exact ak _ h
 |cons o l ih=>intro σ K K' ak h;exact EG (λaW bD=>ih ak bD) h
def QF{l r:List Oper}:∀{σ:aI}{K:aI->Prop},fT P T G all l (fT P T G all r K) σ->fT P T G all (l++r) K σ:=by
 induction l with
 |nil=>intro σ K h;exact h
 |cons o l ih=>intro σ K h;exact EG (λaW bD=>ih bD) h
def oB(σ τ:aI):Prop:=σ.objs=τ.objs/\∀t,τ.aK t= .any\/σ.aK t=τ.aK t
theorem oB.refl(σ:aI):oB σ σ:=⟨rfl,λ_=> .inr rfl⟩
def oB.trans{σ τ yj:aI}(h:oB σ τ)(bD:oB τ yj):oB σ yj:=by
 refine⟨h.1.trans bD.1,λt=>?_⟩;rcases bD.2 t with af|af
 .exact .inl af
 rcases h.2 t with ab|ab;.exact .inl (af▸ab)
 exact .inr (ab.trans af)
def oB.E1{σ τ:aI}(h:oB σ τ):g3 σ τ:=by
 obtain⟨s,o⟩:=σ;obtain⟨s',o'⟩:=τ;obtain⟨ab,af⟩:=h;simp only at ab af;subst ab;intro m fr ρ ac w c2;refine⟨m,ρ,Mem.le_refl m,⟨c2.mem,c2.frame,c2.apart,c2.one,?_,c2.objs,c2.own,c2.sep⟩,λk ak aj=>⟨aj,rfl⟩⟩;intro t;rcases af t with h|h;.simp only[h];exact .any _
 have:=c2.aK t;simp only at this⊢;rw[<-h];exact this
def Yy{d:Tmp}{r:aS}:∀{l:List Oper}{σ:aI}{K:aI->Prop},(∀o∈l,d∉o.looksAt all/\o.dst≠some d)->fT P T G all l K (σ.put (some d) r)=fT P T G all l (λaW=>K (aW.put (some d) r)) σ
 |[],σ,K,h=>rfl
 |o::l,σ,K,h=>by
  have au:=h o (by simp);have ih:∀{σ:aI},fT P T G all l K (σ.put (some d) r)=fT P T G all l (λaW=>K (aW.put (some d) r)) σ:=Yy λo' ox=>h o' (by simp[ox]);unfold fT;rw[hM,hM,ou (by rintro _ ⟨⟩;exact au.1)];cases hw:j2 all σ o with
  |none=>rfl
  |some w=>
   cases w with
   |true=>simp only;rw[jJ (all:=all) (by rintro _ ⟨⟩;exact au.1) (by rintro _ ⟨⟩;exact au.2)];simp only[ih]
   |false=>simp only;rw[<-ih,put_comm (by rintro _ ⟨⟩;exact au.2)]
def ajT{d:Tmp}{a:aS}{l:List Oper}{σ:aI}{K:aI->Prop}(fj:∀σ τ,oB σ τ->K τ->K σ)(ar:∀o∈l,d∉o.looksAt all/\o.dst≠some d)(h:fT P T G all l K (σ.put (some d) .any)):fT P T G all l K (σ.put (some d) a):=by
 rw[Yy ar]at h⊢;refine mX (λaW bD=>fj _ _ ?_ bD) h;refine⟨rfl,λt=>?_⟩;by_cases aM:t=d;.subst aM;exact .inl (by simp[aI.put])
 exact .inr (by simp[aI.put,cZ _ _ aM])
def QG{l:List Oper}{K:aI->Prop}(fj:∀σ τ,oB σ τ->K τ->K σ):∀(aO:List Tmp){σ τ:aI},(∀d∈aO,∀o∈l,d∉o.looksAt all/\o.dst≠some d)->(∀t,t∉aO->σ.aK t=τ.aK t)->(∀d∈aO,τ.aK d= .any\/σ.aK d=τ.aK d)->σ.objs=τ.objs->fT P T G all l K τ->fT P T G all l K σ
 |[],σ,τ,_,ab,af,aw,h=>by
  have:σ=τ:=by
   cases σ;cases τ;simp only at ab aw;subst aw
   congr 1
   funext t
   exact ab t (by simp)
  rw[this];exact h
 |d::aO,σ,τ,aj,ab,af,aw,h=>by
  by_cases aA:τ.aK d= .any
  .have e:τ=τ.put (some d) .any:=by
    cases τ;simp only[aI.put]
    congr 1
    funext t
    by_cases aM:t=d;.subst aM;simp only[fb];exact aA
    rw[cZ _ _ aM]
   rw[e]at h;have bD:=ajT (a:=σ.aK d) fj (λo aG=>aj d (by simp) o aG) h;refine QG (τ:=τ.put (some d) (σ.aK d)) fj aO (λqm iF=>aj qm (by simp[iF])) ?_ ?_ aw bD
   .intro t aM;by_cases uL:t=d;.subst uL;simp[aI.put]
    simp only[aI.put,cZ _ _ uL];exact ab t (by simp[uL,aM])
   intro qm iF;by_cases uL:qm=d;.subst uL;simp[aI.put]
   simp only[aI.put,cZ _ _ uL];exact af qm (by simp[iF])
  refine QG fj aO (λqm iF=>aj qm (by simp[iF])) ?_ (λqm iF=>af qm (by simp[iF])) aw h;intro t aM;by_cases uL:t=d
  .subst uL;rcases af t (by simp)with a5|a5
   .exact absurd a5 aA
   exact a5
  exact ab t (by simp[uL,aM])
def Yz(cf:hs P G C):∀{os:List Oper}{σ:aI}{k:aI->Option β}{b:β},(∀o∈os,o.guard=none)->sX T G C os σ k=some b->fT P T G all os (λaW=>k aW=some b) σ
 |[],σ,k,b,_,h=>h|o::os,σ,k,b,b8,h=>by unfold fT eA;rw[b8 o (by simp)];exact qj (λaW bD=>Yz cf (λo aG=>b8 o (by simp[aG])) bD) (Yv cf h)
def YA(cf:hs P G C){j:Nat}{want:Bool}{d:Tmp}(aA:(all[j]?).bind (·.dst)=some d):∀{os:List Oper}{σ:aI}{k:aI->Option β}{b:β},(∀o∈os,o.guard=some (j,want))->(∀o∈os,still o=true/\o.dst≠some d)->σ.aK d= .d (.val (.bool want))->sX T G C os σ k=some b->fT P T G all os (λaW=>k aW=some b/\aW.objs=σ.objs/\∀t,t∉dstsOf os->aW.aK t=σ.aK t) σ
 |[],σ,k,b,_,_,_,h=>⟨h,rfl,λ_ _=>rfl⟩
 |o::os,σ,k,b,b8,aH,hw,h=>by
  have au:=aH o (by simp);unfold fT eA;rw[b8 o (by simp)];simp only[aA,hw,xaH];refine qj ?_ (Yw cf au.1 h);rintro aW ⟨ab,af,aw⟩;refine mX ?_ (YA cf aA (λo aG=>b8 o (by simp[aG])) (λo aG=>aH o (by simp[aG])) (by rw[aw d au.2];exact hw) ab);rintro rh ⟨aV,a2,bb⟩;refine⟨aV,a2.trans af,?_⟩;intro t aM;have py:t∉dstsOf os:=λao=>aM (by unfold dstsOf at ao⊢;simp only[xbL];cases o.dst<;>simp[ao])
  have yv:o.dst≠some t:=λao=>aM (by unfold dstsOf;simp[ao]);rw[bb t py,aw t yv]
def E2{j:Nat}{want:Bool}{d:Tmp}(aA:(all[j]?).bind (·.dst)=some d):∀{os:List Oper}{σ:aI},(∀o∈os,o.guard=some (j,want))->(∀o∈os,o.dst≠some d)->(σ.aK d= .d (.val (.bool (!want)))\/∃vs,σ.aK d= .d (.val (.tuple vs)))->fT P T G all os (λaW=>aW.objs=σ.objs/\(∀t,t∉dstsOf os->aW.aK t=σ.aK t)/\∀cb,wI os=some cb->aW.aK cb= .d lx) σ
 |[],σ,_,_,_=>⟨rfl,λ_ _=>rfl,by intro cb h;cases h⟩
 |o::os,σ,b8,aH,hw=>by
  have au:=aH o (by simp);unfold fT;have key:fT P T G all os (λaW=>aW.objs=σ.objs/\(∀t,t∉dstsOf (o::os)->aW.aK t=σ.aK t)/\∀cb,wI (o::os)=some cb->aW.aK cb= .d lx) (σ.put o.dst (.d (.val (.tuple #[])))):=by
   have E3:(σ.put o.dst (.d (.val (.tuple #[])))).aK d= .d (.val (.bool (!want)))\/∃vs,(σ.put o.dst (.d (.val (.tuple #[])))).aK d= .d (.val (.tuple vs)):=by rw[rn au];exact hw
   refine mX ?_ (E2 aA (λo aG=>b8 o (by simp[aG])) (λo aG=>aH o (by simp[aG])) E3);rintro aW ⟨ab,af,aw⟩;refine⟨ab.trans (by simp),?_,?_⟩
   .intro t aM;have py:t∉dstsOf os:=λao=>aM (by
     unfold dstsOf at ao⊢;simp only[xbL];cases o.dst<;>simp[ao])
    have yv:o.dst≠some t:=λao=>aM (by unfold dstsOf;simp[ao]);rw[af t py,rn yv]
   intro cb ar;cases os with|nil=>simp only[wI]at ar;rw[af cb (by simp[dstsOf]),ar];simp[aI.put,lx]|cons q YB=>exact aw cb ar
  unfold eA;rw[b8 o (by simp)];simp only[aA];rcases hw with hw|⟨vs,hw⟩
  .simp only[hw];rw[xaa (by cases want<;>simp)];exact key
  simp only[hw];exact key
def QH{j:Nat}{want:Bool}{d:Tmp}(aA:(all[j]?).bind (·.dst)=some d):∀{os:List Oper}{σ:aI},(∀o∈os,o.guard=some (j,want))->(∀o∈os,o.dst≠some d)->(σ.aK d= .d (.val (.bool (!want)))\/∃vs,σ.aK d= .d (.val (.tuple vs)))->fT P T G all os (λaW=>aW.objs=σ.objs/\(∀t,t∉dstsOf os->aW.aK t=σ.aK t)/\∀t∈dstsOf os,aW.aK t= .d lx) σ
 |[],σ,_,_,_=>⟨rfl,λ_ _=>rfl,by intro t h;cases h⟩
 |o::os,σ,b8,aH,hw=>by
  have au:=aH o (by simp);unfold fT;have key:fT P T G all os (λaW=>aW.objs=σ.objs/\(∀t,t∉dstsOf (o::os)->aW.aK t=σ.aK t)/\∀t∈dstsOf (o::os),aW.aK t= .d lx) (σ.put o.dst (.d (.val (.tuple #[])))):=by
   have E3:(σ.put o.dst (.d (.val (.tuple #[])))).aK d= .d (.val (.bool (!want)))\/∃vs,(σ.put o.dst (.d (.val (.tuple #[])))).aK d= .d (.val (.tuple vs)):=by rw[rn au];exact hw
   refine mX ?_ (QH aA (λo aG=>b8 o (by simp[aG])) (λo aG=>aH o (by simp[aG])) E3);rintro aW ⟨ab,af,aw⟩;refine⟨ab.trans (by simp),?_,?_⟩
   .intro t aM;have py:t∉dstsOf os:=λao=>aM (by
     unfold dstsOf at ao⊢;simp only[xbL];cases o.dst<;>simp[ao])
    have yv:o.dst≠some t:=λao=>aM (by unfold dstsOf;simp[ao]);rw[af t py,rn yv]
   intro t aM;by_cases py:t∈dstsOf os;.exact aw t py
   have k4:o.dst=some t:=by
    unfold dstsOf at aM py;simp only[xbL]at aM;cases aG:o.dst with
    |none=>rw[aG]at aM;exact absurd aM py
    |some u=>
     rw[aG]at aM;rcases xak.1 aM with rfl|h
     .rfl
     exact absurd h py
   rw[af t py,k4];simp[aI.put,lx]
  unfold eA;rw[b8 o (by simp)];simp only[aA];rcases hw with hw|⟨vs,hw⟩
  .simp only[hw];rw[xaa (by cases want<;>simp)];exact key
  simp only[hw];exact key
def ajU(cf:hs P G C){o:Oper}{k:aI->Option β}{b:β}(h:sW T G C σ o k=some b):dc P T G o (λaW=>k aW=some b/\∀t,o.dst≠some t->aW.aK t=σ.aK t) σ:=by
 unfold sW at h;split at h;.exact qj (λ_ h=>⟨h.1,h.2.2⟩) (K4 cf (by assumption) h)
 obtain⟨aW,ab,af⟩:=BB h;unfold dc;rw[ab];refine⟨af,λt aM=>?_⟩;unfold g1 at ab;split at ab;.cases ab;exact rn aM
 split at ab;.cases ab;exact rn aM
 split at ab;.cases ab;exact rn aM
 cases ab
def YC(cf:hs P G C){j:Nat}{want:Bool}{d:Tmp}(aA:(all[j]?).bind (·.dst)=some d):∀{os:List Oper}{σ:aI}{k:aI->Option β}{b:β},(∀o∈os,o.guard=some (j,want))->(∀o∈os,o.dst≠some d)->σ.aK d= .d (.val (.bool want))->sX T G C os σ k=some b->fT P T G all os (λaW=>k aW=some b) σ
 |[],σ,k,b,_,_,_,h=>h|o::os,σ,k,b,b8,aH,hw,h=>by unfold fT eA;rw[b8 o (by simp)];simp only[aA,hw,xaH];refine qj ?_ (ajU cf h);rintro aW ⟨ab,aw⟩;exact YC cf aA (λo aG=>b8 o (by simp[aG])) (λo aG=>aH o (by simp[aG])) (by rw[aw d (aH o (by simp))];exact hw) ab
def QI{j:Nat}{want:Bool}{d:Tmp}(aA:(all[j]?).bind (·.dst)=some d){K:aI->Prop}:∀{os:List Oper}{σ:aI},(∀o∈os,o.guard=some (j,want))->(∀o∈os,o.dst≠some d)->(σ.aK d= .d (.val (.bool (!want)))\/∃vs,σ.aK d= .d (.val (.tuple vs)))->K (QC os σ)->fT P T G all os K σ
 |[],σ,_,_,_,h=>h
 |o::os,σ,b8,aH,hw,h=>by
  have au:=aH o (by simp);have E3:(σ.put o.dst (.d (.val (.tuple #[])))).aK d= .d (.val (.bool (!want)))\/∃vs,(σ.put o.dst (.d (.val (.tuple #[])))).aK d= .d (.val (.tuple vs)):=by rw[rn au];exact hw
  have key:fT P T G all os K (σ.put o.dst (.d (.val (.tuple #[])))):=QI aA (λo aG=>b8 o (by simp[aG])) (λo aG=>aH o (by simp[aG])) E3 h;unfold fT eA;rw[b8 o (by simp)];simp only[aA];rcases hw with hw|⟨vs,hw⟩
  .simp only[hw];rw[xaa (by cases want<;>simp)];exact key
  simp only[hw];exact key
def YD:∀{os:List Oper}{cb:Tmp},wI os=some cb->cb∈dstsOf os
 |[],cb,h=>by cases h
 |[o],cb,h=>by simp only[wI]at h;simp[dstsOf,h]|o::q::r,cb,h=>by have:=YD (os:=q::r) h;unfold dstsOf at this⊢;rw[xbL];cases o.dst<;>simp[this]
def BE(cf:hs P G C){K:aI->Prop}(fj:∀σ τ,oB σ τ->K τ->K σ):∀{gs:List (Option (Nat×Bool)×List Oper)} {σ:aI} {k:aI->Option β} {b:β},(∀g∈gs,∀o∈g.2,o.guard=g.1)->(∀aW,k aW=some b->K aW)->yt T G C all gs σ k=some b->fT P T G all (flat gs) K σ
 |[],σ,k,b,_,ak,h=>ak _ h|(none,os)::r,σ,k,b,b8,ak,h=>by show fT P T G all (os++flat r) K σ;refine QF (mX ?_ (Yz cf (λo aG=>b8 (none,os) (by simp) o aG) h));intro aW bD;exact BE cf fj (λg hm=>b8 g (by simp[hm])) ak bD
 |(some (j,want),os)::r,σ,k,b,b8,ak,h=>by
  show fT P T G all (os++flat r) K σ;unfold yt at h;split at h
  case h_2=>cases h
  rename_i d cb aA yw;split at h
  case h_2=>cases h
  rename_i x ag;split at h
  case isFalse=>
   split at h
   case isFalse=>cases h
   rename_i lA;simp only[xaz,bne_iff_ne,ne_eq]at lA;have jb:∀o∈os,o.guard=some (j,want):=λo aG=>b8 (some (j,want),os) (by simp) o aG;unfold wH at h;refine QF ?_;split at h
   .rename_i gq;split at h;.rename_i aj;subst aj;exact mX (λaW bD=>BE cf fj (λg hm=>b8 g (by simp[hm])) ak bD) (YC cf aA jb lA ag h)
    rename_i aj;exact QI aA jb lA (.inl (by rw[ag];cases gq<;>cases want<;>simp_all)) (BE cf fj (λg hm=>b8 g (by simp[hm])) ak h)
   .exact QI aA jb lA (.inr ⟨_,ag⟩) (BE cf fj (λg hm=>b8 g (by simp[hm])) ak h)
   cases h
  rename_i bk;simp only[Yo,xal,xaz,bne_iff_ne,ne_eq,blind,xbA,xcb,List.contains_eq_mem,decide_eq_false_iff_not]at bk;obtain⟨QJ,ajV⟩:=bk;obtain⟨v,ab,af⟩:=fw h;have jb:∀o∈os,o.guard=some (j,want):=λo aG=>b8 (some (j,want),os) (by simp) o aG;have rest:=BE cf fj (λg hm=>b8 g (by simp[hm])) ak af;have fin:∀aW:aI,aW.objs=σ.objs->(∀t,t∉dstsOf os->aW.aK t=σ.aK t)->aW.aK cb= .d v->fT P T G all (flat r) K aW:=by
   intro aW aJ aZ bN;refine QG fj ((dstsOf os).filter (·!=cb)) ?_ ?_ ?_ ?_ rest;.intro qm iF o aG;have E4:=xbA.1 iF;exact ajV o aG qm ⟨E4.1,by simpa using E4.2⟩
   .intro t aM;simp only[xbA,bne_iff_ne,ne_eq,not_and,Decidable.not_not]at aM;by_cases oC:t=cb;.subst oC;simp[aI.put,bN]
    have iv:t∉dstsOf os:=λao=>oC (aM ao);simp only[aI.put,cZ _ _ oC,lV,iv,xaI];exact aZ t iv
   .intro qm iF;have E4:=xbA.1 iF;have cR:qm≠cb:=by simpa using E4.2
    refine .inl ?_;simp only[aI.put,cZ _ _ cR,lV,E4.1,xaH]
   simp[aI.put,lV,aJ]
  unfold bL at ab;refine QF ?_;split at ab
  .rename_i gq;split at ab
   .rename_i aj;subst aj;refine mX ?_ (YA cf aA jb QJ ag ab);rintro aW ⟨aV,a2,bb⟩;refine fin aW a2 bb ?_;split at aV;.rename_i u hu;cases aV;exact hu
    cases aV
   rename_i aj;cases ab;refine mX ?_ (E2 aA jb (λo aG=>(QJ o aG).2) (.inl (by rw[ag];cases gq<;>cases want<;>simp_all)));rintro aW ⟨aV,a2,bb⟩;exact fin aW aV a2 (bb cb yw)
  .rename_i vs;cases ab;refine mX ?_ (E2 aA jb (λo aG=>(QJ o aG).2) (.inr ⟨_,ag⟩));rintro aW ⟨aV,a2,bb⟩;exact fin aW aV a2 (bb cb yw)
  cases ab
def ajW{i:Nat}{fv:Oper}{listed:Array Bool}(ah:all[i]?=some fv)(h:QD all listed i=true):(∀j c8,j∈waits all i->all[j]?=some c8->∃e∈c8.after,Region.binds .any e=true/\(e.on=i\/e.on∈waits all i))/\(∀j,j∈waits all i->listed.getD j true=false)/\ ∀j c8,all[j]?=some c8->j≠i->listed.getD j true=false->j∉waits all i->fv.apart all c8=true/\∀t a x,c8.op≠ .store t a x:=by
 simp only[QD,ah,xal,xaz,xbX]at h;refine⟨λj c8 aN jm=>?_,λj aN=>by simpa using(h.1 j aN).1,λj c8 jm cR ow iv=>?_⟩;.have ab:=(h.1 j aN).2;simp only[jm]at ab;obtain⟨e,he,aj⟩:=Array.any_eq_true'.1 ab;simp only[xal,xbd,xbz,List.contains_iff_mem]at aj;exact⟨e,he,aj.1,aj.2⟩
 have ab:=h.2 j (xaT.1 jm).1;simp only[jm,xbd,xbz,cR,false_or,ow,xav,xal,List.contains_iff_mem,iv]at ab;refine⟨ab.1,?_⟩;intro t a x he;rw[he]at ab;simp[Yq]at ab
def ajX{i:Nat}{fv:Oper}{listed:Array Bool}{aK:Nat->aS}(h:QE all listed i aK fv=true):(∀j c8,j∈waits all i->all[j]?=some c8->∃e∈c8.after,Region.binds .any e=true/\(e.on=i\/e.on∈waits all i))/\(∀j,j∈waits all i->listed.getD j true=false)/\ ∀j c8,all[j]?=some c8->j≠i->listed.getD j true=false->j∉waits all i->fv.apart all c8=true/\sT aK fv c8=true/\(∀t∈mT fv.op++(yu all listed i).flatMap (λy=>uJ y.op),c8.dst≠some t)/\∀t∈uJ c8.op,t∈mT fv.op++(yu all listed i).flatMap (λy=>uJ y.op):=by
 simp only[QE,xal,xaz]at h;refine⟨λj c8 aN jm=>?_,λj aN=>by simpa using(h.1 j aN).1,λj c8 jm cR ow iv=>?_⟩;.have ab:=(h.1 j aN).2;simp only[jm]at ab;obtain⟨e,he,aj⟩:=Array.any_eq_true'.1 ab;simp only[xal,xbd,xbz,List.contains_iff_mem]at aj;exact⟨e,he,aj.1,aj.2⟩
 have hm:c8∈yu all listed i:=by
  unfold yu;rw[List.mem_filterMap];refine⟨j,by simpa using(xaT.1 jm).1,?_⟩;have:(j==i||listed.getD j true||(waits all i).contains j)=false:=by simp only[Bool.or_eq_false_iff,beq_eq_false_iff_ne,ne_eq];exact⟨⟨cR,ow⟩,by simpa using iv⟩
  rw[this];simpa using jm
 obtain⟨ab,af⟩:=h.2 c8 hm;refine⟨ab.1,ab.2,λt aM=>by simpa using af t aM,λt aM=>List.mem_append_right _ (List.mem_flatMap.2 ⟨c8,hm,aM⟩)⟩
def QK(cf:hs P G C){k:aI->Option β}{b:β}:∀(ord:List Nat)(listed:Array Bool)(σ:aI),BD T G C all ord listed σ k=some b->jl P T G all (λaW=>k aW=some b) ord.length listed σ
 |[],listed,σ,h=>by
  unfold BD at h;split at h;.rename_i av;exact⟨List.isEmpty_iff.1 av,h⟩
  cases h
 |i::r,listed,σ,h=>by
  unfold BD at h;split at h
  case h_2=>cases h
  rename_i o ah;split at h
  case isFalse=>cases h
  rename_i ao;obtain⟨b8,av,bd⟩:=ao;have H:hY P T G all i (jl P T G all (λaW=>k aW=some b) r.length (listed.setIfInBounds i true)) σ:=by unfold hY;simp only[ah];unfold eA;simp only[b8];exact qj (λaW bD=>QK cf r _ aW bD) (Yv cf h)
  rcases xbD.1 bd with bd|bd
  case inr=>obtain⟨bA,bB,cz⟩:=P3 ah bd;exact P2 ah bA r.length listed σ bB cz (by simpa using av) (.inr trivial) H
  rcases xbD.1 bd with bd|bd
  case inr=>obtain⟨bA,bB,cz⟩:=ajX bd;exact ajm ah b8 bA (s0:=σ.aK) (L:=mT o.op++(yu all listed i).flatMap (λy=>uJ y.op)) (λt aM=>xbQ _ aM) r.length listed σ (λ_ _=>rfl) bB cz (by simpa using av) H
  rcases xbD.1 bd with bd|bd;.obtain⟨bA,bB,cz⟩:=aii ah bd;exact aif ah bA r.length listed σ bB cz (by simpa using av) (.inr trivial) H
  unfold Yr at bd;split at bd
  case h_2=>cases bd
  rename_i t a aG;split at bd
  case h_2=>cases bd
  rename_i cU off aH;obtain⟨bA,bB,cz⟩:=ajW ah bd;exact ai0 ah aG b8 bA r.length listed σ aH bB cz (by simpa using av) H
def ajY(cf:hs P G C){K:aI->Prop}(fj:∀σ τ,oB σ τ->K τ->K σ){k:aI->Option β}{b:β}(ak:∀aW,k aW=some b->K aW)(h:Yp T G C all σ k=some b):fT P T G all all.toList K σ:=by
 have:=BE (P:=P) cf fj (λg hm o aG=>K3 _ _ _ hm o aG) ak h
 rwa [wK]at this
end
inductive qn where
 |any
 |d
 |qo (f:FuncId)
 |fd (f:FuncId) (m:Nat)
 |ew (off:Nat)
 |ptr (k:Key) (off:Nat)
 |row (k:Key)
 |map (k:Key)
 |sub (k:Key) (cU:Nat)
inductive lB where
 |b (s:qn)
 |fn (f:Fn) (first cap:List qn)
 |agg (cs:List qn)
 |a1 (cs:List qn)
inductive lW where
 |dead
 |box (cs:List lB)
 |row (k:Nat)
 |map
inductive wL where
 |slot (t K n:Nat)
 |box (k i K n:Nat)
 |all (t cU:Nat)
structure rp where
 aK:List (Nat×lB)
 objs:List (Key×lW)
 pz:List wL
def I(ls:List D)(n:Nat):D:=ls.getD n lx
def jq:D->Nat
 | .val (.int _ n)=>n.toNat|_=>0
def wM(ls:List D):qn->Nat->aS×Nat
 | .any,n=>(.any,n)| .d,n=>(.d (I ls n),n+1)| .qo f,n=>(.d (.val (.func (.func f) #[] #[])),n)| .fd f m,n=>(.d (.fn (.func f) [] ((List.range m).map λi=>I ls (n+i))),n+m)| .ew off,n=>(.ew (KT (I ls n)) off,n+1)| .ptr k off,n=>(.ptr k off,n)| .row k,n=>(.row k,n)| .map k,n=>(.map k,n)| .sub k cU,n=>(.sub k cU (jq (I ls n)) (jq (I ls (n+1))),n+2)
def oD(ls:List D):List qn->Nat->List aS×Nat
 |[],n=>([],n)|s::r,n=>((wM ls s n).1::(oD ls r (wM ls s n).2).1,(oD ls r (wM ls s n).2).2)
def pA(ls:List D):lB->Nat->aS×Nat
 | .b s,n=>wM ls s n| .fn f first cap,n=>(.fn f (oD ls first n).1 (oD ls cap (oD ls first n).2).1,(oD ls cap (oD ls first n).2).2)
 | .agg cs,n=>(.agg (oD ls cs n).1,(oD ls cs n).2)| .a1 cs,n=>(.a1 (oD ls cs n).1,(oD ls cs n).2)
def rq(ls:List D):List lB->Nat->List aS×Nat
 |[],n=>([],n)|s::r,n=>((pA ls s n).1::(rq ls r (pA ls s n).2).1,(rq ls r (pA ls s n).2).2)
def yx(ls:List D):lW->Nat->cV×Nat
 | .dead,n=>(.dead,n)| .box cs,n=>(.box (rq ls cs n).1,(rq ls cs n).2)| .row k,n=>(.row k (aq (I ls n)),n+1)| .map,n=>(.map (ej (I ls n)),n+1)
def wN(ls:List D):List (Nat×lB)->Nat->List (Nat×aS)×Nat
 |[],n=>([],n)|(t,s)::r,n=>((t,(pA ls s n).1)::(wN ls r (pA ls s n).2).1,(wN ls r (pA ls s n).2).2)
def oE(ls:List D):List (Key×lW)->Nat->List (Key×cV)×Nat
 |[],n=>([],n)|(t,s)::r,n=>((t,(yx ls s n).1)::(oE ls r (yx ls s n).2).1,(oE ls r (yx ls s n).2).2)
def restore(gm:rp)(ls:List D):aI:=XJ (wN ls gm.aK 0).1 (oE ls gm.objs (wN ls gm.aK 0).2).1
def YE:aS->qn->List (Key×Key)
 | .ptr k _,.ptr bs _=>[(bs,k)]| .row k,.row bs=>[(bs,k)]| .map k,.map bs=>[(bs,k)]| .sub k _ _ _,.sub bs _=>[(bs,k)]|_,_=>[]
def E5:List aS->List qn->List (Key×Key)
 |x::xs,s::eV=>YE x s++E5 xs eV|_,_=>[]
def YF:aS->lB->List (Key×Key)
 |x,.b s=>YE x s| .fn _ as ki,.fn _ eV ts=>E5 as eV++E5 ki ts| .agg cs,.agg eV=>E5 cs eV| .a1 cs,.a1 eV=>E5 cs eV|_,_=>[]
def K5:List aS->List lB->List (Key×Key)
 |x::xs,s::eV=>YF x s++K5 xs eV|_,_=>[]
def YG(σ:aI):List (Nat×lB)->List (Key×Key)
 |[]=>[]|(t,s)::r=>YF (σ.aK t) s++YG σ r
def BF(σ:aI):List (Key×lW)->List (Key×Key)->List (Key×Key)
 |[],ck=>ck|(k,.box eV)::r,ck=>match σ.objs (gl ck k)with|some (.box xs)=>BF σ r (ck++K5 xs eV)|_=>BF σ r ck
 |_::r,ck=>BF σ r ck
def K6(ck:List (Key×Key))(ks:List Key):aS->qn->Option (List D)
 |_,.any=>some []|x,.d=>(KI x).map λa=>[a]| .d (.val (.func (.func f) a b)),.qo kG=>if f=kG/\a.size=0/\b.size=0 then some []else none
 | .d (.fn (.func kG) first oA),.fd f m=>if kG=f/\first.isEmpty=true/\oA.length=m then some oA else none
 | .ew cs off,.ew QL=>if off=QL then some [.agg cs]else none
 | .ptr k off,.ptr bs QL=>if k=gl ck bs/\off=QL/\ks.contains bs then some []else none
 | .row k,.row bs=>if k=gl ck bs/\ks.contains bs then some []else none
 | .map k,.map bs=>if k=gl ck bs/\ks.contains bs then some []else none
 | .sub k cU i len,.sub bs ajZ=>if k=gl ck bs/\cU=ajZ/\ks.contains bs then some [.val (.int .i64 (i:Nat)),.val (.int .i64 (len:Nat))]else none
 |_,_=>none
def uM(x y:Option (List D)):Option (List D):=match x,y with|some a,some b=>some (a++b)|_,_=>none
def BG(ck:List (Key×Key))(ks:List Key):List aS->List qn->Option (List D)
 |[],[]=>some []|x::xs,s::eV=>uM (K6 ck ks x s) (BG ck ks xs eV)|_,_=>none
def K7(ck:List (Key×Key))(ks:List Key):aS->lB->Option (List D)
 |x,.b s=>K6 ck ks x s| .fn (.func f) as ki,.fn (.func kG) eV ts=>if f=kG then uM (BG ck ks as eV) (BG ck ks ki ts)else none
 | .agg cs,.agg eV=>BG ck ks cs eV| .a1 cs,.a1 eV=>BG ck ks cs eV|_,_=>none
def K8(ck:List (Key×Key))(ks:List Key):List aS->List lB->Option (List D)
 |[],[]=>some []|x::xs,s::eV=>uM (K7 ck ks x s) (K8 ck ks xs eV)|_,_=>none
def QM(ck:List (Key×Key))(ks:List Key):Option cV->lW->Option (List D)
 |some _,.dead=>some []|some (.box xs),.box eV=>K8 ck ks xs eV|some (.row k es),.row bs=>if k=bs then some [.ax k es]else none
 |some (.map es),.map=>some [.mp es]|_,_=>none
def QN(ck:List (Key×Key))(ks:List Key)(σ:aI):List (Nat×lB)->Option (List D)
 |[]=>some []|(t,s)::r=>uM (K7 ck ks (σ.aK t) s) (QN ck ks σ r)
def K9(ck:List (Key×Key))(ks:List Key)(σ:aI):List (Key×lW)->Option (List D)
 |[]=>some []|(k,s)::r=>uM (QM ck ks (σ.objs (gl ck k)) s) (K9 ck ks σ r)
section
variable{β:Type}
def oF:List wL->aI->(aI->Option β)->Option β
 |[],σ,k=>k σ
 | .slot t K n::r,σ,k=>match σ.aK t,σ.objs K with
  | .d a,none=>if K<10000 then aB (nT a) (oF r ⟨cv σ.aK t (.row K),cv σ.objs K (some (.row n []))⟩ k)else none
  |_,_=>oF r σ k
 | .box cU i K n::r,σ,k=>match σ.objs cU with
  |some (.box xs)=>match xs[i]?,σ.objs K with
   |some (.d a),none=>if K<10000 then aB (nT a) (oF r ⟨σ.aK,cv (cv σ.objs cU (some (.box (xs.set i (.row K))))) K (some (.row n []))⟩ k)else none
   |_,_=>oF r σ k
  |_=>oF r σ k
 | .all t cU::r,σ,k=>match σ.aK t with
  | .row K=>match σ.objs K with
   |some (.row n es)=>if n=cU then oF r ⟨cv σ.aK t (.sub K n 0 es.length),σ.objs⟩ k else none
   |_=>oF r σ k
  |_=>oF r σ k
def BH:lW->Bool
 | .box _=>true| .row _=>true| .map=>true|_=>false
def YH(ib:List Key)(ck:List (Key×Key))(objs:List (Key×lW)):Bool:=objs.all (λp=>decide (p.1<10000)||ib.contains p.1)&&ib.all (λk=>gl ck k==k&&objs.any λp=>p.1==k&&BH p.2)&&decide ((objs.map (·.1)).Nodup)
def sY(ib:List Key)(gm:rp)(σ:aI)(k:List D->Option β):Option β:=oF gm.pz σ λσ=>
  let ck:=BF σ gm.objs (YG σ gm.aK)
  if yn (gl ck) (gm.objs.map (·.1))&&YH ib ck gm.objs=true then
   match uM (QN ck (gm.objs.map (·.1)) σ gm.aK) (K9 ck (gm.objs.map (·.1)) σ gm.objs)with|some ls=>k ls|none=>none
  else none
end
def yy{x y:Option (List D)}{l:List D}(h:uM x y=some l):∃a b,x=some a/\y=some b/\l=a++b:=by
 unfold uM at h;split at h;.cases h;exact⟨_,_,rfl,rfl,rfl⟩
 cases h
def lX(ls:List D)(n:Nat)(a:List D):Prop:=∀j d,a[j]?=some d->ls[n+j]?=some d
def lX.left{ls:List D}{n:Nat}{a b:List D}(h:lX ls n (a++b)):lX ls n a:=λj d aN=>h j d (by rw[xaL (xae.1 aN).1];exact aN)
def lX.right{ls:List D}{n:Nat}{a b:List D}(h:lX ls n (a++b)):lX ls (n+a.length) b:=λj d aN=>by
 have:=h (a.length+j) d (by rw[xaJ (by omega)];simpa using aN)
 rwa [<-xbc]at this
def lX.I{ls:List D}{n:Nat}{a:D}(h:lX ls n [a]):I ls n=a:=by have:=h 0 a rfl;simp only[xbl]at this;simp[Am.I,xaM,this]
section
variable{ck:List (Key×Key)}{ks:List Key}{ls:List D}{U:Key->Prop}
def YI(gS:∀k,ks.contains k=true->U k){x:aS}{s:qn}{n:Nat}{a:List D}(h:K6 ck ks x s=some a)(g4:lX ls n a):ps (gl ck) U x (wM ls s n).1/\(wM ls s n).2=n+a.length:=by
 unfold K6 at h;split at h;.cases h;exact⟨trivial,rfl⟩
 .obtain⟨d,aA,rfl⟩:=xah.1 h;refine⟨⟨_,aA,?_⟩,rfl⟩;rw[g4.I];exact D.le_refl _
 .split at h;.rename_i bd;obtain⟨rfl,aF,aj⟩:=bd;cases h;rw[xbf aF,xbf aj];exact⟨⟨_,rfl,D.le_refl _⟩,rfl⟩
  cases h
 .split at h
  .rename_i bd;obtain⟨rfl,ab,rfl⟩:=bd;cases h;refine⟨⟨_,rfl,?_⟩,rfl⟩;rw[List.isEmpty_iff.1 ab];have e:((List.range a.length).map λi=>I ls (n+i))=a:=by
    apply xca;intro i;rw[xaj];by_cases ah:i<a.length;.rw[xbT ah,xab ah];have:=g4 i a[i] (xab ah);simp[Am.I,xaM,this]
    rw[xbn (by simp;omega),xbn (by omega)];rfl
   skip
   rw[e];exact D.le_refl _
  cases h
 .split at h;.rename_i bd;cases h;subst bd;refine⟨.inl ?_,rfl⟩;rw[g4.I];rfl
  cases h
 .split at h;.rename_i bd;cases h;exact⟨⟨by rw[bd.1,bd.2.1],gS _ bd.2.2⟩,rfl⟩
  cases h
 .split at h;.rename_i bd;cases h;exact⟨⟨by rw[bd.1],gS _ bd.2⟩,rfl⟩
  cases h
 .split at h;.rename_i bd;cases h;exact⟨⟨by rw[bd.1],gS _ bd.2⟩,rfl⟩
  cases h
 .split at h;.rename_i bd;cases h;obtain⟨ab,af,aw⟩:=bd;have aJ:=g4.left (a:=[_]) (b:=[_]);have aZ:lX ls (n+1) [D.val (.int .i64 ((_:Nat):Int))]:=lX.right (a:=[_]) (b:=[_]) g4;simp only[wM];rw[aJ.I,aZ.I];exact⟨⟨by rw[ab,af];simp[jq],gS _ aw⟩,rfl⟩
  cases h
 cases h
def E6(gS:∀k,ks.contains k=true->U k):∀{xs:List aS}{eV:List qn}{n:Nat}{a:List D},BG ck ks xs eV=some a->lX ls n a->jM (gl ck) U xs (oD ls eV n).1/\(oD ls eV n).2=n+a.length
 |[],[],n,a,h,g4=>by cases h;exact⟨trivial,rfl⟩
 |x::xs,s::eV,n,a,h,g4=>by obtain⟨an,ba,ab,af,rfl⟩:=yy h;obtain⟨aV,a2⟩:=YI gS ab g4.left;have av:=g4.right;rw[<-a2]at av;obtain⟨bb,cS⟩:=E6 gS af av;refine⟨⟨aV,bb⟩,?_⟩;show(oD ls eV (wM ls s n).2).2=_;rw[cS,a2,xaK];omega
 |[],_::_,n,a,h,_=>by cases h
 |_::_,[],n,a,h,_=>by cases h
def aj0{x y:aS}(h:ps (gl ck) U x y):uE (gl ck) U x y:=by cases y<;>first|exact h|exact h.elim
def YJ(gS:∀k,ks.contains k=true->U k){x:aS}{s:lB}{n:Nat}{a:List D}(h:K7 ck ks x s=some a)(g4:lX ls n a):uE (gl ck) U x (pA ls s n).1/\(pA ls s n).2=n+a.length:=by
 unfold K7 at h;split at h;.obtain⟨aV,a2⟩:=YI gS h g4;exact⟨aj0 aV,a2⟩
 .split at h;.rename_i bd;subst bd;obtain⟨an,ba,ab,af,rfl⟩:=yy h;obtain⟨aV,a2⟩:=E6 gS ab g4.left;have av:=g4.right;rw[<-a2]at av;obtain⟨bb,cS⟩:=E6 gS af av;refine⟨⟨rfl,aV,bb⟩,?_⟩;simp only[pA];rw[cS,a2,xaK];omega
  cases h
 .obtain⟨aV,a2⟩:=E6 gS h g4;exact⟨aV,a2⟩
 .obtain⟨aV,a2⟩:=E6 gS h g4;exact⟨aV,a2⟩
 cases h
def QO(gS:∀k,ks.contains k=true->U k):∀{xs:List aS}{eV:List lB}{n:Nat}{a:List D},K8 ck ks xs eV=some a->lX ls n a->sR (gl ck) U xs (rq ls eV n).1/\(rq ls eV n).2=n+a.length
 |[],[],n,a,h,g4=>by cases h;exact⟨trivial,rfl⟩
 |x::xs,s::eV,n,a,h,g4=>by obtain⟨an,ba,ab,af,rfl⟩:=yy h;obtain⟨aV,a2⟩:=YJ gS ab g4.left;have av:=g4.right;rw[<-a2]at av;obtain⟨bb,cS⟩:=QO gS af av;refine⟨⟨aV,bb⟩,?_⟩;show(rq ls eV (pA ls s n).2).2=_;rw[cS,a2,xaK];omega
 |[],_::_,n,a,h,_=>by cases h
 |_::_,[],n,a,h,_=>by cases h
def aj1(gS:∀k,ks.contains k=true->U k){x:Option cV}{s:lW}{n:Nat}{a:List D}(h:QM ck ks x s=some a)(g4:lX ls n a):(∃o',x=some o'/\yl (gl ck) U o' (yx ls s n).1)/\(yx ls s n).2=n+a.length:=by
 unfold QM at h;split at h;.cases h;exact⟨⟨_,rfl,trivial⟩,rfl⟩
 .obtain⟨aV,a2⟩:=QO gS h g4;exact⟨⟨_,rfl,⟨_,rfl,aV⟩⟩,a2⟩
 .split at h;.rename_i ak;cases h;subst ak;refine⟨⟨_,rfl,⟨_,rfl,.inl ?_⟩⟩,rfl⟩;rw[g4.I];rfl
  cases h
 .cases h;refine⟨⟨_,rfl,?_⟩,rfl⟩;simp only[yx,yl];rw[g4.I];rfl
 cases h
def YK(gS:∀k,ks.contains k=true->U k){σ:aI}:∀{l:List (Nat×lB)} {n:Nat} {a:List D},QN ck ks σ l=some a->lX ls n a->Bu (gl ck) U σ (wN ls l n).1/\(wN ls l n).2=n+a.length
 |[],n,a,h,g4=>by cases h;exact⟨trivial,rfl⟩
 |(t,s)::r,n,a,h,g4=>by obtain⟨an,ba,ab,af,rfl⟩:=yy h;obtain⟨aV,a2⟩:=YJ gS ab g4.left;have av:=g4.right;rw[<-a2]at av;obtain⟨bb,cS⟩:=YK gS af av;refine⟨⟨aV,bb⟩,?_⟩;simp only[wN];rw[cS,a2,xaK];omega
def QP(gS:∀k,ks.contains k=true->U k){σ:aI}:∀{l:List (Key×lW)} {n:Nat} {a:List D},K9 ck ks σ l=some a->lX ls n a->ym (gl ck) U σ (oE ls l n).1/\(oE ls l n).2=n+a.length
 |[],n,a,h,g4=>by cases h;exact⟨trivial,rfl⟩
 |(t,s)::r,n,a,h,g4=>by obtain⟨an,ba,ab,af,rfl⟩:=yy h;obtain⟨aV,a2⟩:=aj1 gS ab g4.left;have av:=g4.right;rw[<-a2]at av;obtain⟨bb,cS⟩:=QP gS af av;refine⟨⟨aV,bb⟩,?_⟩;simp only[oE];rw[cS,a2,xaK];omega
end
def yz(ls:List D):∀(l:List (Key×lW)) (n:Nat),mq (oE ls l n).1=l.map (·.1)
 |[],n=>rfl|(k,s)::r,n=>by have:=yz ls r (yx ls s n).2;simp only[oE,mq,xaA]at this⊢;rw[<-this]
def La:∀{lo:List (Key×cV)} {k:Key},k∈mq lo->∃o,fB lo k=some o
 |[],k,h=>by cases h
 |(j,x)::r,k,h=>by
  unfold fB;by_cases ak:k=j;.exact⟨x,by rw[xad ak]⟩
  rw[xaa ak];simp only[mq,xaA,xak]at h;exact La (h.resolve_left ak)
def fP(ib:List Key)(σ:aI):Prop:=∀k,10000<=k->e2 (σ.objs k)->k∈ib
def QQ(ls:List D):∀(l:List (Key×lW)) (n:Nat) (k:Key),(l.map (·.1)).Nodup->(∃s,(k,s)∈l/\BH s=true)->e2 (fB (oE ls l n).1 k)
 |[],n,k,_,⟨_,h,_⟩=>by cases h
 |(j,s)::r,n,k,aL,⟨eV,h,aH⟩=>by
  simp only[oE,fB];simp only[xaA,List.nodup_cons]at aL;rcases xak.1 h with ab|ab
  .cases ab;rw[xad rfl];cases s<;>first|cases aH|skip
   .exact uw
   .exact sM
   exact we
  have cR:k≠j:=by rintro rfl;exact aL.1 (xax.2 ⟨_,ab,rfl⟩)
  rw[xaa cR];exact QQ ls r _ k aL.2 ⟨eV,ab,aH⟩
def sZ{β:Type}{ib:List Key}:∀{l:List wL}{σ:aI}{k:aI->Option β}{b:β},fP ib σ->oF l σ k=some b->∃τ,g3 σ τ/\fP ib τ/\k τ=some b
 |[],σ,k,b,bO,h=>⟨σ,g3.refl σ,bO,h⟩
 | .slot t K n::r,σ,k,b,bO,h=>by
  unfold oF at h;split at h
  .rename_i a aH fj;split at h
   case isFalse=>cases h
   rename_i cu;obtain⟨ab,af⟩:=lv h;have aF:a= .val (.slice none 0 0):=by
    unfold nT at ab;split at ab;.rfl
    cases ab
   subst aF;obtain⟨τ,aV,a2,bb⟩:=sZ (ib:=ib) (by
    intro j aN aj;by_cases gC:j=K;.exact absurd cu (Nat.not_lt.2 (gC▸aN))
    simp only[cZ _ _ gC]at aj;exact bO j aN aj) af
   exact⟨τ,(aiT t K n aH fj).trans aV,a2,bb⟩
  exact sZ bO h
 | .box cU i K n::r,σ,k,b,bO,h=>by
  unfold oF at h;split at h
  .rename_i xs ak;split at h
   .rename_i a ah fj;split at h
    case isFalse=>cases h
    rename_i cu;obtain⟨ab,af⟩:=lv h;have aF:a= .val (.slice none 0 0):=by
     unfold nT at ab;split at ab;.rfl
     cases ab
    subst aF;obtain⟨τ,aV,a2,bb⟩:=sZ (ib:=ib) (by
     intro j aN aj;by_cases gC:j=K;.exact absurd cu (Nat.not_lt.2 (gC▸aN))
     simp only[cZ _ _ gC]at aj;by_cases x6:j=cU;.subst x6;exact bO j aN (by rw[ak];exact uw)
     simp only[cZ _ _ x6]at aj;exact bO j aN aj) af
    exact⟨τ,(aiU cU i K n ak ah fj).trans aV,a2,bb⟩
   exact sZ bO h
  exact sZ bO h
 | .all t cU::r,σ,k,b,bO,h=>by
  unfold oF at h;split at h
  .rename_i K aH;split at h
   .rename_i n es ak;split at h
    case isFalse=>cases h
    rename_i aL;subst aL;obtain⟨τ,aV,a2,bb⟩:=sZ (ib:=ib) (σ:=⟨cv σ.aK t (.sub K n 0 es.length),σ.objs⟩) (λj aN aj=>bO j aN aj) h;exact⟨τ,(aiV t K n aH ak).trans aV,a2,bb⟩
   exact sZ bO h
  exact sZ bO h
def Lb{β:Type}{ib:List Key}{gm:rp}{σ:aI}{k:List D->Option β}{b:β}(bO:fP ib σ)(h:sY ib gm σ k=some b):∃ls,g3 σ (restore gm ls)/\fP ib (restore gm ls)/\k ls=some b:=by
 unfold sY at h;obtain⟨τ,aV,a2,bb⟩:=sZ bO h;simp only at bb;split at bb
 case isFalse=>cases bb
 rename_i ao;simp only[YH,xal,xaz,xbd,xaC,xbz,xbs,List.contains_eq_mem]at ao;obtain⟨E7,⟨pk,aj2⟩,aj3⟩:=ao;split at bb
 case h_2=>cases bb
 rename_i ls QR;obtain⟨an,ba,aJ,aZ,rfl⟩:=yy QR;have g4:lX (an++ba) 0 (an++ba):=λj d aN=>by rw[xaw];exact aN
 have gS:∀k,(gm.objs.map (·.1)).contains k=true->∃o,fB (oE (an++ba) gm.objs (wN (an++ba) gm.aK 0).2).1 k=some o:=by intro k ak;exact La (by rw[yz];simpa using ak)
 obtain⟨bA,bB⟩:=YK gS aJ g4.left;have av:=g4.right;rw[<-bB]at av;obtain⟨cz,ey⟩:=QP gS aZ av;have BI:g3 τ (restore gm (an++ba)):=by refine aiH _ (by rw[yz];exact E7) bA cz ?_;intro k ak aj;have hm:=a2 k ak aj;obtain⟨ca,p,yA,oG,YL⟩:=aj2 k hm;refine⟨?_,ca⟩;obtain⟨aAq,j1⟩:=p;simp only at oG YL;subst oG;exact QQ _ _ _ _ aj3 ⟨_,yA,YL⟩
 refine⟨_,aV.trans BI,?_,bb⟩;intro k ak aj;obtain⟨o,aG⟩:=Bh aj;have:=wB aG;rw[yz]at this;obtain⟨p,yA,oG⟩:=xax.1 this;rcases pk p yA with cP|cP
 .rw[oG]at cP;exact absurd cP (Nat.not_lt.2 ak)
 rw[oG]at cP;exact cP
def Lc(objs:cF)(cs:List aS):Option (List D):=if cs.all sO=true then hC (cs.map (toD objs))else none
def wO(objs:cF)(ks:List Key):aS->aS
 | .ptr k off=>if k∈ks then match objs k with
   |some (.box cs)=>match Lc objs cs with|some aO=> .ew aO off|none=> .ptr k off
   |_=> .ptr k off
  else .ptr k off
 | .row k=>if k∈ks then match objs k with|some (.row n es)=> .d (.ax n es)|_=> .row k
  else .row k
 | .map k=>if k∈ks then match objs k with|some (.map es)=> .d (.mp es)|_=> .map k
  else .map k
 |x=>x
def Ld(objs:cF)(ks:List Key):aS->aS
 | .agg cs=>A4 (cs.map (wO objs ks))| .fn f first cap=> .fn f (first.map (wO objs ks)) (cap.map (wO objs ks))
 |x=>wO objs ks x
def E8(objs:cF)(ks:List Key):cV->cV
 | .box cs=> .box (cs.map (Ld objs ks))|o=>o
def QS(objs:cF)(k:Key):Bool:=match objs k with|some (.row _ _)=>decide (k<10000)|some (.map _)=>decide (k<10000)|some (.box cs)=>decide (k<10000)&&(Lc objs cs).isSome|_=>false
def freeze(ks:List Key)(σ:aI):aI:=⟨λt=>Ld σ.objs ks (σ.aK t),λk=>if k∈ks then some .dead else(σ.objs k).map (E8 σ.objs ks)⟩
section
variable{m:Mem}{fr:fL}{ρ:dg}{σ:aI}{a:Act}{w:World}{ks:List Key}
def aj4(h:Den m fr ρ σ a w){key off:Nat}{cs:List aS}{aO:List D}(ak:σ.objs key=some (.box cs))(e1:Lc σ.objs cs=some aO)(hm:key∈ks){U:Key->Prop}{v:Value}(a6:b7 m ρ σ.used (.ptr key off) v):b7 (Den.part m ρ ks w) ρ U (.ew aO off) v:=by
 have hle:=Den.sJ m ρ ks w;obtain⟨b,vs,dO,aJ,aZ,bN,cO⟩:=h.objs _ _ ak;have aj:=h.Kh ak rfl hm (by rw[aJ];rfl);unfold Lc at e1;split at e1
 case isFalse=>cases e1
 rename_i Qb;obtain⟨aV,a2⟩:=q9 e1;rw[xaS]at aV;cases a6 with
 |ptr _ _ b' hu av=>
  rw[aJ]at av;cases av;have:=b7.ew (m:=Den.part m ρ ks w) (ρ:=ρ) (U:=U) aO off b 0 vs dO (0,0) (by rw[aj];exact aZ) (λj=>(vs[j]?).getD undef) ?_ ?_
  .simpa using this
  .intro j c aN;have cu:j<vs.size:=by rw[bN,<-aV];exact(xae.1 aN).1
   simp[xap cu]
  intro j c aN;have cu:j<vs.size:=by rw[bN,<-aV];exact(xae.1 aN).1
  have bb:=a2 j c aN;rw[xaj,xah]at bb;obtain⟨y,aP,uz⟩:=bb;have:=cO j y vs[j] aP (xap cu);simp only[xap cu,xbe];exact(PQ (xaz.1 Qb y (xac aP)) uz this).mono hle
def YM(h:Den m fr ρ σ a w){x:aS}{v:Value}(ag:b7 m ρ σ.used x v):b7 (Den.part m ρ ks w) ρ (freeze ks σ).used (wO σ.objs ks x) v:=by
 have hle:=Den.sJ m ρ ks w;have gS:∀k,σ.used k->(freeze ks σ).used k/\ρ k=ρ k:=by
  rintro k ⟨o,aG⟩;refine⟨?_,rfl⟩;unfold aI.used freeze;by_cases ak:k∈ks;.exact⟨.dead,by simp[ak]⟩
  exact⟨E8 σ.objs ks o,by simp[ak,aG]⟩
 unfold wO;split
 .rename_i k off;split
  .rename_i hm;split
   .rename_i cs ak;split;.rename_i aO e1;exact aj4 h ak e1 hm ag
    exact ag.mono hle gS
   exact ag.mono hle gS
  exact ag.mono hle gS
 .rename_i k;split
  .rename_i hm;split;.rename_i n es ak;cases ag;exact .d _ _ (PI h ak hm)
   exact ag.mono hle gS
  exact ag.mono hle gS
 .rename_i k;split
  .rename_i hm;split;.rename_i es ak;cases ag;exact .d _ _ (ahq h ak hm)
   exact ag.mono hle gS
  exact ag.mono hle gS
 exact ag.mono hle gS
def QT(h:Den m fr ρ σ a w){cs:List aS}{vs:Array Value}(ar:vs.size=cs.length)(bI:∀(i:Nat)(c:aS)(v:Value),cs[i]?=some c->vs[i]?=some v->b7 m ρ σ.used c v):vs.size=(cs.map (wO σ.objs ks)).length/\∀(i:Nat)(c:aS)(v:Value),(cs.map (wO σ.objs ks))[i]?=some c->vs[i]?=some v->b7 (Den.part m ρ ks w) ρ (freeze ks σ).used c v:=by refine⟨by simpa using ar,?_⟩;intro i c v ao a6;simp only[xaj,xah]at ao;obtain⟨y,aP,rfl⟩:=ao;exact YM h (bI i y v aP a6)
def YN(h:Den m fr ρ σ a w){x:aS}{v:Value}(ag:b7 m ρ σ.used x v):b7 (Den.part m ρ ks w) ρ (freeze ks σ).used (Ld σ.objs ks x) v:=by
 unfold Ld;split
 .cases ag with|agg _ vs ar bI=>
  obtain⟨ab,af⟩:=QT (ks:=ks) h ar bI;exact JT (.agg _ _ ab af)
 .cases ag with|fn _ _ _ vs ws ar dv bI yb=>
  obtain⟨ab,af⟩:=QT (ks:=ks) h ar bI;obtain⟨aw,a5⟩:=QT (ks:=ks) h dv yb;exact .fn _ _ _ _ _ ab aw af a5
 exact YM h ag
def aj5(ks:List Key)(eO:ks.all (QS σ.objs)=true):g3 σ (freeze ks σ):=by
 intro m fr ρ a w h;have hle:=Den.sJ m ρ ks w;have dB:∀k∈ks,(k<10000/\∃n es,σ.objs k=some (.row n es))\/(k<10000/\∃es,σ.objs k=some (.map es))\/(k<10000/\∃cs,σ.objs k=some (.box cs)):=by
  intro k ak;have:=xaz.1 eO k ak;unfold QS at this;split at this
  .rename_i n es e;exact .inl ⟨xba this,n,es,e⟩
  .rename_i es e;exact .inr (.inl ⟨xba this,es,e⟩)
  .rename_i cs e;simp only[xal,xaC]at this;exact .inr (.inr ⟨this.1,cs,e⟩)
  cases this
 have own:∀k∈ks,∃o,σ.objs k=some o/\o.owns=true:=by
  intro k ak;rcases dB k ak with⟨_,n,es,e⟩|⟨_,es,e⟩|⟨_,cs,e⟩
  .exact⟨_,e,rfl⟩
  .exact⟨_,e,rfl⟩
  exact⟨_,e,rfl⟩
 have iu:∀b,Den.part m ρ ks w b=m b\/∃k∈ks,blockOf (ρ k)=some b/\Den.part m ρ ks w b=w.heap[b]?:=by
  intro b;unfold Den.part;cases hm:m b with
  |some x=>exact .inl rfl
  |none=>
   simp only;by_cases ao:∃k∈ks,blockOf (ρ k)=some b;.rw[xad ao];obtain⟨k,ab,af⟩:=ao;exact .inr ⟨k,ab,af,rfl⟩
   rw[xaa ao];exact .inl rfl
 have nN:∀k o,(freeze ks σ).objs k=some o->o.owns=true->k∉ks/\∃dL,σ.objs k=some dL/\o=E8 σ.objs ks dL/\dL.owns=true:=by
  intro k o ak aG;unfold freeze at ak;simp only at ak;split at ak;.cases ak;cases aG
  rename_i aL;obtain⟨dL,ab,rfl⟩:=xah.1 ak;refine⟨aL,dL,ab,rfl,?_⟩;cases dL<;>first|rfl|exact aG
 refine⟨Den.part m ρ ks w,ρ,hle,⟨?_,h.frame,?_,?_,?_,?_,?_,?_⟩,?_⟩
 .intro b o aj;rcases iu b with e|⟨k,_,_,e⟩
  .rw[e]at aj;exact h.mem b o aj
  rw[e]at aj;exact aj
 .intro b aj;rcases iu b with e|⟨k,ab,af,e⟩
  .rw[e]at aj;exact h.apart b aj
  obtain⟨o,aw,a5⟩:=own k ab;exact(h.own k o b aw a5 af).2
 .rintro k ⟨o,aG⟩;unfold freeze at aG;simp only at aG;split at aG;.rename_i ak;obtain⟨o,aw,a5⟩:=own k ak;exact h.one k ⟨o,aw⟩
  obtain⟨dL,ab,rfl⟩:=xah.1 aG;exact h.one k ⟨dL,ab⟩
 .intro t;exact YN h (h.aK t)
 .intro k o ak;have fO:=ak;unfold freeze at ak;simp only at ak;split at ak
  .cases ak;trivial
  obtain⟨dL,ab,rfl⟩:=xah.1 ak;have af:=h.objs k dL ab;cases dL with
  |dead=>trivial|box cs=>obtain⟨b,vs,T,aJ,aZ,bN,cO⟩:=af;refine⟨b,vs,T,aJ,aZ,by simpa using bN,?_⟩;intro i c x ao ag;simp only[xaj,xah]at ao;obtain⟨y,aP,rfl⟩:=ao;exact YN h (cO i y x aP ag)
  |row n es=>
   rcases af with⟨aJ,aZ⟩|⟨b,o,cap,vs,dO,aJ,aZ,bN,cO,eg,fG⟩;.exact .inl ⟨aJ,aZ⟩
   exact .inr ⟨b,o,cap,vs,dO,aJ,aZ,bN,cO,eg,λi e j c ah aN=>by obtain⟨x,aV,a2⟩:=fG i e j c ah aN;exact⟨x,aV,a2.mono hle⟩⟩
  |map es=>obtain⟨r,du,clock,aJ,aZ,bN,cO,eg⟩:=af;exact⟨r,du,clock,aJ,aZ,bN,cO,λi e x he ag=>(eg i e x he ag).mono hle⟩
 .intro k o b ak aG aj;obtain⟨aL,dL,ab,rfl,af⟩:=nN k o ak aG;have aw:=h.own k dL b ab af aj;refine⟨?_,aw.2⟩;rcases iu b with e|⟨bs,a5,ca,e⟩
  .rw[e];exact aw.1
  obtain⟨o',cP,gE⟩:=own bs a5;exact absurd ca (h.sep k bs dL o' b (by rintro rfl;exact aL a5) ab cP af gE aj)
 .intro k bs o o' b cR ak fO aG ox aj;obtain⟨aL,dL,ab,rfl,af⟩:=nN k o ak aG;obtain⟨PK,E9,e7,rfl,h5⟩:=nN bs o' fO ox;exact h.sep k bs dL E9 b cR ab e7 af h5 aj
 intro k ak aj;refine⟨?_,rfl⟩;have aL:k∉ks:=by
  intro hm;rcases dB k hm with⟨cu,_⟩|⟨cu,_⟩|⟨cu,_⟩
  .exact absurd ak (Nat.not_le.2 cu)
  .exact absurd ak (Nat.not_le.2 cu)
  exact absurd ak (Nat.not_le.2 cu)
 show e2 (if k∈ks then some .dead else(σ.objs k).map (E8 σ.objs ks));rw[xaa aL];rcases aj with⟨c,ao⟩|⟨n,es,ao⟩|⟨es,ao⟩
 .rw[ao];exact uw
 .rw[ao];exact sM
 rw[ao];exact we
end
def yB{β:Type}:List (List Key)->aI->(aI->Option β)->Option β
 |[],σ,k=>k σ|ks::r,σ,k=>match ks with|[]=>yB r σ k|_=>if ks.all (QS σ.objs)=true then yB r (freeze ks σ) k else none
def Fa{β:Type}(t:Tmp)(σ:aI)(k:aI->Option β):Option β:=match σ.aK t with
 | .sub key cU i len=>match σ.objs key,σ.objs t with
  |some (.row bs es),none=>if cU=bs/\key<10000/\t<10000 then aB (decide (i+len<=es.length)) (k ⟨cv σ.aK t (.row t),cv (cv σ.objs key (some .dead)) t (some (.row cU ((es.drop i).take len)))⟩)else none
  |_,_=>none
 |_=>none
def aj6{σ:aI}{t key cU i len:Nat}{es:List (List D)}(aM:σ.aK t= .sub key cU i len)(ak:σ.objs key=some (.row cU es))(au:σ.objs t=none)(hle:i+len<=es.length)(oH:key<10000):g3 σ ⟨cv σ.aK t (.row t),cv (cv σ.objs key (some .dead)) t (some (.row cU ((es.drop i).take len)))⟩:=by
 intro m fr ρ a w h;have cR:key≠t:=by rintro rfl;rw[ak]at au;cases au
 have b5:((es.drop i).take len).length=len:=by simp;omega
 have BJ:∀j o,(cv (cv σ.objs key (some .dead)) t (some (.row cU ((es.drop i).take len)))) j=some o->(j=t/\o= .row cU ((es.drop i).take len))\/(j=key/\o= .dead)\/(j≠t/\j≠key/\σ.objs j=some o):=by
  intro j o aN;by_cases ab:j=t;.subst ab;rw[fb]at aN;cases aN;exact .inl ⟨rfl,rfl⟩
  rw[cZ _ _ ab]at aN;by_cases af:j=key;.subst af;rw[fb]at aN;cases aN;exact .inr (.inl ⟨rfl,rfl⟩)
  rw[cZ _ _ af]at aN;exact .inr (.inr ⟨ab,af,aN⟩)
 let v:=a.tmps.getD t undef
 have a6:=h.aK t;rw[aM]at a6;have Ew:∀k,σ.used k->aI.used ⟨cv σ.aK t (.row t),cv (cv σ.objs key (some .dead)) t (some (.row cU ((es.drop i).take len)))⟩ k/\cv ρ t v k=ρ k:=by
  rintro k ⟨o,aG⟩;have v9:k≠t:=by rintro rfl;rw[aG]at au;cases au
  refine⟨?_,cZ _ _ v9⟩;by_cases af:k=key;.subst af;exact⟨.dead,by simp only[cZ _ _ v9,fb]⟩
  exact⟨o,by simp only[cZ _ _ v9,cZ _ _ af];exact aG⟩
 have piece:ke v=true/\(blockOf v=none\/blockOf v=blockOf (ρ key))/\jA m (cv ρ t v) (aI.used ⟨cv σ.aK t (.row t),cv (cv σ.objs key (some .dead)) t (some (.row cU ((es.drop i).take len)))⟩) v w (.row cU ((es.drop i).take len)):=by
  have nL:=h.objs key _ ak;generalize aj7:a.tmps.getD t undef=u at a6;have aj8:v=u:=aj7;rw[aj8];cases a6 with
  |kA _ _ _ hu av=>exact⟨rfl,.inl rfl,.inl ⟨rfl,by simp⟩⟩
  |sub _ _ _ _ b o L cap iE hu av Pr aF=>
   refine⟨rfl,.inr (by rw[av];rfl),?_⟩;rcases nL with⟨aJ,aZ⟩|⟨b',o',pd,vs,dO,aJ,aZ,bN,cO,eg,fG⟩
   .rw[av]at aJ;cases aJ
   rw[av]at aJ;cases aJ;refine .inr ⟨b,iE,cap-i,vs,dO,by rw[b5],aZ,by rw[b5];omega,?_,?_,?_⟩
   .by_cases QU:i<cap
    .rw[aF.1 QU,xbc,<-xaR];have:i+(cap-i)=cap:=by omega
     rw[this];exact cO
    have:cap-i=0:=by omega
    rw[this,Nat.zero_mul];have:=aF.2;omega
   .intro e he;exact eg e (xbr (xbk he))
   intro p e j c aU aN;rw[xaP]at aU;split at aU
   case isFalse=>cases aU
   rename_i kD;rw[xaX]at aU;obtain⟨x,aV,a2⟩:=fG (i+p) e j c aU aN;have QU:i<cap:=by have:=(xae.1 aU).1;omega
   refine⟨x,?_,a2⟩;rw[aF.1 QU];have:o+i*cU+p*cU+j=o+(i+p)*cU+j:=by rw[xaR];omega
   rw[this];exact aV
 obtain⟨dE,di,eY⟩:=piece;refine⟨m,cv ρ t v,Mem.le_refl m,⟨h.mem,h.frame,h.apart,?_,?_,?_,?_,?_⟩,?_⟩
 .rintro k ⟨o,aG⟩;rcases BJ k o aG with⟨rfl,_⟩|⟨rfl,_⟩|⟨ab,af,aw⟩;.rw[fb];exact dE
  .rw[cZ _ _ cR];exact h.one _ ⟨_,ak⟩
  rw[cZ _ _ ab];exact h.one _ ⟨_,aw⟩
 .intro s;by_cases aH:s=t;.subst aH;simp only[fb];have:b7 m (cv ρ s v) (aI.used ⟨cv σ.aK s (.row s),cv (cv σ.objs key (some .dead)) s (some (.row cU ((es.drop i).take len)))⟩) (.row s) (cv ρ s v s):= .row s ⟨_,fb _ _ _⟩;rw[fb]at this;exact this
  simp only[cZ _ _ aH];exact(h.aK s).mono (Mem.le_refl m) Ew
 .intro k o fO;rcases BJ k o fO with⟨rfl,rfl⟩|⟨rfl,rfl⟩|⟨ab,af,aw⟩
  .rw[fb];exact eY
  .trivial
  rw[cZ _ _ ab];exact(h.objs k o aw).mono (Mem.le_refl m) Ew (λb _ _=>rfl)
 .intro k o b fO aG aj;rcases BJ k o fO with⟨rfl,rfl⟩|⟨rfl,rfl⟩|⟨ab,af,aw⟩
  .rw[fb]at aj;rcases di with di|di
   .rw[di]at aj;cases aj
   exact h.own key _ b ak rfl (by rw[<-di];exact aj)
  .cases aG
  rw[cZ _ _ ab]at aj;exact h.own k o b aw aG aj
 .intro k bs o o' b dk fO YO aG ox aj;rcases BJ k o fO with⟨rfl,rfl⟩|⟨rfl,rfl⟩|⟨ab,af,aw⟩
  .rcases BJ bs o' YO with⟨rfl,rfl⟩|⟨rfl,rfl⟩|⟨e7,h5,iS⟩;.exact absurd rfl dk
   .cases ox
   rw[fb]at aj;rw[cZ _ _ e7];rcases di with di|di
   .rw[di]at aj;cases aj
   exact h.sep key bs _ o' b (Ne.symm h5) ak iS rfl ox (by rw[<-di];exact aj)
  .cases aG
  rw[cZ _ _ ab]at aj;rcases BJ bs o' YO with⟨rfl,rfl⟩|⟨rfl,rfl⟩|⟨e7,h5,iS⟩
  .rw[fb];rcases di with di|di
   .rw[di];exact λbI=>by cases bI
   rw[di];exact h.sep k key o _ b af aw ak aG rfl aj
  .cases ox
  rw[cZ _ _ e7];exact h.sep k bs o o' b dk aw iS aG ox aj
 intro k fO aj;have v9:k≠t:=by rintro rfl;rw[au]at aj;exact ux aj
 have dk:k≠key:=by rintro rfl;exact absurd oH (Nat.not_lt.2 fO)
 exact⟨by simp only[cZ _ _ v9,cZ _ _ dk];exact aj,cZ _ _ v9⟩
def wP(φ:Key->Key):aS->aS
 | .any=> .any| .d x=> .d x| .ew cs off=> .ew cs off| .ptr k off=> .ptr (φ k) off| .gA k cU i off=> .gA (φ k) cU i off| .row k=> .row (φ k)| .sub k cU i len=> .sub (φ k) cU i len| .map k=> .map (φ k)|_=> .any
def Fb(φ:Key->Key):aS->aS
 | .agg cs=> .agg (cs.map (wP φ))| .a1 cs=> .a1 (cs.map (wP φ))| .fn f as ki=> .fn f (as.map (wP φ)) (ki.map (wP φ))|x=>wP φ x
def uN(φ:Key->Key):cV->cV
 | .box cs=> .box (cs.map (Fb φ))|o=>o
section
variable{m:Mem}{ρ cX:dg}{U nj:Key->Prop}{φ:Key->Key}
def YP(h:∀k,U k->nj (φ k)/\cX (φ k)=ρ k){x:aS}{v:Value}(ag:b7 m ρ U x v):b7 m cX nj (wP φ x) v:=by cases ag with|any v=>exact .any _|d x v ag=>exact .d _ _ ag|agg=>exact .any _|a1=>exact .any _|ew cs off b o vs T eH hm xs ab af=>exact .ew _ _ b o vs T eH hm xs ab af|ptr k off b hu av=>exact .ptr _ _ b (h k hu).1 ((h k hu).2.trans av)|gA k cU i off b o len cap hu av=>exact .gA _ _ _ _ b o len cap (h k hu).1 ((h k hu).2.trans av)|row k hu=>rw[<-(h k hu).2];exact .row _ (h k hu).1|sub k cU i len b o L cap a hu av hle aF=>exact .sub _ _ _ _ b o L cap a (h k hu).1 ((h k hu).2.trans av) hle aF|kA k cU i hu av=>exact .kA _ _ _ (h k hu).1 ((h k hu).2.trans av)|map k hu=>rw[<-(h k hu).2];exact .map _ (h k hu).1|fn=>exact .any _
def Le(h:∀k,U k->nj (φ k)/\cX (φ k)=ρ k){cs:List aS}{vs:Array Value}(ar:vs.size=cs.length)(bI:∀(i:Nat)(c:aS)(v:Value),cs[i]?=some c->vs[i]?=some v->b7 m ρ U c v):vs.size=(cs.map (wP φ)).length/\∀(i:Nat)(c:aS)(v:Value),(cs.map (wP φ))[i]?=some c->vs[i]?=some v->b7 m cX nj c v:=by refine⟨by simpa using ar,?_⟩;intro i c v ao a6;simp only[xaj,xah]at ao;obtain⟨y,aP,rfl⟩:=ao;exact YP h (bI i y v aP a6)
def YQ(h:∀k,U k->nj (φ k)/\cX (φ k)=ρ k){x:aS}{v:Value}(ag:b7 m ρ U x v):b7 m cX nj (Fb φ x) v:=by
 unfold Fb;split
 .cases ag with|agg _ vs ar bI=>
  obtain⟨ab,af⟩:=Le h ar bI;exact .agg _ _ ab af
 .cases ag with|a1 _ vs ar bI=>
  obtain⟨ab,af⟩:=Le h ar bI;exact .a1 _ _ ab af
 .cases ag with|fn _ _ _ vs ws ar dv bI yb=>
  obtain⟨ab,af⟩:=Le h ar bI;obtain⟨aw,a5⟩:=Le h dv yb;exact .fn _ _ _ _ _ ab aw af a5
 exact YP h ag
def aj9(h:∀k,U k->nj (φ k)/\cX (φ k)=ρ k){o:cV}{v:Value}{w:World}(aG:jA m ρ U v w o):jA m cX nj v w (uN φ o):=by
 cases o with
 |dead=>trivial|box cs=>obtain⟨b,vs,T,aJ,aZ,bN,cO⟩:=aG;refine⟨b,vs,T,aJ,aZ,by simpa using bN,?_⟩;intro i c x ao ag;simp only[xaj,xah]at ao;obtain⟨y,aP,rfl⟩:=ao;exact YQ h (cO i y x aP ag)
 |row=>exact aG|map=>exact aG
theorem aka{o:cV}:(uN φ o).owns=o.owns:=by cases o<;>rfl
end
def akb:Act:={tmps:= #[],defers:=[]}
def Lf(m:Mem)(fr:fL)(ρ:dg)(E:cF)(w:World):Prop:=Den m fr ρ ⟨λ_=> .any,E⟩ akb w
def rr(E:cF)(k:Key):Prop:=∃o,E k=some o
structure fC where
 f:FuncId
 args:List lB
 ins:List (Key×lW)
 res:lB
 outs:List (Key×lW)
def fC.wQ(s:fC)(ls:List D):List aS:=(rq ls s.args 0).1
def fC.nV(s:fC)(ls:List D):List (Key×cV):=(oE ls s.ins (rq ls s.args 0).2).1
def fC.Lg(s:fC)(ls:List D):aS:=(pA ls s.res 0).1
def fC.pB(s:fC)(ls:List D):List (Key×cV):=(oE ls s.outs (pA ls s.res 0).2).1
structure eB(P:Program)(G:dr)(s:fC)(F:List D->Option (List D)):Prop where
 fn:wc P s.f
 run:∀ls fx,F ls=some fx->∀(m:Mem)(fr:fL)(ρ:dg)(w:World)(vs:List Value),kB G m->Lf m fr ρ (fB (s.nV ls)) w->vs.length=(s.wQ ls).length->(∀(i:Nat)(x:aS)(v:Value),(s.wQ ls)[i]?=some x->vs[i]?=some v->b7 m ρ (rr (fB (s.nV ls))) x v)->Calls P s.f vs.toArray w λe w'=>∃v cI cX,e= .returned v/\m.le cI/\Lf cI fr cX (fB (s.pB fx)) w'/\b7 cI cX (rr (fB (s.pB fx))) (s.Lg fx) v/\ ∀k,10000<=k->e2 (fB (s.nV ls) k)->cX k=ρ k
def ru(ck:List (Key×Key))(base:Nat)(k:Key):Key:=if 10000<=k then gl ck k else base+(k-9000)
def wR(objs:cF)(dead:List Key)(outs:List (Key×cV)):cF:=λp=>match fB outs p with|some o=>some o|none=>if p∈dead then some .dead else objs p
def akc:lW->Bool
 | .row _=>true| .map=>true|_=>false
def YR(objs:cF)(ck:List (Key×Key))(base:Nat)(s:fC):Bool:=yn (gl ck) (s.ins.map (·.1))&&yn (ru ck base) (s.outs.map (·.1))&&decide ((s.ins.map (·.1)).Nodup)&&decide ((s.outs.map (·.1)).Nodup)&&s.outs.all (λp=>if 10000<=p.1 then s.ins.any (λq=>q.1==p.1&&BH q.2)else decide (9000<=p.1)&&decide (ru ck base p.1<10000)&&(objs (ru ck base p.1)).isNone)&&s.ins.all (λq=>if 10000<=q.1 then BH q.2&&s.outs.any (λp=>p.1==q.1&&BH p.2)else akc q.2&&decide (gl ck q.1<10000))
section
variable{β:Type}
def QV(G:dr)(s:fC)(F:List D->Option (List D))(base:Nat)(σ:aI)(o:Oper)(x:Operand)(args:List Operand)(k:aI->Option β):Option β:=match wh (cj G σ.aK x)with
 |some (f,pre,post)=>
  if f=s.f then
   let uy:=pre++args.map (cj G σ.aK)++post
   let ck:=BF σ s.ins (K5 uy s.args)
   let ks:=s.ins.map (·.1)
   if YR σ.objs ck base s=true then
    match uM (K8 ck ks uy s.args) (K9 ck ks σ s.ins)with|some ls=>aa (F ls) λfx=>k (aI.put ⟨σ.aK,wR σ.objs (ks.map (gl ck)) ((s.pB fx).map λp=>(ru ck base p.1,uN (ru ck base) p.2))⟩ o.dst (Fb (ru ck base) (s.Lg fx)))|none=>none
   else none
  else none
 |none=>none
end
section
variable{P:Program}{T:ch}{G:dr}{m:Mem}{fr:fL}{ρ:dg}{σ:aI}{a:Act}{w:World}{N:Nat}
def akd(c6:kB G m)(h:Den m fr ρ σ a w){o:Oper}{x:Operand}{args:Array Operand}{dJ:Array TypeId}(eI:o.op= .call ⟨.value x,args,dJ⟩){f:FuncId}{pre post:List aS}(gW:wh (cj G σ.aK x)=some (f,pre,post))(bd:wc P f): ∃vs:List Value,vs.length=(pre++args.toList.map (cj G σ.aK)++post).length/\(∀(i:Nat)(c:aS)(v:Value),(pre++args.toList.map (cj G σ.aK)++post)[i]?=some c->vs[i]?=some v->b7 m ρ σ.used c v)/\(execOp a.eval o).run P w= .ok (.enter f vs.toArray) w:=by
 have dA:=Ee (a:=a) c6 h.aK;have ag:=dA x;have PR:∃first cap,a.eval x= .func (.func f) first cap/\first.size=pre.length/\cap.size=post.length/\(∀(i:Nat)(c:aS)(v:Value),pre[i]?=some c->first[i]?=some v->b7 m ρ σ.used c v)/\(∀(i:Nat)(c:aS)(v:Value),post[i]?=some c->cap[i]?=some v->b7 m ρ σ.used c v):=by
  unfold wh at gW;split at gW
  .rename_i kG first cap he
   split at gW
   case isFalse=>cases gW
   rename_i au;cases gW;rw[he]at ag;exact⟨first,cap,ag.hX,by simpa using au.1,by simpa using au.2,by intro i c v ao;simp at ao,by intro i c v ao;simp at ao⟩
  .rename_i kG first cap he
   cases gW;rw[he]at ag;generalize a.eval x=u at ag;cases ag with|fn _ _ _ vs ws ar dv g lr=>exact⟨vs,ws,rfl,ar,dv,g,lr⟩
  .rename_i kG first cap he
   cases gW;rw[he]at ag;have ag:=ag.om;generalize a.eval x=u at ag;cases ag with|fn _ _ _ vs ws ar dv g lr=>
   refine⟨vs,ws,rfl,by simpa using ar,by simpa using dv,?_,?_⟩;.intro i c v ao a6;simp only[xaj,xah]at ao;obtain⟨y,aP,rfl⟩:=ao;exact .d _ _ (g i y v aP a6)
   intro i c v ao a6;simp only[xaj,xah]at ao;obtain⟨y,aP,rfl⟩:=ao;exact .d _ _ (lr i y v aP a6)
  .cases gW
 obtain⟨first,cap,vX,nI,qb,aV,a2⟩:=PR;refine⟨(first++args.map a.eval++cap).toList,by simp[nI,qb],?_,?_⟩
 .intro i c v ao a6;simp only[Array.toList_append,Array.toList_map]at a6;have aJ:first.toList.length=pre.length:=by simpa using nI
  by_cases ab:i<pre.length;.rw[xaO,xaL ab]at ao;rw[xaO,xaL (by omega)]at a6;exact aV i c v ao (by simpa using a6)
  by_cases af:i<pre.length+args.size;.rw[xaL (by simp;omega),xaJ (by omega)]at ao;rw[xaL (by simp;omega),xaJ (by omega),aJ]at a6;simp only[xaj,xah]at ao a6;obtain⟨p,aU,rfl⟩:=ao;obtain⟨q,bj,rfl⟩:=a6;rw[aU]at bj;cases bj;exact dA _
  rw[xaJ (by simp;omega)]at ao;rw[xaJ (by simp;omega)]at a6;refine a2 _ c v ao ?_;rw[<-a6];simp only[xaK,xaS,xce,nI];simp
 unfold execOp;rw[eI];simp only[Array.toArray_toList];exact Xf vX bd
def YS{φ:Key->Key}:∀{lo:List (Key×cV)} {p:Key} {o:cV},fB (lo.map λq=>(φ q.1,uN φ q.2)) p=some o->∃k dL,k∈mq lo/\φ k=p/\o=uN φ dL/\((mq lo).Nodup->fB lo k=some dL)
 |[],p,o,h=>by cases h
 |(j,x)::r,p,o,h=>by
  simp only[xaA,fB]at h;split at h;.rename_i e;cases h;exact⟨j,x,by simp[mq],e.symm,rfl,λ_=>by simp[fB]⟩
  obtain⟨k,dL,ab,af,aw,a5⟩:=YS h;refine⟨k,dL,?_,af,aw,?_⟩;.simp only[mq,xaA,xak]at ab⊢;exact .inr ab
  intro aL;simp only[mq,xaA,List.nodup_cons]at aL ab;have cR:k≠j:=by rintro rfl;exact aL.1 ab
  simp only[fB,xaa cR];exact a5 aL.2
def QW{φ:Key->Key}:∀{lo:List (Key×cV)} {k:Key},k∈mq lo->∃o,fB (lo.map λq=>(φ q.1,uN φ q.2)) (φ k)=some o
 |[],k,h=>by cases h
 |(j,x)::r,k,h=>by
  simp only[xaA,fB];split;.exact⟨_,rfl⟩
  rename_i cR;simp only[mq,xaA,xak]at h;rcases h with rfl|h
  .exact absurd rfl cR
  exact QW h
def YT{ls:List D}{l:List (Key×lW)}{n:Nat}{k:Key}(aL:(l.map (·.1)).Nodup){q:Key×lW}(bj:q∈l)(ak:q.1=k)(aj:BH q.2=true):e2 (fB (oE ls l n).1 k):=by obtain⟨a,b⟩:=q;simp only at ak aj;subst ak;exact QQ ls l n _ aL ⟨_,bj,aj⟩
def ake{φ:Key->Key}{U:Key->Prop}{o o':cV}(h:yl φ U o' o)(aj:e2 (some o)):e2 (some o'):=by
 cases o with
 |dead=>exact absurd aj Ez|box=>obtain⟨xs,rfl,_⟩:=h;exact uw
 |row=>obtain⟨es,rfl,_⟩:=h;exact sM
 |map=>cases o'<;>first|exact we|exact h.elim|cases h
def akf(c6:kB G m)(h:Den m fr ρ σ a w)(cc:N<=a.tmps.size)(hD:a.defers=[]){o:Oper}(g2:∀d,o.dst=some d->d<N){s:fC}{F:List D->Option (List D)}(bk:eB P G s F){base:Nat} {x:Operand} {args:Array Operand} {dJ:Array TypeId} (aG:o.op= .call ⟨.value x,args,dJ⟩) {β:Type} {k:aI->Option β} {b:β} (ao:QV G s F base σ o x args.toList k=some b) {Q:Exit->Act->World->Prop}:o.wp P a w (ja N m fr ρ σ (λaW=>k aW=some b/\∀p,10000<=p->e2 (aW.objs p)->e2 (σ.objs p))) Q:=by
 have iF:∀d,o.dst=some d->d<a.tmps.size:=λd aA=>Nat.lt_of_lt_of_le (g2 d aA) cc;have sN:∀v,N<=(a.put o.dst v).tmps.size:=by intro v;cases o.dst<;>simpa[Act.put]using cc
 have mm:∀v,(a.put o.dst v).defers=[]:=by intro v;cases o.dst<;>exact hD
 unfold QV at ao;split at ao
 case h_2=>cases ao
 rename_i f pre post gW;split at ao
 case isFalse=>cases ao
 rename_i bd;subst bd;simp only at ao;generalize aAr:BF σ s.ins (K5 (pre++args.toList.map (cj G σ.aK)++post) s.args)=ck at ao;generalize akg:pre++args.toList.map (cj G σ.aK)++post=uy at ao;split at ao
 case isFalse=>cases ao
 rename_i YU;split at ao
 case h_2=>cases ao
 rename_i ls QR;obtain⟨fx,hi,ak⟩:=fw ao;simp only[YR,xal,xaz,xaC]at YU;obtain⟨⟨⟨⟨⟨bP,b6⟩,cA⟩,dC⟩,eC⟩,eD⟩:=YU;obtain⟨an,ba,aJ,aZ,rfl⟩:=yy QR;have g4:lX (an++ba) 0 (an++ba):=λj d aN=>by rw[xaw];exact aN
 have QX:mq (s.nV (an++ba))=s.ins.map (·.1):=yz _ _ _;have QY:mq (s.pB fx)=s.outs.map (·.1):=yz _ _ _;have gS:∀k,(s.ins.map (·.1)).contains k=true->rr (fB (s.nV (an++ba))) k:=by intro k ak;exact La (by rw[QX];simpa using ak)
 obtain⟨bA,bB⟩:=QO gS aJ g4.left;have av:=g4.right;rw[<-bB]at av;obtain⟨cz,ey⟩:=QP gS aZ av;have cz:ym (gl ck) (rr (fB (s.nV (an++ba)))) σ (s.nV (an++ba)):=cz;have akh:∀k j,k∈s.ins.map (·.1)->j∈s.ins.map (·.1)->gl ck k=gl ck j->k=j:=KK bP;have YV:∀k j,k∈s.outs.map (·.1)->j∈s.outs.map (·.1)->ru ck base k=ru ck base j->k=j:=KK b6;have jD:∀{o o':cV},yl (gl ck) (rr (fB (s.nV (an++ba)))) o' o->o.owns=true->o'.owns=true:=by
  intro o o' hle aG;cases o with
  |dead=>cases aG
  |box=>obtain⟨xs,rfl,_⟩:=hle;rfl
  |row=>obtain⟨es,rfl,_⟩:=hle;rfl
  |map=>cases hle;rfl
 have QZ:∀{k o},fB (s.nV (an++ba)) k=some o->k∈s.ins.map (·.1):=λak=>by rw[<-QX];exact wB ak
 have aki:∀{k o},fB (s.pB fx) k=some o->k∈s.outs.map (·.1):=λak=>by rw[<-QY];exact wB ak
 let passed:Key->Prop:=λp=>∃k,k∈s.ins.map (·.1)/\gl ck k=p
 let Fc:Mem:=λb=>match fr b with|some o=>some o|none=>open Classical in if∃k o,σ.objs k=some o/\o.owns=true/\¬passed k/\blockOf (ρ k)=some b then w.heap[b]? else none
 let uO:fL:=⟨Fc,fr.os,fr.out,fr.low⟩
 have Lh:∀b o,fr b=some o->uO b=some o:=by intro b o aj;simp only[uO,Fc,aj]
 have Li:∀b k o,σ.objs k=some o->o.owns=true->¬passed k->blockOf (ρ k)=some b->uO b=w.heap[b]?:=by intro b k o ab af aw a5;have ca:=(h.own k o b ab af a5).2;simp only[uO,Fc,ca];rw[xad ⟨k,o,ab,af,aw,a5⟩]
 have YW:∀b,uO b≠none->fr b≠none\/∃k o,σ.objs k=some o/\o.owns=true/\¬passed k/\blockOf (ρ k)=some b:=by intro b aj;cases bd:fr b with|some o=>exact .inl (by simp)|none=>refine .inr ?_;refine xbC λyC=>aj ?_;simp only[uO,Fc,bd];rw[xaa yC]
 have EN:Lf m uO (λk=>ρ (gl ck k)) (fB (s.nV (an++ba))) w:=by
  refine⟨h.mem,⟨?_,⟨h.frame.quiet.os,h.frame.quiet.out,h.frame.quiet.low,h.frame.quiet.sy⟩⟩,?_,?_,λ_=> .any _,?_,?_,?_⟩
  .intro b o aj;cases bd:fr b with
   |some o'=>rw[Lh b o' bd]at aj;cases aj;exact h.frame.p9 b _ bd
   |none=>
    simp only[uO,Fc,bd]at aj;split at aj;.exact aj
    cases aj
  .intro b aj;refine xbC λyC=>?_;rcases YW b yC with ab|⟨k,o,ab,af,aw,a5⟩
   .exact ab (h.apart b aj)
   exact aj (h.own k o b ab af a5).1
  .rintro k ⟨o,mr⟩;obtain⟨o',ab,_⟩:=cz.ok k o mr;exact h.one _ ⟨o',ab⟩
  .intro k o mr;obtain⟨o',ab,af⟩:=cz.ok k o mr;have aw:=h.objs _ _ ab;cases o with
   |dead=>trivial|box dm=>obtain⟨xs,rfl,hle⟩:=af;obtain⟨b,vs,T,aJ,aZ,bN,cO⟩:=aw;have:=sR.cells hle ⟨bN,cO⟩;exact⟨b,vs,T,aJ,aZ,this.1,this.2⟩
   |row cU dh=>obtain⟨es,rfl,hle⟩:=af;exact hle.ok aw
   |map es=>cases af;exact aw
  .intro k o b mr KL aj;obtain⟨o',ab,af⟩:=cz.ok k o mr;have aw:=h.own _ o' b ab (jD af KL) aj;refine⟨aw.1,?_⟩;refine xbC λyC=>?_;rcases YW b yC with a5|⟨bs,kI,a5,ca,cP,gE⟩
   .exact a5 aw.2
   have cR:gl ck k≠bs:=by rintro rfl;exact cP ⟨k,QZ mr,rfl⟩
   exact h.sep _ _ _ _ b cR ab a5 (jD af KL) ca aj gE
  intro k bs o o' b cR mr EP P7 P8 aj;obtain⟨y,ab,af⟩:=cz.ok k o mr;obtain⟨Pt,e7,h5⟩:=cz.ok bs o' EP;exact h.sep (gl ck k) (gl ck bs) y Pt b (λe=>cR (akh k bs (QZ mr) (QZ EP) e)) ab e7 (jD af P7) (jD h5 P8) aj
 obtain⟨vs,v1,v2,BK⟩:=akd (P:=P) c6 h aG gW bk.fn;rw[akg]at v1 v2;obtain⟨j0,kF⟩:=bA.ok;have sP:=bk.run _ _ hi m uO _ w vs c6 EN (v1.trans j0.symm) (by intro i y v aP a6;obtain⟨YX,akj,hle⟩:=kF i y aP;exact hle.ok (v2 i YX v akj a6))
 unfold Oper.wp;rw[BK];refine sP.mono λe w' he=>?_;obtain⟨v,cI,cX,rfl,uP,lY,Bt,Q0⟩:=he;generalize YY:ru ck base=φ at*
 let uQ:=(s.pB fx).map λp=>(φ p.1,uN φ p.2)
 let objs':=wR σ.objs ((s.ins.map (·.1)).map (gl ck)) uQ
 let lq:dg:=λp=>match(s.outs.map (·.1)).find? (λk=>φ k==p)with|some k=>cX k|none=>ρ p
 have Q1:∀k,k∈s.outs.map (·.1)->lq (φ k)=cX k:=by intro k ak;simp only[lq];cases s3:(s.outs.map (·.1)).find? (λbs=>φ bs==φ k)with|none=>exact absurd (List.find?_eq_none.1 s3 k ak) (by simp)|some bs=>have ab:=List.find?_some s3;simp only[xbz]at ab;rw[YV bs k (List.mem_of_find?_eq_some s3) ak ab]
 have Q2:∀k,k∈s.outs.map (·.1)->(10000<=k/\k∈s.ins.map (·.1)/\φ k=gl ck k/\e2 (fB (s.nV (an++ba)) k))\/(σ.objs (φ k)=none/\φ k<10000):=by
  intro k ak;obtain⟨p,aU,rfl⟩:=xax.1 ak;have ab:=eC p aU;by_cases cu:10000<=p.1
  .rw[xad cu]at ab;obtain⟨q,bj,af⟩:=xbs.1 ab;simp only[xal,xbz]at af;refine .inl ⟨cu,xax.2 ⟨q,bj,af.1⟩,?_,YT cA bj af.1 af.2⟩;rw[<-YY];simp only[ru,xad cu]
  rw[xaa cu]at ab;simp only[xal,xaC,Option.isNone_iff_eq_none]at ab;exact .inr ⟨ab.2,ab.1.2⟩
 have Lj:∀p,σ.used p->lq p=ρ p:=by
  rintro p ⟨op,aU⟩;simp only[lq];cases s3:(s.outs.map (·.1)).find? (λbs=>φ bs==p)with
  |none=>rfl
  |some k=>
   have ab:=List.find?_some s3;simp only[xbz]at ab;rcases Q2 k (List.mem_of_find?_eq_some s3)with⟨af,aw,a5,ca⟩|⟨af,_⟩
   .simp only;rw[Q0 k af ca,<-a5,ab]
   rw[ab,aU]at af;cases af
 have Fe:∀p op,fB uQ p=some op->∃k dL,k∈s.outs.map (·.1)/\φ k=p/\op=uN φ dL/\fB (s.pB fx) k=some dL:=by intro p op aU;obtain⟨k,dL,ab,af,aw,a5⟩:=YS aU;rw[QY]at ab a5;exact⟨k,dL,ab,af,aw,a5 dC⟩
 have YZ:∀k,rr (fB (s.pB fx)) k->rr objs' (φ k)/\lq (φ k)=cX k:=by rintro k ⟨dL,ab⟩;refine⟨?_,Q1 k (aki ab)⟩;obtain⟨gb,af⟩:=QW (φ:=φ) (wB ab);exact⟨gb,by simp only[objs',wR,uQ,af]⟩
 have Y0:∀p,σ.used p->rr objs' p/\lq p=ρ p:=by
  rintro p ⟨op,aU⟩;refine⟨?_,Lj p ⟨op,aU⟩⟩;unfold rr;simp only[objs',wR];cases ar:fB uQ p with
  |some gb=>exact⟨gb,rfl⟩
  |none=>
   simp only;split;.exact⟨_,rfl⟩
   exact⟨op,aU⟩
 have Ff:∀p op,objs' p=some op->op.owns=true->(∃k dL,φ k=p/\op=uN φ dL/\fB (s.pB fx) k=some dL/\lq p=cX k/\dL.owns=true)\/(σ.objs p=some op/\¬passed p/\lq p=ρ p):=by
  intro p op aU eI;simp only[objs',wR]at aU;cases ar:fB uQ p with
  |some gb=>rw[ar]at aU;cases aU;obtain⟨k,dL,ab,af,aw,a5⟩:=Fe p op ar;refine .inl ⟨k,dL,af,aw,a5,?_,by rw[aw,aka]at eI;exact eI⟩;rw[<-af];exact Q1 k ab
  |none=>
   rw[ar]at aU;simp only at aU;split at aU;.cases aU;cases eI
   rename_i aL;refine .inr ⟨aU,?_,Lj p ⟨op,aU⟩⟩;rintro⟨k,ak,rfl⟩;exact aL (xax.2 ⟨k,ak,rfl⟩)
 have akk:Den cI fr lq ⟨σ.aK,objs'⟩ a w':=by
  refine⟨lY.mem,⟨λb hA aj=>lY.frame.p9 b hA (Lh b hA aj),⟨lY.frame.quiet.os,lY.frame.quiet.out,lY.frame.quiet.low,lY.frame.quiet.sy⟩⟩,?_,?_,?_,?_,?_,?_⟩;.intro b aj;have ab:=lY.apart b aj;cases bd:fr b with|none=>rfl|some hA=>rw[Lh b hA bd]at ab;cases ab
  .rintro p ⟨op,aU⟩;simp only[objs',wR]at aU;cases ar:fB uQ p with
   |some gb=>obtain⟨k,dL,ab,af,aw,a5⟩:=Fe p gb ar;rw[<-af,Q1 k ab];exact lY.one k ⟨dL,a5⟩
   |none=>
    rw[ar]at aU;simp only at aU;have hu:σ.used p:=by
     split at aU;.rename_i hm;obtain⟨k,ak,rfl⟩:=xax.1 hm;obtain⟨ok,akl⟩:=La (lo:=s.nV (an++ba)) (k:=k) (by rw[QX];exact ak);obtain⟨o',ab,_⟩:=cz.ok k ok akl;exact⟨o',ab⟩
     exact⟨op,aU⟩
    rw[Lj p hu];exact h.one p hu
  .intro t;exact(h.aK t).mono uP Y0
  .intro p op aU;by_cases eI:op.owns=true
   .rcases Ff p op aU eI with⟨k,dL,ab,af,aw,a5,ca⟩|⟨ab,af,aw⟩;.rw[af,a5];exact aj9 YZ (lY.objs k dL aw)
    rw[aw];refine(h.objs p op ab).mono uP Y0 ?_;intro b pg kY;have a5:=Li b p op ab eI af kY;have ca:∃hA,w.heap[b]?=some hA:=⟨_,xap ((h.objs p op ab).uk pg kY)⟩;obtain⟨hA,ca⟩:=ca;rw[ca];exact lY.frame.p9 b hA (by rw[a5,ca])
   cases op with|dead=>trivial|_=>exact absurd rfl eI
  .intro p op b aU eI aj;rcases Ff p op aU eI with⟨k,dL,ab,af,aw,a5,ca⟩|⟨ab,af,aw⟩
   .rw[a5]at aj;have cP:=lY.own k dL b aw ca aj;refine⟨cP.1,?_⟩;cases bd:fr b with|none=>rfl|some hA=>rw[Lh b hA bd]at cP;cases cP.2
   rw[aw]at aj;have a5:=h.own p op b ab eI aj;refine⟨?_,a5.2⟩;refine xbC λyC=>?_;have ca:=lY.apart b yC;rw[Li b p op ab eI af aj]at ca;have:=(h.objs p op ab).uk eI aj;rw[xap this]at ca;cases ca
  intro p oq op Fg b cR aU yD eI Fh aj;rcases Ff p op aU eI with⟨k,dL,ab,af,aw,a5,ca⟩|⟨ab,af,aw⟩
  .rw[a5]at aj;rcases Ff oq Fg yD Fh with⟨bs,E9,e7,h5,iS,qp,yE⟩|⟨e7,h5,iS⟩
   .rw[qp];exact lY.sep k bs dL E9 b (by rintro rfl;exact cR (ab.symm.trans e7)) aw iS ca yE aj
   rw[iS];intro g0;have cP:=(lY.own k dL b aw ca aj).2;rw[Li b oq Fg e7 Fh h5 g0]at cP;have:=(h.objs oq Fg e7).uk Fh g0;rw[xap this]at cP;cases cP
  rw[aw]at aj;rcases Ff oq Fg yD Fh with⟨bs,E9,e7,h5,iS,qp,yE⟩|⟨e7,h5,iS⟩
  .rw[qp];intro g0;have cP:=(lY.own bs E9 b iS yE g0).2;rw[Li b p op ab eI af aj]at cP;have:=(h.objs p op ab).uk eI aj;rw[xap this]at cP;cases cP
  rw[iS];exact h.sep p oq op Fg b cR ab e7 eI Fh aj
 have mY:b7 cI lq (rr objs') (Fb φ (s.Lg fx)) v:=YQ YZ Bt;have KC:∀p,10000<=p->e2 (objs' p)->e2 (σ.objs p):=by
  intro p aU hL;simp only[objs',wR]at hL;cases ar:fB uQ p with
  |some gb=>
   obtain⟨k,dL,aV,a2,bb,cS⟩:=Fe p gb ar;rcases Q2 k aV with⟨af,aw,a5,ca⟩|⟨_,af⟩;.obtain⟨a8,cP⟩:=Bh ca;obtain⟨o',gE,hZ⟩:=cz.ok k _ cP;rw[cP]at ca;rw[<-a2,a5,gE];exact ake hZ ca
   rw[a2]at af;exact absurd af (Nat.not_lt.2 aU)
  |none=>
   rw[ar]at hL;simp only at hL;split at hL;.exact absurd hL Ez
   exact hL
 refine⟨_,cI,lq,⟨ak,by rw[aI.wg];exact KC⟩,uP,akk.put mY iF,sN v,mm v,?_⟩;intro p aU aj;rw[aI.wg];obtain⟨cs,hL⟩:=Bh aj;refine⟨?_,Lj p ⟨_,hL⟩⟩;show e2 (objs' p);simp only[objs',wR];by_cases Q3:p∈(s.ins.map (·.1)).map (gl ck)
 .obtain⟨k,yG,rfl⟩:=xax.1 Q3;obtain⟨q,bj,rfl⟩:=xax.1 yG;have ab:=eD q bj;by_cases a5:10000<=q.1
  .rw[xad a5]at ab;simp only[xal,xbs,xbz]at ab;obtain⟨_,oq,yD,ca,cP⟩:=ab;have wS:q.1∈s.outs.map (·.1):=xax.2 ⟨oq,yD,ca⟩;have akm:φ q.1=gl ck q.1:=by rw[<-YY];simp only[ru,xad a5]
   obtain⟨gb,gE⟩:=QW (φ:=φ) (lo:=s.pB fx) (k:=q.1) (by rw[QY];exact wS);obtain⟨k,dL,aV,a2,bb,cS⟩:=Fe _ gb gE;have dk:k=q.1:=YV k q.1 aV wS a2;subst dk;have hr:e2 (fB (s.pB fx) q.1):=YT (ls:=fx) (n:=(pA fx s.res 0).2) dC yD ca cP;rw[cS]at hr;rw[<-akm];have rv:fB uQ (φ q.1)=some gb:=gE;rw[rv,bb];rcases hr with⟨aAs,hr⟩|⟨nW,akn,hr⟩|⟨akn,hr⟩
   .cases hr;exact uw
   .cases hr;exact sM
   cases hr;exact we
  rw[xaa a5]at ab;simp only[xal,xaC]at ab;exact absurd ab.2 (Nat.not_lt.2 aU)
 cases ar:fB uQ p with
 |some gb=>
  exfalso;obtain⟨k,dL,aV,a2,bb,cS⟩:=Fe p gb ar;rcases Q2 k aV with⟨af,aw,a5,ca⟩|⟨af,_⟩
  .exact Q3 (xax.2 ⟨k,aw,by rw[<-a5,a2]⟩)
  rw[a2,hL]at af;cases af
 |none=>simp only;rw[xaa Q3];exact aj
end
structure BL where
 s:fC
 F:List D->Option (List D)
 base:Nat
 pz:List wL
abbrev wT:=Tmp->Option BL
def k5(P:Program)(G:dr)(H:wT):Prop:=∀t e,H t=some e->eB P G e.s e.F
def Lk:aS->List Key
 | .row k=>[k]| .map k=>[k]|_=>[]
def Ll:aS->List Key
 | .agg cs=>cs.flatMap Lk| .fn _ as ki=>as.flatMap Lk++ki.flatMap Lk|x=>Lk x
def Lm:aS->List Key
 | .ptr k _=>[k]|_=>[]
def Y1:aS->List Key
 | .agg cs=>cs.flatMap Lm| .fn _ as ki=>as.flatMap Lm++ki.flatMap Lm|x=>Lm x
def Y2(objs:cF)(k:Key):List aS:=match objs k with|some (.box cs)=>cs|_=>[]
section
variable{β:Type}
def Y3(T:ch)(G:dr)(C:lU)(σ:aI)(o:Oper)(x:Operand)(args:List Operand)(k:aI->Option β):Option β:=
 let uy:=(x::args).map (cj G σ.aK)
 let dP:=uy.flatMap Y1
 let bP:=dP.flatMap (Y2 σ.objs)
 let gw:=bP.flatMap Y1
 let b6:=gw.flatMap (Y2 σ.objs)
 yB [uy.flatMap Ll++bP.flatMap Ll++b6.flatMap Ll,gw,dP] σ λσ=>ys T G C σ o x args k
def Y4(o:Oper):Tmp:=match o.op,o.dst with| .store _ (.tmp a) _,_=>20000+a| .mapUpdate _ (.tmp a) _ _,_=>30000+a|_,some d=>d|_,none=>9999
def ako:Op->List Operand
 | .buildSlice _ _ j1=>j1.toList.map (·.2)| .build _ j1=>j1.toList.map (·.2)| .box _ x=>[x]| .store _ _ x=>[x]| .mapUpdate _ _ _ x=>[x]| .call ⟨.builtin .append,args,_⟩=>args.toList.drop 1|_=>[]
def BM:D->Option (TypeId×D)
 | .dX t x=>some (t,x)|_=>none
def gG{ek:Type}(t c:Nat)(a b:Option ek):Option ek:=if t=c then a else b
def Ln(qY:TypeId->Option FuncId)(t:TypeId)(k:FuncId->Option D):List TypeId->Option D
 |[]=>none|c::r=>gG t c (match qY c with|some f=>k f|none=>none) (Ln qY t k r)
def Q4(T:ch)(G:dr)(C:lU)(σ:aI)(o:Oper)(x:Operand)(name:String)(args:List Operand)(k:aI->Option β):Option β:=match cj G σ.aK x with
 | .d a=>match hC ((args.map (cj G σ.aK)).map (toD σ.objs))with|some aO=>aa (BM a) λp=>aa (Ln (λt=>T.qY t name) p.1 (λf=>C (o.dst.getD 9999) f (p.2::aO)) T.Pc) λr=>aB ((args.map (cj G σ.aK)).all sO) (k (σ.put o.dst (.d r)))|none=>none
 |_=>none
def Q5(T:ch)(G:dr)(C:lU)(H:wT)(ko:Tmp->Bool)(σ:aI)(o:Oper)(k:aI->Option β):Option β:=match o.op with
 | .call ⟨.value x,args,_⟩=>match H (o.dst.getD 9999)with
  |some e=>oF e.pz σ λσ=>QV G e.s e.F e.base σ o x args.toList λaW=>match ko (o.dst.getD 9999)with|true=>Fa (o.dst.getD 9999) aW k|false=>k aW
  |none=>match ko (o.dst.getD 9999)with|true=>Y3 T G C σ o x args.toList k|false=>ys T G C σ o x args.toList k
 | .call ⟨.invoke x name,args,_⟩=>Q4 T G C σ o x name args.toList k| .slice _ _ _ _ _=>match ko (Y4 o)with|true=>uK T G σ o λaW=>Fa (o.dst.getD 9999) aW k|false=>uK T G σ o k
 |_=>match ko (Y4 o)with|true=>yB [((ako o.op).map (cj G σ.aK)).flatMap Ll] σ λσ=>uK T G σ o k|false=>uK T G σ o k
def Q6(T:ch)(G:dr)(C:lU)(H:wT)(ko:Tmp->Bool):List Oper->aI->(aI->Option β)->Option β
 |[],σ,k=>k σ|o::r,σ,k=>Q5 T G C H ko σ o λaW=>Q6 T G C H ko r aW k
def Q7(o:Oper):Bool:=still o||qg o.op
def yH(T:ch)(G:dr)(C:lU)(H:wT)(ko:Tmp->Bool)(all:Array Oper):List (Option (Nat×Bool)×List Oper)->aI->(aI->Option β)->Option β
 |[],σ,k=>k σ|(none,os)::r,σ,k=>Q6 T G C H ko os σ λaW=>yH T G C H ko all r aW k
 |(some (j,want),os)::r,σ,k=>match(all[j]?).bind (·.dst),wI os with
  |some d,some cb=>match σ.aK d with
   | .d x=>if os.all (λo=>Q7 o&&o.dst !=some d)=true then
     (if(kept all os (flat r)).all (·==cb)=true then
      aa (bL x want (sX T G C os σ λaW=>match aW.aK cb with| .d v=>some v|_=>none)) λv=>yH T G C H ko all r ((lV (dstsOf os) σ).put (some cb) (.d v)) k
     else aa (bL x want (sX T G C os σ λaW=>match E0 aW (kept all os (flat r))with|some l=>some (.agg l)|none=>none)) λv=>yH T G C H ko all r (wJ (kept all os (flat r)) v (lV (dstsOf os) σ)) k)else none
   |_=>none
  |_,_=>none
def Y5(T:ch)(G:dr)(C:lU)(H:wT)(ko:Tmp->Bool)(all:Array Oper)(σ:aI)(k:aI->Option β):Option β:=yH T G C H ko all (wG all.toList) σ k
end
def BN{objs:cF}{k d:Key}{o:cV}(h:e2 (some o)->e2 (objs k)\/k=d):∀j,e2 (cv objs k (some o) j)->e2 (objs j)\/j=d:=by
 intro j aN;by_cases gC:j=k;.subst gC;rw[fb]at aN;exact h aN
 rw[cZ _ _ gC]at aN;exact .inl aN
def akp{T:ch}{ev:Operand->aS}{objs:cF}{d:Key}{o:Op}{r:aS}{cC:List (Key×cV)}(h:et T ev objs d o=some (r,cC)):∀j,e2 (dI objs cC j)->e2 (objs j)\/j=d:=by
 have new:∀{o:cV},∀j,e2 (dI objs [(d,o)] j)->e2 (objs j)\/j=d:=by intro o;exact BN (λ_=> .inr rfl)
 have row:∀{k:Key}{n fS:Nat}{es hc:List (List D)},objs k=some (.row fS hc)->∀j,e2 (dI objs [(k,.row n es)] j)->e2 (objs j)\/j=d:=by intro k n fS es hc ak;exact BN (λ_=> .inl (by rw[ak];exact sM))
 have mp:∀{k:Key}{es hc:List (Value×D)},objs k=some (.map hc)->∀j,e2 (dI objs [(k,.map es)] j)->e2 (objs j)\/j=d:=by intro k es hc ak;exact BN (λ_=> .inl (by rw[ak];exact we))
 cases o<;>simp only[et,reduceCtorEq]at h
 case alloc=>split at h<;>cases h;exact new
 case box=>split at h<;>cases h;exact new
 case buildSlice=>
  split at h
  case h_2=>cases h
  split at h
  case h_2=>cases h
  split at h
  case h_2=>cases h
  split at h<;>cases h;exact new
 case makeSlice=>
  split at h
  case h_2=>cases h
  split at h
  case h_2=>cases h
  split at h
  case h_2=>cases h
  split at h<;>cases h;exact new
 case makeMap=>split at h<;>cases h;exact new
 case store=>
  split at h
  case h_2=>cases h
  split at h
  case isFalse=>cases h
  split at h
  .split at h
   case h_2=>cases h
   split at h<;>cases h;rename_i ak _;exact BN λ_=> .inl (by rw[ak];exact uw)
  .split at h
   case h_2=>cases h
   split at h
   case isFalse=>cases h
   split at h<;>cases h;exact row (by assumption)
  cases h
 case mapUpdate=>
  split at h
  case h_2=>cases h
  split at h
  case h_2=>cases h
  split at h
  case isFalse=>cases h
  split at h
  case h_2=>cases h
  split at h
  case h_2=>cases h
  split at h<;>cases h;exact mp (by assumption)
 case insert=>
  split at h
  case h_2=>cases h
  split at h
  case h_2=>cases h
  split at h
  case isFalse=>cases h
  split at h
  case h_2=>cases h
  split at h
  case h_2=>cases h
  split at h<;>cases h;exact mp (by assumption)
 case call=>
  split at h
  .split at h
   case h_2=>cases h
   split at h
   case h_2=>cases h
   split at h
   case h_2=>cases h
   split at h
   case h_2=>cases h
   split at h
   case isFalse=>cases h
   split at h;.split at h<;>cases h;exact new
   .split at h
    case h_2=>cases h
    split at h<;>cases h;intro j aN;rcases BN (d:=d) (λ_=> .inr rfl) j aN with ab|ab
    .exact BN (λh=>absurd h Ez) j ab
    exact .inr ab
   cases h
  .split at h
   case h_2=>cases h
   split at h
   case h_2=>cases h
   split at h
   case h_2=>cases h
   split at h
   case h_2=>cases h
   split at h
   case isFalse=>cases h
   split at h
   .split at h
    case h_2=>cases h
    split at h<;>cases h;exact row (by assumption)
   .split at h
    case h_2=>cases h
    split at h<;>cases h;exact row (by assumption)
   cases h
  .split at h
   case h_2=>cases h
   split at h
   case h_2=>cases h
   split at h
   case h_2=>cases h
   split at h
   case h_2=>cases h
   split at h
   case h_2=>cases h
   split at h<;>cases h;exact row (by assumption)
  cases h
def akq{T:ch}{ev:Operand->aS}{objs:cF}{d:Key}{o:Op}{r:aS}{cC:List (Key×cV)}(h:hg T ev objs d o=some (r,cC)):∀j,e2 (dI objs cC j)->e2 (objs j)\/j=d:=by
 obtain⟨⟨jH,sK⟩,au,aj⟩:=wb h;have ab:=akp au;intro j aN;by_cases aA:j=d
 .exact .inr aA
 rcases x9 (T.born d) d jH sK with e|⟨n,es,rfl,rfl,e⟩|⟨dn,n,es,rfl,rfl,e⟩|⟨off,cs,aO,rfl,rfl,e1,e⟩;.rw[aj]at e;cases e;exact ab j aN
 .rw[aj]at e;cases e;exact ab j (by simp only[dI,cZ _ _ aA]at aN⊢;exact aN)
 .rw[aj]at e;cases e;exact ab j (by simp only[dI,cZ _ _ aA]at aN⊢;exact aN)
 rw[aj]at e;cases e;exact ab j (by simp only[dI,cZ _ _ aA]at aN⊢;exact aN)
section
variable{P:Program}{T:ch}{G:dr}{N:Nat}{σ:aI}{all:Array Oper}{ib:List Key}
def fP.put(h:fP ib σ){dst:Option Tmp}{r:aS}:fP ib (σ.put dst r):=by intro k ak aj;rw[aI.wg]at aj;exact h k ak aj
def Q8(bO:fP ib σ){o:Oper}(aA:∀d,o.dst=some d->d<10000){aW:aI}(h:g1 T G σ o=some aW):fP ib aW:=by
 unfold g1 at h;split at h;.cases h;exact bO.put
 split at h;.cases h;exact bO.put
 split at h
 case h_2=>cases h
 rename_i r cC he;cases h;refine fP.put ?_;intro k ak aj;rcases akq he k aj with ab|ab
 .exact bO k ak ab
 exfalso;have:o.dst.getD 9999<10000:=by cases aG:o.dst with|none=>simp|some d=>exact aA d aG
 exact absurd this (Nat.not_lt.2 (ab▸ak))
def Y6(bO:fP ib σ){o:Oper}(aA:∀d,o.dst=some d->d<10000){K:aI->Prop}(h:dc P T G o K σ):dc P T G o (λaW=>fP ib aW/\K aW) σ:=by
 unfold dc at*;split;.rename_i aW aH;simp only[aH]at h;exact⟨Q8 bO aA aH,h⟩
 rename_i aH;simp only[aH]at h;unfold jI at*;split at h
 case h_2=>cases h
 split at h
 case h_2=>cases h
 obtain⟨nq,aO,R,ab,af,aw,a5,ca,cP⟩:=h;exact⟨nq,aO,R,ab,af,aw,a5,ca,λr av=>⟨bO.put,cP r av⟩⟩
def Q9:∀{l:List Oper}{σ:aI}{K:aI->Prop},fP ib σ->(∀o∈l,∀d,o.dst=some d->d<10000)->fT P T G all l K σ->fT P T G all l (λaW=>fP ib aW/\K aW) σ
 |[],σ,K,bO,_,h=>⟨bO,h⟩|o::l,σ,K,bO,aA,h=>by unfold fT at*;rw[hM]at*;cases hw:j2 all σ o with|none=>rw[hw]at h;exact h|some w=>rw[hw]at h;cases w with|true=>exact qj (λaW ⟨ab,af⟩=>Q9 ab (λo aG=>aA o (by simp[aG])) af) (Y6 bO (aA o (by simp)) h)|false=>exact Q9 bO.put (λo aG=>aA o (by simp[aG])) h
end
section
variable{P:Program}{T:ch}{G:dr}{C:lU}{H:wT}{ko:Tmp->Bool}{N:Nat}{σ:aI}{all:Array Oper}{ib:List Key}
def oI(P:Program)(G:dr)(N:Nat)(all:Array Oper)(i:Nat)(l:List Oper)(K:aI->Prop)(σ:aI):Prop:= ∀m fr ρ a w (Q:Exit->Act->World->Prop),kB G m->Den m fr ρ σ a w->N<=a.tmps.size->a.defers=[]->(∀cD w',ja N m fr ρ σ K cD w'->Q .normal cD w')->wpOps P all Q (List.range' i l.length) a w
def jr(P:Program)(G:dr)(N:Nat)(o:Oper)(K:aI->Prop)(σ:aI):Prop:= ∀m fr ρ a w (Q:Exit->Act->World->Prop),kB G m->Den m fr ρ σ a w->N<=a.tmps.size->a.defers=[]->o.wp P a w (ja N m fr ρ σ K) Q
def akr{i:Nat}{K:aI->Prop}(h:K σ):oI P G N all i [] K σ:=λm fr ρ a w Q c6 c2 cc aA hp=>hp a w ⟨σ,m,ρ,h,Mem.le_refl m,c2,cc,aA,k0.refl _ _⟩
def aks{i:Nat}{o:Oper}{l:List Oper}{K:aI->Prop}(ah:all[i]?=some o)(b8:o.guard=none)(h:jr P G N o (oI P G N all (i+1) l K) σ):oI P G N all i (o::l) K σ:=by
 intro m fr ρ a w Q c6 c2 cc aA hp;rw[xao,List.range'_succ,wpOps_cons];refine wpOp_mono (K:=ja N m fr ρ σ (oI P G N all (i+1) l K)) ?_ ?_;.rintro cD w' ⟨aW,cI,cX,bA,bB,cz,ey,fk,hh⟩;exact bA cI fr cX cD w' Q (c6.mono bB) cz ey fk λpq k1 av=>hp pq k1 (av.trans bB hh)
 unfold wpOp;simp only[ah];have:Region.wanted o (yielded all a.tmps)=true:=by simp[Region.wanted,b8]
 rw[xad this];exact .inl (h m fr ρ a w Q c6 c2 cc aA)
def jr.mono{o:Oper}{K K':aI->Prop}(ak:∀σ,K σ->K' σ)(h:jr P G N o K σ):jr P G N o K' σ:=λm fr ρ a w Q c6 c2 cc aA=>by
  have:=h m fr ρ a w Q c6 c2 cc aA;unfold Oper.wp at*;generalize (execOp a.eval o).run P w=r at*;cases r with
  |ok n w'=>
   cases n<;>simp only[Oper.upon]at this⊢<;>first|exact this.mono ak|exact this|skip
   .refine this.mono λe k1 he=>?_;cases e with|returned v=>exact he.mono ak|panicked c=>exact he|outgrown=>exact he
   exact this.mono λv k1 he=>he.mono ak
  |halt x w'=>cases x<;>exact this
def jr.E1{o:Oper}{K:aI->Prop}{τ:aI}(he:g3 σ τ)(h:jr P G N o K τ):jr P G N o K σ:=by
 intro m fr ρ a w Q c6 c2 cc aA;obtain⟨cI,cX,ab,af,aw⟩:=he m fr ρ a w c2;have:=h cI fr cX a w Q (c6.mono ab) af cc aA;unfold Oper.wp at*;generalize (execOp a.eval o).run P w=r at*;cases r with
 |ok n w'=>
  cases n<;>simp only[Oper.upon]at this⊢<;>first|exact this.trans ab aw|exact this|skip
  .refine this.mono λe k1 he=>?_;cases e with|returned v=>exact he.trans ab aw|panicked c=>exact he|outgrown=>exact he
  exact this.mono λv k1 he=>he.trans ab aw
 |halt x w'=>cases x<;>exact this
def Ra(bf:dN P T){o:Oper}(g2:∀d,o.dst=some d->d<N){K:aI->Prop}(h:dc P T G o K σ):jr P G N o K σ:=λm fr ρ a w Q c6 c2 cc aA=>PU bf c6 c2 cc aA g2 h
def akt{ks:List Key}(h:fP ib σ):fP ib (freeze ks σ):=by
 intro k ak aj;have g0:e2 (if k∈ks then some .dead else(σ.objs k).map (E8 σ.objs ks)):=aj;split at g0
 .exact absurd g0 Ez
 cases aG:σ.objs k with|none=>rw[aG]at g0;exact absurd g0 ux|some dL=>rw[aG]at g0;cases dL with|box cs=>exact h k ak (by rw[aG];exact uw)|dead=>exact absurd g0 Ez|row=>exact h k ak (by rw[aG];exact sM)|map=>exact h k ak (by rw[aG];exact we)
def Fi{β:Type}:∀{l:List (List Key)} {σ:aI} {k:aI->Option β} {b:β},fP ib σ->yB l σ k=some b->∃τ,g3 σ τ/\fP ib τ/\k τ=some b
 |[],σ,k,b,bO,h=>⟨σ,g3.refl σ,bO,h⟩
 |ks::r,σ,k,b,bO,h=>by
  unfold yB at h;split at h;.exact Fi bO h
  split at h
  case isFalse=>cases h
  rename_i eO;obtain⟨τ,ab,af,aw⟩:=Fi (akt bO) h;exact⟨τ,(aj5 _ eO).trans ab,af,aw⟩
def Y7{β:Type}{t:Tmp}{σ:aI}{k:aI->Option β}{b:β}(bO:fP ib σ)(h:Fa t σ k=some b):∃τ,g3 σ τ/\fP ib τ/\k τ=some b:=by
 unfold Fa at h;split at h
 case h_2=>cases h
 rename_i key cU i len aM;split at h
 case h_2=>cases h
 rename_i bs es ak au;split at h
 case isFalse=>cases h
 rename_i dk;obtain⟨dk,oH,oC⟩:=dk;subst dk;obtain⟨ab,af⟩:=lv h;refine⟨_,aj6 aM ak au (xba ab) oH,?_,af⟩;intro j aN ao;simp only at ao;by_cases aw:j=t;.subst aw;exact absurd oC (Nat.not_lt.2 aN)
 rw[cZ _ _ aw]at ao;by_cases a5:j=key;.subst a5;exact absurd oH (Nat.not_lt.2 aN)
 rw[cZ _ _ a5]at ao;exact bO j aN ao
def jr.out{o:Oper}{K:aI->Prop}(h:jr P G N o (λaW=>∃τ,g3 aW τ/\K τ) σ):jr P G N o K σ:=λm fr ρ a w Q c6 c2 cc aA=>by
  have key:∀{cD w'},ja N m fr ρ σ (λaW=>∃τ,g3 aW τ/\K τ) cD w'->ja N m fr ρ σ K cD w':=by rintro cD w' ⟨aW,cI,cX,⟨τ,aV,a2⟩,af,aw,a5,ca,cP⟩;obtain⟨yh,yi,aJ,aZ,bN⟩:=aV cI fr cX cD w' aw;exact⟨τ,yh,yi,a2,Mem.le_trans af aJ,aZ,a5,ca,cP.trans bN⟩
  have:=h m fr ρ a w Q c6 c2 cc aA;unfold Oper.wp at*;generalize (execOp a.eval o).run P w=r at*;cases r with
  |ok n w'=>
   cases n<;>simp only[Oper.upon]at this⊢<;>first|exact key this|exact this|skip
   .refine this.mono λe k1 he=>?_;cases e with|returned v=>exact key he|panicked c=>exact he|outgrown=>exact he
   exact this.mono λv k1 he=>key he
  |halt x w'=>cases x<;>exact this
def Y8{β:Type}(bf:dN P T)(cf:hs P G C){o:Oper}(g2:∀d,o.dst=some d->d<N){x:Operand}{args:Array Operand}{dJ:Array TypeId}(aG:o.op= .call ⟨.value x,args,dJ⟩){k:aI->Option β}{b:β}(bO:fP ib σ) (h:ys T G C σ o x args.toList k=some b):jr P G N o (λaW=>k aW=some b/\fP ib aW) σ:=by refine Ra bf g2 (qj ?_ (K4 (T:=T) cf aG h));rintro aW ⟨ab,af,_⟩;refine⟨ab,λj aN aj=>bO j aN (by rw[<-af];exact aj)⟩
def Y9{qY:TypeId->Option FuncId}{t:TypeId}{k:FuncId->Option D}{r:D}:∀{l:List TypeId},Ln qY t k l=some r->∃f,qY t=some f/\k f=some r
 |[],h=>by cases h
 |c::l,h=>by
  unfold Ln gG at h;split at h
  .rename_i ao;subst ao;split at h;.rename_i f bd;exact⟨f,bd,h⟩
   cases h
  exact Y9 h
def aku{P:Program}{t:TypeId}{name:String}{f:FuncId}(hm:JR P t name f)(n:Nat)(v:Value)(w:World):(method (n+1) t v name).run P w= .ok (f,v) w:=by
 obtain⟨info,m,d,ab,af,aw,a5,ca,cP⟩:=hm;have aJ:(typeInfo t).run P w= .ok info w:=by simp[typeInfo,ab]
 unfold method;simp only[xag,aJ,xaf,af,aw,follow,xau,a5,receiverAt,xas ca];cases d<;>first|(simp only[Place.get,xau,xaf];done)|(exact absurd rfl (cP _))
def akv{P:Program}{va:Operand->Value}{x:Operand}{name:String}{args:Array Operand}{dJ:Array TypeId}{ty:TypeId}{t:TypeId}{v:Value}{f:FuncId}{w:World}(ag:va x= .iface t v)(hm:JR P t name f)(bd:wc P f):(do let d<-resolve va {callee:= .invoke x name,args:=args,argTypes:=dJ} ty;invoke d.target d.args:Sem Next).run P w= .ok (.enter f (#[v]++args.map va)) w:=by
 obtain⟨fn,ab,af,aw⟩:=bd;have jC:0<Made.depth:=by decide
 have aA:∃n,P.types.size+Made.depth=n+1:=⟨P.types.size+Made.depth-1,by omega⟩;obtain⟨n,aL⟩:=aA;have bJ:(#[Value.iface t v]++args.map va)[0]?=some (Value.iface t v):=by rw[xbI (by simp)];rfl
 have aJ:(#[Value.iface t v]++args.map va).extract 1 (#[Value.iface t v]++args.map va).size=args.map va:=by apply xbE;simp[List.extract,xbJ]
 have aZ:(program:Sem Program).run P w= .ok P w:=rfl;have uP:=aku hm n v w;have Rb:(callFunc f (#[v]++args.map va)).run P w= .ok (.enter f (#[v]++args.map va)) w:=by simp only[callFunc,xag,aZ,xaf,ab,af,aw,xav,xaI,xau]
 simp only[xag,resolve,ag,xau,xaf,invoke,bJ,aJ,callMethod,aZ,aL,uP,Rb]
def akw{β:Type}(bf:dN P T)(cf:hs P G C){o:Oper}(g2:∀d,o.dst=some d->d<N){x:Operand}{name:String}{args:Array Operand}{dJ:Array TypeId}(aG:o.op= .call ⟨.invoke x name,args,dJ⟩){k:aI->Option β}{b:β}(bO:fP ib σ) (h:Q4 T G C σ o x name args.toList k=some b):jr P G N o (λaW=>k aW=some b/\fP ib aW) σ:=by
 unfold Q4 at h;split at h
 case h_2=>cases h
 rename_i d aA;split at h
 case h_2=>cases h
 rename_i aO e1;obtain⟨p,aU,h⟩:=fw h;obtain⟨r,av,h⟩:=fw h;obtain⟨ca,cP⟩:=lv h;obtain⟨f,bd,Rb⟩:=Y9 av;have Za:=cf _ _ _ _ Rb;have sQ:=bf.JS _ _ _ bd;obtain⟨t,y⟩:=p;have akx:d= .dX t y:=by
  unfold BM at aU;split at aU;.cases aU;rfl
  cases aU
 subst akx;intro m fr ρ a w Q c6 Rc cc hD;have dA:=Ee (a:=a) c6 Rc.aK;have iF:∀d,o.dst=some d->d<a.tmps.size:=λd aA=>Nat.lt_of_lt_of_le (g2 d aA) cc;have sN:∀v,N<=(a.put o.dst v).tmps.size:=by intro v;cases o.dst<;>simpa[Act.put]using cc
 have mm:∀v,(a.put o.dst v).defers=[]:=by intro v;cases o.dst<;>exact hD
 have ag:=dA x;rw[aA]at ag;have ag:=ag.om;obtain⟨v,PD,aky⟩:∃v,a.eval x= .iface t v/\dz m y v:=by generalize a.eval x=u at ag;cases ag with|dX _ _ v h=>exact⟨v,rfl,h⟩
 have PS:(execOp a.eval o).run P w= .ok (.enter f (#[v]++args.map a.eval)) w:=by unfold execOp;rw[aG];exact akv PD sQ Za.fn
 unfold Oper.wp;rw[PS];have PT:ya m (y::aO) (#[v]++args.map a.eval).toList:=by obtain⟨aV,a2⟩:=q9 e1;refine⟨by simp[aV],?_⟩;intro i d kC aA a6;simp only[Array.toList_append,xbN,xaG,Array.toList_map]at a6;cases i with|zero=>simp at aA a6;subst aA;subst a6;exact aky|succ i=>simp only[xcd]at aA a6;have bb:=a2 i d aA;simp only[xaj,xah]at bb a6;obtain⟨z,⟨q,bj,rfl⟩,akz⟩:=bb;obtain⟨aAt,s4,rfl⟩:=a6;rw[bj]at s4;cases s4;exact PQ (xaz.1 ca _ (xax.2 ⟨q,xac bj,rfl⟩)) akz (dA q)
 have sP:=Za.run m _ w _ c6 Rc.W9 PT;simp only[Array.toArray_toList]at sP;refine sP.mono λe w' he=>?_;obtain⟨kC,cI,sD,rfl,bA,bB,cz,ey⟩:=he;subst bA;have akA:=Rc.kept bB cz;exact⟨_,cI,ρ,⟨cP,λj aN aj=>bO j aN (by simpa using aj)⟩,bB,akA.put (.d _ _ ey) iF,sN kC,mm kC,λk ak aj=>⟨by simpa using aj,rfl⟩⟩
def akB{β:Type}(bf:dN P T)(cf:hs P G C)(gn:k5 P G H)(cc:N<10000){o:Oper}(g2:∀d,o.dst=some d->d<N){k:aI->Option β}{b:β}(bO:fP ib σ)(h:Q5 T G C H ko σ o k=some b):jr P G N o (λaW=>k aW=some b/\fP ib aW) σ:=by
 unfold Q5 at h;split at h
 .rename_i x args dJ aG;split at h
  .rename_i e he;obtain⟨τ,t1,Rd,h⟩:=sZ bO h;refine jr.E1 t1 ?_;generalize fO:(λaW=>match ko (o.dst.getD 9999)with|true=>Fa (o.dst.getD 9999) aW k|false=>k aW)=bs at h;have main:jr P G N o (λaW=>bs aW=some b/\fP ib aW) τ:=by refine jr.mono (K:=λaW=>bs aW=some b/\∀p,10000<=p->e2 (aW.objs p)->e2 (τ.objs p)) (λaW ⟨ab,af⟩=>⟨ab,λp aU aj=>Rd p aU (af p aU aj)⟩) ?_;intro m fr ρ a w Q c6 c2 nQ aA;exact akf c6 c2 nQ aA g2 (gn _ _ he) aG h (Q:=Q)
   refine jr.out (jr.mono ?_ main);rintro aW ⟨ab,af⟩;subst fO;simp only at ab;split at ab;.obtain⟨akC,aV,a2,bb⟩:=Y7 af ab;exact⟨akC,aV,bb,a2⟩
   exact⟨aW,g3.refl aW,ab,af⟩
  split at h;.unfold Y3 at h;simp only at h;obtain⟨τ,ab,af,aw⟩:=Fi bO h;exact jr.E1 ab (Y8 bf cf g2 aG af aw)
  exact Y8 bf cf g2 aG bO h
 .rename_i x name args dJ aG;exact akw bf cf g2 aG bO h
 .have step:∀{τ:aI}{k:aI->Option β},fP ib τ->uK T G τ o k=some b->jr P G N o (λaW=>k aW=some b/\fP ib aW) τ:=by
   intro τ k bO h;obtain⟨aW,ab,af⟩:=BB h;refine Ra bf g2 ?_;unfold dc;rw[ab];exact⟨af,Q8 bO (λd aA=>Nat.lt_trans (g2 d aA) cc) ab⟩
  split at h;.refine jr.out (jr.mono ?_ (step bO h));rintro aW ⟨ab,af⟩;obtain⟨τ,aV,a2,bb⟩:=Y7 af ab;exact⟨τ,aV,bb,a2⟩
  exact step bO h
 have step:∀{τ:aI},fP ib τ->uK T G τ o k=some b->jr P G N o (λaW=>k aW=some b/\fP ib aW) τ:=by intro τ bO h;obtain⟨aW,ab,af⟩:=BB h;refine Ra bf g2 ?_;unfold dc;rw[ab];exact⟨af,Q8 bO (λd aA=>Nat.lt_trans (g2 d aA) cc) ab⟩
 split at h;.obtain⟨τ,ab,af,aw⟩:=Fi bO h;exact jr.E1 ab (step af aw)
 exact step bO h
def Zb{β:Type}(bf:dN P T)(cf:hs P G C)(gn:k5 P G H)(cc:N<10000){K:aI->Prop}:∀{os:List Oper}{r:List Oper}{i:Nat}{σ:aI}{k:aI->Option β}{b:β},(∀o∈os,o.guard=none)->(∀o∈os,∀d,o.dst=some d->d<N)->(∀j,(os++r)[j]?=all[i+j]?)->fP ib σ->(∀aW,fP ib aW->k aW=some b->oI P G N all (i+os.length) r K aW)->Q6 T G C H ko os σ k=some b->oI P G N all i (os++r) K σ
 |[],r,i,σ,k,b,_,_,_,bO,ak,h=>ak σ bO h
 |o::os,r,i,σ,k,b,b8,aA,gB,bO,ak,h=>by
  have ah:all[i]?=some o:=by simpa using(gB 0).symm
  refine aks ah (b8 o (by simp)) (jr.mono ?_ (akB bf cf gn cc (aA o (by simp)) bO h));rintro aW ⟨ab,af⟩;refine Zb bf cf gn cc (λo aG=>b8 o (by simp[aG])) (λo aG=>aA o (by simp[aG])) (λj=>by have:=gB (j+1);simpa[xbc,Nat.add_comm 1 j]using this) af ?_ ab;intro rh aw a5;have:=ak rh aw a5;rw[show i+(o::os).length=i+1+os.length by simp;omega]at this;exact this
def b7.shrink{m j5:Mem}{ρ Re:dg}{U qk:Key->Prop}{x:aS}{v:Value}(h:b7 m ρ U x v):∀{v0:Value},b7 j5 Re qk x v0->b7 m ρ qk x v:=by
 induction h with
 |any v=>intro v0 _;exact .any _
 |d x v h=>intro v0 _;exact .d _ _ h
 |agg cs vs ar h ih=>
  intro v0 au;cases au with|agg _ yI iU Fj=>
  refine .agg _ _ ar λi c v ao a6=>?_;have ah:i<yI.size:=by rw[iU];exact(xae.1 ao).1
  exact ih i c v ao a6 (Fj i c _ ao (xap ah))
 |a1 cs vs ar h ih=>
  intro v0 au;cases au with|a1 _ yI iU Fj=>
  refine .a1 _ _ ar λi c v ao a6=>?_;have ah:i<yI.size:=by rw[iU];exact(xae.1 ao).1
  exact ih i c v ao a6 (Fj i c _ ao (xap ah))
 |ew cs off b o vs T eH aj xs ab af=>intro v0 _;exact .ew _ _ b o vs T eH aj xs ab af
 |ptr key off b hu h=>intro v0 au;cases au with|ptr _ _ _ mj _=>exact .ptr _ _ b mj h
 |gA key k i off b o len cap hu h=>intro v0 au;cases au with|gA _ _ _ _ _ _ _ _ mj _=>exact .gA _ _ _ _ b o len cap mj h
 |row key hu=>intro v0 au;cases au with|row _ mj=>exact .row _ mj
 |sub key k i len b o L cap a hu h hle aF=>intro v0 au;cases au with|sub _ _ _ _ _ _ _ _ _ mj=>exact .sub _ _ _ _ b o L cap a mj h hle aF|kA _ _ _ mj=>exact .sub _ _ _ _ b o L cap a mj h hle aF
 |kA key k i hu h=>intro v0 au;cases au with|sub _ _ _ _ _ _ _ _ _ mj=>exact .kA _ _ _ mj h|kA _ _ _ mj=>exact .kA _ _ _ mj h
 |map key hu=>intro v0 au;cases au with|map _ mj=>exact .map _ mj
 |fn f first captured vs ws ar dv h bD ih xV=>
  intro v0 au;cases au with|fn _ _ _ yI akD iU akE Fj akF=>
  refine .fn _ _ _ _ _ ar dv (λi c v ao a6=>?_) (λi c v ao a6=>?_)
  .have ah:i<yI.size:=by rw[iU];exact(xae.1 ao).1
   exact ih i c v ao a6 (Fj i c _ ao (xap ah))
  .have ah:i<akD.size:=by rw[akE];exact(xae.1 ao).1
   exact xV i c v ao a6 (akF i c _ ao (xap ah))
def jA.shrink{m j5:Mem}{ρ Re:dg}{U qk:Key->Prop}{o:cV}{v v0:Value}{w w0:World}(h:jA m ρ U v w o)(au:jA j5 Re qk v0 w0 o):jA m ρ qk v w o:=by
 cases o with
 |dead=>trivial
 |box cs=>
  obtain⟨b,vs,T,aJ,aZ,bN,cO⟩:=h;obtain⟨fI,yI,fM,f1,f2,f3,f4⟩:=au;refine⟨b,vs,T,aJ,aZ,bN,λi c x ao ag=>?_⟩;have ah:i<yI.size:=by rw[f3];exact(xae.1 ao).1
  exact(cO i c x ao ag).shrink (f4 i c _ ao (xap ah))
 |row=>exact h|map=>exact h
def akG{m cI:Mem}{fr:fL}{ρ cX:dg}{σ aW:aI}{a cD:Act}{w w':World}{aO:List Tmp}(h:Den m fr ρ σ a w)(bD:Den cI fr cX aW cD w')(pn:cF.ext σ.objs aW.objs)(aH:∀t,t∉aO->aW.aK t=σ.aK t){cb:Tmp}{v:D}(a6:aW.aK cb= .d v)(yw:cb∈aO):Den cI fr cX ((lV aO σ).put (some cb) (.d v)) cD w':=by
 have iD:((lV aO σ).put (some cb) (.d v)).objs=σ.objs:=by simp[lV]
 refine⟨bD.mem,bD.frame,bD.apart,?_,?_,?_,?_,?_⟩;.rintro k ⟨o,aG⟩;rw[iD]at aG;exact bD.one k ⟨o,pn k o aG⟩
 .intro t;by_cases oC:t=cb;.subst oC;simp only[aI.put,fb];have:=bD.aK t;rw[a6]at this;exact .d _ _ this.om
  simp only[aI.put,cZ _ _ oC,lV];split;.exact .any _
  rename_i aL;have ab:=bD.aK t;rw[aH t aL]at ab;exact ab.shrink (h.aK t)
 .intro k o ak;rw[iD]at ak;exact(bD.objs k o (pn k o ak)).shrink (h.objs k o ak)
 .intro k o b ak aG aj;rw[iD]at ak;exact bD.own k o b (pn k o ak) aG aj
 intro k bs o o' b cR ak fO aG ox aj;rw[iD]at ak fO;exact bD.sep k bs o o' b cR (pn k o ak) (pn bs o' fO) aG ox aj
def akH{m cI:Mem}{fr:fL}{ρ cX:dg}{σ aW:aI}{a cD:Act}{w w':World}{aO:List Tmp}(h:Den m fr ρ σ a w)(bD:Den cI fr cX aW cD w')(pn:cF.ext σ.objs aW.objs)(aH:∀t,t∉aO->aW.aK t=σ.aK t){ts:List Tmp}{v:D}(a6:∀t∈ts,aW.aK t= .d (ad v (ts.idxOf t))):Den cI fr cX (wJ ts v (lV aO σ)) cD w':=by
 have iD:(wJ ts v (lV aO σ)).objs=σ.objs:=rfl;refine⟨bD.mem,bD.frame,bD.apart,?_,?_,?_,?_,?_⟩;.rintro k ⟨o,aG⟩;rw[iD]at aG;exact bD.one k ⟨o,pn k o aG⟩
 .intro t;by_cases oC:t∈ts
  .have af:(wJ ts v (lV aO σ)).aK t= .d (ad v (ts.idxOf t)):=by simp only[wJ,xad oC]
   rw[af];have:=bD.aK t;rw[a6 t oC]at this;exact .d _ _ this.om
  have af:(wJ ts v (lV aO σ)).aK t=(lV aO σ).aK t:=by simp only[wJ,xaa oC]
  rw[af];simp only[lV];split;.exact .any _
  rename_i aL;have ab:=bD.aK t;rw[aH t aL]at ab;exact ab.shrink (h.aK t)
 .intro k o ak;rw[iD]at ak;exact(bD.objs k o (pn k o ak)).shrink (h.objs k o ak)
 .intro k o b ak aG aj;rw[iD]at ak;exact bD.own k o b (pn k o ak) aG aj
 intro k bs o o' b cR ak fO aG ox aj;rw[iD]at ak fO;exact bD.sep k bs o o' b cR (pn k o ak) (pn bs o' fO) aG ox aj
theorem akI{T:ch}{ev:Operand->aS}{objs:cF}{d:Key}{op:Op}{r:aS}{cC:List (Key×cV)}(aH:qg op=true)(he:hg T ev objs d op=some (r,cC)):objs d=none:=(Bm (objs':=λ_=>none) aH rfl he).2.1
def akJ{β:Type}(cf:hs P G C){o:Oper}(aH:Q7 o=true){k:aI->Option β}{b:β}(h:sW T G C σ o k=some b):dc P T G o (λaW=>k aW=some b/\cF.ext σ.objs aW.objs/\∀t,o.dst≠some t->aW.aK t=σ.aK t) σ:=by
 rcases xbD.1 aH with aH|aH;.refine qj ?_ (Yw cf aH h);rintro aW ⟨ab,af,aw⟩;exact⟨ab,by rw[af];exact λ_ _ h=>h,aw⟩
 have Yx:∀x args dJ,o.op≠ .call ⟨.value x,args,dJ⟩:=by intro x args dJ he;rw[he]at aH;cases aH
 unfold sW at h;split at h;.exact absurd (by assumption) (Yx _ _ _)
 obtain⟨aW,ab,af⟩:=BB h;unfold dc;rw[ab];unfold g1 at ab;rw[(ra (objs:=σ.objs) aH).1,(ra aH).2]at ab;simp only at ab;split at ab
 case h_2=>cases ab
 rename_i r cC he;cases ab;have ov:σ.objs (o.dst.getD 9999)=none:=akI aH he;obtain⟨_,_,hA,rfl⟩:=Bm aH ov he;refine⟨af,?_,λt aM=>rn aM⟩;rw[aI.wg];exact cF.Km ov hA
def Rf{β:Type}(cf:hs P G C){j:Nat}{want:Bool}{d:Tmp}(aA:(all[j]?).bind (·.dst)=some d):∀{os:List Oper}{σ:aI}{k:aI->Option β}{b:β},(∀o∈os,o.guard=some (j,want))->(∀o∈os,Q7 o=true/\o.dst≠some d)->σ.aK d= .d (.val (.bool want))->sX T G C os σ k=some b->fT P T G all os (λaW=>k aW=some b/\cF.ext σ.objs aW.objs/\∀t,t∉dstsOf os->aW.aK t=σ.aK t) σ
 |[],σ,k,b,_,_,_,h=>⟨h,λ_ _ h=>h,λ_ _=>rfl⟩
 |o::os,σ,k,b,b8,aH,hw,h=>by
  have au:=aH o (by simp);unfold fT eA;rw[b8 o (by simp)];simp only[aA,hw,xaH];refine qj ?_ (akJ cf au.1 h);rintro aW ⟨ab,af,aw⟩;refine mX ?_ (Rf cf aA (λo aG=>b8 o (by simp[aG])) (λo aG=>aH o (by simp[aG])) (by rw[aw d au.2];exact hw) ab);rintro rh ⟨aV,a2,bb⟩;refine⟨aV,λcU Zc aG=>a2 cU Zc (af cU Zc aG),?_⟩;intro t aM;have py:t∉dstsOf os:=λao=>aM (by unfold dstsOf at ao⊢;simp only[xbL];cases o.dst<;>simp[ao])
  have yv:o.dst≠some t:=λao=>aM (by unfold dstsOf;simp[ao]);rw[bb t py,aw t yv]
def Rg(bf:dN P T){fr:fL}{Q:Exit->Act->World->Prop}:∀(os r:List Oper)(i:Nat)(m:Mem)(ρ:dg)(σ:aI)(a:Act)(w:World)(K:aI->Prop),(∀j,(os++r)[j]?=all[i+j]?)->kB G m->Den m fr ρ σ a w->N<=a.tmps.size->a.defers=[]->(∀o∈os,∀d,o.dst=some d->d<N)->fT P T G all os K σ->(∀cD w',ja N m fr ρ σ K cD w'->wpOps P all Q (List.range' (i+os.length) r.length) cD w')->wpOps P all Q (List.range' i (os++r).length) a w
 |[],r,i,m,ρ,σ,a,w,K,_,c6,h,cc,hD,_,a6,Rh=>Rh a w ⟨σ,m,ρ,a6,Mem.le_refl m,h,cc,hD,k0.refl _ _⟩
 |o::os,r,i,m,ρ,σ,a,w,K,ar,c6,h,cc,hD,g2,a6,Rh=>by
  rw[xbN,xao,List.range'_succ,wpOps_cons];have ah:all[i]?=some o:=by simpa using(ar 0).symm
  refine wpOp_mono ?_ (PV bf c6 h cc hD ah (g2 o (by simp)) a6);rintro cD w' ⟨aW,cI,cX,bA,bB,cz,ey,fk,hh⟩;refine Rg bf os r (i+1) cI cX aW cD w' K (λj=>by have:=ar (j+1);simpa[xbc,Nat.add_comm 1 j]using this) (c6.mono bB) cz ey fk (λo aG=>g2 o (by simp[aG])) bA ?_;intro pq k1 av;have:=Rh pq k1 (av.trans bB hh);rw[show i+(o::os).length=i+1+os.length by simp;omega]at this;exact this
theorem Zd(i:Nat):ad lx i=lx:=by unfold ad;cases i<;>rfl
def Fk{β:Type}(bf:dN P T)(cf:hs P G C)(gn:k5 P G H)(cc:N<10000){K:aI->Prop}:∀{gs:List (Option (Nat×Bool)×List Oper)} {i:Nat} {σ:aI} {k:aI->Option β} {b:β},(∀g∈gs,∀o∈g.2,o.guard=g.1)->(∀o∈flat gs,∀d,o.dst=some d->d<N)->(∀j,(flat gs)[j]?=all[i+j]?)->fP ib σ->(∀aW,fP ib aW->k aW=some b->K aW)->yH T G C H ko all gs σ k=some b->oI P G N all i (flat gs) K σ
 |[],i,σ,k,b,_,_,_,bO,ak,h=>akr (ak σ bO h)|(none,os)::r,i,σ,k,b,b8,aA,gB,bO,ak,h=>by show oI P G N all i (os++flat r) K σ;refine Zb bf cf gn cc (λo aG=>b8 (none,os) (by simp) o aG) (λo aG=>aA o (by simp[flat,aG])) gB bO ?_ h;intro aW ab af;refine Fk bf cf gn cc (λg hm=>b8 g (by simp[hm])) (λo aG=>aA o (by simp only[flat,List.flatMap_cons,xar];exact .inr aG)) ?_ ab ak af;intro j;have:=gB (os.length+j);rw[<-xbc]at this;rw[<-this];show _=(os++flat r)[os.length+j]?;rw[xaJ (by omega)];simp
 |(some (j,want),os)::r,i,σ,k,b,b8,aA,gB,bO,ak,h=>by
  show oI P G N all i (os++flat r) K σ;unfold yH at h;split at h
  case h_2=>cases h
  rename_i d cb BO yw;split at h
  case h_2=>cases h
  rename_i x ag;split at h
  case isFalse=>cases h
  rename_i bk;simp only[xaz,xal,bne_iff_ne,ne_eq]at bk;split at h
  .obtain⟨v,ab,af⟩:=fw h;have jb:∀o∈os,o.guard=some (j,want):=λo aG=>b8 (some (j,want),os) (by simp) o aG;have Ri:oI P G N all (i+os.length) (flat r) K ((lV (dstsOf os) σ).put (some cb) (.d v)):=by
    refine Fk bf cf gn cc (λg hm=>b8 g (by simp[hm])) (λo aG=>aA o (by simp only[flat,List.flatMap_cons,xar];exact .inr aG)) ?_ (fP.put (σ:=lV (dstsOf os) σ) bO) ak af;intro Fl;have:=gB (os.length+Fl);rw[<-xbc]at this;rw[<-this];show _=(os++flat r)[os.length+Fl]?;rw[xaJ (by omega)];simp
   have a6:fT P T G all os (λaW=>cF.ext σ.objs aW.objs/\(∀t,t∉dstsOf os->aW.aK t=σ.aK t)/\aW.aK cb= .d v) σ:=by
    unfold bL at ab;split at ab
    .rename_i gq;split at ab
     .rename_i aj;subst aj;refine mX ?_ (Rf cf BO jb bk ag ab);rintro aW ⟨aV,a2,bb⟩;refine⟨a2,bb,?_⟩;split at aV;.rename_i u hu;cases aV;exact hu
      cases aV
     rename_i aj;cases ab;refine mX ?_ (E2 BO jb (λo aG=>(bk o aG).2) (.inl (by rw[ag];cases gq<;>cases want<;>simp_all)));rintro aW ⟨aV,a2,bb⟩;exact⟨by rw[aV];exact λ_ _ h=>h,a2,bb cb yw⟩
    .rename_i vs;cases ab;refine mX ?_ (E2 BO jb (λo aG=>(bk o aG).2) (.inr ⟨_,ag⟩));rintro aW ⟨aV,a2,bb⟩;exact⟨by rw[aV];exact λ_ _ h=>h,a2,bb cb yw⟩
    cases ab
   intro m fr ρ a w Q c6 c2 nQ hD hp;refine Rg bf os (flat r) i m ρ σ a w _ gB c6 c2 nQ hD (λo aG=>aA o (by simp[flat,aG])) a6 ?_;rintro cD w' ⟨aW,cI,cX,⟨aV,a2,bb⟩,bB,cz,ey,fk,hh⟩;have lY:=akG c2 cz aV a2 bb (YD yw);refine Ri cI fr cX cD w' Q (c6.mono bB) lY ey fk ?_;intro pq k1 av;refine hp pq k1 (av.trans bB ?_);intro cU dk aj;exact⟨by rw[aI.wg];exact aj,(hh cU dk aj).2⟩
  obtain⟨v,ab,af⟩:=fw h;have jb:∀o∈os,o.guard=some (j,want):=λo aG=>b8 (some (j,want),os) (by simp) o aG;have Ri:oI P G N all (i+os.length) (flat r) K (wJ (kept all os (flat r)) v (lV (dstsOf os) σ)):=by refine Fk bf cf gn cc (λg hm=>b8 g (by simp[hm])) (λo aG=>aA o (by simp only[flat,List.flatMap_cons,xar];exact .inr aG)) ?_ bO ak af;intro Fl;have:=gB (os.length+Fl);rw[<-xbc]at this;rw[<-this];show _=(os++flat r)[os.length+Fl]?;rw[xaJ (by omega)];simp
  have a6:fT P T G all os (λaW=>cF.ext σ.objs aW.objs/\(∀t,t∉dstsOf os->aW.aK t=σ.aK t)/\(∀t∈kept all os (flat r),aW.aK t= .d (ad v ((kept all os (flat r)).idxOf t)))) σ:=by
   unfold bL at ab;split at ab
   .rename_i gq;split at ab
    .rename_i aj;subst aj;refine mX ?_ (Rf cf BO jb bk ag ab);rintro aW ⟨aV,a2,bb⟩;refine⟨a2,bb,?_⟩;split at aV;.rename_i l ar;cases aV;exact λt aM=>ajO ar aM
     cases aV
    rename_i aj;cases ab;refine mX ?_ (QH BO jb (λo aG=>(bk o aG).2) (.inl (by rw[ag];cases gq<;>cases want<;>simp_all)));rintro aW ⟨aV,a2,bb⟩;exact⟨by rw[aV];exact λ_ _ h=>h,a2,λt aM=>by rw[bb t (xbA.1 aM).1,Zd]⟩
   .rename_i vs;cases ab;refine mX ?_ (QH BO jb (λo aG=>(bk o aG).2) (.inr ⟨_,ag⟩));rintro aW ⟨aV,a2,bb⟩;exact⟨by rw[aV];exact λ_ _ h=>h,a2,λt aM=>by rw[bb t (xbA.1 aM).1,Zd]⟩
   cases ab
  intro m fr ρ a w Q c6 c2 nQ hD hp;refine Rg bf os (flat r) i m ρ σ a w _ gB c6 c2 nQ hD (λo aG=>aA o (by simp[flat,aG])) a6 ?_;rintro cD w' ⟨aW,cI,cX,⟨aV,a2,bb⟩,bB,cz,ey,fk,hh⟩;have lY:=akH c2 cz aV a2 bb;refine Ri cI fr cX cD w' Q (c6.mono bB) lY ey fk ?_;intro pq k1 av;refine hp pq k1 (av.trans bB ?_);intro cU dk aj;exact⟨aj,(hh cU dk aj).2⟩
def akK{β:Type}(bf:dN P T)(cf:hs P G C)(gn:k5 P G H)(cc:N<10000){k:aI->Option β}{b:β}(aA:∀o∈all.toList,∀d,o.dst=some d->d<N)(bO:fP ib σ)(h:Y5 T G C H ko all σ k=some b):oI P G N all 0 all.toList (λaW=>fP ib aW/\k aW=some b) σ:=by
 have:=Fk (P:=P) (N:=N) (ib:=ib) (all:=all) (i:=0) bf cf gn cc (K:=λaW=>fP ib aW/\k aW=some b) (λg hm o aG=>K3 _ _ _ hm o aG) (by rw[wK];exact aA) (by rw[wK];intro j;simp) bO (λaW ab af=>⟨ab,af⟩) h
 rwa [wK]at this
def akL{Q:Exit->aI->Prop}{id:Nat}{ops:Array Oper}(h:oI P G N ops 0 ops.toList (Q .normal) σ):hq P T G N (.region id ops false) σ Q:=by intro m fr ρ a w c6 c2 nQ aA;refine wp_region ?_;rw[List.range_eq_range'];have:=h m fr ρ a w (λe cD w'=>ja N m fr ρ σ (Q e) cD w') c6 c2 nQ aA (λcD w' av=>av);simpa using this
end
def s5(ops:Array Oper):Bool:=(List.range ops.size).all λj=>match ops[j]? with
  |some o=>o.after.all (λe=>!Region.binds .any e||decide (e.on<j))&&(match o.guard with|none=>true|some (g,_)=>decide (g<j))
  |none=>true
def Fo(ops:Array Oper)(j:Nat):Bool:=(List.range j).all λi=>(List.range (j+1)).any λk=>decide (i<k)&&match ops[k]? with|some o=>o.after.any (λe=>Region.binds .any e&&decide (e.on=i))|none=>false
def Rj(ops:Array Oper)(p:Nat):Bool:=s5 ops&&(List.range ops.size).all λj=>decide (j<p)||Fo ops j
def yJ{ops:Array Oper}(h:s5 ops=true){j:Nat}{o:Oper}(aG:ops[j]?=some o):(∀e∈o.after,Region.binds .any e=true->e.on<j)/\∀g b,o.guard=some (g,b)->g<j:=by
 have aN:j<ops.size:=(xaT.1 aG).1;have ab:=xaz.1 h j (xbX.2 aN);simp only[aG,xal]at ab;refine⟨λe he aj=>?_,λg b b8=>?_⟩
 .have:=Array.all_eq_true'.1 ab.1 e he;simpa[aj]using this
 have:=ab.2;rw[b8]at this;simpa using this
def akM{ops:Array Oper}{j i:Nat}(h:Fo ops j=true)(ah:i<j):∃k o,i<k/\k<=j/\ops[k]?=some o/\∃e∈o.after,Region.binds .any e=true/\e.on=i:=by
 have ab:=xaz.1 h i (xbX.2 ah);obtain⟨k,ak,af⟩:=xbs.1 ab;simp only[xal,xaC]at af;obtain⟨aw,a5⟩:=af;cases aG:ops[k]? with
 |none=>rw[aG]at a5;cases a5
 |some o=>rw[aG]at a5;obtain⟨e,he,ca⟩:=Array.any_eq_true'.1 a5;simp only[xal,xaC]at ca;have:=xbX.1 ak;exact⟨k,o,aw,by omega,aG,e,he,ca⟩
def BP(ops:Array Oper)(listed:Array Bool):Prop:=∀j o,ops[j]?=some o->listed.getD j true=true->∀e∈o.after,Region.binds .any e=true->listed.getD e.on false=true
section
variable{P:Program}{ops hN:Array Oper}{Q:Exit->Act->World->Prop}
def uR{i:Nat}(h:i<ops.size):(ops++hN)[i]?=ops[i]?:=xbI h
def BQ{l r:Array Bool}{d:Bool}{i:Nat}(h:i<l.size):(l++r).getD i d=l.getD i d:=by
 have af:i<l.size+r.size:=by omega
 simp only[xbu,xbI h]
theorem akN{l:Array Bool}{m:Nat}{d:Bool}{i:Nat}(h:l.size<=i)(af:i<l.size+m):(l++Array.replicate m false).getD i d=false:=by simp only[xbu,Array.getElem?_append_right h];rw[Array.getElem?_replicate,xad (by omega)];rfl
def Rk{l:Array Bool}{i:Nat}(h:i<l.size)(d e:Bool):l.getD i d=l.getD i e:=by simp[Array.getD,h]
def Rl{all:Array Oper}{L:Array Bool}{j:Nat}(bO:L.size=all.size)(ar:Fo all j=true)(hinv:BP all L)(av:j∈Region.ready .any all L):∀(d i:Nat),j-i<=d->i<j->L.getD i false=true
 |0,i,h,ah=>by omega
 |d+1,i,h,ah=>by
  obtain⟨k,o',ab,ak,af,e,aw,a5,ca⟩:=akM ar ah;rw[<-ca];by_cases Fp:k=j;.subst Fp;obtain⟨_,kI,bA,bB⟩:=xbK.1 av;rw[af]at bA;cases bA;exact bB e aw a5
  have cP:=Rl bO ar hinv av d k (by omega) (by omega);have eO:=(xaT.1 af).1;rw[Rk (by omega) false true]at cP;exact hinv k o' af cP e aw a5
def Fq{all:Array Oper}{L:Array Bool}{i:Nat}(h:i∈Region.ready .any all L):i<all.size:=(xaT.1 (xbK.1 h).2.choose_spec.1).1
def akO{all:Array Oper}{L:Array Bool}(aH:L.size=all.size)(h:BP all L){i:Nat}(ah:i∈Region.ready .any all L):BP all (L.setIfInBounds i true):=by
 obtain⟨ab,fv,af,aw⟩:=xbK.1 ah;have cd:=Fq ah;have up:∀{j:Nat},L.getD j false=true->(L.setIfInBounds i true).getD j false=true:=by
  intro j aN;by_cases cN:j<L.size
  .by_cases gR:i=j;.subst gR;simp[Array.getD,cN]
   simp[Array.getD,cN]at aN⊢;rw[xbB cN gR];exact aN
  simp[Array.getD,cN]at aN
 intro j o' aG aN e he mZ;have cN:j<L.size:=by have:=(xaT.1 aG).1;omega
 by_cases gR:i=j;.subst gR;rw[af]at aG;cases aG;exact up (aw e he mZ)
 refine up (h j o' aG ?_ e he mZ);simp[Array.getD,cN]at aN⊢;rw[xbB cN gR]at aN;exact aN
def Ze{listed:Array Bool}(aj:s5 (ops++hN)=true)(aH:listed.size=ops.size){i:Nat}(ah:i<ops.size):i∈Region.ready .any (ops++hN) (listed++Array.replicate hN.size false)↔i∈Region.ready .any ops listed:=by
 rw[xbK,xbK,BQ (by omega),uR ah];refine and_congr_right λ_=>?_;constructor;.rintro⟨o',aG,h⟩;refine⟨o',aG,λe he mZ=>?_⟩;have:=(yJ aj (by rw[uR ah];exact aG)).1 e he mZ;rw[<-h e he mZ,BQ (by omega)]
 rintro⟨o',aG,h⟩;refine⟨o',aG,λe he mZ=>?_⟩;have:=(yJ aj (by rw[uR ah];exact aG)).1 e he mZ;rw[BQ (by omega),h e he mZ]
def Zf{all:Array Oper}{L:Array Bool}(aH:L.size=all.size)(h:∀i,i<all.size->L.getD i false=true):Region.ready .any all L=[]:=by refine List.eq_nil_iff_forall_not_mem.2 λi ah=>?_;have cu:=Fq ah;have ab:=(xbK.1 ah).1;rw[Rk (by omega) true false,h i cu]at ab;cases ab
def akP{all:Array Oper}{L:Array Bool}(aj:s5 all=true)(aH:L.size=all.size)(h:Region.ready .any all L=[]):∀(i:Nat),i<all.size->L.getD i false=true:=by
 intro i
 induction i using Nat.strongRecOn with
 |_ i ih=>
  intro ah;refine xbC λao=>?_;have bd:L.getD i true=false:=by rw[Rk (by omega) true false];simpa using ao
  have:i∈Region.ready .any all L:=by refine xbK.2 ⟨bd,all[i],by simp[ah],λe he mZ=>?_⟩;have cu:=(yJ aj (j:=i) (o:=all[i]) (by simp[ah])).1 e he mZ;exact ih e.on cu (by omega)
  rw[h]at this;cases this
def akQ(aj:s5 (ops++hN)=true):s5 ops=true:=by
 refine xaz.2 λj aN=>?_;have aN:=xbX.1 aN;have ab:=xaz.1 aj j (xbX.2 (by simp;omega))
 rwa [uR aN]at ab
def akR{tm:Array Value}{g:Nat}(h:g<ops.size):yielded (ops++hN) tm g=yielded ops tm g:=by unfold yielded;rw[uR h]
def akS(aj:s5 (ops++hN)=true){i:Nat}(ah:i<ops.size){o':Oper}(aG:ops[i]?=some o')(tm:Array Value):Region.wanted o' (yielded (ops++hN) tm)=Region.wanted o' (yielded ops tm):=by unfold Region.wanted;cases b8:o'.guard with|none=>rfl|some p=>obtain⟨g,b⟩:=p;have:=(yJ aj (by rw[uR ah];exact aG)).2 g b b8;simp only[akR (Nat.lt_trans this ah)]
def akT(aj:s5 (ops++hN)=true){i:Nat}(ah:i<ops.size){K:Act->World->Prop}{a:Act}{w:World}:wpOp P (ops++hN) Q i K a w=wpOp P ops Q i K a w:=by
 unfold wpOp;rw[uR ah];have:ops[i]?=some ops[i]:=by simp[ah]
 rw[this];simp only[akS aj ah this]
def akU{all:Array Oper}:∀(fuel:Nat)(L:Array Bool)(a:Act)(w:World),Region.ready .any all L=[]->Q .normal a w->wpAny P .any all Q fuel L a w
 |0,L,a,w,h,hp=>⟨h,hp⟩|fuel+1,L,a,w,h,hp=>⟨λ_=>hp,λi ah=>by rw[h]at ah;cases ah⟩
def mx(n j:Nat):Array Bool:=Array.ofFn (n:=n) λi=>decide (i.val<j)
def Zg{n j:Nat}:(mx n j).size=n:=by simp[mx]
def yK{n j i:Nat}{d:Bool}(h:i<n):(mx n j).getD i d=decide (i<j):=by simp[mx,Array.getD,h]
def akV{n j:Nat}:(mx n j).setIfInBounds j true=mx n (j+1):=by
 apply Array.ext;.simp[mx]
 intro i ab af;simp[mx]at ab;by_cases h:i=j;.subst h;simp[mx]
 rw[xbB (by simpa[mx]using ab) (by omega)];simp[mx];omega
def Zh{all:Array Oper}(aj:s5 all=true){p:Nat}(ar:∀j,p<=j->j<all.size->Fo all j=true):∀(d j:Nat)(a:Act)(w:World),p<=j->j+d=all.size->wpOps P all Q (List.range' j d) a w->wpAny P .any all Q d (mx all.size j) a w
 |0,j,a,w,aU,aA,h=>by refine⟨Zf Zg λi ah=>by rw[yK ah];simp;omega,by simpa[wpOps]using h⟩
 |d+1,j,a,w,aU,aA,h=>by
  have aN:j<all.size:=by omega
  have hinv:BP all (mx all.size j):=by intro i o aG ah e he mZ;have cd:=(xaT.1 aG).1;rw[yK cd]at ah;have:=(yJ aj aG).1 e he mZ;rw[yK (by omega)];simp at ah⊢;omega
  have Zi:j∈Region.ready .any all (mx all.size j):=by refine xbK.2 ⟨by rw[yK aN];simp,all[j],by simp[aN],λe he mZ=>?_⟩;have:=(yJ aj (j:=j) (o:=all[j]) (by simp[aN])).1 e he mZ;rw[yK (by omega)];simpa using this
  refine⟨λau=>(by rw[au]at Zi;cases Zi),λi ah=>?_⟩;have hB:=Fq ah;have ab:=(xbK.1 ah).1;rw[yK hB]at ab;have gR:i=j:=by
   have e7:j<=i:=by simpa using ab
   by_cases ao:i=j;.exact ao
   have:=Rl Zg (ar i (by omega) hB) hinv ah i j (by omega) (by omega);rw[yK aN]at this;simp at this
  subst gR;rw[List.range'_succ,wpOps_cons]at h;refine wpOp_mono (λcD w' bj=>?_) h;rw[akV];exact Zh aj ar d (i+1) cD w' (by omega) (by omega) bj
def akW{listed:Array Bool}{m:Nat}(h:∀i,i<listed.size->listed.getD i false=true):listed++Array.replicate m false=mx (listed.size+m) listed.size:=by
 apply Array.ext;.simp[mx]
 intro i ab af;simp at ab;by_cases ah:i<listed.size;.have:=h i ah;simp[Array.getD,ah]at this;rw[Array.getElem_append_left ah,this];simp[mx,ah]
 rw[Array.getElem_append_right (by omega)];simp[mx];omega
def akX{listed:Array Bool}{m i:Nat}(ah:i<listed.size):(listed++Array.replicate m false).setIfInBounds i true=listed.setIfInBounds i true++Array.replicate m false:=by
 apply Array.ext;.simp
 intro j ab af;simp at ab;by_cases aN:j<listed.size
 .rw[Array.getElem_append_left (by simpa using aN)];by_cases gR:i=j;.subst gR;simp
  rw[xbB (by simp;omega) gR,Array.getElem_append_left aN,xbB aN gR]
 rw[Array.getElem_append_right (by simp;omega),xbB (by simp;omega) (by omega),Array.getElem_append_right (by omega)];simp
end
def Zj{P:Program}{Q:Exit->Act->World->Prop}{all:Array Oper}:∀{n:Nat}{L:Array Bool}{a:Act}{w:World},wpAny P .any all Q n L a w->∀k,n<=k->wpAny P .any all Q k L a w
 |0,L,a,w,h,k,ak=>akU k L a w h.1 h.2|n+1,L,a,w,h,0,ak=>by omega|n+1,L,a,w,h,k+1,ak=>⟨h.1,λi ah=>wpOp_mono (λcD w' bD=>Zj bD k (by omega)) (h.2 i ah)⟩
section
variable{P:Program}{T:ch}{G:dr}{ops hN:Array Oper}{Q:Exit->Act->World->Prop}
def akY{m:Mem}{fr:fL}{N:Nat}(bf:dN P T){K:aI->Prop}(aj:s5 (ops++hN)=true)(ar:∀j,ops.size<=j->j<(ops++hN).size->Fo (ops++hN) j=true)(g2:∀o∈ops,∀d,o.dst=some d->d<N):∀(fuel:Nat)(listed:Array Bool)(m:Mem)(ρ:dg)(σ:aI)(a:Act)(w:World),listed.size=ops.size->BP ops listed->kB G m->Den m fr ρ σ a w->N<=a.tmps.size->a.defers=[]->jl P T G ops K fuel listed σ->(∀cD w',ja N m fr ρ σ K cD w'->wpOps P (ops++hN) Q (List.range' ops.size hN.size) cD w')->wpAny P .any (ops++hN) Q (fuel+hN.size) (listed++Array.replicate hN.size false) a w:=by
 have fin:∀{fuel:Nat}{listed:Array Bool}{m:Mem}{ρ:dg}{σ:aI}{a:Act}{w:World},listed.size=ops.size->Region.ready .any ops listed=[]->kB G m->Den m fr ρ σ a w->N<=a.tmps.size->a.defers=[]->K σ->(∀cD w',ja N m fr ρ σ K cD w'->wpOps P (ops++hN) Q (List.range' ops.size hN.size) cD w')->wpAny P .any (ops++hN) Q hN.size (listed++Array.replicate hN.size false) a w:=by intro fuel listed m ρ σ a w aH av c6 h cc hD ak hp;have akZ:=akP (akQ aj) aH av;rw[akW (λi ah=>akZ i (by omega)),aH,<-Array.size_append];exact Zh aj ar _ _ _ _ (xan _) (by simp) (hp a w ⟨σ,m,ρ,ak,Mem.le_refl m,h,cc,hD,k0.refl _ _⟩)
 intro fuel
 induction fuel with
 |zero=>intro listed m ρ σ a w aH hinv c6 h cc hD a6 hp;rw[xaw];exact fin (fuel:=0) aH a6.1 c6 h cc hD a6.2 hp
 |succ fuel ih=>
  intro listed m ρ σ a w aH hinv c6 h cc hD a6 hp;by_cases av:Region.ready .any ops listed=[];.have:=fin (fuel:=0) aH av c6 h cc hD (a6.1 av) hp;exact Zj this _ (by omega)
  rw[Nat.add_right_comm];have ak0:BP (ops++hN) (listed++Array.replicate hN.size false):=by
   intro j o' aG aN e he mZ;have cN:=(xaT.1 aG).1;simp at cN;by_cases Zk:j<ops.size
   .rw[BQ (by omega)]at aN;rw[uR Zk]at aG;have:=(yJ aj (by rw[uR Zk];exact aG)).1 e he mZ;rw[BQ (by omega)];exact hinv j o' aG aN e he mZ
   rw[akN (by omega) (by omega)]at aN;cases aN
  refine⟨λau=>absurd ?_ av,λi ah=>?_⟩;.refine List.eq_nil_iff_forall_not_mem.2 λi ah=>?_;have:=(Ze aj aH (Fq ah)).2 ah;rw[au]at this;cases this
  by_cases sI:i<ops.size;.have jB:=(Ze aj aH sI).1 ah;have ab:=a6.2 i jB;obtain⟨_,fv,aG,_⟩:=xbK.1 jB;unfold hY at ab;simp only[aG]at ab;rw[akT aj sI];refine wpOp_mono ?_ (PV bf c6 h cc hD aG (g2 fv (Array.mem_of_getElem? aG)) ab);rintro cD w' ⟨aW,cI,cX,bA,bB,cz,ey,fk,hh⟩;rw[akX (by omega)];refine ih _ cI cX aW cD w' (by simp[aH]) (akO aH hinv jB) (c6.mono bB) cz ey fk bA ?_;rintro pq k1 ⟨rh,yh,yi,dE,di,eY,jn,lu,pr⟩;exact hp pq k1 ⟨rh,yh,yi,dE,Mem.le_trans bB di,eY,jn,lu,hh.trans pr⟩
  refine absurd (Zf aH λj aN=>?_) av;have:=Rl (by simp[aH]) (ar i (by omega) (Fq ah)) ak0 ah i j (by omega) (by omega)
  rwa [BQ (by omega)]at this
end
def ak1{P:Program}{T:ch}{G:dr}{N:Nat}{σ:aI}{Q:Exit->aI->Prop}(bf:dN P T)(hm:P.follows .mixedOrders=true){id:Nat}{ops hN:Array Oper}(cc:wx N ops=true)(aj:Rj (ops++hN) ops.size=true) {K:aI->Prop} (fj:∀aW,K aW->oI P G N (ops++hN) ops.size hN.toList (Q .normal) aW) (h:jl P T G ops K ops.size (Array.replicate ops.size false) σ):hq P T G N (.region id (ops++hN) true) σ Q:=by
 intro m fr ρ a w c6 c2 nQ aA;refine wp_region_any hm ?_;simp only[Rj,xal]at aj;have e:Array.replicate (ops++hN).size false=Array.replicate ops.size false++Array.replicate hN.size false:=by rw[Array.size_append,Array.replicate_append_replicate]
 rw[e,Array.size_append];refine akY (m:=m) (fr:=fr) (N:=N) (T:=T) bf aj.1 (λj ab af=>?_) (wy cc) ops.size _ m ρ σ a _ (by simp) ?_ c6 (c2.drew _) nQ aA h ?_;.have:=xaz.1 aj.2 j (xbX.2 af);simp only[xbd,xaC]at this;exact this.resolve_left (by omega)
 .intro j o' aG aN;have:=(xaT.1 aG).1;simp[Array.getD,this]at aN
 rintro cD w' ⟨aW,cI,cX,bA,bB,cz,ey,fk,hh⟩;have:=fj aW bA cI fr cX cD w' (λe cD w'=>ja N m fr ρ σ (Q e) cD w') (c6.mono bB) cz ey fk (λpq k1 av=>av.trans bB hh);simpa using this
section
variable{β:Type}
def bp(f:List D->Option (List D⊕β)):Nat->List D->Option β
 |0,_=>none|n+1,ls=>aa (f ls) λx=>match x with| .inl fx=>bp f n fx| .inr b=>some b
end
def wU:Code->Nat
 | .region id _ _=>id| .seq x _=>wU x| .cond _ x _=>wU x| .block _ c=>wU c| .loop c=>wU c| .scope c=>wU c|_=>0
def ak2(c:Tmp)(x y:Code):Nat:=(c*1000+wU y)*1000+wU x
structure ns where
 T:ch
 G:dr
 C:lU
 n:Nat
 ib:List Key
 loops:Nat->Option rp
 ak3:Nat->Option rp
 blocks:Nat->Option rp
 qq:Nat->Option (List Nat)
 H:wT
 ko:Tmp->Bool
 pre:Nat->List (List Key)
def a0{β:Type}(b:Option β):Option (List D⊕β):=aa b λb=>some (.inr b)
def a9{β:Type}(f:List D->Option β):List D⊕β->Option β
 | .inl ls=>f ls| .inr b=>some b
def Rm{β:Type}(ib:List Key)(gm:rp)(run:(Exit->aI->Option (List D⊕β))->Option (List D⊕β))(k:Exit->aI->Option β):Option β:=aa (run λe aW=>match e with| .normal=>sY ib gm aW λls=>some (.inl ls)|e=>a0 (k e aW)) (a9 λls=>k .normal (restore gm ls))
def Ft{β:Type}(id:Nat)(k:Exit->aI->Option β)(e:Exit)(σ:aI):Option β:=match e with
 | .exit uD=>if uD=id then k .normal σ else k (.exit uD) σ
 |e=>k e σ
def ak4{β:Type}(k:Exit->aI->Option β)(e:Exit)(σ:aI):Option β:=match e with| .goto _=>none|e=>k e σ
def exec(X:ns):Code->{β:Type}->aI->(Exit->aI->Option β)->Option β
 | .skip,_,σ,k=>k .normal σ| .label _,_,σ,k=>k .normal σ| .scope c,_,σ,k=>exec X c σ (ak4 k)| .exit id,_,σ,k=>k (.exit id) σ| .ret,_,σ,k=>k .ret σ
 | .region id ops d,_,σ,k=>yB (X.pre id) σ λσ=>match X.qq id with
  |none=>match d with|true=>Yp X.T X.G X.C ops σ λaW=>k .normal aW|false=>Y5 X.T X.G X.C X.H X.ko ops σ λaW=>k .normal aW
  |some ord=>if d=true/\ord.length=ops.size then BD X.T X.G X.C ops ord (Array.replicate ops.size false) σ λaW=>k .normal aW
   else if d=true/\ord.length<=ops.size/\Rj ops ord.length=true then BD X.T X.G X.C (ops.extract 0 ord.length) ord (Array.replicate ord.length false) σ λaW=>yH X.T X.G X.C X.H X.ko ops (wG (ops.extract ord.length ops.size).toList) aW λrh=>k .normal rh
   else none
 | .seq x y,_,σ,k=>exec X x σ λe aW=>match e with| .normal=>exec X y aW k|e=>k e aW
 | .cond (.tmp c) x y,_,σ,k=>match σ.aK c with
  | .d a=>match X.ak3 (ak2 c x y)with|none=>aE a (exec X x σ k) (exec X y σ k)|some gm=>Rm X.ib gm (λbs=>aE a (exec X x σ bs) (exec X y σ bs)) k
  |_=>none
 | .block id c,_,σ,k=>match X.blocks id with|none=>exec X c σ (Ft id k)|some gm=>Rm X.ib gm (λbs=>exec X c σ (Ft id bs)) k
 | .loop c,_,σ,k=>match X.loops (wU c)with|none=>none|some gm=>sY X.ib gm σ λRn=>bp (λls=>exec X c (restore gm ls) λe aW=>match e with| .normal=>sY X.ib gm aW λfx=>some (.inl fx)|e=>a0 (k e aW)) X.n Rn
 | .cond (.const v) x y,_,σ,k=>match v with| .bool true=>exec X x σ k| .bool false=>exec X y σ k|_=>none
 |_,_,_,_=>none
section
variable{P:Program}{T:ch}{G:dr}{N:Nat}{σ:aI}{all:Array Oper}{ib:List Key}
def Zl{K K':aI->Prop}(ak:∀σ,K σ->K' σ):∀(fuel:Nat){listed:Array Bool}{σ:aI},jl P T G all K fuel listed σ->jl P T G all K' fuel listed σ
 |0,_,_,h=>⟨h.1,ak _ h.2⟩|fuel+1,_,_,h=>⟨λau=>ak _ (h.1 au),λi ah=>wq (λ_ bD=>Zl ak fuel bD) (h.2 i ah)⟩
def Fu{K:aI->Prop}(aA:∀o∈all,∀d,o.dst=some d->d<10000):∀(fuel:Nat){listed:Array Bool}{σ:aI},fP ib σ->jl P T G all K fuel listed σ->jl P T G all (λaW=>fP ib aW/\K aW) fuel listed σ
 |0,_,_,bO,h=>⟨h.1,bO,h.2⟩
 |fuel+1,_,σ,bO,h=>by
  refine⟨λau=>⟨bO,h.1 au⟩,λi ah=>?_⟩;have ab:=h.2 i ah;unfold hY at ab⊢;split at ab
  .exact Fu aA fuel bO ab
  rename_i o aG;rw[hM]at ab⊢;have yL:=aA o (Array.mem_of_getElem? aG);cases hw:j2 all σ o with|none=>rw[hw]at ab;exact ab|some w=>rw[hw]at ab;cases w with|true=>exact qj (λaW ⟨af,aw⟩=>Fu aA fuel af aw) (Y6 bO yL ab)|false=>exact Fu aA fuel bO.put ab
def ak5{Q:Exit->aI->Prop}(bf:dN P T)(hm:P.follows .mixedOrders=true){id:Nat}{ops:Array Oper}(cc:wx N ops=true) (h:jl P T G ops (Q .normal) ops.size (Array.replicate ops.size false) σ):hq P T G N (.region id ops true) σ Q:=by intro m fr ρ a w c6 c2 nQ aA;refine wp_region_any hm ?_;exact P4 (m:=m) (fr:=fr) (N:=N) (Q:=λe cD w'=>ja N m fr ρ σ (Q e) cD w') bf (wy cc) ops.size _ m ρ σ a _ c6 (c2.drew _) nQ aA h (λcD w' av=>av)
def pC(T:ch)(os:Nat->Option (List Nat))(N:Nat):Code->Bool
 | .region id ops d=>wx N ops&&(!d||(os id).isSome||yg T ops (List.range ops.size) (Array.replicate ops.size false))| .seq x y=>pC T os N x&&pC T os N y| .cond _ x y=>pC T os N x&&pC T os N y| .block _ c=>pC T os N c| .loop c=>pC T os N c| .scope c=>pC T os N c|_=>true
def nX{β:Type}(ib:List Key)(k:Exit->aI->Option β)(b:β)(e:Exit)(σ:aI):Prop:=∃τ,g3 σ τ/\fP ib τ/\k e τ=some b
def Zm{β:Type}{x:Option β}{y:List D⊕β}(h:a0 x=some y):∃b,x=some b/\y= .inr b:=by obtain⟨b,ab,af⟩:=fw h;exact⟨b,ab,(xaV af).symm⟩
def Zn{β:Type}{gm:rp}{c:Code}{run:(Exit->aI->Option (List D⊕β))->Option (List D⊕β)}{k:Exit->aI->Option β}{b:β} (hW:∀bs b',run bs=some b'->hq P T G N c σ (nX ib bs b')) (h:Rm ib gm run k=some b):hq P T G N c σ (nX ib k b):=by
 obtain⟨x,ab,af⟩:=fw h;refine Bp (hW _ _ ab) ?_;rintro e aW ⟨τ,aV,a2,bb⟩;have other:∀dw,e=dw->a0 (k dw τ)=some x->nX ib k b e aW:=by rintro dw rfl aw;obtain⟨b',a5,rfl⟩:=Zm aw;cases af;exact⟨τ,aV,a2,a5⟩
 cases e with
 |normal=>obtain⟨ls,bA,bB,cz⟩:=Lb a2 bb;cases cz;exact⟨_,aV.trans bA,bB,af⟩
 |exit id=>exact other _ rfl bb|goto l=>exact other _ rfl bb|ret=>exact other _ rfl bb|panic c=>exact other _ rfl bb|outgrown=>exact other _ rfl bb
def ak6{β:Type}{f:List D->Option (List D⊕β)}{n:Nat}{ls:List D}{b:β}(h:bp f n ls=some b):∃m,n=m+1/\((∃fx,f ls=some (.inl fx)/\bp f m fx=some b)\/f ls=some (.inr b)):=by
 cases n with
 |zero=>cases h
 |succ m=>obtain⟨x,ab,af⟩:=fw h;refine⟨m,rfl,?_⟩;cases x with|inl fx=>exact .inl ⟨fx,ab,af⟩|inr b'=>cases af;exact .inr ab
def nX.block{β:Type}{id:Nat}{k:Exit->aI->Option β}{b:β}{e:Exit}{σ:aI}(h:nX ib (Ft id k) b e σ):EL id (nX ib k b) e σ:=by
 obtain⟨τ,aV,a2,bb⟩:=h;cases e with
 |exit uD=>
  simp only[EL];unfold Ft at bb;by_cases ah:uD=id;.simp only[ah,xaH]at bb⊢;exact⟨τ,aV,a2,bb⟩
  simp only[ah,xaI]at bb⊢;exact⟨τ,aV,a2,bb⟩
 |normal=>exact⟨τ,aV,a2,bb⟩|goto l=>exact⟨τ,aV,a2,bb⟩|ret=>exact⟨τ,aV,a2,bb⟩|panic c=>exact⟨τ,aV,a2,bb⟩|outgrown=>exact⟨τ,aV,a2,bb⟩
def ry(X:ns)(bf:dN P X.T)(cf:hs P X.G X.C)(gn:k5 P X.G X.H)(hm:P.follows .mixedOrders=true)(cc:N<10000):∀(c:Code){β:Type}{σ:aI}{k:Exit->aI->Option β}{b:β},pC X.T X.qq N c=true->fP X.ib σ->exec X c σ k=some b->hq P X.T X.G N c σ (nX X.ib k b)
 | .skip,β,σ,k,b,_,bO,h=>aij ⟨σ,g3.refl σ,bO,h⟩| .label l,β,σ,k,b,_,bO,h=>aik ⟨σ,g3.refl σ,bO,h⟩| .exit id,β,σ,k,b,_,bO,h=>ail ⟨σ,g3.refl σ,bO,h⟩| .ret,β,σ,k,b,_,bO,h=>aim ⟨σ,g3.refl σ,bO,h⟩
 | .region id ops d,β,σ,k,b,bk,bO,h=>by
  simp only[pC,xal,xbd,xcb]at bk;have g2:∀o∈ops.toList,∀d,o.dst=some d->d<10000:=λo aG d aA=>Nat.lt_trans (wy bk.1 o (by simpa using aG) d aA) cc;have Ro:∀aW,fP X.ib aW/\k .normal aW=some b->nX X.ib k b .normal aW:=λaW bD=>⟨aW,g3.refl aW,bD⟩;unfold exec at h;have ag:=Fi bO h;clear h bO;obtain⟨σ,ak7,bO,h⟩:=ag;refine P5 ak7 ?_;split at h
  .rename_i Bq;split at h
   .have ab:=ajY (P:=P) (all:=ops) (σ:=σ) cf (K:=λaW=>∃τ,oB aW τ/\k .normal τ=some b) (λσ τ hw ⟨yj,ab,af⟩=>⟨yj,hw.trans ab,af⟩) (λaW bD=>⟨aW,oB.refl _,bD⟩) h;have af:fT P X.T X.G ops ops.toList (nX X.ib k b .normal) σ:=by
     refine mX ?_ (Q9 bO g2 ab);rintro aW ⟨aV,τ,a2,bb⟩;refine⟨τ,a2.E1,?_,bb⟩;intro j aN aj;rw[<-a2.1]at aj;exact aV j aN aj
    exact aiL bf hm bk.1 (bk.2.resolve_left (by simp[Bq])) af
   have ab:=akK (P:=P) (all:=ops) (σ:=σ) bf cf gn cc (λo aG d aA=>wy bk.1 o (by simpa using aG) d aA) bO h;exact akL (λm fr ρ a w Q c6 c2 nQ aA hp=>ab m fr ρ a w Q c6 c2 nQ aA (λcD w' av=>hp cD w' (av.mono Ro)))
  rename_i ord Bq;split at h
  case isFalse=>
   split at h
   case isFalse=>cases h
   rename_i ao;obtain⟨rfl,b5,Zo⟩:=ao;have lA:ops=ops.extract 0 ord.length++ops.extract ord.length ops.size:=by rw[Array.extract_append_extract,Nat.max_eq_right b5];simp
   have qb:ord.length=(ops.extract 0 ord.length).size:=by simp;omega
   have ab:=QK (P:=P) cf ord _ σ h;generalize ops.extract 0 ord.length=dm at*;generalize ops.extract ord.length ops.size=A5 at*;subst lA;rw[qb]at ab;have nY:wx N dm=true:=by have:=bk.1;unfold wx at this⊢;simp only[Array.toList_append,List.all_append,xal]at this;exact this.1
   rw[qb]at Zo;refine ak1 bf hm nY Zo ?_ (Fu (λo aG d aA=>Nat.lt_trans (wy nY o aG d aA) cc) _ bO ab);rintro aW ⟨Rd,ag⟩;have af:=Fk (P:=P) (N:=N) (ib:=X.ib) (all:=dm++A5) (i:=dm.size) bf cf gn cc (K:=nX X.ib k b .normal) (λg hm o aG=>K3 _ _ _ hm o aG) (by rw[wK];intro o' aG d aA;exact wy bk.1 _ (by simp at aG⊢;exact .inr aG) d aA) (by rw[wK];intro j;rw[Array.getElem?_append_right (by omega)];simp) Rd (λrh ab af=>Ro rh ⟨ab,af⟩) ag
   rwa [wK]at af
  rename_i ao;obtain⟨rfl,b5⟩:=ao;have ab:=QK (P:=P) cf ord _ σ h;rw[b5]at ab;exact ak5 bf hm bk.1 (Zl Ro _ (Fu (λo aG d aA=>Nat.lt_trans (wy bk.1 o aG d aA) cc) _ bO ab))
 | .seq x y,β,σ,k,b,bk,bO,h=>by simp only[pC,xal]at bk;refine ain (Bp (ry X bf cf gn hm cc x bk.1 bO h) ?_);rintro e aW ⟨τ,aV,a2,bb⟩;cases e with|normal=>simp only[KE];refine P5 aV (ry X bf cf gn hm cc y bk.2 a2 bb)|exit id=>exact⟨τ,aV,a2,bb⟩|goto l=>exact⟨τ,aV,a2,bb⟩|ret=>exact⟨τ,aV,a2,bb⟩|panic c=>exact⟨τ,aV,a2,bb⟩|outgrown=>exact⟨τ,aV,a2,bb⟩
 | .cond c x y,β,σ,k,b,bk,bO,h=>by
  simp only[pC,xal]at bk;cases c with
  |tmp c=>
   unfold exec at h;split at h
   case h_2=>cases h
   rename_i a aF;have two:∀{β:Type}(bs:Exit->aI->Option β)(b':β),aE a (exec X x σ bs) (exec X y σ bs)=some b'->hq P X.T X.G N (.cond (.tmp c) x y) σ (nX X.ib bs b'):=by
    intro β bs b' h;rcases X8 h with⟨rfl,ab⟩|⟨rfl,ab⟩
    .exact KF (b:=true) aF (by rw[xad rfl];exact ry X bf cf gn hm cc x bk.1 bO ab)
    exact KF (b:=false) aF (by rw[xaa (by simp)];exact ry X bf cf gn hm cc y bk.2 bO ab)
   split at h;.exact two k b h
   exact Zn (λbs b' bD=>two bs b' bD) h
  |const v=>
   unfold exec at h;split at h;.exact KF (b:=true) rfl (by rw[xad rfl];exact ry X bf cf gn hm cc x bk.1 bO h)
   .exact KF (b:=false) rfl (by rw[xaa (by simp)];exact ry X bf cf gn hm cc y bk.2 bO h)
   cases h
  |global g=>cases h
  |func f=>cases h
 | .block id c,β,σ,k,b,bk,bO,h=>by
  have one:∀{β:Type}(bs:Exit->aI->Option β)(b':β),exec X c σ (Ft id bs)=some b'->hq P X.T X.G N (.block id c) σ (nX X.ib bs b'):=by intro β bs b' h;exact aiq (Bp (ry X bf cf gn hm cc c bk bO h) (λe aW bD=>bD.block))
  unfold exec at h;split at h;.exact one k b h
  exact Zn (λbs b' bD=>one bs b' bD) h
 | .loop c,β,σ,k,b,bk,bO,h=>by
  unfold exec at h;split at h
  case h_1=>cases h
  rename_i gm Lo;obtain⟨Rn,aJ,aZ,bN⟩:=Lb bO h;generalize bd:(λls=>exec X c (restore gm ls) λe aW=>match e with| .normal=>sY X.ib gm aW λfx=>some (Sum.inl fx)|e=>a0 (k e aW))=f at bN;refine aiA (ι:={p:List D×Nat//bp f p.2 p.1=some b/\fP X.ib (restore gm p.1)}) (λp=>restore gm p.1.1) (λp=>p.1.2) ⟨(Rn,X.n),bN,aZ⟩ aJ ?_;rintro⟨⟨ls,n⟩,Zp,hH⟩;simp only at Zp hH⊢;obtain⟨m,rfl,aw⟩:=ak6 Zp;have round:∀x,f ls=some x->hq P X.T X.G N c (restore gm ls) (nX X.ib (λe aW=>match e with| .normal=>sY X.ib gm aW λfx=>some (Sum.inl fx)|e=>a0 (k e aW)) x):=by intro x ag;rw[<-bd]at ag;exact ry X bf cf gn hm cc c bk hH ag
  have go:∀x,f ls=some x->(∀fx,x= .inl fx->bp f m fx=some b)->(∀b',x= .inr b'->b'=b)->hq P X.T X.G N c (restore gm ls) (KE (λaW=>∃j:{p:List D×Nat//bp f p.2 p.1=some b/\fP X.ib (restore gm p.1)},g3 aW (restore gm j.1.1)/\j.1.2<m+1) (nX X.ib k b)):=by
   intro x ag ar av;refine Bp (round x ag) ?_;rintro e aW ⟨τ,aV,a2,bb⟩;have other:∀dw,e=dw->a0 (k dw τ)=some x->nX X.ib k b e aW:=by rintro dw rfl aw;obtain⟨b',a5,rfl⟩:=Zm aw;rw[av b' rfl]at a5;exact⟨τ,aV,a2,a5⟩
   cases e with
   |normal=>obtain⟨fx,bA,bB,cz⟩:=Lb a2 bb;cases cz;exact⟨⟨(fx,m),ar fx rfl,bB⟩,aV.trans bA,Nat.lt_succ_self m⟩
   |exit id=>exact other _ rfl bb|goto l=>exact other _ rfl bb|ret=>exact other _ rfl bb|panic c=>exact other _ rfl bb|outgrown=>exact other _ rfl bb
  rcases aw with⟨fx,a5,ca⟩|a5;.exact go _ a5 (by rintro _ ⟨⟩;exact ca) (by rintro _ ⟨⟩)
  exact go _ a5 (by rintro _ ⟨⟩) (by rintro _ ⟨⟩;rfl)
 | .rangeFunc _ _ _ _,β,σ,k,b,_,bO,h=>by cases h
 | .scope c,β,σ,k,b,bk,bO,h=>aip (Bp (ry X bf cf gn hm cc c (by simpa[pC]using bk) bO h) (by
   rintro e aW ⟨τ,aV,a2,bb⟩;cases e with
   |goto l=>cases bb
   |normal=>exact⟨τ,aV,a2,bb⟩|exit id=>exact⟨τ,aV,a2,bb⟩|ret=>exact⟨τ,aV,a2,bb⟩|panic c=>exact⟨τ,aV,a2,bb⟩|outgrown=>exact⟨τ,aV,a2,bb⟩))
 | .goto _,β,σ,k,b,_,bO,h=>by cases h
 | .refuse _,β,σ,k,b,_,bO,h=>by cases h
end
def Zq{P:Program}{T:ch}{G:dr}{N:Nat}{c:Code}{σ:aI}{Q:Exit->aI->Prop}(h:hq P T G N c σ (λe aW=>∃τ,g3 aW τ/\Q e τ)):hq P T G N c σ Q:=by intro m fr ρ a w c6 c2 cc aA;refine wp_mono (h m fr ρ a w c6 c2 cc aA) ?_;rintro e cD w' ⟨aW,cI,cX,⟨τ,kh,hp⟩,af,aw,a5,ca,cP⟩;obtain⟨yh,yi,aV,a2,bb⟩:=kh cI fr cX cD w' aw;exact⟨τ,yh,yi,hp,Mem.le_trans af aV,a2,a5,ca,cP.trans bb⟩
def ak8(T:ch)(rs:List ResultVar)(e:Exit)(σ:aI):Option D:=match e with| .normal=>aa (ri T σ rs) (toD σ.objs)| .ret=>aa (ri T σ rs) (toD σ.objs)|_=>none
def uS(X:ns)(fn:Func)(args:List aS):Option D:=match fn.body with|some c=>exec X c (start args λ_=>none) (ak8 X.T fn.results.toList)|none=>none
def nZ(T:ch)(os:Nat->Option (List Nat))(fn:Func):Bool:=match fn.body with|some c=>pC T os fn.ntmps c&&decide (fn.ntmps<10000)&&!(fn.name== "runtime.NumGoroutine")|none=>false
def ak9{xs dm:List aS}(h:jM (λk=>k) (λ_=>False) xs dm):g3 (start xs λ_=>none) (start dm λ_=>none):=by
 intro m fr ρ a w c2;refine⟨m,ρ,Mem.le_refl m,⟨c2.mem,c2.frame,c2.apart,?_,?_,?_,?_,?_⟩,?_⟩;.rintro k ⟨o,aG⟩;cases aG
 .intro t;have ab:=c2.aK t;obtain⟨af,aw⟩:=h.ok;simp only[start]at ab⊢;cases aP:dm[t]? with
  |none=>rw[xaM,aP];exact .any _
  |some y=>
   obtain⟨x,ag,hle⟩:=aw t y aP;rw[xaM,ag]at ab;rw[xaM,aP];have a5:ps (λk=>k) (aI.used (start dm λ_=>none)) x y:=by unfold ps at hle⊢;split at hle<;>first|exact hle|(exact absurd hle.2 id)
   exact a5.ok (ρ:=ρ) ab
 .intro k o ak;cases ak
 .intro k o b ak;cases ak
 .intro k bs o o' b _ ak;cases ak
 intro k _ ao;exact absurd ao ux
def ala{P:Program}(X:ns)(bf:dN P X.T)(cf:hs P X.G X.C)(gn:k5 P X.G X.H)(hm:P.follows .mixedOrders=true)(js:X.ib=[]){f:FuncId}{fn:Func}(bd:P.funcs[f]?=some fn)(bk:nZ X.T X.qq fn=true){aO:List D}{as:List aS}(hle:jM (λk=>k) (λ_=>False) (aO.map .d) as)(b5:decide (aO.length<=fn.ntmps)=true){r:D} (h:uS X fn as=some r):ez P X.G f aO (·=r):=by
 have b5:=xba b5;unfold uS at h;unfold nZ at bk;split at h
 case h_2=>cases h
 rename_i c aj;simp only[aj,xal,xaC,xcb]at bk;refine aiD bf bd aj bk.2 b5 ?_;refine P5 (ak9 hle) ?_;refine Zq (Bp (ry X bf cf gn hm bk.1.2 c bk.1.1 (by intro k _ ao;exact absurd ao ux) h) ?_);rintro e aW ⟨τ,aV,a2,bb⟩;have fin:aa (ri X.T τ fn.results.toList) (toD τ.objs)=some r->∃Zr d x,ri X.T τ fn.results.toList=some Zr/\toD τ.objs Zr=some d/\d.le x/\x=r:=by intro ab;obtain⟨u,af,aw⟩:=fw ab;exact⟨u,r,r,af,aw,D.le_refl _,rfl⟩
 refine⟨τ,aV,?_⟩;cases e with
 |normal=>exact⟨.inl rfl,fin bb⟩|ret=>exact⟨.inr rfl,fin bb⟩|exit id=>cases bb
 |goto l=>cases bb
 |panic c=>cases bb
 |outgrown=>cases bb
def Lp(s:fC)(ls:List D):aI:=⟨λt=>(s.wQ ls).getD t .any,fB (s.nV ls)⟩
def alb(X:ns)(s:fC)(pz:List wL)(rs:List ResultVar)(e:Exit)(σ:aI):Option (List D):=match e with
 | .normal=>aa (ri X.T σ rs) λx=>sY X.ib ⟨[(0,s.res)],s.outs,pz⟩ ⟨λt=>if t=0 then x else .any,σ.objs⟩ some
 | .ret=>aa (ri X.T σ rs) λx=>sY X.ib ⟨[(0,s.res)],s.outs,pz⟩ ⟨λt=>if t=0 then x else .any,σ.objs⟩ some
 |_=>none
def Rp(X:ns)(fn:Func)(s:fC)(pz:List wL)(ls:List D):Option (List D):=match fn.body with|some c=>exec X c (Lp s ls) (alb X s pz fn.results.toList)|none=>none
def alc{P:Program}(X:ns)(bf:dN P X.T)(cf:hs P X.G X.C)(gn:k5 P X.G X.H)(hm:P.follows .mixedOrders=true){s:fC}{fn:Func}(bd:P.funcs[s.f]?=some fn)(bk:nZ X.T X.qq fn=true)(b5:decide (s.args.length<=fn.ntmps)=true) (js:(s.ins.all λp=>decide (p.1<10000)||X.ib.contains p.1)=true) {pz:List wL} {F:List D->Option (List D)} (h:∀ls fx,F ls=some fx->Rp X fn s pz ls=some fx):eB P X.G s F:=by
 have b5:=xba b5;unfold nZ at bk;split at bk
 case h_2=>cases bk
 rename_i c aj;simp only[xal,xaC,xcb]at bk;refine⟨⟨fn,bd,bk.2,by rw[aj];rfl⟩,?_⟩;intro ls fx hi m fr ρ w vs c6 c2 ar J0;have ag:=h ls fx hi;unfold Rp at ag;rw[aj]at ag;simp only at ag;have fy:(s.wQ ls).length=s.args.length:=by
  have:∀(l:List lB)(n:Nat),(rq ls l n).1.length=l.length:=by
   intro l
   induction l with
   |nil=>intro n;rfl
   |cons x r ih=>intro n;simp[rq,ih]
  exact this _ _
 have ald:fP X.ib (Lp s ls):=by
  intro k ak aj;obtain⟨cs,hL⟩:=Bh aj;have:=wB hL;have ab:mq (s.nV ls)=s.ins.map (·.1):=yz _ _ _;rw[ab]at this;obtain⟨p,aU,rfl⟩:=xax.1 this;have af:=xaz.1 js p aU;simp only[xbd,xaC,List.contains_eq_mem]at af;rcases af with af|af
  .exact absurd af (Nat.not_lt.2 ak)
  exact af
 have hw:=ry X bf cf gn hm bk.1.2 c bk.1.1 ald ag;refine calls_of_wp bd aj ?_;have EN:Den m fr ρ (Lp s ls) {tmps:=vs.toArray++Array.replicate (fn.ntmps-vs.toArray.size) undef,defers:=[]} w:=by
  refine⟨c2.mem,c2.frame,c2.apart,c2.one,?_,c2.objs,c2.own,c2.sep⟩;intro t;simp only[Lp];by_cases aM:t<vs.length
  .have cu:t<(s.wQ ls).length:=by rw[<-ar];exact aM
   have aA:=xab cu;have a6:=xab aM;have aJ:(s.wQ ls).getD t .any=(s.wQ ls)[t]:=by rw[xaM,aA];rfl
   have aZ:(vs.toArray++Array.replicate (fn.ntmps-vs.toArray.size) undef).getD t undef=vs[t]:=by rw[xbu,xbI (by simpa using aM)];simp[aM]
   rw[aJ,aZ];exact J0 t _ _ aA a6
  have aJ:(s.wQ ls).getD t .any= .any:=by rw[xaM,xbn (by omega)];rfl
  rw[aJ];exact .any _
 have gQ:fn.ntmps<=(vs.toArray++Array.replicate (fn.ntmps-vs.toArray.size) undef).size:=by simp;omega
 refine wp_mono (Zq hw m fr ρ _ w c6 EN gQ rfl) ?_;rintro e cD w' ⟨aW,cI,cX,⟨a2,bb⟩,ca,cP,gE,hZ,jL⟩;have fin:(aa (ri X.T aW fn.results.toList) λx=>sY X.ib ⟨[(0,s.res)],s.outs,pz⟩ ⟨λt=>if t=0 then x else .any,aW.objs⟩ some)=some fx->cD.defers=[]/\∃v,(results fn cD.tmps).run P w'= .ok v w'/\∃v1 gx np,Ending.returned v= .returned v1/\m.le gx/\Lf gx fr np (fB (s.pB fx)) w'/\b7 gx np (rr (fB (s.pB fx))) (s.Lg fx) v1/\∀k,10000<=k->e2 (fB (s.nV ls) k)->np k=ρ k:=by
  intro ab;obtain⟨x,af,aw⟩:=fw ab;obtain⟨v,bA,bB⟩:=XG (P:=P) bf cP af;obtain⟨aAu,e8,ef,jK⟩:=Lb (σ:=⟨λt=>if t=0 then x else .any,aW.objs⟩) a2 aw;cases jK;have ale:Den cI fr cX ⟨λt=>if t=0 then x else .any,aW.objs⟩ {tmps:= #[v],defers:=[]} w':=by
   refine⟨cP.mem,cP.frame,cP.apart,cP.one,?_,cP.objs,cP.own,cP.sep⟩;intro t;by_cases aM:t=0;.subst aM;exact bB
   simp only[aM,xaI];exact .any _
  obtain⟨kk,lq,t1,t2,t3⟩:=e8 cI fr cX _ w' ale;have alf:=t2.aK 0;refine⟨hZ,v,bA,v,kk,lq,rfl,Mem.le_trans ca t1,⟨t2.mem,t2.frame,t2.apart,t2.one,λ_=> .any _,t2.objs,t2.own,t2.sep⟩,?_,?_⟩
  .exact alf
  intro k ak alg;obtain⟨qa,pc⟩:=jL k ak alg;rw[(t3 k ak qa).2,pc]
 cases e with
 |normal=>exact fin bb|ret=>exact fin bb|exit id=>cases bb
 |goto l=>cases bb
 |panic c=>cases bb
 |outgrown=>cases bb
def alh{P:Program}{T:ch}{os:Nat->Option (List Nat)}{f:FuncId}{fn:Func}(bd:P.funcs[f]?=some fn)(bk:nZ T os fn=true):wc P f:=by
 unfold nZ at bk;split at bk
 case h_2=>cases bk
 rename_i c aj;simp only[xal,xaC,xcb]at bk;exact⟨fn,bd,bk.2,by rw[aj];rfl⟩
def wV{P:Program}{G:dr}{s:fC}{F:List D->Option (List D)}(wW:wc P s.f)(h:∀ls,F ls=none):eB P G s F:=⟨wW,λls fx bD=>by rw[h]at bD;cases bD⟩
def en:List (Tmp×BL)->wT
 |[],_=>none|(t',e)::r,t=>if t=t' then some e else en r t
def ali{P:Program}{G:dr}:k5 P G (en []):=by intro t e h;cases h
def alj{P:Program}{G:dr}{t:Tmp}{e:BL}{l:List (Tmp×BL)}(h:eB P G e.s e.F)(bD:k5 P G (en l)):k5 P G (en ((t,e)::l)):=by
 intro t' dw he;unfold en at he;split at he;.cases he;exact h
 exact bD t' dw he
def eJ:List (Nat×List (List Key))->Nat->List (List Key)
 |[],_=>[]|(j,s)::r,k=>if k=j then s else eJ r k
def eP(l:List Tmp)(t:Tmp):Bool:=l.contains t
def eo:List (FuncId×(List D->Option D))->lU
 |[],_,_,_=>none|(kG,F)::r,d,f,aO=>if f=kG then F aO else eo r d f aO
def bw(P:Program)(G:dr)(f:FuncId)(F:List D->Option D):Prop:=∀aO r,F aO=some r->ez P G f aO (·=r)
def alk{P:Program}{G:dr}:hs P G (eo []):=by intro d f aO r h;cases h
def alm{P:Program}{G:dr}{f:FuncId}{F:List D->Option D}{l:List (FuncId×(List D->Option D))}(h:bw P G f F)(bD:hs P G (eo l)):hs P G (eo ((f,F)::l)):=by
 intro d kG aO r av;unfold eo at av;split at av;.rename_i e;subst e;exact h aO r av
 exact bD d kG aO r av
def bU:List (Nat×rp)->Nat->Option rp
 |[],_=>none|(j,s)::r,k=>if k=j then some s else bU r k
def eK:List (Nat×List Nat)->Nat->Option (List Nat)
 |[],_=>none|(j,s)::r,k=>if k=j then some s else eK r k
def yM(f:FuncId)(x:D):Bool:=match x with| .val (.func (.func kG) a b)=>kG==f&&a.size==0&&b.size==0|_=>false
def Rq{f:FuncId}{x:D}(h:yM f x=true):x= .val (.func (.func f) #[] #[]):=by
 unfold yM at h;split at h;.rename_i kG a b;simp only[xal,xbz]at h;obtain⟨⟨rfl,ab⟩,af⟩:=h;rw[xbf ab,xbf af]
 cases h
def hO(f:FuncId)(x:D):Option (List D):=match x with
 | .fn (.func kG) first oA=>if kG=f/\first.isEmpty=true then some oA else none
 |_=>none
def lZ{f:FuncId}{x:D}{oA:List D}(h:hO f x=some oA):x= .fn (.func f) [] oA:=by
 unfold hO at h;split at h
 .split at h;.rename_i ao;cases h;rw[ao.1,List.isEmpty_iff.1 ao.2]
  cases h
 cases h
def le_nil:jM (λk=>k) (λ_=>False) (List.map aS.d []) []:=trivial
def n0{x:D}{y:aS}{xs:List D}{dm:List aS}(h:ps (λk=>k) (λ_=>False) (.d x) y)(bD:jM (λk=>k) (λ_=>False) (List.map aS.d xs) dm):jM (λk=>k) (λ_=>False) (List.map aS.d (x::xs)) (y::dm):=⟨h,bD⟩
def aln{x:D}:ps (λk=>k) (λ_=>False) (.d x) (.d x):=⟨x,rfl,D.le_refl x⟩
theorem oJ{c:List D}{o:Nat}:ps (λk=>k) (λ_=>False) (.d (.ref c o)) (.ew c o):= .inr rfl
def al(t:Nat):Nat×lB:=(t,.b .d)
def sp(t:Nat):Nat×lB:=(t,.b (.ptr t 0))
def bX(t k:Nat):Nat×lB:=(t,.b (.row k))
def a7(k n:Nat):Key×lW:=(k,.box (List.replicate n (.b .d)))
def bq(k n:Nat):Key×lW:=(k,.row n)
def alo(P:Program)(G:dr)(n:Nat)(c:List (FuncId×(List D->Option D)))(l j b:List (Nat×rp)):ns:=⟨dZ P,G,eo c,n,[],bU l,bU j,bU b,eK [],en [],eP [],eJ []⟩
def e4{P:Program}(X:ns)(bf:dN P X.T)(cf:hs P X.G X.C)(gn:k5 P X.G X.H)(hm:P.follows .mixedOrders=true){f:FuncId}{fn:Func}(bd:P.funcs[f]?=some fn){aO:List D}{as:List aS}(hle:jM (λk=>k) (λ_=>False) (aO.map .d) as) {o:Option D} {r:D} (h:o=some r) (js:X.ib=[]:=by rfl) (bk:nZ X.T X.qq fn=true:=by kernel_rfl) (b5:decide (aO.length<=fn.ntmps)=true:=by kernel_rfl) (he:uS X fn as=o:=by kernel_rfl):ez P X.G f aO (·=r):=ala X bf cf gn hm js bd bk hle b5 (he.trans h)
def h0{P:Program}(X:ns)(bf:dN P X.T)(cf:hs P X.G X.C)(gn:k5 P X.G X.H)(hm:P.follows .mixedOrders=true){s:fC}{fn:Func}(bd:P.funcs[s.f]?=some fn)(pz:List wL){F:List D->Option (List D)}(bk:nZ X.T X.qq fn=true:=by kernel_rfl)(b5:decide (s.args.length<=fn.ntmps)=true:=by kernel_rfl) (js:(s.ins.all λp=>decide (p.1<10000)||X.ib.contains p.1)=true:=by kernel_rfl) (h:∀ls,Rp X fn s pz ls=F ls:=by intros;kernel_rfl):eB P X.G s F:=alc X bf cf gn hm bd bk b5 js λls fx bD=>(h ls).trans bD
def cb{x:D}{xs:List D}{dm:List aS}(h:jM (λk=>k) (λ_=>False) (List.map aS.d xs) dm):jM (λk=>k) (λ_=>False) (List.map aS.d (x::xs)) (.d x::dm):=n0 aln h
def Rr(g:Option D):List D->Option D
 |[]=>g|_=>none
@[simp] theorem aAv {g:Option D}:Rr g []=g:=rfl
def EW{P:Program}(X:ns)(bf:dN P X.T)(cf:hs P X.G X.C)(gn:k5 P X.G X.H)(hm:P.follows .mixedOrders=true){f:FuncId}{fn:Func}(bd:P.funcs[f]?=some fn){g:Option D}(js:X.ib=[]:=by rfl)(bk:nZ X.T X.qq fn=true:=by kernel_rfl)(b5:decide (0<=fn.ntmps)=true:=by kernel_rfl)(he:uS X fn []=g:=by intros;kernel_rfl):bw P X.G f (Rr g):=by
 intro aO r h;unfold Rr at h;split at h
 case h_2=>cases h
 exact e4 X bf cf gn hm bd le_nil h js bk b5 he
def Rs(g:D->Option D):List D->Option D
 |[ae]=>g ae|_=>none
@[simp] theorem aAw {g:D->Option D} {ae:D}:Rs g [ae]=g ae:=rfl
def cB{P:Program}(X:ns)(bf:dN P X.T)(cf:hs P X.G X.C)(gn:k5 P X.G X.H)(hm:P.follows .mixedOrders=true){f:FuncId}{fn:Func}(bd:P.funcs[f]?=some fn){g:D->Option D}(js:X.ib=[]:=by rfl)(bk:nZ X.T X.qq fn=true:=by kernel_rfl)(b5:decide (1<=fn.ntmps)=true:=by kernel_rfl)(he:∀ae,uS X fn [.d ae]=g ae:=by intros;kernel_rfl):bw P X.G f (Rs g):=by
 intro aO r h;unfold Rs at h;split at h
 case h_2=>cases h
 exact e4 X bf cf gn hm bd (cb le_nil) h js bk b5 (he _)
def Rt(g:D->D->Option D):List D->Option D
 |[ae,an]=>g ae an|_=>none
@[simp] theorem aAx {g:D->D->Option D} {ae an:D}:Rt g [ae,an]=g ae an:=rfl
def dx{P:Program}(X:ns)(bf:dN P X.T)(cf:hs P X.G X.C)(gn:k5 P X.G X.H)(hm:P.follows .mixedOrders=true){f:FuncId}{fn:Func}(bd:P.funcs[f]?=some fn){g:D->D->Option D}(js:X.ib=[]:=by rfl)(bk:nZ X.T X.qq fn=true:=by kernel_rfl)(b5:decide (2<=fn.ntmps)=true:=by kernel_rfl)(he:∀ae an,uS X fn [.d ae,.d an]=g ae an:=by intros;kernel_rfl):bw P X.G f (Rt g):=by
 intro aO r h;unfold Rt at h;split at h
 case h_2=>cases h
 exact e4 X bf cf gn hm bd (cb (cb le_nil)) h js bk b5 (he _ _)
def Ru(g:D->D->D->Option D):List D->Option D
 |[ae,an,ba]=>g ae an ba|_=>none
@[simp] theorem aAy {g:D->D->D->Option D} {ae an ba:D}:Ru g [ae,an,ba]=g ae an ba:=rfl
def g5{P:Program}(X:ns)(bf:dN P X.T)(cf:hs P X.G X.C)(gn:k5 P X.G X.H)(hm:P.follows .mixedOrders=true){f:FuncId}{fn:Func}(bd:P.funcs[f]?=some fn){g:D->D->D->Option D}(js:X.ib=[]:=by rfl)(bk:nZ X.T X.qq fn=true:=by kernel_rfl)(b5:decide (3<=fn.ntmps)=true:=by kernel_rfl)(he:∀ae an ba,uS X fn [.d ae,.d an,.d ba]=g ae an ba:=by intros;kernel_rfl):bw P X.G f (Ru g):=by
 intro aO r h;unfold Ru at h;split at h
 case h_2=>cases h
 exact e4 X bf cf gn hm bd (cb (cb (cb le_nil))) h js bk b5 (he _ _ _)
def Rv(g:D->D->D->D->Option D):List D->Option D
 |[ae,an,ba,b2]=>g ae an ba b2|_=>none
@[simp] theorem aAz {g:D->D->D->D->Option D} {ae an ba b2:D}:Rv g [ae,an,ba,b2]=g ae an ba b2:=rfl
def pD{P:Program}(X:ns)(bf:dN P X.T)(cf:hs P X.G X.C)(gn:k5 P X.G X.H)(hm:P.follows .mixedOrders=true){f:FuncId}{fn:Func}(bd:P.funcs[f]?=some fn){g:D->D->D->D->Option D}(js:X.ib=[]:=by rfl)(bk:nZ X.T X.qq fn=true:=by kernel_rfl)(b5:decide (4<=fn.ntmps)=true:=by kernel_rfl)(he:∀ae an ba b2,uS X fn [.d ae,.d an,.d ba,.d b2]=g ae an ba b2:=by intros;kernel_rfl):bw P X.G f (Rv g):=by
 intro aO r h;unfold Rv at h;split at h
 case h_2=>cases h
 exact e4 X bf cf gn hm bd (cb (cb (cb (cb le_nil)))) h js bk b5 (he _ _ _ _)
def Rw(g:D->D->D->D->D->Option D):List D->Option D
 |[ae,an,ba,b2,cK]=>g ae an ba b2 cK|_=>none
@[simp] theorem aAA {g:D->D->D->D->D->Option D} {ae an ba b2 cK:D}:Rw g [ae,an,ba,b2,cK]=g ae an ba b2 cK:=rfl
def alp{P:Program}(X:ns)(bf:dN P X.T)(cf:hs P X.G X.C)(gn:k5 P X.G X.H)(hm:P.follows .mixedOrders=true){f:FuncId}{fn:Func}(bd:P.funcs[f]?=some fn){g:D->D->D->D->D->Option D}(js:X.ib=[]:=by rfl)(bk:nZ X.T X.qq fn=true:=by kernel_rfl)(b5:decide (5<=fn.ntmps)=true:=by kernel_rfl)(he:∀ae an ba b2 cK,uS X fn [.d ae,.d an,.d ba,.d b2,.d cK]=g ae an ba b2 cK:=by intros;kernel_rfl):bw P X.G f (Rw g):=by
 intro aO r h;unfold Rw at h;split at h
 case h_2=>cases h
 exact e4 X bf cf gn hm bd (cb (cb (cb (cb (cb le_nil))))) h js bk b5 (he _ _ _ _ _)
def alq(g:D->D->D->D->D->D->Option D):List D->Option D
 |[ae,an,ba,b2,cK,c9]=>g ae an ba b2 cK c9|_=>none
@[simp] theorem aAB {g:D->D->D->D->D->D->Option D} {ae an ba b2 cK c9:D}:alq g [ae,an,ba,b2,cK,c9]=g ae an ba b2 cK c9:=rfl
def alr(g:D->D->D->D->D->D->D->Option D):List D->Option D
 |[ae,an,ba,b2,cK,c9,c4]=>g ae an ba b2 cK c9 c4|_=>none
@[simp] theorem aAC {g:D->D->D->D->D->D->D->Option D} {ae an ba b2 cK c9 c4:D}:alr g [ae,an,ba,b2,cK,c9,c4]=g ae an ba b2 cK c9 c4:=rfl
def wX{P:Program}{T:ch}{os:Nat->Option (List Nat)}{f:FuncId}{fn:Func}(h:P.funcs[f]?=some fn)(bk:nZ T os fn=true:=by kernel_rfl):wc P f:=alh h bk
@[congr] def aAD {α β:Type} {x y:Option α} {f:α->Option β} (h:x=y):aa x f=aa y f:=by rw[h]
@[simp] theorem eL {α β:Type} {a:α} {f:α->Option β}:aa (some a) f=f a:=rfl
@[simp] theorem aAE {α β:Type} {f:α->Option β}:aa (none:Option α) f=none:=rfl
@[congr] def aAF {β:Type} {c d:Bool} {p:Option β} (h:c=d):aB c p=aB d p:=by rw[h]
@[simp] theorem s6 {β:Type} {p:Option β}:aB true p=p:=rfl
@[simp] theorem aAG {β:Type} {p:Option β}:aB false p=none:=rfl
@[congr] def aAH {β:Type} {x y:D} {p q:Option β} (h:x=y):aE x p q=aE y p q:=by rw[h]
@[simp] theorem l0 {β:Type} {b:Bool} {p q:Option β}:aE (ay b) p q=if b=true then p else q:=by cases b<;>rfl
@[congr] def aAI {x y:D} {w:Bool} {p:Option D} (h:x=y):bL x w p=bL y w p:=by rw[h]
@[simp] theorem eb {b w:Bool} {p:Option D}:bL (ay b) w p=if b=w then p else some lx:=rfl
@[simp] theorem Rx {ek:Type} {b w:Bool} {p q:Option ek}:wH (ay b) w p q=if b=w then p else q:=rfl
@[simp] theorem aAJ {ek:Type} {w:Bool} {p q:Option ek}:wH lx w p q=q:=rfl
@[simp] theorem nt {w:Bool} {p:Option D}:bL lx w p=some lx:=rfl
@[simp] theorem dQ {t:Bool} {a b:D}:bZ (ay t) a b=some (if t=true then a else b):=rfl
@[simp] theorem aAK {c:Prop} [Decidable c] {a b:Bool}:(if c then ay a else ay b)=ay (if c then a else b):=by split<;>rfl
@[simp] theorem Zs {α:Type} {c:Prop} [Decidable c] {a b:α}:(if c then some a else some b)=some (if c then a else b):=by split<;>rfl
@[simp] theorem aAL {α:Type} {c:Prop} [Decidable c] {a b d:α}:(if c then(if c then a else b)else d)=if c then a else d:=by split<;>simp_all
@[simp] theorem Ry {β:Type} {b:β}:a0 (some b)=some (.inr b):=rfl
@[simp] theorem aAM {β:Type}:a0 (none:Option β)=none:=rfl
@[simp] theorem qs {β:Type} {f:List D->Option β} {ls:List D}:a9 f (.inl ls)=f ls:=rfl
@[simp] theorem Fv {β:Type} {f:List D->Option β} {b:β}:a9 f (.inr b)=some b:=rfl
@[simp] theorem n1 {x:D} {l:List D}:I (x::l) 0=x:=rfl
@[simp] theorem pE {x:D} {l:List D} {n:Nat}:I (x::l) (n+1)=I l n:=rfl
@[simp] theorem Rz {k:Nat} {es:List (List D)}:aq (.ax k es)=es:=rfl
@[simp] theorem als {es:List (Value×D)}:ej (.mp es)=es:=rfl
@[simp] theorem alu {cs:List D}:KT (.agg cs)=cs:=rfl
@[simp] theorem aAN {cs:List D} {i:Nat}:ad (.agg cs) i=cs.getD i lx:=rfl
@[simp] theorem alv {n:Int}:bu (J n)=true:=rfl
@[simp] theorem alw {n:Bool}:bu (ay n)=true:=rfl
@[simp] theorem alx {n:ByteArray}:bu (aC n)=true:=rfl
@[simp] theorem aly {k:Nat} {es:List (List D)}:bu (.ax k es)=true:=rfl
@[simp] theorem aAO {es:List (Value×D)}:bu (.mp es)=true:=rfl
@[simp] theorem alz:bu (.val (.slice none 0 0))=true:=rfl
@[simp] theorem alA {n:Int}:(J n).one=true:=rfl
@[simp] theorem alB {n:Bool}:(ay n).one=true:=rfl
@[simp] theorem alC {n:ByteArray}:(aC n).one=true:=rfl
@[simp] theorem alD {k:Nat} {es:List (List D)}:(D.ax k es).one=true:=rfl
@[simp] theorem alE:(D.val (.slice none 0 0)).one=true:=rfl
@[simp] theorem aAP {n:Nat} {cs:List D}:a4 n (.agg cs)=(cs.length==n&&cs.all D.one):=rfl
@[simp] theorem aAQ:nT (.val (.slice none 0 0))=true:=rfl
@[simp] theorem iV {n off:Nat} {cs:List D}:a3 false n off cs=cs[off]?:=rfl
theorem alF{n off:Nat}{cs:List D}:a3 true n off cs=if off+n<=cs.length then some (.agg ((cs.drop off).take n))else none:=rfl
@[simp] theorem alG {a:Bool} {n off:Nat} {cs:List D}:lS a n off (.agg cs)=a3 a n off cs:=rfl
@[simp] theorem RA {i:Nat} {vs:List D}:br i (.a1 vs)=vs[i]?:=rfl
@[simp] theorem alH {k:Nat} {es:List (List D)}:bK (.ax k es)=some (J es.length):=rfl
@[simp] theorem alI:bK (.val (.slice none 0 0))=some (J 0):=rfl
@[simp] theorem RB {s:ByteArray}:pw (aC s)=some (J s.size):=rfl
@[simp] theorem Zt {k:Nat} {es:List (List D)} {i:Nat}:bn k (.ax k es) (J (i:Int))=es[i]?:=by simp[bn,J]
@[simp] theorem aAR {k:Nat} {es:List (List D)}:bn k (.ax k es) (J 0)=es[0]?:=by simp[bn,J]
def alJ{k:Nat}{es:List (List D)}{i:Int}(h:0<=i):bn k (.ax k es) (J i)=es[i.toNat]?:=by simp[bn,J,h]
@[simp] theorem oK {n i:Nat}:b9 n (J (i:Int))=if i<n then some i else none:=by simp[b9,J]
@[simp] theorem alK {k:Nat} {es:List (List D)}:kn (.ax k es)=some (k,es):=rfl
@[simp] theorem aAS:kn (.val (.slice none 0 0))=some (0,[]):=rfl
def fU{n b:Nat}(ab:n*b<=140737488355328)(af:n<=4611686018427387904):c1 n b=true:=by simp[c1,ab,af]
section
variable{bt:Bool}{a b:Int}
@[simp] theorem Fw:ai bt .lss (J a) (J b)=some (ay (decide (a<b))):=rfl
@[simp] theorem Lq:ai bt .leq (J a) (J b)=some (ay (decide (a<=b))):=rfl
@[simp] theorem oL:ai bt .gtr (J a) (J b)=some (ay (decide (a>b))):=rfl
@[simp] theorem BR:ai bt .geq (J a) (J b)=some (ay (decide (a>=b))):=rfl
@[simp] theorem BS:ai bt .eql (J a) (J b)=some (ay (a==b)):=rfl
@[simp] theorem BT:ai bt .neq (J a) (J b)=some (ay (a !=b)):=rfl
theorem alL:ai bt .add (J a) (J b)=some (J (IntKind.i64.wrap (a+b))):=rfl
theorem RC:ai bt .sub (J a) (J b)=some (J (IntKind.i64.wrap (a-b))):=rfl
theorem alM:ai bt .mul (J a) (J b)=some (J (IntKind.i64.wrap (a*b))):=rfl
def gy(ab:-9223372036854775808<=a+b)(af:a+b<=9223372036854775807):ai bt .add (J a) (J b)=some (J (a+b)):=by rw[alL,wrap64 _ ab af]
def my(ab:-9223372036854775808<=a-b)(af:a-b<=9223372036854775807):ai bt .sub (J a) (J b)=some (J (a-b)):=by rw[RC,wrap64 _ ab af]
def Lr(ab:-9223372036854775808<=a*b)(af:a*b<=9223372036854775807):ai bt .mul (J a) (J b)=some (J (a*b)):=by rw[alM,wrap64 _ ab af]
def Zu(h:b≠0):ai bt .quo (J a) (J b)=some (J (IntKind.i64.wrap (a.tdiv b))):=by simp[ai,Ef,J,h,nS]
def alN(h:b≠0):ai bt .rem (J a) (J b)=some (J (a.tmod b)):=by simp[ai,Ef,J,h,nS]
@[simp] theorem RD {x y:ByteArray}:ai bt .eql (aC x) (aC y)=some (ay (decide (x=y))):=rfl
@[simp] theorem Zv {x y:ByteArray}:ai bt .neq (aC x) (aC y)=some (ay (!decide (x=y))):=rfl
@[simp] theorem alO {x y:ByteArray}:ai bt .lss (aC x) (aC y)=some (ay (blt x y)):=rfl
@[simp] theorem RE {x y:ByteArray}:ai bt .gtr (aC x) (aC y)=some (ay (!(blt x y||decide (x=y)))):=rfl
@[simp] theorem aAT {x y:Bool}:ai true .eql (ay x) (ay y)=some (ay (x==y)):=rfl
@[simp] theorem aAU {x y:Bool}:ai true .neq (ay x) (ay y)=some (ay (x !=y)):=rfl
@[simp] theorem BU {x:Bool}:dp .not (ay x)=some (ay (!x)):=rfl
end
attribute [simp] xbv xcd List.getElem?_nil List.getD_cons_zero List.getD_cons_succ
theorem jN{β:Type}{f:List D->Option (List D⊕β)}{n:Nat}{ls:List D}:bp f (n+1) ls=aa (f ls) λx=>match x with| .inl fx=>bp f n fx| .inr b=>some b:=rfl
def Zw{β:Type}{f:List D->Option (List D⊕β)}(e3:Nat->List D):∀{m n j:Nat},(∀i,j<=i->i<j+m->f (e3 i)=some (.inl (e3 (i+1))))->m<=n->bp f n (e3 j)=bp f (n-m) (e3 (j+m))
 |0,n,j,_,_=>rfl|m+1,0,j,_,h=>absurd h (by omega)
 |m+1,n+1,j,aH,h=>by
  rw[jN,aH j (xan j) (by omega)];simp only[eL];have:=Zw (f:=f) e3 (m:=m) (n:=n) (j:=j+1) (λi ab af=>aH i (by omega) (by omega)) (by omega);rw[this]
  congr 1
  .omega
  congr 1;omega
theorem nu{β:Type}{f:List D->Option (List D⊕β)}{ls:List D}{n:Nat}{b:β}(e3:Nat->List D)(m:Nat)(au:ls=e3 0)(aH:∀i,i<m->f (e3 i)=some (.inl (e3 (i+1))))(he:f (e3 m)=some (.inr b))(aL:m<n):bp f n ls=some b:=by subst au;rw[Zw e3 (m:=m) (λi _ h=>aH i (by omega)) (by omega)];obtain⟨k,ak⟩:∃k,n-m=k+1:=⟨n-m-1,by omega⟩;rw[ak,jN,xaw,he];rfl
end Go.Am
