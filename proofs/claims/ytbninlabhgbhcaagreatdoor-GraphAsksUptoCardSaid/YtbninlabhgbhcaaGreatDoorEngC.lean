/- An evaluator of code over such values, and that what it answers the code does. No condition. -/
import Derived.Test.YtbninlabhgbhcaaGreatDoorEngS
import Derived.KernelRfl
set_option linter.all false
set_option linter.unnecessarySimpa false
namespace Go.Am
def ab{α β:Type}(x:Option α)(f:α->Option β):Option β:=match x with|some a=>f a|none=>none
def en{α β:Type}{x:Option α}{f:α->Option β}{b:β}(h:ab x f=some b):∃a,x=some a/\f a=some b:=by
 cases x with
 |none=>cases h
 |some a=>exact⟨a,rfl,h⟩
def bx{β:Type}(c:Bool)(p:Option β):Option β:=match c with|true=>p|false=>none
def mi{β:Type}{c:Bool}{p:Option β}{b:β}(h:bx c p=some b):c=true/\p=some b:=by
 cases c with
 |false=>cases h
 |true=>exact⟨rfl,h⟩
def aJ{β:Type}(x:D)(p q:Option β):Option β:=match x with| .val (.bool true)=>p| .val (.bool false)=>q|_=>none
def Zy{β:Type}{x:D}{p q:Option β}{b:β}(h:aJ x p q=some b):(x= .val (.bool true)/\p=some b)\/(x= .val (.bool false)/\q=some b):=by
 unfold aJ at h;split at h;.exact .inl ⟨rfl,h⟩
 .exact .inr ⟨rfl,h⟩
 cases h
def kD:D:= .val (.tuple #[])
def pM:Option aX->Option D
 |some (.d r)=>some r|_=>none
def zI{x:Option aX}{r:D}(h:pM x=some r):x=some (.d r):=by
 unfold pM at h;split at h;.cases h;rfl
 cases h
def lQ:D->List D
 | .agg cs=>cs|_=>[]
def ae(x:D)(i:Nat):D:=(lQ x).getD i kD
def bb:D->List (List D)
 | .aW _ es=>es|_=>[]
def gV:D->List (Value×D)
 | .mp es=>es|_=>[]
def bV(x:D):Bool:=x.one
def dO(n:Nat)(x:D):Bool:=match x with| .agg cs=>cs.length==n&&cs.all D.one|_=>false
def nG(x:D):Bool:=match x with| .val (.slice none 0 0)=>true|_=>false
def al2{n:Nat}{x:D}(h:dO n x=true):∃cs,x= .agg cs/\cs.length=n/\cs.all D.one=true:=by
 unfold dO at h;split at h;.rename_i cs;rw[xap,xbP]at h;exact⟨cs,rfl,h.1,h.2⟩
 cases h
def al3{n:Nat}{cs:List D}(h:cs.length=n):((List.range n).map λi=>aX.d (ae (.agg cs) i))=cs.map .d:=by
 apply xbQ;intro i;simp only[xah];by_cases ag:i<n;.rw[xce ag,xab (by omega)];simp[ae,lQ,xbe,h,ag]
 rw[xaM (by simp;omega),xaM (by omega)];rfl
def bD(bt:Bool)(op:BinOp)(x y:D):Option D:=match x,y with
 | .val (.int k a),.val (.int bG b)=>pM (match op with
  | .shl=>if b<0 then none else some (.d (.val (.int k (k.wrap (a*2^(min b.toNat k.bits))))))
  | .shr=>if b<0 then none else some (.d (.val (.int k (a.fdiv (2^(min b.toNat k.bits))))))
  |_=>if k=bG then FW op k a b else none)
 | .val (.string a),.val (.string b)=>pM (QM op a b)| .val (.bool a),.val (.bool b)=>if bt then pM (QN op a b)else none
 |_,_=>none
def al4{T:cn}{t:TypeId}{op:BinOp}{x y r:D}(h:bD (FX T t) op x y=some r):w2 T op t (.d x) (.d y)=some (.d r):=by
 unfold bD at h;unfold w2;split at h;.have:=zI h;cases op<;>exact this
 .exact zI h
 .split at h;.rename_i aj;simp only[aj,xaG];exact zI h
  cases h
 cases h
def RI(l:List TypeDesc)(op:BinOp)(x y:D):Option D:=match x,y with| .agg xs,.agg c7=>pM (QO op l xs c7)|_,_=>none
def al5{T:cn}{t:TypeId}{op:BinOp}{x y r:D}{l:List TypeDesc}(al:T.eqs t=some l)(h:RI l op x y=some r):w2 T op t (.d x) (.d y)=some (.d r):=by
 unfold RI at h;split at h;.unfold w2;simp only[al];exact zI h
 cases h
def Mj(op:BinOp)(x y:D):Option D:=match op with
 | .eql=>if nG y then(match x with| .val (.slice none _ _)=>some (.val (.bool true))| .aW _ (_::_)=>some (.val (.bool false))|_=>none)else none
 | .neq=>if nG y then(match x with| .val (.slice none _ _)=>some (.val (.bool false))| .aW _ (_::_)=>some (.val (.bool true))|_=>none)else none
 |_=>none
def dB(op:UnOp)(x:D):Option D:=match op,x with| .not,.val (.bool b)=>some (.val (.bool !b))| .neg,.val (.int k n)=>some (.val (.int k (k.wrap (0-n))))|_,_=>none
def k2(k:IntKind)(x:D):Option D:=match x with| .val (.int _ n)=>some (.val (.int k (k.wrap n)))|_=>none
def Zz(x:D):Option D:=match x with| .val (.string b)=>some (.val (.string b))|_=>none
def C8(es:List (List D)):Option D:=match tB es with|some gk=>some (.val (.string (Lq gk)))|none=>none
def ZA(x:D):Option D:=match x with| .aW 1 es=>C8 es| .val (.slice none 0 _)=>C8 []|_=>none
def gW(c a b:D):Option D:=match c with
 | .val (.bool t)=>some (if t then a else b)
 |_=>none
def bM(agg:Bool)(n off:Nat)(cs:List D):Option D:=match agg with
 |true=>if off+n<=cs.length then some (.agg ((cs.drop off).take n))else none
 |false=>cs[off]?
def mY(agg:Bool)(n off:Nat)(x:D):Option D:=match x with| .agg cs=>bM agg n off cs|_=>none
def bz(i:Nat)(x:D):Option D:=match x with| .aZ vs=>vs[i]?|_=>none
def sf(s i:D):Option D:=match s,i with| .val (.string s),.val (.int _ n)=>pM (Lp s n)|_,_=>none
def qs(x:Option D)(QS:Nat):Option Nat:=match x with
 |none=>some QS|some (.val (.int _ n))=>if 0<=n then some n.toNat else none
 |_=>none
theorem Mk(x:Option D)(d:Nat):q1 (x.map .d) d=qs x d:=by cases x with|none=>rfl|some x=>cases x<;>first|rfl|(rename_i v;cases v<;>rfl)
def ZB(s:D)(lo ag:Option D):Option D:=match s with
 | .val (.string s)=>match qs ag s.size,qs lo 0 with
  |some h,some l=>if l<=h/\h<=s.size then some (.val (.string (s.extract l h)))else none
  |_,_=>none
 |_=>none
def og(k:Nat)(x:D)(lo ag:Option D):Option D:=match x with
 | .aW bG es=>match qs ag es.length,qs lo 0 with
  |some h,some l=>if l<=h/\h<=es.length/\bG=k then some (.aW bG ((es.drop l).take (h-l)))else none
  |_,_=>none
 |_=>none
def kE(n:Nat)(lo ag:Option D):Option (Nat×Nat):=match qs ag n,qs lo 0 with
 |some h,some l=>if l<=h/\h<=n then some (l,h-l)else none
 |_,_=>none
def qt(x:D):Option D:=match x with| .val (.string s)=>some (.val (.int .i64 s.size))|_=>none
def fW(x:D):Option D:=match x with| .aW _ es=>some (.val (.int .i64 es.length))| .val (.slice _ n _)=>some (.val (.int .i64 n))|_=>none
def ZC(x:D):Option D:=match x with| .val (.map none)=>some (.val (.int .i64 0))| .mp es=>some (.val (.int .i64 es.length))|_=>none
def b3(k:Nat)(x i:D):Option (List D):=match i with
 | .val (.int _ n)=>if 0<=n then(match x with
  | .aW bG es=>if bG=k then es[n.toNat]? else none
  |_=>none)else none
 |_=>none
def cC(n:Nat)(i:D):Option Nat:=match i with
 | .val (.int _ j)=>if 0<=j/\j<n then some j.toNat else none
 |_=>none
def ri(x:D):Option (Nat×List (List D)):=match x with| .aW k es=>some (k,es)| .val (.slice none 0 _)=>some (0,[])|_=>none
def k3(gj:Bool)(l:List D):Option D:=pM (rV gj (l.map .d))
def cT(n bytes:Nat):Bool:=decide (n*bytes<=140737488355328)&&decide (n<=4611686018427387904)
def lr(bytes:Nat)(l c:D):Option Nat:=match l,c with
 | .val (.int _ l),.val (.int _ c)=>if 0<=l/\l<=c/\(bytes:Int)*c<=281474976710656/\c<=9223372036854775807 then some l.toNat else none
 |_,_=>none
def k4(kind:TypeDesc)(zero:Value)(ok:Bool)(es:List (Value×D))(k:D):Option D:=match k with
 | .val fi=>match findD kind fi es with
  |some (some x)=>some (if ok then .aZ [x,.val (.bool true)]else x)
  |some none=>some (if ok then .aZ [rW zero,.val (.bool false)]else rW zero)
  |none=>none
 |_=>none
def nH(x:D):Option (List (Value×D)):=match x with| .val (.map none)=>some []| .mp es=>some es|_=>none
def sg(kind:TypeDesc)(es:List (Value×D))(k x:D):Option (List (Value×D)):=match k with| .val fi=>rX kind fi x es|_=>none
section
variable{β:Type}
def GD:List aX->Option β->Option β
 |[],p=>p| .d a::r,p=>bx (bV a) (GD r p)|x::r,p=>if x.one=true then GD r p else none
def RJ{p:Option β}{b:β}:∀{cs:List aX},GD cs p=some b->cs.all aX.one=true/\p=some b
 |[],h=>⟨rfl,h⟩
 |x::r,h=>by
  unfold GD at h;split at h;.rename_i e;cases e
  .rename_i a tA pE e;cases e;obtain⟨J,aa⟩:=mi h;obtain⟨ax,bj⟩:=RJ aa;exact⟨by rw[xbg,ax,xbw];exact J,bj⟩
  rename_i e;cases e;split at h;.rename_i ad;obtain⟨ax,bj⟩:=RJ h;exact⟨by rw[xbg,ax,xbw];exact ad,bj⟩
  cases h
def C9(n:Nat)(x:aX)(k:List aX->Option β):Option β:=match x with
 | .d a=>match n with|1=>bx (bV a) (k [.d a])|_=>bx (dO n a) (k ((List.range n).map λi=> .d (ae a i)))
 | .agg cs=>GD cs (k cs)|x=>match cellsOf x with|some cs=>k cs|none=>none
def Ml{n:Nat}{x:aX}{k:List aX->Option β}{b:β}(h:C9 n x k=some b):∃cs,cellsOf x=some cs/\k cs=some b:=by
 unfold C9 at h;split at h
 .rename_i a;split at h
  .obtain⟨J,aa⟩:=mi h;refine⟨_,?_,aa⟩;unfold bV at J;unfold cellsOf;split;.rename_i he;cases he;cases J
   .rename_i he;cases he
   rw[xac (show aX.one (.d a)=true from J)]
  obtain⟨J,aa⟩:=mi h;obtain⟨cs,rfl,aM,a8⟩:=al2 J;rw[al3 aM]at aa;exact⟨_,by simp only[cellsOf,a8,xaG],aa⟩
 .obtain⟨J,aa⟩:=RJ h;exact⟨_,by simp only[cellsOf,J,xaG],aa⟩
 split at h;.rename_i cs h0;exact⟨cs,h0,h⟩
 cases h
def Mm(place:Nat->Option (Nat×Nat))(cells:List aX):List (Nat×aX)->(List aX->Option β)->Option β
 |[],k=>k cells|(i,x)::rest,k=>match place i with|none=>none|some (off,size)=>C9 size x λcs=>if cs.length=size/\off+cs.length<=cells.length then Mm place (oF cells off cs) rest k else none
def ZD{place:Nat->Option (Nat×Nat)}:∀{parts:List (Nat×aX)} {cells:List aX} {k:List aX->Option β} {b:β},Mm place cells parts k=some b->∃cs,ze place cells parts=some cs/\k cs=some b
 |[],cells,k,b,h=>⟨cells,rfl,h⟩
 |(i,x)::rest,cells,k,b,h=>by
  unfold Mm at h;split at h;.cases h
  rename_i off size aU;obtain⟨cs,J,aa⟩:=Ml h;split at aa
  case isFalse=>cases aa
  rename_i ah;obtain⟨out,ax,bj⟩:=ZD aa;exact⟨out,by unfold ze;simp only[aU,J];rw[xac ah];exact ax,bj⟩
def Mn(size:Nat)(n:Nat):List (Nat×aX)->(List (List D)->Option β)->Option β
 |[],k=>k []
 |(i,x)::r,k=>if i=n then C9 size x λcs=>match lJ cs with
   |some aR=>if aR.length=size then Mn size (n+1) r λl=>k (aR::l)else none
   |none=>none
  else none
def ZE{size:Nat}:∀{parts:List (Nat×aX)} {n:Nat} {k:List (List D)->Option β} {b:β},Mn size n parts k=some b->∃es,w7 size n parts=some es/\k es=some b
 |[],n,k,b,h=>⟨[],rfl,h⟩
 |(i,x)::r,n,k,b,h=>by
  unfold Mn at h;split at h
  case isFalse=>cases h
  rename_i ag;obtain⟨cs,J,aa⟩:=Ml h;split at aa
  case h_2=>cases aa
  rename_i aR eS;split at aa
  case isFalse=>cases aa
  rename_i al;obtain⟨es,ax,bj⟩:=ZE aa;exact⟨aR::es,by unfold w7;simp only[ag,xaG,J,eS,ax,al],bj⟩
end
section
variable{β:Type}
def pN(T:cn)(G:ds)(σ:aO)(o:Oper)(k:aO->Option β):Option β:=match hf T G σ o with|some a1=>k a1|none=>none
def kf(σ:aO)(dst:Option Tmp)(k:aO->Option β)(p:Option D):Option β:=ab p λv=>k (σ.put dst (.d v))
def nI(T:cn)(σ:aO)(dst:Option Tmp)(k:aO->Option β)(r:aX)(cF:List (Key×cX)):Option β:=match r1 (T.born (dst.getD 9999)) (dst.getD 9999) (r,cF)with|(r,cF)=>k (aO.put ⟨σ.aQ,dM σ.objs cF⟩ dst r)
def Mo:Option aX->Option (Option D)
 |none=>some none|some (.d a)=>some (some a)|_=>none
theorem ZF{x:Option aX}{y:Option D}(h:Mo x=some y):x=y.map .d:=by unfold Mo at h;split at h<;>cases h<;>rfl
def ZG(T:cn)(t:TypeId):Bool:=match T t with|some ⟨.slice _,_,_,_⟩=>true|_=>false
def RK(T:cn)(G:ds)(σ:aO)(o:Oper)(op:BinOp)(t:TypeId)(x y:Operand)(k:aO->Option β):Option β:=match cm G σ.aQ x,cm G σ.aQ y with
 | .d a,.d b=>match ZG T t with|true=>kf σ o.dst k (Mj op a b)|false=>match T.eqs t with|some l=>kf σ o.dst k (RI l op a b)|none=>kf σ o.dst k (bD (FX T t) op a b)
 |_,_=>pN T G σ o k
def RL(T:cn)(G:ds)(σ:aO)(o:Oper)(s:TypeId)(x:Operand)(f:Nat)(k:aO->Option β):Option β:=match F1 T s f with
 |some (off,i)=>match cm G σ.aQ x with| .d a=>kf σ o.dst k (mY (vj i.desc) i.size off a)|_=>pN T G σ o k
 |none=>none
def RM(T:cn)(G:ds)(σ:aO)(o:Oper)(t:TypeId)(a:Operand)(k:aO->Option β):Option β:=match T t with
 |some i=>match cm G σ.aQ a with
  | .dV cs off=>kf σ o.dst k (bM (vj i.desc) i.size off cs)
  | .gJ key cY e0 off=>match σ.objs key with
   |some (.row bG es)=>if cY=bG then ab es[e0]? λe=>kf σ o.dst k (bM (vj i.desc) i.size off e)else none
   |_=>none
  |_=>pN T G σ o k
 |none=>none
def RN(T:cn)(G:ds)(σ:aO)(o:Oper)(t:TypeId)(x e0:Operand)(k:aO->Option β):Option β:=match T t with
 |some ⟨.slice e,_,_,_⟩=>match T e with
  |some br=>match cm G σ.aQ e0 with
   | .d i=>match cm G σ.aQ x with
    | .d a=>ab (b3 br.size a i) λc=>k (σ.put o.dst (.dV c 0))
    | .row key=>match σ.objs key with
     |some (.row bG es)=>if bG=br.size then ab (cC es.length i) λn=>k (σ.put o.dst (.gJ key bG n 0))else none
     |_=>none
    | .sub key bG i0 len=>if bG=br.size then ab (cC len i) λn=>k (σ.put o.dst (.gJ key bG (i0+n) 0))else none
    |_=>none
   |_=>none
  |none=>none
 |some ⟨.array len e,_,_,_⟩=>match T e with
  |some br=>match cm G σ.aQ e0 with
   | .d i=>ab (cC len i) λn=>match F2 (cm G σ.aQ x) (n*br.size)with|some r=>k (σ.put o.dst r)|none=>none
   |_=>none
  |none=>none
 |_=>none
def RO(T:cn)(G:ds)(σ:aO)(o:Oper)(t:TypeId)(x:Operand)(lo ag:Option Operand)(k:aO->Option β):Option β:=match Mo (lo.map (cm G σ.aQ)),Mo (ag.map (cm G σ.aQ))with
 |some l,some h=>match T t with
  |some ⟨.string,_,_,_⟩=>match cm G σ.aQ x with| .d a=>kf σ o.dst k (ZB a l h)|_=>none
  |some ⟨.slice e,_,_,_⟩=>match T e with
   |some br=>match cm G σ.aQ x with
    | .d a=>kf σ o.dst k (og br.size a l h)
    | .row key=>match σ.objs key with
     |some (.row bG es)=>if bG=br.size then ab (kE es.length l h) λp=>k (σ.put o.dst (.sub key bG p.1 p.2))else none
     |_=>none
    | .sub key bG i0 len=>if bG=br.size then ab (kE len l h) λp=>k (σ.put o.dst (.sub key bG (i0+p.1) p.2))else none
    |_=>none
   |none=>none
  |_=>pN T G σ o k
 |_,_=>none
def RP(T:cn)(G:ds)(σ:aO)(o:Oper)(args:List Operand)(dN:List TypeId)(k:aO->Option β):Option β:=match dN,args with
 |[t],[x]=>match cm G σ.aQ x with
  | .d a=>match T t with|some ⟨.string,_,_,_⟩=>kf σ o.dst k (qt a)|some ⟨.slice _,_,_,_⟩=>kf σ o.dst k (fW a)|some ⟨.map _ _,_,_,_⟩=>kf σ o.dst k (ZC a)|_=>none
  |_=>pN T G σ o k
 |_,_=>none
def RQ(T:cn)(G:ds)(σ:aO)(o:Oper)(args:List Operand)(dN:List TypeId)(k:aO->Option β):Option β:=match dN,args with
 |[t,t'],[s,x]=>match T t,T t',σ.objs (o.dst.getD 9999)with
  |some ⟨.slice e,_,_,_⟩,some ⟨.slice _,_,_,_⟩,none=>match T e with
   |some br=>
    let go:Nat×List (List D)->Option β:=λp=>bx (decide (p.1=br.size\/p.2=[])&&decide (0<br.size)) (match cm G σ.aQ s with
     | .d a=>bx (nG a&&cT p.2.length br.bytes) (nI T σ o.dst k (.row (o.dst.getD 9999)) [(o.dst.getD 9999,.row br.size p.2)])
     | .row key=>match σ.objs key with
      |some (.row bG es)=>if bG=br.size/\key<10000 then bx (cT (es.length+p.2.length) br.bytes) (nI T σ o.dst k (.row (o.dst.getD 9999)) [(key,.dead),(o.dst.getD 9999,.row bG (es++p.2))])else none
      |_=>none
     |_=>none)
    match cm G σ.aQ x with
    | .d a=>ab (ri a) go
    | .sub key bG i len=>match σ.objs key with
     |some (.row qu es)=>if bG=qu then bx (decide (i+len<=es.length)) (go (bG,(es.drop i).take len))else none
     |_=>none
    |y=>match mP σ.objs y with|some p=>go p|none=>none
   |none=>none
  |_,_,_=>none
 |_,_=>none
def RR(T:cn)(G:ds)(σ:aO)(o:Oper)(args:List Operand)(dN:List TypeId)(k:aO->Option β):Option β:=match dN,args with
 |[t,t'],[s,x]=>match T t with
  |some ⟨.slice e,_,_,_⟩=>match T e with
   |some br=>
    let go:Nat×List (List D)->Option β:=λp=>bx (decide (p.1=br.size\/p.2=[])) (match cm G σ.aQ s with
     | .row key=>match σ.objs key with
      |some (.row bG es)=>if bG=br.size then nI T σ o.dst k (.d (.val (.int .i64 (min p.2.length es.length:Nat)))) [(key,.row bG (p.2.take (min p.2.length es.length)++es.drop (min p.2.length es.length)))]else none
      |_=>none
     | .sub key bG i len=>match σ.objs key with
      |some (.row qu es)=>if bG=br.size/\qu=bG then bx (decide (i+len<=es.length)) (nI T σ o.dst k (.d (.val (.int .i64 (min p.2.length len:Nat)))) [(key,.row bG (es.take i++p.2.take (min p.2.length len)++es.drop (i+min p.2.length len)))])else none
      |_=>none
     |_=>none)
    match cm G σ.aQ x with
    | .d a=>ab (ri a) go
    | .sub key bG i len=>match σ.objs key with
     |some (.row qu es)=>if bG=qu then bx (decide (i+len<=es.length)) (go (bG,(es.drop i).take len))else none
     |_=>none
    |y=>match mP σ.objs y with|some p=>go p|none=>none
   |none=>none
  |_=>none
 |_,_=>none
def RS(T:cn)(G:ds)(σ:aO)(o:Oper)(args:List Operand)(dN:List TypeId)(k:aO->Option β):Option β:=match dN,args with
 |[t],[s]=>match T t with
  |some ⟨.slice e,_,_,_⟩=>match T e with
   |some br=>match cm G σ.aQ s with
    | .sub key bG i len=>match σ.objs key with
     |some (.row qu es)=>if bG=br.size/\qu=bG/\br.zero.cells.toList.all ky=true then bx (decide (i+len<=es.length)) (nI T σ o.dst k .any [(key,.row bG (es.take i++List.replicate len (br.zero.cells.toList.map .val)++es.drop (i+len)))])else none
     |_=>none
    |_=>none
   |none=>none
  |_=>none
 |_,_=>none
def RT(T:cn)(G:ds)(σ:aO)(o:Oper)(t:TypeId)(x i:Operand)(ok:Bool)(k:aO->Option β):Option β:=match T t with
 |some ⟨.map iF jt,_,_,_⟩=>match T iF,T jt with
  |some im,some br=>if w5 im.desc then(match cm G σ.aQ i with
   | .d fi=>match cm G σ.aQ x with
    | .d m=>ab (nH m) λes=>kf σ o.dst k (k4 im.desc br.zero ok es fi)| .map key=>match σ.objs key with|some (.map es)=>kf σ o.dst k (k4 im.desc br.zero ok es fi)|_=>none
    |_=>none
   |_=>none)else none
  |_,_=>none
 |_=>none
def Mp(T:cn)(G:ds)(σ:aO)(o:Oper)(t:TypeId)(m i x:Operand)(k:aO->Option β):Option β:=match T t with
 |some ⟨.map iF _,_,_,_⟩=>match T iF with
  |some im=>if w5 im.desc then(match cm G σ.aQ m,cm G σ.aQ i,cm G σ.aQ x with
   | .map key,.d fi,.d v=>match σ.objs key with|some (.map es)=>ab (sg im.desc es fi v) λl=>nI T σ o.dst k .any [(key,.map l)]|_=>none
   |_,_,_=>none)else none
  |none=>none
 |_=>none
def RU(T:cn)(G:ds)(σ:aO)(o:Oper)(t:TypeId)(a x:Operand)(k:aO->Option β):Option β:=match T t with
 |some i=>C9 i.size (cm G σ.aQ x) λcs=>if cs.length=i.size then(match cm G σ.aQ a with
  | .ptr key off=>match σ.objs key with
   |some (.box cells)=>if off+cs.length<=cells.length then nI T σ o.dst k .any [(key,.box (oF cells off cs))]else none
   |_=>none
  | .gJ key cY e0 off=>match σ.objs key,lJ cs with
   |some (.row bG es),some aR=>if cY=bG/\off+aR.length<=cY then ab es[e0]? λe=>nI T σ o.dst k .any [(key,.row cY (es.set e0 (h9 e off aR)))]else none
   |_,_=>none
  |_=>none)else none
 |none=>none
def RV(T:cn)(G:ds)(σ:aO)(o:Oper)(t:TypeId)(parts:Array (Nat×Operand))(k:aO->Option β):Option β:=match QR T t with|some (pl,z)=>Mm pl (zeroCells z) (parts.toList.map λp=>(p.1,cm G σ.aQ p.2)) λout=>k (σ.put o.dst (Cy out))|none=>none
def RW(T:cn)(G:ds)(σ:aO)(o:Oper)(t:TypeId)(n:Nat)(parts:Array (Nat×Operand))(k:aO->Option β):Option β:=match T t,σ.objs (o.dst.getD 9999)with
 |some ⟨.slice e,_,_,_⟩,none=>match T e with
  |some br=>Mn br.size 0 (parts.toList.map λp=>(p.1,cm G σ.aQ p.2)) λes=>if es.length=n/\0<br.size/\n*br.size<=16777216 then nI T σ o.dst k (.row (o.dst.getD 9999)) [(o.dst.getD 9999,.row br.size es)]else none
  |none=>none
 |_,_=>none
def RX(T:cn)(G:ds)(σ:aO)(o:Oper)(t:TypeId)(l c:Operand)(k:aO->Option β):Option β:=match T t,σ.objs (o.dst.getD 9999)with
 |some ⟨.slice e,_,_,_⟩,none=>match T e with
  |some br=>match cm G σ.aQ l,cm G σ.aQ c with
   | .d l,.d c=>if br.zero.cells.toList.all ky then ab (lr br.bytes l c) λn=>nI T σ o.dst k (.row (o.dst.getD 9999)) [(o.dst.getD 9999,.row br.size (List.replicate n (br.zero.cells.toList.map .val)))]else none
   |_,_=>none
  |none=>none
 |_,_=>none
def RY(T:cn)(G:ds)(σ:aO)(o:Oper)(s t:TypeId)(x:Operand)(k:aO->Option β):Option β:=match T s,T t,cm G σ.aQ x with
 |some _,some ⟨.int i,_,_,_⟩,.d a=>kf σ o.dst k (k2 i a)
 |some ⟨.slice e,_,_,_⟩,some ⟨.string,_,_,_⟩,y=>match T e with
  |some ⟨.int .u8,_,_,_⟩=>match y with
   | .d a=>kf σ o.dst k (ZA a)| .row key=>match σ.objs key with|some (.row 1 es)=>kf σ o.dst k (C8 es)|_=>pN T G σ o k
   | .sub key 1 i len=>match σ.objs key with|some (.row 1 es)=>bx (decide (i+len<=es.length)) (kf σ o.dst k (C8 ((es.drop i).take len)))|_=>pN T G σ o k
   |_=>pN T G σ o k
  |_=>pN T G σ o k
 |some _,some ⟨.string,_,_,_⟩,.d a=>kf σ o.dst k (Zz a)|_,_,_=>pN T G σ o k
def Mq(T:cn)(G:ds)(σ:aO)(o:Oper)(gj:Bool)(args:List Operand)(k:aO->Option β):Option β:=match lJ (args.map (cm G σ.aQ))with|some aR=>kf σ o.dst k (k3 gj aR)|none=>none
def ho:aX->aX->Option (D×D)
 | .d a,.d b=>some (a,b)|_,_=>none
theorem al6{x y:aX}{p:D×D}(h:ho x y=some p):x= .d p.1/\y= .d p.2:=by unfold ho at h;split at h<;>cases h;exact⟨rfl,rfl⟩
def ZH{T:cn}{ev:Operand->aX}{c a b:Operand}{t:Bool}(ah:ev c= .d (.val (.bool t)))(h:ho (ev a) (ev b)=none):eM T ev (.pick c a b)=some (if t then ev a else ev b):=by
 simp only[eM,ah];generalize ev a=x at*;generalize ev b=y at*;split;.cases h
 rfl
def tT(T:cn)(G:ds)(σ:aO)(o:Oper)(k:aO->Option β):Option β:=match o.op with
 | .binOp op t x y _=>RK T G σ o op t x y k| .unOp op _ x=>match cm G σ.aQ x with| .d a=>kf σ o.dst k (dB op a)|_=>none
 | .convert s t x=>RY T G σ o s t x k
 | .pick c a b=>match cm G σ.aQ c with
  | .d c=>match ho (cm G σ.aQ a) (cm G σ.aQ b)with|some p=>kf σ o.dst k (gW c p.1 p.2)|none=>aJ c (k (σ.put o.dst (cm G σ.aQ a))) (k (σ.put o.dst (cm G σ.aQ b)))
  |_=>none
 | .field s x f=>RL T G σ o s x f k| .extract x i=>match cm G σ.aQ x with| .d a=>kf σ o.dst k (bz i a)|_=>pN T G σ o k
 | .index t x i=>match T t with
  |some ⟨.string,_,_,_⟩=>match cm G σ.aQ x,cm G σ.aQ i with| .d a,.d b=>kf σ o.dst k (sf a b)|_,_=>none
  |some ⟨.array len e,_,_,_⟩=>match T e with
   |some br=>match cm G σ.aQ x,cm G σ.aQ i with| .d a,.d b=>ab (cC len b) λn=>kf σ o.dst k (mY (vj br.desc) br.size (n*br.size) a)|_,_=>none
   |none=>none
  |_=>none
 | .load t a=>RM T G σ o t a k| .indexAddr t x e0=>RN T G σ o t x e0 k| .slice t x lo ag none=>RO T G σ o t x lo ag k| .lookup t x i ok=>RT T G σ o t x i ok k| .mapUpdate t m i x=>Mp T G σ o t m i x k| .insert t m i x=>Mp T G σ o t m i x k| .store t a x=>RU T G σ o t a x k| .build t parts=>RV T G σ o t parts k| .buildSlice t n parts=>RW T G σ o t n parts k| .makeSlice t l c=>RX T G σ o t l c k| .box t x=>match T t,σ.objs (o.dst.getD 9999)with|some i,none=>C9 i.size (cm G σ.aQ x) λcs=>nI T σ o.dst k (.ptr (o.dst.getD 9999) 0) [(o.dst.getD 9999,.box cs)]|_,_=>none
 | .call ⟨.builtin .len,args,dN⟩=>RP T G σ o args.toList dN.toList k| .call ⟨.builtin .append,args,dN⟩=>RQ T G σ o args.toList dN.toList k| .call ⟨.builtin .copy,args,dN⟩=>RR T G σ o args.toList dN.toList k| .call ⟨.builtin .clear,args,dN⟩=>RS T G σ o args.toList dN.toList k| .call ⟨.builtin .max,args,_⟩=>Mq T G σ o true args.toList k| .call ⟨.builtin .min,args,_⟩=>Mq T G σ o false args.toList k|_=>pN T G σ o k
variable{T:cn}{G:ds}{σ:aO}{o:Oper}{k:aO->Option β}{b:β}
def rj(h:pN T G σ o k=some b):∃a1,hf T G σ o=some a1/\k a1=some b:=by
 unfold pN at h;split at h;.exact⟨_,by assumption,h⟩
 cases h
def nJ{r:aX}(h:eM T (cm G σ.aQ) o.op=some r)(ai:k (σ.put o.dst r)=some b):∃a1,hf T G σ o=some a1/\k a1=some b:=⟨_,by unfold hf;rw[h],ai⟩
def mj{r:aX}(ar:eM T (cm G σ.aQ) o.op=none)(h:dI T (cm G σ.aQ) σ.objs o.op=some r)(ai:k (σ.put o.dst r)=some b):∃a1,hf T G σ o=some a1/\k a1=some b:=⟨_,by unfold hf;rw[ar,h],ai⟩
def sh{r:aX}{cF:List (Key×cX)}(ar:eM T (cm G σ.aQ) o.op=none)(J:dI T (cm G σ.aQ) σ.objs o.op=none)(h:eF T (cm G σ.aQ) σ.objs (o.dst.getD 9999) o.op=some (r,cF)) (ai:nI T σ o.dst k r cF=some b):∃a1,hf T G σ o=some a1/\k a1=some b:=⟨_,by unfold hf;rw[ar,J];unfold hy;rw[h];rfl,by unfold nI at ai;exact ai⟩
def al7{op:BinOp}{t:TypeId}{x y:Operand}{zf:TypeId}(aT:o.op= .binOp op t x y zf)(h:RK T G σ o op t x y k=some b):∃a1,hf T G σ o=some a1/\k a1=some b:=by
 unfold RK at h;split at h
 .rename_i a c aG ah;split at h
  .rename_i az;obtain⟨v,J,aa⟩:=en h;have GF:∀{d},nG d=true->d= .val (.slice none 0 0):=by
    intro d ay;unfold nG at ay;split at ay;.rfl
    cases ay
   unfold ZG at az;split at az
   case h_2=>cases az
   rename_i aM a8 b0 cK aP;have aj:c= .val (.slice none 0 0)->eM T (cm G σ.aQ) o.op=none:=by intro e1;subst e1;rw[aT];simp only[eM,aG,ah,w2]
   unfold Mj at J;split at J
   .split at J
    case isFalse=>cases J
    rename_i aN;have aN:=GF aN;subst aN;refine mj (r:= .d v) (aj rfl) ?_ aa;rw[aT];simp only[dI,aP,ah,w6,xaG,aG,nz];split at J<;>cases J<;>simp
   .split at J
    case isFalse=>cases J
    rename_i aN;have aN:=GF aN;subst aN;refine mj (r:= .d v) (aj rfl) ?_ aa;rw[aT];simp only[dI,aP,ah,w6,xaG,aG,nz];split at J<;>cases J<;>simp
   cases J
  split at h;.rename_i l al;obtain⟨v,J,aa⟩:=en h;exact nJ (by rw[aT];simp only[eM,aG,ah];exact al5 al J) aa
  obtain⟨v,J,aa⟩:=en h;exact nJ (by rw[aT];simp only[eM,aG,ah];exact al4 J) aa
 exact rj h
def Mr{i:je}{off:Nat}{cs:List D}{v:D}(h:bM (vj i.desc) i.size off cs=some v):tx i cs off=some (.d v):=by
 unfold bM at h;unfold tx;cases ay:vj i.desc with
 |true=>
  simp only[ay]at h;simp only[xaG];split at h;.rename_i ah;rw[xac ah];cases h;rfl
  cases h
 |false=>simp only[ay]at h;simp[h]
def al8{s:TypeId}{x:Operand}{f:Nat}(aT:o.op= .field s x f)(h:RL T G σ o s x f k=some b):∃a1,hf T G σ o=some a1/\k a1=some b:=by
 unfold RL at h;split at h
 case h_2=>cases h
 rename_i off i bm;split at h
 .rename_i a aG;obtain⟨v,J,aa⟩:=en h;unfold mY at J;split at J
  case h_2=>cases J
  exact nJ (by rw[aT];simp only[eM,bm,aG];exact Mr J) aa
 exact rj h
def al9{t:TypeId}{a:Operand}(aT:o.op= .load t a)(h:RM T G σ o t a k=some b):∃a1,hf T G σ o=some a1/\k a1=some b:=by
 unfold RM at h;split at h
 case h_2=>cases h
 rename_i i ag;split at h;.rename_i cs off aG;obtain⟨v,J,aa⟩:=en h;exact mj (by rw[aT];rfl) (by rw[aT];simp only[dI,ag,aG];exact Mr J) aa
 .rename_i key cY e0 off aG;split at h
  case h_2=>cases h
  rename_i bG es ai;split at h
  case isFalse=>cases h
  rename_i dA;obtain⟨e,J,aa⟩:=en h;obtain⟨v,ax,bj⟩:=en aa;exact mj (by rw[aT];rfl) (by rw[aT];simp only[dI,ag,aG,ai,dA,xaG,J];exact Mr ax) bj
 exact rj h
def RZ{n m:Nat}{i:D}(h:cC n i=some m):∃Ms j,i= .val (.int Ms j)/\0<=j/\j<n/\m=j.toNat:=by
 unfold cC at h;split at h
 case h_2=>cases h
 split at h
 case isFalse=>cases h
 rename_i ah;cases h;exact⟨_,_,rfl,ah.1,ah.2,rfl⟩
def ama{t:TypeId}{x e0:Operand}(aT:o.op= .indexAddr t x e0)(h:RN T G σ o t x e0 k=some b):∃a1,hf T G σ o=some a1/\k a1=some b:=by
 unfold RN at h;split at h
 .rename_i e s1 s2 iX aP;split at h
  case h_2=>cases h
  rename_i br he;split at h
  case h_2=>cases h
  rename_i i ag;split at h
  .rename_i a aG;obtain⟨c,J,aa⟩:=en h;unfold b3 at J;split at J
   case h_2=>cases J
   split at J
   case isFalse=>cases J
   rename_i aN;split at J
   case h_2=>cases J
   split at J
   case isFalse=>cases J
   rename_i ai;exact mj (by rw[aT];rfl) (by rw[aT];simp only[dI,aP,ag,he,aG,aN,ai,xaG,J]) aa
  .rename_i key aG;split at h
   case h_2=>cases h
   rename_i bG es ai;split at h
   case isFalse=>cases h
   rename_i dA;obtain⟨n,J,aa⟩:=en h;obtain⟨Ms,j,rfl,g1,g2,rfl⟩:=RZ J;exact mj (by rw[aT];rfl) (by rw[aT];simp only[dI,aP,ag,he,aG,g1,xaG,ai,dA,g2,and_self]) (dA▸aa)
  .rename_i key bG i0 len aG;split at h
   case isFalse=>cases h
   rename_i dA;obtain⟨n,J,aa⟩:=en h;obtain⟨Ms,j,rfl,g1,g2,rfl⟩:=RZ J;exact mj (by rw[aT];rfl) (by rw[aT];simp only[dI,aP,ag,he,aG,g1,xaG,dA,g2,and_self]) (dA▸aa)
  cases h
 .rename_i len e s1 s2 iX aP;split at h
  case h_2=>cases h
  rename_i br he;split at h
  case h_2=>cases h
  rename_i i ag;obtain⟨n,J,aa⟩:=en h;obtain⟨Ms,j,rfl,g1,g2,rfl⟩:=RZ J;split at aa
  case h_2=>cases aa
  rename_i r av;exact mj (by rw[aT];rfl) (by rw[aT];simp only[dI,aP,ag,he,g1,g2,and_self,xaG];exact av) aa
 cases h
def amb{t:TypeId}{x:Operand}{lo ag:Option Operand}(aT:o.op= .slice t x lo ag none)(h:RO T G σ o t x lo ag k=some b):∃a1,hf T G σ o=some a1/\k a1=some b:=by
 unfold RO at h;split at h
 case h_2=>cases h
 rename_i l bQ al xz;have al:=ZF al;have xz:=ZF xz;split at h
 .rename_i s1 s2 iX aP;split at h
  case h_2=>cases h
  rename_i a aG;obtain⟨v,J,aa⟩:=en h;unfold ZB at J;split at J
  case h_2=>cases J
  split at J
  case h_2=>cases J
  rename_i bN bO;split at J
  case isFalse=>cases J
  rename_i ah;cases J;exact nJ (by rw[aT];simp only[eM,aP,aG,al,xz,Mk,bN,bO];rw[xac ah]) aa
 .rename_i e s1 s2 iX aP;split at h
  case h_2=>cases h
  rename_i br he;split at h
  .rename_i a aG;obtain⟨v,J,aa⟩:=en h;unfold og at J;split at J
   case h_2=>cases J
   split at J
   case h_2=>cases J
   rename_i bN bO;split at J
   case isFalse=>cases J
   rename_i ah;cases J;exact mj (by rw[aT];simp only[eM,aP]) (by rw[aT];simp only[dI,aP,he,aG,kA,al,xz,Mk,bN,bO];rw[xac ⟨ah.1,ah.2.1⟩,xac ah.2.2]) aa
  .rename_i key aG;split at h
   case h_2=>cases h
   rename_i bG es ai;split at h
   case isFalse=>cases h
   rename_i dA;obtain⟨p,J,aa⟩:=en h;unfold kE at J;split at J
   case h_2=>cases J
   rename_i bN bO;split at J
   case isFalse=>cases J
   rename_i ah;cases J;exact mj (by rw[aT];simp only[eM,aP]) (by rw[aT];simp only[dI,aP,he,aG,kA,ai,al,xz,Mk,bN,bO];rw[xac ah,xac dA]) aa
  .rename_i key bG i0 len aG;split at h
   case isFalse=>cases h
   rename_i dA;obtain⟨p,J,aa⟩:=en h;unfold kE at J;split at J
   case h_2=>cases J
   rename_i bN bO;split at J
   case isFalse=>cases J
   rename_i ah;cases J;exact mj (by rw[aT];simp only[eM,aP]) (by rw[aT];simp only[dI,aP,he,aG,kA,al,xz,Mk,bN,bO];rw[xac ah,xac dA]) aa
  cases h
 exact rj h
def amc{args:Array Operand}{dN:Array TypeId}(aT:o.op= .call ⟨.builtin .len,args,dN⟩)(h:RP T G σ o args.toList dN.toList k=some b):∃a1,hf T G σ o=some a1/\k a1=some b:=by
 unfold RP at h;split at h
 case h_2=>cases h
 rename_i t x aM a8;have aU:eM T (cm G σ.aQ) o.op=none:=by rw[aT];rfl
 split at h
 .rename_i a aG;split at h;.rename_i s1 s2 iX aP;obtain⟨v,J,aa⟩:=en h;unfold qt at J;split at J<;>cases J;exact mj aU (by rw[aT];simp only[dI,aM,a8,aP,aG]) aa
  .rename_i e s1 s2 iX aP;obtain⟨v,J,aa⟩:=en h;unfold fW at J;split at J<;>cases J;.exact mj aU (by rw[aT];simp only[dI,aM,a8,aP,aG,kA]) aa
   exact mj aU (by rw[aT];simp only[dI,aM,a8,aP,aG,kA]) aa
  .rename_i bN bO s1 s2 iX aP;obtain⟨v,J,aa⟩:=en h;unfold ZC at J;split at J<;>cases J;.exact mj aU (by rw[aT];simp only[dI,aM,a8,aP,aG]) aa
   exact mj aU (by rw[aT];simp only[dI,aM,a8,aP,aG]) aa
  cases h
 exact rj h
theorem ZI{a:D}{p:Nat×List (List D)}(h:ri a=some p)(objs:cD):mP objs (.d a)=some p:=by unfold ri at h;split at h<;>cases h<;>rfl
def amd{args:Array Operand}{dN:Array TypeId}(aT:o.op= .call ⟨.builtin .append,args,dN⟩)(h:RQ T G σ o args.toList dN.toList k=some b):∃a1,hf T G σ o=some a1/\k a1=some b:=by
 unfold RQ at h;split at h
 case h_2=>cases h
 rename_i t t' s x aM a8;split at h
 case h_2=>cases h
 rename_i e s1 s2 iX dx aDa aDb aDc aP q7 ay;split at h
 case h_2=>cases h
 rename_i br he;have aU:eM T (cm G σ.aQ) o.op=none:=by rw[aT];rfl
 have hm:dI T (cm G σ.aQ) σ.objs o.op=none:=by rw[aT];rfl
 have key:∀p:Nat×List (List D),mP σ.objs (cm G σ.aQ x)=some p->bx (decide (p.1=br.size\/p.2=[])&&decide (0<br.size)) (match cm G σ.aQ s with
     | .d a=>bx (nG a&&cT p.2.length br.bytes) (nI T σ o.dst k (.row (o.dst.getD 9999)) [(o.dst.getD 9999,.row br.size p.2)])
     | .row key=>match σ.objs key with
      |some (.row bG es)=>if bG=br.size/\key<10000 then bx (cT (es.length+p.2.length) br.bytes) (nI T σ o.dst k (.row (o.dst.getD 9999)) [(key,.dead),(o.dst.getD 9999,.row bG (es++p.2))])else none
      |_=>none
     |_=>none)=some b->∃a1,hf T G σ o=some a1/\k a1=some b:=by
  rintro⟨cY,xs⟩ ej h;obtain⟨ar,h⟩:=mi h;simp only[xap,xaC]at ar;split at h
  .rename_i a aG;obtain⟨J,h⟩:=mi h;simp only[xap,cT,xaC]at J;have aN:a= .val (.slice none 0 0):=by
    have:=J.1;unfold nG at this;split at this;.rfl
    cases this
   have aa:=J.2;clear J;refine sh aU hm ?_ h;rw[aT];simp only[eF,aM,a8,aP,q7,ay,he,ej,aG,aN];rw[xac ar,xac aa]
  .rename_i key aG;split at h
   case h_2=>cases h
   rename_i bG es ai;split at h
   case isFalse=>cases h
   rename_i dA;obtain⟨J,h⟩:=mi h;simp only[xap,cT,xaC]at J;refine sh aU hm ?_ h;rw[aT];simp only[eF,aM,a8,aP,q7,ay,he,ej,aG,ai];rw[xac ar,xac ⟨dA.1,J.1,J.2,dA.2⟩]
  .cases h
 simp only at h;split at h;.rename_i a aG;obtain⟨p,J,aa⟩:=en h;exact key p (by rw[aG];exact ZI J _) aa
 .rename_i ame bG i len aG;split at h
  case h_2=>cases h
  rename_i qu es ai;split at h
  case isFalse=>cases h
  rename_i dA;obtain⟨J,aa⟩:=mi h;have ej:mP σ.objs (cm G σ.aQ x)=some (bG,(es.drop i).take len):=by rw[aG];simp only[mP,ai];rw[xac ⟨dA,xbf J⟩]
  exact key (bG,(es.drop i).take len) ej aa
 split at h
 case h_2=>cases h
 rename_i p aU;exact key p aU h
def amf{args:Array Operand}{dN:Array TypeId}(aT:o.op= .call ⟨.builtin .clear,args,dN⟩)(h:RS T G σ o args.toList dN.toList k=some b):∃a1,hf T G σ o=some a1/\k a1=some b:=by
 unfold RS at h;split at h
 case h_2=>cases h
 rename_i t s aM a8;split at h
 case h_2=>cases h
 rename_i e s1 s2 iX aP;split at h
 case h_2=>cases h
 rename_i br he;have aU:eM T (cm G σ.aQ) o.op=none:=by rw[aT];rfl
 have hm:dI T (cm G σ.aQ) σ.objs o.op=none:=by rw[aT];rfl
 split at h
 case h_2=>cases h
 rename_i key bG i len aG;split at h
 case h_2=>cases h
 rename_i qu es ai;split at h
 case isFalse=>cases h
 rename_i dA;obtain⟨ar,h⟩:=mi h;simp only[xaC]at ar;refine sh aU hm ?_ h;rw[aT];simp only[eF,aM,a8,aP,he,aG,ai];rw[xac ⟨dA.1,dA.2.1,ar,dA.2.2⟩]
def amg{args:Array Operand}{dN:Array TypeId}(aT:o.op= .call ⟨.builtin .copy,args,dN⟩)(h:RR T G σ o args.toList dN.toList k=some b):∃a1,hf T G σ o=some a1/\k a1=some b:=by
 unfold RR at h;split at h
 case h_2=>cases h
 rename_i t t' s x aM a8;split at h
 case h_2=>cases h
 rename_i e s1 s2 iX aP;split at h
 case h_2=>cases h
 rename_i br he;have aU:eM T (cm G σ.aQ) o.op=none:=by rw[aT];rfl
 have hm:dI T (cm G σ.aQ) σ.objs o.op=none:=by rw[aT];rfl
 have key:∀p:Nat×List (List D),mP σ.objs (cm G σ.aQ x)=some p->bx (decide (p.1=br.size\/p.2=[])) (match cm G σ.aQ s with
     | .row key=>match σ.objs key with
      |some (.row bG es)=>if bG=br.size then nI T σ o.dst k (.d (.val (.int .i64 (min p.2.length es.length:Nat)))) [(key,.row bG (p.2.take (min p.2.length es.length)++es.drop (min p.2.length es.length)))]else none
      |_=>none
     | .sub key bG i len=>match σ.objs key with
      |some (.row qu es)=>if bG=br.size/\qu=bG then bx (decide (i+len<=es.length)) (nI T σ o.dst k (.d (.val (.int .i64 (min p.2.length len:Nat)))) [(key,.row bG (es.take i++p.2.take (min p.2.length len)++es.drop (i+min p.2.length len)))])else none
      |_=>none
     |_=>none)=some b->∃a1,hf T G σ o=some a1/\k a1=some b:=by
  rintro⟨cY,xs⟩ ej h;obtain⟨ar,h⟩:=mi h;simp only[xaC]at ar;split at h
  .rename_i key aG;split at h
   case h_2=>cases h
   rename_i bG es ai;split at h
   case isFalse=>cases h
   rename_i dA;refine sh aU hm ?_ h;rw[aT];simp only[eF,aM,a8,aP,he,ej,aG,ai];rw[xac ar,xac dA]
  .rename_i key bG i len aG;split at h
   case h_2=>cases h
   rename_i qu es ai;split at h
   case isFalse=>cases h
   rename_i dA;obtain⟨J,h⟩:=mi h;simp only[xaC]at J;refine sh aU hm ?_ h;rw[aT];simp only[eF,aM,a8,aP,he,ej,aG,ai];rw[xac ar,xac ⟨dA.1,dA.2,J⟩]
  .cases h
 simp only at h;split at h;.rename_i a aG;obtain⟨p,J,aa⟩:=en h;exact key p (by rw[aG];exact ZI J _) aa
 .rename_i ame bG i len aG;split at h
  case h_2=>cases h
  rename_i qu es ai;split at h
  case isFalse=>cases h
  rename_i dA;obtain⟨J,aa⟩:=mi h;have ej:mP σ.objs (cm G σ.aQ x)=some (bG,(es.drop i).take len):=by rw[aG];simp only[mP,ai];rw[xac ⟨dA,xbf J⟩]
  exact key (bG,(es.drop i).take len) ej aa
 split at h
 case h_2=>cases h
 rename_i p aU;exact key p aU h
def ZJ{im br:je}{t iF jt:TypeId}{s1 s2:Nat}{iX:Value}(aP:T t=some ⟨.map iF jt,s1,s2,iX⟩)(J:T iF=some im)(aa:T jt=some br)(ai:w5 im.desc=true){ok:Bool}{es:List (Value×D)}{fi v:D} (h:k4 im.desc br.zero ok es fi=some v):∃u,fi= .val u/\zh T t es u ok=some (.d v):=by
 unfold k4 at h;split at h
 case h_2=>cases h
 rename_i u;refine⟨u,rfl,?_⟩;unfold zh;simp only[aP,J,aa,ai,xaG];split at h;.rename_i x ad;cases h;simp only[ad]
 .rename_i ad;cases h;simp only[ad]
 cases h
def amh{t:TypeId}{x i:Operand}{ok:Bool}(aT:o.op= .lookup t x i ok)(h:RT T G σ o t x i ok k=some b):∃a1,hf T G σ o=some a1/\k a1=some b:=by
 unfold RT at h;split at h
 case h_2=>cases h
 rename_i iF jt s1 s2 iX aP;split at h
 case h_2=>cases h
 rename_i im br J aa;split at h
 case isFalse=>cases h
 rename_i ai;split at h
 case h_2=>cases h
 rename_i fi F4;split at h;.rename_i m hm;obtain⟨es,g1,g2⟩:=en h;obtain⟨v,g3,g4⟩:=en g2;obtain⟨u,rfl,g5⟩:=ZJ aP J aa ai g3;refine mj (by rw[aT];rfl) ?_ g4;rw[aT];simp only[dI,F4,hm];unfold nH at g1;split at g1<;>cases g1<;>exact g5
 .rename_i key hm;split at h
  case h_2=>cases h
  rename_i es lR;obtain⟨v,g3,g4⟩:=en h;obtain⟨u,rfl,g5⟩:=ZJ aP J aa ai g3;refine mj (by rw[aT];rfl) ?_ g4;rw[aT];simp only[dI,F4,hm,lR,g5]
 cases h
def ZK{t:TypeId}{m i x:Operand}(aT:o.op= .mapUpdate t m i x\/o.op= .insert t m i x)(h:Mp T G σ o t m i x k=some b):∃a1,hf T G σ o=some a1/\k a1=some b:=by
 unfold Mp at h;split at h
 case h_2=>cases h
 rename_i iF jt s1 s2 iX aP;split at h
 case h_2=>cases h
 rename_i im J;split at h
 case isFalse=>cases h
 rename_i ai;split at h
 case h_2=>cases h
 rename_i key fi v aM a8 b0;split at h
 case h_2=>cases h
 rename_i es lR;obtain⟨l,g1,g2⟩:=en h;unfold sg at g1;split at g1
 case h_2=>cases g1
 rcases aT with aT|aT<;>
 .refine sh (by rw[aT];rfl) (by rw[aT];rfl) ?_ g2;rw[aT];simp only[eF,aP,J,ai,xaG,aM,a8,b0,lR,g1]
def ami{t:TypeId}{a x:Operand}(aT:o.op= .store t a x)(h:RU T G σ o t a x k=some b):∃a1,hf T G σ o=some a1/\k a1=some b:=by
 unfold RU at h;split at h
 case h_2=>cases h
 rename_i i ag;obtain⟨cs,J,aa⟩:=Ml h;split at aa
 case isFalse=>cases aa
 rename_i al;split at aa
 .rename_i key off aG;split at aa
  case h_2=>cases aa
  rename_i cells ai;split at aa
  case isFalse=>cases aa
  rename_i ah;refine sh (by rw[aT];rfl) (by rw[aT];rfl) ?_ aa;rw[aT];simp only[eF,ag,J,aG,ai];rw[xac al,xac ah]
 .rename_i key cY e0 off aG;split at aa
  case h_2=>cases aa
  rename_i bG es aR ai eS;split at aa
  case isFalse=>cases aa
  rename_i ah;obtain⟨e,g1,g2⟩:=en aa;refine sh (by rw[aT];rfl) (by rw[aT];rfl) ?_ g2;rw[aT];simp only[eF,ag,J,aG,ai,eS,g1];rw[xac al,xac ah]
 cases aa
def amj{t:TypeId}{parts:Array (Nat×Operand)}(aT:o.op= .build t parts)(h:RV T G σ o t parts k=some b):∃a1,hf T G σ o=some a1/\k a1=some b:=by
 unfold RV at h;split at h
 case h_2=>cases h
 rename_i pl z aj;obtain⟨cs,J,aa⟩:=ZD h;exact nJ (by rw[aT];simp only[eM,Lo,aj,J]) aa
def amk{t:TypeId}{n:Nat}{parts:Array (Nat×Operand)}(aT:o.op= .buildSlice t n parts)(h:RW T G σ o t n parts k=some b):∃a1,hf T G σ o=some a1/\k a1=some b:=by
 unfold RW at h;split at h
 case h_2=>cases h
 rename_i e s1 s2 iX aP ay;split at h
 case h_2=>cases h
 rename_i br he;obtain⟨es,J,aa⟩:=ZE h;split at aa
 case isFalse=>cases aa
 rename_i ah;refine sh (by rw[aT];rfl) (by rw[aT];rfl) ?_ aa;rw[aT];simp only[eF,aP,ay,he,J];rw[xac ah]
def aml{t:TypeId}{l c:Operand}(aT:o.op= .makeSlice t l c)(h:RX T G σ o t l c k=some b):∃a1,hf T G σ o=some a1/\k a1=some b:=by
 unfold RX at h;split at h
 case h_2=>cases h
 rename_i e s1 s2 iX aP ay;split at h
 case h_2=>cases h
 rename_i br he;split at h
 case h_2=>cases h
 rename_i kc iC al ah;split at h
 case isFalse=>cases h
 rename_i bF;obtain⟨n,J,aa⟩:=en h;unfold lr at J;split at J
 case h_2=>cases J
 split at J
 case isFalse=>cases J
 rename_i mO;cases J;refine sh (by rw[aT];rfl) (by rw[aT];rfl) ?_ aa;rw[aT];simp only[eF,aP,ay,he,al,ah];rw[xac ⟨mO.1,mO.2.1,mO.2.2.1,mO.2.2.2,bF⟩]
def amm{s t:TypeId}{x:Operand}(aT:o.op= .convert s t x)(h:RY T G σ o s t x k=some b):∃a1,hf T G σ o=some a1/\k a1=some b:=by
 unfold RY at h;split at h;.rename_i q i s1 s2 iX a az aP ad;obtain⟨v,J,aa⟩:=en h;unfold k2 at J;split at J<;>cases J;exact nJ (by rw[aT];simp only[eM,az,aP,ad]) aa
 .rename_i e _ _ _ _ _ _ y az aP;split at h
  case h_2=>exact rj h
  rename_i he;have fin:∀{es:List (List D)},q3 σ.objs (cm G σ.aQ x)=some es->eM T (cm G σ.aQ) (.convert s t x)=none->∀{v:D},C8 es=some v->k (σ.put o.dst (.d v))=some b->∃a1,hf T G σ o=some a1/\k a1=some b:=by
   intro es J ar v aS ai;unfold C8 at aS;split at aS
   case h_2=>cases aS
   rename_i gk aj;cases aS;exact mj (by rw[aT];exact ar) (by rw[aT];simp only[dI,az,aP,he,J,aj]) ai
  split at h
  .rename_i a ad;obtain⟨v,J,aa⟩:=en h;unfold ZA at J;split at J;.exact fin (by rw[ad];rfl) (by simp only[eM,az,aP,ad]) J aa
   .exact fin (by rw[ad];rfl) (by simp only[eM,az,aP,ad]) J aa
   cases J
  .rename_i key ad;split at h
   case h_2=>exact rj h
   rename_i es ai;obtain⟨v,J,aa⟩:=en h;exact fin (by rw[ad];simp only[q3,ai]) (by simp only[eM,az,aP,ad]) J aa
  .rename_i key i len ad;split at h
   case h_2=>exact rj h
   rename_i es ai;obtain⟨ah,h⟩:=mi h;obtain⟨v,J,aa⟩:=en h;exact fin (by rw[ad];simp only[q3,ai];rw[xac (xbf ah)]) (by simp only[eM,az,aP,ad]) J aa
  exact rj h
 .rename_i q s1 s2 iX a az aP ad;obtain⟨v,J,aa⟩:=en h;unfold Zz at J;split at J<;>cases J;exact nJ (by rw[aT];simp only[eM,az,aP,ad]) aa
 exact rj h
def zJ(h:tT T G σ o k=some b):∃a1,hf T G σ o=some a1/\k a1=some b:=by
 unfold tT at h;split at h;.exact al7 (by assumption) h
 .rename_i aT;split at h
  .rename_i a aG;obtain⟨v,J,aa⟩:=en h;unfold dB at J;split at J<;>cases J;.exact nJ (by rw[aT];simp only[eM,aG]) aa
   exact nJ (by rw[aT];simp only[eM,aG]) aa
  cases h
 .exact amm (by assumption) h
 .rename_i c x y aT;split at h
  case h_2=>cases h
  rename_i iC ah;split at h
  .rename_i p aU;obtain⟨aG,aj⟩:=al6 aU;obtain⟨v,J,aa⟩:=en h;unfold gW at J;split at J<;>cases J;rename_i t;refine nJ ?_ aa;rw[aT];simp only[eM,ah,aG,aj];split;.rename_i aM a8;simp only[aX.d.injEq]at aM a8;rw[aM,a8];cases t<;>rfl
   cases t<;>rfl
  rename_i aU;rcases Zy h with⟨rfl,J⟩|⟨rfl,J⟩
  .exact nJ (by rw[aT];exact ZH ah aU) J
  exact nJ (by rw[aT];exact ZH ah aU) J
 .exact al8 (by assumption) h
 .rename_i x i aT;split at h
  .rename_i a aG;obtain⟨v,J,aa⟩:=en h;unfold bz at J;split at J
   case h_2=>cases J
   exact nJ (by rw[aT];simp only[eM,aG,J]) aa
  exact rj h
 .rename_i t x i aT;split at h
  .rename_i s1 s2 iX aP;split at h
   case h_2=>cases h
   rename_i a c aG ah;obtain⟨v,J,aa⟩:=en h;unfold sf at J;split at J
   case h_2=>cases J
   exact nJ (by rw[aT];simp only[eM,aP,aG,ah];exact zI J) aa
  .rename_i len e s1 s2 iX aP;split at h
   case h_2=>cases h
   rename_i br jf;split at h
   case h_2=>cases h
   rename_i a c aG ah;obtain⟨n,g1,h⟩:=en h;obtain⟨v,J,aa⟩:=en h;unfold cC at g1;split at g1
   case h_2=>cases g1
   split at g1
   case isFalse=>cases g1
   rename_i aN;cases g1;unfold mY at J;split at J
   case h_2=>cases J
   exact nJ (by rw[aT];simp only[eM,aP,aG,ah];rw[xac aN];simp only[jf];exact Mr J) aa
  cases h
 .exact al9 (by assumption) h
 .exact ama (by assumption) h
 .exact amb (by assumption) h
 .exact amh (by assumption) h
 .rename_i aT;exact ZK (.inl aT) h
 .rename_i aT;exact ZK (.inr aT) h
 .exact ami (by assumption) h
 .exact amj (by assumption) h
 .exact amk (by assumption) h
 .exact aml (by assumption) h
 .rename_i t x aT;split at h
  case h_2=>cases h
  rename_i i ag ay;obtain⟨cs,J,aa⟩:=Ml h;exact sh (by rw[aT];rfl) (by rw[aT];rfl) (by rw[aT];simp only[eF,J,ay]) aa
 .exact amc (by assumption) h
 .exact amd (by assumption) h
 .exact amg (by assumption) h
 .exact amf (by assumption) h
 .rename_i args dN aT;unfold Mq at h;split at h
  case h_2=>cases h
  rename_i aR eS;obtain⟨v,J,aa⟩:=en h;exact nJ (by rw[aT];simp only[eM,Cx eS];exact zI J) aa
 .rename_i args dN aT;unfold Mq at h;split at h
  case h_2=>cases h
  rename_i aR eS;obtain⟨v,J,aa⟩:=en h;exact nJ (by rw[aT];simp only[eM,Cx eS];exact zI J) aa
 exact rj h
end
section
variable{β:Type}
abbrev ml:=Tmp->FuncId->List D->Option D
def GG(G:ds)(C:ml)(σ:aO)(o:Oper)(x:Operand)(args:List Operand)(k:aO->Option β):Option β:=match xf (cm G σ.aQ x)with
 |some (f,pre,post)=>match hM ((pre++args.map (cm G σ.aQ)++post).map (toD σ.objs))with|some aR=>ab (C (o.dst.getD 9999) f aR) λr=>bx ((pre++args.map (cm G σ.aQ)++post).all tM||r.flat) (k (σ.put o.dst (.d r)))|none=>none
 |none=>none
def ZL:D->Option (FuncId×List D)
 | .fn (.func f) [] pO=>some (f,pO)| .val (.func (.func f) a b)=>if a.size=0/\b.size=0 then some (f,[])else none
 |_=>none
def Mt(f:FuncId)(aR:List D):List (FuncId×(List D->Option D))->Option D
 |[]=>none|(g,F)::r=>if f=g then F aR else Mt f aR r
def GH(l:List (FuncId×(List D->Option D)))(v:D)(aR:List D):Option D:=ab (ZL v) λp=>Mt p.1 (aR++p.2) l
def ZM(t:Tmp):List (Nat×List FuncId)->List FuncId
 |[]=>[]|(d,l)::r=>if t=d then l else ZM t r
def R0(l:List FuncId)(G:ds)(C:ml)(σ:aO)(o:Oper)(x:Operand)(args:List Operand)(k:aO->Option β):Option β:=match cm G σ.aQ x,hM ((args.map (cm G σ.aQ)).map (toD σ.objs))with| .d v,some aR=>ab (GH (l.map λg=>(g,C (o.dst.getD 9999) g)) v aR) λr=>bx ((args.map (cm G σ.aQ)).all tM||r.flat) (k (σ.put o.dst (.d r)))|_,_=>none
def zK(T:cn)(G:ds)(C:ml)(σ:aO)(o:Oper)(x:Operand)(args:List Operand)(k:aO->Option β):Option β:=match ZM (o.dst.getD 9999) T.dyn with|[]=>GG G C σ o x args k|g::l=>R0 (g::l) G C σ o x args k
def tU(T:cn)(G:ds)(C:ml)(σ:aO)(o:Oper)(k:aO->Option β):Option β:=match o.op with| .call ⟨.value x,args,_⟩=>zK T G C σ o x args.toList k|_=>tT T G σ o k
def tV(T:cn)(G:ds)(C:ml):List Oper->aO->(aO->Option β)->Option β
 |[],σ,k=>k σ|o::r,σ,k=>tU T G C σ o λa1=>tV T G C r a1 k
def xA:List Oper->List (Option (Nat×Bool)×List Oper)
 |[]=>[]
 |o::r=>match xA r with
  |(g,os)::rest=>if g=o.guard then(g,o::os)::rest else(o.guard,[o])::(g,os)::rest
  |[]=>[(o.guard,[o])]
def ec(x:D)(want:Bool)(p:Option D):Option D:=match x with
 | .val (.bool b)=>if b=want then p else some kD
 | .val (.tuple _)=>some kD|_=>none
def zL{eZ:Type}(x:D)(want:Bool)(p q:Option eZ):Option eZ:=match x with
 | .val (.bool b)=>if b=want then p else q
 | .val (.tuple _)=>q|_=>none
def R1:List Oper->aO->aO
 |[],σ=>σ|o::r,σ=>R1 r (σ.put o.dst (.d kD))
def xB:List Oper->Option Tmp
 |[]=>none|[o]=>o.dst|_::r=>xB r
def dstsOf(os:List Oper):List Tmp:=os.filterMap (·.dst)
def still(o:Oper):Bool:=jg o.op||jI o.op||hP o.op
def xC(ts:List Tmp)(v:D)(σ:aO):aO:=⟨λt=>if t∈ts then .d (ae v (ts.idxOf t))else σ.aQ t,σ.objs⟩
def GI(σ:aO):List Tmp->Option (List D)
 |[]=>some []|t::r=>match σ.aQ t,GI σ r with| .d v,some l=>some (v::l)|_,_=>none
def kept(all:Array Oper)(os l:List Oper):List Tmp:=(dstsOf os).filter λt=>l.any λo=>(o.looksAt all).contains t
def ZN{σ:aO}:∀{ts:List Tmp}{l:List D},GI σ ts=some l->l.length=ts.length/\∀(i:Nat)(t:Tmp),ts[i]?=some t->∃v,l[i]?=some v/\σ.aQ t= .d v
 |[],l,h=>by cases h;exact⟨rfl,λi t h=>by simp at h⟩
 |t::r,l,h=>by
  unfold GI at h;split at h
  case h_2=>cases h
  rename_i v kc aS al;cases h;have ih:=ZN al;refine⟨by simp[ih.1],λi u hu=>?_⟩;cases i with|zero=>simp at hu;subst hu;exact⟨v,rfl,aS⟩|succ i=>exact ih.2 i u (by simpa using hu)
def amn{σ:aO}{ts:List Tmp}{l:List D}(h:GI σ ts=some l){t:Tmp}(aP:t∈ts):σ.aQ t= .d (ae (.agg l) (ts.idxOf t)):=by
 have J:ts[ts.idxOf t]?=some t:=by have:=List.idxOf_lt_length_of_mem aP;rw[xab this,List.getElem_idxOf]
 obtain⟨v,aa,ax⟩:=(ZN h).2 _ t J;rw[ax]
 congr 1
 show v=l.getD _ _;simp[List.getD,aa]
def mm(aR:List Tmp)(σ:aO):aO:=⟨λt=>if t∈aR then .any else σ.aQ t,σ.objs⟩
def blind(all:Array Oper)(aR:List Tmp)(l:List Oper):Bool:=l.all λo=>aR.all λd=>!(o.looksAt all).contains d&&o.dst !=some d
def ZO(all:Array Oper)(d cz:Tmp)(os l:List Oper):Bool:=os.all (λo=>still o&&o.dst !=some d)&&blind all ((dstsOf os).filter (·!=cz)) l
def flat(gs:List (Option (Nat×Bool)×List Oper)):List Oper:=gs.flatMap (·.2)
def zM(T:cn)(G:ds)(C:ml)(all:Array Oper):List (Option (Nat×Bool)×List Oper)->aO->(aO->Option β)->Option β
 |[],σ,k=>k σ|(none,os)::r,σ,k=>tV T G C os σ λa1=>zM T G C all r a1 k
 |(some (j,want),os)::r,σ,k=>match(all[j]?).bind (·.dst),xB os with
  |some d,some cz=>match σ.aQ d with
   | .d x=>if ZO all d cz os (flat r)=true then
     ab (ec x want (tV T G C os σ λa1=>match a1.aQ cz with| .d v=>some v|_=>none)) λv=>zM T G C all r ((mm (dstsOf os) σ).put (some cz) (.d v)) k
    else if os.all (λo=>o.dst !=some d)=true then zL x want (tV T G C os σ λa1=>zM T G C all r a1 k) (zM T G C all r (R1 os σ) k)else none
   |_=>none
  |_,_=>none
def ZP(T:cn)(G:ds)(C:ml)(all:Array Oper)(σ:aO)(k:aO->Option β):Option β:=zM T G C all (xA all.toList) σ k
def ZQ:Op->Bool
 | .store _ _ _=>true|_=>false
def R2(all:Array Oper)(listed:Array Bool)(i:Nat):Bool:=match all[i]? with|none=>false|some fw=>((waits all i).all λj=>!listed.getD j true&&match all[j]? with|some dd=>dd.after.any λe=>Region.binds .any e&&(e.on==i||(waits all i).contains e.on)|none=>false)&&(List.range all.size).all λj=>j==i||listed.getD j true||(waits all i).contains j||match all[j]? with|some dd=>fw.apart all dd&&!ZQ dd.op|none=>true
def ZR(all:Array Oper)(listed:Array Bool)(i:Nat)(σ:aO)(o:Oper):Bool:=match o.op with
 | .load _ (.tmp a)=>match σ.aQ a with| .ptr _ _=>R2 all listed i|_=>false
 |_=>false
def zN(all:Array Oper)(listed:Array Bool)(i:Nat):List Oper:=(List.range all.size).filterMap λj=>if j==i||listed.getD j true||(waits all i).contains j then none else all[j]?
def R3(all:Array Oper)(listed:Array Bool)(i:Nat)(aQ:Nat->aX)(o:Oper):Bool:=((waits all i).all λj=>!listed.getD j true&&match all[j]? with|some dd=>dd.after.any λe=>Region.binds .any e&&(e.on==i||(waits all i).contains e.on)|none=>false)&&(zN all listed i).all λy=>o.apart all y&&tR aQ o y&&(nE o.op++(zN all listed i).flatMap λy=>vE y.op).all λt=>y.dst !=some t
def Da(T:cn)(G:ds)(C:ml)(all:Array Oper):List Nat->Array Bool->aO->(aO->Option β)->Option β
 |[],listed,σ,k=>if(Region.ready .any all listed).isEmpty=true then k σ else none
 |i::r,listed,σ,k=>match all[i]? with
  |some o=>if o.guard=none/\(Region.ready .any all listed).contains i=true/\(akP all listed i||ZR all listed i σ o||R3 all listed i σ.aQ o||Y0 T all listed i)=true then tU T G C σ o λa1=>Da T G C all r (listed.setIfInBounds i true) a1 k else none
  |none=>none
def hA(P:Program)(G:ds)(C:ml):Prop:=∀d f aR r,C d f aR=some r->fv P G f aR (·=r)
def xD:∀l:List Oper,flat (xA l)=l
 |[]=>rfl
 |o::r=>by
  have ih:=xD r;unfold xA;split;.rename_i g os rest bL;rw[bL]at ih;split<;>simp_all [flat]
  rename_i bL;rw[bL]at ih;simp[flat]at ih;subst ih;rfl
def Mu:∀(l:List Oper)(g:Option (Nat×Bool)) (os:List Oper),(g,os)∈xA l->∀o∈os,o.guard=g
 |[],g,os,h=>by cases h
 |o::r,g,os,h=>by
  have ih:=Mu r;unfold xA at h;split at h
  .rename_i r6 amo rest bL;split at h
   .rename_i he;rcases xam.1 h with J|J
    .cases J;intro q bU;rcases xam.1 bU with rfl|bU
     .exact he.symm
     exact ih g amo (by rw[bL];simp) q bU
    exact ih g os (by rw[bL];simp[J])
   rcases xam.1 h with J|J;.cases J;intro q bU;simp at bU;subst bU;rfl
   exact ih g os (by rw[bL];exact J)
  simp at h;obtain⟨rfl,rfl⟩:=h;intro q bU;simp at bU;subst bU;rfl
variable{P:Program}{T:cn}{G:ds}{C:ml}{σ:aO}{all:Array Oper}
def ZS{α:Type}:∀{a b:List (Option α)} {x y:List α},hM a=some x->hM b=some y->hM (a++b)=some (x++y)
 |[],b,x,y,h,bB=>by cases h;exact bB
 |none::a,b,x,y,h,bB=>by cases h
 |some c::a,b,x,y,h,bB=>by
  simp only[hM,xbd]at h⊢;split at h
  case h_2=>cases h
  rename_i z J;cases h;rw[ZS J bB];rfl
def ZT{objs:cD}:∀(l:List D),hM ((l.map aX.d).map (toD objs))=some l
 |[]=>rfl|c::r=>by have:=ZT (objs:=objs) r;have e:toD objs (aX.d c)=some c:=rfl;simp only[xaw,e,hM];rw[this]
def ZU{f:FuncId}{aR:List D}{C:FuncId->List D->Option D}{r:D}:∀{l:List FuncId},Mt f aR (l.map λg=>(g,C g))=some r->C f aR=some r
 |[],h=>by cases h
 |g::l,h=>by
  simp only[xaw,Mt]at h;split at h;.rename_i e;rw[e];exact h
  exact ZU h
def amp{l:List FuncId}{o:Oper}{x:Operand}{args:List Operand}{k:aO->Option β}{b:β}(h:R0 l G C σ o x args k=some b):GG G C σ o x args k=some b:=by
 unfold R0 at h;split at h
 case h_2=>cases h
 rename_i v aR aS eS;obtain⟨r,J,aa⟩:=en h;obtain⟨p,ax,bj⟩:=en J;have ca:=ZU (C:=C (o.dst.getD 9999)) bj;obtain⟨f,pO⟩:=p;have hg:xf (.d v)=some (f,[],pO.map .d):=by
  unfold ZL at ax;split at ax;.cases ax;rfl
  .split at ax;.rename_i e7;cases ax;simp only[xf,xac e7,xbb]
   cases ax
  cases ax
 unfold GG;rw[aS,hg];simp only[xaL,List.map_append];rw[ZS eS (ZT pO)];simp only;rw[ca];obtain⟨g1,g2⟩:=mi aa;have fl:((args.map (cm G σ.aQ))++pO.map aX.d).all tM=(args.map (cm G σ.aQ)).all tM:=by
  rw[List.all_append];have:(pO.map aX.d).all tM=true:=by rw[xaB];intro y aH;obtain⟨c,_,rfl⟩:=xaN.1 aH;rfl
  rw[this,xbw]
 rw[fl];exact aa
def amq{o:Oper}{x:Operand}{args:List Operand}{k:aO->Option β}{b:β}(h:zK T G C σ o x args k=some b):GG G C σ o x args k=some b:=by
 unfold zK at h;split at h;.exact h
 exact amp h
def Mv(ck:hA P G C){dY:cn}{o:Oper}{x:Operand}{args:Array Operand}{dN:Array TypeId}(aT:o.op= .call ⟨.value x,args,dN⟩){k:aO->Option β}{b:β}(h:zK dY G C σ o x args.toList k=some b):dh P T G o (λa1=>k a1=some b/\a1.objs=σ.objs/\∀t,o.dst≠some t->a1.aQ t=σ.aQ t) σ:=by
 have eb:hP o.op=true:=by rw[aT];rfl
 rw[oL (vv eb)]
 replace h:=amq h
 unfold GG at h;unfold jX;rw[aT];simp only;split at h
 case h_2=>cases h
 rename_i f pre post hg;simp only[hg];split at h
 case h_2=>cases h
 rename_i aR eS;obtain⟨r,J,aa⟩:=en h;obtain⟨aa,ax⟩:=mi aa;refine⟨aR,aR,(·=r),eS,r3.refl _,ck _ _ _ _ J,⟨r,rfl⟩,?_,?_⟩
 .rcases xbM.1 aa with aa|aa;.exact .inr aa
  exact .inl (by rintro _ rfl;exact aa)
 rintro _ rfl;refine⟨ax,by simp,?_⟩;intro t aP;cases ay:o.dst with|none=>rfl|some d=>rw[ay]at aP;simp only[aO.put];exact c6 _ _ (λe=>aP (by rw[e]))
def ZV(ck:hA P G C){o:Oper}{k:aO->Option β}{b:β}(h:tU T G C σ o k=some b):dh P T G o (λa1=>k a1=some b) σ:=by
 unfold tU at h;split at h;.exact rb (λ_ h=>h.1) (Mv ck (by assumption) h)
 obtain⟨a1,J,aa⟩:=zJ h;unfold dh;rw[J];exact aa
def si{dst:Option Tmp}{r:aX}{t:Tmp}(aP:dst≠some t):(σ.put dst r).aQ t=σ.aQ t:=by cases dst with|none=>rfl|some d=>simp only[aO.put];exact c6 _ _ (λe=>aP (by rw[e]))
def ZW(ck:hA P G C){o:Oper}(az:still o=true){k:aO->Option β}{b:β}(h:tU T G C σ o k=some b):dh P T G o (λa1=>k a1=some b/\a1.objs=σ.objs/\∀t,o.dst≠some t->a1.aQ t=σ.aQ t) σ:=by
 unfold tU at h;split at h;.exact Mv ck (by assumption) h
 rename_i ZX;obtain⟨a1,J,aa⟩:=zJ h;unfold dh;rw[J];have amr:hy T (cm G σ.aQ) σ.objs (o.dst.getD 9999) o.op=none:=by
  unfold still at az;simp only[xbk]at az;rcases az with(az|az)|az
  .exact(CQ az).2
  .exact CR az
  exact(Rm az).2.2
 unfold hf at J;split at J;.cases J;exact⟨aa,by simp,λt aP=>si aP⟩
 split at J;.cases J;exact⟨aa,by simp,λt aP=>si aP⟩
 rw[amr]at J;cases J
def nK{l:List Oper}:∀{σ:aO}{K K':aO->Prop},(∀σ,K σ->K' σ)->fU P T G all l K σ->fU P T G all l K' σ:=by
 induction l with
 |nil=>intro σ K K' ai h;exact ai _ h
 |cons o l ih=>intro σ K K' ai h;exact Gm (λa1 bB=>ih ai bB) h
def R4{l r:List Oper}:∀{σ:aO}{K:aO->Prop},fU P T G all l (fU P T G all r K) σ->fU P T G all (l++r) K σ:=by
 induction l with
 |nil=>intro σ K h;exact h
 |cons o l ih=>intro σ K h;exact Gm (λa1 bB=>ih bB) h
def pP(σ τ:aO):Prop:=σ.objs=τ.objs/\∀t,τ.aQ t= .any\/σ.aQ t=τ.aQ t
theorem pP.refl(σ:aO):pP σ σ:=⟨rfl,λ_=> .inr rfl⟩
def pP.trans{σ τ zA:aO}(h:pP σ τ)(bB:pP τ zA):pP σ zA:=by
 refine⟨h.1.trans bB.1,λt=>?_⟩;rcases bB.2 t with aa|aa
 .exact .inl aa
 rcases h.2 t with J|J;.exact .inl (aa▸J)
 exact .inr (J.trans aa)
def pP.Db{σ τ:aO}(h:pP σ τ):hn σ τ:=by
 obtain⟨s,o⟩:=σ;obtain⟨s',o'⟩:=τ;obtain⟨J,aa⟩:=h;simp only at J aa;subst J;intro m fr ρ ac w hD;refine⟨m,ρ,Mem.le_refl m,⟨hD.mem,hD.frame,hD.apart,hD.one,?_,hD.objs,hD.own,hD.sep⟩,λk ai aj=>⟨aj,rfl⟩⟩;intro t;rcases aa t with h|h;.simp only[h];exact .any _
 have:=hD.aQ t;simp only at this⊢;rw[<-h];exact this
def ZY{d:Tmp}{r:aX}:∀{l:List Oper}{σ:aO}{K:aO->Prop},(∀o∈l,d∉o.looksAt all/\o.dst≠some d)->fU P T G all l K (σ.put (some d) r)=fU P T G all l (λa1=>K (a1.put (some d) r)) σ
 |[],σ,K,h=>rfl
 |o::l,σ,K,h=>by
  have ar:=h o (by simp);have ih:∀{σ:aO},fU P T G all l K (σ.put (some d) r)=fU P T G all l (λa1=>K (a1.put (some d) r)) σ:=ZY λo' pK=>h o' (by simp[pK]);unfold fU;rw[h1,h1,pG (by rintro _ ⟨⟩;exact ar.1)];cases hw:kd all σ o with
  |none=>rfl
  |some w=>
   cases w with
   |true=>simp only;rw[jY (all:=all) (by rintro _ ⟨⟩;exact ar.1) (by rintro _ ⟨⟩;exact ar.2)];simp only[ih]
   |false=>simp only;rw[<-ih,put_comm (by rintro _ ⟨⟩;exact ar.2)]
def ams{d:Tmp}{a:aX}{l:List Oper}{σ:aO}{K:aO->Prop}(hz:∀σ τ,pP σ τ->K τ->K σ)(al:∀o∈l,d∉o.looksAt all/\o.dst≠some d)(h:fU P T G all l K (σ.put (some d) .any)):fU P T G all l K (σ.put (some d) a):=by
 rw[ZY al]at h⊢;refine nK (λa1 bB=>hz _ _ ?_ bB) h;refine⟨rfl,λt=>?_⟩;by_cases aP:t=d;.subst aP;exact .inl (by simp[aO.put])
 exact .inr (by simp[aO.put,c6 _ _ aP])
def R5{l:List Oper}{K:aO->Prop}(hz:∀σ τ,pP σ τ->K τ->K σ):∀(aR:List Tmp){σ τ:aO},(∀d∈aR,∀o∈l,d∉o.looksAt all/\o.dst≠some d)->(∀t,t∉aR->σ.aQ t=τ.aQ t)->(∀d∈aR,τ.aQ d= .any\/σ.aQ d=τ.aQ d)->σ.objs=τ.objs->fU P T G all l K τ->fU P T G all l K σ
 |[],σ,τ,_,J,aa,ax,h=>by
  have:σ=τ:=by
   cases σ;cases τ;simp only at J ax;subst ax
   congr 1
   funext t
   exact J t (by simp)
  rw[this];exact h
 |d::aR,σ,τ,aj,J,aa,ax,h=>by
  by_cases ay:τ.aQ d= .any
  .have e:τ=τ.put (some d) .any:=by
    cases τ;simp only[aO.put]
    congr 1
    funext t
    by_cases aP:t=d;.subst aP;simp only[ff];exact ay
    rw[c6 _ _ aP]
   rw[e]at h;have bB:=ams (a:=σ.aQ d) hz (λo aT=>aj d (by simp) o aT) h;refine R5 (τ:=τ.put (some d) (σ.aQ d)) hz aR (λkF jw=>aj kF (by simp[jw])) ?_ ?_ ax bB
   .intro t aP;by_cases qv:t=d;.subst qv;simp[aO.put]
    simp only[aO.put,c6 _ _ qv];exact J t (by simp[qv,aP])
   intro kF jw;by_cases qv:kF=d;.subst qv;simp[aO.put]
   simp only[aO.put,c6 _ _ qv];exact aa kF (by simp[jw])
  refine R5 hz aR (λkF jw=>aj kF (by simp[jw])) ?_ (λkF jw=>aa kF (by simp[jw])) ax h;intro t aP;by_cases qv:t=d
  .subst qv;rcases aa t (by simp)with bj|bj
   .exact absurd bj ay
   exact bj
  exact J t (by simp[qv,aP])
def ZZ(ck:hA P G C):∀{os:List Oper}{σ:aO}{k:aO->Option β}{b:β},(∀o∈os,o.guard=none)->tV T G C os σ k=some b->fU P T G all os (λa1=>k a1=some b) σ
 |[],σ,k,b,_,h=>h|o::os,σ,k,b,bL,h=>by unfold fU eN;rw[bL o (by simp)];exact rb (λa1 bB=>ZZ ck (λo aT=>bL o (by simp[aT])) bB) (ZV ck h)
def Z0(ck:hA P G C){j:Nat}{want:Bool}{d:Tmp}(ay:(all[j]?).bind (·.dst)=some d):∀{os:List Oper}{σ:aO}{k:aO->Option β}{b:β},(∀o∈os,o.guard=some (j,want))->(∀o∈os,still o=true/\o.dst≠some d)->σ.aQ d= .d (.val (.bool want))->tV T G C os σ k=some b->fU P T G all os (λa1=>k a1=some b/\a1.objs=σ.objs/\∀t,t∉dstsOf os->a1.aQ t=σ.aQ t) σ
 |[],σ,k,b,_,_,_,h=>⟨h,rfl,λ_ _=>rfl⟩
 |o::os,σ,k,b,bL,az,hw,h=>by
  have ar:=az o (by simp);unfold fU eN;rw[bL o (by simp)];simp only[ay,hw,xaG];refine rb ?_ (ZW ck ar.1 h);rintro a1 ⟨J,aa,ax⟩;refine nK ?_ (Z0 ck ay (λo aT=>bL o (by simp[aT])) (λo aT=>az o (by simp[aT])) (by rw[ax d ar.2];exact hw) J);rintro sd ⟨g1,g2,g3⟩;refine⟨g1,g2.trans aa,?_⟩;intro t aP;have qw:t∉dstsOf os:=λah=>aP (by unfold dstsOf at ah⊢;simp only[xbW];cases o.dst<;>simp[ah])
  have zO:o.dst≠some t:=λah=>aP (by unfold dstsOf;simp[ah]);rw[g3 t qw,ax t zO]
def GJ{j:Nat}{want:Bool}{d:Tmp}(ay:(all[j]?).bind (·.dst)=some d):∀{os:List Oper}{σ:aO},(∀o∈os,o.guard=some (j,want))->(∀o∈os,o.dst≠some d)->(σ.aQ d= .d (.val (.bool (!want)))\/∃vs,σ.aQ d= .d (.val (.tuple vs)))->fU P T G all os (λa1=>a1.objs=σ.objs/\(∀t,t∉dstsOf os->a1.aQ t=σ.aQ t)/\∀cz,xB os=some cz->a1.aQ cz= .d kD) σ
 |[],σ,_,_,_=>⟨rfl,λ_ _=>rfl,by intro cz h;cases h⟩
 |o::os,σ,bL,az,hw=>by
  have ar:=az o (by simp);unfold fU;have key:fU P T G all os (λa1=>a1.objs=σ.objs/\(∀t,t∉dstsOf (o::os)->a1.aQ t=σ.aQ t)/\∀cz,xB (o::os)=some cz->a1.aQ cz= .d kD) (σ.put o.dst (.d (.val (.tuple #[])))):=by
   have GK:(σ.put o.dst (.d (.val (.tuple #[])))).aQ d= .d (.val (.bool (!want)))\/∃vs,(σ.put o.dst (.d (.val (.tuple #[])))).aQ d= .d (.val (.tuple vs)):=by rw[si ar];exact hw
   refine nK ?_ (GJ ay (λo aT=>bL o (by simp[aT])) (λo aT=>az o (by simp[aT])) GK);rintro a1 ⟨J,aa,ax⟩;refine⟨J.trans (by simp),?_,?_⟩
   .intro t aP;have qw:t∉dstsOf os:=λah=>aP (by
     unfold dstsOf at ah⊢;simp only[xbW];cases o.dst<;>simp[ah])
    have zO:o.dst≠some t:=λah=>aP (by unfold dstsOf;simp[ah]);rw[aa t qw,si zO]
   intro cz al;cases os with|nil=>simp only[xB]at al;rw[aa cz (by simp[dstsOf]),al];simp[aO.put,kD]|cons q aDd=>exact ax cz al
  unfold eN;rw[bL o (by simp)];simp only[ay];rcases hw with hw|⟨vs,hw⟩
  .simp only[hw];rw[xae (by cases want<;>simp)];exact key
  simp only[hw];exact key
def R6{j:Nat}{want:Bool}{d:Tmp}(ay:(all[j]?).bind (·.dst)=some d):∀{os:List Oper}{σ:aO},(∀o∈os,o.guard=some (j,want))->(∀o∈os,o.dst≠some d)->(σ.aQ d= .d (.val (.bool (!want)))\/∃vs,σ.aQ d= .d (.val (.tuple vs)))->fU P T G all os (λa1=>a1.objs=σ.objs/\(∀t,t∉dstsOf os->a1.aQ t=σ.aQ t)/\∀t∈dstsOf os,a1.aQ t= .d kD) σ
 |[],σ,_,_,_=>⟨rfl,λ_ _=>rfl,by intro t h;cases h⟩
 |o::os,σ,bL,az,hw=>by
  have ar:=az o (by simp);unfold fU;have key:fU P T G all os (λa1=>a1.objs=σ.objs/\(∀t,t∉dstsOf (o::os)->a1.aQ t=σ.aQ t)/\∀t∈dstsOf (o::os),a1.aQ t= .d kD) (σ.put o.dst (.d (.val (.tuple #[])))):=by
   have GK:(σ.put o.dst (.d (.val (.tuple #[])))).aQ d= .d (.val (.bool (!want)))\/∃vs,(σ.put o.dst (.d (.val (.tuple #[])))).aQ d= .d (.val (.tuple vs)):=by rw[si ar];exact hw
   refine nK ?_ (R6 ay (λo aT=>bL o (by simp[aT])) (λo aT=>az o (by simp[aT])) GK);rintro a1 ⟨J,aa,ax⟩;refine⟨J.trans (by simp),?_,?_⟩
   .intro t aP;have qw:t∉dstsOf os:=λah=>aP (by
     unfold dstsOf at ah⊢;simp only[xbW];cases o.dst<;>simp[ah])
    have zO:o.dst≠some t:=λah=>aP (by unfold dstsOf;simp[ah]);rw[aa t qw,si zO]
   intro t aP;by_cases qw:t∈dstsOf os;.exact ax t qw
   have j1:o.dst=some t:=by
    unfold dstsOf at aP qw;simp only[xbW]at aP;cases aT:o.dst with
    |none=>rw[aT]at aP;exact absurd aP qw
    |some u=>
     rw[aT]at aP;rcases xam.1 aP with rfl|h
     .rfl
     exact absurd h qw
   rw[aa t qw,j1];simp[aO.put,kD]
  unfold eN;rw[bL o (by simp)];simp only[ay];rcases hw with hw|⟨vs,hw⟩
  .simp only[hw];rw[xae (by cases want<;>simp)];exact key
  simp only[hw];exact key
def amt(ck:hA P G C){o:Oper}{k:aO->Option β}{b:β}(h:tU T G C σ o k=some b):dh P T G o (λa1=>k a1=some b/\∀t,o.dst≠some t->a1.aQ t=σ.aQ t) σ:=by
 unfold tU at h;split at h;.exact rb (λ_ h=>⟨h.1,h.2.2⟩) (Mv ck (by assumption) h)
 obtain⟨a1,J,aa⟩:=zJ h;unfold dh;rw[J];refine⟨aa,λt aP=>?_⟩;unfold hf at J;split at J;.cases J;exact si aP
 split at J;.cases J;exact si aP
 split at J;.cases J;exact si aP
 cases J
def Z1(ck:hA P G C){j:Nat}{want:Bool}{d:Tmp}(ay:(all[j]?).bind (·.dst)=some d):∀{os:List Oper}{σ:aO}{k:aO->Option β}{b:β},(∀o∈os,o.guard=some (j,want))->(∀o∈os,o.dst≠some d)->σ.aQ d= .d (.val (.bool want))->tV T G C os σ k=some b->fU P T G all os (λa1=>k a1=some b) σ
 |[],σ,k,b,_,_,_,h=>h|o::os,σ,k,b,bL,az,hw,h=>by unfold fU eN;rw[bL o (by simp)];simp only[ay,hw,xaG];refine rb ?_ (amt ck h);rintro a1 ⟨J,ax⟩;exact Z1 ck ay (λo aT=>bL o (by simp[aT])) (λo aT=>az o (by simp[aT])) (by rw[ax d (az o (by simp))];exact hw) J
def R7{j:Nat}{want:Bool}{d:Tmp}(ay:(all[j]?).bind (·.dst)=some d){K:aO->Prop}:∀{os:List Oper}{σ:aO},(∀o∈os,o.guard=some (j,want))->(∀o∈os,o.dst≠some d)->(σ.aQ d= .d (.val (.bool (!want)))\/∃vs,σ.aQ d= .d (.val (.tuple vs)))->K (R1 os σ)->fU P T G all os K σ
 |[],σ,_,_,_,h=>h
 |o::os,σ,bL,az,hw,h=>by
  have ar:=az o (by simp);have GK:(σ.put o.dst (.d (.val (.tuple #[])))).aQ d= .d (.val (.bool (!want)))\/∃vs,(σ.put o.dst (.d (.val (.tuple #[])))).aQ d= .d (.val (.tuple vs)):=by rw[si ar];exact hw
  have key:fU P T G all os K (σ.put o.dst (.d (.val (.tuple #[])))):=R7 ay (λo aT=>bL o (by simp[aT])) (λo aT=>az o (by simp[aT])) GK h;unfold fU eN;rw[bL o (by simp)];simp only[ay];rcases hw with hw|⟨vs,hw⟩
  .simp only[hw];rw[xae (by cases want<;>simp)];exact key
  simp only[hw];exact key
def Z2:∀{os:List Oper}{cz:Tmp},xB os=some cz->cz∈dstsOf os
 |[],cz,h=>by cases h
 |[o],cz,h=>by simp only[xB]at h;simp[dstsOf,h]|o::q::r,cz,h=>by have:=Z2 (os:=q::r) h;unfold dstsOf at this⊢;rw[xbW];cases o.dst<;>simp[this]
def Dc(ck:hA P G C){K:aO->Prop}(hz:∀σ τ,pP σ τ->K τ->K σ):∀{gs:List (Option (Nat×Bool)×List Oper)} {σ:aO} {k:aO->Option β} {b:β},(∀g∈gs,∀o∈g.2,o.guard=g.1)->(∀a1,k a1=some b->K a1)->zM T G C all gs σ k=some b->fU P T G all (flat gs) K σ
 |[],σ,k,b,_,ai,h=>ai _ h|(none,os)::r,σ,k,b,bL,ai,h=>by show fU P T G all (os++flat r) K σ;refine R4 (nK ?_ (ZZ ck (λo aT=>bL (none,os) (by simp) o aT) h));intro a1 bB;exact Dc ck hz (λg hm=>bL g (by simp[hm])) ai bB
 |(some (j,want),os)::r,σ,k,b,bL,ai,h=>by
  show fU P T G all (os++flat r) K σ;unfold zM at h;split at h
  case h_2=>cases h
  rename_i d cz ay zP;split at h
  case h_2=>cases h
  rename_i x ad;split at h
  case isFalse=>
   split at h
   case isFalse=>cases h
   rename_i gF;simp only[xaB,bne_iff_ne,ne_eq]at gF;have mU:∀o∈os,o.guard=some (j,want):=λo aT=>bL (some (j,want),os) (by simp) o aT;unfold zL at h;refine R4 ?_;split at h
   .rename_i oI;split at h;.rename_i aj;subst aj;exact nK (λa1 bB=>Dc ck hz (λg hm=>bL g (by simp[hm])) ai bB) (Z1 ck ay mU gF ad h)
    rename_i aj;exact R7 ay mU gF (.inl (by rw[ad];cases oI<;>cases want<;>simp_all)) (Dc ck hz (λg hm=>bL g (by simp[hm])) ai h)
   .exact R7 ay mU gF (.inr ⟨_,ad⟩) (Dc ck hz (λg hm=>bL g (by simp[hm])) ai h)
   cases h
  rename_i bE;simp only[ZO,xap,xaB,bne_iff_ne,ne_eq,blind,xbX,Bool.not_eq_true',List.contains_eq_mem,decide_eq_false_iff_not]at bE;obtain⟨R8,amu⟩:=bE;obtain⟨v,J,aa⟩:=en h;have mU:∀o∈os,o.guard=some (j,want):=λo aT=>bL (some (j,want),os) (by simp) o aT;have rest:=Dc ck hz (λg hm=>bL g (by simp[hm])) ai aa;have fin:∀a1:aO,a1.objs=σ.objs->(∀t,t∉dstsOf os->a1.aQ t=σ.aQ t)->a1.aQ cz= .d v->fU P T G all (flat r) K a1:=by
   intro a1 aM a8 b0;refine R5 hz ((dstsOf os).filter (·!=cz)) ?_ ?_ ?_ ?_ rest;.intro kF jw o aT;have GL:=xbX.1 jw;exact amu o aT kF ⟨GL.1,by simpa using GL.2⟩
   .intro t aP;simp only[xbX,bne_iff_ne,ne_eq,not_and,Decidable.not_not]at aP;by_cases oh:t=cz;.subst oh;simp[aO.put,b0]
    have gU:t∉dstsOf os:=λah=>oh (aP ah);simp only[aO.put,c6 _ _ oh,mm,gU,xaI];exact a8 t gU
   .intro kF jw;have GL:=xbX.1 jw;have cp:kF≠cz:=by simpa using GL.2
    refine .inl ?_;simp only[aO.put,c6 _ _ cp,mm,GL.1,xaG]
   simp[aO.put,mm,aM]
  unfold ec at J;refine R4 ?_;split at J
  .rename_i oI;split at J
   .rename_i aj;subst aj;refine nK ?_ (Z0 ck ay mU R8 ad J);rintro a1 ⟨g1,g2,g3⟩;refine fin a1 g2 g3 ?_;split at g1;.rename_i u hu;cases g1;exact hu
    cases g1
   rename_i aj;cases J;refine nK ?_ (GJ ay mU (λo aT=>(R8 o aT).2) (.inl (by rw[ad];cases oI<;>cases want<;>simp_all)));rintro a1 ⟨g1,g2,g3⟩;exact fin a1 g1 g2 (g3 cz zP)
  .rename_i vs;cases J;refine nK ?_ (GJ ay mU (λo aT=>(R8 o aT).2) (.inr ⟨_,ad⟩));rintro a1 ⟨g1,g2,g3⟩;exact fin a1 g1 g2 (g3 cz zP)
  cases J
def amv{i:Nat}{fw:Oper}{listed:Array Bool}(ag:all[i]?=some fw)(h:R2 all listed i=true):(∀j dd,j∈waits all i->all[j]?=some dd->∃e∈dd.after,Region.binds .any e=true/\(e.on=i\/e.on∈waits all i))/\(∀j,j∈waits all i->listed.getD j true=false)/\ ∀j dd,all[j]?=some dd->j≠i->listed.getD j true=false->j∉waits all i->fw.apart all dd=true/\∀t a x,dd.op≠ .store t a x:=by
 simp only[R2,ag,xap,xaB,xbT]at h;refine⟨λj dd aA jK=>?_,λj aA=>by simpa using(h.1 j aA).1,λj dd jK cp pJ gU=>?_⟩;.have J:=(h.1 j aA).2;simp only[jK]at J;obtain⟨e,he,aj⟩:=Array.any_eq_true'.1 J;simp only[xap,xbk,xbP,List.contains_iff_mem]at aj;exact⟨e,he,aj.1,aj.2⟩
 have J:=h.2 j (xaS.1 jK).1;simp only[jK,xbk,xbP,cp,false_or,pJ,xar,xap,List.contains_iff_mem,gU]at J;refine⟨J.1,?_⟩;intro t a x he;rw[he]at J;simp[ZQ]at J
def amw{i:Nat}{fw:Oper}{listed:Array Bool}{aQ:Nat->aX}(h:R3 all listed i aQ fw=true):(∀j dd,j∈waits all i->all[j]?=some dd->∃e∈dd.after,Region.binds .any e=true/\(e.on=i\/e.on∈waits all i))/\(∀j,j∈waits all i->listed.getD j true=false)/\ ∀j dd,all[j]?=some dd->j≠i->listed.getD j true=false->j∉waits all i->fw.apart all dd=true/\tR aQ fw dd=true/\(∀t∈nE fw.op++(zN all listed i).flatMap (λy=>vE y.op),dd.dst≠some t)/\∀t∈vE dd.op,t∈nE fw.op++(zN all listed i).flatMap (λy=>vE y.op):=by
 simp only[R3,xap,xaB]at h;refine⟨λj dd aA jK=>?_,λj aA=>by simpa using(h.1 j aA).1,λj dd jK cp pJ gU=>?_⟩;.have J:=(h.1 j aA).2;simp only[jK]at J;obtain⟨e,he,aj⟩:=Array.any_eq_true'.1 J;simp only[xap,xbk,xbP,List.contains_iff_mem]at aj;exact⟨e,he,aj.1,aj.2⟩
 have hm:dd∈zN all listed i:=by
  unfold zN;rw[List.mem_filterMap];refine⟨j,by simpa using(xaS.1 jK).1,?_⟩;have:(j==i||listed.getD j true||(waits all i).contains j)=false:=by simp only[Bool.or_eq_false_iff,beq_eq_false_iff_ne,ne_eq];exact⟨⟨cp,pJ⟩,by simpa using gU⟩
  rw[this];simpa using jK
 obtain⟨J,aa⟩:=h.2 dd hm;refine⟨J.1,J.2,λt aP=>by simpa using aa t aP,λt aP=>xbS _ (xct.2 ⟨dd,hm,aP⟩)⟩
def R9(ck:hA P G C){k:aO->Option β}{b:β}:∀(ord:List Nat)(listed:Array Bool)(σ:aO),Da T G C all ord listed σ k=some b->jJ P T G all (λa1=>k a1=some b) ord.length listed σ
 |[],listed,σ,h=>by
  unfold Da at h;split at h;.rename_i av;exact⟨List.isEmpty_iff.1 av,h⟩
  cases h
 |i::r,listed,σ,h=>by
  unfold Da at h;split at h
  case h_2=>cases h
  rename_i o ag;split at h
  case isFalse=>cases h
  rename_i ah;obtain⟨bL,av,bm⟩:=ah;have H:ia P T G all i (jJ P T G all (λa1=>k a1=some b) r.length (listed.setIfInBounds i true)) σ:=by unfold ia;simp only[ag];unfold eN;simp only[bL];exact rb (λa1 bB=>R9 ck r _ a1 bB) (ZV ck h)
  rcases xbM.1 bm with bm|bm
  case inr=>obtain⟨bN,bO,cx⟩:=Rt ag bm;exact Rs ag bN r.length listed σ bO cx (by simpa using av) (.inr trivial) H
  rcases xbM.1 bm with bm|bm
  case inr=>obtain⟨bN,bO,cx⟩:=amw bm;exact alV ag bL bN (s0:=σ.aQ) (L:=nE o.op++(zN all listed i).flatMap (λy=>vE y.op)) (λt aP=>xaZ _ aP) r.length listed σ (λ_ _=>rfl) bO cx (by simpa using av) H
  rcases xbM.1 bm with bm|bm;.obtain⟨bN,bO,cx⟩:=akQ ag bm;exact akO ag bN r.length listed σ bO cx (by simpa using av) (.inr trivial) H
  unfold ZR at bm;split at bm
  case h_2=>cases bm
  rename_i t a aT;split at bm
  case h_2=>cases bm
  rename_i cY off az;obtain⟨bN,bO,cx⟩:=amv ag bm;exact alz ag aT bL bN r.length listed σ az bO cx (by simpa using av) H
def amx(ck:hA P G C){K:aO->Prop}(hz:∀σ τ,pP σ τ->K τ->K σ){k:aO->Option β}{b:β}(ai:∀a1,k a1=some b->K a1)(h:ZP T G C all σ k=some b):fU P T G all all.toList K σ:=by
 have:=Dc (P:=P) ck hz (λg hm o aT=>Mu _ _ _ hm o aT) ai h
 rwa [xD]at this
end
inductive rk where
 |any
 |d
 |Mw (f:FuncId)
 |fd (f:FuncId) (m:Nat)
 |dV (off:Nat)
 |ptr (k:Key) (off:Nat)
 |row (k:Key)
 |map (k:Key)
 |sub (k:Key) (cY:Nat)
inductive SW where
 |b (s:rk)
 |fn (f:Fn) (first cap:List rk)
 |agg (cs:List rk)
 |aZ (cs:List rk)
inductive mn where
 |dead
 |box (cs:List SW)
 |row (k:Nat)
 |map
inductive xE where
 |slot (t K n:Nat)
 |box (k i K n:Nat)
 |all (t cY:Nat)
structure sj where
 aQ:List (Nat×SW)
 objs:List (Key×mn)
 qx:List xE
def bd(ls:List D)(n:Nat):D:=ls.getD n kD
def Sa:D->Nat
 | .val (.int _ n)=>n.toNat|_=>0
def xF(ls:List D):rk->Nat->aX×Nat
 | .any,n=>(.any,n)| .d,n=>(.d (bd ls n),n+1)| .Mw f,n=>(.d (.val (.func (.func f) #[] #[])),n)| .fd f m,n=>(.d (.fn (.func f) [] ((List.range m).map λi=>bd ls (n+i))),n+m)| .dV off,n=>(.dV (lQ (bd ls n)) off,n+1)| .ptr k off,n=>(.ptr k off,n)| .row k,n=>(.row k,n)| .map k,n=>(.map k,n)| .sub k cY,n=>(.sub k cY (Sa (bd ls n)) (Sa (bd ls (n+1))),n+2)
def pQ(ls:List D):List rk->Nat->List aX×Nat
 |[],n=>([],n)|s::r,n=>((xF ls s n).1::(pQ ls r (xF ls s n).2).1,(pQ ls r (xF ls s n).2).2)
def qy(ls:List D):SW->Nat->aX×Nat
 | .b s,n=>xF ls s n| .fn f first cap,n=>(.fn f (pQ ls first n).1 (pQ ls cap (pQ ls first n).2).1,(pQ ls cap (pQ ls first n).2).2)
 | .agg cs,n=>(.agg (pQ ls cs n).1,(pQ ls cs n).2)| .aZ cs,n=>(.aZ (pQ ls cs n).1,(pQ ls cs n).2)
def sk(ls:List D):List SW->Nat->List aX×Nat
 |[],n=>([],n)|s::r,n=>((qy ls s n).1::(sk ls r (qy ls s n).2).1,(sk ls r (qy ls s n).2).2)
def zQ(ls:List D):mn->Nat->cX×Nat
 | .dead,n=>(.dead,n)| .box cs,n=>(.box (sk ls cs n).1,(sk ls cs n).2)| .row k,n=>(.row k (bb (bd ls n)),n+1)| .map,n=>(.map (gV (bd ls n)),n+1)
def xG(ls:List D):List (Nat×SW)->Nat->List (Nat×aX)×Nat
 |[],n=>([],n)|(t,s)::r,n=>((t,(qy ls s n).1)::(xG ls r (qy ls s n).2).1,(xG ls r (qy ls s n).2).2)
def pR(ls:List D):List (Key×mn)->Nat->List (Key×cX)×Nat
 |[],n=>([],n)|(t,s)::r,n=>((t,(zQ ls s n).1)::(pR ls r (zQ ls s n).2).1,(pR ls r (zQ ls s n).2).2)
def restore(gp:sj)(ls:List D):aO:=Y8 (xG ls gp.aQ 0).1 (pR ls gp.objs (xG ls gp.aQ 0).2).1
def Z3:aX->rk->List (Key×Key)
 | .ptr k _,.ptr bG _=>[(bG,k)]| .row k,.row bG=>[(bG,k)]| .map k,.map bG=>[(bG,k)]| .sub k _ _ _,.sub bG _=>[(bG,k)]|_,_=>[]
def GM:List aX->List rk->List (Key×Key)
 |x::xs,s::hp=>Z3 x s++GM xs hp|_,_=>[]
def Z4:aX->SW->List (Key×Key)
 |x,.b s=>Z3 x s| .fn _ as jH,.fn _ hp ts=>GM as hp++GM jH ts| .agg cs,.agg hp=>GM cs hp| .aZ cs,.aZ hp=>GM cs hp|_,_=>[]
def Mx:List aX->List SW->List (Key×Key)
 |x::xs,s::hp=>Z4 x s++Mx xs hp|_,_=>[]
def Z5(σ:aO):List (Nat×SW)->List (Key×Key)
 |[]=>[]|(t,s)::r=>Z4 (σ.aQ t) s++Z5 σ r
def Dd(σ:aO):List (Key×mn)->List (Key×Key)->List (Key×Key)
 |[],cr=>cr|(k,.box hp)::r,cr=>match σ.objs (gn cr k)with|some (.box xs)=>Dd σ r (cr++Mx xs hp)|_=>Dd σ r cr
 |_::r,cr=>Dd σ r cr
def My(cr:List (Key×Key))(ks:List Key):aX->rk->Option (List D)
 |_,.any=>some []|x,.d=>(L8 x).map λa=>[a]| .d (.val (.func (.func f) a b)),.Mw kY=>if f=kY/\a.size=0/\b.size=0 then some []else none
 | .d (.fn (.func kY) first pO),.fd f m=>if kY=f/\first.isEmpty=true/\pO.length=m then some pO else none
 | .dV cs off,.dV De=>if off=De then some [.agg cs]else none
 | .ptr k off,.ptr bG De=>if k=gn cr bG/\off=De/\ks.contains bG then some []else none
 | .row k,.row bG=>if k=gn cr bG/\ks.contains bG then some []else none
 | .map k,.map bG=>if k=gn cr bG/\ks.contains bG then some []else none
 | .sub k cY i len,.sub bG amy=>if k=gn cr bG/\cY=amy/\ks.contains bG then some [.val (.int .i64 (i:Nat)),.val (.int .i64 (len:Nat))]else none
 |_,_=>none
def vG(x y:Option (List D)):Option (List D):=match x,y with|some a,some b=>some (a++b)|_,_=>none
def Df(cr:List (Key×Key))(ks:List Key):List aX->List rk->Option (List D)
 |[],[]=>some []|x::xs,s::hp=>vG (My cr ks x s) (Df cr ks xs hp)|_,_=>none
def Mz(cr:List (Key×Key))(ks:List Key):aX->SW->Option (List D)
 |x,.b s=>My cr ks x s| .fn (.func f) as jH,.fn (.func kY) hp ts=>if f=kY then vG (Df cr ks as hp) (Df cr ks jH ts)else none
 | .agg cs,.agg hp=>Df cr ks cs hp| .aZ cs,.aZ hp=>Df cr ks cs hp|_,_=>none
def MA(cr:List (Key×Key))(ks:List Key):List aX->List SW->Option (List D)
 |[],[]=>some []|x::xs,s::hp=>vG (Mz cr ks x s) (MA cr ks xs hp)|_,_=>none
def Sb(cr:List (Key×Key))(ks:List Key):Option cX->mn->Option (List D)
 |some _,.dead=>some []|some (.box xs),.box hp=>MA cr ks xs hp|some (.row k es),.row bG=>if k=bG then some [.aW k es]else none
 |some (.map es),.map=>some [.mp es]|_,_=>none
def Sc(cr:List (Key×Key))(ks:List Key)(σ:aO):List (Nat×SW)->Option (List D)
 |[]=>some []|(t,s)::r=>vG (Mz cr ks (σ.aQ t) s) (Sc cr ks σ r)
def MB(cr:List (Key×Key))(ks:List Key)(σ:aO):List (Key×mn)->Option (List D)
 |[]=>some []|(k,s)::r=>vG (Sb cr ks (σ.objs (gn cr k)) s) (MB cr ks σ r)
section
variable{β:Type}
def pS:List xE->aO->(aO->Option β)->Option β
 |[],σ,k=>k σ
 | .slot t K n::r,σ,k=>match σ.aQ t,σ.objs K with
  | .d a,none=>if K<10000 then bx (nG a) (pS r ⟨cv σ.aQ t (.row K),cv σ.objs K (some (.row n []))⟩ k)else none
  |_,_=>pS r σ k
 | .box cY i K n::r,σ,k=>match σ.objs cY with
  |some (.box xs)=>match xs[i]?,σ.objs K with
   |some (.d a),none=>if K<10000 then bx (nG a) (pS r ⟨σ.aQ,cv (cv σ.objs cY (some (.box (xs.set i (.row K))))) K (some (.row n []))⟩ k)else none
   |_,_=>pS r σ k
  |_=>pS r σ k
 | .all t cY::r,σ,k=>match σ.aQ t with
  | .row K=>match σ.objs K with
   |some (.row n es)=>if n=cY then pS r ⟨cv σ.aQ t (.sub K n 0 es.length),σ.objs⟩ k else none
   |_=>pS r σ k
  |_=>pS r σ k
def Dg:mn->Bool
 | .box _=>true| .row _=>true| .map=>true|_=>false
def Z6(ib:List Key)(cr:List (Key×Key))(objs:List (Key×mn)):Bool:=objs.all (λp=>decide (p.1<10000)||ib.contains p.1)&&ib.all (λk=>gn cr k==k&&objs.any λp=>p.1==k&&Dg p.2)&&decide ((objs.map (·.1)).Nodup)
def tW(ib:List Key)(gp:sj)(σ:aO)(k:List D->Option β):Option β:=pS gp.qx σ λσ=>
  let cr:=Dd σ gp.objs (Z5 σ gp.aQ)
  if zE (gn cr) (gp.objs.map (·.1))&&Z6 ib cr gp.objs=true then
   match vG (Sc cr (gp.objs.map (·.1)) σ gp.aQ) (MB cr (gp.objs.map (·.1)) σ gp.objs)with|some ls=>k ls|none=>none
  else none
end
def zR{x y:Option (List D)}{l:List D}(h:vG x y=some l):∃a b,x=some a/\y=some b/\l=a++b:=by
 unfold vG at h;split at h;.cases h;exact⟨_,_,rfl,rfl,rfl⟩
 cases h
def At(ls:List D)(n:Nat)(a:List D):Prop:=∀j d,a[j]?=some d->ls[n+j]?=some d
def At.left{ls:List D}{n:Nat}{a b:List D}(h:At ls n (a++b)):At ls n a:=λj d aA=>h j d (by rw[xaq (xaa.1 aA).1];exact aA)
def At.right{ls:List D}{n:Nat}{a b:List D}(h:At ls n (a++b)):At ls (n+a.length) b:=λj d aA=>by
 have:=h (a.length+j) d (by rw[xaz (by omega)];simpa using aA)
 rwa [<-xbl]at this
def At.bd{ls:List D}{n:Nat}{a:D}(h:At ls n [a]):bd ls n=a:=by have:=h 0 a rfl;simp only[xbo]at this;simp[Am.bd,xbe,this]
section
variable{cr:List (Key×Key)}{ks:List Key}{ls:List D}{U:Key->Prop}
def Z7(gX:∀k,ks.contains k=true->U k){x:aX}{s:rk}{n:Nat}{a:List D}(h:My cr ks x s=some a)(gq:At ls n a):qp (gn cr) U x (xF ls s n).1/\(xF ls s n).2=n+a.length:=by
 unfold My at h;split at h;.cases h;exact⟨trivial,rfl⟩
 .obtain⟨d,ay,rfl⟩:=xaf.1 h;refine⟨⟨_,ay,?_⟩,rfl⟩;rw[gq.bd];exact D.le_refl _
 .split at h;.rename_i bm;obtain⟨rfl,aG,aj⟩:=bm;cases h;rw[xbn aG,xbn aj];exact⟨⟨_,rfl,D.le_refl _⟩,rfl⟩
  cases h
 .split at h
  .rename_i bm;obtain⟨rfl,J,rfl⟩:=bm;cases h;refine⟨⟨_,rfl,?_⟩,rfl⟩;rw[List.isEmpty_iff.1 J];have e:((List.range a.length).map λi=>bd ls (n+i))=a:=by
    apply xbQ;intro i;rw[xah];by_cases ag:i<a.length;.rw[xce ag,xab ag];have:=gq i a[i] (xab ag);simp[Am.bd,xbe,this]
    rw[xaM (by simp;omega),xaM (by omega)];rfl
   skip
   rw[e];exact D.le_refl _
  cases h
 .split at h;.rename_i bm;cases h;subst bm;refine⟨.inl ?_,rfl⟩;rw[gq.bd];rfl
  cases h
 .split at h;.rename_i bm;cases h;exact⟨⟨by rw[bm.1,bm.2.1],gX _ bm.2.2⟩,rfl⟩
  cases h
 .split at h;.rename_i bm;cases h;exact⟨⟨by rw[bm.1],gX _ bm.2⟩,rfl⟩
  cases h
 .split at h;.rename_i bm;cases h;exact⟨⟨by rw[bm.1],gX _ bm.2⟩,rfl⟩
  cases h
 .split at h;.rename_i bm;cases h;obtain⟨J,aa,ax⟩:=bm;have aM:=gq.left (a:=[_]) (b:=[_]);have a8:At ls (n+1) [D.val (.int .i64 ((_:Nat):Int))]:=At.right (a:=[_]) (b:=[_]) gq;simp only[xF];rw[aM.bd,a8.bd];exact⟨⟨by rw[J,aa];simp[Sa],gX _ ax⟩,rfl⟩
  cases h
 cases h
def GN(gX:∀k,ks.contains k=true->U k):∀{xs:List aX}{hp:List rk}{n:Nat}{a:List D},Df cr ks xs hp=some a->At ls n a->jZ (gn cr) U xs (pQ ls hp n).1/\(pQ ls hp n).2=n+a.length
 |[],[],n,a,h,gq=>by cases h;exact⟨trivial,rfl⟩
 |x::xs,s::hp,n,a,h,gq=>by obtain⟨aI,a2,J,aa,rfl⟩:=zR h;obtain⟨g1,g2⟩:=Z7 gX J gq.left;have av:=gq.right;rw[<-g2]at av;obtain⟨g3,g4⟩:=GN gX aa av;refine⟨⟨g1,g3⟩,?_⟩;show(pQ ls hp (xF ls s n).2).2=_;rw[g4,g2,xaP];omega
 |[],_::_,n,a,h,_=>by cases h
 |_::_,[],n,a,h,_=>by cases h
def amz{x y:aX}(h:qp (gn cr) U x y):vz (gn cr) U x y:=by cases y<;>first|exact h|exact h.elim
def Z8(gX:∀k,ks.contains k=true->U k){x:aX}{s:SW}{n:Nat}{a:List D}(h:Mz cr ks x s=some a)(gq:At ls n a):vz (gn cr) U x (qy ls s n).1/\(qy ls s n).2=n+a.length:=by
 unfold Mz at h;split at h;.obtain⟨g1,g2⟩:=Z7 gX h gq;exact⟨amz g1,g2⟩
 .split at h;.rename_i bm;subst bm;obtain⟨aI,a2,J,aa,rfl⟩:=zR h;obtain⟨g1,g2⟩:=GN gX J gq.left;have av:=gq.right;rw[<-g2]at av;obtain⟨g3,g4⟩:=GN gX aa av;refine⟨⟨rfl,g1,g3⟩,?_⟩;simp only[qy];rw[g4,g2,xaP];omega
  cases h
 .obtain⟨g1,g2⟩:=GN gX h gq;exact⟨g1,g2⟩
 .obtain⟨g1,g2⟩:=GN gX h gq;exact⟨g1,g2⟩
 cases h
def Sd(gX:∀k,ks.contains k=true->U k):∀{xs:List aX}{hp:List SW}{n:Nat}{a:List D},MA cr ks xs hp=some a->At ls n a->tQ (gn cr) U xs (sk ls hp n).1/\(sk ls hp n).2=n+a.length
 |[],[],n,a,h,gq=>by cases h;exact⟨trivial,rfl⟩
 |x::xs,s::hp,n,a,h,gq=>by obtain⟨aI,a2,J,aa,rfl⟩:=zR h;obtain⟨g1,g2⟩:=Z8 gX J gq.left;have av:=gq.right;rw[<-g2]at av;obtain⟨g3,g4⟩:=Sd gX aa av;refine⟨⟨g1,g3⟩,?_⟩;show(sk ls hp (qy ls s n).2).2=_;rw[g4,g2,xaP];omega
 |[],_::_,n,a,h,_=>by cases h
 |_::_,[],n,a,h,_=>by cases h
def amA(gX:∀k,ks.contains k=true->U k){x:Option cX}{s:mn}{n:Nat}{a:List D}(h:Sb cr ks x s=some a)(gq:At ls n a):(∃o',x=some o'/\zC (gn cr) U o' (zQ ls s n).1)/\(zQ ls s n).2=n+a.length:=by
 unfold Sb at h;split at h;.cases h;exact⟨⟨_,rfl,trivial⟩,rfl⟩
 .obtain⟨g1,g2⟩:=Sd gX h gq;exact⟨⟨_,rfl,⟨_,rfl,g1⟩⟩,g2⟩
 .split at h;.rename_i ai;cases h;subst ai;refine⟨⟨_,rfl,⟨_,rfl,.inl ?_⟩⟩,rfl⟩;rw[gq.bd];rfl
  cases h
 .cases h;refine⟨⟨_,rfl,?_⟩,rfl⟩;simp only[zQ,zC];rw[gq.bd];rfl
 cases h
def Z9(gX:∀k,ks.contains k=true->U k){σ:aO}:∀{l:List (Nat×SW)} {n:Nat} {a:List D},Sc cr ks σ l=some a->At ls n a->C1 (gn cr) U σ (xG ls l n).1/\(xG ls l n).2=n+a.length
 |[],n,a,h,gq=>by cases h;exact⟨trivial,rfl⟩
 |(t,s)::r,n,a,h,gq=>by obtain⟨aI,a2,J,aa,rfl⟩:=zR h;obtain⟨g1,g2⟩:=Z8 gX J gq.left;have av:=gq.right;rw[<-g2]at av;obtain⟨g3,g4⟩:=Z9 gX aa av;refine⟨⟨g1,g3⟩,?_⟩;simp only[xG];rw[g4,g2,xaP];omega
def Se(gX:∀k,ks.contains k=true->U k){σ:aO}:∀{l:List (Key×mn)} {n:Nat} {a:List D},MB cr ks σ l=some a->At ls n a->zD (gn cr) U σ (pR ls l n).1/\(pR ls l n).2=n+a.length
 |[],n,a,h,gq=>by cases h;exact⟨trivial,rfl⟩
 |(t,s)::r,n,a,h,gq=>by obtain⟨aI,a2,J,aa,rfl⟩:=zR h;obtain⟨g1,g2⟩:=amA gX J gq.left;have av:=gq.right;rw[<-g2]at av;obtain⟨g3,g4⟩:=Se gX aa av;refine⟨⟨g1,g3⟩,?_⟩;simp only[pR];rw[g4,g2,xaP];omega
end
def zS(ls:List D):∀(l:List (Key×mn)) (n:Nat),mW (pR ls l n).1=l.map (·.1)
 |[],n=>rfl|(k,s)::r,n=>by have:=zS ls r (zQ ls s n).2;simp only[pR,mW,xaw]at this⊢;rw[<-this]
def MC:∀{lo:List (Key×cX)} {k:Key},k∈mW lo->∃o,eY lo k=some o
 |[],k,h=>by cases h
 |(j,x)::r,k,h=>by
  unfold eY;by_cases ai:k=j;.exact⟨x,by rw[xac ai]⟩
  rw[xae ai];simp only[mW,xaw,xam]at h;exact MC (h.resolve_left ai)
def fN(ib:List Key)(σ:aO):Prop:=∀k,10000<=k->e3 (σ.objs k)->k∈ib
def Sf(ls:List D):∀(l:List (Key×mn)) (n:Nat) (k:Key),(l.map (·.1)).Nodup->(∃s,(k,s)∈l/\Dg s=true)->e3 (eY (pR ls l n).1 k)
 |[],n,k,_,⟨_,h,_⟩=>by cases h
 |(j,s)::r,n,k,aN,⟨hp,h,az⟩=>by
  simp only[pR,eY];simp only[xaw,List.nodup_cons]at aN;rcases xam.1 h with J|J
  .cases J;rw[xac rfl];cases s<;>first|cases az|skip
   .exact vq
   .exact tK
   exact xd
  have cp:k≠j:=by rintro rfl;exact aN.1 (xaN.2 ⟨_,J,rfl⟩)
  rw[xae cp];exact Sf ls r _ k aN.2 ⟨hp,J,az⟩
def tX{β:Type}{ib:List Key}:∀{l:List xE}{σ:aO}{k:aO->Option β}{b:β},fN ib σ->pS l σ k=some b->∃τ,hn σ τ/\fN ib τ/\k τ=some b
 |[],σ,k,b,ct,h=>⟨σ,hn.refl σ,ct,h⟩
 | .slot t K n::r,σ,k,b,ct,h=>by
  unfold pS at h;split at h
  .rename_i a az hz;split at h
   case isFalse=>cases h
   rename_i b6;obtain⟨J,aa⟩:=mi h;have aG:a= .val (.slice none 0 0):=by
    unfold nG at J;split at J;.rfl
    cases J
   subst aG;obtain⟨τ,g1,g2,g3⟩:=tX (ib:=ib) (by
    intro j aA aj;by_cases fA:j=K;.exact absurd b6 (Nat.not_lt.2 (fA▸aA))
    simp only[c6 _ _ fA]at aj;exact ct j aA aj) aa
   exact⟨τ,(alr t K n az hz).trans g1,g2,g3⟩
  exact tX ct h
 | .box cY i K n::r,σ,k,b,ct,h=>by
  unfold pS at h;split at h
  .rename_i xs ai;split at h
   .rename_i a ag hz;split at h
    case isFalse=>cases h
    rename_i b6;obtain⟨J,aa⟩:=mi h;have aG:a= .val (.slice none 0 0):=by
     unfold nG at J;split at J;.rfl
     cases J
    subst aG;obtain⟨τ,g1,g2,g3⟩:=tX (ib:=ib) (by
     intro j aA aj;by_cases fA:j=K;.exact absurd b6 (Nat.not_lt.2 (fA▸aA))
     simp only[c6 _ _ fA]at aj;by_cases zm:j=cY;.subst zm;exact ct j aA (by rw[ai];exact vq)
     simp only[c6 _ _ zm]at aj;exact ct j aA aj) aa
    exact⟨τ,(als cY i K n ai ag hz).trans g1,g2,g3⟩
   exact tX ct h
  exact tX ct h
 | .all t cY::r,σ,k,b,ct,h=>by
  unfold pS at h;split at h
  .rename_i K az;split at h
   .rename_i n es ai;split at h
    case isFalse=>cases h
    rename_i aN;subst aN;obtain⟨τ,g1,g2,g3⟩:=tX (ib:=ib) (σ:=⟨cv σ.aQ t (.sub K n 0 es.length),σ.objs⟩) (λj aA aj=>ct j aA aj) h;exact⟨τ,(alu t K n az ai).trans g1,g2,g3⟩
   exact tX ct h
  exact tX ct h
def MD{β:Type}{ib:List Key}{gp:sj}{σ:aO}{k:List D->Option β}{b:β}(ct:fN ib σ)(h:tW ib gp σ k=some b):∃ls,hn σ (restore gp ls)/\fN ib (restore gp ls)/\k ls=some b:=by
 unfold tW at h;obtain⟨τ,g1,g2,g3⟩:=tX ct h;simp only at g3;split at g3
 case isFalse=>cases g3
 rename_i ah;simp only[Z6,xap,xaB,xbk,xaC,xbP,xbH,List.contains_eq_mem]at ah;obtain⟨zT,⟨r8,amB⟩,amC⟩:=ah;split at g3
 case h_2=>cases g3
 rename_i ls Sg;obtain⟨aI,a2,aM,a8,rfl⟩:=zR Sg;have gq:At (aI++a2) 0 (aI++a2):=λj d aA=>by rw[xax];exact aA
 have gX:∀k,(gp.objs.map (·.1)).contains k=true->∃o,eY (pR (aI++a2) gp.objs (xG (aI++a2) gp.aQ 0).2).1 k=some o:=by intro k ai;exact MC (by rw[zS];simpa using ai)
 obtain⟨bN,bO⟩:=Z9 gX aM gq.left;have av:=gq.right;rw[<-bO]at av;obtain⟨cx,dX⟩:=Se gX a8 av;have tY:hn τ (restore gp (aI++a2)):=by refine ale _ (by rw[zS];exact zT) bN cx ?_;intro k ai aj;have hm:=g2 k ai aj;obtain⟨ca,p,ME,xH,aaa⟩:=amB k hm;refine⟨?_,ca⟩;obtain⟨aDe,iT⟩:=p;simp only at xH aaa;subst xH;exact Sf _ _ _ _ amC ⟨_,ME,aaa⟩
 refine⟨_,g1.trans tY,?_,g3⟩;intro k ai aj;obtain⟨o,aT⟩:=CN aj;have:=xx aT;rw[zS]at this;obtain⟨p,ME,xH⟩:=xaN.1 this;rcases r8 p ME with cR|cR
 .rw[xH]at cR;exact absurd cR (Nat.not_lt.2 ai)
 rw[xH]at cR;exact cR
def MF(objs:cD)(cs:List aX):Option (List D):=if cs.all tM=true then hM (cs.map (toD objs))else none
def xI(objs:cD)(ks:List Key):aX->aX
 | .ptr k off=>if k∈ks then match objs k with
   |some (.box cs)=>match MF objs cs with|some aR=> .dV aR off|none=> .ptr k off
   |_=> .ptr k off
  else .ptr k off
 | .row k=>if k∈ks then match objs k with|some (.row n es)=> .d (.aW n es)|_=> .row k
  else .row k
 | .map k=>if k∈ks then match objs k with|some (.map es)=> .d (.mp es)|_=> .map k
  else .map k
 |x=>x
def MG(objs:cD)(ks:List Key):aX->aX
 | .agg cs=>Cy (cs.map (xI objs ks))| .fn f first cap=> .fn f (first.map (xI objs ks)) (cap.map (xI objs ks))
 |x=>xI objs ks x
def GO(objs:cD)(ks:List Key):cX->cX
 | .box cs=> .box (cs.map (MG objs ks))|o=>o
def Sh(objs:cD)(k:Key):Bool:=match objs k with|some (.row _ _)=>decide (k<10000)|some (.map _)=>decide (k<10000)|some (.box cs)=>decide (k<10000)&&(MF objs cs).isSome|_=>false
def freeze(ks:List Key)(σ:aO):aO:=⟨λt=>MG σ.objs ks (σ.aQ t),λk=>if k∈ks then some .dead else(σ.objs k).map (GO σ.objs ks)⟩
section
variable{m:Mem}{fr:fq}{ρ:dk}{σ:aO}{a:Act}{w:World}{ks:List Key}
def amD(h:Den m fr ρ σ a w){key off:Nat}{cs:List aX}{aR:List D}(ai:σ.objs key=some (.box cs))(eS:MF σ.objs cs=some aR)(hm:key∈ks){U:Key->Prop}{v:Value}(aS:cg m ρ σ.used (.ptr key off) v):cg (Den.part m ρ ks w) ρ U (.dV aR off) v:=by
 have hle:=Den.tI m ρ ks w;obtain⟨b,vs,dY,aM,a8,b0,cK⟩:=h.objs _ _ ai;have aj:=h.LG ai rfl hm (by rw[aM];rfl);unfold MF at eS;split at eS
 case isFalse=>cases eS
 rename_i RA;obtain⟨g1,g2⟩:=r5 eS;rw[xaW]at g1;cases aS with
 |ptr _ _ b' hu av=>
  rw[aM]at av;cases av;have:=cg.dV (m:=Den.part m ρ ks w) (ρ:=ρ) (U:=U) aR off b 0 vs dY (0,0) (by rw[aj];exact a8) (λj=>(vs[j]?).getD undef) ?_ ?_
  .simpa using this
  .intro j c aA;have b6:j<vs.size:=by rw[b0,<-g1];exact(xaa.1 aA).1
   simp[xak b6]
  intro j c aA;have b6:j<vs.size:=by rw[b0,<-g1];exact(xaa.1 aA).1
  have g3:=g2 j c aA;rw[xah,xaf]at g3;obtain⟨y,aH,vu⟩:=g3;have:=cK j y vs[j] aH (xak b6);simp only[xak b6,xbr];exact(Rg (xaB.1 RA y (xad aH)) vu this).mono hle
def aab(h:Den m fr ρ σ a w){x:aX}{v:Value}(ad:cg m ρ σ.used x v):cg (Den.part m ρ ks w) ρ (freeze ks σ).used (xI σ.objs ks x) v:=by
 have hle:=Den.tI m ρ ks w;have gX:∀k,σ.used k->(freeze ks σ).used k/\ρ k=ρ k:=by
  rintro k ⟨o,aT⟩;refine⟨?_,rfl⟩;unfold aO.used freeze;by_cases ai:k∈ks;.exact⟨.dead,by simp[ai]⟩
  exact⟨GO σ.objs ks o,by simp[ai,aT]⟩
 unfold xI;split
 .rename_i k off;split
  .rename_i hm;split
   .rename_i cs ai;split;.rename_i aR eS;exact amD h ai eS hm ad
    exact ad.mono hle gX
   exact ad.mono hle gX
  exact ad.mono hle gX
 .rename_i k;split
  .rename_i hm;split;.rename_i n es ai;cases ad;exact .d _ _ (Ra h ai hm)
   exact ad.mono hle gX
  exact ad.mono hle gX
 .rename_i k;split
  .rename_i hm;split;.rename_i es ai;cases ad;exact .d _ _ (ajY h ai hm)
   exact ad.mono hle gX
  exact ad.mono hle gX
 exact ad.mono hle gX
def Si(h:Den m fr ρ σ a w){cs:List aX}{vs:Array Value}(al:vs.size=cs.length)(bQ:∀(i:Nat)(c:aX)(v:Value),cs[i]?=some c->vs[i]?=some v->cg m ρ σ.used c v):vs.size=(cs.map (xI σ.objs ks)).length/\∀(i:Nat)(c:aX)(v:Value),(cs.map (xI σ.objs ks))[i]?=some c->vs[i]?=some v->cg (Den.part m ρ ks w) ρ (freeze ks σ).used c v:=by refine⟨by simpa using al,?_⟩;intro i c v ah aS;simp only[xah,xaf]at ah;obtain⟨y,aH,rfl⟩:=ah;exact aab h (bQ i y v aH aS)
def aac(h:Den m fr ρ σ a w){x:aX}{v:Value}(ad:cg m ρ σ.used x v):cg (Den.part m ρ ks w) ρ (freeze ks σ).used (MG σ.objs ks x) v:=by
 unfold MG;split
 .cases ad with|agg _ vs al bQ=>
  obtain⟨J,aa⟩:=Si (ks:=ks) h al bQ;exact Ll (.agg _ _ J aa)
 .cases ad with|fn _ _ _ vs ws al eI bQ zs=>
  obtain⟨J,aa⟩:=Si (ks:=ks) h al bQ;obtain⟨ax,bj⟩:=Si (ks:=ks) h eI zs;exact .fn _ _ _ _ _ J ax aa bj
 exact aab h ad
def amE(ks:List Key)(eP:ks.all (Sh σ.objs)=true):hn σ (freeze ks σ):=by
 intro m fr ρ a w h;have hle:=Den.tI m ρ ks w;have eL:∀k∈ks,(k<10000/\∃n es,σ.objs k=some (.row n es))\/(k<10000/\∃es,σ.objs k=some (.map es))\/(k<10000/\∃cs,σ.objs k=some (.box cs)):=by
  intro k ai;have:=xaB.1 eP k ai;unfold Sh at this;split at this
  .rename_i n es e;exact .inl ⟨xbf this,n,es,e⟩
  .rename_i es e;exact .inr (.inl ⟨xbf this,es,e⟩)
  .rename_i cs e;simp only[xap,xaC]at this;exact .inr (.inr ⟨this.1,cs,e⟩)
  cases this
 have own:∀k∈ks,∃o,σ.objs k=some o/\o.owns=true:=by
  intro k ai;rcases eL k ai with⟨_,n,es,e⟩|⟨_,es,e⟩|⟨_,cs,e⟩
  .exact⟨_,e,rfl⟩
  .exact⟨_,e,rfl⟩
  exact⟨_,e,rfl⟩
 have fT:∀b,Den.part m ρ ks w b=m b\/∃k∈ks,blockOf (ρ k)=some b/\Den.part m ρ ks w b=w.heap[b]?:=by
  intro b;unfold Den.part;cases hm:m b with
  |some x=>exact .inl rfl
  |none=>
   simp only;by_cases ah:∃k∈ks,blockOf (ρ k)=some b;.rw[xac ah];obtain⟨k,J,aa⟩:=ah;exact .inr ⟨k,J,aa,rfl⟩
   rw[xae ah];exact .inl rfl
 have iS:∀k o,(freeze ks σ).objs k=some o->o.owns=true->k∉ks/\∃dZ,σ.objs k=some dZ/\o=GO σ.objs ks dZ/\dZ.owns=true:=by
  intro k o ai aT;unfold freeze at ai;simp only at ai;split at ai;.cases ai;cases aT
  rename_i aN;obtain⟨dZ,J,rfl⟩:=xaf.1 ai;refine⟨aN,dZ,J,rfl,?_⟩;cases dZ<;>first|rfl|exact aT
 refine⟨Den.part m ρ ks w,ρ,hle,⟨?_,h.frame,?_,?_,?_,?_,?_,?_⟩,?_⟩
 .intro b o aj;rcases fT b with e|⟨k,_,_,e⟩
  .rw[e]at aj;exact h.mem b o aj
  rw[e]at aj;exact aj
 .intro b aj;rcases fT b with e|⟨k,J,aa,e⟩
  .rw[e]at aj;exact h.apart b aj
  obtain⟨o,ax,bj⟩:=own k J;exact(h.own k o b ax bj aa).2
 .rintro k ⟨o,aT⟩;unfold freeze at aT;simp only at aT;split at aT;.rename_i ai;obtain⟨o,ax,bj⟩:=own k ai;exact h.one k ⟨o,ax⟩
  obtain⟨dZ,J,rfl⟩:=xaf.1 aT;exact h.one k ⟨dZ,J⟩
 .intro t;exact aac h (h.aQ t)
 .intro k o ai;have fs:=ai;unfold freeze at ai;simp only at ai;split at ai
  .cases ai;trivial
  obtain⟨dZ,J,rfl⟩:=xaf.1 ai;have aa:=h.objs k dZ J;cases dZ with
  |dead=>trivial|box cs=>obtain⟨b,vs,T,aM,a8,b0,cK⟩:=aa;refine⟨b,vs,T,aM,a8,by simpa using b0,?_⟩;intro i c x ah ad;simp only[xah,xaf]at ah;obtain⟨y,aH,rfl⟩:=ah;exact aac h (cK i y x aH ad)
  |row n es=>
   rcases aa with⟨aM,a8⟩|⟨b,o,cap,vs,dY,aM,a8,b0,cK,dJ,eX⟩;.exact .inl ⟨aM,a8⟩
   exact .inr ⟨b,o,cap,vs,dY,aM,a8,b0,cK,dJ,λi e j c ag aA=>by obtain⟨x,g1,g2⟩:=eX i e j c ag aA;exact⟨x,g1,g2.mono hle⟩⟩
  |map es=>obtain⟨r,dD,clock,aM,a8,b0,cK,dJ⟩:=aa;exact⟨r,dD,clock,aM,a8,b0,cK,λi e x he ad=>(dJ i e x he ad).mono hle⟩
 .intro k o b ai aT aj;obtain⟨aN,dZ,J,rfl,aa⟩:=iS k o ai aT;have ax:=h.own k dZ b J aa aj;refine⟨?_,ax.2⟩;rcases fT b with e|⟨bG,bj,ca,e⟩
  .rw[e];exact ax.1
  obtain⟨o',cR,fP⟩:=own bG bj;exact absurd ca (h.sep k bG dZ o' b (by rintro rfl;exact aN bj) J cR aa fP aj)
 .intro k bG o o' b cp ai fs aT pK aj;obtain⟨aN,dZ,J,rfl,aa⟩:=iS k o ai aT;obtain⟨zq,GP,dS,rfl,gT⟩:=iS bG o' fs pK;exact h.sep k bG dZ GP b cp J dS aa gT aj
 intro k ai aj;refine⟨?_,rfl⟩;have aN:k∉ks:=by
  intro hm;rcases eL k hm with⟨b6,_⟩|⟨b6,_⟩|⟨b6,_⟩
  .exact absurd ai (Nat.not_le.2 b6)
  .exact absurd ai (Nat.not_le.2 b6)
  exact absurd ai (Nat.not_le.2 b6)
 show e3 (if k∈ks then some .dead else(σ.objs k).map (GO σ.objs ks));rw[xae aN];rcases aj with⟨c,ah⟩|⟨n,es,ah⟩|⟨es,ah⟩
 .rw[ah];exact vq
 .rw[ah];exact tK
 rw[ah];exact xd
end
def zU{β:Type}:List (List Key)->aO->(aO->Option β)->Option β
 |[],σ,k=>k σ|ks::r,σ,k=>match ks with|[]=>zU r σ k|_=>if ks.all (Sh σ.objs)=true then zU r (freeze ks σ) k else none
def Dh{β:Type}(t:Tmp)(σ:aO)(k:aO->Option β):Option β:=match σ.aQ t with
 | .sub key cY i len=>match σ.objs key,σ.objs t with
  |some (.row bG es),none=>if cY=bG/\key<10000/\t<10000 then bx (decide (i+len<=es.length)) (k ⟨cv σ.aQ t (.row t),cv (cv σ.objs key (some .dead)) t (some (.row cY ((es.drop i).take len)))⟩)else none
  |_,_=>none
 |_=>none
def amF{σ:aO}{t key cY i len:Nat}{es:List (List D)}(aP:σ.aQ t= .sub key cY i len)(ai:σ.objs key=some (.row cY es))(ar:σ.objs t=none)(hle:i+len<=es.length)(iY:key<10000):hn σ ⟨cv σ.aQ t (.row t),cv (cv σ.objs key (some .dead)) t (some (.row cY ((es.drop i).take len)))⟩:=by
 intro m fr ρ a w h;have cp:key≠t:=by rintro rfl;rw[ai]at ar;cases ar
 have bI:((es.drop i).take len).length=len:=by simp;omega
 have Di:∀j o,(cv (cv σ.objs key (some .dead)) t (some (.row cY ((es.drop i).take len)))) j=some o->(j=t/\o= .row cY ((es.drop i).take len))\/(j=key/\o= .dead)\/(j≠t/\j≠key/\σ.objs j=some o):=by
  intro j o aA;by_cases J:j=t;.subst J;rw[ff]at aA;cases aA;exact .inl ⟨rfl,rfl⟩
  rw[c6 _ _ J]at aA;by_cases aa:j=key;.subst aa;rw[ff]at aA;cases aA;exact .inr (.inl ⟨rfl,rfl⟩)
  rw[c6 _ _ aa]at aA;exact .inr (.inr ⟨J,aa,aA⟩)
 let v:=a.tmps.getD t undef
 have aS:=h.aQ t;rw[aP]at aS;have Gd:∀k,σ.used k->aO.used ⟨cv σ.aQ t (.row t),cv (cv σ.objs key (some .dead)) t (some (.row cY ((es.drop i).take len)))⟩ k/\cv ρ t v k=ρ k:=by
  rintro k ⟨o,aT⟩;have w8:k≠t:=by rintro rfl;rw[aT]at ar;cases ar
  refine⟨?_,c6 _ _ w8⟩;by_cases aa:k=key;.subst aa;exact⟨.dead,by simp only[c6 _ _ w8,ff]⟩
  exact⟨o,by simp only[c6 _ _ w8,c6 _ _ aa];exact aT⟩
 have piece:ky v=true/\(blockOf v=none\/blockOf v=blockOf (ρ key))/\jE m (cv ρ t v) (aO.used ⟨cv σ.aQ t (.row t),cv (cv σ.objs key (some .dead)) t (some (.row cY ((es.drop i).take len)))⟩) v w (.row cY ((es.drop i).take len)):=by
  have hG:=h.objs key _ ai;generalize Sj:a.tmps.getD t undef=u at aS;have amG:v=u:=Sj;rw[amG];cases aS with
  |kb _ _ _ hu av=>exact⟨rfl,.inl rfl,.inl ⟨rfl,by simp⟩⟩
  |sub _ _ _ _ b o L cap hs hu av Lt aG=>
   refine⟨rfl,.inr (by rw[av];rfl),?_⟩;rcases hG with⟨aM,a8⟩|⟨b',o',mc,vs,dY,aM,a8,b0,cK,dJ,eX⟩
   .rw[av]at aM;cases aM
   rw[av]at aM;cases aM;refine .inr ⟨b,hs,cap-i,vs,dY,by rw[bI],a8,by rw[bI];omega,?_,?_,?_⟩
   .by_cases Sk:i<cap
    .rw[aG.1 Sk,xbl,<-xaX];have:i+(cap-i)=cap:=by omega
     rw[this];exact cK
    have:cap-i=0:=by omega
    rw[this,Nat.zero_mul];have:=aG.2;omega
   .intro e he;exact dJ e (xbp (xbq he))
   intro p e j c aU aA;rw[xaR]at aU;split at aU
   case isFalse=>cases aU
   rename_i qi;rw[xaY]at aU;obtain⟨x,g1,g2⟩:=eX (i+p) e j c aU aA;have Sk:i<cap:=by have:=(xaa.1 aU).1;omega
   refine⟨x,?_,g2⟩;rw[aG.1 Sk];have:o+i*cY+p*cY+j=o+(i+p)*cY+j:=by rw[xaX];omega
   rw[this];exact g1
 obtain⟨ei,eu,gS⟩:=piece;refine⟨m,cv ρ t v,Mem.le_refl m,⟨h.mem,h.frame,h.apart,?_,?_,?_,?_,?_⟩,?_⟩
 .rintro k ⟨o,aT⟩;rcases Di k o aT with⟨rfl,_⟩|⟨rfl,_⟩|⟨J,aa,ax⟩;.rw[ff];exact ei
  .rw[c6 _ _ cp];exact h.one _ ⟨_,ai⟩
  rw[c6 _ _ J];exact h.one _ ⟨_,ax⟩
 .intro s;by_cases az:s=t;.subst az;simp only[ff];have:cg m (cv ρ s v) (aO.used ⟨cv σ.aQ s (.row s),cv (cv σ.objs key (some .dead)) s (some (.row cY ((es.drop i).take len)))⟩) (.row s) (cv ρ s v s):= .row s ⟨_,ff _ _ _⟩;rw[ff]at this;exact this
  simp only[c6 _ _ az];exact(h.aQ s).mono (Mem.le_refl m) Gd
 .intro k o fs;rcases Di k o fs with⟨rfl,rfl⟩|⟨rfl,rfl⟩|⟨J,aa,ax⟩
  .rw[ff];exact gS
  .trivial
  rw[c6 _ _ J];exact(h.objs k o ax).mono (Mem.le_refl m) Gd (λb _ _=>rfl)
 .intro k o b fs aT aj;rcases Di k o fs with⟨rfl,rfl⟩|⟨rfl,rfl⟩|⟨J,aa,ax⟩
  .rw[ff]at aj;rcases eu with eu|eu
   .rw[eu]at aj;cases aj
   exact h.own key _ b ai rfl (by rw[<-eu];exact aj)
  .cases aT
  rw[c6 _ _ J]at aj;exact h.own k o b ax aT aj
 .intro k bG o o' b dA fs aad aT pK aj;rcases Di k o fs with⟨rfl,rfl⟩|⟨rfl,rfl⟩|⟨J,aa,ax⟩
  .rcases Di bG o' aad with⟨rfl,rfl⟩|⟨rfl,rfl⟩|⟨dS,gT,iH⟩;.exact absurd rfl dA
   .cases pK
   rw[ff]at aj;rw[c6 _ _ dS];rcases eu with eu|eu
   .rw[eu]at aj;cases aj
   exact h.sep key bG _ o' b (xbY gT) ai iH rfl pK (by rw[<-eu];exact aj)
  .cases aT
  rw[c6 _ _ J]at aj;rcases Di bG o' aad with⟨rfl,rfl⟩|⟨rfl,rfl⟩|⟨dS,gT,iH⟩
  .rw[ff];rcases eu with eu|eu
   .rw[eu];exact λbQ=>by cases bQ
   rw[eu];exact h.sep k key o _ b aa ax ai aT rfl aj
  .cases pK
  rw[c6 _ _ dS];exact h.sep k bG o o' b dA ax iH aT pK aj
 intro k fs aj;have w8:k≠t:=by rintro rfl;rw[ar]at aj;exact vr aj
 have dA:k≠key:=by rintro rfl;exact absurd iY (Nat.not_lt.2 fs)
 exact⟨by simp only[c6 _ _ w8,c6 _ _ dA];exact aj,c6 _ _ w8⟩
def xJ(φ:Key->Key):aX->aX
 | .any=> .any| .d x=> .d x| .dV cs off=> .dV cs off| .ptr k off=> .ptr (φ k) off| .gJ k cY i off=> .gJ (φ k) cY i off| .row k=> .row (φ k)| .sub k cY i len=> .sub (φ k) cY i len| .map k=> .map (φ k)|_=> .any
def GQ(φ:Key->Key):aX->aX
 | .agg cs=> .agg (cs.map (xJ φ))| .aZ cs=> .aZ (cs.map (xJ φ))| .fn f as jH=> .fn f (as.map (xJ φ)) (jH.map (xJ φ))|x=>xJ φ x
def vH(φ:Key->Key):cX->cX
 | .box cs=> .box (cs.map (GQ φ))|o=>o
section
variable{m:Mem}{ρ c4:dk}{U n5:Key->Prop}{φ:Key->Key}
def aae(h:∀k,U k->n5 (φ k)/\c4 (φ k)=ρ k){x:aX}{v:Value}(ad:cg m ρ U x v):cg m c4 n5 (xJ φ x) v:=by cases ad with|any v=>exact .any _|d x v ad=>exact .d _ _ ad|agg=>exact .any _|aZ=>exact .any _|dV cs off b o vs T eD hm xs J aa=>exact .dV _ _ b o vs T eD hm xs J aa|ptr k off b hu av=>exact .ptr _ _ b (h k hu).1 ((h k hu).2.trans av)|gJ k cY i off b o len cap hu av=>exact .gJ _ _ _ _ b o len cap (h k hu).1 ((h k hu).2.trans av)|row k hu=>rw[<-(h k hu).2];exact .row _ (h k hu).1|sub k cY i len b o L cap a hu av hle aG=>exact .sub _ _ _ _ b o L cap a (h k hu).1 ((h k hu).2.trans av) hle aG|kb k cY i hu av=>exact .kb _ _ _ (h k hu).1 ((h k hu).2.trans av)|map k hu=>rw[<-(h k hu).2];exact .map _ (h k hu).1|fn=>exact .any _
def MH(h:∀k,U k->n5 (φ k)/\c4 (φ k)=ρ k){cs:List aX}{vs:Array Value}(al:vs.size=cs.length)(bQ:∀(i:Nat)(c:aX)(v:Value),cs[i]?=some c->vs[i]?=some v->cg m ρ U c v):vs.size=(cs.map (xJ φ)).length/\∀(i:Nat)(c:aX)(v:Value),(cs.map (xJ φ))[i]?=some c->vs[i]?=some v->cg m c4 n5 c v:=by refine⟨by simpa using al,?_⟩;intro i c v ah aS;simp only[xah,xaf]at ah;obtain⟨y,aH,rfl⟩:=ah;exact aae h (bQ i y v aH aS)
def aaf(h:∀k,U k->n5 (φ k)/\c4 (φ k)=ρ k){x:aX}{v:Value}(ad:cg m ρ U x v):cg m c4 n5 (GQ φ x) v:=by
 unfold GQ;split
 .cases ad with|agg _ vs al bQ=>
  obtain⟨J,aa⟩:=MH h al bQ;exact .agg _ _ J aa
 .cases ad with|aZ _ vs al bQ=>
  obtain⟨J,aa⟩:=MH h al bQ;exact .aZ _ _ J aa
 .cases ad with|fn _ _ _ vs ws al eI bQ zs=>
  obtain⟨J,aa⟩:=MH h al bQ;obtain⟨ax,bj⟩:=MH h eI zs;exact .fn _ _ _ _ _ J ax aa bj
 exact aae h ad
def amH(h:∀k,U k->n5 (φ k)/\c4 (φ k)=ρ k){o:cX}{v:Value}{w:World}(aT:jE m ρ U v w o):jE m c4 n5 v w (vH φ o):=by
 cases o with
 |dead=>trivial|box cs=>obtain⟨b,vs,T,aM,a8,b0,cK⟩:=aT;refine⟨b,vs,T,aM,a8,by simpa using b0,?_⟩;intro i c x ah ad;simp only[xah,xaf]at ah;obtain⟨y,aH,rfl⟩:=ah;exact aaf h (cK i y x aH ad)
 |row=>exact aT|map=>exact aT
theorem amI{o:cX}:(vH φ o).owns=o.owns:=by cases o<;>rfl
end
def amJ:Act:={tmps:= #[],defers:=[]}
def vI(m:Mem)(fr:fq)(ρ:dk)(E:cD)(w:World):Prop:=Den m fr ρ ⟨λ_=> .any,E⟩ amJ w
def sl(E:cD)(k:Key):Prop:=∃o,E k=some o
structure gY where
 f:FuncId
 args:List SW
 ins:List (Key×mn)
 res:SW
 outs:List (Key×mn)
def gY.xK(s:gY)(ls:List D):List aX:=(sk ls s.args 0).1
def gY.oO(s:gY)(ls:List D):List (Key×cX):=(pR ls s.ins (sk ls s.args 0).2).1
def gY.MI(s:gY)(ls:List D):aX:=(qy ls s.res 0).1
def gY.qz(s:gY)(ls:List D):List (Key×cX):=(pR ls s.outs (qy ls s.res 0).2).1
structure tZ(P:Program)(G:ds)(s:gY)(F:List D->Option (List D)):Prop where
 fn:xc P s.f
 run:∀ls fm,F ls=some fm->∀(m:Mem)(fr:fq)(ρ:dk)(w:World)(vs:List Value),kz G m->vI m fr ρ (eY (s.oO ls)) w->vs.length=(s.xK ls).length->(∀(i:Nat)(x:aX)(v:Value),(s.xK ls)[i]?=some x->vs[i]?=some v->cg m ρ (sl (eY (s.oO ls))) x v)->Calls P s.f vs.toArray w λe w'=>∃v cB c4,e= .returned v/\m.le cB/\vI cB fr c4 (eY (s.qz fm)) w'/\cg cB c4 (sl (eY (s.qz fm))) (s.MI fm) v/\ ∀k,10000<=k->e3 (eY (s.oO ls) k)->c4 k=ρ k
def sm(cr:List (Key×Key))(base:Nat)(k:Key):Key:=if 10000<=k then gn cr k else base+(k-9000)
def xL(objs:cD)(dead:List Key)(outs:List (Key×cX)):cD:=λp=>match eY outs p with|some o=>some o|none=>if p∈dead then some .dead else objs p
def amK:mn->Bool
 | .row _=>true| .map=>true|_=>false
def aag(objs:cD)(cr:List (Key×Key))(base:Nat)(s:gY):Bool:=zE (gn cr) (s.ins.map (·.1))&&zE (sm cr base) (s.outs.map (·.1))&&decide ((s.ins.map (·.1)).Nodup)&&decide ((s.outs.map (·.1)).Nodup)&&s.outs.all (λp=>if 10000<=p.1 then s.ins.any (λq=>q.1==p.1&&Dg q.2)else decide (9000<=p.1)&&decide (sm cr base p.1<10000)&&(objs (sm cr base p.1)).isNone)&&s.ins.all (λq=>if 10000<=q.1 then Dg q.2&&s.outs.any (λp=>p.1==q.1&&Dg p.2)else amK q.2&&decide (gn cr q.1<10000))
section
variable{β:Type}
def Sl(G:ds)(s:gY)(F:List D->Option (List D))(base:Nat)(σ:aO)(o:Oper)(x:Operand)(args:List Operand)(k:aO->Option β):Option β:=match xf (cm G σ.aQ x)with
 |some (f,pre,post)=>
  if f=s.f then
   let vt:=pre++args.map (cm G σ.aQ)++post
   let cr:=Dd σ s.ins (Mx vt s.args)
   let ks:=s.ins.map (·.1)
   if aag σ.objs cr base s=true then
    match vG (MA cr ks vt s.args) (MB cr ks σ s.ins)with|some ls=>ab (F ls) λfm=>k (aO.put ⟨σ.aQ,xL σ.objs (ks.map (gn cr)) ((s.qz fm).map λp=>(sm cr base p.1,vH (sm cr base) p.2))⟩ o.dst (GQ (sm cr base) (s.MI fm)))|none=>none
   else none
  else none
 |none=>none
end
section
variable{P:Program}{T:cn}{G:ds}{m:Mem}{fr:fq}{ρ:dk}{σ:aO}{a:Act}{w:World}{N:Nat}
def amL(c0:kz G m)(h:Den m fr ρ σ a w){o:Oper}{x:Operand}{args:Array Operand}{dN:Array TypeId}(eb:o.op= .call ⟨.value x,args,dN⟩){f:FuncId}{pre post:List aX}(hg:xf (cm G σ.aQ x)=some (f,pre,post))(bm:xc P f): ∃vs:List Value,vs.length=(pre++args.toList.map (cm G σ.aQ)++post).length/\(∀(i:Nat)(c:aX)(v:Value),(pre++args.toList.map (cm G σ.aQ)++post)[i]?=some c->vs[i]?=some v->cg m ρ σ.used c v)/\(execOp a.eval o).run P w= .ok (.enter f vs.toArray) w:=by
 have dE:=FV (a:=a) c0 h.aQ;have ad:=dE x;have Rh:∃first cap,a.eval x= .func (.func f) first cap/\first.size=pre.length/\cap.size=post.length/\(∀(i:Nat)(c:aX)(v:Value),pre[i]?=some c->first[i]?=some v->cg m ρ σ.used c v)/\(∀(i:Nat)(c:aX)(v:Value),post[i]?=some c->cap[i]?=some v->cg m ρ σ.used c v):=by
  unfold xf at hg;split at hg
  .rename_i kY first cap he
   split at hg
   case isFalse=>cases hg
   rename_i ar;cases hg;rw[he]at ad;exact⟨first,cap,ad.hY,by simpa using ar.1,by simpa using ar.2,by intro i c v ah;simp at ah,by intro i c v ah;simp at ah⟩
  .rename_i kY first cap he
   cases hg;rw[he]at ad;generalize a.eval x=u at ad;cases ad with|fn _ _ _ vs ws al eI g r6=>exact⟨vs,ws,rfl,al,eI,g,r6⟩
  .rename_i kY first cap he
   cases hg;rw[he]at ad;have ad:=ad.pB;generalize a.eval x=u at ad;cases ad with|fn _ _ _ vs ws al eI g r6=>
   refine⟨vs,ws,rfl,by simpa using al,by simpa using eI,?_,?_⟩;.intro i c v ah aS;simp only[xah,xaf]at ah;obtain⟨y,aH,rfl⟩:=ah;exact .d _ _ (g i y v aH aS)
   intro i c v ah aS;simp only[xah,xaf]at ah;obtain⟨y,aH,rfl⟩:=ah;exact .d _ _ (r6 i y v aH aS)
  .cases hg
 obtain⟨first,cap,w4,mb,ny,g1,g2⟩:=Rh;refine⟨(first++args.map a.eval++cap).toList,by simp[mb,ny],?_,?_⟩
 .intro i c v ah aS;simp only[Array.toList_append,Array.toList_map]at aS;have aM:first.toList.length=pre.length:=by simpa using mb
  by_cases J:i<pre.length;.rw[xaK,xaq J]at ah;rw[xaK,xaq (by omega)]at aS;exact g1 i c v ah (by simpa using aS)
  by_cases aa:i<pre.length+args.size;.rw[xaq (by simp;omega),xaz (by omega)]at ah;rw[xaq (by simp;omega),xaz (by omega),aM]at aS;simp only[xah,xaf]at ah aS;obtain⟨p,aU,rfl⟩:=ah;obtain⟨q,bU,rfl⟩:=aS;rw[aU]at bU;cases bU;exact dE _
  rw[xaz (by simp;omega)]at ah;rw[xaz (by simp;omega)]at aS;refine g2 _ c v ah ?_;rw[<-aS];simp only[xaP,xaW,xbV,mb];simp
 unfold execOp;rw[eb];simp only[Array.toArray_toList];exact YC w4 bm
def aah{φ:Key->Key}:∀{lo:List (Key×cX)} {p:Key} {o:cX},eY (lo.map λq=>(φ q.1,vH φ q.2)) p=some o->∃k dZ,k∈mW lo/\φ k=p/\o=vH φ dZ/\((mW lo).Nodup->eY lo k=some dZ)
 |[],p,o,h=>by cases h
 |(j,x)::r,p,o,h=>by
  simp only[xaw,eY]at h;split at h;.rename_i e;cases h;exact⟨j,x,by simp[mW],e.symm,rfl,λ_=>by simp[eY]⟩
  obtain⟨k,dZ,J,aa,ax,bj⟩:=aah h;refine⟨k,dZ,?_,aa,ax,?_⟩;.simp only[mW,xaw,xam]at J⊢;exact .inr J
  intro aN;simp only[mW,xaw,List.nodup_cons]at aN J;have cp:k≠j:=by rintro rfl;exact aN.1 J
  simp only[eY,xae cp];exact bj aN.2
def Sm{φ:Key->Key}:∀{lo:List (Key×cX)} {k:Key},k∈mW lo->∃o,eY (lo.map λq=>(φ q.1,vH φ q.2)) (φ k)=some o
 |[],k,h=>by cases h
 |(j,x)::r,k,h=>by
  simp only[xaw,eY];split;.exact⟨_,rfl⟩
  rename_i cp;simp only[mW,xaw,xam]at h;rcases h with rfl|h
  .exact absurd rfl cp
  exact Sm h
def aai{ls:List D}{l:List (Key×mn)}{n:Nat}{k:Key}(aN:(l.map (·.1)).Nodup){q:Key×mn}(bU:q∈l)(ai:q.1=k)(aj:Dg q.2=true):e3 (eY (pR ls l n).1 k):=by obtain⟨a,b⟩:=q;simp only at ai aj;subst ai;exact Sf ls l n _ aN ⟨_,bU,aj⟩
def amM{φ:Key->Key}{U:Key->Prop}{o o':cX}(h:zC φ U o' o)(aj:e3 (some o)):e3 (some o'):=by
 cases o with
 |dead=>exact absurd aj Gf|box=>obtain⟨xs,rfl,_⟩:=h;exact vq
 |row=>obtain⟨es,rfl,_⟩:=h;exact tK
 |map=>cases o'<;>first|exact xd|exact h.elim|cases h
def amN(c0:kz G m)(h:Den m fr ρ σ a w)(cj:N<=a.tmps.size)(hN:a.defers=[]){o:Oper}(gE:∀d,o.dst=some d->d<N){s:gY}{F:List D->Option (List D)}(bE:tZ P G s F){base:Nat} {x:Operand} {args:Array Operand} {dN:Array TypeId} (aT:o.op= .call ⟨.value x,args,dN⟩) {β:Type} {k:aO->Option β} {b:β} (ah:Sl G s F base σ o x args.toList k=some b) {Q:Exit->Act->World->Prop}:o.wp P a w (jv N m fr ρ σ (λa1=>k a1=some b/\∀p,10000<=p->e3 (a1.objs p)->e3 (σ.objs p))) Q:=by
 have jw:∀d,o.dst=some d->d<a.tmps.size:=λd ay=>xch (gE d ay) cj;have tL:∀v,N<=(a.put o.dst v).tmps.size:=by intro v;cases o.dst<;>simpa[Act.put]using cj
 have mT:∀v,(a.put o.dst v).defers=[]:=by intro v;cases o.dst<;>exact hN
 unfold Sl at ah;split at ah
 case h_2=>cases ah
 rename_i f pre post hg;split at ah
 case isFalse=>cases ah
 rename_i bm;subst bm;simp only at ah;generalize aDf:Dd σ s.ins (Mx (pre++args.toList.map (cm G σ.aQ)++post) s.args)=cr at ah;generalize aaj:pre++args.toList.map (cm G σ.aQ)++post=vt at ah;split at ah
 case isFalse=>cases ah
 rename_i aak;split at ah
 case h_2=>cases ah
 rename_i ls Sg;obtain⟨fm,fI,ai⟩:=en ah;simp only[aag,xap,xaB,xaC]at aak;obtain⟨⟨⟨⟨⟨c1,c2⟩,b8⟩,c3⟩,dq⟩,dr⟩:=aak;obtain⟨aI,a2,aM,a8,rfl⟩:=zR Sg;have gq:At (aI++a2) 0 (aI++a2):=λj d aA=>by rw[xax];exact aA
 have Sn:mW (s.oO (aI++a2))=s.ins.map (·.1):=zS _ _ _;have Sp:mW (s.qz fm)=s.outs.map (·.1):=zS _ _ _;have gX:∀k,(s.ins.map (·.1)).contains k=true->sl (eY (s.oO (aI++a2))) k:=by intro k ai;exact MC (by rw[Sn];simpa using ai)
 obtain⟨bN,bO⟩:=Sd gX aM gq.left;have av:=gq.right;rw[<-bO]at av;obtain⟨cx,dX⟩:=Se gX a8 av;have cx:zD (gn cr) (sl (eY (s.oO (aI++a2)))) σ (s.oO (aI++a2)):=cx;have amO:∀k j,k∈s.ins.map (·.1)->j∈s.ins.map (·.1)->gn cr k=gn cr j->k=j:=Ma c1;have aal:∀k j,k∈s.outs.map (·.1)->j∈s.outs.map (·.1)->sm cr base k=sm cr base j->k=j:=Ma c2;have iG:∀{o o':cX},zC (gn cr) (sl (eY (s.oO (aI++a2)))) o' o->o.owns=true->o'.owns=true:=by
  intro o o' hle aT;cases o with
  |dead=>cases aT
  |box=>obtain⟨xs,rfl,_⟩:=hle;rfl
  |row=>obtain⟨es,rfl,_⟩:=hle;rfl
  |map=>cases hle;rfl
 have Sq:∀{k o},eY (s.oO (aI++a2)) k=some o->k∈s.ins.map (·.1):=λai=>by rw[<-Sn];exact xx ai
 have amP:∀{k o},eY (s.qz fm) k=some o->k∈s.outs.map (·.1):=λai=>by rw[<-Sp];exact xx ai
 let passed:Key->Prop:=λp=>∃k,k∈s.ins.map (·.1)/\gn cr k=p
 let GR:Mem:=λb=>match fr b with|some o=>some o|none=>open Classical in if∃k o,σ.objs k=some o/\o.owns=true/\¬passed k/\blockOf (ρ k)=some b then w.heap[b]? else none
 let vJ:fq:=⟨GR,fr.os,fr.out,fr.low⟩
 have MJ:∀b o,fr b=some o->vJ b=some o:=by intro b o aj;simp only[vJ,GR,aj]
 have MK:∀b k o,σ.objs k=some o->o.owns=true->¬passed k->blockOf (ρ k)=some b->vJ b=w.heap[b]?:=by intro b k o J aa ax bj;have ca:=(h.own k o b J aa bj).2;simp only[vJ,GR,ca];rw[xac ⟨k,o,J,aa,ax,bj⟩]
 have aam:∀b,vJ b≠none->fr b≠none\/∃k o,σ.objs k=some o/\o.owns=true/\¬passed k/\blockOf (ρ k)=some b:=by intro b aj;cases bm:fr b with|some o=>exact .inl (by simp)|none=>refine .inr ?_;refine xbi λzV=>aj ?_;simp only[vJ,GR,bm];rw[xae zV]
 have Gu:vI m vJ (λk=>ρ (gn cr k)) (eY (s.oO (aI++a2))) w:=by
  refine⟨h.mem,⟨?_,⟨h.frame.quiet.os,h.frame.quiet.out,h.frame.quiet.low⟩⟩,?_,?_,λ_=> .any _,?_,?_,?_⟩
  .intro b o aj;cases bm:fr b with
   |some o'=>rw[MJ b o' bm]at aj;cases aj;exact h.frame.n7 b _ bm
   |none=>
    simp only[vJ,GR,bm]at aj;split at aj;.exact aj
    cases aj
  .intro b aj;refine xbi λzV=>?_;rcases aam b zV with J|⟨k,o,J,aa,ax,bj⟩
   .exact J (h.apart b aj)
   exact aj (h.own k o b J aa bj).1
  .rintro k ⟨o,k0⟩;obtain⟨o',J,_⟩:=cx.ok k o k0;exact h.one _ ⟨o',J⟩
  .intro k o k0;obtain⟨o',J,aa⟩:=cx.ok k o k0;have ax:=h.objs _ _ J;cases o with
   |dead=>trivial|box c7=>obtain⟨xs,rfl,hle⟩:=aa;obtain⟨b,vs,T,aM,a8,b0,cK⟩:=ax;have:=tQ.cells hle ⟨b0,cK⟩;exact⟨b,vs,T,aM,a8,this.1,this.2⟩
   |row cY df=>obtain⟨es,rfl,hle⟩:=aa;exact hle.ok ax
   |map es=>cases aa;exact ax
  .intro k o b k0 Mb aj;obtain⟨o',J,aa⟩:=cx.ok k o k0;have ax:=h.own _ o' b J (iG aa Mb) aj;refine⟨ax.1,?_⟩;refine xbi λzV=>?_;rcases aam b zV with bj|⟨bG,iW,bj,ca,cR,fP⟩
   .exact bj ax.2
   have cp:gn cr k≠bG:=by rintro rfl;exact cR ⟨k,Sq k0,rfl⟩
   exact h.sep _ _ _ _ b cp J bj (iG aa Mb) ca aj fP
  intro k bG o o' b cp k0 Gw Gx Rx aj;obtain⟨y,J,aa⟩:=cx.ok k o k0;obtain⟨QX,dS,gT⟩:=cx.ok bG o' Gw;exact h.sep (gn cr k) (gn cr bG) y QX b (λe=>cp (amO k bG (Sq k0) (Sq Gw) e)) J dS (iG aa Gx) (iG gT Rx) aj
 obtain⟨vs,v1,v2,v3⟩:=amL (P:=P) c0 h aT hg bE.fn;rw[aaj]at v1 v2;obtain⟨mh,ln⟩:=bN.ok;have tN:=bE.run _ _ fI m vJ _ w vs c0 Gu (v1.trans mh.symm) (by intro i y v aH aS;obtain⟨af,amQ,hle⟩:=ln i y aH;exact hle.ok (v2 i af v amQ aS))
 unfold Oper.wp;rw[v3];refine tN.mono λe w' he=>?_;obtain⟨v,cB,c4,rfl,zW,mZ,vy,amR⟩:=he;generalize kG:sm cr base=φ at*
 let vK:=(s.qz fm).map λp=>(φ p.1,vH φ p.2)
 let objs':=xL σ.objs ((s.ins.map (·.1)).map (gn cr)) vK
 let lN:dk:=λp=>match(s.outs.map (·.1)).find? (λk=>φ k==p)with|some k=>c4 k|none=>ρ p
 have Sr:∀k,k∈s.outs.map (·.1)->lN (φ k)=c4 k:=by intro k ai;simp only[lN];cases Dj:(s.outs.map (·.1)).find? (λbG=>φ bG==φ k)with|none=>exact absurd (List.find?_eq_none.1 Dj k ai) (by simp)|some bG=>have J:=List.find?_some Dj;simp only[xbP]at J;rw[aal bG k (List.mem_of_find?_eq_some Dj) ai J]
 have Ss:∀k,k∈s.outs.map (·.1)->(10000<=k/\k∈s.ins.map (·.1)/\φ k=gn cr k/\e3 (eY (s.oO (aI++a2)) k))\/(σ.objs (φ k)=none/\φ k<10000):=by
  intro k ai;obtain⟨p,aU,rfl⟩:=xaN.1 ai;have J:=dq p aU;by_cases b6:10000<=p.1
  .rw[xac b6]at J;obtain⟨q,bU,aa⟩:=xbH.1 J;simp only[xap,xbP]at aa;refine .inl ⟨b6,xaN.2 ⟨q,bU,aa.1⟩,?_,aai b8 bU aa.1 aa.2⟩;rw[<-kG];simp only[sm,xac b6]
  rw[xae b6]at J;simp only[xap,xaC,Option.isNone_iff_eq_none]at J;exact .inr ⟨J.2,J.1.2⟩
 have ML:∀p,σ.used p->lN p=ρ p:=by
  rintro p ⟨op,aU⟩;simp only[lN];cases Dj:(s.outs.map (·.1)).find? (λbG=>φ bG==p)with
  |none=>rfl
  |some k=>
   have J:=List.find?_some Dj;simp only[xbP]at J;rcases Ss k (List.mem_of_find?_eq_some Dj)with⟨aa,ax,bj,ca⟩|⟨aa,_⟩
   .simp only;rw[amR k aa ca,<-bj,J]
   rw[J,aU]at aa;cases aa
 have GS:∀p op,eY vK p=some op->∃k dZ,k∈s.outs.map (·.1)/\φ k=p/\op=vH φ dZ/\eY (s.qz fm) k=some dZ:=by intro p op aU;obtain⟨k,dZ,J,aa,ax,bj⟩:=aah aU;rw[Sp]at J bj;exact⟨k,dZ,J,aa,ax,bj c3⟩
 have aan:∀k,sl (eY (s.qz fm)) k->sl objs' (φ k)/\lN (φ k)=c4 k:=by rintro k ⟨dZ,J⟩;refine⟨?_,Sr k (amP J)⟩;obtain⟨eK,aa⟩:=Sm (φ:=φ) (xx J);exact⟨eK,by simp only[objs',xL,vK,aa]⟩
 have aao:∀p,σ.used p->sl objs' p/\lN p=ρ p:=by
  rintro p ⟨op,aU⟩;refine⟨?_,ML p ⟨op,aU⟩⟩;unfold sl;simp only[objs',xL];cases al:eY vK p with
  |some eK=>exact⟨eK,rfl⟩
  |none=>
   simp only;split;.exact⟨_,rfl⟩
   exact⟨op,aU⟩
 have GU:∀p op,objs' p=some op->op.owns=true->(∃k dZ,φ k=p/\op=vH φ dZ/\eY (s.qz fm) k=some dZ/\lN p=c4 k/\dZ.owns=true)\/(σ.objs p=some op/\¬passed p/\lN p=ρ p):=by
  intro p op aU eb;simp only[objs',xL]at aU;cases al:eY vK p with
  |some eK=>rw[al]at aU;cases aU;obtain⟨k,dZ,J,aa,ax,bj⟩:=GS p op al;refine .inl ⟨k,dZ,aa,ax,bj,?_,by rw[ax,amI]at eb;exact eb⟩;rw[<-aa];exact Sr k J
  |none=>
   rw[al]at aU;simp only at aU;split at aU;.cases aU;cases eb
   rename_i aN;refine .inr ⟨aU,?_,ML p ⟨op,aU⟩⟩;rintro⟨k,ai,rfl⟩;exact aN (xaN.2 ⟨k,ai,rfl⟩)
 have amS:Den cB fr lN ⟨σ.aQ,objs'⟩ a w':=by
  refine⟨mZ.mem,⟨λb fL aj=>mZ.frame.n7 b fL (MJ b fL aj),⟨mZ.frame.quiet.os,mZ.frame.quiet.out,mZ.frame.quiet.low⟩⟩,?_,?_,?_,?_,?_,?_⟩;.intro b aj;have J:=mZ.apart b aj;cases bm:fr b with|none=>rfl|some fL=>rw[MJ b fL bm]at J;cases J
  .rintro p ⟨op,aU⟩;simp only[objs',xL]at aU;cases al:eY vK p with
   |some eK=>obtain⟨k,dZ,J,aa,ax,bj⟩:=GS p eK al;rw[<-aa,Sr k J];exact mZ.one k ⟨dZ,bj⟩
   |none=>
    rw[al]at aU;simp only at aU;have hu:σ.used p:=by
     split at aU;.rename_i hm;obtain⟨k,ai,rfl⟩:=xaN.1 hm;obtain⟨ok,amT⟩:=MC (lo:=s.oO (aI++a2)) (k:=k) (by rw[Sn];exact ai);obtain⟨o',J,_⟩:=cx.ok k ok amT;exact⟨o',J⟩
     exact⟨op,aU⟩
    rw[ML p hu];exact h.one p hu
  .intro t;exact(h.aQ t).mono zW aao
  .intro p op aU;by_cases eb:op.owns=true
   .rcases GU p op aU eb with⟨k,dZ,J,aa,ax,bj,ca⟩|⟨J,aa,ax⟩;.rw[aa,bj];exact amH aan (mZ.objs k dZ ax)
    rw[ax];refine(h.objs p op J).mono zW aao ?_;intro b tF rZ;have bj:=MK b p op J eb aa rZ;have ca:∃fL,w.heap[b]?=some fL:=⟨_,xak ((h.objs p op J).vl tF rZ)⟩;obtain⟨fL,ca⟩:=ca;rw[ca];exact mZ.frame.n7 b fL (by rw[bj,ca])
   cases op with|dead=>trivial|_=>exact absurd rfl eb
  .intro p op b aU eb aj;rcases GU p op aU eb with⟨k,dZ,J,aa,ax,bj,ca⟩|⟨J,aa,ax⟩
   .rw[bj]at aj;have cR:=mZ.own k dZ b ax ca aj;refine⟨cR.1,?_⟩;cases bm:fr b with|none=>rfl|some fL=>rw[MJ b fL bm]at cR;cases cR.2
   rw[ax]at aj;have bj:=h.own p op b J eb aj;refine⟨?_,bj.2⟩;refine xbi λzV=>?_;have ca:=mZ.apart b zV;rw[MK b p op J eb aa aj]at ca;have:=(h.objs p op J).vl eb aj;rw[xak this]at ca;cases ca
  intro p pE op GV b cp aU ua eb GW aj;rcases GU p op aU eb with⟨k,dZ,J,aa,ax,bj,ca⟩|⟨J,aa,ax⟩
  .rw[bj]at aj;rcases GU pE GV ua GW with⟨bG,GP,dS,gT,iH,nL,vL⟩|⟨dS,gT,iH⟩
   .rw[nL];exact mZ.sep k bG dZ GP b (by rintro rfl;exact cp (J.symm.trans dS)) ax iH ca vL aj
   rw[iH];intro eT;have cR:=(mZ.own k dZ b ax ca aj).2;rw[MK b pE GV dS GW gT eT]at cR;have:=(h.objs pE GV dS).vl GW eT;rw[xak this]at cR;cases cR
  rw[ax]at aj;rcases GU pE GV ua GW with⟨bG,GP,dS,gT,iH,nL,vL⟩|⟨dS,gT,iH⟩
  .rw[nL];intro eT;have cR:=(mZ.own bG GP b iH vL eT).2;rw[MK b p op J eb aa aj]at cR;have:=(h.objs p op J).vl eb aj;rw[xak this]at cR;cases cR
  rw[iH];exact h.sep p pE op GV b cp J dS eb GW aj
 have jy:cg cB lN (sl objs') (GQ φ (s.MI fm)) v:=aaf aan vy;have L3:∀p,10000<=p->e3 (objs' p)->e3 (σ.objs p):=by
  intro p aU h0;simp only[objs',xL]at h0;cases al:eY vK p with
  |some eK=>
   obtain⟨k,dZ,g1,g2,g3,g4⟩:=GS p eK al;rcases Ss k g1 with⟨aa,ax,bj,ca⟩|⟨_,aa⟩;.obtain⟨bc,cR⟩:=CN ca;obtain⟨o',fP,iu⟩:=cx.ok k _ cR;rw[cR]at ca;rw[<-g2,bj,fP];exact amM iu ca
   rw[g2]at aa;exact absurd aa (Nat.not_lt.2 aU)
  |none=>
   rw[al]at h0;simp only at h0;split at h0;.exact absurd h0 Gf
   exact h0
 refine⟨_,cB,lN,⟨ai,by rw[aO.xe];exact L3⟩,zW,amS.put jy jw,tL v,mT v,?_⟩;intro p aU aj;rw[aO.xe];obtain⟨cs,h0⟩:=CN aj;refine⟨?_,ML p ⟨_,h0⟩⟩;show e3 (objs' p);simp only[objs',xL];by_cases St:p∈(s.ins.map (·.1)).map (gn cr)
 .obtain⟨k,oP,rfl⟩:=xaN.1 St;obtain⟨q,bU,rfl⟩:=xaN.1 oP;have J:=dr q bU;by_cases bj:10000<=q.1
  .rw[xac bj]at J;simp only[xap,xbH,xbP]at J;obtain⟨_,pE,ua,ca,cR⟩:=J;have lS:q.1∈s.outs.map (·.1):=xaN.2 ⟨pE,ua,ca⟩;have amU:φ q.1=gn cr q.1:=by rw[<-kG];simp only[sm,xac bj]
   obtain⟨eK,fP⟩:=Sm (φ:=φ) (lo:=s.qz fm) (k:=q.1) (by rw[Sp];exact lS);obtain⟨k,dZ,g1,g2,g3,g4⟩:=GS _ eK fP;have dA:k=q.1:=aal k q.1 g1 lS g2;subst dA;have g5:e3 (eY (s.qz fm) q.1):=aai (ls:=fm) (n:=(qy fm s.res 0).2) c3 ua ca cR;rw[g4]at g5;rw[<-amU];have g7:eY vK (φ q.1)=some eK:=fP;rw[g7,g3];rcases g5 with⟨aDg,g5⟩|⟨na,amV,g5⟩|⟨amV,g5⟩
   .cases g5;exact vq
   .cases g5;exact tK
   cases g5;exact xd
  rw[xae bj]at J;simp only[xap,xaC]at J;exact absurd J.2 (Nat.not_lt.2 aU)
 cases al:eY vK p with
 |some eK=>
  exfalso;obtain⟨k,dZ,g1,g2,g3,g4⟩:=GS p eK al;rcases Ss k g1 with⟨aa,ax,bj,ca⟩|⟨aa,_⟩
  .exact St (xaN.2 ⟨k,ax,by rw[<-bj,g2]⟩)
  rw[g2,h0]at aa;cases aa
 |none=>simp only;rw[xae St];exact aj
end
structure Dk where
 s:gY
 F:List D->Option (List D)
 base:Nat
 qx:List xE
abbrev xM:=Tmp->Option Dk
def k5(P:Program)(G:ds)(H:xM):Prop:=∀t e,H t=some e->tZ P G e.s e.F
def MM:aX->List Key
 | .row k=>[k]| .map k=>[k]|_=>[]
def MN:aX->List Key
 | .agg cs=>cs.flatMap MM| .fn _ as jH=>as.flatMap MM++jH.flatMap MM|x=>MM x
def MO:aX->List Key
 | .ptr k _=>[k]|_=>[]
def aap:aX->List Key
 | .agg cs=>cs.flatMap MO| .fn _ as jH=>as.flatMap MO++jH.flatMap MO|x=>MO x
def aaq(objs:cD)(k:Key):List aX:=match objs k with|some (.box cs)=>cs|_=>[]
section
variable{β:Type}
def aar(T:cn)(G:ds)(C:ml)(σ:aO)(o:Oper)(x:Operand)(args:List Operand)(k:aO->Option β):Option β:=
 let vt:=(x::args).map (cm G σ.aQ)
 let fH:=vt.flatMap aap
 let c1:=fH.flatMap (aaq σ.objs)
 let hI:=c1.flatMap aap
 let c2:=hI.flatMap (aaq σ.objs)
 zU [vt.flatMap MN++c1.flatMap MN++c2.flatMap MN,hI,fH] σ λσ=>zK T G C σ o x args k
def aas(o:Oper):Tmp:=match o.op,o.dst with| .store _ (.tmp a) _,_=>20000+a| .mapUpdate _ (.tmp a) _ _,_=>30000+a|_,some d=>d|_,none=>9999
def amW:Op->List Operand
 | .buildSlice _ _ iT=>iT.toList.map (·.2)| .build _ iT=>iT.toList.map (·.2)| .box _ x=>[x]| .store _ _ x=>[x]| .mapUpdate _ _ _ x=>[x]| .call ⟨.builtin .append,args,_⟩=>args.toList.drop 1|_=>[]
def Dl:D->Option (TypeId×D)
 | .eh t x=>some (t,x)|_=>none
def gM{eZ:Type}(t c:Nat)(a b:Option eZ):Option eZ:=if t=c then a else b
def MP(rU:TypeId->Option FuncId)(t:TypeId)(k:FuncId->Option D):List TypeId->Option D
 |[]=>none|c::r=>gM t c (match rU c with|some f=>k f|none=>none) (MP rU t k r)
def Su(T:cn)(G:ds)(C:ml)(σ:aO)(o:Oper)(x:Operand)(name:String)(args:List Operand)(k:aO->Option β):Option β:=match cm G σ.aQ x with
 | .d a=>match hM ((args.map (cm G σ.aQ)).map (toD σ.objs))with|some aR=>ab (Dl a) λp=>ab (MP (λt=>T.rU t name) p.1 (λf=>C (o.dst.getD 9999) f (p.2::aR)) T.QJ) λr=>bx ((args.map (cm G σ.aQ)).all tM) (k (σ.put o.dst (.d r)))|none=>none
 |_=>none
def MQ(T:cn)(G:ds)(jh:Tmp->Bool)(σ:aO)(o:Oper)(k:aO->Option β):Option β:=match jh (aas o)with|true=>zU [((amW o.op).map (cm G σ.aQ)).flatMap MN] σ λσ=>tT T G σ o k|false=>tT T G σ o k
def Sv(T:cn)(G:ds)(C:ml)(H:xM)(jh:Tmp->Bool)(σ:aO)(o:Oper)(k:aO->Option β):Option β:=match o.op with
 | .call ⟨.value x,args,_⟩=>match H (o.dst.getD 9999)with
  |some e=>pS e.qx σ λσ=>Sl G e.s e.F e.base σ o x args.toList λa1=>match jh (o.dst.getD 9999)with|true=>Dh (o.dst.getD 9999) a1 k|false=>k a1
  |none=>match jh (o.dst.getD 9999)with|true=>aar T G C σ o x args.toList k|false=>zK T G C σ o x args.toList k
 | .call ⟨.invoke x name,args,_⟩=>Su T G C σ o x name args.toList k| .slice _ _ _ _ _=>match jh (aas o)with|true=>tT T G σ o λa1=>Dh (o.dst.getD 9999) a1 k|false=>tT T G σ o k
 | .store _ _ (.tmp t)=>match jh (40000+t)with|true=>Dh t σ λσ=>tT T G σ o k|false=>MQ T G jh σ o k
 |_=>MQ T G jh σ o k
def Sw(T:cn)(G:ds)(C:ml)(H:xM)(jh:Tmp->Bool):List Oper->aO->(aO->Option β)->Option β
 |[],σ,k=>k σ|o::r,σ,k=>Sv T G C H jh σ o λa1=>Sw T G C H jh r a1 k
def Sx(o:Oper):Bool:=still o||q9 o.op
def zX(T:cn)(G:ds)(C:ml)(H:xM)(jh:Tmp->Bool)(all:Array Oper):List (Option (Nat×Bool)×List Oper)->aO->(aO->Option β)->Option β
 |[],σ,k=>k σ|(none,os)::r,σ,k=>Sw T G C H jh os σ λa1=>zX T G C H jh all r a1 k
 |(some (j,want),os)::r,σ,k=>match(all[j]?).bind (·.dst),xB os with
  |some d,some cz=>match σ.aQ d with
   | .d x=>if os.all (λo=>Sx o&&o.dst !=some d)=true then
     (if(kept all os (flat r)).all (·==cz)=true then
      ab (ec x want (tV T G C os σ λa1=>match a1.aQ cz with| .d v=>some v|_=>none)) λv=>zX T G C H jh all r ((mm (dstsOf os) σ).put (some cz) (.d v)) k
     else ab (ec x want (tV T G C os σ λa1=>match GI a1 (kept all os (flat r))with|some l=>some (.agg l)|none=>none)) λv=>zX T G C H jh all r (xC (kept all os (flat r)) v (mm (dstsOf os) σ)) k)else none
   |_=>none
  |_,_=>none
def aat(T:cn)(G:ds)(C:ml)(H:xM)(jh:Tmp->Bool)(all:Array Oper)(σ:aO)(k:aO->Option β):Option β:=zX T G C H jh all (xA all.toList) σ k
end
def Dm{objs:cD}{k d:Key}{o:cX}(h:e3 (some o)->e3 (objs k)\/k=d):∀j,e3 (cv objs k (some o) j)->e3 (objs j)\/j=d:=by
 intro j aA;by_cases fA:j=k;.subst fA;rw[ff]at aA;exact h aA
 rw[c6 _ _ fA]at aA;exact .inl aA
def amX{T:cn}{ev:Operand->aX}{objs:cD}{d:Key}{o:Op}{r:aX}{cF:List (Key×cX)}(h:eF T ev objs d o=some (r,cF)):∀j,e3 (dM objs cF j)->e3 (objs j)\/j=d:=by
 have new:∀{o:cX},∀j,e3 (dM objs [(d,o)] j)->e3 (objs j)\/j=d:=by intro o;exact Dm (λ_=> .inr rfl)
 have row:∀{k:Key}{n gz:Nat}{es gl:List (List D)},objs k=some (.row gz gl)->∀j,e3 (dM objs [(k,.row n es)] j)->e3 (objs j)\/j=d:=by intro k n gz es gl ai;exact Dm (λ_=> .inl (by rw[ai];exact tK))
 have mp:∀{k:Key}{es gl:List (Value×D)},objs k=some (.map gl)->∀j,e3 (dM objs [(k,.map es)] j)->e3 (objs j)\/j=d:=by intro k es gl ai;exact Dm (λ_=> .inl (by rw[ai];exact xd))
 cases o<;>simp only[eF,reduceCtorEq]at h
 case alloc=>split at h<;>cases h;exact new
 case box=>split at h<;>cases h;exact new
 case buildSlice=>
  split at h
  case h_2=>cases h
  split at h
  case h_2=>cases h
  split at h
  case h_2=>cases h
  split at h<;>cases h;exact new
 case makeSlice=>
  split at h
  case h_2=>cases h
  split at h
  case h_2=>cases h
  split at h
  case h_2=>cases h
  split at h<;>cases h;exact new
 case makeMap=>split at h<;>cases h;exact new
 case store=>
  split at h
  case h_2=>cases h
  split at h
  case isFalse=>cases h
  split at h
  .split at h
   case h_2=>cases h
   split at h<;>cases h;rename_i ai _;exact Dm λ_=> .inl (by rw[ai];exact vq)
  .split at h
   case h_2=>cases h
   split at h
   case isFalse=>cases h
   split at h<;>cases h;exact row (by assumption)
  cases h
 case mapUpdate=>
  split at h
  case h_2=>cases h
  split at h
  case h_2=>cases h
  split at h
  case isFalse=>cases h
  split at h
  case h_2=>cases h
  split at h
  case h_2=>cases h
  split at h<;>cases h;exact mp (by assumption)
 case insert=>
  split at h
  case h_2=>cases h
  split at h
  case h_2=>cases h
  split at h
  case isFalse=>cases h
  split at h
  case h_2=>cases h
  split at h
  case h_2=>cases h
  split at h<;>cases h;exact mp (by assumption)
 case call=>
  split at h
  .split at h
   case h_2=>cases h
   split at h
   case h_2=>cases h
   split at h
   case h_2=>cases h
   split at h
   case h_2=>cases h
   split at h
   case isFalse=>cases h
   split at h;.split at h<;>cases h;exact new
   .split at h
    case h_2=>cases h
    split at h<;>cases h;intro j aA;rcases Dm (d:=d) (λ_=> .inr rfl) j aA with J|J
    .exact Dm (λh=>absurd h Gf) j J
    exact .inr J
   cases h
  .split at h
   case h_2=>cases h
   split at h
   case h_2=>cases h
   split at h
   case h_2=>cases h
   split at h
   case h_2=>cases h
   split at h
   case isFalse=>cases h
   split at h
   .split at h
    case h_2=>cases h
    split at h<;>cases h;exact row (by assumption)
   .split at h
    case h_2=>cases h
    split at h<;>cases h;exact row (by assumption)
   cases h
  .split at h
   case h_2=>cases h
   split at h
   case h_2=>cases h
   split at h
   case h_2=>cases h
   split at h
   case h_2=>cases h
   split at h
   case h_2=>cases h
   split at h<;>cases h;exact row (by assumption)
  cases h
def amY{T:cn}{ev:Operand->aX}{objs:cD}{d:Key}{o:Op}{r:aX}{cF:List (Key×cX)}(h:hy T ev objs d o=some (r,cF)):∀j,e3 (dM objs cF j)->e3 (objs j)\/j=d:=by
 obtain⟨⟨jG,tJ⟩,ar,aj⟩:=xb h;have J:=amX ar;intro j aA;by_cases ay:j=d
 .exact .inr ay
 rcases zr (T.born d) d jG tJ with e|⟨n,es,rfl,rfl,e⟩|⟨q5,n,es,rfl,rfl,e⟩|⟨off,cs,aR,rfl,rfl,eS,e⟩;.rw[aj]at e;cases e;exact J j aA
 .rw[aj]at e;cases e;exact J j (by simp only[dM,c6 _ _ ay]at aA⊢;exact aA)
 .rw[aj]at e;cases e;exact J j (by simp only[dM,c6 _ _ ay]at aA⊢;exact aA)
 rw[aj]at e;cases e;exact J j (by simp only[dM,c6 _ _ ay]at aA⊢;exact aA)
section
variable{P:Program}{T:cn}{G:ds}{N:Nat}{σ:aO}{all:Array Oper}{ib:List Key}
def fN.put(h:fN ib σ){dst:Option Tmp}{r:aX}:fN ib (σ.put dst r):=by intro k ai aj;rw[aO.xe]at aj;exact h k ai aj
def MR(ct:fN ib σ){o:Oper}(ay:∀d,o.dst=some d->d<10000){a1:aO}(h:hf T G σ o=some a1):fN ib a1:=by
 unfold hf at h;split at h;.cases h;exact ct.put
 split at h;.cases h;exact ct.put
 split at h
 case h_2=>cases h
 rename_i r cF he;cases h;refine fN.put ?_;intro k ai aj;rcases amY he k aj with J|J
 .exact ct k ai J
 exfalso;have:o.dst.getD 9999<10000:=by cases aT:o.dst with|none=>simp|some d=>exact ay d aT
 exact absurd this (Nat.not_lt.2 (J▸ai))
def aau(ct:fN ib σ){o:Oper}(ay:∀d,o.dst=some d->d<10000){K:aO->Prop}(h:dh P T G o K σ):dh P T G o (λa1=>fN ib a1/\K a1) σ:=by
 unfold dh at*;split;.rename_i a1 az;simp only[az]at h;exact⟨MR ct ay az,h⟩
 rename_i az;simp only[az]at h;unfold jX at*;split at h
 case h_2=>cases h
 split at h
 case h_2=>cases h
 obtain⟨od,aR,R,J,aa,ax,bj,ca,cR⟩:=h;exact⟨od,aR,R,J,aa,ax,bj,ca,λr av=>⟨ct.put,cR r av⟩⟩
def Sy:∀{l:List Oper}{σ:aO}{K:aO->Prop},fN ib σ->(∀o∈l,∀d,o.dst=some d->d<10000)->fU P T G all l K σ->fU P T G all l (λa1=>fN ib a1/\K a1) σ
 |[],σ,K,ct,_,h=>⟨ct,h⟩|o::l,σ,K,ct,ay,h=>by unfold fU at*;rw[h1]at*;cases hw:kd all σ o with|none=>rw[hw]at h;exact h|some w=>rw[hw]at h;cases w with|true=>exact rb (λa1 ⟨J,aa⟩=>Sy J (λo aT=>ay o (by simp[aT])) aa) (aau ct (ay o (by simp)) h)|false=>exact Sy ct.put (λo aT=>ay o (by simp[aT])) h
end
section
variable{P:Program}{T:cn}{G:ds}{C:ml}{H:xM}{jh:Tmp->Bool}{N:Nat}{σ:aO}{all:Array Oper}{ib:List Key}
def pT(P:Program)(G:ds)(N:Nat)(all:Array Oper)(i:Nat)(l:List Oper)(K:aO->Prop)(σ:aO):Prop:= ∀m fr ρ a w (Q:Exit->Act->World->Prop),kz G m->Den m fr ρ σ a w->N<=a.tmps.size->a.defers=[]->(∀cM w',jv N m fr ρ σ K cM w'->Q .normal cM w')->wpOps P all Q (List.range' i l.length) a w
def ji(P:Program)(G:ds)(N:Nat)(o:Oper)(K:aO->Prop)(σ:aO):Prop:= ∀m fr ρ a w (Q:Exit->Act->World->Prop),kz G m->Den m fr ρ σ a w->N<=a.tmps.size->a.defers=[]->o.wp P a w (jv N m fr ρ σ K) Q
def amZ{i:Nat}{K:aO->Prop}(h:K σ):pT P G N all i [] K σ:=λm fr ρ a w Q c0 hD cj ay ir=>ir a w ⟨σ,m,ρ,h,Mem.le_refl m,hD,cj,ay,lp.refl _ _⟩
def am0{i:Nat}{o:Oper}{l:List Oper}{K:aO->Prop}(ag:all[i]?=some o)(bL:o.guard=none)(h:ji P G N o (pT P G N all (i+1) l K) σ):pT P G N all i (o::l) K σ:=by
 intro m fr ρ a w Q c0 hD cj ay ir;rw[xan,List.range'_succ,wpOps_cons];refine wpOp_mono (K:=jv N m fr ρ σ (pT P G N all (i+1) l K)) ?_ ?_;.rintro cM w' ⟨a1,cB,c4,bN,bO,cx,dX,eO,fB⟩;exact bN cB fr c4 cM w' Q (c0.mono bO) cx dX eO λqo lq av=>ir qo lq (av.trans bO fB)
 unfold wpOp;simp only[ag];have:Region.wanted o (yielded all a.tmps)=true:=by simp[Region.wanted,bL]
 rw[xac this];exact .inl (h m fr ρ a w Q c0 hD cj ay)
def ji.mono{o:Oper}{K K':aO->Prop}(ai:∀σ,K σ->K' σ)(h:ji P G N o K σ):ji P G N o K' σ:=λm fr ρ a w Q c0 hD cj ay=>by
  have:=h m fr ρ a w Q c0 hD cj ay;unfold Oper.wp at*;generalize (execOp a.eval o).run P w=r at*;cases r with
  |ok n w'=>
   cases n<;>simp only[Oper.upon]at this⊢<;>first|exact this.mono ai|exact this|skip
   .refine this.mono λe lq he=>?_;cases e with|returned v=>exact he.mono ai|panicked c=>exact he|outgrown=>exact he
   exact this.mono λv lq he=>he.mono ai
  |halt x w'=>cases x<;>exact this
def ji.Db{o:Oper}{K:aO->Prop}{τ:aO}(he:hn σ τ)(h:ji P G N o K τ):ji P G N o K σ:=by
 intro m fr ρ a w Q c0 hD cj ay;obtain⟨cB,c4,J,aa,ax⟩:=he m fr ρ a w hD;have:=h cB fr c4 a w Q (c0.mono J) aa cj ay;unfold Oper.wp at*;generalize (execOp a.eval o).run P w=r at*;cases r with
 |ok n w'=>
  cases n<;>simp only[Oper.upon]at this⊢<;>first|exact this.trans J ax|exact this|skip
  .refine this.mono λe lq he=>?_;cases e with|returned v=>exact he.trans J ax|panicked c=>exact he|outgrown=>exact he
  exact this.mono λv lq he=>he.trans J ax
 |halt x w'=>cases x<;>exact this
def MS(bp:dU P T){o:Oper}(gE:∀d,o.dst=some d->d<N){K:aO->Prop}(h:dh P T G o K σ):ji P G N o K σ:=λm fr ρ a w Q c0 hD cj ay=>Rk bp c0 hD cj ay gE h
def am1{ks:List Key}(h:fN ib σ):fN ib (freeze ks σ):=by
 intro k ai aj;have eT:e3 (if k∈ks then some .dead else(σ.objs k).map (GO σ.objs ks)):=aj;split at eT
 .exact absurd eT Gf
 cases aT:σ.objs k with|none=>rw[aT]at eT;exact absurd eT vr|some dZ=>rw[aT]at eT;cases dZ with|box cs=>exact h k ai (by rw[aT];exact vq)|dead=>exact absurd eT Gf|row=>exact h k ai (by rw[aT];exact tK)|map=>exact h k ai (by rw[aT];exact xd)
def GX{β:Type}:∀{l:List (List Key)} {σ:aO} {k:aO->Option β} {b:β},fN ib σ->zU l σ k=some b->∃τ,hn σ τ/\fN ib τ/\k τ=some b
 |[],σ,k,b,ct,h=>⟨σ,hn.refl σ,ct,h⟩
 |ks::r,σ,k,b,ct,h=>by
  unfold zU at h;split at h;.exact GX ct h
  split at h
  case isFalse=>cases h
  rename_i eP;obtain⟨τ,J,aa,ax⟩:=GX (am1 ct) h;exact⟨τ,(amE _ eP).trans J,aa,ax⟩
def Sz{β:Type}{t:Tmp}{σ:aO}{k:aO->Option β}{b:β}(ct:fN ib σ)(h:Dh t σ k=some b):∃τ,hn σ τ/\fN ib τ/\k τ=some b:=by
 unfold Dh at h;split at h
 case h_2=>cases h
 rename_i key cY i len aP;split at h
 case h_2=>cases h
 rename_i bG es ai ar;split at h
 case isFalse=>cases h
 rename_i dA;obtain⟨dA,iY,oh⟩:=dA;subst dA;obtain⟨J,aa⟩:=mi h;refine⟨_,amF aP ai ar (xbf J) iY,?_,aa⟩;intro j aA ah;simp only at ah;by_cases ax:j=t;.subst ax;exact absurd oh (Nat.not_lt.2 aA)
 rw[c6 _ _ ax]at ah;by_cases bj:j=key;.subst bj;exact absurd iY (Nat.not_lt.2 aA)
 rw[c6 _ _ bj]at ah;exact ct j aA ah
def ji.out{o:Oper}{K:aO->Prop}(h:ji P G N o (λa1=>∃τ,hn a1 τ/\K τ) σ):ji P G N o K σ:=λm fr ρ a w Q c0 hD cj ay=>by
  have key:∀{cM w'},jv N m fr ρ σ (λa1=>∃τ,hn a1 τ/\K τ) cM w'->jv N m fr ρ σ K cM w':=by rintro cM w' ⟨a1,cB,c4,⟨τ,g1,g2⟩,aa,ax,bj,ca,cR⟩;obtain⟨zy,zz,aM,a8,b0⟩:=g1 cB fr c4 cM w' ax;exact⟨τ,zy,zz,g2,Mem.le_trans aa aM,a8,bj,ca,cR.trans b0⟩
  have:=h m fr ρ a w Q c0 hD cj ay;unfold Oper.wp at*;generalize (execOp a.eval o).run P w=r at*;cases r with
  |ok n w'=>
   cases n<;>simp only[Oper.upon]at this⊢<;>first|exact key this|exact this|skip
   .refine this.mono λe lq he=>?_;cases e with|returned v=>exact key he|panicked c=>exact he|outgrown=>exact he
   exact this.mono λv lq he=>key he
  |halt x w'=>cases x<;>exact this
def aav{β:Type}(bp:dU P T)(ck:hA P G C){o:Oper}(gE:∀d,o.dst=some d->d<N){x:Operand}{args:Array Operand}{dN:Array TypeId}(aT:o.op= .call ⟨.value x,args,dN⟩){k:aO->Option β}{b:β}(ct:fN ib σ) (h:zK T G C σ o x args.toList k=some b):ji P G N o (λa1=>k a1=some b/\fN ib a1) σ:=by refine MS bp gE (rb ?_ (Mv (T:=T) ck aT h));rintro a1 ⟨J,aa,_⟩;refine⟨J,λj aA aj=>ct j aA (by rw[<-aa];exact aj)⟩
def aaw{rU:TypeId->Option FuncId}{t:TypeId}{k:FuncId->Option D}{r:D}:∀{l:List TypeId},MP rU t k l=some r->∃f,rU t=some f/\k f=some r
 |[],h=>by cases h
 |c::l,h=>by
  unfold MP gM at h;split at h
  .rename_i ah;subst ah;split at h;.rename_i f bm;exact⟨f,bm,h⟩
   cases h
  exact aaw h
def am2{P:Program}{t:TypeId}{name:String}{f:FuncId}(hm:Lj P t name f)(n:Nat)(v:Value)(w:World):(method (n+1) t v name).run P w= .ok (f,v) w:=by
 obtain⟨info,m,d,J,aa,ax,bj,ca,cR⟩:=hm;have aM:(typeInfo t).run P w= .ok info w:=by simp[typeInfo,J]
 unfold method;simp only[xaj,aM,xag,aa,ax,follow,xaA,bj,receiverAt,xav ca];cases d<;>first|(simp only[Place.get,xaA,xag];done)|(exact absurd rfl (cR _))
def am3{P:Program}{va:Operand->Value}{x:Operand}{name:String}{args:Array Operand}{dN:Array TypeId}{ty:TypeId}{t:TypeId}{v:Value}{f:FuncId}{w:World}(ad:va x= .iface t v)(hm:Lj P t name f)(bm:xc P f):(do let d<-resolve va {callee:= .invoke x name,args:=args,argTypes:=dN} ty;invoke d.target d.args:Sem Next).run P w= .ok (.enter f (#[v]++args.map va)) w:=by
 obtain⟨fn,J,aa,ax⟩:=bm;have iq:0<Made.depth:=by decide
 have ay:∃n,P.types.size+Made.depth=n+1:=⟨P.types.size+Made.depth-1,by omega⟩;obtain⟨n,aN⟩:=ay;have bT:(#[Value.iface t v]++args.map va)[0]?=some (Value.iface t v):=by rw[xbt (by simp)];rfl
 have aM:(#[Value.iface t v]++args.map va).extract 1 (#[Value.iface t v]++args.map va).size=args.map va:=by apply xbN;simp[List.extract,xbx]
 have a8:(program:Sem Program).run P w= .ok P w:=rfl;have zW:=am2 hm n v w;have SA:(callFunc f (#[v]++args.map va)).run P w= .ok (.enter f (#[v]++args.map va)) w:=by simp only[callFunc,xaj,a8,xag,J,aa,ax,xar,xaI,xaA]
 simp only[xaj,resolve,ad,xaA,xag,invoke,bT,aM,callMethod,a8,aN,zW,SA]
def am4{β:Type}(bp:dU P T)(ck:hA P G C){o:Oper}(gE:∀d,o.dst=some d->d<N){x:Operand}{name:String}{args:Array Operand}{dN:Array TypeId}(aT:o.op= .call ⟨.invoke x name,args,dN⟩){k:aO->Option β}{b:β}(ct:fN ib σ) (h:Su T G C σ o x name args.toList k=some b):ji P G N o (λa1=>k a1=some b/\fN ib a1) σ:=by
 unfold Su at h;split at h
 case h_2=>cases h
 rename_i d ay;split at h
 case h_2=>cases h
 rename_i aR eS;obtain⟨p,aU,h⟩:=en h;obtain⟨r,av,h⟩:=en h;obtain⟨ca,cR⟩:=mi h;obtain⟨f,bm,SA⟩:=aaw av;have aax:=ck _ _ _ _ SA;have Gp:=bp.Lk _ _ _ bm;obtain⟨t,y⟩:=p;have am5:d= .eh t y:=by
  unfold Dl at aU;split at aU;.cases aU;rfl
  cases aU
 subst am5;intro m fr ρ a w Q c0 SB cj hN;have dE:=FV (a:=a) c0 SB.aQ;have jw:∀d,o.dst=some d->d<a.tmps.size:=λd ay=>xch (gE d ay) cj;have tL:∀v,N<=(a.put o.dst v).tmps.size:=by intro v;cases o.dst<;>simpa[Act.put]using cj
 have mT:∀v,(a.put o.dst v).defers=[]:=by intro v;cases o.dst<;>exact hN
 have ad:=dE x;rw[ay]at ad;have ad:=ad.pB;obtain⟨v,Q5,am6⟩:∃v,a.eval x= .iface t v/\c5 m y v:=by generalize a.eval x=u at ad;cases ad with|eh _ _ v h=>exact⟨v,rfl,h⟩
 have Ri:(execOp a.eval o).run P w= .ok (.enter f (#[v]++args.map a.eval)) w:=by unfold execOp;rw[aT];exact am3 Q5 Gp aax.fn
 unfold Oper.wp;rw[Ri];have Rj:r2 m (y::aR) (#[v]++args.map a.eval).toList:=by obtain⟨g1,g2⟩:=r5 eS;refine⟨by simp[g1],?_⟩;intro i d fK ay aS;simp only[Array.toList_append,xbd,xaL,Array.toList_map]at aS;cases i with|zero=>simp at ay aS;subst ay;subst aS;exact am6|succ i=>simp only[xcr]at ay aS;have g3:=g2 i d ay;simp only[xah,xaf]at g3 aS;obtain⟨z,⟨q,bU,rfl⟩,am7⟩:=g3;obtain⟨aDh,MT,rfl⟩:=aS;rw[bU]at MT;cases MT;exact Rg (xaB.1 ca _ (xaN.2 ⟨q,xad bU,rfl⟩)) am7 (dE q)
 have tN:=aax.run m _ w _ c0 SB.Yw Rj;simp only[Array.toArray_toList]at tN;refine tN.mono λe w' he=>?_;obtain⟨fK,cB,tA,rfl,bN,bO,cx,dX⟩:=he;subst bN;have am8:=SB.kept bO cx;exact⟨_,cB,ρ,⟨cR,λj aA aj=>ct j aA (by simpa using aj)⟩,bO,am8.put (.d _ _ dX) jw,tL fK,mT fK,λk ai aj=>⟨by simpa using aj,rfl⟩⟩
def aay{β:Type}(bp:dU P T)(ck:hA P G C)(hH:k5 P G H)(cj:N<10000){o:Oper}(gE:∀d,o.dst=some d->d<N){k:aO->Option β}{b:β}(ct:fN ib σ)(h:MQ T G jh σ o k=some b):ji P G N o (λa1=>k a1=some b/\fN ib a1) σ:=by
 unfold MQ at h;have step:∀{τ:aO},fN ib τ->tT T G τ o k=some b->ji P G N o (λa1=>k a1=some b/\fN ib a1) τ:=by intro τ ct h;obtain⟨a1,J,aa⟩:=zJ h;refine MS bp gE ?_;unfold dh;rw[J];exact⟨aa,MR ct (λd ay=>Nat.lt_trans (gE d ay) cj) J⟩
 split at h;.obtain⟨τ,J,aa,ax⟩:=GX ct h;exact ji.Db J (step aa ax)
 exact step ct h
def am9{β:Type}(bp:dU P T)(ck:hA P G C)(hH:k5 P G H)(cj:N<10000){o:Oper}(gE:∀d,o.dst=some d->d<N){k:aO->Option β}{b:β}(ct:fN ib σ)(h:Sv T G C H jh σ o k=some b):ji P G N o (λa1=>k a1=some b/\fN ib a1) σ:=by
 unfold Sv at h;split at h
 .rename_i x args dN aT;split at h
  .rename_i e he;obtain⟨τ,t1,SC,h⟩:=tX ct h;refine ji.Db t1 ?_;generalize fs:(λa1=>match jh (o.dst.getD 9999)with|true=>Dh (o.dst.getD 9999) a1 k|false=>k a1)=bG at h;have main:ji P G N o (λa1=>bG a1=some b/\fN ib a1) τ:=by refine ji.mono (K:=λa1=>bG a1=some b/\∀p,10000<=p->e3 (a1.objs p)->e3 (τ.objs p)) (λa1 ⟨J,aa⟩=>⟨J,λp aU aj=>SC p aU (aa p aU aj)⟩) ?_;intro m fr ρ a w Q c0 hD oM ay;exact amN c0 hD oM ay gE (hH _ _ he) aT h (Q:=Q)
   refine ji.out (ji.mono ?_ main);rintro a1 ⟨J,aa⟩;subst fs;simp only at J;split at J;.obtain⟨ana,g1,g2,g3⟩:=Sz aa J;exact⟨ana,g1,g3,g2⟩
   exact⟨a1,hn.refl a1,J,aa⟩
  split at h;.unfold aar at h;simp only at h;obtain⟨τ,J,aa,ax⟩:=GX ct h;exact ji.Db J (aav bp ck gE aT aa ax)
  exact aav bp ck gE aT ct h
 .rename_i x name args dN aT;exact am4 bp ck gE aT ct h
 .have step:∀{τ:aO}{k:aO->Option β},fN ib τ->tT T G τ o k=some b->ji P G N o (λa1=>k a1=some b/\fN ib a1) τ:=by
   intro τ k ct h;obtain⟨a1,J,aa⟩:=zJ h;refine MS bp gE ?_;unfold dh;rw[J];exact⟨aa,MR ct (λd ay=>Nat.lt_trans (gE d ay) cj) J⟩
  split at h;.refine ji.out (ji.mono ?_ (step ct h));rintro a1 ⟨J,aa⟩;obtain⟨τ,g1,g2,g3⟩:=Sz aa J;exact⟨τ,g1,g3,g2⟩
  exact step ct h
 .split at h;.obtain⟨τ,g1,g2,g3⟩:=Sz ct h;refine ji.Db g1 ?_;obtain⟨a1,J,aa⟩:=zJ g3;refine MS bp gE ?_;unfold dh;rw[J];exact⟨aa,MR g2 (λd ay=>Nat.lt_trans (gE d ay) cj) J⟩
  exact aay bp ck hH cj gE ct h
 exact aay bp ck hH cj gE ct h
def aaz{β:Type}(bp:dU P T)(ck:hA P G C)(hH:k5 P G H)(cj:N<10000){K:aO->Prop}:∀{os:List Oper}{r:List Oper}{i:Nat}{σ:aO}{k:aO->Option β}{b:β},(∀o∈os,o.guard=none)->(∀o∈os,∀d,o.dst=some d->d<N)->(∀j,(os++r)[j]?=all[i+j]?)->fN ib σ->(∀a1,fN ib a1->k a1=some b->pT P G N all (i+os.length) r K a1)->Sw T G C H jh os σ k=some b->pT P G N all i (os++r) K σ
 |[],r,i,σ,k,b,_,_,_,ct,ai,h=>ai σ ct h
 |o::os,r,i,σ,k,b,bL,ay,fl,ct,ai,h=>by
  have ag:all[i]?=some o:=by simpa using(fl 0).symm
  refine am0 ag (bL o (by simp)) (ji.mono ?_ (am9 bp ck hH cj (ay o (by simp)) ct h));rintro a1 ⟨J,aa⟩;refine aaz bp ck hH cj (λo aT=>bL o (by simp[aT])) (λo aT=>ay o (by simp[aT])) (λj=>by have:=fl (j+1);simpa[xbl,Nat.add_comm 1 j]using this) aa ?_ J;intro sd ax bj;have:=ai sd ax bj;rw[show i+(o::os).length=i+1+os.length by simp;omega]at this;exact this
def cg.shrink{m m0:Mem}{ρ SD:dk}{U rf:Key->Prop}{x:aX}{v:Value}(h:cg m ρ U x v):∀{v0:Value},cg m0 SD rf x v0->cg m ρ rf x v:=by
 induction h with
 |any v=>intro v0 _;exact .any _
 |d x v h=>intro v0 _;exact .d _ _ h
 |agg cs vs al h ih=>
  intro v0 ar;cases ar with|agg _ zY oi GY=>
  refine .agg _ _ al λi c v ah aS=>?_;have ag:i<zY.size:=by rw[oi];exact(xaa.1 ah).1
  exact ih i c v ah aS (GY i c _ ah (xak ag))
 |aZ cs vs al h ih=>
  intro v0 ar;cases ar with|aZ _ zY oi GY=>
  refine .aZ _ _ al λi c v ah aS=>?_;have ag:i<zY.size:=by rw[oi];exact(xaa.1 ah).1
  exact ih i c v ah aS (GY i c _ ah (xak ag))
 |dV cs off b o vs T eD aj xs J aa=>intro v0 _;exact .dV _ _ b o vs T eD aj xs J aa
 |ptr key off b hu h=>intro v0 ar;cases ar with|ptr _ _ _ mQ _=>exact .ptr _ _ b mQ h
 |gJ key k i off b o len cap hu h=>intro v0 ar;cases ar with|gJ _ _ _ _ _ _ _ _ mQ _=>exact .gJ _ _ _ _ b o len cap mQ h
 |row key hu=>intro v0 ar;cases ar with|row _ mQ=>exact .row _ mQ
 |sub key k i len b o L cap a hu h hle aG=>intro v0 ar;cases ar with|sub _ _ _ _ _ _ _ _ _ mQ=>exact .sub _ _ _ _ b o L cap a mQ h hle aG|kb _ _ _ mQ=>exact .sub _ _ _ _ b o L cap a mQ h hle aG
 |kb key k i hu h=>intro v0 ar;cases ar with|sub _ _ _ _ _ _ _ _ _ mQ=>exact .kb _ _ _ mQ h|kb _ _ _ mQ=>exact .kb _ _ _ mQ h
 |map key hu=>intro v0 ar;cases ar with|map _ mQ=>exact .map _ mQ
 |fn f first captured vs ws al eI h bB ih zb=>
  intro v0 ar;cases ar with|fn _ _ _ zY anb oi anc GY ane=>
  refine .fn _ _ _ _ _ al eI (λi c v ah aS=>?_) (λi c v ah aS=>?_)
  .have ag:i<zY.size:=by rw[oi];exact(xaa.1 ah).1
   exact ih i c v ah aS (GY i c _ ah (xak ag))
  .have ag:i<anb.size:=by rw[anc];exact(xaa.1 ah).1
   exact zb i c v ah aS (ane i c _ ah (xak ag))
def jE.shrink{m m0:Mem}{ρ SD:dk}{U rf:Key->Prop}{o:cX}{v v0:Value}{w w0:World}(h:jE m ρ U v w o)(ar:jE m0 SD rf v0 w0 o):jE m ρ rf v w o:=by
 cases o with
 |dead=>trivial
 |box cs=>
  obtain⟨b,vs,T,aM,a8,b0,cK⟩:=h;obtain⟨GZ,zY,fQ,f1,f2,f3,f4⟩:=ar;refine⟨b,vs,T,aM,a8,b0,λi c x ah ad=>?_⟩;have ag:i<zY.size:=by rw[f3];exact(xaa.1 ah).1
  exact(cK i c x ah ad).shrink (f4 i c _ ah (xak ag))
 |row=>exact h|map=>exact h
def anf{m cB:Mem}{fr:fq}{ρ c4:dk}{σ a1:aO}{a cM:Act}{w w':World}{aR:List Tmp}(h:Den m fr ρ σ a w)(bB:Den cB fr c4 a1 cM w')(qm:cD.ext σ.objs a1.objs)(az:∀t,t∉aR->a1.aQ t=σ.aQ t){cz:Tmp}{v:D}(aS:a1.aQ cz= .d v)(zP:cz∈aR):Den cB fr c4 ((mm aR σ).put (some cz) (.d v)) cM w':=by
 have hZ:((mm aR σ).put (some cz) (.d v)).objs=σ.objs:=by simp[mm]
 refine⟨bB.mem,bB.frame,bB.apart,?_,?_,?_,?_,?_⟩;.rintro k ⟨o,aT⟩;rw[hZ]at aT;exact bB.one k ⟨o,qm k o aT⟩
 .intro t;by_cases oh:t=cz;.subst oh;simp only[aO.put,ff];have:=bB.aQ t;rw[aS]at this;exact .d _ _ this.pB
  simp only[aO.put,c6 _ _ oh,mm];split;.exact .any _
  rename_i aN;have J:=bB.aQ t;rw[az t aN]at J;exact J.shrink (h.aQ t)
 .intro k o ai;rw[hZ]at ai;exact(bB.objs k o (qm k o ai)).shrink (h.objs k o ai)
 .intro k o b ai aT aj;rw[hZ]at ai;exact bB.own k o b (qm k o ai) aT aj
 intro k bG o o' b cp ai fs aT pK aj;rw[hZ]at ai fs;exact bB.sep k bG o o' b cp (qm k o ai) (qm bG o' fs) aT pK aj
def ang{m cB:Mem}{fr:fq}{ρ c4:dk}{σ a1:aO}{a cM:Act}{w w':World}{aR:List Tmp}(h:Den m fr ρ σ a w)(bB:Den cB fr c4 a1 cM w')(qm:cD.ext σ.objs a1.objs)(az:∀t,t∉aR->a1.aQ t=σ.aQ t){ts:List Tmp}{v:D}(aS:∀t∈ts,a1.aQ t= .d (ae v (ts.idxOf t))):Den cB fr c4 (xC ts v (mm aR σ)) cM w':=by
 have hZ:(xC ts v (mm aR σ)).objs=σ.objs:=rfl;refine⟨bB.mem,bB.frame,bB.apart,?_,?_,?_,?_,?_⟩;.rintro k ⟨o,aT⟩;rw[hZ]at aT;exact bB.one k ⟨o,qm k o aT⟩
 .intro t;by_cases oh:t∈ts
  .have aa:(xC ts v (mm aR σ)).aQ t= .d (ae v (ts.idxOf t)):=by simp only[xC,xac oh]
   rw[aa];have:=bB.aQ t;rw[aS t oh]at this;exact .d _ _ this.pB
  have aa:(xC ts v (mm aR σ)).aQ t=(mm aR σ).aQ t:=by simp only[xC,xae oh]
  rw[aa];simp only[mm];split;.exact .any _
  rename_i aN;have J:=bB.aQ t;rw[az t aN]at J;exact J.shrink (h.aQ t)
 .intro k o ai;rw[hZ]at ai;exact(bB.objs k o (qm k o ai)).shrink (h.objs k o ai)
 .intro k o b ai aT aj;rw[hZ]at ai;exact bB.own k o b (qm k o ai) aT aj
 intro k bG o o' b cp ai fs aT pK aj;rw[hZ]at ai fs;exact bB.sep k bG o o' b cp (qm k o ai) (qm bG o' fs) aT pK aj
theorem anh{T:cn}{ev:Operand->aX}{objs:cD}{d:Key}{op:Op}{r:aX}{cF:List (Key×cX)}(az:q9 op=true)(he:hy T ev objs d op=some (r,cF)):objs d=none:=(CS (objs':=λ_=>none) az rfl he).2.1
def ani{β:Type}(ck:hA P G C){o:Oper}(az:Sx o=true){k:aO->Option β}{b:β}(h:tU T G C σ o k=some b):dh P T G o (λa1=>k a1=some b/\cD.ext σ.objs a1.objs/\∀t,o.dst≠some t->a1.aQ t=σ.aQ t) σ:=by
 rcases xbM.1 az with az|az;.refine rb ?_ (ZW ck az h);rintro a1 ⟨J,aa,ax⟩;exact⟨J,by rw[aa];exact λ_ _ h=>h,ax⟩
 have ZX:∀x args dN,o.op≠ .call ⟨.value x,args,dN⟩:=by intro x args dN he;rw[he]at az;cases az
 unfold tU at h;split at h;.exact absurd (by assumption) (ZX _ _ _)
 obtain⟨a1,J,aa⟩:=zJ h;unfold dh;rw[J];unfold hf at J;rw[(r7 (objs:=σ.objs) az).1,(r7 az).2]at J;simp only at J;split at J
 case h_2=>cases J
 rename_i r cF he;cases J;have pI:σ.objs (o.dst.getD 9999)=none:=anh az he;obtain⟨_,_,fL,rfl⟩:=CS az pI he;refine⟨aa,?_,λt aP=>si aP⟩;rw[aO.xe];exact cD.LN pI fL
def SE{β:Type}(ck:hA P G C){j:Nat}{want:Bool}{d:Tmp}(ay:(all[j]?).bind (·.dst)=some d):∀{os:List Oper}{σ:aO}{k:aO->Option β}{b:β},(∀o∈os,o.guard=some (j,want))->(∀o∈os,Sx o=true/\o.dst≠some d)->σ.aQ d= .d (.val (.bool want))->tV T G C os σ k=some b->fU P T G all os (λa1=>k a1=some b/\cD.ext σ.objs a1.objs/\∀t,t∉dstsOf os->a1.aQ t=σ.aQ t) σ
 |[],σ,k,b,_,_,_,h=>⟨h,λ_ _ h=>h,λ_ _=>rfl⟩
 |o::os,σ,k,b,bL,az,hw,h=>by
  have ar:=az o (by simp);unfold fU eN;rw[bL o (by simp)];simp only[ay,hw,xaG];refine rb ?_ (ani ck ar.1 h);rintro a1 ⟨J,aa,ax⟩;refine nK ?_ (SE ck ay (λo aT=>bL o (by simp[aT])) (λo aT=>az o (by simp[aT])) (by rw[ax d ar.2];exact hw) J);rintro sd ⟨g1,g2,g3⟩;refine⟨g1,λcY aaA aT=>g2 cY aaA (aa cY aaA aT),?_⟩;intro t aP;have qw:t∉dstsOf os:=λah=>aP (by unfold dstsOf at ah⊢;simp only[xbW];cases o.dst<;>simp[ah])
  have zO:o.dst≠some t:=λah=>aP (by unfold dstsOf;simp[ah]);rw[g3 t qw,ax t zO]
def SF(bp:dU P T){fr:fq}{Q:Exit->Act->World->Prop}:∀(os r:List Oper)(i:Nat)(m:Mem)(ρ:dk)(σ:aO)(a:Act)(w:World)(K:aO->Prop),(∀j,(os++r)[j]?=all[i+j]?)->kz G m->Den m fr ρ σ a w->N<=a.tmps.size->a.defers=[]->(∀o∈os,∀d,o.dst=some d->d<N)->fU P T G all os K σ->(∀cM w',jv N m fr ρ σ K cM w'->wpOps P all Q (List.range' (i+os.length) r.length) cM w')->wpOps P all Q (List.range' i (os++r).length) a w
 |[],r,i,m,ρ,σ,a,w,K,_,c0,h,cj,hN,_,aS,SG=>SG a w ⟨σ,m,ρ,aS,Mem.le_refl m,h,cj,hN,lp.refl _ _⟩
 |o::os,r,i,m,ρ,σ,a,w,K,al,c0,h,cj,hN,gE,aS,SG=>by
  rw[xbd,xan,List.range'_succ,wpOps_cons];have ag:all[i]?=some o:=by simpa using(al 0).symm
  refine wpOp_mono ?_ (Rl bp c0 h cj hN ag (gE o (by simp)) aS);rintro cM w' ⟨a1,cB,c4,bN,bO,cx,dX,eO,fB⟩;refine SF bp os r (i+1) cB c4 a1 cM w' K (λj=>by have:=al (j+1);simpa[xbl,Nat.add_comm 1 j]using this) (c0.mono bO) cx dX eO (λo aT=>gE o (by simp[aT])) bN ?_;intro qo lq av;have:=SG qo lq (av.trans bO fB);rw[show i+(o::os).length=i+1+os.length by simp;omega]at this;exact this
theorem aaB(i:Nat):ae kD i=kD:=by unfold ae;cases i<;>rfl
def G0{β:Type}(bp:dU P T)(ck:hA P G C)(hH:k5 P G H)(cj:N<10000){K:aO->Prop}:∀{gs:List (Option (Nat×Bool)×List Oper)} {i:Nat} {σ:aO} {k:aO->Option β} {b:β},(∀g∈gs,∀o∈g.2,o.guard=g.1)->(∀o∈flat gs,∀d,o.dst=some d->d<N)->(∀j,(flat gs)[j]?=all[i+j]?)->fN ib σ->(∀a1,fN ib a1->k a1=some b->K a1)->zX T G C H jh all gs σ k=some b->pT P G N all i (flat gs) K σ
 |[],i,σ,k,b,_,_,_,ct,ai,h=>amZ (ai σ ct h)|(none,os)::r,i,σ,k,b,bL,ay,fl,ct,ai,h=>by show pT P G N all i (os++flat r) K σ;refine aaz bp ck hH cj (λo aT=>bL (none,os) (by simp) o aT) (λo aT=>ay o (by simp[flat,aT])) fl ct ?_ h;intro a1 J aa;refine G0 bp ck hH cj (λg hm=>bL g (by simp[hm])) (λo aT=>ay o (by simp only[flat,xcp,xas];exact .inr aT)) ?_ J ai aa;intro j;have:=fl (os.length+j);rw[<-xbl]at this;rw[<-this];show _=(os++flat r)[os.length+j]?;rw[xaz (by omega)];simp
 |(some (j,want),os)::r,i,σ,k,b,bL,ay,fl,ct,ai,h=>by
  show pT P G N all i (os++flat r) K σ;unfold zX at h;split at h
  case h_2=>cases h
  rename_i d cz Dn zP;split at h
  case h_2=>cases h
  rename_i x ad;split at h
  case isFalse=>cases h
  rename_i bE;simp only[xaB,xap,bne_iff_ne,ne_eq]at bE;split at h
  .obtain⟨v,J,aa⟩:=en h;have mU:∀o∈os,o.guard=some (j,want):=λo aT=>bL (some (j,want),os) (by simp) o aT;have SH:pT P G N all (i+os.length) (flat r) K ((mm (dstsOf os) σ).put (some cz) (.d v)):=by
    refine G0 bp ck hH cj (λg hm=>bL g (by simp[hm])) (λo aT=>ay o (by simp only[flat,xcp,xas];exact .inr aT)) ?_ (fN.put (σ:=mm (dstsOf os) σ) ct) ai aa;intro G1;have:=fl (os.length+G1);rw[<-xbl]at this;rw[<-this];show _=(os++flat r)[os.length+G1]?;rw[xaz (by omega)];simp
   have aS:fU P T G all os (λa1=>cD.ext σ.objs a1.objs/\(∀t,t∉dstsOf os->a1.aQ t=σ.aQ t)/\a1.aQ cz= .d v) σ:=by
    unfold ec at J;split at J
    .rename_i oI;split at J
     .rename_i aj;subst aj;refine nK ?_ (SE ck Dn mU bE ad J);rintro a1 ⟨g1,g2,g3⟩;refine⟨g2,g3,?_⟩;split at g1;.rename_i u hu;cases g1;exact hu
      cases g1
     rename_i aj;cases J;refine nK ?_ (GJ Dn mU (λo aT=>(bE o aT).2) (.inl (by rw[ad];cases oI<;>cases want<;>simp_all)));rintro a1 ⟨g1,g2,g3⟩;exact⟨by rw[g1];exact λ_ _ h=>h,g2,g3 cz zP⟩
    .rename_i vs;cases J;refine nK ?_ (GJ Dn mU (λo aT=>(bE o aT).2) (.inr ⟨_,ad⟩));rintro a1 ⟨g1,g2,g3⟩;exact⟨by rw[g1];exact λ_ _ h=>h,g2,g3 cz zP⟩
    cases J
   intro m fr ρ a w Q c0 hD oM hN ir;refine SF bp os (flat r) i m ρ σ a w _ fl c0 hD oM hN (λo aT=>ay o (by simp[flat,aT])) aS ?_;rintro cM w' ⟨a1,cB,c4,⟨g1,g2,g3⟩,bO,cx,dX,eO,fB⟩;have mZ:=anf hD cx g1 g2 g3 (Z2 zP);refine SH cB fr c4 cM w' Q (c0.mono bO) mZ dX eO ?_;intro qo lq av;refine ir qo lq (av.trans bO ?_);intro cY dA aj;exact⟨by rw[aO.xe];exact aj,(fB cY dA aj).2⟩
  obtain⟨v,J,aa⟩:=en h;have mU:∀o∈os,o.guard=some (j,want):=λo aT=>bL (some (j,want),os) (by simp) o aT;have SH:pT P G N all (i+os.length) (flat r) K (xC (kept all os (flat r)) v (mm (dstsOf os) σ)):=by refine G0 bp ck hH cj (λg hm=>bL g (by simp[hm])) (λo aT=>ay o (by simp only[flat,xcp,xas];exact .inr aT)) ?_ ct ai aa;intro G1;have:=fl (os.length+G1);rw[<-xbl]at this;rw[<-this];show _=(os++flat r)[os.length+G1]?;rw[xaz (by omega)];simp
  have aS:fU P T G all os (λa1=>cD.ext σ.objs a1.objs/\(∀t,t∉dstsOf os->a1.aQ t=σ.aQ t)/\(∀t∈kept all os (flat r),a1.aQ t= .d (ae v ((kept all os (flat r)).idxOf t)))) σ:=by
   unfold ec at J;split at J
   .rename_i oI;split at J
    .rename_i aj;subst aj;refine nK ?_ (SE ck Dn mU bE ad J);rintro a1 ⟨g1,g2,g3⟩;refine⟨g2,g3,?_⟩;split at g1;.rename_i l al;cases g1;exact λt aP=>amn al aP
     cases g1
    rename_i aj;cases J;refine nK ?_ (R6 Dn mU (λo aT=>(bE o aT).2) (.inl (by rw[ad];cases oI<;>cases want<;>simp_all)));rintro a1 ⟨g1,g2,g3⟩;exact⟨by rw[g1];exact λ_ _ h=>h,g2,λt aP=>by rw[g3 t (xbX.1 aP).1,aaB]⟩
   .rename_i vs;cases J;refine nK ?_ (R6 Dn mU (λo aT=>(bE o aT).2) (.inr ⟨_,ad⟩));rintro a1 ⟨g1,g2,g3⟩;exact⟨by rw[g1];exact λ_ _ h=>h,g2,λt aP=>by rw[g3 t (xbX.1 aP).1,aaB]⟩
   cases J
  intro m fr ρ a w Q c0 hD oM hN ir;refine SF bp os (flat r) i m ρ σ a w _ fl c0 hD oM hN (λo aT=>ay o (by simp[flat,aT])) aS ?_;rintro cM w' ⟨a1,cB,c4,⟨g1,g2,g3⟩,bO,cx,dX,eO,fB⟩;have mZ:=ang hD cx g1 g2 g3;refine SH cB fr c4 cM w' Q (c0.mono bO) mZ dX eO ?_;intro qo lq av;refine ir qo lq (av.trans bO ?_);intro cY dA aj;exact⟨aj,(fB cY dA aj).2⟩
def anj{β:Type}(bp:dU P T)(ck:hA P G C)(hH:k5 P G H)(cj:N<10000){k:aO->Option β}{b:β}(ay:∀o∈all.toList,∀d,o.dst=some d->d<N)(ct:fN ib σ)(h:aat T G C H jh all σ k=some b):pT P G N all 0 all.toList (λa1=>fN ib a1/\k a1=some b) σ:=by
 have:=G0 (P:=P) (N:=N) (ib:=ib) (all:=all) (i:=0) bp ck hH cj (K:=λa1=>fN ib a1/\k a1=some b) (λg hm o aT=>Mu _ _ _ hm o aT) (by rw[xD];exact ay) (by rw[xD];intro j;simp) ct (λa1 J aa=>⟨J,aa⟩) h
 rwa [xD]at this
def ank{Q:Exit->aO->Prop}{id:Nat}{ops:Array Oper}(h:pT P G N ops 0 ops.toList (Q .normal) σ):hJ P T G N (.region id ops false) σ Q:=by intro m fr ρ a w c0 hD oM ay;refine wp_region ?_;rw[List.range_eq_range'];have:=h m fr ρ a w (λe cM w'=>jv N m fr ρ σ (Q e) cM w') c0 hD oM ay (λcM w' av=>av);simpa using this
end
def ub(ops:Array Oper):Bool:=(List.range ops.size).all λj=>match ops[j]? with
  |some o=>o.after.all (λe=>!Region.binds .any e||decide (e.on<j))&&(match o.guard with|none=>true|some (g,_)=>decide (g<j))
  |none=>true
def G2(ops:Array Oper)(j:Nat):Bool:=(List.range j).all λi=>(List.range (j+1)).any λk=>decide (i<k)&&match ops[k]? with|some o=>o.after.any (λe=>Region.binds .any e&&decide (e.on=i))|none=>false
def SI(ops:Array Oper)(p:Nat):Bool:=ub ops&&(List.range ops.size).all λj=>decide (j<p)||G2 ops j
def zZ{ops:Array Oper}(h:ub ops=true){j:Nat}{o:Oper}(aT:ops[j]?=some o):(∀e∈o.after,Region.binds .any e=true->e.on<j)/\∀g b,o.guard=some (g,b)->g<j:=by
 have aA:j<ops.size:=(xaS.1 aT).1;have J:=xaB.1 h j (xbT.2 aA);simp only[aT,xap]at J;refine⟨λe he aj=>?_,λg b bL=>?_⟩
 .have:=Array.all_eq_true'.1 J.1 e he;simpa[aj]using this
 have:=J.2;rw[bL]at this;simpa using this
def anl{ops:Array Oper}{j i:Nat}(h:G2 ops j=true)(ag:i<j):∃k o,i<k/\k<=j/\ops[k]?=some o/\∃e∈o.after,Region.binds .any e=true/\e.on=i:=by
 have J:=xaB.1 h i (xbT.2 ag);obtain⟨k,ai,aa⟩:=xbH.1 J;simp only[xap,xaC]at aa;obtain⟨ax,bj⟩:=aa;cases aT:ops[k]? with
 |none=>rw[aT]at bj;cases bj
 |some o=>rw[aT]at bj;obtain⟨e,he,ca⟩:=Array.any_eq_true'.1 bj;simp only[xap,xaC]at ca;have:=xbT.1 ai;exact⟨k,o,ax,by omega,aT,e,he,ca⟩
def Dp(ops:Array Oper)(listed:Array Bool):Prop:=∀j o,ops[j]?=some o->listed.getD j true=true->∀e∈o.after,Region.binds .any e=true->listed.getD e.on false=true
section
variable{P:Program}{ops h2:Array Oper}{Q:Exit->Act->World->Prop}
def vM{i:Nat}(h:i<ops.size):(ops++h2)[i]?=ops[i]?:=xbt h
def Dq{l r:Array Bool}{d:Bool}{i:Nat}(h:i<l.size):(l++r).getD i d=l.getD i d:=by
 have aa:i<l.size+r.size:=by omega
 simp only[xbj,xbt h]
theorem anm{l:Array Bool}{m:Nat}{d:Bool}{i:Nat}(h:l.size<=i)(aa:i<l.size+m):(l++Array.replicate m false).getD i d=false:=by simp only[xbj,Array.getElem?_append_right h];rw[Array.getElem?_replicate,xac (by omega)];rfl
def SJ{l:Array Bool}{i:Nat}(h:i<l.size)(d e:Bool):l.getD i d=l.getD i e:=by simp[Array.getD,h]
def SK{all:Array Oper}{L:Array Bool}{j:Nat}(ct:L.size=all.size)(al:G2 all j=true)(hinv:Dp all L)(av:j∈Region.ready .any all L):∀(d i:Nat),j-i<=d->i<j->L.getD i false=true
 |0,i,h,ag=>by omega
 |d+1,i,h,ag=>by
  obtain⟨k,o',J,ai,aa,e,ax,bj,ca⟩:=anl al ag;rw[<-ca];by_cases ann:k=j;.subst ann;obtain⟨_,iW,bN,bO⟩:=xbU.1 av;rw[aa]at bN;cases bN;exact bO e ax bj
  have cR:=SK ct al hinv av d k (by omega) (by omega);have eP:=(xaS.1 aa).1;rw[SJ (by omega) false true]at cR;exact hinv k o' aa cR e ax bj
def G3{all:Array Oper}{L:Array Bool}{i:Nat}(h:i∈Region.ready .any all L):i<all.size:=(xaS.1 (xbU.1 h).2.choose_spec.1).1
def ano{all:Array Oper}{L:Array Bool}(az:L.size=all.size)(h:Dp all L){i:Nat}(ag:i∈Region.ready .any all L):Dp all (L.setIfInBounds i true):=by
 obtain⟨J,fw,aa,ax⟩:=xbU.1 ag;have bX:=G3 ag;have up:∀{j:Nat},L.getD j false=true->(L.setIfInBounds i true).getD j false=true:=by
  intro j aA;by_cases cq:j<L.size
  .by_cases j0:i=j;.subst j0;simp[Array.getD,cq]
   simp[Array.getD,cq]at aA⊢;rw[xbL cq j0];exact aA
  simp[Array.getD,cq]at aA
 intro j o' aT aA e he jM;have cq:j<L.size:=by have:=(xaS.1 aT).1;omega
 by_cases j0:i=j;.subst j0;rw[aa]at aT;cases aT;exact up (ax e he jM)
 refine up (h j o' aT ?_ e he jM);simp[Array.getD,cq]at aA⊢;rw[xbL cq j0]at aA;exact aA
def aaC{listed:Array Bool}(aj:ub (ops++h2)=true)(az:listed.size=ops.size){i:Nat}(ag:i<ops.size):i∈Region.ready .any (ops++h2) (listed++Array.replicate h2.size false)↔i∈Region.ready .any ops listed:=by
 rw[xbU,xbU,Dq (by omega),vM ag];refine and_congr_right λ_=>?_;constructor;.rintro⟨o',aT,h⟩;refine⟨o',aT,λe he jM=>?_⟩;have:=(zZ aj (by rw[vM ag];exact aT)).1 e he jM;rw[<-h e he jM,Dq (by omega)]
 rintro⟨o',aT,h⟩;refine⟨o',aT,λe he jM=>?_⟩;have:=(zZ aj (by rw[vM ag];exact aT)).1 e he jM;rw[Dq (by omega),h e he jM]
def aaD{all:Array Oper}{L:Array Bool}(az:L.size=all.size)(h:∀i,i<all.size->L.getD i false=true):Region.ready .any all L=[]:=by refine List.eq_nil_iff_forall_not_mem.2 λi ag=>?_;have b6:=G3 ag;have J:=(xbU.1 ag).1;rw[SJ (by omega) true false,h i b6]at J;cases J
def anp{all:Array Oper}{L:Array Bool}(aj:ub all=true)(az:L.size=all.size)(h:Region.ready .any all L=[]):∀(i:Nat),i<all.size->L.getD i false=true:=by
 intro i
 induction i using Nat.strongRecOn with
 |_ i ih=>
  intro ag;refine xbi λah=>?_;have bm:L.getD i true=false:=by rw[SJ (by omega) true false];simpa using ah
  have:i∈Region.ready .any all L:=by refine xbU.2 ⟨bm,all[i],by simp[ag],λe he jM=>?_⟩;have b6:=(zZ aj (j:=i) (o:=all[i]) (by simp[ag])).1 e he jM;exact ih e.on b6 (by omega)
  rw[h]at this;cases this
def anq(aj:ub (ops++h2)=true):ub ops=true:=by
 refine xaB.2 λj aA=>?_;have aA:=xbT.1 aA;have J:=xaB.1 aj j (xbT.2 (by simp;omega))
 rwa [vM aA]at J
def anr{tm:Array Value}{g:Nat}(h:g<ops.size):yielded (ops++h2) tm g=yielded ops tm g:=by unfold yielded;rw[vM h]
def ans(aj:ub (ops++h2)=true){i:Nat}(ag:i<ops.size){o':Oper}(aT:ops[i]?=some o')(tm:Array Value):Region.wanted o' (yielded (ops++h2) tm)=Region.wanted o' (yielded ops tm):=by unfold Region.wanted;cases bL:o'.guard with|none=>rfl|some p=>obtain⟨g,b⟩:=p;have:=(zZ aj (by rw[vM ag];exact aT)).2 g b bL;simp only[anr (Nat.lt_trans this ag)]
def ant(aj:ub (ops++h2)=true){i:Nat}(ag:i<ops.size){K:Act->World->Prop}{a:Act}{w:World}:wpOp P (ops++h2) Q i K a w=wpOp P ops Q i K a w:=by
 unfold wpOp;rw[vM ag];have:ops[i]?=some ops[i]:=by simp[ag]
 rw[this];simp only[ans aj ag this]
def anu{all:Array Oper}:∀(fuel:Nat)(L:Array Bool)(a:Act)(w:World),Region.ready .any all L=[]->Q .normal a w->wpAny P .any all Q fuel L a w
 |0,L,a,w,h,ir=>⟨h,ir⟩|fuel+1,L,a,w,h,ir=>⟨λ_=>ir,λi ag=>by rw[h]at ag;cases ag⟩
def nb(n j:Nat):Array Bool:=Array.ofFn (n:=n) λi=>decide (i.val<j)
def aaE{n j:Nat}:(nb n j).size=n:=by simp[nb]
def z1{n j i:Nat}{d:Bool}(h:i<n):(nb n j).getD i d=decide (i<j):=by simp[nb,Array.getD,h]
def anv{n j:Nat}:(nb n j).setIfInBounds j true=nb n (j+1):=by
 apply Array.ext;.simp[nb]
 intro i J aa;simp[nb]at J;by_cases h:i=j;.subst h;simp[nb]
 rw[xbL (by simpa[nb]using J) (by omega)];simp[nb];omega
def aaF{all:Array Oper}(aj:ub all=true){p:Nat}(al:∀j,p<=j->j<all.size->G2 all j=true):∀(d j:Nat)(a:Act)(w:World),p<=j->j+d=all.size->wpOps P all Q (List.range' j d) a w->wpAny P .any all Q d (nb all.size j) a w
 |0,j,a,w,aU,ay,h=>by refine⟨aaD aaE λi ag=>by rw[z1 ag];simp;omega,by simpa[wpOps]using h⟩
 |d+1,j,a,w,aU,ay,h=>by
  have aA:j<all.size:=by omega
  have hinv:Dp all (nb all.size j):=by intro i o aT ag e he jM;have bX:=(xaS.1 aT).1;rw[z1 bX]at ag;have:=(zZ aj aT).1 e he jM;rw[z1 (by omega)];simp at ag⊢;omega
  have aaG:j∈Region.ready .any all (nb all.size j):=by refine xbU.2 ⟨by rw[z1 aA];simp,all[j],by simp[aA],λe he jM=>?_⟩;have:=(zZ aj (j:=j) (o:=all[j]) (by simp[aA])).1 e he jM;rw[z1 (by omega)];simpa using this
  refine⟨λar=>(by rw[ar]at aaG;cases aaG),λi ag=>?_⟩;have cS:=G3 ag;have J:=(xbU.1 ag).1;rw[z1 cS]at J;have j0:i=j:=by
   have dS:j<=i:=by simpa using J
   by_cases ah:i=j;.exact ah
   have:=SK aaE (al i (by omega) cS) hinv ag i j (by omega) (by omega);rw[z1 aA]at this;simp at this
  subst j0;rw[List.range'_succ,wpOps_cons]at h;refine wpOp_mono (λcM w' bU=>?_) h;rw[anv];exact aaF aj al d (i+1) cM w' (by omega) (by omega) bU
def anw{listed:Array Bool}{m:Nat}(h:∀i,i<listed.size->listed.getD i false=true):listed++Array.replicate m false=nb (listed.size+m) listed.size:=by
 apply Array.ext;.simp[nb]
 intro i J aa;simp at J;by_cases ag:i<listed.size;.have:=h i ag;simp[Array.getD,ag]at this;rw[Array.getElem_append_left ag,this];simp[nb,ag]
 rw[Array.getElem_append_right (by omega)];simp[nb];omega
def anx{listed:Array Bool}{m i:Nat}(ag:i<listed.size):(listed++Array.replicate m false).setIfInBounds i true=listed.setIfInBounds i true++Array.replicate m false:=by
 apply Array.ext;.simp
 intro j J aa;simp at J;by_cases aA:j<listed.size
 .rw[Array.getElem_append_left (by simpa using aA)];by_cases j0:i=j;.subst j0;simp
  rw[xbL (by simp;omega) j0,Array.getElem_append_left aA,xbL aA j0]
 rw[Array.getElem_append_right (by simp;omega),xbL (by simp;omega) (by omega),Array.getElem_append_right (by omega)];simp
end
def aaH{P:Program}{Q:Exit->Act->World->Prop}{all:Array Oper}:∀{n:Nat}{L:Array Bool}{a:Act}{w:World},wpAny P .any all Q n L a w->∀k,n<=k->wpAny P .any all Q k L a w
 |0,L,a,w,h,k,ai=>anu k L a w h.1 h.2|n+1,L,a,w,h,0,ai=>by omega|n+1,L,a,w,h,k+1,ai=>⟨h.1,λi ag=>wpOp_mono (λcM w' bB=>aaH bB k (by omega)) (h.2 i ag)⟩
section
variable{P:Program}{T:cn}{G:ds}{ops h2:Array Oper}{Q:Exit->Act->World->Prop}
def anz{m:Mem}{fr:fq}{N:Nat}(bp:dU P T){K:aO->Prop}(aj:ub (ops++h2)=true)(al:∀j,ops.size<=j->j<(ops++h2).size->G2 (ops++h2) j=true)(gE:∀o∈ops,∀d,o.dst=some d->d<N):∀(fuel:Nat)(listed:Array Bool)(m:Mem)(ρ:dk)(σ:aO)(a:Act)(w:World),listed.size=ops.size->Dp ops listed->kz G m->Den m fr ρ σ a w->N<=a.tmps.size->a.defers=[]->jJ P T G ops K fuel listed σ->(∀cM w',jv N m fr ρ σ K cM w'->wpOps P (ops++h2) Q (List.range' ops.size h2.size) cM w')->wpAny P .any (ops++h2) Q (fuel+h2.size) (listed++Array.replicate h2.size false) a w:=by
 have fin:∀{fuel:Nat}{listed:Array Bool}{m:Mem}{ρ:dk}{σ:aO}{a:Act}{w:World},listed.size=ops.size->Region.ready .any ops listed=[]->kz G m->Den m fr ρ σ a w->N<=a.tmps.size->a.defers=[]->K σ->(∀cM w',jv N m fr ρ σ K cM w'->wpOps P (ops++h2) Q (List.range' ops.size h2.size) cM w')->wpAny P .any (ops++h2) Q h2.size (listed++Array.replicate h2.size false) a w:=by intro fuel listed m ρ σ a w az av c0 h cj hN ai ir;have anA:=anp (anq aj) az av;rw[anw (λi ag=>anA i (by omega)),az,<-Array.size_append];exact aaF aj al _ _ _ _ (xaU _) (by simp) (ir a w ⟨σ,m,ρ,ai,Mem.le_refl m,h,cj,hN,lp.refl _ _⟩)
 intro fuel
 induction fuel with
 |zero=>intro listed m ρ σ a w az hinv c0 h cj hN aS ir;rw[xax];exact fin (fuel:=0) az aS.1 c0 h cj hN aS.2 ir
 |succ fuel ih=>
  intro listed m ρ σ a w az hinv c0 h cj hN aS ir;by_cases av:Region.ready .any ops listed=[];.have:=fin (fuel:=0) az av c0 h cj hN (aS.1 av) ir;exact aaH this _ (by omega)
  rw[Nat.add_right_comm];have anB:Dp (ops++h2) (listed++Array.replicate h2.size false):=by
   intro j o' aT aA e he jM;have cq:=(xaS.1 aT).1;simp at cq;by_cases aaI:j<ops.size
   .rw[Dq (by omega)]at aA;rw[vM aaI]at aT;have:=(zZ aj (by rw[vM aaI];exact aT)).1 e he jM;rw[Dq (by omega)];exact hinv j o' aT aA e he jM
   rw[anm (by omega) (by omega)]at aA;cases aA
  refine⟨λar=>absurd ?_ av,λi ag=>?_⟩;.refine List.eq_nil_iff_forall_not_mem.2 λi ag=>?_;have:=(aaC aj az (G3 ag)).2 ag;rw[ar]at this;cases this
  by_cases tH:i<ops.size;.have n8:=(aaC aj az tH).1 ag;have J:=aS.2 i n8;obtain⟨_,fw,aT,_⟩:=xbU.1 n8;unfold ia at J;simp only[aT]at J;rw[ant aj tH];refine wpOp_mono ?_ (Rl bp c0 h cj hN aT (gE fw (Array.mem_of_getElem? aT)) J);rintro cM w' ⟨a1,cB,c4,bN,bO,cx,dX,eO,fB⟩;rw[anx (by omega)];refine ih _ cB c4 a1 cM w' (by simp[az]) (ano az hinv n8) (c0.mono bO) cx dX eO bN ?_;rintro qo lq ⟨sd,zy,zz,ei,eu,gS,tP,xp,xq⟩;exact ir qo lq ⟨sd,zy,zz,ei,Mem.le_trans bO eu,gS,tP,xp,fB.trans xq⟩
  refine absurd (aaD az λj aA=>?_) av;have:=SK (by simp[az]) (al i (by omega) (G3 ag)) anB ag i j (by omega) (by omega)
  rwa [Dq (by omega)]at this
end
def anC{P:Program}{T:cn}{G:ds}{N:Nat}{σ:aO}{Q:Exit->aO->Prop}(bp:dU P T)(hm:P.follows .mixedOrders=true){id:Nat}{ops h2:Array Oper}(cj:xr N ops=true)(aj:SI (ops++h2) ops.size=true) {K:aO->Prop} (hz:∀a1,K a1->pT P G N (ops++h2) ops.size h2.toList (Q .normal) a1) (h:jJ P T G ops K ops.size (Array.replicate ops.size false) σ):hJ P T G N (.region id (ops++h2) true) σ Q:=by
 intro m fr ρ a w c0 hD oM ay;refine wp_region_any hm ?_;simp only[SI,xap]at aj;have e:Array.replicate (ops++h2).size false=Array.replicate ops.size false++Array.replicate h2.size false:=by rw[Array.size_append,Array.replicate_append_replicate]
 rw[e,Array.size_append];refine anz (m:=m) (fr:=fr) (N:=N) (T:=T) bp aj.1 (λj J aa=>?_) (xt cj) ops.size _ m ρ σ a _ (by simp) ?_ c0 (hD.drew _) oM ay h ?_;.have:=xaB.1 aj.2 j (xbT.2 aa);simp only[xbk,xaC]at this;exact this.resolve_left (by omega)
 .intro j o' aT aA;have:=(xaS.1 aT).1;simp[Array.getD,this]at aA
 rintro cM w' ⟨a1,cB,c4,bN,bO,cx,dX,eO,fB⟩;have:=hz a1 bN cB fr c4 cM w' (λe cM w'=>jv N m fr ρ σ (Q e) cM w') (c0.mono bO) cx dX eO (λqo lq av=>av.trans bO fB);simpa using this
section
variable{β:Type}
def bJ(f:List D->Option (List D⊕β)):Nat->List D->Option β
 |0,_=>none|n+1,ls=>ab (f ls) λx=>match x with| .inl fm=>bJ f n fm| .inr b=>some b
end
def xN:Code->Nat
 | .region id _ _=>id| .seq x _=>xN x| .cond _ x _=>xN x| .block _ c=>xN c| .loop c=>xN c| .scope c=>xN c|_=>0
def anD(c:Tmp)(x y:Code):Nat:=(c*1000+xN y)*1000+xN x
structure oj where
 T:cn
 G:ds
 C:ml
 n:Nat
 ib:List Key
 loops:Nat->Option sj
 anE:Nat->Option sj
 blocks:Nat->Option sj
 rl:Nat->Option (List Nat)
 H:xM
 jh:Tmp->Bool
 pre:Nat->List (List Key)
def bh{β:Type}(b:Option β):Option (List D⊕β):=ab b λb=>some (.inr b)
def bo{β:Type}(f:List D->Option β):List D⊕β->Option β
 | .inl ls=>f ls| .inr b=>some b
def SL{β:Type}(ib:List Key)(gp:sj)(run:(Exit->aO->Option (List D⊕β))->Option (List D⊕β))(k:Exit->aO->Option β):Option β:=ab (run λe a1=>match e with| .normal=>tW ib gp a1 λls=>some (.inl ls)|e=>bh (k e a1)) (bo λls=>k .normal (restore gp ls))
def G4{β:Type}(id:Nat)(k:Exit->aO->Option β)(e:Exit)(σ:aO):Option β:=match e with
 | .exit vx=>if vx=id then k .normal σ else k (.exit vx) σ
 |e=>k e σ
def anF{β:Type}(k:Exit->aO->Option β)(e:Exit)(σ:aO):Option β:=match e with| .goto _=>none|e=>k e σ
def exec(X:oj):Code->{β:Type}->aO->(Exit->aO->Option β)->Option β
 | .skip,_,σ,k=>k .normal σ| .label _,_,σ,k=>k .normal σ| .scope c,_,σ,k=>exec X c σ (anF k)| .exit id,_,σ,k=>k (.exit id) σ| .ret,_,σ,k=>k .ret σ
 | .region id ops d,_,σ,k=>zU (X.pre id) σ λσ=>match X.rl id with
  |none=>match d with|true=>ZP X.T X.G X.C ops σ λa1=>k .normal a1|false=>aat X.T X.G X.C X.H X.jh ops σ λa1=>k .normal a1
  |some ord=>if d=true/\ord.length=ops.size then Da X.T X.G X.C ops ord (Array.replicate ops.size false) σ λa1=>k .normal a1
   else if d=true/\ord.length<=ops.size/\SI ops ord.length=true then Da X.T X.G X.C (ops.extract 0 ord.length) ord (Array.replicate ord.length false) σ λa1=>zX X.T X.G X.C X.H X.jh ops (xA (ops.extract ord.length ops.size).toList) a1 λsd=>k .normal sd
   else none
 | .seq x y,_,σ,k=>exec X x σ λe a1=>match e with| .normal=>exec X y a1 k|e=>k e a1
 | .cond (.tmp c) x y,_,σ,k=>match σ.aQ c with
  | .d a=>match X.anE (anD c x y)with|none=>aJ a (exec X x σ k) (exec X y σ k)|some gp=>SL X.ib gp (λbG=>aJ a (exec X x σ bG) (exec X y σ bG)) k
  |_=>none
 | .block id c,_,σ,k=>match X.blocks id with|none=>exec X c σ (G4 id k)|some gp=>SL X.ib gp (λbG=>exec X c σ (G4 id bG)) k
 | .loop c,_,σ,k=>match X.loops (xN c)with|none=>none|some gp=>tW X.ib gp σ λSM=>bJ (λls=>exec X c (restore gp ls) λe a1=>match e with| .normal=>tW X.ib gp a1 λfm=>some (.inl fm)|e=>bh (k e a1)) X.n SM
 | .cond (.const v) x y,_,σ,k=>match v with| .bool true=>exec X x σ k| .bool false=>exec X y σ k|_=>none
 |_,_,_,_=>none
section
variable{P:Program}{T:cn}{G:ds}{N:Nat}{σ:aO}{all:Array Oper}{ib:List Key}
def aaJ{K K':aO->Prop}(ai:∀σ,K σ->K' σ):∀(fuel:Nat){listed:Array Bool}{σ:aO},jJ P T G all K fuel listed σ->jJ P T G all K' fuel listed σ
 |0,_,_,h=>⟨h.1,ai _ h.2⟩|fuel+1,_,_,h=>⟨λar=>ai _ (h.1 ar),λi ag=>xm (λ_ bB=>aaJ ai fuel bB) (h.2 i ag)⟩
def G5{K:aO->Prop}(ay:∀o∈all,∀d,o.dst=some d->d<10000):∀(fuel:Nat){listed:Array Bool}{σ:aO},fN ib σ->jJ P T G all K fuel listed σ->jJ P T G all (λa1=>fN ib a1/\K a1) fuel listed σ
 |0,_,_,ct,h=>⟨h.1,ct,h.2⟩
 |fuel+1,_,σ,ct,h=>by
  refine⟨λar=>⟨ct,h.1 ar⟩,λi ag=>?_⟩;have J:=h.2 i ag;unfold ia at J⊢;split at J
  .exact G5 ay fuel ct J
  rename_i o aT;rw[h1]at J⊢;have anG:=ay o (Array.mem_of_getElem? aT);cases hw:kd all σ o with|none=>rw[hw]at J;exact J|some w=>rw[hw]at J;cases w with|true=>exact rb (λa1 ⟨aa,ax⟩=>G5 ay fuel aa ax) (aau ct anG J)|false=>exact G5 ay fuel ct.put J
def anH{Q:Exit->aO->Prop}(bp:dU P T)(hm:P.follows .mixedOrders=true){id:Nat}{ops:Array Oper}(cj:xr N ops=true) (h:jJ P T G ops (Q .normal) ops.size (Array.replicate ops.size false) σ):hJ P T G N (.region id ops true) σ Q:=by intro m fr ρ a w c0 hD oM ay;refine wp_region_any hm ?_;exact Ru (m:=m) (fr:=fr) (N:=N) (Q:=λe cM w'=>jv N m fr ρ σ (Q e) cM w') bp (xt cj) ops.size _ m ρ σ a _ c0 (hD.drew _) oM ay h (λcM w' av=>av)
def qA(T:cn)(os:Nat->Option (List Nat))(N:Nat):Code->Bool
 | .region id ops d=>xr N ops&&(!d||(os id).isSome||zx T ops (List.range ops.size) (Array.replicate ops.size false))| .seq x y=>qA T os N x&&qA T os N y| .cond _ x y=>qA T os N x&&qA T os N y| .block _ c=>qA T os N c| .loop c=>qA T os N c| .scope c=>qA T os N c|_=>true
def oQ{β:Type}(ib:List Key)(k:Exit->aO->Option β)(b:β)(e:Exit)(σ:aO):Prop:=∃τ,hn σ τ/\fN ib τ/\k e τ=some b
def aaK{β:Type}{x:Option β}{y:List D⊕β}(h:bh x=some y):∃b,x=some b/\y= .inr b:=by obtain⟨b,J,aa⟩:=en h;exact⟨b,J,(xba aa).symm⟩
def aaL{β:Type}{gp:sj}{c:Code}{run:(Exit->aO->Option (List D⊕β))->Option (List D⊕β)}{k:Exit->aO->Option β}{b:β} (gO:∀bG b',run bG=some b'->hJ P T G N c σ (oQ ib bG b')) (h:SL ib gp run k=some b):hJ P T G N c σ (oQ ib k b):=by
 obtain⟨x,J,aa⟩:=en h;refine CW (gO _ _ J) ?_;rintro e a1 ⟨τ,g1,g2,g3⟩;have other:∀dx,e=dx->bh (k dx τ)=some x->oQ ib k b e a1:=by rintro dx rfl ax;obtain⟨b',bj,rfl⟩:=aaK ax;cases aa;exact⟨τ,g1,g2,bj⟩
 cases e with
 |normal=>obtain⟨ls,bN,bO,cx⟩:=MD g2 g3;cases cx;exact⟨_,g1.trans bN,bO,aa⟩
 |exit id=>exact other _ rfl g3|goto l=>exact other _ rfl g3|ret=>exact other _ rfl g3|panic c=>exact other _ rfl g3|outgrown=>exact other _ rfl g3
def anI{β:Type}{f:List D->Option (List D⊕β)}{n:Nat}{ls:List D}{b:β}(h:bJ f n ls=some b):∃m,n=m+1/\((∃fm,f ls=some (.inl fm)/\bJ f m fm=some b)\/f ls=some (.inr b)):=by
 cases n with
 |zero=>cases h
 |succ m=>obtain⟨x,J,aa⟩:=en h;refine⟨m,rfl,?_⟩;cases x with|inl fm=>exact .inl ⟨fm,J,aa⟩|inr b'=>cases aa;exact .inr J
def oQ.block{β:Type}{id:Nat}{k:Exit->aO->Option β}{b:β}{e:Exit}{σ:aO}(h:oQ ib (G4 id k) b e σ):Gs id (oQ ib k b) e σ:=by
 obtain⟨τ,g1,g2,g3⟩:=h;cases e with
 |exit vx=>
  simp only[Gs];unfold G4 at g3;by_cases ag:vx=id;.simp only[ag,xaG]at g3⊢;exact⟨τ,g1,g2,g3⟩
  simp only[ag,xaI]at g3⊢;exact⟨τ,g1,g2,g3⟩
 |normal=>exact⟨τ,g1,g2,g3⟩|goto l=>exact⟨τ,g1,g2,g3⟩|ret=>exact⟨τ,g1,g2,g3⟩|panic c=>exact⟨τ,g1,g2,g3⟩|outgrown=>exact⟨τ,g1,g2,g3⟩
def sn(X:oj)(bp:dU P X.T)(ck:hA P X.G X.C)(hH:k5 P X.G X.H)(hm:P.follows .mixedOrders=true)(cj:N<10000):∀(c:Code){β:Type}{σ:aO}{k:Exit->aO->Option β}{b:β},qA X.T X.rl N c=true->fN X.ib σ->exec X c σ k=some b->hJ P X.T X.G N c σ (oQ X.ib k b)
 | .skip,β,σ,k,b,_,ct,h=>akR ⟨σ,hn.refl σ,ct,h⟩| .label l,β,σ,k,b,_,ct,h=>akS ⟨σ,hn.refl σ,ct,h⟩| .exit id,β,σ,k,b,_,ct,h=>akT ⟨σ,hn.refl σ,ct,h⟩| .ret,β,σ,k,b,_,ct,h=>akU ⟨σ,hn.refl σ,ct,h⟩
 | .region id ops d,β,σ,k,b,bE,ct,h=>by
  simp only[qA,xap,xbk,Bool.not_eq_true']at bE;have gE:∀o∈ops.toList,∀d,o.dst=some d->d<10000:=λo aT d ay=>Nat.lt_trans (xt bE.1 o (by simpa using aT) d ay) cj;have SN:∀a1,fN X.ib a1/\k .normal a1=some b->oQ X.ib k b .normal a1:=λa1 bB=>⟨a1,hn.refl a1,bB⟩;unfold exec at h;have ad:=GX ct h;clear h ct;obtain⟨σ,anJ,ct,h⟩:=ad;refine Rv anJ ?_;split at h
  .rename_i CX;split at h
   .have J:=amx (P:=P) (all:=ops) (σ:=σ) ck (K:=λa1=>∃τ,pP a1 τ/\k .normal τ=some b) (λσ τ hw ⟨zA,J,aa⟩=>⟨zA,hw.trans J,aa⟩) (λa1 bB=>⟨a1,pP.refl _,bB⟩) h;have aa:fU P X.T X.G ops ops.toList (oQ X.ib k b .normal) σ:=by
     refine nK ?_ (Sy ct gE J);rintro a1 ⟨g1,τ,g2,g3⟩;refine⟨τ,g2.Db,?_,g3⟩;intro j aA aj;rw[<-g2.1]at aj;exact g1 j aA aj
    exact ali bp hm bE.1 (bE.2.resolve_left (by simp[CX])) aa
   have J:=anj (P:=P) (all:=ops) (σ:=σ) bp ck hH cj (λo aT d ay=>xt bE.1 o (by simpa using aT) d ay) ct h;exact ank (λm fr ρ a w Q c0 hD oM ay ir=>J m fr ρ a w Q c0 hD oM ay (λcM w' av=>ir cM w' (av.mono SN)))
  rename_i ord CX;split at h
  case isFalse=>
   split at h
   case isFalse=>cases h
   rename_i ah;obtain⟨rfl,bI,aaM⟩:=ah;have gF:ops=ops.extract 0 ord.length++ops.extract ord.length ops.size:=by rw[Array.extract_append_extract,Nat.max_eq_right bI];simp
   have ny:ord.length=(ops.extract 0 ord.length).size:=by simp;omega
   have J:=R9 (P:=P) ck ord _ σ h;generalize ops.extract 0 ord.length=c7 at*;generalize ops.extract ord.length ops.size=Cz at*;subst gF;rw[ny]at J;have oR:xr N c7=true:=by have:=bE.1;unfold xr at this⊢;simp only[Array.toList_append,List.all_append,xap]at this;exact this.1
   rw[ny]at aaM;refine anC bp hm oR aaM ?_ (G5 (λo aT d ay=>Nat.lt_trans (xt oR o aT d ay) cj) _ ct J);rintro a1 ⟨SC,ad⟩;have aa:=G0 (P:=P) (N:=N) (ib:=X.ib) (all:=c7++Cz) (i:=c7.size) bp ck hH cj (K:=oQ X.ib k b .normal) (λg hm o aT=>Mu _ _ _ hm o aT) (by rw[xD];intro o' aT d ay;exact xt bE.1 _ (by simp at aT⊢;exact .inr aT) d ay) (by rw[xD];intro j;rw[Array.getElem?_append_right (by omega)];simp) SC (λsd J aa=>SN sd ⟨J,aa⟩) ad
   rwa [xD]at aa
  rename_i ah;obtain⟨rfl,bI⟩:=ah;have J:=R9 (P:=P) ck ord _ σ h;rw[bI]at J;exact anH bp hm bE.1 (aaJ SN _ (G5 (λo aT d ay=>Nat.lt_trans (xt bE.1 o aT d ay) cj) _ ct J))
 | .seq x y,β,σ,k,b,bE,ct,h=>by simp only[qA,xap]at bE;refine akV (CW (sn X bp ck hH hm cj x bE.1 ct h) ?_);rintro e a1 ⟨τ,g1,g2,g3⟩;cases e with|normal=>simp only[L5];refine Rv g1 (sn X bp ck hH hm cj y bE.2 g2 g3)|exit id=>exact⟨τ,g1,g2,g3⟩|goto l=>exact⟨τ,g1,g2,g3⟩|ret=>exact⟨τ,g1,g2,g3⟩|panic c=>exact⟨τ,g1,g2,g3⟩|outgrown=>exact⟨τ,g1,g2,g3⟩
 | .cond c x y,β,σ,k,b,bE,ct,h=>by
  simp only[qA,xap]at bE;cases c with
  |tmp c=>
   unfold exec at h;split at h
   case h_2=>cases h
   rename_i a aG;have two:∀{β:Type}(bG:Exit->aO->Option β)(b':β),aJ a (exec X x σ bG) (exec X y σ bG)=some b'->hJ P X.T X.G N (.cond (.tmp c) x y) σ (oQ X.ib bG b'):=by
    intro β bG b' h;rcases Zy h with⟨rfl,J⟩|⟨rfl,J⟩
    .exact L6 (b:=true) aG (by rw[xac rfl];exact sn X bp ck hH hm cj x bE.1 ct J)
    exact L6 (b:=false) aG (by rw[xae (by simp)];exact sn X bp ck hH hm cj y bE.2 ct J)
   split at h;.exact two k b h
   exact aaL (λbG b' bB=>two bG b' bB) h
  |const v=>
   unfold exec at h;split at h;.exact L6 (b:=true) rfl (by rw[xac rfl];exact sn X bp ck hH hm cj x bE.1 ct h)
   .exact L6 (b:=false) rfl (by rw[xae (by simp)];exact sn X bp ck hH hm cj y bE.2 ct h)
   cases h
  |global g=>cases h
  |func f=>cases h
 | .block id c,β,σ,k,b,bE,ct,h=>by
  have one:∀{β:Type}(bG:Exit->aO->Option β)(b':β),exec X c σ (G4 id bG)=some b'->hJ P X.T X.G N (.block id c) σ (oQ X.ib bG b'):=by intro β bG b' h;exact akY (CW (sn X bp ck hH hm cj c bE ct h) (λe a1 bB=>bB.block))
  unfold exec at h;split at h;.exact one k b h
  exact aaL (λbG b' bB=>one bG b' bB) h
 | .loop c,β,σ,k,b,bE,ct,h=>by
  unfold exec at h;split at h
  case h_1=>cases h
  rename_i gp uc;obtain⟨SM,aM,a8,b0⟩:=MD ct h;generalize bm:(λls=>exec X c (restore gp ls) λe a1=>match e with| .normal=>tW X.ib gp a1 λfm=>some (Sum.inl fm)|e=>bh (k e a1))=f at b0;refine ak8 (ι:={p:List D×Nat//bJ f p.2 p.1=some b/\fN X.ib (restore gp p.1)}) (λp=>restore gp p.1.1) (λp=>p.1.2) ⟨(SM,X.n),b0,a8⟩ aM ?_;rintro⟨⟨ls,n⟩,aaN,gZ⟩;simp only at aaN gZ⊢;obtain⟨m,rfl,ax⟩:=anI aaN;have round:∀x,f ls=some x->hJ P X.T X.G N c (restore gp ls) (oQ X.ib (λe a1=>match e with| .normal=>tW X.ib gp a1 λfm=>some (Sum.inl fm)|e=>bh (k e a1)) x):=by intro x ad;rw[<-bm]at ad;exact sn X bp ck hH hm cj c bE gZ ad
  have go:∀x,f ls=some x->(∀fm,x= .inl fm->bJ f m fm=some b)->(∀b',x= .inr b'->b'=b)->hJ P X.T X.G N c (restore gp ls) (L5 (λa1=>∃j:{p:List D×Nat//bJ f p.2 p.1=some b/\fN X.ib (restore gp p.1)},hn a1 (restore gp j.1.1)/\j.1.2<m+1) (oQ X.ib k b)):=by
   intro x ad al av;refine CW (round x ad) ?_;rintro e a1 ⟨τ,g1,g2,g3⟩;have other:∀dx,e=dx->bh (k dx τ)=some x->oQ X.ib k b e a1:=by rintro dx rfl ax;obtain⟨b',bj,rfl⟩:=aaK ax;rw[av b' rfl]at bj;exact⟨τ,g1,g2,bj⟩
   cases e with
   |normal=>obtain⟨fm,bN,bO,cx⟩:=MD g2 g3;cases cx;exact⟨⟨(fm,m),al fm rfl,bO⟩,g1.trans bN,Nat.lt_succ_self m⟩
   |exit id=>exact other _ rfl g3|goto l=>exact other _ rfl g3|ret=>exact other _ rfl g3|panic c=>exact other _ rfl g3|outgrown=>exact other _ rfl g3
  rcases ax with⟨fm,bj,ca⟩|bj;.exact go _ bj (by rintro _ ⟨⟩;exact ca) (by rintro _ ⟨⟩)
  exact go _ bj (by rintro _ ⟨⟩) (by rintro _ ⟨⟩;rfl)
 | .rangeFunc _ _ _ _,β,σ,k,b,_,ct,h=>by cases h
 | .scope c,β,σ,k,b,bE,ct,h=>akX (CW (sn X bp ck hH hm cj c (by simpa[qA]using bE) ct h) (by
   rintro e a1 ⟨τ,g1,g2,g3⟩;cases e with
   |goto l=>cases g3
   |normal=>exact⟨τ,g1,g2,g3⟩|exit id=>exact⟨τ,g1,g2,g3⟩|ret=>exact⟨τ,g1,g2,g3⟩|panic c=>exact⟨τ,g1,g2,g3⟩|outgrown=>exact⟨τ,g1,g2,g3⟩))
 | .goto _,β,σ,k,b,_,ct,h=>by cases h
 | .refuse _,β,σ,k,b,_,ct,h=>by cases h
end
def aaO{P:Program}{T:cn}{G:ds}{N:Nat}{c:Code}{σ:aO}{Q:Exit->aO->Prop}(h:hJ P T G N c σ (λe a1=>∃τ,hn a1 τ/\Q e τ)):hJ P T G N c σ Q:=by intro m fr ρ a w c0 hD cj ay;refine wp_mono (h m fr ρ a w c0 hD cj ay) ?_;rintro e cM w' ⟨a1,cB,c4,⟨τ,eJ,ir⟩,aa,ax,bj,ca,cR⟩;obtain⟨zy,zz,g1,g2,g3⟩:=eJ cB fr c4 cM w' ax;exact⟨τ,zy,zz,ir,Mem.le_trans aa g1,g2,bj,ca,cR.trans g3⟩
def anK(T:cn)(rs:List ResultVar)(e:Exit)(σ:aO):Option D:=match e with| .normal=>ab (se T σ rs) (toD σ.objs)| .ret=>ab (se T σ rs) (toD σ.objs)|_=>none
def vN(X:oj)(fn:Func)(args:List aX):Option D:=match fn.body with|some c=>exec X c (start args λ_=>none) (anK X.T fn.results.toList)|none=>none
def oS(T:cn)(os:Nat->Option (List Nat))(fn:Func):Bool:=match fn.body with|some c=>qA T os fn.ntmps c&&decide (fn.ntmps<10000)&&!(fn.name== "runtime.NumGoroutine")|none=>false
def anL{xs c7:List aX}(h:jZ (λk=>k) (λ_=>False) xs c7):hn (start xs λ_=>none) (start c7 λ_=>none):=by
 intro m fr ρ a w hD;refine⟨m,ρ,Mem.le_refl m,⟨hD.mem,hD.frame,hD.apart,?_,?_,?_,?_,?_⟩,?_⟩;.rintro k ⟨o,aT⟩;cases aT
 .intro t;have J:=hD.aQ t;obtain⟨aa,ax⟩:=h.ok;simp only[start]at J⊢;cases aH:c7[t]? with
  |none=>rw[xbe,aH];exact .any _
  |some y=>
   obtain⟨x,ad,hle⟩:=ax t y aH;rw[xbe,ad]at J;rw[xbe,aH];have bj:qp (λk=>k) (aO.used (start c7 λ_=>none)) x y:=by unfold qp at hle⊢;split at hle<;>first|exact hle|(exact absurd hle.2 id)
   exact bj.ok (ρ:=ρ) J
 .intro k o ai;cases ai
 .intro k o b ai;cases ai
 .intro k bG o o' b _ ai;cases ai
 intro k _ ah;exact absurd ah vr
def anM{P:Program}(X:oj)(bp:dU P X.T)(ck:hA P X.G X.C)(hH:k5 P X.G X.H)(hm:P.follows .mixedOrders=true)(nc:X.ib=[]){f:FuncId}{fn:Func}(bm:P.funcs[f]?=some fn)(bE:oS X.T X.rl fn=true){aR:List D}{as:List aX}(hle:jZ (λk=>k) (λ_=>False) (aR.map .d) as)(bI:decide (aR.length<=fn.ntmps)=true){r:D} (h:vN X fn as=some r):fv P X.G f aR (·=r):=by
 have bI:=xbf bI;unfold vN at h;unfold oS at bE;split at h
 case h_2=>cases h
 rename_i c aj;simp only[aj,xap,xaC,Bool.not_eq_true']at bE;refine ala bp bm aj bE.2 bI ?_;refine Rv (anL hle) ?_;refine aaO (CW (sn X bp ck hH hm bE.1.2 c bE.1.1 (by intro k _ ah;exact absurd ah vr) h) ?_);rintro e a1 ⟨τ,g1,g2,g3⟩;have fin:ab (se X.T τ fn.results.toList) (toD τ.objs)=some r->∃aaP d x,se X.T τ fn.results.toList=some aaP/\toD τ.objs aaP=some d/\d.le x/\x=r:=by intro J;obtain⟨u,aa,ax⟩:=en J;exact⟨u,r,r,aa,ax,D.le_refl _,rfl⟩
 refine⟨τ,g1,?_⟩;cases e with
 |normal=>exact⟨.inl rfl,fin g3⟩|ret=>exact⟨.inr rfl,fin g3⟩|exit id=>cases g3
 |goto l=>cases g3
 |panic c=>cases g3
 |outgrown=>cases g3
def MU(s:gY)(ls:List D):aO:=⟨λt=>(s.xK ls).getD t .any,eY (s.oO ls)⟩
def anN(X:oj)(s:gY)(qx:List xE)(rs:List ResultVar)(e:Exit)(σ:aO):Option (List D):=match e with
 | .normal=>ab (se X.T σ rs) λx=>tW X.ib ⟨[(0,s.res)],s.outs,qx⟩ ⟨λt=>if t=0 then x else .any,σ.objs⟩ some
 | .ret=>ab (se X.T σ rs) λx=>tW X.ib ⟨[(0,s.res)],s.outs,qx⟩ ⟨λt=>if t=0 then x else .any,σ.objs⟩ some
 |_=>none
def SO(X:oj)(fn:Func)(s:gY)(qx:List xE)(ls:List D):Option (List D):=match fn.body with|some c=>exec X c (MU s ls) (anN X s qx fn.results.toList)|none=>none
def anO{P:Program}(X:oj)(bp:dU P X.T)(ck:hA P X.G X.C)(hH:k5 P X.G X.H)(hm:P.follows .mixedOrders=true){s:gY}{fn:Func}(bm:P.funcs[s.f]?=some fn)(bE:oS X.T X.rl fn=true)(bI:decide (s.args.length<=fn.ntmps)=true) (nc:(s.ins.all λp=>decide (p.1<10000)||X.ib.contains p.1)=true) {qx:List xE} {F:List D->Option (List D)} (h:∀ls fm,F ls=some fm->SO X fn s qx ls=some fm):tZ P X.G s F:=by
 have bI:=xbf bI;unfold oS at bE;split at bE
 case h_2=>cases bE
 rename_i c aj;simp only[xap,xaC,Bool.not_eq_true']at bE;refine⟨⟨fn,bm,bE.2,by rw[aj];rfl⟩,?_⟩;intro ls fm fI m fr ρ w vs c0 hD al q2;have ad:=h ls fm fI;unfold SO at ad;rw[aj]at ad;simp only at ad;have z6:(s.xK ls).length=s.args.length:=by
  have:∀(l:List SW)(n:Nat),(sk ls l n).1.length=l.length:=by
   intro l
   induction l with
   |nil=>intro n;rfl
   |cons x r ih=>intro n;simp[sk,ih]
  exact this _ _
 have anP:fN X.ib (MU s ls):=by
  intro k ai aj;obtain⟨cs,h0⟩:=CN aj;have:=xx h0;have J:mW (s.oO ls)=s.ins.map (·.1):=zS _ _ _;rw[J]at this;obtain⟨p,aU,rfl⟩:=xaN.1 this;have aa:=xaB.1 nc p aU;simp only[xbk,xaC,List.contains_eq_mem]at aa;rcases aa with aa|aa
  .exact absurd aa (Nat.not_lt.2 ai)
  exact aa
 have hw:=sn X bp ck hH hm bE.1.2 c bE.1.1 anP ad;refine calls_of_wp bm aj ?_;have Gu:Den m fr ρ (MU s ls) {tmps:=vs.toArray++Array.replicate (fn.ntmps-vs.toArray.size) undef,defers:=[]} w:=by
  refine⟨hD.mem,hD.frame,hD.apart,hD.one,?_,hD.objs,hD.own,hD.sep⟩;intro t;simp only[MU];by_cases aP:t<vs.length
  .have b6:t<(s.xK ls).length:=by rw[<-al];exact aP
   have ay:=xab b6;have aS:=xab aP;have aM:(s.xK ls).getD t .any=(s.xK ls)[t]:=by rw[xbe,ay];rfl
   have a8:(vs.toArray++Array.replicate (fn.ntmps-vs.toArray.size) undef).getD t undef=vs[t]:=by rw[xbj,xbt (by simpa using aP)];simp[aP]
   rw[aM,a8];exact q2 t _ _ ay aS
  have aM:(s.xK ls).getD t .any= .any:=by rw[xbe,xaM (by omega)];rfl
  rw[aM];exact .any _
 have e7:fn.ntmps<=(vs.toArray++Array.replicate (fn.ntmps-vs.toArray.size) undef).size:=by simp;omega
 refine wp_mono (aaO hw m fr ρ _ w c0 Gu e7 rfl) ?_;rintro e cM w' ⟨a1,cB,c4,⟨g2,g3⟩,ca,cR,fP,iu,iV⟩;have fin:(ab (se X.T a1 fn.results.toList) λx=>tW X.ib ⟨[(0,s.res)],s.outs,qx⟩ ⟨λt=>if t=0 then x else .any,a1.objs⟩ some)=some fm->cM.defers=[]/\∃v,(results fn cM.tmps).run P w'= .ok v w'/\∃v1 m1 oc,Ending.returned v= .returned v1/\m.le m1/\vI m1 fr oc (eY (s.qz fm)) w'/\cg m1 oc (sl (eY (s.qz fm))) (s.MI fm) v1/\∀k,10000<=k->e3 (eY (s.oO ls) k)->oc k=ρ k:=by
  intro J;obtain⟨x,aa,ax⟩:=en J;obtain⟨v,bN,bO⟩:=Y5 (P:=P) bp cR aa;obtain⟨aDi,ey,ez,hQ⟩:=MD (σ:=⟨λt=>if t=0 then x else .any,a1.objs⟩) g2 ax;cases hQ;have anQ:Den cB fr c4 ⟨λt=>if t=0 then x else .any,a1.objs⟩ {tmps:= #[v],defers:=[]} w':=by
   refine⟨cR.mem,cR.frame,cR.apart,cR.one,?_,cR.objs,cR.own,cR.sep⟩;intro t;by_cases aP:t=0;.subst aP;exact bO
   simp only[aP,xaI];exact .any _
  obtain⟨m2,lN,t1,t2,t3⟩:=ey cB fr c4 _ w' anQ;have anR:=t2.aQ 0;refine⟨iu,v,bN,v,m2,lN,rfl,Mem.le_trans ca t1,⟨t2.mem,t2.frame,t2.apart,t2.one,λ_=> .any _,t2.objs,t2.own,t2.sep⟩,?_,?_⟩
  .exact anR
  intro k ai MV;obtain⟨dP,ek⟩:=iV k ai MV;rw[(t3 k ai dP).2,ek]
 cases e with
 |normal=>exact fin g3|ret=>exact fin g3|exit id=>cases g3
 |goto l=>cases g3
 |panic c=>cases g3
 |outgrown=>cases g3
def anS{P:Program}{T:cn}{os:Nat->Option (List Nat)}{f:FuncId}{fn:Func}(bm:P.funcs[f]?=some fn)(bE:oS T os fn=true):xc P f:=by
 unfold oS at bE;split at bE
 case h_2=>cases bE
 rename_i c aj;simp only[xap,xaC,Bool.not_eq_true']at bE;exact⟨fn,bm,bE.2,by rw[aj];rfl⟩
def z7{P:Program}{G:ds}{s:gY}{F:List D->Option (List D)}(xO:xc P s.f)(h:∀ls,F ls=none):tZ P G s F:=⟨xO,λls fm bB=>by rw[h]at bB;cases bB⟩
def fx:List (Tmp×Dk)->xM
 |[],_=>none|(t',e)::r,t=>if t=t' then some e else fx r t
def anT{P:Program}{G:ds}:k5 P G (fx []):=by intro t e h;cases h
def anU{P:Program}{G:ds}{t:Tmp}{e:Dk}{l:List (Tmp×Dk)}(h:tZ P G e.s e.F)(bB:k5 P G (fx l)):k5 P G (fx ((t,e)::l)):=by
 intro t' dx he;unfold fx at he;split at he;.cases he;exact h
 exact bB t' dx he
def gb:List (Nat×List (List Key))->Nat->List (List Key)
 |[],_=>[]|(j,s)::r,k=>if k=j then s else gb r k
def gr(l:List Tmp)(t:Tmp):Bool:=l.contains t
def fy:List (FuncId×(List D->Option D))->ml
 |[],_,_,_=>none|(kY,F)::r,d,f,aR=>if f=kY then F aR else fy r d f aR
def so(P:Program)(G:ds)(f:FuncId)(F:List D->Option D):Prop:=∀aR r,F aR=some r->fv P G f aR (·=r)
def anV{P:Program}{G:ds}:hA P G (fy []):=by intro d f aR r h;cases h
def anW{P:Program}{G:ds}{f:FuncId}{F:List D->Option D}{l:List (FuncId×(List D->Option D))}(h:so P G f F)(bB:hA P G (fy l)):hA P G (fy ((f,F)::l)):=by
 intro d kY aR r av;unfold fy at av;split at av;.rename_i e;subst e;exact h aR r av
 exact bB d kY aR r av
def cG:List (Nat×sj)->Nat->Option sj
 |[],_=>none|(j,s)::r,k=>if k=j then some s else cG r k
def gd:List (Nat×List Nat)->Nat->Option (List Nat)
 |[],_=>none|(j,s)::r,k=>if k=j then some s else gd r k
def G6(f:FuncId)(x:D):Bool:=match x with| .val (.func (.func kY) a b)=>kY==f&&a.size==0&&b.size==0|_=>false
def anX{f:FuncId}{x:D}(h:G6 f x=true):x= .val (.func (.func f) #[] #[]):=by
 unfold G6 at h;split at h;.rename_i kY a b;simp only[xap,xbP]at h;obtain⟨⟨rfl,J⟩,aa⟩:=h;rw[xbn J,xbn aa]
 cases h
def lu(f:FuncId)(x:D):Option (List D):=match x with
 | .fn (.func kY) first pO=>if kY=f/\first.isEmpty=true then some pO else none
 |_=>none
def om{f:FuncId}{x:D}{pO:List D}(h:lu f x=some pO):x= .fn (.func f) [] pO:=by
 unfold lu at h;split at h
 .split at h;.rename_i ah;cases h;rw[ah.1,List.isEmpty_iff.1 ah.2]
  cases h
 cases h
def le_nil:jZ (λk=>k) (λ_=>False) (List.map aX.d []) []:=trivial
def sq{x:D}{y:aX}{xs:List D}{c7:List aX}(h:qp (λk=>k) (λ_=>False) (.d x) y)(bB:jZ (λk=>k) (λ_=>False) (List.map aX.d xs) c7):jZ (λk=>k) (λ_=>False) (List.map aX.d (x::xs)) (y::c7):=⟨h,bB⟩
def anY{x:D}:qp (λk=>k) (λ_=>False) (.d x) (.d x):=⟨x,rfl,D.le_refl x⟩
theorem ud{c:List D}{o:Nat}:qp (λk=>k) (λ_=>False) (.d (.ref c o)) (.dV c o):= .inr rfl
def an(t:Nat):Nat×SW:=(t,.b .d)
def sp(t:Nat):Nat×SW:=(t,.b (.ptr t 0))
def bW(t k:Nat):Nat×SW:=(t,.b (.row k))
def bg(k n:Nat):Key×mn:=(k,.box (List.replicate n (.b .d)))
def bl(k n:Nat):Key×mn:=(k,.row n)
def anZ(P:Program)(G:ds)(n:Nat)(c:List (FuncId×(List D->Option D)))(l j b:List (Nat×sj)):oj:=⟨fu P,G,fy c,n,[],cG l,cG j,cG b,gd [],fx [],gr [],gb []⟩
def gf{P:Program}(X:oj)(bp:dU P X.T)(ck:hA P X.G X.C)(hH:k5 P X.G X.H)(hm:P.follows .mixedOrders=true){f:FuncId}{fn:Func}(bm:P.funcs[f]?=some fn){aR:List D}{as:List aX}(hle:jZ (λk=>k) (λ_=>False) (aR.map .d) as) {o:Option D} {r:D} (h:o=some r) (nc:X.ib=[]:=by rfl) (bE:oS X.T X.rl fn=true:=by kernel_rfl) (bI:decide (aR.length<=fn.ntmps)=true:=by kernel_rfl) (he:vN X fn as=o:=by kernel_rfl):fv P X.G f aR (·=r):=anM X bp ck hH hm nc bm bE hle bI (he.trans h)
def nM{P:Program}(X:oj)(bp:dU P X.T)(ck:hA P X.G X.C)(hH:k5 P X.G X.H)(hm:P.follows .mixedOrders=true){s:gY}{fn:Func}(bm:P.funcs[s.f]?=some fn)(qx:List xE){F:List D->Option (List D)}(bE:oS X.T X.rl fn=true:=by kernel_rfl)(bI:decide (s.args.length<=fn.ntmps)=true:=by kernel_rfl) (nc:(s.ins.all λp=>decide (p.1<10000)||X.ib.contains p.1)=true:=by kernel_rfl) (h:∀ls,SO X fn s qx ls=F ls:=by intros;kernel_rfl):tZ P X.G s F:=anO X bp ck hH hm bm bE bI nc λls fm bB=>(h ls).trans bB
def cz{x:D}{xs:List D}{c7:List aX}(h:jZ (λk=>k) (λ_=>False) (List.map aX.d xs) c7):jZ (λk=>k) (λ_=>False) (List.map aX.d (x::xs)) (.d x::c7):=sq anY h
def Dr(g:Option D):List D->Option D
 |[]=>g|_=>none
@[simp] theorem an0 {g:Option D}:Dr g []=g:=rfl
def C6{P:Program}(X:oj)(bp:dU P X.T)(ck:hA P X.G X.C)(hH:k5 P X.G X.H)(hm:P.follows .mixedOrders=true){f:FuncId}{fn:Func}(bm:P.funcs[f]?=some fn){g:Option D}(nc:X.ib=[]:=by rfl)(bE:oS X.T X.rl fn=true:=by kernel_rfl)(bI:decide (0<=fn.ntmps)=true:=by kernel_rfl)(he:vN X fn []=g:=by intros;kernel_rfl):so P X.G f (Dr g):=by
 intro aR r h;unfold Dr at h;split at h
 case h_2=>cases h
 exact gf X bp ck hH hm bm le_nil h nc bE bI he
def eo(g:D->Option D):List D->Option D
 |[a0]=>g a0|_=>none
@[simp] theorem oT {g:D->Option D} {a0:D}:eo g [a0]=g a0:=rfl
def cN{P:Program}(X:oj)(bp:dU P X.T)(ck:hA P X.G X.C)(hH:k5 P X.G X.H)(hm:P.follows .mixedOrders=true){f:FuncId}{fn:Func}(bm:P.funcs[f]?=some fn){g:D->Option D}(nc:X.ib=[]:=by rfl)(bE:oS X.T X.rl fn=true:=by kernel_rfl)(bI:decide (1<=fn.ntmps)=true:=by kernel_rfl)(he:∀a0,vN X fn [.d a0]=g a0:=by intros;kernel_rfl):so P X.G f (eo g):=by
 intro aR r h;unfold eo at h;split at h
 case h_2=>cases h
 exact gf X bp ck hH hm bm (cz le_nil) h nc bE bI (he _)
def e8(g:D->D->Option D):List D->Option D
 |[a0,aI]=>g a0 aI|_=>none
@[simp] theorem z8 {g:D->D->Option D} {a0 aI:D}:e8 g [a0,aI]=g a0 aI:=rfl
def ea{P:Program}(X:oj)(bp:dU P X.T)(ck:hA P X.G X.C)(hH:k5 P X.G X.H)(hm:P.follows .mixedOrders=true){f:FuncId}{fn:Func}(bm:P.funcs[f]?=some fn){g:D->D->Option D}(nc:X.ib=[]:=by rfl)(bE:oS X.T X.rl fn=true:=by kernel_rfl)(bI:decide (2<=fn.ntmps)=true:=by kernel_rfl)(he:∀a0 aI,vN X fn [.d a0,.d aI]=g a0 aI:=by intros;kernel_rfl):so P X.G f (e8 g):=by
 intro aR r h;unfold e8 at h;split at h
 case h_2=>cases h
 exact gf X bp ck hH hm bm (cz (cz le_nil)) h nc bE bI (he _ _)
def k6(g:D->D->D->Option D):List D->Option D
 |[a0,aI,a2]=>g a0 aI a2|_=>none
@[simp] theorem an1 {g:D->D->D->Option D} {a0 aI a2:D}:k6 g [a0,aI,a2]=g a0 aI a2:=rfl
def lv{P:Program}(X:oj)(bp:dU P X.T)(ck:hA P X.G X.C)(hH:k5 P X.G X.H)(hm:P.follows .mixedOrders=true){f:FuncId}{fn:Func}(bm:P.funcs[f]?=some fn){g:D->D->D->Option D}(nc:X.ib=[]:=by rfl)(bE:oS X.T X.rl fn=true:=by kernel_rfl)(bI:decide (3<=fn.ntmps)=true:=by kernel_rfl)(he:∀a0 aI a2,vN X fn [.d a0,.d aI,.d a2]=g a0 aI a2:=by intros;kernel_rfl):so P X.G f (k6 g):=by
 intro aR r h;unfold k6 at h;split at h
 case h_2=>cases h
 exact gf X bp ck hH hm bm (cz (cz (cz le_nil))) h nc bE bI (he _ _ _)
def xP(g:D->D->D->D->Option D):List D->Option D
 |[a0,aI,a2,a3]=>g a0 aI a2 a3|_=>none
@[simp] theorem an2 {g:D->D->D->D->Option D} {a0 aI a2 a3:D}:xP g [a0,aI,a2,a3]=g a0 aI a2 a3:=rfl
def G7{P:Program}(X:oj)(bp:dU P X.T)(ck:hA P X.G X.C)(hH:k5 P X.G X.H)(hm:P.follows .mixedOrders=true){f:FuncId}{fn:Func}(bm:P.funcs[f]?=some fn){g:D->D->D->D->Option D}(nc:X.ib=[]:=by rfl)(bE:oS X.T X.rl fn=true:=by kernel_rfl)(bI:decide (4<=fn.ntmps)=true:=by kernel_rfl)(he:∀a0 aI a2 a3,vN X fn [.d a0,.d aI,.d a2,.d a3]=g a0 aI a2 a3:=by intros;kernel_rfl):so P X.G f (xP g):=by
 intro aR r h;unfold xP at h;split at h
 case h_2=>cases h
 exact gf X bp ck hH hm bm (cz (cz (cz (cz le_nil)))) h nc bE bI (he _ _ _ _)
def MW(g:D->D->D->D->D->Option D):List D->Option D
 |[a0,aI,a2,a3,a4]=>g a0 aI a2 a3 a4|_=>none
@[simp] theorem an3 {g:D->D->D->D->D->Option D} {a0 aI a2 a3 a4:D}:MW g [a0,aI,a2,a3,a4]=g a0 aI a2 a3 a4:=rfl
def an4{P:Program}(X:oj)(bp:dU P X.T)(ck:hA P X.G X.C)(hH:k5 P X.G X.H)(hm:P.follows .mixedOrders=true){f:FuncId}{fn:Func}(bm:P.funcs[f]?=some fn){g:D->D->D->D->D->Option D}(nc:X.ib=[]:=by rfl)(bE:oS X.T X.rl fn=true:=by kernel_rfl)(bI:decide (5<=fn.ntmps)=true:=by kernel_rfl)(he:∀a0 aI a2 a3 a4,vN X fn [.d a0,.d aI,.d a2,.d a3,.d a4]=g a0 aI a2 a3 a4:=by intros;kernel_rfl):so P X.G f (MW g):=by
 intro aR r h;unfold MW at h;split at h
 case h_2=>cases h
 exact gf X bp ck hH hm bm (cz (cz (cz (cz (cz le_nil))))) h nc bE bI (he _ _ _ _ _)
def an5(g:D->D->D->D->D->D->Option D):List D->Option D
 |[a0,aI,a2,a3,a4,a5]=>g a0 aI a2 a3 a4 a5|_=>none
@[simp] theorem an6 {g:D->D->D->D->D->D->Option D} {a0 aI a2 a3 a4 a5:D}:an5 g [a0,aI,a2,a3,a4,a5]=g a0 aI a2 a3 a4 a5:=rfl
def an7(g:D->D->D->D->D->D->D->Option D):List D->Option D
 |[a0,aI,a2,a3,a4,a5,jN]=>g a0 aI a2 a3 a4 a5 jN|_=>none
@[simp] theorem aDj {g:D->D->D->D->D->D->D->Option D} {a0 aI a2 a3 a4 a5 jN:D}:an7 g [a0,aI,a2,a3,a4,a5,jN]=g a0 aI a2 a3 a4 a5 jN:=rfl
def Aa{P:Program}{T:cn}{os:Nat->Option (List Nat)}{f:FuncId}{fn:Func}(h:P.funcs[f]?=some fn)(bE:oS T os fn=true:=by kernel_rfl):xc P f:=anS h bE
section
variable{β:Type}
abbrev dF(x:D)(m:Option D)(k:D->Option β):Option β:=ab (ec x true m) λv=>ab (gW x v (aK false)) k
abbrev ef(x:D)(m:Option D)(k:D->Option β):Option β:=ab (ec x false m) λv=>ab (gW x (aK true) v) k
abbrev bK(m:Option D):Option D:=ab m λv=>some v
abbrev aw(o:BinOp)(a b:D)(k:D->Option β):Option β:=ab (bD false o a b) k
abbrev da(a b:D)(k:D->Option β):Option β:=ab (b3 1 a b) λc=>ab (bM false 1 0 c) k
abbrev dw(x:D)(j:Nat)(k:D->Option β):Option β:=ab ((bb x)[j]?) λc=>ab (bM false 1 0 c) k
abbrev b7(x:D)(k:D->Option β):Option β:=ab (fW x) k
abbrev bw(n:Nat)(x:D)(k:Option β):Option β:=bx (dO n x) k
abbrev aF(l:List D):Option (List D⊕β):=some (.inl l)
abbrev ba(x:D):D:= .aW 1 (bb x)
abbrev ep(x:D):D:= .agg [ae x 0,ae x 1,ae x 2,ae x 3]
abbrev hB(x:D):D:= .agg [ae x 0,ae x 1,ae x 2,ae x 3,ae x 4,ae x 5,ae x 6,ae x 7]
end
attribute [simp, go_sem] dF ef bK aw da dw b7 bw aF ba ep hB
attribute [go_sem] an0 oT z8 an1 an2 an3 an6
@[congr] def aDk {α β:Type} {x y:Option α} {f:α->Option β} (h:x=y):ab x f=ab y f:=by rw[h]
@[simp] theorem dQ {α β:Type} {a:α} {f:α->Option β}:ab (some a) f=f a:=rfl
@[simp] theorem aDl {α β:Type} {f:α->Option β}:ab (none:Option α) f=none:=rfl
@[congr] def aDm {β:Type} {c d:Bool} {p:Option β} (h:c=d):bx c p=bx d p:=by rw[h]
@[simp] theorem rm {β:Type} {p:Option β}:bx true p=p:=rfl
@[simp] theorem aDn {β:Type} {p:Option β}:bx false p=none:=rfl
@[congr] def aDo {β:Type} {x y:D} {p q:Option β} (h:x=y):aJ x p q=aJ y p q:=by rw[h]
@[simp] theorem mo {β:Type} {b:Bool} {p q:Option β}:aJ (aK b) p q=if b=true then p else q:=by cases b<;>rfl
@[congr] def aDp {x y:D} {w:Bool} {p:Option D} (h:x=y):ec x w p=ec y w p:=by rw[h]
@[simp] theorem vO {b w:Bool} {p:Option D}:ec (aK b) w p=if b=w then p else some kD:=rfl
@[simp] theorem aDq {eZ:Type} {b w:Bool} {p q:Option eZ}:zL (aK b) w p q=if b=w then p else q:=rfl
@[simp] theorem aDr {eZ:Type} {w:Bool} {p q:Option eZ}:zL kD w p q=q:=rfl
@[simp] theorem aDs {w:Bool} {p:Option D}:ec kD w p=some kD:=rfl
@[simp] theorem vP {t:Bool} {a b:D}:gW (aK t) a b=some (if t=true then a else b):=rfl
@[simp] theorem aaQ {c:Prop} [Decidable c] {a b:Bool}:(if c then aK a else aK b)=aK (if c then a else b):=by split<;>rfl
@[simp] theorem SP {α:Type} {c:Prop} [Decidable c] {a b:α}:(if c then some a else some b)=some (if c then a else b):=by split<;>rfl
@[simp] theorem aDt {α:Type} {c:Prop} [Decidable c] {a b d:α}:(if c then(if c then a else b)else d)=if c then a else d:=by split<;>simp_all
@[simp] theorem SQ {β:Type} {b:β}:bh (some b)=some (.inr b):=rfl
@[simp] theorem aDu {β:Type}:bh (none:Option β)=none:=rfl
@[simp] theorem rn {β:Type} {f:List D->Option β} {ls:List D}:bo f (.inl ls)=f ls:=rfl
@[simp] theorem G8 {β:Type} {f:List D->Option β} {b:β}:bo f (.inr b)=some b:=rfl
@[simp] theorem qB {x:D} {l:List D}:bd (x::l) 0=x:=rfl
@[simp] theorem sr {x:D} {l:List D} {n:Nat}:bd (x::l) (n+1)=bd l n:=rfl
@[simp] theorem an8 {k:Nat} {es:List (List D)}:bb (.aW k es)=es:=rfl
@[simp] theorem an9 {es:List (Value×D)}:gV (.mp es)=es:=rfl
@[simp] theorem aoa {cs:List D}:lQ (.agg cs)=cs:=rfl
@[simp] theorem aDv {cs:List D} {i:Nat}:ae (.agg cs) i=cs.getD i kD:=rfl
@[simp] theorem SR {n:Int}:bV (I n)=true:=rfl
@[simp] theorem aob {n:Bool}:bV (aK n)=true:=rfl
@[simp] theorem aoc {n:ByteArray}:bV (a6 n)=true:=rfl
@[simp] theorem aod {k:Nat} {es:List (List D)}:bV (.aW k es)=true:=rfl
@[simp] theorem aDw {es:List (Value×D)}:bV (.mp es)=true:=rfl
@[simp] theorem aoe:bV (.val (.slice none 0 0))=true:=rfl
@[simp] theorem aof {n:Int}:(I n).one=true:=rfl
@[simp] theorem aog {n:Bool}:(aK n).one=true:=rfl
@[simp] theorem aoh {n:ByteArray}:(a6 n).one=true:=rfl
@[simp] theorem aoi {k:Nat} {es:List (List D)}:(D.aW k es).one=true:=rfl
@[simp] theorem aoj:(D.val (.slice none 0 0)).one=true:=rfl
@[simp] theorem aDx {n:Nat} {cs:List D}:dO n (.agg cs)=(cs.length==n&&cs.all D.one):=rfl
@[simp] theorem aDy:nG (.val (.slice none 0 0))=true:=rfl
@[simp] theorem jj {n off:Nat} {cs:List D}:bM false n off cs=cs[off]?:=rfl
theorem Ab{n off:Nat}{cs:List D}:bM true n off cs=if off+n<=cs.length then some (.agg ((cs.drop off).take n))else none:=rfl
@[simp] theorem aaR {a:Bool} {n off:Nat} {cs:List D}:mY a n off (.agg cs)=bM a n off cs:=rfl
@[simp] theorem SS {i:Nat} {vs:List D}:bz i (.aZ vs)=vs[i]?:=rfl
@[simp] theorem aok {k:Nat} {es:List (List D)}:fW (.aW k es)=some (I es.length):=rfl
@[simp] theorem aol:fW (.val (.slice none 0 0))=some (I 0):=rfl
@[simp] theorem SU {s:ByteArray}:qt (a6 s)=some (I s.size):=rfl
@[simp] theorem aaS {k:Nat} {es:List (List D)} {i:Nat}:b3 k (.aW k es) (I (i:Int))=es[i]?:=by simp[b3,I]
@[simp] theorem aDz {k:Nat} {es:List (List D)}:b3 k (.aW k es) (I 0)=es[0]?:=by simp[b3,I]
def SV{n:Nat}{i:Int}(h:0<=i)(bB:i<n):cC n (I i)=some i.toNat:=by simp[cC,I,h,bB]
@[simp] theorem j2 {n i:Nat}:cC n (I (i:Int))=if i<n then some i else none:=by simp[cC,I]
@[simp] theorem aom {k:Nat} {es:List (List D)}:ri (.aW k es)=some (k,es):=rfl
@[simp] theorem aDA:ri (.val (.slice none 0 0))=some (0,[]):=rfl
def fX{n b:Nat}(J:n*b<=140737488355328)(aa:n<=4611686018427387904):cT n b=true:=by simp[cT,J,aa]
section
variable{bt:Bool}{a b:Int}
@[simp] theorem G9:bD bt .lss (I a) (I b)=some (aK (decide (a<b))):=rfl
@[simp] theorem MX:bD bt .leq (I a) (I b)=some (aK (decide (a<=b))):=rfl
@[simp] theorem pU:bD bt .gtr (I a) (I b)=some (aK (decide (a>b))):=rfl
@[simp] theorem Ds:bD bt .geq (I a) (I b)=some (aK (decide (a>=b))):=rfl
@[simp] theorem Dt:bD bt .eql (I a) (I b)=some (aK (a==b)):=rfl
@[simp] theorem Ac:bD bt .neq (I a) (I b)=some (aK (a !=b)):=rfl
theorem MY:bD bt .add (I a) (I b)=some (I (IntKind.i64.wrap (a+b))):=rfl
theorem SX:bD bt .sub (I a) (I b)=some (I (IntKind.i64.wrap (a-b))):=rfl
theorem aon:bD bt .mul (I a) (I b)=some (I (IntKind.i64.wrap (a*b))):=rfl
def e9(J:-9223372036854775808<=a+b)(aa:a+b<=9223372036854775807):bD bt .add (I a) (I b)=some (I (a+b)):=by rw[MY,wrap64 _ J aa]
def oo(J:-9223372036854775808<=a-b)(aa:a-b<=9223372036854775807):bD bt .sub (I a) (I b)=some (I (a-b)):=by rw[SX,wrap64 _ J aa]
def xQ(J:-9223372036854775808<=a*b)(aa:a*b<=9223372036854775807):bD bt .mul (I a) (I b)=some (I (a*b)):=by rw[aon,wrap64 _ J aa]
def aaT(h:b≠0):bD bt .quo (I a) (I b)=some (I (IntKind.i64.wrap (a.tdiv b))):=by simp[bD,FW,I,h,pM]
def Ha(h:b≠0):bD bt .rem (I a) (I b)=some (I (a.tmod b)):=by simp[bD,FW,I,h,pM]
@[simp] theorem SY {x y:ByteArray}:bD bt .eql (a6 x) (a6 y)=some (aK (decide (x=y))):=rfl
@[simp] theorem aaU {x y:ByteArray}:bD bt .neq (a6 x) (a6 y)=some (aK (!decide (x=y))):=rfl
@[simp] theorem aoo {x y:ByteArray}:bD bt .lss (a6 x) (a6 y)=some (aK (blt x y)):=rfl
@[simp] theorem SZ {x y:ByteArray}:bD bt .gtr (a6 x) (a6 y)=some (aK (!(blt x y||decide (x=y)))):=rfl
@[simp] theorem aDB {x y:Bool}:bD true .eql (aK x) (aK y)=some (aK (x==y)):=rfl
@[simp] theorem aop {x y:Bool}:bD true .neq (aK x) (aK y)=some (aK (x !=y)):=rfl
@[simp] theorem Du {x:Bool}:dB .not (aK x)=some (aK (!x)):=rfl
end
attribute [simp] xbC xcr List.getElem?_nil List.getD_cons_zero List.getD_cons_succ
theorem lx{β:Type}{f:List D->Option (List D⊕β)}{n:Nat}{ls:List D}:bJ f (n+1) ls=ab (f ls) λx=>match x with| .inl fm=>bJ f n fm| .inr b=>some b:=rfl
def aaV{β:Type}{f:List D->Option (List D⊕β)}(eG:Nat->List D):∀{m n j:Nat},(∀i,j<=i->i<j+m->f (eG i)=some (.inl (eG (i+1))))->m<=n->bJ f n (eG j)=bJ f (n-m) (eG (j+m))
 |0,n,j,_,_=>rfl|m+1,0,j,_,h=>absurd h (by omega)
 |m+1,n+1,j,az,h=>by
  rw[lx,az j (xaU j) (by omega)];simp only[dQ];have:=aaV (f:=f) eG (m:=m) (n:=n) (j:=j+1) (λi J aa=>az i (by omega) (by omega)) (by omega);rw[this]
  congr 1
  .omega
  congr 1;omega
theorem nd{β:Type}{f:List D->Option (List D⊕β)}{ls:List D}{n:Nat}{b:β}(eG:Nat->List D)(m:Nat)(ar:ls=eG 0)(az:∀i,i<m->f (eG i)=some (.inl (eG (i+1))))(he:f (eG m)=some (.inr b))(aN:m<n):bJ f n ls=some b:=by subst ar;rw[aaV eG (m:=m) (λi _ h=>az i (by omega)) (by omega)];obtain⟨k,ai⟩:∃k,n-m=k+1:=⟨n-m-1,by omega⟩;rw[ai,lx,xax,he];rfl
end Go.Am
