/- An evaluator of code over such values, and that what it answers the code does. No condition. -/
import Derived.Test.YtbninlabhgbhcaaGreatDoorEngS
import Derived.KernelRfl
set_option linter.all false
set_option linter.unnecessarySimpa false
namespace Go.Am
def ab{α β:Type}(x:Option α)(f:α->Option β):Option β:=match x with|some a=>f a|none=>none
def ek{α β:Type}{x:Option α}{f:α->Option β}{b:β}(h:ab x f=some b):∃a,x=some a/\f a=some b:=by
 cases x with
 |none=>cases h
 |some a=>exact⟨a,rfl,h⟩
def bu{β:Type}(c:Bool)(p:Option β):Option β:=match c with|true=>p|false=>none
def lW{β:Type}{c:Bool}{p:Option β}{b:β}(h:bu c p=some b):c=true/\p=some b:=by
 cases c with
 |false=>cases h
 |true=>exact⟨rfl,h⟩
def aJ{β:Type}(x:D)(p q:Option β):Option β:=match x with| .val (.bool true)=>p| .val (.bool false)=>q|_=>none
def Yz{β:Type}{x:D}{p q:Option β}{b:β}(h:aJ x p q=some b):(x= .val (.bool true)/\p=some b)\/(x= .val (.bool false)/\q=some b):=by
 unfold aJ at h;split at h;.exact .inl ⟨rfl,h⟩
 .exact .inr ⟨rfl,h⟩
 cases h
def kl:D:= .val (.tuple #[])
def pk:Option aX->Option D
 |some (.d r)=>some r|_=>none
def y7{x:Option aX}{r:D}(h:pk x=some r):x=some (.d r):=by
 unfold pk at h;split at h;.cases h;rfl
 cases h
def lA:D->List D
 | .agg cs=>cs|_=>[]
def ae(x:D)(i:Nat):D:=(lA x).getD i kl
def ba:D->List (List D)
 | .aV _ es=>es|_=>[]
def gR:D->List (Value×D)
 | .mp es=>es|_=>[]
def bZ(x:D):Bool:=x.one
def dV(n:Nat)(x:D):Bool:=match x with| .agg cs=>cs.length==n&&cs.all D.one|_=>false
def ng(x:D):Bool:=match x with| .val (.slice none 0 0)=>true|_=>false
def akx{n:Nat}{x:D}(h:dV n x=true):∃cs,x= .agg cs/\cs.length=n/\cs.all D.one=true:=by
 unfold dV at h;split at h;.rename_i cs;rw[xao,xbP]at h;exact⟨cs,rfl,h.1,h.2⟩
 cases h
def aky{n:Nat}{cs:List D}(h:cs.length=n):((List.range n).map λi=>aX.d (ae (.agg cs) i))=cs.map .d:=by
 apply xbS;intro i;simp only[xah];by_cases af:i<n;.rw[xcd af,xab (by omega)];simp[ae,lA,xbb,h,af]
 rw[xaR (by simp;omega),xaR (by omega)];rfl
def bB(bt:Bool)(op:BinOp)(x y:D):Option D:=match x,y with
 | .val (.int k a),.val (.int bF b)=>pk (match op with
  | .shl=>if b<0 then none else some (.d (.val (.int k (k.wrap (a*2^(min b.toNat k.bits))))))
  | .shr=>if b<0 then none else some (.d (.val (.int k (a.fdiv (2^(min b.toNat k.bits))))))
  |_=>if k=bF then EY op k a b else none)
 | .val (.string a),.val (.string b)=>pk (PE op a b)| .val (.bool a),.val (.bool b)=>if bt then pk (PF op a b)else none
 |_,_=>none
def akz{T:ch}{t:TypeId}{op:BinOp}{x y r:D}(h:bB (EZ T t) op x y=some r):wz T op t (.d x) (.d y)=some (.d r):=by
 unfold bB at h;unfold wz;split at h;.have:=y7 h;cases op<;>exact this
 .exact y7 h
 .split at h;.rename_i aj;simp only[aj,xaF];exact y7 h
  cases h
 cases h
def QB(l:List TypeDesc)(op:BinOp)(x y:D):Option D:=match x,y with| .agg xs,.agg c7=>pk (PG op l xs c7)|_,_=>none
def akA{T:ch}{t:TypeId}{op:BinOp}{x y r:D}{l:List TypeDesc}(al:T.eqs t=some l)(h:QB l op x y=some r):wz T op t (.d x) (.d y)=some (.d r):=by
 unfold QB at h;split at h;.unfold wz;simp only[al];exact y7 h
 cases h
def Lb(op:BinOp)(x y:D):Option D:=match op with
 | .eql=>if ng y then(match x with| .val (.slice none _ _)=>some (.val (.bool true))| .aV _ (_::_)=>some (.val (.bool false))|_=>none)else none
 | .neq=>if ng y then(match x with| .val (.slice none _ _)=>some (.val (.bool false))| .aV _ (_::_)=>some (.val (.bool true))|_=>none)else none
 |_=>none
def dv(op:UnOp)(x:D):Option D:=match op,x with| .not,.val (.bool b)=>some (.val (.bool !b))| .neg,.val (.int k n)=>some (.val (.int k (k.wrap (0-n))))|_,_=>none
def nO(k:IntKind)(x:D):Option D:=match x with| .val (.int _ n)=>some (.val (.int k (k.wrap n)))|_=>none
def YA(x:D):Option D:=match x with| .val (.string b)=>some (.val (.string b))|_=>none
def Cj(es:List (List D)):Option D:=match sW es with|some fY=>some (.val (.string (Ko fY)))|none=>none
def YB(x:D):Option D:=match x with| .aV 1 es=>Cj es| .val (.slice none 0 _)=>Cj []|_=>none
def gp(c a b:D):Option D:=match c with
 | .val (.bool t)=>some (if t then a else b)
 |_=>none
def bN(agg:Bool)(n off:Nat)(cs:List D):Option D:=match agg with
 |true=>if off+n<=cs.length then some (.agg ((cs.drop off).take n))else none
 |false=>cs[off]?
def mB(agg:Bool)(n off:Nat)(x:D):Option D:=match x with| .agg cs=>bN agg n off cs|_=>none
def bx(i:Nat)(x:D):Option D:=match x with| .a6 vs=>vs[i]?|_=>none
def rF(s i:D):Option D:=match s,i with| .val (.string s),.val (.int _ n)=>pk (Kn s n)|_,_=>none
def p3(x:Option D)(PK:Nat):Option Nat:=match x with
 |none=>some PK|some (.val (.int _ n))=>if 0<=n then some n.toNat else none
 |_=>none
theorem Lc(x:Option D)(d:Nat):qq (x.map .d) d=p3 x d:=by cases x with|none=>rfl|some x=>cases x<;>first|rfl|(rename_i v;cases v<;>rfl)
def YC(s:D)(lo af:Option D):Option D:=match s with
 | .val (.string s)=>match p3 af s.size,p3 lo 0 with
  |some h,some l=>if l<=h/\h<=s.size then some (.val (.string (s.extract l h)))else none
  |_,_=>none
 |_=>none
def nP(k:Nat)(x:D)(lo af:Option D):Option D:=match x with
 | .aV bF es=>match p3 af es.length,p3 lo 0 with
  |some h,some l=>if l<=h/\h<=es.length/\bF=k then some (.aV bF ((es.drop l).take (h-l)))else none
  |_,_=>none
 |_=>none
def kN(n:Nat)(lo af:Option D):Option (Nat×Nat):=match p3 af n,p3 lo 0 with
 |some h,some l=>if l<=h/\h<=n then some (l,h-l)else none
 |_,_=>none
def p4(x:D):Option D:=match x with| .val (.string s)=>some (.val (.int .i64 s.size))|_=>none
def fA(x:D):Option D:=match x with| .aV _ es=>some (.val (.int .i64 es.length))| .val (.slice _ n _)=>some (.val (.int .i64 n))|_=>none
def YD(x:D):Option D:=match x with| .val (.map none)=>some (.val (.int .i64 0))| .mp es=>some (.val (.int .i64 es.length))|_=>none
def bX(k:Nat)(x i:D):Option (List D):=match i with
 | .val (.int _ n)=>if 0<=n then(match x with
  | .aV bF es=>if bF=k then es[n.toNat]? else none
  |_=>none)else none
 |_=>none
def cL(n:Nat)(i:D):Option Nat:=match i with
 | .val (.int _ j)=>if 0<=j/\j<n then some j.toNat else none
 |_=>none
def qG(x:D):Option (Nat×List (List D)):=match x with| .aV k es=>some (k,es)| .val (.slice none 0 _)=>some (0,[])|_=>none
def kO(fX:Bool)(l:List D):Option D:=pk (rh fX (l.map .d))
def cZ(n bytes:Nat):Bool:=decide (n*bytes<=140737488355328)&&decide (n<=4611686018427387904)
def mC(bytes:Nat)(l c:D):Option Nat:=match l,c with
 | .val (.int _ l),.val (.int _ c)=>if 0<=l/\l<=c/\(bytes:Int)*c<=281474976710656/\c<=9223372036854775807 then some l.toNat else none
 |_,_=>none
def kP(kind:TypeDesc)(zero:Value)(ok:Bool)(es:List (Value×D))(k:D):Option D:=match k with
 | .val e9=>match findD kind e9 es with
  |some (some x)=>some (if ok then .a6 [x,.val (.bool true)]else x)
  |some none=>some (if ok then .a6 [ri zero,.val (.bool false)]else ri zero)
  |none=>none
 |_=>none
def nh(x:D):Option (List (Value×D)):=match x with| .val (.map none)=>some []| .mp es=>some es|_=>none
def rG(kind:TypeDesc)(es:List (Value×D))(k x:D):Option (List (Value×D)):=match k with| .val e9=>rj kind e9 x es|_=>none
section
variable{β:Type}
def FJ:List aX->Option β->Option β
 |[],p=>p| .d a::r,p=>bu (bZ a) (FJ r p)|x::r,p=>if x.one=true then FJ r p else none
def QC{p:Option β}{b:β}:∀{cs:List aX},FJ cs p=some b->cs.all aX.one=true/\p=some b
 |[],h=>⟨rfl,h⟩
 |x::r,h=>by
  unfold FJ at h;split at h;.rename_i e;cases e
  .rename_i a sV pb e;cases e;obtain⟨J,aa⟩:=lW h;obtain⟨ax,bh⟩:=QC aa;exact⟨by rw[xbj,ax,xbu];exact J,bh⟩
  rename_i e;cases e;split at h;.rename_i ad;obtain⟨ax,bh⟩:=QC h;exact⟨by rw[xbj,ax,xbu];exact ad,bh⟩
  cases h
def Ck(n:Nat)(x:aX)(k:List aX->Option β):Option β:=match x with
 | .d a=>match n with|1=>bu (bZ a) (k [.d a])|_=>bu (dV n a) (k ((List.range n).map λi=> .d (ae a i)))
 | .agg cs=>FJ cs (k cs)|x=>match cellsOf x with|some cs=>k cs|none=>none
def Ld{n:Nat}{x:aX}{k:List aX->Option β}{b:β}(h:Ck n x k=some b):∃cs,cellsOf x=some cs/\k cs=some b:=by
 unfold Ck at h;split at h
 .rename_i a;split at h
  .obtain⟨J,aa⟩:=lW h;refine⟨_,?_,aa⟩;unfold bZ at J;unfold cellsOf;split;.rename_i he;cases he;cases J
   .rename_i he;cases he
   rw[xac (show aX.one (.d a)=true from J)]
  obtain⟨J,aa⟩:=lW h;obtain⟨cs,rfl,aL,a7⟩:=akx J;rw[aky aL]at aa;exact⟨_,by simp only[cellsOf,a7,xaF],aa⟩
 .obtain⟨J,aa⟩:=QC h;exact⟨_,by simp only[cellsOf,J,xaF],aa⟩
 split at h;.rename_i cs hU;exact⟨cs,hU,h⟩
 cases h
def Le(place:Nat->Option (Nat×Nat))(cells:List aX):List (Nat×aX)->(List aX->Option β)->Option β
 |[],k=>k cells|(i,x)::rest,k=>match place i with|none=>none|some (off,size)=>Ck size x λcs=>if cs.length=size/\off+cs.length<=cells.length then Le place (oc cells off cs) rest k else none
def YE{place:Nat->Option (Nat×Nat)}:∀{parts:List (Nat×aX)} {cells:List aX} {k:List aX->Option β} {b:β},Le place cells parts k=some b->∃cs,yA place cells parts=some cs/\k cs=some b
 |[],cells,k,b,h=>⟨cells,rfl,h⟩
 |(i,x)::rest,cells,k,b,h=>by
  unfold Le at h;split at h;.cases h
  rename_i off size aU;obtain⟨cs,J,aa⟩:=Ld h;split at aa
  case isFalse=>cases aa
  rename_i ai;obtain⟨out,ax,bh⟩:=YE aa;exact⟨out,by unfold yA;simp only[aU,J];rw[xac ai];exact ax,bh⟩
def Lf(size:Nat)(n:Nat):List (Nat×aX)->(List (List D)->Option β)->Option β
 |[],k=>k []
 |(i,x)::r,k=>if i=n then Ck size x λcs=>match lr cs with
   |some aR=>if aR.length=size then Lf size (n+1) r λl=>k (aR::l)else none
   |none=>none
  else none
def YF{size:Nat}:∀{parts:List (Nat×aX)} {n:Nat} {k:List (List D)->Option β} {b:β},Lf size n parts k=some b->∃es,wE size n parts=some es/\k es=some b
 |[],n,k,b,h=>⟨[],rfl,h⟩
 |(i,x)::r,n,k,b,h=>by
  unfold Lf at h;split at h
  case isFalse=>cases h
  rename_i af;obtain⟨cs,J,aa⟩:=Ld h;split at aa
  case h_2=>cases aa
  rename_i aR eH;split at aa
  case isFalse=>cases aa
  rename_i al;obtain⟨es,ax,bh⟩:=YF aa;exact⟨aR::es,by unfold wE;simp only[af,xaF,J,eH,ax,al],bh⟩
end
section
variable{β:Type}
def pn(T:ch)(G:dt)(σ:aM)(o:Oper)(k:aM->Option β):Option β:=match hb T G σ o with|some aZ=>k aZ|none=>none
def jX(σ:aM)(dst:Option Tmp)(k:aM->Option β)(p:Option D):Option β:=ab p λv=>k (σ.put dst (.d v))
def ni(T:ch)(σ:aM)(dst:Option Tmp)(k:aM->Option β)(r:aX)(cA:List (Key×cU)):Option β:=match rm (T.born (dst.getD 9999)) (dst.getD 9999) (r,cA)with|(r,cA)=>k (aM.put ⟨σ.aO,dJ σ.objs cA⟩ dst r)
def Lg:Option aX->Option (Option D)
 |none=>some none|some (.d a)=>some (some a)|_=>none
theorem YG{x:Option aX}{y:Option D}(h:Lg x=some y):x=y.map .d:=by unfold Lg at h;split at h<;>cases h<;>rfl
def YH(T:ch)(t:TypeId):Bool:=match T t with|some ⟨.slice _,_,_,_⟩=>true|_=>false
def QD(T:ch)(G:dt)(σ:aM)(o:Oper)(op:BinOp)(t:TypeId)(x y:Operand)(k:aM->Option β):Option β:=match cg G σ.aO x,cg G σ.aO y with
 | .d a,.d b=>match YH T t with|true=>jX σ o.dst k (Lb op a b)|false=>match T.eqs t with|some l=>jX σ o.dst k (QB l op a b)|none=>jX σ o.dst k (bB (EZ T t) op a b)
 |_,_=>pn T G σ o k
def QE(T:ch)(G:dt)(σ:aM)(o:Oper)(s:TypeId)(x:Operand)(f:Nat)(k:aM->Option β):Option β:=match E3 T s f with
 |some (off,i)=>match cg G σ.aO x with| .d a=>jX σ o.dst k (mB (uN i.desc) i.size off a)|_=>pn T G σ o k
 |none=>none
def QF(T:ch)(G:dt)(σ:aM)(o:Oper)(t:TypeId)(a:Operand)(k:aM->Option β):Option β:=match T t with
 |some i=>match cg G σ.aO a with
  | .ed cs off=>jX σ o.dst k (bN (uN i.desc) i.size off cs)
  | .gy key cV eV off=>match σ.objs key with
   |some (.row bF es)=>if cV=bF then ab es[eV]? λe=>jX σ o.dst k (bN (uN i.desc) i.size off e)else none
   |_=>none
  |_=>pn T G σ o k
 |none=>none
def QG(T:ch)(G:dt)(σ:aM)(o:Oper)(t:TypeId)(x eV:Operand)(k:aM->Option β):Option β:=match T t with
 |some ⟨.slice e,_,_,_⟩=>match T e with
  |some bp=>match cg G σ.aO eV with
   | .d i=>match cg G σ.aO x with
    | .d a=>ab (bX bp.size a i) λc=>k (σ.put o.dst (.ed c 0))
    | .row key=>match σ.objs key with
     |some (.row bF es)=>if bF=bp.size then ab (cL es.length i) λn=>k (σ.put o.dst (.gy key bF n 0))else none
     |_=>none
    | .sub key bF i0 len=>if bF=bp.size then ab (cL len i) λn=>k (σ.put o.dst (.gy key bF (i0+n) 0))else none
    |_=>none
   |_=>none
  |none=>none
 |some ⟨.array len e,_,_,_⟩=>match T e with
  |some bp=>match cg G σ.aO eV with
   | .d i=>ab (cL len i) λn=>match E4 (cg G σ.aO x) (n*bp.size)with|some r=>k (σ.put o.dst r)|none=>none
   |_=>none
  |none=>none
 |_=>none
def QH(T:ch)(G:dt)(σ:aM)(o:Oper)(t:TypeId)(x:Operand)(lo af:Option Operand)(k:aM->Option β):Option β:=match Lg (lo.map (cg G σ.aO)),Lg (af.map (cg G σ.aO))with
 |some l,some h=>match T t with
  |some ⟨.string,_,_,_⟩=>match cg G σ.aO x with| .d a=>jX σ o.dst k (YC a l h)|_=>none
  |some ⟨.slice e,_,_,_⟩=>match T e with
   |some bp=>match cg G σ.aO x with
    | .d a=>jX σ o.dst k (nP bp.size a l h)
    | .row key=>match σ.objs key with
     |some (.row bF es)=>if bF=bp.size then ab (kN es.length l h) λp=>k (σ.put o.dst (.sub key bF p.1 p.2))else none
     |_=>none
    | .sub key bF i0 len=>if bF=bp.size then ab (kN len l h) λp=>k (σ.put o.dst (.sub key bF (i0+p.1) p.2))else none
    |_=>none
   |none=>none
  |_=>pn T G σ o k
 |_,_=>none
def QI(T:ch)(G:dt)(σ:aM)(o:Oper)(args:List Operand)(dK:List TypeId)(k:aM->Option β):Option β:=match dK,args with
 |[t],[x]=>match cg G σ.aO x with
  | .d a=>match T t with|some ⟨.string,_,_,_⟩=>jX σ o.dst k (p4 a)|some ⟨.slice _,_,_,_⟩=>jX σ o.dst k (fA a)|some ⟨.map _ _,_,_,_⟩=>jX σ o.dst k (YD a)|_=>none
  |_=>pn T G σ o k
 |_,_=>none
def QJ(T:ch)(G:dt)(σ:aM)(o:Oper)(args:List Operand)(dK:List TypeId)(k:aM->Option β):Option β:=match dK,args with
 |[t,t'],[s,x]=>match T t,T t',σ.objs (o.dst.getD 9999)with
  |some ⟨.slice e,_,_,_⟩,some ⟨.slice _,_,_,_⟩,none=>match T e with
   |some bp=>
    let go:Nat×List (List D)->Option β:=λp=>bu (decide (p.1=bp.size\/p.2=[])&&decide (0<bp.size)) (match cg G σ.aO s with
     | .d a=>bu (ng a&&cZ p.2.length bp.bytes) (ni T σ o.dst k (.row (o.dst.getD 9999)) [(o.dst.getD 9999,.row bp.size p.2)])
     | .row key=>match σ.objs key with
      |some (.row bF es)=>if bF=bp.size/\key<10000 then bu (cZ (es.length+p.2.length) bp.bytes) (ni T σ o.dst k (.row (o.dst.getD 9999)) [(key,.dead),(o.dst.getD 9999,.row bF (es++p.2))])else none
      |_=>none
     |_=>none)
    match cg G σ.aO x with
    | .d a=>ab (qG a) go
    | .sub key bF i len=>match σ.objs key with
     |some (.row p5 es)=>if bF=p5 then bu (decide (i+len<=es.length)) (go (bF,(es.drop i).take len))else none
     |_=>none
    |y=>match mn σ.objs y with|some p=>go p|none=>none
   |none=>none
  |_,_,_=>none
 |_,_=>none
def QK(T:ch)(G:dt)(σ:aM)(o:Oper)(args:List Operand)(dK:List TypeId)(k:aM->Option β):Option β:=match dK,args with
 |[t,t'],[s,x]=>match T t with
  |some ⟨.slice e,_,_,_⟩=>match T e with
   |some bp=>
    let go:Nat×List (List D)->Option β:=λp=>bu (decide (p.1=bp.size\/p.2=[])) (match cg G σ.aO s with
     | .row key=>match σ.objs key with
      |some (.row bF es)=>if bF=bp.size then ni T σ o.dst k (.d (.val (.int .i64 (min p.2.length es.length:Nat)))) [(key,.row bF (p.2.take (min p.2.length es.length)++es.drop (min p.2.length es.length)))]else none
      |_=>none
     | .sub key bF i len=>match σ.objs key with
      |some (.row p5 es)=>if bF=bp.size/\p5=bF then bu (decide (i+len<=es.length)) (ni T σ o.dst k (.d (.val (.int .i64 (min p.2.length len:Nat)))) [(key,.row bF (es.take i++p.2.take (min p.2.length len)++es.drop (i+min p.2.length len)))])else none
      |_=>none
     |_=>none)
    match cg G σ.aO x with
    | .d a=>ab (qG a) go
    | .sub key bF i len=>match σ.objs key with
     |some (.row p5 es)=>if bF=p5 then bu (decide (i+len<=es.length)) (go (bF,(es.drop i).take len))else none
     |_=>none
    |y=>match mn σ.objs y with|some p=>go p|none=>none
   |none=>none
  |_=>none
 |_,_=>none
def QL(T:ch)(G:dt)(σ:aM)(o:Oper)(args:List Operand)(dK:List TypeId)(k:aM->Option β):Option β:=match dK,args with
 |[t],[s]=>match T t with
  |some ⟨.slice e,_,_,_⟩=>match T e with
   |some bp=>match cg G σ.aO s with
    | .sub key bF i len=>match σ.objs key with
     |some (.row p5 es)=>if bF=bp.size/\p5=bF/\bp.zero.cells.toList.all ke=true then bu (decide (i+len<=es.length)) (ni T σ o.dst k .any [(key,.row bF (es.take i++List.replicate len (bp.zero.cells.toList.map .val)++es.drop (i+len)))])else none
     |_=>none
    |_=>none
   |none=>none
  |_=>none
 |_,_=>none
def QM(T:ch)(G:dt)(σ:aM)(o:Oper)(t:TypeId)(x i:Operand)(ok:Bool)(k:aM->Option β):Option β:=match T t with
 |some ⟨.map iy je,_,_,_⟩=>match T iy,T je with
  |some ig,some bp=>if wC ig.desc then(match cg G σ.aO i with
   | .d e9=>match cg G σ.aO x with
    | .d m=>ab (nh m) λes=>jX σ o.dst k (kP ig.desc bp.zero ok es e9)| .map key=>match σ.objs key with|some (.map es)=>jX σ o.dst k (kP ig.desc bp.zero ok es e9)|_=>none
    |_=>none
   |_=>none)else none
  |_,_=>none
 |_=>none
def Lh(T:ch)(G:dt)(σ:aM)(o:Oper)(t:TypeId)(m i x:Operand)(k:aM->Option β):Option β:=match T t with
 |some ⟨.map iy _,_,_,_⟩=>match T iy with
  |some ig=>if wC ig.desc then(match cg G σ.aO m,cg G σ.aO i,cg G σ.aO x with
   | .map key,.d e9,.d v=>match σ.objs key with|some (.map es)=>ab (rG ig.desc es e9 v) λl=>ni T σ o.dst k .any [(key,.map l)]|_=>none
   |_,_,_=>none)else none
  |none=>none
 |_=>none
def QN(T:ch)(G:dt)(σ:aM)(o:Oper)(t:TypeId)(a x:Operand)(k:aM->Option β):Option β:=match T t with
 |some i=>Ck i.size (cg G σ.aO x) λcs=>if cs.length=i.size then(match cg G σ.aO a with
  | .ptr key off=>match σ.objs key with
   |some (.box cells)=>if off+cs.length<=cells.length then ni T σ o.dst k .any [(key,.box (oc cells off cs))]else none
   |_=>none
  | .gy key cV eV off=>match σ.objs key,lr cs with
   |some (.row bF es),some aR=>if cV=bF/\off+aR.length<=cV then ab es[eV]? λe=>ni T σ o.dst k .any [(key,.row cV (es.set eV (iN e off aR)))]else none
   |_,_=>none
  |_=>none)else none
 |none=>none
def QO(T:ch)(G:dt)(σ:aM)(o:Oper)(t:TypeId)(parts:Array (Nat×Operand))(k:aM->Option β):Option β:=match PJ T t with|some (pl,z)=>Le pl (zeroCells z) (parts.toList.map λp=>(p.1,cg G σ.aO p.2)) λout=>k (σ.put o.dst (BJ out))|none=>none
def QP(T:ch)(G:dt)(σ:aM)(o:Oper)(t:TypeId)(n:Nat)(parts:Array (Nat×Operand))(k:aM->Option β):Option β:=match T t,σ.objs (o.dst.getD 9999)with
 |some ⟨.slice e,_,_,_⟩,none=>match T e with
  |some bp=>Lf bp.size 0 (parts.toList.map λp=>(p.1,cg G σ.aO p.2)) λes=>if es.length=n/\0<bp.size/\n*bp.size<=16777216 then ni T σ o.dst k (.row (o.dst.getD 9999)) [(o.dst.getD 9999,.row bp.size es)]else none
  |none=>none
 |_,_=>none
def QQ(T:ch)(G:dt)(σ:aM)(o:Oper)(t:TypeId)(l c:Operand)(k:aM->Option β):Option β:=match T t,σ.objs (o.dst.getD 9999)with
 |some ⟨.slice e,_,_,_⟩,none=>match T e with
  |some bp=>match cg G σ.aO l,cg G σ.aO c with
   | .d l,.d c=>if bp.zero.cells.toList.all ke then ab (mC bp.bytes l c) λn=>ni T σ o.dst k (.row (o.dst.getD 9999)) [(o.dst.getD 9999,.row bp.size (List.replicate n (bp.zero.cells.toList.map .val)))]else none
   |_,_=>none
  |none=>none
 |_,_=>none
def QR(T:ch)(G:dt)(σ:aM)(o:Oper)(s t:TypeId)(x:Operand)(k:aM->Option β):Option β:=match T s,T t,cg G σ.aO x with
 |some _,some ⟨.int i,_,_,_⟩,.d a=>jX σ o.dst k (nO i a)
 |some ⟨.slice e,_,_,_⟩,some ⟨.string,_,_,_⟩,y=>match T e with
  |some ⟨.int .u8,_,_,_⟩=>match y with
   | .d a=>jX σ o.dst k (YB a)| .row key=>match σ.objs key with|some (.row 1 es)=>jX σ o.dst k (Cj es)|_=>pn T G σ o k
   | .sub key 1 i len=>match σ.objs key with|some (.row 1 es)=>bu (decide (i+len<=es.length)) (jX σ o.dst k (Cj ((es.drop i).take len)))|_=>pn T G σ o k
   |_=>pn T G σ o k
  |_=>pn T G σ o k
 |some _,some ⟨.string,_,_,_⟩,.d a=>jX σ o.dst k (YA a)|_,_,_=>pn T G σ o k
def Li(T:ch)(G:dt)(σ:aM)(o:Oper)(fX:Bool)(args:List Operand)(k:aM->Option β):Option β:=match lr (args.map (cg G σ.aO))with|some aR=>jX σ o.dst k (kO fX aR)|none=>none
def hn:aX->aX->Option (D×D)
 | .d a,.d b=>some (a,b)|_,_=>none
theorem akB{x y:aX}{p:D×D}(h:hn x y=some p):x= .d p.1/\y= .d p.2:=by unfold hn at h;split at h<;>cases h;exact⟨rfl,rfl⟩
def YI{T:ch}{ev:Operand->aX}{c a b:Operand}{t:Bool}(ai:ev c= .d (.val (.bool t)))(h:hn (ev a) (ev b)=none):ez T ev (.pick c a b)=some (if t then ev a else ev b):=by
 simp only[ez,ai];generalize ev a=x at*;generalize ev b=y at*;split;.cases h
 rfl
def tj(T:ch)(G:dt)(σ:aM)(o:Oper)(k:aM->Option β):Option β:=match o.op with
 | .binOp op t x y _=>QD T G σ o op t x y k| .unOp op _ x=>match cg G σ.aO x with| .d a=>jX σ o.dst k (dv op a)|_=>none
 | .convert s t x=>QR T G σ o s t x k
 | .pick c a b=>match cg G σ.aO c with
  | .d c=>match hn (cg G σ.aO a) (cg G σ.aO b)with|some p=>jX σ o.dst k (gp c p.1 p.2)|none=>aJ c (k (σ.put o.dst (cg G σ.aO a))) (k (σ.put o.dst (cg G σ.aO b)))
  |_=>none
 | .field s x f=>QE T G σ o s x f k| .extract x i=>match cg G σ.aO x with| .d a=>jX σ o.dst k (bx i a)|_=>pn T G σ o k
 | .index t x i=>match T t with
  |some ⟨.string,_,_,_⟩=>match cg G σ.aO x,cg G σ.aO i with| .d a,.d b=>jX σ o.dst k (rF a b)|_,_=>none
  |some ⟨.array len e,_,_,_⟩=>match T e with
   |some bp=>match cg G σ.aO x,cg G σ.aO i with| .d a,.d b=>ab (cL len b) λn=>jX σ o.dst k (mB (uN bp.desc) bp.size (n*bp.size) a)|_,_=>none
   |none=>none
  |_=>none
 | .load t a=>QF T G σ o t a k| .indexAddr t x eV=>QG T G σ o t x eV k| .slice t x lo af none=>QH T G σ o t x lo af k| .lookup t x i ok=>QM T G σ o t x i ok k| .mapUpdate t m i x=>Lh T G σ o t m i x k| .insert t m i x=>Lh T G σ o t m i x k| .store t a x=>QN T G σ o t a x k| .build t parts=>QO T G σ o t parts k| .buildSlice t n parts=>QP T G σ o t n parts k| .makeSlice t l c=>QQ T G σ o t l c k| .box t x=>match T t,σ.objs (o.dst.getD 9999)with|some i,none=>Ck i.size (cg G σ.aO x) λcs=>ni T σ o.dst k (.ptr (o.dst.getD 9999) 0) [(o.dst.getD 9999,.box cs)]|_,_=>none
 | .call ⟨.builtin .len,args,dK⟩=>QI T G σ o args.toList dK.toList k| .call ⟨.builtin .append,args,dK⟩=>QJ T G σ o args.toList dK.toList k| .call ⟨.builtin .copy,args,dK⟩=>QK T G σ o args.toList dK.toList k| .call ⟨.builtin .clear,args,dK⟩=>QL T G σ o args.toList dK.toList k| .call ⟨.builtin .max,args,_⟩=>Li T G σ o true args.toList k| .call ⟨.builtin .min,args,_⟩=>Li T G σ o false args.toList k|_=>pn T G σ o k
variable{T:ch}{G:dt}{σ:aM}{o:Oper}{k:aM->Option β}{b:β}
def qH(h:pn T G σ o k=some b):∃aZ,hb T G σ o=some aZ/\k aZ=some b:=by
 unfold pn at h;split at h;.exact⟨_,by assumption,h⟩
 cases h
def nj{r:aX}(h:ez T (cg G σ.aO) o.op=some r)(ah:k (σ.put o.dst r)=some b):∃aZ,hb T G σ o=some aZ/\k aZ=some b:=⟨_,by unfold hb;rw[h],ah⟩
def lX{r:aX}(au:ez T (cg G σ.aO) o.op=none)(h:dH T (cg G σ.aO) σ.objs o.op=some r)(ah:k (σ.put o.dst r)=some b):∃aZ,hb T G σ o=some aZ/\k aZ=some b:=⟨_,by unfold hb;rw[au,h],ah⟩
def rH{r:aX}{cA:List (Key×cU)}(au:ez T (cg G σ.aO) o.op=none)(J:dH T (cg G σ.aO) σ.objs o.op=none)(h:eu T (cg G σ.aO) σ.objs (o.dst.getD 9999) o.op=some (r,cA)) (ah:ni T σ o.dst k r cA=some b):∃aZ,hb T G σ o=some aZ/\k aZ=some b:=⟨_,by unfold hb;rw[au,J];unfold hv;rw[h];rfl,by unfold ni at ah;exact ah⟩
def akC{op:BinOp}{t:TypeId}{x y:Operand}{yB:TypeId}(aT:o.op= .binOp op t x y yB)(h:QD T G σ o op t x y k=some b):∃aZ,hb T G σ o=some aZ/\k aZ=some b:=by
 unfold QD at h;split at h
 .rename_i a c aH ai;split at h
  .rename_i aC;obtain⟨v,J,aa⟩:=ek h;have FK:∀{d},ng d=true->d= .val (.slice none 0 0):=by
    intro d ay;unfold ng at ay;split at ay;.rfl
    cases ay
   unfold YH at aC;split at aC
   case h_2=>cases aC
   rename_i aL a7 bV cG aP;have aj:c= .val (.slice none 0 0)->ez T (cg G σ.aO) o.op=none:=by intro eR;subst eR;rw[aT];simp only[ez,aH,ai,wz]
   unfold Lb at J;split at J
   .split at J
    case isFalse=>cases J
    rename_i aN;have aN:=FK aN;subst aN;refine lX (r:= .d v) (aj rfl) ?_ aa;rw[aT];simp only[dH,aP,ai,wD,xaF,aH,mX];split at J<;>cases J<;>simp
   .split at J
    case isFalse=>cases J
    rename_i aN;have aN:=FK aN;subst aN;refine lX (r:= .d v) (aj rfl) ?_ aa;rw[aT];simp only[dH,aP,ai,wD,xaF,aH,mX];split at J<;>cases J<;>simp
   cases J
  split at h;.rename_i l al;obtain⟨v,J,aa⟩:=ek h;exact nj (by rw[aT];simp only[ez,aH,ai];exact akA al J) aa
  obtain⟨v,J,aa⟩:=ek h;exact nj (by rw[aT];simp only[ez,aH,ai];exact akz J) aa
 exact qH h
def Lj{i:iT}{off:Nat}{cs:List D}{v:D}(h:bN (uN i.desc) i.size off cs=some v):sT i cs off=some (.d v):=by
 unfold bN at h;unfold sT;cases ay:uN i.desc with
 |true=>
  simp only[ay]at h;simp only[xaF];split at h;.rename_i ai;rw[xac ai];cases h;rfl
  cases h
 |false=>simp only[ay]at h;simp[h]
def akD{s:TypeId}{x:Operand}{f:Nat}(aT:o.op= .field s x f)(h:QE T G σ o s x f k=some b):∃aZ,hb T G σ o=some aZ/\k aZ=some b:=by
 unfold QE at h;split at h
 case h_2=>cases h
 rename_i off i bk;split at h
 .rename_i a aH;obtain⟨v,J,aa⟩:=ek h;unfold mB at J;split at J
  case h_2=>cases J
  exact nj (by rw[aT];simp only[ez,bk,aH];exact Lj J) aa
 exact qH h
def akE{t:TypeId}{a:Operand}(aT:o.op= .load t a)(h:QF T G σ o t a k=some b):∃aZ,hb T G σ o=some aZ/\k aZ=some b:=by
 unfold QF at h;split at h
 case h_2=>cases h
 rename_i i af;split at h;.rename_i cs off aH;obtain⟨v,J,aa⟩:=ek h;exact lX (by rw[aT];rfl) (by rw[aT];simp only[dH,af,aH];exact Lj J) aa
 .rename_i key cV eV off aH;split at h
  case h_2=>cases h
  rename_i bF es ah;split at h
  case isFalse=>cases h
  rename_i dx;obtain⟨e,J,aa⟩:=ek h;obtain⟨v,ax,bh⟩:=ek aa;exact lX (by rw[aT];rfl) (by rw[aT];simp only[dH,af,aH,ah,dx,xaF,J];exact Lj ax) bh
 exact qH h
def QS{n m:Nat}{i:D}(h:cL n i=some m):∃Lk j,i= .val (.int Lk j)/\0<=j/\j<n/\m=j.toNat:=by
 unfold cL at h;split at h
 case h_2=>cases h
 split at h
 case isFalse=>cases h
 rename_i ai;cases h;exact⟨_,_,rfl,ai.1,ai.2,rfl⟩
def akF{t:TypeId}{x eV:Operand}(aT:o.op= .indexAddr t x eV)(h:QG T G σ o t x eV k=some b):∃aZ,hb T G σ o=some aZ/\k aZ=some b:=by
 unfold QG at h;split at h
 .rename_i e s1 s2 iP aP;split at h
  case h_2=>cases h
  rename_i bp he;split at h
  case h_2=>cases h
  rename_i i af;split at h
  .rename_i a aH;obtain⟨c,J,aa⟩:=ek h;unfold bX at J;split at J
   case h_2=>cases J
   split at J
   case isFalse=>cases J
   rename_i aN;split at J
   case h_2=>cases J
   split at J
   case isFalse=>cases J
   rename_i ah;exact lX (by rw[aT];rfl) (by rw[aT];simp only[dH,aP,af,he,aH,aN,ah,xaF,J]) aa
  .rename_i key aH;split at h
   case h_2=>cases h
   rename_i bF es ah;split at h
   case isFalse=>cases h
   rename_i dx;obtain⟨n,J,aa⟩:=ek h;obtain⟨Lk,j,rfl,g1,g2,rfl⟩:=QS J;exact lX (by rw[aT];rfl) (by rw[aT];simp only[dH,aP,af,he,aH,g1,xaF,ah,dx,g2,and_self]) (dx▸aa)
  .rename_i key bF i0 len aH;split at h
   case isFalse=>cases h
   rename_i dx;obtain⟨n,J,aa⟩:=ek h;obtain⟨Lk,j,rfl,g1,g2,rfl⟩:=QS J;exact lX (by rw[aT];rfl) (by rw[aT];simp only[dH,aP,af,he,aH,g1,xaF,dx,g2,and_self]) (dx▸aa)
  cases h
 .rename_i len e s1 s2 iP aP;split at h
  case h_2=>cases h
  rename_i bp he;split at h
  case h_2=>cases h
  rename_i i af;obtain⟨n,J,aa⟩:=ek h;obtain⟨Lk,j,rfl,g1,g2,rfl⟩:=QS J;split at aa
  case h_2=>cases aa
  rename_i r av;exact lX (by rw[aT];rfl) (by rw[aT];simp only[dH,aP,af,he,g1,g2,and_self,xaF];exact av) aa
 cases h
def akG{t:TypeId}{x:Operand}{lo af:Option Operand}(aT:o.op= .slice t x lo af none)(h:QH T G σ o t x lo af k=some b):∃aZ,hb T G σ o=some aZ/\k aZ=some b:=by
 unfold QH at h;split at h
 case h_2=>cases h
 rename_i l bS al w7;have al:=YG al;have w7:=YG w7;split at h
 .rename_i s1 s2 iP aP;split at h
  case h_2=>cases h
  rename_i a aH;obtain⟨v,J,aa⟩:=ek h;unfold YC at J;split at J
  case h_2=>cases J
  split at J
  case h_2=>cases J
  rename_i b0 bR;split at J
  case isFalse=>cases J
  rename_i ai;cases J;exact nj (by rw[aT];simp only[ez,aP,aH,al,w7,Lc,b0,bR];rw[xac ai]) aa
 .rename_i e s1 s2 iP aP;split at h
  case h_2=>cases h
  rename_i bp he;split at h
  .rename_i a aH;obtain⟨v,J,aa⟩:=ek h;unfold nP at J;split at J
   case h_2=>cases J
   split at J
   case h_2=>cases J
   rename_i b0 bR;split at J
   case isFalse=>cases J
   rename_i ai;cases J;exact lX (by rw[aT];simp only[ez,aP]) (by rw[aT];simp only[dH,aP,he,aH,kg,al,w7,Lc,b0,bR];rw[xac ⟨ai.1,ai.2.1⟩,xac ai.2.2]) aa
  .rename_i key aH;split at h
   case h_2=>cases h
   rename_i bF es ah;split at h
   case isFalse=>cases h
   rename_i dx;obtain⟨p,J,aa⟩:=ek h;unfold kN at J;split at J
   case h_2=>cases J
   rename_i b0 bR;split at J
   case isFalse=>cases J
   rename_i ai;cases J;exact lX (by rw[aT];simp only[ez,aP]) (by rw[aT];simp only[dH,aP,he,aH,kg,ah,al,w7,Lc,b0,bR];rw[xac ai,xac dx]) aa
  .rename_i key bF i0 len aH;split at h
   case isFalse=>cases h
   rename_i dx;obtain⟨p,J,aa⟩:=ek h;unfold kN at J;split at J
   case h_2=>cases J
   rename_i b0 bR;split at J
   case isFalse=>cases J
   rename_i ai;cases J;exact lX (by rw[aT];simp only[ez,aP]) (by rw[aT];simp only[dH,aP,he,aH,kg,al,w7,Lc,b0,bR];rw[xac ai,xac dx]) aa
  cases h
 exact qH h
def akH{args:Array Operand}{dK:Array TypeId}(aT:o.op= .call ⟨.builtin .len,args,dK⟩)(h:QI T G σ o args.toList dK.toList k=some b):∃aZ,hb T G σ o=some aZ/\k aZ=some b:=by
 unfold QI at h;split at h
 case h_2=>cases h
 rename_i t x aL a7;have aU:ez T (cg G σ.aO) o.op=none:=by rw[aT];rfl
 split at h
 .rename_i a aH;split at h;.rename_i s1 s2 iP aP;obtain⟨v,J,aa⟩:=ek h;unfold p4 at J;split at J<;>cases J;exact lX aU (by rw[aT];simp only[dH,aL,a7,aP,aH]) aa
  .rename_i e s1 s2 iP aP;obtain⟨v,J,aa⟩:=ek h;unfold fA at J;split at J<;>cases J;.exact lX aU (by rw[aT];simp only[dH,aL,a7,aP,aH,kg]) aa
   exact lX aU (by rw[aT];simp only[dH,aL,a7,aP,aH,kg]) aa
  .rename_i b0 bR s1 s2 iP aP;obtain⟨v,J,aa⟩:=ek h;unfold YD at J;split at J<;>cases J;.exact lX aU (by rw[aT];simp only[dH,aL,a7,aP,aH]) aa
   exact lX aU (by rw[aT];simp only[dH,aL,a7,aP,aH]) aa
  cases h
 exact qH h
theorem YJ{a:D}{p:Nat×List (List D)}(h:qG a=some p)(objs:cx):mn objs (.d a)=some p:=by unfold qG at h;split at h<;>cases h<;>rfl
def akI{args:Array Operand}{dK:Array TypeId}(aT:o.op= .call ⟨.builtin .append,args,dK⟩)(h:QJ T G σ o args.toList dK.toList k=some b):∃aZ,hb T G σ o=some aZ/\k aZ=some b:=by
 unfold QJ at h;split at h
 case h_2=>cases h
 rename_i t t' s x aL a7;split at h
 case h_2=>cases h
 rename_i e s1 s2 iP du aBn aBo aBp aP qx ay;split at h
 case h_2=>cases h
 rename_i bp he;have aU:ez T (cg G σ.aO) o.op=none:=by rw[aT];rfl
 have hm:dH T (cg G σ.aO) σ.objs o.op=none:=by rw[aT];rfl
 have key:∀p:Nat×List (List D),mn σ.objs (cg G σ.aO x)=some p->bu (decide (p.1=bp.size\/p.2=[])&&decide (0<bp.size)) (match cg G σ.aO s with
     | .d a=>bu (ng a&&cZ p.2.length bp.bytes) (ni T σ o.dst k (.row (o.dst.getD 9999)) [(o.dst.getD 9999,.row bp.size p.2)])
     | .row key=>match σ.objs key with
      |some (.row bF es)=>if bF=bp.size/\key<10000 then bu (cZ (es.length+p.2.length) bp.bytes) (ni T σ o.dst k (.row (o.dst.getD 9999)) [(key,.dead),(o.dst.getD 9999,.row bF (es++p.2))])else none
      |_=>none
     |_=>none)=some b->∃aZ,hb T G σ o=some aZ/\k aZ=some b:=by
  rintro⟨cV,xs⟩ ei h;obtain⟨au,h⟩:=lW h;simp only[xao,xaz]at au;split at h
  .rename_i a aH;obtain⟨J,h⟩:=lW h;simp only[xao,cZ,xaz]at J;have aN:a= .val (.slice none 0 0):=by
    have:=J.1;unfold ng at this;split at this;.rfl
    cases this
   have aa:=J.2;clear J;refine rH aU hm ?_ h;rw[aT];simp only[eu,aL,a7,aP,qx,ay,he,ei,aH,aN];rw[xac au,xac aa]
  .rename_i key aH;split at h
   case h_2=>cases h
   rename_i bF es ah;split at h
   case isFalse=>cases h
   rename_i dx;obtain⟨J,h⟩:=lW h;simp only[xao,cZ,xaz]at J;refine rH aU hm ?_ h;rw[aT];simp only[eu,aL,a7,aP,qx,ay,he,ei,aH,ah];rw[xac au,xac ⟨dx.1,J.1,J.2,dx.2⟩]
  .cases h
 simp only at h;split at h;.rename_i a aH;obtain⟨p,J,aa⟩:=ek h;exact key p (by rw[aH];exact YJ J _) aa
 .rename_i akJ bF i len aH;split at h
  case h_2=>cases h
  rename_i p5 es ah;split at h
  case isFalse=>cases h
  rename_i dx;obtain⟨J,aa⟩:=lW h;have ei:mn σ.objs (cg G σ.aO x)=some (bF,(es.drop i).take len):=by rw[aH];simp only[mn,ah];rw[xac ⟨dx,xbd J⟩]
  exact key (bF,(es.drop i).take len) ei aa
 split at h
 case h_2=>cases h
 rename_i p aU;exact key p aU h
def akK{args:Array Operand}{dK:Array TypeId}(aT:o.op= .call ⟨.builtin .clear,args,dK⟩)(h:QL T G σ o args.toList dK.toList k=some b):∃aZ,hb T G σ o=some aZ/\k aZ=some b:=by
 unfold QL at h;split at h
 case h_2=>cases h
 rename_i t s aL a7;split at h
 case h_2=>cases h
 rename_i e s1 s2 iP aP;split at h
 case h_2=>cases h
 rename_i bp he;have aU:ez T (cg G σ.aO) o.op=none:=by rw[aT];rfl
 have hm:dH T (cg G σ.aO) σ.objs o.op=none:=by rw[aT];rfl
 split at h
 case h_2=>cases h
 rename_i key bF i len aH;split at h
 case h_2=>cases h
 rename_i p5 es ah;split at h
 case isFalse=>cases h
 rename_i dx;obtain⟨au,h⟩:=lW h;simp only[xaz]at au;refine rH aU hm ?_ h;rw[aT];simp only[eu,aL,a7,aP,he,aH,ah];rw[xac ⟨dx.1,dx.2.1,au,dx.2.2⟩]
def akL{args:Array Operand}{dK:Array TypeId}(aT:o.op= .call ⟨.builtin .copy,args,dK⟩)(h:QK T G σ o args.toList dK.toList k=some b):∃aZ,hb T G σ o=some aZ/\k aZ=some b:=by
 unfold QK at h;split at h
 case h_2=>cases h
 rename_i t t' s x aL a7;split at h
 case h_2=>cases h
 rename_i e s1 s2 iP aP;split at h
 case h_2=>cases h
 rename_i bp he;have aU:ez T (cg G σ.aO) o.op=none:=by rw[aT];rfl
 have hm:dH T (cg G σ.aO) σ.objs o.op=none:=by rw[aT];rfl
 have key:∀p:Nat×List (List D),mn σ.objs (cg G σ.aO x)=some p->bu (decide (p.1=bp.size\/p.2=[])) (match cg G σ.aO s with
     | .row key=>match σ.objs key with
      |some (.row bF es)=>if bF=bp.size then ni T σ o.dst k (.d (.val (.int .i64 (min p.2.length es.length:Nat)))) [(key,.row bF (p.2.take (min p.2.length es.length)++es.drop (min p.2.length es.length)))]else none
      |_=>none
     | .sub key bF i len=>match σ.objs key with
      |some (.row p5 es)=>if bF=bp.size/\p5=bF then bu (decide (i+len<=es.length)) (ni T σ o.dst k (.d (.val (.int .i64 (min p.2.length len:Nat)))) [(key,.row bF (es.take i++p.2.take (min p.2.length len)++es.drop (i+min p.2.length len)))])else none
      |_=>none
     |_=>none)=some b->∃aZ,hb T G σ o=some aZ/\k aZ=some b:=by
  rintro⟨cV,xs⟩ ei h;obtain⟨au,h⟩:=lW h;simp only[xaz]at au;split at h
  .rename_i key aH;split at h
   case h_2=>cases h
   rename_i bF es ah;split at h
   case isFalse=>cases h
   rename_i dx;refine rH aU hm ?_ h;rw[aT];simp only[eu,aL,a7,aP,he,ei,aH,ah];rw[xac au,xac dx]
  .rename_i key bF i len aH;split at h
   case h_2=>cases h
   rename_i p5 es ah;split at h
   case isFalse=>cases h
   rename_i dx;obtain⟨J,h⟩:=lW h;simp only[xaz]at J;refine rH aU hm ?_ h;rw[aT];simp only[eu,aL,a7,aP,he,ei,aH,ah];rw[xac au,xac ⟨dx.1,dx.2,J⟩]
  .cases h
 simp only at h;split at h;.rename_i a aH;obtain⟨p,J,aa⟩:=ek h;exact key p (by rw[aH];exact YJ J _) aa
 .rename_i akJ bF i len aH;split at h
  case h_2=>cases h
  rename_i p5 es ah;split at h
  case isFalse=>cases h
  rename_i dx;obtain⟨J,aa⟩:=lW h;have ei:mn σ.objs (cg G σ.aO x)=some (bF,(es.drop i).take len):=by rw[aH];simp only[mn,ah];rw[xac ⟨dx,xbd J⟩]
  exact key (bF,(es.drop i).take len) ei aa
 split at h
 case h_2=>cases h
 rename_i p aU;exact key p aU h
def YK{ig bp:iT}{t iy je:TypeId}{s1 s2:Nat}{iP:Value}(aP:T t=some ⟨.map iy je,s1,s2,iP⟩)(J:T iy=some ig)(aa:T je=some bp)(ah:wC ig.desc=true){ok:Bool}{es:List (Value×D)}{e9 v:D} (h:kP ig.desc bp.zero ok es e9=some v):∃u,e9= .val u/\yD T t es u ok=some (.d v):=by
 unfold kP at h;split at h
 case h_2=>cases h
 rename_i u;refine⟨u,rfl,?_⟩;unfold yD;simp only[aP,J,aa,ah,xaF];split at h;.rename_i x ad;cases h;simp only[ad]
 .rename_i ad;cases h;simp only[ad]
 cases h
def akM{t:TypeId}{x i:Operand}{ok:Bool}(aT:o.op= .lookup t x i ok)(h:QM T G σ o t x i ok k=some b):∃aZ,hb T G σ o=some aZ/\k aZ=some b:=by
 unfold QM at h;split at h
 case h_2=>cases h
 rename_i iy je s1 s2 iP aP;split at h
 case h_2=>cases h
 rename_i ig bp J aa;split at h
 case isFalse=>cases h
 rename_i ah;split at h
 case h_2=>cases h
 rename_i e9 E6;split at h;.rename_i m hm;obtain⟨es,g1,g2⟩:=ek h;obtain⟨v,g3,g4⟩:=ek g2;obtain⟨u,rfl,g5⟩:=YK aP J aa ah g3;refine lX (by rw[aT];rfl) ?_ g4;rw[aT];simp only[dH,E6,hm];unfold nh at g1;split at g1<;>cases g1<;>exact g5
 .rename_i key hm;split at h
  case h_2=>cases h
  rename_i es lB;obtain⟨v,g3,g4⟩:=ek h;obtain⟨u,rfl,g5⟩:=YK aP J aa ah g3;refine lX (by rw[aT];rfl) ?_ g4;rw[aT];simp only[dH,E6,hm,lB,g5]
 cases h
def YL{t:TypeId}{m i x:Operand}(aT:o.op= .mapUpdate t m i x\/o.op= .insert t m i x)(h:Lh T G σ o t m i x k=some b):∃aZ,hb T G σ o=some aZ/\k aZ=some b:=by
 unfold Lh at h;split at h
 case h_2=>cases h
 rename_i iy je s1 s2 iP aP;split at h
 case h_2=>cases h
 rename_i ig J;split at h
 case isFalse=>cases h
 rename_i ah;split at h
 case h_2=>cases h
 rename_i key e9 v aL a7 bV;split at h
 case h_2=>cases h
 rename_i es lB;obtain⟨l,g1,g2⟩:=ek h;unfold rG at g1;split at g1
 case h_2=>cases g1
 rcases aT with aT|aT<;>
 .refine rH (by rw[aT];rfl) (by rw[aT];rfl) ?_ g2;rw[aT];simp only[eu,aP,J,ah,xaF,aL,a7,bV,lB,g1]
def akN{t:TypeId}{a x:Operand}(aT:o.op= .store t a x)(h:QN T G σ o t a x k=some b):∃aZ,hb T G σ o=some aZ/\k aZ=some b:=by
 unfold QN at h;split at h
 case h_2=>cases h
 rename_i i af;obtain⟨cs,J,aa⟩:=Ld h;split at aa
 case isFalse=>cases aa
 rename_i al;split at aa
 .rename_i key off aH;split at aa
  case h_2=>cases aa
  rename_i cells ah;split at aa
  case isFalse=>cases aa
  rename_i ai;refine rH (by rw[aT];rfl) (by rw[aT];rfl) ?_ aa;rw[aT];simp only[eu,af,J,aH,ah];rw[xac al,xac ai]
 .rename_i key cV eV off aH;split at aa
  case h_2=>cases aa
  rename_i bF es aR ah eH;split at aa
  case isFalse=>cases aa
  rename_i ai;obtain⟨e,g1,g2⟩:=ek aa;refine rH (by rw[aT];rfl) (by rw[aT];rfl) ?_ g2;rw[aT];simp only[eu,af,J,aH,ah,eH,g1];rw[xac al,xac ai]
 cases aa
def akO{t:TypeId}{parts:Array (Nat×Operand)}(aT:o.op= .build t parts)(h:QO T G σ o t parts k=some b):∃aZ,hb T G σ o=some aZ/\k aZ=some b:=by
 unfold QO at h;split at h
 case h_2=>cases h
 rename_i pl z aj;obtain⟨cs,J,aa⟩:=YE h;exact nj (by rw[aT];simp only[ez,Km,aj,J]) aa
def akP{t:TypeId}{n:Nat}{parts:Array (Nat×Operand)}(aT:o.op= .buildSlice t n parts)(h:QP T G σ o t n parts k=some b):∃aZ,hb T G σ o=some aZ/\k aZ=some b:=by
 unfold QP at h;split at h
 case h_2=>cases h
 rename_i e s1 s2 iP aP ay;split at h
 case h_2=>cases h
 rename_i bp he;obtain⟨es,J,aa⟩:=YF h;split at aa
 case isFalse=>cases aa
 rename_i ai;refine rH (by rw[aT];rfl) (by rw[aT];rfl) ?_ aa;rw[aT];simp only[eu,aP,ay,he,J];rw[xac ai]
def akQ{t:TypeId}{l c:Operand}(aT:o.op= .makeSlice t l c)(h:QQ T G σ o t l c k=some b):∃aZ,hb T G σ o=some aZ/\k aZ=some b:=by
 unfold QQ at h;split at h
 case h_2=>cases h
 rename_i e s1 s2 iP aP ay;split at h
 case h_2=>cases h
 rename_i bp he;split at h
 case h_2=>cases h
 rename_i jT iw al ai;split at h
 case isFalse=>cases h
 rename_i bG;obtain⟨n,J,aa⟩:=ek h;unfold mC at J;split at J
 case h_2=>cases J
 split at J
 case isFalse=>cases J
 rename_i mm;cases J;refine rH (by rw[aT];rfl) (by rw[aT];rfl) ?_ aa;rw[aT];simp only[eu,aP,ay,he,al,ai];rw[xac ⟨mm.1,mm.2.1,mm.2.2.1,mm.2.2.2,bG⟩]
def akR{s t:TypeId}{x:Operand}(aT:o.op= .convert s t x)(h:QR T G σ o s t x k=some b):∃aZ,hb T G σ o=some aZ/\k aZ=some b:=by
 unfold QR at h;split at h;.rename_i q i s1 s2 iP a aC aP ad;obtain⟨v,J,aa⟩:=ek h;unfold nO at J;split at J<;>cases J;exact nj (by rw[aT];simp only[ez,aC,aP,ad]) aa
 .rename_i e _ _ _ _ _ _ y aC aP;split at h
  case h_2=>exact qH h
  rename_i he;have fin:∀{es:List (List D)},qt σ.objs (cg G σ.aO x)=some es->ez T (cg G σ.aO) (.convert s t x)=none->∀{v:D},Cj es=some v->k (σ.put o.dst (.d v))=some b->∃aZ,hb T G σ o=some aZ/\k aZ=some b:=by
   intro es J au v aS ah;unfold Cj at aS;split at aS
   case h_2=>cases aS
   rename_i fY aj;cases aS;exact lX (by rw[aT];exact au) (by rw[aT];simp only[dH,aC,aP,he,J,aj]) ah
  split at h
  .rename_i a ad;obtain⟨v,J,aa⟩:=ek h;unfold YB at J;split at J;.exact fin (by rw[ad];rfl) (by simp only[ez,aC,aP,ad]) J aa
   .exact fin (by rw[ad];rfl) (by simp only[ez,aC,aP,ad]) J aa
   cases J
  .rename_i key ad;split at h
   case h_2=>exact qH h
   rename_i es ah;obtain⟨v,J,aa⟩:=ek h;exact fin (by rw[ad];simp only[qt,ah]) (by simp only[ez,aC,aP,ad]) J aa
  .rename_i key i len ad;split at h
   case h_2=>exact qH h
   rename_i es ah;obtain⟨ai,h⟩:=lW h;obtain⟨v,J,aa⟩:=ek h;exact fin (by rw[ad];simp only[qt,ah];rw[xac (xbd ai)]) (by simp only[ez,aC,aP,ad]) J aa
  exact qH h
 .rename_i q s1 s2 iP a aC aP ad;obtain⟨v,J,aa⟩:=ek h;unfold YA at J;split at J<;>cases J;exact nj (by rw[aT];simp only[ez,aC,aP,ad]) aa
 exact qH h
def y8(h:tj T G σ o k=some b):∃aZ,hb T G σ o=some aZ/\k aZ=some b:=by
 unfold tj at h;split at h;.exact akC (by assumption) h
 .rename_i aT;split at h
  .rename_i a aH;obtain⟨v,J,aa⟩:=ek h;unfold dv at J;split at J<;>cases J;.exact nj (by rw[aT];simp only[ez,aH]) aa
   exact nj (by rw[aT];simp only[ez,aH]) aa
  cases h
 .exact akR (by assumption) h
 .rename_i c x y aT;split at h
  case h_2=>cases h
  rename_i iw ai;split at h
  .rename_i p aU;obtain⟨aH,aj⟩:=akB aU;obtain⟨v,J,aa⟩:=ek h;unfold gp at J;split at J<;>cases J;rename_i t;refine nj ?_ aa;rw[aT];simp only[ez,ai,aH,aj];split;.rename_i aL a7;simp only[aX.d.injEq]at aL a7;rw[aL,a7];cases t<;>rfl
   cases t<;>rfl
  rename_i aU;rcases Yz h with⟨rfl,J⟩|⟨rfl,J⟩
  .exact nj (by rw[aT];exact YI ai aU) J
  exact nj (by rw[aT];exact YI ai aU) J
 .exact akD (by assumption) h
 .rename_i x i aT;split at h
  .rename_i a aH;obtain⟨v,J,aa⟩:=ek h;unfold bx at J;split at J
   case h_2=>cases J
   exact nj (by rw[aT];simp only[ez,aH,J]) aa
  exact qH h
 .rename_i t x i aT;split at h
  .rename_i s1 s2 iP aP;split at h
   case h_2=>cases h
   rename_i a c aH ai;obtain⟨v,J,aa⟩:=ek h;unfold rF at J;split at J
   case h_2=>cases J
   exact nj (by rw[aT];simp only[ez,aP,aH,ai];exact y7 J) aa
  .rename_i len e s1 s2 iP aP;split at h
   case h_2=>cases h
   rename_i bp iU;split at h
   case h_2=>cases h
   rename_i a c aH ai;obtain⟨n,g1,h⟩:=ek h;obtain⟨v,J,aa⟩:=ek h;unfold cL at g1;split at g1
   case h_2=>cases g1
   split at g1
   case isFalse=>cases g1
   rename_i aN;cases g1;unfold mB at J;split at J
   case h_2=>cases J
   exact nj (by rw[aT];simp only[ez,aP,aH,ai];rw[xac aN];simp only[iU];exact Lj J) aa
  cases h
 .exact akE (by assumption) h
 .exact akF (by assumption) h
 .exact akG (by assumption) h
 .exact akM (by assumption) h
 .rename_i aT;exact YL (.inl aT) h
 .rename_i aT;exact YL (.inr aT) h
 .exact akN (by assumption) h
 .exact akO (by assumption) h
 .exact akP (by assumption) h
 .exact akQ (by assumption) h
 .rename_i t x aT;split at h
  case h_2=>cases h
  rename_i i af ay;obtain⟨cs,J,aa⟩:=Ld h;exact rH (by rw[aT];rfl) (by rw[aT];rfl) (by rw[aT];simp only[eu,J,ay]) aa
 .exact akH (by assumption) h
 .exact akI (by assumption) h
 .exact akL (by assumption) h
 .exact akK (by assumption) h
 .rename_i args dK aT;unfold Li at h;split at h
  case h_2=>cases h
  rename_i aR eH;obtain⟨v,J,aa⟩:=ek h;exact nj (by rw[aT];simp only[ez,BI eH];exact y7 J) aa
 .rename_i args dK aT;unfold Li at h;split at h
  case h_2=>cases h
  rename_i aR eH;obtain⟨v,J,aa⟩:=ek h;exact nj (by rw[aT];simp only[ez,BI eH];exact y7 J) aa
 exact qH h
end
section
variable{β:Type}
abbrev lY:=Tmp->FuncId->List D->Option D
def FL(G:dt)(C:lY)(σ:aM)(o:Oper)(x:Operand)(args:List Operand)(k:aM->Option β):Option β:=match wO (cg G σ.aO x)with
 |some (f,pre,post)=>match hK ((pre++args.map (cg G σ.aO)++post).map (toD σ.objs))with|some aR=>ab (C (o.dst.getD 9999) f aR) λr=>bu ((pre++args.map (cg G σ.aO)++post).all s8||r.flat) (k (σ.put o.dst (.d r)))|none=>none
 |none=>none
def YM:D->Option (FuncId×List D)
 | .fn (.func f) [] po=>some (f,po)| .val (.func (.func f) a b)=>if a.size=0/\b.size=0 then some (f,[])else none
 |_=>none
def Ll(f:FuncId)(aR:List D):List (FuncId×(List D->Option D))->Option D
 |[]=>none|(g,F)::r=>if f=g then F aR else Ll f aR r
def akS(l:List (FuncId×(List D->Option D)))(v:D)(aR:List D):Option D:=ab (YM v) λp=>Ll p.1 (aR++p.2) l
def YN(t:Tmp):List (Nat×List FuncId)->List FuncId
 |[]=>[]|(d,l)::r=>if t=d then l else YN t r
def QT(l:List FuncId)(G:dt)(C:lY)(σ:aM)(o:Oper)(x:Operand)(args:List Operand)(k:aM->Option β):Option β:=match cg G σ.aO x,hK ((args.map (cg G σ.aO)).map (toD σ.objs))with| .d v,some aR=>ab (akS (l.map λg=>(g,C (o.dst.getD 9999) g)) v aR) λr=>bu ((args.map (cg G σ.aO)).all s8||r.flat) (k (σ.put o.dst (.d r)))|_,_=>none
def y9(T:ch)(G:dt)(C:lY)(σ:aM)(o:Oper)(x:Operand)(args:List Operand)(k:aM->Option β):Option β:=match YN (o.dst.getD 9999) T.dyn with|[]=>FL G C σ o x args k|g::l=>QT (g::l) G C σ o x args k
def tk(T:ch)(G:dt)(C:lY)(σ:aM)(o:Oper)(k:aM->Option β):Option β:=match o.op with| .call ⟨.value x,args,_⟩=>y9 T G C σ o x args.toList k|_=>tj T G σ o k
def tl(T:ch)(G:dt)(C:lY):List Oper->aM->(aM->Option β)->Option β
 |[],σ,k=>k σ|o::r,σ,k=>tk T G C σ o λaZ=>tl T G C r aZ k
def w8:List Oper->List (Option (Nat×Bool)×List Oper)
 |[]=>[]
 |o::r=>match w8 r with
  |(g,os)::rest=>if g=o.guard then(g,o::os)::rest else(o.guard,[o])::(g,os)::rest
  |[]=>[(o.guard,[o])]
def dL(x:D)(want:Bool)(p:Option D):Option D:=match x with
 | .val (.bool b)=>if b=want then p else some kl
 | .val (.tuple _)=>some kl|_=>none
def za{eO:Type}(x:D)(want:Bool)(p q:Option eO):Option eO:=match x with
 | .val (.bool b)=>if b=want then p else q
 | .val (.tuple _)=>q|_=>none
def QU:List Oper->aM->aM
 |[],σ=>σ|o::r,σ=>QU r (σ.put o.dst (.d kl))
def w9:List Oper->Option Tmp
 |[]=>none|[o]=>o.dst|_::r=>w9 r
def dstsOf(os:List Oper):List Tmp:=os.filterMap (·.dst)
def still(o:Oper):Bool:=iV o.op||jv o.op||hM o.op
def xa(ts:List Tmp)(v:D)(σ:aM):aM:=⟨λt=>if t∈ts then .d (ae v (ts.idxOf t))else σ.aO t,σ.objs⟩
def FM(σ:aM):List Tmp->Option (List D)
 |[]=>some []|t::r=>match σ.aO t,FM σ r with| .d v,some l=>some (v::l)|_,_=>none
def kept(all:Array Oper)(os l:List Oper):List Tmp:=(dstsOf os).filter λt=>l.any λo=>(o.looksAt all).contains t
def YO{σ:aM}:∀{ts:List Tmp}{l:List D},FM σ ts=some l->l.length=ts.length/\∀(i:Nat)(t:Tmp),ts[i]?=some t->∃v,l[i]?=some v/\σ.aO t= .d v
 |[],l,h=>by cases h;exact⟨rfl,λi t h=>by simp at h⟩
 |t::r,l,h=>by
  unfold FM at h;split at h
  case h_2=>cases h
  rename_i v jT aS al;cases h;have ih:=YO al;refine⟨by simp[ih.1],λi u hu=>?_⟩;cases i with|zero=>simp at hu;subst hu;exact⟨v,rfl,aS⟩|succ i=>exact ih.2 i u (by simpa using hu)
def akT{σ:aM}{ts:List Tmp}{l:List D}(h:FM σ ts=some l){t:Tmp}(aP:t∈ts):σ.aO t= .d (ae (.agg l) (ts.idxOf t)):=by
 have J:ts[ts.idxOf t]?=some t:=by have:=List.idxOf_lt_length_of_mem aP;rw[xab this,List.getElem_idxOf]
 obtain⟨v,aa,ax⟩:=(YO h).2 _ t J;rw[ax]
 congr 1
 show v=l.getD _ _;simp[List.getD,aa]
def lZ(aR:List Tmp)(σ:aM):aM:=⟨λt=>if t∈aR then .any else σ.aO t,σ.objs⟩
def blind(all:Array Oper)(aR:List Tmp)(l:List Oper):Bool:=l.all λo=>aR.all λd=>!(o.looksAt all).contains d&&o.dst !=some d
def YP(all:Array Oper)(d cE:Tmp)(os l:List Oper):Bool:=os.all (λo=>still o&&o.dst !=some d)&&blind all ((dstsOf os).filter (·!=cE)) l
def flat(gs:List (Option (Nat×Bool)×List Oper)):List Oper:=gs.flatMap (·.2)
def zb(T:ch)(G:dt)(C:lY)(all:Array Oper):List (Option (Nat×Bool)×List Oper)->aM->(aM->Option β)->Option β
 |[],σ,k=>k σ|(none,os)::r,σ,k=>tl T G C os σ λaZ=>zb T G C all r aZ k
 |(some (j,want),os)::r,σ,k=>match(all[j]?).bind (·.dst),w9 os with
  |some d,some cE=>match σ.aO d with
   | .d x=>if YP all d cE os (flat r)=true then
     ab (dL x want (tl T G C os σ λaZ=>match aZ.aO cE with| .d v=>some v|_=>none)) λv=>zb T G C all r ((lZ (dstsOf os) σ).put (some cE) (.d v)) k
    else if os.all (λo=>o.dst !=some d)=true then za x want (tl T G C os σ λaZ=>zb T G C all r aZ k) (zb T G C all r (QU os σ) k)else none
   |_=>none
  |_,_=>none
def YQ(T:ch)(G:dt)(C:lY)(all:Array Oper)(σ:aM)(k:aM->Option β):Option β:=zb T G C all (w8 all.toList) σ k
def YR:Op->Bool
 | .store _ _ _=>true|_=>false
def QV(all:Array Oper)(listed:Array Bool)(i:Nat):Bool:=match all[i]? with|none=>false|some fk=>((waits all i).all λj=>!listed.getD j true&&match all[j]? with|some db=>db.after.any λe=>Region.binds .any e&&(e.on==i||(waits all i).contains e.on)|none=>false)&&(List.range all.size).all λj=>j==i||listed.getD j true||(waits all i).contains j||match all[j]? with|some db=>fk.apart all db&&!YR db.op|none=>true
def YS(all:Array Oper)(listed:Array Bool)(i:Nat)(σ:aM)(o:Oper):Bool:=match o.op with
 | .load _ (.tmp a)=>match σ.aO a with| .ptr _ _=>QV all listed i|_=>false
 |_=>false
def zc(all:Array Oper)(listed:Array Bool)(i:Nat):List Oper:=(List.range all.size).filterMap λj=>if j==i||listed.getD j true||(waits all i).contains j then none else all[j]?
def QW(all:Array Oper)(listed:Array Bool)(i:Nat)(aO:Nat->aX)(o:Oper):Bool:=((waits all i).all λj=>!listed.getD j true&&match all[j]? with|some db=>db.after.any λe=>Region.binds .any e&&(e.on==i||(waits all i).contains e.on)|none=>false)&&(zc all listed i).all λy=>o.apart all y&&th aO o y&&(nc o.op++(zc all listed i).flatMap λy=>u7 y.op).all λt=>y.dst !=some t
def Cl(T:ch)(G:dt)(C:lY)(all:Array Oper):List Nat->Array Bool->aM->(aM->Option β)->Option β
 |[],listed,σ,k=>if(Region.ready .any all listed).isEmpty=true then k σ else none
 |i::r,listed,σ,k=>match all[i]? with
  |some o=>if o.guard=none/\(Region.ready .any all listed).contains i=true/\(ajm all listed i||YS all listed i σ o||QW all listed i σ.aO o||X1 T all listed i)=true then tk T G C σ o λaZ=>Cl T G C all r (listed.setIfInBounds i true) aZ k else none
  |none=>none
def hy(P:Program)(G:dt)(C:lY):Prop:=∀d f aR r,C d f aR=some r->fz P G f aR (·=r)
def xb:∀l:List Oper,flat (w8 l)=l
 |[]=>rfl
 |o::r=>by
  have ih:=xb r;unfold w8;split;.rename_i g os rest bQ;rw[bQ]at ih;split<;>simp_all [flat]
  rename_i bQ;rw[bQ]at ih;simp[flat]at ih;subst ih;rfl
def Lm:∀(l:List Oper)(g:Option (Nat×Bool)) (os:List Oper),(g,os)∈w8 l->∀o∈os,o.guard=g
 |[],g,os,h=>by cases h
 |o::r,g,os,h=>by
  have ih:=Lm r;unfold w8 at h;split at h
  .rename_i ru akU rest bQ;split at h
   .rename_i he;rcases xal.1 h with J|J
    .cases J;intro q bM;rcases xal.1 bM with rfl|bM
     .exact he.symm
     exact ih g akU (by rw[bQ];simp) q bM
    exact ih g os (by rw[bQ];simp[J])
   rcases xal.1 h with J|J;.cases J;intro q bM;simp at bM;subst bM;rfl
   exact ih g os (by rw[bQ];exact J)
  simp at h;obtain⟨rfl,rfl⟩:=h;intro q bM;simp at bM;subst bM;rfl
variable{P:Program}{T:ch}{G:dt}{C:lY}{σ:aM}{all:Array Oper}
def YT{α:Type}:∀{a b:List (Option α)} {x y:List α},hK a=some x->hK b=some y->hK (a++b)=some (x++y)
 |[],b,x,y,h,bC=>by cases h;exact bC
 |none::a,b,x,y,h,bC=>by cases h
 |some c::a,b,x,y,h,bC=>by
  simp only[hK,xbt]at h⊢;split at h
  case h_2=>cases h
  rename_i z J;cases h;rw[YT J bC];rfl
def YU{objs:cx}:∀(l:List D),hK ((l.map aX.d).map (toD objs))=some l
 |[]=>rfl|c::r=>by have:=YU (objs:=objs) r;have e:toD objs (aX.d c)=some c:=rfl;simp only[xau,e,hK];rw[this]
def YV{f:FuncId}{aR:List D}{C:FuncId->List D->Option D}{r:D}:∀{l:List FuncId},Ll f aR (l.map λg=>(g,C g))=some r->C f aR=some r
 |[],h=>by cases h
 |g::l,h=>by
  simp only[xau,Ll]at h;split at h;.rename_i e;rw[e];exact h
  exact YV h
def akV{l:List FuncId}{o:Oper}{x:Operand}{args:List Operand}{k:aM->Option β}{b:β}(h:QT l G C σ o x args k=some b):FL G C σ o x args k=some b:=by
 unfold QT at h;split at h
 case h_2=>cases h
 rename_i v aR aS eH;obtain⟨r,J,aa⟩:=ek h;obtain⟨p,ax,bh⟩:=ek J;have b9:=YV (C:=C (o.dst.getD 9999)) bh;obtain⟨f,po⟩:=p;have hc:wO (.d v)=some (f,[],po.map .d):=by
  unfold YM at ax;split at ax;.cases ax;rfl
  .split at ax;.rename_i fg;cases ax;simp only[wO,xac fg,xbc]
   cases ax
  cases ax
 unfold FL;rw[aS,hc];simp only[xaM,List.map_append];rw[YT eH (YU po)];simp only;rw[b9];obtain⟨g1,g2⟩:=lW aa;have ft:((args.map (cg G σ.aO))++po.map aX.d).all s8=(args.map (cg G σ.aO)).all s8:=by
  rw[List.all_append];have:(po.map aX.d).all s8=true:=by rw[xax];intro y aE;obtain⟨c,_,rfl⟩:=xaO.1 aE;rfl
  rw[this,xbu]
 rw[ft];exact aa
def akW{o:Oper}{x:Operand}{args:List Operand}{k:aM->Option β}{b:β}(h:y9 T G C σ o x args k=some b):FL G C σ o x args k=some b:=by
 unfold y9 at h;split at h;.exact h
 exact akV h
def Ln(cn:hy P G C){dY:ch}{o:Oper}{x:Operand}{args:Array Operand}{dK:Array TypeId}(aT:o.op= .call ⟨.value x,args,dK⟩){k:aM->Option β}{b:β}(h:y9 dY G C σ o x args.toList k=some b):df P T G o (λaZ=>k aZ=some b/\aZ.objs=σ.objs/\∀t,o.dst≠some t->aZ.aO t=σ.aO t) σ:=by
 have ea:hM o.op=true:=by rw[aT];rfl
 rw[oj (uY ea)]
 replace h:=akW h
 unfold FL at h;unfold jK;rw[aT];simp only;split at h
 case h_2=>cases h
 rename_i f pre post hc;simp only[hc];split at h
 case h_2=>cases h
 rename_i aR eH;obtain⟨r,J,aa⟩:=ek h;obtain⟨aa,ax⟩:=lW aa;refine⟨aR,aR,(·=r),eH,rp.refl _,cn _ _ _ _ J,⟨r,rfl⟩,?_,?_⟩
 .rcases xbI.1 aa with aa|aa;.exact .inr aa
  exact .inl (by rintro _ rfl;exact aa)
 rintro _ rfl;refine⟨ax,by simp,?_⟩;intro t aP;cases ay:o.dst with|none=>rfl|some d=>rw[ay]at aP;simp only[aM.put];exact c5 _ _ (λe=>aP (by rw[e]))
def YW(cn:hy P G C){o:Oper}{k:aM->Option β}{b:β}(h:tk T G C σ o k=some b):df P T G o (λaZ=>k aZ=some b) σ:=by
 unfold tk at h;split at h;.exact qC (λ_ h=>h.1) (Ln cn (by assumption) h)
 obtain⟨aZ,J,aa⟩:=y8 h;unfold df;rw[J];exact aa
def rI{dst:Option Tmp}{r:aX}{t:Tmp}(aP:dst≠some t):(σ.put dst r).aO t=σ.aO t:=by cases dst with|none=>rfl|some d=>simp only[aM.put];exact c5 _ _ (λe=>aP (by rw[e]))
def YX(cn:hy P G C){o:Oper}(aC:still o=true){k:aM->Option β}{b:β}(h:tk T G C σ o k=some b):df P T G o (λaZ=>k aZ=some b/\aZ.objs=σ.objs/\∀t,o.dst≠some t->aZ.aO t=σ.aO t) σ:=by
 unfold tk at h;split at h;.exact Ln cn (by assumption) h
 rename_i YY;obtain⟨aZ,J,aa⟩:=y8 h;unfold df;rw[J];have akX:hv T (cg G σ.aO) σ.objs (o.dst.getD 9999) o.op=none:=by
  unfold still at aC;simp only[xbh]at aC;rcases aC with(aC|aC)|aC
  .exact(B2 aC).2
  .exact B3 aC
  exact(Qf aC).2.2
 unfold hb at J;split at J;.cases J;exact⟨aa,by simp,λt aP=>rI aP⟩
 split at J;.cases J;exact⟨aa,by simp,λt aP=>rI aP⟩
 rw[akX]at J;cases J
def nk{l:List Oper}:∀{σ:aM}{K K':aM->Prop},(∀σ,K σ->K' σ)->fO P T G all l K σ->fO P T G all l K' σ:=by
 induction l with
 |nil=>intro σ K K' ah h;exact ah _ h
 |cons o l ih=>intro σ K K' ah h;exact Ft (λaZ bC=>ih ah bC) h
def QX{l r:List Oper}:∀{σ:aM}{K:aM->Prop},fO P T G all l (fO P T G all r K) σ->fO P T G all (l++r) K σ:=by
 induction l with
 |nil=>intro σ K h;exact h
 |cons o l ih=>intro σ K h;exact Ft (λaZ bC=>ih bC) h
def pq(σ τ:aM):Prop:=σ.objs=τ.objs/\∀t,τ.aO t= .any\/σ.aO t=τ.aO t
theorem pq.refl(σ:aM):pq σ σ:=⟨rfl,λ_=> .inr rfl⟩
def pq.trans{σ τ yZ:aM}(h:pq σ τ)(bC:pq τ yZ):pq σ yZ:=by
 refine⟨h.1.trans bC.1,λt=>?_⟩;rcases bC.2 t with aa|aa
 .exact .inl aa
 rcases h.2 t with J|J;.exact .inl (aa▸J)
 exact .inr (J.trans aa)
def pq.Cm{σ τ:aM}(h:pq σ τ):hl σ τ:=by
 obtain⟨s,o⟩:=σ;obtain⟨s',o'⟩:=τ;obtain⟨J,aa⟩:=h;simp only at J aa;subst J;intro m fr ρ ac w cH;refine⟨m,ρ,Mem.le_refl m,⟨cH.mem,cH.frame,cH.apart,cH.one,?_,cH.objs,cH.own,cH.sep⟩,λk ah aj=>⟨aj,rfl⟩⟩;intro t;rcases aa t with h|h;.simp only[h];exact .any _
 have:=cH.aO t;simp only at this⊢;rw[<-h];exact this
def YZ{d:Tmp}{r:aX}:∀{l:List Oper}{σ:aM}{K:aM->Prop},(∀o∈l,d∉o.looksAt all/\o.dst≠some d)->fO P T G all l K (σ.put (some d) r)=fO P T G all l (λaZ=>K (aZ.put (some d) r)) σ
 |[],σ,K,h=>rfl
 |o::l,σ,K,h=>by
  have au:=h o (by simp);have ih:∀{σ:aM},fO P T G all l K (σ.put (some d) r)=fO P T G all l (λaZ=>K (aZ.put (some d) r)) σ:=YZ λo' ph=>h o' (by simp[ph]);unfold fO;rw[hW,hW,pd (by rintro _ ⟨⟩;exact au.1)];cases hw:jV all σ o with
  |none=>rfl
  |some w=>
   cases w with
   |true=>simp only;rw[jL (all:=all) (by rintro _ ⟨⟩;exact au.1) (by rintro _ ⟨⟩;exact au.2)];simp only[ih]
   |false=>simp only;rw[<-ih,put_comm (by rintro _ ⟨⟩;exact au.2)]
def akY{d:Tmp}{a:aX}{l:List Oper}{σ:aM}{K:aM->Prop}(hx:∀σ τ,pq σ τ->K τ->K σ)(al:∀o∈l,d∉o.looksAt all/\o.dst≠some d)(h:fO P T G all l K (σ.put (some d) .any)):fO P T G all l K (σ.put (some d) a):=by
 rw[YZ al]at h⊢;refine nk (λaZ bC=>hx _ _ ?_ bC) h;refine⟨rfl,λt=>?_⟩;by_cases aP:t=d;.subst aP;exact .inl (by simp[aM.put])
 exact .inr (by simp[aM.put,c5 _ _ aP])
def QY{l:List Oper}{K:aM->Prop}(hx:∀σ τ,pq σ τ->K τ->K σ):∀(aR:List Tmp){σ τ:aM},(∀d∈aR,∀o∈l,d∉o.looksAt all/\o.dst≠some d)->(∀t,t∉aR->σ.aO t=τ.aO t)->(∀d∈aR,τ.aO d= .any\/σ.aO d=τ.aO d)->σ.objs=τ.objs->fO P T G all l K τ->fO P T G all l K σ
 |[],σ,τ,_,J,aa,ax,h=>by
  have:σ=τ:=by
   cases σ;cases τ;simp only at J ax;subst ax
   congr 1
   funext t
   exact J t (by simp)
  rw[this];exact h
 |d::aR,σ,τ,aj,J,aa,ax,h=>by
  by_cases ay:τ.aO d= .any
  .have e:τ=τ.put (some d) .any:=by
    cases τ;simp only[aM.put]
    congr 1
    funext t
    by_cases aP:t=d;.subst aP;simp only[e1];exact ay
    rw[c5 _ _ aP]
   rw[e]at h;have bC:=akY (a:=σ.aO d) hx (λo aT=>aj d (by simp) o aT) h;refine QY (τ:=τ.put (some d) (σ.aO d)) hx aR (λkm jh=>aj km (by simp[jh])) ?_ ?_ ax bC
   .intro t aP;by_cases vb:t=d;.subst vb;simp[aM.put]
    simp only[aM.put,c5 _ _ vb];exact J t (by simp[vb,aP])
   intro km jh;by_cases vb:km=d;.subst vb;simp[aM.put]
   simp only[aM.put,c5 _ _ vb];exact aa km (by simp[jh])
  refine QY hx aR (λkm jh=>aj km (by simp[jh])) ?_ (λkm jh=>aa km (by simp[jh])) ax h;intro t aP;by_cases vb:t=d
  .subst vb;rcases aa t (by simp)with bh|bh
   .exact absurd bh ay
   exact bh
  exact J t (by simp[vb,aP])
def Y0(cn:hy P G C):∀{os:List Oper}{σ:aM}{k:aM->Option β}{b:β},(∀o∈os,o.guard=none)->tl T G C os σ k=some b->fO P T G all os (λaZ=>k aZ=some b) σ
 |[],σ,k,b,_,h=>h|o::os,σ,k,b,bQ,h=>by unfold fO eA;rw[bQ o (by simp)];exact qC (λaZ bC=>Y0 cn (λo aT=>bQ o (by simp[aT])) bC) (YW cn h)
def Y1(cn:hy P G C){j:Nat}{want:Bool}{d:Tmp}(ay:(all[j]?).bind (·.dst)=some d):∀{os:List Oper}{σ:aM}{k:aM->Option β}{b:β},(∀o∈os,o.guard=some (j,want))->(∀o∈os,still o=true/\o.dst≠some d)->σ.aO d= .d (.val (.bool want))->tl T G C os σ k=some b->fO P T G all os (λaZ=>k aZ=some b/\aZ.objs=σ.objs/\∀t,t∉dstsOf os->aZ.aO t=σ.aO t) σ
 |[],σ,k,b,_,_,_,h=>⟨h,rfl,λ_ _=>rfl⟩
 |o::os,σ,k,b,bQ,aC,hw,h=>by
  have au:=aC o (by simp);unfold fO eA;rw[bQ o (by simp)];simp only[ay,hw,xaF];refine qC ?_ (YX cn au.1 h);rintro aZ ⟨J,aa,ax⟩;refine nk ?_ (Y1 cn ay (λo aT=>bQ o (by simp[aT])) (λo aT=>aC o (by simp[aT])) (by rw[ax d au.2];exact hw) J);rintro rD ⟨g1,g2,g3⟩;refine⟨g1,g2.trans aa,?_⟩;intro t aP;have p6:t∉dstsOf os:=λai=>aP (by unfold dstsOf at ai⊢;simp only[xbU];cases o.dst<;>simp[ai])
  have zd:o.dst≠some t:=λai=>aP (by unfold dstsOf;simp[ai]);rw[g3 t p6,ax t zd]
def FN{j:Nat}{want:Bool}{d:Tmp}(ay:(all[j]?).bind (·.dst)=some d):∀{os:List Oper}{σ:aM},(∀o∈os,o.guard=some (j,want))->(∀o∈os,o.dst≠some d)->(σ.aO d= .d (.val (.bool (!want)))\/∃vs,σ.aO d= .d (.val (.tuple vs)))->fO P T G all os (λaZ=>aZ.objs=σ.objs/\(∀t,t∉dstsOf os->aZ.aO t=σ.aO t)/\∀cE,w9 os=some cE->aZ.aO cE= .d kl) σ
 |[],σ,_,_,_=>⟨rfl,λ_ _=>rfl,by intro cE h;cases h⟩
 |o::os,σ,bQ,aC,hw=>by
  have au:=aC o (by simp);unfold fO;have key:fO P T G all os (λaZ=>aZ.objs=σ.objs/\(∀t,t∉dstsOf (o::os)->aZ.aO t=σ.aO t)/\∀cE,w9 (o::os)=some cE->aZ.aO cE= .d kl) (σ.put o.dst (.d (.val (.tuple #[])))):=by
   have FO:(σ.put o.dst (.d (.val (.tuple #[])))).aO d= .d (.val (.bool (!want)))\/∃vs,(σ.put o.dst (.d (.val (.tuple #[])))).aO d= .d (.val (.tuple vs)):=by rw[rI au];exact hw
   refine nk ?_ (FN ay (λo aT=>bQ o (by simp[aT])) (λo aT=>aC o (by simp[aT])) FO);rintro aZ ⟨J,aa,ax⟩;refine⟨J.trans (by simp),?_,?_⟩
   .intro t aP;have p6:t∉dstsOf os:=λai=>aP (by
     unfold dstsOf at ai⊢;simp only[xbU];cases o.dst<;>simp[ai])
    have zd:o.dst≠some t:=λai=>aP (by unfold dstsOf;simp[ai]);rw[aa t p6,rI zd]
   intro cE al;cases os with|nil=>simp only[w9]at al;rw[aa cE (by simp[dstsOf]),al];simp[aM.put,kl]|cons q aBq=>exact ax cE al
  unfold eA;rw[bQ o (by simp)];simp only[ay];rcases hw with hw|⟨vs,hw⟩
  .simp only[hw];rw[xae (by cases want<;>simp)];exact key
  simp only[hw];exact key
def QZ{j:Nat}{want:Bool}{d:Tmp}(ay:(all[j]?).bind (·.dst)=some d):∀{os:List Oper}{σ:aM},(∀o∈os,o.guard=some (j,want))->(∀o∈os,o.dst≠some d)->(σ.aO d= .d (.val (.bool (!want)))\/∃vs,σ.aO d= .d (.val (.tuple vs)))->fO P T G all os (λaZ=>aZ.objs=σ.objs/\(∀t,t∉dstsOf os->aZ.aO t=σ.aO t)/\∀t∈dstsOf os,aZ.aO t= .d kl) σ
 |[],σ,_,_,_=>⟨rfl,λ_ _=>rfl,by intro t h;cases h⟩
 |o::os,σ,bQ,aC,hw=>by
  have au:=aC o (by simp);unfold fO;have key:fO P T G all os (λaZ=>aZ.objs=σ.objs/\(∀t,t∉dstsOf (o::os)->aZ.aO t=σ.aO t)/\∀t∈dstsOf (o::os),aZ.aO t= .d kl) (σ.put o.dst (.d (.val (.tuple #[])))):=by
   have FO:(σ.put o.dst (.d (.val (.tuple #[])))).aO d= .d (.val (.bool (!want)))\/∃vs,(σ.put o.dst (.d (.val (.tuple #[])))).aO d= .d (.val (.tuple vs)):=by rw[rI au];exact hw
   refine nk ?_ (QZ ay (λo aT=>bQ o (by simp[aT])) (λo aT=>aC o (by simp[aT])) FO);rintro aZ ⟨J,aa,ax⟩;refine⟨J.trans (by simp),?_,?_⟩
   .intro t aP;have p6:t∉dstsOf os:=λai=>aP (by
     unfold dstsOf at ai⊢;simp only[xbU];cases o.dst<;>simp[ai])
    have zd:o.dst≠some t:=λai=>aP (by unfold dstsOf;simp[ai]);rw[aa t p6,rI zd]
   intro t aP;by_cases p6:t∈dstsOf os;.exact ax t p6
   have jj:o.dst=some t:=by
    unfold dstsOf at aP p6;simp only[xbU]at aP;cases aT:o.dst with
    |none=>rw[aT]at aP;exact absurd aP p6
    |some u=>
     rw[aT]at aP;rcases xal.1 aP with rfl|h
     .rfl
     exact absurd h p6
   rw[aa t p6,jj];simp[aM.put,kl]
  unfold eA;rw[bQ o (by simp)];simp only[ay];rcases hw with hw|⟨vs,hw⟩
  .simp only[hw];rw[xae (by cases want<;>simp)];exact key
  simp only[hw];exact key
def akZ(cn:hy P G C){o:Oper}{k:aM->Option β}{b:β}(h:tk T G C σ o k=some b):df P T G o (λaZ=>k aZ=some b/\∀t,o.dst≠some t->aZ.aO t=σ.aO t) σ:=by
 unfold tk at h;split at h;.exact qC (λ_ h=>⟨h.1,h.2.2⟩) (Ln cn (by assumption) h)
 obtain⟨aZ,J,aa⟩:=y8 h;unfold df;rw[J];refine⟨aa,λt aP=>?_⟩;unfold hb at J;split at J;.cases J;exact rI aP
 split at J;.cases J;exact rI aP
 split at J;.cases J;exact rI aP
 cases J
def Y2(cn:hy P G C){j:Nat}{want:Bool}{d:Tmp}(ay:(all[j]?).bind (·.dst)=some d):∀{os:List Oper}{σ:aM}{k:aM->Option β}{b:β},(∀o∈os,o.guard=some (j,want))->(∀o∈os,o.dst≠some d)->σ.aO d= .d (.val (.bool want))->tl T G C os σ k=some b->fO P T G all os (λaZ=>k aZ=some b) σ
 |[],σ,k,b,_,_,_,h=>h|o::os,σ,k,b,bQ,aC,hw,h=>by unfold fO eA;rw[bQ o (by simp)];simp only[ay,hw,xaF];refine qC ?_ (akZ cn h);rintro aZ ⟨J,ax⟩;exact Y2 cn ay (λo aT=>bQ o (by simp[aT])) (λo aT=>aC o (by simp[aT])) (by rw[ax d (aC o (by simp))];exact hw) J
def Q0{j:Nat}{want:Bool}{d:Tmp}(ay:(all[j]?).bind (·.dst)=some d){K:aM->Prop}:∀{os:List Oper}{σ:aM},(∀o∈os,o.guard=some (j,want))->(∀o∈os,o.dst≠some d)->(σ.aO d= .d (.val (.bool (!want)))\/∃vs,σ.aO d= .d (.val (.tuple vs)))->K (QU os σ)->fO P T G all os K σ
 |[],σ,_,_,_,h=>h
 |o::os,σ,bQ,aC,hw,h=>by
  have au:=aC o (by simp);have FO:(σ.put o.dst (.d (.val (.tuple #[])))).aO d= .d (.val (.bool (!want)))\/∃vs,(σ.put o.dst (.d (.val (.tuple #[])))).aO d= .d (.val (.tuple vs)):=by rw[rI au];exact hw
  have key:fO P T G all os K (σ.put o.dst (.d (.val (.tuple #[])))):=Q0 ay (λo aT=>bQ o (by simp[aT])) (λo aT=>aC o (by simp[aT])) FO h;unfold fO eA;rw[bQ o (by simp)];simp only[ay];rcases hw with hw|⟨vs,hw⟩
  .simp only[hw];rw[xae (by cases want<;>simp)];exact key
  simp only[hw];exact key
def Y3:∀{os:List Oper}{cE:Tmp},w9 os=some cE->cE∈dstsOf os
 |[],cE,h=>by cases h
 |[o],cE,h=>by simp only[w9]at h;simp[dstsOf,h]|o::q::r,cE,h=>by have:=Y3 (os:=q::r) h;unfold dstsOf at this⊢;rw[xbU];cases o.dst<;>simp[this]
def Cn(cn:hy P G C){K:aM->Prop}(hx:∀σ τ,pq σ τ->K τ->K σ):∀{gs:List (Option (Nat×Bool)×List Oper)} {σ:aM} {k:aM->Option β} {b:β},(∀g∈gs,∀o∈g.2,o.guard=g.1)->(∀aZ,k aZ=some b->K aZ)->zb T G C all gs σ k=some b->fO P T G all (flat gs) K σ
 |[],σ,k,b,_,ah,h=>ah _ h|(none,os)::r,σ,k,b,bQ,ah,h=>by show fO P T G all (os++flat r) K σ;refine QX (nk ?_ (Y0 cn (λo aT=>bQ (none,os) (by simp) o aT) h));intro aZ bC;exact Cn cn hx (λg hm=>bQ g (by simp[hm])) ah bC
 |(some (j,want),os)::r,σ,k,b,bQ,ah,h=>by
  show fO P T G all (os++flat r) K σ;unfold zb at h;split at h
  case h_2=>cases h
  rename_i d cE ay ze;split at h
  case h_2=>cases h
  rename_i x ad;split at h
  case isFalse=>
   split at h
   case isFalse=>cases h
   rename_i gq;simp only[xax,bne_iff_ne,ne_eq]at gq;have mx:∀o∈os,o.guard=some (j,want):=λo aT=>bQ (some (j,want),os) (by simp) o aT;unfold za at h;refine QX ?_;split at h
   .rename_i og;split at h;.rename_i aj;subst aj;exact nk (λaZ bC=>Cn cn hx (λg hm=>bQ g (by simp[hm])) ah bC) (Y2 cn ay mx gq ad h)
    rename_i aj;exact Q0 ay mx gq (.inl (by rw[ad];cases og<;>cases want<;>simp_all)) (Cn cn hx (λg hm=>bQ g (by simp[hm])) ah h)
   .exact Q0 ay mx gq (.inr ⟨_,ad⟩) (Cn cn hx (λg hm=>bQ g (by simp[hm])) ah h)
   cases h
  rename_i bD;simp only[YP,xao,xax,bne_iff_ne,ne_eq,blind,xcc,Bool.not_eq_true',List.contains_eq_mem,decide_eq_false_iff_not]at bD;obtain⟨Q1,ak0⟩:=bD;obtain⟨v,J,aa⟩:=ek h;have mx:∀o∈os,o.guard=some (j,want):=λo aT=>bQ (some (j,want),os) (by simp) o aT;have rest:=Cn cn hx (λg hm=>bQ g (by simp[hm])) ah aa;have fin:∀aZ:aM,aZ.objs=σ.objs->(∀t,t∉dstsOf os->aZ.aO t=σ.aO t)->aZ.aO cE= .d v->fO P T G all (flat r) K aZ:=by
   intro aZ aL a7 bV;refine QY hx ((dstsOf os).filter (·!=cE)) ?_ ?_ ?_ ?_ rest;.intro km jh o aT;have FP:=xcc.1 jh;exact ak0 o aT km ⟨FP.1,by simpa using FP.2⟩
   .intro t aP;simp only[xcc,bne_iff_ne,ne_eq,not_and,Decidable.not_not]at aP;by_cases nQ:t=cE;.subst nQ;simp[aM.put,bV]
    have gP:t∉dstsOf os:=λai=>nQ (aP ai);simp only[aM.put,c5 _ _ nQ,lZ,gP,xaH];exact a7 t gP
   .intro km jh;have FP:=xcc.1 jh;have cp:km≠cE:=by simpa using FP.2
    refine .inl ?_;simp only[aM.put,c5 _ _ cp,lZ,FP.1,xaF]
   simp[aM.put,lZ,aL]
  unfold dL at J;refine QX ?_;split at J
  .rename_i og;split at J
   .rename_i aj;subst aj;refine nk ?_ (Y1 cn ay mx Q1 ad J);rintro aZ ⟨g1,g2,g3⟩;refine fin aZ g2 g3 ?_;split at g1;.rename_i u hu;cases g1;exact hu
    cases g1
   rename_i aj;cases J;refine nk ?_ (FN ay mx (λo aT=>(Q1 o aT).2) (.inl (by rw[ad];cases og<;>cases want<;>simp_all)));rintro aZ ⟨g1,g2,g3⟩;exact fin aZ g1 g2 (g3 cE ze)
  .rename_i vs;cases J;refine nk ?_ (FN ay mx (λo aT=>(Q1 o aT).2) (.inr ⟨_,ad⟩));rintro aZ ⟨g1,g2,g3⟩;exact fin aZ g1 g2 (g3 cE ze)
  cases J
def ak1{i:Nat}{fk:Oper}{listed:Array Bool}(af:all[i]?=some fk)(h:QV all listed i=true):(∀j db,j∈waits all i->all[j]?=some db->∃e∈db.after,Region.binds .any e=true/\(e.on=i\/e.on∈waits all i))/\(∀j,j∈waits all i->listed.getD j true=false)/\ ∀j db,all[j]?=some db->j≠i->listed.getD j true=false->j∉waits all i->fk.apart all db=true/\∀t a x,db.op≠ .store t a x:=by
 simp only[QV,af,xao,xax,xbZ]at h;refine⟨λj db aB jy=>?_,λj aB=>by simpa using(h.1 j aB).1,λj db jy cp pg gP=>?_⟩;.have J:=(h.1 j aB).2;simp only[jy]at J;obtain⟨e,he,aj⟩:=Array.any_eq_true'.1 J;simp only[xao,xbh,xbP,List.contains_iff_mem]at aj;exact⟨e,he,aj.1,aj.2⟩
 have J:=h.2 j (xaP.1 jy).1;simp only[jy,xbh,xbP,cp,false_or,pg,xar,xao,List.contains_iff_mem,gP]at J;refine⟨J.1,?_⟩;intro t a x he;rw[he]at J;simp[YR]at J
def ak2{i:Nat}{fk:Oper}{listed:Array Bool}{aO:Nat->aX}(h:QW all listed i aO fk=true):(∀j db,j∈waits all i->all[j]?=some db->∃e∈db.after,Region.binds .any e=true/\(e.on=i\/e.on∈waits all i))/\(∀j,j∈waits all i->listed.getD j true=false)/\ ∀j db,all[j]?=some db->j≠i->listed.getD j true=false->j∉waits all i->fk.apart all db=true/\th aO fk db=true/\(∀t∈nc fk.op++(zc all listed i).flatMap (λy=>u7 y.op),db.dst≠some t)/\∀t∈u7 db.op,t∈nc fk.op++(zc all listed i).flatMap (λy=>u7 y.op):=by
 simp only[QW,xao,xax]at h;refine⟨λj db aB jy=>?_,λj aB=>by simpa using(h.1 j aB).1,λj db jy cp pg gP=>?_⟩;.have J:=(h.1 j aB).2;simp only[jy]at J;obtain⟨e,he,aj⟩:=Array.any_eq_true'.1 J;simp only[xao,xbh,xbP,List.contains_iff_mem]at aj;exact⟨e,he,aj.1,aj.2⟩
 have hm:db∈zc all listed i:=by
  unfold zc;rw[List.mem_filterMap];refine⟨j,by simpa using(xaP.1 jy).1,?_⟩;have:(j==i||listed.getD j true||(waits all i).contains j)=false:=by simp only[Bool.or_eq_false_iff,beq_eq_false_iff_ne,ne_eq];exact⟨⟨cp,pg⟩,by simpa using gP⟩
  rw[this];simpa using jy
 obtain⟨J,aa⟩:=h.2 db hm;refine⟨J.1,J.2,λt aP=>by simpa using aa t aP,λt aP=>xbN _ (List.mem_flatMap.2 ⟨db,hm,aP⟩)⟩
def Q2(cn:hy P G C){k:aM->Option β}{b:β}:∀(ord:List Nat)(listed:Array Bool)(σ:aM),Cl T G C all ord listed σ k=some b->jw P T G all (λaZ=>k aZ=some b) ord.length listed σ
 |[],listed,σ,h=>by
  unfold Cl at h;split at h;.rename_i av;exact⟨List.isEmpty_iff.1 av,h⟩
  cases h
 |i::r,listed,σ,h=>by
  unfold Cl at h;split at h
  case h_2=>cases h
  rename_i o af;split at h
  case isFalse=>cases h
  rename_i ai;obtain⟨bQ,av,bk⟩:=ai;have H:h6 P T G all i (jw P T G all (λaZ=>k aZ=some b) r.length (listed.setIfInBounds i true)) σ:=by unfold h6;simp only[af];unfold eA;simp only[bQ];exact qC (λaZ bC=>Q2 cn r _ aZ bC) (YW cn h)
  rcases xbI.1 bk with bk|bk
  case inr=>obtain⟨b0,bR,cw⟩:=Qm af bk;exact Ql af b0 r.length listed σ bR cw (by simpa using av) (.inr trivial) H
  rcases xbI.1 bk with bk|bk
  case inr=>obtain⟨b0,bR,cw⟩:=ak2 bk;exact akq af bQ b0 (s0:=σ.aO) (L:=nc o.op++(zc all listed i).flatMap (λy=>u7 y.op)) (λt aP=>xaX _ aP) r.length listed σ (λ_ _=>rfl) bR cw (by simpa using av) H
  rcases xbI.1 bk with bk|bk;.obtain⟨b0,bR,cw⟩:=ajn af bk;exact ajl af b0 r.length listed σ bR cw (by simpa using av) (.inr trivial) H
  unfold YS at bk;split at bk
  case h_2=>cases bk
  rename_i t a aT;split at bk
  case h_2=>cases bk
  rename_i cV off aC;obtain⟨b0,bR,cw⟩:=ak1 af bk;exact aj4 af aT bQ b0 r.length listed σ aC bR cw (by simpa using av) H
def ak3(cn:hy P G C){K:aM->Prop}(hx:∀σ τ,pq σ τ->K τ->K σ){k:aM->Option β}{b:β}(ah:∀aZ,k aZ=some b->K aZ)(h:YQ T G C all σ k=some b):fO P T G all all.toList K σ:=by
 have:=Cn (P:=P) cn hx (λg hm o aT=>Lm _ _ _ hm o aT) ah h
 rwa [xb]at this
end
inductive qI where
 |any
 |d
 |Lo (f:FuncId)
 |fd (f:FuncId) (m:Nat)
 |ed (off:Nat)
 |ptr (k:Key) (off:Nat)
 |row (k:Key)
 |map (k:Key)
 |sub (k:Key) (cV:Nat)
inductive SW where
 |b (s:qI)
 |fn (f:Fn) (first cap:List qI)
 |agg (cs:List qI)
 |a6 (cs:List qI)
inductive l0 where
 |dead
 |box (cs:List SW)
 |row (k:Nat)
 |map
inductive xc where
 |slot (t K n:Nat)
 |box (k i K n:Nat)
 |all (t cV:Nat)
structure rJ where
 aO:List (Nat×SW)
 objs:List (Key×l0)
 p7:List xc
def bb(ls:List D)(n:Nat):D:=ls.getD n kl
def Q3:D->Nat
 | .val (.int _ n)=>n.toNat|_=>0
def xd(ls:List D):qI->Nat->aX×Nat
 | .any,n=>(.any,n)| .d,n=>(.d (bb ls n),n+1)| .Lo f,n=>(.d (.val (.func (.func f) #[] #[])),n)| .fd f m,n=>(.d (.fn (.func f) [] ((List.range m).map λi=>bb ls (n+i))),n+m)| .ed off,n=>(.ed (lA (bb ls n)) off,n+1)| .ptr k off,n=>(.ptr k off,n)| .row k,n=>(.row k,n)| .map k,n=>(.map k,n)| .sub k cV,n=>(.sub k cV (Q3 (bb ls n)) (Q3 (bb ls (n+1))),n+2)
def pr(ls:List D):List qI->Nat->List aX×Nat
 |[],n=>([],n)|s::r,n=>((xd ls s n).1::(pr ls r (xd ls s n).2).1,(pr ls r (xd ls s n).2).2)
def p8(ls:List D):SW->Nat->aX×Nat
 | .b s,n=>xd ls s n| .fn f first cap,n=>(.fn f (pr ls first n).1 (pr ls cap (pr ls first n).2).1,(pr ls cap (pr ls first n).2).2)
 | .agg cs,n=>(.agg (pr ls cs n).1,(pr ls cs n).2)| .a6 cs,n=>(.a6 (pr ls cs n).1,(pr ls cs n).2)
def rK(ls:List D):List SW->Nat->List aX×Nat
 |[],n=>([],n)|s::r,n=>((p8 ls s n).1::(rK ls r (p8 ls s n).2).1,(rK ls r (p8 ls s n).2).2)
def zf(ls:List D):l0->Nat->cU×Nat
 | .dead,n=>(.dead,n)| .box cs,n=>(.box (rK ls cs n).1,(rK ls cs n).2)| .row k,n=>(.row k (ba (bb ls n)),n+1)| .map,n=>(.map (gR (bb ls n)),n+1)
def xe(ls:List D):List (Nat×SW)->Nat->List (Nat×aX)×Nat
 |[],n=>([],n)|(t,s)::r,n=>((t,(p8 ls s n).1)::(xe ls r (p8 ls s n).2).1,(xe ls r (p8 ls s n).2).2)
def ps(ls:List D):List (Key×l0)->Nat->List (Key×cU)×Nat
 |[],n=>([],n)|(t,s)::r,n=>((t,(zf ls s n).1)::(ps ls r (zf ls s n).2).1,(ps ls r (zf ls s n).2).2)
def restore(gd:rJ)(ls:List D):aM:=X9 (xe ls gd.aO 0).1 (ps ls gd.objs (xe ls gd.aO 0).2).1
def Y4:aX->qI->List (Key×Key)
 | .ptr k _,.ptr bF _=>[(bF,k)]| .row k,.row bF=>[(bF,k)]| .map k,.map bF=>[(bF,k)]| .sub k _ _ _,.sub bF _=>[(bF,k)]|_,_=>[]
def FQ:List aX->List qI->List (Key×Key)
 |x::xs,s::ho=>Y4 x s++FQ xs ho|_,_=>[]
def Y5:aX->SW->List (Key×Key)
 |x,.b s=>Y4 x s| .fn _ as jJ,.fn _ ho ts=>FQ as ho++FQ jJ ts| .agg cs,.agg ho=>FQ cs ho| .a6 cs,.a6 ho=>FQ cs ho|_,_=>[]
def Lp:List aX->List SW->List (Key×Key)
 |x::xs,s::ho=>Y5 x s++Lp xs ho|_,_=>[]
def Y6(σ:aM):List (Nat×SW)->List (Key×Key)
 |[]=>[]|(t,s)::r=>Y5 (σ.aO t) s++Y6 σ r
def Co(σ:aM):List (Key×l0)->List (Key×Key)->List (Key×Key)
 |[],cj=>cj|(k,.box ho)::r,cj=>match σ.objs (gb cj k)with|some (.box xs)=>Co σ r (cj++Lp xs ho)|_=>Co σ r cj
 |_::r,cj=>Co σ r cj
def Lq(cj:List (Key×Key))(ks:List Key):aX->qI->Option (List D)
 |_,.any=>some []|x,.d=>(K1 x).map λa=>[a]| .d (.val (.func (.func f) a b)),.Lo kJ=>if f=kJ/\a.size=0/\b.size=0 then some []else none
 | .d (.fn (.func kJ) first po),.fd f m=>if kJ=f/\first.isEmpty=true/\po.length=m then some po else none
 | .ed cs off,.ed FR=>if off=FR then some [.agg cs]else none
 | .ptr k off,.ptr bF FR=>if k=gb cj bF/\off=FR/\ks.contains bF then some []else none
 | .row k,.row bF=>if k=gb cj bF/\ks.contains bF then some []else none
 | .map k,.map bF=>if k=gb cj bF/\ks.contains bF then some []else none
 | .sub k cV i len,.sub bF ak4=>if k=gb cj bF/\cV=ak4/\ks.contains bF then some [.val (.int .i64 (i:Nat)),.val (.int .i64 (len:Nat))]else none
 |_,_=>none
def vc(x y:Option (List D)):Option (List D):=match x,y with|some a,some b=>some (a++b)|_,_=>none
def Cp(cj:List (Key×Key))(ks:List Key):List aX->List qI->Option (List D)
 |[],[]=>some []|x::xs,s::ho=>vc (Lq cj ks x s) (Cp cj ks xs ho)|_,_=>none
def Lr(cj:List (Key×Key))(ks:List Key):aX->SW->Option (List D)
 |x,.b s=>Lq cj ks x s| .fn (.func f) as jJ,.fn (.func kJ) ho ts=>if f=kJ then vc (Cp cj ks as ho) (Cp cj ks jJ ts)else none
 | .agg cs,.agg ho=>Cp cj ks cs ho| .a6 cs,.a6 ho=>Cp cj ks cs ho|_,_=>none
def Ls(cj:List (Key×Key))(ks:List Key):List aX->List SW->Option (List D)
 |[],[]=>some []|x::xs,s::ho=>vc (Lr cj ks x s) (Ls cj ks xs ho)|_,_=>none
def Q4(cj:List (Key×Key))(ks:List Key):Option cU->l0->Option (List D)
 |some _,.dead=>some []|some (.box xs),.box ho=>Ls cj ks xs ho|some (.row k es),.row bF=>if k=bF then some [.aV k es]else none
 |some (.map es),.map=>some [.mp es]|_,_=>none
def Q5(cj:List (Key×Key))(ks:List Key)(σ:aM):List (Nat×SW)->Option (List D)
 |[]=>some []|(t,s)::r=>vc (Lr cj ks (σ.aO t) s) (Q5 cj ks σ r)
def Lt(cj:List (Key×Key))(ks:List Key)(σ:aM):List (Key×l0)->Option (List D)
 |[]=>some []|(k,s)::r=>vc (Q4 cj ks (σ.objs (gb cj k)) s) (Lt cj ks σ r)
section
variable{β:Type}
def pt:List xc->aM->(aM->Option β)->Option β
 |[],σ,k=>k σ
 | .slot t K n::r,σ,k=>match σ.aO t,σ.objs K with
  | .d a,none=>if K<10000 then bu (ng a) (pt r ⟨cq σ.aO t (.row K),cq σ.objs K (some (.row n []))⟩ k)else none
  |_,_=>pt r σ k
 | .box cV i K n::r,σ,k=>match σ.objs cV with
  |some (.box xs)=>match xs[i]?,σ.objs K with
   |some (.d a),none=>if K<10000 then bu (ng a) (pt r ⟨σ.aO,cq (cq σ.objs cV (some (.box (xs.set i (.row K))))) K (some (.row n []))⟩ k)else none
   |_,_=>pt r σ k
  |_=>pt r σ k
 | .all t cV::r,σ,k=>match σ.aO t with
  | .row K=>match σ.objs K with
   |some (.row n es)=>if n=cV then pt r ⟨cq σ.aO t (.sub K n 0 es.length),σ.objs⟩ k else none
   |_=>pt r σ k
  |_=>pt r σ k
def Cq:l0->Bool
 | .box _=>true| .row _=>true| .map=>true|_=>false
def Y7(ib:List Key)(cj:List (Key×Key))(objs:List (Key×l0)):Bool:=objs.all (λp=>decide (p.1<10000)||ib.contains p.1)&&ib.all (λk=>gb cj k==k&&objs.any λp=>p.1==k&&Cq p.2)&&decide ((objs.map (·.1)).Nodup)
def tn(ib:List Key)(gd:rJ)(σ:aM)(k:List D->Option β):Option β:=pt gd.p7 σ λσ=>
  let cj:=Co σ gd.objs (Y6 σ gd.aO)
  if y3 (gb cj) (gd.objs.map (·.1))&&Y7 ib cj gd.objs=true then
   match vc (Q5 cj (gd.objs.map (·.1)) σ gd.aO) (Lt cj (gd.objs.map (·.1)) σ gd.objs)with|some ls=>k ls|none=>none
  else none
end
def zg{x y:Option (List D)}{l:List D}(h:vc x y=some l):∃a b,x=some a/\y=some b/\l=a++b:=by
 unfold vc at h;split at h;.cases h;exact⟨_,_,rfl,rfl,rfl⟩
 cases h
def At(ls:List D)(n:Nat)(a:List D):Prop:=∀j d,a[j]?=some d->ls[n+j]?=some d
def At.left{ls:List D}{n:Nat}{a b:List D}(h:At ls n (a++b)):At ls n a:=λj d aB=>h j d (by rw[xap (xaa.1 aB).1];exact aB)
def At.right{ls:List D}{n:Nat}{a b:List D}(h:At ls n (a++b)):At ls (n+a.length) b:=λj d aB=>by
 have:=h (a.length+j) d (by rw[xaC (by omega)];simpa using aB)
 rwa [<-xbi]at this
def At.bb{ls:List D}{n:Nat}{a:D}(h:At ls n [a]):bb ls n=a:=by have:=h 0 a rfl;simp only[xbk]at this;simp[Am.bb,xbb,this]
section
variable{cj:List (Key×Key)}{ks:List Key}{ls:List D}{U:Key->Prop}
def Y8(gS:∀k,ks.contains k=true->U k){x:aX}{s:qI}{n:Nat}{a:List D}(h:Lq cj ks x s=some a)(gf:At ls n a):p1 (gb cj) U x (xd ls s n).1/\(xd ls s n).2=n+a.length:=by
 unfold Lq at h;split at h;.cases h;exact⟨trivial,rfl⟩
 .obtain⟨d,ay,rfl⟩:=xaf.1 h;refine⟨⟨_,ay,?_⟩,rfl⟩;rw[gf.bb];exact D.le_refl _
 .split at h;.rename_i bk;obtain⟨rfl,aH,aj⟩:=bk;cases h;rw[xbm aH,xbm aj];exact⟨⟨_,rfl,D.le_refl _⟩,rfl⟩
  cases h
 .split at h
  .rename_i bk;obtain⟨rfl,J,rfl⟩:=bk;cases h;refine⟨⟨_,rfl,?_⟩,rfl⟩;rw[List.isEmpty_iff.1 J];have e:((List.range a.length).map λi=>bb ls (n+i))=a:=by
    apply xbS;intro i;rw[xah];by_cases af:i<a.length;.rw[xcd af,xab af];have:=gf i a[i] (xab af);simp[Am.bb,xbb,this]
    rw[xaR (by simp;omega),xaR (by omega)];rfl
   skip
   rw[e];exact D.le_refl _
  cases h
 .split at h;.rename_i bk;cases h;subst bk;refine⟨.inl ?_,rfl⟩;rw[gf.bb];rfl
  cases h
 .split at h;.rename_i bk;cases h;exact⟨⟨by rw[bk.1,bk.2.1],gS _ bk.2.2⟩,rfl⟩
  cases h
 .split at h;.rename_i bk;cases h;exact⟨⟨by rw[bk.1],gS _ bk.2⟩,rfl⟩
  cases h
 .split at h;.rename_i bk;cases h;exact⟨⟨by rw[bk.1],gS _ bk.2⟩,rfl⟩
  cases h
 .split at h;.rename_i bk;cases h;obtain⟨J,aa,ax⟩:=bk;have aL:=gf.left (a:=[_]) (b:=[_]);have a7:At ls (n+1) [D.val (.int .i64 ((_:Nat):Int))]:=At.right (a:=[_]) (b:=[_]) gf;simp only[xd];rw[aL.bb,a7.bb];exact⟨⟨by rw[J,aa];simp[Q3],gS _ ax⟩,rfl⟩
  cases h
 cases h
def FT(gS:∀k,ks.contains k=true->U k):∀{xs:List aX}{ho:List qI}{n:Nat}{a:List D},Cp cj ks xs ho=some a->At ls n a->jM (gb cj) U xs (pr ls ho n).1/\(pr ls ho n).2=n+a.length
 |[],[],n,a,h,gf=>by cases h;exact⟨trivial,rfl⟩
 |x::xs,s::ho,n,a,h,gf=>by obtain⟨aK,a2,J,aa,rfl⟩:=zg h;obtain⟨g1,g2⟩:=Y8 gS J gf.left;have av:=gf.right;rw[<-g2]at av;obtain⟨g3,g4⟩:=FT gS aa av;refine⟨⟨g1,g3⟩,?_⟩;show(pr ls ho (xd ls s n).2).2=_;rw[g4,g2,xaQ];omega
 |[],_::_,n,a,h,_=>by cases h
 |_::_,[],n,a,h,_=>by cases h
def ak5{x y:aX}(h:p1 (gb cj) U x y):u2 (gb cj) U x y:=by cases y<;>first|exact h|exact h.elim
def Y9(gS:∀k,ks.contains k=true->U k){x:aX}{s:SW}{n:Nat}{a:List D}(h:Lr cj ks x s=some a)(gf:At ls n a):u2 (gb cj) U x (p8 ls s n).1/\(p8 ls s n).2=n+a.length:=by
 unfold Lr at h;split at h;.obtain⟨g1,g2⟩:=Y8 gS h gf;exact⟨ak5 g1,g2⟩
 .split at h;.rename_i bk;subst bk;obtain⟨aK,a2,J,aa,rfl⟩:=zg h;obtain⟨g1,g2⟩:=FT gS J gf.left;have av:=gf.right;rw[<-g2]at av;obtain⟨g3,g4⟩:=FT gS aa av;refine⟨⟨rfl,g1,g3⟩,?_⟩;simp only[p8];rw[g4,g2,xaQ];omega
  cases h
 .obtain⟨g1,g2⟩:=FT gS h gf;exact⟨g1,g2⟩
 .obtain⟨g1,g2⟩:=FT gS h gf;exact⟨g1,g2⟩
 cases h
def Q6(gS:∀k,ks.contains k=true->U k):∀{xs:List aX}{ho:List SW}{n:Nat}{a:List D},Ls cj ks xs ho=some a->At ls n a->te (gb cj) U xs (rK ls ho n).1/\(rK ls ho n).2=n+a.length
 |[],[],n,a,h,gf=>by cases h;exact⟨trivial,rfl⟩
 |x::xs,s::ho,n,a,h,gf=>by obtain⟨aK,a2,J,aa,rfl⟩:=zg h;obtain⟨g1,g2⟩:=Y9 gS J gf.left;have av:=gf.right;rw[<-g2]at av;obtain⟨g3,g4⟩:=Q6 gS aa av;refine⟨⟨g1,g3⟩,?_⟩;show(rK ls ho (p8 ls s n).2).2=_;rw[g4,g2,xaQ];omega
 |[],_::_,n,a,h,_=>by cases h
 |_::_,[],n,a,h,_=>by cases h
def ak6(gS:∀k,ks.contains k=true->U k){x:Option cU}{s:l0}{n:Nat}{a:List D}(h:Q4 cj ks x s=some a)(gf:At ls n a):(∃o',x=some o'/\y1 (gb cj) U o' (zf ls s n).1)/\(zf ls s n).2=n+a.length:=by
 unfold Q4 at h;split at h;.cases h;exact⟨⟨_,rfl,trivial⟩,rfl⟩
 .obtain⟨g1,g2⟩:=Q6 gS h gf;exact⟨⟨_,rfl,⟨_,rfl,g1⟩⟩,g2⟩
 .split at h;.rename_i ah;cases h;subst ah;refine⟨⟨_,rfl,⟨_,rfl,.inl ?_⟩⟩,rfl⟩;rw[gf.bb];rfl
  cases h
 .cases h;refine⟨⟨_,rfl,?_⟩,rfl⟩;simp only[zf,y1];rw[gf.bb];rfl
 cases h
def Za(gS:∀k,ks.contains k=true->U k){σ:aM}:∀{l:List (Nat×SW)} {n:Nat} {a:List D},Q5 cj ks σ l=some a->At ls n a->Cc (gb cj) U σ (xe ls l n).1/\(xe ls l n).2=n+a.length
 |[],n,a,h,gf=>by cases h;exact⟨trivial,rfl⟩
 |(t,s)::r,n,a,h,gf=>by obtain⟨aK,a2,J,aa,rfl⟩:=zg h;obtain⟨g1,g2⟩:=Y9 gS J gf.left;have av:=gf.right;rw[<-g2]at av;obtain⟨g3,g4⟩:=Za gS aa av;refine⟨⟨g1,g3⟩,?_⟩;simp only[xe];rw[g4,g2,xaQ];omega
def Q7(gS:∀k,ks.contains k=true->U k){σ:aM}:∀{l:List (Key×l0)} {n:Nat} {a:List D},Lt cj ks σ l=some a->At ls n a->y2 (gb cj) U σ (ps ls l n).1/\(ps ls l n).2=n+a.length
 |[],n,a,h,gf=>by cases h;exact⟨trivial,rfl⟩
 |(t,s)::r,n,a,h,gf=>by obtain⟨aK,a2,J,aa,rfl⟩:=zg h;obtain⟨g1,g2⟩:=ak6 gS J gf.left;have av:=gf.right;rw[<-g2]at av;obtain⟨g3,g4⟩:=Q7 gS aa av;refine⟨⟨g1,g3⟩,?_⟩;simp only[ps];rw[g4,g2,xaQ];omega
end
def zh(ls:List D):∀(l:List (Key×l0)) (n:Nat),mA (ps ls l n).1=l.map (·.1)
 |[],n=>rfl|(k,s)::r,n=>by have:=zh ls r (zf ls s n).2;simp only[ps,mA,xau]at this⊢;rw[<-this]
def Lu:∀{lo:List (Key×cU)} {k:Key},k∈mA lo->∃o,eN lo k=some o
 |[],k,h=>by cases h
 |(j,x)::r,k,h=>by
  unfold eN;by_cases ah:k=j;.exact⟨x,by rw[xac ah]⟩
  rw[xae ah];simp only[mA,xau,xal]at h;exact Lu (h.resolve_left ah)
def fB(ib:List Key)(σ:aM):Prop:=∀k,10000<=k->eW (σ.objs k)->k∈ib
def Q8(ls:List D):∀(l:List (Key×l0)) (n:Nat) (k:Key),(l.map (·.1)).Nodup->(∃s,(k,s)∈l/\Cq s=true)->eW (eN (ps ls l n).1 k)
 |[],n,k,_,⟨_,h,_⟩=>by cases h
 |(j,s)::r,n,k,aN,⟨ho,h,aC⟩=>by
  simp only[ps,eN];simp only[xau,List.nodup_cons]at aN;rcases xal.1 h with J|J
  .cases J;rw[xac rfl];cases s<;>first|cases aC|skip
   .exact uU
   .exact s6
   exact wM
  have cp:k≠j:=by rintro rfl;exact aN.1 (xaO.2 ⟨_,J,rfl⟩)
  rw[xae cp];exact Q8 ls r _ k aN.2 ⟨ho,J,aC⟩
def tp{β:Type}{ib:List Key}:∀{l:List xc}{σ:aM}{k:aM->Option β}{b:β},fB ib σ->pt l σ k=some b->∃τ,hl σ τ/\fB ib τ/\k τ=some b
 |[],σ,k,b,ck,h=>⟨σ,hl.refl σ,ck,h⟩
 | .slot t K n::r,σ,k,b,ck,h=>by
  unfold pt at h;split at h
  .rename_i a aC hx;split at h
   case isFalse=>cases h
   rename_i b5;obtain⟨J,aa⟩:=lW h;have aH:a= .val (.slice none 0 0):=by
    unfold ng at J;split at J;.rfl
    cases J
   subst aH;obtain⟨τ,g1,g2,g3⟩:=tp (ib:=ib) (by
    intro j aB aj;by_cases fy:j=K;.exact absurd b5 (Nat.not_lt.2 (fy▸aB))
    simp only[c5 _ _ fy]at aj;exact ck j aB aj) aa
   exact⟨τ,(ajX t K n aC hx).trans g1,g2,g3⟩
  exact tp ck h
 | .box cV i K n::r,σ,k,b,ck,h=>by
  unfold pt at h;split at h
  .rename_i xs ah;split at h
   .rename_i a af hx;split at h
    case isFalse=>cases h
    rename_i b5;obtain⟨J,aa⟩:=lW h;have aH:a= .val (.slice none 0 0):=by
     unfold ng at J;split at J;.rfl
     cases J
    subst aH;obtain⟨τ,g1,g2,g3⟩:=tp (ib:=ib) (by
     intro j aB aj;by_cases fy:j=K;.exact absurd b5 (Nat.not_lt.2 (fy▸aB))
     simp only[c5 _ _ fy]at aj;by_cases yJ:j=cV;.subst yJ;exact ck j aB (by rw[ah];exact uU)
     simp only[c5 _ _ yJ]at aj;exact ck j aB aj) aa
    exact⟨τ,(ajY cV i K n ah af hx).trans g1,g2,g3⟩
   exact tp ck h
  exact tp ck h
 | .all t cV::r,σ,k,b,ck,h=>by
  unfold pt at h;split at h
  .rename_i K aC;split at h
   .rename_i n es ah;split at h
    case isFalse=>cases h
    rename_i aN;subst aN;obtain⟨τ,g1,g2,g3⟩:=tp (ib:=ib) (σ:=⟨cq σ.aO t (.sub K n 0 es.length),σ.objs⟩) (λj aB aj=>ck j aB aj) h;exact⟨τ,(ajZ t K n aC ah).trans g1,g2,g3⟩
   exact tp ck h
  exact tp ck h
def Lv{β:Type}{ib:List Key}{gd:rJ}{σ:aM}{k:List D->Option β}{b:β}(ck:fB ib σ)(h:tn ib gd σ k=some b):∃ls,hl σ (restore gd ls)/\fB ib (restore gd ls)/\k ls=some b:=by
 unfold tn at h;obtain⟨τ,g1,g2,g3⟩:=tp ck h;simp only at g3;split at g3
 case isFalse=>cases g3
 rename_i ai;simp only[Y7,xao,xax,xbh,xaz,xbP,xbC,List.contains_eq_mem]at ai;obtain⟨zi,⟨ry,ak7⟩,ak8⟩:=ai;split at g3
 case h_2=>cases g3
 rename_i ls Q9;obtain⟨aK,a2,aL,a7,rfl⟩:=zg Q9;have gf:At (aK++a2) 0 (aK++a2):=λj d aB=>by rw[xay];exact aB
 have gS:∀k,(gd.objs.map (·.1)).contains k=true->∃o,eN (ps (aK++a2) gd.objs (xe (aK++a2) gd.aO 0).2).1 k=some o:=by intro k ah;exact Lu (by rw[zh];simpa using ah)
 obtain⟨b0,bR⟩:=Za gS aL gf.left;have av:=gf.right;rw[<-bR]at av;obtain⟨cw,dX⟩:=Q7 gS a7 av;have tq:hl τ (restore gd (aK++a2)):=by refine ajL _ (by rw[zh];exact zi) b0 cw ?_;intro k ah aj;have hm:=g2 k ah aj;obtain⟨b9,p,Lw,xf,Zb⟩:=ak7 k hm;refine⟨?_,b9⟩;obtain⟨aBr,iO⟩:=p;simp only at xf Zb;subst xf;exact Q8 _ _ _ _ ak8 ⟨_,Lw,Zb⟩
 refine⟨_,g1.trans tq,?_,g3⟩;intro k ah aj;obtain⟨o,aT⟩:=BZ aj;have:=w6 aT;rw[zh]at this;obtain⟨p,Lw,xf⟩:=xaO.1 this;rcases ry p Lw with cN|cN
 .rw[xf]at cN;exact absurd cN (Nat.not_lt.2 ah)
 rw[xf]at cN;exact cN
def Lx(objs:cx)(cs:List aX):Option (List D):=if cs.all s8=true then hK (cs.map (toD objs))else none
def xg(objs:cx)(ks:List Key):aX->aX
 | .ptr k off=>if k∈ks then match objs k with
   |some (.box cs)=>match Lx objs cs with|some aR=> .ed aR off|none=> .ptr k off
   |_=> .ptr k off
  else .ptr k off
 | .row k=>if k∈ks then match objs k with|some (.row n es)=> .d (.aV n es)|_=> .row k
  else .row k
 | .map k=>if k∈ks then match objs k with|some (.map es)=> .d (.mp es)|_=> .map k
  else .map k
 |x=>x
def Ly(objs:cx)(ks:List Key):aX->aX
 | .agg cs=>BJ (cs.map (xg objs ks))| .fn f first cap=> .fn f (first.map (xg objs ks)) (cap.map (xg objs ks))
 |x=>xg objs ks x
def FU(objs:cx)(ks:List Key):cU->cU
 | .box cs=> .box (cs.map (Ly objs ks))|o=>o
def Ra(objs:cx)(k:Key):Bool:=match objs k with|some (.row _ _)=>decide (k<10000)|some (.map _)=>decide (k<10000)|some (.box cs)=>decide (k<10000)&&(Lx objs cs).isSome|_=>false
def freeze(ks:List Key)(σ:aM):aM:=⟨λt=>Ly σ.objs ks (σ.aO t),λk=>if k∈ks then some .dead else(σ.objs k).map (FU σ.objs ks)⟩
section
variable{m:Mem}{fr:ff}{ρ:di}{σ:aM}{a:Act}{w:World}{ks:List Key}
def ak9(h:Den m fr ρ σ a w){key off:Nat}{cs:List aX}{aR:List D}(ah:σ.objs key=some (.box cs))(eH:Lx σ.objs cs=some aR)(hm:key∈ks){U:Key->Prop}{v:Value}(aS:cb m ρ σ.used (.ptr key off) v):cb (Den.part m ρ ks w) ρ U (.ed aR off) v:=by
 have hle:=Den.s4 m ρ ks w;obtain⟨b,vs,dY,aL,a7,bV,cG⟩:=h.objs _ _ ah;have aj:=h.KB ah rfl hm (by rw[aL];rfl);unfold Lx at eH;split at eH
 case isFalse=>cases eH
 rename_i Qt;obtain⟨g1,g2⟩:=rr eH;rw[xaY]at g1;cases aS with
 |ptr _ _ b' hu av=>
  rw[aL]at av;cases av;have:=cb.ed (m:=Den.part m ρ ks w) (ρ:=ρ) (U:=U) aR off b 0 vs dY (0,0) (by rw[aj];exact a7) (λj=>(vs[j]?).getD undef) ?_ ?_
  .simpa using this
  .intro j c aB;have b5:j<vs.size:=by rw[bV,<-g1];exact(xaa.1 aB).1
   simp[xak b5]
  intro j c aB;have b5:j<vs.size:=by rw[bV,<-g1];exact(xaa.1 aB).1
  have g3:=g2 j c aB;rw[xah,xaf]at g3;obtain⟨y,aE,uX⟩:=g3;have:=cG j y vs[j] aE (xak b5);simp only[xak b5,xbp];exact(P9 (xax.1 Qt y (xad aE)) uX this).mono hle
def Zc(h:Den m fr ρ σ a w){x:aX}{v:Value}(ad:cb m ρ σ.used x v):cb (Den.part m ρ ks w) ρ (freeze ks σ).used (xg σ.objs ks x) v:=by
 have hle:=Den.s4 m ρ ks w;have gS:∀k,σ.used k->(freeze ks σ).used k/\ρ k=ρ k:=by
  rintro k ⟨o,aT⟩;refine⟨?_,rfl⟩;unfold aM.used freeze;by_cases ah:k∈ks;.exact⟨.dead,by simp[ah]⟩
  exact⟨FU σ.objs ks o,by simp[ah,aT]⟩
 unfold xg;split
 .rename_i k off;split
  .rename_i hm;split
   .rename_i cs ah;split;.rename_i aR eH;exact ak9 h ah eH hm ad
    exact ad.mono hle gS
   exact ad.mono hle gS
  exact ad.mono hle gS
 .rename_i k;split
  .rename_i hm;split;.rename_i n es ah;cases ad;exact .d _ _ (P4 h ah hm)
   exact ad.mono hle gS
  exact ad.mono hle gS
 .rename_i k;split
  .rename_i hm;split;.rename_i es ah;cases ad;exact .d _ _ (aiv h ah hm)
   exact ad.mono hle gS
  exact ad.mono hle gS
 exact ad.mono hle gS
def Rb(h:Den m fr ρ σ a w){cs:List aX}{vs:Array Value}(al:vs.size=cs.length)(bS:∀(i:Nat)(c:aX)(v:Value),cs[i]?=some c->vs[i]?=some v->cb m ρ σ.used c v):vs.size=(cs.map (xg σ.objs ks)).length/\∀(i:Nat)(c:aX)(v:Value),(cs.map (xg σ.objs ks))[i]?=some c->vs[i]?=some v->cb (Den.part m ρ ks w) ρ (freeze ks σ).used c v:=by refine⟨by simpa using al,?_⟩;intro i c v ai aS;simp only[xah,xaf]at ai;obtain⟨y,aE,rfl⟩:=ai;exact Zc h (bS i y v aE aS)
def Zd(h:Den m fr ρ σ a w){x:aX}{v:Value}(ad:cb m ρ σ.used x v):cb (Den.part m ρ ks w) ρ (freeze ks σ).used (Ly σ.objs ks x) v:=by
 unfold Ly;split
 .cases ad with|agg _ vs al bS=>
  obtain⟨J,aa⟩:=Rb (ks:=ks) h al bS;exact Kj (.agg _ _ J aa)
 .cases ad with|fn _ _ _ vs ws al ew bS yQ=>
  obtain⟨J,aa⟩:=Rb (ks:=ks) h al bS;obtain⟨ax,bh⟩:=Rb (ks:=ks) h ew yQ;exact .fn _ _ _ _ _ J ax aa bh
 exact Zc h ad
def ala(ks:List Key)(eS:ks.all (Ra σ.objs)=true):hl σ (freeze ks σ):=by
 intro m fr ρ a w h;have hle:=Den.s4 m ρ ks w;have eI:∀k∈ks,(k<10000/\∃n es,σ.objs k=some (.row n es))\/(k<10000/\∃es,σ.objs k=some (.map es))\/(k<10000/\∃cs,σ.objs k=some (.box cs)):=by
  intro k ah;have:=xax.1 eS k ah;unfold Ra at this;split at this
  .rename_i n es e;exact .inl ⟨xbd this,n,es,e⟩
  .rename_i es e;exact .inr (.inl ⟨xbd this,es,e⟩)
  .rename_i cs e;simp only[xao,xaz]at this;exact .inr (.inr ⟨this.1,cs,e⟩)
  cases this
 have own:∀k∈ks,∃o,σ.objs k=some o/\o.owns=true:=by
  intro k ah;rcases eI k ah with⟨_,n,es,e⟩|⟨_,es,e⟩|⟨_,cs,e⟩
  .exact⟨_,e,rfl⟩
  .exact⟨_,e,rfl⟩
  exact⟨_,e,rfl⟩
 have gA:∀b,Den.part m ρ ks w b=m b\/∃k∈ks,blockOf (ρ k)=some b/\Den.part m ρ ks w b=w.heap[b]?:=by
  intro b;unfold Den.part;cases hm:m b with
  |some x=>exact .inl rfl
  |none=>
   simp only;by_cases ai:∃k∈ks,blockOf (ρ k)=some b;.rw[xac ai];obtain⟨k,J,aa⟩:=ai;exact .inr ⟨k,J,aa,rfl⟩
   rw[xae ai];exact .inl rfl
 have jU:∀k o,(freeze ks σ).objs k=some o->o.owns=true->k∉ks/\∃dZ,σ.objs k=some dZ/\o=FU σ.objs ks dZ/\dZ.owns=true:=by
  intro k o ah aT;unfold freeze at ah;simp only at ah;split at ah;.cases ah;cases aT
  rename_i aN;obtain⟨dZ,J,rfl⟩:=xaf.1 ah;refine⟨aN,dZ,J,rfl,?_⟩;cases dZ<;>first|rfl|exact aT
 refine⟨Den.part m ρ ks w,ρ,hle,⟨?_,h.frame,?_,?_,?_,?_,?_,?_⟩,?_⟩
 .intro b o aj;rcases gA b with e|⟨k,_,_,e⟩
  .rw[e]at aj;exact h.mem b o aj
  rw[e]at aj;exact aj
 .intro b aj;rcases gA b with e|⟨k,J,aa,e⟩
  .rw[e]at aj;exact h.apart b aj
  obtain⟨o,ax,bh⟩:=own k J;exact(h.own k o b ax bh aa).2
 .rintro k ⟨o,aT⟩;unfold freeze at aT;simp only at aT;split at aT;.rename_i ah;obtain⟨o,ax,bh⟩:=own k ah;exact h.one k ⟨o,ax⟩
  obtain⟨dZ,J,rfl⟩:=xaf.1 aT;exact h.one k ⟨dZ,J⟩
 .intro t;exact Zd h (h.aO t)
 .intro k o ah;have fh:=ah;unfold freeze at ah;simp only at ah;split at ah
  .cases ah;trivial
  obtain⟨dZ,J,rfl⟩:=xaf.1 ah;have aa:=h.objs k dZ J;cases dZ with
  |dead=>trivial|box cs=>obtain⟨b,vs,T,aL,a7,bV,cG⟩:=aa;refine⟨b,vs,T,aL,a7,by simpa using bV,?_⟩;intro i c x ai ad;simp only[xah,xaf]at ai;obtain⟨y,aE,rfl⟩:=ai;exact Zd h (cG i y x aE ad)
  |row n es=>
   rcases aa with⟨aL,a7⟩|⟨b,o,cap,vs,dY,aL,a7,bV,cG,dI,eL⟩;.exact .inl ⟨aL,a7⟩
   exact .inr ⟨b,o,cap,vs,dY,aL,a7,bV,cG,dI,λi e j c af aB=>by obtain⟨x,g1,g2⟩:=eL i e j c af aB;exact⟨x,g1,g2.mono hle⟩⟩
  |map es=>obtain⟨r,dz,clock,aL,a7,bV,cG,dI⟩:=aa;exact⟨r,dz,clock,aL,a7,bV,cG,λi e x he ad=>(dI i e x he ad).mono hle⟩
 .intro k o b ah aT aj;obtain⟨aN,dZ,J,rfl,aa⟩:=jU k o ah aT;have ax:=h.own k dZ b J aa aj;refine⟨?_,ax.2⟩;rcases gA b with e|⟨bF,bh,b9,e⟩
  .rw[e];exact ax.1
  obtain⟨o',cN,fP⟩:=own bF bh;exact absurd b9 (h.sep k bF dZ o' b (by rintro rfl;exact aN bh) J cN aa fP aj)
 .intro k bF o o' b cp ah fh aT ph aj;obtain⟨aN,dZ,J,rfl,aa⟩:=jU k o ah aT;obtain⟨yO,FV,dS,rfl,gO⟩:=jU bF o' fh ph;exact h.sep k bF dZ FV b cp J dS aa gO aj
 intro k ah aj;refine⟨?_,rfl⟩;have aN:k∉ks:=by
  intro hm;rcases eI k hm with⟨b5,_⟩|⟨b5,_⟩|⟨b5,_⟩
  .exact absurd ah (Nat.not_le.2 b5)
  .exact absurd ah (Nat.not_le.2 b5)
  exact absurd ah (Nat.not_le.2 b5)
 show eW (if k∈ks then some .dead else(σ.objs k).map (FU σ.objs ks));rw[xae aN];rcases aj with⟨c,ai⟩|⟨n,es,ai⟩|⟨es,ai⟩
 .rw[ai];exact uU
 .rw[ai];exact s6
 rw[ai];exact wM
end
def zj{β:Type}:List (List Key)->aM->(aM->Option β)->Option β
 |[],σ,k=>k σ|ks::r,σ,k=>match ks with|[]=>zj r σ k|_=>if ks.all (Ra σ.objs)=true then zj r (freeze ks σ) k else none
def Cr{β:Type}(t:Tmp)(σ:aM)(k:aM->Option β):Option β:=match σ.aO t with
 | .sub key cV i len=>match σ.objs key,σ.objs t with
  |some (.row bF es),none=>if cV=bF/\key<10000/\t<10000 then bu (decide (i+len<=es.length)) (k ⟨cq σ.aO t (.row t),cq (cq σ.objs key (some .dead)) t (some (.row cV ((es.drop i).take len)))⟩)else none
  |_,_=>none
 |_=>none
def alb{σ:aM}{t key cV i len:Nat}{es:List (List D)}(aP:σ.aO t= .sub key cV i len)(ah:σ.objs key=some (.row cV es))(au:σ.objs t=none)(hle:i+len<=es.length)(jY:key<10000):hl σ ⟨cq σ.aO t (.row t),cq (cq σ.objs key (some .dead)) t (some (.row cV ((es.drop i).take len)))⟩:=by
 intro m fr ρ a w h;have cp:key≠t:=by rintro rfl;rw[ah]at au;cases au
 have bJ:((es.drop i).take len).length=len:=by simp;omega
 have Cs:∀j o,(cq (cq σ.objs key (some .dead)) t (some (.row cV ((es.drop i).take len)))) j=some o->(j=t/\o= .row cV ((es.drop i).take len))\/(j=key/\o= .dead)\/(j≠t/\j≠key/\σ.objs j=some o):=by
  intro j o aB;by_cases J:j=t;.subst J;rw[e1]at aB;cases aB;exact .inl ⟨rfl,rfl⟩
  rw[c5 _ _ J]at aB;by_cases aa:j=key;.subst aa;rw[e1]at aB;cases aB;exact .inr (.inl ⟨rfl,rfl⟩)
  rw[c5 _ _ aa]at aB;exact .inr (.inr ⟨J,aa,aB⟩)
 let v:=a.tmps.getD t undef
 have aS:=h.aO t;rw[aP]at aS;have Fg:∀k,σ.used k->aM.used ⟨cq σ.aO t (.row t),cq (cq σ.objs key (some .dead)) t (some (.row cV ((es.drop i).take len)))⟩ k/\cq ρ t v k=ρ k:=by
  rintro k ⟨o,aT⟩;have wH:k≠t:=by rintro rfl;rw[aT]at au;cases au
  refine⟨?_,c5 _ _ wH⟩;by_cases aa:k=key;.subst aa;exact⟨.dead,by simp only[c5 _ _ wH,e1]⟩
  exact⟨o,by simp only[c5 _ _ wH,c5 _ _ aa];exact aT⟩
 have piece:ke v=true/\(blockOf v=none\/blockOf v=blockOf (ρ key))/\jr m (cq ρ t v) (aM.used ⟨cq σ.aO t (.row t),cq (cq σ.objs key (some .dead)) t (some (.row cV ((es.drop i).take len)))⟩) v w (.row cV ((es.drop i).take len)):=by
  have js:=h.objs key _ ah;generalize Rc:a.tmps.getD t undef=u at aS;have alc:v=u:=Rc;rw[alc];cases aS with
  |jS _ _ _ hu av=>exact⟨rfl,.inl rfl,.inl ⟨rfl,by simp⟩⟩
  |sub _ _ _ _ b o L cap hs hu av Kr aH=>
   refine⟨rfl,.inr (by rw[av];rfl),?_⟩;rcases js with⟨aL,a7⟩|⟨b',o',mY,vs,dY,aL,a7,bV,cG,dI,eL⟩
   .rw[av]at aL;cases aL
   rw[av]at aL;cases aL;refine .inr ⟨b,hs,cap-i,vs,dY,by rw[bJ],a7,by rw[bJ];omega,?_,?_,?_⟩
   .by_cases Re:i<cap
    .rw[aH.1 Re,xbi,<-xaV];have:i+(cap-i)=cap:=by omega
     rw[this];exact cG
    have:cap-i=0:=by omega
    rw[this,Nat.zero_mul];have:=aH.2;omega
   .intro e he;exact dI e (xbn (xbo he))
   intro p e j c aU aB;rw[xaL]at aU;split at aU
   case isFalse=>cases aU
   rename_i rf;rw[xaW]at aU;obtain⟨x,g1,g2⟩:=eL (i+p) e j c aU aB;have Re:i<cap:=by have:=(xaa.1 aU).1;omega
   refine⟨x,?_,g2⟩;rw[aH.1 Re];have:o+i*cV+p*cV+j=o+(i+p)*cV+j:=by rw[xaV];omega
   rw[this];exact g1
 obtain⟨eQ,eE,hR⟩:=piece;refine⟨m,cq ρ t v,Mem.le_refl m,⟨h.mem,h.frame,h.apart,?_,?_,?_,?_,?_⟩,?_⟩
 .rintro k ⟨o,aT⟩;rcases Cs k o aT with⟨rfl,_⟩|⟨rfl,_⟩|⟨J,aa,ax⟩;.rw[e1];exact eQ
  .rw[c5 _ _ cp];exact h.one _ ⟨_,ah⟩
  rw[c5 _ _ J];exact h.one _ ⟨_,ax⟩
 .intro s;by_cases aC:s=t;.subst aC;simp only[e1];have:cb m (cq ρ s v) (aM.used ⟨cq σ.aO s (.row s),cq (cq σ.objs key (some .dead)) s (some (.row cV ((es.drop i).take len)))⟩) (.row s) (cq ρ s v s):= .row s ⟨_,e1 _ _ _⟩;rw[e1]at this;exact this
  simp only[c5 _ _ aC];exact(h.aO s).mono (Mem.le_refl m) Fg
 .intro k o fh;rcases Cs k o fh with⟨rfl,rfl⟩|⟨rfl,rfl⟩|⟨J,aa,ax⟩
  .rw[e1];exact hR
  .trivial
  rw[c5 _ _ J];exact(h.objs k o ax).mono (Mem.le_refl m) Fg (λb _ _=>rfl)
 .intro k o b fh aT aj;rcases Cs k o fh with⟨rfl,rfl⟩|⟨rfl,rfl⟩|⟨J,aa,ax⟩
  .rw[e1]at aj;rcases eE with eE|eE
   .rw[eE]at aj;cases aj
   exact h.own key _ b ah rfl (by rw[<-eE];exact aj)
  .cases aT
  rw[c5 _ _ J]at aj;exact h.own k o b ax aT aj
 .intro k bF o o' b dx fh Ze aT ph aj;rcases Cs k o fh with⟨rfl,rfl⟩|⟨rfl,rfl⟩|⟨J,aa,ax⟩
  .rcases Cs bF o' Ze with⟨rfl,rfl⟩|⟨rfl,rfl⟩|⟨dS,gO,iA⟩;.exact absurd rfl dx
   .cases ph
   rw[e1]at aj;rw[c5 _ _ dS];rcases eE with eE|eE
   .rw[eE]at aj;cases aj
   exact h.sep key bF _ o' b (xbV gO) ah iA rfl ph (by rw[<-eE];exact aj)
  .cases aT
  rw[c5 _ _ J]at aj;rcases Cs bF o' Ze with⟨rfl,rfl⟩|⟨rfl,rfl⟩|⟨dS,gO,iA⟩
  .rw[e1];rcases eE with eE|eE
   .rw[eE];exact λbS=>by cases bS
   rw[eE];exact h.sep k key o _ b aa ax ah aT rfl aj
  .cases ph
  rw[c5 _ _ dS];exact h.sep k bF o o' b dx ax iA aT ph aj
 intro k fh aj;have wH:k≠t:=by rintro rfl;rw[au]at aj;exact uV aj
 have dx:k≠key:=by rintro rfl;exact absurd jY (Nat.not_lt.2 fh)
 exact⟨by simp only[c5 _ _ wH,c5 _ _ dx];exact aj,c5 _ _ wH⟩
def xh(φ:Key->Key):aX->aX
 | .any=> .any| .d x=> .d x| .ed cs off=> .ed cs off| .ptr k off=> .ptr (φ k) off| .gy k cV i off=> .gy (φ k) cV i off| .row k=> .row (φ k)| .sub k cV i len=> .sub (φ k) cV i len| .map k=> .map (φ k)|_=> .any
def FW(φ:Key->Key):aX->aX
 | .agg cs=> .agg (cs.map (xh φ))| .a6 cs=> .a6 (cs.map (xh φ))| .fn f as jJ=> .fn f (as.map (xh φ)) (jJ.map (xh φ))|x=>xh φ x
def vd(φ:Key->Key):cU->cU
 | .box cs=> .box (cs.map (FW φ))|o=>o
section
variable{m:Mem}{ρ c0:di}{U nF:Key->Prop}{φ:Key->Key}
def Zf(h:∀k,U k->nF (φ k)/\c0 (φ k)=ρ k){x:aX}{v:Value}(ad:cb m ρ U x v):cb m c0 nF (xh φ x) v:=by cases ad with|any v=>exact .any _|d x v ad=>exact .d _ _ ad|agg=>exact .any _|a6=>exact .any _|ed cs off b o vs T et hm xs J aa=>exact .ed _ _ b o vs T et hm xs J aa|ptr k off b hu av=>exact .ptr _ _ b (h k hu).1 ((h k hu).2.trans av)|gy k cV i off b o len cap hu av=>exact .gy _ _ _ _ b o len cap (h k hu).1 ((h k hu).2.trans av)|row k hu=>rw[<-(h k hu).2];exact .row _ (h k hu).1|sub k cV i len b o L cap a hu av hle aH=>exact .sub _ _ _ _ b o L cap a (h k hu).1 ((h k hu).2.trans av) hle aH|jS k cV i hu av=>exact .jS _ _ _ (h k hu).1 ((h k hu).2.trans av)|map k hu=>rw[<-(h k hu).2];exact .map _ (h k hu).1|fn=>exact .any _
def Lz(h:∀k,U k->nF (φ k)/\c0 (φ k)=ρ k){cs:List aX}{vs:Array Value}(al:vs.size=cs.length)(bS:∀(i:Nat)(c:aX)(v:Value),cs[i]?=some c->vs[i]?=some v->cb m ρ U c v):vs.size=(cs.map (xh φ)).length/\∀(i:Nat)(c:aX)(v:Value),(cs.map (xh φ))[i]?=some c->vs[i]?=some v->cb m c0 nF c v:=by refine⟨by simpa using al,?_⟩;intro i c v ai aS;simp only[xah,xaf]at ai;obtain⟨y,aE,rfl⟩:=ai;exact Zf h (bS i y v aE aS)
def Zg(h:∀k,U k->nF (φ k)/\c0 (φ k)=ρ k){x:aX}{v:Value}(ad:cb m ρ U x v):cb m c0 nF (FW φ x) v:=by
 unfold FW;split
 .cases ad with|agg _ vs al bS=>
  obtain⟨J,aa⟩:=Lz h al bS;exact .agg _ _ J aa
 .cases ad with|a6 _ vs al bS=>
  obtain⟨J,aa⟩:=Lz h al bS;exact .a6 _ _ J aa
 .cases ad with|fn _ _ _ vs ws al ew bS yQ=>
  obtain⟨J,aa⟩:=Lz h al bS;obtain⟨ax,bh⟩:=Lz h ew yQ;exact .fn _ _ _ _ _ J ax aa bh
 exact Zf h ad
def ald(h:∀k,U k->nF (φ k)/\c0 (φ k)=ρ k){o:cU}{v:Value}{w:World}(aT:jr m ρ U v w o):jr m c0 nF v w (vd φ o):=by
 cases o with
 |dead=>trivial|box cs=>obtain⟨b,vs,T,aL,a7,bV,cG⟩:=aT;refine⟨b,vs,T,aL,a7,by simpa using bV,?_⟩;intro i c x ai ad;simp only[xah,xaf]at ai;obtain⟨y,aE,rfl⟩:=ai;exact Zg h (cG i y x aE ad)
 |row=>exact aT|map=>exact aT
theorem ale{o:cU}:(vd φ o).owns=o.owns:=by cases o<;>rfl
end
def alf:Act:={tmps:= #[],defers:=[]}
def ve(m:Mem)(fr:ff)(ρ:di)(E:cx)(w:World):Prop:=Den m fr ρ ⟨λ_=> .any,E⟩ alf w
def rL(E:cx)(k:Key):Prop:=∃o,E k=some o
structure gT where
 f:FuncId
 args:List SW
 ins:List (Key×l0)
 res:SW
 outs:List (Key×l0)
def gT.xi(s:gT)(ls:List D):List aX:=(rK ls s.args 0).1
def gT.ot(s:gT)(ls:List D):List (Key×cU):=(ps ls s.ins (rK ls s.args 0).2).1
def gT.LA(s:gT)(ls:List D):aX:=(p8 ls s.res 0).1
def gT.p9(s:gT)(ls:List D):List (Key×cU):=(ps ls s.outs (p8 ls s.res 0).2).1
structure tu(P:Program)(G:dt)(s:gT)(F:List D->Option (List D)):Prop where
 fn:wL P s.f
 run:∀ls fc,F ls=some fc->∀(m:Mem)(fr:ff)(ρ:di)(w:World)(vs:List Value),kf G m->ve m fr ρ (eN (s.ot ls)) w->vs.length=(s.xi ls).length->(∀(i:Nat)(x:aX)(v:Value),(s.xi ls)[i]?=some x->vs[i]?=some v->cb m ρ (rL (eN (s.ot ls))) x v)->Calls P s.f vs.toArray w λe w'=>∃v cz c0,e= .returned v/\m.le cz/\ve cz fr c0 (eN (s.p9 fc)) w'/\cb cz c0 (rL (eN (s.p9 fc))) (s.LA fc) v/\ ∀k,10000<=k->eW (eN (s.ot ls) k)->c0 k=ρ k
def rM(cj:List (Key×Key))(base:Nat)(k:Key):Key:=if 10000<=k then gb cj k else base+(k-9000)
def xj(objs:cx)(dead:List Key)(outs:List (Key×cU)):cx:=λp=>match eN outs p with|some o=>some o|none=>if p∈dead then some .dead else objs p
def alg:l0->Bool
 | .row _=>true| .map=>true|_=>false
def Zh(objs:cx)(cj:List (Key×Key))(base:Nat)(s:gT):Bool:=y3 (gb cj) (s.ins.map (·.1))&&y3 (rM cj base) (s.outs.map (·.1))&&decide ((s.ins.map (·.1)).Nodup)&&decide ((s.outs.map (·.1)).Nodup)&&s.outs.all (λp=>if 10000<=p.1 then s.ins.any (λq=>q.1==p.1&&Cq q.2)else decide (9000<=p.1)&&decide (rM cj base p.1<10000)&&(objs (rM cj base p.1)).isNone)&&s.ins.all (λq=>if 10000<=q.1 then Cq q.2&&s.outs.any (λp=>p.1==q.1&&Cq p.2)else alg q.2&&decide (gb cj q.1<10000))
section
variable{β:Type}
def Rf(G:dt)(s:gT)(F:List D->Option (List D))(base:Nat)(σ:aM)(o:Oper)(x:Operand)(args:List Operand)(k:aM->Option β):Option β:=match wO (cg G σ.aO x)with
 |some (f,pre,post)=>
  if f=s.f then
   let uW:=pre++args.map (cg G σ.aO)++post
   let cj:=Co σ s.ins (Lp uW s.args)
   let ks:=s.ins.map (·.1)
   if Zh σ.objs cj base s=true then
    match vc (Ls cj ks uW s.args) (Lt cj ks σ s.ins)with|some ls=>ab (F ls) λfc=>k (aM.put ⟨σ.aO,xj σ.objs (ks.map (gb cj)) ((s.p9 fc).map λp=>(rM cj base p.1,vd (rM cj base) p.2))⟩ o.dst (FW (rM cj base) (s.LA fc)))|none=>none
   else none
  else none
 |none=>none
end
section
variable{P:Program}{T:ch}{G:dt}{m:Mem}{fr:ff}{ρ:di}{σ:aM}{a:Act}{w:World}{N:Nat}
def alh(cY:kf G m)(h:Den m fr ρ σ a w){o:Oper}{x:Operand}{args:Array Operand}{dK:Array TypeId}(ea:o.op= .call ⟨.value x,args,dK⟩){f:FuncId}{pre post:List aX}(hc:wO (cg G σ.aO x)=some (f,pre,post))(bk:wL P f): ∃vs:List Value,vs.length=(pre++args.toList.map (cg G σ.aO)++post).length/\(∀(i:Nat)(c:aX)(v:Value),(pre++args.toList.map (cg G σ.aO)++post)[i]?=some c->vs[i]?=some v->cb m ρ σ.used c v)/\(execOp a.eval o).run P w= .ok (.enter f vs.toArray) w:=by
 have dA:=EX (a:=a) cY h.aO;have ad:=dA x;have Qa:∃first cap,a.eval x= .func (.func f) first cap/\first.size=pre.length/\cap.size=post.length/\(∀(i:Nat)(c:aX)(v:Value),pre[i]?=some c->first[i]?=some v->cb m ρ σ.used c v)/\(∀(i:Nat)(c:aX)(v:Value),post[i]?=some c->cap[i]?=some v->cb m ρ σ.used c v):=by
  unfold wO at hc;split at hc
  .rename_i kJ first cap he
   split at hc
   case isFalse=>cases hc
   rename_i au;cases hc;rw[he]at ad;exact⟨first,cap,ad.hS,by simpa using au.1,by simpa using au.2,by intro i c v ai;simp at ai,by intro i c v ai;simp at ai⟩
  .rename_i kJ first cap he
   cases hc;rw[he]at ad;generalize a.eval x=u at ad;cases ad with|fn _ _ _ vs ws al ew g ru=>exact⟨vs,ws,rfl,al,ew,g,ru⟩
  .rename_i kJ first cap he
   cases hc;rw[he]at ad;have ad:=ad.o7;generalize a.eval x=u at ad;cases ad with|fn _ _ _ vs ws al ew g ru=>
   refine⟨vs,ws,rfl,by simpa using al,by simpa using ew,?_,?_⟩;.intro i c v ai aS;simp only[xah,xaf]at ai;obtain⟨y,aE,rfl⟩:=ai;exact .d _ _ (g i y v aE aS)
   intro i c v ai aS;simp only[xah,xaf]at ai;obtain⟨y,aE,rfl⟩:=ai;exact .d _ _ (ru i y v aE aS)
  .cases hc
 obtain⟨first,cap,wB,mW,ob,g1,g2⟩:=Qa;refine⟨(first++args.map a.eval++cap).toList,by simp[mW,ob],?_,?_⟩
 .intro i c v ai aS;simp only[Array.toList_append,Array.toList_map]at aS;have aL:first.toList.length=pre.length:=by simpa using mW
  by_cases J:i<pre.length;.rw[xaK,xap J]at ai;rw[xaK,xap (by omega)]at aS;exact g1 i c v ai (by simpa using aS)
  by_cases aa:i<pre.length+args.size;.rw[xap (by simp;omega),xaC (by omega)]at ai;rw[xap (by simp;omega),xaC (by omega),aL]at aS;simp only[xah,xaf]at ai aS;obtain⟨p,aU,rfl⟩:=ai;obtain⟨q,bM,rfl⟩:=aS;rw[aU]at bM;cases bM;exact dA _
  rw[xaC (by simp;omega)]at ai;rw[xaC (by simp;omega)]at aS;refine g2 _ c v ai ?_;rw[<-aS];simp only[xaQ,xaY,xbT,mW];simp
 unfold execOp;rw[ea];simp only[Array.toArray_toList];exact XE wB bk
def Zi{φ:Key->Key}:∀{lo:List (Key×cU)} {p:Key} {o:cU},eN (lo.map λq=>(φ q.1,vd φ q.2)) p=some o->∃k dZ,k∈mA lo/\φ k=p/\o=vd φ dZ/\((mA lo).Nodup->eN lo k=some dZ)
 |[],p,o,h=>by cases h
 |(j,x)::r,p,o,h=>by
  simp only[xau,eN]at h;split at h;.rename_i e;cases h;exact⟨j,x,by simp[mA],e.symm,rfl,λ_=>by simp[eN]⟩
  obtain⟨k,dZ,J,aa,ax,bh⟩:=Zi h;refine⟨k,dZ,?_,aa,ax,?_⟩;.simp only[mA,xau,xal]at J⊢;exact .inr J
  intro aN;simp only[mA,xau,List.nodup_cons]at aN J;have cp:k≠j:=by rintro rfl;exact aN.1 J
  simp only[eN,xae cp];exact bh aN.2
def Rg{φ:Key->Key}:∀{lo:List (Key×cU)} {k:Key},k∈mA lo->∃o,eN (lo.map λq=>(φ q.1,vd φ q.2)) (φ k)=some o
 |[],k,h=>by cases h
 |(j,x)::r,k,h=>by
  simp only[xau,eN];split;.exact⟨_,rfl⟩
  rename_i cp;simp only[mA,xau,xal]at h;rcases h with rfl|h
  .exact absurd rfl cp
  exact Rg h
def Zj{ls:List D}{l:List (Key×l0)}{n:Nat}{k:Key}(aN:(l.map (·.1)).Nodup){q:Key×l0}(bM:q∈l)(ah:q.1=k)(aj:Cq q.2=true):eW (eN (ps ls l n).1 k):=by obtain⟨a,b⟩:=q;simp only at ah aj;subst ah;exact Q8 ls l n _ aN ⟨_,bM,aj⟩
def ali{φ:Key->Key}{U:Key->Prop}{o o':cU}(h:y1 φ U o' o)(aj:eW (some o)):eW (some o'):=by
 cases o with
 |dead=>exact absurd aj Fi|box=>obtain⟨xs,rfl,_⟩:=h;exact uU
 |row=>obtain⟨es,rfl,_⟩:=h;exact s6
 |map=>cases o'<;>first|exact wM|exact h.elim|cases h
def alj(cY:kf G m)(h:Den m fr ρ σ a w)(cf:N<=a.tmps.size)(hL:a.defers=[]){o:Oper}(gn:∀d,o.dst=some d->d<N){s:gT}{F:List D->Option (List D)}(bD:tu P G s F){base:Nat} {x:Operand} {args:Array Operand} {dK:Array TypeId} (aT:o.op= .call ⟨.value x,args,dK⟩) {β:Type} {k:aM->Option β} {b:β} (ai:Rf G s F base σ o x args.toList k=some b) {Q:Exit->Act->World->Prop}:o.wp P a w (jg N m fr ρ σ (λaZ=>k aZ=some b/\∀p,10000<=p->eW (aZ.objs p)->eW (σ.objs p))) Q:=by
 have jh:∀d,o.dst=some d->d<a.tmps.size:=λd ay=>xcf (gn d ay) cf;have s7:∀v,N<=(a.put o.dst v).tmps.size:=by intro v;cases o.dst<;>simpa[Act.put]using cf
 have mw:∀v,(a.put o.dst v).defers=[]:=by intro v;cases o.dst<;>exact hL
 unfold Rf at ai;split at ai
 case h_2=>cases ai
 rename_i f pre post hc;split at ai
 case isFalse=>cases ai
 rename_i bk;subst bk;simp only at ai;generalize aBs:Co σ s.ins (Lp (pre++args.toList.map (cg G σ.aO)++post) s.args)=cj at ai;generalize Zk:pre++args.toList.map (cg G σ.aO)++post=uW at ai;split at ai
 case isFalse=>cases ai
 rename_i Zl;split at ai
 case h_2=>cases ai
 rename_i ls Q9;obtain⟨fc,fQ,ah⟩:=ek ai;simp only[Zh,xao,xax,xaz]at Zl;obtain⟨⟨⟨⟨⟨c1,c2⟩,b4⟩,cT⟩,dp⟩,dq⟩:=Zl;obtain⟨aK,a2,aL,a7,rfl⟩:=zg Q9;have gf:At (aK++a2) 0 (aK++a2):=λj d aB=>by rw[xay];exact aB
 have Rh:mA (s.ot (aK++a2))=s.ins.map (·.1):=zh _ _ _;have Ri:mA (s.p9 fc)=s.outs.map (·.1):=zh _ _ _;have gS:∀k,(s.ins.map (·.1)).contains k=true->rL (eN (s.ot (aK++a2))) k:=by intro k ah;exact Lu (by rw[Rh];simpa using ah)
 obtain⟨b0,bR⟩:=Q6 gS aL gf.left;have av:=gf.right;rw[<-bR]at av;obtain⟨cw,dX⟩:=Q7 gS a7 av;have cw:y2 (gb cj) (rL (eN (s.ot (aK++a2)))) σ (s.ot (aK++a2)):=cw;have alk:∀k j,k∈s.ins.map (·.1)->j∈s.ins.map (·.1)->gb cj k=gb cj j->k=j:=K3 c1;have Zm:∀k j,k∈s.outs.map (·.1)->j∈s.outs.map (·.1)->rM cj base k=rM cj base j->k=j:=K3 c2;have iz:∀{o o':cU},y1 (gb cj) (rL (eN (s.ot (aK++a2)))) o' o->o.owns=true->o'.owns=true:=by
  intro o o' hle aT;cases o with
  |dead=>cases aT
  |box=>obtain⟨xs,rfl,_⟩:=hle;rfl
  |row=>obtain⟨es,rfl,_⟩:=hle;rfl
  |map=>cases hle;rfl
 have Rj:∀{k o},eN (s.ot (aK++a2)) k=some o->k∈s.ins.map (·.1):=λah=>by rw[<-Rh];exact w6 ah
 have alm:∀{k o},eN (s.p9 fc) k=some o->k∈s.outs.map (·.1):=λah=>by rw[<-Ri];exact w6 ah
 let passed:Key->Prop:=λp=>∃k,k∈s.ins.map (·.1)/\gb cj k=p
 let FX:Mem:=λb=>match fr b with|some o=>some o|none=>open Classical in if∃k o,σ.objs k=some o/\o.owns=true/\¬passed k/\blockOf (ρ k)=some b then w.heap[b]? else none
 let vf:ff:=⟨FX,fr.os,fr.out,fr.low⟩
 have LB:∀b o,fr b=some o->vf b=some o:=by intro b o aj;simp only[vf,FX,aj]
 have LC:∀b k o,σ.objs k=some o->o.owns=true->¬passed k->blockOf (ρ k)=some b->vf b=w.heap[b]?:=by intro b k o J aa ax bh;have b9:=(h.own k o b J aa bh).2;simp only[vf,FX,b9];rw[xac ⟨k,o,J,aa,ax,bh⟩]
 have Zn:∀b,vf b≠none->fr b≠none\/∃k o,σ.objs k=some o/\o.owns=true/\¬passed k/\blockOf (ρ k)=some b:=by intro b aj;cases bk:fr b with|some o=>exact .inl (by simp)|none=>refine .inr ?_;refine xbf λzk=>aj ?_;simp only[vf,FX,bk];rw[xae zk]
 have FA:ve m vf (λk=>ρ (gb cj k)) (eN (s.ot (aK++a2))) w:=by
  refine⟨h.mem,⟨?_,⟨h.frame.quiet.os,h.frame.quiet.out,h.frame.quiet.low⟩⟩,?_,?_,λ_=> .any _,?_,?_,?_⟩
  .intro b o aj;cases bk:fr b with
   |some o'=>rw[LB b o' bk]at aj;cases aj;exact h.frame.nG b _ bk
   |none=>
    simp only[vf,FX,bk]at aj;split at aj;.exact aj
    cases aj
  .intro b aj;refine xbf λzk=>?_;rcases Zn b zk with J|⟨k,o,J,aa,ax,bh⟩
   .exact J (h.apart b aj)
   exact aj (h.own k o b J aa bh).1
  .rintro k ⟨o,kL⟩;obtain⟨o',J,_⟩:=cw.ok k o kL;exact h.one _ ⟨o',J⟩
  .intro k o kL;obtain⟨o',J,aa⟩:=cw.ok k o kL;have ax:=h.objs _ _ J;cases o with
   |dead=>trivial|box c7=>obtain⟨xs,rfl,hle⟩:=aa;obtain⟨b,vs,T,aL,a7,bV,cG⟩:=ax;have:=te.cells hle ⟨bV,cG⟩;exact⟨b,vs,T,aL,a7,this.1,this.2⟩
   |row cV de=>obtain⟨es,rfl,hle⟩:=aa;exact hle.ok ax
   |map es=>cases aa;exact ax
  .intro k o b kL K4 aj;obtain⟨o',J,aa⟩:=cw.ok k o kL;have ax:=h.own _ o' b J (iz aa K4) aj;refine⟨ax.1,?_⟩;refine xbf λzk=>?_;rcases Zn b zk with bh|⟨bF,kk,bh,b9,cN,fP⟩
   .exact bh ax.2
   have cp:gb cj k≠bF:=by rintro rfl;exact cN ⟨k,Rj kL,rfl⟩
   exact h.sep _ _ _ _ b cp J bh (iz aa K4) b9 aj fP
  intro k bF o o' b cp kL FC FD Qq aj;obtain⟨y,J,aa⟩:=cw.ok k o kL;obtain⟨PQ,dS,gO⟩:=cw.ok bF o' FC;exact h.sep (gb cj k) (gb cj bF) y PQ b (λe=>cp (alk k bF (Rj kL) (Rj FC) e)) J dS (iz aa FD) (iz gO Qq) aj
 obtain⟨vs,v1,v2,v3⟩:=alh (P:=P) cY h aT hc bD.fn;rw[Zk]at v1 v2;obtain⟨mu,k5⟩:=b0.ok;have s9:=bD.run _ _ fQ m vf _ w vs cY FA (v1.trans mu.symm) (by intro i y v aE aS;obtain⟨ag,aln,hle⟩:=k5 i y aE;exact hle.ok (v2 i ag v aln aS))
 unfold Oper.wp;rw[v3];refine s9.mono λe w' he=>?_;obtain⟨v,cz,c0,rfl,zl,mD,u1,alo⟩:=he;generalize kn:rM cj base=φ at*
 let vg:=(s.p9 fc).map λp=>(φ p.1,vd φ p.2)
 let objs':=xj σ.objs ((s.ins.map (·.1)).map (gb cj)) vg
 let ly:di:=λp=>match(s.outs.map (·.1)).find? (λk=>φ k==p)with|some k=>c0 k|none=>ρ p
 have Rk:∀k,k∈s.outs.map (·.1)->ly (φ k)=c0 k:=by intro k ah;simp only[ly];cases Ct:(s.outs.map (·.1)).find? (λbF=>φ bF==φ k)with|none=>exact absurd (List.find?_eq_none.1 Ct k ah) (by simp)|some bF=>have J:=List.find?_some Ct;simp only[xbP]at J;rw[Zm bF k (List.mem_of_find?_eq_some Ct) ah J]
 have Rl:∀k,k∈s.outs.map (·.1)->(10000<=k/\k∈s.ins.map (·.1)/\φ k=gb cj k/\eW (eN (s.ot (aK++a2)) k))\/(σ.objs (φ k)=none/\φ k<10000):=by
  intro k ah;obtain⟨p,aU,rfl⟩:=xaO.1 ah;have J:=dp p aU;by_cases b5:10000<=p.1
  .rw[xac b5]at J;obtain⟨q,bM,aa⟩:=xbC.1 J;simp only[xao,xbP]at aa;refine .inl ⟨b5,xaO.2 ⟨q,bM,aa.1⟩,?_,Zj b4 bM aa.1 aa.2⟩;rw[<-kn];simp only[rM,xac b5]
  rw[xae b5]at J;simp only[xao,xaz,Option.isNone_iff_eq_none]at J;exact .inr ⟨J.2,J.1.2⟩
 have LD:∀p,σ.used p->ly p=ρ p:=by
  rintro p ⟨op,aU⟩;simp only[ly];cases Ct:(s.outs.map (·.1)).find? (λbF=>φ bF==p)with
  |none=>rfl
  |some k=>
   have J:=List.find?_some Ct;simp only[xbP]at J;rcases Rl k (List.mem_of_find?_eq_some Ct)with⟨aa,ax,bh,b9⟩|⟨aa,_⟩
   .simp only;rw[alo k aa b9,<-bh,J]
   rw[J,aU]at aa;cases aa
 have FY:∀p op,eN vg p=some op->∃k dZ,k∈s.outs.map (·.1)/\φ k=p/\op=vd φ dZ/\eN (s.p9 fc) k=some dZ:=by intro p op aU;obtain⟨k,dZ,J,aa,ax,bh⟩:=Zi aU;rw[Ri]at J bh;exact⟨k,dZ,J,aa,ax,bh cT⟩
 have Zo:∀k,rL (eN (s.p9 fc)) k->rL objs' (φ k)/\ly (φ k)=c0 k:=by rintro k ⟨dZ,J⟩;refine⟨?_,Rk k (alm J)⟩;obtain⟨e4,aa⟩:=Rg (φ:=φ) (w6 J);exact⟨e4,by simp only[objs',xj,vg,aa]⟩
 have Zp:∀p,σ.used p->rL objs' p/\ly p=ρ p:=by
  rintro p ⟨op,aU⟩;refine⟨?_,LD p ⟨op,aU⟩⟩;unfold rL;simp only[objs',xj];cases al:eN vg p with
  |some e4=>exact⟨e4,rfl⟩
  |none=>
   simp only;split;.exact⟨_,rfl⟩
   exact⟨op,aU⟩
 have FZ:∀p op,objs' p=some op->op.owns=true->(∃k dZ,φ k=p/\op=vd φ dZ/\eN (s.p9 fc) k=some dZ/\ly p=c0 k/\dZ.owns=true)\/(σ.objs p=some op/\¬passed p/\ly p=ρ p):=by
  intro p op aU ea;simp only[objs',xj]at aU;cases al:eN vg p with
  |some e4=>rw[al]at aU;cases aU;obtain⟨k,dZ,J,aa,ax,bh⟩:=FY p op al;refine .inl ⟨k,dZ,aa,ax,bh,?_,by rw[ax,ale]at ea;exact ea⟩;rw[<-aa];exact Rk k J
  |none=>
   rw[al]at aU;simp only at aU;split at aU;.cases aU;cases ea
   rename_i aN;refine .inr ⟨aU,?_,LD p ⟨op,aU⟩⟩;rintro⟨k,ah,rfl⟩;exact aN (xaO.2 ⟨k,ah,rfl⟩)
 have alp:Den cz fr ly ⟨σ.aO,objs'⟩ a w':=by
  refine⟨mD.mem,⟨λb fx aj=>mD.frame.nG b fx (LB b fx aj),⟨mD.frame.quiet.os,mD.frame.quiet.out,mD.frame.quiet.low⟩⟩,?_,?_,?_,?_,?_,?_⟩;.intro b aj;have J:=mD.apart b aj;cases bk:fr b with|none=>rfl|some fx=>rw[LB b fx bk]at J;cases J
  .rintro p ⟨op,aU⟩;simp only[objs',xj]at aU;cases al:eN vg p with
   |some e4=>obtain⟨k,dZ,J,aa,ax,bh⟩:=FY p e4 al;rw[<-aa,Rk k J];exact mD.one k ⟨dZ,bh⟩
   |none=>
    rw[al]at aU;simp only at aU;have hu:σ.used p:=by
     split at aU;.rename_i hm;obtain⟨k,ah,rfl⟩:=xaO.1 hm;obtain⟨ok,alq⟩:=Lu (lo:=s.ot (aK++a2)) (k:=k) (by rw[Rh];exact ah);obtain⟨o',J,_⟩:=cw.ok k ok alq;exact⟨o',J⟩
     exact⟨op,aU⟩
    rw[LD p hu];exact h.one p hu
  .intro t;exact(h.aO t).mono zl Zp
  .intro p op aU;by_cases ea:op.owns=true
   .rcases FZ p op aU ea with⟨k,dZ,J,aa,ax,bh,b9⟩|⟨J,aa,ax⟩;.rw[aa,bh];exact ald Zo (mD.objs k dZ ax)
    rw[ax];refine(h.objs p op J).mono zl Zp ?_;intro b sY yN;have bh:=LC b p op J ea aa yN;have b9:∃fx,w.heap[b]?=some fx:=⟨_,xak ((h.objs p op J).uP sY yN)⟩;obtain⟨fx,b9⟩:=b9;rw[b9];exact mD.frame.nG b fx (by rw[bh,b9])
   cases op with|dead=>trivial|_=>exact absurd rfl ea
  .intro p op b aU ea aj;rcases FZ p op aU ea with⟨k,dZ,J,aa,ax,bh,b9⟩|⟨J,aa,ax⟩
   .rw[bh]at aj;have cN:=mD.own k dZ b ax b9 aj;refine⟨cN.1,?_⟩;cases bk:fr b with|none=>rfl|some fx=>rw[LB b fx bk]at cN;cases cN.2
   rw[ax]at aj;have bh:=h.own p op b J ea aj;refine⟨?_,bh.2⟩;refine xbf λzk=>?_;have b9:=mD.apart b zk;rw[LC b p op J ea aa aj]at b9;have:=(h.objs p op J).uP ea aj;rw[xak this]at b9;cases b9
  intro p pb op F0 b cp aU tw ea F1 aj;rcases FZ p op aU ea with⟨k,dZ,J,aa,ax,bh,b9⟩|⟨J,aa,ax⟩
  .rw[bh]at aj;rcases FZ pb F0 tw F1 with⟨bF,FV,dS,gO,iA,nm,vh⟩|⟨dS,gO,iA⟩
   .rw[nm];exact mD.sep k bF dZ FV b (by rintro rfl;exact cp (J.symm.trans dS)) ax iA b9 vh aj
   rw[iA];intro fi;have cN:=(mD.own k dZ b ax b9 aj).2;rw[LC b pb F0 dS F1 gO fi]at cN;have:=(h.objs pb F0 dS).uP F1 fi;rw[xak this]at cN;cases cN
  rw[ax]at aj;rcases FZ pb F0 tw F1 with⟨bF,FV,dS,gO,iA,nm,vh⟩|⟨dS,gO,iA⟩
  .rw[nm];intro fi;have cN:=(mD.own bF FV b iA vh fi).2;rw[LC b p op J ea aa aj]at cN;have:=(h.objs p op J).uP ea aj;rw[xak this]at cN;cases cN
  rw[iA];exact h.sep p pb op F0 b cp J dS ea F1 aj
 have jk:cb cz ly (rL objs') (FW φ (s.LA fc)) v:=Zg Zo u1;have KW:∀p,10000<=p->eW (objs' p)->eW (σ.objs p):=by
  intro p aU hU;simp only[objs',xj]at hU;cases al:eN vg p with
  |some e4=>
   obtain⟨k,dZ,g1,g2,g3,g4⟩:=FY p e4 al;rcases Rl k g1 with⟨aa,ax,bh,b9⟩|⟨_,aa⟩;.obtain⟨bf,cN⟩:=BZ b9;obtain⟨o',fP,il⟩:=cw.ok k _ cN;rw[cN]at b9;rw[<-g2,bh,fP];exact ali il b9
   rw[g2]at aa;exact absurd aa (Nat.not_lt.2 aU)
  |none=>
   rw[al]at hU;simp only at hU;split at hU;.exact absurd hU Fi
   exact hU
 refine⟨_,cz,ly,⟨ah,by rw[aM.wN];exact KW⟩,zl,alp.put jk jh,s7 v,mw v,?_⟩;intro p aU aj;rw[aM.wN];obtain⟨cs,hU⟩:=BZ aj;refine⟨?_,LD p ⟨_,hU⟩⟩;show eW (objs' p);simp only[objs',xj];by_cases Rm:p∈(s.ins.map (·.1)).map (gb cj)
 .obtain⟨k,l1,rfl⟩:=xaO.1 Rm;obtain⟨q,bM,rfl⟩:=xaO.1 l1;have J:=dq q bM;by_cases bh:10000<=q.1
  .rw[xac bh]at J;simp only[xao,xbC,xbP]at J;obtain⟨_,pb,tw,b9,cN⟩:=J;have ou:q.1∈s.outs.map (·.1):=xaO.2 ⟨pb,tw,b9⟩;have alr:φ q.1=gb cj q.1:=by rw[<-kn];simp only[rM,xac bh]
   obtain⟨e4,fP⟩:=Rg (φ:=φ) (lo:=s.p9 fc) (k:=q.1) (by rw[Ri];exact ou);obtain⟨k,dZ,g1,g2,g3,g4⟩:=FY _ e4 fP;have dx:k=q.1:=Zm k q.1 g1 ou g2;subst dx;have g5:eW (eN (s.p9 fc) q.1):=Zj (ls:=fc) (n:=(p8 fc s.res 0).2) cT tw b9 cN;rw[g4]at g5;rw[<-alr];have g7:eN vg (φ q.1)=some e4:=fP;rw[g7,g3];rcases g5 with⟨aBt,g5⟩|⟨mE,als,g5⟩|⟨als,g5⟩
   .cases g5;exact uU
   .cases g5;exact s6
   cases g5;exact wM
  rw[xae bh]at J;simp only[xao,xaz]at J;exact absurd J.2 (Nat.not_lt.2 aU)
 cases al:eN vg p with
 |some e4=>
  exfalso;obtain⟨k,dZ,g1,g2,g3,g4⟩:=FY p e4 al;rcases Rl k g1 with⟨aa,ax,bh,b9⟩|⟨aa,_⟩
  .exact Rm (xaO.2 ⟨k,ax,by rw[<-bh,g2]⟩)
  rw[g2,hU]at aa;cases aa
 |none=>simp only;rw[xae Rm];exact aj
end
structure Cu where
 s:gT
 F:List D->Option (List D)
 base:Nat
 p7:List xc
abbrev xk:=Tmp->Option Cu
def kQ(P:Program)(G:dt)(H:xk):Prop:=∀t e,H t=some e->tu P G e.s e.F
def LF:aX->List Key
 | .row k=>[k]| .map k=>[k]|_=>[]
def LG:aX->List Key
 | .agg cs=>cs.flatMap LF| .fn _ as jJ=>as.flatMap LF++jJ.flatMap LF|x=>LF x
def LH:aX->List Key
 | .ptr k _=>[k]|_=>[]
def Zq:aX->List Key
 | .agg cs=>cs.flatMap LH| .fn _ as jJ=>as.flatMap LH++jJ.flatMap LH|x=>LH x
def Zr(objs:cx)(k:Key):List aX:=match objs k with|some (.box cs)=>cs|_=>[]
section
variable{β:Type}
def Zs(T:ch)(G:dt)(C:lY)(σ:aM)(o:Oper)(x:Operand)(args:List Operand)(k:aM->Option β):Option β:=
 let uW:=(x::args).map (cg G σ.aO)
 let fJ:=uW.flatMap Zq
 let c1:=fJ.flatMap (Zr σ.objs)
 let hV:=c1.flatMap Zq
 let c2:=hV.flatMap (Zr σ.objs)
 zj [uW.flatMap LG++c1.flatMap LG++c2.flatMap LG,hV,fJ] σ λσ=>y9 T G C σ o x args k
def Zt(o:Oper):Tmp:=match o.op,o.dst with| .store _ (.tmp a) _,_=>20000+a| .mapUpdate _ (.tmp a) _ _,_=>30000+a|_,some d=>d|_,none=>9999
def alu:Op->List Operand
 | .buildSlice _ _ iO=>iO.toList.map (·.2)| .build _ iO=>iO.toList.map (·.2)| .box _ x=>[x]| .store _ _ x=>[x]| .mapUpdate _ _ _ x=>[x]| .call ⟨.builtin .append,args,_⟩=>args.toList.drop 1|_=>[]
def Cv:D->Option (TypeId×D)
 | .ef t x=>some (t,x)|_=>none
def gD{eO:Type}(t c:Nat)(a b:Option eO):Option eO:=if t=c then a else b
def LI(sR:TypeId->Option FuncId)(t:TypeId)(k:FuncId->Option D):List TypeId->Option D
 |[]=>none|c::r=>gD t c (match sR c with|some f=>k f|none=>none) (LI sR t k r)
def Rn(T:ch)(G:dt)(C:lY)(σ:aM)(o:Oper)(x:Operand)(name:String)(args:List Operand)(k:aM->Option β):Option β:=match cg G σ.aO x with
 | .d a=>match hK ((args.map (cg G σ.aO)).map (toD σ.objs))with|some aR=>ab (Cv a) λp=>ab (LI (λt=>T.sR t name) p.1 (λf=>C (o.dst.getD 9999) f (p.2::aR)) T.WC) λr=>bu ((args.map (cg G σ.aO)).all s8) (k (σ.put o.dst (.d r)))|none=>none
 |_=>none
def LJ(T:ch)(G:dt)(iW:Tmp->Bool)(σ:aM)(o:Oper)(k:aM->Option β):Option β:=match iW (Zt o)with|true=>zj [((alu o.op).map (cg G σ.aO)).flatMap LG] σ λσ=>tj T G σ o k|false=>tj T G σ o k
def Ro(T:ch)(G:dt)(C:lY)(H:xk)(iW:Tmp->Bool)(σ:aM)(o:Oper)(k:aM->Option β):Option β:=match o.op with
 | .call ⟨.value x,args,_⟩=>match H (o.dst.getD 9999)with
  |some e=>pt e.p7 σ λσ=>Rf G e.s e.F e.base σ o x args.toList λaZ=>match iW (o.dst.getD 9999)with|true=>Cr (o.dst.getD 9999) aZ k|false=>k aZ
  |none=>match iW (o.dst.getD 9999)with|true=>Zs T G C σ o x args.toList k|false=>y9 T G C σ o x args.toList k
 | .call ⟨.invoke x name,args,_⟩=>Rn T G C σ o x name args.toList k| .slice _ _ _ _ _=>match iW (Zt o)with|true=>tj T G σ o λaZ=>Cr (o.dst.getD 9999) aZ k|false=>tj T G σ o k
 | .store _ _ (.tmp t)=>match iW (40000+t)with|true=>Cr t σ λσ=>tj T G σ o k|false=>LJ T G iW σ o k
 |_=>LJ T G iW σ o k
def Rp(T:ch)(G:dt)(C:lY)(H:xk)(iW:Tmp->Bool):List Oper->aM->(aM->Option β)->Option β
 |[],σ,k=>k σ|o::r,σ,k=>Ro T G C H iW σ o λaZ=>Rp T G C H iW r aZ k
def Rq(o:Oper):Bool:=still o||qA o.op
def zm(T:ch)(G:dt)(C:lY)(H:xk)(iW:Tmp->Bool)(all:Array Oper):List (Option (Nat×Bool)×List Oper)->aM->(aM->Option β)->Option β
 |[],σ,k=>k σ|(none,os)::r,σ,k=>Rp T G C H iW os σ λaZ=>zm T G C H iW all r aZ k
 |(some (j,want),os)::r,σ,k=>match(all[j]?).bind (·.dst),w9 os with
  |some d,some cE=>match σ.aO d with
   | .d x=>if os.all (λo=>Rq o&&o.dst !=some d)=true then
     (if(kept all os (flat r)).all (·==cE)=true then
      ab (dL x want (tl T G C os σ λaZ=>match aZ.aO cE with| .d v=>some v|_=>none)) λv=>zm T G C H iW all r ((lZ (dstsOf os) σ).put (some cE) (.d v)) k
     else ab (dL x want (tl T G C os σ λaZ=>match FM aZ (kept all os (flat r))with|some l=>some (.agg l)|none=>none)) λv=>zm T G C H iW all r (xa (kept all os (flat r)) v (lZ (dstsOf os) σ)) k)else none
   |_=>none
  |_,_=>none
def Zu(T:ch)(G:dt)(C:lY)(H:xk)(iW:Tmp->Bool)(all:Array Oper)(σ:aM)(k:aM->Option β):Option β:=zm T G C H iW all (w8 all.toList) σ k
end
def Cw{objs:cx}{k d:Key}{o:cU}(h:eW (some o)->eW (objs k)\/k=d):∀j,eW (cq objs k (some o) j)->eW (objs j)\/j=d:=by
 intro j aB;by_cases fy:j=k;.subst fy;rw[e1]at aB;exact h aB
 rw[c5 _ _ fy]at aB;exact .inl aB
def alv{T:ch}{ev:Operand->aX}{objs:cx}{d:Key}{o:Op}{r:aX}{cA:List (Key×cU)}(h:eu T ev objs d o=some (r,cA)):∀j,eW (dJ objs cA j)->eW (objs j)\/j=d:=by
 have new:∀{o:cU},∀j,eW (dJ objs [(d,o)] j)->eW (objs j)\/j=d:=by intro o;exact Cw (λ_=> .inr rfl)
 have row:∀{k:Key}{n gj:Nat}{es fZ:List (List D)},objs k=some (.row gj fZ)->∀j,eW (dJ objs [(k,.row n es)] j)->eW (objs j)\/j=d:=by intro k n gj es fZ ah;exact Cw (λ_=> .inl (by rw[ah];exact s6))
 have mp:∀{k:Key}{es fZ:List (Value×D)},objs k=some (.map fZ)->∀j,eW (dJ objs [(k,.map es)] j)->eW (objs j)\/j=d:=by intro k es fZ ah;exact Cw (λ_=> .inl (by rw[ah];exact wM))
 cases o<;>simp only[eu,reduceCtorEq]at h
 case alloc=>split at h<;>cases h;exact new
 case box=>split at h<;>cases h;exact new
 case buildSlice=>
  split at h
  case h_2=>cases h
  split at h
  case h_2=>cases h
  split at h
  case h_2=>cases h
  split at h<;>cases h;exact new
 case makeSlice=>
  split at h
  case h_2=>cases h
  split at h
  case h_2=>cases h
  split at h
  case h_2=>cases h
  split at h<;>cases h;exact new
 case makeMap=>split at h<;>cases h;exact new
 case store=>
  split at h
  case h_2=>cases h
  split at h
  case isFalse=>cases h
  split at h
  .split at h
   case h_2=>cases h
   split at h<;>cases h;rename_i ah _;exact Cw λ_=> .inl (by rw[ah];exact uU)
  .split at h
   case h_2=>cases h
   split at h
   case isFalse=>cases h
   split at h<;>cases h;exact row (by assumption)
  cases h
 case mapUpdate=>
  split at h
  case h_2=>cases h
  split at h
  case h_2=>cases h
  split at h
  case isFalse=>cases h
  split at h
  case h_2=>cases h
  split at h
  case h_2=>cases h
  split at h<;>cases h;exact mp (by assumption)
 case insert=>
  split at h
  case h_2=>cases h
  split at h
  case h_2=>cases h
  split at h
  case isFalse=>cases h
  split at h
  case h_2=>cases h
  split at h
  case h_2=>cases h
  split at h<;>cases h;exact mp (by assumption)
 case call=>
  split at h
  .split at h
   case h_2=>cases h
   split at h
   case h_2=>cases h
   split at h
   case h_2=>cases h
   split at h
   case h_2=>cases h
   split at h
   case isFalse=>cases h
   split at h;.split at h<;>cases h;exact new
   .split at h
    case h_2=>cases h
    split at h<;>cases h;intro j aB;rcases Cw (d:=d) (λ_=> .inr rfl) j aB with J|J
    .exact Cw (λh=>absurd h Fi) j J
    exact .inr J
   cases h
  .split at h
   case h_2=>cases h
   split at h
   case h_2=>cases h
   split at h
   case h_2=>cases h
   split at h
   case h_2=>cases h
   split at h
   case isFalse=>cases h
   split at h
   .split at h
    case h_2=>cases h
    split at h<;>cases h;exact row (by assumption)
   .split at h
    case h_2=>cases h
    split at h<;>cases h;exact row (by assumption)
   cases h
  .split at h
   case h_2=>cases h
   split at h
   case h_2=>cases h
   split at h
   case h_2=>cases h
   split at h
   case h_2=>cases h
   split at h
   case h_2=>cases h
   split at h<;>cases h;exact row (by assumption)
  cases h
def alw{T:ch}{ev:Operand->aX}{objs:cx}{d:Key}{o:Op}{r:aX}{cA:List (Key×cU)}(h:hv T ev objs d o=some (r,cA)):∀j,eW (dJ objs cA j)->eW (objs j)\/j=d:=by
 obtain⟨⟨ju,s5⟩,au,aj⟩:=wK h;have J:=alv au;intro j aB;by_cases ay:j=d
 .exact .inr ay
 rcases yP (T.born d) d ju s5 with e|⟨n,es,rfl,rfl,e⟩|⟨qv,n,es,rfl,rfl,e⟩|⟨off,cs,aR,rfl,rfl,eH,e⟩;.rw[aj]at e;cases e;exact J j aB
 .rw[aj]at e;cases e;exact J j (by simp only[dJ,c5 _ _ ay]at aB⊢;exact aB)
 .rw[aj]at e;cases e;exact J j (by simp only[dJ,c5 _ _ ay]at aB⊢;exact aB)
 rw[aj]at e;cases e;exact J j (by simp only[dJ,c5 _ _ ay]at aB⊢;exact aB)
section
variable{P:Program}{T:ch}{G:dt}{N:Nat}{σ:aM}{all:Array Oper}{ib:List Key}
def fB.put(h:fB ib σ){dst:Option Tmp}{r:aX}:fB ib (σ.put dst r):=by intro k ah aj;rw[aM.wN]at aj;exact h k ah aj
def LK(ck:fB ib σ){o:Oper}(ay:∀d,o.dst=some d->d<10000){aZ:aM}(h:hb T G σ o=some aZ):fB ib aZ:=by
 unfold hb at h;split at h;.cases h;exact ck.put
 split at h;.cases h;exact ck.put
 split at h
 case h_2=>cases h
 rename_i r cA he;cases h;refine fB.put ?_;intro k ah aj;rcases alw he k aj with J|J
 .exact ck k ah J
 exfalso;have:o.dst.getD 9999<10000:=by cases aT:o.dst with|none=>simp|some d=>exact ay d aT
 exact absurd this (Nat.not_lt.2 (J▸ah))
def Zv(ck:fB ib σ){o:Oper}(ay:∀d,o.dst=some d->d<10000){K:aM->Prop}(h:df P T G o K σ):df P T G o (λaZ=>fB ib aZ/\K aZ) σ:=by
 unfold df at*;split;.rename_i aZ aC;simp only[aC]at h;exact⟨LK ck ay aC,h⟩
 rename_i aC;simp only[aC]at h;unfold jK at*;split at h
 case h_2=>cases h
 split at h
 case h_2=>cases h
 obtain⟨nM,aR,R,J,aa,ax,bh,b9,cN⟩:=h;exact⟨nM,aR,R,J,aa,ax,bh,b9,λr av=>⟨ck.put,cN r av⟩⟩
def Rr:∀{l:List Oper}{σ:aM}{K:aM->Prop},fB ib σ->(∀o∈l,∀d,o.dst=some d->d<10000)->fO P T G all l K σ->fO P T G all l (λaZ=>fB ib aZ/\K aZ) σ
 |[],σ,K,ck,_,h=>⟨ck,h⟩|o::l,σ,K,ck,ay,h=>by unfold fO at*;rw[hW]at*;cases hw:jV all σ o with|none=>rw[hw]at h;exact h|some w=>rw[hw]at h;cases w with|true=>exact qC (λaZ ⟨J,aa⟩=>Rr J (λo aT=>ay o (by simp[aT])) aa) (Zv ck (ay o (by simp)) h)|false=>exact Rr ck.put (λo aT=>ay o (by simp[aT])) h
end
section
variable{P:Program}{T:ch}{G:dt}{C:lY}{H:xk}{iW:Tmp->Bool}{N:Nat}{σ:aM}{all:Array Oper}{ib:List Key}
def pw(P:Program)(G:dt)(N:Nat)(all:Array Oper)(i:Nat)(l:List Oper)(K:aM->Prop)(σ:aM):Prop:= ∀m fr ρ a w (Q:Exit->Act->World->Prop),kf G m->Den m fr ρ σ a w->N<=a.tmps.size->a.defers=[]->(∀cI w',jg N m fr ρ σ K cI w'->Q .normal cI w')->wpOps P all Q (List.range' i l.length) a w
def iX(P:Program)(G:dt)(N:Nat)(o:Oper)(K:aM->Prop)(σ:aM):Prop:= ∀m fr ρ a w (Q:Exit->Act->World->Prop),kf G m->Den m fr ρ σ a w->N<=a.tmps.size->a.defers=[]->o.wp P a w (jg N m fr ρ σ K) Q
def alx{i:Nat}{K:aM->Prop}(h:K σ):pw P G N all i [] K σ:=λm fr ρ a w Q cY cH cf ay ik=>ik a w ⟨σ,m,ρ,h,Mem.le_refl m,cH,cf,ay,k6.refl _ _⟩
def aly{i:Nat}{o:Oper}{l:List Oper}{K:aM->Prop}(af:all[i]?=some o)(bQ:o.guard=none)(h:iX P G N o (pw P G N all (i+1) l K) σ):pw P G N all i (o::l) K σ:=by
 intro m fr ρ a w Q cY cH cf ay ik;rw[xan,List.range'_succ,wpOps_cons];refine wpOp_mono (K:=jg N m fr ρ σ (pw P G N all (i+1) l K)) ?_ ?_;.rintro cI w' ⟨aZ,cz,c0,b0,bR,cw,dX,eB,fo⟩;exact b0 cz fr c0 cI w' Q (cY.mono bR) cw dX eB λp0 k7 av=>ik p0 k7 (av.trans bR fo)
 unfold wpOp;simp only[af];have:Region.wanted o (yielded all a.tmps)=true:=by simp[Region.wanted,bQ]
 rw[xac this];exact .inl (h m fr ρ a w Q cY cH cf ay)
def iX.mono{o:Oper}{K K':aM->Prop}(ah:∀σ,K σ->K' σ)(h:iX P G N o K σ):iX P G N o K' σ:=λm fr ρ a w Q cY cH cf ay=>by
  have:=h m fr ρ a w Q cY cH cf ay;unfold Oper.wp at*;generalize (execOp a.eval o).run P w=r at*;cases r with
  |ok n w'=>
   cases n<;>simp only[Oper.upon]at this⊢<;>first|exact this.mono ah|exact this|skip
   .refine this.mono λe k7 he=>?_;cases e with|returned v=>exact he.mono ah|panicked c=>exact he|outgrown=>exact he
   exact this.mono λv k7 he=>he.mono ah
  |halt x w'=>cases x<;>exact this
def iX.Cm{o:Oper}{K:aM->Prop}{τ:aM}(he:hl σ τ)(h:iX P G N o K τ):iX P G N o K σ:=by
 intro m fr ρ a w Q cY cH cf ay;obtain⟨cz,c0,J,aa,ax⟩:=he m fr ρ a w cH;have:=h cz fr c0 a w Q (cY.mono J) aa cf ay;unfold Oper.wp at*;generalize (execOp a.eval o).run P w=r at*;cases r with
 |ok n w'=>
  cases n<;>simp only[Oper.upon]at this⊢<;>first|exact this.trans J ax|exact this|skip
  .refine this.mono λe k7 he=>?_;cases e with|returned v=>exact he.trans J ax|panicked c=>exact he|outgrown=>exact he
  exact this.mono λv k7 he=>he.trans J ax
 |halt x w'=>cases x<;>exact this
def LL(bl:ee P T){o:Oper}(gn:∀d,o.dst=some d->d<N){K:aM->Prop}(h:df P T G o K σ):iX P G N o K σ:=λm fr ρ a w Q cY cH cf ay=>Qd bl cY cH cf ay gn h
def alz{ks:List Key}(h:fB ib σ):fB ib (freeze ks σ):=by
 intro k ah aj;have fi:eW (if k∈ks then some .dead else(σ.objs k).map (FU σ.objs ks)):=aj;split at fi
 .exact absurd fi Fi
 cases aT:σ.objs k with|none=>rw[aT]at fi;exact absurd fi uV|some dZ=>rw[aT]at fi;cases dZ with|box cs=>exact h k ah (by rw[aT];exact uU)|dead=>exact absurd fi Fi|row=>exact h k ah (by rw[aT];exact s6)|map=>exact h k ah (by rw[aT];exact wM)
def F2{β:Type}:∀{l:List (List Key)} {σ:aM} {k:aM->Option β} {b:β},fB ib σ->zj l σ k=some b->∃τ,hl σ τ/\fB ib τ/\k τ=some b
 |[],σ,k,b,ck,h=>⟨σ,hl.refl σ,ck,h⟩
 |ks::r,σ,k,b,ck,h=>by
  unfold zj at h;split at h;.exact F2 ck h
  split at h
  case isFalse=>cases h
  rename_i eS;obtain⟨τ,J,aa,ax⟩:=F2 (alz ck) h;exact⟨τ,(ala _ eS).trans J,aa,ax⟩
def Rs{β:Type}{t:Tmp}{σ:aM}{k:aM->Option β}{b:β}(ck:fB ib σ)(h:Cr t σ k=some b):∃τ,hl σ τ/\fB ib τ/\k τ=some b:=by
 unfold Cr at h;split at h
 case h_2=>cases h
 rename_i key cV i len aP;split at h
 case h_2=>cases h
 rename_i bF es ah au;split at h
 case isFalse=>cases h
 rename_i dx;obtain⟨dx,jY,nQ⟩:=dx;subst dx;obtain⟨J,aa⟩:=lW h;refine⟨_,alb aP ah au (xbd J) jY,?_,aa⟩;intro j aB ai;simp only at ai;by_cases ax:j=t;.subst ax;exact absurd nQ (Nat.not_lt.2 aB)
 rw[c5 _ _ ax]at ai;by_cases bh:j=key;.subst bh;exact absurd jY (Nat.not_lt.2 aB)
 rw[c5 _ _ bh]at ai;exact ck j aB ai
def iX.out{o:Oper}{K:aM->Prop}(h:iX P G N o (λaZ=>∃τ,hl aZ τ/\K τ) σ):iX P G N o K σ:=λm fr ρ a w Q cY cH cf ay=>by
  have key:∀{cI w'},jg N m fr ρ σ (λaZ=>∃τ,hl aZ τ/\K τ) cI w'->jg N m fr ρ σ K cI w':=by rintro cI w' ⟨aZ,cz,c0,⟨τ,g1,g2⟩,aa,ax,bh,b9,cN⟩;obtain⟨yX,yY,aL,a7,bV⟩:=g1 cz fr c0 cI w' ax;exact⟨τ,yX,yY,g2,Mem.le_trans aa aL,a7,bh,b9,cN.trans bV⟩
  have:=h m fr ρ a w Q cY cH cf ay;unfold Oper.wp at*;generalize (execOp a.eval o).run P w=r at*;cases r with
  |ok n w'=>
   cases n<;>simp only[Oper.upon]at this⊢<;>first|exact key this|exact this|skip
   .refine this.mono λe k7 he=>?_;cases e with|returned v=>exact key he|panicked c=>exact he|outgrown=>exact he
   exact this.mono λv k7 he=>key he
  |halt x w'=>cases x<;>exact this
def Zw{β:Type}(bl:ee P T)(cn:hy P G C){o:Oper}(gn:∀d,o.dst=some d->d<N){x:Operand}{args:Array Operand}{dK:Array TypeId}(aT:o.op= .call ⟨.value x,args,dK⟩){k:aM->Option β}{b:β}(ck:fB ib σ) (h:y9 T G C σ o x args.toList k=some b):iX P G N o (λaZ=>k aZ=some b/\fB ib aZ) σ:=by refine LL bl gn (qC ?_ (Ln (T:=T) cn aT h));rintro aZ ⟨J,aa,_⟩;refine⟨J,λj aB aj=>ck j aB (by rw[<-aa];exact aj)⟩
def Zx{sR:TypeId->Option FuncId}{t:TypeId}{k:FuncId->Option D}{r:D}:∀{l:List TypeId},LI sR t k l=some r->∃f,sR t=some f/\k f=some r
 |[],h=>by cases h
 |c::l,h=>by
  unfold LI gD at h;split at h
  .rename_i ai;subst ai;split at h;.rename_i f bk;exact⟨f,bk,h⟩
   cases h
  exact Zx h
def alA{P:Program}{t:TypeId}{name:String}{f:FuncId}(hm:Ki P t name f)(n:Nat)(v:Value)(w:World):(method (n+1) t v name).run P w= .ok (f,v) w:=by
 obtain⟨info,m,d,J,aa,ax,bh,b9,cN⟩:=hm;have aL:(typeInfo t).run P w= .ok info w:=by simp[typeInfo,J]
 unfold method;simp only[xai,aL,xag,aa,ax,follow,xaw,bh,receiverAt,xat b9];cases d<;>first|(simp only[Place.get,xaw,xag];done)|(exact absurd rfl (cN _))
def alB{P:Program}{va:Operand->Value}{x:Operand}{name:String}{args:Array Operand}{dK:Array TypeId}{ty:TypeId}{t:TypeId}{v:Value}{f:FuncId}{w:World}(ad:va x= .iface t v)(hm:Ki P t name f)(bk:wL P f):(do let d<-resolve va {callee:= .invoke x name,args:=args,argTypes:=dK} ty;invoke d.target d.args:Sem Next).run P w= .ok (.enter f (#[v]++args.map va)) w:=by
 obtain⟨fn,J,aa,ax⟩:=bk;have ij:0<Made.depth:=by decide
 have ay:∃n,P.types.size+Made.depth=n+1:=⟨P.types.size+Made.depth-1,by omega⟩;obtain⟨n,aN⟩:=ay;have b1:(#[Value.iface t v]++args.map va)[0]?=some (Value.iface t v):=by rw[xbq (by simp)];rfl
 have aL:(#[Value.iface t v]++args.map va).extract 1 (#[Value.iface t v]++args.map va).size=args.map va:=by apply xbJ;simp[List.extract,xbw]
 have a7:(program:Sem Program).run P w= .ok P w:=rfl;have zl:=alA hm n v w;have Rt:(callFunc f (#[v]++args.map va)).run P w= .ok (.enter f (#[v]++args.map va)) w:=by simp only[callFunc,xai,a7,xag,J,aa,ax,xar,xaH,xaw]
 simp only[xai,resolve,ad,xaw,xag,invoke,b1,aL,callMethod,a7,aN,zl,Rt]
def alC{β:Type}(bl:ee P T)(cn:hy P G C){o:Oper}(gn:∀d,o.dst=some d->d<N){x:Operand}{name:String}{args:Array Operand}{dK:Array TypeId}(aT:o.op= .call ⟨.invoke x name,args,dK⟩){k:aM->Option β}{b:β}(ck:fB ib σ) (h:Rn T G C σ o x name args.toList k=some b):iX P G N o (λaZ=>k aZ=some b/\fB ib aZ) σ:=by
 unfold Rn at h;split at h
 case h_2=>cases h
 rename_i d ay;split at h
 case h_2=>cases h
 rename_i aR eH;obtain⟨p,aU,h⟩:=ek h;obtain⟨r,av,h⟩:=ek h;obtain⟨b9,cN⟩:=lW h;obtain⟨f,bk,Rt⟩:=Zx av;have Zy:=cn _ _ _ _ Rt;have Fv:=bl.PB _ _ _ bk;obtain⟨t,y⟩:=p;have alD:d= .ef t y:=by
  unfold Cv at aU;split at aU;.cases aU;rfl
  cases aU
 subst alD;intro m fr ρ a w Q cY Ru cf hL;have dA:=EX (a:=a) cY Ru.aO;have jh:∀d,o.dst=some d->d<a.tmps.size:=λd ay=>xcf (gn d ay) cf;have s7:∀v,N<=(a.put o.dst v).tmps.size:=by intro v;cases o.dst<;>simpa[Act.put]using cf
 have mw:∀v,(a.put o.dst v).defers=[]:=by intro v;cases o.dst<;>exact hL
 have ad:=dA x;rw[ay]at ad;have ad:=ad.o7;obtain⟨v,PZ,alE⟩:∃v,a.eval x= .iface t v/\c4 m y v:=by generalize a.eval x=u at ad;cases ad with|ef _ _ v h=>exact⟨v,rfl,h⟩
 have Qb:(execOp a.eval o).run P w= .ok (.enter f (#[v]++args.map a.eval)) w:=by unfold execOp;rw[aT];exact alB PZ Fv Zy.fn
 unfold Oper.wp;rw[Qb];have Qc:rn m (y::aR) (#[v]++args.map a.eval).toList:=by obtain⟨g1,g2⟩:=rr eH;refine⟨by simp[g1],?_⟩;intro i d fw ay aS;simp only[Array.toList_append,xbt,xaM,Array.toList_map]at aS;cases i with|zero=>simp at ay aS;subst ay;subst aS;exact alE|succ i=>simp only[xcn]at ay aS;have g3:=g2 i d ay;simp only[xah,xaf]at g3 aS;obtain⟨z,⟨q,bM,rfl⟩,alF⟩:=g3;obtain⟨aBu,LM,rfl⟩:=aS;rw[bM]at LM;cases LM;exact P9 (xax.1 b9 _ (xaO.2 ⟨q,xad bM,rfl⟩)) alF (dA q)
 have s9:=Zy.run m _ w _ cY Ru.Xy Qc;simp only[Array.toArray_toList]at s9;refine s9.mono λe w' he=>?_;obtain⟨fw,cz,sV,rfl,b0,bR,cw,dX⟩:=he;subst b0;have alG:=Ru.kept bR cw;exact⟨_,cz,ρ,⟨cN,λj aB aj=>ck j aB (by simpa using aj)⟩,bR,alG.put (.d _ _ dX) jh,s7 fw,mw fw,λk ah aj=>⟨by simpa using aj,rfl⟩⟩
def Zz{β:Type}(bl:ee P T)(cn:hy P G C)(hH:kQ P G H)(cf:N<10000){o:Oper}(gn:∀d,o.dst=some d->d<N){k:aM->Option β}{b:β}(ck:fB ib σ)(h:LJ T G iW σ o k=some b):iX P G N o (λaZ=>k aZ=some b/\fB ib aZ) σ:=by
 unfold LJ at h;have step:∀{τ:aM},fB ib τ->tj T G τ o k=some b->iX P G N o (λaZ=>k aZ=some b/\fB ib aZ) τ:=by intro τ ck h;obtain⟨aZ,J,aa⟩:=y8 h;refine LL bl gn ?_;unfold df;rw[J];exact⟨aa,LK ck (λd ay=>xcl (gn d ay) cf) J⟩
 split at h;.obtain⟨τ,J,aa,ax⟩:=F2 ck h;exact iX.Cm J (step aa ax)
 exact step ck h
def alH{β:Type}(bl:ee P T)(cn:hy P G C)(hH:kQ P G H)(cf:N<10000){o:Oper}(gn:∀d,o.dst=some d->d<N){k:aM->Option β}{b:β}(ck:fB ib σ)(h:Ro T G C H iW σ o k=some b):iX P G N o (λaZ=>k aZ=some b/\fB ib aZ) σ:=by
 unfold Ro at h;split at h
 .rename_i x args dK aT;split at h
  .rename_i e he;obtain⟨τ,t1,Rv,h⟩:=tp ck h;refine iX.Cm t1 ?_;generalize fh:(λaZ=>match iW (o.dst.getD 9999)with|true=>Cr (o.dst.getD 9999) aZ k|false=>k aZ)=bF at h;have main:iX P G N o (λaZ=>bF aZ=some b/\fB ib aZ) τ:=by refine iX.mono (K:=λaZ=>bF aZ=some b/\∀p,10000<=p->eW (aZ.objs p)->eW (τ.objs p)) (λaZ ⟨J,aa⟩=>⟨J,λp aU aj=>Rv p aU (aa p aU aj)⟩) ?_;intro m fr ρ a w Q cY cH oo ay;exact alj cY cH oo ay gn (hH _ _ he) aT h (Q:=Q)
   refine iX.out (iX.mono ?_ main);rintro aZ ⟨J,aa⟩;subst fh;simp only at J;split at J;.obtain⟨alI,g1,g2,g3⟩:=Rs aa J;exact⟨alI,g1,g3,g2⟩
   exact⟨aZ,hl.refl aZ,J,aa⟩
  split at h;.unfold Zs at h;simp only at h;obtain⟨τ,J,aa,ax⟩:=F2 ck h;exact iX.Cm J (Zw bl cn gn aT aa ax)
  exact Zw bl cn gn aT ck h
 .rename_i x name args dK aT;exact alC bl cn gn aT ck h
 .have step:∀{τ:aM}{k:aM->Option β},fB ib τ->tj T G τ o k=some b->iX P G N o (λaZ=>k aZ=some b/\fB ib aZ) τ:=by
   intro τ k ck h;obtain⟨aZ,J,aa⟩:=y8 h;refine LL bl gn ?_;unfold df;rw[J];exact⟨aa,LK ck (λd ay=>xcl (gn d ay) cf) J⟩
  split at h;.refine iX.out (iX.mono ?_ (step ck h));rintro aZ ⟨J,aa⟩;obtain⟨τ,g1,g2,g3⟩:=Rs aa J;exact⟨τ,g1,g3,g2⟩
  exact step ck h
 .split at h;.obtain⟨τ,g1,g2,g3⟩:=Rs ck h;refine iX.Cm g1 ?_;obtain⟨aZ,J,aa⟩:=y8 g3;refine LL bl gn ?_;unfold df;rw[J];exact⟨aa,LK g2 (λd ay=>xcl (gn d ay) cf) J⟩
  exact Zz bl cn hH cf gn ck h
 exact Zz bl cn hH cf gn ck h
def ZA{β:Type}(bl:ee P T)(cn:hy P G C)(hH:kQ P G H)(cf:N<10000){K:aM->Prop}:∀{os:List Oper}{r:List Oper}{i:Nat}{σ:aM}{k:aM->Option β}{b:β},(∀o∈os,o.guard=none)->(∀o∈os,∀d,o.dst=some d->d<N)->(∀j,(os++r)[j]?=all[i+j]?)->fB ib σ->(∀aZ,fB ib aZ->k aZ=some b->pw P G N all (i+os.length) r K aZ)->Rp T G C H iW os σ k=some b->pw P G N all i (os++r) K σ
 |[],r,i,σ,k,b,_,_,_,ck,ah,h=>ah σ ck h
 |o::os,r,i,σ,k,b,bQ,ay,ft,ck,ah,h=>by
  have af:all[i]?=some o:=by simpa using(ft 0).symm
  refine aly af (bQ o (by simp)) (iX.mono ?_ (alH bl cn hH cf (ay o (by simp)) ck h));rintro aZ ⟨J,aa⟩;refine ZA bl cn hH cf (λo aT=>bQ o (by simp[aT])) (λo aT=>ay o (by simp[aT])) (λj=>by have:=ft (j+1);simpa[xbi,Nat.add_comm 1 j]using this) aa ?_ J;intro rD ax bh;have:=ah rD ax bh;rw[show i+(o::os).length=i+1+os.length by simp;omega]at this;exact this
def cb.shrink{m m0:Mem}{ρ Rw:di}{U qE:Key->Prop}{x:aX}{v:Value}(h:cb m ρ U x v):∀{v0:Value},cb m0 Rw qE x v0->cb m ρ qE x v:=by
 induction h with
 |any v=>intro v0 _;exact .any _
 |d x v h=>intro v0 _;exact .d _ _ h
 |agg cs vs al h ih=>
  intro v0 au;cases au with|agg _ zn nR F3=>
  refine .agg _ _ al λi c v ai aS=>?_;have af:i<zn.size:=by rw[nR];exact(xaa.1 ai).1
  exact ih i c v ai aS (F3 i c _ ai (xak af))
 |a6 cs vs al h ih=>
  intro v0 au;cases au with|a6 _ zn nR F3=>
  refine .a6 _ _ al λi c v ai aS=>?_;have af:i<zn.size:=by rw[nR];exact(xaa.1 ai).1
  exact ih i c v ai aS (F3 i c _ ai (xak af))
 |ed cs off b o vs T et aj xs J aa=>intro v0 _;exact .ed _ _ b o vs T et aj xs J aa
 |ptr key off b hu h=>intro v0 au;cases au with|ptr _ _ _ mo _=>exact .ptr _ _ b mo h
 |gy key k i off b o len cap hu h=>intro v0 au;cases au with|gy _ _ _ _ _ _ _ _ mo _=>exact .gy _ _ _ _ b o len cap mo h
 |row key hu=>intro v0 au;cases au with|row _ mo=>exact .row _ mo
 |sub key k i len b o L cap a hu h hle aH=>intro v0 au;cases au with|sub _ _ _ _ _ _ _ _ _ mo=>exact .sub _ _ _ _ b o L cap a mo h hle aH|jS _ _ _ mo=>exact .sub _ _ _ _ b o L cap a mo h hle aH
 |jS key k i hu h=>intro v0 au;cases au with|sub _ _ _ _ _ _ _ _ _ mo=>exact .jS _ _ _ mo h|jS _ _ _ mo=>exact .jS _ _ _ mo h
 |map key hu=>intro v0 au;cases au with|map _ mo=>exact .map _ mo
 |fn f first captured vs ws al ew h bC ih yx=>
  intro v0 au;cases au with|fn _ _ _ zn alJ nR alK F3 alL=>
  refine .fn _ _ _ _ _ al ew (λi c v ai aS=>?_) (λi c v ai aS=>?_)
  .have af:i<zn.size:=by rw[nR];exact(xaa.1 ai).1
   exact ih i c v ai aS (F3 i c _ ai (xak af))
  .have af:i<alJ.size:=by rw[alK];exact(xaa.1 ai).1
   exact yx i c v ai aS (alL i c _ ai (xak af))
def jr.shrink{m m0:Mem}{ρ Rw:di}{U qE:Key->Prop}{o:cU}{v v0:Value}{w w0:World}(h:jr m ρ U v w o)(au:jr m0 Rw qE v0 w0 o):jr m ρ qE v w o:=by
 cases o with
 |dead=>trivial
 |box cs=>
  obtain⟨b,vs,T,aL,a7,bV,cG⟩:=h;obtain⟨F4,zn,fG,f1,f2,f3,f4⟩:=au;refine⟨b,vs,T,aL,a7,bV,λi c x ai ad=>?_⟩;have af:i<zn.size:=by rw[f3];exact(xaa.1 ai).1
  exact(cG i c x ai ad).shrink (f4 i c _ ai (xak af))
 |row=>exact h|map=>exact h
def alM{m cz:Mem}{fr:ff}{ρ c0:di}{σ aZ:aM}{a cI:Act}{w w':World}{aR:List Tmp}(h:Den m fr ρ σ a w)(bC:Den cz fr c0 aZ cI w')(pY:cx.ext σ.objs aZ.objs)(aC:∀t,t∉aR->aZ.aO t=σ.aO t){cE:Tmp}{v:D}(aS:aZ.aO cE= .d v)(ze:cE∈aR):Den cz fr c0 ((lZ aR σ).put (some cE) (.d v)) cI w':=by
 have hT:((lZ aR σ).put (some cE) (.d v)).objs=σ.objs:=by simp[lZ]
 refine⟨bC.mem,bC.frame,bC.apart,?_,?_,?_,?_,?_⟩;.rintro k ⟨o,aT⟩;rw[hT]at aT;exact bC.one k ⟨o,pY k o aT⟩
 .intro t;by_cases nQ:t=cE;.subst nQ;simp only[aM.put,e1];have:=bC.aO t;rw[aS]at this;exact .d _ _ this.o7
  simp only[aM.put,c5 _ _ nQ,lZ];split;.exact .any _
  rename_i aN;have J:=bC.aO t;rw[aC t aN]at J;exact J.shrink (h.aO t)
 .intro k o ah;rw[hT]at ah;exact(bC.objs k o (pY k o ah)).shrink (h.objs k o ah)
 .intro k o b ah aT aj;rw[hT]at ah;exact bC.own k o b (pY k o ah) aT aj
 intro k bF o o' b cp ah fh aT ph aj;rw[hT]at ah fh;exact bC.sep k bF o o' b cp (pY k o ah) (pY bF o' fh) aT ph aj
def alN{m cz:Mem}{fr:ff}{ρ c0:di}{σ aZ:aM}{a cI:Act}{w w':World}{aR:List Tmp}(h:Den m fr ρ σ a w)(bC:Den cz fr c0 aZ cI w')(pY:cx.ext σ.objs aZ.objs)(aC:∀t,t∉aR->aZ.aO t=σ.aO t){ts:List Tmp}{v:D}(aS:∀t∈ts,aZ.aO t= .d (ae v (ts.idxOf t))):Den cz fr c0 (xa ts v (lZ aR σ)) cI w':=by
 have hT:(xa ts v (lZ aR σ)).objs=σ.objs:=rfl;refine⟨bC.mem,bC.frame,bC.apart,?_,?_,?_,?_,?_⟩;.rintro k ⟨o,aT⟩;rw[hT]at aT;exact bC.one k ⟨o,pY k o aT⟩
 .intro t;by_cases nQ:t∈ts
  .have aa:(xa ts v (lZ aR σ)).aO t= .d (ae v (ts.idxOf t)):=by simp only[xa,xac nQ]
   rw[aa];have:=bC.aO t;rw[aS t nQ]at this;exact .d _ _ this.o7
  have aa:(xa ts v (lZ aR σ)).aO t=(lZ aR σ).aO t:=by simp only[xa,xae nQ]
  rw[aa];simp only[lZ];split;.exact .any _
  rename_i aN;have J:=bC.aO t;rw[aC t aN]at J;exact J.shrink (h.aO t)
 .intro k o ah;rw[hT]at ah;exact(bC.objs k o (pY k o ah)).shrink (h.objs k o ah)
 .intro k o b ah aT aj;rw[hT]at ah;exact bC.own k o b (pY k o ah) aT aj
 intro k bF o o' b cp ah fh aT ph aj;rw[hT]at ah fh;exact bC.sep k bF o o' b cp (pY k o ah) (pY bF o' fh) aT ph aj
theorem alO{T:ch}{ev:Operand->aX}{objs:cx}{d:Key}{op:Op}{r:aX}{cA:List (Key×cU)}(aC:qA op=true)(he:hv T ev objs d op=some (r,cA)):objs d=none:=(B4 (objs':=λ_=>none) aC rfl he).2.1
def alP{β:Type}(cn:hy P G C){o:Oper}(aC:Rq o=true){k:aM->Option β}{b:β}(h:tk T G C σ o k=some b):df P T G o (λaZ=>k aZ=some b/\cx.ext σ.objs aZ.objs/\∀t,o.dst≠some t->aZ.aO t=σ.aO t) σ:=by
 rcases xbI.1 aC with aC|aC;.refine qC ?_ (YX cn aC h);rintro aZ ⟨J,aa,ax⟩;exact⟨J,by rw[aa];exact λ_ _ h=>h,ax⟩
 have YY:∀x args dK,o.op≠ .call ⟨.value x,args,dK⟩:=by intro x args dK he;rw[he]at aC;cases aC
 unfold tk at h;split at h;.exact absurd (by assumption) (YY _ _ _)
 obtain⟨aZ,J,aa⟩:=y8 h;unfold df;rw[J];unfold hb at J;rw[(rv (objs:=σ.objs) aC).1,(rv aC).2]at J;simp only at J;split at J
 case h_2=>cases J
 rename_i r cA he;cases J;have pf:σ.objs (o.dst.getD 9999)=none:=alO aC he;obtain⟨_,_,fx,rfl⟩:=B4 aC pf he;refine⟨aa,?_,λt aP=>rI aP⟩;rw[aM.wN];exact cx.KH pf fx
def Rx{β:Type}(cn:hy P G C){j:Nat}{want:Bool}{d:Tmp}(ay:(all[j]?).bind (·.dst)=some d):∀{os:List Oper}{σ:aM}{k:aM->Option β}{b:β},(∀o∈os,o.guard=some (j,want))->(∀o∈os,Rq o=true/\o.dst≠some d)->σ.aO d= .d (.val (.bool want))->tl T G C os σ k=some b->fO P T G all os (λaZ=>k aZ=some b/\cx.ext σ.objs aZ.objs/\∀t,t∉dstsOf os->aZ.aO t=σ.aO t) σ
 |[],σ,k,b,_,_,_,h=>⟨h,λ_ _ h=>h,λ_ _=>rfl⟩
 |o::os,σ,k,b,bQ,aC,hw,h=>by
  have au:=aC o (by simp);unfold fO eA;rw[bQ o (by simp)];simp only[ay,hw,xaF];refine qC ?_ (alP cn au.1 h);rintro aZ ⟨J,aa,ax⟩;refine nk ?_ (Rx cn ay (λo aT=>bQ o (by simp[aT])) (λo aT=>aC o (by simp[aT])) (by rw[ax d au.2];exact hw) J);rintro rD ⟨g1,g2,g3⟩;refine⟨g1,λcV ZB aT=>g2 cV ZB (aa cV ZB aT),?_⟩;intro t aP;have p6:t∉dstsOf os:=λai=>aP (by unfold dstsOf at ai⊢;simp only[xbU];cases o.dst<;>simp[ai])
  have zd:o.dst≠some t:=λai=>aP (by unfold dstsOf;simp[ai]);rw[g3 t p6,ax t zd]
def Ry(bl:ee P T){fr:ff}{Q:Exit->Act->World->Prop}:∀(os r:List Oper)(i:Nat)(m:Mem)(ρ:di)(σ:aM)(a:Act)(w:World)(K:aM->Prop),(∀j,(os++r)[j]?=all[i+j]?)->kf G m->Den m fr ρ σ a w->N<=a.tmps.size->a.defers=[]->(∀o∈os,∀d,o.dst=some d->d<N)->fO P T G all os K σ->(∀cI w',jg N m fr ρ σ K cI w'->wpOps P all Q (List.range' (i+os.length) r.length) cI w')->wpOps P all Q (List.range' i (os++r).length) a w
 |[],r,i,m,ρ,σ,a,w,K,_,cY,h,cf,hL,_,aS,Rz=>Rz a w ⟨σ,m,ρ,aS,Mem.le_refl m,h,cf,hL,k6.refl _ _⟩
 |o::os,r,i,m,ρ,σ,a,w,K,al,cY,h,cf,hL,gn,aS,Rz=>by
  rw[xbt,xan,List.range'_succ,wpOps_cons];have af:all[i]?=some o:=by simpa using(al 0).symm
  refine wpOp_mono ?_ (Qe bl cY h cf hL af (gn o (by simp)) aS);rintro cI w' ⟨aZ,cz,c0,b0,bR,cw,dX,eB,fo⟩;refine Ry bl os r (i+1) cz c0 aZ cI w' K (λj=>by have:=al (j+1);simpa[xbi,Nat.add_comm 1 j]using this) (cY.mono bR) cw dX eB (λo aT=>gn o (by simp[aT])) b0 ?_;intro p0 k7 av;have:=Rz p0 k7 (av.trans bR fo);rw[show i+(o::os).length=i+1+os.length by simp;omega]at this;exact this
theorem ZC(i:Nat):ae kl i=kl:=by unfold ae;cases i<;>rfl
def F5{β:Type}(bl:ee P T)(cn:hy P G C)(hH:kQ P G H)(cf:N<10000){K:aM->Prop}:∀{gs:List (Option (Nat×Bool)×List Oper)} {i:Nat} {σ:aM} {k:aM->Option β} {b:β},(∀g∈gs,∀o∈g.2,o.guard=g.1)->(∀o∈flat gs,∀d,o.dst=some d->d<N)->(∀j,(flat gs)[j]?=all[i+j]?)->fB ib σ->(∀aZ,fB ib aZ->k aZ=some b->K aZ)->zm T G C H iW all gs σ k=some b->pw P G N all i (flat gs) K σ
 |[],i,σ,k,b,_,_,_,ck,ah,h=>alx (ah σ ck h)|(none,os)::r,i,σ,k,b,bQ,ay,ft,ck,ah,h=>by show pw P G N all i (os++flat r) K σ;refine ZA bl cn hH cf (λo aT=>bQ (none,os) (by simp) o aT) (λo aT=>ay o (by simp[flat,aT])) ft ck ?_ h;intro aZ J aa;refine F5 bl cn hH cf (λg hm=>bQ g (by simp[hm])) (λo aT=>ay o (by simp only[flat,List.flatMap_cons,xas];exact .inr aT)) ?_ J ah aa;intro j;have:=ft (os.length+j);rw[<-xbi]at this;rw[<-this];show _=(os++flat r)[os.length+j]?;rw[xaC (by omega)];simp
 |(some (j,want),os)::r,i,σ,k,b,bQ,ay,ft,ck,ah,h=>by
  show pw P G N all i (os++flat r) K σ;unfold zm at h;split at h
  case h_2=>cases h
  rename_i d cE Cx ze;split at h
  case h_2=>cases h
  rename_i x ad;split at h
  case isFalse=>cases h
  rename_i bD;simp only[xax,xao,bne_iff_ne,ne_eq]at bD;split at h
  .obtain⟨v,J,aa⟩:=ek h;have mx:∀o∈os,o.guard=some (j,want):=λo aT=>bQ (some (j,want),os) (by simp) o aT;have RA:pw P G N all (i+os.length) (flat r) K ((lZ (dstsOf os) σ).put (some cE) (.d v)):=by
    refine F5 bl cn hH cf (λg hm=>bQ g (by simp[hm])) (λo aT=>ay o (by simp only[flat,List.flatMap_cons,xas];exact .inr aT)) ?_ (fB.put (σ:=lZ (dstsOf os) σ) ck) ah aa;intro F6;have:=ft (os.length+F6);rw[<-xbi]at this;rw[<-this];show _=(os++flat r)[os.length+F6]?;rw[xaC (by omega)];simp
   have aS:fO P T G all os (λaZ=>cx.ext σ.objs aZ.objs/\(∀t,t∉dstsOf os->aZ.aO t=σ.aO t)/\aZ.aO cE= .d v) σ:=by
    unfold dL at J;split at J
    .rename_i og;split at J
     .rename_i aj;subst aj;refine nk ?_ (Rx cn Cx mx bD ad J);rintro aZ ⟨g1,g2,g3⟩;refine⟨g2,g3,?_⟩;split at g1;.rename_i u hu;cases g1;exact hu
      cases g1
     rename_i aj;cases J;refine nk ?_ (FN Cx mx (λo aT=>(bD o aT).2) (.inl (by rw[ad];cases og<;>cases want<;>simp_all)));rintro aZ ⟨g1,g2,g3⟩;exact⟨by rw[g1];exact λ_ _ h=>h,g2,g3 cE ze⟩
    .rename_i vs;cases J;refine nk ?_ (FN Cx mx (λo aT=>(bD o aT).2) (.inr ⟨_,ad⟩));rintro aZ ⟨g1,g2,g3⟩;exact⟨by rw[g1];exact λ_ _ h=>h,g2,g3 cE ze⟩
    cases J
   intro m fr ρ a w Q cY cH oo hL ik;refine Ry bl os (flat r) i m ρ σ a w _ ft cY cH oo hL (λo aT=>ay o (by simp[flat,aT])) aS ?_;rintro cI w' ⟨aZ,cz,c0,⟨g1,g2,g3⟩,bR,cw,dX,eB,fo⟩;have mD:=alM cH cw g1 g2 g3 (Y3 ze);refine RA cz fr c0 cI w' Q (cY.mono bR) mD dX eB ?_;intro p0 k7 av;refine ik p0 k7 (av.trans bR ?_);intro cV dx aj;exact⟨by rw[aM.wN];exact aj,(fo cV dx aj).2⟩
  obtain⟨v,J,aa⟩:=ek h;have mx:∀o∈os,o.guard=some (j,want):=λo aT=>bQ (some (j,want),os) (by simp) o aT;have RA:pw P G N all (i+os.length) (flat r) K (xa (kept all os (flat r)) v (lZ (dstsOf os) σ)):=by refine F5 bl cn hH cf (λg hm=>bQ g (by simp[hm])) (λo aT=>ay o (by simp only[flat,List.flatMap_cons,xas];exact .inr aT)) ?_ ck ah aa;intro F6;have:=ft (os.length+F6);rw[<-xbi]at this;rw[<-this];show _=(os++flat r)[os.length+F6]?;rw[xaC (by omega)];simp
  have aS:fO P T G all os (λaZ=>cx.ext σ.objs aZ.objs/\(∀t,t∉dstsOf os->aZ.aO t=σ.aO t)/\(∀t∈kept all os (flat r),aZ.aO t= .d (ae v ((kept all os (flat r)).idxOf t)))) σ:=by
   unfold dL at J;split at J
   .rename_i og;split at J
    .rename_i aj;subst aj;refine nk ?_ (Rx cn Cx mx bD ad J);rintro aZ ⟨g1,g2,g3⟩;refine⟨g2,g3,?_⟩;split at g1;.rename_i l al;cases g1;exact λt aP=>akT al aP
     cases g1
    rename_i aj;cases J;refine nk ?_ (QZ Cx mx (λo aT=>(bD o aT).2) (.inl (by rw[ad];cases og<;>cases want<;>simp_all)));rintro aZ ⟨g1,g2,g3⟩;exact⟨by rw[g1];exact λ_ _ h=>h,g2,λt aP=>by rw[g3 t (xcc.1 aP).1,ZC]⟩
   .rename_i vs;cases J;refine nk ?_ (QZ Cx mx (λo aT=>(bD o aT).2) (.inr ⟨_,ad⟩));rintro aZ ⟨g1,g2,g3⟩;exact⟨by rw[g1];exact λ_ _ h=>h,g2,λt aP=>by rw[g3 t (xcc.1 aP).1,ZC]⟩
   cases J
  intro m fr ρ a w Q cY cH oo hL ik;refine Ry bl os (flat r) i m ρ σ a w _ ft cY cH oo hL (λo aT=>ay o (by simp[flat,aT])) aS ?_;rintro cI w' ⟨aZ,cz,c0,⟨g1,g2,g3⟩,bR,cw,dX,eB,fo⟩;have mD:=alN cH cw g1 g2 g3;refine RA cz fr c0 cI w' Q (cY.mono bR) mD dX eB ?_;intro p0 k7 av;refine ik p0 k7 (av.trans bR ?_);intro cV dx aj;exact⟨aj,(fo cV dx aj).2⟩
def alQ{β:Type}(bl:ee P T)(cn:hy P G C)(hH:kQ P G H)(cf:N<10000){k:aM->Option β}{b:β}(ay:∀o∈all.toList,∀d,o.dst=some d->d<N)(ck:fB ib σ)(h:Zu T G C H iW all σ k=some b):pw P G N all 0 all.toList (λaZ=>fB ib aZ/\k aZ=some b) σ:=by
 have:=F5 (P:=P) (N:=N) (ib:=ib) (all:=all) (i:=0) bl cn hH cf (K:=λaZ=>fB ib aZ/\k aZ=some b) (λg hm o aT=>Lm _ _ _ hm o aT) (by rw[xb];exact ay) (by rw[xb];intro j;simp) ck (λaZ J aa=>⟨J,aa⟩) h
 rwa [xb]at this
def alR{Q:Exit->aM->Prop}{id:Nat}{ops:Array Oper}(h:pw P G N ops 0 ops.toList (Q .normal) σ):hD P T G N (.region id ops false) σ Q:=by intro m fr ρ a w cY cH oo ay;refine wp_region ?_;rw[List.range_eq_range'];have:=h m fr ρ a w (λe cI w'=>jg N m fr ρ σ (Q e) cI w') cY cH oo ay (λcI w' av=>av);simpa using this
end
def tx(ops:Array Oper):Bool:=(List.range ops.size).all λj=>match ops[j]? with
  |some o=>o.after.all (λe=>!Region.binds .any e||decide (e.on<j))&&(match o.guard with|none=>true|some (g,_)=>decide (g<j))
  |none=>true
def F7(ops:Array Oper)(j:Nat):Bool:=(List.range j).all λi=>(List.range (j+1)).any λk=>decide (i<k)&&match ops[k]? with|some o=>o.after.any (λe=>Region.binds .any e&&decide (e.on=i))|none=>false
def RB(ops:Array Oper)(p:Nat):Bool:=tx ops&&(List.range ops.size).all λj=>decide (j<p)||F7 ops j
def zo{ops:Array Oper}(h:tx ops=true){j:Nat}{o:Oper}(aT:ops[j]?=some o):(∀e∈o.after,Region.binds .any e=true->e.on<j)/\∀g b,o.guard=some (g,b)->g<j:=by
 have aB:j<ops.size:=(xaP.1 aT).1;have J:=xax.1 h j (xbZ.2 aB);simp only[aT,xao]at J;refine⟨λe he aj=>?_,λg b bQ=>?_⟩
 .have:=Array.all_eq_true'.1 J.1 e he;simpa[aj]using this
 have:=J.2;rw[bQ]at this;simpa using this
def alS{ops:Array Oper}{j i:Nat}(h:F7 ops j=true)(af:i<j):∃k o,i<k/\k<=j/\ops[k]?=some o/\∃e∈o.after,Region.binds .any e=true/\e.on=i:=by
 have J:=xax.1 h i (xbZ.2 af);obtain⟨k,ah,aa⟩:=xbC.1 J;simp only[xao,xaz]at aa;obtain⟨ax,bh⟩:=aa;cases aT:ops[k]? with
 |none=>rw[aT]at bh;cases bh
 |some o=>rw[aT]at bh;obtain⟨e,he,b9⟩:=Array.any_eq_true'.1 bh;simp only[xao,xaz]at b9;have:=xbZ.1 ah;exact⟨k,o,ax,by omega,aT,e,he,b9⟩
def Cy(ops:Array Oper)(listed:Array Bool):Prop:=∀j o,ops[j]?=some o->listed.getD j true=true->∀e∈o.after,Region.binds .any e=true->listed.getD e.on false=true
section
variable{P:Program}{ops hX:Array Oper}{Q:Exit->Act->World->Prop}
def vi{i:Nat}(h:i<ops.size):(ops++hX)[i]?=ops[i]?:=xbq h
def Cz{l r:Array Bool}{d:Bool}{i:Nat}(h:i<l.size):(l++r).getD i d=l.getD i d:=by
 have aa:i<l.size+r.size:=by omega
 simp only[xbg,xbq h]
theorem alT{l:Array Bool}{m:Nat}{d:Bool}{i:Nat}(h:l.size<=i)(aa:i<l.size+m):(l++Array.replicate m false).getD i d=false:=by simp only[xbg,Array.getElem?_append_right h];rw[Array.getElem?_replicate,xac (by omega)];rfl
def RC{l:Array Bool}{i:Nat}(h:i<l.size)(d e:Bool):l.getD i d=l.getD i e:=by simp[Array.getD,h]
def RD{all:Array Oper}{L:Array Bool}{j:Nat}(ck:L.size=all.size)(al:F7 all j=true)(hinv:Cy all L)(av:j∈Region.ready .any all L):∀(d i:Nat),j-i<=d->i<j->L.getD i false=true
 |0,i,h,af=>by omega
 |d+1,i,h,af=>by
  obtain⟨k,o',J,ah,aa,e,ax,bh,b9⟩:=alS al af;rw[<-b9];by_cases alU:k=j;.subst alU;obtain⟨_,kk,b0,bR⟩:=xbR.1 av;rw[aa]at b0;cases b0;exact bR e ax bh
  have cN:=RD ck al hinv av d k (by omega) (by omega);have eS:=(xaP.1 aa).1;rw[RC (by omega) false true]at cN;exact hinv k o' aa cN e ax bh
def F8{all:Array Oper}{L:Array Bool}{i:Nat}(h:i∈Region.ready .any all L):i<all.size:=(xaP.1 (xbR.1 h).2.choose_spec.1).1
def alV{all:Array Oper}{L:Array Bool}(aC:L.size=all.size)(h:Cy all L){i:Nat}(af:i∈Region.ready .any all L):Cy all (L.setIfInBounds i true):=by
 obtain⟨J,fk,aa,ax⟩:=xbR.1 af;have bY:=F8 af;have up:∀{j:Nat},L.getD j false=true->(L.setIfInBounds i true).getD j false=true:=by
  intro j aB;by_cases ct:j<L.size
  .by_cases kj:i=j;.subst kj;simp[Array.getD,ct]
   simp[Array.getD,ct]at aB⊢;rw[xbG ct kj];exact aB
  simp[Array.getD,ct]at aB
 intro j o' aT aB e he jA;have ct:j<L.size:=by have:=(xaP.1 aT).1;omega
 by_cases kj:i=j;.subst kj;rw[aa]at aT;cases aT;exact up (ax e he jA)
 refine up (h j o' aT ?_ e he jA);simp[Array.getD,ct]at aB⊢;rw[xbG ct kj]at aB;exact aB
def ZD{listed:Array Bool}(aj:tx (ops++hX)=true)(aC:listed.size=ops.size){i:Nat}(af:i<ops.size):i∈Region.ready .any (ops++hX) (listed++Array.replicate hX.size false)↔i∈Region.ready .any ops listed:=by
 rw[xbR,xbR,Cz (by omega),vi af];refine and_congr_right λ_=>?_;constructor;.rintro⟨o',aT,h⟩;refine⟨o',aT,λe he jA=>?_⟩;have:=(zo aj (by rw[vi af];exact aT)).1 e he jA;rw[<-h e he jA,Cz (by omega)]
 rintro⟨o',aT,h⟩;refine⟨o',aT,λe he jA=>?_⟩;have:=(zo aj (by rw[vi af];exact aT)).1 e he jA;rw[Cz (by omega),h e he jA]
def ZE{all:Array Oper}{L:Array Bool}(aC:L.size=all.size)(h:∀i,i<all.size->L.getD i false=true):Region.ready .any all L=[]:=by refine List.eq_nil_iff_forall_not_mem.2 λi af=>?_;have b5:=F8 af;have J:=(xbR.1 af).1;rw[RC (by omega) true false,h i b5]at J;cases J
def alW{all:Array Oper}{L:Array Bool}(aj:tx all=true)(aC:L.size=all.size)(h:Region.ready .any all L=[]):∀(i:Nat),i<all.size->L.getD i false=true:=by
 intro i
 induction i using Nat.strongRecOn with
 |_ i ih=>
  intro af;refine xbf λai=>?_;have bk:L.getD i true=false:=by rw[RC (by omega) true false];simpa using ai
  have:i∈Region.ready .any all L:=by refine xbR.2 ⟨bk,all[i],by simp[af],λe he jA=>?_⟩;have b5:=(zo aj (j:=i) (o:=all[i]) (by simp[af])).1 e he jA;exact ih e.on b5 (by omega)
  rw[h]at this;cases this
def alX(aj:tx (ops++hX)=true):tx ops=true:=by
 refine xax.2 λj aB=>?_;have aB:=xbZ.1 aB;have J:=xax.1 aj j (xbZ.2 (by simp;omega))
 rwa [vi aB]at J
def alY{tm:Array Value}{g:Nat}(h:g<ops.size):yielded (ops++hX) tm g=yielded ops tm g:=by unfold yielded;rw[vi h]
def alZ(aj:tx (ops++hX)=true){i:Nat}(af:i<ops.size){o':Oper}(aT:ops[i]?=some o')(tm:Array Value):Region.wanted o' (yielded (ops++hX) tm)=Region.wanted o' (yielded ops tm):=by unfold Region.wanted;cases bQ:o'.guard with|none=>rfl|some p=>obtain⟨g,b⟩:=p;have:=(zo aj (by rw[vi af];exact aT)).2 g b bQ;simp only[alY (xcl this af)]
def al0(aj:tx (ops++hX)=true){i:Nat}(af:i<ops.size){K:Act->World->Prop}{a:Act}{w:World}:wpOp P (ops++hX) Q i K a w=wpOp P ops Q i K a w:=by
 unfold wpOp;rw[vi af];have:ops[i]?=some ops[i]:=by simp[af]
 rw[this];simp only[alZ aj af this]
def al1{all:Array Oper}:∀(fuel:Nat)(L:Array Bool)(a:Act)(w:World),Region.ready .any all L=[]->Q .normal a w->wpAny P .any all Q fuel L a w
 |0,L,a,w,h,ik=>⟨h,ik⟩|fuel+1,L,a,w,h,ik=>⟨λ_=>ik,λi af=>by rw[h]at af;cases af⟩
def mF(n j:Nat):Array Bool:=Array.ofFn (n:=n) λi=>decide (i.val<j)
def ZF{n j:Nat}:(mF n j).size=n:=by simp[mF]
def zp{n j i:Nat}{d:Bool}(h:i<n):(mF n j).getD i d=decide (i<j):=by simp[mF,Array.getD,h]
def al2{n j:Nat}:(mF n j).setIfInBounds j true=mF n (j+1):=by
 apply Array.ext;.simp[mF]
 intro i J aa;simp[mF]at J;by_cases h:i=j;.subst h;simp[mF]
 rw[xbG (by simpa[mF]using J) (by omega)];simp[mF];omega
def ZG{all:Array Oper}(aj:tx all=true){p:Nat}(al:∀j,p<=j->j<all.size->F7 all j=true):∀(d j:Nat)(a:Act)(w:World),p<=j->j+d=all.size->wpOps P all Q (List.range' j d) a w->wpAny P .any all Q d (mF all.size j) a w
 |0,j,a,w,aU,ay,h=>by refine⟨ZE ZF λi af=>by rw[zp af];simp;omega,by simpa[wpOps]using h⟩
 |d+1,j,a,w,aU,ay,h=>by
  have aB:j<all.size:=by omega
  have hinv:Cy all (mF all.size j):=by intro i o aT af e he jA;have bY:=(xaP.1 aT).1;rw[zp bY]at af;have:=(zo aj aT).1 e he jA;rw[zp (by omega)];simp at af⊢;omega
  have ZH:j∈Region.ready .any all (mF all.size j):=by refine xbR.2 ⟨by rw[zp aB];simp,all[j],by simp[aB],λe he jA=>?_⟩;have:=(zo aj (j:=j) (o:=all[j]) (by simp[aB])).1 e he jA;rw[zp (by omega)];simpa using this
  refine⟨λau=>(by rw[au]at ZH;cases ZH),λi af=>?_⟩;have cX:=F8 af;have J:=(xbR.1 af).1;rw[zp cX]at J;have kj:i=j:=by
   have dS:j<=i:=by simpa using J
   by_cases ai:i=j;.exact ai
   have:=RD ZF (al i (by omega) cX) hinv af i j (by omega) (by omega);rw[zp aB]at this;simp at this
  subst kj;rw[List.range'_succ,wpOps_cons]at h;refine wpOp_mono (λcI w' bM=>?_) h;rw[al2];exact ZG aj al d (i+1) cI w' (by omega) (by omega) bM
def al3{listed:Array Bool}{m:Nat}(h:∀i,i<listed.size->listed.getD i false=true):listed++Array.replicate m false=mF (listed.size+m) listed.size:=by
 apply Array.ext;.simp[mF]
 intro i J aa;simp at J;by_cases af:i<listed.size;.have:=h i af;simp[Array.getD,af]at this;rw[Array.getElem_append_left af,this];simp[mF,af]
 rw[Array.getElem_append_right (by omega)];simp[mF];omega
def al4{listed:Array Bool}{m i:Nat}(af:i<listed.size):(listed++Array.replicate m false).setIfInBounds i true=listed.setIfInBounds i true++Array.replicate m false:=by
 apply Array.ext;.simp
 intro j J aa;simp at J;by_cases aB:j<listed.size
 .rw[Array.getElem_append_left (by simpa using aB)];by_cases kj:i=j;.subst kj;simp
  rw[xbG (by simp;omega) kj,Array.getElem_append_left aB,xbG aB kj]
 rw[Array.getElem_append_right (by simp;omega),xbG (by simp;omega) (by omega),Array.getElem_append_right (by omega)];simp
end
def ZI{P:Program}{Q:Exit->Act->World->Prop}{all:Array Oper}:∀{n:Nat}{L:Array Bool}{a:Act}{w:World},wpAny P .any all Q n L a w->∀k,n<=k->wpAny P .any all Q k L a w
 |0,L,a,w,h,k,ah=>al1 k L a w h.1 h.2|n+1,L,a,w,h,0,ah=>by omega|n+1,L,a,w,h,k+1,ah=>⟨h.1,λi af=>wpOp_mono (λcI w' bC=>ZI bC k (by omega)) (h.2 i af)⟩
section
variable{P:Program}{T:ch}{G:dt}{ops hX:Array Oper}{Q:Exit->Act->World->Prop}
def al5{m:Mem}{fr:ff}{N:Nat}(bl:ee P T){K:aM->Prop}(aj:tx (ops++hX)=true)(al:∀j,ops.size<=j->j<(ops++hX).size->F7 (ops++hX) j=true)(gn:∀o∈ops,∀d,o.dst=some d->d<N):∀(fuel:Nat)(listed:Array Bool)(m:Mem)(ρ:di)(σ:aM)(a:Act)(w:World),listed.size=ops.size->Cy ops listed->kf G m->Den m fr ρ σ a w->N<=a.tmps.size->a.defers=[]->jw P T G ops K fuel listed σ->(∀cI w',jg N m fr ρ σ K cI w'->wpOps P (ops++hX) Q (List.range' ops.size hX.size) cI w')->wpAny P .any (ops++hX) Q (fuel+hX.size) (listed++Array.replicate hX.size false) a w:=by
 have fin:∀{fuel:Nat}{listed:Array Bool}{m:Mem}{ρ:di}{σ:aM}{a:Act}{w:World},listed.size=ops.size->Region.ready .any ops listed=[]->kf G m->Den m fr ρ σ a w->N<=a.tmps.size->a.defers=[]->K σ->(∀cI w',jg N m fr ρ σ K cI w'->wpOps P (ops++hX) Q (List.range' ops.size hX.size) cI w')->wpAny P .any (ops++hX) Q hX.size (listed++Array.replicate hX.size false) a w:=by intro fuel listed m ρ σ a w aC av cY h cf hL ah ik;have al6:=alW (alX aj) aC av;rw[al3 (λi af=>al6 i (by omega)),aC,<-Array.size_append];exact ZG aj al _ _ _ _ (xaT _) (by simp) (ik a w ⟨σ,m,ρ,ah,Mem.le_refl m,h,cf,hL,k6.refl _ _⟩)
 intro fuel
 induction fuel with
 |zero=>intro listed m ρ σ a w aC hinv cY h cf hL aS ik;rw[xay];exact fin (fuel:=0) aC aS.1 cY h cf hL aS.2 ik
 |succ fuel ih=>
  intro listed m ρ σ a w aC hinv cY h cf hL aS ik;by_cases av:Region.ready .any ops listed=[];.have:=fin (fuel:=0) aC av cY h cf hL (aS.1 av) ik;exact ZI this _ (by omega)
  rw[Nat.add_right_comm];have al7:Cy (ops++hX) (listed++Array.replicate hX.size false):=by
   intro j o' aT aB e he jA;have ct:=(xaP.1 aT).1;simp at ct;by_cases ZJ:j<ops.size
   .rw[Cz (by omega)]at aB;rw[vi ZJ]at aT;have:=(zo aj (by rw[vi ZJ];exact aT)).1 e he jA;rw[Cz (by omega)];exact hinv j o' aT aB e he jA
   rw[alT (by omega) (by omega)]at aB;cases aB
  refine⟨λau=>absurd ?_ av,λi af=>?_⟩;.refine List.eq_nil_iff_forall_not_mem.2 λi af=>?_;have:=(ZD aj aC (F8 af)).2 af;rw[au]at this;cases this
  by_cases s3:i<ops.size;.have nH:=(ZD aj aC s3).1 af;have J:=aS.2 i nH;obtain⟨_,fk,aT,_⟩:=xbR.1 nH;unfold h6 at J;simp only[aT]at J;rw[al0 aj s3];refine wpOp_mono ?_ (Qe bl cY h cf hL aT (gn fk (Array.mem_of_getElem? aT)) J);rintro cI w' ⟨aZ,cz,c0,b0,bR,cw,dX,eB,fo⟩;rw[al4 (by omega)];refine ih _ cz c0 aZ cI w' (by simp[aC]) (alV aC hinv nH) (cY.mono bR) cw dX eB b0 ?_;rintro p0 k7 ⟨rD,yX,yY,eQ,eE,hR,tc,wX,wY⟩;exact ik p0 k7 ⟨rD,yX,yY,eQ,Mem.le_trans bR eE,hR,tc,wX,fo.trans wY⟩
  refine absurd (ZE aC λj aB=>?_) av;have:=RD (by simp[aC]) (al i (by omega) (F8 af)) al7 af i j (by omega) (by omega)
  rwa [Cz (by omega)]at this
end
def al8{P:Program}{T:ch}{G:dt}{N:Nat}{σ:aM}{Q:Exit->aM->Prop}(bl:ee P T)(hm:P.follows .mixedOrders=true){id:Nat}{ops hX:Array Oper}(cf:wZ N ops=true)(aj:RB (ops++hX) ops.size=true) {K:aM->Prop} (hx:∀aZ,K aZ->pw P G N (ops++hX) ops.size hX.toList (Q .normal) aZ) (h:jw P T G ops K ops.size (Array.replicate ops.size false) σ):hD P T G N (.region id (ops++hX) true) σ Q:=by
 intro m fr ρ a w cY cH oo ay;refine wp_region_any hm ?_;simp only[RB,xao]at aj;have e:Array.replicate (ops++hX).size false=Array.replicate ops.size false++Array.replicate hX.size false:=by rw[Array.size_append,Array.replicate_append_replicate]
 rw[e,Array.size_append];refine al5 (m:=m) (fr:=fr) (N:=N) (T:=T) bl aj.1 (λj J aa=>?_) (w1 cf) ops.size _ m ρ σ a _ (by simp) ?_ cY (cH.drew _) oo ay h ?_;.have:=xax.1 aj.2 j (xbZ.2 aa);simp only[xbh,xaz]at this;exact this.resolve_left (by omega)
 .intro j o' aT aB;have:=(xaP.1 aT).1;simp[Array.getD,this]at aB
 rintro cI w' ⟨aZ,cz,c0,b0,bR,cw,dX,eB,fo⟩;have:=hx aZ b0 cz fr c0 cI w' (λe cI w'=>jg N m fr ρ σ (Q e) cI w') (cY.mono bR) cw dX eB (λp0 k7 av=>av.trans bR fo);simpa using this
section
variable{β:Type}
def bL(f:List D->Option (List D⊕β)):Nat->List D->Option β
 |0,_=>none|n+1,ls=>ab (f ls) λx=>match x with| .inl fc=>bL f n fc| .inr b=>some b
end
def xl:Code->Nat
 | .region id _ _=>id| .seq x _=>xl x| .cond _ x _=>xl x| .block _ c=>xl c| .loop c=>xl c| .scope c=>xl c|_=>0
def al9(c:Tmp)(x y:Code):Nat:=(c*1000+xl y)*1000+xl x
structure nS where
 T:ch
 G:dt
 C:lY
 n:Nat
 ib:List Key
 loops:Nat->Option rJ
 ama:Nat->Option rJ
 blocks:Nat->Option rJ
 qJ:Nat->Option (List Nat)
 H:xk
 iW:Tmp->Bool
 pre:Nat->List (List Key)
def bd{β:Type}(b:Option β):Option (List D⊕β):=ab b λb=>some (.inr b)
def bo{β:Type}(f:List D->Option β):List D⊕β->Option β
 | .inl ls=>f ls| .inr b=>some b
def RE{β:Type}(ib:List Key)(gd:rJ)(run:(Exit->aM->Option (List D⊕β))->Option (List D⊕β))(k:Exit->aM->Option β):Option β:=ab (run λe aZ=>match e with| .normal=>tn ib gd aZ λls=>some (.inl ls)|e=>bd (k e aZ)) (bo λls=>k .normal (restore gd ls))
def F9{β:Type}(id:Nat)(k:Exit->aM->Option β)(e:Exit)(σ:aM):Option β:=match e with
 | .exit u0=>if u0=id then k .normal σ else k (.exit u0) σ
 |e=>k e σ
def amb{β:Type}(k:Exit->aM->Option β)(e:Exit)(σ:aM):Option β:=match e with| .goto _=>none|e=>k e σ
def exec(X:nS):Code->{β:Type}->aM->(Exit->aM->Option β)->Option β
 | .skip,_,σ,k=>k .normal σ| .label _,_,σ,k=>k .normal σ| .scope c,_,σ,k=>exec X c σ (amb k)| .exit id,_,σ,k=>k (.exit id) σ| .ret,_,σ,k=>k .ret σ
 | .region id ops d,_,σ,k=>zj (X.pre id) σ λσ=>match X.qJ id with
  |none=>match d with|true=>YQ X.T X.G X.C ops σ λaZ=>k .normal aZ|false=>Zu X.T X.G X.C X.H X.iW ops σ λaZ=>k .normal aZ
  |some ord=>if d=true/\ord.length=ops.size then Cl X.T X.G X.C ops ord (Array.replicate ops.size false) σ λaZ=>k .normal aZ
   else if d=true/\ord.length<=ops.size/\RB ops ord.length=true then Cl X.T X.G X.C (ops.extract 0 ord.length) ord (Array.replicate ord.length false) σ λaZ=>zm X.T X.G X.C X.H X.iW ops (w8 (ops.extract ord.length ops.size).toList) aZ λrD=>k .normal rD
   else none
 | .seq x y,_,σ,k=>exec X x σ λe aZ=>match e with| .normal=>exec X y aZ k|e=>k e aZ
 | .cond (.tmp c) x y,_,σ,k=>match σ.aO c with
  | .d a=>match X.ama (al9 c x y)with|none=>aJ a (exec X x σ k) (exec X y σ k)|some gd=>RE X.ib gd (λbF=>aJ a (exec X x σ bF) (exec X y σ bF)) k
  |_=>none
 | .block id c,_,σ,k=>match X.blocks id with|none=>exec X c σ (F9 id k)|some gd=>RE X.ib gd (λbF=>exec X c σ (F9 id bF)) k
 | .loop c,_,σ,k=>match X.loops (xl c)with|none=>none|some gd=>tn X.ib gd σ λRF=>bL (λls=>exec X c (restore gd ls) λe aZ=>match e with| .normal=>tn X.ib gd aZ λfc=>some (.inl fc)|e=>bd (k e aZ)) X.n RF
 | .cond (.const v) x y,_,σ,k=>match v with| .bool true=>exec X x σ k| .bool false=>exec X y σ k|_=>none
 |_,_,_,_=>none
section
variable{P:Program}{T:ch}{G:dt}{N:Nat}{σ:aM}{all:Array Oper}{ib:List Key}
def ZK{K K':aM->Prop}(ah:∀σ,K σ->K' σ):∀(fuel:Nat){listed:Array Bool}{σ:aM},jw P T G all K fuel listed σ->jw P T G all K' fuel listed σ
 |0,_,_,h=>⟨h.1,ah _ h.2⟩|fuel+1,_,_,h=>⟨λau=>ah _ (h.1 au),λi af=>wV (λ_ bC=>ZK ah fuel bC) (h.2 i af)⟩
def Ga{K:aM->Prop}(ay:∀o∈all,∀d,o.dst=some d->d<10000):∀(fuel:Nat){listed:Array Bool}{σ:aM},fB ib σ->jw P T G all K fuel listed σ->jw P T G all (λaZ=>fB ib aZ/\K aZ) fuel listed σ
 |0,_,_,ck,h=>⟨h.1,ck,h.2⟩
 |fuel+1,_,σ,ck,h=>by
  refine⟨λau=>⟨ck,h.1 au⟩,λi af=>?_⟩;have J:=h.2 i af;unfold h6 at J⊢;split at J
  .exact Ga ay fuel ck J
  rename_i o aT;rw[hW]at J⊢;have amc:=ay o (Array.mem_of_getElem? aT);cases hw:jV all σ o with|none=>rw[hw]at J;exact J|some w=>rw[hw]at J;cases w with|true=>exact qC (λaZ ⟨aa,ax⟩=>Ga ay fuel aa ax) (Zv ck amc J)|false=>exact Ga ay fuel ck.put J
def amd{Q:Exit->aM->Prop}(bl:ee P T)(hm:P.follows .mixedOrders=true){id:Nat}{ops:Array Oper}(cf:wZ N ops=true) (h:jw P T G ops (Q .normal) ops.size (Array.replicate ops.size false) σ):hD P T G N (.region id ops true) σ Q:=by intro m fr ρ a w cY cH oo ay;refine wp_region_any hm ?_;exact Qn (m:=m) (fr:=fr) (N:=N) (Q:=λe cI w'=>jg N m fr ρ σ (Q e) cI w') bl (w1 cf) ops.size _ m ρ σ a _ cY (cH.drew _) oo ay h (λcI w' av=>av)
def qa(T:ch)(os:Nat->Option (List Nat))(N:Nat):Code->Bool
 | .region id ops d=>wZ N ops&&(!d||(os id).isSome||yW T ops (List.range ops.size) (Array.replicate ops.size false))| .seq x y=>qa T os N x&&qa T os N y| .cond _ x y=>qa T os N x&&qa T os N y| .block _ c=>qa T os N c| .loop c=>qa T os N c| .scope c=>qa T os N c|_=>true
def ov{β:Type}(ib:List Key)(k:Exit->aM->Option β)(b:β)(e:Exit)(σ:aM):Prop:=∃τ,hl σ τ/\fB ib τ/\k e τ=some b
def ZL{β:Type}{x:Option β}{y:List D⊕β}(h:bd x=some y):∃b,x=some b/\y= .inr b:=by obtain⟨b,J,aa⟩:=ek h;exact⟨b,J,(xba aa).symm⟩
def ZM{β:Type}{gd:rJ}{c:Code}{run:(Exit->aM->Option (List D⊕β))->Option (List D⊕β)}{k:Exit->aM->Option β}{b:β} (gZ:∀bF b',run bF=some b'->hD P T G N c σ (ov ib bF b')) (h:RE ib gd run k=some b):hD P T G N c σ (ov ib k b):=by
 obtain⟨x,J,aa⟩:=ek h;refine B8 (gZ _ _ J) ?_;rintro e aZ ⟨τ,g1,g2,g3⟩;have other:∀du,e=du->bd (k du τ)=some x->ov ib k b e aZ:=by rintro du rfl ax;obtain⟨b',bh,rfl⟩:=ZL ax;cases aa;exact⟨τ,g1,g2,bh⟩
 cases e with
 |normal=>obtain⟨ls,b0,bR,cw⟩:=Lv g2 g3;cases cw;exact⟨_,g1.trans b0,bR,aa⟩
 |exit id=>exact other _ rfl g3|goto l=>exact other _ rfl g3|ret=>exact other _ rfl g3|panic c=>exact other _ rfl g3|outgrown=>exact other _ rfl g3
def ame{β:Type}{f:List D->Option (List D⊕β)}{n:Nat}{ls:List D}{b:β}(h:bL f n ls=some b):∃m,n=m+1/\((∃fc,f ls=some (.inl fc)/\bL f m fc=some b)\/f ls=some (.inr b)):=by
 cases n with
 |zero=>cases h
 |succ m=>obtain⟨x,J,aa⟩:=ek h;refine⟨m,rfl,?_⟩;cases x with|inl fc=>exact .inl ⟨fc,J,aa⟩|inr b'=>cases aa;exact .inr J
def ov.block{β:Type}{id:Nat}{k:Exit->aM->Option β}{b:β}{e:Exit}{σ:aM}(h:ov ib (F9 id k) b e σ):Fy id (ov ib k b) e σ:=by
 obtain⟨τ,g1,g2,g3⟩:=h;cases e with
 |exit u0=>
  simp only[Fy];unfold F9 at g3;by_cases af:u0=id;.simp only[af,xaF]at g3⊢;exact⟨τ,g1,g2,g3⟩
  simp only[af,xaH]at g3⊢;exact⟨τ,g1,g2,g3⟩
 |normal=>exact⟨τ,g1,g2,g3⟩|goto l=>exact⟨τ,g1,g2,g3⟩|ret=>exact⟨τ,g1,g2,g3⟩|panic c=>exact⟨τ,g1,g2,g3⟩|outgrown=>exact⟨τ,g1,g2,g3⟩
def rN(X:nS)(bl:ee P X.T)(cn:hy P X.G X.C)(hH:kQ P X.G X.H)(hm:P.follows .mixedOrders=true)(cf:N<10000):∀(c:Code){β:Type}{σ:aM}{k:Exit->aM->Option β}{b:β},qa X.T X.qJ N c=true->fB X.ib σ->exec X c σ k=some b->hD P X.T X.G N c σ (ov X.ib k b)
 | .skip,β,σ,k,b,_,ck,h=>ajo ⟨σ,hl.refl σ,ck,h⟩| .label l,β,σ,k,b,_,ck,h=>ajp ⟨σ,hl.refl σ,ck,h⟩| .exit id,β,σ,k,b,_,ck,h=>ajq ⟨σ,hl.refl σ,ck,h⟩| .ret,β,σ,k,b,_,ck,h=>ajr ⟨σ,hl.refl σ,ck,h⟩
 | .region id ops d,β,σ,k,b,bD,ck,h=>by
  simp only[qa,xao,xbh,Bool.not_eq_true']at bD;have gn:∀o∈ops.toList,∀d,o.dst=some d->d<10000:=λo aT d ay=>xcl (w1 bD.1 o (by simpa using aT) d ay) cf;have RG:∀aZ,fB X.ib aZ/\k .normal aZ=some b->ov X.ib k b .normal aZ:=λaZ bC=>⟨aZ,hl.refl aZ,bC⟩;unfold exec at h;have ad:=F2 ck h;clear h ck;obtain⟨σ,amf,ck,h⟩:=ad;refine Qo amf ?_;split at h
  .rename_i B9;split at h
   .have J:=ak3 (P:=P) (all:=ops) (σ:=σ) cn (K:=λaZ=>∃τ,pq aZ τ/\k .normal τ=some b) (λσ τ hw ⟨yZ,J,aa⟩=>⟨yZ,hw.trans J,aa⟩) (λaZ bC=>⟨aZ,pq.refl _,bC⟩) h;have aa:fO P X.T X.G ops ops.toList (ov X.ib k b .normal) σ:=by
     refine nk ?_ (Rr ck gn J);rintro aZ ⟨g1,τ,g2,g3⟩;refine⟨τ,g2.Cm,?_,g3⟩;intro j aB aj;rw[<-g2.1]at aj;exact g1 j aB aj
    exact ajP bl hm bD.1 (bD.2.resolve_left (by simp[B9])) aa
   have J:=alQ (P:=P) (all:=ops) (σ:=σ) bl cn hH cf (λo aT d ay=>w1 bD.1 o (by simpa using aT) d ay) ck h;exact alR (λm fr ρ a w Q cY cH oo ay ik=>J m fr ρ a w Q cY cH oo ay (λcI w' av=>ik cI w' (av.mono RG)))
  rename_i ord B9;split at h
  case isFalse=>
   split at h
   case isFalse=>cases h
   rename_i ai;obtain⟨rfl,bJ,ZN⟩:=ai;have gq:ops=ops.extract 0 ord.length++ops.extract ord.length ops.size:=by rw[Array.extract_append_extract,Nat.max_eq_right bJ];simp
   have ob:ord.length=(ops.extract 0 ord.length).size:=by simp;omega
   have J:=Q2 (P:=P) cn ord _ σ h;generalize ops.extract 0 ord.length=c7 at*;generalize ops.extract ord.length ops.size=BK at*;subst gq;rw[ob]at J;have ow:wZ N c7=true:=by have:=bD.1;unfold wZ at this⊢;simp only[Array.toList_append,List.all_append,xao]at this;exact this.1
   rw[ob]at ZN;refine al8 bl hm ow ZN ?_ (Ga (λo aT d ay=>xcl (w1 ow o aT d ay) cf) _ ck J);rintro aZ ⟨Rv,ad⟩;have aa:=F5 (P:=P) (N:=N) (ib:=X.ib) (all:=c7++BK) (i:=c7.size) bl cn hH cf (K:=ov X.ib k b .normal) (λg hm o aT=>Lm _ _ _ hm o aT) (by rw[xb];intro o' aT d ay;exact w1 bD.1 _ (by simp at aT⊢;exact .inr aT) d ay) (by rw[xb];intro j;rw[Array.getElem?_append_right (by omega)];simp) Rv (λrD J aa=>RG rD ⟨J,aa⟩) ad
   rwa [xb]at aa
  rename_i ai;obtain⟨rfl,bJ⟩:=ai;have J:=Q2 (P:=P) cn ord _ σ h;rw[bJ]at J;exact amd bl hm bD.1 (ZK RG _ (Ga (λo aT d ay=>xcl (w1 bD.1 o aT d ay) cf) _ ck J))
 | .seq x y,β,σ,k,b,bD,ck,h=>by simp only[qa,xao]at bD;refine ajs (B8 (rN X bl cn hH hm cf x bD.1 ck h) ?_);rintro e aZ ⟨τ,g1,g2,g3⟩;cases e with|normal=>simp only[KY];refine Qo g1 (rN X bl cn hH hm cf y bD.2 g2 g3)|exit id=>exact⟨τ,g1,g2,g3⟩|goto l=>exact⟨τ,g1,g2,g3⟩|ret=>exact⟨τ,g1,g2,g3⟩|panic c=>exact⟨τ,g1,g2,g3⟩|outgrown=>exact⟨τ,g1,g2,g3⟩
 | .cond c x y,β,σ,k,b,bD,ck,h=>by
  simp only[qa,xao]at bD;cases c with
  |tmp c=>
   unfold exec at h;split at h
   case h_2=>cases h
   rename_i a aH;have two:∀{β:Type}(bF:Exit->aM->Option β)(b':β),aJ a (exec X x σ bF) (exec X y σ bF)=some b'->hD P X.T X.G N (.cond (.tmp c) x y) σ (ov X.ib bF b'):=by
    intro β bF b' h;rcases Yz h with⟨rfl,J⟩|⟨rfl,J⟩
    .exact KZ (b:=true) aH (by rw[xac rfl];exact rN X bl cn hH hm cf x bD.1 ck J)
    exact KZ (b:=false) aH (by rw[xae (by simp)];exact rN X bl cn hH hm cf y bD.2 ck J)
   split at h;.exact two k b h
   exact ZM (λbF b' bC=>two bF b' bC) h
  |const v=>
   unfold exec at h;split at h;.exact KZ (b:=true) rfl (by rw[xac rfl];exact rN X bl cn hH hm cf x bD.1 ck h)
   .exact KZ (b:=false) rfl (by rw[xae (by simp)];exact rN X bl cn hH hm cf y bD.2 ck h)
   cases h
  |global g=>cases h
  |func f=>cases h
 | .block id c,β,σ,k,b,bD,ck,h=>by
  have one:∀{β:Type}(bF:Exit->aM->Option β)(b':β),exec X c σ (F9 id bF)=some b'->hD P X.T X.G N (.block id c) σ (ov X.ib bF b'):=by intro β bF b' h;exact ajv (B8 (rN X bl cn hH hm cf c bD ck h) (λe aZ bC=>bC.block))
  unfold exec at h;split at h;.exact one k b h
  exact ZM (λbF b' bC=>one bF b' bC) h
 | .loop c,β,σ,k,b,bD,ck,h=>by
  unfold exec at h;split at h
  case h_1=>cases h
  rename_i gd tz;obtain⟨RF,aL,a7,bV⟩:=Lv ck h;generalize bk:(λls=>exec X c (restore gd ls) λe aZ=>match e with| .normal=>tn X.ib gd aZ λfc=>some (Sum.inl fc)|e=>bd (k e aZ))=f at bV;refine ajF (ι:={p:List D×Nat//bL f p.2 p.1=some b/\fB X.ib (restore gd p.1)}) (λp=>restore gd p.1.1) (λp=>p.1.2) ⟨(RF,X.n),bV,a7⟩ aL ?_;rintro⟨⟨ls,n⟩,ZO,gU⟩;simp only at ZO gU⊢;obtain⟨m,rfl,ax⟩:=ame ZO;have round:∀x,f ls=some x->hD P X.T X.G N c (restore gd ls) (ov X.ib (λe aZ=>match e with| .normal=>tn X.ib gd aZ λfc=>some (Sum.inl fc)|e=>bd (k e aZ)) x):=by intro x ad;rw[<-bk]at ad;exact rN X bl cn hH hm cf c bD gU ad
  have go:∀x,f ls=some x->(∀fc,x= .inl fc->bL f m fc=some b)->(∀b',x= .inr b'->b'=b)->hD P X.T X.G N c (restore gd ls) (KY (λaZ=>∃j:{p:List D×Nat//bL f p.2 p.1=some b/\fB X.ib (restore gd p.1)},hl aZ (restore gd j.1.1)/\j.1.2<m+1) (ov X.ib k b)):=by
   intro x ad al av;refine B8 (round x ad) ?_;rintro e aZ ⟨τ,g1,g2,g3⟩;have other:∀du,e=du->bd (k du τ)=some x->ov X.ib k b e aZ:=by rintro du rfl ax;obtain⟨b',bh,rfl⟩:=ZL ax;rw[av b' rfl]at bh;exact⟨τ,g1,g2,bh⟩
   cases e with
   |normal=>obtain⟨fc,b0,bR,cw⟩:=Lv g2 g3;cases cw;exact⟨⟨(fc,m),al fc rfl,bR⟩,g1.trans b0,Nat.lt_succ_self m⟩
   |exit id=>exact other _ rfl g3|goto l=>exact other _ rfl g3|ret=>exact other _ rfl g3|panic c=>exact other _ rfl g3|outgrown=>exact other _ rfl g3
  rcases ax with⟨fc,bh,b9⟩|bh;.exact go _ bh (by rintro _ ⟨⟩;exact b9) (by rintro _ ⟨⟩)
  exact go _ bh (by rintro _ ⟨⟩) (by rintro _ ⟨⟩;rfl)
 | .rangeFunc _ _ _ _,β,σ,k,b,_,ck,h=>by cases h
 | .scope c,β,σ,k,b,bD,ck,h=>aju (B8 (rN X bl cn hH hm cf c (by simpa[qa]using bD) ck h) (by
   rintro e aZ ⟨τ,g1,g2,g3⟩;cases e with
   |goto l=>cases g3
   |normal=>exact⟨τ,g1,g2,g3⟩|exit id=>exact⟨τ,g1,g2,g3⟩|ret=>exact⟨τ,g1,g2,g3⟩|panic c=>exact⟨τ,g1,g2,g3⟩|outgrown=>exact⟨τ,g1,g2,g3⟩))
 | .goto _,β,σ,k,b,_,ck,h=>by cases h
 | .refuse _,β,σ,k,b,_,ck,h=>by cases h
end
def ZP{P:Program}{T:ch}{G:dt}{N:Nat}{c:Code}{σ:aM}{Q:Exit->aM->Prop}(h:hD P T G N c σ (λe aZ=>∃τ,hl aZ τ/\Q e τ)):hD P T G N c σ Q:=by intro m fr ρ a w cY cH cf ay;refine wp_mono (h m fr ρ a w cY cH cf ay) ?_;rintro e cI w' ⟨aZ,cz,c0,⟨τ,ey,ik⟩,aa,ax,bh,b9,cN⟩;obtain⟨yX,yY,g1,g2,g3⟩:=ey cz fr c0 cI w' ax;exact⟨τ,yX,yY,ik,Mem.le_trans aa g1,g2,bh,b9,cN.trans g3⟩
def amg(T:ch)(rs:List ResultVar)(e:Exit)(σ:aM):Option D:=match e with| .normal=>ab (rE T σ rs) (toD σ.objs)| .ret=>ab (rE T σ rs) (toD σ.objs)|_=>none
def vj(X:nS)(fn:Func)(args:List aX):Option D:=match fn.body with|some c=>exec X c (start args λ_=>none) (amg X.T fn.results.toList)|none=>none
def ox(T:ch)(os:Nat->Option (List Nat))(fn:Func):Bool:=match fn.body with|some c=>qa T os fn.ntmps c&&decide (fn.ntmps<10000)&&!(fn.name== "runtime.NumGoroutine")|none=>false
def amh{xs c7:List aX}(h:jM (λk=>k) (λ_=>False) xs c7):hl (start xs λ_=>none) (start c7 λ_=>none):=by
 intro m fr ρ a w cH;refine⟨m,ρ,Mem.le_refl m,⟨cH.mem,cH.frame,cH.apart,?_,?_,?_,?_,?_⟩,?_⟩;.rintro k ⟨o,aT⟩;cases aT
 .intro t;have J:=cH.aO t;obtain⟨aa,ax⟩:=h.ok;simp only[start]at J⊢;cases aE:c7[t]? with
  |none=>rw[xbb,aE];exact .any _
  |some y=>
   obtain⟨x,ad,hle⟩:=ax t y aE;rw[xbb,ad]at J;rw[xbb,aE];have bh:p1 (λk=>k) (aM.used (start c7 λ_=>none)) x y:=by unfold p1 at hle⊢;split at hle<;>first|exact hle|(exact absurd hle.2 id)
   exact bh.ok (ρ:=ρ) J
 .intro k o ah;cases ah
 .intro k o b ah;cases ah
 .intro k bF o o' b _ ah;cases ah
 intro k _ ai;exact absurd ai uV
def ami{P:Program}(X:nS)(bl:ee P X.T)(cn:hy P X.G X.C)(hH:kQ P X.G X.H)(hm:P.follows .mixedOrders=true)(mG:X.ib=[]){f:FuncId}{fn:Func}(bk:P.funcs[f]?=some fn)(bD:ox X.T X.qJ fn=true){aR:List D}{as:List aX}(hle:jM (λk=>k) (λ_=>False) (aR.map .d) as)(bJ:decide (aR.length<=fn.ntmps)=true){r:D} (h:vj X fn as=some r):fz P X.G f aR (·=r):=by
 have bJ:=xbd bJ;unfold vj at h;unfold ox at bD;split at h
 case h_2=>cases h
 rename_i c aj;simp only[aj,xao,xaz,Bool.not_eq_true']at bD;refine ajH bl bk aj bD.2 bJ ?_;refine Qo (amh hle) ?_;refine ZP (B8 (rN X bl cn hH hm bD.1.2 c bD.1.1 (by intro k _ ai;exact absurd ai uV) h) ?_);rintro e aZ ⟨τ,g1,g2,g3⟩;have fin:ab (rE X.T τ fn.results.toList) (toD τ.objs)=some r->∃ZQ d x,rE X.T τ fn.results.toList=some ZQ/\toD τ.objs ZQ=some d/\d.le x/\x=r:=by intro J;obtain⟨u,aa,ax⟩:=ek J;exact⟨u,r,r,aa,ax,D.le_refl _,rfl⟩
 refine⟨τ,g1,?_⟩;cases e with
 |normal=>exact⟨.inl rfl,fin g3⟩|ret=>exact⟨.inr rfl,fin g3⟩|exit id=>cases g3
 |goto l=>cases g3
 |panic c=>cases g3
 |outgrown=>cases g3
def LN(s:gT)(ls:List D):aM:=⟨λt=>(s.xi ls).getD t .any,eN (s.ot ls)⟩
def amj(X:nS)(s:gT)(p7:List xc)(rs:List ResultVar)(e:Exit)(σ:aM):Option (List D):=match e with
 | .normal=>ab (rE X.T σ rs) λx=>tn X.ib ⟨[(0,s.res)],s.outs,p7⟩ ⟨λt=>if t=0 then x else .any,σ.objs⟩ some
 | .ret=>ab (rE X.T σ rs) λx=>tn X.ib ⟨[(0,s.res)],s.outs,p7⟩ ⟨λt=>if t=0 then x else .any,σ.objs⟩ some
 |_=>none
def RH(X:nS)(fn:Func)(s:gT)(p7:List xc)(ls:List D):Option (List D):=match fn.body with|some c=>exec X c (LN s ls) (amj X s p7 fn.results.toList)|none=>none
def amk{P:Program}(X:nS)(bl:ee P X.T)(cn:hy P X.G X.C)(hH:kQ P X.G X.H)(hm:P.follows .mixedOrders=true){s:gT}{fn:Func}(bk:P.funcs[s.f]?=some fn)(bD:ox X.T X.qJ fn=true)(bJ:decide (s.args.length<=fn.ntmps)=true) (mG:(s.ins.all λp=>decide (p.1<10000)||X.ib.contains p.1)=true) {p7:List xc} {F:List D->Option (List D)} (h:∀ls fc,F ls=some fc->RH X fn s p7 ls=some fc):tu P X.G s F:=by
 have bJ:=xbd bJ;unfold ox at bD;split at bD
 case h_2=>cases bD
 rename_i c aj;simp only[xao,xaz,Bool.not_eq_true']at bD;refine⟨⟨fn,bk,bD.2,by rw[aj];rfl⟩,?_⟩;intro ls fc fQ m fr ρ w vs cY cH al qs;have ad:=h ls fc fQ;unfold RH at ad;rw[aj]at ad;simp only at ad;have zq:(s.xi ls).length=s.args.length:=by
  have:∀(l:List SW)(n:Nat),(rK ls l n).1.length=l.length:=by
   intro l
   induction l with
   |nil=>intro n;rfl
   |cons x r ih=>intro n;simp[rK,ih]
  exact this _ _
 have aml:fB X.ib (LN s ls):=by
  intro k ah aj;obtain⟨cs,hU⟩:=BZ aj;have:=w6 hU;have J:mA (s.ot ls)=s.ins.map (·.1):=zh _ _ _;rw[J]at this;obtain⟨p,aU,rfl⟩:=xaO.1 this;have aa:=xax.1 mG p aU;simp only[xbh,xaz,List.contains_eq_mem]at aa;rcases aa with aa|aa
  .exact absurd aa (Nat.not_lt.2 ah)
  exact aa
 have hw:=rN X bl cn hH hm bD.1.2 c bD.1.1 aml ad;refine calls_of_wp bk aj ?_;have FA:Den m fr ρ (LN s ls) {tmps:=vs.toArray++Array.replicate (fn.ntmps-vs.toArray.size) undef,defers:=[]} w:=by
  refine⟨cH.mem,cH.frame,cH.apart,cH.one,?_,cH.objs,cH.own,cH.sep⟩;intro t;simp only[LN];by_cases aP:t<vs.length
  .have b5:t<(s.xi ls).length:=by rw[<-al];exact aP
   have ay:=xab b5;have aS:=xab aP;have aL:(s.xi ls).getD t .any=(s.xi ls)[t]:=by rw[xbb,ay];rfl
   have a7:(vs.toArray++Array.replicate (fn.ntmps-vs.toArray.size) undef).getD t undef=vs[t]:=by rw[xbg,xbq (by simpa using aP)];simp[aP]
   rw[aL,a7];exact qs t _ _ ay aS
  have aL:(s.xi ls).getD t .any= .any:=by rw[xbb,xaR (by omega)];rfl
  rw[aL];exact .any _
 have fg:fn.ntmps<=(vs.toArray++Array.replicate (fn.ntmps-vs.toArray.size) undef).size:=by simp;omega
 refine wp_mono (ZP hw m fr ρ _ w cY FA fg rfl) ?_;rintro e cI w' ⟨aZ,cz,c0,⟨g2,g3⟩,b9,cN,fP,il,k8⟩;have fin:(ab (rE X.T aZ fn.results.toList) λx=>tn X.ib ⟨[(0,s.res)],s.outs,p7⟩ ⟨λt=>if t=0 then x else .any,aZ.objs⟩ some)=some fc->cI.defers=[]/\∃v,(results fn cI.tmps).run P w'= .ok v w'/\∃v1 m1 nL,Ending.returned v= .returned v1/\m.le m1/\ve m1 fr nL (eN (s.p9 fc)) w'/\cb m1 nL (rL (eN (s.p9 fc))) (s.LA fc) v1/\∀k,10000<=k->eW (eN (s.ot ls) k)->nL k=ρ k:=by
  intro J;obtain⟨x,aa,ax⟩:=ek J;obtain⟨v,b0,bR⟩:=X6 (P:=P) bl cN aa;obtain⟨aBv,eM,eG,hF⟩:=Lv (σ:=⟨λt=>if t=0 then x else .any,aZ.objs⟩) g2 ax;cases hF;have amm:Den cz fr c0 ⟨λt=>if t=0 then x else .any,aZ.objs⟩ {tmps:= #[v],defers:=[]} w':=by
   refine⟨cN.mem,cN.frame,cN.apart,cN.one,?_,cN.objs,cN.own,cN.sep⟩;intro t;by_cases aP:t=0;.subst aP;exact bR
   simp only[aP,xaH];exact .any _
  obtain⟨m2,ly,t1,t2,t3⟩:=eM cz fr c0 _ w' amm;have amn:=t2.aO 0;refine⟨il,v,b0,v,m2,ly,rfl,Mem.le_trans b9 t1,⟨t2.mem,t2.frame,t2.apart,t2.one,λ_=> .any _,t2.objs,t2.own,t2.sep⟩,?_,?_⟩
  .exact amn
  intro k ah amo;obtain⟨dW,eh⟩:=k8 k ah amo;rw[(t3 k ah dW).2,eh]
 cases e with
 |normal=>exact fin g3|ret=>exact fin g3|exit id=>cases g3
 |goto l=>cases g3
 |panic c=>cases g3
 |outgrown=>cases g3
def amp{P:Program}{T:ch}{os:Nat->Option (List Nat)}{f:FuncId}{fn:Func}(bk:P.funcs[f]?=some fn)(bD:ox T os fn=true):wL P f:=by
 unfold ox at bD;split at bD
 case h_2=>cases bD
 rename_i c aj;simp only[xao,xaz,Bool.not_eq_true']at bD;exact⟨fn,bk,bD.2,by rw[aj];rfl⟩
def zr{P:Program}{G:dt}{s:gT}{F:List D->Option (List D)}(xm:wL P s.f)(h:∀ls,F ls=none):tu P G s F:=⟨xm,λls fc bC=>by rw[h]at bC;cases bC⟩
def fL:List (Tmp×Cu)->xk
 |[],_=>none|(t',e)::r,t=>if t=t' then some e else fL r t
def amq{P:Program}{G:dt}:kQ P G (fL []):=by intro t e h;cases h
def amr{P:Program}{G:dt}{t:Tmp}{e:Cu}{l:List (Tmp×Cu)}(h:tu P G e.s e.F)(bC:kQ P G (fL l)):kQ P G (fL ((t,e)::l)):=by
 intro t' du he;unfold fL at he;split at he;.cases he;exact h
 exact bC t' du he
def gK:List (Nat×List (List Key))->Nat->List (List Key)
 |[],_=>[]|(j,s)::r,k=>if k=j then s else gK r k
def gV(l:List Tmp)(t:Tmp):Bool:=l.contains t
def fM:List (FuncId×(List D->Option D))->lY
 |[],_,_,_=>none|(kJ,F)::r,d,f,aR=>if f=kJ then F aR else fM r d f aR
def tA(P:Program)(G:dt)(f:FuncId)(F:List D->Option D):Prop:=∀aR r,F aR=some r->fz P G f aR (·=r)
def ams{P:Program}{G:dt}:hy P G (fM []):=by intro d f aR r h;cases h
def amt{P:Program}{G:dt}{f:FuncId}{F:List D->Option D}{l:List (FuncId×(List D->Option D))}(h:tA P G f F)(bC:hy P G (fM l)):hy P G (fM ((f,F)::l)):=by
 intro d kJ aR r av;unfold fM at av;split at av;.rename_i e;subst e;exact h aR r av
 exact bC d kJ aR r av
def cO:List (Nat×rJ)->Nat->Option rJ
 |[],_=>none|(j,s)::r,k=>if k=j then some s else cO r k
def gL:List (Nat×List Nat)->Nat->Option (List Nat)
 |[],_=>none|(j,s)::r,k=>if k=j then some s else gL r k
def Gb(f:FuncId)(x:D):Bool:=match x with| .val (.func (.func kJ) a b)=>kJ==f&&a.size==0&&b.size==0|_=>false
def amu{f:FuncId}{x:D}(h:Gb f x=true):x= .val (.func (.func f) #[] #[]):=by
 unfold Gb at h;split at h;.rename_i kJ a b;simp only[xao,xbP]at h;obtain⟨⟨rfl,J⟩,aa⟩:=h;rw[xbm J,xbm aa]
 cases h
def k9(f:FuncId)(x:D):Option (List D):=match x with
 | .fn (.func kJ) first po=>if kJ=f/\first.isEmpty=true then some po else none
 |_=>none
def nT{f:FuncId}{x:D}{po:List D}(h:k9 f x=some po):x= .fn (.func f) [] po:=by
 unfold k9 at h;split at h
 .split at h;.rename_i ai;cases h;rw[ai.1,List.isEmpty_iff.1 ai.2]
  cases h
 cases h
def le_nil:jM (λk=>k) (λ_=>False) (List.map aX.d []) []:=trivial
def rO{x:D}{y:aX}{xs:List D}{c7:List aX}(h:p1 (λk=>k) (λ_=>False) (.d x) y)(bC:jM (λk=>k) (λ_=>False) (List.map aX.d xs) c7):jM (λk=>k) (λ_=>False) (List.map aX.d (x::xs)) (y::c7):=⟨h,bC⟩
def amv{x:D}:p1 (λk=>k) (λ_=>False) (.d x) (.d x):=⟨x,rfl,D.le_refl x⟩
theorem tB{c:List D}{o:Nat}:p1 (λk=>k) (λ_=>False) (.d (.ref c o)) (.ed c o):= .inr rfl
def aq(t:Nat):Nat×SW:=(t,.b .d)
def sp(t:Nat):Nat×SW:=(t,.b (.ptr t 0))
def cu(t k:Nat):Nat×SW:=(t,.b (.row k))
def bm(k n:Nat):Key×l0:=(k,.box (List.replicate n (.b .d)))
def bH(k n:Nat):Key×l0:=(k,.row n)
def amw(P:Program)(G:dt)(n:Nat)(c:List (FuncId×(List D->Option D)))(l j b:List (Nat×rJ)):nS:=⟨fF P,G,fM c,n,[],cO l,cO j,cO b,gL [],fL [],gV [],gK []⟩
def gr{P:Program}(X:nS)(bl:ee P X.T)(cn:hy P X.G X.C)(hH:kQ P X.G X.H)(hm:P.follows .mixedOrders=true){f:FuncId}{fn:Func}(bk:P.funcs[f]?=some fn){aR:List D}{as:List aX}(hle:jM (λk=>k) (λ_=>False) (aR.map .d) as) {o:Option D} {r:D} (h:o=some r) (mG:X.ib=[]:=by rfl) (bD:ox X.T X.qJ fn=true:=by kernel_rfl) (bJ:decide (aR.length<=fn.ntmps)=true:=by kernel_rfl) (he:vj X fn as=o:=by kernel_rfl):fz P X.G f aR (·=r):=ami X bl cn hH hm mG bk bD hle bJ (he.trans h)
def lC{P:Program}(X:nS)(bl:ee P X.T)(cn:hy P X.G X.C)(hH:kQ P X.G X.H)(hm:P.follows .mixedOrders=true){s:gT}{fn:Func}(bk:P.funcs[s.f]?=some fn)(p7:List xc){F:List D->Option (List D)}(bD:ox X.T X.qJ fn=true:=by kernel_rfl)(bJ:decide (s.args.length<=fn.ntmps)=true:=by kernel_rfl) (mG:(s.ins.all λp=>decide (p.1<10000)||X.ib.contains p.1)=true:=by kernel_rfl) (h:∀ls,RH X fn s p7 ls=F ls:=by intros;kernel_rfl):tu P X.G s F:=amk X bl cn hH hm bk bD bJ mG λls fc bC=>(h ls).trans bC
def cE{x:D}{xs:List D}{c7:List aX}(h:jM (λk=>k) (λ_=>False) (List.map aX.d xs) c7):jM (λk=>k) (λ_=>False) (List.map aX.d (x::xs)) (.d x::c7):=rO amv h
def CA(g:Option D):List D->Option D
 |[]=>g|_=>none
@[simp] theorem amx {g:Option D}:CA g []=g:=rfl
def Ch{P:Program}(X:nS)(bl:ee P X.T)(cn:hy P X.G X.C)(hH:kQ P X.G X.H)(hm:P.follows .mixedOrders=true){f:FuncId}{fn:Func}(bk:P.funcs[f]?=some fn){g:Option D}(mG:X.ib=[]:=by rfl)(bD:ox X.T X.qJ fn=true:=by kernel_rfl)(bJ:decide (0<=fn.ntmps)=true:=by kernel_rfl)(he:vj X fn []=g:=by intros;kernel_rfl):tA P X.G f (CA g):=by
 intro aR r h;unfold CA at h;split at h
 case h_2=>cases h
 exact gr X bl cn hH hm bk le_nil h mG bD bJ he
def ej(g:D->Option D):List D->Option D
 |[a0]=>g a0|_=>none
@[simp] theorem oy {g:D->Option D} {a0:D}:ej g [a0]=g a0:=rfl
def cS{P:Program}(X:nS)(bl:ee P X.T)(cn:hy P X.G X.C)(hH:kQ P X.G X.H)(hm:P.follows .mixedOrders=true){f:FuncId}{fn:Func}(bk:P.funcs[f]?=some fn){g:D->Option D}(mG:X.ib=[]:=by rfl)(bD:ox X.T X.qJ fn=true:=by kernel_rfl)(bJ:decide (1<=fn.ntmps)=true:=by kernel_rfl)(he:∀a0,vj X fn [.d a0]=g a0:=by intros;kernel_rfl):tA P X.G f (ej g):=by
 intro aR r h;unfold ej at h;split at h
 case h_2=>cases h
 exact gr X bl cn hH hm bk (cE le_nil) h mG bD bJ (he _)
def fC(g:D->D->Option D):List D->Option D
 |[a0,aK]=>g a0 aK|_=>none
@[simp] theorem zs {g:D->D->Option D} {a0 aK:D}:fC g [a0,aK]=g a0 aK:=rfl
def e2{P:Program}(X:nS)(bl:ee P X.T)(cn:hy P X.G X.C)(hH:kQ P X.G X.H)(hm:P.follows .mixedOrders=true){f:FuncId}{fn:Func}(bk:P.funcs[f]?=some fn){g:D->D->Option D}(mG:X.ib=[]:=by rfl)(bD:ox X.T X.qJ fn=true:=by kernel_rfl)(bJ:decide (2<=fn.ntmps)=true:=by kernel_rfl)(he:∀a0 aK,vj X fn [.d a0,.d aK]=g a0 aK:=by intros;kernel_rfl):tA P X.G f (fC g):=by
 intro aR r h;unfold fC at h;split at h
 case h_2=>cases h
 exact gr X bl cn hH hm bk (cE (cE le_nil)) h mG bD bJ (he _ _)
def lD(g:D->D->D->Option D):List D->Option D
 |[a0,aK,a2]=>g a0 aK a2|_=>none
@[simp] theorem amy {g:D->D->D->Option D} {a0 aK a2:D}:lD g [a0,aK,a2]=g a0 aK a2:=rfl
def lE{P:Program}(X:nS)(bl:ee P X.T)(cn:hy P X.G X.C)(hH:kQ P X.G X.H)(hm:P.follows .mixedOrders=true){f:FuncId}{fn:Func}(bk:P.funcs[f]?=some fn){g:D->D->D->Option D}(mG:X.ib=[]:=by rfl)(bD:ox X.T X.qJ fn=true:=by kernel_rfl)(bJ:decide (3<=fn.ntmps)=true:=by kernel_rfl)(he:∀a0 aK a2,vj X fn [.d a0,.d aK,.d a2]=g a0 aK a2:=by intros;kernel_rfl):tA P X.G f (lD g):=by
 intro aR r h;unfold lD at h;split at h
 case h_2=>cases h
 exact gr X bl cn hH hm bk (cE (cE (cE le_nil))) h mG bD bJ (he _ _ _)
def xn(g:D->D->D->D->Option D):List D->Option D
 |[a0,aK,a2,a3]=>g a0 aK a2 a3|_=>none
@[simp] theorem amz {g:D->D->D->D->Option D} {a0 aK a2 a3:D}:xn g [a0,aK,a2,a3]=g a0 aK a2 a3:=rfl
def RI{P:Program}(X:nS)(bl:ee P X.T)(cn:hy P X.G X.C)(hH:kQ P X.G X.H)(hm:P.follows .mixedOrders=true){f:FuncId}{fn:Func}(bk:P.funcs[f]?=some fn){g:D->D->D->D->Option D}(mG:X.ib=[]:=by rfl)(bD:ox X.T X.qJ fn=true:=by kernel_rfl)(bJ:decide (4<=fn.ntmps)=true:=by kernel_rfl)(he:∀a0 aK a2 a3,vj X fn [.d a0,.d aK,.d a2,.d a3]=g a0 aK a2 a3:=by intros;kernel_rfl):tA P X.G f (xn g):=by
 intro aR r h;unfold xn at h;split at h
 case h_2=>cases h
 exact gr X bl cn hH hm bk (cE (cE (cE (cE le_nil)))) h mG bD bJ (he _ _ _ _)
def LO(g:D->D->D->D->D->Option D):List D->Option D
 |[a0,aK,a2,a3,a4]=>g a0 aK a2 a3 a4|_=>none
@[simp] theorem amA {g:D->D->D->D->D->Option D} {a0 aK a2 a3 a4:D}:LO g [a0,aK,a2,a3,a4]=g a0 aK a2 a3 a4:=rfl
def amB{P:Program}(X:nS)(bl:ee P X.T)(cn:hy P X.G X.C)(hH:kQ P X.G X.H)(hm:P.follows .mixedOrders=true){f:FuncId}{fn:Func}(bk:P.funcs[f]?=some fn){g:D->D->D->D->D->Option D}(mG:X.ib=[]:=by rfl)(bD:ox X.T X.qJ fn=true:=by kernel_rfl)(bJ:decide (5<=fn.ntmps)=true:=by kernel_rfl)(he:∀a0 aK a2 a3 a4,vj X fn [.d a0,.d aK,.d a2,.d a3,.d a4]=g a0 aK a2 a3 a4:=by intros;kernel_rfl):tA P X.G f (LO g):=by
 intro aR r h;unfold LO at h;split at h
 case h_2=>cases h
 exact gr X bl cn hH hm bk (cE (cE (cE (cE (cE le_nil))))) h mG bD bJ (he _ _ _ _ _)
def amC(g:D->D->D->D->D->D->Option D):List D->Option D
 |[a0,aK,a2,a3,a4,a5]=>g a0 aK a2 a3 a4 a5|_=>none
@[simp] theorem amD {g:D->D->D->D->D->D->Option D} {a0 aK a2 a3 a4 a5:D}:amC g [a0,aK,a2,a3,a4,a5]=g a0 aK a2 a3 a4 a5:=rfl
def amE(g:D->D->D->D->D->D->D->Option D):List D->Option D
 |[a0,aK,a2,a3,a4,a5,jB]=>g a0 aK a2 a3 a4 a5 jB|_=>none
@[simp] theorem aBw {g:D->D->D->D->D->D->D->Option D} {a0 aK a2 a3 a4 a5 jB:D}:amE g [a0,aK,a2,a3,a4,a5,jB]=g a0 aK a2 a3 a4 a5 jB:=rfl
def zt{P:Program}{T:ch}{os:Nat->Option (List Nat)}{f:FuncId}{fn:Func}(h:P.funcs[f]?=some fn)(bD:ox T os fn=true:=by kernel_rfl):wL P f:=amp h bD
section
variable{β:Type}
abbrev dO(x:D)(m:Option D)(k:D->Option β):Option β:=ab (dL x true m) λv=>ab (gp x v (aI false)) k
abbrev dM(x:D)(m:Option D)(k:D->Option β):Option β:=ab (dL x false m) λv=>ab (gp x (aI true) v) k
abbrev bI(m:Option D):Option D:=ab m λv=>some v
abbrev aw(o:BinOp)(a b:D)(k:D->Option β):Option β:=ab (bB false o a b) k
abbrev dc(a b:D)(k:D->Option β):Option β:=ab (bX 1 a b) λc=>ab (bN false 1 0 c) k
abbrev dB(x:D)(j:Nat)(k:D->Option β):Option β:=ab ((ba x)[j]?) λc=>ab (bN false 1 0 c) k
abbrev b3(x:D)(k:D->Option β):Option β:=ab (fA x) k
abbrev bs(n:Nat)(x:D)(k:Option β):Option β:=bu (dV n x) k
abbrev aF(l:List D):Option (List D⊕β):=some (.inl l)
abbrev bg(x:D):D:= .aV 1 (ba x)
abbrev eP(x:D):D:= .agg [ae x 0,ae x 1,ae x 2,ae x 3]
abbrev hG(x:D):D:= .agg [ae x 0,ae x 1,ae x 2,ae x 3,ae x 4,ae x 5,ae x 6,ae x 7]
end
attribute [simp, go_sem] dO dM bI aw dc dB b3 bs aF bg eP hG
attribute [go_sem] amx oy zs amy amz amA amD
@[congr] def aBx {α β:Type} {x y:Option α} {f:α->Option β} (h:x=y):ab x f=ab y f:=by rw[h]
@[simp] theorem dT {α β:Type} {a:α} {f:α->Option β}:ab (some a) f=f a:=rfl
@[simp] theorem aBy {α β:Type} {f:α->Option β}:ab (none:Option α) f=none:=rfl
@[congr] def aBz {β:Type} {c d:Bool} {p:Option β} (h:c=d):bu c p=bu d p:=by rw[h]
@[simp] theorem qK {β:Type} {p:Option β}:bu true p=p:=rfl
@[simp] theorem aBA {β:Type} {p:Option β}:bu false p=none:=rfl
@[congr] def aBB {β:Type} {x y:D} {p q:Option β} (h:x=y):aJ x p q=aJ y p q:=by rw[h]
@[simp] theorem l2 {β:Type} {b:Bool} {p q:Option β}:aJ (aI b) p q=if b=true then p else q:=by cases b<;>rfl
@[congr] def aBC {x y:D} {w:Bool} {p:Option D} (h:x=y):dL x w p=dL y w p:=by rw[h]
@[simp] theorem vk {b w:Bool} {p:Option D}:dL (aI b) w p=if b=w then p else some kl:=rfl
@[simp] theorem aBD {eO:Type} {b w:Bool} {p q:Option eO}:za (aI b) w p q=if b=w then p else q:=rfl
@[simp] theorem aBE {eO:Type} {w:Bool} {p q:Option eO}:za kl w p q=q:=rfl
@[simp] theorem aBF {w:Bool} {p:Option D}:dL kl w p=some kl:=rfl
@[simp] theorem vl {t:Bool} {a b:D}:gp (aI t) a b=some (if t=true then a else b):=rfl
@[simp] theorem ZR {c:Prop} [Decidable c] {a b:Bool}:(if c then aI a else aI b)=aI (if c then a else b):=by split<;>rfl
@[simp] theorem RJ {α:Type} {c:Prop} [Decidable c] {a b:α}:(if c then some a else some b)=some (if c then a else b):=by split<;>rfl
@[simp] theorem aBG {α:Type} {c:Prop} [Decidable c] {a b d:α}:(if c then(if c then a else b)else d)=if c then a else d:=by split<;>simp_all
@[simp] theorem RK {β:Type} {b:β}:bd (some b)=some (.inr b):=rfl
@[simp] theorem aBH {β:Type}:bd (none:Option β)=none:=rfl
@[simp] theorem qL {β:Type} {f:List D->Option β} {ls:List D}:bo f (.inl ls)=f ls:=rfl
@[simp] theorem Gc {β:Type} {f:List D->Option β} {b:β}:bo f (.inr b)=some b:=rfl
@[simp] theorem qb {x:D} {l:List D}:bb (x::l) 0=x:=rfl
@[simp] theorem rP {x:D} {l:List D} {n:Nat}:bb (x::l) (n+1)=bb l n:=rfl
@[simp] theorem amF {k:Nat} {es:List (List D)}:ba (.aV k es)=es:=rfl
@[simp] theorem amG {es:List (Value×D)}:gR (.mp es)=es:=rfl
@[simp] theorem amH {cs:List D}:lA (.agg cs)=cs:=rfl
@[simp] theorem aBI {cs:List D} {i:Nat}:ae (.agg cs) i=cs.getD i kl:=rfl
@[simp] theorem RL {n:Int}:bZ (I n)=true:=rfl
@[simp] theorem amI {n:Bool}:bZ (aI n)=true:=rfl
@[simp] theorem amJ {n:ByteArray}:bZ (a1 n)=true:=rfl
@[simp] theorem amK {k:Nat} {es:List (List D)}:bZ (.aV k es)=true:=rfl
@[simp] theorem aBJ {es:List (Value×D)}:bZ (.mp es)=true:=rfl
@[simp] theorem amL:bZ (.val (.slice none 0 0))=true:=rfl
@[simp] theorem amM {n:Int}:(I n).one=true:=rfl
@[simp] theorem amN {n:Bool}:(aI n).one=true:=rfl
@[simp] theorem amO {n:ByteArray}:(a1 n).one=true:=rfl
@[simp] theorem amP {k:Nat} {es:List (List D)}:(D.aV k es).one=true:=rfl
@[simp] theorem amQ:(D.val (.slice none 0 0)).one=true:=rfl
@[simp] theorem aBK {n:Nat} {cs:List D}:dV n (.agg cs)=(cs.length==n&&cs.all D.one):=rfl
@[simp] theorem aBL:ng (.val (.slice none 0 0))=true:=rfl
@[simp] theorem iY {n off:Nat} {cs:List D}:bN false n off cs=cs[off]?:=rfl
theorem zu{n off:Nat}{cs:List D}:bN true n off cs=if off+n<=cs.length then some (.agg ((cs.drop off).take n))else none:=rfl
@[simp] theorem ZS {a:Bool} {n off:Nat} {cs:List D}:mB a n off (.agg cs)=bN a n off cs:=rfl
@[simp] theorem RM {i:Nat} {vs:List D}:bx i (.a6 vs)=vs[i]?:=rfl
@[simp] theorem amR {k:Nat} {es:List (List D)}:fA (.aV k es)=some (I es.length):=rfl
@[simp] theorem amS:fA (.val (.slice none 0 0))=some (I 0):=rfl
@[simp] theorem RN {s:ByteArray}:p4 (a1 s)=some (I s.size):=rfl
@[simp] theorem ZT {k:Nat} {es:List (List D)} {i:Nat}:bX k (.aV k es) (I (i:Int))=es[i]?:=by simp[bX,I]
@[simp] theorem aBM {k:Nat} {es:List (List D)}:bX k (.aV k es) (I 0)=es[0]?:=by simp[bX,I]
def RO{n:Nat}{i:Int}(h:0<=i)(bC:i<n):cL n (I i)=some i.toNat:=by simp[cL,I,h,bC]
@[simp] theorem jZ {n i:Nat}:cL n (I (i:Int))=if i<n then some i else none:=by simp[cL,I]
@[simp] theorem amT {k:Nat} {es:List (List D)}:qG (.aV k es)=some (k,es):=rfl
@[simp] theorem aBN:qG (.val (.slice none 0 0))=some (0,[]):=rfl
def fV{n b:Nat}(J:n*b<=140737488355328)(aa:n<=4611686018427387904):cZ n b=true:=by simp[cZ,J,aa]
section
variable{bt:Bool}{a b:Int}
@[simp] theorem Gd:bB bt .lss (I a) (I b)=some (aI (decide (a<b))):=rfl
@[simp] theorem LP:bB bt .leq (I a) (I b)=some (aI (decide (a<=b))):=rfl
@[simp] theorem px:bB bt .gtr (I a) (I b)=some (aI (decide (a>b))):=rfl
@[simp] theorem CB:bB bt .geq (I a) (I b)=some (aI (decide (a>=b))):=rfl
@[simp] theorem CC:bB bt .eql (I a) (I b)=some (aI (a==b)):=rfl
@[simp] theorem zv:bB bt .neq (I a) (I b)=some (aI (a !=b)):=rfl
theorem LQ:bB bt .add (I a) (I b)=some (I (IntKind.i64.wrap (a+b))):=rfl
theorem RP:bB bt .sub (I a) (I b)=some (I (IntKind.i64.wrap (a-b))):=rfl
theorem amU:bB bt .mul (I a) (I b)=some (I (IntKind.i64.wrap (a*b))):=rfl
def e5(J:-9223372036854775808<=a+b)(aa:a+b<=9223372036854775807):bB bt .add (I a) (I b)=some (I (a+b)):=by rw[LQ,wrap64 _ J aa]
def nU(J:-9223372036854775808<=a-b)(aa:a-b<=9223372036854775807):bB bt .sub (I a) (I b)=some (I (a-b)):=by rw[RP,wrap64 _ J aa]
def xo(J:-9223372036854775808<=a*b)(aa:a*b<=9223372036854775807):bB bt .mul (I a) (I b)=some (I (a*b)):=by rw[amU,wrap64 _ J aa]
def ZU(h:b≠0):bB bt .quo (I a) (I b)=some (I (IntKind.i64.wrap (a.tdiv b))):=by simp[bB,EY,I,h,pk]
def Ge(h:b≠0):bB bt .rem (I a) (I b)=some (I (a.tmod b)):=by simp[bB,EY,I,h,pk]
@[simp] theorem RQ {x y:ByteArray}:bB bt .eql (a1 x) (a1 y)=some (aI (decide (x=y))):=rfl
@[simp] theorem ZV {x y:ByteArray}:bB bt .neq (a1 x) (a1 y)=some (aI (!decide (x=y))):=rfl
@[simp] theorem amV {x y:ByteArray}:bB bt .lss (a1 x) (a1 y)=some (aI (blt x y)):=rfl
@[simp] theorem RR {x y:ByteArray}:bB bt .gtr (a1 x) (a1 y)=some (aI (!(blt x y||decide (x=y)))):=rfl
@[simp] theorem aBO {x y:Bool}:bB true .eql (aI x) (aI y)=some (aI (x==y)):=rfl
@[simp] theorem RS {x y:Bool}:bB true .neq (aI x) (aI y)=some (aI (x !=y)):=rfl
@[simp] theorem CD {x:Bool}:dv .not (aI x)=some (aI (!x)):=rfl
end
attribute [simp] xbA xcn List.getElem?_nil List.getD_cons_zero List.getD_cons_succ
theorem la{β:Type}{f:List D->Option (List D⊕β)}{n:Nat}{ls:List D}:bL f (n+1) ls=ab (f ls) λx=>match x with| .inl fc=>bL f n fc| .inr b=>some b:=rfl
def ZW{β:Type}{f:List D->Option (List D⊕β)}(fa:Nat->List D):∀{m n j:Nat},(∀i,j<=i->i<j+m->f (fa i)=some (.inl (fa (i+1))))->m<=n->bL f n (fa j)=bL f (n-m) (fa (j+m))
 |0,n,j,_,_=>rfl|m+1,0,j,_,h=>absurd h (by omega)
 |m+1,n+1,j,aC,h=>by
  rw[la,aC j (xaT j) (by omega)];simp only[dT];have:=ZW (f:=f) fa (m:=m) (n:=n) (j:=j+1) (λi J aa=>aC i (by omega) (by omega)) (by omega);rw[this]
  congr 1
  .omega
  congr 1;omega
theorem mH{β:Type}{f:List D->Option (List D⊕β)}{ls:List D}{n:Nat}{b:β}(fa:Nat->List D)(m:Nat)(au:ls=fa 0)(aC:∀i,i<m->f (fa i)=some (.inl (fa (i+1))))(he:f (fa m)=some (.inr b))(aN:m<n):bL f n ls=some b:=by subst au;rw[ZW fa (m:=m) (λi _ h=>aC i (by omega)) (by omega)];obtain⟨k,ah⟩:∃k,n-m=k+1:=⟨n-m-1,by omega⟩;rw[ah,la,xay,he];rfl
end Go.Am
