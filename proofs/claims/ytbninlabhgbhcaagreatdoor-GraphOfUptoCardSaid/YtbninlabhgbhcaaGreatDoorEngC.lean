/- An evaluator of code over such values, and that what it answers the code does. No condition. -/
import Derived.Test.YtbninlabhgbhcaaGreatDoorEngS
import Derived.KernelRfl
set_option linter.all false
set_option linter.unnecessarySimpa false
namespace Go.Am
def J{α β:Type}(x:Option α)(f:α->Option β):Option β:=match x with|some a=>f a|none=>none
def e5{α β:Type}{x:Option α}{f:α->Option β}{b:β}(h:J x f=some b):∃a,x=some a/\f a=some b:=by
 cases x with
 |none=>cases h
 |some a=>exact⟨a,rfl,h⟩
def aD{β:Type}(c:Bool)(p:Option β):Option β:=match c with|true=>p|false=>none
def k3{β:Type}{c:Bool}{p:Option β}{b:β}(h:aD c p=some b):c=true/\p=some b:=by
 cases c with
 |false=>cases h
 |true=>exact⟨rfl,h⟩
def aC{β:Type}(x:D)(p q:Option β):Option β:=match x with| .val (.bool true)=>p| .val (.bool false)=>q|_=>none
def Yb{β:Type}{x:D}{p q:Option β}{b:β}(h:aC x p q=some b):(x= .val (.bool true)/\p=some b)\/(x= .val (.bool false)/\q=some b):=by
 unfold aC at h;split at h;.exact .inl ⟨rfl,h⟩
 .exact .inr ⟨rfl,h⟩
 cases h
def j6:D:= .val (.tuple #[])
def nK:Option aS->Option D
 |some (.d r)=>some r|_=>none
def yN{x:Option aS}{r:D}(h:nK x=some r):x=some (.d r):=by
 unfold nK at h;split at h;.cases h;rfl
 cases h
def k4:D->List D
 | .agg cs=>cs|_=>[]
def ab(x:D)(i:Nat):D:=(k4 x).getD i j6
def af:D->List (List D)
 | .ak _ es=>es|_=>[]
def gF:D->List (Value×D)
 | .mp es=>es|_=>[]
def bm(x:D):Bool:=x.one
def a6(n:Nat)(x:D):Bool:=match x with| .agg cs=>cs.length==n&&cs.all D.one|_=>false
def ma(x:D):Bool:=match x with| .val (.slice none 0 0)=>true|_=>false
def aj8{n:Nat}{x:D}(h:a6 n x=true):∃cs,x= .agg cs/\cs.length=n/\cs.all D.one=true:=by
 unfold a6 at h;split at h;.rename_i cs;rw[xak,xbF]at h;exact⟨cs,rfl,h.1,h.2⟩
 cases h
def aj9{n:Nat}{cs:List D}(h:cs.length=n):((List.range n).map λi=>aS.d (ab (.agg cs) i))=cs.map .d:=by
 apply xbX;intro i;simp only[xai];by_cases aj:i<n;.rw[xbS aj,xab (by omega)];simp[ab,k4,xbd,h,aj]
 rw[xaZ (by simp;omega),xaZ (by omega)];rfl
def ag(bt:Bool)(op:BinOp)(x y:D):Option D:=match x,y with
 | .val (.int k a),.val (.int br b)=>nK (match op with
  | .shl=>if b<0 then none else some (.d (.val (.int k (k.wrap (a*2^(min b.toNat k.bits))))))
  | .shr=>if b<0 then none else some (.d (.val (.int k (a.fdiv (2^(min b.toNat k.bits))))))
  |_=>if k=br then Bp op k a b else none)
 | .val (.string a),.val (.string b)=>nK (OG op a b)| .val (.bool a),.val (.bool b)=>if bt then nK (OH op a b)else none
 |_,_=>none
def aka{T:cd}{t:TypeId}{op:BinOp}{x y r:D}(h:ag (Eh T t) op x y=some r):wa T op t (.d x) (.d y)=some (.d r):=by
 unfold ag at h;unfold wa;split at h;.have:=yN h;cases op<;>exact this
 .exact yN h
 .split at h;.rename_i ao;simp only[ao,xav];exact yN h
  cases h
 cases h
def PH(l:List TypeDesc)(op:BinOp)(x y:D):Option D:=match x,y with| .agg xs,.agg cY=>nK (OI op l xs cY)|_,_=>none
def akb{T:cd}{t:TypeId}{op:BinOp}{x y r:D}{l:List TypeDesc}(aq:T.eqs t=some l)(h:PH l op x y=some r):wa T op t (.d x) (.d y)=some (.d r):=by
 unfold PH at h;split at h;.unfold wa;simp only[aq];exact yN h
 cases h
def KA(op:BinOp)(x y:D):Option D:=match op with
 | .eql=>if ma y then(match x with| .val (.slice none _ _)=>some (.val (.bool true))| .ak _ (_::_)=>some (.val (.bool false))|_=>none)else none
 | .neq=>if ma y then(match x with| .val (.slice none _ _)=>some (.val (.bool false))| .ak _ (_::_)=>some (.val (.bool true))|_=>none)else none
 |_=>none
def c1(op:UnOp)(x:D):Option D:=match op,x with| .not,.val (.bool b)=>some (.val (.bool !b))| .neg,.val (.int k n)=>some (.val (.int k (k.wrap (0-n))))|_,_=>none
def ix(k:IntKind)(x:D):Option D:=match x with| .val (.int _ n)=>some (.val (.int k (k.wrap n)))|_=>none
def Yc(x:D):Option D:=match x with| .val (.string b)=>some (.val (.string b))|_=>none
def wP(es:List (List D)):Option D:=match ss es with|some fS=>some (.val (.string (JJ fS)))|none=>none
def Yd(x:D):Option D:=match x with| .ak 1 es=>wP es| .val (.slice none 0 _)=>wP []|_=>none
def bT(c a b:D):Option D:=match c with
 | .val (.bool t)=>some (if t then a else b)
 |_=>none
def aQ(agg:Bool)(n off:Nat)(cs:List D):Option D:=match agg with
 |true=>if off+n<=cs.length then some (.agg ((cs.drop off).take n))else none
 |false=>cs[off]?
def mb(agg:Bool)(n off:Nat)(x:D):Option D:=match x with| .agg cs=>aQ agg n off cs|_=>none
def bf(i:Nat)(x:D):Option D:=match x with| .aR vs=>vs[i]?|_=>none
def qk(s i:D):Option D:=match s,i with| .val (.string s),.val (.int _ n)=>nK (JI s n)|_,_=>none
def re(x:Option D)(ON:Nat):Option Nat:=match x with
 |none=>some ON|some (.val (.int _ n))=>if 0<=n then some n.toNat else none
 |_=>none
theorem KB(x:Option D)(d:Nat):p6 (x.map .d) d=re x d:=by cases x with|none=>rfl|some x=>cases x<;>first|rfl|(rename_i v;cases v<;>rfl)
def Ye(s:D)(lo aj:Option D):Option D:=match s with
 | .val (.string s)=>match re aj s.size,re lo 0 with
  |some h,some l=>if l<=h/\h<=s.size then some (.val (.string (s.extract l h)))else none
  |_,_=>none
 |_=>none
def mc(k:Nat)(x:D)(lo aj:Option D):Option D:=match x with
 | .ak br es=>match re aj es.length,re lo 0 with
  |some h,some l=>if l<=h/\h<=es.length/\br=k then some (.ak br ((es.drop l).take (h-l)))else none
  |_,_=>none
 |_=>none
def m7(n:Nat)(lo aj:Option D):Option (Nat×Nat):=match re aj n,re lo 0 with
 |some h,some l=>if l<=h/\h<=n then some (l,h-l)else none
 |_,_=>none
def px(x:D):Option D:=match x with| .val (.string s)=>some (.val (.int .i64 s.size))|_=>none
def bJ(x:D):Option D:=match x with| .ak _ es=>some (.val (.int .i64 es.length))| .val (.slice _ n _)=>some (.val (.int .i64 n))|_=>none
def Yf(x:D):Option D:=match x with| .val (.map none)=>some (.val (.int .i64 0))| .mp es=>some (.val (.int .i64 es.length))|_=>none
def bh(k:Nat)(x i:D):Option (List D):=match i with
 | .val (.int _ n)=>if 0<=n then(match x with
  | .ak br es=>if br=k then es[n.toNat]? else none
  |_=>none)else none
 |_=>none
def bj(n:Nat)(i:D):Option Nat:=match i with
 | .val (.int _ j)=>if 0<=j/\j<n then some j.toNat else none
 |_=>none
def ql(x:D):Option (Nat×List (List D)):=match x with| .ak k es=>some (k,es)| .val (.slice none 0 _)=>some (0,[])|_=>none
def kq(fR:Bool)(l:List D):Option D:=nK (qT fR (l.map .d))
def cW(n bytes:Nat):Bool:=decide (n*bytes<=140737488355328)&&decide (n<=4611686018427387904)
def nL(bytes:Nat)(l c:D):Option Nat:=match l,c with
 | .val (.int _ l),.val (.int _ c)=>if 0<=l/\l<=c/\(bytes:Int)*c<=281474976710656/\c<=9223372036854775807 then some l.toNat else none
 |_,_=>none
def kr(kind:TypeDesc)(zero:Value)(ok:Bool)(es:List (Value×D))(k:D):Option D:=match k with
 | .val e3=>match findD kind e3 es with
  |some (some x)=>some (if ok then .aR [x,.val (.bool true)]else x)
  |some none=>some (if ok then .aR [qV zero,.val (.bool false)]else qV zero)
  |none=>none
 |_=>none
def mH(x:D):Option (List (Value×D)):=match x with| .val (.map none)=>some []| .mp es=>some es|_=>none
def rf(kind:TypeDesc)(es:List (Value×D))(k x:D):Option (List (Value×D)):=match k with| .val e3=>qW kind e3 x es|_=>none
section
variable{β:Type}
def EZ:List aS->Option β->Option β
 |[],p=>p| .d a::r,p=>aD (bm a) (EZ r p)|x::r,p=>if x.one=true then EZ r p else none
def PI{p:Option β}{b:β}:∀{cs:List aS},EZ cs p=some b->cs.all aS.one=true/\p=some b
 |[],h=>⟨rfl,h⟩
 |x::r,h=>by
  unfold EZ at h;split at h;.rename_i e;cases e
  .rename_i a uc oC e;cases e;obtain⟨aa,ae⟩:=k3 h;obtain⟨ay,a7⟩:=PI ae;exact⟨by rw[xaV,ay,xbl];exact aa,a7⟩
  rename_i e;cases e;split at h;.rename_i ah;obtain⟨ay,a7⟩:=PI h;exact⟨by rw[xaV,ay,xbl];exact ah,a7⟩
  cases h
def BX(n:Nat)(x:aS)(k:List aS->Option β):Option β:=match x with
 | .d a=>match n with|1=>aD (bm a) (k [.d a])|_=>aD (a6 n a) (k ((List.range n).map λi=> .d (ab a i)))
 | .agg cs=>EZ cs (k cs)|x=>match cellsOf x with|some cs=>k cs|none=>none
def KC{n:Nat}{x:aS}{k:List aS->Option β}{b:β}(h:BX n x k=some b):∃cs,cellsOf x=some cs/\k cs=some b:=by
 unfold BX at h;split at h
 .rename_i a;split at h
  .obtain⟨aa,ae⟩:=k3 h;refine⟨_,?_,ae⟩;unfold bm at aa;unfold cellsOf;split;.rename_i he;cases he;cases aa
   .rename_i he;cases he
   rw[xaa (show aS.one (.d a)=true from aa)]
  obtain⟨aa,ae⟩:=k3 h;obtain⟨cs,rfl,aP,a2⟩:=aj8 aa;rw[aj9 aP]at ae;exact⟨_,by simp only[cellsOf,a2,xav],ae⟩
 .obtain⟨aa,ae⟩:=PI h;exact⟨_,by simp only[cellsOf,aa,xav],ae⟩
 split at h;.rename_i cs hr;exact⟨cs,hr,h⟩
 cases h
def KD(place:Nat->Option (Nat×Nat))(cells:List aS):List (Nat×aS)->(List aS->Option β)->Option β
 |[],k=>k cells|(i,x)::rest,k=>match place i with|none=>none|some (off,size)=>BX size x λcs=>if cs.length=size/\off+cs.length<=cells.length then KD place (ny cells off cs) rest k else none
def Yg{place:Nat->Option (Nat×Nat)}:∀{parts:List (Nat×aS)} {cells:List aS} {k:List aS->Option β} {b:β},KD place cells parts k=some b->∃cs,yg place cells parts=some cs/\k cs=some b
 |[],cells,k,b,h=>⟨cells,rfl,h⟩
 |(i,x)::rest,cells,k,b,h=>by
  unfold KD at h;split at h;.cases h
  rename_i off size a1;obtain⟨cs,aa,ae⟩:=KC h;split at ae
  case isFalse=>cases ae
  rename_i an;obtain⟨out,ay,a7⟩:=Yg ae;exact⟨out,by unfold yg;simp only[a1,aa];rw[xaa an];exact ay,a7⟩
def KE(size:Nat)(n:Nat):List (Nat×aS)->(List (List D)->Option β)->Option β
 |[],k=>k []
 |(i,x)::r,k=>if i=n then BX size x λcs=>match kX cs with
   |some aO=>if aO.length=size then KE size (n+1) r λl=>k (aO::l)else none
   |none=>none
  else none
def Yh{size:Nat}:∀{parts:List (Nat×aS)} {n:Nat} {k:List (List D)->Option β} {b:β},KE size n parts k=some b->∃es,wg size n parts=some es/\k es=some b
 |[],n,k,b,h=>⟨[],rfl,h⟩
 |(i,x)::r,n,k,b,h=>by
  unfold KE at h;split at h
  case isFalse=>cases h
  rename_i aj;obtain⟨cs,aa,ae⟩:=KC h;split at ae
  case h_2=>cases ae
  rename_i aO eF;split at ae
  case isFalse=>cases ae
  rename_i aq;obtain⟨es,ay,a7⟩:=Yh ae;exact⟨aO::es,by unfold wg;simp only[aj,xav,aa,eF,ay,aq],a7⟩
end
section
variable{β:Type}
def oM(T:cd)(G:df)(σ:aF)(o:Oper)(k:aF->Option β):Option β:=match gL T G σ o with|some aX=>k aX|none=>none
def jP(σ:aF)(dst:Option Tmp)(k:aF->Option β)(p:Option D):Option β:=J p λv=>k (σ.put dst (.d v))
def mI(T:cd)(σ:aF)(dst:Option Tmp)(k:aF->Option β)(r:aS)(cz:List (Key×cP)):Option β:=match q0 (T.born (dst.getD 9999)) (dst.getD 9999) (r,cz)with|(r,cz)=>k (aF.put ⟨σ.aH,dz σ.objs cz⟩ dst r)
def KF:Option aS->Option (Option D)
 |none=>some none|some (.d a)=>some (some a)|_=>none
theorem Yi{x:Option aS}{y:Option D}(h:KF x=some y):x=y.map .d:=by unfold KF at h;split at h<;>cases h<;>rfl
def Yj(T:cd)(t:TypeId):Bool:=match T t with|some ⟨.slice _,_,_,_⟩=>true|_=>false
def PJ(T:cd)(G:df)(σ:aF)(o:Oper)(op:BinOp)(t:TypeId)(x y:Operand)(k:aF->Option β):Option β:=match b7 G σ.aH x,b7 G σ.aH y with
 | .d a,.d b=>match Yj T t with|true=>jP σ o.dst k (KA op a b)|false=>match T.eqs t with|some l=>jP σ o.dst k (PH l op a b)|none=>jP σ o.dst k (ag (Eh T t) op a b)
 |_,_=>oM T G σ o k
def PK(T:cd)(G:df)(σ:aF)(o:Oper)(s:TypeId)(x:Operand)(f:Nat)(k:aF->Option β):Option β:=match El T s f with
 |some (off,i)=>match b7 G σ.aH x with| .d a=>jP σ o.dst k (mb (ua i.desc) i.size off a)|_=>oM T G σ o k
 |none=>none
def PL(T:cd)(G:df)(σ:aF)(o:Oper)(t:TypeId)(a:Operand)(k:aF->Option β):Option β:=match T t with
 |some i=>match b7 G σ.aH a with
  | .dV cs off=>jP σ o.dst k (aQ (ua i.desc) i.size off cs)
  | .gp key cN fg off=>match σ.objs key with
   |some (.row br es)=>if cN=br then J es[fg]? λe=>jP σ o.dst k (aQ (ua i.desc) i.size off e)else none
   |_=>none
  |_=>oM T G σ o k
 |none=>none
def PM(T:cd)(G:df)(σ:aF)(o:Oper)(t:TypeId)(x fg:Operand)(k:aF->Option β):Option β:=match T t with
 |some ⟨.slice e,_,_,_⟩=>match T e with
  |some bg=>match b7 G σ.aH fg with
   | .d i=>match b7 G σ.aH x with
    | .d a=>J (bh bg.size a i) λc=>k (σ.put o.dst (.dV c 0))
    | .row key=>match σ.objs key with
     |some (.row br es)=>if br=bg.size then J (bj es.length i) λn=>k (σ.put o.dst (.gp key br n 0))else none
     |_=>none
    | .sub key br i0 len=>if br=bg.size then J (bj len i) λn=>k (σ.put o.dst (.gp key br (i0+n) 0))else none
    |_=>none
   |_=>none
  |none=>none
 |some ⟨.array len e,_,_,_⟩=>match T e with
  |some bg=>match b7 G σ.aH fg with
   | .d i=>J (bj len i) λn=>match Em (b7 G σ.aH x) (n*bg.size)with|some r=>k (σ.put o.dst r)|none=>none
   |_=>none
  |none=>none
 |_=>none
def PN(T:cd)(G:df)(σ:aF)(o:Oper)(t:TypeId)(x:Operand)(lo aj:Option Operand)(k:aF->Option β):Option β:=match KF (lo.map (b7 G σ.aH)),KF (aj.map (b7 G σ.aH))with
 |some l,some h=>match T t with
  |some ⟨.string,_,_,_⟩=>match b7 G σ.aH x with| .d a=>jP σ o.dst k (Ye a l h)|_=>none
  |some ⟨.slice e,_,_,_⟩=>match T e with
   |some bg=>match b7 G σ.aH x with
    | .d a=>jP σ o.dst k (mc bg.size a l h)
    | .row key=>match σ.objs key with
     |some (.row br es)=>if br=bg.size then J (m7 es.length l h) λp=>k (σ.put o.dst (.sub key br p.1 p.2))else none
     |_=>none
    | .sub key br i0 len=>if br=bg.size then J (m7 len l h) λp=>k (σ.put o.dst (.sub key br (i0+p.1) p.2))else none
    |_=>none
   |none=>none
  |_=>oM T G σ o k
 |_,_=>none
def PO(T:cd)(G:df)(σ:aF)(o:Oper)(args:List Operand)(dA:List TypeId)(k:aF->Option β):Option β:=match dA,args with
 |[t],[x]=>match b7 G σ.aH x with
  | .d a=>match T t with|some ⟨.string,_,_,_⟩=>jP σ o.dst k (px a)|some ⟨.slice _,_,_,_⟩=>jP σ o.dst k (bJ a)|some ⟨.map _ _,_,_,_⟩=>jP σ o.dst k (Yf a)|_=>none
  |_=>oM T G σ o k
 |_,_=>none
def PQ(T:cd)(G:df)(σ:aF)(o:Oper)(args:List Operand)(dA:List TypeId)(k:aF->Option β):Option β:=match dA,args with
 |[t,t'],[s,x]=>match T t,T t',σ.objs (o.dst.getD 9999)with
  |some ⟨.slice e,_,_,_⟩,some ⟨.slice _,_,_,_⟩,none=>match T e with
   |some bg=>
    let go:Nat×List (List D)->Option β:=λp=>aD (decide (p.1=bg.size\/p.2=[])&&decide (0<bg.size)) (match b7 G σ.aH s with
     | .d a=>aD (ma a&&cW p.2.length bg.bytes) (mI T σ o.dst k (.row (o.dst.getD 9999)) [(o.dst.getD 9999,.row bg.size p.2)])
     | .row key=>match σ.objs key with
      |some (.row br es)=>if br=bg.size/\key<10000 then aD (cW (es.length+p.2.length) bg.bytes) (mI T σ o.dst k (.row (o.dst.getD 9999)) [(key,.dead),(o.dst.getD 9999,.row br (es++p.2))])else none
      |_=>none
     |_=>none)
    match b7 G σ.aH x with
    | .d a=>J (ql a) go
    | .sub key br i len=>match σ.objs key with
     |some (.row py es)=>if br=py then aD (decide (i+len<=es.length)) (go (br,(es.drop i).take len))else none
     |_=>none
    |y=>match l1 σ.objs y with|some p=>go p|none=>none
   |none=>none
  |_,_,_=>none
 |_,_=>none
def PR(T:cd)(G:df)(σ:aF)(o:Oper)(args:List Operand)(dA:List TypeId)(k:aF->Option β):Option β:=match dA,args with
 |[t,t'],[s,x]=>match T t with
  |some ⟨.slice e,_,_,_⟩=>match T e with
   |some bg=>
    let go:Nat×List (List D)->Option β:=λp=>aD (decide (p.1=bg.size\/p.2=[])) (match b7 G σ.aH s with
     | .row key=>match σ.objs key with
      |some (.row br es)=>if br=bg.size then mI T σ o.dst k (.d (.val (.int .i64 (min p.2.length es.length:Nat)))) [(key,.row br (p.2.take (min p.2.length es.length)++es.drop (min p.2.length es.length)))]else none
      |_=>none
     | .sub key br i len=>match σ.objs key with
      |some (.row py es)=>if br=bg.size/\py=br then aD (decide (i+len<=es.length)) (mI T σ o.dst k (.d (.val (.int .i64 (min p.2.length len:Nat)))) [(key,.row br (es.take i++p.2.take (min p.2.length len)++es.drop (i+min p.2.length len)))])else none
      |_=>none
     |_=>none)
    match b7 G σ.aH x with
    | .d a=>J (ql a) go
    | .sub key br i len=>match σ.objs key with
     |some (.row py es)=>if br=py then aD (decide (i+len<=es.length)) (go (br,(es.drop i).take len))else none
     |_=>none
    |y=>match l1 σ.objs y with|some p=>go p|none=>none
   |none=>none
  |_=>none
 |_,_=>none
def PS(T:cd)(G:df)(σ:aF)(o:Oper)(args:List Operand)(dA:List TypeId)(k:aF->Option β):Option β:=match dA,args with
 |[t],[s]=>match T t with
  |some ⟨.slice e,_,_,_⟩=>match T e with
   |some bg=>match b7 G σ.aH s with
    | .sub key br i len=>match σ.objs key with
     |some (.row py es)=>if br=bg.size/\py=br/\bg.zero.cells.toList.all j2=true then aD (decide (i+len<=es.length)) (mI T σ o.dst k .any [(key,.row br (es.take i++List.replicate len (bg.zero.cells.toList.map .val)++es.drop (i+len)))])else none
     |_=>none
    |_=>none
   |none=>none
  |_=>none
 |_,_=>none
def PT(T:cd)(G:df)(σ:aF)(o:Oper)(t:TypeId)(x i:Operand)(ok:Bool)(k:aF->Option β):Option β:=match T t with
 |some ⟨.map h1 iW,_,_,_⟩=>match T h1,T iW with
  |some hO,some bg=>if wc hO.desc then(match b7 G σ.aH i with
   | .d e3=>match b7 G σ.aH x with
    | .d m=>J (mH m) λes=>jP σ o.dst k (kr hO.desc bg.zero ok es e3)| .map key=>match σ.objs key with|some (.map es)=>jP σ o.dst k (kr hO.desc bg.zero ok es e3)|_=>none
    |_=>none
   |_=>none)else none
  |_,_=>none
 |_=>none
def KG(T:cd)(G:df)(σ:aF)(o:Oper)(t:TypeId)(m i x:Operand)(k:aF->Option β):Option β:=match T t with
 |some ⟨.map h1 _,_,_,_⟩=>match T h1 with
  |some hO=>if wc hO.desc then(match b7 G σ.aH m,b7 G σ.aH i,b7 G σ.aH x with
   | .map key,.d e3,.d v=>match σ.objs key with|some (.map es)=>J (rf hO.desc es e3 v) λl=>mI T σ o.dst k .any [(key,.map l)]|_=>none
   |_,_,_=>none)else none
  |none=>none
 |_=>none
def PU(T:cd)(G:df)(σ:aF)(o:Oper)(t:TypeId)(a x:Operand)(k:aF->Option β):Option β:=match T t with
 |some i=>BX i.size (b7 G σ.aH x) λcs=>if cs.length=i.size then(match b7 G σ.aH a with
  | .ptr key off=>match σ.objs key with
   |some (.box cells)=>if off+cs.length<=cells.length then mI T σ o.dst k .any [(key,.box (ny cells off cs))]else none
   |_=>none
  | .gp key cN fg off=>match σ.objs key,kX cs with
   |some (.row br es),some aO=>if cN=br/\off+aO.length<=cN then J es[fg]? λe=>mI T σ o.dst k .any [(key,.row cN (es.set fg (cg e off aO)))]else none
   |_,_=>none
  |_=>none)else none
 |none=>none
def PV(T:cd)(G:df)(σ:aF)(o:Oper)(t:TypeId)(parts:Array (Nat×Operand))(k:aF->Option β):Option β:=match OM T t with|some (pl,z)=>KD pl (zeroCells z) (parts.toList.map λp=>(p.1,b7 G σ.aH p.2)) λout=>k (σ.put o.dst (Bo out))|none=>none
def PW(T:cd)(G:df)(σ:aF)(o:Oper)(t:TypeId)(n:Nat)(parts:Array (Nat×Operand))(k:aF->Option β):Option β:=match T t,σ.objs (o.dst.getD 9999)with
 |some ⟨.slice e,_,_,_⟩,none=>match T e with
  |some bg=>KE bg.size 0 (parts.toList.map λp=>(p.1,b7 G σ.aH p.2)) λes=>if es.length=n/\0<bg.size/\n*bg.size<=16777216 then mI T σ o.dst k (.row (o.dst.getD 9999)) [(o.dst.getD 9999,.row bg.size es)]else none
  |none=>none
 |_,_=>none
def PX(T:cd)(G:df)(σ:aF)(o:Oper)(t:TypeId)(l c:Operand)(k:aF->Option β):Option β:=match T t,σ.objs (o.dst.getD 9999)with
 |some ⟨.slice e,_,_,_⟩,none=>match T e with
  |some bg=>match b7 G σ.aH l,b7 G σ.aH c with
   | .d l,.d c=>if bg.zero.cells.toList.all j2 then J (nL bg.bytes l c) λn=>mI T σ o.dst k (.row (o.dst.getD 9999)) [(o.dst.getD 9999,.row bg.size (List.replicate n (bg.zero.cells.toList.map .val)))]else none
   |_,_=>none
  |none=>none
 |_,_=>none
def PY(T:cd)(G:df)(σ:aF)(o:Oper)(s t:TypeId)(x:Operand)(k:aF->Option β):Option β:=match T s,T t,b7 G σ.aH x with
 |some _,some ⟨.int i,_,_,_⟩,.d a=>jP σ o.dst k (ix i a)
 |some ⟨.slice e,_,_,_⟩,some ⟨.string,_,_,_⟩,y=>match T e with
  |some ⟨.int .u8,_,_,_⟩=>match y with
   | .d a=>jP σ o.dst k (Yd a)| .row key=>match σ.objs key with|some (.row 1 es)=>jP σ o.dst k (wP es)|_=>oM T G σ o k
   | .sub key 1 i len=>match σ.objs key with|some (.row 1 es)=>aD (decide (i+len<=es.length)) (jP σ o.dst k (wP ((es.drop i).take len)))|_=>oM T G σ o k
   |_=>oM T G σ o k
  |_=>oM T G σ o k
 |some _,some ⟨.string,_,_,_⟩,.d a=>jP σ o.dst k (Yc a)|_,_,_=>oM T G σ o k
def KH(T:cd)(G:df)(σ:aF)(o:Oper)(fR:Bool)(args:List Operand)(k:aF->Option β):Option β:=match kX (args.map (b7 G σ.aH))with|some aO=>jP σ o.dst k (kq fR aO)|none=>none
def gV:aS->aS->Option (D×D)
 | .d a,.d b=>some (a,b)|_,_=>none
theorem akc{x y:aS}{p:D×D}(h:gV x y=some p):x= .d p.1/\y= .d p.2:=by unfold gV at h;split at h<;>cases h;exact⟨rfl,rfl⟩
def Yk{T:cd}{ev:Operand->aS}{c a b:Operand}{t:Bool}(an:ev c= .d (.val (.bool t)))(h:gV (ev a) (ev b)=none):ep T ev (.pick c a b)=some (if t then ev a else ev b):=by
 simp only[ep,an];generalize ev a=x at*;generalize ev b=y at*;split;.cases h
 rfl
def sM(T:cd)(G:df)(σ:aF)(o:Oper)(k:aF->Option β):Option β:=match o.op with
 | .binOp op t x y _=>PJ T G σ o op t x y k| .unOp op _ x=>match b7 G σ.aH x with| .d a=>jP σ o.dst k (c1 op a)|_=>none
 | .convert s t x=>PY T G σ o s t x k
 | .pick c a b=>match b7 G σ.aH c with
  | .d c=>match gV (b7 G σ.aH a) (b7 G σ.aH b)with|some p=>jP σ o.dst k (bT c p.1 p.2)|none=>aC c (k (σ.put o.dst (b7 G σ.aH a))) (k (σ.put o.dst (b7 G σ.aH b)))
  |_=>none
 | .field s x f=>PK T G σ o s x f k| .extract x i=>match b7 G σ.aH x with| .d a=>jP σ o.dst k (bf i a)|_=>oM T G σ o k
 | .index t x i=>match T t with
  |some ⟨.string,_,_,_⟩=>match b7 G σ.aH x,b7 G σ.aH i with| .d a,.d b=>jP σ o.dst k (qk a b)|_,_=>none
  |some ⟨.array len e,_,_,_⟩=>match T e with
   |some bg=>match b7 G σ.aH x,b7 G σ.aH i with| .d a,.d b=>J (bj len b) λn=>jP σ o.dst k (mb (ua bg.desc) bg.size (n*bg.size) a)|_,_=>none
   |none=>none
  |_=>none
 | .load t a=>PL T G σ o t a k| .indexAddr t x fg=>PM T G σ o t x fg k| .slice t x lo aj none=>PN T G σ o t x lo aj k| .lookup t x i ok=>PT T G σ o t x i ok k| .mapUpdate t m i x=>KG T G σ o t m i x k| .insert t m i x=>KG T G σ o t m i x k| .store t a x=>PU T G σ o t a x k| .build t parts=>PV T G σ o t parts k| .buildSlice t n parts=>PW T G σ o t n parts k| .makeSlice t l c=>PX T G σ o t l c k| .box t x=>match T t,σ.objs (o.dst.getD 9999)with|some i,none=>BX i.size (b7 G σ.aH x) λcs=>mI T σ o.dst k (.ptr (o.dst.getD 9999) 0) [(o.dst.getD 9999,.box cs)]|_,_=>none
 | .call ⟨.builtin .len,args,dA⟩=>PO T G σ o args.toList dA.toList k| .call ⟨.builtin .append,args,dA⟩=>PQ T G σ o args.toList dA.toList k| .call ⟨.builtin .copy,args,dA⟩=>PR T G σ o args.toList dA.toList k| .call ⟨.builtin .clear,args,dA⟩=>PS T G σ o args.toList dA.toList k| .call ⟨.builtin .max,args,_⟩=>KH T G σ o true args.toList k| .call ⟨.builtin .min,args,_⟩=>KH T G σ o false args.toList k|_=>oM T G σ o k
variable{T:cd}{G:df}{σ:aF}{o:Oper}{k:aF->Option β}{b:β}
def qm(h:oM T G σ o k=some b):∃aX,gL T G σ o=some aX/\k aX=some b:=by
 unfold oM at h;split at h;.exact⟨_,by assumption,h⟩
 cases h
def mJ{r:aS}(h:ep T (b7 G σ.aH) o.op=some r)(al:k (σ.put o.dst r)=some b):∃aX,gL T G σ o=some aX/\k aX=some b:=⟨_,by unfold gL;rw[h],al⟩
def lx{r:aS}(ar:ep T (b7 G σ.aH) o.op=none)(h:dw T (b7 G σ.aH) σ.objs o.op=some r)(al:k (σ.put o.dst r)=some b):∃aX,gL T G σ o=some aX/\k aX=some b:=⟨_,by unfold gL;rw[ar,h],al⟩
def rh{r:aS}{cz:List (Key×cP)}(ar:ep T (b7 G σ.aH) o.op=none)(aa:dw T (b7 G σ.aH) σ.objs o.op=none)(h:ek T (b7 G σ.aH) σ.objs (o.dst.getD 9999) o.op=some (r,cz)) (al:mI T σ o.dst k r cz=some b):∃aX,gL T G σ o=some aX/\k aX=some b:=⟨_,by unfold gL;rw[ar,aa];unfold g2;rw[h];rfl,by unfold mI at al;exact al⟩
def akd{op:BinOp}{t:TypeId}{x y:Operand}{yh:TypeId}(aL:o.op= .binOp op t x y yh)(h:PJ T G σ o op t x y k=some b):∃aX,gL T G σ o=some aX/\k aX=some b:=by
 unfold PJ at h;split at h
 .rename_i a c aG an;split at h
  .rename_i aE;obtain⟨v,aa,ae⟩:=e5 h;have Yl:∀{d},ma d=true->d= .val (.slice none 0 0):=by
    intro d aA;unfold ma at aA;split at aA;.rfl
    cases aA
   unfold Yj at aE;split at aE
   case h_2=>cases aE
   rename_i aP a2 bS cS aJ;have ao:c= .val (.slice none 0 0)->ep T (b7 G σ.aH) o.op=none:=by intro eH;subst eH;rw[aL];simp only[ep,aG,an,wa]
   unfold KA at aa;split at aa
   .split at aa
    case isFalse=>cases aa
    rename_i aM;have aM:=Yl aM;subst aM;refine lx (r:= .d v) (ao rfl) ?_ ae;rw[aL];simp only[dw,aJ,an,we,xav,aG,mz];split at aa<;>cases aa<;>simp
   .split at aa
    case isFalse=>cases aa
    rename_i aM;have aM:=Yl aM;subst aM;refine lx (r:= .d v) (ao rfl) ?_ ae;rw[aL];simp only[dw,aJ,an,we,xav,aG,mz];split at aa<;>cases aa<;>simp
   cases aa
  split at h;.rename_i l aq;obtain⟨v,aa,ae⟩:=e5 h;exact mJ (by rw[aL];simp only[ep,aG,an];exact akb aq aa) ae
  obtain⟨v,aa,ae⟩:=e5 h;exact mJ (by rw[aL];simp only[ep,aG,an];exact aka aa) ae
 exact qm h
def KI{i:iE}{off:Nat}{cs:List D}{v:D}(h:aQ (ua i.desc) i.size off cs=some v):sq i cs off=some (.d v):=by
 unfold aQ at h;unfold sq;cases aA:ua i.desc with
 |true=>
  simp only[aA]at h;simp only[xav];split at h;.rename_i an;rw[xaa an];cases h;rfl
  cases h
 |false=>simp only[aA]at h;simp[h]
def ake{s:TypeId}{x:Operand}{f:Nat}(aL:o.op= .field s x f)(h:PK T G σ o s x f k=some b):∃aX,gL T G σ o=some aX/\k aX=some b:=by
 unfold PK at h;split at h
 case h_2=>cases h
 rename_i off i a8;split at h
 .rename_i a aG;obtain⟨v,aa,ae⟩:=e5 h;unfold mb at aa;split at aa
  case h_2=>cases aa
  exact mJ (by rw[aL];simp only[ep,a8,aG];exact KI aa) ae
 exact qm h
def akf{t:TypeId}{a:Operand}(aL:o.op= .load t a)(h:PL T G σ o t a k=some b):∃aX,gL T G σ o=some aX/\k aX=some b:=by
 unfold PL at h;split at h
 case h_2=>cases h
 rename_i i aj;split at h;.rename_i cs off aG;obtain⟨v,aa,ae⟩:=e5 h;exact lx (by rw[aL];rfl) (by rw[aL];simp only[dw,aj,aG];exact KI aa) ae
 .rename_i key cN fg off aG;split at h
  case h_2=>cases h
  rename_i br es al;split at h
  case isFalse=>cases h
  rename_i dh;obtain⟨e,aa,ae⟩:=e5 h;obtain⟨v,ay,a7⟩:=e5 ae;exact lx (by rw[aL];rfl) (by rw[aL];simp only[dw,aj,aG,al,dh,xav,aa];exact KI ay) a7
 exact qm h
def PZ{n m:Nat}{i:D}(h:bj n i=some m):∃KJ j,i= .val (.int KJ j)/\0<=j/\j<n/\m=j.toNat:=by
 unfold bj at h;split at h
 case h_2=>cases h
 split at h
 case isFalse=>cases h
 rename_i an;cases h;exact⟨_,_,rfl,an.1,an.2,rfl⟩
def akg{t:TypeId}{x fg:Operand}(aL:o.op= .indexAddr t x fg)(h:PM T G σ o t x fg k=some b):∃aX,gL T G σ o=some aX/\k aX=some b:=by
 unfold PM at h;split at h
 .rename_i e s1 s2 jQ aJ;split at h
  case h_2=>cases h
  rename_i bg he;split at h
  case h_2=>cases h
  rename_i i aj;split at h
  .rename_i a aG;obtain⟨c,aa,ae⟩:=e5 h;unfold bh at aa;split at aa
   case h_2=>cases aa
   split at aa
   case isFalse=>cases aa
   rename_i aM;split at aa
   case h_2=>cases aa
   split at aa
   case isFalse=>cases aa
   rename_i al;exact lx (by rw[aL];rfl) (by rw[aL];simp only[dw,aJ,aj,he,aG,aM,al,xav,aa]) ae
  .rename_i key aG;split at h
   case h_2=>cases h
   rename_i br es al;split at h
   case isFalse=>cases h
   rename_i dh;obtain⟨n,aa,ae⟩:=e5 h;obtain⟨KJ,j,rfl,a9,bk,rfl⟩:=PZ aa;exact lx (by rw[aL];rfl) (by rw[aL];simp only[dw,aJ,aj,he,aG,a9,xav,al,dh,bk,and_self]) (dh▸ae)
  .rename_i key br i0 len aG;split at h
   case isFalse=>cases h
   rename_i dh;obtain⟨n,aa,ae⟩:=e5 h;obtain⟨KJ,j,rfl,a9,bk,rfl⟩:=PZ aa;exact lx (by rw[aL];rfl) (by rw[aL];simp only[dw,aJ,aj,he,aG,a9,xav,dh,bk,and_self]) (dh▸ae)
  cases h
 .rename_i len e s1 s2 jQ aJ;split at h
  case h_2=>cases h
  rename_i bg he;split at h
  case h_2=>cases h
  rename_i i aj;obtain⟨n,aa,ae⟩:=e5 h;obtain⟨KJ,j,rfl,a9,bk,rfl⟩:=PZ aa;split at ae
  case h_2=>cases ae
  rename_i r aw;exact lx (by rw[aL];rfl) (by rw[aL];simp only[dw,aJ,aj,he,a9,bk,and_self,xav];exact aw) ae
 cases h
def akh{t:TypeId}{x:Operand}{lo aj:Option Operand}(aL:o.op= .slice t x lo aj none)(h:PN T G σ o t x lo aj k=some b):∃aX,gL T G σ o=some aX/\k aX=some b:=by
 unfold PN at h;split at h
 case h_2=>cases h
 rename_i l bA aq wQ;have aq:=Yi aq;have wQ:=Yi wQ;split at h
 .rename_i s1 s2 jQ aJ;split at h
  case h_2=>cases h
  rename_i a aG;obtain⟨v,aa,ae⟩:=e5 h;unfold Ye at aa;split at aa
  case h_2=>cases aa
  split at aa
  case h_2=>cases aa
  rename_i bV bN;split at aa
  case isFalse=>cases aa
  rename_i an;cases aa;exact mJ (by rw[aL];simp only[ep,aJ,aG,aq,wQ,KB,bV,bN];rw[xaa an]) ae
 .rename_i e s1 s2 jQ aJ;split at h
  case h_2=>cases h
  rename_i bg he;split at h
  .rename_i a aG;obtain⟨v,aa,ae⟩:=e5 h;unfold mc at aa;split at aa
   case h_2=>cases aa
   split at aa
   case h_2=>cases aa
   rename_i bV bN;split at aa
   case isFalse=>cases aa
   rename_i an;cases aa;exact lx (by rw[aL];simp only[ep,aJ]) (by rw[aL];simp only[dw,aJ,he,aG,j3,aq,wQ,KB,bV,bN];rw[xaa ⟨an.1,an.2.1⟩,xaa an.2.2]) ae
  .rename_i key aG;split at h
   case h_2=>cases h
   rename_i br es al;split at h
   case isFalse=>cases h
   rename_i dh;obtain⟨p,aa,ae⟩:=e5 h;unfold m7 at aa;split at aa
   case h_2=>cases aa
   rename_i bV bN;split at aa
   case isFalse=>cases aa
   rename_i an;cases aa;exact lx (by rw[aL];simp only[ep,aJ]) (by rw[aL];simp only[dw,aJ,he,aG,j3,al,aq,wQ,KB,bV,bN];rw[xaa an,xaa dh]) ae
  .rename_i key br i0 len aG;split at h
   case isFalse=>cases h
   rename_i dh;obtain⟨p,aa,ae⟩:=e5 h;unfold m7 at aa;split at aa
   case h_2=>cases aa
   rename_i bV bN;split at aa
   case isFalse=>cases aa
   rename_i an;cases aa;exact lx (by rw[aL];simp only[ep,aJ]) (by rw[aL];simp only[dw,aJ,he,aG,j3,aq,wQ,KB,bV,bN];rw[xaa an,xaa dh]) ae
  cases h
 exact qm h
def aki{args:Array Operand}{dA:Array TypeId}(aL:o.op= .call ⟨.builtin .len,args,dA⟩)(h:PO T G σ o args.toList dA.toList k=some b):∃aX,gL T G σ o=some aX/\k aX=some b:=by
 unfold PO at h;split at h
 case h_2=>cases h
 rename_i t x aP a2;have a1:ep T (b7 G σ.aH) o.op=none:=by rw[aL];rfl
 split at h
 .rename_i a aG;split at h;.rename_i s1 s2 jQ aJ;obtain⟨v,aa,ae⟩:=e5 h;unfold px at aa;split at aa<;>cases aa;exact lx a1 (by rw[aL];simp only[dw,aP,a2,aJ,aG]) ae
  .rename_i e s1 s2 jQ aJ;obtain⟨v,aa,ae⟩:=e5 h;unfold bJ at aa;split at aa<;>cases aa;.exact lx a1 (by rw[aL];simp only[dw,aP,a2,aJ,aG,j3]) ae
   exact lx a1 (by rw[aL];simp only[dw,aP,a2,aJ,aG,j3]) ae
  .rename_i bV bN s1 s2 jQ aJ;obtain⟨v,aa,ae⟩:=e5 h;unfold Yf at aa;split at aa<;>cases aa;.exact lx a1 (by rw[aL];simp only[dw,aP,a2,aJ,aG]) ae
   exact lx a1 (by rw[aL];simp only[dw,aP,a2,aJ,aG]) ae
  cases h
 exact qm h
theorem Ym{a:D}{p:Nat×List (List D)}(h:ql a=some p)(objs:cw):l1 objs (.d a)=some p:=by unfold ql at h;split at h<;>cases h<;>rfl
def akj{args:Array Operand}{dA:Array TypeId}(aL:o.op= .call ⟨.builtin .append,args,dA⟩)(h:PQ T G σ o args.toList dA.toList k=some b):∃aX,gL T G σ o=some aX/\k aX=some b:=by
 unfold PQ at h;split at h
 case h_2=>cases h
 rename_i t t' s x aP a2;split at h
 case h_2=>cases h
 rename_i e s1 s2 jQ dq aCe aCf aCg aJ qb aA;split at h
 case h_2=>cases h
 rename_i bg he;have a1:ep T (b7 G σ.aH) o.op=none:=by rw[aL];rfl
 have hm:dw T (b7 G σ.aH) σ.objs o.op=none:=by rw[aL];rfl
 have key:∀p:Nat×List (List D),l1 σ.objs (b7 G σ.aH x)=some p->aD (decide (p.1=bg.size\/p.2=[])&&decide (0<bg.size)) (match b7 G σ.aH s with
     | .d a=>aD (ma a&&cW p.2.length bg.bytes) (mI T σ o.dst k (.row (o.dst.getD 9999)) [(o.dst.getD 9999,.row bg.size p.2)])
     | .row key=>match σ.objs key with
      |some (.row br es)=>if br=bg.size/\key<10000 then aD (cW (es.length+p.2.length) bg.bytes) (mI T σ o.dst k (.row (o.dst.getD 9999)) [(key,.dead),(o.dst.getD 9999,.row br (es++p.2))])else none
      |_=>none
     |_=>none)=some b->∃aX,gL T G σ o=some aX/\k aX=some b:=by
  rintro⟨cN,xs⟩ fa h;obtain⟨ar,h⟩:=k3 h;simp only[xak,xaE]at ar;split at h
  .rename_i a aG;obtain⟨aa,h⟩:=k3 h;simp only[xak,cW,xaE]at aa;have aM:a= .val (.slice none 0 0):=by
    have:=aa.1;unfold ma at this;split at this;.rfl
    cases this
   have ae:=aa.2;clear aa;refine rh a1 hm ?_ h;rw[aL];simp only[ek,aP,a2,aJ,qb,aA,he,fa,aG,aM];rw[xaa ar,xaa ae]
  .rename_i key aG;split at h
   case h_2=>cases h
   rename_i br es al;split at h
   case isFalse=>cases h
   rename_i dh;obtain⟨aa,h⟩:=k3 h;simp only[xak,cW,xaE]at aa;refine rh a1 hm ?_ h;rw[aL];simp only[ek,aP,a2,aJ,qb,aA,he,fa,aG,al];rw[xaa ar,xaa ⟨dh.1,aa.1,aa.2,dh.2⟩]
  .cases h
 simp only at h;split at h;.rename_i a aG;obtain⟨p,aa,ae⟩:=e5 h;exact key p (by rw[aG];exact Ym aa _) ae
 .rename_i akk br i len aG;split at h
  case h_2=>cases h
  rename_i py es al;split at h
  case isFalse=>cases h
  rename_i dh;obtain⟨aa,ae⟩:=k3 h;have fa:l1 σ.objs (b7 G σ.aH x)=some (br,(es.drop i).take len):=by rw[aG];simp only[l1,al];rw[xaa ⟨dh,xaX aa⟩]
  exact key (br,(es.drop i).take len) fa ae
 split at h
 case h_2=>cases h
 rename_i p a1;exact key p a1 h
def akl{args:Array Operand}{dA:Array TypeId}(aL:o.op= .call ⟨.builtin .clear,args,dA⟩)(h:PS T G σ o args.toList dA.toList k=some b):∃aX,gL T G σ o=some aX/\k aX=some b:=by
 unfold PS at h;split at h
 case h_2=>cases h
 rename_i t s aP a2;split at h
 case h_2=>cases h
 rename_i e s1 s2 jQ aJ;split at h
 case h_2=>cases h
 rename_i bg he;have a1:ep T (b7 G σ.aH) o.op=none:=by rw[aL];rfl
 have hm:dw T (b7 G σ.aH) σ.objs o.op=none:=by rw[aL];rfl
 split at h
 case h_2=>cases h
 rename_i key br i len aG;split at h
 case h_2=>cases h
 rename_i py es al;split at h
 case isFalse=>cases h
 rename_i dh;obtain⟨ar,h⟩:=k3 h;simp only[xaE]at ar;refine rh a1 hm ?_ h;rw[aL];simp only[ek,aP,a2,aJ,he,aG,al];rw[xaa ⟨dh.1,dh.2.1,ar,dh.2.2⟩]
def akm{args:Array Operand}{dA:Array TypeId}(aL:o.op= .call ⟨.builtin .copy,args,dA⟩)(h:PR T G σ o args.toList dA.toList k=some b):∃aX,gL T G σ o=some aX/\k aX=some b:=by
 unfold PR at h;split at h
 case h_2=>cases h
 rename_i t t' s x aP a2;split at h
 case h_2=>cases h
 rename_i e s1 s2 jQ aJ;split at h
 case h_2=>cases h
 rename_i bg he;have a1:ep T (b7 G σ.aH) o.op=none:=by rw[aL];rfl
 have hm:dw T (b7 G σ.aH) σ.objs o.op=none:=by rw[aL];rfl
 have key:∀p:Nat×List (List D),l1 σ.objs (b7 G σ.aH x)=some p->aD (decide (p.1=bg.size\/p.2=[])) (match b7 G σ.aH s with
     | .row key=>match σ.objs key with
      |some (.row br es)=>if br=bg.size then mI T σ o.dst k (.d (.val (.int .i64 (min p.2.length es.length:Nat)))) [(key,.row br (p.2.take (min p.2.length es.length)++es.drop (min p.2.length es.length)))]else none
      |_=>none
     | .sub key br i len=>match σ.objs key with
      |some (.row py es)=>if br=bg.size/\py=br then aD (decide (i+len<=es.length)) (mI T σ o.dst k (.d (.val (.int .i64 (min p.2.length len:Nat)))) [(key,.row br (es.take i++p.2.take (min p.2.length len)++es.drop (i+min p.2.length len)))])else none
      |_=>none
     |_=>none)=some b->∃aX,gL T G σ o=some aX/\k aX=some b:=by
  rintro⟨cN,xs⟩ fa h;obtain⟨ar,h⟩:=k3 h;simp only[xaE]at ar;split at h
  .rename_i key aG;split at h
   case h_2=>cases h
   rename_i br es al;split at h
   case isFalse=>cases h
   rename_i dh;refine rh a1 hm ?_ h;rw[aL];simp only[ek,aP,a2,aJ,he,fa,aG,al];rw[xaa ar,xaa dh]
  .rename_i key br i len aG;split at h
   case h_2=>cases h
   rename_i py es al;split at h
   case isFalse=>cases h
   rename_i dh;obtain⟨aa,h⟩:=k3 h;simp only[xaE]at aa;refine rh a1 hm ?_ h;rw[aL];simp only[ek,aP,a2,aJ,he,fa,aG,al];rw[xaa ar,xaa ⟨dh.1,dh.2,aa⟩]
  .cases h
 simp only at h;split at h;.rename_i a aG;obtain⟨p,aa,ae⟩:=e5 h;exact key p (by rw[aG];exact Ym aa _) ae
 .rename_i akk br i len aG;split at h
  case h_2=>cases h
  rename_i py es al;split at h
  case isFalse=>cases h
  rename_i dh;obtain⟨aa,ae⟩:=k3 h;have fa:l1 σ.objs (b7 G σ.aH x)=some (br,(es.drop i).take len):=by rw[aG];simp only[l1,al];rw[xaa ⟨dh,xaX aa⟩]
  exact key (br,(es.drop i).take len) fa ae
 split at h
 case h_2=>cases h
 rename_i p a1;exact key p a1 h
def Yn{hO bg:iE}{t h1 iW:TypeId}{s1 s2:Nat}{jQ:Value}(aJ:T t=some ⟨.map h1 iW,s1,s2,jQ⟩)(aa:T h1=some hO)(ae:T iW=some bg)(al:wc hO.desc=true){ok:Bool}{es:List (Value×D)}{e3 v:D} (h:kr hO.desc bg.zero ok es e3=some v):∃u,e3= .val u/\yk T t es u ok=some (.d v):=by
 unfold kr at h;split at h
 case h_2=>cases h
 rename_i u;refine⟨u,rfl,?_⟩;unfold yk;simp only[aJ,aa,ae,al,xav];split at h;.rename_i x ah;cases h;simp only[ah]
 .rename_i ah;cases h;simp only[ah]
 cases h
def akn{t:TypeId}{x i:Operand}{ok:Bool}(aL:o.op= .lookup t x i ok)(h:PT T G σ o t x i ok k=some b):∃aX,gL T G σ o=some aX/\k aX=some b:=by
 unfold PT at h;split at h
 case h_2=>cases h
 rename_i h1 iW s1 s2 jQ aJ;split at h
 case h_2=>cases h
 rename_i hO bg aa ae;split at h
 case isFalse=>cases h
 rename_i al;split at h
 case h_2=>cases h
 rename_i e3 Eo;split at h;.rename_i m hm;obtain⟨es,a9,bk⟩:=e5 h;obtain⟨v,b1,eU⟩:=e5 bk;obtain⟨u,rfl,h7⟩:=Yn aJ aa ae al b1;refine lx (by rw[aL];rfl) ?_ eU;rw[aL];simp only[dw,Eo,hm];unfold mH at a9;split at a9<;>cases a9<;>exact h7
 .rename_i key hm;split at h
  case h_2=>cases h
  rename_i es me;obtain⟨v,b1,eU⟩:=e5 h;obtain⟨u,rfl,h7⟩:=Yn aJ aa ae al b1;refine lx (by rw[aL];rfl) ?_ eU;rw[aL];simp only[dw,Eo,hm,me,h7]
 cases h
def Yo{t:TypeId}{m i x:Operand}(aL:o.op= .mapUpdate t m i x\/o.op= .insert t m i x)(h:KG T G σ o t m i x k=some b):∃aX,gL T G σ o=some aX/\k aX=some b:=by
 unfold KG at h;split at h
 case h_2=>cases h
 rename_i h1 iW s1 s2 jQ aJ;split at h
 case h_2=>cases h
 rename_i hO aa;split at h
 case isFalse=>cases h
 rename_i al;split at h
 case h_2=>cases h
 rename_i key e3 v aP a2 bS;split at h
 case h_2=>cases h
 rename_i es me;obtain⟨l,a9,bk⟩:=e5 h;unfold rf at a9;split at a9
 case h_2=>cases a9
 rcases aL with aL|aL<;>
 .refine rh (by rw[aL];rfl) (by rw[aL];rfl) ?_ bk;rw[aL];simp only[ek,aJ,aa,al,xav,aP,a2,bS,me,a9]
def ako{t:TypeId}{a x:Operand}(aL:o.op= .store t a x)(h:PU T G σ o t a x k=some b):∃aX,gL T G σ o=some aX/\k aX=some b:=by
 unfold PU at h;split at h
 case h_2=>cases h
 rename_i i aj;obtain⟨cs,aa,ae⟩:=KC h;split at ae
 case isFalse=>cases ae
 rename_i aq;split at ae
 .rename_i key off aG;split at ae
  case h_2=>cases ae
  rename_i cells al;split at ae
  case isFalse=>cases ae
  rename_i an;refine rh (by rw[aL];rfl) (by rw[aL];rfl) ?_ ae;rw[aL];simp only[ek,aj,aa,aG,al];rw[xaa aq,xaa an]
 .rename_i key cN fg off aG;split at ae
  case h_2=>cases ae
  rename_i br es aO al eF;split at ae
  case isFalse=>cases ae
  rename_i an;obtain⟨e,a9,bk⟩:=e5 ae;refine rh (by rw[aL];rfl) (by rw[aL];rfl) ?_ bk;rw[aL];simp only[ek,aj,aa,aG,al,eF,a9];rw[xaa aq,xaa an]
 cases ae
def akp{t:TypeId}{parts:Array (Nat×Operand)}(aL:o.op= .build t parts)(h:PV T G σ o t parts k=some b):∃aX,gL T G σ o=some aX/\k aX=some b:=by
 unfold PV at h;split at h
 case h_2=>cases h
 rename_i pl z ao;obtain⟨cs,aa,ae⟩:=Yg h;exact mJ (by rw[aL];simp only[ep,JH,ao,aa]) ae
def akq{t:TypeId}{n:Nat}{parts:Array (Nat×Operand)}(aL:o.op= .buildSlice t n parts)(h:PW T G σ o t n parts k=some b):∃aX,gL T G σ o=some aX/\k aX=some b:=by
 unfold PW at h;split at h
 case h_2=>cases h
 rename_i e s1 s2 jQ aJ aA;split at h
 case h_2=>cases h
 rename_i bg he;obtain⟨es,aa,ae⟩:=Yh h;split at ae
 case isFalse=>cases ae
 rename_i an;refine rh (by rw[aL];rfl) (by rw[aL];rfl) ?_ ae;rw[aL];simp only[ek,aJ,aA,he,aa];rw[xaa an]
def akr{t:TypeId}{l c:Operand}(aL:o.op= .makeSlice t l c)(h:PX T G σ o t l c k=some b):∃aX,gL T G σ o=some aX/\k aX=some b:=by
 unfold PX at h;split at h
 case h_2=>cases h
 rename_i e s1 s2 jQ aJ aA;split at h
 case h_2=>cases h
 rename_i bg he;split at h
 case h_2=>cases h
 rename_i qS ji aq an;split at h
 case isFalse=>cases h
 rename_i bP;obtain⟨n,aa,ae⟩:=e5 h;unfold nL at aa;split at aa
 case h_2=>cases aa
 split at aa
 case isFalse=>cases aa
 rename_i l0;cases aa;refine rh (by rw[aL];rfl) (by rw[aL];rfl) ?_ ae;rw[aL];simp only[ek,aJ,aA,he,aq,an];rw[xaa ⟨l0.1,l0.2.1,l0.2.2.1,l0.2.2.2,bP⟩]
def aks{s t:TypeId}{x:Operand}(aL:o.op= .convert s t x)(h:PY T G σ o s t x k=some b):∃aX,gL T G σ o=some aX/\k aX=some b:=by
 unfold PY at h;split at h;.rename_i q i s1 s2 jQ a aE aJ ah;obtain⟨v,aa,ae⟩:=e5 h;unfold ix at aa;split at aa<;>cases aa;exact mJ (by rw[aL];simp only[ep,aE,aJ,ah]) ae
 .rename_i e _ _ _ _ _ _ y aE aJ;split at h
  case h_2=>exact qm h
  rename_i he;have fin:∀{es:List (List D)},p7 σ.objs (b7 G σ.aH x)=some es->ep T (b7 G σ.aH) (.convert s t x)=none->∀{v:D},wP es=some v->k (σ.put o.dst (.d v))=some b->∃aX,gL T G σ o=some aX/\k aX=some b:=by
   intro es aa ar v aN al;unfold wP at aN;split at aN
   case h_2=>cases aN
   rename_i fS ao;cases aN;exact lx (by rw[aL];exact ar) (by rw[aL];simp only[dw,aE,aJ,he,aa,ao]) al
  split at h
  .rename_i a ah;obtain⟨v,aa,ae⟩:=e5 h;unfold Yd at aa;split at aa;.exact fin (by rw[ah];rfl) (by simp only[ep,aE,aJ,ah]) aa ae
   .exact fin (by rw[ah];rfl) (by simp only[ep,aE,aJ,ah]) aa ae
   cases aa
  .rename_i key ah;split at h
   case h_2=>exact qm h
   rename_i es al;obtain⟨v,aa,ae⟩:=e5 h;exact fin (by rw[ah];simp only[p7,al]) (by simp only[ep,aE,aJ,ah]) aa ae
  .rename_i key i len ah;split at h
   case h_2=>exact qm h
   rename_i es al;obtain⟨an,h⟩:=k3 h;obtain⟨v,aa,ae⟩:=e5 h;exact fin (by rw[ah];simp only[p7,al];rw[xaa (xaX an)]) (by simp only[ep,aE,aJ,ah]) aa ae
  exact qm h
 .rename_i q s1 s2 jQ a aE aJ ah;obtain⟨v,aa,ae⟩:=e5 h;unfold Yc at aa;split at aa<;>cases aa;exact mJ (by rw[aL];simp only[ep,aE,aJ,ah]) ae
 exact qm h
def yO(h:sM T G σ o k=some b):∃aX,gL T G σ o=some aX/\k aX=some b:=by
 unfold sM at h;split at h;.exact akd (by assumption) h
 .rename_i aL;split at h
  .rename_i a aG;obtain⟨v,aa,ae⟩:=e5 h;unfold c1 at aa;split at aa<;>cases aa;.exact mJ (by rw[aL];simp only[ep,aG]) ae
   exact mJ (by rw[aL];simp only[ep,aG]) ae
  cases h
 .exact aks (by assumption) h
 .rename_i c x y aL;split at h
  case h_2=>cases h
  rename_i ji an;split at h
  .rename_i p a1;obtain⟨aG,ao⟩:=akc a1;obtain⟨v,aa,ae⟩:=e5 h;unfold bT at aa;split at aa<;>cases aa;rename_i t;refine mJ ?_ ae;rw[aL];simp only[ep,an,aG,ao];split;.rename_i aP a2;simp only[aS.d.injEq]at aP a2;rw[aP,a2];cases t<;>rfl
   cases t<;>rfl
  rename_i a1;rcases Yb h with⟨rfl,aa⟩|⟨rfl,aa⟩
  .exact mJ (by rw[aL];exact Yk an a1) aa
  exact mJ (by rw[aL];exact Yk an a1) aa
 .exact ake (by assumption) h
 .rename_i x i aL;split at h
  .rename_i a aG;obtain⟨v,aa,ae⟩:=e5 h;unfold bf at aa;split at aa
   case h_2=>cases aa
   exact mJ (by rw[aL];simp only[ep,aG,aa]) ae
  exact qm h
 .rename_i t x i aL;split at h
  .rename_i s1 s2 jQ aJ;split at h
   case h_2=>cases h
   rename_i a c aG an;obtain⟨v,aa,ae⟩:=e5 h;unfold qk at aa;split at aa
   case h_2=>cases aa
   exact mJ (by rw[aL];simp only[ep,aJ,aG,an];exact yN aa) ae
  .rename_i len e s1 s2 jQ aJ;split at h
   case h_2=>cases h
   rename_i bg iF;split at h
   case h_2=>cases h
   rename_i a c aG an;obtain⟨n,a9,h⟩:=e5 h;obtain⟨v,aa,ae⟩:=e5 h;unfold bj at a9;split at a9
   case h_2=>cases a9
   split at a9
   case isFalse=>cases a9
   rename_i aM;cases a9;unfold mb at aa;split at aa
   case h_2=>cases aa
   exact mJ (by rw[aL];simp only[ep,aJ,aG,an];rw[xaa aM];simp only[iF];exact KI aa) ae
  cases h
 .exact akf (by assumption) h
 .exact akg (by assumption) h
 .exact akh (by assumption) h
 .exact akn (by assumption) h
 .rename_i aL;exact Yo (.inl aL) h
 .rename_i aL;exact Yo (.inr aL) h
 .exact ako (by assumption) h
 .exact akp (by assumption) h
 .exact akq (by assumption) h
 .exact akr (by assumption) h
 .rename_i t x aL;split at h
  case h_2=>cases h
  rename_i i aj aA;obtain⟨cs,aa,ae⟩:=KC h;exact rh (by rw[aL];rfl) (by rw[aL];rfl) (by rw[aL];simp only[ek,aa,aA]) ae
 .exact aki (by assumption) h
 .exact akj (by assumption) h
 .exact akm (by assumption) h
 .exact akl (by assumption) h
 .rename_i args dA aL;unfold KH at h;split at h
  case h_2=>cases h
  rename_i aO eF;obtain⟨v,aa,ae⟩:=e5 h;exact mJ (by rw[aL];simp only[ep,Bn eF];exact yN aa) ae
 .rename_i args dA aL;unfold KH at h;split at h
  case h_2=>cases h
  rename_i aO eF;obtain⟨v,aa,ae⟩:=e5 h;exact mJ (by rw[aL];simp only[ep,Bn eF];exact yN aa) ae
 exact qm h
end
section
variable{β:Type}
abbrev ly:=Tmp->FuncId->List D->Option D
def E0(G:df)(C:ly)(σ:aF)(o:Oper)(x:Operand)(args:List Operand)(k:aF->Option β):Option β:=match wy (b7 G σ.aH x)with
 |some (f,pre,post)=>match hh ((pre++args.map (b7 G σ.aH)++post).map (toD σ.objs))with|some aO=>J (C (o.dst.getD 9999) f aO) λr=>aD ((pre++args.map (b7 G σ.aH)++post).all sF||r.flat) (k (σ.put o.dst (.d r)))|none=>none
 |none=>none
def Yp:D->Option (FuncId×List D)
 | .fn (.func f) [] oN=>some (f,oN)| .val (.func (.func f) a b)=>if a.size=0/\b.size=0 then some (f,[])else none
 |_=>none
def KK(f:FuncId)(aO:List D):List (FuncId×(List D->Option D))->Option D
 |[]=>none|(g,F)::r=>if f=g then F aO else KK f aO r
def akt(l:List (FuncId×(List D->Option D)))(v:D)(aO:List D):Option D:=J (Yp v) λp=>KK p.1 (aO++p.2) l
def Yq(t:Tmp):List (Nat×List FuncId)->List FuncId
 |[]=>[]|(d,l)::r=>if t=d then l else Yq t r
def P0(l:List FuncId)(G:df)(C:ly)(σ:aF)(o:Oper)(x:Operand)(args:List Operand)(k:aF->Option β):Option β:=match b7 G σ.aH x,hh ((args.map (b7 G σ.aH)).map (toD σ.objs))with| .d v,some aO=>J (akt (l.map λg=>(g,C (o.dst.getD 9999) g)) v aO) λr=>aD ((args.map (b7 G σ.aH)).all sF||r.flat) (k (σ.put o.dst (.d r)))|_,_=>none
def yP(T:cd)(G:df)(C:ly)(σ:aF)(o:Oper)(x:Operand)(args:List Operand)(k:aF->Option β):Option β:=match Yq (o.dst.getD 9999) T.dyn with|[]=>E0 G C σ o x args k|g::l=>P0 (g::l) G C σ o x args k
def sN(T:cd)(G:df)(C:ly)(σ:aF)(o:Oper)(k:aF->Option β):Option β:=match o.op with| .call ⟨.value x,args,_⟩=>yP T G C σ o x args.toList k|_=>sM T G σ o k
def sO(T:cd)(G:df)(C:ly):List Oper->aF->(aF->Option β)->Option β
 |[],σ,k=>k σ|o::r,σ,k=>sN T G C σ o λaX=>sO T G C r aX k
def wR:List Oper->List (Option (Nat×Bool)×List Oper)
 |[]=>[]
 |o::r=>match wR r with
  |(g,os)::rest=>if g=o.guard then(g,o::os)::rest else(o.guard,[o])::(g,os)::rest
  |[]=>[(o.guard,[o])]
def bE(x:D)(want:Bool)(p:Option D):Option D:=match x with
 | .val (.bool b)=>if b=want then p else some j6
 | .val (.tuple _)=>some j6|_=>none
def yQ{eG:Type}(x:D)(want:Bool)(p q:Option eG):Option eG:=match x with
 | .val (.bool b)=>if b=want then p else q
 | .val (.tuple _)=>q|_=>none
def P1:List Oper->aF->aF
 |[],σ=>σ|o::r,σ=>P1 r (σ.put o.dst (.d j6))
def wS:List Oper->Option Tmp
 |[]=>none|[o]=>o.dst|_::r=>wS r
def dstsOf(os:List Oper):List Tmp:=os.filterMap (·.dst)
def still(o:Oper):Bool:=iG o.op||jk o.op||hk o.op
def wT(ts:List Tmp)(v:D)(σ:aF):aF:=⟨λt=>if t∈ts then .d (ab v (ts.idxOf t))else σ.aH t,σ.objs⟩
def E1(σ:aF):List Tmp->Option (List D)
 |[]=>some []|t::r=>match σ.aH t,E1 σ r with| .d v,some l=>some (v::l)|_,_=>none
def kept(all:Array Oper)(os l:List Oper):List Tmp:=(dstsOf os).filter λt=>l.any λo=>(o.looksAt all).contains t
def Yr{σ:aF}:∀{ts:List Tmp}{l:List D},E1 σ ts=some l->l.length=ts.length/\∀(i:Nat)(t:Tmp),ts[i]?=some t->∃v,l[i]?=some v/\σ.aH t= .d v
 |[],l,h=>by cases h;exact⟨rfl,λi t h=>by simp at h⟩
 |t::r,l,h=>by
  unfold E1 at h;split at h
  case h_2=>cases h
  rename_i v qS aN aq;cases h;have ih:=Yr aq;refine⟨by simp[ih.1],λi u hu=>?_⟩;cases i with|zero=>simp at hu;subst hu;exact⟨v,rfl,aN⟩|succ i=>exact ih.2 i u (by simpa using hu)
def aku{σ:aF}{ts:List Tmp}{l:List D}(h:E1 σ ts=some l){t:Tmp}(aJ:t∈ts):σ.aH t= .d (ab (.agg l) (ts.idxOf t)):=by
 have aa:ts[ts.idxOf t]?=some t:=by have:=List.idxOf_lt_length_of_mem aJ;rw[xab this,List.getElem_idxOf]
 obtain⟨v,ae,ay⟩:=(Yr h).2 _ t aa;rw[ay]
 congr 1
 show v=l.getD _ _;simp[List.getD,ae]
def lz(aO:List Tmp)(σ:aF):aF:=⟨λt=>if t∈aO then .any else σ.aH t,σ.objs⟩
def blind(all:Array Oper)(aO:List Tmp)(l:List Oper):Bool:=l.all λo=>aO.all λd=>!(o.looksAt all).contains d&&o.dst !=some d
def Ys(all:Array Oper)(d cn:Tmp)(os l:List Oper):Bool:=os.all (λo=>still o&&o.dst !=some d)&&blind all ((dstsOf os).filter (·!=cn)) l
def flat(gs:List (Option (Nat×Bool)×List Oper)):List Oper:=gs.flatMap (·.2)
def yR(T:cd)(G:df)(C:ly)(all:Array Oper):List (Option (Nat×Bool)×List Oper)->aF->(aF->Option β)->Option β
 |[],σ,k=>k σ|(none,os)::r,σ,k=>sO T G C os σ λaX=>yR T G C all r aX k
 |(some (j,want),os)::r,σ,k=>match(all[j]?).bind (·.dst),wS os with
  |some d,some cn=>match σ.aH d with
   | .d x=>if Ys all d cn os (flat r)=true then
     J (bE x want (sO T G C os σ λaX=>match aX.aH cn with| .d v=>some v|_=>none)) λv=>yR T G C all r ((lz (dstsOf os) σ).put (some cn) (.d v)) k
    else if os.all (λo=>o.dst !=some d)=true then yQ x want (sO T G C os σ λaX=>yR T G C all r aX k) (yR T G C all r (P1 os σ) k)else none
   |_=>none
  |_,_=>none
def Yt(T:cd)(G:df)(C:ly)(all:Array Oper)(σ:aF)(k:aF->Option β):Option β:=yR T G C all (wR all.toList) σ k
def Yu:Op->Bool
 | .store _ _ _=>true|_=>false
def P2(all:Array Oper)(listed:Array Bool)(i:Nat):Bool:=match all[i]? with|none=>false|some fc=>((waits all i).all λj=>!listed.getD j true&&match all[j]? with|some c3=>c3.after.any λe=>Region.binds .any e&&(e.on==i||(waits all i).contains e.on)|none=>false)&&(List.range all.size).all λj=>j==i||listed.getD j true||(waits all i).contains j||match all[j]? with|some c3=>fc.apart all c3&&!Yu c3.op|none=>true
def Yv(all:Array Oper)(listed:Array Bool)(i:Nat)(σ:aF)(o:Oper):Bool:=match o.op with
 | .load _ (.tmp a)=>match σ.aH a with| .ptr _ _=>P2 all listed i|_=>false
 |_=>false
def yS(all:Array Oper)(listed:Array Bool)(i:Nat):List Oper:=(List.range all.size).filterMap λj=>if j==i||listed.getD j true||(waits all i).contains j then none else all[j]?
def P3(all:Array Oper)(listed:Array Bool)(i:Nat)(aH:Nat->aS)(o:Oper):Bool:=((waits all i).all λj=>!listed.getD j true&&match all[j]? with|some c3=>c3.after.any λe=>Region.binds .any e&&(e.on==i||(waits all i).contains e.on)|none=>false)&&(yS all listed i).all λy=>o.apart all y&&sK aH o y&&(mF o.op++(yS all listed i).flatMap λy=>uC y.op).all λt=>y.dst !=some t
def BY(T:cd)(G:df)(C:ly)(all:Array Oper):List Nat->Array Bool->aF->(aF->Option β)->Option β
 |[],listed,σ,k=>if(Region.ready .any all listed).isEmpty=true then k σ else none
 |i::r,listed,σ,k=>match all[i]? with
  |some o=>if o.guard=none/\(Region.ready .any all listed).contains i=true/\(aiX all listed i||Yv all listed i σ o||P3 all listed i σ.aH o||XD T all listed i)=true then sN T G C σ o λaX=>BY T G C all r (listed.setIfInBounds i true) aX k else none
  |none=>none
def g3(P:Program)(G:df)(C:ly):Prop:=∀d f aO r,C d f aO=some r->fb P G f aO (·=r)
def wU:∀l:List Oper,flat (wR l)=l
 |[]=>rfl
 |o::r=>by
  have ih:=wU r;unfold wR;split;.rename_i g os rest bG;rw[bG]at ih;split<;>simp_all [flat]
  rename_i bG;rw[bG]at ih;simp[flat]at ih;subst ih;rfl
def KL:∀(l:List Oper)(g:Option (Nat×Bool)) (os:List Oper),(g,os)∈wR l->∀o∈os,o.guard=g
 |[],g,os,h=>by cases h
 |o::r,g,os,h=>by
  have ih:=KL r;unfold wR at h;split at h
  .rename_i q4 akv rest bG;split at h
   .rename_i he;rcases xap.1 h with aa|aa
    .cases aa;intro q bQ;rcases xap.1 bQ with rfl|bQ
     .exact he.symm
     exact ih g akv (by rw[bG];simp) q bQ
    exact ih g os (by rw[bG];simp[aa])
   rcases xap.1 h with aa|aa;.cases aa;intro q bQ;simp at bQ;subst bQ;rfl
   exact ih g os (by rw[bG];exact aa)
  simp at h;obtain⟨rfl,rfl⟩:=h;intro q bQ;simp at bQ;subst bQ;rfl
variable{P:Program}{T:cd}{G:df}{C:ly}{σ:aF}{all:Array Oper}
def Yw{α:Type}:∀{a b:List (Option α)} {x y:List α},hh a=some x->hh b=some y->hh (a++b)=some (x++y)
 |[],b,x,y,h,bD=>by cases h;exact bD
 |none::a,b,x,y,h,bD=>by cases h
 |some c::a,b,x,y,h,bD=>by
  simp only[hh,xbw]at h⊢;split at h
  case h_2=>cases h
  rename_i z aa;cases h;rw[Yw aa bD];rfl
def Yx{objs:cw}:∀(l:List D),hh ((l.map aS.d).map (toD objs))=some l
 |[]=>rfl|c::r=>by have:=Yx (objs:=objs) r;have e:toD objs (aS.d c)=some c:=rfl;simp only[xaA,e,hh];rw[this]
def Yy{f:FuncId}{aO:List D}{C:FuncId->List D->Option D}{r:D}:∀{l:List FuncId},KK f aO (l.map λg=>(g,C g))=some r->C f aO=some r
 |[],h=>by cases h
 |g::l,h=>by
  simp only[xaA,KK]at h;split at h;.rename_i e;rw[e];exact h
  exact Yy h
def akw{l:List FuncId}{o:Oper}{x:Operand}{args:List Operand}{k:aF->Option β}{b:β}(h:P0 l G C σ o x args k=some b):E0 G C σ o x args k=some b:=by
 unfold P0 at h;split at h
 case h_2=>cases h
 rename_i v aO aN eF;obtain⟨r,aa,ae⟩:=e5 h;obtain⟨p,ay,a7⟩:=e5 aa;have bZ:=Yy (C:=C (o.dst.getD 9999)) a7;obtain⟨f,oN⟩:=p;have gM:wy (.d v)=some (f,[],oN.map .d):=by
  unfold Yp at ay;split at ay;.cases ay;rfl
  .split at ay;.rename_i gT;cases ay;simp only[wy,xaa gT,xbf]
   cases ay
  cases ay
 unfold E0;rw[aN,gM];simp only[xaH,List.map_append];rw[Yw eF (Yx oN)];simp only;rw[bZ];obtain⟨a9,bk⟩:=k3 ae;have gq:((args.map (b7 G σ.aH))++oN.map aS.d).all sF=(args.map (b7 G σ.aH)).all sF:=by
  rw[List.all_append];have:(oN.map aS.d).all sF=true:=by rw[xas];intro y aK;obtain⟨c,_,rfl⟩:=xaP.1 aK;rfl
  rw[this,xbl]
 rw[gq];exact ae
def akx{o:Oper}{x:Operand}{args:List Operand}{k:aF->Option β}{b:β}(h:yP T G C σ o x args k=some b):E0 G C σ o x args k=some b:=by
 unfold yP at h;split at h;.exact h
 exact akw h
def KM(ch:g3 P G C){dL:cd}{o:Oper}{x:Operand}{args:Array Operand}{dA:Array TypeId}(aL:o.op= .call ⟨.value x,args,dA⟩){k:aF->Option β}{b:β}(h:yP dL G C σ o x args.toList k=some b):c7 P T G o (λaX=>k aX=some b/\aX.objs=σ.objs/\∀t,o.dst≠some t->aX.aH t=σ.aH t) σ:=by
 have dW:hk o.op=true:=by rw[aL];rfl
 rw[nG (uq dW)]
 replace h:=akx h
 unfold E0 at h;unfold jB;rw[aL];simp only;split at h
 case h_2=>cases h
 rename_i f pre post gM;simp only[gM];split at h
 case h_2=>cases h
 rename_i aO eF;obtain⟨r,aa,ae⟩:=e5 h;obtain⟨ae,ay⟩:=k3 ae;refine⟨aO,aO,(·=r),eF,q1.refl _,ch _ _ _ _ aa,⟨r,rfl⟩,?_,?_⟩
 .rcases xbB.1 ae with ae|ae;.exact .inr ae
  exact .inl (by rintro _ rfl;exact ae)
 rintro _ rfl;refine⟨ay,by simp,?_⟩;intro t aJ;cases aA:o.dst with|none=>rfl|some d=>rw[aA]at aJ;simp only[aF.put];exact cV _ _ (λe=>aJ (by rw[e]))
def Yz(ch:g3 P G C){o:Oper}{k:aF->Option β}{b:β}(h:sN T G C σ o k=some b):c7 P T G o (λaX=>k aX=some b) σ:=by
 unfold sN at h;split at h;.exact qg (λ_ h=>h.1) (KM ch (by assumption) h)
 obtain⟨aX,aa,ae⟩:=yO h;unfold c7;rw[aa];exact ae
def ri{dst:Option Tmp}{r:aS}{t:Tmp}(aJ:dst≠some t):(σ.put dst r).aH t=σ.aH t:=by cases dst with|none=>rfl|some d=>simp only[aF.put];exact cV _ _ (λe=>aJ (by rw[e]))
def YA(ch:g3 P G C){o:Oper}(aE:still o=true){k:aF->Option β}{b:β}(h:sN T G C σ o k=some b):c7 P T G o (λaX=>k aX=some b/\aX.objs=σ.objs/\∀t,o.dst≠some t->aX.aH t=σ.aH t) σ:=by
 unfold sN at h;split at h;.exact KM ch (by assumption) h
 rename_i YB;obtain⟨aX,aa,ae⟩:=yO h;unfold c7;rw[aa];have aky:g2 T (b7 G σ.aH) σ.objs (o.dst.getD 9999) o.op=none:=by
  unfold still at aE;simp only[xbb]at aE;rcases aE with(aE|aE)|aE
  .exact(BG aE).2
  .exact BH aE
  exact(Pk aE).2.2
 unfold gL at aa;split at aa;.cases aa;exact⟨ae,by simp,λt aJ=>ri aJ⟩
 split at aa;.cases aa;exact⟨ae,by simp,λt aJ=>ri aJ⟩
 rw[aky]at aa;cases aa
def mK{l:List Oper}:∀{σ:aF}{K K':aF->Prop},(∀σ,K σ->K' σ)->fI P T G all l K σ->fI P T G all l K' σ:=by
 induction l with
 |nil=>intro σ K K' al h;exact al _ h
 |cons o l ih=>intro σ K K' al h;exact EJ (λaX bD=>ih al bD) h
def P4{l r:List Oper}:∀{σ:aF}{K:aF->Prop},fI P T G all l (fI P T G all r K) σ->fI P T G all (l++r) K σ:=by
 induction l with
 |nil=>intro σ K h;exact h
 |cons o l ih=>intro σ K h;exact EJ (λaX bD=>ih bD) h
def oO(σ τ:aF):Prop:=σ.objs=τ.objs/\∀t,τ.aH t= .any\/σ.aH t=τ.aH t
theorem oO.refl(σ:aF):oO σ σ:=⟨rfl,λ_=> .inr rfl⟩
def oO.trans{σ τ yG:aF}(h:oO σ τ)(bD:oO τ yG):oO σ yG:=by
 refine⟨h.1.trans bD.1,λt=>?_⟩;rcases bD.2 t with ae|ae
 .exact .inl ae
 rcases h.2 t with aa|aa;.exact .inl (ae▸aa)
 exact .inr (aa.trans ae)
def oO.BZ{σ τ:aF}(h:oO σ τ):gU σ τ:=by
 obtain⟨s,o⟩:=σ;obtain⟨s',o'⟩:=τ;obtain⟨aa,ae⟩:=h;simp only at aa ae;subst aa;intro m fr ρ ac w cU;refine⟨m,ρ,Mem.le_refl m,⟨cU.mem,cU.frame,cU.apart,cU.one,?_,cU.objs,cU.own,cU.sep⟩,λk al ao=>⟨ao,rfl⟩⟩;intro t;rcases ae t with h|h;.simp only[h];exact .any _
 have:=cU.aH t;simp only at this⊢;rw[<-h];exact this
def YC{d:Tmp}{r:aS}:∀{l:List Oper}{σ:aF}{K:aF->Prop},(∀o∈l,d∉o.looksAt all/\o.dst≠some d)->fI P T G all l K (σ.put (some d) r)=fI P T G all l (λaX=>K (aX.put (some d) r)) σ
 |[],σ,K,h=>rfl
 |o::l,σ,K,h=>by
  have ar:=h o (by simp);have ih:∀{σ:aF},fI P T G all l K (σ.put (some d) r)=fI P T G all l (λaX=>K (aX.put (some d) r)) σ:=YC λo' oK=>h o' (by simp[oK]);unfold fI;rw[hs,hs,oF (by rintro _ ⟨⟩;exact ar.1)];cases hw:jN all σ o with
  |none=>rfl
  |some w=>
   cases w with
   |true=>simp only;rw[jC (all:=all) (by rintro _ ⟨⟩;exact ar.1) (by rintro _ ⟨⟩;exact ar.2)];simp only[ih]
   |false=>simp only;rw[<-ih,put_comm (by rintro _ ⟨⟩;exact ar.2)]
def akz{d:Tmp}{a:aS}{l:List Oper}{σ:aF}{K:aF->Prop}(hj:∀σ τ,oO σ τ->K τ->K σ)(aq:∀o∈l,d∉o.looksAt all/\o.dst≠some d)(h:fI P T G all l K (σ.put (some d) .any)):fI P T G all l K (σ.put (some d) a):=by
 rw[YC aq]at h⊢;refine mK (λaX bD=>hj _ _ ?_ bD) h;refine⟨rfl,λt=>?_⟩;by_cases aJ:t=d;.subst aJ;exact .inl (by simp[aF.put])
 exact .inr (by simp[aF.put,cV _ _ aJ])
def P5{l:List Oper}{K:aF->Prop}(hj:∀σ τ,oO σ τ->K τ->K σ):∀(aO:List Tmp){σ τ:aF},(∀d∈aO,∀o∈l,d∉o.looksAt all/\o.dst≠some d)->(∀t,t∉aO->σ.aH t=τ.aH t)->(∀d∈aO,τ.aH d= .any\/σ.aH d=τ.aH d)->σ.objs=τ.objs->fI P T G all l K τ->fI P T G all l K σ
 |[],σ,τ,_,aa,ae,ay,h=>by
  have:σ=τ:=by
   cases σ;cases τ;simp only at aa ay;subst ay
   congr 1
   funext t
   exact aa t (by simp)
  rw[this];exact h
 |d::aO,σ,τ,ao,aa,ae,ay,h=>by
  by_cases aA:τ.aH d= .any
  .have e:τ=τ.put (some d) .any:=by
    cases τ;simp only[aF.put]
    congr 1
    funext t
    by_cases aJ:t=d;.subst aJ;simp only[eX];exact aA
    rw[cV _ _ aJ]
   rw[e]at h;have bD:=akz (a:=σ.aH d) hj (λo aL=>ao d (by simp) o aL) h;refine P5 (τ:=τ.put (some d) (σ.aH d)) hj aO (λqn ja=>ao qn (by simp[ja])) ?_ ?_ ay bD
   .intro t aJ;by_cases uE:t=d;.subst uE;simp[aF.put]
    simp only[aF.put,cV _ _ uE];exact aa t (by simp[uE,aJ])
   intro qn ja;by_cases uE:qn=d;.subst uE;simp[aF.put]
   simp only[aF.put,cV _ _ uE];exact ae qn (by simp[ja])
  refine P5 hj aO (λqn ja=>ao qn (by simp[ja])) ?_ (λqn ja=>ae qn (by simp[ja])) ay h;intro t aJ;by_cases uE:t=d
  .subst uE;rcases ae t (by simp)with a7|a7
   .exact absurd a7 aA
   exact a7
  exact aa t (by simp[uE,aJ])
def YD(ch:g3 P G C):∀{os:List Oper}{σ:aF}{k:aF->Option β}{b:β},(∀o∈os,o.guard=none)->sO T G C os σ k=some b->fI P T G all os (λaX=>k aX=some b) σ
 |[],σ,k,b,_,h=>h|o::os,σ,k,b,bG,h=>by unfold fI er;rw[bG o (by simp)];exact qg (λaX bD=>YD ch (λo aL=>bG o (by simp[aL])) bD) (Yz ch h)
def YE(ch:g3 P G C){j:Nat}{want:Bool}{d:Tmp}(aA:(all[j]?).bind (·.dst)=some d):∀{os:List Oper}{σ:aF}{k:aF->Option β}{b:β},(∀o∈os,o.guard=some (j,want))->(∀o∈os,still o=true/\o.dst≠some d)->σ.aH d= .d (.val (.bool want))->sO T G C os σ k=some b->fI P T G all os (λaX=>k aX=some b/\aX.objs=σ.objs/\∀t,t∉dstsOf os->aX.aH t=σ.aH t) σ
 |[],σ,k,b,_,_,_,h=>⟨h,rfl,λ_ _=>rfl⟩
 |o::os,σ,k,b,bG,aE,hw,h=>by
  have ar:=aE o (by simp);unfold fI er;rw[bG o (by simp)];simp only[aA,hw,xav];refine qg ?_ (YA ch ar.1 h);rintro aX ⟨aa,ae,ay⟩;refine mK ?_ (YE ch aA (λo aL=>bG o (by simp[aL])) (λo aL=>aE o (by simp[aL])) (by rw[ay d ar.2];exact hw) aa);rintro rb ⟨a9,bk,b1⟩;refine⟨a9,bk.trans ae,?_⟩;intro t aJ;have pz:t∉dstsOf os:=λan=>aJ (by unfold dstsOf at an⊢;simp only[xbK];cases o.dst<;>simp[an])
  have yU:o.dst≠some t:=λan=>aJ (by unfold dstsOf;simp[an]);rw[b1 t pz,ay t yU]
def E2{j:Nat}{want:Bool}{d:Tmp}(aA:(all[j]?).bind (·.dst)=some d):∀{os:List Oper}{σ:aF},(∀o∈os,o.guard=some (j,want))->(∀o∈os,o.dst≠some d)->(σ.aH d= .d (.val (.bool (!want)))\/∃vs,σ.aH d= .d (.val (.tuple vs)))->fI P T G all os (λaX=>aX.objs=σ.objs/\(∀t,t∉dstsOf os->aX.aH t=σ.aH t)/\∀cn,wS os=some cn->aX.aH cn= .d j6) σ
 |[],σ,_,_,_=>⟨rfl,λ_ _=>rfl,by intro cn h;cases h⟩
 |o::os,σ,bG,aE,hw=>by
  have ar:=aE o (by simp);unfold fI;have key:fI P T G all os (λaX=>aX.objs=σ.objs/\(∀t,t∉dstsOf (o::os)->aX.aH t=σ.aH t)/\∀cn,wS (o::os)=some cn->aX.aH cn= .d j6) (σ.put o.dst (.d (.val (.tuple #[])))):=by
   have E3:(σ.put o.dst (.d (.val (.tuple #[])))).aH d= .d (.val (.bool (!want)))\/∃vs,(σ.put o.dst (.d (.val (.tuple #[])))).aH d= .d (.val (.tuple vs)):=by rw[ri ar];exact hw
   refine mK ?_ (E2 aA (λo aL=>bG o (by simp[aL])) (λo aL=>aE o (by simp[aL])) E3);rintro aX ⟨aa,ae,ay⟩;refine⟨aa.trans (by simp),?_,?_⟩
   .intro t aJ;have pz:t∉dstsOf os:=λan=>aJ (by
     unfold dstsOf at an⊢;simp only[xbK];cases o.dst<;>simp[an])
    have yU:o.dst≠some t:=λan=>aJ (by unfold dstsOf;simp[an]);rw[ae t pz,ri yU]
   intro cn aq;cases os with|nil=>simp only[wS]at aq;rw[ae cn (by simp[dstsOf]),aq];simp[aF.put,j6]|cons q aCh=>exact ay cn aq
  unfold er;rw[bG o (by simp)];simp only[aA];rcases hw with hw|⟨vs,hw⟩
  .simp only[hw];rw[xac (by cases want<;>simp)];exact key
  simp only[hw];exact key
def P6{j:Nat}{want:Bool}{d:Tmp}(aA:(all[j]?).bind (·.dst)=some d):∀{os:List Oper}{σ:aF},(∀o∈os,o.guard=some (j,want))->(∀o∈os,o.dst≠some d)->(σ.aH d= .d (.val (.bool (!want)))\/∃vs,σ.aH d= .d (.val (.tuple vs)))->fI P T G all os (λaX=>aX.objs=σ.objs/\(∀t,t∉dstsOf os->aX.aH t=σ.aH t)/\∀t∈dstsOf os,aX.aH t= .d j6) σ
 |[],σ,_,_,_=>⟨rfl,λ_ _=>rfl,by intro t h;cases h⟩
 |o::os,σ,bG,aE,hw=>by
  have ar:=aE o (by simp);unfold fI;have key:fI P T G all os (λaX=>aX.objs=σ.objs/\(∀t,t∉dstsOf (o::os)->aX.aH t=σ.aH t)/\∀t∈dstsOf (o::os),aX.aH t= .d j6) (σ.put o.dst (.d (.val (.tuple #[])))):=by
   have E3:(σ.put o.dst (.d (.val (.tuple #[])))).aH d= .d (.val (.bool (!want)))\/∃vs,(σ.put o.dst (.d (.val (.tuple #[])))).aH d= .d (.val (.tuple vs)):=by rw[ri ar];exact hw
   refine mK ?_ (P6 aA (λo aL=>bG o (by simp[aL])) (λo aL=>aE o (by simp[aL])) E3);rintro aX ⟨aa,ae,ay⟩;refine⟨aa.trans (by simp),?_,?_⟩
   .intro t aJ;have pz:t∉dstsOf os:=λan=>aJ (by
     unfold dstsOf at an⊢;simp only[xbK];cases o.dst<;>simp[an])
    have yU:o.dst≠some t:=λan=>aJ (by unfold dstsOf;simp[an]);rw[ae t pz,ri yU]
   intro t aJ;by_cases pz:t∈dstsOf os;.exact ay t pz
   have kM:o.dst=some t:=by
    unfold dstsOf at aJ pz;simp only[xbK]at aJ;cases aL:o.dst with
    |none=>rw[aL]at aJ;exact absurd aJ pz
    |some u=>
     rw[aL]at aJ;rcases xap.1 aJ with rfl|h
     .rfl
     exact absurd h pz
   rw[ae t pz,kM];simp[aF.put,j6]
  unfold er;rw[bG o (by simp)];simp only[aA];rcases hw with hw|⟨vs,hw⟩
  .simp only[hw];rw[xac (by cases want<;>simp)];exact key
  simp only[hw];exact key
def akA(ch:g3 P G C){o:Oper}{k:aF->Option β}{b:β}(h:sN T G C σ o k=some b):c7 P T G o (λaX=>k aX=some b/\∀t,o.dst≠some t->aX.aH t=σ.aH t) σ:=by
 unfold sN at h;split at h;.exact qg (λ_ h=>⟨h.1,h.2.2⟩) (KM ch (by assumption) h)
 obtain⟨aX,aa,ae⟩:=yO h;unfold c7;rw[aa];refine⟨ae,λt aJ=>?_⟩;unfold gL at aa;split at aa;.cases aa;exact ri aJ
 split at aa;.cases aa;exact ri aJ
 split at aa;.cases aa;exact ri aJ
 cases aa
def YF(ch:g3 P G C){j:Nat}{want:Bool}{d:Tmp}(aA:(all[j]?).bind (·.dst)=some d):∀{os:List Oper}{σ:aF}{k:aF->Option β}{b:β},(∀o∈os,o.guard=some (j,want))->(∀o∈os,o.dst≠some d)->σ.aH d= .d (.val (.bool want))->sO T G C os σ k=some b->fI P T G all os (λaX=>k aX=some b) σ
 |[],σ,k,b,_,_,_,h=>h|o::os,σ,k,b,bG,aE,hw,h=>by unfold fI er;rw[bG o (by simp)];simp only[aA,hw,xav];refine qg ?_ (akA ch h);rintro aX ⟨aa,ay⟩;exact YF ch aA (λo aL=>bG o (by simp[aL])) (λo aL=>aE o (by simp[aL])) (by rw[ay d (aE o (by simp))];exact hw) aa
def P7{j:Nat}{want:Bool}{d:Tmp}(aA:(all[j]?).bind (·.dst)=some d){K:aF->Prop}:∀{os:List Oper}{σ:aF},(∀o∈os,o.guard=some (j,want))->(∀o∈os,o.dst≠some d)->(σ.aH d= .d (.val (.bool (!want)))\/∃vs,σ.aH d= .d (.val (.tuple vs)))->K (P1 os σ)->fI P T G all os K σ
 |[],σ,_,_,_,h=>h
 |o::os,σ,bG,aE,hw,h=>by
  have ar:=aE o (by simp);have E3:(σ.put o.dst (.d (.val (.tuple #[])))).aH d= .d (.val (.bool (!want)))\/∃vs,(σ.put o.dst (.d (.val (.tuple #[])))).aH d= .d (.val (.tuple vs)):=by rw[ri ar];exact hw
  have key:fI P T G all os K (σ.put o.dst (.d (.val (.tuple #[])))):=P7 aA (λo aL=>bG o (by simp[aL])) (λo aL=>aE o (by simp[aL])) E3 h;unfold fI er;rw[bG o (by simp)];simp only[aA];rcases hw with hw|⟨vs,hw⟩
  .simp only[hw];rw[xac (by cases want<;>simp)];exact key
  simp only[hw];exact key
def YG:∀{os:List Oper}{cn:Tmp},wS os=some cn->cn∈dstsOf os
 |[],cn,h=>by cases h
 |[o],cn,h=>by simp only[wS]at h;simp[dstsOf,h]|o::q::r,cn,h=>by have:=YG (os:=q::r) h;unfold dstsOf at this⊢;rw[xbK];cases o.dst<;>simp[this]
def B0(ch:g3 P G C){K:aF->Prop}(hj:∀σ τ,oO σ τ->K τ->K σ):∀{gs:List (Option (Nat×Bool)×List Oper)} {σ:aF} {k:aF->Option β} {b:β},(∀g∈gs,∀o∈g.2,o.guard=g.1)->(∀aX,k aX=some b->K aX)->yR T G C all gs σ k=some b->fI P T G all (flat gs) K σ
 |[],σ,k,b,_,al,h=>al _ h|(none,os)::r,σ,k,b,bG,al,h=>by show fI P T G all (os++flat r) K σ;refine P4 (mK ?_ (YD ch (λo aL=>bG (none,os) (by simp) o aL) h));intro aX bD;exact B0 ch hj (λg hm=>bG g (by simp[hm])) al bD
 |(some (j,want),os)::r,σ,k,b,bG,al,h=>by
  show fI P T G all (os++flat r) K σ;unfold yR at h;split at h
  case h_2=>cases h
  rename_i d cn aA yV;split at h
  case h_2=>cases h
  rename_i x ah;split at h
  case isFalse=>
   split at h
   case isFalse=>cases h
   rename_i gl;simp only[xas,bne_iff_ne,ne_eq]at gl;have l5:∀o∈os,o.guard=some (j,want):=λo aL=>bG (some (j,want),os) (by simp) o aL;unfold yQ at h;refine P4 ?_;split at h
   .rename_i nC;split at h;.rename_i ao;subst ao;exact mK (λaX bD=>B0 ch hj (λg hm=>bG g (by simp[hm])) al bD) (YF ch aA l5 gl ah h)
    rename_i ao;exact P7 aA l5 gl (.inl (by rw[ah];cases nC<;>cases want<;>simp_all)) (B0 ch hj (λg hm=>bG g (by simp[hm])) al h)
   .exact P7 aA l5 gl (.inr ⟨_,ah⟩) (B0 ch hj (λg hm=>bG g (by simp[hm])) al h)
   cases h
  rename_i bs;simp only[Ys,xak,xas,bne_iff_ne,ne_eq,blind,xbR,Bool.not_eq_true',List.contains_eq_mem,decide_eq_false_iff_not]at bs;obtain⟨P8,akB⟩:=bs;obtain⟨v,aa,ae⟩:=e5 h;have l5:∀o∈os,o.guard=some (j,want):=λo aL=>bG (some (j,want),os) (by simp) o aL;have rest:=B0 ch hj (λg hm=>bG g (by simp[hm])) al ae;have fin:∀aX:aF,aX.objs=σ.objs->(∀t,t∉dstsOf os->aX.aH t=σ.aH t)->aX.aH cn= .d v->fI P T G all (flat r) K aX:=by
   intro aX aP a2 bS;refine P5 hj ((dstsOf os).filter (·!=cn)) ?_ ?_ ?_ ?_ rest;.intro qn ja o aL;have E4:=xbR.1 ja;exact akB o aL qn ⟨E4.1,by simpa using E4.2⟩
   .intro t aJ;simp only[xbR,bne_iff_ne,ne_eq,not_and,Decidable.not_not]at aJ;by_cases m8:t=cn;.subst m8;simp[aF.put,bS]
    have h6:t∉dstsOf os:=λan=>m8 (aJ an);simp only[aF.put,cV _ _ m8,lz,h6,xaz];exact a2 t h6
   .intro qn ja;have E4:=xbR.1 ja;have cv:qn≠cn:=by simpa using E4.2
    refine .inl ?_;simp only[aF.put,cV _ _ cv,lz,E4.1,xav]
   simp[aF.put,lz,aP]
  unfold bE at aa;refine P4 ?_;split at aa
  .rename_i nC;split at aa
   .rename_i ao;subst ao;refine mK ?_ (YE ch aA l5 P8 ah aa);rintro aX ⟨a9,bk,b1⟩;refine fin aX bk b1 ?_;split at a9;.rename_i u hu;cases a9;exact hu
    cases a9
   rename_i ao;cases aa;refine mK ?_ (E2 aA l5 (λo aL=>(P8 o aL).2) (.inl (by rw[ah];cases nC<;>cases want<;>simp_all)));rintro aX ⟨a9,bk,b1⟩;exact fin aX a9 bk (b1 cn yV)
  .rename_i vs;cases aa;refine mK ?_ (E2 aA l5 (λo aL=>(P8 o aL).2) (.inr ⟨_,ah⟩));rintro aX ⟨a9,bk,b1⟩;exact fin aX a9 bk (b1 cn yV)
  cases aa
def akC{i:Nat}{fc:Oper}{listed:Array Bool}(aj:all[i]?=some fc)(h:P2 all listed i=true):(∀j c3,j∈waits all i->all[j]?=some c3->∃e∈c3.after,Region.binds .any e=true/\(e.on=i\/e.on∈waits all i))/\(∀j,j∈waits all i->listed.getD j true=false)/\ ∀j c3,all[j]?=some c3->j≠i->listed.getD j true=false->j∉waits all i->fc.apart all c3=true/\∀t a x,c3.op≠ .store t a x:=by
 simp only[P2,aj,xak,xas,xbI]at h;refine⟨λj c3 aI jn=>?_,λj aI=>by simpa using(h.1 j aI).1,λj c3 jn cv oJ h6=>?_⟩;.have aa:=(h.1 j aI).2;simp only[jn]at aa;obtain⟨e,he,ao⟩:=Array.any_eq_true'.1 aa;simp only[xak,xbb,xbF,List.contains_iff_mem]at ao;exact⟨e,he,ao.1,ao.2⟩
 have aa:=h.2 j (xaT.1 jn).1;simp only[jn,xbb,xbF,cv,false_or,oJ,xan,xak,List.contains_iff_mem,h6]at aa;refine⟨aa.1,?_⟩;intro t a x he;rw[he]at aa;simp[Yu]at aa
def akD{i:Nat}{fc:Oper}{listed:Array Bool}{aH:Nat->aS}(h:P3 all listed i aH fc=true):(∀j c3,j∈waits all i->all[j]?=some c3->∃e∈c3.after,Region.binds .any e=true/\(e.on=i\/e.on∈waits all i))/\(∀j,j∈waits all i->listed.getD j true=false)/\ ∀j c3,all[j]?=some c3->j≠i->listed.getD j true=false->j∉waits all i->fc.apart all c3=true/\sK aH fc c3=true/\(∀t∈mF fc.op++(yS all listed i).flatMap (λy=>uC y.op),c3.dst≠some t)/\∀t∈uC c3.op,t∈mF fc.op++(yS all listed i).flatMap (λy=>uC y.op):=by
 simp only[P3,xak,xas]at h;refine⟨λj c3 aI jn=>?_,λj aI=>by simpa using(h.1 j aI).1,λj c3 jn cv oJ h6=>?_⟩;.have aa:=(h.1 j aI).2;simp only[jn]at aa;obtain⟨e,he,ao⟩:=Array.any_eq_true'.1 aa;simp only[xak,xbb,xbF,List.contains_iff_mem]at ao;exact⟨e,he,ao.1,ao.2⟩
 have hm:c3∈yS all listed i:=by
  unfold yS;rw[List.mem_filterMap];refine⟨j,by simpa using(xaT.1 jn).1,?_⟩;have:(j==i||listed.getD j true||(waits all i).contains j)=false:=by simp only[Bool.or_eq_false_iff,beq_eq_false_iff_ne,ne_eq];exact⟨⟨cv,oJ⟩,by simpa using h6⟩
  rw[this];simpa using jn
 obtain⟨aa,ae⟩:=h.2 c3 hm;refine⟨aa.1,aa.2,λt aJ=>by simpa using ae t aJ,λt aJ=>List.mem_append_right _ (List.mem_flatMap.2 ⟨c3,hm,aJ⟩)⟩
def P9(ch:g3 P G C){k:aF->Option β}{b:β}:∀(ord:List Nat)(listed:Array Bool)(σ:aF),BY T G C all ord listed σ k=some b->jl P T G all (λaX=>k aX=some b) ord.length listed σ
 |[],listed,σ,h=>by
  unfold BY at h;split at h;.rename_i aw;exact⟨List.isEmpty_iff.1 aw,h⟩
  cases h
 |i::r,listed,σ,h=>by
  unfold BY at h;split at h
  case h_2=>cases h
  rename_i o aj;split at h
  case isFalse=>cases h
  rename_i an;obtain⟨bG,aw,a8⟩:=an;have H:hK P T G all i (jl P T G all (λaX=>k aX=some b) r.length (listed.setIfInBounds i true)) σ:=by unfold hK;simp only[aj];unfold er;simp only[bG];exact qg (λaX bD=>P9 ch r _ aX bD) (Yz ch h)
  rcases xbB.1 a8 with a8|a8
  case inr=>obtain⟨bV,bN,cC⟩:=Pr aj a8;exact Pq aj bV r.length listed σ bN cC (by simpa using aw) (.inr trivial) H
  rcases xbB.1 a8 with a8|a8
  case inr=>obtain⟨bV,bN,cC⟩:=akD a8;exact aj1 aj bG bV (s0:=σ.aH) (L:=mF o.op++(yS all listed i).flatMap (λy=>uC y.op)) (λt aJ=>xbP _ aJ) r.length listed σ (λ_ _=>rfl) bN cC (by simpa using aw) H
  rcases xbB.1 a8 with a8|a8;.obtain⟨bV,bN,cC⟩:=aiY aj a8;exact aiW aj bV r.length listed σ bN cC (by simpa using aw) (.inr trivial) H
  unfold Yv at a8;split at a8
  case h_2=>cases a8
  rename_i t a aL;split at a8
  case h_2=>cases a8
  rename_i cN off aE;obtain⟨bV,bN,cC⟩:=akC aj a8;exact ajF aj aL bG bV r.length listed σ aE bN cC (by simpa using aw) H
def akE(ch:g3 P G C){K:aF->Prop}(hj:∀σ τ,oO σ τ->K τ->K σ){k:aF->Option β}{b:β}(al:∀aX,k aX=some b->K aX)(h:Yt T G C all σ k=some b):fI P T G all all.toList K σ:=by
 have:=B0 (P:=P) ch hj (λg hm o aL=>KL _ _ _ hm o aL) al h
 rwa [wU]at this
end
inductive qo where
 |any
 |d
 |eY (f:FuncId)
 |fd (f:FuncId) (m:Nat)
 |dV (off:Nat)
 |ptr (k:Key) (off:Nat)
 |row (k:Key)
 |map (k:Key)
 |sub (k:Key) (cN:Nat)
inductive k5 where
 |b (s:qo)
 |fn (f:Fn) (first cap:List qo)
 |agg (cs:List qo)
 |aR (cs:List qo)
inductive lA where
 |dead
 |box (cs:List k5)
 |row (k:Nat)
 |map
inductive wV where
 |slot (t K n:Nat)
 |box (k i K n:Nat)
 |all (t cN:Nat)
structure rj where
 aH:List (Nat×k5)
 objs:List (Key×lA)
 pA:List wV
def I(ls:List D)(n:Nat):D:=ls.getD n j6
def Qa:D->Nat
 | .val (.int _ n)=>n.toNat|_=>0
def wW(ls:List D):qo->Nat->aS×Nat
 | .any,n=>(.any,n)| .d,n=>(.d (I ls n),n+1)| .eY f,n=>(.d (.val (.func (.func f) #[] #[])),n)| .fd f m,n=>(.d (.fn (.func f) [] ((List.range m).map λi=>I ls (n+i))),n+m)| .dV off,n=>(.dV (k4 (I ls n)) off,n+1)| .ptr k off,n=>(.ptr k off,n)| .row k,n=>(.row k,n)| .map k,n=>(.map k,n)| .sub k cN,n=>(.sub k cN (Qa (I ls n)) (Qa (I ls (n+1))),n+2)
def oP(ls:List D):List qo->Nat->List aS×Nat
 |[],n=>([],n)|s::r,n=>((wW ls s n).1::(oP ls r (wW ls s n).2).1,(oP ls r (wW ls s n).2).2)
def pB(ls:List D):k5->Nat->aS×Nat
 | .b s,n=>wW ls s n| .fn f first cap,n=>(.fn f (oP ls first n).1 (oP ls cap (oP ls first n).2).1,(oP ls cap (oP ls first n).2).2)
 | .agg cs,n=>(.agg (oP ls cs n).1,(oP ls cs n).2)| .aR cs,n=>(.aR (oP ls cs n).1,(oP ls cs n).2)
def rk(ls:List D):List k5->Nat->List aS×Nat
 |[],n=>([],n)|s::r,n=>((pB ls s n).1::(rk ls r (pB ls s n).2).1,(rk ls r (pB ls s n).2).2)
def yW(ls:List D):lA->Nat->cP×Nat
 | .dead,n=>(.dead,n)| .box cs,n=>(.box (rk ls cs n).1,(rk ls cs n).2)| .row k,n=>(.row k (af (I ls n)),n+1)| .map,n=>(.map (gF (I ls n)),n+1)
def wX(ls:List D):List (Nat×k5)->Nat->List (Nat×aS)×Nat
 |[],n=>([],n)|(t,s)::r,n=>((t,(pB ls s n).1)::(wX ls r (pB ls s n).2).1,(wX ls r (pB ls s n).2).2)
def oQ(ls:List D):List (Key×lA)->Nat->List (Key×cP)×Nat
 |[],n=>([],n)|(t,s)::r,n=>((t,(yW ls s n).1)::(oQ ls r (yW ls s n).2).1,(oQ ls r (yW ls s n).2).2)
def restore(fV:rj)(ls:List D):aF:=XM (wX ls fV.aH 0).1 (oQ ls fV.objs (wX ls fV.aH 0).2).1
def YH:aS->qo->List (Key×Key)
 | .ptr k _,.ptr br _=>[(br,k)]| .row k,.row br=>[(br,k)]| .map k,.map br=>[(br,k)]| .sub k _ _ _,.sub br _=>[(br,k)]|_,_=>[]
def E5:List aS->List qo->List (Key×Key)
 |x::xs,s::gW=>YH x s++E5 xs gW|_,_=>[]
def YI:aS->k5->List (Key×Key)
 |x,.b s=>YH x s| .fn _ as jj,.fn _ gW ts=>E5 as gW++E5 jj ts| .agg cs,.agg gW=>E5 cs gW| .aR cs,.aR gW=>E5 cs gW|_,_=>[]
def KN:List aS->List k5->List (Key×Key)
 |x::xs,s::gW=>YI x s++KN xs gW|_,_=>[]
def YJ(σ:aF):List (Nat×k5)->List (Key×Key)
 |[]=>[]|(t,s)::r=>YI (σ.aH t) s++YJ σ r
def B1(σ:aF):List (Key×lA)->List (Key×Key)->List (Key×Key)
 |[],cf=>cf|(k,.box gW)::r,cf=>match σ.objs (fU cf k)with|some (.box xs)=>B1 σ r (cf++KN xs gW)|_=>B1 σ r cf
 |_::r,cf=>B1 σ r cf
def KO(cf:List (Key×Key))(ks:List Key):aS->qo->Option (List D)
 |_,.any=>some []|x,.d=>(Kq x).map λa=>[a]| .d (.val (.func (.func f) a b)),.eY kn=>if f=kn/\a.size=0/\b.size=0 then some []else none
 | .d (.fn (.func kn) first oN),.fd f m=>if kn=f/\first.isEmpty=true/\oN.length=m then some oN else none
 | .dV cs off,.dV Qb=>if off=Qb then some [.agg cs]else none
 | .ptr k off,.ptr br Qb=>if k=fU cf br/\off=Qb/\ks.contains br then some []else none
 | .row k,.row br=>if k=fU cf br/\ks.contains br then some []else none
 | .map k,.map br=>if k=fU cf br/\ks.contains br then some []else none
 | .sub k cN i len,.sub br akF=>if k=fU cf br/\cN=akF/\ks.contains br then some [.val (.int .i64 (i:Nat)),.val (.int .i64 (len:Nat))]else none
 |_,_=>none
def uF(x y:Option (List D)):Option (List D):=match x,y with|some a,some b=>some (a++b)|_,_=>none
def B2(cf:List (Key×Key))(ks:List Key):List aS->List qo->Option (List D)
 |[],[]=>some []|x::xs,s::gW=>uF (KO cf ks x s) (B2 cf ks xs gW)|_,_=>none
def KP(cf:List (Key×Key))(ks:List Key):aS->k5->Option (List D)
 |x,.b s=>KO cf ks x s| .fn (.func f) as jj,.fn (.func kn) gW ts=>if f=kn then uF (B2 cf ks as gW) (B2 cf ks jj ts)else none
 | .agg cs,.agg gW=>B2 cf ks cs gW| .aR cs,.aR gW=>B2 cf ks cs gW|_,_=>none
def KQ(cf:List (Key×Key))(ks:List Key):List aS->List k5->Option (List D)
 |[],[]=>some []|x::xs,s::gW=>uF (KP cf ks x s) (KQ cf ks xs gW)|_,_=>none
def Qc(cf:List (Key×Key))(ks:List Key):Option cP->lA->Option (List D)
 |some _,.dead=>some []|some (.box xs),.box gW=>KQ cf ks xs gW|some (.row k es),.row br=>if k=br then some [.ak k es]else none
 |some (.map es),.map=>some [.mp es]|_,_=>none
def Qd(cf:List (Key×Key))(ks:List Key)(σ:aF):List (Nat×k5)->Option (List D)
 |[]=>some []|(t,s)::r=>uF (KP cf ks (σ.aH t) s) (Qd cf ks σ r)
def KR(cf:List (Key×Key))(ks:List Key)(σ:aF):List (Key×lA)->Option (List D)
 |[]=>some []|(k,s)::r=>uF (Qc cf ks (σ.objs (fU cf k)) s) (KR cf ks σ r)
section
variable{β:Type}
def oR:List wV->aF->(aF->Option β)->Option β
 |[],σ,k=>k σ
 | .slot t K n::r,σ,k=>match σ.aH t,σ.objs K with
  | .d a,none=>if K<10000 then aD (ma a) (oR r ⟨cl σ.aH t (.row K),cl σ.objs K (some (.row n []))⟩ k)else none
  |_,_=>oR r σ k
 | .box cN i K n::r,σ,k=>match σ.objs cN with
  |some (.box xs)=>match xs[i]?,σ.objs K with
   |some (.d a),none=>if K<10000 then aD (ma a) (oR r ⟨σ.aH,cl (cl σ.objs cN (some (.box (xs.set i (.row K))))) K (some (.row n []))⟩ k)else none
   |_,_=>oR r σ k
  |_=>oR r σ k
 | .all t cN::r,σ,k=>match σ.aH t with
  | .row K=>match σ.objs K with
   |some (.row n es)=>if n=cN then oR r ⟨cl σ.aH t (.sub K n 0 es.length),σ.objs⟩ k else none
   |_=>oR r σ k
  |_=>oR r σ k
def B3:lA->Bool
 | .box _=>true| .row _=>true| .map=>true|_=>false
def YK(ib:List Key)(cf:List (Key×Key))(objs:List (Key×lA)):Bool:=objs.all (λp=>decide (p.1<10000)||ib.contains p.1)&&ib.all (λk=>fU cf k==k&&objs.any λp=>p.1==k&&B3 p.2)&&decide ((objs.map (·.1)).Nodup)
def sP(ib:List Key)(fV:rj)(σ:aF)(k:List D->Option β):Option β:=oR fV.pA σ λσ=>
  let cf:=B1 σ fV.objs (YJ σ fV.aH)
  if yK (fU cf) (fV.objs.map (·.1))&&YK ib cf fV.objs=true then
   match uF (Qd cf (fV.objs.map (·.1)) σ fV.aH) (KR cf (fV.objs.map (·.1)) σ fV.objs)with|some ls=>k ls|none=>none
  else none
end
def yX{x y:Option (List D)}{l:List D}(h:uF x y=some l):∃a b,x=some a/\y=some b/\l=a++b:=by
 unfold uF at h;split at h;.cases h;exact⟨_,_,rfl,rfl,rfl⟩
 cases h
def lB(ls:List D)(n:Nat)(a:List D):Prop:=∀j d,a[j]?=some d->ls[n+j]?=some d
def lB.left{ls:List D}{n:Nat}{a b:List D}(h:lB ls n (a++b)):lB ls n a:=λj d aI=>h j d (by rw[xaF (xae.1 aI).1];exact aI)
def lB.right{ls:List D}{n:Nat}{a b:List D}(h:lB ls n (a++b)):lB ls (n+a.length) b:=λj d aI=>by
 have:=h (a.length+j) d (by rw[xaD (by omega)];simpa using aI)
 rwa [<-xbc]at this
def lB.I{ls:List D}{n:Nat}{a:D}(h:lB ls n [a]):I ls n=a:=by have:=h 0 a rfl;simp only[xbp]at this;simp[Am.I,xbd,this]
section
variable{cf:List (Key×Key)}{ks:List Key}{ls:List D}{U:Key->Prop}
def YL(gG:∀k,ks.contains k=true->U k){x:aS}{s:qo}{n:Nat}{a:List D}(h:KO cf ks x s=some a)(fW:lB ls n a):pt (fU cf) U x (wW ls s n).1/\(wW ls s n).2=n+a.length:=by
 unfold KO at h;split at h;.cases h;exact⟨trivial,rfl⟩
 .obtain⟨d,aA,rfl⟩:=xag.1 h;refine⟨⟨_,aA,?_⟩,rfl⟩;rw[fW.I];exact D.le_refl _
 .split at h;.rename_i a8;obtain⟨rfl,aG,ao⟩:=a8;cases h;rw[xbh aG,xbh ao];exact⟨⟨_,rfl,D.le_refl _⟩,rfl⟩
  cases h
 .split at h
  .rename_i a8;obtain⟨rfl,aa,rfl⟩:=a8;cases h;refine⟨⟨_,rfl,?_⟩,rfl⟩;rw[List.isEmpty_iff.1 aa];have e:((List.range a.length).map λi=>I ls (n+i))=a:=by
    apply xbX;intro i;rw[xai];by_cases aj:i<a.length;.rw[xbS aj,xab aj];have:=fW i a[i] (xab aj);simp[Am.I,xbd,this]
    rw[xaZ (by simp;omega),xaZ (by omega)];rfl
   skip
   rw[e];exact D.le_refl _
  cases h
 .split at h;.rename_i a8;cases h;subst a8;refine⟨.inl ?_,rfl⟩;rw[fW.I];rfl
  cases h
 .split at h;.rename_i a8;cases h;exact⟨⟨by rw[a8.1,a8.2.1],gG _ a8.2.2⟩,rfl⟩
  cases h
 .split at h;.rename_i a8;cases h;exact⟨⟨by rw[a8.1],gG _ a8.2⟩,rfl⟩
  cases h
 .split at h;.rename_i a8;cases h;exact⟨⟨by rw[a8.1],gG _ a8.2⟩,rfl⟩
  cases h
 .split at h;.rename_i a8;cases h;obtain⟨aa,ae,ay⟩:=a8;have aP:=fW.left (a:=[_]) (b:=[_]);have a2:lB ls (n+1) [D.val (.int .i64 ((_:Nat):Int))]:=lB.right (a:=[_]) (b:=[_]) fW;simp only[wW];rw[aP.I,a2.I];exact⟨⟨by rw[aa,ae];simp[Qa],gG _ ay⟩,rfl⟩
  cases h
 cases h
def E6(gG:∀k,ks.contains k=true->U k):∀{xs:List aS}{gW:List qo}{n:Nat}{a:List D},B2 cf ks xs gW=some a->lB ls n a->jD (fU cf) U xs (oP ls gW n).1/\(oP ls gW n).2=n+a.length
 |[],[],n,a,h,fW=>by cases h;exact⟨trivial,rfl⟩
 |x::xs,s::gW,n,a,h,fW=>by obtain⟨au,ba,aa,ae,rfl⟩:=yX h;obtain⟨a9,bk⟩:=YL gG aa fW.left;have aw:=fW.right;rw[<-bk]at aw;obtain⟨b1,eU⟩:=E6 gG ae aw;refine⟨⟨a9,b1⟩,?_⟩;show(oP ls gW (wW ls s n).2).2=_;rw[eU,bk,xaU];omega
 |[],_::_,n,a,h,_=>by cases h
 |_::_,[],n,a,h,_=>by cases h
def akG{x y:aS}(h:pt (fU cf) U x y):ux (fU cf) U x y:=by cases y<;>first|exact h|exact h.elim
def YM(gG:∀k,ks.contains k=true->U k){x:aS}{s:k5}{n:Nat}{a:List D}(h:KP cf ks x s=some a)(fW:lB ls n a):ux (fU cf) U x (pB ls s n).1/\(pB ls s n).2=n+a.length:=by
 unfold KP at h;split at h;.obtain⟨a9,bk⟩:=YL gG h fW;exact⟨akG a9,bk⟩
 .split at h;.rename_i a8;subst a8;obtain⟨au,ba,aa,ae,rfl⟩:=yX h;obtain⟨a9,bk⟩:=E6 gG aa fW.left;have aw:=fW.right;rw[<-bk]at aw;obtain⟨b1,eU⟩:=E6 gG ae aw;refine⟨⟨rfl,a9,b1⟩,?_⟩;simp only[pB];rw[eU,bk,xaU];omega
  cases h
 .obtain⟨a9,bk⟩:=E6 gG h fW;exact⟨a9,bk⟩
 .obtain⟨a9,bk⟩:=E6 gG h fW;exact⟨a9,bk⟩
 cases h
def Qe(gG:∀k,ks.contains k=true->U k):∀{xs:List aS}{gW:List k5}{n:Nat}{a:List D},KQ cf ks xs gW=some a->lB ls n a->sJ (fU cf) U xs (rk ls gW n).1/\(rk ls gW n).2=n+a.length
 |[],[],n,a,h,fW=>by cases h;exact⟨trivial,rfl⟩
 |x::xs,s::gW,n,a,h,fW=>by obtain⟨au,ba,aa,ae,rfl⟩:=yX h;obtain⟨a9,bk⟩:=YM gG aa fW.left;have aw:=fW.right;rw[<-bk]at aw;obtain⟨b1,eU⟩:=Qe gG ae aw;refine⟨⟨a9,b1⟩,?_⟩;show(rk ls gW (pB ls s n).2).2=_;rw[eU,bk,xaU];omega
 |[],_::_,n,a,h,_=>by cases h
 |_::_,[],n,a,h,_=>by cases h
def akH(gG:∀k,ks.contains k=true->U k){x:Option cP}{s:lA}{n:Nat}{a:List D}(h:Qc cf ks x s=some a)(fW:lB ls n a):(∃o',x=some o'/\yI (fU cf) U o' (yW ls s n).1)/\(yW ls s n).2=n+a.length:=by
 unfold Qc at h;split at h;.cases h;exact⟨⟨_,rfl,trivial⟩,rfl⟩
 .obtain⟨a9,bk⟩:=Qe gG h fW;exact⟨⟨_,rfl,⟨_,rfl,a9⟩⟩,bk⟩
 .split at h;.rename_i al;cases h;subst al;refine⟨⟨_,rfl,⟨_,rfl,.inl ?_⟩⟩,rfl⟩;rw[fW.I];rfl
  cases h
 .cases h;refine⟨⟨_,rfl,?_⟩,rfl⟩;simp only[yW,yI];rw[fW.I];rfl
 cases h
def YN(gG:∀k,ks.contains k=true->U k){σ:aF}:∀{l:List (Nat×k5)} {n:Nat} {a:List D},Qd cf ks σ l=some a->lB ls n a->BQ (fU cf) U σ (wX ls l n).1/\(wX ls l n).2=n+a.length
 |[],n,a,h,fW=>by cases h;exact⟨trivial,rfl⟩
 |(t,s)::r,n,a,h,fW=>by obtain⟨au,ba,aa,ae,rfl⟩:=yX h;obtain⟨a9,bk⟩:=YM gG aa fW.left;have aw:=fW.right;rw[<-bk]at aw;obtain⟨b1,eU⟩:=YN gG ae aw;refine⟨⟨a9,b1⟩,?_⟩;simp only[wX];rw[eU,bk,xaU];omega
def Qf(gG:∀k,ks.contains k=true->U k){σ:aF}:∀{l:List (Key×lA)} {n:Nat} {a:List D},KR cf ks σ l=some a->lB ls n a->yJ (fU cf) U σ (oQ ls l n).1/\(oQ ls l n).2=n+a.length
 |[],n,a,h,fW=>by cases h;exact⟨trivial,rfl⟩
 |(t,s)::r,n,a,h,fW=>by obtain⟨au,ba,aa,ae,rfl⟩:=yX h;obtain⟨a9,bk⟩:=akH gG aa fW.left;have aw:=fW.right;rw[<-bk]at aw;obtain⟨b1,eU⟩:=Qf gG ae aw;refine⟨⟨a9,b1⟩,?_⟩;simp only[oQ];rw[eU,bk,xaU];omega
end
def yY(ls:List D):∀(l:List (Key×lA)) (n:Nat),l7 (oQ ls l n).1=l.map (·.1)
 |[],n=>rfl|(k,s)::r,n=>by have:=yY ls r (yW ls s n).2;simp only[oQ,l7,xaA]at this⊢;rw[<-this]
def KS:∀{lo:List (Key×cP)} {k:Key},k∈l7 lo->∃o,fj lo k=some o
 |[],k,h=>by cases h
 |(j,x)::r,k,h=>by
  unfold fj;by_cases al:k=j;.exact⟨x,by rw[xaa al]⟩
  rw[xac al];simp only[l7,xaA,xap]at h;exact KS (h.resolve_left al)
def ft(ib:List Key)(σ:aF):Prop:=∀k,10000<=k->eR (σ.objs k)->k∈ib
def Qg(ls:List D):∀(l:List (Key×lA)) (n:Nat) (k:Key),(l.map (·.1)).Nodup->(∃s,(k,s)∈l/\B3 s=true)->eR (fj (oQ ls l n).1 k)
 |[],n,k,_,⟨_,h,_⟩=>by cases h
 |(j,s)::r,n,k,aM,⟨gW,h,aE⟩=>by
  simp only[oQ,fj];simp only[xaA,List.nodup_cons]at aM;rcases xap.1 h with aa|aa
  .cases aa;rw[xaa rfl];cases s<;>first|cases aE|skip
   .exact uj
   .exact sD
   exact wv
  have cv:k≠j:=by rintro rfl;exact aM.1 (xaP.2 ⟨_,aa,rfl⟩)
  rw[xac cv];exact Qg ls r _ k aM.2 ⟨gW,aa,aE⟩
def sQ{β:Type}{ib:List Key}:∀{l:List wV}{σ:aF}{k:aF->Option β}{b:β},ft ib σ->oR l σ k=some b->∃τ,gU σ τ/\ft ib τ/\k τ=some b
 |[],σ,k,b,b9,h=>⟨σ,gU.refl σ,b9,h⟩
 | .slot t K n::r,σ,k,b,b9,h=>by
  unfold oR at h;split at h
  .rename_i a aE hj;split at h
   case isFalse=>cases h
   rename_i b5;obtain⟨aa,ae⟩:=k3 h;have aG:a= .val (.slice none 0 0):=by
    unfold ma at aa;split at aa;.rfl
    cases aa
   subst aG;obtain⟨τ,a9,bk,b1⟩:=sQ (ib:=ib) (by
    intro j aI ao;by_cases gu:j=K;.exact absurd b5 (Nat.not_lt.2 (gu▸aI))
    simp only[cV _ _ gu]at ao;exact b9 j aI ao) ae
   exact⟨τ,(ajy t K n aE hj).trans a9,bk,b1⟩
  exact sQ b9 h
 | .box cN i K n::r,σ,k,b,b9,h=>by
  unfold oR at h;split at h
  .rename_i xs al;split at h
   .rename_i a aj hj;split at h
    case isFalse=>cases h
    rename_i b5;obtain⟨aa,ae⟩:=k3 h;have aG:a= .val (.slice none 0 0):=by
     unfold ma at aa;split at aa;.rfl
     cases aa
    subst aG;obtain⟨τ,a9,bk,b1⟩:=sQ (ib:=ib) (by
     intro j aI ao;by_cases gu:j=K;.exact absurd b5 (Nat.not_lt.2 (gu▸aI))
     simp only[cV _ _ gu]at ao;by_cases yq:j=cN;.subst yq;exact b9 j aI (by rw[al];exact uj)
     simp only[cV _ _ yq]at ao;exact b9 j aI ao) ae
    exact⟨τ,(ajz cN i K n al aj hj).trans a9,bk,b1⟩
   exact sQ b9 h
  exact sQ b9 h
 | .all t cN::r,σ,k,b,b9,h=>by
  unfold oR at h;split at h
  .rename_i K aE;split at h
   .rename_i n es al;split at h
    case isFalse=>cases h
    rename_i aM;subst aM;obtain⟨τ,a9,bk,b1⟩:=sQ (ib:=ib) (σ:=⟨cl σ.aH t (.sub K n 0 es.length),σ.objs⟩) (λj aI ao=>b9 j aI ao) h;exact⟨τ,(ajA t K n aE al).trans a9,bk,b1⟩
   exact sQ b9 h
  exact sQ b9 h
def KT{β:Type}{ib:List Key}{fV:rj}{σ:aF}{k:List D->Option β}{b:β}(b9:ft ib σ)(h:sP ib fV σ k=some b):∃ls,gU σ (restore fV ls)/\ft ib (restore fV ls)/\k ls=some b:=by
 unfold sP at h;obtain⟨τ,a9,bk,b1⟩:=sQ b9 h;simp only at b1;split at b1
 case isFalse=>cases b1
 rename_i an;simp only[YK,xak,xas,xbb,xaE,xbF,xbv,List.contains_eq_mem]at an;obtain⟨yZ,⟨q6,akI⟩,akJ⟩:=an;split at b1
 case h_2=>cases b1
 rename_i ls Qh;obtain⟨au,ba,aP,a2,rfl⟩:=yX Qh;have fW:lB (au++ba) 0 (au++ba):=λj d aI=>by rw[xaB];exact aI
 have gG:∀k,(fV.objs.map (·.1)).contains k=true->∃o,fj (oQ (au++ba) fV.objs (wX (au++ba) fV.aH 0).2).1 k=some o:=by intro k al;exact KS (by rw[yY];simpa using al)
 obtain⟨bV,bN⟩:=YN gG aP fW.left;have aw:=fW.right;rw[<-bN]at aw;obtain⟨cC,dK⟩:=Qf gG a2 aw;have sR:gU τ (restore fV (au++ba)):=by refine ajm _ (by rw[yY];exact yZ) bV cC ?_;intro k al ao;have hm:=bk k al ao;obtain⟨bZ,p,KU,wY,YO⟩:=akI k hm;refine⟨?_,bZ⟩;obtain⟨aCi,iw⟩:=p;simp only at wY YO;subst wY;exact Qg _ _ _ _ akJ ⟨_,KU,YO⟩
 refine⟨_,a9.trans sR,?_,b1⟩;intro k al ao;obtain⟨o,aL⟩:=BD ao;have:=wN aL;rw[yY]at this;obtain⟨p,KU,wY⟩:=xaP.1 this;rcases q6 p KU with cG|cG
 .rw[wY]at cG;exact absurd cG (Nat.not_lt.2 al)
 rw[wY]at cG;exact cG
def KV(objs:cw)(cs:List aS):Option (List D):=if cs.all sF=true then hh (cs.map (toD objs))else none
def wZ(objs:cw)(ks:List Key):aS->aS
 | .ptr k off=>if k∈ks then match objs k with
   |some (.box cs)=>match KV objs cs with|some aO=> .dV aO off|none=> .ptr k off
   |_=> .ptr k off
  else .ptr k off
 | .row k=>if k∈ks then match objs k with|some (.row n es)=> .d (.ak n es)|_=> .row k
  else .row k
 | .map k=>if k∈ks then match objs k with|some (.map es)=> .d (.mp es)|_=> .map k
  else .map k
 |x=>x
def KW(objs:cw)(ks:List Key):aS->aS
 | .agg cs=>Bo (cs.map (wZ objs ks))| .fn f first cap=> .fn f (first.map (wZ objs ks)) (cap.map (wZ objs ks))
 |x=>wZ objs ks x
def E7(objs:cw)(ks:List Key):cP->cP
 | .box cs=> .box (cs.map (KW objs ks))|o=>o
def Qi(objs:cw)(k:Key):Bool:=match objs k with|some (.row _ _)=>decide (k<10000)|some (.map _)=>decide (k<10000)|some (.box cs)=>decide (k<10000)&&(KV objs cs).isSome|_=>false
def freeze(ks:List Key)(σ:aF):aF:=⟨λt=>KW σ.objs ks (σ.aH t),λk=>if k∈ks then some .dead else(σ.objs k).map (E7 σ.objs ks)⟩
section
variable{m:Mem}{fr:fz}{ρ:da}{σ:aF}{a:Act}{w:World}{ks:List Key}
def akK(h:Den m fr ρ σ a w){key off:Nat}{cs:List aS}{aO:List D}(al:σ.objs key=some (.box cs))(eF:KV σ.objs cs=some aO)(hm:key∈ks){U:Key->Prop}{v:Value}(aN:b3 m ρ σ.used (.ptr key off) v):b3 (Den.part m ρ ks w) ρ U (.dV aO off) v:=by
 have hle:=Den.sA m ρ ks w;obtain⟨b,vs,dL,aP,a2,bS,cS⟩:=h.objs _ _ al;have ao:=h.J0 al rfl hm (by rw[aP];rfl);unfold KV at eF;split at eF
 case isFalse=>cases eF
 rename_i Pz;obtain⟨a9,bk⟩:=q3 eF;rw[xaW]at a9;cases aN with
 |ptr _ _ b' hu aw=>
  rw[aP]at aw;cases aw;have:=b3.dV (m:=Den.part m ρ ks w) (ρ:=ρ) (U:=U) aO off b 0 vs dL (0,0) (by rw[ao];exact a2) (λj=>(vs[j]?).getD undef) ?_ ?_
  .simpa using this
  .intro j c aI;have b5:j<vs.size:=by rw[bS,<-a9];exact(xae.1 aI).1
   simp[xal b5]
  intro j c aI;have b5:j<vs.size:=by rw[bS,<-a9];exact(xae.1 aI).1
  have b1:=bk j c aI;rw[xai,xag]at b1;obtain⟨y,aK,uo⟩:=b1;have:=cS j y vs[j] aK (xal b5);simp only[xal b5,xbk];exact(Pd (xas.1 Pz y (xad aK)) uo this).mono hle
def YP(h:Den m fr ρ σ a w){x:aS}{v:Value}(ah:b3 m ρ σ.used x v):b3 (Den.part m ρ ks w) ρ (freeze ks σ).used (wZ σ.objs ks x) v:=by
 have hle:=Den.sA m ρ ks w;have gG:∀k,σ.used k->(freeze ks σ).used k/\ρ k=ρ k:=by
  rintro k ⟨o,aL⟩;refine⟨?_,rfl⟩;unfold aF.used freeze;by_cases al:k∈ks;.exact⟨.dead,by simp[al]⟩
  exact⟨E7 σ.objs ks o,by simp[al,aL]⟩
 unfold wZ;split
 .rename_i k off;split
  .rename_i hm;split
   .rename_i cs al;split;.rename_i aO eF;exact akK h al eF hm ah
    exact ah.mono hle gG
   exact ah.mono hle gG
  exact ah.mono hle gG
 .rename_i k;split
  .rename_i hm;split;.rename_i n es al;cases ah;exact .d _ _ (O8 h al hm)
   exact ah.mono hle gG
  exact ah.mono hle gG
 .rename_i k;split
  .rename_i hm;split;.rename_i es al;cases ah;exact .d _ _ (ah5 h al hm)
   exact ah.mono hle gG
  exact ah.mono hle gG
 exact ah.mono hle gG
def Qj(h:Den m fr ρ σ a w){cs:List aS}{vs:Array Value}(aq:vs.size=cs.length)(bA:∀(i:Nat)(c:aS)(v:Value),cs[i]?=some c->vs[i]?=some v->b3 m ρ σ.used c v):vs.size=(cs.map (wZ σ.objs ks)).length/\∀(i:Nat)(c:aS)(v:Value),(cs.map (wZ σ.objs ks))[i]?=some c->vs[i]?=some v->b3 (Den.part m ρ ks w) ρ (freeze ks σ).used c v:=by refine⟨by simpa using aq,?_⟩;intro i c v an aN;simp only[xai,xag]at an;obtain⟨y,aK,rfl⟩:=an;exact YP h (bA i y v aK aN)
def YQ(h:Den m fr ρ σ a w){x:aS}{v:Value}(ah:b3 m ρ σ.used x v):b3 (Den.part m ρ ks w) ρ (freeze ks σ).used (KW σ.objs ks x) v:=by
 unfold KW;split
 .cases ah with|agg _ vs aq bA=>
  obtain⟨aa,ae⟩:=Qj (ks:=ks) h aq bA;exact JE (.agg _ _ aa ae)
 .cases ah with|fn _ _ _ vs ws aq eP bA yw=>
  obtain⟨aa,ae⟩:=Qj (ks:=ks) h aq bA;obtain⟨ay,a7⟩:=Qj (ks:=ks) h eP yw;exact .fn _ _ _ _ _ aa ay ae a7
 exact YP h ah
def akL(ks:List Key)(eI:ks.all (Qi σ.objs)=true):gU σ (freeze ks σ):=by
 intro m fr ρ a w h;have hle:=Den.sA m ρ ks w;have eo:∀k∈ks,(k<10000/\∃n es,σ.objs k=some (.row n es))\/(k<10000/\∃es,σ.objs k=some (.map es))\/(k<10000/\∃cs,σ.objs k=some (.box cs)):=by
  intro k al;have:=xas.1 eI k al;unfold Qi at this;split at this
  .rename_i n es e;exact .inl ⟨xaX this,n,es,e⟩
  .rename_i es e;exact .inr (.inl ⟨xaX this,es,e⟩)
  .rename_i cs e;simp only[xak,xaE]at this;exact .inr (.inr ⟨this.1,cs,e⟩)
  cases this
 have own:∀k∈ks,∃o,σ.objs k=some o/\o.owns=true:=by
  intro k al;rcases eo k al with⟨_,n,es,e⟩|⟨_,es,e⟩|⟨_,cs,e⟩
  .exact⟨_,e,rfl⟩
  .exact⟨_,e,rfl⟩
  exact⟨_,e,rfl⟩
 have h2:∀b,Den.part m ρ ks w b=m b\/∃k∈ks,blockOf (ρ k)=some b/\Den.part m ρ ks w b=w.heap[b]?:=by
  intro b;unfold Den.part;cases hm:m b with
  |some x=>exact .inl rfl
  |none=>
   simp only;by_cases an:∃k∈ks,blockOf (ρ k)=some b;.rw[xaa an];obtain⟨k,aa,ae⟩:=an;exact .inr ⟨k,aa,ae,rfl⟩
   rw[xac an];exact .inl rfl
 have nE:∀k o,(freeze ks σ).objs k=some o->o.owns=true->k∉ks/\∃dN,σ.objs k=some dN/\o=E7 σ.objs ks dN/\dN.owns=true:=by
  intro k o al aL;unfold freeze at al;simp only at al;split at al;.cases al;cases aL
  rename_i aM;obtain⟨dN,aa,rfl⟩:=xag.1 al;refine⟨aM,dN,aa,rfl,?_⟩;cases dN<;>first|rfl|exact aL
 refine⟨Den.part m ρ ks w,ρ,hle,⟨?_,h.frame,?_,?_,?_,?_,?_,?_⟩,?_⟩
 .intro b o ao;rcases h2 b with e|⟨k,_,_,e⟩
  .rw[e]at ao;exact h.mem b o ao
  rw[e]at ao;exact ao
 .intro b ao;rcases h2 b with e|⟨k,aa,ae,e⟩
  .rw[e]at ao;exact h.apart b ao
  obtain⟨o,ay,a7⟩:=own k aa;exact(h.own k o b ay a7 ae).2
 .rintro k ⟨o,aL⟩;unfold freeze at aL;simp only at aL;split at aL;.rename_i al;obtain⟨o,ay,a7⟩:=own k al;exact h.one k ⟨o,ay⟩
  obtain⟨dN,aa,rfl⟩:=xag.1 aL;exact h.one k ⟨dN,aa⟩
 .intro t;exact YQ h (h.aH t)
 .intro k o al;have fF:=al;unfold freeze at al;simp only at al;split at al
  .cases al;trivial
  obtain⟨dN,aa,rfl⟩:=xag.1 al;have ae:=h.objs k dN aa;cases dN with
  |dead=>trivial|box cs=>obtain⟨b,vs,T,aP,a2,bS,cS⟩:=ae;refine⟨b,vs,T,aP,a2,by simpa using bS,?_⟩;intro i c x an ah;simp only[xai,xag]at an;obtain⟨y,aK,rfl⟩:=an;exact YQ h (cS i y x aK ah)
  |row n es=>
   rcases ae with⟨aP,a2⟩|⟨b,o,cap,vs,dL,aP,a2,bS,cS,dM,e4⟩;.exact .inl ⟨aP,a2⟩
   exact .inr ⟨b,o,cap,vs,dL,aP,a2,bS,cS,dM,λi e j c aj aI=>by obtain⟨x,a9,bk⟩:=e4 i e j c aj aI;exact⟨x,a9,bk.mono hle⟩⟩
  |map es=>obtain⟨r,dj,clock,aP,a2,bS,cS,dM⟩:=ae;exact⟨r,dj,clock,aP,a2,bS,cS,λi e x he ah=>(dM i e x he ah).mono hle⟩
 .intro k o b al aL ao;obtain⟨aM,dN,aa,rfl,ae⟩:=nE k o al aL;have ay:=h.own k dN b aa ae ao;refine⟨?_,ay.2⟩;rcases h2 b with e|⟨br,a7,bZ,e⟩
  .rw[e];exact ay.1
  obtain⟨o',cG,e7⟩:=own br a7;exact absurd bZ (h.sep k br dN o' b (by rintro rfl;exact aM a7) aa cG ae e7 ao)
 .intro k br o o' b cv al fF aL oK ao;obtain⟨aM,dN,aa,rfl,ae⟩:=nE k o al aL;obtain⟨yt,E8,ej,rfl,ha⟩:=nE br o' fF oK;exact h.sep k br dN E8 b cv aa ej ae ha ao
 intro k al ao;refine⟨?_,rfl⟩;have aM:k∉ks:=by
  intro hm;rcases eo k hm with⟨b5,_⟩|⟨b5,_⟩|⟨b5,_⟩
  .exact absurd al (Nat.not_le.2 b5)
  .exact absurd al (Nat.not_le.2 b5)
  exact absurd al (Nat.not_le.2 b5)
 show eR (if k∈ks then some .dead else(σ.objs k).map (E7 σ.objs ks));rw[xac aM];rcases ao with⟨c,an⟩|⟨n,es,an⟩|⟨es,an⟩
 .rw[an];exact uj
 .rw[an];exact sD
 rw[an];exact wv
end
def y0{β:Type}:List (List Key)->aF->(aF->Option β)->Option β
 |[],σ,k=>k σ|ks::r,σ,k=>match ks with|[]=>y0 r σ k|_=>if ks.all (Qi σ.objs)=true then y0 r (freeze ks σ) k else none
def B4{β:Type}(t:Tmp)(σ:aF)(k:aF->Option β):Option β:=match σ.aH t with
 | .sub key cN i len=>match σ.objs key,σ.objs t with
  |some (.row br es),none=>if cN=br/\key<10000/\t<10000 then aD (decide (i+len<=es.length)) (k ⟨cl σ.aH t (.row t),cl (cl σ.objs key (some .dead)) t (some (.row cN ((es.drop i).take len)))⟩)else none
  |_,_=>none
 |_=>none
def akM{σ:aF}{t key cN i len:Nat}{es:List (List D)}(aJ:σ.aH t= .sub key cN i len)(al:σ.objs key=some (.row cN es))(ar:σ.objs t=none)(hle:i+len<=es.length)(lC:key<10000):gU σ ⟨cl σ.aH t (.row t),cl (cl σ.objs key (some .dead)) t (some (.row cN ((es.drop i).take len)))⟩:=by
 intro m fr ρ a w h;have cv:key≠t:=by rintro rfl;rw[al]at ar;cases ar
 have bB:((es.drop i).take len).length=len:=by simp;omega
 have B5:∀j o,(cl (cl σ.objs key (some .dead)) t (some (.row cN ((es.drop i).take len)))) j=some o->(j=t/\o= .row cN ((es.drop i).take len))\/(j=key/\o= .dead)\/(j≠t/\j≠key/\σ.objs j=some o):=by
  intro j o aI;by_cases aa:j=t;.subst aa;rw[eX]at aI;cases aI;exact .inl ⟨rfl,rfl⟩
  rw[cV _ _ aa]at aI;by_cases ae:j=key;.subst ae;rw[eX]at aI;cases aI;exact .inr (.inl ⟨rfl,rfl⟩)
  rw[cV _ _ ae]at aI;exact .inr (.inr ⟨aa,ae,aI⟩)
 let v:=a.tmps.getD t undef
 have aN:=h.aH t;rw[aJ]at aN;have Ez:∀k,σ.used k->aF.used ⟨cl σ.aH t (.row t),cl (cl σ.objs key (some .dead)) t (some (.row cN ((es.drop i).take len)))⟩ k/\cl ρ t v k=ρ k:=by
  rintro k ⟨o,aL⟩;have wk:k≠t:=by rintro rfl;rw[aL]at ar;cases ar
  refine⟨?_,cV _ _ wk⟩;by_cases ae:k=key;.subst ae;exact⟨.dead,by simp only[cV _ _ wk,eX]⟩
  exact⟨o,by simp only[cV _ _ wk,cV _ _ ae];exact aL⟩
 have piece:j2 v=true/\(blockOf v=none\/blockOf v=blockOf (ρ key))/\jh m (cl ρ t v) (aF.used ⟨cl σ.aH t (.row t),cl (cl σ.objs key (some .dead)) t (some (.row cN ((es.drop i).take len)))⟩) v w (.row cN ((es.drop i).take len)):=by
  have mA:=h.objs key _ al;generalize Qk:a.tmps.getD t undef=u at aN;have akN:v=u:=Qk;rw[akN];cases aN with
  |jM _ _ _ hu aw=>exact⟨rfl,.inl rfl,.inl ⟨rfl,by simp⟩⟩
  |sub _ _ _ _ b o L cap ir hu aw JM aG=>
   refine⟨rfl,.inr (by rw[aw];rfl),?_⟩;rcases mA with⟨aP,a2⟩|⟨b',o',nA,vs,dL,aP,a2,bS,cS,dM,e4⟩
   .rw[aw]at aP;cases aP
   rw[aw]at aP;cases aP;refine .inr ⟨b,ir,cap-i,vs,dL,by rw[bB],a2,by rw[bB];omega,?_,?_,?_⟩
   .by_cases Ql:i<cap
    .rw[aG.1 Ql,xbc,<-xaQ];have:i+(cap-i)=cap:=by omega
     rw[this];exact cS
    have:cap-i=0:=by omega
    rw[this,Nat.zero_mul];have:=aG.2;omega
   .intro e he;exact dM e (xbi (xbj he))
   intro p e j c a1 aI;rw[xaL]at a1;split at a1
   case isFalse=>cases a1
   rename_i Wr;rw[xaS]at a1;obtain⟨x,a9,bk⟩:=e4 (i+p) e j c a1 aI;have Ql:i<cap:=by have:=(xae.1 a1).1;omega
   refine⟨x,?_,bk⟩;rw[aG.1 Ql];have:o+i*cN+p*cN+j=o+(i+p)*cN+j:=by rw[xaQ];omega
   rw[this];exact a9
 obtain⟨eQ,ez,ho⟩:=piece;refine⟨m,cl ρ t v,Mem.le_refl m,⟨h.mem,h.frame,h.apart,?_,?_,?_,?_,?_⟩,?_⟩
 .rintro k ⟨o,aL⟩;rcases B5 k o aL with⟨rfl,_⟩|⟨rfl,_⟩|⟨aa,ae,ay⟩;.rw[eX];exact eQ
  .rw[cV _ _ cv];exact h.one _ ⟨_,al⟩
  rw[cV _ _ aa];exact h.one _ ⟨_,ay⟩
 .intro s;by_cases aE:s=t;.subst aE;simp only[eX];have:b3 m (cl ρ s v) (aF.used ⟨cl σ.aH s (.row s),cl (cl σ.objs key (some .dead)) s (some (.row cN ((es.drop i).take len)))⟩) (.row s) (cl ρ s v s):= .row s ⟨_,eX _ _ _⟩;rw[eX]at this;exact this
  simp only[cV _ _ aE];exact(h.aH s).mono (Mem.le_refl m) Ez
 .intro k o fF;rcases B5 k o fF with⟨rfl,rfl⟩|⟨rfl,rfl⟩|⟨aa,ae,ay⟩
  .rw[eX];exact ho
  .trivial
  rw[cV _ _ aa];exact(h.objs k o ay).mono (Mem.le_refl m) Ez (λb _ _=>rfl)
 .intro k o b fF aL ao;rcases B5 k o fF with⟨rfl,rfl⟩|⟨rfl,rfl⟩|⟨aa,ae,ay⟩
  .rw[eX]at ao;rcases ez with ez|ez
   .rw[ez]at ao;cases ao
   exact h.own key _ b al rfl (by rw[<-ez];exact ao)
  .cases aL
  rw[cV _ _ aa]at ao;exact h.own k o b ay aL ao
 .intro k br o o' b dh fF YR aL oK ao;rcases B5 k o fF with⟨rfl,rfl⟩|⟨rfl,rfl⟩|⟨aa,ae,ay⟩
  .rcases B5 br o' YR with⟨rfl,rfl⟩|⟨rfl,rfl⟩|⟨ej,ha,h4⟩;.exact absurd rfl dh
   .cases oK
   rw[eX]at ao;rw[cV _ _ ej];rcases ez with ez|ez
   .rw[ez]at ao;cases ao
   exact h.sep key br _ o' b (Ne.symm ha) al h4 rfl oK (by rw[<-ez];exact ao)
  .cases aL
  rw[cV _ _ aa]at ao;rcases B5 br o' YR with⟨rfl,rfl⟩|⟨rfl,rfl⟩|⟨ej,ha,h4⟩
  .rw[eX];rcases ez with ez|ez
   .rw[ez];exact λbA=>by cases bA
   rw[ez];exact h.sep k key o _ b ae ay al aL rfl ao
  .cases oK
  rw[cV _ _ ej];exact h.sep k br o o' b dh ay h4 aL oK ao
 intro k fF ao;have wk:k≠t:=by rintro rfl;rw[ar]at ao;exact uk ao
 have dh:k≠key:=by rintro rfl;exact absurd lC (Nat.not_lt.2 fF)
 exact⟨by simp only[cV _ _ wk,cV _ _ dh];exact ao,cV _ _ wk⟩
def w1(φ:Key->Key):aS->aS
 | .any=> .any| .d x=> .d x| .dV cs off=> .dV cs off| .ptr k off=> .ptr (φ k) off| .gp k cN i off=> .gp (φ k) cN i off| .row k=> .row (φ k)| .sub k cN i len=> .sub (φ k) cN i len| .map k=> .map (φ k)|_=> .any
def E9(φ:Key->Key):aS->aS
 | .agg cs=> .agg (cs.map (w1 φ))| .aR cs=> .aR (cs.map (w1 φ))| .fn f as jj=> .fn f (as.map (w1 φ)) (jj.map (w1 φ))|x=>w1 φ x
def uG(φ:Key->Key):cP->cP
 | .box cs=> .box (cs.map (E9 φ))|o=>o
section
variable{m:Mem}{ρ cT:da}{U m1:Key->Prop}{φ:Key->Key}
def YS(h:∀k,U k->m1 (φ k)/\cT (φ k)=ρ k){x:aS}{v:Value}(ah:b3 m ρ U x v):b3 m cT m1 (w1 φ x) v:=by cases ah with|any v=>exact .any _|d x v ah=>exact .d _ _ ah|agg=>exact .any _|aR=>exact .any _|dV cs off b o vs T en hm xs aa ae=>exact .dV _ _ b o vs T en hm xs aa ae|ptr k off b hu aw=>exact .ptr _ _ b (h k hu).1 ((h k hu).2.trans aw)|gp k cN i off b o len cap hu aw=>exact .gp _ _ _ _ b o len cap (h k hu).1 ((h k hu).2.trans aw)|row k hu=>rw[<-(h k hu).2];exact .row _ (h k hu).1|sub k cN i len b o L cap a hu aw hle aG=>exact .sub _ _ _ _ b o L cap a (h k hu).1 ((h k hu).2.trans aw) hle aG|jM k cN i hu aw=>exact .jM _ _ _ (h k hu).1 ((h k hu).2.trans aw)|map k hu=>rw[<-(h k hu).2];exact .map _ (h k hu).1|fn=>exact .any _
def KX(h:∀k,U k->m1 (φ k)/\cT (φ k)=ρ k){cs:List aS}{vs:Array Value}(aq:vs.size=cs.length)(bA:∀(i:Nat)(c:aS)(v:Value),cs[i]?=some c->vs[i]?=some v->b3 m ρ U c v):vs.size=(cs.map (w1 φ)).length/\∀(i:Nat)(c:aS)(v:Value),(cs.map (w1 φ))[i]?=some c->vs[i]?=some v->b3 m cT m1 c v:=by refine⟨by simpa using aq,?_⟩;intro i c v an aN;simp only[xai,xag]at an;obtain⟨y,aK,rfl⟩:=an;exact YS h (bA i y v aK aN)
def YT(h:∀k,U k->m1 (φ k)/\cT (φ k)=ρ k){x:aS}{v:Value}(ah:b3 m ρ U x v):b3 m cT m1 (E9 φ x) v:=by
 unfold E9;split
 .cases ah with|agg _ vs aq bA=>
  obtain⟨aa,ae⟩:=KX h aq bA;exact .agg _ _ aa ae
 .cases ah with|aR _ vs aq bA=>
  obtain⟨aa,ae⟩:=KX h aq bA;exact .aR _ _ aa ae
 .cases ah with|fn _ _ _ vs ws aq eP bA yw=>
  obtain⟨aa,ae⟩:=KX h aq bA;obtain⟨ay,a7⟩:=KX h eP yw;exact .fn _ _ _ _ _ aa ay ae a7
 exact YS h ah
def akO(h:∀k,U k->m1 (φ k)/\cT (φ k)=ρ k){o:cP}{v:Value}{w:World}(aL:jh m ρ U v w o):jh m cT m1 v w (uG φ o):=by
 cases o with
 |dead=>trivial|box cs=>obtain⟨b,vs,T,aP,a2,bS,cS⟩:=aL;refine⟨b,vs,T,aP,a2,by simpa using bS,?_⟩;intro i c x an ah;simp only[xai,xag]at an;obtain⟨y,aK,rfl⟩:=an;exact YT h (cS i y x aK ah)
 |row=>exact aL|map=>exact aL
theorem akP{o:cP}:(uG φ o).owns=o.owns:=by cases o<;>rfl
end
def akQ:Act:={tmps:= #[],defers:=[]}
def KY(m:Mem)(fr:fz)(ρ:da)(E:cw)(w:World):Prop:=Den m fr ρ ⟨λ_=> .any,E⟩ akQ w
def rl(E:cw)(k:Key):Prop:=∃o,E k=some o
structure eu where
 f:FuncId
 args:List k5
 ins:List (Key×lA)
 res:k5
 outs:List (Key×lA)
def eu.w2(s:eu)(ls:List D):List aS:=(rk ls s.args 0).1
def eu.nM(s:eu)(ls:List D):List (Key×cP):=(oQ ls s.ins (rk ls s.args 0).2).1
def eu.KZ(s:eu)(ls:List D):aS:=(pB ls s.res 0).1
def eu.pC(s:eu)(ls:List D):List (Key×cP):=(oQ ls s.outs (pB ls s.res 0).2).1
structure dC(P:Program)(G:df)(s:eu)(F:List D->Option (List D)):Prop where
 fn:wu P s.f
 run:∀ls fe,F ls=some fe->∀(m:Mem)(fr:fz)(ρ:da)(w:World)(vs:List Value),kk G m->KY m fr ρ (fj (s.nM ls)) w->vs.length=(s.w2 ls).length->(∀(i:Nat)(x:aS)(v:Value),(s.w2 ls)[i]?=some x->vs[i]?=some v->b3 m ρ (rl (fj (s.nM ls))) x v)->Calls P s.f vs.toArray w λe w'=>∃v cH cT,e= .returned v/\m.le cH/\KY cH fr cT (fj (s.pC fe)) w'/\b3 cH cT (rl (fj (s.pC fe))) (s.KZ fe) v/\ ∀k,10000<=k->eR (fj (s.nM ls) k)->cT k=ρ k
def rm(cf:List (Key×Key))(base:Nat)(k:Key):Key:=if 10000<=k then fU cf k else base+(k-9000)
def w3(objs:cw)(dead:List Key)(outs:List (Key×cP)):cw:=λp=>match fj outs p with|some o=>some o|none=>if p∈dead then some .dead else objs p
def akR:lA->Bool
 | .row _=>true| .map=>true|_=>false
def YU(objs:cw)(cf:List (Key×Key))(base:Nat)(s:eu):Bool:=yK (fU cf) (s.ins.map (·.1))&&yK (rm cf base) (s.outs.map (·.1))&&decide ((s.ins.map (·.1)).Nodup)&&decide ((s.outs.map (·.1)).Nodup)&&s.outs.all (λp=>if 10000<=p.1 then s.ins.any (λq=>q.1==p.1&&B3 q.2)else decide (9000<=p.1)&&decide (rm cf base p.1<10000)&&(objs (rm cf base p.1)).isNone)&&s.ins.all (λq=>if 10000<=q.1 then B3 q.2&&s.outs.any (λp=>p.1==q.1&&B3 p.2)else akR q.2&&decide (fU cf q.1<10000))
section
variable{β:Type}
def Qm(G:df)(s:eu)(F:List D->Option (List D))(base:Nat)(σ:aF)(o:Oper)(x:Operand)(args:List Operand)(k:aF->Option β):Option β:=match wy (b7 G σ.aH x)with
 |some (f,pre,post)=>
  if f=s.f then
   let um:=pre++args.map (b7 G σ.aH)++post
   let cf:=B1 σ s.ins (KN um s.args)
   let ks:=s.ins.map (·.1)
   if YU σ.objs cf base s=true then
    match uF (KQ cf ks um s.args) (KR cf ks σ s.ins)with|some ls=>J (F ls) λfe=>k (aF.put ⟨σ.aH,w3 σ.objs (ks.map (fU cf)) ((s.pC fe).map λp=>(rm cf base p.1,uG (rm cf base) p.2))⟩ o.dst (E9 (rm cf base) (s.KZ fe)))|none=>none
   else none
  else none
 |none=>none
end
section
variable{P:Program}{T:cd}{G:df}{m:Mem}{fr:fz}{ρ:da}{σ:aF}{a:Act}{w:World}{N:Nat}
def akS(c0:kk G m)(h:Den m fr ρ σ a w){o:Oper}{x:Operand}{args:Array Operand}{dA:Array TypeId}(dW:o.op= .call ⟨.value x,args,dA⟩){f:FuncId}{pre post:List aS}(gM:wy (b7 G σ.aH x)=some (f,pre,post))(a8:wu P f): ∃vs:List Value,vs.length=(pre++args.toList.map (b7 G σ.aH)++post).length/\(∀(i:Nat)(c:aS)(v:Value),(pre++args.toList.map (b7 G σ.aH)++post)[i]?=some c->vs[i]?=some v->b3 m ρ σ.used c v)/\(execOp a.eval o).run P w= .ok (.enter f vs.toArray) w:=by
 have dk:=Eg (a:=a) c0 h.aH;have ah:=dk x;have Pe:∃first cap,a.eval x= .func (.func f) first cap/\first.size=pre.length/\cap.size=post.length/\(∀(i:Nat)(c:aS)(v:Value),pre[i]?=some c->first[i]?=some v->b3 m ρ σ.used c v)/\(∀(i:Nat)(c:aS)(v:Value),post[i]?=some c->cap[i]?=some v->b3 m ρ σ.used c v):=by
  unfold wy at gM;split at gM
  .rename_i kn first cap he
   split at gM
   case isFalse=>cases gM
   rename_i ar;cases gM;rw[he]at ah;exact⟨first,cap,ah.hp,by simpa using ar.1,by simpa using ar.2,by intro i c v an;simp at an,by intro i c v an;simp at an⟩
  .rename_i kn first cap he
   cases gM;rw[he]at ah;generalize a.eval x=u at ah;cases ah with|fn _ _ _ vs ws aq eP g q4=>exact⟨vs,ws,rfl,aq,eP,g,q4⟩
  .rename_i kn first cap he
   cases gM;rw[he]at ah;have ah:=ah.oz;generalize a.eval x=u at ah;cases ah with|fn _ _ _ vs ws aq eP g q4=>
   refine⟨vs,ws,rfl,by simpa using aq,by simpa using eP,?_,?_⟩;.intro i c v an aN;simp only[xai,xag]at an;obtain⟨y,aK,rfl⟩:=an;exact .d _ _ (g i y v aK aN)
   intro i c v an aN;simp only[xai,xag]at an;obtain⟨y,aK,rfl⟩:=an;exact .d _ _ (q4 i y v aK aN)
  .cases gM
 obtain⟨first,cap,qU,nv,nw,a9,bk⟩:=Pe;refine⟨(first++args.map a.eval++cap).toList,by simp[nv,nw],?_,?_⟩
 .intro i c v an aN;simp only[Array.toList_append,Array.toList_map]at aN;have aP:first.toList.length=pre.length:=by simpa using nv
  by_cases aa:i<pre.length;.rw[xaO,xaF aa]at an;rw[xaO,xaF (by omega)]at aN;exact a9 i c v an (by simpa using aN)
  by_cases ae:i<pre.length+args.size;.rw[xaF (by simp;omega),xaD (by omega)]at an;rw[xaF (by simp;omega),xaD (by omega),aP]at aN;simp only[xai,xag]at an aN;obtain⟨p,a1,rfl⟩:=an;obtain⟨q,bQ,rfl⟩:=aN;rw[a1]at bQ;cases bQ;exact dk _
  rw[xaD (by simp;omega)]at an;rw[xaD (by simp;omega)]at aN;refine bk _ c v an ?_;rw[<-aN];simp only[xaU,xaW,xcb,nv];simp
 unfold execOp;rw[dW];simp only[Array.toArray_toList];exact Xg qU a8
def YV{φ:Key->Key}:∀{lo:List (Key×cP)} {p:Key} {o:cP},fj (lo.map λq=>(φ q.1,uG φ q.2)) p=some o->∃k dN,k∈l7 lo/\φ k=p/\o=uG φ dN/\((l7 lo).Nodup->fj lo k=some dN)
 |[],p,o,h=>by cases h
 |(j,x)::r,p,o,h=>by
  simp only[xaA,fj]at h;split at h;.rename_i e;cases h;exact⟨j,x,by simp[l7],e.symm,rfl,λ_=>by simp[fj]⟩
  obtain⟨k,dN,aa,ae,ay,a7⟩:=YV h;refine⟨k,dN,?_,ae,ay,?_⟩;.simp only[l7,xaA,xap]at aa⊢;exact .inr aa
  intro aM;simp only[l7,xaA,List.nodup_cons]at aM aa;have cv:k≠j:=by rintro rfl;exact aM.1 aa
  simp only[fj,xac cv];exact a7 aM.2
def Qn{φ:Key->Key}:∀{lo:List (Key×cP)} {k:Key},k∈l7 lo->∃o,fj (lo.map λq=>(φ q.1,uG φ q.2)) (φ k)=some o
 |[],k,h=>by cases h
 |(j,x)::r,k,h=>by
  simp only[xaA,fj];split;.exact⟨_,rfl⟩
  rename_i cv;simp only[l7,xaA,xap]at h;rcases h with rfl|h
  .exact absurd rfl cv
  exact Qn h
def YW{ls:List D}{l:List (Key×lA)}{n:Nat}{k:Key}(aM:(l.map (·.1)).Nodup){q:Key×lA}(bQ:q∈l)(al:q.1=k)(ao:B3 q.2=true):eR (fj (oQ ls l n).1 k):=by obtain⟨a,b⟩:=q;simp only at al ao;subst al;exact Qg ls l n _ aM ⟨_,bQ,ao⟩
def akT{φ:Key->Key}{U:Key->Prop}{o o':cP}(h:yI φ U o' o)(ao:eR (some o)):eR (some o'):=by
 cases o with
 |dead=>exact absurd ao EB|box=>obtain⟨xs,rfl,_⟩:=h;exact uj
 |row=>obtain⟨es,rfl,_⟩:=h;exact sD
 |map=>cases o'<;>first|exact wv|exact h.elim|cases h
def akU(c0:kk G m)(h:Den m fr ρ σ a w)(ca:N<=a.tmps.size)(hi:a.defers=[]){o:Oper}(gj:∀d,o.dst=some d->d<N){s:eu}{F:List D->Option (List D)}(bs:dC P G s F){base:Nat} {x:Operand} {args:Array Operand} {dA:Array TypeId} (aL:o.op= .call ⟨.value x,args,dA⟩) {β:Type} {k:aF->Option β} {b:β} (an:Qm G s F base σ o x args.toList k=some b) {Q:Exit->Act->World->Prop}:o.wp P a w (iZ N m fr ρ σ (λaX=>k aX=some b/\∀p,10000<=p->eR (aX.objs p)->eR (σ.objs p))) Q:=by
 have ja:∀d,o.dst=some d->d<a.tmps.size:=λd aA=>Nat.lt_of_lt_of_le (gj d aA) ca;have sE:∀v,N<=(a.put o.dst v).tmps.size:=by intro v;cases o.dst<;>simpa[Act.put]using ca
 have l4:∀v,(a.put o.dst v).defers=[]:=by intro v;cases o.dst<;>exact hi
 unfold Qm at an;split at an
 case h_2=>cases an
 rename_i f pre post gM;split at an
 case isFalse=>cases an
 rename_i a8;subst a8;simp only at an;generalize aCj:B1 σ s.ins (KN (pre++args.toList.map (b7 G σ.aH)++post) s.args)=cf at an;generalize YX:pre++args.toList.map (b7 G σ.aH)++post=um at an;split at an
 case isFalse=>cases an
 rename_i YY;split at an
 case h_2=>cases an
 rename_i ls Qh;obtain⟨fe,iH,al⟩:=e5 an;simp only[YU,xak,xas,xaE]at YY;obtain⟨⟨⟨⟨⟨bw,bO⟩,b0⟩,cZ⟩,dd⟩,de⟩:=YY;obtain⟨au,ba,aP,a2,rfl⟩:=yX Qh;have fW:lB (au++ba) 0 (au++ba):=λj d aI=>by rw[xaB];exact aI
 have Qo:l7 (s.nM (au++ba))=s.ins.map (·.1):=yY _ _ _;have Qp:l7 (s.pC fe)=s.outs.map (·.1):=yY _ _ _;have gG:∀k,(s.ins.map (·.1)).contains k=true->rl (fj (s.nM (au++ba))) k:=by intro k al;exact KS (by rw[Qo];simpa using al)
 obtain⟨bV,bN⟩:=Qe gG aP fW.left;have aw:=fW.right;rw[<-bN]at aw;obtain⟨cC,dK⟩:=Qf gG a2 aw;have cC:yJ (fU cf) (rl (fj (s.nM (au++ba)))) σ (s.nM (au++ba)):=cC;have akV:∀k j,k∈s.ins.map (·.1)->j∈s.ins.map (·.1)->fU cf k=fU cf j->k=j:=Ks bw;have YZ:∀k j,k∈s.outs.map (·.1)->j∈s.outs.map (·.1)->rm cf base k=rm cf base j->k=j:=Ks bO;have kH:∀{o o':cP},yI (fU cf) (rl (fj (s.nM (au++ba)))) o' o->o.owns=true->o'.owns=true:=by
  intro o o' hle aL;cases o with
  |dead=>cases aL
  |box=>obtain⟨xs,rfl,_⟩:=hle;rfl
  |row=>obtain⟨es,rfl,_⟩:=hle;rfl
  |map=>cases hle;rfl
 have Qq:∀{k o},fj (s.nM (au++ba)) k=some o->k∈s.ins.map (·.1):=λal=>by rw[<-Qo];exact wN al
 have akW:∀{k o},fj (s.pC fe) k=some o->k∈s.outs.map (·.1):=λal=>by rw[<-Qp];exact wN al
 let passed:Key->Prop:=λp=>∃k,k∈s.ins.map (·.1)/\fU cf k=p
 let Fa:Mem:=λb=>match fr b with|some o=>some o|none=>open Classical in if∃k o,σ.objs k=some o/\o.owns=true/\¬passed k/\blockOf (ρ k)=some b then w.heap[b]? else none
 let uH:fz:=⟨Fa,fr.os,fr.out,fr.low⟩
 have K0:∀b o,fr b=some o->uH b=some o:=by intro b o ao;simp only[uH,Fa,ao]
 have K1:∀b k o,σ.objs k=some o->o.owns=true->¬passed k->blockOf (ρ k)=some b->uH b=w.heap[b]?:=by intro b k o aa ae ay a7;have bZ:=(h.own k o b aa ae a7).2;simp only[uH,Fa,bZ];rw[xaa ⟨k,o,aa,ae,ay,a7⟩]
 have Y0:∀b,uH b≠none->fr b≠none\/∃k o,σ.objs k=some o/\o.owns=true/\¬passed k/\blockOf (ρ k)=some b:=by intro b ao;cases a8:fr b with|some o=>exact .inl (by simp)|none=>refine .inr ?_;refine xaY λy1=>ao ?_;simp only[uH,Fa,a8];rw[xac y1]
 have EP:KY m uH (λk=>ρ (fU cf k)) (fj (s.nM (au++ba))) w:=by
  refine⟨h.mem,⟨?_,⟨h.frame.quiet.os,h.frame.quiet.out,h.frame.quiet.low⟩⟩,?_,?_,λ_=> .any _,?_,?_,?_⟩
  .intro b o ao;cases a8:fr b with
   |some o'=>rw[K0 b o' a8]at ao;cases ao;exact h.frame.p5 b _ a8
   |none=>
    simp only[uH,Fa,a8]at ao;split at ao;.exact ao
    cases ao
  .intro b ao;refine xaY λy1=>?_;rcases Y0 b y1 with aa|⟨k,o,aa,ae,ay,a7⟩
   .exact aa (h.apart b ao)
   exact ao (h.own k o b aa ae a7).1
  .rintro k ⟨o,l8⟩;obtain⟨o',aa,_⟩:=cC.ok k o l8;exact h.one _ ⟨o',aa⟩
  .intro k o l8;obtain⟨o',aa,ae⟩:=cC.ok k o l8;have ay:=h.objs _ _ aa;cases o with
   |dead=>trivial|box cY=>obtain⟨xs,rfl,hle⟩:=ae;obtain⟨b,vs,T,aP,a2,bS,cS⟩:=ay;have:=sJ.cells hle ⟨bS,cS⟩;exact⟨b,vs,T,aP,a2,this.1,this.2⟩
   |row cN c6=>obtain⟨es,rfl,hle⟩:=ae;exact hle.ok ay
   |map es=>cases ae;exact ay
  .intro k o b l8 Kt ao;obtain⟨o',aa,ae⟩:=cC.ok k o l8;have ay:=h.own _ o' b aa (kH ae Kt) ao;refine⟨ay.1,?_⟩;refine xaY λy1=>?_;rcases Y0 b y1 with a7|⟨br,l9,a7,bZ,cG,e7⟩
   .exact a7 ay.2
   have cv:fU cf k≠br:=by rintro rfl;exact cG ⟨k,Qq l8,rfl⟩
   exact h.sep _ _ _ _ b cv aa a7 (kH ae Kt) bZ ao e7
  intro k br o o' b cv l8 ES Pv Pw ao;obtain⟨y,aa,ae⟩:=cC.ok k o l8;obtain⟨OT,ej,ha⟩:=cC.ok br o' ES;exact h.sep (fU cf k) (fU cf br) y OT b (λe=>cv (akV k br (Qq l8) (Qq ES) e)) aa ej (kH ae Pv) (kH ha Pw) ao
 obtain⟨vs,v1,v2,rn⟩:=akS (P:=P) c0 h aL gM bs.fn;rw[YX]at v1 v2;obtain⟨oE,nF⟩:=bV.ok;have sG:=bs.run _ _ iH m uH _ w vs c0 EP (v1.trans oE.symm) (by intro i y v aK aN;obtain⟨Qr,akX,hle⟩:=nF i y aK;exact hle.ok (v2 i Qr v akX aN))
 unfold Oper.wp;rw[rn];refine sG.mono λe w' he=>?_;obtain⟨v,cH,cT,rfl,y2,mf,uw,akY⟩:=he;generalize j7:rm cf base=φ at*
 let uI:=(s.pC fe).map λp=>(φ p.1,uG φ p.2)
 let objs':=w3 σ.objs ((s.ins.map (·.1)).map (fU cf)) uI
 let k1:da:=λp=>match(s.outs.map (·.1)).find? (λk=>φ k==p)with|some k=>cT k|none=>ρ p
 have Qs:∀k,k∈s.outs.map (·.1)->k1 (φ k)=cT k:=by intro k al;simp only[k1];cases B6:(s.outs.map (·.1)).find? (λbr=>φ br==φ k)with|none=>exact absurd (List.find?_eq_none.1 B6 k al) (by simp)|some br=>have aa:=List.find?_some B6;simp only[xbF]at aa;rw[YZ br k (List.mem_of_find?_eq_some B6) al aa]
 have Qt:∀k,k∈s.outs.map (·.1)->(10000<=k/\k∈s.ins.map (·.1)/\φ k=fU cf k/\eR (fj (s.nM (au++ba)) k))\/(σ.objs (φ k)=none/\φ k<10000):=by
  intro k al;obtain⟨p,a1,rfl⟩:=xaP.1 al;have aa:=dd p a1;by_cases b5:10000<=p.1
  .rw[xaa b5]at aa;obtain⟨q,bQ,ae⟩:=xbv.1 aa;simp only[xak,xbF]at ae;refine .inl ⟨b5,xaP.2 ⟨q,bQ,ae.1⟩,?_,YW b0 bQ ae.1 ae.2⟩;rw[<-j7];simp only[rm,xaa b5]
  rw[xac b5]at aa;simp only[xak,xaE,Option.isNone_iff_eq_none]at aa;exact .inr ⟨aa.2,aa.1.2⟩
 have K2:∀p,σ.used p->k1 p=ρ p:=by
  rintro p ⟨op,a1⟩;simp only[k1];cases B6:(s.outs.map (·.1)).find? (λbr=>φ br==p)with
  |none=>rfl
  |some k=>
   have aa:=List.find?_some B6;simp only[xbF]at aa;rcases Qt k (List.mem_of_find?_eq_some B6)with⟨ae,ay,a7,bZ⟩|⟨ae,_⟩
   .simp only;rw[akY k ae bZ,<-a7,aa]
   rw[aa,a1]at ae;cases ae
 have Fb:∀p op,fj uI p=some op->∃k dN,k∈s.outs.map (·.1)/\φ k=p/\op=uG φ dN/\fj (s.pC fe) k=some dN:=by intro p op a1;obtain⟨k,dN,aa,ae,ay,a7⟩:=YV a1;rw[Qp]at aa a7;exact⟨k,dN,aa,ae,ay,a7 cZ⟩
 have Y1:∀k,rl (fj (s.pC fe)) k->rl objs' (φ k)/\k1 (φ k)=cT k:=by rintro k ⟨dN,aa⟩;refine⟨?_,Qs k (akW aa)⟩;obtain⟨gk,ae⟩:=Qn (φ:=φ) (wN aa);exact⟨gk,by simp only[objs',w3,uI,ae]⟩
 have Y2:∀p,σ.used p->rl objs' p/\k1 p=ρ p:=by
  rintro p ⟨op,a1⟩;refine⟨?_,K2 p ⟨op,a1⟩⟩;unfold rl;simp only[objs',w3];cases aq:fj uI p with
  |some gk=>exact⟨gk,rfl⟩
  |none=>
   simp only;split;.exact⟨_,rfl⟩
   exact⟨op,a1⟩
 have Fc:∀p op,objs' p=some op->op.owns=true->(∃k dN,φ k=p/\op=uG φ dN/\fj (s.pC fe) k=some dN/\k1 p=cT k/\dN.owns=true)\/(σ.objs p=some op/\¬passed p/\k1 p=ρ p):=by
  intro p op a1 dW;simp only[objs',w3]at a1;cases aq:fj uI p with
  |some gk=>rw[aq]at a1;cases a1;obtain⟨k,dN,aa,ae,ay,a7⟩:=Fb p op aq;refine .inl ⟨k,dN,ae,ay,a7,?_,by rw[ay,akP]at dW;exact dW⟩;rw[<-ae];exact Qs k aa
  |none=>
   rw[aq]at a1;simp only at a1;split at a1;.cases a1;cases dW
   rename_i aM;refine .inr ⟨a1,?_,K2 p ⟨op,a1⟩⟩;rintro⟨k,al,rfl⟩;exact aM (xaP.2 ⟨k,al,rfl⟩)
 have akZ:Den cH fr k1 ⟨σ.aH,objs'⟩ a w':=by
  refine⟨mf.mem,⟨λb h3 ao=>mf.frame.p5 b h3 (K0 b h3 ao),⟨mf.frame.quiet.os,mf.frame.quiet.out,mf.frame.quiet.low⟩⟩,?_,?_,?_,?_,?_,?_⟩;.intro b ao;have aa:=mf.apart b ao;cases a8:fr b with|none=>rfl|some h3=>rw[K0 b h3 a8]at aa;cases aa
  .rintro p ⟨op,a1⟩;simp only[objs',w3]at a1;cases aq:fj uI p with
   |some gk=>obtain⟨k,dN,aa,ae,ay,a7⟩:=Fb p gk aq;rw[<-ae,Qs k aa];exact mf.one k ⟨dN,a7⟩
   |none=>
    rw[aq]at a1;simp only at a1;have hu:σ.used p:=by
     split at a1;.rename_i hm;obtain⟨k,al,rfl⟩:=xaP.1 hm;obtain⟨ok,ak0⟩:=KS (lo:=s.nM (au++ba)) (k:=k) (by rw[Qo];exact al);obtain⟨o',aa,_⟩:=cC.ok k ok ak0;exact⟨o',aa⟩
     exact⟨op,a1⟩
    rw[K2 p hu];exact h.one p hu
  .intro t;exact(h.aH t).mono y2 Y2
  .intro p op a1;by_cases dW:op.owns=true
   .rcases Fc p op a1 dW with⟨k,dN,aa,ae,ay,a7,bZ⟩|⟨aa,ae,ay⟩;.rw[ae,a7];exact akO Y1 (mf.objs k dN ay)
    rw[ay];refine(h.objs p op aa).mono y2 Y2 ?_;intro b sx wo;have a7:=K1 b p op aa dW ae wo;have bZ:∃h3,w.heap[b]?=some h3:=⟨_,xal ((h.objs p op aa).ue sx wo)⟩;obtain⟨h3,bZ⟩:=bZ;rw[bZ];exact mf.frame.p5 b h3 (by rw[a7,bZ])
   cases op with|dead=>trivial|_=>exact absurd rfl dW
  .intro p op b a1 dW ao;rcases Fc p op a1 dW with⟨k,dN,aa,ae,ay,a7,bZ⟩|⟨aa,ae,ay⟩
   .rw[a7]at ao;have cG:=mf.own k dN b ay bZ ao;refine⟨cG.1,?_⟩;cases a8:fr b with|none=>rfl|some h3=>rw[K0 b h3 a8]at cG;cases cG.2
   rw[ay]at ao;have a7:=h.own p op b aa dW ao;refine⟨?_,a7.2⟩;refine xaY λy1=>?_;have bZ:=mf.apart b y1;rw[K1 b p op aa dW ae ao]at bZ;have:=(h.objs p op aa).ue dW ao;rw[xal this]at bZ;cases bZ
  intro p oC op Fe b cv a1 sS dW Ff ao;rcases Fc p op a1 dW with⟨k,dN,aa,ae,ay,a7,bZ⟩|⟨aa,ae,ay⟩
  .rw[a7]at ao;rcases Fc oC Fe sS Ff with⟨br,E8,ej,ha,h4,mL,uJ⟩|⟨ej,ha,h4⟩
   .rw[mL];exact mf.sep k br dN E8 b (by rintro rfl;exact cv (aa.symm.trans ej)) ay h4 bZ uJ ao
   rw[h4];intro gi;have cG:=(mf.own k dN b ay bZ ao).2;rw[K1 b oC Fe ej Ff ha gi]at cG;have:=(h.objs oC Fe ej).ue Ff gi;rw[xal this]at cG;cases cG
  rw[ay]at ao;rcases Fc oC Fe sS Ff with⟨br,E8,ej,ha,h4,mL,uJ⟩|⟨ej,ha,h4⟩
  .rw[mL];intro gi;have cG:=(mf.own br E8 b h4 uJ gi).2;rw[K1 b p op aa dW ae ao]at cG;have:=(h.objs p op aa).ue dW ao;rw[xal this]at cG;cases cG
  rw[h4];exact h.sep p oC op Fe b cv aa ej dW Ff ao
 have h9:b3 cH k1 (rl objs') (E9 φ (s.KZ fe)) v:=YT Y1 uw;have Kl:∀p,10000<=p->eR (objs' p)->eR (σ.objs p):=by
  intro p a1 hr;simp only[objs',w3]at hr;cases aq:fj uI p with
  |some gk=>
   obtain⟨k,dN,a9,bk,b1,eU⟩:=Fb p gk aq;rcases Qt k a9 with⟨ae,ay,a7,bZ⟩|⟨_,ae⟩;.obtain⟨aY,cG⟩:=BD bZ;obtain⟨o',e7,hd⟩:=cC.ok k _ cG;rw[cG]at bZ;rw[<-bk,a7,e7];exact akT hd bZ
   rw[bk]at ae;exact absurd ae (Nat.not_lt.2 a1)
  |none=>
   rw[aq]at hr;simp only at hr;split at hr;.exact absurd hr EB
   exact hr
 refine⟨_,cH,k1,⟨al,by rw[aF.wx];exact Kl⟩,y2,akZ.put h9 ja,sE v,l4 v,?_⟩;intro p a1 ao;rw[aF.wx];obtain⟨cs,hr⟩:=BD ao;refine⟨?_,K2 p ⟨_,hr⟩⟩;show eR (objs' p);simp only[objs',w3];by_cases Qu:p∈(s.ins.map (·.1)).map (fU cf)
 .obtain⟨k,nN,rfl⟩:=xaP.1 Qu;obtain⟨q,bQ,rfl⟩:=xaP.1 nN;have aa:=de q bQ;by_cases a7:10000<=q.1
  .rw[xaa a7]at aa;simp only[xak,xbv,xbF]at aa;obtain⟨_,oC,sS,bZ,cG⟩:=aa;have rp:q.1∈s.outs.map (·.1):=xaP.2 ⟨oC,sS,bZ⟩;have ak1:φ q.1=fU cf q.1:=by rw[<-j7];simp only[rm,xaa a7]
   obtain⟨gk,e7⟩:=Qn (φ:=φ) (lo:=s.pC fe) (k:=q.1) (by rw[Qp];exact rp);obtain⟨k,dN,a9,bk,b1,eU⟩:=Fb _ gk e7;have dh:k=q.1:=YZ k q.1 a9 rp bk;subst dh;have h7:eR (fj (s.pC fe) q.1):=YW (ls:=fe) (n:=(pB fe s.res 0).2) cZ sS bZ cG;rw[eU]at h7;rw[<-ak1];have nO:fj uI (φ q.1)=some gk:=e7;rw[nO,b1];rcases h7 with⟨aCk,h7⟩|⟨lD,ak2,h7⟩|⟨ak2,h7⟩
   .cases h7;exact uj
   .cases h7;exact sD
   cases h7;exact wv
  rw[xac a7]at aa;simp only[xak,xaE]at aa;exact absurd aa.2 (Nat.not_lt.2 a1)
 cases aq:fj uI p with
 |some gk=>
  exfalso;obtain⟨k,dN,a9,bk,b1,eU⟩:=Fb p gk aq;rcases Qt k a9 with⟨ae,ay,a7,bZ⟩|⟨ae,_⟩
  .exact Qu (xaP.2 ⟨k,ay,by rw[<-a7,bk]⟩)
  rw[bk,hr]at ae;cases ae
 |none=>simp only;rw[xac Qu];exact ao
end
structure B7 where
 s:eu
 F:List D->Option (List D)
 base:Nat
 pA:List wV
abbrev w4:=Tmp->Option B7
def kt(P:Program)(G:df)(H:w4):Prop:=∀t e,H t=some e->dC P G e.s e.F
def K3:aS->List Key
 | .row k=>[k]| .map k=>[k]|_=>[]
def K4:aS->List Key
 | .agg cs=>cs.flatMap K3| .fn _ as jj=>as.flatMap K3++jj.flatMap K3|x=>K3 x
def K5:aS->List Key
 | .ptr k _=>[k]|_=>[]
def Y3:aS->List Key
 | .agg cs=>cs.flatMap K5| .fn _ as jj=>as.flatMap K5++jj.flatMap K5|x=>K5 x
def Y4(objs:cw)(k:Key):List aS:=match objs k with|some (.box cs)=>cs|_=>[]
section
variable{β:Type}
def Y5(T:cd)(G:df)(C:ly)(σ:aF)(o:Oper)(x:Operand)(args:List Operand)(k:aF->Option β):Option β:=
 let um:=(x::args).map (b7 G σ.aH)
 let fO:=um.flatMap Y3
 let bw:=fO.flatMap (Y4 σ.objs)
 let h5:=bw.flatMap Y3
 let bO:=h5.flatMap (Y4 σ.objs)
 y0 [um.flatMap K4++bw.flatMap K4++bO.flatMap K4,h5,fO] σ λσ=>yP T G C σ o x args k
def Y6(o:Oper):Tmp:=match o.op,o.dst with| .store _ (.tmp a) _,_=>20000+a| .mapUpdate _ (.tmp a) _ _,_=>30000+a|_,some d=>d|_,none=>9999
def ak3:Op->List Operand
 | .buildSlice _ _ iw=>iw.toList.map (·.2)| .build _ iw=>iw.toList.map (·.2)| .box _ x=>[x]| .store _ _ x=>[x]| .mapUpdate _ _ _ x=>[x]| .call ⟨.builtin .append,args,_⟩=>args.toList.drop 1|_=>[]
def B8:D->Option (TypeId×D)
 | .dU t x=>some (t,x)|_=>none
def gw{eG:Type}(t c:Nat)(a b:Option eG):Option eG:=if t=c then a else b
def K6(sm:TypeId->Option FuncId)(t:TypeId)(k:FuncId->Option D):List TypeId->Option D
 |[]=>none|c::r=>gw t c (match sm c with|some f=>k f|none=>none) (K6 sm t k r)
def Qv(T:cd)(G:df)(C:ly)(σ:aF)(o:Oper)(x:Operand)(name:String)(args:List Operand)(k:aF->Option β):Option β:=match b7 G σ.aH x with
 | .d a=>match hh ((args.map (b7 G σ.aH)).map (toD σ.objs))with|some aO=>J (B8 a) λp=>J (K6 (λt=>T.sm t name) p.1 (λf=>C (o.dst.getD 9999) f (p.2::aO)) T.Wd) λr=>aD ((args.map (b7 G σ.aH)).all sF) (k (σ.put o.dst (.d r)))|none=>none
 |_=>none
def K7(T:cd)(G:df)(iI:Tmp->Bool)(σ:aF)(o:Oper)(k:aF->Option β):Option β:=match iI (Y6 o)with|true=>y0 [((ak3 o.op).map (b7 G σ.aH)).flatMap K4] σ λσ=>sM T G σ o k|false=>sM T G σ o k
def Qw(T:cd)(G:df)(C:ly)(H:w4)(iI:Tmp->Bool)(σ:aF)(o:Oper)(k:aF->Option β):Option β:=match o.op with
 | .call ⟨.value x,args,_⟩=>match H (o.dst.getD 9999)with
  |some e=>oR e.pA σ λσ=>Qm G e.s e.F e.base σ o x args.toList λaX=>match iI (o.dst.getD 9999)with|true=>B4 (o.dst.getD 9999) aX k|false=>k aX
  |none=>match iI (o.dst.getD 9999)with|true=>Y5 T G C σ o x args.toList k|false=>yP T G C σ o x args.toList k
 | .call ⟨.invoke x name,args,_⟩=>Qv T G C σ o x name args.toList k| .slice _ _ _ _ _=>match iI (Y6 o)with|true=>sM T G σ o λaX=>B4 (o.dst.getD 9999) aX k|false=>sM T G σ o k
 | .store _ _ (.tmp t)=>match iI (40000+t)with|true=>B4 t σ λσ=>sM T G σ o k|false=>K7 T G iI σ o k
 |_=>K7 T G iI σ o k
def Qx(T:cd)(G:df)(C:ly)(H:w4)(iI:Tmp->Bool):List Oper->aF->(aF->Option β)->Option β
 |[],σ,k=>k σ|o::r,σ,k=>Qw T G C H iI σ o λaX=>Qx T G C H iI r aX k
def Qy(o:Oper):Bool:=still o||qe o.op
def y3(T:cd)(G:df)(C:ly)(H:w4)(iI:Tmp->Bool)(all:Array Oper):List (Option (Nat×Bool)×List Oper)->aF->(aF->Option β)->Option β
 |[],σ,k=>k σ|(none,os)::r,σ,k=>Qx T G C H iI os σ λaX=>y3 T G C H iI all r aX k
 |(some (j,want),os)::r,σ,k=>match(all[j]?).bind (·.dst),wS os with
  |some d,some cn=>match σ.aH d with
   | .d x=>if os.all (λo=>Qy o&&o.dst !=some d)=true then
     (if(kept all os (flat r)).all (·==cn)=true then
      J (bE x want (sO T G C os σ λaX=>match aX.aH cn with| .d v=>some v|_=>none)) λv=>y3 T G C H iI all r ((lz (dstsOf os) σ).put (some cn) (.d v)) k
     else J (bE x want (sO T G C os σ λaX=>match E1 aX (kept all os (flat r))with|some l=>some (.agg l)|none=>none)) λv=>y3 T G C H iI all r (wT (kept all os (flat r)) v (lz (dstsOf os) σ)) k)else none
   |_=>none
  |_,_=>none
def Y7(T:cd)(G:df)(C:ly)(H:w4)(iI:Tmp->Bool)(all:Array Oper)(σ:aF)(k:aF->Option β):Option β:=y3 T G C H iI all (wR all.toList) σ k
end
def B9{objs:cw}{k d:Key}{o:cP}(h:eR (some o)->eR (objs k)\/k=d):∀j,eR (cl objs k (some o) j)->eR (objs j)\/j=d:=by
 intro j aI;by_cases gu:j=k;.subst gu;rw[eX]at aI;exact h aI
 rw[cV _ _ gu]at aI;exact .inl aI
def ak4{T:cd}{ev:Operand->aS}{objs:cw}{d:Key}{o:Op}{r:aS}{cz:List (Key×cP)}(h:ek T ev objs d o=some (r,cz)):∀j,eR (dz objs cz j)->eR (objs j)\/j=d:=by
 have new:∀{o:cP},∀j,eR (dz objs [(d,o)] j)->eR (objs j)\/j=d:=by intro o;exact B9 (λ_=> .inr rfl)
 have row:∀{k:Key}{n gb:Nat}{es gE:List (List D)},objs k=some (.row gb gE)->∀j,eR (dz objs [(k,.row n es)] j)->eR (objs j)\/j=d:=by intro k n gb es gE al;exact B9 (λ_=> .inl (by rw[al];exact sD))
 have mp:∀{k:Key}{es gE:List (Value×D)},objs k=some (.map gE)->∀j,eR (dz objs [(k,.map es)] j)->eR (objs j)\/j=d:=by intro k es gE al;exact B9 (λ_=> .inl (by rw[al];exact wv))
 cases o<;>simp only[ek,reduceCtorEq]at h
 case alloc=>split at h<;>cases h;exact new
 case box=>split at h<;>cases h;exact new
 case buildSlice=>
  split at h
  case h_2=>cases h
  split at h
  case h_2=>cases h
  split at h
  case h_2=>cases h
  split at h<;>cases h;exact new
 case makeSlice=>
  split at h
  case h_2=>cases h
  split at h
  case h_2=>cases h
  split at h
  case h_2=>cases h
  split at h<;>cases h;exact new
 case makeMap=>split at h<;>cases h;exact new
 case store=>
  split at h
  case h_2=>cases h
  split at h
  case isFalse=>cases h
  split at h
  .split at h
   case h_2=>cases h
   split at h<;>cases h;rename_i al _;exact B9 λ_=> .inl (by rw[al];exact uj)
  .split at h
   case h_2=>cases h
   split at h
   case isFalse=>cases h
   split at h<;>cases h;exact row (by assumption)
  cases h
 case mapUpdate=>
  split at h
  case h_2=>cases h
  split at h
  case h_2=>cases h
  split at h
  case isFalse=>cases h
  split at h
  case h_2=>cases h
  split at h
  case h_2=>cases h
  split at h<;>cases h;exact mp (by assumption)
 case insert=>
  split at h
  case h_2=>cases h
  split at h
  case h_2=>cases h
  split at h
  case isFalse=>cases h
  split at h
  case h_2=>cases h
  split at h
  case h_2=>cases h
  split at h<;>cases h;exact mp (by assumption)
 case call=>
  split at h
  .split at h
   case h_2=>cases h
   split at h
   case h_2=>cases h
   split at h
   case h_2=>cases h
   split at h
   case h_2=>cases h
   split at h
   case isFalse=>cases h
   split at h;.split at h<;>cases h;exact new
   .split at h
    case h_2=>cases h
    split at h<;>cases h;intro j aI;rcases B9 (d:=d) (λ_=> .inr rfl) j aI with aa|aa
    .exact B9 (λh=>absurd h EB) j aa
    exact .inr aa
   cases h
  .split at h
   case h_2=>cases h
   split at h
   case h_2=>cases h
   split at h
   case h_2=>cases h
   split at h
   case h_2=>cases h
   split at h
   case isFalse=>cases h
   split at h
   .split at h
    case h_2=>cases h
    split at h<;>cases h;exact row (by assumption)
   .split at h
    case h_2=>cases h
    split at h<;>cases h;exact row (by assumption)
   cases h
  .split at h
   case h_2=>cases h
   split at h
   case h_2=>cases h
   split at h
   case h_2=>cases h
   split at h
   case h_2=>cases h
   split at h
   case h_2=>cases h
   split at h<;>cases h;exact row (by assumption)
  cases h
def ak5{T:cd}{ev:Operand->aS}{objs:cw}{d:Key}{o:Op}{r:aS}{cz:List (Key×cP)}(h:g2 T ev objs d o=some (r,cz)):∀j,eR (dz objs cz j)->eR (objs j)\/j=d:=by
 obtain⟨⟨iY,sB⟩,ar,ao⟩:=wq h;have aa:=ak4 ar;intro j aI;by_cases aA:j=d
 .exact .inr aA
 rcases yu (T.born d) d iY sB with e|⟨n,es,rfl,rfl,e⟩|⟨qa,n,es,rfl,rfl,e⟩|⟨off,cs,aO,rfl,rfl,eF,e⟩;.rw[ao]at e;cases e;exact aa j aI
 .rw[ao]at e;cases e;exact aa j (by simp only[dz,cV _ _ aA]at aI⊢;exact aI)
 .rw[ao]at e;cases e;exact aa j (by simp only[dz,cV _ _ aA]at aI⊢;exact aI)
 rw[ao]at e;cases e;exact aa j (by simp only[dz,cV _ _ aA]at aI⊢;exact aI)
section
variable{P:Program}{T:cd}{G:df}{N:Nat}{σ:aF}{all:Array Oper}{ib:List Key}
def ft.put(h:ft ib σ){dst:Option Tmp}{r:aS}:ft ib (σ.put dst r):=by intro k al ao;rw[aF.wx]at ao;exact h k al ao
def K8(b9:ft ib σ){o:Oper}(aA:∀d,o.dst=some d->d<10000){aX:aF}(h:gL T G σ o=some aX):ft ib aX:=by
 unfold gL at h;split at h;.cases h;exact b9.put
 split at h;.cases h;exact b9.put
 split at h
 case h_2=>cases h
 rename_i r cz he;cases h;refine ft.put ?_;intro k al ao;rcases ak5 he k ao with aa|aa
 .exact b9 k al aa
 exfalso;have:o.dst.getD 9999<10000:=by cases aL:o.dst with|none=>simp|some d=>exact aA d aL
 exact absurd this (Nat.not_lt.2 (aa▸al))
def Y8(b9:ft ib σ){o:Oper}(aA:∀d,o.dst=some d->d<10000){K:aF->Prop}(h:c7 P T G o K σ):c7 P T G o (λaX=>ft ib aX/\K aX) σ:=by
 unfold c7 at*;split;.rename_i aX aE;simp only[aE]at h;exact⟨K8 b9 aA aE,h⟩
 rename_i aE;simp only[aE]at h;unfold jB at*;split at h
 case h_2=>cases h
 split at h
 case h_2=>cases h
 obtain⟨m5,aO,e8,aa,ae,ay,a7,bZ,cG⟩:=h;exact⟨m5,aO,e8,aa,ae,ay,a7,bZ,λr aw=>⟨b9.put,cG r aw⟩⟩
def Qz:∀{l:List Oper}{σ:aF}{K:aF->Prop},ft ib σ->(∀o∈l,∀d,o.dst=some d->d<10000)->fI P T G all l K σ->fI P T G all l (λaX=>ft ib aX/\K aX) σ
 |[],σ,K,b9,_,h=>⟨b9,h⟩|o::l,σ,K,b9,aA,h=>by unfold fI at*;rw[hs]at*;cases hw:jN all σ o with|none=>rw[hw]at h;exact h|some w=>rw[hw]at h;cases w with|true=>exact qg (λaX ⟨aa,ae⟩=>Qz aa (λo aL=>aA o (by simp[aL])) ae) (Y8 b9 (aA o (by simp)) h)|false=>exact Qz b9.put (λo aL=>aA o (by simp[aL])) h
end
section
variable{P:Program}{T:cd}{G:df}{C:ly}{H:w4}{iI:Tmp->Bool}{N:Nat}{σ:aF}{all:Array Oper}{ib:List Key}
def oS(P:Program)(G:df)(N:Nat)(all:Array Oper)(i:Nat)(l:List Oper)(K:aF->Prop)(σ:aF):Prop:= ∀m fr ρ a w (Q:Exit->Act->World->Prop),kk G m->Den m fr ρ σ a w->N<=a.tmps.size->a.defers=[]->(∀cK w',iZ N m fr ρ σ K cK w'->Q .normal cK w')->wpOps P all Q (List.range' i l.length) a w
def iJ(P:Program)(G:df)(N:Nat)(o:Oper)(K:aF->Prop)(σ:aF):Prop:= ∀m fr ρ a w (Q:Exit->Act->World->Prop),kk G m->Den m fr ρ σ a w->N<=a.tmps.size->a.defers=[]->o.wp P a w (iZ N m fr ρ σ K) Q
def ak6{i:Nat}{K:aF->Prop}(h:K σ):oS P G N all i [] K σ:=λm fr ρ a w Q c0 cU ca aA hP=>hP a w ⟨σ,m,ρ,h,Mem.le_refl m,cU,ca,aA,kK.refl _ _⟩
def ak7{i:Nat}{o:Oper}{l:List Oper}{K:aF->Prop}(aj:all[i]?=some o)(bG:o.guard=none)(h:iJ P G N o (oS P G N all (i+1) l K) σ):oS P G N all i (o::l) K σ:=by
 intro m fr ρ a w Q c0 cU ca aA hP;rw[xat,List.range'_succ,wpOps_cons];refine wpOp_mono (K:=iZ N m fr ρ σ (oS P G N all (i+1) l K)) ?_ ?_;.rintro cK w' ⟨aX,cH,cT,bV,bN,cC,dK,et,fi⟩;exact bV cH fr cT cK w' Q (c0.mono bN) cC dK et λps kL aw=>hP ps kL (aw.trans bN fi)
 unfold wpOp;simp only[aj];have:Region.wanted o (yielded all a.tmps)=true:=by simp[Region.wanted,bG]
 rw[xaa this];exact .inl (h m fr ρ a w Q c0 cU ca aA)
def iJ.mono{o:Oper}{K K':aF->Prop}(al:∀σ,K σ->K' σ)(h:iJ P G N o K σ):iJ P G N o K' σ:=λm fr ρ a w Q c0 cU ca aA=>by
  have:=h m fr ρ a w Q c0 cU ca aA;unfold Oper.wp at*;generalize (execOp a.eval o).run P w=r at*;cases r with
  |ok n w'=>
   cases n<;>simp only[Oper.upon]at this⊢<;>first|exact this.mono al|exact this|skip
   .refine this.mono λe kL he=>?_;cases e with|returned v=>exact he.mono al|panicked c=>exact he|outgrown=>exact he
   exact this.mono λv kL he=>he.mono al
  |halt x w'=>cases x<;>exact this
def iJ.BZ{o:Oper}{K:aF->Prop}{τ:aF}(he:gU σ τ)(h:iJ P G N o K τ):iJ P G N o K σ:=by
 intro m fr ρ a w Q c0 cU ca aA;obtain⟨cH,cT,aa,ae,ay⟩:=he m fr ρ a w cU;have:=h cH fr cT a w Q (c0.mono aa) ae ca aA;unfold Oper.wp at*;generalize (execOp a.eval o).run P w=r at*;cases r with
 |ok n w'=>
  cases n<;>simp only[Oper.upon]at this⊢<;>first|exact this.trans aa ay|exact this|skip
  .refine this.mono λe kL he=>?_;cases e with|returned v=>exact he.trans aa ay|panicked c=>exact he|outgrown=>exact he
  exact this.mono λv kL he=>he.trans aa ay
 |halt x w'=>cases x<;>exact this
def K9(bb:dR P T){o:Oper}(gj:∀d,o.dst=some d->d<N){K:aF->Prop}(h:c7 P T G o K σ):iJ P G N o K σ:=λm fr ρ a w Q c0 cU ca aA=>Ph bb c0 cU ca aA gj h
def ak8{ks:List Key}(h:ft ib σ):ft ib (freeze ks σ):=by
 intro k al ao;have gi:eR (if k∈ks then some .dead else(σ.objs k).map (E7 σ.objs ks)):=ao;split at gi
 .exact absurd gi EB
 cases aL:σ.objs k with|none=>rw[aL]at gi;exact absurd gi uk|some dN=>rw[aL]at gi;cases dN with|box cs=>exact h k al (by rw[aL];exact uj)|dead=>exact absurd gi EB|row=>exact h k al (by rw[aL];exact sD)|map=>exact h k al (by rw[aL];exact wv)
def Fg{β:Type}:∀{l:List (List Key)} {σ:aF} {k:aF->Option β} {b:β},ft ib σ->y0 l σ k=some b->∃τ,gU σ τ/\ft ib τ/\k τ=some b
 |[],σ,k,b,b9,h=>⟨σ,gU.refl σ,b9,h⟩
 |ks::r,σ,k,b,b9,h=>by
  unfold y0 at h;split at h;.exact Fg b9 h
  split at h
  case isFalse=>cases h
  rename_i eI;obtain⟨τ,aa,ae,ay⟩:=Fg (ak8 b9) h;exact⟨τ,(akL _ eI).trans aa,ae,ay⟩
def QA{β:Type}{t:Tmp}{σ:aF}{k:aF->Option β}{b:β}(b9:ft ib σ)(h:B4 t σ k=some b):∃τ,gU σ τ/\ft ib τ/\k τ=some b:=by
 unfold B4 at h;split at h
 case h_2=>cases h
 rename_i key cN i len aJ;split at h
 case h_2=>cases h
 rename_i br es al ar;split at h
 case isFalse=>cases h
 rename_i dh;obtain⟨dh,lC,m8⟩:=dh;subst dh;obtain⟨aa,ae⟩:=k3 h;refine⟨_,akM aJ al ar (xaX aa) lC,?_,ae⟩;intro j aI an;simp only at an;by_cases ay:j=t;.subst ay;exact absurd m8 (Nat.not_lt.2 aI)
 rw[cV _ _ ay]at an;by_cases a7:j=key;.subst a7;exact absurd lC (Nat.not_lt.2 aI)
 rw[cV _ _ a7]at an;exact b9 j aI an
def iJ.out{o:Oper}{K:aF->Prop}(h:iJ P G N o (λaX=>∃τ,gU aX τ/\K τ) σ):iJ P G N o K σ:=λm fr ρ a w Q c0 cU ca aA=>by
  have key:∀{cK w'},iZ N m fr ρ σ (λaX=>∃τ,gU aX τ/\K τ) cK w'->iZ N m fr ρ σ K cK w':=by rintro cK w' ⟨aX,cH,cT,⟨τ,a9,bk⟩,ae,ay,a7,bZ,cG⟩;obtain⟨yD,yE,aP,a2,bS⟩:=a9 cH fr cT cK w' ay;exact⟨τ,yD,yE,bk,Mem.le_trans ae aP,a2,a7,bZ,cG.trans bS⟩
  have:=h m fr ρ a w Q c0 cU ca aA;unfold Oper.wp at*;generalize (execOp a.eval o).run P w=r at*;cases r with
  |ok n w'=>
   cases n<;>simp only[Oper.upon]at this⊢<;>first|exact key this|exact this|skip
   .refine this.mono λe kL he=>?_;cases e with|returned v=>exact key he|panicked c=>exact he|outgrown=>exact he
   exact this.mono λv kL he=>key he
  |halt x w'=>cases x<;>exact this
def Y9{β:Type}(bb:dR P T)(ch:g3 P G C){o:Oper}(gj:∀d,o.dst=some d->d<N){x:Operand}{args:Array Operand}{dA:Array TypeId}(aL:o.op= .call ⟨.value x,args,dA⟩){k:aF->Option β}{b:β}(b9:ft ib σ) (h:yP T G C σ o x args.toList k=some b):iJ P G N o (λaX=>k aX=some b/\ft ib aX) σ:=by refine K9 bb gj (qg ?_ (KM (T:=T) ch aL h));rintro aX ⟨aa,ae,_⟩;refine⟨aa,λj aI ao=>b9 j aI (by rw[<-ae];exact ao)⟩
def Za{sm:TypeId->Option FuncId}{t:TypeId}{k:FuncId->Option D}{r:D}:∀{l:List TypeId},K6 sm t k l=some r->∃f,sm t=some f/\k f=some r
 |[],h=>by cases h
 |c::l,h=>by
  unfold K6 gw at h;split at h
  .rename_i an;subst an;split at h;.rename_i f a8;exact⟨f,a8,h⟩
   cases h
  exact Za h
def ak9{P:Program}{t:TypeId}{name:String}{f:FuncId}(hm:JD P t name f)(n:Nat)(v:Value)(w:World):(method (n+1) t v name).run P w= .ok (f,v) w:=by
 obtain⟨info,m,d,aa,ae,ay,a7,bZ,cG⟩:=hm;have aP:(typeInfo t).run P w= .ok info w:=by simp[typeInfo,aa]
 unfold method;simp only[xah,aP,xaf,ae,ay,follow,xau,a7,receiverAt,xaq bZ];cases d<;>first|(simp only[Place.get,xau,xaf];done)|(exact absurd rfl (cG _))
def ala{P:Program}{va:Operand->Value}{x:Operand}{name:String}{args:Array Operand}{dA:Array TypeId}{ty:TypeId}{t:TypeId}{v:Value}{f:FuncId}{w:World}(ah:va x= .iface t v)(hm:JD P t name f)(a8:wu P f):(do let d<-resolve va {callee:= .invoke x name,args:=args,argTypes:=dA} ty;invoke d.target d.args:Sem Next).run P w= .ok (.enter f (#[v]++args.map va)) w:=by
 obtain⟨fn,aa,ae,ay⟩:=a8;have iu:0<Made.depth:=by decide
 have aA:∃n,P.types.size+Made.depth=n+1:=⟨P.types.size+Made.depth-1,by omega⟩;obtain⟨n,aM⟩:=aA;have bU:(#[Value.iface t v]++args.map va)[0]?=some (Value.iface t v):=by rw[xbG (by simp)];rfl
 have aP:(#[Value.iface t v]++args.map va).extract 1 (#[Value.iface t v]++args.map va).size=args.map va:=by apply xbC;simp[List.extract,xbH]
 have a2:(program:Sem Program).run P w= .ok P w:=rfl;have y2:=ak9 hm n v w;have QB:(callFunc f (#[v]++args.map va)).run P w= .ok (.enter f (#[v]++args.map va)) w:=by simp only[callFunc,xah,a2,xaf,aa,ae,ay,xan,xaz,xau]
 simp only[xah,resolve,ah,xau,xaf,invoke,bU,aP,callMethod,a2,aM,y2,QB]
def alb{β:Type}(bb:dR P T)(ch:g3 P G C){o:Oper}(gj:∀d,o.dst=some d->d<N){x:Operand}{name:String}{args:Array Operand}{dA:Array TypeId}(aL:o.op= .call ⟨.invoke x name,args,dA⟩){k:aF->Option β}{b:β}(b9:ft ib σ) (h:Qv T G C σ o x name args.toList k=some b):iJ P G N o (λaX=>k aX=some b/\ft ib aX) σ:=by
 unfold Qv at h;split at h
 case h_2=>cases h
 rename_i d aA;split at h
 case h_2=>cases h
 rename_i aO eF;obtain⟨p,a1,h⟩:=e5 h;obtain⟨r,aw,h⟩:=e5 h;obtain⟨bZ,cG⟩:=k3 h;obtain⟨f,a8,QB⟩:=Za aw;have Zb:=ch _ _ _ _ QB;have EL:=bb.OD _ _ _ a8;obtain⟨t,y⟩:=p;have alc:d= .dU t y:=by
  unfold B8 at a1;split at a1;.cases a1;rfl
  cases a1
 subst alc;intro m fr ρ a w Q c0 QC ca hi;have dk:=Eg (a:=a) c0 QC.aH;have ja:∀d,o.dst=some d->d<a.tmps.size:=λd aA=>Nat.lt_of_lt_of_le (gj d aA) ca;have sE:∀v,N<=(a.put o.dst v).tmps.size:=by intro v;cases o.dst<;>simpa[Act.put]using ca
 have l4:∀v,(a.put o.dst v).defers=[]:=by intro v;cases o.dst<;>exact hi
 have ah:=dk x;rw[aA]at ah;have ah:=ah.oz;obtain⟨v,O3,ald⟩:∃v,a.eval x= .iface t v/\di m y v:=by generalize a.eval x=u at ah;cases ah with|dU _ _ v h=>exact⟨v,rfl,h⟩
 have Pf:(execOp a.eval o).run P w= .ok (.enter f (#[v]++args.map a.eval)) w:=by unfold execOp;rw[aL];exact ala O3 EL Zb.fn
 unfold Oper.wp;rw[Pf];have Pg:yv m (y::aO) (#[v]++args.map a.eval).toList:=by obtain⟨a9,bk⟩:=q3 eF;refine⟨by simp[a9],?_⟩;intro i d kl aA aN;simp only[Array.toList_append,xbw,xaH,Array.toList_map]at aN;cases i with|zero=>simp at aA aN;subst aA;subst aN;exact ald|succ i=>simp only[xca]at aA aN;have b1:=bk i d aA;simp only[xai,xag]at b1 aN;obtain⟨z,⟨q,bQ,rfl⟩,ale⟩:=b1;obtain⟨aCl,Zc,rfl⟩:=aN;rw[bQ]at Zc;cases Zc;exact Pd (xas.1 bZ _ (xaP.2 ⟨q,xad bQ,rfl⟩)) ale (dk q)
 have sG:=Zb.run m _ w _ c0 QC.Xa Pg;simp only[Array.toArray_toList]at sG;refine sG.mono λe w' he=>?_;obtain⟨kl,cH,uc,rfl,bV,bN,cC,dK⟩:=he;subst bV;have alf:=QC.kept bN cC;exact⟨_,cH,ρ,⟨cG,λj aI ao=>b9 j aI (by simpa using ao)⟩,bN,alf.put (.d _ _ dK) ja,sE kl,l4 kl,λk al ao=>⟨by simpa using ao,rfl⟩⟩
def Zd{β:Type}(bb:dR P T)(ch:g3 P G C)(fH:kt P G H)(ca:N<10000){o:Oper}(gj:∀d,o.dst=some d->d<N){k:aF->Option β}{b:β}(b9:ft ib σ)(h:K7 T G iI σ o k=some b):iJ P G N o (λaX=>k aX=some b/\ft ib aX) σ:=by
 unfold K7 at h;have step:∀{τ:aF},ft ib τ->sM T G τ o k=some b->iJ P G N o (λaX=>k aX=some b/\ft ib aX) τ:=by intro τ b9 h;obtain⟨aX,aa,ae⟩:=yO h;refine K9 bb gj ?_;unfold c7;rw[aa];exact⟨ae,K8 b9 (λd aA=>Nat.lt_trans (gj d aA) ca) aa⟩
 split at h;.obtain⟨τ,aa,ae,ay⟩:=Fg b9 h;exact iJ.BZ aa (step ae ay)
 exact step b9 h
def alg{β:Type}(bb:dR P T)(ch:g3 P G C)(fH:kt P G H)(ca:N<10000){o:Oper}(gj:∀d,o.dst=some d->d<N){k:aF->Option β}{b:β}(b9:ft ib σ)(h:Qw T G C H iI σ o k=some b):iJ P G N o (λaX=>k aX=some b/\ft ib aX) σ:=by
 unfold Qw at h;split at h
 .rename_i x args dA aL;split at h
  .rename_i e he;obtain⟨τ,t1,QD,h⟩:=sQ b9 h;refine iJ.BZ t1 ?_;generalize fF:(λaX=>match iI (o.dst.getD 9999)with|true=>B4 (o.dst.getD 9999) aX k|false=>k aX)=br at h;have main:iJ P G N o (λaX=>br aX=some b/\ft ib aX) τ:=by refine iJ.mono (K:=λaX=>br aX=some b/\∀p,10000<=p->eR (aX.objs p)->eR (τ.objs p)) (λaX ⟨aa,ae⟩=>⟨aa,λp a1 ao=>QD p a1 (ae p a1 ao)⟩) ?_;intro m fr ρ a w Q c0 cU nI aA;exact akU c0 cU nI aA gj (fH _ _ he) aL h (Q:=Q)
   refine iJ.out (iJ.mono ?_ main);rintro aX ⟨aa,ae⟩;subst fF;simp only at aa;split at aa;.obtain⟨alh,a9,bk,b1⟩:=QA ae aa;exact⟨alh,a9,b1,bk⟩
   exact⟨aX,gU.refl aX,aa,ae⟩
  split at h;.unfold Y5 at h;simp only at h;obtain⟨τ,aa,ae,ay⟩:=Fg b9 h;exact iJ.BZ aa (Y9 bb ch gj aL ae ay)
  exact Y9 bb ch gj aL b9 h
 .rename_i x name args dA aL;exact alb bb ch gj aL b9 h
 .have step:∀{τ:aF}{k:aF->Option β},ft ib τ->sM T G τ o k=some b->iJ P G N o (λaX=>k aX=some b/\ft ib aX) τ:=by
   intro τ k b9 h;obtain⟨aX,aa,ae⟩:=yO h;refine K9 bb gj ?_;unfold c7;rw[aa];exact⟨ae,K8 b9 (λd aA=>Nat.lt_trans (gj d aA) ca) aa⟩
  split at h;.refine iJ.out (iJ.mono ?_ (step b9 h));rintro aX ⟨aa,ae⟩;obtain⟨τ,a9,bk,b1⟩:=QA ae aa;exact⟨τ,a9,b1,bk⟩
  exact step b9 h
 .split at h;.obtain⟨τ,a9,bk,b1⟩:=QA b9 h;refine iJ.BZ a9 ?_;obtain⟨aX,aa,ae⟩:=yO b1;refine K9 bb gj ?_;unfold c7;rw[aa];exact⟨ae,K8 bk (λd aA=>Nat.lt_trans (gj d aA) ca) aa⟩
  exact Zd bb ch fH ca gj b9 h
 exact Zd bb ch fH ca gj b9 h
def Ze{β:Type}(bb:dR P T)(ch:g3 P G C)(fH:kt P G H)(ca:N<10000){K:aF->Prop}:∀{os:List Oper}{r:List Oper}{i:Nat}{σ:aF}{k:aF->Option β}{b:β},(∀o∈os,o.guard=none)->(∀o∈os,∀d,o.dst=some d->d<N)->(∀j,(os++r)[j]?=all[i+j]?)->ft ib σ->(∀aX,ft ib aX->k aX=some b->oS P G N all (i+os.length) r K aX)->Qx T G C H iI os σ k=some b->oS P G N all i (os++r) K σ
 |[],r,i,σ,k,b,_,_,_,b9,al,h=>al σ b9 h
 |o::os,r,i,σ,k,b,bG,aA,gq,b9,al,h=>by
  have aj:all[i]?=some o:=by simpa using(gq 0).symm
  refine ak7 aj (bG o (by simp)) (iJ.mono ?_ (alg bb ch fH ca (aA o (by simp)) b9 h));rintro aX ⟨aa,ae⟩;refine Ze bb ch fH ca (λo aL=>bG o (by simp[aL])) (λo aL=>aA o (by simp[aL])) (λj=>by have:=gq (j+1);simpa[xbc,Nat.add_comm 1 j]using this) ae ?_ aa;intro rb ay a7;have:=al rb ay a7;rw[show i+(o::os).length=i+1+os.length by simp;omega]at this;exact this
def b3.shrink{m y4:Mem}{ρ QE:da}{U qi:Key->Prop}{x:aS}{v:Value}(h:b3 m ρ U x v):∀{v0:Value},b3 y4 QE qi x v0->b3 m ρ qi x v:=by
 induction h with
 |any v=>intro v0 _;exact .any _
 |d x v h=>intro v0 _;exact .d _ _ h
 |agg cs vs aq h ih=>
  intro v0 ar;cases ar with|agg _ y5 m9 Fh=>
  refine .agg _ _ aq λi c v an aN=>?_;have aj:i<y5.size:=by rw[m9];exact(xae.1 an).1
  exact ih i c v an aN (Fh i c _ an (xal aj))
 |aR cs vs aq h ih=>
  intro v0 ar;cases ar with|aR _ y5 m9 Fh=>
  refine .aR _ _ aq λi c v an aN=>?_;have aj:i<y5.size:=by rw[m9];exact(xae.1 an).1
  exact ih i c v an aN (Fh i c _ an (xal aj))
 |dV cs off b o vs T en ao xs aa ae=>intro v0 _;exact .dV _ _ b o vs T en ao xs aa ae
 |ptr key off b hu h=>intro v0 ar;cases ar with|ptr _ _ _ l2 _=>exact .ptr _ _ b l2 h
 |gp key k i off b o len cap hu h=>intro v0 ar;cases ar with|gp _ _ _ _ _ _ _ _ l2 _=>exact .gp _ _ _ _ b o len cap l2 h
 |row key hu=>intro v0 ar;cases ar with|row _ l2=>exact .row _ l2
 |sub key k i len b o L cap a hu h hle aG=>intro v0 ar;cases ar with|sub _ _ _ _ _ _ _ _ _ l2=>exact .sub _ _ _ _ b o L cap a l2 h hle aG|jM _ _ _ l2=>exact .sub _ _ _ _ b o L cap a l2 h hle aG
 |jM key k i hu h=>intro v0 ar;cases ar with|sub _ _ _ _ _ _ _ _ _ l2=>exact .jM _ _ _ l2 h|jM _ _ _ l2=>exact .jM _ _ _ l2 h
 |map key hu=>intro v0 ar;cases ar with|map _ l2=>exact .map _ l2
 |fn f first captured vs ws aq eP h bD ih yd=>
  intro v0 ar;cases ar with|fn _ _ _ y5 ali m9 alj Fh alk=>
  refine .fn _ _ _ _ _ aq eP (λi c v an aN=>?_) (λi c v an aN=>?_)
  .have aj:i<y5.size:=by rw[m9];exact(xae.1 an).1
   exact ih i c v an aN (Fh i c _ an (xal aj))
  .have aj:i<ali.size:=by rw[alj];exact(xae.1 an).1
   exact yd i c v an aN (alk i c _ an (xal aj))
def jh.shrink{m y4:Mem}{ρ QE:da}{U qi:Key->Prop}{o:cP}{v v0:Value}{w w0:World}(h:jh m ρ U v w o)(ar:jh y4 QE qi v0 w0 o):jh m ρ qi v w o:=by
 cases o with
 |dead=>trivial
 |box cs=>
  obtain⟨b,vs,T,aP,a2,bS,cS⟩:=h;obtain⟨Fi,y5,fD,f1,f2,f3,f4⟩:=ar;refine⟨b,vs,T,aP,a2,bS,λi c x an ah=>?_⟩;have aj:i<y5.size:=by rw[f3];exact(xae.1 an).1
  exact(cS i c x an ah).shrink (f4 i c _ an (xal aj))
 |row=>exact h|map=>exact h
def alm{m cH:Mem}{fr:fz}{ρ cT:da}{σ aX:aF}{a cK:Act}{w w':World}{aO:List Tmp}(h:Den m fr ρ σ a w)(bD:Den cH fr cT aX cK w')(pq:cw.ext σ.objs aX.objs)(aE:∀t,t∉aO->aX.aH t=σ.aH t){cn:Tmp}{v:D}(aN:aX.aH cn= .d v)(yV:cn∈aO):Den cH fr cT ((lz aO σ).put (some cn) (.d v)) cK w':=by
 have hq:((lz aO σ).put (some cn) (.d v)).objs=σ.objs:=by simp[lz]
 refine⟨bD.mem,bD.frame,bD.apart,?_,?_,?_,?_,?_⟩;.rintro k ⟨o,aL⟩;rw[hq]at aL;exact bD.one k ⟨o,pq k o aL⟩
 .intro t;by_cases m8:t=cn;.subst m8;simp only[aF.put,eX];have:=bD.aH t;rw[aN]at this;exact .d _ _ this.oz
  simp only[aF.put,cV _ _ m8,lz];split;.exact .any _
  rename_i aM;have aa:=bD.aH t;rw[aE t aM]at aa;exact aa.shrink (h.aH t)
 .intro k o al;rw[hq]at al;exact(bD.objs k o (pq k o al)).shrink (h.objs k o al)
 .intro k o b al aL ao;rw[hq]at al;exact bD.own k o b (pq k o al) aL ao
 intro k br o o' b cv al fF aL oK ao;rw[hq]at al fF;exact bD.sep k br o o' b cv (pq k o al) (pq br o' fF) aL oK ao
def aln{m cH:Mem}{fr:fz}{ρ cT:da}{σ aX:aF}{a cK:Act}{w w':World}{aO:List Tmp}(h:Den m fr ρ σ a w)(bD:Den cH fr cT aX cK w')(pq:cw.ext σ.objs aX.objs)(aE:∀t,t∉aO->aX.aH t=σ.aH t){ts:List Tmp}{v:D}(aN:∀t∈ts,aX.aH t= .d (ab v (ts.idxOf t))):Den cH fr cT (wT ts v (lz aO σ)) cK w':=by
 have hq:(wT ts v (lz aO σ)).objs=σ.objs:=rfl;refine⟨bD.mem,bD.frame,bD.apart,?_,?_,?_,?_,?_⟩;.rintro k ⟨o,aL⟩;rw[hq]at aL;exact bD.one k ⟨o,pq k o aL⟩
 .intro t;by_cases m8:t∈ts
  .have ae:(wT ts v (lz aO σ)).aH t= .d (ab v (ts.idxOf t)):=by simp only[wT,xaa m8]
   rw[ae];have:=bD.aH t;rw[aN t m8]at this;exact .d _ _ this.oz
  have ae:(wT ts v (lz aO σ)).aH t=(lz aO σ).aH t:=by simp only[wT,xac m8]
  rw[ae];simp only[lz];split;.exact .any _
  rename_i aM;have aa:=bD.aH t;rw[aE t aM]at aa;exact aa.shrink (h.aH t)
 .intro k o al;rw[hq]at al;exact(bD.objs k o (pq k o al)).shrink (h.objs k o al)
 .intro k o b al aL ao;rw[hq]at al;exact bD.own k o b (pq k o al) aL ao
 intro k br o o' b cv al fF aL oK ao;rw[hq]at al fF;exact bD.sep k br o o' b cv (pq k o al) (pq br o' fF) aL oK ao
theorem alo{T:cd}{ev:Operand->aS}{objs:cw}{d:Key}{op:Op}{r:aS}{cz:List (Key×cP)}(aE:qe op=true)(he:g2 T ev objs d op=some (r,cz)):objs d=none:=(BI (objs':=λ_=>none) aE rfl he).2.1
def alp{β:Type}(ch:g3 P G C){o:Oper}(aE:Qy o=true){k:aF->Option β}{b:β}(h:sN T G C σ o k=some b):c7 P T G o (λaX=>k aX=some b/\cw.ext σ.objs aX.objs/\∀t,o.dst≠some t->aX.aH t=σ.aH t) σ:=by
 rcases xbB.1 aE with aE|aE;.refine qg ?_ (YA ch aE h);rintro aX ⟨aa,ae,ay⟩;exact⟨aa,by rw[ae];exact λ_ _ h=>h,ay⟩
 have YB:∀x args dA,o.op≠ .call ⟨.value x,args,dA⟩:=by intro x args dA he;rw[he]at aE;cases aE
 unfold sN at h;split at h;.exact absurd (by assumption) (YB _ _ _)
 obtain⟨aX,aa,ae⟩:=yO h;unfold c7;rw[aa];unfold gL at aa;rw[(q5 (objs:=σ.objs) aE).1,(q5 aE).2]at aa;simp only at aa;split at aa
 case h_2=>cases aa
 rename_i r cz he;cases aa;have oI:σ.objs (o.dst.getD 9999)=none:=alo aE he;obtain⟨_,_,h3,rfl⟩:=BI aE oI he;refine⟨ae,?_,λt aJ=>ri aJ⟩;rw[aF.wx];exact cw.J6 oI h3
def QF{β:Type}(ch:g3 P G C){j:Nat}{want:Bool}{d:Tmp}(aA:(all[j]?).bind (·.dst)=some d):∀{os:List Oper}{σ:aF}{k:aF->Option β}{b:β},(∀o∈os,o.guard=some (j,want))->(∀o∈os,Qy o=true/\o.dst≠some d)->σ.aH d= .d (.val (.bool want))->sO T G C os σ k=some b->fI P T G all os (λaX=>k aX=some b/\cw.ext σ.objs aX.objs/\∀t,t∉dstsOf os->aX.aH t=σ.aH t) σ
 |[],σ,k,b,_,_,_,h=>⟨h,λ_ _ h=>h,λ_ _=>rfl⟩
 |o::os,σ,k,b,bG,aE,hw,h=>by
  have ar:=aE o (by simp);unfold fI er;rw[bG o (by simp)];simp only[aA,hw,xav];refine qg ?_ (alp ch ar.1 h);rintro aX ⟨aa,ae,ay⟩;refine mK ?_ (QF ch aA (λo aL=>bG o (by simp[aL])) (λo aL=>aE o (by simp[aL])) (by rw[ay d ar.2];exact hw) aa);rintro rb ⟨a9,bk,b1⟩;refine⟨a9,λcN Zf aL=>bk cN Zf (ae cN Zf aL),?_⟩;intro t aJ;have pz:t∉dstsOf os:=λan=>aJ (by unfold dstsOf at an⊢;simp only[xbK];cases o.dst<;>simp[an])
  have yU:o.dst≠some t:=λan=>aJ (by unfold dstsOf;simp[an]);rw[b1 t pz,ay t yU]
def QG(bb:dR P T){fr:fz}{Q:Exit->Act->World->Prop}:∀(os r:List Oper)(i:Nat)(m:Mem)(ρ:da)(σ:aF)(a:Act)(w:World)(K:aF->Prop),(∀j,(os++r)[j]?=all[i+j]?)->kk G m->Den m fr ρ σ a w->N<=a.tmps.size->a.defers=[]->(∀o∈os,∀d,o.dst=some d->d<N)->fI P T G all os K σ->(∀cK w',iZ N m fr ρ σ K cK w'->wpOps P all Q (List.range' (i+os.length) r.length) cK w')->wpOps P all Q (List.range' i (os++r).length) a w
 |[],r,i,m,ρ,σ,a,w,K,_,c0,h,ca,hi,_,aN,QH=>QH a w ⟨σ,m,ρ,aN,Mem.le_refl m,h,ca,hi,kK.refl _ _⟩
 |o::os,r,i,m,ρ,σ,a,w,K,aq,c0,h,ca,hi,gj,aN,QH=>by
  rw[xbw,xat,List.range'_succ,wpOps_cons];have aj:all[i]?=some o:=by simpa using(aq 0).symm
  refine wpOp_mono ?_ (Pj bb c0 h ca hi aj (gj o (by simp)) aN);rintro cK w' ⟨aX,cH,cT,bV,bN,cC,dK,et,fi⟩;refine QG bb os r (i+1) cH cT aX cK w' K (λj=>by have:=aq (j+1);simpa[xbc,Nat.add_comm 1 j]using this) (c0.mono bN) cC dK et (λo aL=>gj o (by simp[aL])) bV ?_;intro ps kL aw;have:=QH ps kL (aw.trans bN fi);rw[show i+(o::os).length=i+1+os.length by simp;omega]at this;exact this
theorem Zg(i:Nat):ab j6 i=j6:=by unfold ab;cases i<;>rfl
def Fj{β:Type}(bb:dR P T)(ch:g3 P G C)(fH:kt P G H)(ca:N<10000){K:aF->Prop}:∀{gs:List (Option (Nat×Bool)×List Oper)} {i:Nat} {σ:aF} {k:aF->Option β} {b:β},(∀g∈gs,∀o∈g.2,o.guard=g.1)->(∀o∈flat gs,∀d,o.dst=some d->d<N)->(∀j,(flat gs)[j]?=all[i+j]?)->ft ib σ->(∀aX,ft ib aX->k aX=some b->K aX)->y3 T G C H iI all gs σ k=some b->oS P G N all i (flat gs) K σ
 |[],i,σ,k,b,_,_,_,b9,al,h=>ak6 (al σ b9 h)|(none,os)::r,i,σ,k,b,bG,aA,gq,b9,al,h=>by show oS P G N all i (os++flat r) K σ;refine Ze bb ch fH ca (λo aL=>bG (none,os) (by simp) o aL) (λo aL=>aA o (by simp[flat,aL])) gq b9 ?_ h;intro aX aa ae;refine Fj bb ch fH ca (λg hm=>bG g (by simp[hm])) (λo aL=>aA o (by simp only[flat,List.flatMap_cons,xaM];exact .inr aL)) ?_ aa al ae;intro j;have:=gq (os.length+j);rw[<-xbc]at this;rw[<-this];show _=(os++flat r)[os.length+j]?;rw[xaD (by omega)];simp
 |(some (j,want),os)::r,i,σ,k,b,bG,aA,gq,b9,al,h=>by
  show oS P G N all i (os++flat r) K σ;unfold y3 at h;split at h
  case h_2=>cases h
  rename_i d cn Ca yV;split at h
  case h_2=>cases h
  rename_i x ah;split at h
  case isFalse=>cases h
  rename_i bs;simp only[xas,xak,bne_iff_ne,ne_eq]at bs;split at h
  .obtain⟨v,aa,ae⟩:=e5 h;have l5:∀o∈os,o.guard=some (j,want):=λo aL=>bG (some (j,want),os) (by simp) o aL;have QI:oS P G N all (i+os.length) (flat r) K ((lz (dstsOf os) σ).put (some cn) (.d v)):=by
    refine Fj bb ch fH ca (λg hm=>bG g (by simp[hm])) (λo aL=>aA o (by simp only[flat,List.flatMap_cons,xaM];exact .inr aL)) ?_ (ft.put (σ:=lz (dstsOf os) σ) b9) al ae;intro Fk;have:=gq (os.length+Fk);rw[<-xbc]at this;rw[<-this];show _=(os++flat r)[os.length+Fk]?;rw[xaD (by omega)];simp
   have aN:fI P T G all os (λaX=>cw.ext σ.objs aX.objs/\(∀t,t∉dstsOf os->aX.aH t=σ.aH t)/\aX.aH cn= .d v) σ:=by
    unfold bE at aa;split at aa
    .rename_i nC;split at aa
     .rename_i ao;subst ao;refine mK ?_ (QF ch Ca l5 bs ah aa);rintro aX ⟨a9,bk,b1⟩;refine⟨bk,b1,?_⟩;split at a9;.rename_i u hu;cases a9;exact hu
      cases a9
     rename_i ao;cases aa;refine mK ?_ (E2 Ca l5 (λo aL=>(bs o aL).2) (.inl (by rw[ah];cases nC<;>cases want<;>simp_all)));rintro aX ⟨a9,bk,b1⟩;exact⟨by rw[a9];exact λ_ _ h=>h,bk,b1 cn yV⟩
    .rename_i vs;cases aa;refine mK ?_ (E2 Ca l5 (λo aL=>(bs o aL).2) (.inr ⟨_,ah⟩));rintro aX ⟨a9,bk,b1⟩;exact⟨by rw[a9];exact λ_ _ h=>h,bk,b1 cn yV⟩
    cases aa
   intro m fr ρ a w Q c0 cU nI hi hP;refine QG bb os (flat r) i m ρ σ a w _ gq c0 cU nI hi (λo aL=>aA o (by simp[flat,aL])) aN ?_;rintro cK w' ⟨aX,cH,cT,⟨a9,bk,b1⟩,bN,cC,dK,et,fi⟩;have mf:=alm cU cC a9 bk b1 (YG yV);refine QI cH fr cT cK w' Q (c0.mono bN) mf dK et ?_;intro ps kL aw;refine hP ps kL (aw.trans bN ?_);intro cN dh ao;exact⟨by rw[aF.wx];exact ao,(fi cN dh ao).2⟩
  obtain⟨v,aa,ae⟩:=e5 h;have l5:∀o∈os,o.guard=some (j,want):=λo aL=>bG (some (j,want),os) (by simp) o aL;have QI:oS P G N all (i+os.length) (flat r) K (wT (kept all os (flat r)) v (lz (dstsOf os) σ)):=by refine Fj bb ch fH ca (λg hm=>bG g (by simp[hm])) (λo aL=>aA o (by simp only[flat,List.flatMap_cons,xaM];exact .inr aL)) ?_ b9 al ae;intro Fk;have:=gq (os.length+Fk);rw[<-xbc]at this;rw[<-this];show _=(os++flat r)[os.length+Fk]?;rw[xaD (by omega)];simp
  have aN:fI P T G all os (λaX=>cw.ext σ.objs aX.objs/\(∀t,t∉dstsOf os->aX.aH t=σ.aH t)/\(∀t∈kept all os (flat r),aX.aH t= .d (ab v ((kept all os (flat r)).idxOf t)))) σ:=by
   unfold bE at aa;split at aa
   .rename_i nC;split at aa
    .rename_i ao;subst ao;refine mK ?_ (QF ch Ca l5 bs ah aa);rintro aX ⟨a9,bk,b1⟩;refine⟨bk,b1,?_⟩;split at a9;.rename_i l aq;cases a9;exact λt aJ=>aku aq aJ
     cases a9
    rename_i ao;cases aa;refine mK ?_ (P6 Ca l5 (λo aL=>(bs o aL).2) (.inl (by rw[ah];cases nC<;>cases want<;>simp_all)));rintro aX ⟨a9,bk,b1⟩;exact⟨by rw[a9];exact λ_ _ h=>h,bk,λt aJ=>by rw[b1 t (xbR.1 aJ).1,Zg]⟩
   .rename_i vs;cases aa;refine mK ?_ (P6 Ca l5 (λo aL=>(bs o aL).2) (.inr ⟨_,ah⟩));rintro aX ⟨a9,bk,b1⟩;exact⟨by rw[a9];exact λ_ _ h=>h,bk,λt aJ=>by rw[b1 t (xbR.1 aJ).1,Zg]⟩
   cases aa
  intro m fr ρ a w Q c0 cU nI hi hP;refine QG bb os (flat r) i m ρ σ a w _ gq c0 cU nI hi (λo aL=>aA o (by simp[flat,aL])) aN ?_;rintro cK w' ⟨aX,cH,cT,⟨a9,bk,b1⟩,bN,cC,dK,et,fi⟩;have mf:=aln cU cC a9 bk b1;refine QI cH fr cT cK w' Q (c0.mono bN) mf dK et ?_;intro ps kL aw;refine hP ps kL (aw.trans bN ?_);intro cN dh ao;exact⟨ao,(fi cN dh ao).2⟩
def alq{β:Type}(bb:dR P T)(ch:g3 P G C)(fH:kt P G H)(ca:N<10000){k:aF->Option β}{b:β}(aA:∀o∈all.toList,∀d,o.dst=some d->d<N)(b9:ft ib σ)(h:Y7 T G C H iI all σ k=some b):oS P G N all 0 all.toList (λaX=>ft ib aX/\k aX=some b) σ:=by
 have:=Fj (P:=P) (N:=N) (ib:=ib) (all:=all) (i:=0) bb ch fH ca (K:=λaX=>ft ib aX/\k aX=some b) (λg hm o aL=>KL _ _ _ hm o aL) (by rw[wU];exact aA) (by rw[wU];intro j;simp) b9 (λaX aa ae=>⟨aa,ae⟩) h
 rwa [wU]at this
def alr{Q:Exit->aF->Prop}{id:Nat}{ops:Array Oper}(h:oS P G N ops 0 ops.toList (Q .normal) σ):hc P T G N (.region id ops false) σ Q:=by intro m fr ρ a w c0 cU nI aA;refine wp_region ?_;rw[List.range_eq_range'];have:=h m fr ρ a w (λe cK w'=>iZ N m fr ρ σ (Q e) cK w') c0 cU nI aA (λcK w' aw=>aw);simpa using this
end
def sT(ops:Array Oper):Bool:=(List.range ops.size).all λj=>match ops[j]? with
  |some o=>o.after.all (λe=>!Region.binds .any e||decide (e.on<j))&&(match o.guard with|none=>true|some (g,_)=>decide (g<j))
  |none=>true
def Fl(ops:Array Oper)(j:Nat):Bool:=(List.range j).all λi=>(List.range (j+1)).any λk=>decide (i<k)&&match ops[k]? with|some o=>o.after.any (λe=>Region.binds .any e&&decide (e.on=i))|none=>false
def QJ(ops:Array Oper)(p:Nat):Bool:=sT ops&&(List.range ops.size).all λj=>decide (j<p)||Fl ops j
def y6{ops:Array Oper}(h:sT ops=true){j:Nat}{o:Oper}(aL:ops[j]?=some o):(∀e∈o.after,Region.binds .any e=true->e.on<j)/\∀g b,o.guard=some (g,b)->g<j:=by
 have aI:j<ops.size:=(xaT.1 aL).1;have aa:=xas.1 h j (xbI.2 aI);simp only[aL,xak]at aa;refine⟨λe he ao=>?_,λg b bG=>?_⟩
 .have:=Array.all_eq_true'.1 aa.1 e he;simpa[ao]using this
 have:=aa.2;rw[bG]at this;simpa using this
def als{ops:Array Oper}{j i:Nat}(h:Fl ops j=true)(aj:i<j):∃k o,i<k/\k<=j/\ops[k]?=some o/\∃e∈o.after,Region.binds .any e=true/\e.on=i:=by
 have aa:=xas.1 h i (xbI.2 aj);obtain⟨k,al,ae⟩:=xbv.1 aa;simp only[xak,xaE]at ae;obtain⟨ay,a7⟩:=ae;cases aL:ops[k]? with
 |none=>rw[aL]at a7;cases a7
 |some o=>rw[aL]at a7;obtain⟨e,he,bZ⟩:=Array.any_eq_true'.1 a7;simp only[xak,xaE]at bZ;have:=xbI.1 al;exact⟨k,o,ay,by omega,aL,e,he,bZ⟩
def Cb(ops:Array Oper)(listed:Array Bool):Prop:=∀j o,ops[j]?=some o->listed.getD j true=true->∀e∈o.after,Region.binds .any e=true->listed.getD e.on false=true
section
variable{P:Program}{ops ht:Array Oper}{Q:Exit->Act->World->Prop}
def uK{i:Nat}(h:i<ops.size):(ops++ht)[i]?=ops[i]?:=xbG h
def Cc{l r:Array Bool}{d:Bool}{i:Nat}(h:i<l.size):(l++r).getD i d=l.getD i d:=by
 have ae:i<l.size+r.size:=by omega
 simp only[xby,xbG h]
theorem alu{l:Array Bool}{m:Nat}{d:Bool}{i:Nat}(h:l.size<=i)(ae:i<l.size+m):(l++Array.replicate m false).getD i d=false:=by simp only[xby,Array.getElem?_append_right h];rw[Array.getElem?_replicate,xaa (by omega)];rfl
def QK{l:Array Bool}{i:Nat}(h:i<l.size)(d e:Bool):l.getD i d=l.getD i e:=by simp[Array.getD,h]
def QL{all:Array Oper}{L:Array Bool}{j:Nat}(b9:L.size=all.size)(aq:Fl all j=true)(hinv:Cb all L)(aw:j∈Region.ready .any all L):∀(d i:Nat),j-i<=d->i<j->L.getD i false=true
 |0,i,h,aj=>by omega
 |d+1,i,h,aj=>by
  obtain⟨k,o',aa,al,ae,e,ay,a7,bZ⟩:=als aq aj;rw[<-bZ];by_cases alv:k=j;.subst alv;obtain⟨_,l9,bV,bN⟩:=xbJ.1 aw;rw[ae]at bV;cases bV;exact bN e ay a7
  have cG:=QL b9 aq hinv aw d k (by omega) (by omega);have eI:=(xaT.1 ae).1;rw[QK (by omega) false true]at cG;exact hinv k o' ae cG e ay a7
def Fo{all:Array Oper}{L:Array Bool}{i:Nat}(h:i∈Region.ready .any all L):i<all.size:=(xaT.1 (xbJ.1 h).2.choose_spec.1).1
def alw{all:Array Oper}{L:Array Bool}(aE:L.size=all.size)(h:Cb all L){i:Nat}(aj:i∈Region.ready .any all L):Cb all (L.setIfInBounds i true):=by
 obtain⟨aa,fc,ae,ay⟩:=xbJ.1 aj;have b2:=Fo aj;have up:∀{j:Nat},L.getD j false=true->(L.setIfInBounds i true).getD j false=true:=by
  intro j aI;by_cases cD:j<L.size
  .by_cases lv:i=j;.subst lv;simp[Array.getD,cD]
   simp[Array.getD,cD]at aI⊢;rw[xbA cD lv];exact aI
  simp[Array.getD,cD]at aI
 intro j o' aL aI e he lE;have cD:j<L.size:=by have:=(xaT.1 aL).1;omega
 by_cases lv:i=j;.subst lv;rw[ae]at aL;cases aL;exact up (ay e he lE)
 refine up (h j o' aL ?_ e he lE);simp[Array.getD,cD]at aI⊢;rw[xbA cD lv]at aI;exact aI
def Zh{listed:Array Bool}(ao:sT (ops++ht)=true)(aE:listed.size=ops.size){i:Nat}(aj:i<ops.size):i∈Region.ready .any (ops++ht) (listed++Array.replicate ht.size false)↔i∈Region.ready .any ops listed:=by
 rw[xbJ,xbJ,Cc (by omega),uK aj];refine and_congr_right λ_=>?_;constructor;.rintro⟨o',aL,h⟩;refine⟨o',aL,λe he lE=>?_⟩;have:=(y6 ao (by rw[uK aj];exact aL)).1 e he lE;rw[<-h e he lE,Cc (by omega)]
 rintro⟨o',aL,h⟩;refine⟨o',aL,λe he lE=>?_⟩;have:=(y6 ao (by rw[uK aj];exact aL)).1 e he lE;rw[Cc (by omega),h e he lE]
def Zi{all:Array Oper}{L:Array Bool}(aE:L.size=all.size)(h:∀i,i<all.size->L.getD i false=true):Region.ready .any all L=[]:=by refine List.eq_nil_iff_forall_not_mem.2 λi aj=>?_;have b5:=Fo aj;have aa:=(xbJ.1 aj).1;rw[QK (by omega) true false,h i b5]at aa;cases aa
def alx{all:Array Oper}{L:Array Bool}(ao:sT all=true)(aE:L.size=all.size)(h:Region.ready .any all L=[]):∀(i:Nat),i<all.size->L.getD i false=true:=by
 intro i
 induction i using Nat.strongRecOn with
 |_ i ih=>
  intro aj;refine xaY λan=>?_;have a8:L.getD i true=false:=by rw[QK (by omega) true false];simpa using an
  have:i∈Region.ready .any all L:=by refine xbJ.2 ⟨a8,all[i],by simp[aj],λe he lE=>?_⟩;have b5:=(y6 ao (j:=i) (o:=all[i]) (by simp[aj])).1 e he lE;exact ih e.on b5 (by omega)
  rw[h]at this;cases this
def aly(ao:sT (ops++ht)=true):sT ops=true:=by
 refine xas.2 λj aI=>?_;have aI:=xbI.1 aI;have aa:=xas.1 ao j (xbI.2 (by simp;omega))
 rwa [uK aI]at aa
def alz{tm:Array Value}{g:Nat}(h:g<ops.size):yielded (ops++ht) tm g=yielded ops tm g:=by unfold yielded;rw[uK h]
def alA(ao:sT (ops++ht)=true){i:Nat}(aj:i<ops.size){o':Oper}(aL:ops[i]?=some o')(tm:Array Value):Region.wanted o' (yielded (ops++ht) tm)=Region.wanted o' (yielded ops tm):=by unfold Region.wanted;cases bG:o'.guard with|none=>rfl|some p=>obtain⟨g,b⟩:=p;have:=(y6 ao (by rw[uK aj];exact aL)).2 g b bG;simp only[alz (Nat.lt_trans this aj)]
def alB(ao:sT (ops++ht)=true){i:Nat}(aj:i<ops.size){K:Act->World->Prop}{a:Act}{w:World}:wpOp P (ops++ht) Q i K a w=wpOp P ops Q i K a w:=by
 unfold wpOp;rw[uK aj];have:ops[i]?=some ops[i]:=by simp[aj]
 rw[this];simp only[alA ao aj this]
def alC{all:Array Oper}:∀(fuel:Nat)(L:Array Bool)(a:Act)(w:World),Region.ready .any all L=[]->Q .normal a w->wpAny P .any all Q fuel L a w
 |0,L,a,w,h,hP=>⟨h,hP⟩|fuel+1,L,a,w,h,hP=>⟨λ_=>hP,λi aj=>by rw[h]at aj;cases aj⟩
def mg(n j:Nat):Array Bool:=Array.ofFn (n:=n) λi=>decide (i.val<j)
def Zj{n j:Nat}:(mg n j).size=n:=by simp[mg]
def y7{n j i:Nat}{d:Bool}(h:i<n):(mg n j).getD i d=decide (i<j):=by simp[mg,Array.getD,h]
def alD{n j:Nat}:(mg n j).setIfInBounds j true=mg n (j+1):=by
 apply Array.ext;.simp[mg]
 intro i aa ae;simp[mg]at aa;by_cases h:i=j;.subst h;simp[mg]
 rw[xbA (by simpa[mg]using aa) (by omega)];simp[mg];omega
def Zk{all:Array Oper}(ao:sT all=true){p:Nat}(aq:∀j,p<=j->j<all.size->Fl all j=true):∀(d j:Nat)(a:Act)(w:World),p<=j->j+d=all.size->wpOps P all Q (List.range' j d) a w->wpAny P .any all Q d (mg all.size j) a w
 |0,j,a,w,a1,aA,h=>by refine⟨Zi Zj λi aj=>by rw[y7 aj];simp;omega,by simpa[wpOps]using h⟩
 |d+1,j,a,w,a1,aA,h=>by
  have aI:j<all.size:=by omega
  have hinv:Cb all (mg all.size j):=by intro i o aL aj e he lE;have b2:=(xaT.1 aL).1;rw[y7 b2]at aj;have:=(y6 ao aL).1 e he lE;rw[y7 (by omega)];simp at aj⊢;omega
  have Zl:j∈Region.ready .any all (mg all.size j):=by refine xbJ.2 ⟨by rw[y7 aI];simp,all[j],by simp[aI],λe he lE=>?_⟩;have:=(y6 ao (j:=j) (o:=all[j]) (by simp[aI])).1 e he lE;rw[y7 (by omega)];simpa using this
  refine⟨λar=>(by rw[ar]at Zl;cases Zl),λi aj=>?_⟩;have fG:=Fo aj;have aa:=(xbJ.1 aj).1;rw[y7 fG]at aa;have lv:i=j:=by
   have ej:j<=i:=by simpa using aa
   by_cases an:i=j;.exact an
   have:=QL Zj (aq i (by omega) fG) hinv aj i j (by omega) (by omega);rw[y7 aI]at this;simp at this
  subst lv;rw[List.range'_succ,wpOps_cons]at h;refine wpOp_mono (λcK w' bQ=>?_) h;rw[alD];exact Zk ao aq d (i+1) cK w' (by omega) (by omega) bQ
def alE{listed:Array Bool}{m:Nat}(h:∀i,i<listed.size->listed.getD i false=true):listed++Array.replicate m false=mg (listed.size+m) listed.size:=by
 apply Array.ext;.simp[mg]
 intro i aa ae;simp at aa;by_cases aj:i<listed.size;.have:=h i aj;simp[Array.getD,aj]at this;rw[Array.getElem_append_left aj,this];simp[mg,aj]
 rw[Array.getElem_append_right (by omega)];simp[mg];omega
def alF{listed:Array Bool}{m i:Nat}(aj:i<listed.size):(listed++Array.replicate m false).setIfInBounds i true=listed.setIfInBounds i true++Array.replicate m false:=by
 apply Array.ext;.simp
 intro j aa ae;simp at aa;by_cases aI:j<listed.size
 .rw[Array.getElem_append_left (by simpa using aI)];by_cases lv:i=j;.subst lv;simp
  rw[xbA (by simp;omega) lv,Array.getElem_append_left aI,xbA aI lv]
 rw[Array.getElem_append_right (by simp;omega),xbA (by simp;omega) (by omega),Array.getElem_append_right (by omega)];simp
end
def Zm{P:Program}{Q:Exit->Act->World->Prop}{all:Array Oper}:∀{n:Nat}{L:Array Bool}{a:Act}{w:World},wpAny P .any all Q n L a w->∀k,n<=k->wpAny P .any all Q k L a w
 |0,L,a,w,h,k,al=>alC k L a w h.1 h.2|n+1,L,a,w,h,0,al=>by omega|n+1,L,a,w,h,k+1,al=>⟨h.1,λi aj=>wpOp_mono (λcK w' bD=>Zm bD k (by omega)) (h.2 i aj)⟩
section
variable{P:Program}{T:cd}{G:df}{ops ht:Array Oper}{Q:Exit->Act->World->Prop}
def alG{m:Mem}{fr:fz}{N:Nat}(bb:dR P T){K:aF->Prop}(ao:sT (ops++ht)=true)(aq:∀j,ops.size<=j->j<(ops++ht).size->Fl (ops++ht) j=true)(gj:∀o∈ops,∀d,o.dst=some d->d<N):∀(fuel:Nat)(listed:Array Bool)(m:Mem)(ρ:da)(σ:aF)(a:Act)(w:World),listed.size=ops.size->Cb ops listed->kk G m->Den m fr ρ σ a w->N<=a.tmps.size->a.defers=[]->jl P T G ops K fuel listed σ->(∀cK w',iZ N m fr ρ σ K cK w'->wpOps P (ops++ht) Q (List.range' ops.size ht.size) cK w')->wpAny P .any (ops++ht) Q (fuel+ht.size) (listed++Array.replicate ht.size false) a w:=by
 have fin:∀{fuel:Nat}{listed:Array Bool}{m:Mem}{ρ:da}{σ:aF}{a:Act}{w:World},listed.size=ops.size->Region.ready .any ops listed=[]->kk G m->Den m fr ρ σ a w->N<=a.tmps.size->a.defers=[]->K σ->(∀cK w',iZ N m fr ρ σ K cK w'->wpOps P (ops++ht) Q (List.range' ops.size ht.size) cK w')->wpAny P .any (ops++ht) Q ht.size (listed++Array.replicate ht.size false) a w:=by intro fuel listed m ρ σ a w aE aw c0 h ca hi al hP;have alH:=alx (aly ao) aE aw;rw[alE (λi aj=>alH i (by omega)),aE,<-Array.size_append];exact Zk ao aq _ _ _ _ (xbe _) (by simp) (hP a w ⟨σ,m,ρ,al,Mem.le_refl m,h,ca,hi,kK.refl _ _⟩)
 intro fuel
 induction fuel with
 |zero=>intro listed m ρ σ a w aE hinv c0 h ca hi aN hP;rw[xaB];exact fin (fuel:=0) aE aN.1 c0 h ca hi aN.2 hP
 |succ fuel ih=>
  intro listed m ρ σ a w aE hinv c0 h ca hi aN hP;by_cases aw:Region.ready .any ops listed=[];.have:=fin (fuel:=0) aE aw c0 h ca hi (aN.1 aw) hP;exact Zm this _ (by omega)
  rw[Nat.add_right_comm];have alI:Cb (ops++ht) (listed++Array.replicate ht.size false):=by
   intro j o' aL aI e he lE;have cD:=(xaT.1 aL).1;simp at cD;by_cases Zn:j<ops.size
   .rw[Cc (by omega)]at aI;rw[uK Zn]at aL;have:=(y6 ao (by rw[uK Zn];exact aL)).1 e he lE;rw[Cc (by omega)];exact hinv j o' aL aI e he lE
   rw[alu (by omega) (by omega)]at aI;cases aI
  refine⟨λar=>absurd ?_ aw,λi aj=>?_⟩;.refine List.eq_nil_iff_forall_not_mem.2 λi aj=>?_;have:=(Zh ao aE (Fo aj)).2 aj;rw[ar]at this;cases this
  by_cases sz:i<ops.size;.have oA:=(Zh ao aE sz).1 aj;have aa:=aN.2 i oA;obtain⟨_,fc,aL,_⟩:=xbJ.1 oA;unfold hK at aa;simp only[aL]at aa;rw[alB ao sz];refine wpOp_mono ?_ (Pj bb c0 h ca hi aL (gj fc (Array.mem_of_getElem? aL)) aa);rintro cK w' ⟨aX,cH,cT,bV,bN,cC,dK,et,fi⟩;rw[alF (by omega)];refine ih _ cH cT aX cK w' (by simp[aE]) (alw aE hinv oA) (c0.mono bN) cC dK et bV ?_;rintro ps kL ⟨rb,yD,yE,eQ,ez,ho,sH,wG,wH⟩;exact hP ps kL ⟨rb,yD,yE,eQ,Mem.le_trans bN ez,ho,sH,wG,fi.trans wH⟩
  refine absurd (Zi aE λj aI=>?_) aw;have:=QL (by simp[aE]) (aq i (by omega) (Fo aj)) alI aj i j (by omega) (by omega)
  rwa [Cc (by omega)]at this
end
def alJ{P:Program}{T:cd}{G:df}{N:Nat}{σ:aF}{Q:Exit->aF->Prop}(bb:dR P T)(hm:P.follows .mixedOrders=true){id:Nat}{ops ht:Array Oper}(ca:wI N ops=true)(ao:QJ (ops++ht) ops.size=true) {K:aF->Prop} (hj:∀aX,K aX->oS P G N (ops++ht) ops.size ht.toList (Q .normal) aX) (h:jl P T G ops K ops.size (Array.replicate ops.size false) σ):hc P T G N (.region id (ops++ht) true) σ Q:=by
 intro m fr ρ a w c0 cU nI aA;refine wp_region_any hm ?_;simp only[QJ,xak]at ao;have e:Array.replicate (ops++ht).size false=Array.replicate ops.size false++Array.replicate ht.size false:=by rw[Array.size_append,Array.replicate_append_replicate]
 rw[e,Array.size_append];refine alG (m:=m) (fr:=fr) (N:=N) (T:=T) bb ao.1 (λj aa ae=>?_) (wJ ca) ops.size _ m ρ σ a _ (by simp) ?_ c0 (cU.drew _) nI aA h ?_;.have:=xas.1 ao.2 j (xbI.2 ae);simp only[xbb,xaE]at this;exact this.resolve_left (by omega)
 .intro j o' aL aI;have:=(xaT.1 aL).1;simp[Array.getD,this]at aI
 rintro cK w' ⟨aX,cH,cT,bV,bN,cC,dK,et,fi⟩;have:=hj aX bV cH fr cT cK w' (λe cK w'=>iZ N m fr ρ σ (Q e) cK w') (c0.mono bN) cC dK et (λps kL aw=>aw.trans bN fi);simpa using this
section
variable{β:Type}
def bq(f:List D->Option (List D⊕β)):Nat->List D->Option β
 |0,_=>none|n+1,ls=>J (f ls) λx=>match x with| .inl fe=>bq f n fe| .inr b=>some b
end
def w5:Code->Nat
 | .region id _ _=>id| .seq x _=>w5 x| .cond _ x _=>w5 x| .block _ c=>w5 c| .loop c=>w5 c| .scope c=>w5 c|_=>0
def alK(c:Tmp)(x y:Code):Nat:=(c*1000+w5 y)*1000+w5 x
structure na where
 T:cd
 G:df
 C:ly
 n:Nat
 ib:List Key
 loops:Nat->Option rj
 alL:Nat->Option rj
 blocks:Nat->Option rj
 qp:Nat->Option (List Nat)
 H:w4
 iI:Tmp->Bool
 pre:Nat->List (List Key)
def aW{β:Type}(b:Option β):Option (List D⊕β):=J b λb=>some (.inr b)
def a5{β:Type}(f:List D->Option β):List D⊕β->Option β
 | .inl ls=>f ls| .inr b=>some b
def QM{β:Type}(ib:List Key)(fV:rj)(run:(Exit->aF->Option (List D⊕β))->Option (List D⊕β))(k:Exit->aF->Option β):Option β:=J (run λe aX=>match e with| .normal=>sP ib fV aX λls=>some (.inl ls)|e=>aW (k e aX)) (a5 λls=>k .normal (restore fV ls))
def Fp{β:Type}(id:Nat)(k:Exit->aF->Option β)(e:Exit)(σ:aF):Option β:=match e with
 | .exit uv=>if uv=id then k .normal σ else k (.exit uv) σ
 |e=>k e σ
def alM{β:Type}(k:Exit->aF->Option β)(e:Exit)(σ:aF):Option β:=match e with| .goto _=>none|e=>k e σ
def exec(X:na):Code->{β:Type}->aF->(Exit->aF->Option β)->Option β
 | .skip,_,σ,k=>k .normal σ| .label _,_,σ,k=>k .normal σ| .scope c,_,σ,k=>exec X c σ (alM k)| .exit id,_,σ,k=>k (.exit id) σ| .ret,_,σ,k=>k .ret σ
 | .region id ops d,_,σ,k=>y0 (X.pre id) σ λσ=>match X.qp id with
  |none=>match d with|true=>Yt X.T X.G X.C ops σ λaX=>k .normal aX|false=>Y7 X.T X.G X.C X.H X.iI ops σ λaX=>k .normal aX
  |some ord=>if d=true/\ord.length=ops.size then BY X.T X.G X.C ops ord (Array.replicate ops.size false) σ λaX=>k .normal aX
   else if d=true/\ord.length<=ops.size/\QJ ops ord.length=true then BY X.T X.G X.C (ops.extract 0 ord.length) ord (Array.replicate ord.length false) σ λaX=>y3 X.T X.G X.C X.H X.iI ops (wR (ops.extract ord.length ops.size).toList) aX λrb=>k .normal rb
   else none
 | .seq x y,_,σ,k=>exec X x σ λe aX=>match e with| .normal=>exec X y aX k|e=>k e aX
 | .cond (.tmp c) x y,_,σ,k=>match σ.aH c with
  | .d a=>match X.alL (alK c x y)with|none=>aC a (exec X x σ k) (exec X y σ k)|some fV=>QM X.ib fV (λbr=>aC a (exec X x σ br) (exec X y σ br)) k
  |_=>none
 | .block id c,_,σ,k=>match X.blocks id with|none=>exec X c σ (Fp id k)|some fV=>QM X.ib fV (λbr=>exec X c σ (Fp id br)) k
 | .loop c,_,σ,k=>match X.loops (w5 c)with|none=>none|some fV=>sP X.ib fV σ λQN=>bq (λls=>exec X c (restore fV ls) λe aX=>match e with| .normal=>sP X.ib fV aX λfe=>some (.inl fe)|e=>aW (k e aX)) X.n QN
 | .cond (.const v) x y,_,σ,k=>match v with| .bool true=>exec X x σ k| .bool false=>exec X y σ k|_=>none
 |_,_,_,_=>none
section
variable{P:Program}{T:cd}{G:df}{N:Nat}{σ:aF}{all:Array Oper}{ib:List Key}
def Zo{K K':aF->Prop}(al:∀σ,K σ->K' σ):∀(fuel:Nat){listed:Array Bool}{σ:aF},jl P T G all K fuel listed σ->jl P T G all K' fuel listed σ
 |0,_,_,h=>⟨h.1,al _ h.2⟩|fuel+1,_,_,h=>⟨λar=>al _ (h.1 ar),λi aj=>wD (λ_ bD=>Zo al fuel bD) (h.2 i aj)⟩
def Fq{K:aF->Prop}(aA:∀o∈all,∀d,o.dst=some d->d<10000):∀(fuel:Nat){listed:Array Bool}{σ:aF},ft ib σ->jl P T G all K fuel listed σ->jl P T G all (λaX=>ft ib aX/\K aX) fuel listed σ
 |0,_,_,b9,h=>⟨h.1,b9,h.2⟩
 |fuel+1,_,σ,b9,h=>by
  refine⟨λar=>⟨b9,h.1 ar⟩,λi aj=>?_⟩;have aa:=h.2 i aj;unfold hK at aa⊢;split at aa
  .exact Fq aA fuel b9 aa
  rename_i o aL;rw[hs]at aa⊢;have alN:=aA o (Array.mem_of_getElem? aL);cases hw:jN all σ o with|none=>rw[hw]at aa;exact aa|some w=>rw[hw]at aa;cases w with|true=>exact qg (λaX ⟨ae,ay⟩=>Fq aA fuel ae ay) (Y8 b9 alN aa)|false=>exact Fq aA fuel b9.put aa
def alO{Q:Exit->aF->Prop}(bb:dR P T)(hm:P.follows .mixedOrders=true){id:Nat}{ops:Array Oper}(ca:wI N ops=true) (h:jl P T G ops (Q .normal) ops.size (Array.replicate ops.size false) σ):hc P T G N (.region id ops true) σ Q:=by intro m fr ρ a w c0 cU nI aA;refine wp_region_any hm ?_;exact Ps (m:=m) (fr:=fr) (N:=N) (Q:=λe cK w'=>iZ N m fr ρ σ (Q e) cK w') bb (wJ ca) ops.size _ m ρ σ a _ c0 (cU.drew _) nI aA h (λcK w' aw=>aw)
def pD(T:cd)(os:Nat->Option (List Nat))(N:Nat):Code->Bool
 | .region id ops d=>wI N ops&&(!d||(os id).isSome||yC T ops (List.range ops.size) (Array.replicate ops.size false))| .seq x y=>pD T os N x&&pD T os N y| .cond _ x y=>pD T os N x&&pD T os N y| .block _ c=>pD T os N c| .loop c=>pD T os N c| .scope c=>pD T os N c|_=>true
def nP{β:Type}(ib:List Key)(k:Exit->aF->Option β)(b:β)(e:Exit)(σ:aF):Prop:=∃τ,gU σ τ/\ft ib τ/\k e τ=some b
def Zp{β:Type}{x:Option β}{y:List D⊕β}(h:aW x=some y):∃b,x=some b/\y= .inr b:=by obtain⟨b,aa,ae⟩:=e5 h;exact⟨b,aa,(xaR ae).symm⟩
def Zq{β:Type}{fV:rj}{c:Code}{run:(Exit->aF->Option (List D⊕β))->Option (List D⊕β)}{k:Exit->aF->Option β}{b:β} (hJ:∀br b',run br=some b'->hc P T G N c σ (nP ib br b')) (h:QM ib fV run k=some b):hc P T G N c σ (nP ib k b):=by
 obtain⟨x,aa,ae⟩:=e5 h;refine BM (hJ _ _ aa) ?_;rintro e aX ⟨τ,a9,bk,b1⟩;have other:∀dq,e=dq->aW (k dq τ)=some x->nP ib k b e aX:=by rintro dq rfl ay;obtain⟨b',a7,rfl⟩:=Zp ay;cases ae;exact⟨τ,a9,bk,a7⟩
 cases e with
 |normal=>obtain⟨ls,bV,bN,cC⟩:=KT bk b1;cases cC;exact⟨_,a9.trans bV,bN,ae⟩
 |exit id=>exact other _ rfl b1|goto l=>exact other _ rfl b1|ret=>exact other _ rfl b1|panic c=>exact other _ rfl b1|outgrown=>exact other _ rfl b1
def alP{β:Type}{f:List D->Option (List D⊕β)}{n:Nat}{ls:List D}{b:β}(h:bq f n ls=some b):∃m,n=m+1/\((∃fe,f ls=some (.inl fe)/\bq f m fe=some b)\/f ls=some (.inr b)):=by
 cases n with
 |zero=>cases h
 |succ m=>obtain⟨x,aa,ae⟩:=e5 h;refine⟨m,rfl,?_⟩;cases x with|inl fe=>exact .inl ⟨fe,aa,ae⟩|inr b'=>cases ae;exact .inr aa
def nP.block{β:Type}{id:Nat}{k:Exit->aF->Option β}{b:β}{e:Exit}{σ:aF}(h:nP ib (Fp id k) b e σ):EO id (nP ib k b) e σ:=by
 obtain⟨τ,a9,bk,b1⟩:=h;cases e with
 |exit uv=>
  simp only[EO];unfold Fp at b1;by_cases aj:uv=id;.simp only[aj,xav]at b1⊢;exact⟨τ,a9,bk,b1⟩
  simp only[aj,xaz]at b1⊢;exact⟨τ,a9,bk,b1⟩
 |normal=>exact⟨τ,a9,bk,b1⟩|goto l=>exact⟨τ,a9,bk,b1⟩|ret=>exact⟨τ,a9,bk,b1⟩|panic c=>exact⟨τ,a9,bk,b1⟩|outgrown=>exact⟨τ,a9,bk,b1⟩
def rq(X:na)(bb:dR P X.T)(ch:g3 P X.G X.C)(fH:kt P X.G X.H)(hm:P.follows .mixedOrders=true)(ca:N<10000):∀(c:Code){β:Type}{σ:aF}{k:Exit->aF->Option β}{b:β},pD X.T X.qp N c=true->ft X.ib σ->exec X c σ k=some b->hc P X.T X.G N c σ (nP X.ib k b)
 | .skip,β,σ,k,b,_,b9,h=>aiZ ⟨σ,gU.refl σ,b9,h⟩| .label l,β,σ,k,b,_,b9,h=>ai0 ⟨σ,gU.refl σ,b9,h⟩| .exit id,β,σ,k,b,_,b9,h=>ai1 ⟨σ,gU.refl σ,b9,h⟩| .ret,β,σ,k,b,_,b9,h=>ai2 ⟨σ,gU.refl σ,b9,h⟩
 | .region id ops d,β,σ,k,b,bs,b9,h=>by
  simp only[pD,xak,xbb,Bool.not_eq_true']at bs;have gj:∀o∈ops.toList,∀d,o.dst=some d->d<10000:=λo aL d aA=>Nat.lt_trans (wJ bs.1 o (by simpa using aL) d aA) ca;have QO:∀aX,ft X.ib aX/\k .normal aX=some b->nP X.ib k b .normal aX:=λaX bD=>⟨aX,gU.refl aX,bD⟩;unfold exec at h;have ah:=Fg b9 h;clear h b9;obtain⟨σ,alQ,b9,h⟩:=ah;refine Pt alQ ?_;split at h
  .rename_i BN;split at h
   .have aa:=akE (P:=P) (all:=ops) (σ:=σ) ch (K:=λaX=>∃τ,oO aX τ/\k .normal τ=some b) (λσ τ hw ⟨yG,aa,ae⟩=>⟨yG,hw.trans aa,ae⟩) (λaX bD=>⟨aX,oO.refl _,bD⟩) h;have ae:fI P X.T X.G ops ops.toList (nP X.ib k b .normal) σ:=by
     refine mK ?_ (Qz b9 gj aa);rintro aX ⟨a9,τ,bk,b1⟩;refine⟨τ,bk.BZ,?_,b1⟩;intro j aI ao;rw[<-bk.1]at ao;exact a9 j aI ao
    exact ajq bb hm bs.1 (bs.2.resolve_left (by simp[BN])) ae
   have aa:=alq (P:=P) (all:=ops) (σ:=σ) bb ch fH ca (λo aL d aA=>wJ bs.1 o (by simpa using aL) d aA) b9 h;exact alr (λm fr ρ a w Q c0 cU nI aA hP=>aa m fr ρ a w Q c0 cU nI aA (λcK w' aw=>hP cK w' (aw.mono QO)))
  rename_i ord BN;split at h
  case isFalse=>
   split at h
   case isFalse=>cases h
   rename_i an;obtain⟨rfl,bB,Zr⟩:=an;have gl:ops=ops.extract 0 ord.length++ops.extract ord.length ops.size:=by rw[Array.extract_append_extract,Nat.max_eq_right bB];simp
   have nw:ord.length=(ops.extract 0 ord.length).size:=by simp;omega
   have aa:=P9 (P:=P) ch ord _ σ h;generalize ops.extract 0 ord.length=cY at*;generalize ops.extract ord.length ops.size=Bq at*;subst gl;rw[nw]at aa;have nQ:wI N cY=true:=by have:=bs.1;unfold wI at this⊢;simp only[Array.toList_append,List.all_append,xak]at this;exact this.1
   rw[nw]at Zr;refine alJ bb hm nQ Zr ?_ (Fq (λo aL d aA=>Nat.lt_trans (wJ nQ o aL d aA) ca) _ b9 aa);rintro aX ⟨QD,ah⟩;have ae:=Fj (P:=P) (N:=N) (ib:=X.ib) (all:=cY++Bq) (i:=cY.size) bb ch fH ca (K:=nP X.ib k b .normal) (λg hm o aL=>KL _ _ _ hm o aL) (by rw[wU];intro o' aL d aA;exact wJ bs.1 _ (by simp at aL⊢;exact .inr aL) d aA) (by rw[wU];intro j;rw[Array.getElem?_append_right (by omega)];simp) QD (λrb aa ae=>QO rb ⟨aa,ae⟩) ah
   rwa [wU]at ae
  rename_i an;obtain⟨rfl,bB⟩:=an;have aa:=P9 (P:=P) ch ord _ σ h;rw[bB]at aa;exact alO bb hm bs.1 (Zo QO _ (Fq (λo aL d aA=>Nat.lt_trans (wJ bs.1 o aL d aA) ca) _ b9 aa))
 | .seq x y,β,σ,k,b,bs,b9,h=>by simp only[pD,xak]at bs;refine ai3 (BM (rq X bb ch fH hm ca x bs.1 b9 h) ?_);rintro e aX ⟨τ,a9,bk,b1⟩;cases e with|normal=>simp only[Kn];refine Pt a9 (rq X bb ch fH hm ca y bs.2 bk b1)|exit id=>exact⟨τ,a9,bk,b1⟩|goto l=>exact⟨τ,a9,bk,b1⟩|ret=>exact⟨τ,a9,bk,b1⟩|panic c=>exact⟨τ,a9,bk,b1⟩|outgrown=>exact⟨τ,a9,bk,b1⟩
 | .cond c x y,β,σ,k,b,bs,b9,h=>by
  simp only[pD,xak]at bs;cases c with
  |tmp c=>
   unfold exec at h;split at h
   case h_2=>cases h
   rename_i a aG;have two:∀{β:Type}(br:Exit->aF->Option β)(b':β),aC a (exec X x σ br) (exec X y σ br)=some b'->hc P X.T X.G N (.cond (.tmp c) x y) σ (nP X.ib br b'):=by
    intro β br b' h;rcases Yb h with⟨rfl,aa⟩|⟨rfl,aa⟩
    .exact Ko (b:=true) aG (by rw[xaa rfl];exact rq X bb ch fH hm ca x bs.1 b9 aa)
    exact Ko (b:=false) aG (by rw[xac (by simp)];exact rq X bb ch fH hm ca y bs.2 b9 aa)
   split at h;.exact two k b h
   exact Zq (λbr b' bD=>two br b' bD) h
  |const v=>
   unfold exec at h;split at h;.exact Ko (b:=true) rfl (by rw[xaa rfl];exact rq X bb ch fH hm ca x bs.1 b9 h)
   .exact Ko (b:=false) rfl (by rw[xac (by simp)];exact rq X bb ch fH hm ca y bs.2 b9 h)
   cases h
  |global g=>cases h
  |func f=>cases h
 | .block id c,β,σ,k,b,bs,b9,h=>by
  have one:∀{β:Type}(br:Exit->aF->Option β)(b':β),exec X c σ (Fp id br)=some b'->hc P X.T X.G N (.block id c) σ (nP X.ib br b'):=by intro β br b' h;exact ai6 (BM (rq X bb ch fH hm ca c bs b9 h) (λe aX bD=>bD.block))
  unfold exec at h;split at h;.exact one k b h
  exact Zq (λbr b' bD=>one br b' bD) h
 | .loop c,β,σ,k,b,bs,b9,h=>by
  unfold exec at h;split at h
  case h_1=>cases h
  rename_i fV sU;obtain⟨QN,aP,a2,bS⟩:=KT b9 h;generalize a8:(λls=>exec X c (restore fV ls) λe aX=>match e with| .normal=>sP X.ib fV aX λfe=>some (Sum.inl fe)|e=>aW (k e aX))=f at bS;refine ajg (ι:={p:List D×Nat//bq f p.2 p.1=some b/\ft X.ib (restore fV p.1)}) (λp=>restore fV p.1.1) (λp=>p.1.2) ⟨(QN,X.n),bS,a2⟩ aP ?_;rintro⟨⟨ls,n⟩,Zs,gH⟩;simp only at Zs gH⊢;obtain⟨m,rfl,ay⟩:=alP Zs;have round:∀x,f ls=some x->hc P X.T X.G N c (restore fV ls) (nP X.ib (λe aX=>match e with| .normal=>sP X.ib fV aX λfe=>some (Sum.inl fe)|e=>aW (k e aX)) x):=by intro x ah;rw[<-a8]at ah;exact rq X bb ch fH hm ca c bs gH ah
  have go:∀x,f ls=some x->(∀fe,x= .inl fe->bq f m fe=some b)->(∀b',x= .inr b'->b'=b)->hc P X.T X.G N c (restore fV ls) (Kn (λaX=>∃j:{p:List D×Nat//bq f p.2 p.1=some b/\ft X.ib (restore fV p.1)},gU aX (restore fV j.1.1)/\j.1.2<m+1) (nP X.ib k b)):=by
   intro x ah aq aw;refine BM (round x ah) ?_;rintro e aX ⟨τ,a9,bk,b1⟩;have other:∀dq,e=dq->aW (k dq τ)=some x->nP X.ib k b e aX:=by rintro dq rfl ay;obtain⟨b',a7,rfl⟩:=Zp ay;rw[aw b' rfl]at a7;exact⟨τ,a9,bk,a7⟩
   cases e with
   |normal=>obtain⟨fe,bV,bN,cC⟩:=KT bk b1;cases cC;exact⟨⟨(fe,m),aq fe rfl,bN⟩,a9.trans bV,Nat.lt_succ_self m⟩
   |exit id=>exact other _ rfl b1|goto l=>exact other _ rfl b1|ret=>exact other _ rfl b1|panic c=>exact other _ rfl b1|outgrown=>exact other _ rfl b1
  rcases ay with⟨fe,a7,bZ⟩|a7;.exact go _ a7 (by rintro _ ⟨⟩;exact bZ) (by rintro _ ⟨⟩)
  exact go _ a7 (by rintro _ ⟨⟩) (by rintro _ ⟨⟩;rfl)
 | .rangeFunc _ _ _ _,β,σ,k,b,_,b9,h=>by cases h
 | .scope c,β,σ,k,b,bs,b9,h=>ai5 (BM (rq X bb ch fH hm ca c (by simpa[pD]using bs) b9 h) (by
   rintro e aX ⟨τ,a9,bk,b1⟩;cases e with
   |goto l=>cases b1
   |normal=>exact⟨τ,a9,bk,b1⟩|exit id=>exact⟨τ,a9,bk,b1⟩|ret=>exact⟨τ,a9,bk,b1⟩|panic c=>exact⟨τ,a9,bk,b1⟩|outgrown=>exact⟨τ,a9,bk,b1⟩))
 | .goto _,β,σ,k,b,_,b9,h=>by cases h
 | .refuse _,β,σ,k,b,_,b9,h=>by cases h
end
def Zt{P:Program}{T:cd}{G:df}{N:Nat}{c:Code}{σ:aF}{Q:Exit->aF->Prop}(h:hc P T G N c σ (λe aX=>∃τ,gU aX τ/\Q e τ)):hc P T G N c σ Q:=by intro m fr ρ a w c0 cU ca aA;refine wp_mono (h m fr ρ a w c0 cU ca aA) ?_;rintro e cK w' ⟨aX,cH,cT,⟨τ,eO,hP⟩,ae,ay,a7,bZ,cG⟩;obtain⟨yD,yE,a9,bk,b1⟩:=eO cH fr cT cK w' ay;exact⟨τ,yD,yE,hP,Mem.le_trans ae a9,bk,a7,bZ,cG.trans b1⟩
def alR(T:cd)(rs:List ResultVar)(e:Exit)(σ:aF):Option D:=match e with| .normal=>J (sI T σ rs) (toD σ.objs)| .ret=>J (sI T σ rs) (toD σ.objs)|_=>none
def uL(X:na)(fn:Func)(args:List aS):Option D:=match fn.body with|some c=>exec X c (start args λ_=>none) (alR X.T fn.results.toList)|none=>none
def nR(T:cd)(os:Nat->Option (List Nat))(fn:Func):Bool:=match fn.body with|some c=>pD T os fn.ntmps c&&decide (fn.ntmps<10000)&&!(fn.name== "runtime.NumGoroutine")|none=>false
def alS{xs cY:List aS}(h:jD (λk=>k) (λ_=>False) xs cY):gU (start xs λ_=>none) (start cY λ_=>none):=by
 intro m fr ρ a w cU;refine⟨m,ρ,Mem.le_refl m,⟨cU.mem,cU.frame,cU.apart,?_,?_,?_,?_,?_⟩,?_⟩;.rintro k ⟨o,aL⟩;cases aL
 .intro t;have aa:=cU.aH t;obtain⟨ae,ay⟩:=h.ok;simp only[start]at aa⊢;cases aK:cY[t]? with
  |none=>rw[xbd,aK];exact .any _
  |some y=>
   obtain⟨x,ah,hle⟩:=ay t y aK;rw[xbd,ah]at aa;rw[xbd,aK];have a7:pt (λk=>k) (aF.used (start cY λ_=>none)) x y:=by unfold pt at hle⊢;split at hle<;>first|exact hle|(exact absurd hle.2 id)
   exact a7.ok (ρ:=ρ) aa
 .intro k o al;cases al
 .intro k o b al;cases al
 .intro k br o o' b _ al;cases al
 intro k _ an;exact absurd an uk
def alT{P:Program}(X:na)(bb:dR P X.T)(ch:g3 P X.G X.C)(fH:kt P X.G X.H)(hm:P.follows .mixedOrders=true)(mh:X.ib=[]){f:FuncId}{fn:Func}(a8:P.funcs[f]?=some fn)(bs:nR X.T X.qp fn=true){aO:List D}{as:List aS}(hle:jD (λk=>k) (λ_=>False) (aO.map .d) as)(bB:decide (aO.length<=fn.ntmps)=true){r:D} (h:uL X fn as=some r):fb P X.G f aO (·=r):=by
 have bB:=xaX bB;unfold uL at h;unfold nR at bs;split at h
 case h_2=>cases h
 rename_i c ao;simp only[ao,xak,xaE,Bool.not_eq_true']at bs;refine aji bb a8 ao bs.2 bB ?_;refine Pt (alS hle) ?_;refine Zt (BM (rq X bb ch fH hm bs.1.2 c bs.1.1 (by intro k _ an;exact absurd an uk) h) ?_);rintro e aX ⟨τ,a9,bk,b1⟩;have fin:J (sI X.T τ fn.results.toList) (toD τ.objs)=some r->∃Zu d x,sI X.T τ fn.results.toList=some Zu/\toD τ.objs Zu=some d/\d.le x/\x=r:=by intro aa;obtain⟨u,ae,ay⟩:=e5 aa;exact⟨u,r,r,ae,ay,D.le_refl _,rfl⟩
 refine⟨τ,a9,?_⟩;cases e with
 |normal=>exact⟨.inl rfl,fin b1⟩|ret=>exact⟨.inr rfl,fin b1⟩|exit id=>cases b1
 |goto l=>cases b1
 |panic c=>cases b1
 |outgrown=>cases b1
def La(s:eu)(ls:List D):aF:=⟨λt=>(s.w2 ls).getD t .any,fj (s.nM ls)⟩
def alU(X:na)(s:eu)(pA:List wV)(rs:List ResultVar)(e:Exit)(σ:aF):Option (List D):=match e with
 | .normal=>J (sI X.T σ rs) λx=>sP X.ib ⟨[(0,s.res)],s.outs,pA⟩ ⟨λt=>if t=0 then x else .any,σ.objs⟩ some
 | .ret=>J (sI X.T σ rs) λx=>sP X.ib ⟨[(0,s.res)],s.outs,pA⟩ ⟨λt=>if t=0 then x else .any,σ.objs⟩ some
 |_=>none
def QP(X:na)(fn:Func)(s:eu)(pA:List wV)(ls:List D):Option (List D):=match fn.body with|some c=>exec X c (La s ls) (alU X s pA fn.results.toList)|none=>none
def alV{P:Program}(X:na)(bb:dR P X.T)(ch:g3 P X.G X.C)(fH:kt P X.G X.H)(hm:P.follows .mixedOrders=true){s:eu}{fn:Func}(a8:P.funcs[s.f]?=some fn)(bs:nR X.T X.qp fn=true)(bB:decide (s.args.length<=fn.ntmps)=true) (mh:(s.ins.all λp=>decide (p.1<10000)||X.ib.contains p.1)=true) {pA:List wV} {F:List D->Option (List D)} (h:∀ls fe,F ls=some fe->QP X fn s pA ls=some fe):dC P X.G s F:=by
 have bB:=xaX bB;unfold nR at bs;split at bs
 case h_2=>cases bs
 rename_i c ao;simp only[xak,xaE,Bool.not_eq_true']at bs;refine⟨⟨fn,a8,bs.2,by rw[ao];rfl⟩,?_⟩;intro ls fe iH m fr ρ w vs c0 cU aq yj;have ah:=h ls fe iH;unfold QP at ah;rw[ao]at ah;simp only at ah;have Lb:(s.w2 ls).length=s.args.length:=by
  have:∀(l:List k5)(n:Nat),(rk ls l n).1.length=l.length:=by
   intro l
   induction l with
   |nil=>intro n;rfl
   |cons x r ih=>intro n;simp[rk,ih]
  exact this _ _
 have alW:ft X.ib (La s ls):=by
  intro k al ao;obtain⟨cs,hr⟩:=BD ao;have:=wN hr;have aa:l7 (s.nM ls)=s.ins.map (·.1):=yY _ _ _;rw[aa]at this;obtain⟨p,a1,rfl⟩:=xaP.1 this;have ae:=xas.1 mh p a1;simp only[xbb,xaE,List.contains_eq_mem]at ae;rcases ae with ae|ae
  .exact absurd ae (Nat.not_lt.2 al)
  exact ae
 have hw:=rq X bb ch fH hm bs.1.2 c bs.1.1 alW ah;refine calls_of_wp a8 ao ?_;have EP:Den m fr ρ (La s ls) {tmps:=vs.toArray++Array.replicate (fn.ntmps-vs.toArray.size) undef,defers:=[]} w:=by
  refine⟨cU.mem,cU.frame,cU.apart,cU.one,?_,cU.objs,cU.own,cU.sep⟩;intro t;simp only[La];by_cases aJ:t<vs.length
  .have b5:t<(s.w2 ls).length:=by rw[<-aq];exact aJ
   have aA:=xab b5;have aN:=xab aJ;have aP:(s.w2 ls).getD t .any=(s.w2 ls)[t]:=by rw[xbd,aA];rfl
   have a2:(vs.toArray++Array.replicate (fn.ntmps-vs.toArray.size) undef).getD t undef=vs[t]:=by rw[xby,xbG (by simpa using aJ)];simp[aJ]
   rw[aP,a2];exact yj t _ _ aA aN
  have aP:(s.w2 ls).getD t .any= .any:=by rw[xbd,xaZ (by omega)];rfl
  rw[aP];exact .any _
 have gT:fn.ntmps<=(vs.toArray++Array.replicate (fn.ntmps-vs.toArray.size) undef).size:=by simp;omega
 refine wp_mono (Zt hw m fr ρ _ w c0 EP gT rfl) ?_;rintro e cK w' ⟨aX,cH,cT,⟨bk,b1⟩,bZ,cG,e7,hd,h8⟩;have fin:(J (sI X.T aX fn.results.toList) λx=>sP X.ib ⟨[(0,s.res)],s.outs,pA⟩ ⟨λt=>if t=0 then x else .any,aX.objs⟩ some)=some fe->cK.defers=[]/\∃v,(results fn cK.tmps).run P w'= .ok v w'/\∃v1 gO m4,Ending.returned v= .returned v1/\m.le gO/\KY gO fr m4 (fj (s.pC fe)) w'/\b3 gO m4 (rl (fj (s.pC fe))) (s.KZ fe) v1/\∀k,10000<=k->eR (fj (s.nM ls) k)->m4 k=ρ k:=by
  intro aa;obtain⟨x,ae,ay⟩:=e5 aa;obtain⟨v,bV,bN⟩:=XJ (P:=P) bb cG ae;obtain⟨aCm,fp,fh,j5⟩:=KT (σ:=⟨λt=>if t=0 then x else .any,aX.objs⟩) bk ay;cases j5;have alX:Den cH fr cT ⟨λt=>if t=0 then x else .any,aX.objs⟩ {tmps:= #[v],defers:=[]} w':=by
   refine⟨cG.mem,cG.frame,cG.apart,cG.one,?_,cG.objs,cG.own,cG.sep⟩;intro t;by_cases aJ:t=0;.subst aJ;exact bN
   simp only[aJ,xaz];exact .any _
  obtain⟨lu,k1,t1,t2,t3⟩:=fp cH fr cT _ w' alX;have alY:=t2.aH 0;refine⟨hd,v,bV,v,lu,k1,rfl,Mem.le_trans bZ t1,⟨t2.mem,t2.frame,t2.apart,t2.one,λ_=> .any _,t2.objs,t2.own,t2.sep⟩,?_,?_⟩
  .exact alY
  intro k al alZ;obtain⟨v8,v9⟩:=h8 k al alZ;rw[(t3 k al v8).2,v9]
 cases e with
 |normal=>exact fin b1|ret=>exact fin b1|exit id=>cases b1
 |goto l=>cases b1
 |panic c=>cases b1
 |outgrown=>cases b1
def al0{P:Program}{T:cd}{os:Nat->Option (List Nat)}{f:FuncId}{fn:Func}(a8:P.funcs[f]?=some fn)(bs:nR T os fn=true):wu P f:=by
 unfold nR at bs;split at bs
 case h_2=>cases bs
 rename_i c ao;simp only[xak,xaE,Bool.not_eq_true']at bs;exact⟨fn,a8,bs.2,by rw[ao];rfl⟩
def uM{P:Program}{G:df}{s:eu}{F:List D->Option (List D)}(sV:wu P s.f)(h:∀ls,F ls=none):dC P G s F:=⟨sV,λls fe bD=>by rw[h]at bD;cases bD⟩
def dx:List (Tmp×B7)->w4
 |[],_=>none|(t',e)::r,t=>if t=t' then some e else dx r t
def al1{P:Program}{G:df}:kt P G (dx []):=by intro t e h;cases h
def al2{P:Program}{G:df}{t:Tmp}{e:B7}{l:List (Tmp×B7)}(h:dC P G e.s e.F)(bD:kt P G (dx l)):kt P G (dx ((t,e)::l)):=by
 intro t' dq he;unfold dx at he;split at he;.cases he;exact h
 exact bD t' dq he
def dH:List (Nat×List (List Key))->Nat->List (List Key)
 |[],_=>[]|(j,s)::r,k=>if k=j then s else dH r k
def dO(l:List Tmp)(t:Tmp):Bool:=l.contains t
def dy:List (FuncId×(List D->Option D))->ly
 |[],_,_,_=>none|(kn,F)::r,d,f,aO=>if f=kn then F aO else dy r d f aO
def bC(P:Program)(G:df)(f:FuncId)(F:List D->Option D):Prop:=∀aO r,F aO=some r->fb P G f aO (·=r)
def al3{P:Program}{G:df}:g3 P G (dy []):=by intro d f aO r h;cases h
def al4{P:Program}{G:df}{f:FuncId}{F:List D->Option D}{l:List (FuncId×(List D->Option D))}(h:bC P G f F)(bD:g3 P G (dy l)):g3 P G (dy ((f,F)::l)):=by
 intro d kn aO r aw;unfold dy at aw;split at aw;.rename_i e;subst e;exact h aO r aw
 exact bD d kn aO r aw
def bF:List (Nat×rj)->Nat->Option rj
 |[],_=>none|(j,s)::r,k=>if k=j then some s else bF r k
def dI:List (Nat×List Nat)->Nat->Option (List Nat)
 |[],_=>none|(j,s)::r,k=>if k=j then some s else dI r k
def Cd(f:FuncId)(x:D):Bool:=match x with| .val (.func (.func kn) a b)=>kn==f&&a.size==0&&b.size==0|_=>false
def Zv{f:FuncId}{x:D}(h:Cd f x=true):x= .val (.func (.func f) #[] #[]):=by
 unfold Cd at h;split at h;.rename_i kn a b;simp only[xak,xbF]at h;obtain⟨⟨rfl,aa⟩,ae⟩:=h;rw[xbh aa,xbh ae]
 cases h
def k6(f:FuncId)(x:D):Option (List D):=match x with
 | .fn (.func kn) first oN=>if kn=f/\first.isEmpty=true then some oN else none
 |_=>none
def nb{f:FuncId}{x:D}{oN:List D}(h:k6 f x=some oN):x= .fn (.func f) [] oN:=by
 unfold k6 at h;split at h
 .split at h;.rename_i an;cases h;rw[an.1,List.isEmpty_iff.1 an.2]
  cases h
 cases h
def le_nil:jD (λk=>k) (λ_=>False) (List.map aS.d []) []:=trivial
def rr{x:D}{y:aS}{xs:List D}{cY:List aS}(h:pt (λk=>k) (λ_=>False) (.d x) y)(bD:jD (λk=>k) (λ_=>False) (List.map aS.d xs) cY):jD (λk=>k) (λ_=>False) (List.map aS.d (x::xs)) (y::cY):=⟨h,bD⟩
def al5{x:D}:pt (λk=>k) (λ_=>False) (.d x) (.d x):=⟨x,rfl,D.le_refl x⟩
theorem sW{c:List D}{o:Nat}:pt (λk=>k) (λ_=>False) (.d (.ref c o)) (.dV c o):= .inr rfl
def ai(t:Nat):Nat×k5:=(t,.b .d)
def sp(t:Nat):Nat×k5:=(t,.b (.ptr t 0))
def bo(t k:Nat):Nat×k5:=(t,.b (.row k))
def a3(k n:Nat):Key×lA:=(k,.box (List.replicate n (.b .d)))
def aV(k n:Nat):Key×lA:=(k,.row n)
def al6(P:Program)(G:df)(n:Nat)(c:List (FuncId×(List D->Option D)))(l j b:List (Nat×rj)):na:=⟨dr P,G,dy c,n,[],bF l,bF j,bF b,dI [],dx [],dO [],dH []⟩
def fK{P:Program}(X:na)(bb:dR P X.T)(ch:g3 P X.G X.C)(fH:kt P X.G X.H)(hm:P.follows .mixedOrders=true){f:FuncId}{fn:Func}(a8:P.funcs[f]?=some fn){aO:List D}{as:List aS}(hle:jD (λk=>k) (λ_=>False) (aO.map .d) as) {o:Option D} {r:D} (h:o=some r) (mh:X.ib=[]:=by rfl) (bs:nR X.T X.qp fn=true:=by kernel_rfl) (bB:decide (aO.length<=fn.ntmps)=true:=by kernel_rfl) (he:uL X fn as=o:=by kernel_rfl):fb P X.G f aO (·=r):=alT X bb ch fH hm mh a8 bs hle bB (he.trans h)
def fX{P:Program}(X:na)(bb:dR P X.T)(ch:g3 P X.G X.C)(fH:kt P X.G X.H)(hm:P.follows .mixedOrders=true){s:eu}{fn:Func}(a8:P.funcs[s.f]?=some fn)(pA:List wV){F:List D->Option (List D)}(bs:nR X.T X.qp fn=true:=by kernel_rfl)(bB:decide (s.args.length<=fn.ntmps)=true:=by kernel_rfl) (mh:(s.ins.all λp=>decide (p.1<10000)||X.ib.contains p.1)=true:=by kernel_rfl) (h:∀ls,QP X fn s pA ls=F ls:=by intros;kernel_rfl):dC P X.G s F:=alV X bb ch fH hm a8 bs bB mh λls fe bD=>(h ls).trans bD
def cn{x:D}{xs:List D}{cY:List aS}(h:jD (λk=>k) (λ_=>False) (List.map aS.d xs) cY):jD (λk=>k) (λ_=>False) (List.map aS.d (x::xs)) (.d x::cY):=rr al5 h
def QQ(g:Option D):List D->Option D
 |[]=>g|_=>none
@[simp] theorem aCn {g:Option D}:QQ g []=g:=rfl
def BV{P:Program}(X:na)(bb:dR P X.T)(ch:g3 P X.G X.C)(fH:kt P X.G X.H)(hm:P.follows .mixedOrders=true){f:FuncId}{fn:Func}(a8:P.funcs[f]?=some fn){g:Option D}(mh:X.ib=[]:=by rfl)(bs:nR X.T X.qp fn=true:=by kernel_rfl)(bB:decide (0<=fn.ntmps)=true:=by kernel_rfl)(he:uL X fn []=g:=by intros;kernel_rfl):bC P X.G f (QQ g):=by
 intro aO r h;unfold QQ at h;split at h
 case h_2=>cases h
 exact fK X bb ch fH hm a8 le_nil h mh bs bB he
def QR(g:D->Option D):List D->Option D
 |[ad]=>g ad|_=>none
@[simp] theorem aCo {g:D->Option D} {ad:D}:QR g [ad]=g ad:=rfl
def cE{P:Program}(X:na)(bb:dR P X.T)(ch:g3 P X.G X.C)(fH:kt P X.G X.H)(hm:P.follows .mixedOrders=true){f:FuncId}{fn:Func}(a8:P.funcs[f]?=some fn){g:D->Option D}(mh:X.ib=[]:=by rfl)(bs:nR X.T X.qp fn=true:=by kernel_rfl)(bB:decide (1<=fn.ntmps)=true:=by kernel_rfl)(he:∀ad,uL X fn [.d ad]=g ad:=by intros;kernel_rfl):bC P X.G f (QR g):=by
 intro aO r h;unfold QR at h;split at h
 case h_2=>cases h
 exact fK X bb ch fH hm a8 (cn le_nil) h mh bs bB (he _)
def QS(g:D->D->Option D):List D->Option D
 |[ad,au]=>g ad au|_=>none
@[simp] theorem aCp {g:D->D->Option D} {ad au:D}:QS g [ad,au]=g ad au:=rfl
def eb{P:Program}(X:na)(bb:dR P X.T)(ch:g3 P X.G X.C)(fH:kt P X.G X.H)(hm:P.follows .mixedOrders=true){f:FuncId}{fn:Func}(a8:P.funcs[f]?=some fn){g:D->D->Option D}(mh:X.ib=[]:=by rfl)(bs:nR X.T X.qp fn=true:=by kernel_rfl)(bB:decide (2<=fn.ntmps)=true:=by kernel_rfl)(he:∀ad au,uL X fn [.d ad,.d au]=g ad au:=by intros;kernel_rfl):bC P X.G f (QS g):=by
 intro aO r h;unfold QS at h;split at h
 case h_2=>cases h
 exact fK X bb ch fH hm a8 (cn (cn le_nil)) h mh bs bB (he _ _)
def QT(g:D->D->D->Option D):List D->Option D
 |[ad,au,ba]=>g ad au ba|_=>none
@[simp] theorem aCq {g:D->D->D->Option D} {ad au ba:D}:QT g [ad,au,ba]=g ad au ba:=rfl
def ku{P:Program}(X:na)(bb:dR P X.T)(ch:g3 P X.G X.C)(fH:kt P X.G X.H)(hm:P.follows .mixedOrders=true){f:FuncId}{fn:Func}(a8:P.funcs[f]?=some fn){g:D->D->D->Option D}(mh:X.ib=[]:=by rfl)(bs:nR X.T X.qp fn=true:=by kernel_rfl)(bB:decide (3<=fn.ntmps)=true:=by kernel_rfl)(he:∀ad au ba,uL X fn [.d ad,.d au,.d ba]=g ad au ba:=by intros;kernel_rfl):bC P X.G f (QT g):=by
 intro aO r h;unfold QT at h;split at h
 case h_2=>cases h
 exact fK X bb ch fH hm a8 (cn (cn (cn le_nil))) h mh bs bB (he _ _ _)
def QU(g:D->D->D->D->Option D):List D->Option D
 |[ad,au,ba,cx]=>g ad au ba cx|_=>none
@[simp] theorem aCr {g:D->D->D->D->Option D} {ad au ba cx:D}:QU g [ad,au,ba,cx]=g ad au ba cx:=rfl
def Ft{P:Program}(X:na)(bb:dR P X.T)(ch:g3 P X.G X.C)(fH:kt P X.G X.H)(hm:P.follows .mixedOrders=true){f:FuncId}{fn:Func}(a8:P.funcs[f]?=some fn){g:D->D->D->D->Option D}(mh:X.ib=[]:=by rfl)(bs:nR X.T X.qp fn=true:=by kernel_rfl)(bB:decide (4<=fn.ntmps)=true:=by kernel_rfl)(he:∀ad au ba cx,uL X fn [.d ad,.d au,.d ba,.d cx]=g ad au ba cx:=by intros;kernel_rfl):bC P X.G f (QU g):=by
 intro aO r h;unfold QU at h;split at h
 case h_2=>cases h
 exact fK X bb ch fH hm a8 (cn (cn (cn (cn le_nil)))) h mh bs bB (he _ _ _ _)
def QV(g:D->D->D->D->D->Option D):List D->Option D
 |[ad,au,ba,cx,ef]=>g ad au ba cx ef|_=>none
@[simp] theorem aCs {g:D->D->D->D->D->Option D} {ad au ba cx ef:D}:QV g [ad,au,ba,cx,ef]=g ad au ba cx ef:=rfl
def al7{P:Program}(X:na)(bb:dR P X.T)(ch:g3 P X.G X.C)(fH:kt P X.G X.H)(hm:P.follows .mixedOrders=true){f:FuncId}{fn:Func}(a8:P.funcs[f]?=some fn){g:D->D->D->D->D->Option D}(mh:X.ib=[]:=by rfl)(bs:nR X.T X.qp fn=true:=by kernel_rfl)(bB:decide (5<=fn.ntmps)=true:=by kernel_rfl)(he:∀ad au ba cx ef,uL X fn [.d ad,.d au,.d ba,.d cx,.d ef]=g ad au ba cx ef:=by intros;kernel_rfl):bC P X.G f (QV g):=by
 intro aO r h;unfold QV at h;split at h
 case h_2=>cases h
 exact fK X bb ch fH hm a8 (cn (cn (cn (cn (cn le_nil))))) h mh bs bB (he _ _ _ _ _)
def al8(g:D->D->D->D->D->D->Option D):List D->Option D
 |[ad,au,ba,cx,ef,hn]=>g ad au ba cx ef hn|_=>none
@[simp] theorem aCt {g:D->D->D->D->D->D->Option D} {ad au ba cx ef hn:D}:al8 g [ad,au,ba,cx,ef,hn]=g ad au ba cx ef hn:=rfl
def al9(g:D->D->D->D->D->D->D->Option D):List D->Option D
 |[ad,au,ba,cx,ef,hn,jq]=>g ad au ba cx ef hn jq|_=>none
@[simp] theorem aCu {g:D->D->D->D->D->D->D->Option D} {ad au ba cx ef hn jq:D}:al9 g [ad,au,ba,cx,ef,hn,jq]=g ad au ba cx ef hn jq:=rfl
def uN{P:Program}{T:cd}{os:Nat->Option (List Nat)}{f:FuncId}{fn:Func}(h:P.funcs[f]?=some fn)(bs:nR T os fn=true:=by kernel_rfl):wu P f:=al0 h bs
@[congr] def aCv {α β:Type} {x y:Option α} {f:α->Option β} (h:x=y):J x f=J y f:=by rw[h]
@[simp] theorem dS {α β:Type} {a:α} {f:α->Option β}:J (some a) f=f a:=rfl
@[simp] theorem aCw {α β:Type} {f:α->Option β}:J (none:Option α) f=none:=rfl
@[congr] def aCx {β:Type} {c d:Bool} {p:Option β} (h:c=d):aD c p=aD d p:=by rw[h]
@[simp] theorem qq {β:Type} {p:Option β}:aD true p=p:=rfl
@[simp] theorem aCy {β:Type} {p:Option β}:aD false p=none:=rfl
@[congr] def aCz {β:Type} {x y:D} {p q:Option β} (h:x=y):aC x p q=aC y p q:=by rw[h]
@[simp] theorem lF {β:Type} {b:Bool} {p q:Option β}:aC (ax b) p q=if b=true then p else q:=by cases b<;>rfl
@[congr] def aCA {x y:D} {w:Bool} {p:Option D} (h:x=y):bE x w p=bE y w p:=by rw[h]
@[simp] theorem uO {b w:Bool} {p:Option D}:bE (ax b) w p=if b=w then p else some j6:=rfl
@[simp] theorem aCB {eG:Type} {b w:Bool} {p q:Option eG}:yQ (ax b) w p q=if b=w then p else q:=rfl
@[simp] theorem aCC {eG:Type} {w:Bool} {p q:Option eG}:yQ j6 w p q=q:=rfl
@[simp] theorem aCD {w:Bool} {p:Option D}:bE j6 w p=some j6:=rfl
@[simp] theorem uP {t:Bool} {a b:D}:bT (ax t) a b=some (if t=true then a else b):=rfl
@[simp] theorem Zw {c:Prop} [Decidable c] {a b:Bool}:(if c then ax a else ax b)=ax (if c then a else b):=by split<;>rfl
@[simp] theorem QW {α:Type} {c:Prop} [Decidable c] {a b:α}:(if c then some a else some b)=some (if c then a else b):=by split<;>rfl
@[simp] theorem aCE {α:Type} {c:Prop} [Decidable c] {a b d:α}:(if c then(if c then a else b)else d)=if c then a else d:=by split<;>simp_all
@[simp] theorem QX {β:Type} {b:β}:aW (some b)=some (.inr b):=rfl
@[simp] theorem aCF {β:Type}:aW (none:Option β)=none:=rfl
@[simp] theorem qs {β:Type} {f:List D->Option β} {ls:List D}:a5 f (.inl ls)=f ls:=rfl
@[simp] theorem Fu {β:Type} {f:List D->Option β} {b:β}:a5 f (.inr b)=some b:=rfl
@[simp] theorem pE {x:D} {l:List D}:I (x::l) 0=x:=rfl
@[simp] theorem ru {x:D} {l:List D} {n:Nat}:I (x::l) (n+1)=I l n:=rfl
@[simp] theorem ama {k:Nat} {es:List (List D)}:af (.ak k es)=es:=rfl
@[simp] theorem amb {es:List (Value×D)}:gF (.mp es)=es:=rfl
@[simp] theorem amc {cs:List D}:k4 (.agg cs)=cs:=rfl
@[simp] theorem aCG {cs:List D} {i:Nat}:ab (.agg cs) i=cs.getD i j6:=rfl
@[simp] theorem amd {n:Int}:bm (R n)=true:=rfl
@[simp] theorem ame {n:Bool}:bm (ax n)=true:=rfl
@[simp] theorem amf {n:ByteArray}:bm (aT n)=true:=rfl
@[simp] theorem amg {k:Nat} {es:List (List D)}:bm (.ak k es)=true:=rfl
@[simp] theorem aCH {es:List (Value×D)}:bm (.mp es)=true:=rfl
@[simp] theorem amh:bm (.val (.slice none 0 0))=true:=rfl
@[simp] theorem ami {n:Int}:(R n).one=true:=rfl
@[simp] theorem amj {n:Bool}:(ax n).one=true:=rfl
@[simp] theorem amk {n:ByteArray}:(aT n).one=true:=rfl
@[simp] theorem aml {k:Nat} {es:List (List D)}:(D.ak k es).one=true:=rfl
@[simp] theorem amm:(D.val (.slice none 0 0)).one=true:=rfl
@[simp] theorem aCI {n:Nat} {cs:List D}:a6 n (.agg cs)=(cs.length==n&&cs.all D.one):=rfl
@[simp] theorem aCJ:ma (.val (.slice none 0 0))=true:=rfl
@[simp] theorem iK {n off:Nat} {cs:List D}:aQ false n off cs=cs[off]?:=rfl
theorem y8{n off:Nat}{cs:List D}:aQ true n off cs=if off+n<=cs.length then some (.agg ((cs.drop off).take n))else none:=rfl
@[simp] theorem Zx {a:Bool} {n off:Nat} {cs:List D}:mb a n off (.agg cs)=aQ a n off cs:=rfl
@[simp] theorem QY {i:Nat} {vs:List D}:bf i (.aR vs)=vs[i]?:=rfl
@[simp] theorem amn {k:Nat} {es:List (List D)}:bJ (.ak k es)=some (R es.length):=rfl
@[simp] theorem amo:bJ (.val (.slice none 0 0))=some (R 0):=rfl
@[simp] theorem QZ {s:ByteArray}:px (aT s)=some (R s.size):=rfl
@[simp] theorem Zy {k:Nat} {es:List (List D)} {i:Nat}:bh k (.ak k es) (R (i:Int))=es[i]?:=by simp[bh,R]
@[simp] theorem aCK {k:Nat} {es:List (List D)}:bh k (.ak k es) (R 0)=es[0]?:=by simp[bh,R]
def Q0{n:Nat}{i:Int}(h:0<=i)(bD:i<n):bj n (R i)=some i.toNat:=by simp[bj,R,h,bD]
@[simp] theorem lG {n i:Nat}:bj n (R (i:Int))=if i<n then some i else none:=by simp[bj,R]
@[simp] theorem amp {k:Nat} {es:List (List D)}:ql (.ak k es)=some (k,es):=rfl
@[simp] theorem aCL:ql (.val (.slice none 0 0))=some (0,[]):=rfl
def gd{n b:Nat}(aa:n*b<=140737488355328)(ae:n<=4611686018427387904):cW n b=true:=by simp[cW,aa,ae]
section
variable{bt:Bool}{a b:Int}
@[simp] theorem Fv:ag bt .lss (R a) (R b)=some (ax (decide (a<b))):=rfl
@[simp] theorem Lc:ag bt .leq (R a) (R b)=some (ax (decide (a<=b))):=rfl
@[simp] theorem oT:ag bt .gtr (R a) (R b)=some (ax (decide (a>b))):=rfl
@[simp] theorem Ce:ag bt .geq (R a) (R b)=some (ax (decide (a>=b))):=rfl
@[simp] theorem Cf:ag bt .eql (R a) (R b)=some (ax (a==b)):=rfl
@[simp] theorem y9:ag bt .neq (R a) (R b)=some (ax (a !=b)):=rfl
theorem Ld:ag bt .add (R a) (R b)=some (R (IntKind.i64.wrap (a+b))):=rfl
theorem Q1:ag bt .sub (R a) (R b)=some (R (IntKind.i64.wrap (a-b))):=rfl
theorem amq:ag bt .mul (R a) (R b)=some (R (IntKind.i64.wrap (a*b))):=rfl
def eZ(aa:-9223372036854775808<=a+b)(ae:a+b<=9223372036854775807):ag bt .add (R a) (R b)=some (R (a+b)):=by rw[Ld,wrap64 _ aa ae]
def qt(aa:-9223372036854775808<=a-b)(ae:a-b<=9223372036854775807):ag bt .sub (R a) (R b)=some (R (a-b)):=by rw[Q1,wrap64 _ aa ae]
def w6(aa:-9223372036854775808<=a*b)(ae:a*b<=9223372036854775807):ag bt .mul (R a) (R b)=some (R (a*b)):=by rw[amq,wrap64 _ aa ae]
def Zz(h:b≠0):ag bt .quo (R a) (R b)=some (R (IntKind.i64.wrap (a.tdiv b))):=by simp[ag,Bp,R,h,nK]
def Fw(h:b≠0):ag bt .rem (R a) (R b)=some (R (a.tmod b)):=by simp[ag,Bp,R,h,nK]
@[simp] theorem Q2 {x y:ByteArray}:ag bt .eql (aT x) (aT y)=some (ax (decide (x=y))):=rfl
@[simp] theorem ZA {x y:ByteArray}:ag bt .neq (aT x) (aT y)=some (ax (!decide (x=y))):=rfl
@[simp] theorem amr {x y:ByteArray}:ag bt .lss (aT x) (aT y)=some (ax (blt x y)):=rfl
@[simp] theorem Q3 {x y:ByteArray}:ag bt .gtr (aT x) (aT y)=some (ax (!(blt x y||decide (x=y)))):=rfl
@[simp] theorem aCM {x y:Bool}:ag true .eql (ax x) (ax y)=some (ax (x==y)):=rfl
@[simp] theorem ams {x y:Bool}:ag true .neq (ax x) (ax y)=some (ax (x !=y)):=rfl
@[simp] theorem Cg {x:Bool}:c1 .not (ax x)=some (ax (!x)):=rfl
end
attribute [simp] xbs xca List.getElem?_nil List.getD_cons_zero List.getD_cons_succ
theorem k7{β:Type}{f:List D->Option (List D⊕β)}{n:Nat}{ls:List D}:bq f (n+1) ls=J (f ls) λx=>match x with| .inl fe=>bq f n fe| .inr b=>some b:=rfl
def ZB{β:Type}{f:List D->Option (List D⊕β)}(gA:Nat->List D):∀{m n j:Nat},(∀i,j<=i->i<j+m->f (gA i)=some (.inl (gA (i+1))))->m<=n->bq f n (gA j)=bq f (n-m) (gA (j+m))
 |0,n,j,_,_=>rfl|m+1,0,j,_,h=>absurd h (by omega)
 |m+1,n+1,j,aE,h=>by
  rw[k7,aE j (xbe j) (by omega)];simp only[dS];have:=ZB (f:=f) gA (m:=m) (n:=n) (j:=j+1) (λi aa ae=>aE i (by omega) (by omega)) (by omega);rw[this]
  congr 1
  .omega
  congr 1;omega
theorem mi{β:Type}{f:List D->Option (List D⊕β)}{ls:List D}{n:Nat}{b:β}(gA:Nat->List D)(m:Nat)(ar:ls=gA 0)(aE:∀i,i<m->f (gA i)=some (.inl (gA (i+1))))(he:f (gA m)=some (.inr b))(aM:m<n):bq f n ls=some b:=by subst ar;rw[ZB gA (m:=m) (λi _ h=>aE i (by omega)) (by omega)];obtain⟨k,al⟩:∃k,n-m=k+1:=⟨n-m-1,by omega⟩;rw[al,k7,xaB,he];rfl
end Go.Am
