/- An evaluator of code over such values, and that what it answers the code does. No condition. -/
import Derived.Test.YthnecpgodmolaaaGreatDoorEngS
import Derived.KernelRfl
set_option linter.all false
set_option linter.unnecessarySimpa false
namespace Go.Am
def aa{α β:Type}(x:Option α)(f:α->Option β):Option β:=match x with|some a=>f a|none=>none
def fx{α β:Type}{x:Option α}{f:α->Option β}{b:β}(h:aa x f=some b):∃a,x=some a/\f a=some b:=by
 cases x with
 |none=>cases h
 |some a=>exact⟨a,rfl,h⟩
def aD{β:Type}(c:Bool)(p:Option β):Option β:=match c with|true=>p|false=>none
def lE{β:Type}{c:Bool}{p:Option β}{b:β}(h:aD c p=some b):c=true/\p=some b:=by
 cases c with
 |false=>cases h
 |true=>exact⟨rfl,h⟩
def aI{β:Type}(x:D)(p q:Option β):Option β:=match x with| .val (.bool true)=>p| .val (.bool false)=>q|_=>none
def XU{β:Type}{x:D}{p q:Option β}{b:β}(h:aI x p q=some b):(x= .val (.bool true)/\p=some b)\/(x= .val (.bool false)/\q=some b):=by
 unfold aI at h;split at h;.exact .inl ⟨rfl,h⟩
 .exact .inr ⟨rfl,h⟩
 cases h
def lF:D:= .val (.tuple #[])
def nX:Option aS->Option D
 |some (.d r)=>some r|_=>none
def yn{x:Option aS}{r:D}(h:nX x=some r):x=some (.d r):=by
 unfold nX at h;split at h;.cases h;rfl
 cases h
def K1:D->List D
 | .agg cs=>cs|_=>[]
def ad(x:D)(i:Nat):D:=(K1 x).getD i lF
def au:D->List (List D)
 | .az _ es=>es|_=>[]
def ei:D->List (Value×D)
 | .mp es=>es|_=>[]
def bJ(x:D):Bool:=x.one
def a6(n:Nat)(x:D):Bool:=match x with| .agg cs=>cs.length==n&&cs.all D.one|_=>false
def pD(x:D):Bool:=match x with| .val (.slice none 0 0)=>true|_=>false
def ajg{n:Nat}{x:D}(h:a6 n x=true):∃cs,x= .agg cs/\cs.length=n/\cs.all D.one=true:=by
 unfold a6 at h;split at h;.rename_i cs;rw[xam,xbH]at h;exact⟨cs,rfl,h.1,h.2⟩
 cases h
def ajh{n:Nat}{cs:List D}(h:cs.length=n):((List.range n).map λi=>aS.d (ad (.agg cs) i))=cs.map .d:=by
 apply xbR;intro i;simp only[xaj];by_cases ah:i<n;.rw[xbS ah,xaa (by omega)];simp[ad,K1,xaR,h,ah]
 rw[xbi (by simp;omega),xbi (by omega)];rfl
def ai(bt:Bool)(op:BinOp)(x y:D):Option D:=match x,y with
 | .val (.int k a),.val (.int br b)=>nX (match op with
  | .shl=>if b<0 then none else some (.d (.val (.int k (k.wrap (a*2^(min b.toNat k.bits))))))
  | .shr=>if b<0 then none else some (.d (.val (.int k (a.fdiv (2^(min b.toNat k.bits))))))
  |_=>if k=br then Ev op k a b else none)
 | .val (.string a),.val (.string b)=>nX (Ph op a b)| .val (.bool a),.val (.bool b)=>if bt then nX (Pj op a b)else none
 |_,_=>none
def aji{T:cg}{t:TypeId}{op:BinOp}{x y r:D}(h:ai (Ew T t) op x y=some r):vR T op t (.d x) (.d y)=some (.d r):=by
 unfold ai at h;unfold vR;split at h;.have:=yn h;cases op<;>exact this
 .exact yn h
 .split at h;.rename_i aj;simp only[aj,xaC];exact yn h
  cases h
 cases h
def yo(l:List TypeDesc)(op:BinOp)(x y:D):Option D:=match x,y with| .agg xs,.agg c6=>nX (J3 op l xs c6)|_,_=>none
def ajj{T:cg}{t:TypeId}{op:BinOp}{x y r:D}{l:List TypeDesc}(aq:T.eqs t=some l)(h:yo l op x y=some r):vR T op t (.d x) (.d y)=some (.d r):=by
 unfold yo at h;split at h;.unfold vR;simp only[aq];exact yn h
 cases h
def XV(op:BinOp)(x y:D):Option D:=match op with
 | .eql=>if pD y then(match x with| .val (.slice none _ _)=>some (.val (.bool true))| .az _ (_::_)=>some (.val (.bool false))|_=>none)else none
 | .neq=>if pD y then(match x with| .val (.slice none _ _)=>some (.val (.bool false))| .az _ (_::_)=>some (.val (.bool true))|_=>none)else none
 |_=>none
def dk(op:UnOp)(x:D):Option D:=match op,x with| .not,.val (.bool b)=>some (.val (.bool !b))| .neg,.val (.int k n)=>some (.val (.int k (k.wrap (0-n))))|_,_=>none
def kn(k:IntKind)(x:D):Option D:=match x with| .val (.int _ n)=>some (.val (.int k (k.wrap n)))|_=>none
def XW(x:D):Option D:=match x with| .val (.string b)=>some (.val (.string b))|_=>none
def bV(c a b:D):Option D:=match c with
 | .val (.bool t)=>some (if t then a else b)
 |_=>none
def a5(agg:Bool)(n off:Nat)(cs:List D):Option D:=match agg with
 |true=>if off+n<=cs.length then some (.agg ((cs.drop off).take n))else none
 |false=>cs[off]?
def l0(agg:Bool)(n off:Nat)(x:D):Option D:=match x with| .agg cs=>a5 agg n off cs|_=>none
def bs(i:Nat)(x:D):Option D:=match x with| .aZ vs=>vs[i]?|_=>none
def nY(s i:D):Option D:=match s,i with| .val (.string s),.val (.int _ n)=>nX (J7 s n)|_,_=>none
def sS(x:Option D)(Pn:Nat):Option Nat:=match x with
 |none=>some Pn|some (.val (.int _ n))=>if 0<=n then some n.toNat else none
 |_=>none
theorem K2(x:Option D)(d:Nat):qi (x.map .d) d=sS x d:=by cases x with|none=>rfl|some x=>cases x<;>first|rfl|(rename_i v;cases v<;>rfl)
def XX(s:D)(lo ah:Option D):Option D:=match s with
 | .val (.string s)=>match sS ah s.size,sS lo 0 with
  |some h,some l=>if l<=h/\h<=s.size then some (.val (.string (s.extract l h)))else none
  |_,_=>none
 |_=>none
def rk(k:Nat)(x:D)(lo ah:Option D):Option D:=match x with
 | .az br es=>match sS ah es.length,sS lo 0 with
  |some h,some l=>if l<=h/\h<=es.length/\br=k then some (.az br ((es.drop l).take (h-l)))else none
  |_,_=>none
 |_=>none
def pE(n:Nat)(lo ah:Option D):Option (Nat×Nat):=match sS ah n,sS lo 0 with
 |some h,some l=>if l<=h/\h<=n then some (l,h-l)else none
 |_,_=>none
def nZ(x:D):Option D:=match x with| .val (.string s)=>some (.val (.int .i64 s.size))|_=>none
def bD(x:D):Option D:=match x with| .az _ es=>some (.val (.int .i64 es.length))| .val (.slice _ n _)=>some (.val (.int .i64 n))|_=>none
def XY(x:D):Option D:=match x with| .val (.map none)=>some (.val (.int .i64 0))| .mp es=>some (.val (.int .i64 es.length))|_=>none
def bo(k:Nat)(x i:D):Option (List D):=match i with
 | .val (.int _ n)=>if 0<=n then(match x with
  | .az br es=>if br=k then es[n.toNat]? else none
  |_=>none)else none
 |_=>none
def cj(n:Nat)(i:D):Option Nat:=match i with
 | .val (.int _ j)=>if 0<=j/\j<n then some j.toNat else none
 |_=>none
def k4(x:D):Option (Nat×List (List D)):=match x with| .az k es=>some (k,es)| .val (.slice none 0 _)=>some (0,[])|_=>none
def l1(hA:Bool)(l:List D):Option D:=nX (q1 hA (l.map .d))
def dc(n bytes:Nat):Bool:=decide (n*bytes<=140737488355328)&&decide (n<=4611686018427387904)
def rl(bytes:Nat)(l c:D):Option Nat:=match l,c with
 | .val (.int _ l),.val (.int _ c)=>if 0<=l/\l<=c/\(bytes:Int)*c<=281474976710656/\c<=9223372036854775807 then some l.toNat else none
 |_,_=>none
def j3(kind:TypeDesc)(zero:Value)(ok:Bool)(es:List (Value×D))(k:D):Option D:=match k with
 | .val fh=>match findD kind fh es with
  |some (some x)=>some (if ok then .aZ [x,.val (.bool true)]else x)
  |some none=>some (if ok then .aZ [sB zero,.val (.bool false)]else sB zero)
  |none=>none
 |_=>none
def lG(x:D):Option (List (Value×D)):=match x with| .val (.map none)=>some []| .mp es=>some es|_=>none
def nr(kind:TypeDesc)(es:List (Value×D))(k x:D):Option (List (Value×D)):=match k with| .val fh=>q2 kind fh x es|_=>none
section
variable{β:Type}
def Fa:List aS->Option β->Option β
 |[],p=>p| .d a::r,p=>aD (bJ a) (Fa r p)|x::r,p=>if x.one=true then Fa r p else none
def Qn{p:Option β}{b:β}:∀{cs:List aS},Fa cs p=some b->cs.all aS.one=true/\p=some b
 |[],h=>⟨rfl,h⟩
 |x::r,h=>by
  unfold Fa at h;split at h;.rename_i e;cases e
  .rename_i a sA oF e;cases e;obtain⟨ab,af⟩:=lE h;obtain⟨aw,a4⟩:=Qn af;exact⟨by rw[xbP,aw,xbu];exact ab,a4⟩
  rename_i e;cases e;split at h;.rename_i ag;obtain⟨aw,a4⟩:=Qn h;exact⟨by rw[xbP,aw,xbu];exact ag,a4⟩
  cases h
def Bu(n:Nat)(x:aS)(k:List aS->Option β):Option β:=match x with
 | .d a=>match n with|1=>aD (bJ a) (k [.d a])|_=>aD (a6 n a) (k ((List.range n).map λi=> .d (ad a i)))
 | .agg cs=>Fa cs (k cs)|x=>match cellsOf x with|some cs=>k cs|none=>none
def K3{n:Nat}{x:aS}{k:List aS->Option β}{b:β}(h:Bu n x k=some b):∃cs,cellsOf x=some cs/\k cs=some b:=by
 unfold Bu at h;split at h
 .rename_i a;split at h
  .obtain⟨ab,af⟩:=lE h;refine⟨_,?_,af⟩;unfold bJ at ab;unfold cellsOf;split;.rename_i he;cases he;cases ab
   .rename_i he;cases he
   rw[xad (show aS.one (.d a)=true from ab)]
  obtain⟨ab,af⟩:=lE h;obtain⟨cs,rfl,aO,aX⟩:=ajg ab;rw[ajh aO]at af;exact⟨_,by simp only[cellsOf,aX,xaC],af⟩
 .obtain⟨ab,af⟩:=Qn h;exact⟨_,by simp only[cellsOf,ab,xaC],af⟩
 split at h;.rename_i cs hK;exact⟨cs,hK,h⟩
 cases h
def K4(place:Nat->Option (Nat×Nat))(cells:List aS):List (Nat×aS)->(List aS->Option β)->Option β
 |[],k=>k cells|(i,x)::rest,k=>match place i with|none=>none|some (off,size)=>Bu size x λcs=>if cs.length=size/\off+cs.length<=cells.length then K4 place (nP cells off cs) rest k else none
def XZ{place:Nat->Option (Nat×Nat)}:∀{parts:List (Nat×aS)} {cells:List aS} {k:List aS->Option β} {b:β},K4 place cells parts k=some b->∃cs,xU place cells parts=some cs/\k cs=some b
 |[],cells,k,b,h=>⟨cells,rfl,h⟩
 |(i,x)::rest,cells,k,b,h=>by
  unfold K4 at h;split at h;.cases h
  rename_i off size aT;obtain⟨cs,ab,af⟩:=K3 h;split at af
  case isFalse=>cases af
  rename_i an;obtain⟨out,aw,a4⟩:=XZ af;exact⟨out,by unfold xU;simp only[aT,ab];rw[xad an];exact aw,a4⟩
def K5(size:Nat)(n:Nat):List (Nat×aS)->(List (List D)->Option β)->Option β
 |[],k=>k []
 |(i,x)::r,k=>if i=n then Bu size x λcs=>match lx cs with
   |some aQ=>if aQ.length=size then K5 size (n+1) r λl=>k (aQ::l)else none
   |none=>none
  else none
def X0{size:Nat}:∀{parts:List (Nat×aS)} {n:Nat} {k:List (List D)->Option β} {b:β},K5 size n parts k=some b->∃es,vX size n parts=some es/\k es=some b
 |[],n,k,b,h=>⟨[],rfl,h⟩
 |(i,x)::r,n,k,b,h=>by
  unfold K5 at h;split at h
  case isFalse=>cases h
  rename_i ah;obtain⟨cs,ab,af⟩:=K3 h;split at af
  case h_2=>cases af
  rename_i aQ eY;split at af
  case isFalse=>cases af
  rename_i aq;obtain⟨es,aw,a4⟩:=X0 af;exact⟨aQ::es,by unfold vX;simp only[ah,xaC,ab,eY,aw,aq],a4⟩
end
section
variable{β:Type}
def sT(T:cg)(G:dt)(σ:aK)(o:Oper)(k:aK->Option β):Option β:=match g4 T G σ o with|some aV=>k aV|none=>none
def k5(σ:aK)(dst:Option Tmp)(k:aK->Option β)(p:Option D):Option β:=aa p λv=>k (σ.put dst (.d v))
def mY(T:cg)(σ:aK)(dst:Option Tmp)(k:aK->Option β)(r:aS)(cA:List (Key×cS)):Option β:=match q6 (T.born (dst.getD 9999)) (dst.getD 9999) (r,cA)with|(r,cA)=>k (aK.put ⟨σ.aM,dG σ.objs cA⟩ dst r)
def K6:Option aS->Option (Option D)
 |none=>some none|some (.d a)=>some (some a)|_=>none
theorem X1{x:Option aS}{y:Option D}(h:K6 x=some y):x=y.map .d:=by unfold K6 at h;split at h<;>cases h<;>rfl
def X2(T:cg)(t:TypeId):Bool:=match T t with|some ⟨.slice _,_,_,_⟩=>true|_=>false
def Qo(T:cg)(G:dt)(σ:aK)(o:Oper)(op:BinOp)(t:TypeId)(x y:Operand)(k:aK->Option β):Option β:=match ch G σ.aM x,ch G σ.aM y with
 | .d a,.d b=>match X2 T t with|true=>k5 σ o.dst k (XV op a b)|false=>match T.eqs t with|some l=>k5 σ o.dst k (yo l op a b)|none=>k5 σ o.dst k (ai (Ew T t) op a b)
 |_,_=>sT T G σ o k
def Qp(T:cg)(G:dt)(σ:aK)(o:Oper)(s:TypeId)(x:Operand)(f:Nat)(k:aK->Option β):Option β:=match Ez T s f with
 |some (off,i)=>match ch G σ.aM x with| .d a=>k5 σ o.dst k (l0 (ue i.desc) i.size off a)|_=>sT T G σ o k
 |none=>none
def Qq(T:cg)(G:dt)(σ:aK)(o:Oper)(t:TypeId)(a:Operand)(k:aK->Option β):Option β:=match T t with
 |some i=>match ch G σ.aM a with
  | .eA cs off=>k5 σ o.dst k (a5 (ue i.desc) i.size off cs)
  | .gB key cR fF off=>match σ.objs key with
   |some (.row br es)=>if cR=br then aa es[fF]? λe=>k5 σ o.dst k (a5 (ue i.desc) i.size off e)else none
   |_=>none
  |_=>sT T G σ o k
 |none=>none
def Qr(T:cg)(G:dt)(σ:aK)(o:Oper)(t:TypeId)(x fF:Operand)(k:aK->Option β):Option β:=match T t with
 |some ⟨.slice e,_,_,_⟩=>match T e with
  |some bh=>match ch G σ.aM fF with
   | .d i=>match ch G σ.aM x with
    | .d a=>aa (bo bh.size a i) λc=>k (σ.put o.dst (.eA c 0))
    | .row key=>match σ.objs key with
     |some (.row br es)=>if br=bh.size then aa (cj es.length i) λn=>k (σ.put o.dst (.gB key br n 0))else none
     |_=>none
    | .sub key br i0 len=>if br=bh.size then aa (cj len i) λn=>k (σ.put o.dst (.gB key br (i0+n) 0))else none
    |_=>none
   |_=>none
  |none=>none
 |some ⟨.array len e,_,_,_⟩=>match T e with
  |some bh=>match ch G σ.aM fF with
   | .d i=>aa (cj len i) λn=>match EA (ch G σ.aM x) (n*bh.size)with|some r=>k (σ.put o.dst r)|none=>none
   |_=>none
  |none=>none
 |_=>none
def Qs(T:cg)(G:dt)(σ:aK)(o:Oper)(t:TypeId)(x:Operand)(lo ah:Option Operand)(k:aK->Option β):Option β:=match K6 (lo.map (ch G σ.aM)),K6 (ah.map (ch G σ.aM))with
 |some l,some h=>match T t with
  |some ⟨.string,_,_,_⟩=>match ch G σ.aM x with| .d a=>k5 σ o.dst k (XX a l h)|_=>none
  |some ⟨.slice e,_,_,_⟩=>match T e with
   |some bh=>match ch G σ.aM x with
    | .d a=>k5 σ o.dst k (rk bh.size a l h)
    | .row key=>match σ.objs key with
     |some (.row br es)=>if br=bh.size then aa (pE es.length l h) λp=>k (σ.put o.dst (.sub key br p.1 p.2))else none
     |_=>none
    | .sub key br i0 len=>if br=bh.size then aa (pE len l h) λp=>k (σ.put o.dst (.sub key br (i0+p.1) p.2))else none
    |_=>none
   |none=>none
  |_=>sT T G σ o k
 |_,_=>none
def Qt(T:cg)(G:dt)(σ:aK)(o:Oper)(args:List Operand)(dI:List TypeId)(k:aK->Option β):Option β:=match dI,args with
 |[t],[x]=>match ch G σ.aM x with
  | .d a=>match T t with|some ⟨.string,_,_,_⟩=>k5 σ o.dst k (nZ a)|some ⟨.slice _,_,_,_⟩=>k5 σ o.dst k (bD a)|some ⟨.map _ _,_,_,_⟩=>k5 σ o.dst k (XY a)|_=>none
  |_=>sT T G σ o k
 |_,_=>none
def Qu(T:cg)(G:dt)(σ:aK)(o:Oper)(args:List Operand)(dI:List TypeId)(k:aK->Option β):Option β:=match dI,args with
 |[t,t'],[s,x]=>match T t,T t',σ.objs (o.dst.getD 9999)with
  |some ⟨.slice e,_,_,_⟩,some ⟨.slice _,_,_,_⟩,none=>match T e with
   |some bh=>
    let go:Nat×List (List D)->Option β:=λp=>aD (decide (p.1=bh.size\/p.2=[])&&decide (0<bh.size)) (match ch G σ.aM s with
     | .d a=>aD (pD a&&dc p.2.length bh.bytes) (mY T σ o.dst k (.row (o.dst.getD 9999)) [(o.dst.getD 9999,.row bh.size p.2)])
     | .row key=>match σ.objs key with
      |some (.row br es)=>if br=bh.size/\key<10000 then aD (dc (es.length+p.2.length) bh.bytes) (mY T σ o.dst k (.row (o.dst.getD 9999)) [(key,.dead),(o.dst.getD 9999,.row br (es++p.2))])else none
      |_=>none
     |_=>none)
    match ch G σ.aM x with
    | .d a=>aa (k4 a) go
    | .sub key br i len=>match σ.objs key with
     |some (.row pF es)=>if br=pF then aD (decide (i+len<=es.length)) (go (br,(es.drop i).take len))else none
     |_=>none
    |y=>match mm σ.objs y with|some p=>go p|none=>none
   |none=>none
  |_,_,_=>none
 |_,_=>none
def Qv(T:cg)(G:dt)(σ:aK)(o:Oper)(args:List Operand)(dI:List TypeId)(k:aK->Option β):Option β:=match dI,args with
 |[t,t'],[s,x]=>match T t with
  |some ⟨.slice e,_,_,_⟩=>match T e with
   |some bh=>
    let go:Nat×List (List D)->Option β:=λp=>aD (decide (p.1=bh.size\/p.2=[])) (match ch G σ.aM s with
     | .row key=>match σ.objs key with
      |some (.row br es)=>if br=bh.size then mY T σ o.dst k (.d (.val (.int .i64 (min p.2.length es.length:Nat)))) [(key,.row br (p.2.take (min p.2.length es.length)++es.drop (min p.2.length es.length)))]else none
      |_=>none
     | .sub key br i len=>match σ.objs key with
      |some (.row pF es)=>if br=bh.size/\pF=br then aD (decide (i+len<=es.length)) (mY T σ o.dst k (.d (.val (.int .i64 (min p.2.length len:Nat)))) [(key,.row br (es.take i++p.2.take (min p.2.length len)++es.drop (i+min p.2.length len)))])else none
      |_=>none
     |_=>none)
    match ch G σ.aM x with
    | .d a=>aa (k4 a) go
    | .sub key br i len=>match σ.objs key with
     |some (.row pF es)=>if br=pF then aD (decide (i+len<=es.length)) (go (br,(es.drop i).take len))else none
     |_=>none
    |y=>match mm σ.objs y with|some p=>go p|none=>none
   |none=>none
  |_=>none
 |_,_=>none
def Qw(T:cg)(G:dt)(σ:aK)(o:Oper)(args:List Operand)(dI:List TypeId)(k:aK->Option β):Option β:=match dI,args with
 |[t],[s]=>match T t with
  |some ⟨.slice e,_,_,_⟩=>match T e with
   |some bh=>match ch G σ.aM s with
    | .sub key br i len=>match σ.objs key with
     |some (.row pF es)=>if br=bh.size/\pF=br/\bh.zero.cells.toList.all kh=true then aD (decide (i+len<=es.length)) (mY T σ o.dst k .any [(key,.row br (es.take i++List.replicate len (bh.zero.cells.toList.map .val)++es.drop (i+len)))])else none
     |_=>none
    |_=>none
   |none=>none
  |_=>none
 |_,_=>none
def Qx(T:cg)(G:dt)(σ:aK)(o:Oper)(t:TypeId)(x i:Operand)(ok:Bool)(k:aK->Option β):Option β:=match T t with
 |some ⟨.map il hb,_,_,_⟩=>match T il,T hb with
  |some h9,some bh=>if vU h9.desc then(match ch G σ.aM i with
   | .d fh=>match ch G σ.aM x with
    | .d m=>aa (lG m) λes=>k5 σ o.dst k (j3 h9.desc bh.zero ok es fh)| .map key=>match σ.objs key with|some (.map es)=>k5 σ o.dst k (j3 h9.desc bh.zero ok es fh)|_=>none
    |_=>none
   |_=>none)else none
  |_,_=>none
 |_=>none
def K7(T:cg)(G:dt)(σ:aK)(o:Oper)(t:TypeId)(m i x:Operand)(k:aK->Option β):Option β:=match T t with
 |some ⟨.map il _,_,_,_⟩=>match T il with
  |some h9=>if vU h9.desc then(match ch G σ.aM m,ch G σ.aM i,ch G σ.aM x with
   | .map key,.d fh,.d v=>match σ.objs key with|some (.map es)=>aa (nr h9.desc es fh v) λl=>mY T σ o.dst k .any [(key,.map l)]|_=>none
   |_,_,_=>none)else none
  |none=>none
 |_=>none
def Qy(T:cg)(G:dt)(σ:aK)(o:Oper)(t:TypeId)(a x:Operand)(k:aK->Option β):Option β:=match T t with
 |some i=>Bu i.size (ch G σ.aM x) λcs=>if cs.length=i.size then(match ch G σ.aM a with
  | .ptr key off=>match σ.objs key with
   |some (.box cells)=>if off+cs.length<=cells.length then mY T σ o.dst k .any [(key,.box (nP cells off cs))]else none
   |_=>none
  | .gB key cR fF off=>match σ.objs key,lx cs with
   |some (.row br es),some aQ=>if cR=br/\off+aQ.length<=cR then aa es[fF]? λe=>mY T σ o.dst k .any [(key,.row cR (es.set fF (dH e off aQ)))]else none
   |_,_=>none
  |_=>none)else none
 |none=>none
def Qz(T:cg)(G:dt)(σ:aK)(o:Oper)(t:TypeId)(parts:Array (Nat×Operand))(k:aK->Option β):Option β:=match Pm T t with|some (pl,z)=>K4 pl (zeroCells z) (parts.toList.map λp=>(p.1,ch G σ.aM p.2)) λout=>k (σ.put o.dst (AY out))|none=>none
def QA(T:cg)(G:dt)(σ:aK)(o:Oper)(t:TypeId)(n:Nat)(parts:Array (Nat×Operand))(k:aK->Option β):Option β:=match T t,σ.objs (o.dst.getD 9999)with
 |some ⟨.slice e,_,_,_⟩,none=>match T e with
  |some bh=>K5 bh.size 0 (parts.toList.map λp=>(p.1,ch G σ.aM p.2)) λes=>if es.length=n/\0<bh.size/\n*bh.size<=16777216 then mY T σ o.dst k (.row (o.dst.getD 9999)) [(o.dst.getD 9999,.row bh.size es)]else none
  |none=>none
 |_,_=>none
def QB(T:cg)(G:dt)(σ:aK)(o:Oper)(t:TypeId)(l c:Operand)(k:aK->Option β):Option β:=match T t,σ.objs (o.dst.getD 9999)with
 |some ⟨.slice e,_,_,_⟩,none=>match T e with
  |some bh=>match ch G σ.aM l,ch G σ.aM c with
   | .d l,.d c=>if bh.zero.cells.toList.all kh then aa (rl bh.bytes l c) λn=>mY T σ o.dst k (.row (o.dst.getD 9999)) [(o.dst.getD 9999,.row bh.size (List.replicate n (bh.zero.cells.toList.map .val)))]else none
   |_,_=>none
  |none=>none
 |_,_=>none
def QC(T:cg)(G:dt)(σ:aK)(o:Oper)(s t:TypeId)(x:Operand)(k:aK->Option β):Option β:=match T s,T t,ch G σ.aM x with|some _,some ⟨.int i,_,_,_⟩,.d a=>k5 σ o.dst k (kn i a)|some _,some ⟨.string,_,_,_⟩,.d a=>k5 σ o.dst k (XW a)|_,_,_=>sT T G σ o k
def K8(T:cg)(G:dt)(σ:aK)(o:Oper)(hA:Bool)(args:List Operand)(k:aK->Option β):Option β:=match lx (args.map (ch G σ.aM))with|some aQ=>k5 σ o.dst k (l1 hA aQ)|none=>none
def dd:aS->aS->Option (D×D)
 | .d a,.d b=>some (a,b)|_,_=>none
theorem ajk{x y:aS}{p:D×D}(h:dd x y=some p):x= .d p.1/\y= .d p.2:=by unfold dd at h;split at h<;>cases h;exact⟨rfl,rfl⟩
def X3{T:cg}{ev:Operand->aS}{c a b:Operand}{t:Bool}(an:ev c= .d (.val (.bool t)))(h:dd (ev a) (ev b)=none):eX T ev (.pick c a b)=some (if t then ev a else ev b):=by
 simp only[eX,an];generalize ev a=x at*;generalize ev b=y at*;split;.cases h
 rfl
def uH(T:cg)(G:dt)(σ:aK)(o:Oper)(k:aK->Option β):Option β:=match o.op with
 | .binOp op t x y _=>Qo T G σ o op t x y k| .unOp op _ x=>match ch G σ.aM x with| .d a=>k5 σ o.dst k (dk op a)|_=>none
 | .convert s t x=>QC T G σ o s t x k
 | .pick c a b=>match ch G σ.aM c with
  | .d c=>match dd (ch G σ.aM a) (ch G σ.aM b)with|some p=>k5 σ o.dst k (bV c p.1 p.2)|none=>aI c (k (σ.put o.dst (ch G σ.aM a))) (k (σ.put o.dst (ch G σ.aM b)))
  |_=>none
 | .field s x f=>Qp T G σ o s x f k| .extract x i=>match ch G σ.aM x with| .d a=>k5 σ o.dst k (bs i a)|_=>sT T G σ o k
 | .index t x i=>match T t with
  |some ⟨.string,_,_,_⟩=>match ch G σ.aM x,ch G σ.aM i with| .d a,.d b=>k5 σ o.dst k (nY a b)|_,_=>none
  |some ⟨.array len e,_,_,_⟩=>match T e with
   |some bh=>match ch G σ.aM x,ch G σ.aM i with| .d a,.d b=>aa (cj len b) λn=>k5 σ o.dst k (l0 (ue bh.desc) bh.size (n*bh.size) a)|_,_=>none
   |none=>none
  |_=>none
 | .load t a=>Qq T G σ o t a k| .indexAddr t x fF=>Qr T G σ o t x fF k| .slice t x lo ah none=>Qs T G σ o t x lo ah k| .lookup t x i ok=>Qx T G σ o t x i ok k| .mapUpdate t m i x=>K7 T G σ o t m i x k| .insert t m i x=>K7 T G σ o t m i x k| .store t a x=>Qy T G σ o t a x k| .build t parts=>Qz T G σ o t parts k| .buildSlice t n parts=>QA T G σ o t n parts k| .makeSlice t l c=>QB T G σ o t l c k| .box t x=>match T t,σ.objs (o.dst.getD 9999)with|some i,none=>Bu i.size (ch G σ.aM x) λcs=>mY T σ o.dst k (.ptr (o.dst.getD 9999) 0) [(o.dst.getD 9999,.box cs)]|_,_=>none
 | .call ⟨.builtin .len,args,dI⟩=>Qt T G σ o args.toList dI.toList k| .call ⟨.builtin .append,args,dI⟩=>Qu T G σ o args.toList dI.toList k| .call ⟨.builtin .copy,args,dI⟩=>Qv T G σ o args.toList dI.toList k| .call ⟨.builtin .clear,args,dI⟩=>Qw T G σ o args.toList dI.toList k| .call ⟨.builtin .max,args,_⟩=>K8 T G σ o true args.toList k| .call ⟨.builtin .min,args,_⟩=>K8 T G σ o false args.toList k|_=>sT T G σ o k
variable{T:cg}{G:dt}{σ:aK}{o:Oper}{k:aK->Option β}{b:β}
def wB(h:sT T G σ o k=some b):∃aV,g4 T G σ o=some aV/\k aV=some b:=by
 unfold sT at h;split at h;.exact⟨_,by assumption,h⟩
 cases h
def mZ{r:aS}(h:eX T (ch G σ.aM) o.op=some r)(ak:k (σ.put o.dst r)=some b):∃aV,g4 T G σ o=some aV/\k aV=some b:=⟨_,by unfold g4;rw[h],ak⟩
def mz{r:aS}(ar:eX T (ch G σ.aM) o.op=none)(h:dF T (ch G σ.aM) σ.objs o.op=some r)(ak:k (σ.put o.dst r)=some b):∃aV,g4 T G σ o=some aV/\k aV=some b:=⟨_,by unfold g4;rw[ar,h],ak⟩
def rm{r:aS}{cA:List (Key×cS)}(ar:eX T (ch G σ.aM) o.op=none)(ab:dF T (ch G σ.aM) σ.objs o.op=none)(h:ep T (ch G σ.aM) σ.objs (o.dst.getD 9999) o.op=some (r,cA)) (ak:mY T σ o.dst k r cA=some b):∃aV,g4 T G σ o=some aV/\k aV=some b:=⟨_,by unfold g4;rw[ar,ab];unfold hg;rw[h];rfl,by unfold mY at ak;exact ak⟩
def ajl{op:BinOp}{t:TypeId}{x y:Operand}{xV:TypeId}(aF:o.op= .binOp op t x y xV)(h:Qo T G σ o op t x y k=some b):∃aV,g4 T G σ o=some aV/\k aV=some b:=by
 unfold Qo at h;split at h
 .rename_i a c aE an;split at h
  .rename_i aG;obtain⟨v,ab,af⟩:=fx h;have X4:∀{d},pD d=true->d= .val (.slice none 0 0):=by
    intro d ay;unfold pD at ay;split at ay;.rfl
    cases ay
   unfold X2 at aG;split at aG
   case h_2=>cases aG
   rename_i aO aX bQ cO aL;have aj:c= .val (.slice none 0 0)->eX T (ch G σ.aM) o.op=none:=by intro dX;subst dX;rw[aF];simp only[eX,aE,an,vR]
   unfold XV at ab;split at ab
   .split at ab
    case isFalse=>cases ab
    rename_i aN;have aN:=X4 aN;subst aN;refine mz (r:= .d v) (aj rfl) ?_ af;rw[aF];simp only[dF,aL,an,vV,xaC,aE,mP];split at ab<;>cases ab<;>simp
   .split at ab
    case isFalse=>cases ab
    rename_i aN;have aN:=X4 aN;subst aN;refine mz (r:= .d v) (aj rfl) ?_ af;rw[aF];simp only[dF,aL,an,vV,xaC,aE,mP];split at ab<;>cases ab<;>simp
   cases ab
  split at h;.rename_i l aq;obtain⟨v,ab,af⟩:=fx h;exact mZ (by rw[aF];simp only[eX,aE,an];exact ajj aq ab) af
  obtain⟨v,ab,af⟩:=fx h;exact mZ (by rw[aF];simp only[eX,aE,an];exact aji ab) af
 exact wB h
def K9{i:iI}{off:Nat}{cs:List D}{v:D}(h:a5 (ue i.desc) i.size off cs=some v):sy i cs off=some (.d v):=by
 unfold a5 at h;unfold sy;cases ay:ue i.desc with
 |true=>
  simp only[ay]at h;simp only[xaC];split at h;.rename_i an;rw[xad an];cases h;rfl
  cases h
 |false=>simp only[ay]at h;simp[h]
def ajm{s:TypeId}{x:Operand}{f:Nat}(aF:o.op= .field s x f)(h:Qp T G σ o s x f k=some b):∃aV,g4 T G σ o=some aV/\k aV=some b:=by
 unfold Qp at h;split at h
 case h_2=>cases h
 rename_i off i ba;split at h
 .rename_i a aE;obtain⟨v,ab,af⟩:=fx h;unfold l0 at ab;split at ab
  case h_2=>cases ab
  exact mZ (by rw[aF];simp only[eX,ba,aE];exact K9 ab) af
 exact wB h
def ajn{t:TypeId}{a:Operand}(aF:o.op= .load t a)(h:Qq T G σ o t a k=some b):∃aV,g4 T G σ o=some aV/\k aV=some b:=by
 unfold Qq at h;split at h
 case h_2=>cases h
 rename_i i ah;split at h;.rename_i cs off aE;obtain⟨v,ab,af⟩:=fx h;exact mz (by rw[aF];rfl) (by rw[aF];simp only[dF,ah,aE];exact K9 ab) af
 .rename_i key cR fF off aE;split at h
  case h_2=>cases h
  rename_i br es ak;split at h
  case isFalse=>cases h
  rename_i dj;obtain⟨e,ab,af⟩:=fx h;obtain⟨v,aw,a4⟩:=fx af;exact mz (by rw[aF];rfl) (by rw[aF];simp only[dF,ah,aE,ak,dj,xaC,ab];exact K9 aw) a4
 exact wB h
def QD{n m:Nat}{i:D}(h:cj n i=some m):∃La j,i= .val (.int La j)/\0<=j/\j<n/\m=j.toNat:=by
 unfold cj at h;split at h
 case h_2=>cases h
 split at h
 case isFalse=>cases h
 rename_i an;cases h;exact⟨_,_,rfl,an.1,an.2,rfl⟩
def ajo{t:TypeId}{x fF:Operand}(aF:o.op= .indexAddr t x fF)(h:Qr T G σ o t x fF k=some b):∃aV,g4 T G σ o=some aV/\k aV=some b:=by
 unfold Qr at h;split at h
 .rename_i e s1 s2 gT aL;split at h
  case h_2=>cases h
  rename_i bh he;split at h
  case h_2=>cases h
  rename_i i ah;split at h
  .rename_i a aE;obtain⟨c,ab,af⟩:=fx h;unfold bo at ab;split at ab
   case h_2=>cases ab
   split at ab
   case isFalse=>cases ab
   rename_i aN;split at ab
   case h_2=>cases ab
   split at ab
   case isFalse=>cases ab
   rename_i ak;exact mz (by rw[aF];rfl) (by rw[aF];simp only[dF,aL,ah,he,aE,aN,ak,xaC,ab]) af
  .rename_i key aE;split at h
   case h_2=>cases h
   rename_i br es ak;split at h
   case isFalse=>cases h
   rename_i dj;obtain⟨n,ab,af⟩:=fx h;obtain⟨La,j,rfl,aW,a2,rfl⟩:=QD ab;exact mz (by rw[aF];rfl) (by rw[aF];simp only[dF,aL,ah,he,aE,aW,xaC,ak,dj,a2,and_self]) (dj▸af)
  .rename_i key br i0 len aE;split at h
   case isFalse=>cases h
   rename_i dj;obtain⟨n,ab,af⟩:=fx h;obtain⟨La,j,rfl,aW,a2,rfl⟩:=QD ab;exact mz (by rw[aF];rfl) (by rw[aF];simp only[dF,aL,ah,he,aE,aW,xaC,dj,a2,and_self]) (dj▸af)
  cases h
 .rename_i len e s1 s2 gT aL;split at h
  case h_2=>cases h
  rename_i bh he;split at h
  case h_2=>cases h
  rename_i i ah;obtain⟨n,ab,af⟩:=fx h;obtain⟨La,j,rfl,aW,a2,rfl⟩:=QD ab;split at af
  case h_2=>cases af
  rename_i r av;exact mz (by rw[aF];rfl) (by rw[aF];simp only[dF,aL,ah,he,aW,a2,and_self,xaC];exact av) af
 cases h
def ajp{t:TypeId}{x:Operand}{lo ah:Option Operand}(aF:o.op= .slice t x lo ah none)(h:Qs T G σ o t x lo ah k=some b):∃aV,g4 T G σ o=some aV/\k aV=some b:=by
 unfold Qs at h;split at h
 case h_2=>cases h
 rename_i l bO aq wC;have aq:=X1 aq;have wC:=X1 wC;split at h
 .rename_i s1 s2 gT aL;split at h
  case h_2=>cases h
  rename_i a aE;obtain⟨v,ab,af⟩:=fx h;unfold XX at ab;split at ab
  case h_2=>cases ab
  split at ab
  case h_2=>cases ab
  rename_i bz bA;split at ab
  case isFalse=>cases ab
  rename_i an;cases ab;exact mZ (by rw[aF];simp only[eX,aL,aE,aq,wC,K2,bz,bA];rw[xad an]) af
 .rename_i e s1 s2 gT aL;split at h
  case h_2=>cases h
  rename_i bh he;split at h
  .rename_i a aE;obtain⟨v,ab,af⟩:=fx h;unfold rk at ab;split at ab
   case h_2=>cases ab
   split at ab
   case h_2=>cases ab
   rename_i bz bA;split at ab
   case isFalse=>cases ab
   rename_i an;cases ab;exact mz (by rw[aF];simp only[eX,aL]) (by rw[aF];simp only[dF,aL,he,aE,ki,aq,wC,K2,bz,bA];rw[xad ⟨an.1,an.2.1⟩,xad an.2.2]) af
  .rename_i key aE;split at h
   case h_2=>cases h
   rename_i br es ak;split at h
   case isFalse=>cases h
   rename_i dj;obtain⟨p,ab,af⟩:=fx h;unfold pE at ab;split at ab
   case h_2=>cases ab
   rename_i bz bA;split at ab
   case isFalse=>cases ab
   rename_i an;cases ab;exact mz (by rw[aF];simp only[eX,aL]) (by rw[aF];simp only[dF,aL,he,aE,ki,ak,aq,wC,K2,bz,bA];rw[xad an,xad dj]) af
  .rename_i key br i0 len aE;split at h
   case isFalse=>cases h
   rename_i dj;obtain⟨p,ab,af⟩:=fx h;unfold pE at ab;split at ab
   case h_2=>cases ab
   rename_i bz bA;split at ab
   case isFalse=>cases ab
   rename_i an;cases ab;exact mz (by rw[aF];simp only[eX,aL]) (by rw[aF];simp only[dF,aL,he,aE,ki,aq,wC,K2,bz,bA];rw[xad an,xad dj]) af
  cases h
 exact wB h
def ajq{args:Array Operand}{dI:Array TypeId}(aF:o.op= .call ⟨.builtin .len,args,dI⟩)(h:Qt T G σ o args.toList dI.toList k=some b):∃aV,g4 T G σ o=some aV/\k aV=some b:=by
 unfold Qt at h;split at h
 case h_2=>cases h
 rename_i t x aO aX;have aT:eX T (ch G σ.aM) o.op=none:=by rw[aF];rfl
 split at h
 .rename_i a aE;split at h;.rename_i s1 s2 gT aL;obtain⟨v,ab,af⟩:=fx h;unfold nZ at ab;split at ab<;>cases ab;exact mz aT (by rw[aF];simp only[dF,aO,aX,aL,aE]) af
  .rename_i e s1 s2 gT aL;obtain⟨v,ab,af⟩:=fx h;unfold bD at ab;split at ab<;>cases ab;.exact mz aT (by rw[aF];simp only[dF,aO,aX,aL,aE,ki]) af
   exact mz aT (by rw[aF];simp only[dF,aO,aX,aL,aE,ki]) af
  .rename_i bz bA s1 s2 gT aL;obtain⟨v,ab,af⟩:=fx h;unfold XY at ab;split at ab<;>cases ab;.exact mz aT (by rw[aF];simp only[dF,aO,aX,aL,aE]) af
   exact mz aT (by rw[aF];simp only[dF,aO,aX,aL,aE]) af
  cases h
 exact wB h
theorem X5{a:D}{p:Nat×List (List D)}(h:k4 a=some p)(objs:cG):mm objs (.d a)=some p:=by unfold k4 at h;split at h<;>cases h<;>rfl
def ajr{args:Array Operand}{dI:Array TypeId}(aF:o.op= .call ⟨.builtin .append,args,dI⟩)(h:Qu T G σ o args.toList dI.toList k=some b):∃aV,g4 T G σ o=some aV/\k aV=some b:=by
 unfold Qu at h;split at h
 case h_2=>cases h
 rename_i t t' s x aO aX;split at h
 case h_2=>cases h
 rename_i e s1 s2 gT dv az8 az9 aAa aL uk ay;split at h
 case h_2=>cases h
 rename_i bh he;have aT:eX T (ch G σ.aM) o.op=none:=by rw[aF];rfl
 have hm:dF T (ch G σ.aM) σ.objs o.op=none:=by rw[aF];rfl
 have key:∀p:Nat×List (List D),mm σ.objs (ch G σ.aM x)=some p->aD (decide (p.1=bh.size\/p.2=[])&&decide (0<bh.size)) (match ch G σ.aM s with
     | .d a=>aD (pD a&&dc p.2.length bh.bytes) (mY T σ o.dst k (.row (o.dst.getD 9999)) [(o.dst.getD 9999,.row bh.size p.2)])
     | .row key=>match σ.objs key with
      |some (.row br es)=>if br=bh.size/\key<10000 then aD (dc (es.length+p.2.length) bh.bytes) (mY T σ o.dst k (.row (o.dst.getD 9999)) [(key,.dead),(o.dst.getD 9999,.row br (es++p.2))])else none
      |_=>none
     |_=>none)=some b->∃aV,g4 T G σ o=some aV/\k aV=some b:=by
  rintro⟨cR,xs⟩ e9 h;obtain⟨ar,h⟩:=lE h;simp only[xam,xaE]at ar;split at h
  .rename_i a aE;obtain⟨ab,h⟩:=lE h;simp only[xam,dc,xaE]at ab;have aN:a= .val (.slice none 0 0):=by
    have:=ab.1;unfold pD at this;split at this;.rfl
    cases this
   have af:=ab.2;clear ab;refine rm aT hm ?_ h;rw[aF];simp only[ep,aO,aX,aL,uk,ay,he,e9,aE,aN];rw[xad ar,xad af]
  .rename_i key aE;split at h
   case h_2=>cases h
   rename_i br es ak;split at h
   case isFalse=>cases h
   rename_i dj;obtain⟨ab,h⟩:=lE h;simp only[xam,dc,xaE]at ab;refine rm aT hm ?_ h;rw[aF];simp only[ep,aO,aX,aL,uk,ay,he,e9,aE,ak];rw[xad ar,xad ⟨dj.1,ab.1,ab.2,dj.2⟩]
  .cases h
 simp only at h;split at h;.rename_i a aE;obtain⟨p,ab,af⟩:=fx h;exact key p (by rw[aE];exact X5 ab _) af
 .rename_i ajs br i len aE;split at h
  case h_2=>cases h
  rename_i pF es ak;split at h
  case isFalse=>cases h
  rename_i dj;obtain⟨ab,af⟩:=lE h;have e9:mm σ.objs (ch G σ.aM x)=some (br,(es.drop i).take len):=by rw[aE];simp only[mm,ak];rw[xad ⟨dj,xba ab⟩]
  exact key (br,(es.drop i).take len) e9 af
 split at h
 case h_2=>cases h
 rename_i p aT;exact key p aT h
def ajt{args:Array Operand}{dI:Array TypeId}(aF:o.op= .call ⟨.builtin .clear,args,dI⟩)(h:Qw T G σ o args.toList dI.toList k=some b):∃aV,g4 T G σ o=some aV/\k aV=some b:=by
 unfold Qw at h;split at h
 case h_2=>cases h
 rename_i t s aO aX;split at h
 case h_2=>cases h
 rename_i e s1 s2 gT aL;split at h
 case h_2=>cases h
 rename_i bh he;have aT:eX T (ch G σ.aM) o.op=none:=by rw[aF];rfl
 have hm:dF T (ch G σ.aM) σ.objs o.op=none:=by rw[aF];rfl
 split at h
 case h_2=>cases h
 rename_i key br i len aE;split at h
 case h_2=>cases h
 rename_i pF es ak;split at h
 case isFalse=>cases h
 rename_i dj;obtain⟨ar,h⟩:=lE h;simp only[xaE]at ar;refine rm aT hm ?_ h;rw[aF];simp only[ep,aO,aX,aL,he,aE,ak];rw[xad ⟨dj.1,dj.2.1,ar,dj.2.2⟩]
def aju{args:Array Operand}{dI:Array TypeId}(aF:o.op= .call ⟨.builtin .copy,args,dI⟩)(h:Qv T G σ o args.toList dI.toList k=some b):∃aV,g4 T G σ o=some aV/\k aV=some b:=by
 unfold Qv at h;split at h
 case h_2=>cases h
 rename_i t t' s x aO aX;split at h
 case h_2=>cases h
 rename_i e s1 s2 gT aL;split at h
 case h_2=>cases h
 rename_i bh he;have aT:eX T (ch G σ.aM) o.op=none:=by rw[aF];rfl
 have hm:dF T (ch G σ.aM) σ.objs o.op=none:=by rw[aF];rfl
 have key:∀p:Nat×List (List D),mm σ.objs (ch G σ.aM x)=some p->aD (decide (p.1=bh.size\/p.2=[])) (match ch G σ.aM s with
     | .row key=>match σ.objs key with
      |some (.row br es)=>if br=bh.size then mY T σ o.dst k (.d (.val (.int .i64 (min p.2.length es.length:Nat)))) [(key,.row br (p.2.take (min p.2.length es.length)++es.drop (min p.2.length es.length)))]else none
      |_=>none
     | .sub key br i len=>match σ.objs key with
      |some (.row pF es)=>if br=bh.size/\pF=br then aD (decide (i+len<=es.length)) (mY T σ o.dst k (.d (.val (.int .i64 (min p.2.length len:Nat)))) [(key,.row br (es.take i++p.2.take (min p.2.length len)++es.drop (i+min p.2.length len)))])else none
      |_=>none
     |_=>none)=some b->∃aV,g4 T G σ o=some aV/\k aV=some b:=by
  rintro⟨cR,xs⟩ e9 h;obtain⟨ar,h⟩:=lE h;simp only[xaE]at ar;split at h
  .rename_i key aE;split at h
   case h_2=>cases h
   rename_i br es ak;split at h
   case isFalse=>cases h
   rename_i dj;refine rm aT hm ?_ h;rw[aF];simp only[ep,aO,aX,aL,he,e9,aE,ak];rw[xad ar,xad dj]
  .rename_i key br i len aE;split at h
   case h_2=>cases h
   rename_i pF es ak;split at h
   case isFalse=>cases h
   rename_i dj;obtain⟨ab,h⟩:=lE h;simp only[xaE]at ab;refine rm aT hm ?_ h;rw[aF];simp only[ep,aO,aX,aL,he,e9,aE,ak];rw[xad ar,xad ⟨dj.1,dj.2,ab⟩]
  .cases h
 simp only at h;split at h;.rename_i a aE;obtain⟨p,ab,af⟩:=fx h;exact key p (by rw[aE];exact X5 ab _) af
 .rename_i ajs br i len aE;split at h
  case h_2=>cases h
  rename_i pF es ak;split at h
  case isFalse=>cases h
  rename_i dj;obtain⟨ab,af⟩:=lE h;have e9:mm σ.objs (ch G σ.aM x)=some (br,(es.drop i).take len):=by rw[aE];simp only[mm,ak];rw[xad ⟨dj,xba ab⟩]
  exact key (br,(es.drop i).take len) e9 af
 split at h
 case h_2=>cases h
 rename_i p aT;exact key p aT h
def X6{h9 bh:iI}{t il hb:TypeId}{s1 s2:Nat}{gT:Value}(aL:T t=some ⟨.map il hb,s1,s2,gT⟩)(ab:T il=some h9)(af:T hb=some bh)(ak:vU h9.desc=true){ok:Bool}{es:List (Value×D)}{fh v:D} (h:j3 h9.desc bh.zero ok es fh=some v):∃u,fh= .val u/\xX T t es u ok=some (.d v):=by
 unfold j3 at h;split at h
 case h_2=>cases h
 rename_i u;refine⟨u,rfl,?_⟩;unfold xX;simp only[aL,ab,af,ak,xaC];split at h;.rename_i x ag;cases h;simp only[ag]
 .rename_i ag;cases h;simp only[ag]
 cases h
def ajv{t:TypeId}{x i:Operand}{ok:Bool}(aF:o.op= .lookup t x i ok)(h:Qx T G σ o t x i ok k=some b):∃aV,g4 T G σ o=some aV/\k aV=some b:=by
 unfold Qx at h;split at h
 case h_2=>cases h
 rename_i il hb s1 s2 gT aL;split at h
 case h_2=>cases h
 rename_i h9 bh ab af;split at h
 case isFalse=>cases h
 rename_i ak;split at h
 case h_2=>cases h
 rename_i fh Kb;split at h;.rename_i m hm;obtain⟨es,aW,a2⟩:=fx h;obtain⟨v,bb,cX⟩:=fx a2;obtain⟨u,rfl,iD⟩:=X6 aL ab af ak bb;refine mz (by rw[aF];rfl) ?_ cX;rw[aF];simp only[dF,Kb,hm];unfold lG at aW;split at aW<;>cases aW<;>exact iD
 .rename_i key hm;split at h
  case h_2=>cases h
  rename_i es mA;obtain⟨v,bb,cX⟩:=fx h;obtain⟨u,rfl,iD⟩:=X6 aL ab af ak bb;refine mz (by rw[aF];rfl) ?_ cX;rw[aF];simp only[dF,Kb,hm,mA,iD]
 cases h
def X7{t:TypeId}{m i x:Operand}(aF:o.op= .mapUpdate t m i x\/o.op= .insert t m i x)(h:K7 T G σ o t m i x k=some b):∃aV,g4 T G σ o=some aV/\k aV=some b:=by
 unfold K7 at h;split at h
 case h_2=>cases h
 rename_i il hb s1 s2 gT aL;split at h
 case h_2=>cases h
 rename_i h9 ab;split at h
 case isFalse=>cases h
 rename_i ak;split at h
 case h_2=>cases h
 rename_i key fh v aO aX bQ;split at h
 case h_2=>cases h
 rename_i es mA;obtain⟨l,aW,a2⟩:=fx h;unfold nr at aW;split at aW
 case h_2=>cases aW
 rcases aF with aF|aF<;>
 .refine rm (by rw[aF];rfl) (by rw[aF];rfl) ?_ a2;rw[aF];simp only[ep,aL,ab,ak,xaC,aO,aX,bQ,mA,aW]
def ajw{t:TypeId}{a x:Operand}(aF:o.op= .store t a x)(h:Qy T G σ o t a x k=some b):∃aV,g4 T G σ o=some aV/\k aV=some b:=by
 unfold Qy at h;split at h
 case h_2=>cases h
 rename_i i ah;obtain⟨cs,ab,af⟩:=K3 h;split at af
 case isFalse=>cases af
 rename_i aq;split at af
 .rename_i key off aE;split at af
  case h_2=>cases af
  rename_i cells ak;split at af
  case isFalse=>cases af
  rename_i an;refine rm (by rw[aF];rfl) (by rw[aF];rfl) ?_ af;rw[aF];simp only[ep,ah,ab,aE,ak];rw[xad aq,xad an]
 .rename_i key cR fF off aE;split at af
  case h_2=>cases af
  rename_i br es aQ ak eY;split at af
  case isFalse=>cases af
  rename_i an;obtain⟨e,aW,a2⟩:=fx af;refine rm (by rw[aF];rfl) (by rw[aF];rfl) ?_ a2;rw[aF];simp only[ep,ah,ab,aE,ak,eY,aW];rw[xad aq,xad an]
 cases af
def ajx{t:TypeId}{parts:Array (Nat×Operand)}(aF:o.op= .build t parts)(h:Qz T G σ o t parts k=some b):∃aV,g4 T G σ o=some aV/\k aV=some b:=by
 unfold Qz at h;split at h
 case h_2=>cases h
 rename_i pl z aj;obtain⟨cs,ab,af⟩:=XZ h;exact mZ (by rw[aF];simp only[eX,J6,aj,ab]) af
def ajy{t:TypeId}{n:Nat}{parts:Array (Nat×Operand)}(aF:o.op= .buildSlice t n parts)(h:QA T G σ o t n parts k=some b):∃aV,g4 T G σ o=some aV/\k aV=some b:=by
 unfold QA at h;split at h
 case h_2=>cases h
 rename_i e s1 s2 gT aL ay;split at h
 case h_2=>cases h
 rename_i bh he;obtain⟨es,ab,af⟩:=X0 h;split at af
 case isFalse=>cases af
 rename_i an;refine rm (by rw[aF];rfl) (by rw[aF];rfl) ?_ af;rw[aF];simp only[ep,aL,ay,he,ab];rw[xad an]
def ajz{t:TypeId}{l c:Operand}(aF:o.op= .makeSlice t l c)(h:QB T G σ o t l c k=some b):∃aV,g4 T G σ o=some aV/\k aV=some b:=by
 unfold QB at h;split at h
 case h_2=>cases h
 rename_i e s1 s2 gT aL ay;split at h
 case h_2=>cases h
 rename_i bh he;split at h
 case h_2=>cases h
 rename_i sx jf aq an;split at h
 case isFalse=>cases h
 rename_i bn;obtain⟨n,ab,af⟩:=fx h;unfold rl at ab;split at ab
 case h_2=>cases ab
 split at ab
 case isFalse=>cases ab
 rename_i ml;cases ab;refine rm (by rw[aF];rfl) (by rw[aF];rfl) ?_ af;rw[aF];simp only[ep,aL,ay,he,aq,an];rw[xad ⟨ml.1,ml.2.1,ml.2.2.1,ml.2.2.2,bn⟩]
def ajA{s t:TypeId}{x:Operand}(aF:o.op= .convert s t x)(h:QC T G σ o s t x k=some b):∃aV,g4 T G σ o=some aV/\k aV=some b:=by
 unfold QC at h;split at h;.rename_i q i s1 s2 gT a aG aL ag;obtain⟨v,ab,af⟩:=fx h;unfold kn at ab;split at ab<;>cases ab;exact mZ (by rw[aF];simp only[eX,aG,aL,ag]) af
 .rename_i q s1 s2 gT a aG aL ag;obtain⟨v,ab,af⟩:=fx h;unfold XW at ab;split at ab<;>cases ab;exact mZ (by rw[aF];simp only[eX,aG,aL,ag]) af
 exact wB h
def Bv(h:uH T G σ o k=some b):∃aV,g4 T G σ o=some aV/\k aV=some b:=by
 unfold uH at h;split at h;.exact ajl (by assumption) h
 .rename_i aF;split at h
  .rename_i a aE;obtain⟨v,ab,af⟩:=fx h;unfold dk at ab;split at ab<;>cases ab;.exact mZ (by rw[aF];simp only[eX,aE]) af
   exact mZ (by rw[aF];simp only[eX,aE]) af
  cases h
 .exact ajA (by assumption) h
 .rename_i c x y aF;split at h
  case h_2=>cases h
  rename_i jf an;split at h
  .rename_i p aT;obtain⟨aE,aj⟩:=ajk aT;obtain⟨v,ab,af⟩:=fx h;unfold bV at ab;split at ab<;>cases ab;rename_i t;refine mZ ?_ af;rw[aF];simp only[eX,an,aE,aj];split;.rename_i aO aX;simp only[aS.d.injEq]at aO aX;rw[aO,aX];cases t<;>rfl
   cases t<;>rfl
  rename_i aT;rcases XU h with⟨rfl,ab⟩|⟨rfl,ab⟩
  .exact mZ (by rw[aF];exact X3 an aT) ab
  exact mZ (by rw[aF];exact X3 an aT) ab
 .exact ajm (by assumption) h
 .rename_i x i aF;split at h
  .rename_i a aE;obtain⟨v,ab,af⟩:=fx h;unfold bs at ab;split at ab
   case h_2=>cases ab
   exact mZ (by rw[aF];simp only[eX,aE,ab]) af
  exact wB h
 .rename_i t x i aF;split at h
  .rename_i s1 s2 gT aL;split at h
   case h_2=>cases h
   rename_i a c aE an;obtain⟨v,ab,af⟩:=fx h;unfold nY at ab;split at ab
   case h_2=>cases ab
   exact mZ (by rw[aF];simp only[eX,aL,aE,an];exact yn ab) af
  .rename_i len e s1 s2 gT aL;split at h
   case h_2=>cases h
   rename_i bh iJ;split at h
   case h_2=>cases h
   rename_i a c aE an;obtain⟨n,aW,h⟩:=fx h;obtain⟨v,ab,af⟩:=fx h;unfold cj at aW;split at aW
   case h_2=>cases aW
   split at aW
   case isFalse=>cases aW
   rename_i aN;cases aW;unfold l0 at ab;split at ab
   case h_2=>cases ab
   exact mZ (by rw[aF];simp only[eX,aL,aE,an];rw[xad aN];simp only[iJ];exact K9 ab) af
  cases h
 .exact ajn (by assumption) h
 .exact ajo (by assumption) h
 .exact ajp (by assumption) h
 .exact ajv (by assumption) h
 .rename_i aF;exact X7 (.inl aF) h
 .rename_i aF;exact X7 (.inr aF) h
 .exact ajw (by assumption) h
 .exact ajx (by assumption) h
 .exact ajy (by assumption) h
 .exact ajz (by assumption) h
 .rename_i t x aF;split at h
  case h_2=>cases h
  rename_i i ah ay;obtain⟨cs,ab,af⟩:=K3 h;exact rm (by rw[aF];rfl) (by rw[aF];rfl) (by rw[aF];simp only[ep,ab,ay]) af
 .exact ajq (by assumption) h
 .exact ajr (by assumption) h
 .exact aju (by assumption) h
 .exact ajt (by assumption) h
 .rename_i args dI aF;unfold K8 at h;split at h
  case h_2=>cases h
  rename_i aQ eY;obtain⟨v,ab,af⟩:=fx h;exact mZ (by rw[aF];simp only[eX,AX eY];exact yn ab) af
 .rename_i args dI aF;unfold K8 at h;split at h
  case h_2=>cases h
  rename_i aQ eY;obtain⟨v,ab,af⟩:=fx h;exact mZ (by rw[aF];simp only[eX,AX eY];exact yn ab) af
 exact wB h
end
section
variable{β:Type}
abbrev l2:=Tmp->FuncId->List D->Option D
def Fb(G:dt)(C:l2)(σ:aK)(o:Oper)(x:Operand)(args:List Operand)(k:aK->Option β):Option β:=match wb (ch G σ.aM x)with
 |some (f,pre,post)=>match hC ((pre++args.map (ch G σ.aM)++post).map (toD σ.objs))with|some aQ=>aa (C (o.dst.getD 9999) f aQ) λr=>aD ((pre++args.map (ch G σ.aM)++post).all sL||r.flat) (k (σ.put o.dst (.d r)))|none=>none
 |none=>none
def QE:D->Option (FuncId×List D)
 | .fn (.func f) [] oM=>some (f,oM)| .val (.func (.func f) a b)=>if a.size=0/\b.size=0 then some (f,[])else none
 |_=>none
def Fc(f:FuncId)(aQ:List D):List (FuncId×(List D->Option D))->Option D
 |[]=>none|(g,F)::r=>if f=g then F aQ else Fc f aQ r
def Bw(l:List (FuncId×(List D->Option D)))(v:D)(aQ:List D):Option D:=aa (QE v) λp=>Fc p.1 (aQ++p.2) l
def X8(t:Tmp):List (Nat×List FuncId)->List FuncId
 |[]=>[]|(d,l)::r=>if t=d then l else X8 t r
def QF(l:List FuncId)(G:dt)(C:l2)(σ:aK)(o:Oper)(x:Operand)(args:List Operand)(k:aK->Option β):Option β:=match ch G σ.aM x,hC ((args.map (ch G σ.aM)).map (toD σ.objs))with| .d v,some aQ=>aa (Bw (l.map λg=>(g,C (o.dst.getD 9999) g)) v aQ) λr=>aD ((args.map (ch G σ.aM)).all sL||r.flat) (k (σ.put o.dst (.d r)))|_,_=>none
def yp(T:cg)(G:dt)(C:l2)(σ:aK)(o:Oper)(x:Operand)(args:List Operand)(k:aK->Option β):Option β:=match X8 (o.dst.getD 9999) T.dyn with|[]=>Fb G C σ o x args k|g::l=>QF (g::l) G C σ o x args k
def sU(T:cg)(G:dt)(C:l2)(σ:aK)(o:Oper)(k:aK->Option β):Option β:=match o.op with| .call ⟨.value x,args,_⟩=>yp T G C σ o x args.toList k|_=>uH T G σ o k
def sV(T:cg)(G:dt)(C:l2):List Oper->aK->(aK->Option β)->Option β
 |[],σ,k=>k σ|o::r,σ,k=>sU T G C σ o λaV=>sV T G C r aV k
def wD:List Oper->List (Option (Nat×Bool)×List Oper)
 |[]=>[]
 |o::r=>match wD r with
  |(g,os)::rest=>if g=o.guard then(g,o::os)::rest else(o.guard,[o])::(g,os)::rest
  |[]=>[(o.guard,[o])]
def bL(x:D)(want:Bool)(p:Option D):Option D:=match x with
 | .val (.bool b)=>if b=want then p else some lF
 | .val (.tuple _)=>some lF|_=>none
def wE{dY:Type}(x:D)(want:Bool)(p q:Option dY):Option dY:=match x with
 | .val (.bool b)=>if b=want then p else q
 | .val (.tuple _)=>q|_=>none
def QG:List Oper->aK->aK
 |[],σ=>σ|o::r,σ=>QG r (σ.put o.dst (.d lF))
def wF:List Oper->Option Tmp
 |[]=>none|[o]=>o.dst|_::r=>wF r
def dstsOf(os:List Oper):List Tmp:=os.filterMap (·.dst)
def still(o:Oper):Bool:=iL o.op||jg o.op||hE o.op
def wG(ts:List Tmp)(v:D)(σ:aK):aK:=⟨λt=>if t∈ts then .d (ad v (ts.idxOf t))else σ.aM t,σ.objs⟩
def Fe(σ:aK):List Tmp->Option (List D)
 |[]=>some []|t::r=>match σ.aM t,Fe σ r with| .d v,some l=>some (v::l)|_,_=>none
def kept(all:Array Oper)(os l:List Oper):List Tmp:=(dstsOf os).filter λt=>l.any λo=>(o.looksAt all).contains t
def X9{σ:aK}:∀{ts:List Tmp}{l:List D},Fe σ ts=some l->l.length=ts.length/\∀(i:Nat)(t:Tmp),ts[i]?=some t->∃v,l[i]?=some v/\σ.aM t= .d v
 |[],l,h=>by cases h;exact⟨rfl,λi t h=>by simp at h⟩
 |t::r,l,h=>by
  unfold Fe at h;split at h
  case h_2=>cases h
  rename_i v sx a3 aq;cases h;have ih:=X9 aq;refine⟨by simp[ih.1],λi u hu=>?_⟩;cases i with|zero=>simp at hu;subst hu;exact⟨v,rfl,a3⟩|succ i=>exact ih.2 i u (by simpa using hu)
def ajB{σ:aK}{ts:List Tmp}{l:List D}(h:Fe σ ts=some l){t:Tmp}(aL:t∈ts):σ.aM t= .d (ad (.agg l) (ts.idxOf t)):=by
 have ab:ts[ts.idxOf t]?=some t:=by have:=List.idxOf_lt_length_of_mem aL;rw[xaa this,List.getElem_idxOf]
 obtain⟨v,af,aw⟩:=(X9 h).2 _ t ab;rw[aw]
 congr 1
 show v=l.getD _ _;simp[List.getD,af]
def l3(aQ:List Tmp)(σ:aK):aK:=⟨λt=>if t∈aQ then .any else σ.aM t,σ.objs⟩
def blind(all:Array Oper)(aQ:List Tmp)(l:List Oper):Bool:=l.all λo=>aQ.all λd=>!(o.looksAt all).contains d&&o.dst !=some d
def Ya(all:Array Oper)(d cb:Tmp)(os l:List Oper):Bool:=os.all (λo=>still o&&o.dst !=some d)&&blind all ((dstsOf os).filter (·!=cb)) l
def flat(gs:List (Option (Nat×Bool)×List Oper)):List Oper:=gs.flatMap (·.2)
def yq(T:cg)(G:dt)(C:l2)(all:Array Oper):List (Option (Nat×Bool)×List Oper)->aK->(aK->Option β)->Option β
 |[],σ,k=>k σ|(none,os)::r,σ,k=>sV T G C os σ λaV=>yq T G C all r aV k
 |(some (j,want),os)::r,σ,k=>match(all[j]?).bind (·.dst),wF os with
  |some d,some cb=>match σ.aM d with
   | .d x=>if Ya all d cb os (flat r)=true then
     aa (bL x want (sV T G C os σ λaV=>match aV.aM cb with| .d v=>some v|_=>none)) λv=>yq T G C all r ((l3 (dstsOf os) σ).put (some cb) (.d v)) k
    else if os.all (λo=>o.dst !=some d)=true then wE x want (sV T G C os σ λaV=>yq T G C all r aV k) (yq T G C all r (QG os σ) k)else none
   |_=>none
  |_,_=>none
def Yb(T:cg)(G:dt)(C:l2)(all:Array Oper)(σ:aK)(k:aK->Option β):Option β:=yq T G C all (wD all.toList) σ k
def Yc:Op->Bool
 | .store _ _ _=>true|_=>false
def QH(all:Array Oper)(listed:Array Bool)(i:Nat):Bool:=match all[i]? with|none=>false|some fw=>((waits all i).all λj=>!listed.getD j true&&match all[j]? with|some c7=>c7.after.any λe=>Region.binds .any e&&(e.on==i||(waits all i).contains e.on)|none=>false)&&(List.range all.size).all λj=>j==i||listed.getD j true||(waits all i).contains j||match all[j]? with|some c7=>fw.apart all c7&&!Yc c7.op|none=>true
def Yd(all:Array Oper)(listed:Array Bool)(i:Nat)(σ:aK)(o:Oper):Bool:=match o.op with
 | .load _ (.tmp a)=>match σ.aM a with| .ptr _ _=>QH all listed i|_=>false
 |_=>false
def yr(all:Array Oper)(listed:Array Bool)(i:Nat):List Oper:=(List.range all.size).filterMap λj=>if j==i||listed.getD j true||(waits all i).contains j then none else all[j]?
def QI(all:Array Oper)(listed:Array Bool)(i:Nat)(aM:Nat->aS)(o:Oper):Bool:=((waits all i).all λj=>!listed.getD j true&&match all[j]? with|some c7=>c7.after.any λe=>Region.binds .any e&&(e.on==i||(waits all i).contains e.on)|none=>false)&&(yr all listed i).all λy=>o.apart all y&&sQ aM o y&&(mW o.op++(yr all listed i).flatMap λy=>uG y.op).all λt=>y.dst !=some t
def Bx(T:cg)(G:dt)(C:l2)(all:Array Oper):List Nat->Array Bool->aK->(aK->Option β)->Option β
 |[],listed,σ,k=>if(Region.ready .any all listed).isEmpty=true then k σ else none
 |i::r,listed,σ,k=>match all[i]? with
  |some o=>if o.guard=none/\(Region.ready .any all listed).contains i=true/\(ah3 all listed i||Yd all listed i σ o||QI all listed i σ.aM o||Xp T all listed i)=true then sU T G C σ o λaV=>Bx T G C all r (listed.setIfInBounds i true) aV k else none
  |none=>none
def ht(P:Program)(G:dt)(C:l2):Prop:=∀d f aQ r,C d f aQ=some r->er P G f aQ (·=r)
def wH:∀l:List Oper,flat (wD l)=l
 |[]=>rfl
 |o::r=>by
  have ih:=wH r;unfold wD;split;.rename_i g os rest b5;rw[b5]at ih;split<;>simp_all [flat]
  rename_i b5;rw[b5]at ih;simp[flat]at ih;subst ih;rfl
def Lb:∀(l:List Oper)(g:Option (Nat×Bool)) (os:List Oper),(g,os)∈wD l->∀o∈os,o.guard=g
 |[],g,os,h=>by cases h
 |o::r,g,os,h=>by
  have ih:=Lb r;unfold wD at h;split at h
  .rename_i lC ajC rest b5;split at h
   .rename_i he;rcases xal.1 h with ab|ab
    .cases ab;intro q bj;rcases xal.1 bj with rfl|bj
     .exact he.symm
     exact ih g ajC (by rw[b5];simp) q bj
    exact ih g os (by rw[b5];simp[ab])
   rcases xal.1 h with ab|ab;.cases ab;intro q bj;simp at bj;subst bj;rfl
   exact ih g os (by rw[b5];exact ab)
  simp at h;obtain⟨rfl,rfl⟩:=h;intro q bj;simp at bj;subst bj;rfl
variable{P:Program}{T:cg}{G:dt}{C:l2}{σ:aK}{all:Array Oper}
def Ye{α:Type}:∀{a b:List (Option α)} {x y:List α},hC a=some x->hC b=some y->hC (a++b)=some (x++y)
 |[],b,x,y,h,bx=>by cases h;exact bx
 |none::a,b,x,y,h,bx=>by cases h
 |some c::a,b,x,y,h,bx=>by
  simp only[hC,xcg]at h⊢;split at h
  case h_2=>cases h
  rename_i z ab;cases h;rw[Ye ab bx];rfl
def Yf{objs:cG}:∀(l:List D),hC ((l.map aS.d).map (toD objs))=some l
 |[]=>rfl|c::r=>by have:=Yf (objs:=objs) r;have e:toD objs (aS.d c)=some c:=rfl;simp only[xaz,e,hC];rw[this]
def Yg{f:FuncId}{aQ:List D}{C:FuncId->List D->Option D}{r:D}:∀{l:List FuncId},Fc f aQ (l.map λg=>(g,C g))=some r->C f aQ=some r
 |[],h=>by cases h
 |g::l,h=>by
  simp only[xaz,Fc]at h;split at h;.rename_i e;rw[e];exact h
  exact Yg h
def ajD{l:List FuncId}{o:Oper}{x:Operand}{args:List Operand}{k:aK->Option β}{b:β}(h:QF l G C σ o x args k=some b):Fb G C σ o x args k=some b:=by
 unfold QF at h;split at h
 case h_2=>cases h
 rename_i v aQ a3 eY;obtain⟨r,ab,af⟩:=fx h;obtain⟨p,aw,a4⟩:=fx ab;have b6:=Yg (C:=C (o.dst.getD 9999)) a4;obtain⟨f,oM⟩:=p;have g0:wb (.d v)=some (f,[],oM.map .d):=by
  unfold QE at aw;split at aw;.cases aw;rfl
  .split at aw;.rename_i gR;cases aw;simp only[wb,xad gR,xbn]
   cases aw
  cases aw
 unfold Fb;rw[a3,g0];simp only[xaK,List.map_append];rw[Ye eY (Yf oM)];simp only;rw[b6];obtain⟨aW,a2⟩:=lE af;have gw:((args.map (ch G σ.aM))++oM.map aS.d).all sL=(args.map (ch G σ.aM)).all sL:=by
  rw[List.all_append];have:(oM.map aS.d).all sL=true:=by rw[xaA];intro y aJ;obtain⟨c,_,rfl⟩:=xap.1 aJ;rfl
  rw[this,xbu]
 rw[gw];exact af
def ajE{o:Oper}{x:Operand}{args:List Operand}{k:aK->Option β}{b:β}(h:yp T G C σ o x args k=some b):Fb G C σ o x args k=some b:=by
 unfold yp at h;split at h;.exact h
 exact ajD h
def Lc(cf:ht P G C){dT:cg}{o:Oper}{x:Operand}{args:Array Operand}{dI:Array TypeId}(aF:o.op= .call ⟨.value x,args,dI⟩){k:aK->Option β}{b:β}(h:yp dT G C σ o x args.toList k=some b):dh P T G o (λaV=>k aV=some b/\aV.objs=σ.objs/\∀t,o.dst≠some t->aV.aM t=σ.aM t) σ:=by
 have eM:hE o.op=true:=by rw[aF];rfl
 rw[nT (ux eM)]
 replace h:=ajE h
 unfold Fb at h;unfold jJ;rw[aF];simp only;split at h
 case h_2=>cases h
 rename_i f pre post g0;simp only[g0];split at h
 case h_2=>cases h
 rename_i aQ eY;obtain⟨r,ab,af⟩:=fx h;obtain⟨af,aw⟩:=lE af;refine⟨aQ,aQ,(·=r),eY,q7.refl _,cf _ _ _ _ ab,⟨r,rfl⟩,?_,?_⟩
 .rcases xbA.1 af with af|af;.exact .inr af
  exact .inl (by rintro _ rfl;exact af)
 rintro _ rfl;refine⟨aw,by simp,?_⟩;intro t aL;cases ay:o.dst with|none=>rfl|some d=>rw[ay]at aL;simp only[aK.put];exact cZ _ _ (λe=>aL (by rw[e]))
def Yh(cf:ht P G C){o:Oper}{k:aK->Option β}{b:β}(h:sU T G C σ o k=some b):dh P T G o (λaV=>k aV=some b) σ:=by
 unfold sU at h;split at h;.exact qn (λ_ h=>h.1) (Lc cf (by assumption) h)
 obtain⟨aV,ab,af⟩:=Bv h;unfold dh;rw[ab];exact af
def rn{dst:Option Tmp}{r:aS}{t:Tmp}(aL:dst≠some t):(σ.put dst r).aM t=σ.aM t:=by cases dst with|none=>rfl|some d=>simp only[aK.put];exact cZ _ _ (λe=>aL (by rw[e]))
def Yi(cf:ht P G C){o:Oper}(aG:still o=true){k:aK->Option β}{b:β}(h:sU T G C σ o k=some b):dh P T G o (λaV=>k aV=some b/\aV.objs=σ.objs/\∀t,o.dst≠some t->aV.aM t=σ.aM t) σ:=by
 unfold sU at h;split at h;.exact Lc cf (by assumption) h
 rename_i Yj;obtain⟨aV,ab,af⟩:=Bv h;unfold dh;rw[ab];have ajF:hg T (ch G σ.aM) σ.objs (o.dst.getD 9999) o.op=none:=by
  unfold still at aG;simp only[xbf]at aG;rcases aG with(aG|aG)|aG
  .exact(Bf aG).2
  .exact Bg aG
  exact(PZ aG).2.2
 unfold g4 at ab;split at ab;.cases ab;exact⟨af,by simp,λt aL=>rn aL⟩
 split at ab;.cases ab;exact⟨af,by simp,λt aL=>rn aL⟩
 rw[ajF]at ab;cases ab
def m0{l:List Oper}:∀{σ:aK}{K K':aK->Prop},(∀σ,K σ->K' σ)->fY P T G all l K σ->fY P T G all l K' σ:=by
 induction l with
 |nil=>intro σ K K' ak h;exact ak _ h
 |cons o l ih=>intro σ K K' ak h;exact EU (λaV bx=>ih ak bx) h
def QJ{l r:List Oper}:∀{σ:aK}{K:aK->Prop},fY P T G all l (fY P T G all r K) σ->fY P T G all (l++r) K σ:=by
 induction l with
 |nil=>intro σ K h;exact h
 |cons o l ih=>intro σ K h;exact EU (λaV bx=>ih bx) h
def oN(σ τ:aK):Prop:=σ.objs=τ.objs/\∀t,τ.aM t= .any\/σ.aM t=τ.aM t
theorem oN.refl(σ:aK):oN σ σ:=⟨rfl,λ_=> .inr rfl⟩
def oN.trans{σ τ yg:aK}(h:oN σ τ)(bx:oN τ yg):oN σ yg:=by
 refine⟨h.1.trans bx.1,λt=>?_⟩;rcases bx.2 t with af|af
 .exact .inl af
 rcases h.2 t with ab|ab;.exact .inl (af▸ab)
 exact .inr (ab.trans af)
def oN.Ff{σ τ:aK}(h:oN σ τ):g6 σ τ:=by
 obtain⟨s,o⟩:=σ;obtain⟨s',o'⟩:=τ;obtain⟨ab,af⟩:=h;simp only at ab af;subst ab;intro m fr ρ ac w c1;refine⟨m,ρ,Mem.le_refl m,⟨c1.mem,c1.frame,c1.apart,c1.one,?_,c1.objs,c1.own,c1.sep⟩,λk ak aj=>⟨aj,rfl⟩⟩;intro t;rcases af t with h|h;.simp only[h];exact .any _
 have:=c1.aM t;simp only at this⊢;rw[<-h];exact this
def Yk{d:Tmp}{r:aS}:∀{l:List Oper}{σ:aK}{K:aK->Prop},(∀o∈l,d∉o.looksAt all/\o.dst≠some d)->fY P T G all l K (σ.put (some d) r)=fY P T G all l (λaV=>K (aV.put (some d) r)) σ
 |[],σ,K,h=>rfl
 |o::l,σ,K,h=>by
  have ar:=h o (by simp);have ih:∀{σ:aK},fY P T G all l K (σ.put (some d) r)=fY P T G all l (λaV=>K (aV.put (some d) r)) σ:=Yk λo' oK=>h o' (by simp[oK]);unfold fY;rw[hL,hL,oH (by rintro _ ⟨⟩;exact ar.1)];cases hw:j1 all σ o with
  |none=>rfl
  |some w=>
   cases w with
   |true=>simp only;rw[jK (all:=all) (by rintro _ ⟨⟩;exact ar.1) (by rintro _ ⟨⟩;exact ar.2)];simp only[ih]
   |false=>simp only;rw[<-ih,put_comm (by rintro _ ⟨⟩;exact ar.2)]
def ajG{d:Tmp}{a:aS}{l:List Oper}{σ:aK}{K:aK->Prop}(ed:∀σ τ,oN σ τ->K τ->K σ)(aq:∀o∈l,d∉o.looksAt all/\o.dst≠some d)(h:fY P T G all l K (σ.put (some d) .any)):fY P T G all l K (σ.put (some d) a):=by
 rw[Yk aq]at h⊢;refine m0 (λaV bx=>ed _ _ ?_ bx) h;refine⟨rfl,λt=>?_⟩;by_cases aL:t=d;.subst aL;exact .inl (by simp[aK.put])
 exact .inr (by simp[aK.put,cZ _ _ aL])
def QK{l:List Oper}{K:aK->Prop}(ed:∀σ τ,oN σ τ->K τ->K σ):∀(aQ:List Tmp){σ τ:aK},(∀d∈aQ,∀o∈l,d∉o.looksAt all/\o.dst≠some d)->(∀t,t∉aQ->σ.aM t=τ.aM t)->(∀d∈aQ,τ.aM d= .any\/σ.aM d=τ.aM d)->σ.objs=τ.objs->fY P T G all l K τ->fY P T G all l K σ
 |[],σ,τ,_,ab,af,aw,h=>by
  have:σ=τ:=by
   cases σ;cases τ;simp only at ab aw;subst aw
   congr 1
   funext t
   exact ab t (by simp)
  rw[this];exact h
 |d::aQ,σ,τ,aj,ab,af,aw,h=>by
  by_cases ay:τ.aM d= .any
  .have e:τ=τ.put (some d) .any:=by
    cases τ;simp only[aK.put]
    congr 1
    funext t
    by_cases aL:t=d;.subst aL;simp only[fa];exact ay
    rw[cZ _ _ aL]
   rw[e]at h;have bx:=ajG (a:=σ.aM d) ed (λo aF=>aj d (by simp) o aF) h;refine QK (τ:=τ.put (some d) (σ.aM d)) ed aQ (λqq iB=>aj qq (by simp[iB])) ?_ ?_ aw bx
   .intro t aL;by_cases uI:t=d;.subst uI;simp[aK.put]
    simp only[aK.put,cZ _ _ uI];exact ab t (by simp[uI,aL])
   intro qq iB;by_cases uI:qq=d;.subst uI;simp[aK.put]
   simp only[aK.put,cZ _ _ uI];exact af qq (by simp[iB])
  refine QK ed aQ (λqq iB=>aj qq (by simp[iB])) ?_ (λqq iB=>af qq (by simp[iB])) aw h;intro t aL;by_cases uI:t=d
  .subst uI;rcases af t (by simp)with a4|a4
   .exact absurd a4 ay
   exact a4
  exact ab t (by simp[uI,aL])
def Yl(cf:ht P G C):∀{os:List Oper}{σ:aK}{k:aK->Option β}{b:β},(∀o∈os,o.guard=none)->sV T G C os σ k=some b->fY P T G all os (λaV=>k aV=some b) σ
 |[],σ,k,b,_,h=>h|o::os,σ,k,b,b5,h=>by unfold fY eB;rw[b5 o (by simp)];exact qn (λaV bx=>Yl cf (λo aF=>b5 o (by simp[aF])) bx) (Yh cf h)
def Ym(cf:ht P G C){j:Nat}{want:Bool}{d:Tmp}(ay:(all[j]?).bind (·.dst)=some d):∀{os:List Oper}{σ:aK}{k:aK->Option β}{b:β},(∀o∈os,o.guard=some (j,want))->(∀o∈os,still o=true/\o.dst≠some d)->σ.aM d= .d (.val (.bool want))->sV T G C os σ k=some b->fY P T G all os (λaV=>k aV=some b/\aV.objs=σ.objs/\∀t,t∉dstsOf os->aV.aM t=σ.aM t) σ
 |[],σ,k,b,_,_,_,h=>⟨h,rfl,λ_ _=>rfl⟩
 |o::os,σ,k,b,b5,aG,hw,h=>by
  have ar:=aG o (by simp);unfold fY eB;rw[b5 o (by simp)];simp only[ay,hw,xaC];refine qn ?_ (Yi cf ar.1 h);rintro aV ⟨ab,af,aw⟩;refine m0 ?_ (Ym cf ay (λo aF=>b5 o (by simp[aF])) (λo aF=>aG o (by simp[aF])) (by rw[aw d ar.2];exact hw) ab);rintro ri ⟨aW,a2,bb⟩;refine⟨aW,a2.trans af,?_⟩;intro t aL;have pG:t∉dstsOf os:=λan=>aL (by unfold dstsOf at an⊢;simp only[xbM];cases o.dst<;>simp[an])
  have ys:o.dst≠some t:=λan=>aL (by unfold dstsOf;simp[an]);rw[bb t pG,aw t ys]
def Fg{j:Nat}{want:Bool}{d:Tmp}(ay:(all[j]?).bind (·.dst)=some d):∀{os:List Oper}{σ:aK},(∀o∈os,o.guard=some (j,want))->(∀o∈os,o.dst≠some d)->(σ.aM d= .d (.val (.bool (!want)))\/∃vs,σ.aM d= .d (.val (.tuple vs)))->fY P T G all os (λaV=>aV.objs=σ.objs/\(∀t,t∉dstsOf os->aV.aM t=σ.aM t)/\∀cb,wF os=some cb->aV.aM cb= .d lF) σ
 |[],σ,_,_,_=>⟨rfl,λ_ _=>rfl,by intro cb h;cases h⟩
 |o::os,σ,b5,aG,hw=>by
  have ar:=aG o (by simp);unfold fY;have key:fY P T G all os (λaV=>aV.objs=σ.objs/\(∀t,t∉dstsOf (o::os)->aV.aM t=σ.aM t)/\∀cb,wF (o::os)=some cb->aV.aM cb= .d lF) (σ.put o.dst (.d (.val (.tuple #[])))):=by
   have Fh:(σ.put o.dst (.d (.val (.tuple #[])))).aM d= .d (.val (.bool (!want)))\/∃vs,(σ.put o.dst (.d (.val (.tuple #[])))).aM d= .d (.val (.tuple vs)):=by rw[rn ar];exact hw
   refine m0 ?_ (Fg ay (λo aF=>b5 o (by simp[aF])) (λo aF=>aG o (by simp[aF])) Fh);rintro aV ⟨ab,af,aw⟩;refine⟨ab.trans (by simp),?_,?_⟩
   .intro t aL;have pG:t∉dstsOf os:=λan=>aL (by
     unfold dstsOf at an⊢;simp only[xbM];cases o.dst<;>simp[an])
    have ys:o.dst≠some t:=λan=>aL (by unfold dstsOf;simp[an]);rw[af t pG,rn ys]
   intro cb aq;cases os with|nil=>simp only[wF]at aq;rw[af cb (by simp[dstsOf]),aq];simp[aK.put,lF]|cons q aAb=>exact aw cb aq
  unfold eB;rw[b5 o (by simp)];simp only[ay];rcases hw with hw|⟨vs,hw⟩
  .simp only[hw];rw[xac (by cases want<;>simp)];exact key
  simp only[hw];exact key
def QL{j:Nat}{want:Bool}{d:Tmp}(ay:(all[j]?).bind (·.dst)=some d):∀{os:List Oper}{σ:aK},(∀o∈os,o.guard=some (j,want))->(∀o∈os,o.dst≠some d)->(σ.aM d= .d (.val (.bool (!want)))\/∃vs,σ.aM d= .d (.val (.tuple vs)))->fY P T G all os (λaV=>aV.objs=σ.objs/\(∀t,t∉dstsOf os->aV.aM t=σ.aM t)/\∀t∈dstsOf os,aV.aM t= .d lF) σ
 |[],σ,_,_,_=>⟨rfl,λ_ _=>rfl,by intro t h;cases h⟩
 |o::os,σ,b5,aG,hw=>by
  have ar:=aG o (by simp);unfold fY;have key:fY P T G all os (λaV=>aV.objs=σ.objs/\(∀t,t∉dstsOf (o::os)->aV.aM t=σ.aM t)/\∀t∈dstsOf (o::os),aV.aM t= .d lF) (σ.put o.dst (.d (.val (.tuple #[])))):=by
   have Fh:(σ.put o.dst (.d (.val (.tuple #[])))).aM d= .d (.val (.bool (!want)))\/∃vs,(σ.put o.dst (.d (.val (.tuple #[])))).aM d= .d (.val (.tuple vs)):=by rw[rn ar];exact hw
   refine m0 ?_ (QL ay (λo aF=>b5 o (by simp[aF])) (λo aF=>aG o (by simp[aF])) Fh);rintro aV ⟨ab,af,aw⟩;refine⟨ab.trans (by simp),?_,?_⟩
   .intro t aL;have pG:t∉dstsOf os:=λan=>aL (by
     unfold dstsOf at an⊢;simp only[xbM];cases o.dst<;>simp[an])
    have ys:o.dst≠some t:=λan=>aL (by unfold dstsOf;simp[an]);rw[af t pG,rn ys]
   intro t aL;by_cases pG:t∈dstsOf os;.exact aw t pG
   have k6:o.dst=some t:=by
    unfold dstsOf at aL pG;simp only[xbM]at aL;cases aF:o.dst with
    |none=>rw[aF]at aL;exact absurd aL pG
    |some u=>
     rw[aF]at aL;rcases xal.1 aL with rfl|h
     .rfl
     exact absurd h pG
   rw[af t pG,k6];simp[aK.put,lF]
  unfold eB;rw[b5 o (by simp)];simp only[ay];rcases hw with hw|⟨vs,hw⟩
  .simp only[hw];rw[xac (by cases want<;>simp)];exact key
  simp only[hw];exact key
def ajH(cf:ht P G C){o:Oper}{k:aK->Option β}{b:β}(h:sU T G C σ o k=some b):dh P T G o (λaV=>k aV=some b/\∀t,o.dst≠some t->aV.aM t=σ.aM t) σ:=by
 unfold sU at h;split at h;.exact qn (λ_ h=>⟨h.1,h.2.2⟩) (Lc cf (by assumption) h)
 obtain⟨aV,ab,af⟩:=Bv h;unfold dh;rw[ab];refine⟨af,λt aL=>?_⟩;unfold g4 at ab;split at ab;.cases ab;exact rn aL
 split at ab;.cases ab;exact rn aL
 split at ab;.cases ab;exact rn aL
 cases ab
def Yn(cf:ht P G C){j:Nat}{want:Bool}{d:Tmp}(ay:(all[j]?).bind (·.dst)=some d):∀{os:List Oper}{σ:aK}{k:aK->Option β}{b:β},(∀o∈os,o.guard=some (j,want))->(∀o∈os,o.dst≠some d)->σ.aM d= .d (.val (.bool want))->sV T G C os σ k=some b->fY P T G all os (λaV=>k aV=some b) σ
 |[],σ,k,b,_,_,_,h=>h|o::os,σ,k,b,b5,aG,hw,h=>by unfold fY eB;rw[b5 o (by simp)];simp only[ay,hw,xaC];refine qn ?_ (ajH cf h);rintro aV ⟨ab,aw⟩;exact Yn cf ay (λo aF=>b5 o (by simp[aF])) (λo aF=>aG o (by simp[aF])) (by rw[aw d (aG o (by simp))];exact hw) ab
def QM{j:Nat}{want:Bool}{d:Tmp}(ay:(all[j]?).bind (·.dst)=some d){K:aK->Prop}:∀{os:List Oper}{σ:aK},(∀o∈os,o.guard=some (j,want))->(∀o∈os,o.dst≠some d)->(σ.aM d= .d (.val (.bool (!want)))\/∃vs,σ.aM d= .d (.val (.tuple vs)))->K (QG os σ)->fY P T G all os K σ
 |[],σ,_,_,_,h=>h
 |o::os,σ,b5,aG,hw,h=>by
  have ar:=aG o (by simp);have Fh:(σ.put o.dst (.d (.val (.tuple #[])))).aM d= .d (.val (.bool (!want)))\/∃vs,(σ.put o.dst (.d (.val (.tuple #[])))).aM d= .d (.val (.tuple vs)):=by rw[rn ar];exact hw
  have key:fY P T G all os K (σ.put o.dst (.d (.val (.tuple #[])))):=QM ay (λo aF=>b5 o (by simp[aF])) (λo aF=>aG o (by simp[aF])) Fh h;unfold fY eB;rw[b5 o (by simp)];simp only[ay];rcases hw with hw|⟨vs,hw⟩
  .simp only[hw];rw[xac (by cases want<;>simp)];exact key
  simp only[hw];exact key
def Yo:∀{os:List Oper}{cb:Tmp},wF os=some cb->cb∈dstsOf os
 |[],cb,h=>by cases h
 |[o],cb,h=>by simp only[wF]at h;simp[dstsOf,h]|o::q::r,cb,h=>by have:=Yo (os:=q::r) h;unfold dstsOf at this⊢;rw[xbM];cases o.dst<;>simp[this]
def By(cf:ht P G C){K:aK->Prop}(ed:∀σ τ,oN σ τ->K τ->K σ):∀{gs:List (Option (Nat×Bool)×List Oper)} {σ:aK} {k:aK->Option β} {b:β},(∀g∈gs,∀o∈g.2,o.guard=g.1)->(∀aV,k aV=some b->K aV)->yq T G C all gs σ k=some b->fY P T G all (flat gs) K σ
 |[],σ,k,b,_,ak,h=>ak _ h|(none,os)::r,σ,k,b,b5,ak,h=>by show fY P T G all (os++flat r) K σ;refine QJ (m0 ?_ (Yl cf (λo aF=>b5 (none,os) (by simp) o aF) h));intro aV bx;exact By cf ed (λg hm=>b5 g (by simp[hm])) ak bx
 |(some (j,want),os)::r,σ,k,b,b5,ak,h=>by
  show fY P T G all (os++flat r) K σ;unfold yq at h;split at h
  case h_2=>cases h
  rename_i d cb ay yt;split at h
  case h_2=>cases h
  rename_i x ag;split at h
  case isFalse=>
   split at h
   case isFalse=>cases h
   rename_i lH;simp only[xaA,bne_iff_ne,ne_eq]at lH;have iV:∀o∈os,o.guard=some (j,want):=λo aF=>b5 (some (j,want),os) (by simp) o aF;unfold wE at h;refine QJ ?_;split at h
   .rename_i gZ;split at h;.rename_i aj;subst aj;exact m0 (λaV bx=>By cf ed (λg hm=>b5 g (by simp[hm])) ak bx) (Yn cf ay iV lH ag h)
    rename_i aj;exact QM ay iV lH (.inl (by rw[ag];cases gZ<;>cases want<;>simp_all)) (By cf ed (λg hm=>b5 g (by simp[hm])) ak h)
   .exact QM ay iV lH (.inr ⟨_,ag⟩) (By cf ed (λg hm=>b5 g (by simp[hm])) ak h)
   cases h
  rename_i bm;simp only[Ya,xam,xaA,bne_iff_ne,ne_eq,blind,xaN,xca,List.contains_eq_mem,decide_eq_false_iff_not]at bm;obtain⟨QN,ajI⟩:=bm;obtain⟨v,ab,af⟩:=fx h;have iV:∀o∈os,o.guard=some (j,want):=λo aF=>b5 (some (j,want),os) (by simp) o aF;have rest:=By cf ed (λg hm=>b5 g (by simp[hm])) ak af;have fin:∀aV:aK,aV.objs=σ.objs->(∀t,t∉dstsOf os->aV.aM t=σ.aM t)->aV.aM cb= .d v->fY P T G all (flat r) K aV:=by
   intro aV aO aX bQ;refine QK ed ((dstsOf os).filter (·!=cb)) ?_ ?_ ?_ ?_ rest;.intro qq iB o aF;have Fi:=xaN.1 iB;exact ajI o aF qq ⟨Fi.1,by simpa using Fi.2⟩
   .intro t aL;simp only[xaN,bne_iff_ne,ne_eq,not_and,Decidable.not_not]at aL;by_cases oO:t=cb;.subst oO;simp[aK.put,bQ]
    have iq:t∉dstsOf os:=λan=>oO (aL an);simp only[aK.put,cZ _ _ oO,l3,iq,xaD];exact aX t iq
   .intro qq iB;have Fi:=xaN.1 iB;have cK:qq≠cb:=by simpa using Fi.2
    refine .inl ?_;simp only[aK.put,cZ _ _ cK,l3,Fi.1,xaC]
   simp[aK.put,l3,aO]
  unfold bL at ab;refine QJ ?_;split at ab
  .rename_i gZ;split at ab
   .rename_i aj;subst aj;refine m0 ?_ (Ym cf ay iV QN ag ab);rintro aV ⟨aW,a2,bb⟩;refine fin aV a2 bb ?_;split at aW;.rename_i u hu;cases aW;exact hu
    cases aW
   rename_i aj;cases ab;refine m0 ?_ (Fg ay iV (λo aF=>(QN o aF).2) (.inl (by rw[ag];cases gZ<;>cases want<;>simp_all)));rintro aV ⟨aW,a2,bb⟩;exact fin aV aW a2 (bb cb yt)
  .rename_i vs;cases ab;refine m0 ?_ (Fg ay iV (λo aF=>(QN o aF).2) (.inr ⟨_,ag⟩));rintro aV ⟨aW,a2,bb⟩;exact fin aV aW a2 (bb cb yt)
  cases ab
def ajJ{i:Nat}{fw:Oper}{listed:Array Bool}(ah:all[i]?=some fw)(h:QH all listed i=true):(∀j c7,j∈waits all i->all[j]?=some c7->∃e∈c7.after,Region.binds .any e=true/\(e.on=i\/e.on∈waits all i))/\(∀j,j∈waits all i->listed.getD j true=false)/\ ∀j c7,all[j]?=some c7->j≠i->listed.getD j true=false->j∉waits all i->fw.apart all c7=true/\∀t a x,c7.op≠ .store t a x:=by
 simp only[QH,ah,xam,xaA,xbW]at h;refine⟨λj c7 aP ji=>?_,λj aP=>by simpa using(h.1 j aP).1,λj c7 ji cK oJ iq=>?_⟩;.have ab:=(h.1 j aP).2;simp only[ji]at ab;obtain⟨e,he,aj⟩:=Array.any_eq_true'.1 ab;simp only[xam,xbf,xbH,List.contains_iff_mem]at aj;exact⟨e,he,aj.1,aj.2⟩
 have ab:=h.2 j (xaW.1 ji).1;simp only[ji,xbf,xbH,cK,false_or,oJ,xas,xam,List.contains_iff_mem,iq]at ab;refine⟨ab.1,?_⟩;intro t a x he;rw[he]at ab;simp[Yc]at ab
def ajK{i:Nat}{fw:Oper}{listed:Array Bool}{aM:Nat->aS}(h:QI all listed i aM fw=true):(∀j c7,j∈waits all i->all[j]?=some c7->∃e∈c7.after,Region.binds .any e=true/\(e.on=i\/e.on∈waits all i))/\(∀j,j∈waits all i->listed.getD j true=false)/\ ∀j c7,all[j]?=some c7->j≠i->listed.getD j true=false->j∉waits all i->fw.apart all c7=true/\sQ aM fw c7=true/\(∀t∈mW fw.op++(yr all listed i).flatMap (λy=>uG y.op),c7.dst≠some t)/\∀t∈uG c7.op,t∈mW fw.op++(yr all listed i).flatMap (λy=>uG y.op):=by
 simp only[QI,xam,xaA]at h;refine⟨λj c7 aP ji=>?_,λj aP=>by simpa using(h.1 j aP).1,λj c7 ji cK oJ iq=>?_⟩;.have ab:=(h.1 j aP).2;simp only[ji]at ab;obtain⟨e,he,aj⟩:=Array.any_eq_true'.1 ab;simp only[xam,xbf,xbH,List.contains_iff_mem]at aj;exact⟨e,he,aj.1,aj.2⟩
 have hm:c7∈yr all listed i:=by
  unfold yr;rw[List.mem_filterMap];refine⟨j,by simpa using(xaW.1 ji).1,?_⟩;have:(j==i||listed.getD j true||(waits all i).contains j)=false:=by simp only[Bool.or_eq_false_iff,beq_eq_false_iff_ne,ne_eq];exact⟨⟨cK,oJ⟩,by simpa using iq⟩
  rw[this];simpa using ji
 obtain⟨ab,af⟩:=h.2 c7 hm;refine⟨ab.1,ab.2,λt aL=>by simpa using af t aL,λt aL=>List.mem_append_right _ (List.mem_flatMap.2 ⟨c7,hm,aL⟩)⟩
def QO(cf:ht P G C){k:aK->Option β}{b:β}:∀(ord:List Nat)(listed:Array Bool)(σ:aK),Bx T G C all ord listed σ k=some b->jh P T G all (λaV=>k aV=some b) ord.length listed σ
 |[],listed,σ,h=>by
  unfold Bx at h;split at h;.rename_i av;exact⟨List.isEmpty_iff.1 av,h⟩
  cases h
 |i::r,listed,σ,h=>by
  unfold Bx at h;split at h
  case h_2=>cases h
  rename_i o ah;split at h
  case isFalse=>cases h
  rename_i an;obtain⟨b5,av,ba⟩:=an;have H:h0 P T G all i (jh P T G all (λaV=>k aV=some b) r.length (listed.setIfInBounds i true)) σ:=by unfold h0;simp only[ah];unfold eB;simp only[b5];exact qn (λaV bx=>QO cf r _ aV bx) (Yh cf h)
  rcases xbA.1 ba with ba|ba
  case inr=>obtain⟨bz,bA,cx⟩:=P6 ah ba;exact P5 ah bz r.length listed σ bA cx (by simpa using av) (.inr trivial) H
  rcases xbA.1 ba with ba|ba
  case inr=>obtain⟨bz,bA,cx⟩:=ajK ba;exact ai9 ah b5 bz (s0:=σ.aM) (L:=mW o.op++(yr all listed i).flatMap (λy=>uG y.op)) (λt aL=>xbQ _ aL) r.length listed σ (λ_ _=>rfl) bA cx (by simpa using av) H
  rcases xbA.1 ba with ba|ba;.obtain⟨bz,bA,cx⟩:=ah4 ah ba;exact ah2 ah bz r.length listed σ bA cx (by simpa using av) (.inr trivial) H
  unfold Yd at ba;split at ba
  case h_2=>cases ba
  rename_i t a aF;split at ba
  case h_2=>cases ba
  rename_i cR off aG;obtain⟨bz,bA,cx⟩:=ajJ ah ba;exact aiN ah aF b5 bz r.length listed σ aG bA cx (by simpa using av) H
def ajL(cf:ht P G C){K:aK->Prop}(ed:∀σ τ,oN σ τ->K τ->K σ){k:aK->Option β}{b:β}(ak:∀aV,k aV=some b->K aV)(h:Yb T G C all σ k=some b):fY P T G all all.toList K σ:=by
 have:=By (P:=P) cf ed (λg hm o aF=>Lb _ _ _ hm o aF) ak h
 rwa [wH]at this
end
inductive qs where
 |any
 |d
 |Fj (f:FuncId)
 |fd (f:FuncId) (m:Nat)
 |eA (off:Nat)
 |ptr (k:Key) (off:Nat)
 |row (k:Key)
 |map (k:Key)
 |sub (k:Key) (cR:Nat)
inductive lI where
 |b (s:qs)
 |fn (f:Fn) (first cap:List qs)
 |agg (cs:List qs)
 |aZ (cs:List qs)
inductive l4 where
 |dead
 |box (cs:List lI)
 |row (k:Nat)
 |map
inductive wI where
 |slot (t K n:Nat)
 |box (k i K n:Nat)
 |all (t cR:Nat)
structure rp where
 aM:List (Nat×lI)
 objs:List (Key×l4)
 pH:List wI
def I(ls:List D)(n:Nat):D:=ls.getD n lF
def QP:D->Nat
 | .val (.int _ n)=>n.toNat|_=>0
def wJ(ls:List D):qs->Nat->aS×Nat
 | .any,n=>(.any,n)| .d,n=>(.d (I ls n),n+1)| .Fj f,n=>(.d (.val (.func (.func f) #[] #[])),n)| .fd f m,n=>(.d (.fn (.func f) [] ((List.range m).map λi=>I ls (n+i))),n+m)| .eA off,n=>(.eA (K1 (I ls n)) off,n+1)| .ptr k off,n=>(.ptr k off,n)| .row k,n=>(.row k,n)| .map k,n=>(.map k,n)| .sub k cR,n=>(.sub k cR (QP (I ls n)) (QP (I ls (n+1))),n+2)
def oP(ls:List D):List qs->Nat->List aS×Nat
 |[],n=>([],n)|s::r,n=>((wJ ls s n).1::(oP ls r (wJ ls s n).2).1,(oP ls r (wJ ls s n).2).2)
def pI(ls:List D):lI->Nat->aS×Nat
 | .b s,n=>wJ ls s n| .fn f first cap,n=>(.fn f (oP ls first n).1 (oP ls cap (oP ls first n).2).1,(oP ls cap (oP ls first n).2).2)
 | .agg cs,n=>(.agg (oP ls cs n).1,(oP ls cs n).2)| .aZ cs,n=>(.aZ (oP ls cs n).1,(oP ls cs n).2)
def rq(ls:List D):List lI->Nat->List aS×Nat
 |[],n=>([],n)|s::r,n=>((pI ls s n).1::(rq ls r (pI ls s n).2).1,(rq ls r (pI ls s n).2).2)
def yu(ls:List D):l4->Nat->cS×Nat
 | .dead,n=>(.dead,n)| .box cs,n=>(.box (rq ls cs n).1,(rq ls cs n).2)| .row k,n=>(.row k (au (I ls n)),n+1)| .map,n=>(.map (ei (I ls n)),n+1)
def wK(ls:List D):List (Nat×lI)->Nat->List (Nat×aS)×Nat
 |[],n=>([],n)|(t,s)::r,n=>((t,(pI ls s n).1)::(wK ls r (pI ls s n).2).1,(wK ls r (pI ls s n).2).2)
def oQ(ls:List D):List (Key×l4)->Nat->List (Key×cS)×Nat
 |[],n=>([],n)|(t,s)::r,n=>((t,(yu ls s n).1)::(oQ ls r (yu ls s n).2).1,(oQ ls r (yu ls s n).2).2)
def restore(gj:rp)(ls:List D):aK:=Xw (wK ls gj.aM 0).1 (oQ ls gj.objs (wK ls gj.aM 0).2).1
def Yp:aS->qs->List (Key×Key)
 | .ptr k _,.ptr br _=>[(br,k)]| .row k,.row br=>[(br,k)]| .map k,.map br=>[(br,k)]| .sub k _ _ _,.sub br _=>[(br,k)]|_,_=>[]
def Fk:List aS->List qs->List (Key×Key)
 |x::xs,s::fj=>Yp x s++Fk xs fj|_,_=>[]
def Yq:aS->lI->List (Key×Key)
 |x,.b s=>Yp x s| .fn _ as kl,.fn _ fj ts=>Fk as fj++Fk kl ts| .agg cs,.agg fj=>Fk cs fj| .aZ cs,.aZ fj=>Fk cs fj|_,_=>[]
def Ld:List aS->List lI->List (Key×Key)
 |x::xs,s::fj=>Yq x s++Ld xs fj|_,_=>[]
def Yr(σ:aK):List (Nat×lI)->List (Key×Key)
 |[]=>[]|(t,s)::r=>Yq (σ.aM t) s++Yr σ r
def Bz(σ:aK):List (Key×l4)->List (Key×Key)->List (Key×Key)
 |[],cm=>cm|(k,.box fj)::r,cm=>match σ.objs (gi cm k)with|some (.box xs)=>Bz σ r (cm++Ld xs fj)|_=>Bz σ r cm
 |_::r,cm=>Bz σ r cm
def Le(cm:List (Key×Key))(ks:List Key):aS->qs->Option (List D)
 |_,.any=>some []|x,.d=>(KQ x).map λa=>[a]| .d (.val (.func (.func f) a b)),.Fj kG=>if f=kG/\a.size=0/\b.size=0 then some []else none
 | .d (.fn (.func kG) first oM),.fd f m=>if kG=f/\first.isEmpty=true/\oM.length=m then some oM else none
 | .eA cs off,.eA QQ=>if off=QQ then some [.agg cs]else none
 | .ptr k off,.ptr br QQ=>if k=gi cm br/\off=QQ/\ks.contains br then some []else none
 | .row k,.row br=>if k=gi cm br/\ks.contains br then some []else none
 | .map k,.map br=>if k=gi cm br/\ks.contains br then some []else none
 | .sub k cR i len,.sub br ajM=>if k=gi cm br/\cR=ajM/\ks.contains br then some [.val (.int .i64 (i:Nat)),.val (.int .i64 (len:Nat))]else none
 |_,_=>none
def uJ(x y:Option (List D)):Option (List D):=match x,y with|some a,some b=>some (a++b)|_,_=>none
def BA(cm:List (Key×Key))(ks:List Key):List aS->List qs->Option (List D)
 |[],[]=>some []|x::xs,s::fj=>uJ (Le cm ks x s) (BA cm ks xs fj)|_,_=>none
def Lf(cm:List (Key×Key))(ks:List Key):aS->lI->Option (List D)
 |x,.b s=>Le cm ks x s| .fn (.func f) as kl,.fn (.func kG) fj ts=>if f=kG then uJ (BA cm ks as fj) (BA cm ks kl ts)else none
 | .agg cs,.agg fj=>BA cm ks cs fj| .aZ cs,.aZ fj=>BA cm ks cs fj|_,_=>none
def Lg(cm:List (Key×Key))(ks:List Key):List aS->List lI->Option (List D)
 |[],[]=>some []|x::xs,s::fj=>uJ (Lf cm ks x s) (Lg cm ks xs fj)|_,_=>none
def QR(cm:List (Key×Key))(ks:List Key):Option cS->l4->Option (List D)
 |some _,.dead=>some []|some (.box xs),.box fj=>Lg cm ks xs fj|some (.row k es),.row br=>if k=br then some [.az k es]else none
 |some (.map es),.map=>some [.mp es]|_,_=>none
def QS(cm:List (Key×Key))(ks:List Key)(σ:aK):List (Nat×lI)->Option (List D)
 |[]=>some []|(t,s)::r=>uJ (Lf cm ks (σ.aM t) s) (QS cm ks σ r)
def Lh(cm:List (Key×Key))(ks:List Key)(σ:aK):List (Key×l4)->Option (List D)
 |[]=>some []|(k,s)::r=>uJ (QR cm ks (σ.objs (gi cm k)) s) (Lh cm ks σ r)
section
variable{β:Type}
def oR:List wI->aK->(aK->Option β)->Option β
 |[],σ,k=>k σ
 | .slot t K n::r,σ,k=>match σ.aM t,σ.objs K with
  | .d a,none=>if K<10000 then aD (pD a) (oR r ⟨ct σ.aM t (.row K),ct σ.objs K (some (.row n []))⟩ k)else none
  |_,_=>oR r σ k
 | .box cR i K n::r,σ,k=>match σ.objs cR with
  |some (.box xs)=>match xs[i]?,σ.objs K with
   |some (.d a),none=>if K<10000 then aD (pD a) (oR r ⟨σ.aM,ct (ct σ.objs cR (some (.box (xs.set i (.row K))))) K (some (.row n []))⟩ k)else none
   |_,_=>oR r σ k
  |_=>oR r σ k
 | .all t cR::r,σ,k=>match σ.aM t with
  | .row K=>match σ.objs K with
   |some (.row n es)=>if n=cR then oR r ⟨ct σ.aM t (.sub K n 0 es.length),σ.objs⟩ k else none
   |_=>oR r σ k
  |_=>oR r σ k
def BB:l4->Bool
 | .box _=>true| .row _=>true| .map=>true|_=>false
def Ys(ib:List Key)(cm:List (Key×Key))(objs:List (Key×l4)):Bool:=objs.all (λp=>decide (p.1<10000)||ib.contains p.1)&&ib.all (λk=>gi cm k==k&&objs.any λp=>p.1==k&&BB p.2)&&decide ((objs.map (·.1)).Nodup)
def sW(ib:List Key)(gj:rp)(σ:aK)(k:List D->Option β):Option β:=oR gj.pH σ λσ=>
  let cm:=Bz σ gj.objs (Yr σ gj.aM)
  if yk (gi cm) (gj.objs.map (·.1))&&Ys ib cm gj.objs=true then
   match uJ (QS cm (gj.objs.map (·.1)) σ gj.aM) (Lh cm (gj.objs.map (·.1)) σ gj.objs)with|some ls=>k ls|none=>none
  else none
end
def yv{x y:Option (List D)}{l:List D}(h:uJ x y=some l):∃a b,x=some a/\y=some b/\l=a++b:=by
 unfold uJ at h;split at h;.cases h;exact⟨_,_,rfl,rfl,rfl⟩
 cases h
def l5(ls:List D)(n:Nat)(a:List D):Prop:=∀j d,a[j]?=some d->ls[n+j]?=some d
def l5.left{ls:List D}{n:Nat}{a b:List D}(h:l5 ls n (a++b)):l5 ls n a:=λj d aP=>h j d (by rw[xaJ (xae.1 aP).1];exact aP)
def l5.right{ls:List D}{n:Nat}{a b:List D}(h:l5 ls n (a++b)):l5 ls (n+a.length) b:=λj d aP=>by
 have:=h (a.length+j) d (by rw[xaH (by omega)];simpa using aP)
 rwa [<-xbj]at this
def l5.I{ls:List D}{n:Nat}{a:D}(h:l5 ls n [a]):I ls n=a:=by have:=h 0 a rfl;simp only[xbm]at this;simp[Am.I,xaR,this]
section
variable{cm:List (Key×Key)}{ks:List Key}{ls:List D}{U:Key->Prop}
def Yt(gU:∀k,ks.contains k=true->U k){x:aS}{s:qs}{n:Nat}{a:List D}(h:Le cm ks x s=some a)(g8:l5 ls n a):pA (gi cm) U x (wJ ls s n).1/\(wJ ls s n).2=n+a.length:=by
 unfold Le at h;split at h;.cases h;exact⟨trivial,rfl⟩
 .obtain⟨d,ay,rfl⟩:=xah.1 h;refine⟨⟨_,ay,?_⟩,rfl⟩;rw[g8.I];exact D.le_refl _
 .split at h;.rename_i ba;obtain⟨rfl,aE,aj⟩:=ba;cases h;rw[xbk aE,xbk aj];exact⟨⟨_,rfl,D.le_refl _⟩,rfl⟩
  cases h
 .split at h
  .rename_i ba;obtain⟨rfl,ab,rfl⟩:=ba;cases h;refine⟨⟨_,rfl,?_⟩,rfl⟩;rw[List.isEmpty_iff.1 ab];have e:((List.range a.length).map λi=>I ls (n+i))=a:=by
    apply xbR;intro i;rw[xaj];by_cases ah:i<a.length;.rw[xbS ah,xaa ah];have:=g8 i a[i] (xaa ah);simp[Am.I,xaR,this]
    rw[xbi (by simp;omega),xbi (by omega)];rfl
   skip
   rw[e];exact D.le_refl _
  cases h
 .split at h;.rename_i ba;cases h;subst ba;refine⟨.inl ?_,rfl⟩;rw[g8.I];rfl
  cases h
 .split at h;.rename_i ba;cases h;exact⟨⟨by rw[ba.1,ba.2.1],gU _ ba.2.2⟩,rfl⟩
  cases h
 .split at h;.rename_i ba;cases h;exact⟨⟨by rw[ba.1],gU _ ba.2⟩,rfl⟩
  cases h
 .split at h;.rename_i ba;cases h;exact⟨⟨by rw[ba.1],gU _ ba.2⟩,rfl⟩
  cases h
 .split at h;.rename_i ba;cases h;obtain⟨ab,af,aw⟩:=ba;have aO:=g8.left (a:=[_]) (b:=[_]);have aX:l5 ls (n+1) [D.val (.int .i64 ((_:Nat):Int))]:=l5.right (a:=[_]) (b:=[_]) g8;simp only[wJ];rw[aO.I,aX.I];exact⟨⟨by rw[ab,af];simp[QP],gU _ aw⟩,rfl⟩
  cases h
 cases h
def Fl(gU:∀k,ks.contains k=true->U k):∀{xs:List aS}{fj:List qs}{n:Nat}{a:List D},BA cm ks xs fj=some a->l5 ls n a->jN (gi cm) U xs (oP ls fj n).1/\(oP ls fj n).2=n+a.length
 |[],[],n,a,h,g8=>by cases h;exact⟨trivial,rfl⟩
 |x::xs,s::fj,n,a,h,g8=>by obtain⟨ao,bc,ab,af,rfl⟩:=yv h;obtain⟨aW,a2⟩:=Yt gU ab g8.left;have av:=g8.right;rw[<-a2]at av;obtain⟨bb,cX⟩:=Fl gU af av;refine⟨⟨aW,bb⟩,?_⟩;show(oP ls fj (wJ ls s n).2).2=_;rw[cX,a2,xaO];omega
 |[],_::_,n,a,h,_=>by cases h
 |_::_,[],n,a,h,_=>by cases h
def ajN{x y:aS}(h:pA (gi cm) U x y):uB (gi cm) U x y:=by cases y<;>first|exact h|exact h.elim
def Yu(gU:∀k,ks.contains k=true->U k){x:aS}{s:lI}{n:Nat}{a:List D}(h:Lf cm ks x s=some a)(g8:l5 ls n a):uB (gi cm) U x (pI ls s n).1/\(pI ls s n).2=n+a.length:=by
 unfold Lf at h;split at h;.obtain⟨aW,a2⟩:=Yt gU h g8;exact⟨ajN aW,a2⟩
 .split at h;.rename_i ba;subst ba;obtain⟨ao,bc,ab,af,rfl⟩:=yv h;obtain⟨aW,a2⟩:=Fl gU ab g8.left;have av:=g8.right;rw[<-a2]at av;obtain⟨bb,cX⟩:=Fl gU af av;refine⟨⟨rfl,aW,bb⟩,?_⟩;simp only[pI];rw[cX,a2,xaO];omega
  cases h
 .obtain⟨aW,a2⟩:=Fl gU h g8;exact⟨aW,a2⟩
 .obtain⟨aW,a2⟩:=Fl gU h g8;exact⟨aW,a2⟩
 cases h
def QT(gU:∀k,ks.contains k=true->U k):∀{xs:List aS}{fj:List lI}{n:Nat}{a:List D},Lg cm ks xs fj=some a->l5 ls n a->sO (gi cm) U xs (rq ls fj n).1/\(rq ls fj n).2=n+a.length
 |[],[],n,a,h,g8=>by cases h;exact⟨trivial,rfl⟩
 |x::xs,s::fj,n,a,h,g8=>by obtain⟨ao,bc,ab,af,rfl⟩:=yv h;obtain⟨aW,a2⟩:=Yu gU ab g8.left;have av:=g8.right;rw[<-a2]at av;obtain⟨bb,cX⟩:=QT gU af av;refine⟨⟨aW,bb⟩,?_⟩;show(rq ls fj (pI ls s n).2).2=_;rw[cX,a2,xaO];omega
 |[],_::_,n,a,h,_=>by cases h
 |_::_,[],n,a,h,_=>by cases h
def ajO(gU:∀k,ks.contains k=true->U k){x:Option cS}{s:l4}{n:Nat}{a:List D}(h:QR cm ks x s=some a)(g8:l5 ls n a):(∃o',x=some o'/\yi (gi cm) U o' (yu ls s n).1)/\(yu ls s n).2=n+a.length:=by
 unfold QR at h;split at h;.cases h;exact⟨⟨_,rfl,trivial⟩,rfl⟩
 .obtain⟨aW,a2⟩:=QT gU h g8;exact⟨⟨_,rfl,⟨_,rfl,aW⟩⟩,a2⟩
 .split at h;.rename_i ak;cases h;subst ak;refine⟨⟨_,rfl,⟨_,rfl,.inl ?_⟩⟩,rfl⟩;rw[g8.I];rfl
  cases h
 .cases h;refine⟨⟨_,rfl,?_⟩,rfl⟩;simp only[yu,yi];rw[g8.I];rfl
 cases h
def Yv(gU:∀k,ks.contains k=true->U k){σ:aK}:∀{l:List (Nat×lI)} {n:Nat} {a:List D},QS cm ks σ l=some a->l5 ls n a->Bp (gi cm) U σ (wK ls l n).1/\(wK ls l n).2=n+a.length
 |[],n,a,h,g8=>by cases h;exact⟨trivial,rfl⟩
 |(t,s)::r,n,a,h,g8=>by obtain⟨ao,bc,ab,af,rfl⟩:=yv h;obtain⟨aW,a2⟩:=Yu gU ab g8.left;have av:=g8.right;rw[<-a2]at av;obtain⟨bb,cX⟩:=Yv gU af av;refine⟨⟨aW,bb⟩,?_⟩;simp only[wK];rw[cX,a2,xaO];omega
def QU(gU:∀k,ks.contains k=true->U k){σ:aK}:∀{l:List (Key×l4)} {n:Nat} {a:List D},Lh cm ks σ l=some a->l5 ls n a->yj (gi cm) U σ (oQ ls l n).1/\(oQ ls l n).2=n+a.length
 |[],n,a,h,g8=>by cases h;exact⟨trivial,rfl⟩
 |(t,s)::r,n,a,h,g8=>by obtain⟨ao,bc,ab,af,rfl⟩:=yv h;obtain⟨aW,a2⟩:=ajO gU ab g8.left;have av:=g8.right;rw[<-a2]at av;obtain⟨bb,cX⟩:=QU gU af av;refine⟨⟨aW,bb⟩,?_⟩;simp only[oQ];rw[cX,a2,xaO];omega
end
def yw(ls:List D):∀(l:List (Key×l4)) (n:Nat),mw (oQ ls l n).1=l.map (·.1)
 |[],n=>rfl|(k,s)::r,n=>by have:=yw ls r (yu ls s n).2;simp only[oQ,mw,xaz]at this⊢;rw[<-this]
def Li:∀{lo:List (Key×cS)} {k:Key},k∈mw lo->∃o,fG lo k=some o
 |[],k,h=>by cases h
 |(j,x)::r,k,h=>by
  unfold fG;by_cases ak:k=j;.exact⟨x,by rw[xad ak]⟩
  rw[xac ak];simp only[mw,xaz,xal]at h;exact Li (h.resolve_left ak)
def fV(ib:List Key)(σ:aK):Prop:=∀k,10000<=k->eZ (σ.objs k)->k∈ib
def QV(ls:List D):∀(l:List (Key×l4)) (n:Nat) (k:Key),(l.map (·.1)).Nodup->(∃s,(k,s)∈l/\BB s=true)->eZ (fG (oQ ls l n).1 k)
 |[],n,k,_,⟨_,h,_⟩=>by cases h
 |(j,s)::r,n,k,aN,⟨fj,h,aG⟩=>by
  simp only[oQ,fG];simp only[xaz,List.nodup_cons]at aN;rcases xal.1 h with ab|ab
  .cases ab;rw[xad rfl];cases s<;>first|cases aG|skip
   .exact ur
   .exact sJ
   exact v9
  have cK:k≠j:=by rintro rfl;exact aN.1 (xap.2 ⟨_,ab,rfl⟩)
  rw[xac cK];exact QV ls r _ k aN.2 ⟨fj,ab,aG⟩
def sX{β:Type}{ib:List Key}:∀{l:List wI}{σ:aK}{k:aK->Option β}{b:β},fV ib σ->oR l σ k=some b->∃τ,g6 σ τ/\fV ib τ/\k τ=some b
 |[],σ,k,b,bR,h=>⟨σ,g6.refl σ,bR,h⟩
 | .slot t K n::r,σ,k,b,bR,h=>by
  unfold oR at h;split at h
  .rename_i a aG ed;split at h
   case isFalse=>cases h
   rename_i cu;obtain⟨ab,af⟩:=lE h;have aE:a= .val (.slice none 0 0):=by
    unfold pD at ab;split at ab;.rfl
    cases ab
   subst aE;obtain⟨τ,aW,a2,bb⟩:=sX (ib:=ib) (by
    intro j aP aj;by_cases gC:j=K;.exact absurd cu (Nat.not_lt.2 (gC▸aP))
    simp only[cZ _ _ gC]at aj;exact bR j aP aj) af
   exact⟨τ,(aiG t K n aG ed).trans aW,a2,bb⟩
  exact sX bR h
 | .box cR i K n::r,σ,k,b,bR,h=>by
  unfold oR at h;split at h
  .rename_i xs ak;split at h
   .rename_i a ah ed;split at h
    case isFalse=>cases h
    rename_i cu;obtain⟨ab,af⟩:=lE h;have aE:a= .val (.slice none 0 0):=by
     unfold pD at ab;split at ab;.rfl
     cases ab
    subst aE;obtain⟨τ,aW,a2,bb⟩:=sX (ib:=ib) (by
     intro j aP aj;by_cases gC:j=K;.exact absurd cu (Nat.not_lt.2 (gC▸aP))
     simp only[cZ _ _ gC]at aj;by_cases x2:j=cR;.subst x2;exact bR j aP (by rw[ak];exact ur)
     simp only[cZ _ _ x2]at aj;exact bR j aP aj) af
    exact⟨τ,(aiH cR i K n ak ah ed).trans aW,a2,bb⟩
   exact sX bR h
  exact sX bR h
 | .all t cR::r,σ,k,b,bR,h=>by
  unfold oR at h;split at h
  .rename_i K aG;split at h
   .rename_i n es ak;split at h
    case isFalse=>cases h
    rename_i aN;subst aN;obtain⟨τ,aW,a2,bb⟩:=sX (ib:=ib) (σ:=⟨ct σ.aM t (.sub K n 0 es.length),σ.objs⟩) (λj aP aj=>bR j aP aj) h;exact⟨τ,(aiI t K n aG ak).trans aW,a2,bb⟩
   exact sX bR h
  exact sX bR h
def Lj{β:Type}{ib:List Key}{gj:rp}{σ:aK}{k:List D->Option β}{b:β}(bR:fV ib σ)(h:sW ib gj σ k=some b):∃ls,g6 σ (restore gj ls)/\fV ib (restore gj ls)/\k ls=some b:=by
 unfold sW at h;obtain⟨τ,aW,a2,bb⟩:=sX bR h;simp only at bb;split at bb
 case isFalse=>cases bb
 rename_i an;simp only[Ys,xam,xaA,xbf,xaE,xbH,xbr,List.contains_eq_mem]at an;obtain⟨Fo,⟨pt,ajP⟩,ajQ⟩:=an;split at bb
 case h_2=>cases bb
 rename_i ls BC;obtain⟨ao,bc,aO,aX,rfl⟩:=yv BC;have g8:l5 (ao++bc) 0 (ao++bc):=λj d aP=>by rw[xax];exact aP
 have gU:∀k,(gj.objs.map (·.1)).contains k=true->∃o,fG (oQ (ao++bc) gj.objs (wK (ao++bc) gj.aM 0).2).1 k=some o:=by intro k ak;exact Li (by rw[yw];simpa using ak)
 obtain⟨bz,bA⟩:=Yv gU aO g8.left;have av:=g8.right;rw[<-bA]at av;obtain⟨cx,eo⟩:=QU gU aX av;have BD:g6 τ (restore gj (ao++bc)):=by refine aiu _ (by rw[yw];exact Fo) bz cx ?_;intro k ak aj;have hm:=a2 k ak aj;obtain⟨b6,p,yx,oS,Yw⟩:=ajP k hm;refine⟨?_,b6⟩;obtain⟨aAc,j0⟩:=p;simp only at oS Yw;subst oS;exact QV _ _ _ _ ajQ ⟨_,yx,Yw⟩
 refine⟨_,aW.trans BD,?_,bb⟩;intro k ak aj;obtain⟨o,aF⟩:=Bc aj;have:=wx aF;rw[yw]at this;obtain⟨p,yx,oS⟩:=xap.1 this;rcases pt p yx with cP|cP
 .rw[oS]at cP;exact absurd cP (Nat.not_lt.2 ak)
 rw[oS]at cP;exact cP
def Lk(objs:cG)(cs:List aS):Option (List D):=if cs.all sL=true then hC (cs.map (toD objs))else none
def wL(objs:cG)(ks:List Key):aS->aS
 | .ptr k off=>if k∈ks then match objs k with
   |some (.box cs)=>match Lk objs cs with|some aQ=> .eA aQ off|none=> .ptr k off
   |_=> .ptr k off
  else .ptr k off
 | .row k=>if k∈ks then match objs k with|some (.row n es)=> .d (.az n es)|_=> .row k
  else .row k
 | .map k=>if k∈ks then match objs k with|some (.map es)=> .d (.mp es)|_=> .map k
  else .map k
 |x=>x
def Ll(objs:cG)(ks:List Key):aS->aS
 | .agg cs=>AY (cs.map (wL objs ks))| .fn f first cap=> .fn f (first.map (wL objs ks)) (cap.map (wL objs ks))
 |x=>wL objs ks x
def Fp(objs:cG)(ks:List Key):cS->cS
 | .box cs=> .box (cs.map (Ll objs ks))|o=>o
def QW(objs:cG)(k:Key):Bool:=match objs k with|some (.row _ _)=>decide (k<10000)|some (.map _)=>decide (k<10000)|some (.box cs)=>decide (k<10000)&&(Lk objs cs).isSome|_=>false
def freeze(ks:List Key)(σ:aK):aK:=⟨λt=>Ll σ.objs ks (σ.aM t),λk=>if k∈ks then some .dead else(σ.objs k).map (Fp σ.objs ks)⟩
section
variable{m:Mem}{fr:fP}{ρ:dp}{σ:aK}{a:Act}{w:World}{ks:List Key}
def ajR(h:Den m fr ρ σ a w){key off:Nat}{cs:List aS}{aQ:List D}(ak:σ.objs key=some (.box cs))(eY:Lk σ.objs cs=some aQ)(hm:key∈ks){U:Key->Prop}{v:Value}(a3:b4 m ρ σ.used (.ptr key off) v):b4 (Den.part m ρ ks w) ρ U (.eA aQ off) v:=by
 have hle:=Den.sG m ρ ks w;obtain⟨b,vs,dT,aO,aX,bQ,cO⟩:=h.objs _ _ ak;have aj:=h.Kp ak rfl hm (by rw[aO];rfl);unfold Lk at eY;split at eY
 case isFalse=>cases eY
 rename_i Qe;obtain⟨aW,a2⟩:=q9 eY;rw[xaS]at aW;cases a3 with
 |ptr _ _ b' hu av=>
  rw[aO]at av;cases av;have:=b4.eA (m:=Den.part m ρ ks w) (ρ:=ρ) (U:=U) aQ off b 0 vs dT (0,0) (by rw[aj];exact aX) (λj=>(vs[j]?).getD undef) ?_ ?_
  .simpa using this
  .intro j c aP;have cu:j<vs.size:=by rw[bQ,<-aW];exact(xae.1 aP).1
   simp[xaq cu]
  intro j c aP;have cu:j<vs.size:=by rw[bQ,<-aW];exact(xae.1 aP).1
  have bb:=a2 j c aP;rw[xaj,xah]at bb;obtain⟨y,aJ,uw⟩:=bb;have:=cO j y vs[j] aJ (xaq cu);simp only[xaq cu,xbe];exact(PT (xaA.1 Qe y (xab aJ)) uw this).mono hle
def Yx(h:Den m fr ρ σ a w){x:aS}{v:Value}(ag:b4 m ρ σ.used x v):b4 (Den.part m ρ ks w) ρ (freeze ks σ).used (wL σ.objs ks x) v:=by
 have hle:=Den.sG m ρ ks w;have gU:∀k,σ.used k->(freeze ks σ).used k/\ρ k=ρ k:=by
  rintro k ⟨o,aF⟩;refine⟨?_,rfl⟩;unfold aK.used freeze;by_cases ak:k∈ks;.exact⟨.dead,by simp[ak]⟩
  exact⟨Fp σ.objs ks o,by simp[ak,aF]⟩
 unfold wL;split
 .rename_i k off;split
  .rename_i hm;split
   .rename_i cs ak;split;.rename_i aQ eY;exact ajR h ak eY hm ag
    exact ag.mono hle gU
   exact ag.mono hle gU
  exact ag.mono hle gU
 .rename_i k;split
  .rename_i hm;split;.rename_i n es ak;cases ag;exact .d _ _ (PL h ak hm)
   exact ag.mono hle gU
  exact ag.mono hle gU
 .rename_i k;split
  .rename_i hm;split;.rename_i es ak;cases ag;exact .d _ _ (ahd h ak hm)
   exact ag.mono hle gU
  exact ag.mono hle gU
 exact ag.mono hle gU
def QX(h:Den m fr ρ σ a w){cs:List aS}{vs:Array Value}(aq:vs.size=cs.length)(bO:∀(i:Nat)(c:aS)(v:Value),cs[i]?=some c->vs[i]?=some v->b4 m ρ σ.used c v):vs.size=(cs.map (wL σ.objs ks)).length/\∀(i:Nat)(c:aS)(v:Value),(cs.map (wL σ.objs ks))[i]?=some c->vs[i]?=some v->b4 (Den.part m ρ ks w) ρ (freeze ks σ).used c v:=by refine⟨by simpa using aq,?_⟩;intro i c v an a3;simp only[xaj,xah]at an;obtain⟨y,aJ,rfl⟩:=an;exact Yx h (bO i y v aJ a3)
def Yy(h:Den m fr ρ σ a w){x:aS}{v:Value}(ag:b4 m ρ σ.used x v):b4 (Den.part m ρ ks w) ρ (freeze ks σ).used (Ll σ.objs ks x) v:=by
 unfold Ll;split
 .cases ag with|agg _ vs aq bO=>
  obtain⟨ab,af⟩:=QX (ks:=ks) h aq bO;exact J1 (.agg _ _ ab af)
 .cases ag with|fn _ _ _ vs ws aq dE bO x8=>
  obtain⟨ab,af⟩:=QX (ks:=ks) h aq bO;obtain⟨aw,a4⟩:=QX (ks:=ks) h dE x8;exact .fn _ _ _ _ _ ab aw af a4
 exact Yx h ag
def ajS(ks:List Key)(eP:ks.all (QW σ.objs)=true):g6 σ (freeze ks σ):=by
 intro m fr ρ a w h;have hle:=Den.sG m ρ ks w;have ej:∀k∈ks,(k<10000/\∃n es,σ.objs k=some (.row n es))\/(k<10000/\∃es,σ.objs k=some (.map es))\/(k<10000/\∃cs,σ.objs k=some (.box cs)):=by
  intro k ak;have:=xaA.1 eP k ak;unfold QW at this;split at this
  .rename_i n es e;exact .inl ⟨xba this,n,es,e⟩
  .rename_i es e;exact .inr (.inl ⟨xba this,es,e⟩)
  .rename_i cs e;simp only[xam,xaE]at this;exact .inr (.inr ⟨this.1,cs,e⟩)
  cases this
 have own:∀k∈ks,∃o,σ.objs k=some o/\o.owns=true:=by
  intro k ak;rcases ej k ak with⟨_,n,es,e⟩|⟨_,es,e⟩|⟨_,cs,e⟩
  .exact⟨_,e,rfl⟩
  .exact⟨_,e,rfl⟩
  exact⟨_,e,rfl⟩
 have im:∀b,Den.part m ρ ks w b=m b\/∃k∈ks,blockOf (ρ k)=some b/\Den.part m ρ ks w b=w.heap[b]?:=by
  intro b;unfold Den.part;cases hm:m b with
  |some x=>exact .inl rfl
  |none=>
   simp only;by_cases an:∃k∈ks,blockOf (ρ k)=some b;.rw[xad an];obtain⟨k,ab,af⟩:=an;exact .inr ⟨k,ab,af,rfl⟩
   rw[xac an];exact .inl rfl
 have nS:∀k o,(freeze ks σ).objs k=some o->o.owns=true->k∉ks/\∃dU,σ.objs k=some dU/\o=Fp σ.objs ks dU/\dU.owns=true:=by
  intro k o ak aF;unfold freeze at ak;simp only at ak;split at ak;.cases ak;cases aF
  rename_i aN;obtain⟨dU,ab,rfl⟩:=xah.1 ak;refine⟨aN,dU,ab,rfl,?_⟩;cases dU<;>first|rfl|exact aF
 refine⟨Den.part m ρ ks w,ρ,hle,⟨?_,h.frame,?_,?_,?_,?_,?_,?_⟩,?_⟩
 .intro b o aj;rcases im b with e|⟨k,_,_,e⟩
  .rw[e]at aj;exact h.mem b o aj
  rw[e]at aj;exact aj
 .intro b aj;rcases im b with e|⟨k,ab,af,e⟩
  .rw[e]at aj;exact h.apart b aj
  obtain⟨o,aw,a4⟩:=own k ab;exact(h.own k o b aw a4 af).2
 .rintro k ⟨o,aF⟩;unfold freeze at aF;simp only at aF;split at aF;.rename_i ak;obtain⟨o,aw,a4⟩:=own k ak;exact h.one k ⟨o,aw⟩
  obtain⟨dU,ab,rfl⟩:=xah.1 aF;exact h.one k ⟨dU,ab⟩
 .intro t;exact Yy h (h.aM t)
 .intro k o ak;have fU:=ak;unfold freeze at ak;simp only at ak;split at ak
  .cases ak;trivial
  obtain⟨dU,ab,rfl⟩:=xah.1 ak;have af:=h.objs k dU ab;cases dU with
  |dead=>trivial|box cs=>obtain⟨b,vs,T,aO,aX,bQ,cO⟩:=af;refine⟨b,vs,T,aO,aX,by simpa using bQ,?_⟩;intro i c x an ag;simp only[xaj,xah]at an;obtain⟨y,aJ,rfl⟩:=an;exact Yy h (cO i y x aJ ag)
  |row n es=>
   rcases af with⟨aO,aX⟩|⟨b,o,cap,vs,dT,aO,aX,bQ,cO,eb,fq⟩;.exact .inl ⟨aO,aX⟩
   exact .inr ⟨b,o,cap,vs,dT,aO,aX,bQ,cO,eb,λi e j c ah aP=>by obtain⟨x,aW,a2⟩:=fq i e j c ah aP;exact⟨x,aW,a2.mono hle⟩⟩
  |map es=>obtain⟨r,dw,clock,aO,aX,bQ,cO,eb⟩:=af;exact⟨r,dw,clock,aO,aX,bQ,cO,λi e x he ag=>(eb i e x he ag).mono hle⟩
 .intro k o b ak aF aj;obtain⟨aN,dU,ab,rfl,af⟩:=nS k o ak aF;have aw:=h.own k dU b ab af aj;refine⟨?_,aw.2⟩;rcases im b with e|⟨br,a4,b6,e⟩
  .rw[e];exact aw.1
  obtain⟨o',cP,gE⟩:=own br a4;exact absurd b6 (h.sep k br dU o' b (by rintro rfl;exact aN a4) ab cP af gE aj)
 .intro k br o o' b cK ak fU aF oK aj;obtain⟨aN,dU,ab,rfl,af⟩:=nS k o ak aF;obtain⟨PN,Fq,e3,rfl,h8⟩:=nS br o' fU oK;exact h.sep k br dU Fq b cK ab e3 af h8 aj
 intro k ak aj;refine⟨?_,rfl⟩;have aN:k∉ks:=by
  intro hm;rcases ej k hm with⟨cu,_⟩|⟨cu,_⟩|⟨cu,_⟩
  .exact absurd ak (Nat.not_le.2 cu)
  .exact absurd ak (Nat.not_le.2 cu)
  exact absurd ak (Nat.not_le.2 cu)
 show eZ (if k∈ks then some .dead else(σ.objs k).map (Fp σ.objs ks));rw[xac aN];rcases aj with⟨c,an⟩|⟨n,es,an⟩|⟨es,an⟩
 .rw[an];exact ur
 .rw[an];exact sJ
 rw[an];exact v9
end
def yy{β:Type}:List (List Key)->aK->(aK->Option β)->Option β
 |[],σ,k=>k σ|ks::r,σ,k=>match ks with|[]=>yy r σ k|_=>if ks.all (QW σ.objs)=true then yy r (freeze ks σ) k else none
def Ft{β:Type}(t:Tmp)(σ:aK)(k:aK->Option β):Option β:=match σ.aM t with
 | .sub key cR i len=>match σ.objs key,σ.objs t with
  |some (.row br es),none=>if cR=br/\key<10000/\t<10000 then aD (decide (i+len<=es.length)) (k ⟨ct σ.aM t (.row t),ct (ct σ.objs key (some .dead)) t (some (.row cR ((es.drop i).take len)))⟩)else none
  |_,_=>none
 |_=>none
def ajT{σ:aK}{t key cR i len:Nat}{es:List (List D)}(aL:σ.aM t= .sub key cR i len)(ak:σ.objs key=some (.row cR es))(ar:σ.objs t=none)(hle:i+len<=es.length)(pJ:key<10000):g6 σ ⟨ct σ.aM t (.row t),ct (ct σ.objs key (some .dead)) t (some (.row cR ((es.drop i).take len)))⟩:=by
 intro m fr ρ a w h;have cK:key≠t:=by rintro rfl;rw[ak]at ar;cases ar
 have b2:((es.drop i).take len).length=len:=by simp;omega
 have BE:∀j o,(ct (ct σ.objs key (some .dead)) t (some (.row cR ((es.drop i).take len)))) j=some o->(j=t/\o= .row cR ((es.drop i).take len))\/(j=key/\o= .dead)\/(j≠t/\j≠key/\σ.objs j=some o):=by
  intro j o aP;by_cases ab:j=t;.subst ab;rw[fa]at aP;cases aP;exact .inl ⟨rfl,rfl⟩
  rw[cZ _ _ ab]at aP;by_cases af:j=key;.subst af;rw[fa]at aP;cases aP;exact .inr (.inl ⟨rfl,rfl⟩)
  rw[cZ _ _ af]at aP;exact .inr (.inr ⟨ab,af,aP⟩)
 let v:=a.tmps.getD t undef
 have a3:=h.aM t;rw[aL]at a3;have EK:∀k,σ.used k->aK.used ⟨ct σ.aM t (.row t),ct (ct σ.objs key (some .dead)) t (some (.row cR ((es.drop i).take len)))⟩ k/\ct ρ t v k=ρ k:=by
  rintro k ⟨o,aF⟩;have v3:k≠t:=by rintro rfl;rw[aF]at ar;cases ar
  refine⟨?_,cZ _ _ v3⟩;by_cases af:k=key;.subst af;exact⟨.dead,by simp only[cZ _ _ v3,fa]⟩
  exact⟨o,by simp only[cZ _ _ v3,cZ _ _ af];exact aF⟩
 have piece:kh v=true/\(blockOf v=none\/blockOf v=blockOf (ρ key))/\jA m (ct ρ t v) (aK.used ⟨ct σ.aM t (.row t),ct (ct σ.objs key (some .dead)) t (some (.row cR ((es.drop i).take len)))⟩) v w (.row cR ((es.drop i).take len)):=by
  have mR:=h.objs key _ ak;generalize ajU:a.tmps.getD t undef=u at a3;have ajV:v=u:=ajU;rw[ajV];cases a3 with
  |kA _ _ _ hu av=>exact⟨rfl,.inl rfl,.inl ⟨rfl,by simp⟩⟩
  |sub _ _ _ _ b o L cap iA hu av Pu aE=>
   refine⟨rfl,.inr (by rw[av];rfl),?_⟩;rcases mR with⟨aO,aX⟩|⟨b',o',po,vs,dT,aO,aX,bQ,cO,eb,fq⟩
   .rw[av]at aO;cases aO
   rw[av]at aO;cases aO;refine .inr ⟨b,iA,cap-i,vs,dT,by rw[b2],aX,by rw[b2];omega,?_,?_,?_⟩
   .by_cases QY:i<cap
    .rw[aE.1 QY,xbj,<-xaU];have:i+(cap-i)=cap:=by omega
     rw[this];exact cO
    have:cap-i=0:=by omega
    rw[this,Nat.zero_mul];have:=aE.2;omega
   .intro e he;exact eb e (xbt (xbo he))
   intro p e j c aT aP;rw[xaQ]at aT;split at aT
   case isFalse=>cases aT
   rename_i kD;rw[xaZ]at aT;obtain⟨x,aW,a2⟩:=fq (i+p) e j c aT aP;have QY:i<cap:=by have:=(xae.1 aT).1;omega
   refine⟨x,?_,a2⟩;rw[aE.1 QY];have:o+i*cR+p*cR+j=o+(i+p)*cR+j:=by rw[xaU];omega
   rw[this];exact aW
 obtain⟨dy,dg,eW⟩:=piece;refine⟨m,ct ρ t v,Mem.le_refl m,⟨h.mem,h.frame,h.apart,?_,?_,?_,?_,?_⟩,?_⟩
 .rintro k ⟨o,aF⟩;rcases BE k o aF with⟨rfl,_⟩|⟨rfl,_⟩|⟨ab,af,aw⟩;.rw[fa];exact dy
  .rw[cZ _ _ cK];exact h.one _ ⟨_,ak⟩
  rw[cZ _ _ ab];exact h.one _ ⟨_,aw⟩
 .intro s;by_cases aG:s=t;.subst aG;simp only[fa];have:b4 m (ct ρ s v) (aK.used ⟨ct σ.aM s (.row s),ct (ct σ.objs key (some .dead)) s (some (.row cR ((es.drop i).take len)))⟩) (.row s) (ct ρ s v s):= .row s ⟨_,fa _ _ _⟩;rw[fa]at this;exact this
  simp only[cZ _ _ aG];exact(h.aM s).mono (Mem.le_refl m) EK
 .intro k o fU;rcases BE k o fU with⟨rfl,rfl⟩|⟨rfl,rfl⟩|⟨ab,af,aw⟩
  .rw[fa];exact eW
  .trivial
  rw[cZ _ _ ab];exact(h.objs k o aw).mono (Mem.le_refl m) EK (λb _ _=>rfl)
 .intro k o b fU aF aj;rcases BE k o fU with⟨rfl,rfl⟩|⟨rfl,rfl⟩|⟨ab,af,aw⟩
  .rw[fa]at aj;rcases dg with dg|dg
   .rw[dg]at aj;cases aj
   exact h.own key _ b ak rfl (by rw[<-dg];exact aj)
  .cases aF
  rw[cZ _ _ ab]at aj;exact h.own k o b aw aF aj
 .intro k br o o' b dj fU Yz aF oK aj;rcases BE k o fU with⟨rfl,rfl⟩|⟨rfl,rfl⟩|⟨ab,af,aw⟩
  .rcases BE br o' Yz with⟨rfl,rfl⟩|⟨rfl,rfl⟩|⟨e3,h8,iK⟩;.exact absurd rfl dj
   .cases oK
   rw[fa]at aj;rw[cZ _ _ e3];rcases dg with dg|dg
   .rw[dg]at aj;cases aj
   exact h.sep key br _ o' b (Ne.symm h8) ak iK rfl oK (by rw[<-dg];exact aj)
  .cases aF
  rw[cZ _ _ ab]at aj;rcases BE br o' Yz with⟨rfl,rfl⟩|⟨rfl,rfl⟩|⟨e3,h8,iK⟩
  .rw[fa];rcases dg with dg|dg
   .rw[dg];exact λbO=>by cases bO
   rw[dg];exact h.sep k key o _ b af aw ak aF rfl aj
  .cases oK
  rw[cZ _ _ e3];exact h.sep k br o o' b dj aw iK aF oK aj
 intro k fU aj;have v3:k≠t:=by rintro rfl;rw[ar]at aj;exact uu aj
 have dj:k≠key:=by rintro rfl;exact absurd pJ (Nat.not_lt.2 fU)
 exact⟨by simp only[cZ _ _ v3,cZ _ _ dj];exact aj,cZ _ _ v3⟩
def wM(φ:Key->Key):aS->aS
 | .any=> .any| .d x=> .d x| .eA cs off=> .eA cs off| .ptr k off=> .ptr (φ k) off| .gB k cR i off=> .gB (φ k) cR i off| .row k=> .row (φ k)| .sub k cR i len=> .sub (φ k) cR i len| .map k=> .map (φ k)|_=> .any
def Fu(φ:Key->Key):aS->aS
 | .agg cs=> .agg (cs.map (wM φ))| .aZ cs=> .aZ (cs.map (wM φ))| .fn f as kl=> .fn f (as.map (wM φ)) (kl.map (wM φ))|x=>wM φ x
def uK(φ:Key->Key):cS->cS
 | .box cs=> .box (cs.map (Fu φ))|o=>o
section
variable{m:Mem}{ρ cV:dp}{U nj:Key->Prop}{φ:Key->Key}
def YA(h:∀k,U k->nj (φ k)/\cV (φ k)=ρ k){x:aS}{v:Value}(ag:b4 m ρ U x v):b4 m cV nj (wM φ x) v:=by cases ag with|any v=>exact .any _|d x v ag=>exact .d _ _ ag|agg=>exact .any _|aZ=>exact .any _|eA cs off b o vs T eL hm xs ab af=>exact .eA _ _ b o vs T eL hm xs ab af|ptr k off b hu av=>exact .ptr _ _ b (h k hu).1 ((h k hu).2.trans av)|gB k cR i off b o len cap hu av=>exact .gB _ _ _ _ b o len cap (h k hu).1 ((h k hu).2.trans av)|row k hu=>rw[<-(h k hu).2];exact .row _ (h k hu).1|sub k cR i len b o L cap a hu av hle aE=>exact .sub _ _ _ _ b o L cap a (h k hu).1 ((h k hu).2.trans av) hle aE|kA k cR i hu av=>exact .kA _ _ _ (h k hu).1 ((h k hu).2.trans av)|map k hu=>rw[<-(h k hu).2];exact .map _ (h k hu).1|fn=>exact .any _
def Lm(h:∀k,U k->nj (φ k)/\cV (φ k)=ρ k){cs:List aS}{vs:Array Value}(aq:vs.size=cs.length)(bO:∀(i:Nat)(c:aS)(v:Value),cs[i]?=some c->vs[i]?=some v->b4 m ρ U c v):vs.size=(cs.map (wM φ)).length/\∀(i:Nat)(c:aS)(v:Value),(cs.map (wM φ))[i]?=some c->vs[i]?=some v->b4 m cV nj c v:=by refine⟨by simpa using aq,?_⟩;intro i c v an a3;simp only[xaj,xah]at an;obtain⟨y,aJ,rfl⟩:=an;exact YA h (bO i y v aJ a3)
def YB(h:∀k,U k->nj (φ k)/\cV (φ k)=ρ k){x:aS}{v:Value}(ag:b4 m ρ U x v):b4 m cV nj (Fu φ x) v:=by
 unfold Fu;split
 .cases ag with|agg _ vs aq bO=>
  obtain⟨ab,af⟩:=Lm h aq bO;exact .agg _ _ ab af
 .cases ag with|aZ _ vs aq bO=>
  obtain⟨ab,af⟩:=Lm h aq bO;exact .aZ _ _ ab af
 .cases ag with|fn _ _ _ vs ws aq dE bO x8=>
  obtain⟨ab,af⟩:=Lm h aq bO;obtain⟨aw,a4⟩:=Lm h dE x8;exact .fn _ _ _ _ _ ab aw af a4
 exact YA h ag
def ajW(h:∀k,U k->nj (φ k)/\cV (φ k)=ρ k){o:cS}{v:Value}{w:World}(aF:jA m ρ U v w o):jA m cV nj v w (uK φ o):=by
 cases o with
 |dead=>trivial|box cs=>obtain⟨b,vs,T,aO,aX,bQ,cO⟩:=aF;refine⟨b,vs,T,aO,aX,by simpa using bQ,?_⟩;intro i c x an ag;simp only[xaj,xah]at an;obtain⟨y,aJ,rfl⟩:=an;exact YB h (cO i y x aJ ag)
 |row=>exact aF|map=>exact aF
theorem ajX{o:cS}:(uK φ o).owns=o.owns:=by cases o<;>rfl
end
def ajY:Act:={tmps:= #[],defers:=[]}
def Ln(m:Mem)(fr:fP)(ρ:dp)(E:cG)(w:World):Prop:=Den m fr ρ ⟨λ_=> .any,E⟩ ajY w
def rr(E:cG)(k:Key):Prop:=∃o,E k=some o
structure fW where
 f:FuncId
 args:List lI
 ins:List (Key×l4)
 res:lI
 outs:List (Key×l4)
def fW.wN(s:fW)(ls:List D):List aS:=(rq ls s.args 0).1
def fW.n0(s:fW)(ls:List D):List (Key×cS):=(oQ ls s.ins (rq ls s.args 0).2).1
def fW.Lo(s:fW)(ls:List D):aS:=(pI ls s.res 0).1
def fW.pK(s:fW)(ls:List D):List (Key×cS):=(oQ ls s.outs (pI ls s.res 0).2).1
structure fb(P:Program)(G:dt)(s:fW)(F:List D->Option (List D)):Prop where
 fn:v8 P s.f
 run:∀ls fy,F ls=some fy->∀(m:Mem)(fr:fP)(ρ:dp)(w:World)(vs:List Value),kB G m->Ln m fr ρ (fG (s.n0 ls)) w->vs.length=(s.wN ls).length->(∀(i:Nat)(x:aS)(v:Value),(s.wN ls)[i]?=some x->vs[i]?=some v->b4 m ρ (rr (fG (s.n0 ls))) x v)->Calls P s.f vs.toArray w λe w'=>∃v cF cV,e= .returned v/\m.le cF/\Ln cF fr cV (fG (s.pK fy)) w'/\b4 cF cV (rr (fG (s.pK fy))) (s.Lo fy) v/\ ∀k,10000<=k->eZ (fG (s.n0 ls) k)->cV k=ρ k
def ru(cm:List (Key×Key))(base:Nat)(k:Key):Key:=if 10000<=k then gi cm k else base+(k-9000)
def wO(objs:cG)(dead:List Key)(outs:List (Key×cS)):cG:=λp=>match fG outs p with|some o=>some o|none=>if p∈dead then some .dead else objs p
def ajZ:l4->Bool
 | .row _=>true| .map=>true|_=>false
def YC(objs:cG)(cm:List (Key×Key))(base:Nat)(s:fW):Bool:=yk (gi cm) (s.ins.map (·.1))&&yk (ru cm base) (s.outs.map (·.1))&&decide ((s.ins.map (·.1)).Nodup)&&decide ((s.outs.map (·.1)).Nodup)&&s.outs.all (λp=>if 10000<=p.1 then s.ins.any (λq=>q.1==p.1&&BB q.2)else decide (9000<=p.1)&&decide (ru cm base p.1<10000)&&(objs (ru cm base p.1)).isNone)&&s.ins.all (λq=>if 10000<=q.1 then BB q.2&&s.outs.any (λp=>p.1==q.1&&BB p.2)else ajZ q.2&&decide (gi cm q.1<10000))
section
variable{β:Type}
def QZ(G:dt)(s:fW)(F:List D->Option (List D))(base:Nat)(σ:aK)(o:Oper)(x:Operand)(args:List Operand)(k:aK->Option β):Option β:=match wb (ch G σ.aM x)with
 |some (f,pre,post)=>
  if f=s.f then
   let uv:=pre++args.map (ch G σ.aM)++post
   let cm:=Bz σ s.ins (Ld uv s.args)
   let ks:=s.ins.map (·.1)
   if YC σ.objs cm base s=true then
    match uJ (Lg cm ks uv s.args) (Lh cm ks σ s.ins)with|some ls=>aa (F ls) λfy=>k (aK.put ⟨σ.aM,wO σ.objs (ks.map (gi cm)) ((s.pK fy).map λp=>(ru cm base p.1,uK (ru cm base) p.2))⟩ o.dst (Fu (ru cm base) (s.Lo fy)))|none=>none
   else none
  else none
 |none=>none
end
section
variable{P:Program}{T:cg}{G:dt}{m:Mem}{fr:fP}{ρ:dp}{σ:aK}{a:Act}{w:World}{N:Nat}
def aj0(c4:kB G m)(h:Den m fr ρ σ a w){o:Oper}{x:Operand}{args:Array Operand}{dI:Array TypeId}(eM:o.op= .call ⟨.value x,args,dI⟩){f:FuncId}{pre post:List aS}(g0:wb (ch G σ.aM x)=some (f,pre,post))(ba:v8 P f): ∃vs:List Value,vs.length=(pre++args.toList.map (ch G σ.aM)++post).length/\(∀(i:Nat)(c:aS)(v:Value),(pre++args.toList.map (ch G σ.aM)++post)[i]?=some c->vs[i]?=some v->b4 m ρ σ.used c v)/\(execOp a.eval o).run P w= .ok (.enter f vs.toArray) w:=by
 have dz:=Eu (a:=a) c4 h.aM;have ag:=dz x;have PU:∃first cap,a.eval x= .func (.func f) first cap/\first.size=pre.length/\cap.size=post.length/\(∀(i:Nat)(c:aS)(v:Value),pre[i]?=some c->first[i]?=some v->b4 m ρ σ.used c v)/\(∀(i:Nat)(c:aS)(v:Value),post[i]?=some c->cap[i]?=some v->b4 m ρ σ.used c v):=by
  unfold wb at g0;split at g0
  .rename_i kG first cap he
   split at g0
   case isFalse=>cases g0
   rename_i ar;cases g0;rw[he]at ag;exact⟨first,cap,ag.hZ,by simpa using ar.1,by simpa using ar.2,by intro i c v an;simp at an,by intro i c v an;simp at an⟩
  .rename_i kG first cap he
   cases g0;rw[he]at ag;generalize a.eval x=u at ag;cases ag with|fn _ _ _ vs ws aq dE g lC=>exact⟨vs,ws,rfl,aq,dE,g,lC⟩
  .rename_i kG first cap he
   cases g0;rw[he]at ag;have ag:=ag.oC;generalize a.eval x=u at ag;cases ag with|fn _ _ _ vs ws aq dE g lC=>
   refine⟨vs,ws,rfl,by simpa using aq,by simpa using dE,?_,?_⟩;.intro i c v an a3;simp only[xaj,xah]at an;obtain⟨y,aJ,rfl⟩:=an;exact .d _ _ (g i y v aJ a3)
   intro i c v an a3;simp only[xaj,xah]at an;obtain⟨y,aJ,rfl⟩:=an;exact .d _ _ (lC i y v aJ a3)
  .cases g0
 obtain⟨first,cap,vT,nO,qh,aW,a2⟩:=PU;refine⟨(first++args.map a.eval++cap).toList,by simp[nO,qh],?_,?_⟩
 .intro i c v an a3;simp only[Array.toList_append,Array.toList_map]at a3;have aO:first.toList.length=pre.length:=by simpa using nO
  by_cases ab:i<pre.length;.rw[xaT,xaJ ab]at an;rw[xaT,xaJ (by omega)]at a3;exact aW i c v an (by simpa using a3)
  by_cases af:i<pre.length+args.size;.rw[xaJ (by simp;omega),xaH (by omega)]at an;rw[xaJ (by simp;omega),xaH (by omega),aO]at a3;simp only[xaj,xah]at an a3;obtain⟨p,aT,rfl⟩:=an;obtain⟨q,bj,rfl⟩:=a3;rw[aT]at bj;cases bj;exact dz _
  rw[xaH (by simp;omega)]at an;rw[xaH (by simp;omega)]at a3;refine a2 _ c v an ?_;rw[<-a3];simp only[xaO,xaS,xcd,nO];simp
 unfold execOp;rw[eM];simp only[Array.toArray_toList];exact W2 vT ba
def YD{φ:Key->Key}:∀{lo:List (Key×cS)} {p:Key} {o:cS},fG (lo.map λq=>(φ q.1,uK φ q.2)) p=some o->∃k dU,k∈mw lo/\φ k=p/\o=uK φ dU/\((mw lo).Nodup->fG lo k=some dU)
 |[],p,o,h=>by cases h
 |(j,x)::r,p,o,h=>by
  simp only[xaz,fG]at h;split at h;.rename_i e;cases h;exact⟨j,x,by simp[mw],e.symm,rfl,λ_=>by simp[fG]⟩
  obtain⟨k,dU,ab,af,aw,a4⟩:=YD h;refine⟨k,dU,?_,af,aw,?_⟩;.simp only[mw,xaz,xal]at ab⊢;exact .inr ab
  intro aN;simp only[mw,xaz,List.nodup_cons]at aN ab;have cK:k≠j:=by rintro rfl;exact aN.1 ab
  simp only[fG,xac cK];exact a4 aN.2
def Q0{φ:Key->Key}:∀{lo:List (Key×cS)} {k:Key},k∈mw lo->∃o,fG (lo.map λq=>(φ q.1,uK φ q.2)) (φ k)=some o
 |[],k,h=>by cases h
 |(j,x)::r,k,h=>by
  simp only[xaz,fG];split;.exact⟨_,rfl⟩
  rename_i cK;simp only[mw,xaz,xal]at h;rcases h with rfl|h
  .exact absurd rfl cK
  exact Q0 h
def YE{ls:List D}{l:List (Key×l4)}{n:Nat}{k:Key}(aN:(l.map (·.1)).Nodup){q:Key×l4}(bj:q∈l)(ak:q.1=k)(aj:BB q.2=true):eZ (fG (oQ ls l n).1 k):=by obtain⟨a,b⟩:=q;simp only at ak aj;subst ak;exact QV ls l n _ aN ⟨_,bj,aj⟩
def aj1{φ:Key->Key}{U:Key->Prop}{o o':cS}(h:yi φ U o' o)(aj:eZ (some o)):eZ (some o'):=by
 cases o with
 |dead=>exact absurd aj EM|box=>obtain⟨xs,rfl,_⟩:=h;exact ur
 |row=>obtain⟨es,rfl,_⟩:=h;exact sJ
 |map=>cases o'<;>first|exact v9|exact h.elim|cases h
def aj2(c4:kB G m)(h:Den m fr ρ σ a w)(bX:N<=a.tmps.size)(hD:a.defers=[]){o:Oper}(g5:∀d,o.dst=some d->d<N){s:fW}{F:List D->Option (List D)}(bm:fb P G s F){base:Nat} {x:Operand} {args:Array Operand} {dI:Array TypeId} (aF:o.op= .call ⟨.value x,args,dI⟩) {β:Type} {k:aK->Option β} {b:β} (an:QZ G s F base σ o x args.toList k=some b) {Q:Exit->Act->World->Prop}:o.wp P a w (iU N m fr ρ σ (λaV=>k aV=some b/\∀p,10000<=p->eZ (aV.objs p)->eZ (σ.objs p))) Q:=by
 have iB:∀d,o.dst=some d->d<a.tmps.size:=λd ay=>Nat.lt_of_lt_of_le (g5 d ay) bX;have sK:∀v,N<=(a.put o.dst v).tmps.size:=by intro v;cases o.dst<;>simpa[Act.put]using bX
 have mq:∀v,(a.put o.dst v).defers=[]:=by intro v;cases o.dst<;>exact hD
 unfold QZ at an;split at an
 case h_2=>cases an
 rename_i f pre post g0;split at an
 case isFalse=>cases an
 rename_i ba;subst ba;simp only at an;generalize aAd:Bz σ s.ins (Ld (pre++args.toList.map (ch G σ.aM)++post) s.args)=cm at an;generalize aj3:pre++args.toList.map (ch G σ.aM)++post=uv at an;split at an
 case isFalse=>cases an
 rename_i YF;split at an
 case h_2=>cases an
 rename_i ls BC;obtain⟨fy,h2,ak⟩:=fx an;simp only[YC,xam,xaA,xaE]at YF;obtain⟨⟨⟨⟨⟨bU,bY⟩,cv⟩,dm⟩,eu⟩,ew⟩:=YF;obtain⟨ao,bc,aO,aX,rfl⟩:=yv BC;have g8:l5 (ao++bc) 0 (ao++bc):=λj d aP=>by rw[xax];exact aP
 have Q1:mw (s.n0 (ao++bc))=s.ins.map (·.1):=yw _ _ _;have Q2:mw (s.pK fy)=s.outs.map (·.1):=yw _ _ _;have gU:∀k,(s.ins.map (·.1)).contains k=true->rr (fG (s.n0 (ao++bc))) k:=by intro k ak;exact Li (by rw[Q1];simpa using ak)
 obtain⟨bz,bA⟩:=QT gU aO g8.left;have av:=g8.right;rw[<-bA]at av;obtain⟨cx,eo⟩:=QU gU aX av;have cx:yj (gi cm) (rr (fG (s.n0 (ao++bc)))) σ (s.n0 (ao++bc)):=cx;have aj4:∀k j,k∈s.ins.map (·.1)->j∈s.ins.map (·.1)->gi cm k=gi cm j->k=j:=KS bU;have YG:∀k j,k∈s.outs.map (·.1)->j∈s.outs.map (·.1)->ru cm base k=ru cm base j->k=j:=KS bY;have jE:∀{o o':cS},yi (gi cm) (rr (fG (s.n0 (ao++bc)))) o' o->o.owns=true->o'.owns=true:=by
  intro o o' hle aF;cases o with
  |dead=>cases aF
  |box=>obtain⟨xs,rfl,_⟩:=hle;rfl
  |row=>obtain⟨es,rfl,_⟩:=hle;rfl
  |map=>cases hle;rfl
 have Q3:∀{k o},fG (s.n0 (ao++bc)) k=some o->k∈s.ins.map (·.1):=λak=>by rw[<-Q1];exact wx ak
 have aj5:∀{k o},fG (s.pK fy) k=some o->k∈s.outs.map (·.1):=λak=>by rw[<-Q2];exact wx ak
 let passed:Key->Prop:=λp=>∃k,k∈s.ins.map (·.1)/\gi cm k=p
 let Fv:Mem:=λb=>match fr b with|some o=>some o|none=>open Classical in if∃k o,σ.objs k=some o/\o.owns=true/\¬passed k/\blockOf (ρ k)=some b then w.heap[b]? else none
 let uL:fP:=⟨Fv,fr.os,fr.out,fr.low⟩
 have Lp:∀b o,fr b=some o->uL b=some o:=by intro b o aj;simp only[uL,Fv,aj]
 have Lq:∀b k o,σ.objs k=some o->o.owns=true->¬passed k->blockOf (ρ k)=some b->uL b=w.heap[b]?:=by intro b k o ab af aw a4;have b6:=(h.own k o b ab af a4).2;simp only[uL,Fv,b6];rw[xad ⟨k,o,ab,af,aw,a4⟩]
 have YH:∀b,uL b≠none->fr b≠none\/∃k o,σ.objs k=some o/\o.owns=true/\¬passed k/\blockOf (ρ k)=some b:=by intro b aj;cases ba:fr b with|some o=>exact .inl (by simp)|none=>refine .inr ?_;refine xbz λyz=>aj ?_;simp only[uL,Fv,ba];rw[xac yz]
 have E1:Ln m uL (λk=>ρ (gi cm k)) (fG (s.n0 (ao++bc))) w:=by
  refine⟨h.mem,⟨?_,⟨h.frame.quiet.os,h.frame.quiet.out,h.frame.quiet.low,h.frame.quiet.su⟩⟩,?_,?_,λ_=> .any _,?_,?_,?_⟩
  .intro b o aj;cases ba:fr b with
   |some o'=>rw[Lp b o' ba]at aj;cases aj;exact h.frame.qg b _ ba
   |none=>
    simp only[uL,Fv,ba]at aj;split at aj;.exact aj
    cases aj
  .intro b aj;refine xbz λyz=>?_;rcases YH b yz with ab|⟨k,o,ab,af,aw,a4⟩
   .exact ab (h.apart b aj)
   exact aj (h.own k o b ab af a4).1
  .rintro k ⟨o,mx⟩;obtain⟨o',ab,_⟩:=cx.ok k o mx;exact h.one _ ⟨o',ab⟩
  .intro k o mx;obtain⟨o',ab,af⟩:=cx.ok k o mx;have aw:=h.objs _ _ ab;cases o with
   |dead=>trivial|box c6=>obtain⟨xs,rfl,hle⟩:=af;obtain⟨b,vs,T,aO,aX,bQ,cO⟩:=aw;have:=sO.cells hle ⟨bQ,cO⟩;exact⟨b,vs,T,aO,aX,this.1,this.2⟩
   |row cR dq=>obtain⟨es,rfl,hle⟩:=af;exact hle.ok aw
   |map es=>cases af;exact aw
  .intro k o b mx KT aj;obtain⟨o',ab,af⟩:=cx.ok k o mx;have aw:=h.own _ o' b ab (jE af KT) aj;refine⟨aw.1,?_⟩;refine xbz λyz=>?_;rcases YH b yz with a4|⟨br,my,a4,b6,cP,gE⟩
   .exact a4 aw.2
   have cK:gi cm k≠br:=by rintro rfl;exact cP ⟨k,Q3 mx,rfl⟩
   exact h.sep _ _ _ _ b cK ab a4 (jE af KT) b6 aj gE
  intro k br o o' b cK mx E3 Qa Qb aj;obtain⟨y,ab,af⟩:=cx.ok k o mx;obtain⟨Pw,e3,h8⟩:=cx.ok br o' E3;exact h.sep (gi cm k) (gi cm br) y Pw b (λe=>cK (aj4 k br (Q3 mx) (Q3 E3) e)) ab e3 (jE af Qa) (jE h8 Qb) aj
 obtain⟨vs,v1,v2,rv⟩:=aj0 (P:=P) c4 h aF g0 bm.fn;rw[aj3]at v1 v2;obtain⟨jZ,kF⟩:=bz.ok;have sM:=bm.run _ _ h2 m uL _ w vs c4 E1 (v1.trans jZ.symm) (by intro i y v aJ a3;obtain⟨YI,aj6,hle⟩:=kF i y aJ;exact hle.ok (v2 i YI v aj6 a3))
 unfold Oper.wp;rw[rv];refine sM.mono λe w' he=>?_;obtain⟨v,cF,cV,rfl,uM,l6,Bo,aj7⟩:=he;generalize YJ:ru cm base=φ at*
 let uN:=(s.pK fy).map λp=>(φ p.1,uK φ p.2)
 let objs':=wO σ.objs ((s.ins.map (·.1)).map (gi cm)) uN
 let lB:dp:=λp=>match(s.outs.map (·.1)).find? (λk=>φ k==p)with|some k=>cV k|none=>ρ p
 have Q4:∀k,k∈s.outs.map (·.1)->lB (φ k)=cV k:=by intro k ak;simp only[lB];cases BF:(s.outs.map (·.1)).find? (λbr=>φ br==φ k)with|none=>exact absurd (xci.1 BF k ak) (by simp)|some br=>have ab:=List.find?_some BF;simp only[xbH]at ab;rw[YG br k (List.mem_of_find?_eq_some BF) ak ab]
 have Q5:∀k,k∈s.outs.map (·.1)->(10000<=k/\k∈s.ins.map (·.1)/\φ k=gi cm k/\eZ (fG (s.n0 (ao++bc)) k))\/(σ.objs (φ k)=none/\φ k<10000):=by
  intro k ak;obtain⟨p,aT,rfl⟩:=xap.1 ak;have ab:=eu p aT;by_cases cu:10000<=p.1
  .rw[xad cu]at ab;obtain⟨q,bj,af⟩:=xbr.1 ab;simp only[xam,xbH]at af;refine .inl ⟨cu,xap.2 ⟨q,bj,af.1⟩,?_,YE cv bj af.1 af.2⟩;rw[<-YJ];simp only[ru,xad cu]
  rw[xac cu]at ab;simp only[xam,xaE,Option.isNone_iff_eq_none]at ab;exact .inr ⟨ab.2,ab.1.2⟩
 have Lr:∀p,σ.used p->lB p=ρ p:=by
  rintro p ⟨op,aT⟩;simp only[lB];cases BF:(s.outs.map (·.1)).find? (λbr=>φ br==p)with
  |none=>rfl
  |some k=>
   have ab:=List.find?_some BF;simp only[xbH]at ab;rcases Q5 k (List.mem_of_find?_eq_some BF)with⟨af,aw,a4,b6⟩|⟨af,_⟩
   .simp only;rw[aj7 k af b6,<-a4,ab]
   rw[ab,aT]at af;cases af
 have Fw:∀p op,fG uN p=some op->∃k dU,k∈s.outs.map (·.1)/\φ k=p/\op=uK φ dU/\fG (s.pK fy) k=some dU:=by intro p op aT;obtain⟨k,dU,ab,af,aw,a4⟩:=YD aT;rw[Q2]at ab a4;exact⟨k,dU,ab,af,aw,a4 dm⟩
 have YK:∀k,rr (fG (s.pK fy)) k->rr objs' (φ k)/\lB (φ k)=cV k:=by rintro k ⟨dU,ab⟩;refine⟨?_,Q4 k (aj5 ab)⟩;obtain⟨g7,af⟩:=Q0 (φ:=φ) (wx ab);exact⟨g7,by simp only[objs',wO,uN,af]⟩
 have YL:∀p,σ.used p->rr objs' p/\lB p=ρ p:=by
  rintro p ⟨op,aT⟩;refine⟨?_,Lr p ⟨op,aT⟩⟩;unfold rr;simp only[objs',wO];cases aq:fG uN p with
  |some g7=>exact⟨g7,rfl⟩
  |none=>
   simp only;split;.exact⟨_,rfl⟩
   exact⟨op,aT⟩
 have Fx:∀p op,objs' p=some op->op.owns=true->(∃k dU,φ k=p/\op=uK φ dU/\fG (s.pK fy) k=some dU/\lB p=cV k/\dU.owns=true)\/(σ.objs p=some op/\¬passed p/\lB p=ρ p):=by
  intro p op aT eM;simp only[objs',wO]at aT;cases aq:fG uN p with
  |some g7=>rw[aq]at aT;cases aT;obtain⟨k,dU,ab,af,aw,a4⟩:=Fw p op aq;refine .inl ⟨k,dU,af,aw,a4,?_,by rw[aw,ajX]at eM;exact eM⟩;rw[<-af];exact Q4 k ab
  |none=>
   rw[aq]at aT;simp only at aT;split at aT;.cases aT;cases eM
   rename_i aN;refine .inr ⟨aT,?_,Lr p ⟨op,aT⟩⟩;rintro⟨k,ak,rfl⟩;exact aN (xap.2 ⟨k,ak,rfl⟩)
 have aj8:Den cF fr lB ⟨σ.aM,objs'⟩ a w':=by
  refine⟨l6.mem,⟨λb hB aj=>l6.frame.qg b hB (Lp b hB aj),⟨l6.frame.quiet.os,l6.frame.quiet.out,l6.frame.quiet.low,l6.frame.quiet.su⟩⟩,?_,?_,?_,?_,?_,?_⟩;.intro b aj;have ab:=l6.apart b aj;cases ba:fr b with|none=>rfl|some hB=>rw[Lp b hB ba]at ab;cases ab
  .rintro p ⟨op,aT⟩;simp only[objs',wO]at aT;cases aq:fG uN p with
   |some g7=>obtain⟨k,dU,ab,af,aw,a4⟩:=Fw p g7 aq;rw[<-af,Q4 k ab];exact l6.one k ⟨dU,a4⟩
   |none=>
    rw[aq]at aT;simp only at aT;have hu:σ.used p:=by
     split at aT;.rename_i hm;obtain⟨k,ak,rfl⟩:=xap.1 hm;obtain⟨ok,aj9⟩:=Li (lo:=s.n0 (ao++bc)) (k:=k) (by rw[Q1];exact ak);obtain⟨o',ab,_⟩:=cx.ok k ok aj9;exact⟨o',ab⟩
     exact⟨op,aT⟩
    rw[Lr p hu];exact h.one p hu
  .intro t;exact(h.aM t).mono uM YL
  .intro p op aT;by_cases eM:op.owns=true
   .rcases Fx p op aT eM with⟨k,dU,ab,af,aw,a4,b6⟩|⟨ab,af,aw⟩;.rw[af,a4];exact ajW YK (l6.objs k dU aw)
    rw[aw];refine(h.objs p op ab).mono uM YL ?_;intro b um kk;have a4:=Lq b p op ab eM af kk;have b6:∃hB,w.heap[b]?=some hB:=⟨_,xaq ((h.objs p op ab).ug um kk)⟩;obtain⟨hB,b6⟩:=b6;rw[b6];exact l6.frame.qg b hB (by rw[a4,b6])
   cases op with|dead=>trivial|_=>exact absurd rfl eM
  .intro p op b aT eM aj;rcases Fx p op aT eM with⟨k,dU,ab,af,aw,a4,b6⟩|⟨ab,af,aw⟩
   .rw[a4]at aj;have cP:=l6.own k dU b aw b6 aj;refine⟨cP.1,?_⟩;cases ba:fr b with|none=>rfl|some hB=>rw[Lp b hB ba]at cP;cases cP.2
   rw[aw]at aj;have a4:=h.own p op b ab eM aj;refine⟨?_,a4.2⟩;refine xbz λyz=>?_;have b6:=l6.apart b yz;rw[Lq b p op ab eM af aj]at b6;have:=(h.objs p op ab).ug eM aj;rw[xaq this]at b6;cases b6
  intro p oF op Fy b cK aT yA eM Fz aj;rcases Fx p op aT eM with⟨k,dU,ab,af,aw,a4,b6⟩|⟨ab,af,aw⟩
  .rw[a4]at aj;rcases Fx oF Fy yA Fz with⟨br,Fq,e3,h8,iK,qt,yB⟩|⟨e3,h8,iK⟩
   .rw[qt];exact l6.sep k br dU Fq b (by rintro rfl;exact cK (ab.symm.trans e3)) aw iK b6 yB aj
   rw[iK];intro g3;have cP:=(l6.own k dU b aw b6 aj).2;rw[Lq b oF Fy e3 Fz h8 g3]at cP;have:=(h.objs oF Fy e3).ug Fz g3;rw[xaq this]at cP;cases cP
  rw[aw]at aj;rcases Fx oF Fy yA Fz with⟨br,Fq,e3,h8,iK,qt,yB⟩|⟨e3,h8,iK⟩
  .rw[qt];intro g3;have cP:=(l6.own br Fq b iK yB g3).2;rw[Lq b p op ab eM af aj]at cP;have:=(h.objs p op ab).ug eM aj;rw[xaq this]at cP;cases cP
  rw[iK];exact h.sep p oF op Fy b cK ab e3 eM Fz aj
 have m1:b4 cF lB (rr objs') (Fu φ (s.Lo fy)) v:=YB YK Bo;have KK:∀p,10000<=p->eZ (objs' p)->eZ (σ.objs p):=by
  intro p aT hK;simp only[objs',wO]at hK;cases aq:fG uN p with
  |some g7=>
   obtain⟨k,dU,aW,a2,bb,cX⟩:=Fw p g7 aq;rcases Q5 k aW with⟨af,aw,a4,b6⟩|⟨_,af⟩;.obtain⟨a7,cP⟩:=Bc b6;obtain⟨o',gE,h1⟩:=cx.ok k _ cP;rw[cP]at b6;rw[<-a2,a4,gE];exact aj1 h1 b6
   rw[a2]at af;exact absurd af (Nat.not_lt.2 aT)
  |none=>
   rw[aq]at hK;simp only at hK;split at hK;.exact absurd hK EM
   exact hK
 refine⟨_,cF,lB,⟨ak,by rw[aK.wa];exact KK⟩,uM,aj8.put m1 iB,sK v,mq v,?_⟩;intro p aT aj;rw[aK.wa];obtain⟨cs,hK⟩:=Bc aj;refine⟨?_,Lr p ⟨_,hK⟩⟩;show eZ (objs' p);simp only[objs',wO];by_cases Q6:p∈(s.ins.map (·.1)).map (gi cm)
 .obtain⟨k,FA,rfl⟩:=xap.1 Q6;obtain⟨q,bj,rfl⟩:=xap.1 FA;have ab:=ew q bj;by_cases a4:10000<=q.1
  .rw[xad a4]at ab;simp only[xam,xbr,xbH]at ab;obtain⟨_,oF,yA,b6,cP⟩:=ab;have wP:q.1∈s.outs.map (·.1):=xap.2 ⟨oF,yA,b6⟩;have aka:φ q.1=gi cm q.1:=by rw[<-YJ];simp only[ru,xad a4]
   obtain⟨g7,gE⟩:=Q0 (φ:=φ) (lo:=s.pK fy) (k:=q.1) (by rw[Q2];exact wP);obtain⟨k,dU,aW,a2,bb,cX⟩:=Fw _ g7 gE;have dj:k=q.1:=YG k q.1 aW wP a2;subst dj;have iD:eZ (fG (s.pK fy) q.1):=YE (ls:=fy) (n:=(pI fy s.res 0).2) dm yA b6 cP;rw[cX]at iD;rw[<-aka];have ry:fG uN (φ q.1)=some g7:=gE;rw[ry,bb];rcases iD with⟨aAe,iD⟩|⟨qu,akb,iD⟩|⟨akb,iD⟩
   .cases iD;exact ur
   .cases iD;exact sJ
   cases iD;exact v9
  rw[xac a4]at ab;simp only[xam,xaE]at ab;exact absurd ab.2 (Nat.not_lt.2 aT)
 cases aq:fG uN p with
 |some g7=>
  exfalso;obtain⟨k,dU,aW,a2,bb,cX⟩:=Fw p g7 aq;rcases Q5 k aW with⟨af,aw,a4,b6⟩|⟨af,_⟩
  .exact Q6 (xap.2 ⟨k,aw,by rw[<-a4,a2]⟩)
  rw[a2,hK]at af;cases af
 |none=>simp only;rw[xac Q6];exact aj
end
structure BG where
 s:fW
 F:List D->Option (List D)
 base:Nat
 pH:List wI
abbrev wQ:=Tmp->Option BG
def k7(P:Program)(G:dt)(H:wQ):Prop:=∀t e,H t=some e->fb P G e.s e.F
def Ls:aS->List Key
 | .row k=>[k]| .map k=>[k]|_=>[]
def Lt:aS->List Key
 | .agg cs=>cs.flatMap Ls| .fn _ as kl=>as.flatMap Ls++kl.flatMap Ls|x=>Ls x
def Lu:aS->List Key
 | .ptr k _=>[k]|_=>[]
def YM:aS->List Key
 | .agg cs=>cs.flatMap Lu| .fn _ as kl=>as.flatMap Lu++kl.flatMap Lu|x=>Lu x
def YN(objs:cG)(k:Key):List aS:=match objs k with|some (.box cs)=>cs|_=>[]
section
variable{β:Type}
def YO(T:cg)(G:dt)(C:l2)(σ:aK)(o:Oper)(x:Operand)(args:List Operand)(k:aK->Option β):Option β:=
 let uv:=(x::args).map (ch G σ.aM)
 let eO:=uv.flatMap YM
 let bU:=eO.flatMap (YN σ.objs)
 let hf:=bU.flatMap YM
 let bY:=hf.flatMap (YN σ.objs)
 yy [uv.flatMap Lt++bU.flatMap Lt++bY.flatMap Lt,hf,eO] σ λσ=>yp T G C σ o x args k
def YP(o:Oper):Tmp:=match o.op,o.dst with| .store _ (.tmp a) _,_=>20000+a| .mapUpdate _ (.tmp a) _ _,_=>30000+a|_,some d=>d|_,none=>9999
def akc:Op->List Operand
 | .buildSlice _ _ j0=>j0.toList.map (·.2)| .build _ j0=>j0.toList.map (·.2)| .box _ x=>[x]| .store _ _ x=>[x]| .mapUpdate _ _ _ x=>[x]| .call ⟨.builtin .append,args,_⟩=>args.toList.drop 1|_=>[]
def BH:D->Option (TypeId×D)
 | .ea t x=>some (t,x)|_=>none
def gF{dY:Type}(t c:Nat)(a b:Option dY):Option dY:=if t=c then a else b
def Lv(qZ:TypeId->Option FuncId)(t:TypeId)(k:FuncId->Option D):List TypeId->Option D
 |[]=>none|c::r=>gF t c (match qZ c with|some f=>k f|none=>none) (Lv qZ t k r)
def Q7(T:cg)(G:dt)(C:l2)(σ:aK)(o:Oper)(x:Operand)(name:String)(args:List Operand)(k:aK->Option β):Option β:=match ch G σ.aM x with
 | .d a=>match hC ((args.map (ch G σ.aM)).map (toD σ.objs))with|some aQ=>aa (BH a) λp=>aa (Lv (λt=>T.qZ t name) p.1 (λf=>C (o.dst.getD 9999) f (p.2::aQ)) T.Pf) λr=>aD ((args.map (ch G σ.aM)).all sL) (k (σ.put o.dst (.d r)))|none=>none
 |_=>none
def Q8(T:cg)(G:dt)(C:l2)(H:wQ)(ko:Tmp->Bool)(σ:aK)(o:Oper)(k:aK->Option β):Option β:=match o.op with
 | .call ⟨.value x,args,_⟩=>match H (o.dst.getD 9999)with
  |some e=>oR e.pH σ λσ=>QZ G e.s e.F e.base σ o x args.toList λaV=>match ko (o.dst.getD 9999)with|true=>Ft (o.dst.getD 9999) aV k|false=>k aV
  |none=>match ko (o.dst.getD 9999)with|true=>YO T G C σ o x args.toList k|false=>yp T G C σ o x args.toList k
 | .call ⟨.invoke x name,args,_⟩=>Q7 T G C σ o x name args.toList k| .slice _ _ _ _ _=>match ko (YP o)with|true=>uH T G σ o λaV=>Ft (o.dst.getD 9999) aV k|false=>uH T G σ o k
 |_=>match ko (YP o)with|true=>yy [((akc o.op).map (ch G σ.aM)).flatMap Lt] σ λσ=>uH T G σ o k|false=>uH T G σ o k
def Q9(T:cg)(G:dt)(C:l2)(H:wQ)(ko:Tmp->Bool):List Oper->aK->(aK->Option β)->Option β
 |[],σ,k=>k σ|o::r,σ,k=>Q8 T G C H ko σ o λaV=>Q9 T G C H ko r aV k
def Ra(o:Oper):Bool:=still o||ql o.op
def yC(T:cg)(G:dt)(C:l2)(H:wQ)(ko:Tmp->Bool)(all:Array Oper):List (Option (Nat×Bool)×List Oper)->aK->(aK->Option β)->Option β
 |[],σ,k=>k σ|(none,os)::r,σ,k=>Q9 T G C H ko os σ λaV=>yC T G C H ko all r aV k
 |(some (j,want),os)::r,σ,k=>match(all[j]?).bind (·.dst),wF os with
  |some d,some cb=>match σ.aM d with
   | .d x=>if os.all (λo=>Ra o&&o.dst !=some d)=true then
     (if(kept all os (flat r)).all (·==cb)=true then
      aa (bL x want (sV T G C os σ λaV=>match aV.aM cb with| .d v=>some v|_=>none)) λv=>yC T G C H ko all r ((l3 (dstsOf os) σ).put (some cb) (.d v)) k
     else aa (bL x want (sV T G C os σ λaV=>match Fe aV (kept all os (flat r))with|some l=>some (.agg l)|none=>none)) λv=>yC T G C H ko all r (wG (kept all os (flat r)) v (l3 (dstsOf os) σ)) k)else none
   |_=>none
  |_,_=>none
def YQ(T:cg)(G:dt)(C:l2)(H:wQ)(ko:Tmp->Bool)(all:Array Oper)(σ:aK)(k:aK->Option β):Option β:=yC T G C H ko all (wD all.toList) σ k
end
def BI{objs:cG}{k d:Key}{o:cS}(h:eZ (some o)->eZ (objs k)\/k=d):∀j,eZ (ct objs k (some o) j)->eZ (objs j)\/j=d:=by
 intro j aP;by_cases gC:j=k;.subst gC;rw[fa]at aP;exact h aP
 rw[cZ _ _ gC]at aP;exact .inl aP
def akd{T:cg}{ev:Operand->aS}{objs:cG}{d:Key}{o:Op}{r:aS}{cA:List (Key×cS)}(h:ep T ev objs d o=some (r,cA)):∀j,eZ (dG objs cA j)->eZ (objs j)\/j=d:=by
 have new:∀{o:cS},∀j,eZ (dG objs [(d,o)] j)->eZ (objs j)\/j=d:=by intro o;exact BI (λ_=> .inr rfl)
 have row:∀{k:Key}{n fX:Nat}{es hc:List (List D)},objs k=some (.row fX hc)->∀j,eZ (dG objs [(k,.row n es)] j)->eZ (objs j)\/j=d:=by intro k n fX es hc ak;exact BI (λ_=> .inl (by rw[ak];exact sJ))
 have mp:∀{k:Key}{es hc:List (Value×D)},objs k=some (.map hc)->∀j,eZ (dG objs [(k,.map es)] j)->eZ (objs j)\/j=d:=by intro k es hc ak;exact BI (λ_=> .inl (by rw[ak];exact v9))
 cases o<;>simp only[ep,reduceCtorEq]at h
 case alloc=>split at h<;>cases h;exact new
 case box=>split at h<;>cases h;exact new
 case buildSlice=>
  split at h
  case h_2=>cases h
  split at h
  case h_2=>cases h
  split at h
  case h_2=>cases h
  split at h<;>cases h;exact new
 case makeSlice=>
  split at h
  case h_2=>cases h
  split at h
  case h_2=>cases h
  split at h
  case h_2=>cases h
  split at h<;>cases h;exact new
 case makeMap=>split at h<;>cases h;exact new
 case store=>
  split at h
  case h_2=>cases h
  split at h
  case isFalse=>cases h
  split at h
  .split at h
   case h_2=>cases h
   split at h<;>cases h;rename_i ak _;exact BI λ_=> .inl (by rw[ak];exact ur)
  .split at h
   case h_2=>cases h
   split at h
   case isFalse=>cases h
   split at h<;>cases h;exact row (by assumption)
  cases h
 case mapUpdate=>
  split at h
  case h_2=>cases h
  split at h
  case h_2=>cases h
  split at h
  case isFalse=>cases h
  split at h
  case h_2=>cases h
  split at h
  case h_2=>cases h
  split at h<;>cases h;exact mp (by assumption)
 case insert=>
  split at h
  case h_2=>cases h
  split at h
  case h_2=>cases h
  split at h
  case isFalse=>cases h
  split at h
  case h_2=>cases h
  split at h
  case h_2=>cases h
  split at h<;>cases h;exact mp (by assumption)
 case call=>
  split at h
  .split at h
   case h_2=>cases h
   split at h
   case h_2=>cases h
   split at h
   case h_2=>cases h
   split at h
   case h_2=>cases h
   split at h
   case isFalse=>cases h
   split at h;.split at h<;>cases h;exact new
   .split at h
    case h_2=>cases h
    split at h<;>cases h;intro j aP;rcases BI (d:=d) (λ_=> .inr rfl) j aP with ab|ab
    .exact BI (λh=>absurd h EM) j ab
    exact .inr ab
   cases h
  .split at h
   case h_2=>cases h
   split at h
   case h_2=>cases h
   split at h
   case h_2=>cases h
   split at h
   case h_2=>cases h
   split at h
   case isFalse=>cases h
   split at h
   .split at h
    case h_2=>cases h
    split at h<;>cases h;exact row (by assumption)
   .split at h
    case h_2=>cases h
    split at h<;>cases h;exact row (by assumption)
   cases h
  .split at h
   case h_2=>cases h
   split at h
   case h_2=>cases h
   split at h
   case h_2=>cases h
   split at h
   case h_2=>cases h
   split at h
   case h_2=>cases h
   split at h<;>cases h;exact row (by assumption)
  cases h
def ake{T:cg}{ev:Operand->aS}{objs:cG}{d:Key}{o:Op}{r:aS}{cA:List (Key×cS)}(h:hg T ev objs d o=some (r,cA)):∀j,eZ (dG objs cA j)->eZ (objs j)\/j=d:=by
 obtain⟨⟨jI,sH⟩,ar,aj⟩:=v7 h;have ab:=akd ar;intro j aP;by_cases ay:j=d
 .exact .inr ay
 rcases x6 (T.born d) d jI sH with e|⟨n,es,rfl,rfl,e⟩|⟨du,n,es,rfl,rfl,e⟩|⟨off,cs,aQ,rfl,rfl,eY,e⟩;.rw[aj]at e;cases e;exact ab j aP
 .rw[aj]at e;cases e;exact ab j (by simp only[dG,cZ _ _ ay]at aP⊢;exact aP)
 .rw[aj]at e;cases e;exact ab j (by simp only[dG,cZ _ _ ay]at aP⊢;exact aP)
 rw[aj]at e;cases e;exact ab j (by simp only[dG,cZ _ _ ay]at aP⊢;exact aP)
section
variable{P:Program}{T:cg}{G:dt}{N:Nat}{σ:aK}{all:Array Oper}{ib:List Key}
def fV.put(h:fV ib σ){dst:Option Tmp}{r:aS}:fV ib (σ.put dst r):=by intro k ak aj;rw[aK.wa]at aj;exact h k ak aj
def Rb(bR:fV ib σ){o:Oper}(ay:∀d,o.dst=some d->d<10000){aV:aK}(h:g4 T G σ o=some aV):fV ib aV:=by
 unfold g4 at h;split at h;.cases h;exact bR.put
 split at h;.cases h;exact bR.put
 split at h
 case h_2=>cases h
 rename_i r cA he;cases h;refine fV.put ?_;intro k ak aj;rcases ake he k aj with ab|ab
 .exact bR k ak ab
 exfalso;have:o.dst.getD 9999<10000:=by cases aF:o.dst with|none=>simp|some d=>exact ay d aF
 exact absurd this (Nat.not_lt.2 (ab▸ak))
def YR(bR:fV ib σ){o:Oper}(ay:∀d,o.dst=some d->d<10000){K:aK->Prop}(h:dh P T G o K σ):dh P T G o (λaV=>fV ib aV/\K aV) σ:=by
 unfold dh at*;split;.rename_i aV aG;simp only[aG]at h;exact⟨Rb bR ay aG,h⟩
 rename_i aG;simp only[aG]at h;unfold jJ at*;split at h
 case h_2=>cases h
 split at h
 case h_2=>cases h
 obtain⟨nq,aQ,R,ab,af,aw,a4,b6,cP⟩:=h;exact⟨nq,aQ,R,ab,af,aw,a4,b6,λr av=>⟨bR.put,cP r av⟩⟩
def Rc:∀{l:List Oper}{σ:aK}{K:aK->Prop},fV ib σ->(∀o∈l,∀d,o.dst=some d->d<10000)->fY P T G all l K σ->fY P T G all l (λaV=>fV ib aV/\K aV) σ
 |[],σ,K,bR,_,h=>⟨bR,h⟩|o::l,σ,K,bR,ay,h=>by unfold fY at*;rw[hL]at*;cases hw:j1 all σ o with|none=>rw[hw]at h;exact h|some w=>rw[hw]at h;cases w with|true=>exact qn (λaV ⟨ab,af⟩=>Rc ab (λo aF=>ay o (by simp[aF])) af) (YR bR (ay o (by simp)) h)|false=>exact Rc bR.put (λo aF=>ay o (by simp[aF])) h
end
section
variable{P:Program}{T:cg}{G:dt}{C:l2}{H:wQ}{ko:Tmp->Bool}{N:Nat}{σ:aK}{all:Array Oper}{ib:List Key}
def oT(P:Program)(G:dt)(N:Nat)(all:Array Oper)(i:Nat)(l:List Oper)(K:aK->Prop)(σ:aK):Prop:= ∀m fr ρ a w (Q:Exit->Act->World->Prop),kB G m->Den m fr ρ σ a w->N<=a.tmps.size->a.defers=[]->(∀cB w',iU N m fr ρ σ K cB w'->Q .normal cB w')->wpOps P all Q (List.range' i l.length) a w
def jk(P:Program)(G:dt)(N:Nat)(o:Oper)(K:aK->Prop)(σ:aK):Prop:= ∀m fr ρ a w (Q:Exit->Act->World->Prop),kB G m->Den m fr ρ σ a w->N<=a.tmps.size->a.defers=[]->o.wp P a w (iU N m fr ρ σ K) Q
def akf{i:Nat}{K:aK->Prop}(h:K σ):oT P G N all i [] K σ:=λm fr ρ a w Q c4 c1 bX ay hr=>hr a w ⟨σ,m,ρ,h,Mem.le_refl m,c1,bX,ay,k1.refl _ _⟩
def akg{i:Nat}{o:Oper}{l:List Oper}{K:aK->Prop}(ah:all[i]?=some o)(b5:o.guard=none)(h:jk P G N o (oT P G N all (i+1) l K) σ):oT P G N all i (o::l) K σ:=by
 intro m fr ρ a w Q c4 c1 bX ay hr;rw[xar,List.range'_succ,wpOps_cons];refine wpOp_mono (K:=iU N m fr ρ σ (oT P G N all (i+1) l K)) ?_ ?_;.rintro cB w' ⟨aV,cF,cV,bz,bA,cx,eo,fi,hh⟩;exact bz cF fr cV cB w' Q (c4.mono bA) cx eo fi λpy k2 av=>hr py k2 (av.trans bA hh)
 unfold wpOp;simp only[ah];have:Region.wanted o (yielded all a.tmps)=true:=by simp[Region.wanted,b5]
 rw[xad this];exact .inl (h m fr ρ a w Q c4 c1 bX ay)
def jk.mono{o:Oper}{K K':aK->Prop}(ak:∀σ,K σ->K' σ)(h:jk P G N o K σ):jk P G N o K' σ:=λm fr ρ a w Q c4 c1 bX ay=>by
  have:=h m fr ρ a w Q c4 c1 bX ay;unfold Oper.wp at*;generalize (execOp a.eval o).run P w=r at*;cases r with
  |ok n w'=>
   cases n<;>simp only[Oper.upon]at this⊢<;>first|exact this.mono ak|exact this|skip
   .refine this.mono λe k2 he=>?_;cases e with|returned v=>exact he.mono ak|panicked c=>exact he|outgrown=>exact he
   exact this.mono λv k2 he=>he.mono ak
  |halt x w'=>cases x<;>exact this
def jk.Ff{o:Oper}{K:aK->Prop}{τ:aK}(he:g6 σ τ)(h:jk P G N o K τ):jk P G N o K σ:=by
 intro m fr ρ a w Q c4 c1 bX ay;obtain⟨cF,cV,ab,af,aw⟩:=he m fr ρ a w c1;have:=h cF fr cV a w Q (c4.mono ab) af bX ay;unfold Oper.wp at*;generalize (execOp a.eval o).run P w=r at*;cases r with
 |ok n w'=>
  cases n<;>simp only[Oper.upon]at this⊢<;>first|exact this.trans ab aw|exact this|skip
  .refine this.mono λe k2 he=>?_;cases e with|returned v=>exact he.trans ab aw|panicked c=>exact he|outgrown=>exact he
  exact this.mono λv k2 he=>he.trans ab aw
 |halt x w'=>cases x<;>exact this
def Rd(bf:dR P T){o:Oper}(g5:∀d,o.dst=some d->d<N){K:aK->Prop}(h:dh P T G o K σ):jk P G N o K σ:=λm fr ρ a w Q c4 c1 bX ay=>PX bf c4 c1 bX ay g5 h
def akh{ks:List Key}(h:fV ib σ):fV ib (freeze ks σ):=by
 intro k ak aj;have g3:eZ (if k∈ks then some .dead else(σ.objs k).map (Fp σ.objs ks)):=aj;split at g3
 .exact absurd g3 EM
 cases aF:σ.objs k with|none=>rw[aF]at g3;exact absurd g3 uu|some dU=>rw[aF]at g3;cases dU with|box cs=>exact h k ak (by rw[aF];exact ur)|dead=>exact absurd g3 EM|row=>exact h k ak (by rw[aF];exact sJ)|map=>exact h k ak (by rw[aF];exact v9)
def FB{β:Type}:∀{l:List (List Key)} {σ:aK} {k:aK->Option β} {b:β},fV ib σ->yy l σ k=some b->∃τ,g6 σ τ/\fV ib τ/\k τ=some b
 |[],σ,k,b,bR,h=>⟨σ,g6.refl σ,bR,h⟩
 |ks::r,σ,k,b,bR,h=>by
  unfold yy at h;split at h;.exact FB bR h
  split at h
  case isFalse=>cases h
  rename_i eP;obtain⟨τ,ab,af,aw⟩:=FB (akh bR) h;exact⟨τ,(ajS _ eP).trans ab,af,aw⟩
def YS{β:Type}{t:Tmp}{σ:aK}{k:aK->Option β}{b:β}(bR:fV ib σ)(h:Ft t σ k=some b):∃τ,g6 σ τ/\fV ib τ/\k τ=some b:=by
 unfold Ft at h;split at h
 case h_2=>cases h
 rename_i key cR i len aL;split at h
 case h_2=>cases h
 rename_i br es ak ar;split at h
 case isFalse=>cases h
 rename_i dj;obtain⟨dj,pJ,oO⟩:=dj;subst dj;obtain⟨ab,af⟩:=lE h;refine⟨_,ajT aL ak ar (xba ab) pJ,?_,af⟩;intro j aP an;simp only at an;by_cases aw:j=t;.subst aw;exact absurd oO (Nat.not_lt.2 aP)
 rw[cZ _ _ aw]at an;by_cases a4:j=key;.subst a4;exact absurd pJ (Nat.not_lt.2 aP)
 rw[cZ _ _ a4]at an;exact bR j aP an
def jk.out{o:Oper}{K:aK->Prop}(h:jk P G N o (λaV=>∃τ,g6 aV τ/\K τ) σ):jk P G N o K σ:=λm fr ρ a w Q c4 c1 bX ay=>by
  have key:∀{cB w'},iU N m fr ρ σ (λaV=>∃τ,g6 aV τ/\K τ) cB w'->iU N m fr ρ σ K cB w':=by rintro cB w' ⟨aV,cF,cV,⟨τ,aW,a2⟩,af,aw,a4,b6,cP⟩;obtain⟨ye,yf,aO,aX,bQ⟩:=aW cF fr cV cB w' aw;exact⟨τ,ye,yf,a2,Mem.le_trans af aO,aX,a4,b6,cP.trans bQ⟩
  have:=h m fr ρ a w Q c4 c1 bX ay;unfold Oper.wp at*;generalize (execOp a.eval o).run P w=r at*;cases r with
  |ok n w'=>
   cases n<;>simp only[Oper.upon]at this⊢<;>first|exact key this|exact this|skip
   .refine this.mono λe k2 he=>?_;cases e with|returned v=>exact key he|panicked c=>exact he|outgrown=>exact he
   exact this.mono λv k2 he=>key he
  |halt x w'=>cases x<;>exact this
def YT{β:Type}(bf:dR P T)(cf:ht P G C){o:Oper}(g5:∀d,o.dst=some d->d<N){x:Operand}{args:Array Operand}{dI:Array TypeId}(aF:o.op= .call ⟨.value x,args,dI⟩){k:aK->Option β}{b:β}(bR:fV ib σ) (h:yp T G C σ o x args.toList k=some b):jk P G N o (λaV=>k aV=some b/\fV ib aV) σ:=by refine Rd bf g5 (qn ?_ (Lc (T:=T) cf aF h));rintro aV ⟨ab,af,_⟩;refine⟨ab,λj aP aj=>bR j aP (by rw[<-af];exact aj)⟩
def YU{qZ:TypeId->Option FuncId}{t:TypeId}{k:FuncId->Option D}{r:D}:∀{l:List TypeId},Lv qZ t k l=some r->∃f,qZ t=some f/\k f=some r
 |[],h=>by cases h
 |c::l,h=>by
  unfold Lv gF at h;split at h
  .rename_i an;subst an;split at h;.rename_i f ba;exact⟨f,ba,h⟩
   cases h
  exact YU h
def aki{P:Program}{t:TypeId}{name:String}{f:FuncId}(hm:JZ P t name f)(n:Nat)(v:Value)(w:World):(method (n+1) t v name).run P w= .ok (f,v) w:=by
 obtain⟨info,m,d,ab,af,aw,a4,b6,cP⟩:=hm;have aO:(typeInfo t).run P w= .ok info w:=by simp[typeInfo,ab]
 unfold method;simp only[xag,aO,xaf,af,aw,follow,xau,a4,receiverAt,xat b6];cases d<;>first|(simp only[Place.get,xau,xaf];done)|(exact absurd rfl (cP _))
def akj{P:Program}{va:Operand->Value}{x:Operand}{name:String}{args:Array Operand}{dI:Array TypeId}{ty:TypeId}{t:TypeId}{v:Value}{f:FuncId}{w:World}(ag:va x= .iface t v)(hm:JZ P t name f)(ba:v8 P f):(do let d<-resolve va {callee:= .invoke x name,args:=args,argTypes:=dI} ty;invoke d.target d.args:Sem Next).run P w= .ok (.enter f (#[v]++args.map va)) w:=by
 obtain⟨fn,ab,af,aw⟩:=ba;have jD:0<Made.depth:=by decide
 have ay:∃n,P.types.size+Made.depth=n+1:=⟨P.types.size+Made.depth-1,by omega⟩;obtain⟨n,aN⟩:=ay;have bE:(#[Value.iface t v]++args.map va)[0]?=some (Value.iface t v):=by rw[xbJ (by simp)];rfl
 have aO:(#[Value.iface t v]++args.map va).extract 1 (#[Value.iface t v]++args.map va).size=args.map va:=by apply xbB;simp[List.extract,xbK]
 have aX:(program:Sem Program).run P w= .ok P w:=rfl;have uM:=aki hm n v w;have Re:(callFunc f (#[v]++args.map va)).run P w= .ok (.enter f (#[v]++args.map va)) w:=by simp only[callFunc,xag,aX,xaf,ab,af,aw,xas,xaD,xau]
 simp only[xag,resolve,ag,xau,xaf,invoke,bE,aO,callMethod,aX,aN,uM,Re]
def akk{β:Type}(bf:dR P T)(cf:ht P G C){o:Oper}(g5:∀d,o.dst=some d->d<N){x:Operand}{name:String}{args:Array Operand}{dI:Array TypeId}(aF:o.op= .call ⟨.invoke x name,args,dI⟩){k:aK->Option β}{b:β}(bR:fV ib σ) (h:Q7 T G C σ o x name args.toList k=some b):jk P G N o (λaV=>k aV=some b/\fV ib aV) σ:=by
 unfold Q7 at h;split at h
 case h_2=>cases h
 rename_i d ay;split at h
 case h_2=>cases h
 rename_i aQ eY;obtain⟨p,aT,h⟩:=fx h;obtain⟨r,av,h⟩:=fx h;obtain⟨b6,cP⟩:=lE h;obtain⟨f,ba,Re⟩:=YU av;have YV:=cf _ _ _ _ Re;have sN:=bf.J0 _ _ _ ba;obtain⟨t,y⟩:=p;have akl:d= .ea t y:=by
  unfold BH at aT;split at aT;.cases aT;rfl
  cases aT
 subst akl;intro m fr ρ a w Q c4 Rf bX hD;have dz:=Eu (a:=a) c4 Rf.aM;have iB:∀d,o.dst=some d->d<a.tmps.size:=λd ay=>Nat.lt_of_lt_of_le (g5 d ay) bX;have sK:∀v,N<=(a.put o.dst v).tmps.size:=by intro v;cases o.dst<;>simpa[Act.put]using bX
 have mq:∀v,(a.put o.dst v).defers=[]:=by intro v;cases o.dst<;>exact hD
 have ag:=dz x;rw[ay]at ag;have ag:=ag.oC;obtain⟨v,PG,akm⟩:∃v,a.eval x= .iface t v/\dx m y v:=by generalize a.eval x=u at ag;cases ag with|ea _ _ v h=>exact⟨v,rfl,h⟩
 have PV:(execOp a.eval o).run P w= .ok (.enter f (#[v]++args.map a.eval)) w:=by unfold execOp;rw[aF];exact akj PG sN YV.fn
 unfold Oper.wp;rw[PV];have PW:x7 m (y::aQ) (#[v]++args.map a.eval).toList:=by obtain⟨aW,a2⟩:=q9 eY;refine⟨by simp[aW],?_⟩;intro i d kC ay a3;simp only[Array.toList_append,xcg,xaK,Array.toList_map]at a3;cases i with|zero=>simp at ay a3;subst ay;subst a3;exact akm|succ i=>simp only[xcc]at ay a3;have bb:=a2 i d ay;simp only[xaj,xah]at bb a3;obtain⟨z,⟨q,bj,rfl⟩,akn⟩:=bb;obtain⟨aAf,sY,rfl⟩:=a3;rw[bj]at sY;cases sY;exact PT (xaA.1 b6 _ (xap.2 ⟨q,xab bj,rfl⟩)) akn (dz q)
 have sM:=YV.run m _ w _ c4 Rf.WW PW;simp only[Array.toArray_toList]at sM;refine sM.mono λe w' he=>?_;obtain⟨kC,cF,sA,rfl,bz,bA,cx,eo⟩:=he;subst bz;have ako:=Rf.kept bA cx;exact⟨_,cF,ρ,⟨cP,λj aP aj=>bR j aP (by simpa using aj)⟩,bA,ako.put (.d _ _ eo) iB,sK kC,mq kC,λk ak aj=>⟨by simpa using aj,rfl⟩⟩
def akp{β:Type}(bf:dR P T)(cf:ht P G C)(gk:k7 P G H)(bX:N<10000){o:Oper}(g5:∀d,o.dst=some d->d<N){k:aK->Option β}{b:β}(bR:fV ib σ)(h:Q8 T G C H ko σ o k=some b):jk P G N o (λaV=>k aV=some b/\fV ib aV) σ:=by
 unfold Q8 at h;split at h
 .rename_i x args dI aF;split at h
  .rename_i e he;obtain⟨τ,t1,Rg,h⟩:=sX bR h;refine jk.Ff t1 ?_;generalize fU:(λaV=>match ko (o.dst.getD 9999)with|true=>Ft (o.dst.getD 9999) aV k|false=>k aV)=br at h;have main:jk P G N o (λaV=>br aV=some b/\fV ib aV) τ:=by refine jk.mono (K:=λaV=>br aV=some b/\∀p,10000<=p->eZ (aV.objs p)->eZ (τ.objs p)) (λaV ⟨ab,af⟩=>⟨ab,λp aT aj=>Rg p aT (af p aT aj)⟩) ?_;intro m fr ρ a w Q c4 c1 nV ay;exact aj2 c4 c1 nV ay g5 (gk _ _ he) aF h (Q:=Q)
   refine jk.out (jk.mono ?_ main);rintro aV ⟨ab,af⟩;subst fU;simp only at ab;split at ab;.obtain⟨akq,aW,a2,bb⟩:=YS af ab;exact⟨akq,aW,bb,a2⟩
   exact⟨aV,g6.refl aV,ab,af⟩
  split at h;.unfold YO at h;simp only at h;obtain⟨τ,ab,af,aw⟩:=FB bR h;exact jk.Ff ab (YT bf cf g5 aF af aw)
  exact YT bf cf g5 aF bR h
 .rename_i x name args dI aF;exact akk bf cf g5 aF bR h
 .have step:∀{τ:aK}{k:aK->Option β},fV ib τ->uH T G τ o k=some b->jk P G N o (λaV=>k aV=some b/\fV ib aV) τ:=by
   intro τ k bR h;obtain⟨aV,ab,af⟩:=Bv h;refine Rd bf g5 ?_;unfold dh;rw[ab];exact⟨af,Rb bR (λd ay=>Nat.lt_trans (g5 d ay) bX) ab⟩
  split at h;.refine jk.out (jk.mono ?_ (step bR h));rintro aV ⟨ab,af⟩;obtain⟨τ,aW,a2,bb⟩:=YS af ab;exact⟨τ,aW,bb,a2⟩
  exact step bR h
 have step:∀{τ:aK},fV ib τ->uH T G τ o k=some b->jk P G N o (λaV=>k aV=some b/\fV ib aV) τ:=by intro τ bR h;obtain⟨aV,ab,af⟩:=Bv h;refine Rd bf g5 ?_;unfold dh;rw[ab];exact⟨af,Rb bR (λd ay=>Nat.lt_trans (g5 d ay) bX) ab⟩
 split at h;.obtain⟨τ,ab,af,aw⟩:=FB bR h;exact jk.Ff ab (step af aw)
 exact step bR h
def YW{β:Type}(bf:dR P T)(cf:ht P G C)(gk:k7 P G H)(bX:N<10000){K:aK->Prop}:∀{os:List Oper}{r:List Oper}{i:Nat}{σ:aK}{k:aK->Option β}{b:β},(∀o∈os,o.guard=none)->(∀o∈os,∀d,o.dst=some d->d<N)->(∀j,(os++r)[j]?=all[i+j]?)->fV ib σ->(∀aV,fV ib aV->k aV=some b->oT P G N all (i+os.length) r K aV)->Q9 T G C H ko os σ k=some b->oT P G N all i (os++r) K σ
 |[],r,i,σ,k,b,_,_,_,bR,ak,h=>ak σ bR h
 |o::os,r,i,σ,k,b,b5,ay,gw,bR,ak,h=>by
  have ah:all[i]?=some o:=by simpa using(gw 0).symm
  refine akg ah (b5 o (by simp)) (jk.mono ?_ (akp bf cf gk bX (ay o (by simp)) bR h));rintro aV ⟨ab,af⟩;refine YW bf cf gk bX (λo aF=>b5 o (by simp[aF])) (λo aF=>ay o (by simp[aF])) (λj=>by have:=gw (j+1);simpa[xbj,Nat.add_comm 1 j]using this) af ?_ ab;intro ri aw a4;have:=ak ri aw a4;rw[show i+(o::os).length=i+1+os.length by simp;omega]at this;exact this
def b4.shrink{m j4:Mem}{ρ Rh:dp}{U qo:Key->Prop}{x:aS}{v:Value}(h:b4 m ρ U x v):∀{v0:Value},b4 j4 Rh qo x v0->b4 m ρ qo x v:=by
 induction h with
 |any v=>intro v0 _;exact .any _
 |d x v h=>intro v0 _;exact .d _ _ h
 |agg cs vs aq h ih=>
  intro v0 ar;cases ar with|agg _ yD k8 FC=>
  refine .agg _ _ aq λi c v an a3=>?_;have ah:i<yD.size:=by rw[k8];exact(xae.1 an).1
  exact ih i c v an a3 (FC i c _ an (xaq ah))
 |aZ cs vs aq h ih=>
  intro v0 ar;cases ar with|aZ _ yD k8 FC=>
  refine .aZ _ _ aq λi c v an a3=>?_;have ah:i<yD.size:=by rw[k8];exact(xae.1 an).1
  exact ih i c v an a3 (FC i c _ an (xaq ah))
 |eA cs off b o vs T eL aj xs ab af=>intro v0 _;exact .eA _ _ b o vs T eL aj xs ab af
 |ptr key off b hu h=>intro v0 ar;cases ar with|ptr _ _ _ mn _=>exact .ptr _ _ b mn h
 |gB key k i off b o len cap hu h=>intro v0 ar;cases ar with|gB _ _ _ _ _ _ _ _ mn _=>exact .gB _ _ _ _ b o len cap mn h
 |row key hu=>intro v0 ar;cases ar with|row _ mn=>exact .row _ mn
 |sub key k i len b o L cap a hu h hle aE=>intro v0 ar;cases ar with|sub _ _ _ _ _ _ _ _ _ mn=>exact .sub _ _ _ _ b o L cap a mn h hle aE|kA _ _ _ mn=>exact .sub _ _ _ _ b o L cap a mn h hle aE
 |kA key k i hu h=>intro v0 ar;cases ar with|sub _ _ _ _ _ _ _ _ _ mn=>exact .kA _ _ _ mn h|kA _ _ _ mn=>exact .kA _ _ _ mn h
 |map key hu=>intro v0 ar;cases ar with|map _ mn=>exact .map _ mn
 |fn f first captured vs ws aq dE h bx ih xR=>
  intro v0 ar;cases ar with|fn _ _ _ yD akr k8 aks FC akt=>
  refine .fn _ _ _ _ _ aq dE (λi c v an a3=>?_) (λi c v an a3=>?_)
  .have ah:i<yD.size:=by rw[k8];exact(xae.1 an).1
   exact ih i c v an a3 (FC i c _ an (xaq ah))
  .have ah:i<akr.size:=by rw[aks];exact(xae.1 an).1
   exact xR i c v an a3 (akt i c _ an (xaq ah))
def jA.shrink{m j4:Mem}{ρ Rh:dp}{U qo:Key->Prop}{o:cS}{v v0:Value}{w w0:World}(h:jA m ρ U v w o)(ar:jA j4 Rh qo v0 w0 o):jA m ρ qo v w o:=by
 cases o with
 |dead=>trivial
 |box cs=>
  obtain⟨b,vs,T,aO,aX,bQ,cO⟩:=h;obtain⟨fM,yD,fQ,f1,f2,f3,f4⟩:=ar;refine⟨b,vs,T,aO,aX,bQ,λi c x an ag=>?_⟩;have ah:i<yD.size:=by rw[f3];exact(xae.1 an).1
  exact(cO i c x an ag).shrink (f4 i c _ an (xaq ah))
 |row=>exact h|map=>exact h
def aku{m cF:Mem}{fr:fP}{ρ cV:dp}{σ aV:aK}{a cB:Act}{w w':World}{aQ:List Tmp}(h:Den m fr ρ σ a w)(bx:Den cF fr cV aV cB w')(pw:cG.ext σ.objs aV.objs)(aG:∀t,t∉aQ->aV.aM t=σ.aM t){cb:Tmp}{v:D}(a3:aV.aM cb= .d v)(yt:cb∈aQ):Den cF fr cV ((l3 aQ σ).put (some cb) (.d v)) cB w':=by
 have iz:((l3 aQ σ).put (some cb) (.d v)).objs=σ.objs:=by simp[l3]
 refine⟨bx.mem,bx.frame,bx.apart,?_,?_,?_,?_,?_⟩;.rintro k ⟨o,aF⟩;rw[iz]at aF;exact bx.one k ⟨o,pw k o aF⟩
 .intro t;by_cases oO:t=cb;.subst oO;simp only[aK.put,fa];have:=bx.aM t;rw[a3]at this;exact .d _ _ this.oC
  simp only[aK.put,cZ _ _ oO,l3];split;.exact .any _
  rename_i aN;have ab:=bx.aM t;rw[aG t aN]at ab;exact ab.shrink (h.aM t)
 .intro k o ak;rw[iz]at ak;exact(bx.objs k o (pw k o ak)).shrink (h.objs k o ak)
 .intro k o b ak aF aj;rw[iz]at ak;exact bx.own k o b (pw k o ak) aF aj
 intro k br o o' b cK ak fU aF oK aj;rw[iz]at ak fU;exact bx.sep k br o o' b cK (pw k o ak) (pw br o' fU) aF oK aj
def akv{m cF:Mem}{fr:fP}{ρ cV:dp}{σ aV:aK}{a cB:Act}{w w':World}{aQ:List Tmp}(h:Den m fr ρ σ a w)(bx:Den cF fr cV aV cB w')(pw:cG.ext σ.objs aV.objs)(aG:∀t,t∉aQ->aV.aM t=σ.aM t){ts:List Tmp}{v:D}(a3:∀t∈ts,aV.aM t= .d (ad v (ts.idxOf t))):Den cF fr cV (wG ts v (l3 aQ σ)) cB w':=by
 have iz:(wG ts v (l3 aQ σ)).objs=σ.objs:=rfl;refine⟨bx.mem,bx.frame,bx.apart,?_,?_,?_,?_,?_⟩;.rintro k ⟨o,aF⟩;rw[iz]at aF;exact bx.one k ⟨o,pw k o aF⟩
 .intro t;by_cases oO:t∈ts
  .have af:(wG ts v (l3 aQ σ)).aM t= .d (ad v (ts.idxOf t)):=by simp only[wG,xad oO]
   rw[af];have:=bx.aM t;rw[a3 t oO]at this;exact .d _ _ this.oC
  have af:(wG ts v (l3 aQ σ)).aM t=(l3 aQ σ).aM t:=by simp only[wG,xac oO]
  rw[af];simp only[l3];split;.exact .any _
  rename_i aN;have ab:=bx.aM t;rw[aG t aN]at ab;exact ab.shrink (h.aM t)
 .intro k o ak;rw[iz]at ak;exact(bx.objs k o (pw k o ak)).shrink (h.objs k o ak)
 .intro k o b ak aF aj;rw[iz]at ak;exact bx.own k o b (pw k o ak) aF aj
 intro k br o o' b cK ak fU aF oK aj;rw[iz]at ak fU;exact bx.sep k br o o' b cK (pw k o ak) (pw br o' fU) aF oK aj
theorem akw{T:cg}{ev:Operand->aS}{objs:cG}{d:Key}{op:Op}{r:aS}{cA:List (Key×cS)}(aG:ql op=true)(he:hg T ev objs d op=some (r,cA)):objs d=none:=(Bh (objs':=λ_=>none) aG rfl he).2.1
def akx{β:Type}(cf:ht P G C){o:Oper}(aG:Ra o=true){k:aK->Option β}{b:β}(h:sU T G C σ o k=some b):dh P T G o (λaV=>k aV=some b/\cG.ext σ.objs aV.objs/\∀t,o.dst≠some t->aV.aM t=σ.aM t) σ:=by
 rcases xbA.1 aG with aG|aG;.refine qn ?_ (Yi cf aG h);rintro aV ⟨ab,af,aw⟩;exact⟨ab,by rw[af];exact λ_ _ h=>h,aw⟩
 have Yj:∀x args dI,o.op≠ .call ⟨.value x,args,dI⟩:=by intro x args dI he;rw[he]at aG;cases aG
 unfold sU at h;split at h;.exact absurd (by assumption) (Yj _ _ _)
 obtain⟨aV,ab,af⟩:=Bv h;unfold dh;rw[ab];unfold g4 at ab;rw[(ra (objs:=σ.objs) aG).1,(ra aG).2]at ab;simp only at ab;split at ab
 case h_2=>cases ab
 rename_i r cA he;cases ab;have oI:σ.objs (o.dst.getD 9999)=none:=akw aG he;obtain⟨_,_,hB,rfl⟩:=Bh aG oI he;refine⟨af,?_,λt aL=>rn aL⟩;rw[aK.wa];exact cG.Ku oI hB
def Ri{β:Type}(cf:ht P G C){j:Nat}{want:Bool}{d:Tmp}(ay:(all[j]?).bind (·.dst)=some d):∀{os:List Oper}{σ:aK}{k:aK->Option β}{b:β},(∀o∈os,o.guard=some (j,want))->(∀o∈os,Ra o=true/\o.dst≠some d)->σ.aM d= .d (.val (.bool want))->sV T G C os σ k=some b->fY P T G all os (λaV=>k aV=some b/\cG.ext σ.objs aV.objs/\∀t,t∉dstsOf os->aV.aM t=σ.aM t) σ
 |[],σ,k,b,_,_,_,h=>⟨h,λ_ _ h=>h,λ_ _=>rfl⟩
 |o::os,σ,k,b,b5,aG,hw,h=>by
  have ar:=aG o (by simp);unfold fY eB;rw[b5 o (by simp)];simp only[ay,hw,xaC];refine qn ?_ (akx cf ar.1 h);rintro aV ⟨ab,af,aw⟩;refine m0 ?_ (Ri cf ay (λo aF=>b5 o (by simp[aF])) (λo aF=>aG o (by simp[aF])) (by rw[aw d ar.2];exact hw) ab);rintro ri ⟨aW,a2,bb⟩;refine⟨aW,λcR YX aF=>a2 cR YX (af cR YX aF),?_⟩;intro t aL;have pG:t∉dstsOf os:=λan=>aL (by unfold dstsOf at an⊢;simp only[xbM];cases o.dst<;>simp[an])
  have ys:o.dst≠some t:=λan=>aL (by unfold dstsOf;simp[an]);rw[bb t pG,aw t ys]
def Rj(bf:dR P T){fr:fP}{Q:Exit->Act->World->Prop}:∀(os r:List Oper)(i:Nat)(m:Mem)(ρ:dp)(σ:aK)(a:Act)(w:World)(K:aK->Prop),(∀j,(os++r)[j]?=all[i+j]?)->kB G m->Den m fr ρ σ a w->N<=a.tmps.size->a.defers=[]->(∀o∈os,∀d,o.dst=some d->d<N)->fY P T G all os K σ->(∀cB w',iU N m fr ρ σ K cB w'->wpOps P all Q (List.range' (i+os.length) r.length) cB w')->wpOps P all Q (List.range' i (os++r).length) a w
 |[],r,i,m,ρ,σ,a,w,K,_,c4,h,bX,hD,_,a3,Rk=>Rk a w ⟨σ,m,ρ,a3,Mem.le_refl m,h,bX,hD,k1.refl _ _⟩
 |o::os,r,i,m,ρ,σ,a,w,K,aq,c4,h,bX,hD,g5,a3,Rk=>by
  rw[xcg,xar,List.range'_succ,wpOps_cons];have ah:all[i]?=some o:=by simpa using(aq 0).symm
  refine wpOp_mono ?_ (PY bf c4 h bX hD ah (g5 o (by simp)) a3);rintro cB w' ⟨aV,cF,cV,bz,bA,cx,eo,fi,hh⟩;refine Rj bf os r (i+1) cF cV aV cB w' K (λj=>by have:=aq (j+1);simpa[xbj,Nat.add_comm 1 j]using this) (c4.mono bA) cx eo fi (λo aF=>g5 o (by simp[aF])) bz ?_;intro py k2 av;have:=Rk py k2 (av.trans bA hh);rw[show i+(o::os).length=i+1+os.length by simp;omega]at this;exact this
theorem YY(i:Nat):ad lF i=lF:=by unfold ad;cases i<;>rfl
def FD{β:Type}(bf:dR P T)(cf:ht P G C)(gk:k7 P G H)(bX:N<10000){K:aK->Prop}:∀{gs:List (Option (Nat×Bool)×List Oper)} {i:Nat} {σ:aK} {k:aK->Option β} {b:β},(∀g∈gs,∀o∈g.2,o.guard=g.1)->(∀o∈flat gs,∀d,o.dst=some d->d<N)->(∀j,(flat gs)[j]?=all[i+j]?)->fV ib σ->(∀aV,fV ib aV->k aV=some b->K aV)->yC T G C H ko all gs σ k=some b->oT P G N all i (flat gs) K σ
 |[],i,σ,k,b,_,_,_,bR,ak,h=>akf (ak σ bR h)|(none,os)::r,i,σ,k,b,b5,ay,gw,bR,ak,h=>by show oT P G N all i (os++flat r) K σ;refine YW bf cf gk bX (λo aF=>b5 (none,os) (by simp) o aF) (λo aF=>ay o (by simp[flat,aF])) gw bR ?_ h;intro aV ab af;refine FD bf cf gk bX (λg hm=>b5 g (by simp[hm])) (λo aF=>ay o (by simp only[flat,List.flatMap_cons,xak];exact .inr aF)) ?_ ab ak af;intro j;have:=gw (os.length+j);rw[<-xbj]at this;rw[<-this];show _=(os++flat r)[os.length+j]?;rw[xaH (by omega)];simp
 |(some (j,want),os)::r,i,σ,k,b,b5,ay,gw,bR,ak,h=>by
  show oT P G N all i (os++flat r) K σ;unfold yC at h;split at h
  case h_2=>cases h
  rename_i d cb BJ yt;split at h
  case h_2=>cases h
  rename_i x ag;split at h
  case isFalse=>cases h
  rename_i bm;simp only[xaA,xam,bne_iff_ne,ne_eq]at bm;split at h
  .obtain⟨v,ab,af⟩:=fx h;have iV:∀o∈os,o.guard=some (j,want):=λo aF=>b5 (some (j,want),os) (by simp) o aF;have Rl:oT P G N all (i+os.length) (flat r) K ((l3 (dstsOf os) σ).put (some cb) (.d v)):=by
    refine FD bf cf gk bX (λg hm=>b5 g (by simp[hm])) (λo aF=>ay o (by simp only[flat,List.flatMap_cons,xak];exact .inr aF)) ?_ (fV.put (σ:=l3 (dstsOf os) σ) bR) ak af;intro FE;have:=gw (os.length+FE);rw[<-xbj]at this;rw[<-this];show _=(os++flat r)[os.length+FE]?;rw[xaH (by omega)];simp
   have a3:fY P T G all os (λaV=>cG.ext σ.objs aV.objs/\(∀t,t∉dstsOf os->aV.aM t=σ.aM t)/\aV.aM cb= .d v) σ:=by
    unfold bL at ab;split at ab
    .rename_i gZ;split at ab
     .rename_i aj;subst aj;refine m0 ?_ (Ri cf BJ iV bm ag ab);rintro aV ⟨aW,a2,bb⟩;refine⟨a2,bb,?_⟩;split at aW;.rename_i u hu;cases aW;exact hu
      cases aW
     rename_i aj;cases ab;refine m0 ?_ (Fg BJ iV (λo aF=>(bm o aF).2) (.inl (by rw[ag];cases gZ<;>cases want<;>simp_all)));rintro aV ⟨aW,a2,bb⟩;exact⟨by rw[aW];exact λ_ _ h=>h,a2,bb cb yt⟩
    .rename_i vs;cases ab;refine m0 ?_ (Fg BJ iV (λo aF=>(bm o aF).2) (.inr ⟨_,ag⟩));rintro aV ⟨aW,a2,bb⟩;exact⟨by rw[aW];exact λ_ _ h=>h,a2,bb cb yt⟩
    cases ab
   intro m fr ρ a w Q c4 c1 nV hD hr;refine Rj bf os (flat r) i m ρ σ a w _ gw c4 c1 nV hD (λo aF=>ay o (by simp[flat,aF])) a3 ?_;rintro cB w' ⟨aV,cF,cV,⟨aW,a2,bb⟩,bA,cx,eo,fi,hh⟩;have l6:=aku c1 cx aW a2 bb (Yo yt);refine Rl cF fr cV cB w' Q (c4.mono bA) l6 eo fi ?_;intro py k2 av;refine hr py k2 (av.trans bA ?_);intro cR dj aj;exact⟨by rw[aK.wa];exact aj,(hh cR dj aj).2⟩
  obtain⟨v,ab,af⟩:=fx h;have iV:∀o∈os,o.guard=some (j,want):=λo aF=>b5 (some (j,want),os) (by simp) o aF;have Rl:oT P G N all (i+os.length) (flat r) K (wG (kept all os (flat r)) v (l3 (dstsOf os) σ)):=by refine FD bf cf gk bX (λg hm=>b5 g (by simp[hm])) (λo aF=>ay o (by simp only[flat,List.flatMap_cons,xak];exact .inr aF)) ?_ bR ak af;intro FE;have:=gw (os.length+FE);rw[<-xbj]at this;rw[<-this];show _=(os++flat r)[os.length+FE]?;rw[xaH (by omega)];simp
  have a3:fY P T G all os (λaV=>cG.ext σ.objs aV.objs/\(∀t,t∉dstsOf os->aV.aM t=σ.aM t)/\(∀t∈kept all os (flat r),aV.aM t= .d (ad v ((kept all os (flat r)).idxOf t)))) σ:=by
   unfold bL at ab;split at ab
   .rename_i gZ;split at ab
    .rename_i aj;subst aj;refine m0 ?_ (Ri cf BJ iV bm ag ab);rintro aV ⟨aW,a2,bb⟩;refine⟨a2,bb,?_⟩;split at aW;.rename_i l aq;cases aW;exact λt aL=>ajB aq aL
     cases aW
    rename_i aj;cases ab;refine m0 ?_ (QL BJ iV (λo aF=>(bm o aF).2) (.inl (by rw[ag];cases gZ<;>cases want<;>simp_all)));rintro aV ⟨aW,a2,bb⟩;exact⟨by rw[aW];exact λ_ _ h=>h,a2,λt aL=>by rw[bb t (xaN.1 aL).1,YY]⟩
   .rename_i vs;cases ab;refine m0 ?_ (QL BJ iV (λo aF=>(bm o aF).2) (.inr ⟨_,ag⟩));rintro aV ⟨aW,a2,bb⟩;exact⟨by rw[aW];exact λ_ _ h=>h,a2,λt aL=>by rw[bb t (xaN.1 aL).1,YY]⟩
   cases ab
  intro m fr ρ a w Q c4 c1 nV hD hr;refine Rj bf os (flat r) i m ρ σ a w _ gw c4 c1 nV hD (λo aF=>ay o (by simp[flat,aF])) a3 ?_;rintro cB w' ⟨aV,cF,cV,⟨aW,a2,bb⟩,bA,cx,eo,fi,hh⟩;have l6:=akv c1 cx aW a2 bb;refine Rl cF fr cV cB w' Q (c4.mono bA) l6 eo fi ?_;intro py k2 av;refine hr py k2 (av.trans bA ?_);intro cR dj aj;exact⟨aj,(hh cR dj aj).2⟩
def aky{β:Type}(bf:dR P T)(cf:ht P G C)(gk:k7 P G H)(bX:N<10000){k:aK->Option β}{b:β}(ay:∀o∈all.toList,∀d,o.dst=some d->d<N)(bR:fV ib σ)(h:YQ T G C H ko all σ k=some b):oT P G N all 0 all.toList (λaV=>fV ib aV/\k aV=some b) σ:=by
 have:=FD (P:=P) (N:=N) (ib:=ib) (all:=all) (i:=0) bf cf gk bX (K:=λaV=>fV ib aV/\k aV=some b) (λg hm o aF=>Lb _ _ _ hm o aF) (by rw[wH];exact ay) (by rw[wH];intro j;simp) bR (λaV ab af=>⟨ab,af⟩) h
 rwa [wH]at this
def akz{Q:Exit->aK->Prop}{id:Nat}{ops:Array Oper}(h:oT P G N ops 0 ops.toList (Q .normal) σ):hs P T G N (.region id ops false) σ Q:=by intro m fr ρ a w c4 c1 nV ay;refine wp_region ?_;rw[List.range_eq_range'];have:=h m fr ρ a w (λe cB w'=>iU N m fr ρ σ (Q e) cB w') c4 c1 nV ay (λcB w' av=>av);simpa using this
end
def sZ(ops:Array Oper):Bool:=(List.range ops.size).all λj=>match ops[j]? with
  |some o=>o.after.all (λe=>!Region.binds .any e||decide (e.on<j))&&(match o.guard with|none=>true|some (g,_)=>decide (g<j))
  |none=>true
def FF(ops:Array Oper)(j:Nat):Bool:=(List.range j).all λi=>(List.range (j+1)).any λk=>decide (i<k)&&match ops[k]? with|some o=>o.after.any (λe=>Region.binds .any e&&decide (e.on=i))|none=>false
def Rm(ops:Array Oper)(p:Nat):Bool:=sZ ops&&(List.range ops.size).all λj=>decide (j<p)||FF ops j
def yE{ops:Array Oper}(h:sZ ops=true){j:Nat}{o:Oper}(aF:ops[j]?=some o):(∀e∈o.after,Region.binds .any e=true->e.on<j)/\∀g b,o.guard=some (g,b)->g<j:=by
 have aP:j<ops.size:=(xaW.1 aF).1;have ab:=xaA.1 h j (xbW.2 aP);simp only[aF,xam]at ab;refine⟨λe he aj=>?_,λg b b5=>?_⟩
 .have:=Array.all_eq_true'.1 ab.1 e he;simpa[aj]using this
 have:=ab.2;rw[b5]at this;simpa using this
def akA{ops:Array Oper}{j i:Nat}(h:FF ops j=true)(ah:i<j):∃k o,i<k/\k<=j/\ops[k]?=some o/\∃e∈o.after,Region.binds .any e=true/\e.on=i:=by
 have ab:=xaA.1 h i (xbW.2 ah);obtain⟨k,ak,af⟩:=xbr.1 ab;simp only[xam,xaE]at af;obtain⟨aw,a4⟩:=af;cases aF:ops[k]? with
 |none=>rw[aF]at a4;cases a4
 |some o=>rw[aF]at a4;obtain⟨e,he,b6⟩:=Array.any_eq_true'.1 a4;simp only[xam,xaE]at b6;have:=xbW.1 ak;exact⟨k,o,aw,by omega,aF,e,he,b6⟩
def BK(ops:Array Oper)(listed:Array Bool):Prop:=∀j o,ops[j]?=some o->listed.getD j true=true->∀e∈o.after,Region.binds .any e=true->listed.getD e.on false=true
section
variable{P:Program}{ops hM:Array Oper}{Q:Exit->Act->World->Prop}
def uO{i:Nat}(h:i<ops.size):(ops++hM)[i]?=ops[i]?:=xbJ h
def BL{l r:Array Bool}{d:Bool}{i:Nat}(h:i<l.size):(l++r).getD i d=l.getD i d:=by
 have af:i<l.size+r.size:=by omega
 simp only[xbw,xbJ h]
theorem akB{l:Array Bool}{m:Nat}{d:Bool}{i:Nat}(h:l.size<=i)(af:i<l.size+m):(l++Array.replicate m false).getD i d=false:=by simp only[xbw,Array.getElem?_append_right h];rw[Array.getElem?_replicate,xad (by omega)];rfl
def Rn{l:Array Bool}{i:Nat}(h:i<l.size)(d e:Bool):l.getD i d=l.getD i e:=by simp[Array.getD,h]
def Ro{all:Array Oper}{L:Array Bool}{j:Nat}(bR:L.size=all.size)(aq:FF all j=true)(hinv:BK all L)(av:j∈Region.ready .any all L):∀(d i:Nat),j-i<=d->i<j->L.getD i false=true
 |0,i,h,ah=>by omega
 |d+1,i,h,ah=>by
  obtain⟨k,o',ab,ak,af,e,aw,a4,b6⟩:=akA aq ah;rw[<-b6];by_cases akC:k=j;.subst akC;obtain⟨_,my,bz,bA⟩:=xbL.1 av;rw[af]at bz;cases bz;exact bA e aw a4
  have cP:=Ro bR aq hinv av d k (by omega) (by omega);have eP:=(xaW.1 af).1;rw[Rn (by omega) false true]at cP;exact hinv k o' af cP e aw a4
def FG{all:Array Oper}{L:Array Bool}{i:Nat}(h:i∈Region.ready .any all L):i<all.size:=(xaW.1 (xbL.1 h).2.choose_spec.1).1
def akD{all:Array Oper}{L:Array Bool}(aG:L.size=all.size)(h:BK all L){i:Nat}(ah:i∈Region.ready .any all L):BK all (L.setIfInBounds i true):=by
 obtain⟨ab,fw,af,aw⟩:=xbL.1 ah;have ck:=FG ah;have up:∀{j:Nat},L.getD j false=true->(L.setIfInBounds i true).getD j false=true:=by
  intro j aP;by_cases cJ:j<L.size
  .by_cases gS:i=j;.subst gS;simp[Array.getD,cJ]
   simp[Array.getD,cJ]at aP⊢;rw[xby cJ gS];exact aP
  simp[Array.getD,cJ]at aP
 intro j o' aF aP e he m2;have cJ:j<L.size:=by have:=(xaW.1 aF).1;omega
 by_cases gS:i=j;.subst gS;rw[af]at aF;cases aF;exact up (aw e he m2)
 refine up (h j o' aF ?_ e he m2);simp[Array.getD,cJ]at aP⊢;rw[xby cJ gS]at aP;exact aP
def YZ{listed:Array Bool}(aj:sZ (ops++hM)=true)(aG:listed.size=ops.size){i:Nat}(ah:i<ops.size):i∈Region.ready .any (ops++hM) (listed++Array.replicate hM.size false)↔i∈Region.ready .any ops listed:=by
 rw[xbL,xbL,BL (by omega),uO ah];refine and_congr_right λ_=>?_;constructor;.rintro⟨o',aF,h⟩;refine⟨o',aF,λe he m2=>?_⟩;have:=(yE aj (by rw[uO ah];exact aF)).1 e he m2;rw[<-h e he m2,BL (by omega)]
 rintro⟨o',aF,h⟩;refine⟨o',aF,λe he m2=>?_⟩;have:=(yE aj (by rw[uO ah];exact aF)).1 e he m2;rw[BL (by omega),h e he m2]
def Y0{all:Array Oper}{L:Array Bool}(aG:L.size=all.size)(h:∀i,i<all.size->L.getD i false=true):Region.ready .any all L=[]:=by refine List.eq_nil_iff_forall_not_mem.2 λi ah=>?_;have cu:=FG ah;have ab:=(xbL.1 ah).1;rw[Rn (by omega) true false,h i cu]at ab;cases ab
def akE{all:Array Oper}{L:Array Bool}(aj:sZ all=true)(aG:L.size=all.size)(h:Region.ready .any all L=[]):∀(i:Nat),i<all.size->L.getD i false=true:=by
 intro i
 induction i using Nat.strongRecOn with
 |_ i ih=>
  intro ah;refine xbz λan=>?_;have ba:L.getD i true=false:=by rw[Rn (by omega) true false];simpa using an
  have:i∈Region.ready .any all L:=by refine xbL.2 ⟨ba,all[i],by simp[ah],λe he m2=>?_⟩;have cu:=(yE aj (j:=i) (o:=all[i]) (by simp[ah])).1 e he m2;exact ih e.on cu (by omega)
  rw[h]at this;cases this
def akF(aj:sZ (ops++hM)=true):sZ ops=true:=by
 refine xaA.2 λj aP=>?_;have aP:=xbW.1 aP;have ab:=xaA.1 aj j (xbW.2 (by simp;omega))
 rwa [uO aP]at ab
def akG{tm:Array Value}{g:Nat}(h:g<ops.size):yielded (ops++hM) tm g=yielded ops tm g:=by unfold yielded;rw[uO h]
def akH(aj:sZ (ops++hM)=true){i:Nat}(ah:i<ops.size){o':Oper}(aF:ops[i]?=some o')(tm:Array Value):Region.wanted o' (yielded (ops++hM) tm)=Region.wanted o' (yielded ops tm):=by unfold Region.wanted;cases b5:o'.guard with|none=>rfl|some p=>obtain⟨g,b⟩:=p;have:=(yE aj (by rw[uO ah];exact aF)).2 g b b5;simp only[akG (Nat.lt_trans this ah)]
def akI(aj:sZ (ops++hM)=true){i:Nat}(ah:i<ops.size){K:Act->World->Prop}{a:Act}{w:World}:wpOp P (ops++hM) Q i K a w=wpOp P ops Q i K a w:=by
 unfold wpOp;rw[uO ah];have:ops[i]?=some ops[i]:=by simp[ah]
 rw[this];simp only[akH aj ah this]
def akJ{all:Array Oper}:∀(fuel:Nat)(L:Array Bool)(a:Act)(w:World),Region.ready .any all L=[]->Q .normal a w->wpAny P .any all Q fuel L a w
 |0,L,a,w,h,hr=>⟨h,hr⟩|fuel+1,L,a,w,h,hr=>⟨λ_=>hr,λi ah=>by rw[h]at ah;cases ah⟩
def mB(n j:Nat):Array Bool:=Array.ofFn (n:=n) λi=>decide (i.val<j)
def Y1{n j:Nat}:(mB n j).size=n:=by simp[mB]
def yG{n j i:Nat}{d:Bool}(h:i<n):(mB n j).getD i d=decide (i<j):=by simp[mB,Array.getD,h]
def akK{n j:Nat}:(mB n j).setIfInBounds j true=mB n (j+1):=by
 apply Array.ext;.simp[mB]
 intro i ab af;simp[mB]at ab;by_cases h:i=j;.subst h;simp[mB]
 rw[xby (by simpa[mB]using ab) (by omega)];simp[mB];omega
def Y2{all:Array Oper}(aj:sZ all=true){p:Nat}(aq:∀j,p<=j->j<all.size->FF all j=true):∀(d j:Nat)(a:Act)(w:World),p<=j->j+d=all.size->wpOps P all Q (List.range' j d) a w->wpAny P .any all Q d (mB all.size j) a w
 |0,j,a,w,aT,ay,h=>by refine⟨Y0 Y1 λi ah=>by rw[yG ah];simp;omega,by simpa[wpOps]using h⟩
 |d+1,j,a,w,aT,ay,h=>by
  have aP:j<all.size:=by omega
  have hinv:BK all (mB all.size j):=by intro i o aF ah e he m2;have ck:=(xaW.1 aF).1;rw[yG ck]at ah;have:=(yE aj aF).1 e he m2;rw[yG (by omega)];simp at ah⊢;omega
  have Y3:j∈Region.ready .any all (mB all.size j):=by refine xbL.2 ⟨by rw[yG aP];simp,all[j],by simp[aP],λe he m2=>?_⟩;have:=(yE aj (j:=j) (o:=all[j]) (by simp[aP])).1 e he m2;rw[yG (by omega)];simpa using this
  refine⟨λar=>(by rw[ar]at Y3;cases Y3),λi ah=>?_⟩;have fK:=FG ah;have ab:=(xbL.1 ah).1;rw[yG fK]at ab;have gS:i=j:=by
   have e3:j<=i:=by simpa using ab
   by_cases an:i=j;.exact an
   have:=Ro Y1 (aq i (by omega) fK) hinv ah i j (by omega) (by omega);rw[yG aP]at this;simp at this
  subst gS;rw[List.range'_succ,wpOps_cons]at h;refine wpOp_mono (λcB w' bj=>?_) h;rw[akK];exact Y2 aj aq d (i+1) cB w' (by omega) (by omega) bj
def akL{listed:Array Bool}{m:Nat}(h:∀i,i<listed.size->listed.getD i false=true):listed++Array.replicate m false=mB (listed.size+m) listed.size:=by
 apply Array.ext;.simp[mB]
 intro i ab af;simp at ab;by_cases ah:i<listed.size;.have:=h i ah;simp[Array.getD,ah]at this;rw[Array.getElem_append_left ah,this];simp[mB,ah]
 rw[Array.getElem_append_right (by omega)];simp[mB];omega
def akM{listed:Array Bool}{m i:Nat}(ah:i<listed.size):(listed++Array.replicate m false).setIfInBounds i true=listed.setIfInBounds i true++Array.replicate m false:=by
 apply Array.ext;.simp
 intro j ab af;simp at ab;by_cases aP:j<listed.size
 .rw[Array.getElem_append_left (by simpa using aP)];by_cases gS:i=j;.subst gS;simp
  rw[xby (by simp;omega) gS,Array.getElem_append_left aP,xby aP gS]
 rw[Array.getElem_append_right (by simp;omega),xby (by simp;omega) (by omega),Array.getElem_append_right (by omega)];simp
end
def Y4{P:Program}{Q:Exit->Act->World->Prop}{all:Array Oper}:∀{n:Nat}{L:Array Bool}{a:Act}{w:World},wpAny P .any all Q n L a w->∀k,n<=k->wpAny P .any all Q k L a w
 |0,L,a,w,h,k,ak=>akJ k L a w h.1 h.2|n+1,L,a,w,h,0,ak=>by omega|n+1,L,a,w,h,k+1,ak=>⟨h.1,λi ah=>wpOp_mono (λcB w' bx=>Y4 bx k (by omega)) (h.2 i ah)⟩
section
variable{P:Program}{T:cg}{G:dt}{ops hM:Array Oper}{Q:Exit->Act->World->Prop}
def akN{m:Mem}{fr:fP}{N:Nat}(bf:dR P T){K:aK->Prop}(aj:sZ (ops++hM)=true)(aq:∀j,ops.size<=j->j<(ops++hM).size->FF (ops++hM) j=true)(g5:∀o∈ops,∀d,o.dst=some d->d<N):∀(fuel:Nat)(listed:Array Bool)(m:Mem)(ρ:dp)(σ:aK)(a:Act)(w:World),listed.size=ops.size->BK ops listed->kB G m->Den m fr ρ σ a w->N<=a.tmps.size->a.defers=[]->jh P T G ops K fuel listed σ->(∀cB w',iU N m fr ρ σ K cB w'->wpOps P (ops++hM) Q (List.range' ops.size hM.size) cB w')->wpAny P .any (ops++hM) Q (fuel+hM.size) (listed++Array.replicate hM.size false) a w:=by
 have fin:∀{fuel:Nat}{listed:Array Bool}{m:Mem}{ρ:dp}{σ:aK}{a:Act}{w:World},listed.size=ops.size->Region.ready .any ops listed=[]->kB G m->Den m fr ρ σ a w->N<=a.tmps.size->a.defers=[]->K σ->(∀cB w',iU N m fr ρ σ K cB w'->wpOps P (ops++hM) Q (List.range' ops.size hM.size) cB w')->wpAny P .any (ops++hM) Q hM.size (listed++Array.replicate hM.size false) a w:=by intro fuel listed m ρ σ a w aG av c4 h bX hD ak hr;have akO:=akE (akF aj) aG av;rw[akL (λi ah=>akO i (by omega)),aG,<-Array.size_append];exact Y2 aj aq _ _ _ _ (xan _) (by simp) (hr a w ⟨σ,m,ρ,ak,Mem.le_refl m,h,bX,hD,k1.refl _ _⟩)
 intro fuel
 induction fuel with
 |zero=>intro listed m ρ σ a w aG hinv c4 h bX hD a3 hr;rw[xax];exact fin (fuel:=0) aG a3.1 c4 h bX hD a3.2 hr
 |succ fuel ih=>
  intro listed m ρ σ a w aG hinv c4 h bX hD a3 hr;by_cases av:Region.ready .any ops listed=[];.have:=fin (fuel:=0) aG av c4 h bX hD (a3.1 av) hr;exact Y4 this _ (by omega)
  rw[Nat.add_right_comm];have akP:BK (ops++hM) (listed++Array.replicate hM.size false):=by
   intro j o' aF aP e he m2;have cJ:=(xaW.1 aF).1;simp at cJ;by_cases Y5:j<ops.size
   .rw[BL (by omega)]at aP;rw[uO Y5]at aF;have:=(yE aj (by rw[uO Y5];exact aF)).1 e he m2;rw[BL (by omega)];exact hinv j o' aF aP e he m2
   rw[akB (by omega) (by omega)]at aP;cases aP
  refine⟨λar=>absurd ?_ av,λi ah=>?_⟩;.refine List.eq_nil_iff_forall_not_mem.2 λi ah=>?_;have:=(YZ aj aG (FG ah)).2 ah;rw[ar]at this;cases this
  by_cases sF:i<ops.size;.have jB:=(YZ aj aG sF).1 ah;have ab:=a3.2 i jB;obtain⟨_,fw,aF,_⟩:=xbL.1 jB;unfold h0 at ab;simp only[aF]at ab;rw[akI aj sF];refine wpOp_mono ?_ (PY bf c4 h bX hD aF (g5 fw (Array.mem_of_getElem? aF)) ab);rintro cB w' ⟨aV,cF,cV,bz,bA,cx,eo,fi,hh⟩;rw[akM (by omega)];refine ih _ cF cV aV cB w' (by simp[aG]) (akD aG hinv jB) (c4.mono bA) cx eo fi bz ?_;rintro py k2 ⟨ri,ye,yf,dy,dg,eW,jj,lD,pz⟩;exact hr py k2 ⟨ri,ye,yf,dy,Mem.le_trans bA dg,eW,jj,lD,hh.trans pz⟩
  refine absurd (Y0 aG λj aP=>?_) av;have:=Ro (by simp[aG]) (aq i (by omega) (FG ah)) akP ah i j (by omega) (by omega)
  rwa [BL (by omega)]at this
end
def akQ{P:Program}{T:cg}{G:dt}{N:Nat}{σ:aK}{Q:Exit->aK->Prop}(bf:dR P T)(hm:P.follows .mixedOrders=true){id:Nat}{ops hM:Array Oper}(bX:wo N ops=true)(aj:Rm (ops++hM) ops.size=true) {K:aK->Prop} (ed:∀aV,K aV->oT P G N (ops++hM) ops.size hM.toList (Q .normal) aV) (h:jh P T G ops K ops.size (Array.replicate ops.size false) σ):hs P T G N (.region id (ops++hM) true) σ Q:=by
 intro m fr ρ a w c4 c1 nV ay;refine wp_region_any hm ?_;simp only[Rm,xam]at aj;have e:Array.replicate (ops++hM).size false=Array.replicate ops.size false++Array.replicate hM.size false:=by rw[Array.size_append,Array.replicate_append_replicate]
 rw[e,Array.size_append];refine akN (m:=m) (fr:=fr) (N:=N) (T:=T) bf aj.1 (λj ab af=>?_) (wq bX) ops.size _ m ρ σ a _ (by simp) ?_ c4 (c1.drew _) nV ay h ?_;.have:=xaA.1 aj.2 j (xbW.2 af);simp only[xbf,xaE]at this;exact this.resolve_left (by omega)
 .intro j o' aF aP;have:=(xaW.1 aF).1;simp[Array.getD,this]at aP
 rintro cB w' ⟨aV,cF,cV,bz,bA,cx,eo,fi,hh⟩;have:=ed aV bz cF fr cV cB w' (λe cB w'=>iU N m fr ρ σ (Q e) cB w') (c4.mono bA) cx eo fi (λpy k2 av=>av.trans bA hh);simpa using this
section
variable{β:Type}
def bq(f:List D->Option (List D⊕β)):Nat->List D->Option β
 |0,_=>none|n+1,ls=>aa (f ls) λx=>match x with| .inl fy=>bq f n fy| .inr b=>some b
end
def wR:Code->Nat
 | .region id _ _=>id| .seq x _=>wR x| .cond _ x _=>wR x| .block _ c=>wR c| .loop c=>wR c| .scope c=>wR c|_=>0
def akR(c:Tmp)(x y:Code):Nat:=(c*1000+wR y)*1000+wR x
structure ns where
 T:cg
 G:dt
 C:l2
 n:Nat
 ib:List Key
 loops:Nat->Option rp
 akS:Nat->Option rp
 blocks:Nat->Option rp
 qv:Nat->Option (List Nat)
 H:wQ
 ko:Tmp->Bool
 pre:Nat->List (List Key)
def aY{β:Type}(b:Option β):Option (List D⊕β):=aa b λb=>some (.inr b)
def a9{β:Type}(f:List D->Option β):List D⊕β->Option β
 | .inl ls=>f ls| .inr b=>some b
def Rp{β:Type}(ib:List Key)(gj:rp)(run:(Exit->aK->Option (List D⊕β))->Option (List D⊕β))(k:Exit->aK->Option β):Option β:=aa (run λe aV=>match e with| .normal=>sW ib gj aV λls=>some (.inl ls)|e=>aY (k e aV)) (a9 λls=>k .normal (restore gj ls))
def FH{β:Type}(id:Nat)(k:Exit->aK->Option β)(e:Exit)(σ:aK):Option β:=match e with
 | .exit uA=>if uA=id then k .normal σ else k (.exit uA) σ
 |e=>k e σ
def akT{β:Type}(k:Exit->aK->Option β)(e:Exit)(σ:aK):Option β:=match e with| .goto _=>none|e=>k e σ
def exec(X:ns):Code->{β:Type}->aK->(Exit->aK->Option β)->Option β
 | .skip,_,σ,k=>k .normal σ| .label _,_,σ,k=>k .normal σ| .scope c,_,σ,k=>exec X c σ (akT k)| .exit id,_,σ,k=>k (.exit id) σ| .ret,_,σ,k=>k .ret σ
 | .region id ops d,_,σ,k=>yy (X.pre id) σ λσ=>match X.qv id with
  |none=>match d with|true=>Yb X.T X.G X.C ops σ λaV=>k .normal aV|false=>YQ X.T X.G X.C X.H X.ko ops σ λaV=>k .normal aV
  |some ord=>if d=true/\ord.length=ops.size then Bx X.T X.G X.C ops ord (Array.replicate ops.size false) σ λaV=>k .normal aV
   else if d=true/\ord.length<=ops.size/\Rm ops ord.length=true then Bx X.T X.G X.C (ops.extract 0 ord.length) ord (Array.replicate ord.length false) σ λaV=>yC X.T X.G X.C X.H X.ko ops (wD (ops.extract ord.length ops.size).toList) aV λri=>k .normal ri
   else none
 | .seq x y,_,σ,k=>exec X x σ λe aV=>match e with| .normal=>exec X y aV k|e=>k e aV
 | .cond (.tmp c) x y,_,σ,k=>match σ.aM c with
  | .d a=>match X.akS (akR c x y)with|none=>aI a (exec X x σ k) (exec X y σ k)|some gj=>Rp X.ib gj (λbr=>aI a (exec X x σ br) (exec X y σ br)) k
  |_=>none
 | .block id c,_,σ,k=>match X.blocks id with|none=>exec X c σ (FH id k)|some gj=>Rp X.ib gj (λbr=>exec X c σ (FH id br)) k
 | .loop c,_,σ,k=>match X.loops (wR c)with|none=>none|some gj=>sW X.ib gj σ λRq=>bq (λls=>exec X c (restore gj ls) λe aV=>match e with| .normal=>sW X.ib gj aV λfy=>some (.inl fy)|e=>aY (k e aV)) X.n Rq
 | .cond (.const v) x y,_,σ,k=>match v with| .bool true=>exec X x σ k| .bool false=>exec X y σ k|_=>none
 |_,_,_,_=>none
section
variable{P:Program}{T:cg}{G:dt}{N:Nat}{σ:aK}{all:Array Oper}{ib:List Key}
def Y6{K K':aK->Prop}(ak:∀σ,K σ->K' σ):∀(fuel:Nat){listed:Array Bool}{σ:aK},jh P T G all K fuel listed σ->jh P T G all K' fuel listed σ
 |0,_,_,h=>⟨h.1,ak _ h.2⟩|fuel+1,_,_,h=>⟨λar=>ak _ (h.1 ar),λi ah=>wj (λ_ bx=>Y6 ak fuel bx) (h.2 i ah)⟩
def FI{K:aK->Prop}(ay:∀o∈all,∀d,o.dst=some d->d<10000):∀(fuel:Nat){listed:Array Bool}{σ:aK},fV ib σ->jh P T G all K fuel listed σ->jh P T G all (λaV=>fV ib aV/\K aV) fuel listed σ
 |0,_,_,bR,h=>⟨h.1,bR,h.2⟩
 |fuel+1,_,σ,bR,h=>by
  refine⟨λar=>⟨bR,h.1 ar⟩,λi ah=>?_⟩;have ab:=h.2 i ah;unfold h0 at ab⊢;split at ab
  .exact FI ay fuel bR ab
  rename_i o aF;rw[hL]at ab⊢;have yH:=ay o (Array.mem_of_getElem? aF);cases hw:j1 all σ o with|none=>rw[hw]at ab;exact ab|some w=>rw[hw]at ab;cases w with|true=>exact qn (λaV ⟨af,aw⟩=>FI ay fuel af aw) (YR bR yH ab)|false=>exact FI ay fuel bR.put ab
def akU{Q:Exit->aK->Prop}(bf:dR P T)(hm:P.follows .mixedOrders=true){id:Nat}{ops:Array Oper}(bX:wo N ops=true) (h:jh P T G ops (Q .normal) ops.size (Array.replicate ops.size false) σ):hs P T G N (.region id ops true) σ Q:=by intro m fr ρ a w c4 c1 nV ay;refine wp_region_any hm ?_;exact P7 (m:=m) (fr:=fr) (N:=N) (Q:=λe cB w'=>iU N m fr ρ σ (Q e) cB w') bf (wq bX) ops.size _ m ρ σ a _ c4 (c1.drew _) nV ay h (λcB w' av=>av)
def pL(T:cg)(os:Nat->Option (List Nat))(N:Nat):Code->Bool
 | .region id ops d=>wo N ops&&(!d||(os id).isSome||yd T ops (List.range ops.size) (Array.replicate ops.size false))| .seq x y=>pL T os N x&&pL T os N y| .cond _ x y=>pL T os N x&&pL T os N y| .block _ c=>pL T os N c| .loop c=>pL T os N c| .scope c=>pL T os N c|_=>true
def n1{β:Type}(ib:List Key)(k:Exit->aK->Option β)(b:β)(e:Exit)(σ:aK):Prop:=∃τ,g6 σ τ/\fV ib τ/\k e τ=some b
def Y7{β:Type}{x:Option β}{y:List D⊕β}(h:aY x=some y):∃b,x=some b/\y= .inr b:=by obtain⟨b,ab,af⟩:=fx h;exact⟨b,ab,(xaV af).symm⟩
def Y8{β:Type}{gj:rp}{c:Code}{run:(Exit->aK->Option (List D⊕β))->Option (List D⊕β)}{k:Exit->aK->Option β}{b:β} (hY:∀br b',run br=some b'->hs P T G N c σ (n1 ib br b')) (h:Rp ib gj run k=some b):hs P T G N c σ (n1 ib k b):=by
 obtain⟨x,ab,af⟩:=fx h;refine Bk (hY _ _ ab) ?_;rintro e aV ⟨τ,aW,a2,bb⟩;have other:∀dv,e=dv->aY (k dv τ)=some x->n1 ib k b e aV:=by rintro dv rfl aw;obtain⟨b',a4,rfl⟩:=Y7 aw;cases af;exact⟨τ,aW,a2,a4⟩
 cases e with
 |normal=>obtain⟨ls,bz,bA,cx⟩:=Lj a2 bb;cases cx;exact⟨_,aW.trans bz,bA,af⟩
 |exit id=>exact other _ rfl bb|goto l=>exact other _ rfl bb|ret=>exact other _ rfl bb|panic c=>exact other _ rfl bb|outgrown=>exact other _ rfl bb
def akV{β:Type}{f:List D->Option (List D⊕β)}{n:Nat}{ls:List D}{b:β}(h:bq f n ls=some b):∃m,n=m+1/\((∃fy,f ls=some (.inl fy)/\bq f m fy=some b)\/f ls=some (.inr b)):=by
 cases n with
 |zero=>cases h
 |succ m=>obtain⟨x,ab,af⟩:=fx h;refine⟨m,rfl,?_⟩;cases x with|inl fy=>exact .inl ⟨fy,ab,af⟩|inr b'=>cases af;exact .inr ab
def n1.block{β:Type}{id:Nat}{k:Exit->aK->Option β}{b:β}{e:Exit}{σ:aK}(h:n1 ib (FH id k) b e σ):EZ id (n1 ib k b) e σ:=by
 obtain⟨τ,aW,a2,bb⟩:=h;cases e with
 |exit uA=>
  simp only[EZ];unfold FH at bb;by_cases ah:uA=id;.simp only[ah,xaC]at bb⊢;exact⟨τ,aW,a2,bb⟩
  simp only[ah,xaD]at bb⊢;exact⟨τ,aW,a2,bb⟩
 |normal=>exact⟨τ,aW,a2,bb⟩|goto l=>exact⟨τ,aW,a2,bb⟩|ret=>exact⟨τ,aW,a2,bb⟩|panic c=>exact⟨τ,aW,a2,bb⟩|outgrown=>exact⟨τ,aW,a2,bb⟩
def rz(X:ns)(bf:dR P X.T)(cf:ht P X.G X.C)(gk:k7 P X.G X.H)(hm:P.follows .mixedOrders=true)(bX:N<10000):∀(c:Code){β:Type}{σ:aK}{k:Exit->aK->Option β}{b:β},pL X.T X.qv N c=true->fV X.ib σ->exec X c σ k=some b->hs P X.T X.G N c σ (n1 X.ib k b)
 | .skip,β,σ,k,b,_,bR,h=>ah5 ⟨σ,g6.refl σ,bR,h⟩| .label l,β,σ,k,b,_,bR,h=>ah6 ⟨σ,g6.refl σ,bR,h⟩| .exit id,β,σ,k,b,_,bR,h=>ah7 ⟨σ,g6.refl σ,bR,h⟩| .ret,β,σ,k,b,_,bR,h=>ah8 ⟨σ,g6.refl σ,bR,h⟩
 | .region id ops d,β,σ,k,b,bm,bR,h=>by
  simp only[pL,xam,xbf,xca]at bm;have g5:∀o∈ops.toList,∀d,o.dst=some d->d<10000:=λo aF d ay=>Nat.lt_trans (wq bm.1 o (by simpa using aF) d ay) bX;have Rr:∀aV,fV X.ib aV/\k .normal aV=some b->n1 X.ib k b .normal aV:=λaV bx=>⟨aV,g6.refl aV,bx⟩;unfold exec at h;have ag:=FB bR h;clear h bR;obtain⟨σ,akW,bR,h⟩:=ag;refine P8 akW ?_;split at h
  .rename_i Bl;split at h
   .have ab:=ajL (P:=P) (all:=ops) (σ:=σ) cf (K:=λaV=>∃τ,oN aV τ/\k .normal τ=some b) (λσ τ hw ⟨yg,ab,af⟩=>⟨yg,hw.trans ab,af⟩) (λaV bx=>⟨aV,oN.refl _,bx⟩) h;have af:fY P X.T X.G ops ops.toList (n1 X.ib k b .normal) σ:=by
     refine m0 ?_ (Rc bR g5 ab);rintro aV ⟨aW,τ,a2,bb⟩;refine⟨τ,a2.Ff,?_,bb⟩;intro j aP aj;rw[<-a2.1]at aj;exact aW j aP aj
    exact aiy bf hm bm.1 (bm.2.resolve_left (by simp[Bl])) af
   have ab:=aky (P:=P) (all:=ops) (σ:=σ) bf cf gk bX (λo aF d ay=>wq bm.1 o (by simpa using aF) d ay) bR h;exact akz (λm fr ρ a w Q c4 c1 nV ay hr=>ab m fr ρ a w Q c4 c1 nV ay (λcB w' av=>hr cB w' (av.mono Rr)))
  rename_i ord Bl;split at h
  case isFalse=>
   split at h
   case isFalse=>cases h
   rename_i an;obtain⟨rfl,b2,Y9⟩:=an;have lH:ops=ops.extract 0 ord.length++ops.extract ord.length ops.size:=by rw[Array.extract_append_extract,Nat.max_eq_right b2];simp
   have qh:ord.length=(ops.extract 0 ord.length).size:=by simp;omega
   have ab:=QO (P:=P) cf ord _ σ h;generalize ops.extract 0 ord.length=c6 at*;generalize ops.extract ord.length ops.size=AZ at*;subst lH;rw[qh]at ab;have n2:wo N c6=true:=by have:=bm.1;unfold wo at this⊢;simp only[Array.toList_append,List.all_append,xam]at this;exact this.1
   rw[qh]at Y9;refine akQ bf hm n2 Y9 ?_ (FI (λo aF d ay=>Nat.lt_trans (wq n2 o aF d ay) bX) _ bR ab);rintro aV ⟨Rg,ag⟩;have af:=FD (P:=P) (N:=N) (ib:=X.ib) (all:=c6++AZ) (i:=c6.size) bf cf gk bX (K:=n1 X.ib k b .normal) (λg hm o aF=>Lb _ _ _ hm o aF) (by rw[wH];intro o' aF d ay;exact wq bm.1 _ (by simp at aF⊢;exact .inr aF) d ay) (by rw[wH];intro j;rw[Array.getElem?_append_right (by omega)];simp) Rg (λri ab af=>Rr ri ⟨ab,af⟩) ag
   rwa [wH]at af
  rename_i an;obtain⟨rfl,b2⟩:=an;have ab:=QO (P:=P) cf ord _ σ h;rw[b2]at ab;exact akU bf hm bm.1 (Y6 Rr _ (FI (λo aF d ay=>Nat.lt_trans (wq bm.1 o aF d ay) bX) _ bR ab))
 | .seq x y,β,σ,k,b,bm,bR,h=>by simp only[pL,xam]at bm;refine ah9 (Bk (rz X bf cf gk hm bX x bm.1 bR h) ?_);rintro e aV ⟨τ,aW,a2,bb⟩;cases e with|normal=>simp only[KM];refine P8 aW (rz X bf cf gk hm bX y bm.2 a2 bb)|exit id=>exact⟨τ,aW,a2,bb⟩|goto l=>exact⟨τ,aW,a2,bb⟩|ret=>exact⟨τ,aW,a2,bb⟩|panic c=>exact⟨τ,aW,a2,bb⟩|outgrown=>exact⟨τ,aW,a2,bb⟩
 | .cond c x y,β,σ,k,b,bm,bR,h=>by
  simp only[pL,xam]at bm;cases c with
  |tmp c=>
   unfold exec at h;split at h
   case h_2=>cases h
   rename_i a aE;have two:∀{β:Type}(br:Exit->aK->Option β)(b':β),aI a (exec X x σ br) (exec X y σ br)=some b'->hs P X.T X.G N (.cond (.tmp c) x y) σ (n1 X.ib br b'):=by
    intro β br b' h;rcases XU h with⟨rfl,ab⟩|⟨rfl,ab⟩
    .exact KN (b:=true) aE (by rw[xad rfl];exact rz X bf cf gk hm bX x bm.1 bR ab)
    exact KN (b:=false) aE (by rw[xac (by simp)];exact rz X bf cf gk hm bX y bm.2 bR ab)
   split at h;.exact two k b h
   exact Y8 (λbr b' bx=>two br b' bx) h
  |const v=>
   unfold exec at h;split at h;.exact KN (b:=true) rfl (by rw[xad rfl];exact rz X bf cf gk hm bX x bm.1 bR h)
   .exact KN (b:=false) rfl (by rw[xac (by simp)];exact rz X bf cf gk hm bX y bm.2 bR h)
   cases h
  |global g=>cases h
  |func f=>cases h
 | .block id c,β,σ,k,b,bm,bR,h=>by
  have one:∀{β:Type}(br:Exit->aK->Option β)(b':β),exec X c σ (FH id br)=some b'->hs P X.T X.G N (.block id c) σ (n1 X.ib br b'):=by intro β br b' h;exact aic (Bk (rz X bf cf gk hm bX c bm bR h) (λe aV bx=>bx.block))
  unfold exec at h;split at h;.exact one k b h
  exact Y8 (λbr b' bx=>one br b' bx) h
 | .loop c,β,σ,k,b,bm,bR,h=>by
  unfold exec at h;split at h
  case h_1=>cases h
  rename_i gj Lw;obtain⟨Rq,aO,aX,bQ⟩:=Lj bR h;generalize ba:(λls=>exec X c (restore gj ls) λe aV=>match e with| .normal=>sW X.ib gj aV λfy=>some (Sum.inl fy)|e=>aY (k e aV))=f at bQ;refine ain (ι:={p:List D×Nat//bq f p.2 p.1=some b/\fV X.ib (restore gj p.1)}) (λp=>restore gj p.1.1) (λp=>p.1.2) ⟨(Rq,X.n),bQ,aX⟩ aO ?_;rintro⟨⟨ls,n⟩,Za,hG⟩;simp only at Za hG⊢;obtain⟨m,rfl,aw⟩:=akV Za;have round:∀x,f ls=some x->hs P X.T X.G N c (restore gj ls) (n1 X.ib (λe aV=>match e with| .normal=>sW X.ib gj aV λfy=>some (Sum.inl fy)|e=>aY (k e aV)) x):=by intro x ag;rw[<-ba]at ag;exact rz X bf cf gk hm bX c bm hG ag
  have go:∀x,f ls=some x->(∀fy,x= .inl fy->bq f m fy=some b)->(∀b',x= .inr b'->b'=b)->hs P X.T X.G N c (restore gj ls) (KM (λaV=>∃j:{p:List D×Nat//bq f p.2 p.1=some b/\fV X.ib (restore gj p.1)},g6 aV (restore gj j.1.1)/\j.1.2<m+1) (n1 X.ib k b)):=by
   intro x ag aq av;refine Bk (round x ag) ?_;rintro e aV ⟨τ,aW,a2,bb⟩;have other:∀dv,e=dv->aY (k dv τ)=some x->n1 X.ib k b e aV:=by rintro dv rfl aw;obtain⟨b',a4,rfl⟩:=Y7 aw;rw[av b' rfl]at a4;exact⟨τ,aW,a2,a4⟩
   cases e with
   |normal=>obtain⟨fy,bz,bA,cx⟩:=Lj a2 bb;cases cx;exact⟨⟨(fy,m),aq fy rfl,bA⟩,aW.trans bz,Nat.lt_succ_self m⟩
   |exit id=>exact other _ rfl bb|goto l=>exact other _ rfl bb|ret=>exact other _ rfl bb|panic c=>exact other _ rfl bb|outgrown=>exact other _ rfl bb
  rcases aw with⟨fy,a4,b6⟩|a4;.exact go _ a4 (by rintro _ ⟨⟩;exact b6) (by rintro _ ⟨⟩)
  exact go _ a4 (by rintro _ ⟨⟩) (by rintro _ ⟨⟩;rfl)
 | .rangeFunc _ _ _ _,β,σ,k,b,_,bR,h=>by cases h
 | .scope c,β,σ,k,b,bm,bR,h=>aib (Bk (rz X bf cf gk hm bX c (by simpa[pL]using bm) bR h) (by
   rintro e aV ⟨τ,aW,a2,bb⟩;cases e with
   |goto l=>cases bb
   |normal=>exact⟨τ,aW,a2,bb⟩|exit id=>exact⟨τ,aW,a2,bb⟩|ret=>exact⟨τ,aW,a2,bb⟩|panic c=>exact⟨τ,aW,a2,bb⟩|outgrown=>exact⟨τ,aW,a2,bb⟩))
 | .goto _,β,σ,k,b,_,bR,h=>by cases h
 | .refuse _,β,σ,k,b,_,bR,h=>by cases h
end
def Zb{P:Program}{T:cg}{G:dt}{N:Nat}{c:Code}{σ:aK}{Q:Exit->aK->Prop}(h:hs P T G N c σ (λe aV=>∃τ,g6 aV τ/\Q e τ)):hs P T G N c σ Q:=by intro m fr ρ a w c4 c1 bX ay;refine wp_mono (h m fr ρ a w c4 c1 bX ay) ?_;rintro e cB w' ⟨aV,cF,cV,⟨τ,kj,hr⟩,af,aw,a4,b6,cP⟩;obtain⟨ye,yf,aW,a2,bb⟩:=kj cF fr cV cB w' aw;exact⟨τ,ye,yf,hr,Mem.le_trans af aW,a2,a4,b6,cP.trans bb⟩
def akX(T:cg)(rs:List ResultVar)(e:Exit)(σ:aK):Option D:=match e with| .normal=>aa (rj T σ rs) (toD σ.objs)| .ret=>aa (rj T σ rs) (toD σ.objs)|_=>none
def uP(X:ns)(fn:Func)(args:List aS):Option D:=match fn.body with|some c=>exec X c (start args λ_=>none) (akX X.T fn.results.toList)|none=>none
def n3(T:cg)(os:Nat->Option (List Nat))(fn:Func):Bool:=match fn.body with|some c=>pL T os fn.ntmps c&&decide (fn.ntmps<10000)&&!(fn.name== "runtime.NumGoroutine")|none=>false
def akY{xs c6:List aS}(h:jN (λk=>k) (λ_=>False) xs c6):g6 (start xs λ_=>none) (start c6 λ_=>none):=by
 intro m fr ρ a w c1;refine⟨m,ρ,Mem.le_refl m,⟨c1.mem,c1.frame,c1.apart,?_,?_,?_,?_,?_⟩,?_⟩;.rintro k ⟨o,aF⟩;cases aF
 .intro t;have ab:=c1.aM t;obtain⟨af,aw⟩:=h.ok;simp only[start]at ab⊢;cases aJ:c6[t]? with
  |none=>rw[xaR,aJ];exact .any _
  |some y=>
   obtain⟨x,ag,hle⟩:=aw t y aJ;rw[xaR,ag]at ab;rw[xaR,aJ];have a4:pA (λk=>k) (aK.used (start c6 λ_=>none)) x y:=by unfold pA at hle⊢;split at hle<;>first|exact hle|(exact absurd hle.2 id)
   exact a4.ok (ρ:=ρ) ab
 .intro k o ak;cases ak
 .intro k o b ak;cases ak
 .intro k br o o' b _ ak;cases ak
 intro k _ an;exact absurd an uu
def akZ{P:Program}(X:ns)(bf:dR P X.T)(cf:ht P X.G X.C)(gk:k7 P X.G X.H)(hm:P.follows .mixedOrders=true)(jl:X.ib=[]){f:FuncId}{fn:Func}(ba:P.funcs[f]?=some fn)(bm:n3 X.T X.qv fn=true){aQ:List D}{as:List aS}(hle:jN (λk=>k) (λ_=>False) (aQ.map .d) as)(b2:decide (aQ.length<=fn.ntmps)=true){r:D} (h:uP X fn as=some r):er P X.G f aQ (·=r):=by
 have b2:=xba b2;unfold uP at h;unfold n3 at bm;split at h
 case h_2=>cases h
 rename_i c aj;simp only[aj,xam,xaE,xca]at bm;refine aiq bf ba aj bm.2 b2 ?_;refine P8 (akY hle) ?_;refine Zb (Bk (rz X bf cf gk hm bm.1.2 c bm.1.1 (by intro k _ an;exact absurd an uu) h) ?_);rintro e aV ⟨τ,aW,a2,bb⟩;have fin:aa (rj X.T τ fn.results.toList) (toD τ.objs)=some r->∃Zc d x,rj X.T τ fn.results.toList=some Zc/\toD τ.objs Zc=some d/\d.le x/\x=r:=by intro ab;obtain⟨u,af,aw⟩:=fx ab;exact⟨u,r,r,af,aw,D.le_refl _,rfl⟩
 refine⟨τ,aW,?_⟩;cases e with
 |normal=>exact⟨.inl rfl,fin bb⟩|ret=>exact⟨.inr rfl,fin bb⟩|exit id=>cases bb
 |goto l=>cases bb
 |panic c=>cases bb
 |outgrown=>cases bb
def Lx(s:fW)(ls:List D):aK:=⟨λt=>(s.wN ls).getD t .any,fG (s.n0 ls)⟩
def ak0(X:ns)(s:fW)(pH:List wI)(rs:List ResultVar)(e:Exit)(σ:aK):Option (List D):=match e with
 | .normal=>aa (rj X.T σ rs) λx=>sW X.ib ⟨[(0,s.res)],s.outs,pH⟩ ⟨λt=>if t=0 then x else .any,σ.objs⟩ some
 | .ret=>aa (rj X.T σ rs) λx=>sW X.ib ⟨[(0,s.res)],s.outs,pH⟩ ⟨λt=>if t=0 then x else .any,σ.objs⟩ some
 |_=>none
def Rs(X:ns)(fn:Func)(s:fW)(pH:List wI)(ls:List D):Option (List D):=match fn.body with|some c=>exec X c (Lx s ls) (ak0 X s pH fn.results.toList)|none=>none
def ak1{P:Program}(X:ns)(bf:dR P X.T)(cf:ht P X.G X.C)(gk:k7 P X.G X.H)(hm:P.follows .mixedOrders=true){s:fW}{fn:Func}(ba:P.funcs[s.f]?=some fn)(bm:n3 X.T X.qv fn=true)(b2:decide (s.args.length<=fn.ntmps)=true) (jl:(s.ins.all λp=>decide (p.1<10000)||X.ib.contains p.1)=true) {pH:List wI} {F:List D->Option (List D)} (h:∀ls fy,F ls=some fy->Rs X fn s pH ls=some fy):fb P X.G s F:=by
 have b2:=xba b2;unfold n3 at bm;split at bm
 case h_2=>cases bm
 rename_i c aj;simp only[xam,xaE,xca]at bm;refine⟨⟨fn,ba,bm.2,by rw[aj];rfl⟩,?_⟩;intro ls fy h2 m fr ρ w vs c4 c1 aq J8;have ag:=h ls fy h2;unfold Rs at ag;rw[aj]at ag;simp only at ag;have fz:(s.wN ls).length=s.args.length:=by
  have:∀(l:List lI)(n:Nat),(rq ls l n).1.length=l.length:=by
   intro l
   induction l with
   |nil=>intro n;rfl
   |cons x r ih=>intro n;simp[rq,ih]
  exact this _ _
 have ak2:fV X.ib (Lx s ls):=by
  intro k ak aj;obtain⟨cs,hK⟩:=Bc aj;have:=wx hK;have ab:mw (s.n0 ls)=s.ins.map (·.1):=yw _ _ _;rw[ab]at this;obtain⟨p,aT,rfl⟩:=xap.1 this;have af:=xaA.1 jl p aT;simp only[xbf,xaE,List.contains_eq_mem]at af;rcases af with af|af
  .exact absurd af (Nat.not_lt.2 ak)
  exact af
 have hw:=rz X bf cf gk hm bm.1.2 c bm.1.1 ak2 ag;refine calls_of_wp ba aj ?_;have E1:Den m fr ρ (Lx s ls) {tmps:=vs.toArray++Array.replicate (fn.ntmps-vs.toArray.size) undef,defers:=[]} w:=by
  refine⟨c1.mem,c1.frame,c1.apart,c1.one,?_,c1.objs,c1.own,c1.sep⟩;intro t;simp only[Lx];by_cases aL:t<vs.length
  .have cu:t<(s.wN ls).length:=by rw[<-aq];exact aL
   have ay:=xaa cu;have a3:=xaa aL;have aO:(s.wN ls).getD t .any=(s.wN ls)[t]:=by rw[xaR,ay];rfl
   have aX:(vs.toArray++Array.replicate (fn.ntmps-vs.toArray.size) undef).getD t undef=vs[t]:=by rw[xbw,xbJ (by simpa using aL)];simp[aL]
   rw[aO,aX];exact J8 t _ _ ay a3
  have aO:(s.wN ls).getD t .any= .any:=by rw[xaR,xbi (by omega)];rfl
  rw[aO];exact .any _
 have gR:fn.ntmps<=(vs.toArray++Array.replicate (fn.ntmps-vs.toArray.size) undef).size:=by simp;omega
 refine wp_mono (Zb hw m fr ρ _ w c4 E1 gR rfl) ?_;rintro e cB w' ⟨aV,cF,cV,⟨a2,bb⟩,b6,cP,gE,h1,jM⟩;have fin:(aa (rj X.T aV fn.results.toList) λx=>sW X.ib ⟨[(0,s.res)],s.outs,pH⟩ ⟨λt=>if t=0 then x else .any,aV.objs⟩ some)=some fy->cB.defers=[]/\∃v,(results fn cB.tmps).run P w'= .ok v w'/\∃v1 gM np,Ending.returned v= .returned v1/\m.le gM/\Ln gM fr np (fG (s.pK fy)) w'/\b4 gM np (rr (fG (s.pK fy))) (s.Lo fy) v1/\∀k,10000<=k->eZ (fG (s.n0 ls) k)->np k=ρ k:=by
  intro ab;obtain⟨x,af,aw⟩:=fx ab;obtain⟨v,bz,bA⟩:=Xt (P:=P) bf cP af;obtain⟨aAg,e4,eh,jL⟩:=Lj (σ:=⟨λt=>if t=0 then x else .any,aV.objs⟩) a2 aw;cases jL;have ak3:Den cF fr cV ⟨λt=>if t=0 then x else .any,aV.objs⟩ {tmps:= #[v],defers:=[]} w':=by
   refine⟨cP.mem,cP.frame,cP.apart,cP.one,?_,cP.objs,cP.own,cP.sep⟩;intro t;by_cases aL:t=0;.subst aL;exact bA
   simp only[aL,xaD];exact .any _
  obtain⟨kI,lB,t1,t2,t3⟩:=e4 cF fr cV _ w' ak3;have ak4:=t2.aM 0;refine⟨h1,v,bz,v,kI,lB,rfl,Mem.le_trans b6 t1,⟨t2.mem,t2.frame,t2.apart,t2.one,λ_=> .any _,t2.objs,t2.own,t2.sep⟩,?_,?_⟩
  .exact ak4
  intro k ak ak5;obtain⟨ly,kZ⟩:=jM k ak ak5;rw[(t3 k ak ly).2,kZ]
 cases e with
 |normal=>exact fin bb|ret=>exact fin bb|exit id=>cases bb
 |goto l=>cases bb
 |panic c=>cases bb
 |outgrown=>cases bb
def ak6{P:Program}{T:cg}{os:Nat->Option (List Nat)}{f:FuncId}{fn:Func}(ba:P.funcs[f]?=some fn)(bm:n3 T os fn=true):v8 P f:=by
 unfold n3 at bm;split at bm
 case h_2=>cases bm
 rename_i c aj;simp only[xam,xaE,xca]at bm;exact⟨fn,ba,bm.2,by rw[aj];rfl⟩
def yI{P:Program}{G:dt}{s:fW}{F:List D->Option (List D)}(wS:v8 P s.f)(h:∀ls,F ls=none):fb P G s F:=⟨wS,λls fy bx=>by rw[h]at bx;cases bx⟩
def eF:List (Tmp×BG)->wQ
 |[],_=>none|(t',e)::r,t=>if t=t' then some e else eF r t
def ak7{P:Program}{G:dt}:k7 P G (eF []):=by intro t e h;cases h
def ak8{P:Program}{G:dt}{t:Tmp}{e:BG}{l:List (Tmp×BG)}(h:fb P G e.s e.F)(bx:k7 P G (eF l)):k7 P G (eF ((t,e)::l)):=by
 intro t' dv he;unfold eF at he;split at he;.cases he;exact h
 exact bx t' dv he
def fk:List (Nat×List (List Key))->Nat->List (List Key)
 |[],_=>[]|(j,s)::r,k=>if k=j then s else fk r k
def ft(l:List Tmp)(t:Tmp):Bool:=l.contains t
def eG:List (FuncId×(List D->Option D))->l2
 |[],_,_,_=>none|(kG,F)::r,d,f,aQ=>if f=kG then F aQ else eG r d f aQ
def bw(P:Program)(G:dt)(f:FuncId)(F:List D->Option D):Prop:=∀aQ r,F aQ=some r->er P G f aQ (·=r)
def ak9{P:Program}{G:dt}:ht P G (eG []):=by intro d f aQ r h;cases h
def ala{P:Program}{G:dt}{f:FuncId}{F:List D->Option D}{l:List (FuncId×(List D->Option D))}(h:bw P G f F)(bx:ht P G (eG l)):ht P G (eG ((f,F)::l)):=by
 intro d kG aQ r av;unfold eG at av;split at av;.rename_i e;subst e;exact h aQ r av
 exact bx d kG aQ r av
def b7:List (Nat×rp)->Nat->Option rp
 |[],_=>none|(j,s)::r,k=>if k=j then some s else b7 r k
def fm:List (Nat×List Nat)->Nat->Option (List Nat)
 |[],_=>none|(j,s)::r,k=>if k=j then some s else fm r k
def rA(f:FuncId)(x:D):Bool:=match x with| .val (.func (.func kG) a b)=>kG==f&&a.size==0&&b.size==0|_=>false
def Rt{f:FuncId}{x:D}(h:rA f x=true):x= .val (.func (.func f) #[] #[]):=by
 unfold rA at h;split at h;.rename_i kG a b;simp only[xam,xbH]at h;obtain⟨⟨rfl,ab⟩,af⟩:=h;rw[xbk ab,xbk af]
 cases h
def hN(f:FuncId)(x:D):Option (List D):=match x with
 | .fn (.func kG) first oM=>if kG=f/\first.isEmpty=true then some oM else none
 |_=>none
def l7{f:FuncId}{x:D}{oM:List D}(h:hN f x=some oM):x= .fn (.func f) [] oM:=by
 unfold hN at h;split at h
 .split at h;.rename_i an;cases h;rw[an.1,List.isEmpty_iff.1 an.2]
  cases h
 cases h
def le_nil:jN (λk=>k) (λ_=>False) (List.map aS.d []) []:=trivial
def n4{x:D}{y:aS}{xs:List D}{c6:List aS}(h:pA (λk=>k) (λ_=>False) (.d x) y)(bx:jN (λk=>k) (λ_=>False) (List.map aS.d xs) c6):jN (λk=>k) (λ_=>False) (List.map aS.d (x::xs)) (y::c6):=⟨h,bx⟩
def alb{x:D}:pA (λk=>k) (λ_=>False) (.d x) (.d x):=⟨x,rfl,D.le_refl x⟩
theorem oU{c:List D}{o:Nat}:pA (λk=>k) (λ_=>False) (.d (.ref c o)) (.eA c o):= .inr rfl
def al(t:Nat):Nat×lI:=(t,.b .d)
def sp(t:Nat):Nat×lI:=(t,.b (.ptr t 0))
def cn(t k:Nat):Nat×lI:=(t,.b (.row k))
def bd(k n:Nat):Key×l4:=(k,.box (List.replicate n (.b .d)))
def bF(k n:Nat):Key×l4:=(k,.row n)
def alc(P:Program)(G:dt)(n:Nat)(c:List (FuncId×(List D->Option D)))(l j b:List (Nat×rp)):ns:=⟨eC P,G,eG c,n,[],b7 l,b7 j,b7 b,fm [],eF [],ft [],fk []⟩
def e6{P:Program}(X:ns)(bf:dR P X.T)(cf:ht P X.G X.C)(gk:k7 P X.G X.H)(hm:P.follows .mixedOrders=true){f:FuncId}{fn:Func}(ba:P.funcs[f]?=some fn){aQ:List D}{as:List aS}(hle:jN (λk=>k) (λ_=>False) (aQ.map .d) as) {o:Option D} {r:D} (h:o=some r) (jl:X.ib=[]:=by rfl) (bm:n3 X.T X.qv fn=true:=by kernel_rfl) (b2:decide (aQ.length<=fn.ntmps)=true:=by kernel_rfl) (he:uP X fn as=o:=by kernel_rfl):er P X.G f aQ (·=r):=akZ X bf cf gk hm jl ba bm hle b2 (he.trans h)
def iM{P:Program}(X:ns)(bf:dR P X.T)(cf:ht P X.G X.C)(gk:k7 P X.G X.H)(hm:P.follows .mixedOrders=true){s:fW}{fn:Func}(ba:P.funcs[s.f]?=some fn)(pH:List wI){F:List D->Option (List D)}(bm:n3 X.T X.qv fn=true:=by kernel_rfl)(b2:decide (s.args.length<=fn.ntmps)=true:=by kernel_rfl) (jl:(s.ins.all λp=>decide (p.1<10000)||X.ib.contains p.1)=true:=by kernel_rfl) (h:∀ls,Rs X fn s pH ls=F ls:=by intros;kernel_rfl):fb P X.G s F:=ak1 X bf cf gk hm ba bm b2 jl λls fy bx=>(h ls).trans bx
def cb{x:D}{xs:List D}{c6:List aS}(h:jN (λk=>k) (λ_=>False) (List.map aS.d xs) c6):jN (λk=>k) (λ_=>False) (List.map aS.d (x::xs)) (.d x::c6):=n4 alb h
def Ru(g:Option D):List D->Option D
 |[]=>g|_=>none
@[simp] theorem aAh {g:Option D}:Ru g []=g:=rfl
def E9{P:Program}(X:ns)(bf:dR P X.T)(cf:ht P X.G X.C)(gk:k7 P X.G X.H)(hm:P.follows .mixedOrders=true){f:FuncId}{fn:Func}(ba:P.funcs[f]?=some fn){g:Option D}(jl:X.ib=[]:=by rfl)(bm:n3 X.T X.qv fn=true:=by kernel_rfl)(b2:decide (0<=fn.ntmps)=true:=by kernel_rfl)(he:uP X fn []=g:=by intros;kernel_rfl):bw P X.G f (Ru g):=by
 intro aQ r h;unfold Ru at h;split at h
 case h_2=>cases h
 exact e6 X bf cf gk hm ba le_nil h jl bm b2 he
def Rv(g:D->Option D):List D->Option D
 |[ae]=>g ae|_=>none
@[simp] theorem aAi {g:D->Option D} {ae:D}:Rv g [ae]=g ae:=rfl
def cD{P:Program}(X:ns)(bf:dR P X.T)(cf:ht P X.G X.C)(gk:k7 P X.G X.H)(hm:P.follows .mixedOrders=true){f:FuncId}{fn:Func}(ba:P.funcs[f]?=some fn){g:D->Option D}(jl:X.ib=[]:=by rfl)(bm:n3 X.T X.qv fn=true:=by kernel_rfl)(b2:decide (1<=fn.ntmps)=true:=by kernel_rfl)(he:∀ae,uP X fn [.d ae]=g ae:=by intros;kernel_rfl):bw P X.G f (Rv g):=by
 intro aQ r h;unfold Rv at h;split at h
 case h_2=>cases h
 exact e6 X bf cf gk hm ba (cb le_nil) h jl bm b2 (he _)
def Rw(g:D->D->Option D):List D->Option D
 |[ae,ao]=>g ae ao|_=>none
@[simp] theorem aAj {g:D->D->Option D} {ae ao:D}:Rw g [ae,ao]=g ae ao:=rfl
def dN{P:Program}(X:ns)(bf:dR P X.T)(cf:ht P X.G X.C)(gk:k7 P X.G X.H)(hm:P.follows .mixedOrders=true){f:FuncId}{fn:Func}(ba:P.funcs[f]?=some fn){g:D->D->Option D}(jl:X.ib=[]:=by rfl)(bm:n3 X.T X.qv fn=true:=by kernel_rfl)(b2:decide (2<=fn.ntmps)=true:=by kernel_rfl)(he:∀ae ao,uP X fn [.d ae,.d ao]=g ae ao:=by intros;kernel_rfl):bw P X.G f (Rw g):=by
 intro aQ r h;unfold Rw at h;split at h
 case h_2=>cases h
 exact e6 X bf cf gk hm ba (cb (cb le_nil)) h jl bm b2 (he _ _)
def Rx(g:D->D->D->Option D):List D->Option D
 |[ae,ao,bc]=>g ae ao bc|_=>none
@[simp] theorem aAk {g:D->D->D->Option D} {ae ao bc:D}:Rx g [ae,ao,bc]=g ae ao bc:=rfl
def hv{P:Program}(X:ns)(bf:dR P X.T)(cf:ht P X.G X.C)(gk:k7 P X.G X.H)(hm:P.follows .mixedOrders=true){f:FuncId}{fn:Func}(ba:P.funcs[f]?=some fn){g:D->D->D->Option D}(jl:X.ib=[]:=by rfl)(bm:n3 X.T X.qv fn=true:=by kernel_rfl)(b2:decide (3<=fn.ntmps)=true:=by kernel_rfl)(he:∀ae ao bc,uP X fn [.d ae,.d ao,.d bc]=g ae ao bc:=by intros;kernel_rfl):bw P X.G f (Rx g):=by
 intro aQ r h;unfold Rx at h;split at h
 case h_2=>cases h
 exact e6 X bf cf gk hm ba (cb (cb (cb le_nil))) h jl bm b2 (he _ _ _)
def Ry(g:D->D->D->D->Option D):List D->Option D
 |[ae,ao,bc,b9]=>g ae ao bc b9|_=>none
@[simp] theorem aAl {g:D->D->D->D->Option D} {ae ao bc b9:D}:Ry g [ae,ao,bc,b9]=g ae ao bc b9:=rfl
def rB{P:Program}(X:ns)(bf:dR P X.T)(cf:ht P X.G X.C)(gk:k7 P X.G X.H)(hm:P.follows .mixedOrders=true){f:FuncId}{fn:Func}(ba:P.funcs[f]?=some fn){g:D->D->D->D->Option D}(jl:X.ib=[]:=by rfl)(bm:n3 X.T X.qv fn=true:=by kernel_rfl)(b2:decide (4<=fn.ntmps)=true:=by kernel_rfl)(he:∀ae ao bc b9,uP X fn [.d ae,.d ao,.d bc,.d b9]=g ae ao bc b9:=by intros;kernel_rfl):bw P X.G f (Ry g):=by
 intro aQ r h;unfold Ry at h;split at h
 case h_2=>cases h
 exact e6 X bf cf gk hm ba (cb (cb (cb (cb le_nil)))) h jl bm b2 (he _ _ _ _)
def Rz(g:D->D->D->D->D->Option D):List D->Option D
 |[ae,ao,bc,b9,cL]=>g ae ao bc b9 cL|_=>none
@[simp] theorem aAm {g:D->D->D->D->D->Option D} {ae ao bc b9 cL:D}:Rz g [ae,ao,bc,b9,cL]=g ae ao bc b9 cL:=rfl
def ald{P:Program}(X:ns)(bf:dR P X.T)(cf:ht P X.G X.C)(gk:k7 P X.G X.H)(hm:P.follows .mixedOrders=true){f:FuncId}{fn:Func}(ba:P.funcs[f]?=some fn){g:D->D->D->D->D->Option D}(jl:X.ib=[]:=by rfl)(bm:n3 X.T X.qv fn=true:=by kernel_rfl)(b2:decide (5<=fn.ntmps)=true:=by kernel_rfl)(he:∀ae ao bc b9 cL,uP X fn [.d ae,.d ao,.d bc,.d b9,.d cL]=g ae ao bc b9 cL:=by intros;kernel_rfl):bw P X.G f (Rz g):=by
 intro aQ r h;unfold Rz at h;split at h
 case h_2=>cases h
 exact e6 X bf cf gk hm ba (cb (cb (cb (cb (cb le_nil))))) h jl bm b2 (he _ _ _ _ _)
def ale(g:D->D->D->D->D->D->Option D):List D->Option D
 |[ae,ao,bc,b9,cL,c9]=>g ae ao bc b9 cL c9|_=>none
@[simp] theorem aAn {g:D->D->D->D->D->D->Option D} {ae ao bc b9 cL c9:D}:ale g [ae,ao,bc,b9,cL,c9]=g ae ao bc b9 cL c9:=rfl
def alf(g:D->D->D->D->D->D->D->Option D):List D->Option D
 |[ae,ao,bc,b9,cL,c9,di]=>g ae ao bc b9 cL c9 di|_=>none
@[simp] theorem aAo {g:D->D->D->D->D->D->D->Option D} {ae ao bc b9 cL c9 di:D}:alf g [ae,ao,bc,b9,cL,c9,di]=g ae ao bc b9 cL c9 di:=rfl
def yJ{P:Program}{T:cg}{os:Nat->Option (List Nat)}{f:FuncId}{fn:Func}(h:P.funcs[f]?=some fn)(bm:n3 T os fn=true:=by kernel_rfl):v8 P f:=ak6 h bm
@[congr] def aAp {α β:Type} {x y:Option α} {f:α->Option β} (h:x=y):aa x f=aa y f:=by rw[h]
@[simp] theorem eN {α β:Type} {a:α} {f:α->Option β}:aa (some a) f=f a:=rfl
@[simp] theorem aAq {α β:Type} {f:α->Option β}:aa (none:Option α) f=none:=rfl
@[congr] def aAr {β:Type} {c d:Bool} {p:Option β} (h:c=d):aD c p=aD d p:=by rw[h]
@[simp] theorem s3 {β:Type} {p:Option β}:aD true p=p:=rfl
@[simp] theorem aAs {β:Type} {p:Option β}:aD false p=none:=rfl
@[congr] def aAt {β:Type} {x y:D} {p q:Option β} (h:x=y):aI x p q=aI y p q:=by rw[h]
@[simp] theorem l8 {β:Type} {b:Bool} {p q:Option β}:aI (ax b) p q=if b=true then p else q:=by cases b<;>rfl
@[congr] def aAu {x y:D} {w:Bool} {p:Option D} (h:x=y):bL x w p=bL y w p:=by rw[h]
@[simp] theorem en {b w:Bool} {p:Option D}:bL (ax b) w p=if b=w then p else some lF:=rfl
@[simp] theorem RA {dY:Type} {b w:Bool} {p q:Option dY}:wE (ax b) w p q=if b=w then p else q:=rfl
@[simp] theorem aAv {dY:Type} {w:Bool} {p q:Option dY}:wE lF w p q=q:=rfl
@[simp] theorem mC {w:Bool} {p:Option D}:bL lF w p=some lF:=rfl
@[simp] theorem ee {t:Bool} {a b:D}:bV (ax t) a b=some (if t=true then a else b):=rfl
@[simp] theorem aAw {c:Prop} [Decidable c] {a b:Bool}:(if c then ax a else ax b)=ax (if c then a else b):=by split<;>rfl
@[simp] theorem Zd {α:Type} {c:Prop} [Decidable c] {a b:α}:(if c then some a else some b)=some (if c then a else b):=by split<;>rfl
@[simp] theorem aAx {α:Type} {c:Prop} [Decidable c] {a b d:α}:(if c then(if c then a else b)else d)=if c then a else d:=by split<;>simp_all
@[simp] theorem RB {β:Type} {b:β}:aY (some b)=some (.inr b):=rfl
@[simp] theorem aAy {β:Type}:aY (none:Option β)=none:=rfl
@[simp] theorem qw {β:Type} {f:List D->Option β} {ls:List D}:a9 f (.inl ls)=f ls:=rfl
@[simp] theorem FJ {β:Type} {f:List D->Option β} {b:β}:a9 f (.inr b)=some b:=rfl
@[simp] theorem n5 {x:D} {l:List D}:I (x::l) 0=x:=rfl
@[simp] theorem pM {x:D} {l:List D} {n:Nat}:I (x::l) (n+1)=I l n:=rfl
@[simp] theorem RC {k:Nat} {es:List (List D)}:au (.az k es)=es:=rfl
@[simp] theorem alg {es:List (Value×D)}:ei (.mp es)=es:=rfl
@[simp] theorem alh {cs:List D}:K1 (.agg cs)=cs:=rfl
@[simp] theorem aAz {cs:List D} {i:Nat}:ad (.agg cs) i=cs.getD i lF:=rfl
@[simp] theorem ali {n:Int}:bJ (J n)=true:=rfl
@[simp] theorem alj {n:Bool}:bJ (ax n)=true:=rfl
@[simp] theorem alk {n:ByteArray}:bJ (aC n)=true:=rfl
@[simp] theorem alm {k:Nat} {es:List (List D)}:bJ (.az k es)=true:=rfl
@[simp] theorem aAA {es:List (Value×D)}:bJ (.mp es)=true:=rfl
@[simp] theorem aln:bJ (.val (.slice none 0 0))=true:=rfl
@[simp] theorem alo {n:Int}:(J n).one=true:=rfl
@[simp] theorem alp {n:Bool}:(ax n).one=true:=rfl
@[simp] theorem alq {n:ByteArray}:(aC n).one=true:=rfl
@[simp] theorem alr {k:Nat} {es:List (List D)}:(D.az k es).one=true:=rfl
@[simp] theorem als:(D.val (.slice none 0 0)).one=true:=rfl
@[simp] theorem aAB {n:Nat} {cs:List D}:a6 n (.agg cs)=(cs.length==n&&cs.all D.one):=rfl
@[simp] theorem aAC:pD (.val (.slice none 0 0))=true:=rfl
@[simp] theorem iN {n off:Nat} {cs:List D}:a5 false n off cs=cs[off]?:=rfl
theorem alu{n off:Nat}{cs:List D}:a5 true n off cs=if off+n<=cs.length then some (.agg ((cs.drop off).take n))else none:=rfl
@[simp] theorem alv {a:Bool} {n off:Nat} {cs:List D}:l0 a n off (.agg cs)=a5 a n off cs:=rfl
@[simp] theorem RD {i:Nat} {vs:List D}:bs i (.aZ vs)=vs[i]?:=rfl
@[simp] theorem alw {k:Nat} {es:List (List D)}:bD (.az k es)=some (J es.length):=rfl
@[simp] theorem alx:bD (.val (.slice none 0 0))=some (J 0):=rfl
@[simp] theorem RE {s:ByteArray}:nZ (aC s)=some (J s.size):=rfl
@[simp] theorem Ze {k:Nat} {es:List (List D)} {i:Nat}:bo k (.az k es) (J (i:Int))=es[i]?:=by simp[bo,J]
@[simp] theorem aAD {k:Nat} {es:List (List D)}:bo k (.az k es) (J 0)=es[0]?:=by simp[bo,J]
def aly{k:Nat}{es:List (List D)}{i:Int}(h:0<=i):bo k (.az k es) (J i)=es[i.toNat]?:=by simp[bo,J,h]
@[simp] theorem oV {n i:Nat}:cj n (J (i:Int))=if i<n then some i else none:=by simp[cj,J]
@[simp] theorem alz {k:Nat} {es:List (List D)}:k4 (.az k es)=some (k,es):=rfl
@[simp] theorem aAE:k4 (.val (.slice none 0 0))=some (0,[]):=rfl
def gG{n b:Nat}(ab:n*b<=140737488355328)(af:n<=4611686018427387904):dc n b=true:=by simp[dc,ab,af]
section
variable{bt:Bool}{a b:Int}
@[simp] theorem FK:ai bt .lss (J a) (J b)=some (ax (decide (a<b))):=rfl
@[simp] theorem Ly:ai bt .leq (J a) (J b)=some (ax (decide (a<=b))):=rfl
@[simp] theorem oW:ai bt .gtr (J a) (J b)=some (ax (decide (a>b))):=rfl
@[simp] theorem BM:ai bt .geq (J a) (J b)=some (ax (decide (a>=b))):=rfl
@[simp] theorem BN:ai bt .eql (J a) (J b)=some (ax (a==b)):=rfl
@[simp] theorem yK:ai bt .neq (J a) (J b)=some (ax (a !=b)):=rfl
theorem alA:ai bt .add (J a) (J b)=some (J (IntKind.i64.wrap (a+b))):=rfl
theorem RF:ai bt .sub (J a) (J b)=some (J (IntKind.i64.wrap (a-b))):=rfl
theorem alB:ai bt .mul (J a) (J b)=some (J (IntKind.i64.wrap (a*b))):=rfl
def gx(ab:-9223372036854775808<=a+b)(af:a+b<=9223372036854775807):ai bt .add (J a) (J b)=some (J (a+b)):=by rw[alA,wrap64 _ ab af]
def mD(ab:-9223372036854775808<=a-b)(af:a-b<=9223372036854775807):ai bt .sub (J a) (J b)=some (J (a-b)):=by rw[RF,wrap64 _ ab af]
def Lz(ab:-9223372036854775808<=a*b)(af:a*b<=9223372036854775807):ai bt .mul (J a) (J b)=some (J (a*b)):=by rw[alB,wrap64 _ ab af]
def Zf(h:b≠0):ai bt .quo (J a) (J b)=some (J (IntKind.i64.wrap (a.tdiv b))):=by simp[ai,Ev,J,h,nX]
def alC(h:b≠0):ai bt .rem (J a) (J b)=some (J (a.tmod b)):=by simp[ai,Ev,J,h,nX]
@[simp] theorem RG {x y:ByteArray}:ai bt .eql (aC x) (aC y)=some (ax (decide (x=y))):=rfl
@[simp] theorem Zg {x y:ByteArray}:ai bt .neq (aC x) (aC y)=some (ax (!decide (x=y))):=rfl
@[simp] theorem alD {x y:ByteArray}:ai bt .lss (aC x) (aC y)=some (ax (blt x y)):=rfl
@[simp] theorem RH {x y:ByteArray}:ai bt .gtr (aC x) (aC y)=some (ax (!(blt x y||decide (x=y)))):=rfl
@[simp] theorem aAF {x y:Bool}:ai true .eql (ax x) (ax y)=some (ax (x==y)):=rfl
@[simp] theorem aAG {x y:Bool}:ai true .neq (ax x) (ax y)=some (ax (x !=y)):=rfl
@[simp] theorem BO {x:Bool}:dk .not (ax x)=some (ax (!x)):=rfl
end
attribute [simp] xbs xcc List.getElem?_nil List.getD_cons_zero List.getD_cons_succ
theorem jP{β:Type}{f:List D->Option (List D⊕β)}{n:Nat}{ls:List D}:bq f (n+1) ls=aa (f ls) λx=>match x with| .inl fy=>bq f n fy| .inr b=>some b:=rfl
def Zh{β:Type}{f:List D->Option (List D⊕β)}(e0:Nat->List D):∀{m n j:Nat},(∀i,j<=i->i<j+m->f (e0 i)=some (.inl (e0 (i+1))))->m<=n->bq f n (e0 j)=bq f (n-m) (e0 (j+m))
 |0,n,j,_,_=>rfl|m+1,0,j,_,h=>absurd h (by omega)
 |m+1,n+1,j,aG,h=>by
  rw[jP,aG j (xan j) (by omega)];simp only[eN];have:=Zh (f:=f) e0 (m:=m) (n:=n) (j:=j+1) (λi ab af=>aG i (by omega) (by omega)) (by omega);rw[this]
  congr 1
  .omega
  congr 1;omega
theorem nt{β:Type}{f:List D->Option (List D⊕β)}{ls:List D}{n:Nat}{b:β}(e0:Nat->List D)(m:Nat)(ar:ls=e0 0)(aG:∀i,i<m->f (e0 i)=some (.inl (e0 (i+1))))(he:f (e0 m)=some (.inr b))(aN:m<n):bq f n ls=some b:=by subst ar;rw[Zh e0 (m:=m) (λi _ h=>aG i (by omega)) (by omega)];obtain⟨k,ak⟩:∃k,n-m=k+1:=⟨n-m-1,by omega⟩;rw[ak,jP,xax,he];rfl
end Go.Am
