/- An evaluator of code over such values, and that what it answers the code does. No condition. -/
import Derived.Test.YthnecpgodmolaaaGreatDoorEngS
import Derived.KernelRfl
set_option linter.all false
set_option linter.unnecessarySimpa false
namespace Go.Am
def aa{α β:Type}(x:Option α)(f:α->Option β):Option β:=match x with|some a=>f a|none=>none
def fp{α β:Type}{x:Option α}{f:α->Option β}{b:β}(h:aa x f=some b):∃a,x=some a/\f a=some b:=by
 cases x with
 |none=>cases h
 |some a=>exact⟨a,rfl,h⟩
def aD{β:Type}(c:Bool)(p:Option β):Option β:=match c with|true=>p|false=>none
def lj{β:Type}{c:Bool}{p:Option β}{b:β}(h:aD c p=some b):c=true/\p=some b:=by
 cases c with
 |false=>cases h
 |true=>exact⟨rfl,h⟩
def aE{β:Type}(x:D)(p q:Option β):Option β:=match x with| .val (.bool true)=>p| .val (.bool false)=>q|_=>none
def W6{β:Type}{x:D}{p q:Option β}{b:β}(h:aE x p q=some b):(x= .val (.bool true)/\p=some b)\/(x= .val (.bool false)/\q=some b):=by
 unfold aE at h;split at h;.exact .inl ⟨rfl,h⟩
 .exact .inr ⟨rfl,h⟩
 cases h
def lk:D:= .val (.tuple #[])
def nF:Option aS->Option D
 |some (.d r)=>some r|_=>none
def xX{x:Option aS}{r:D}(h:nF x=some r):x=some (.d r):=by
 unfold nF at h;split at h;.cases h;rfl
 cases h
def Kd:D->List D
 | .agg cs=>cs|_=>[]
def ad(x:D)(i:Nat):D:=(Kd x).getD i lk
def ar:D->List (List D)
 | .ax _ es=>es|_=>[]
def ed:D->List (Value×D)
 | .mp es=>es|_=>[]
def bE(x:D):Bool:=x.one
def a5(n:Nat)(x:D):Bool:=match x with| .agg cs=>cs.length==n&&cs.all D.one|_=>false
def nG(x:D):Bool:=match x with| .val (.slice none 0 0)=>true|_=>false
def ah8{n:Nat}{x:D}(h:a5 n x=true):∃cs,x= .agg cs/\cs.length=n/\cs.all D.one=true:=by
 unfold a5 at h;split at h;.rename_i cs;rw[xam,xbH]at h;exact⟨cs,rfl,h.1,h.2⟩
 cases h
def ah9{n:Nat}{cs:List D}(h:cs.length=n):((List.range n).map λi=>aS.d (ad (.agg cs) i))=cs.map .d:=by
 apply xbY;intro i;simp only[xaj];by_cases ah:i<n;.rw[xbP ah,xaa (by omega)];simp[ad,Kd,xaQ,h,ah]
 rw[xbl (by simp;omega),xbl (by omega)];rfl
def ai(bt:Bool)(op:BinOp)(x y:D):Option D:=match x,y with
 | .val (.int k a),.val (.int bs b)=>nF (match op with
  | .shl=>if b<0 then none else some (.d (.val (.int k (k.wrap (a*2^(min b.toNat k.bits))))))
  | .shr=>if b<0 then none else some (.d (.val (.int k (a.fdiv (2^(min b.toNat k.bits))))))
  |_=>if k=bs then DK op k a b else none)
 | .val (.string a),.val (.string b)=>nF (Oq op a b)| .val (.bool a),.val (.bool b)=>if bt then nF (Ot op a b)else none
 |_,_=>none
def aia{T:cg}{t:TypeId}{op:BinOp}{x y r:D}(h:ai (DL T t) op x y=some r):vr T op t (.d x) (.d y)=some (.d r):=by
 unfold ai at h;unfold vr;split at h;.have:=xX h;cases op<;>exact this
 .exact xX h
 .split at h;.rename_i aj;simp only[aj,xaD];exact xX h
  cases h
 cases h
def xY(l:List TypeDesc)(op:BinOp)(x y:D):Option D:=match x,y with| .agg xs,.agg dj=>nF (Jf op l xs dj)|_,_=>none
def aib{T:cg}{t:TypeId}{op:BinOp}{x y r:D}{l:List TypeDesc}(aq:T.eqs t=some l)(h:xY l op x y=some r):vr T op t (.d x) (.d y)=some (.d r):=by
 unfold xY at h;split at h;.unfold vr;simp only[aq];exact xX h
 cases h
def W7(op:BinOp)(x y:D):Option D:=match op with
 | .eql=>if nG y then(match x with| .val (.slice none _ _)=>some (.val (.bool true))| .ax _ (_::_)=>some (.val (.bool false))|_=>none)else none
 | .neq=>if nG y then(match x with| .val (.slice none _ _)=>some (.val (.bool false))| .ax _ (_::_)=>some (.val (.bool true))|_=>none)else none
 |_=>none
def dp(op:UnOp)(x:D):Option D:=match op,x with| .not,.val (.bool b)=>some (.val (.bool !b))| .neg,.val (.int k n)=>some (.val (.int k (k.wrap (0-n))))|_,_=>none
def ka(k:IntKind)(x:D):Option D:=match x with| .val (.int _ n)=>some (.val (.int k (k.wrap n)))|_=>none
def W8(x:D):Option D:=match x with| .val (.string b)=>some (.val (.string b))|_=>none
def bW(c a b:D):Option D:=match c with
 | .val (.bool t)=>some (if t then a else b)
 |_=>none
def a3(agg:Bool)(n off:Nat)(cs:List D):Option D:=match agg with
 |true=>if off+n<=cs.length then some (.agg ((cs.drop off).take n))else none
 |false=>cs[off]?
def lI(agg:Bool)(n off:Nat)(x:D):Option D:=match x with| .agg cs=>a3 agg n off cs|_=>none
def bu(i:Nat)(x:D):Option D:=match x with| .a1 vs=>vs[i]?|_=>none
def nH(s i:D):Option D:=match s,i with| .val (.string s),.val (.int _ n)=>nF (Jj s n)|_,_=>none
def qT(x:Option D)(Ox:Nat):Option Nat:=match x with
 |none=>some Ox|some (.val (.int _ n))=>if 0<=n then some n.toNat else none
 |_=>none
theorem Ke(x:Option D)(d:Nat):pU (x.map .d) d=qT x d:=by cases x with|none=>rfl|some x=>cases x<;>first|rfl|(rename_i v;cases v<;>rfl)
def W9(s:D)(lo ah:Option D):Option D:=match s with
 | .val (.string s)=>match qT ah s.size,qT lo 0 with
  |some h,some l=>if l<=h/\h<=s.size then some (.val (.string (s.extract l h)))else none
  |_,_=>none
 |_=>none
def qU(k:Nat)(x:D)(lo ah:Option D):Option D:=match x with
 | .ax bs es=>match qT ah es.length,qT lo 0 with
  |some h,some l=>if l<=h/\h<=es.length/\bs=k then some (.ax bs ((es.drop l).take (h-l)))else none
  |_,_=>none
 |_=>none
def mg(n:Nat)(lo ah:Option D):Option (Nat×Nat):=match qT ah n,qT lo 0 with
 |some h,some l=>if l<=h/\h<=n then some (l,h-l)else none
 |_,_=>none
def nI(x:D):Option D:=match x with| .val (.string s)=>some (.val (.int .i64 s.size))|_=>none
def bI(x:D):Option D:=match x with| .ax _ es=>some (.val (.int .i64 es.length))| .val (.slice _ n _)=>some (.val (.int .i64 n))|_=>none
def Xa(x:D):Option D:=match x with| .val (.map none)=>some (.val (.int .i64 0))| .mp es=>some (.val (.int .i64 es.length))|_=>none
def bo(k:Nat)(x i:D):Option (List D):=match i with
 | .val (.int _ n)=>if 0<=n then(match x with
  | .ax bs es=>if bs=k then es[n.toNat]? else none
  |_=>none)else none
 |_=>none
def cd(n:Nat)(i:D):Option Nat:=match i with
 | .val (.int _ j)=>if 0<=j/\j<n then some j.toNat else none
 |_=>none
def kS(x:D):Option (Nat×List (List D)):=match x with| .ax k es=>some (k,es)| .val (.slice none 0 _)=>some (0,[])|_=>none
def lJ(hq:Bool)(l:List D):Option D:=nF (qD hq (l.map .d))
def c1(n bytes:Nat):Bool:=decide (n*bytes<=140737488355328)&&decide (n<=4611686018427387904)
def qV(bytes:Nat)(l c:D):Option Nat:=match l,c with
 | .val (.int _ l),.val (.int _ c)=>if 0<=l/\l<=c/\(bytes:Int)*c<=281474976710656/\c<=9223372036854775807 then some l.toNat else none
 |_,_=>none
def jU(kind:TypeDesc)(zero:Value)(ok:Bool)(es:List (Value×D))(k:D):Option D:=match k with
 | .val e9=>match findD kind e9 es with
  |some (some x)=>some (if ok then .a1 [x,.val (.bool true)]else x)
  |some none=>some (if ok then .a1 [sa zero,.val (.bool false)]else sa zero)
  |none=>none
 |_=>none
def ll(x:D):Option (List (Value×D)):=match x with| .val (.map none)=>some []| .mp es=>some es|_=>none
def nc(kind:TypeDesc)(es:List (Value×D))(k x:D):Option (List (Value×D)):=match k with| .val e9=>qE kind e9 x es|_=>none
section
variable{β:Type}
def Er:List aS->Option β->Option β
 |[],p=>p| .d a::r,p=>aD (bE a) (Er r p)|x::r,p=>if x.one=true then Er r p else none
def Pw{p:Option β}{b:β}:∀{cs:List aS},Er cs p=some b->cs.all aS.one=true/\p=some b
 |[],h=>⟨rfl,h⟩
 |x::r,h=>by
  unfold Er at h;split at h;.rename_i e;cases e
  .rename_i a r9 oa e;cases e;obtain⟨ab,af⟩:=lj h;obtain⟨aw,a4⟩:=Pw af;exact⟨by rw[xbN,aw,xbq];exact ab,a4⟩
  rename_i e;cases e;split at h;.rename_i ag;obtain⟨aw,a4⟩:=Pw h;exact⟨by rw[xbN,aw,xbq];exact ag,a4⟩
  cases h
def A3(n:Nat)(x:aS)(k:List aS->Option β):Option β:=match x with
 | .d a=>match n with|1=>aD (bE a) (k [.d a])|_=>aD (a5 n a) (k ((List.range n).map λi=> .d (ad a i)))
 | .agg cs=>Er cs (k cs)|x=>match cellsOf x with|some cs=>k cs|none=>none
def Kf{n:Nat}{x:aS}{k:List aS->Option β}{b:β}(h:A3 n x k=some b):∃cs,cellsOf x=some cs/\k cs=some b:=by
 unfold A3 at h;split at h
 .rename_i a;split at h
  .obtain⟨ab,af⟩:=lj h;refine⟨_,?_,af⟩;unfold bE at ab;unfold cellsOf;split;.rename_i he;cases he;cases ab
   .rename_i he;cases he
   rw[xad (show aS.one (.d a)=true from ab)]
  obtain⟨ab,af⟩:=lj h;obtain⟨cs,rfl,aK,aY⟩:=ah8 ab;rw[ah9 aK]at af;exact⟨_,by simp only[cellsOf,aY,xaD],af⟩
 .obtain⟨ab,af⟩:=Pw h;exact⟨_,by simp only[cellsOf,ab,xaD],af⟩
 split at h;.rename_i cs hD;exact⟨cs,hD,h⟩
 cases h
def Kg(place:Nat->Option (Nat×Nat))(cells:List aS):List (Nat×aS)->(List aS->Option β)->Option β
 |[],k=>k cells|(i,x)::rest,k=>match place i with|none=>none|some (off,size)=>A3 size x λcs=>if cs.length=size/\off+cs.length<=cells.length then Kg place (nu cells off cs) rest k else none
def Xb{place:Nat->Option (Nat×Nat)}:∀{parts:List (Nat×aS)} {cells:List aS} {k:List aS->Option β} {b:β},Kg place cells parts k=some b->∃cs,xv place cells parts=some cs/\k cs=some b
 |[],cells,k,b,h=>⟨cells,rfl,h⟩
 |(i,x)::rest,cells,k,b,h=>by
  unfold Kg at h;split at h;.cases h
  rename_i off size aT;obtain⟨cs,ab,af⟩:=Kf h;split at af
  case isFalse=>cases af
  rename_i an;obtain⟨out,aw,a4⟩:=Xb af;exact⟨out,by unfold xv;simp only[aT,ab];rw[xad an];exact aw,a4⟩
def Kh(size:Nat)(n:Nat):List (Nat×aS)->(List (List D)->Option β)->Option β
 |[],k=>k []
 |(i,x)::r,k=>if i=n then A3 size x λcs=>match la cs with
   |some aO=>if aO.length=size then Kh size (n+1) r λl=>k (aO::l)else none
   |none=>none
  else none
def Xc{size:Nat}:∀{parts:List (Nat×aS)} {n:Nat} {k:List (List D)->Option β} {b:β},Kh size n parts k=some b->∃es,vy size n parts=some es/\k es=some b
 |[],n,k,b,h=>⟨[],rfl,h⟩
 |(i,x)::r,n,k,b,h=>by
  unfold Kh at h;split at h
  case isFalse=>cases h
  rename_i ah;obtain⟨cs,ab,af⟩:=Kf h;split at af
  case h_2=>cases af
  rename_i aO eM;split at af
  case isFalse=>cases af
  rename_i aq;obtain⟨es,aw,a4⟩:=Xc af;exact⟨aO::es,by unfold vy;simp only[ah,xaD,ab,eM,aw,aq],a4⟩
end
section
variable{β:Type}
def ss(T:cg)(G:dm)(σ:aG)(o:Oper)(k:aG->Option β):Option β:=match gV T G σ o with|some aU=>k aU|none=>none
def kT(σ:aG)(dst:Option Tmp)(k:aG->Option β)(p:Option D):Option β:=aa p λv=>k (σ.put dst (.d v))
def mN(T:cg)(σ:aG)(dst:Option Tmp)(k:aG->Option β)(r:aS)(cz:List (Key×cS)):Option β:=match qJ (T.born (dst.getD 9999)) (dst.getD 9999) (r,cz)with|(r,cz)=>k (aG.put ⟨σ.aJ,dC σ.objs cz⟩ dst r)
def Ki:Option aS->Option (Option D)
 |none=>some none|some (.d a)=>some (some a)|_=>none
theorem Xd{x:Option aS}{y:Option D}(h:Ki x=some y):x=y.map .d:=by unfold Ki at h;split at h<;>cases h<;>rfl
def Xe(T:cg)(t:TypeId):Bool:=match T t with|some ⟨.slice _,_,_,_⟩=>true|_=>false
def Px(T:cg)(G:dm)(σ:aG)(o:Oper)(op:BinOp)(t:TypeId)(x y:Operand)(k:aG->Option β):Option β:=match ch G σ.aJ x,ch G σ.aJ y with
 | .d a,.d b=>match Xe T t with|true=>kT σ o.dst k (W7 op a b)|false=>match T.eqs t with|some l=>kT σ o.dst k (xY l op a b)|none=>kT σ o.dst k (ai (DL T t) op a b)
 |_,_=>ss T G σ o k
def Py(T:cg)(G:dm)(σ:aG)(o:Oper)(s:TypeId)(x:Operand)(f:Nat)(k:aG->Option β):Option β:=match DP T s f with
 |some (off,i)=>match ch G σ.aJ x with| .d a=>kT σ o.dst k (lI (tG i.desc) i.size off a)|_=>ss T G σ o k
 |none=>none
def Pz(T:cg)(G:dm)(σ:aG)(o:Oper)(t:TypeId)(a:Operand)(k:aG->Option β):Option β:=match T t with
 |some i=>match ch G σ.aJ a with
  | .eo cs off=>kT σ o.dst k (a3 (tG i.desc) i.size off cs)
  | .gk key cR fw off=>match σ.objs key with
   |some (.row bs es)=>if cR=bs then aa es[fw]? λe=>kT σ o.dst k (a3 (tG i.desc) i.size off e)else none
   |_=>none
  |_=>ss T G σ o k
 |none=>none
def PA(T:cg)(G:dm)(σ:aG)(o:Oper)(t:TypeId)(x fw:Operand)(k:aG->Option β):Option β:=match T t with
 |some ⟨.slice e,_,_,_⟩=>match T e with
  |some bg=>match ch G σ.aJ fw with
   | .d i=>match ch G σ.aJ x with
    | .d a=>aa (bo bg.size a i) λc=>k (σ.put o.dst (.eo c 0))
    | .row key=>match σ.objs key with
     |some (.row bs es)=>if bs=bg.size then aa (cd es.length i) λn=>k (σ.put o.dst (.gk key bs n 0))else none
     |_=>none
    | .sub key bs i0 len=>if bs=bg.size then aa (cd len i) λn=>k (σ.put o.dst (.gk key bs (i0+n) 0))else none
    |_=>none
   |_=>none
  |none=>none
 |some ⟨.array len e,_,_,_⟩=>match T e with
  |some bg=>match ch G σ.aJ fw with
   | .d i=>aa (cd len i) λn=>match DQ (ch G σ.aJ x) (n*bg.size)with|some r=>k (σ.put o.dst r)|none=>none
   |_=>none
  |none=>none
 |_=>none
def PB(T:cg)(G:dm)(σ:aG)(o:Oper)(t:TypeId)(x:Operand)(lo ah:Option Operand)(k:aG->Option β):Option β:=match Ki (lo.map (ch G σ.aJ)),Ki (ah.map (ch G σ.aJ))with
 |some l,some h=>match T t with
  |some ⟨.string,_,_,_⟩=>match ch G σ.aJ x with| .d a=>kT σ o.dst k (W9 a l h)|_=>none
  |some ⟨.slice e,_,_,_⟩=>match T e with
   |some bg=>match ch G σ.aJ x with
    | .d a=>kT σ o.dst k (qU bg.size a l h)
    | .row key=>match σ.objs key with
     |some (.row bs es)=>if bs=bg.size then aa (mg es.length l h) λp=>k (σ.put o.dst (.sub key bs p.1 p.2))else none
     |_=>none
    | .sub key bs i0 len=>if bs=bg.size then aa (mg len l h) λp=>k (σ.put o.dst (.sub key bs (i0+p.1) p.2))else none
    |_=>none
   |none=>none
  |_=>ss T G σ o k
 |_,_=>none
def PC(T:cg)(G:dm)(σ:aG)(o:Oper)(args:List Operand)(dE:List TypeId)(k:aG->Option β):Option β:=match dE,args with
 |[t],[x]=>match ch G σ.aJ x with
  | .d a=>match T t with|some ⟨.string,_,_,_⟩=>kT σ o.dst k (nI a)|some ⟨.slice _,_,_,_⟩=>kT σ o.dst k (bI a)|some ⟨.map _ _,_,_,_⟩=>kT σ o.dst k (Xa a)|_=>none
  |_=>ss T G σ o k
 |_,_=>none
def PD(T:cg)(G:dm)(σ:aG)(o:Oper)(args:List Operand)(dE:List TypeId)(k:aG->Option β):Option β:=match dE,args with
 |[t,t'],[s,x]=>match T t,T t',σ.objs (o.dst.getD 9999)with
  |some ⟨.slice e,_,_,_⟩,some ⟨.slice _,_,_,_⟩,none=>match T e with
   |some bg=>
    let go:Nat×List (List D)->Option β:=λp=>aD (decide (p.1=bg.size\/p.2=[])&&decide (0<bg.size)) (match ch G σ.aJ s with
     | .d a=>aD (nG a&&c1 p.2.length bg.bytes) (mN T σ o.dst k (.row (o.dst.getD 9999)) [(o.dst.getD 9999,.row bg.size p.2)])
     | .row key=>match σ.objs key with
      |some (.row bs es)=>if bs=bg.size/\key<10000 then aD (c1 (es.length+p.2.length) bg.bytes) (mN T σ o.dst k (.row (o.dst.getD 9999)) [(key,.dead),(o.dst.getD 9999,.row bs (es++p.2))])else none
      |_=>none
     |_=>none)
    match ch G σ.aJ x with
    | .d a=>aa (kS a) go
    | .sub key bs i len=>match σ.objs key with
     |some (.row pb es)=>if bs=pb then aD (decide (i+len<=es.length)) (go (bs,(es.drop i).take len))else none
     |_=>none
    |y=>match l6 σ.objs y with|some p=>go p|none=>none
   |none=>none
  |_,_,_=>none
 |_,_=>none
def PE(T:cg)(G:dm)(σ:aG)(o:Oper)(args:List Operand)(dE:List TypeId)(k:aG->Option β):Option β:=match dE,args with
 |[t,t'],[s,x]=>match T t with
  |some ⟨.slice e,_,_,_⟩=>match T e with
   |some bg=>
    let go:Nat×List (List D)->Option β:=λp=>aD (decide (p.1=bg.size\/p.2=[])) (match ch G σ.aJ s with
     | .row key=>match σ.objs key with
      |some (.row bs es)=>if bs=bg.size then mN T σ o.dst k (.d (.val (.int .i64 (min p.2.length es.length:Nat)))) [(key,.row bs (p.2.take (min p.2.length es.length)++es.drop (min p.2.length es.length)))]else none
      |_=>none
     | .sub key bs i len=>match σ.objs key with
      |some (.row pb es)=>if bs=bg.size/\pb=bs then aD (decide (i+len<=es.length)) (mN T σ o.dst k (.d (.val (.int .i64 (min p.2.length len:Nat)))) [(key,.row bs (es.take i++p.2.take (min p.2.length len)++es.drop (i+min p.2.length len)))])else none
      |_=>none
     |_=>none)
    match ch G σ.aJ x with
    | .d a=>aa (kS a) go
    | .sub key bs i len=>match σ.objs key with
     |some (.row pb es)=>if bs=pb then aD (decide (i+len<=es.length)) (go (bs,(es.drop i).take len))else none
     |_=>none
    |y=>match l6 σ.objs y with|some p=>go p|none=>none
   |none=>none
  |_=>none
 |_,_=>none
def PF(T:cg)(G:dm)(σ:aG)(o:Oper)(args:List Operand)(dE:List TypeId)(k:aG->Option β):Option β:=match dE,args with
 |[t],[s]=>match T t with
  |some ⟨.slice e,_,_,_⟩=>match T e with
   |some bg=>match ch G σ.aJ s with
    | .sub key bs i len=>match σ.objs key with
     |some (.row pb es)=>if bs=bg.size/\pb=bs/\bg.zero.cells.toList.all j2=true then aD (decide (i+len<=es.length)) (mN T σ o.dst k .any [(key,.row bs (es.take i++List.replicate len (bg.zero.cells.toList.map .val)++es.drop (i+len)))])else none
     |_=>none
    |_=>none
   |none=>none
  |_=>none
 |_,_=>none
def PG(T:cg)(G:dm)(σ:aG)(o:Oper)(t:TypeId)(x i:Operand)(ok:Bool)(k:aG->Option β):Option β:=match T t with
 |some ⟨.map ie gT,_,_,_⟩=>match T ie,T gT with
  |some hZ,some bg=>if vv hZ.desc then(match ch G σ.aJ i with
   | .d e9=>match ch G σ.aJ x with
    | .d m=>aa (ll m) λes=>kT σ o.dst k (jU hZ.desc bg.zero ok es e9)| .map key=>match σ.objs key with|some (.map es)=>kT σ o.dst k (jU hZ.desc bg.zero ok es e9)|_=>none
    |_=>none
   |_=>none)else none
  |_,_=>none
 |_=>none
def Kj(T:cg)(G:dm)(σ:aG)(o:Oper)(t:TypeId)(m i x:Operand)(k:aG->Option β):Option β:=match T t with
 |some ⟨.map ie _,_,_,_⟩=>match T ie with
  |some hZ=>if vv hZ.desc then(match ch G σ.aJ m,ch G σ.aJ i,ch G σ.aJ x with
   | .map key,.d e9,.d v=>match σ.objs key with|some (.map es)=>aa (nc hZ.desc es e9 v) λl=>mN T σ o.dst k .any [(key,.map l)]|_=>none
   |_,_,_=>none)else none
  |none=>none
 |_=>none
def PH(T:cg)(G:dm)(σ:aG)(o:Oper)(t:TypeId)(a x:Operand)(k:aG->Option β):Option β:=match T t with
 |some i=>A3 i.size (ch G σ.aJ x) λcs=>if cs.length=i.size then(match ch G σ.aJ a with
  | .ptr key off=>match σ.objs key with
   |some (.box cells)=>if off+cs.length<=cells.length then mN T σ o.dst k .any [(key,.box (nu cells off cs))]else none
   |_=>none
  | .gk key cR fw off=>match σ.objs key,la cs with
   |some (.row bs es),some aO=>if cR=bs/\off+aO.length<=cR then aa es[fw]? λe=>mN T σ o.dst k .any [(key,.row cR (es.set fw (dD e off aO)))]else none
   |_,_=>none
  |_=>none)else none
 |none=>none
def PI(T:cg)(G:dm)(σ:aG)(o:Oper)(t:TypeId)(parts:Array (Nat×Operand))(k:aG->Option β):Option β:=match Ow T t with|some (pl,z)=>Kg pl (zeroCells z) (parts.toList.map λp=>(p.1,ch G σ.aJ p.2)) λout=>k (σ.put o.dst (Av out))|none=>none
def PJ(T:cg)(G:dm)(σ:aG)(o:Oper)(t:TypeId)(n:Nat)(parts:Array (Nat×Operand))(k:aG->Option β):Option β:=match T t,σ.objs (o.dst.getD 9999)with
 |some ⟨.slice e,_,_,_⟩,none=>match T e with
  |some bg=>Kh bg.size 0 (parts.toList.map λp=>(p.1,ch G σ.aJ p.2)) λes=>if es.length=n/\0<bg.size/\n*bg.size<=16777216 then mN T σ o.dst k (.row (o.dst.getD 9999)) [(o.dst.getD 9999,.row bg.size es)]else none
  |none=>none
 |_,_=>none
def PK(T:cg)(G:dm)(σ:aG)(o:Oper)(t:TypeId)(l c:Operand)(k:aG->Option β):Option β:=match T t,σ.objs (o.dst.getD 9999)with
 |some ⟨.slice e,_,_,_⟩,none=>match T e with
  |some bg=>match ch G σ.aJ l,ch G σ.aJ c with
   | .d l,.d c=>if bg.zero.cells.toList.all j2 then aa (qV bg.bytes l c) λn=>mN T σ o.dst k (.row (o.dst.getD 9999)) [(o.dst.getD 9999,.row bg.size (List.replicate n (bg.zero.cells.toList.map .val)))]else none
   |_,_=>none
  |none=>none
 |_,_=>none
def PL(T:cg)(G:dm)(σ:aG)(o:Oper)(s t:TypeId)(x:Operand)(k:aG->Option β):Option β:=match T s,T t,ch G σ.aJ x with|some _,some ⟨.int i,_,_,_⟩,.d a=>kT σ o.dst k (ka i a)|some _,some ⟨.string,_,_,_⟩,.d a=>kT σ o.dst k (W8 a)|_,_,_=>ss T G σ o k
def Kk(T:cg)(G:dm)(σ:aG)(o:Oper)(hq:Bool)(args:List Operand)(k:aG->Option β):Option β:=match la (args.map (ch G σ.aJ))with|some aO=>kT σ o.dst k (lJ hq aO)|none=>none
def dd:aS->aS->Option (D×D)
 | .d a,.d b=>some (a,b)|_,_=>none
theorem aic{x y:aS}{p:D×D}(h:dd x y=some p):x= .d p.1/\y= .d p.2:=by unfold dd at h;split at h<;>cases h;exact⟨rfl,rfl⟩
def Xf{T:cg}{ev:Operand->aS}{c a b:Operand}{t:Bool}(an:ev c= .d (.val (.bool t)))(h:dd (ev a) (ev b)=none):eL T ev (.pick c a b)=some (if t then ev a else ev b):=by
 simp only[eL,an];generalize ev a=x at*;generalize ev b=y at*;split;.cases h
 rfl
def uf(T:cg)(G:dm)(σ:aG)(o:Oper)(k:aG->Option β):Option β:=match o.op with
 | .binOp op t x y _=>Px T G σ o op t x y k| .unOp op _ x=>match ch G σ.aJ x with| .d a=>kT σ o.dst k (dp op a)|_=>none
 | .convert s t x=>PL T G σ o s t x k
 | .pick c a b=>match ch G σ.aJ c with
  | .d c=>match dd (ch G σ.aJ a) (ch G σ.aJ b)with|some p=>kT σ o.dst k (bW c p.1 p.2)|none=>aE c (k (σ.put o.dst (ch G σ.aJ a))) (k (σ.put o.dst (ch G σ.aJ b)))
  |_=>none
 | .field s x f=>Py T G σ o s x f k| .extract x i=>match ch G σ.aJ x with| .d a=>kT σ o.dst k (bu i a)|_=>ss T G σ o k
 | .index t x i=>match T t with
  |some ⟨.string,_,_,_⟩=>match ch G σ.aJ x,ch G σ.aJ i with| .d a,.d b=>kT σ o.dst k (nH a b)|_,_=>none
  |some ⟨.array len e,_,_,_⟩=>match T e with
   |some bg=>match ch G σ.aJ x,ch G σ.aJ i with| .d a,.d b=>aa (cd len b) λn=>kT σ o.dst k (lI (tG bg.desc) bg.size (n*bg.size) a)|_,_=>none
   |none=>none
  |_=>none
 | .load t a=>Pz T G σ o t a k| .indexAddr t x fw=>PA T G σ o t x fw k| .slice t x lo ah none=>PB T G σ o t x lo ah k| .lookup t x i ok=>PG T G σ o t x i ok k| .mapUpdate t m i x=>Kj T G σ o t m i x k| .insert t m i x=>Kj T G σ o t m i x k| .store t a x=>PH T G σ o t a x k| .build t parts=>PI T G σ o t parts k| .buildSlice t n parts=>PJ T G σ o t n parts k| .makeSlice t l c=>PK T G σ o t l c k| .box t x=>match T t,σ.objs (o.dst.getD 9999)with|some i,none=>A3 i.size (ch G σ.aJ x) λcs=>mN T σ o.dst k (.ptr (o.dst.getD 9999) 0) [(o.dst.getD 9999,.box cs)]|_,_=>none
 | .call ⟨.builtin .len,args,dE⟩=>PC T G σ o args.toList dE.toList k| .call ⟨.builtin .append,args,dE⟩=>PD T G σ o args.toList dE.toList k| .call ⟨.builtin .copy,args,dE⟩=>PE T G σ o args.toList dE.toList k| .call ⟨.builtin .clear,args,dE⟩=>PF T G σ o args.toList dE.toList k| .call ⟨.builtin .max,args,_⟩=>Kk T G σ o true args.toList k| .call ⟨.builtin .min,args,_⟩=>Kk T G σ o false args.toList k|_=>ss T G σ o k
variable{T:cg}{G:dm}{σ:aG}{o:Oper}{k:aG->Option β}{b:β}
def vX(h:ss T G σ o k=some b):∃aU,gV T G σ o=some aU/\k aU=some b:=by
 unfold ss at h;split at h;.exact⟨_,by assumption,h⟩
 cases h
def mO{r:aS}(h:eL T (ch G σ.aJ) o.op=some r)(ak:k (σ.put o.dst r)=some b):∃aU,gV T G σ o=some aU/\k aU=some b:=⟨_,by unfold gV;rw[h],ak⟩
def mh{r:aS}(au:eL T (ch G σ.aJ) o.op=none)(h:dB T (ch G σ.aJ) σ.objs o.op=some r)(ak:k (σ.put o.dst r)=some b):∃aU,gV T G σ o=some aU/\k aU=some b:=⟨_,by unfold gV;rw[au,h],ak⟩
def qW{r:aS}{cz:List (Key×cS)}(au:eL T (ch G σ.aJ) o.op=none)(ab:dB T (ch G σ.aJ) σ.objs o.op=none)(h:ei T (ch G σ.aJ) σ.objs (o.dst.getD 9999) o.op=some (r,cz)) (ak:mN T σ o.dst k r cz=some b):∃aU,gV T G σ o=some aU/\k aU=some b:=⟨_,by unfold gV;rw[au,ab];unfold g7;rw[h];rfl,by unfold mN at ak;exact ak⟩
def aid{op:BinOp}{t:TypeId}{x y:Operand}{xw:TypeId}(aF:o.op= .binOp op t x y xw)(h:Px T G σ o op t x y k=some b):∃aU,gV T G σ o=some aU/\k aU=some b:=by
 unfold Px at h;split at h
 .rename_i a c aI an;split at h
  .rename_i aH;obtain⟨v,ab,af⟩:=fp h;have Xg:∀{d},nG d=true->d= .val (.slice none 0 0):=by
    intro d aA;unfold nG at aA;split at aA;.rfl
    cases aA
   unfold Xe at aH;split at aH
   case h_2=>cases aH
   rename_i aK aY bN cN aM;have aj:c= .val (.slice none 0 0)->eL T (ch G σ.aJ) o.op=none:=by intro dT;subst dT;rw[aF];simp only[eL,aI,an,vr]
   unfold W7 at ab;split at ab
   .split at ab
    case isFalse=>cases ab
    rename_i aL;have aL:=Xg aL;subst aL;refine mh (r:= .d v) (aj rfl) ?_ af;rw[aF];simp only[dB,aM,an,vw,xaD,aI,mF];split at ab<;>cases ab<;>simp
   .split at ab
    case isFalse=>cases ab
    rename_i aL;have aL:=Xg aL;subst aL;refine mh (r:= .d v) (aj rfl) ?_ af;rw[aF];simp only[dB,aM,an,vw,xaD,aI,mF];split at ab<;>cases ab<;>simp
   cases ab
  split at h;.rename_i l aq;obtain⟨v,ab,af⟩:=fp h;exact mO (by rw[aF];simp only[eL,aI,an];exact aib aq ab) af
  obtain⟨v,ab,af⟩:=fp h;exact mO (by rw[aF];simp only[eL,aI,an];exact aia ab) af
 exact vX h
def Kl{i:iK}{off:Nat}{cs:List D}{v:D}(h:a3 (tG i.desc) i.size off cs=some v):r7 i cs off=some (.d v):=by
 unfold a3 at h;unfold r7;cases aA:tG i.desc with
 |true=>
  simp only[aA]at h;simp only[xaD];split at h;.rename_i an;rw[xad an];cases h;rfl
  cases h
 |false=>simp only[aA]at h;simp[h]
def aie{s:TypeId}{x:Operand}{f:Nat}(aF:o.op= .field s x f)(h:Py T G σ o s x f k=some b):∃aU,gV T G σ o=some aU/\k aU=some b:=by
 unfold Py at h;split at h
 case h_2=>cases h
 rename_i off i bd;split at h
 .rename_i a aI;obtain⟨v,ab,af⟩:=fp h;unfold lI at ab;split at ab
  case h_2=>cases ab
  exact mO (by rw[aF];simp only[eL,bd,aI];exact Kl ab) af
 exact vX h
def aif{t:TypeId}{a:Operand}(aF:o.op= .load t a)(h:Pz T G σ o t a k=some b):∃aU,gV T G σ o=some aU/\k aU=some b:=by
 unfold Pz at h;split at h
 case h_2=>cases h
 rename_i i ah;split at h;.rename_i cs off aI;obtain⟨v,ab,af⟩:=fp h;exact mh (by rw[aF];rfl) (by rw[aF];simp only[dB,ah,aI];exact Kl ab) af
 .rename_i key cR fw off aI;split at h
  case h_2=>cases h
  rename_i bs es ak;split at h
  case isFalse=>cases h
  rename_i di;obtain⟨e,ab,af⟩:=fp h;obtain⟨v,aw,a4⟩:=fp af;exact mh (by rw[aF];rfl) (by rw[aF];simp only[dB,ah,aI,ak,di,xaD,ab];exact Kl aw) a4
 exact vX h
def PM{n m:Nat}{i:D}(h:cd n i=some m):∃Km j,i= .val (.int Km j)/\0<=j/\j<n/\m=j.toNat:=by
 unfold cd at h;split at h
 case h_2=>cases h
 split at h
 case isFalse=>cases h
 rename_i an;cases h;exact⟨_,_,rfl,an.1,an.2,rfl⟩
def aih{t:TypeId}{x fw:Operand}(aF:o.op= .indexAddr t x fw)(h:PA T G σ o t x fw k=some b):∃aU,gV T G σ o=some aU/\k aU=some b:=by
 unfold PA at h;split at h
 .rename_i e s1 s2 gH aM;split at h
  case h_2=>cases h
  rename_i bg he;split at h
  case h_2=>cases h
  rename_i i ah;split at h
  .rename_i a aI;obtain⟨c,ab,af⟩:=fp h;unfold bo at ab;split at ab
   case h_2=>cases ab
   split at ab
   case isFalse=>cases ab
   rename_i aL;split at ab
   case h_2=>cases ab
   split at ab
   case isFalse=>cases ab
   rename_i ak;exact mh (by rw[aF];rfl) (by rw[aF];simp only[dB,aM,ah,he,aI,aL,ak,xaD,ab]) af
  .rename_i key aI;split at h
   case h_2=>cases h
   rename_i bs es ak;split at h
   case isFalse=>cases h
   rename_i di;obtain⟨n,ab,af⟩:=fp h;obtain⟨Km,j,rfl,aV,a2,rfl⟩:=PM ab;exact mh (by rw[aF];rfl) (by rw[aF];simp only[dB,aM,ah,he,aI,aV,xaD,ak,di,a2,and_self]) (di▸af)
  .rename_i key bs i0 len aI;split at h
   case isFalse=>cases h
   rename_i di;obtain⟨n,ab,af⟩:=fp h;obtain⟨Km,j,rfl,aV,a2,rfl⟩:=PM ab;exact mh (by rw[aF];rfl) (by rw[aF];simp only[dB,aM,ah,he,aI,aV,xaD,di,a2,and_self]) (di▸af)
  cases h
 .rename_i len e s1 s2 gH aM;split at h
  case h_2=>cases h
  rename_i bg he;split at h
  case h_2=>cases h
  rename_i i ah;obtain⟨n,ab,af⟩:=fp h;obtain⟨Km,j,rfl,aV,a2,rfl⟩:=PM ab;split at af
  case h_2=>cases af
  rename_i r av;exact mh (by rw[aF];rfl) (by rw[aF];simp only[dB,aM,ah,he,aV,a2,and_self,xaD];exact av) af
 cases h
def aii{t:TypeId}{x:Operand}{lo ah:Option Operand}(aF:o.op= .slice t x lo ah none)(h:PB T G σ o t x lo ah k=some b):∃aU,gV T G σ o=some aU/\k aU=some b:=by
 unfold PB at h;split at h
 case h_2=>cases h
 rename_i l bJ aq vY;have aq:=Xd aq;have vY:=Xd vY;split at h
 .rename_i s1 s2 gH aM;split at h
  case h_2=>cases h
  rename_i a aI;obtain⟨v,ab,af⟩:=fp h;unfold W9 at ab;split at ab
  case h_2=>cases ab
  split at ab
  case h_2=>cases ab
  rename_i bC bD;split at ab
  case isFalse=>cases ab
  rename_i an;cases ab;exact mO (by rw[aF];simp only[eL,aM,aI,aq,vY,Ke,bC,bD];rw[xad an]) af
 .rename_i e s1 s2 gH aM;split at h
  case h_2=>cases h
  rename_i bg he;split at h
  .rename_i a aI;obtain⟨v,ab,af⟩:=fp h;unfold qU at ab;split at ab
   case h_2=>cases ab
   split at ab
   case h_2=>cases ab
   rename_i bC bD;split at ab
   case isFalse=>cases ab
   rename_i an;cases ab;exact mh (by rw[aF];simp only[eL,aM]) (by rw[aF];simp only[dB,aM,he,aI,j3,aq,vY,Ke,bC,bD];rw[xad ⟨an.1,an.2.1⟩,xad an.2.2]) af
  .rename_i key aI;split at h
   case h_2=>cases h
   rename_i bs es ak;split at h
   case isFalse=>cases h
   rename_i di;obtain⟨p,ab,af⟩:=fp h;unfold mg at ab;split at ab
   case h_2=>cases ab
   rename_i bC bD;split at ab
   case isFalse=>cases ab
   rename_i an;cases ab;exact mh (by rw[aF];simp only[eL,aM]) (by rw[aF];simp only[dB,aM,he,aI,j3,ak,aq,vY,Ke,bC,bD];rw[xad an,xad di]) af
  .rename_i key bs i0 len aI;split at h
   case isFalse=>cases h
   rename_i di;obtain⟨p,ab,af⟩:=fp h;unfold mg at ab;split at ab
   case h_2=>cases ab
   rename_i bC bD;split at ab
   case isFalse=>cases ab
   rename_i an;cases ab;exact mh (by rw[aF];simp only[eL,aM]) (by rw[aF];simp only[dB,aM,he,aI,j3,aq,vY,Ke,bC,bD];rw[xad an,xad di]) af
  cases h
 exact vX h
def aij{args:Array Operand}{dE:Array TypeId}(aF:o.op= .call ⟨.builtin .len,args,dE⟩)(h:PC T G σ o args.toList dE.toList k=some b):∃aU,gV T G σ o=some aU/\k aU=some b:=by
 unfold PC at h;split at h
 case h_2=>cases h
 rename_i t x aK aY;have aT:eL T (ch G σ.aJ) o.op=none:=by rw[aF];rfl
 split at h
 .rename_i a aI;split at h;.rename_i s1 s2 gH aM;obtain⟨v,ab,af⟩:=fp h;unfold nI at ab;split at ab<;>cases ab;exact mh aT (by rw[aF];simp only[dB,aK,aY,aM,aI]) af
  .rename_i e s1 s2 gH aM;obtain⟨v,ab,af⟩:=fp h;unfold bI at ab;split at ab<;>cases ab;.exact mh aT (by rw[aF];simp only[dB,aK,aY,aM,aI,j3]) af
   exact mh aT (by rw[aF];simp only[dB,aK,aY,aM,aI,j3]) af
  .rename_i bC bD s1 s2 gH aM;obtain⟨v,ab,af⟩:=fp h;unfold Xa at ab;split at ab<;>cases ab;.exact mh aT (by rw[aF];simp only[dB,aK,aY,aM,aI]) af
   exact mh aT (by rw[aF];simp only[dB,aK,aY,aM,aI]) af
  cases h
 exact vX h
theorem Xh{a:D}{p:Nat×List (List D)}(h:kS a=some p)(objs:cF):l6 objs (.d a)=some p:=by unfold kS at h;split at h<;>cases h<;>rfl
def aik{args:Array Operand}{dE:Array TypeId}(aF:o.op= .call ⟨.builtin .append,args,dE⟩)(h:PD T G σ o args.toList dE.toList k=some b):∃aU,gV T G σ o=some aU/\k aU=some b:=by
 unfold PD at h;split at h
 case h_2=>cases h
 rename_i t t' s x aK aY;split at h
 case h_2=>cases h
 rename_i e s1 s2 gH dt ay2 ay3 ay4 aM tM aA;split at h
 case h_2=>cases h
 rename_i bg he;have aT:eL T (ch G σ.aJ) o.op=none:=by rw[aF];rfl
 have hm:dB T (ch G σ.aJ) σ.objs o.op=none:=by rw[aF];rfl
 have key:∀p:Nat×List (List D),l6 σ.objs (ch G σ.aJ x)=some p->aD (decide (p.1=bg.size\/p.2=[])&&decide (0<bg.size)) (match ch G σ.aJ s with
     | .d a=>aD (nG a&&c1 p.2.length bg.bytes) (mN T σ o.dst k (.row (o.dst.getD 9999)) [(o.dst.getD 9999,.row bg.size p.2)])
     | .row key=>match σ.objs key with
      |some (.row bs es)=>if bs=bg.size/\key<10000 then aD (c1 (es.length+p.2.length) bg.bytes) (mN T σ o.dst k (.row (o.dst.getD 9999)) [(key,.dead),(o.dst.getD 9999,.row bs (es++p.2))])else none
      |_=>none
     |_=>none)=some b->∃aU,gV T G σ o=some aU/\k aU=some b:=by
  rintro⟨cR,xs⟩ e0 h;obtain⟨au,h⟩:=lj h;simp only[xam,xaC]at au;split at h
  .rename_i a aI;obtain⟨ab,h⟩:=lj h;simp only[xam,c1,xaC]at ab;have aL:a= .val (.slice none 0 0):=by
    have:=ab.1;unfold nG at this;split at this;.rfl
    cases this
   have af:=ab.2;clear ab;refine qW aT hm ?_ h;rw[aF];simp only[ei,aK,aY,aM,tM,aA,he,e0,aI,aL];rw[xad au,xad af]
  .rename_i key aI;split at h
   case h_2=>cases h
   rename_i bs es ak;split at h
   case isFalse=>cases h
   rename_i di;obtain⟨ab,h⟩:=lj h;simp only[xam,c1,xaC]at ab;refine qW aT hm ?_ h;rw[aF];simp only[ei,aK,aY,aM,tM,aA,he,e0,aI,ak];rw[xad au,xad ⟨di.1,ab.1,ab.2,di.2⟩]
  .cases h
 simp only at h;split at h;.rename_i a aI;obtain⟨p,ab,af⟩:=fp h;exact key p (by rw[aI];exact Xh ab _) af
 .rename_i ail bs i len aI;split at h
  case h_2=>cases h
  rename_i pb es ak;split at h
  case isFalse=>cases h
  rename_i di;obtain⟨ab,af⟩:=lj h;have e0:l6 σ.objs (ch G σ.aJ x)=some (bs,(es.drop i).take len):=by rw[aI];simp only[l6,ak];rw[xad ⟨di,xaW ab⟩]
  exact key (bs,(es.drop i).take len) e0 af
 split at h
 case h_2=>cases h
 rename_i p aT;exact key p aT h
def aim{args:Array Operand}{dE:Array TypeId}(aF:o.op= .call ⟨.builtin .clear,args,dE⟩)(h:PF T G σ o args.toList dE.toList k=some b):∃aU,gV T G σ o=some aU/\k aU=some b:=by
 unfold PF at h;split at h
 case h_2=>cases h
 rename_i t s aK aY;split at h
 case h_2=>cases h
 rename_i e s1 s2 gH aM;split at h
 case h_2=>cases h
 rename_i bg he;have aT:eL T (ch G σ.aJ) o.op=none:=by rw[aF];rfl
 have hm:dB T (ch G σ.aJ) σ.objs o.op=none:=by rw[aF];rfl
 split at h
 case h_2=>cases h
 rename_i key bs i len aI;split at h
 case h_2=>cases h
 rename_i pb es ak;split at h
 case isFalse=>cases h
 rename_i di;obtain⟨au,h⟩:=lj h;simp only[xaC]at au;refine qW aT hm ?_ h;rw[aF];simp only[ei,aK,aY,aM,he,aI,ak];rw[xad ⟨di.1,di.2.1,au,di.2.2⟩]
def ain{args:Array Operand}{dE:Array TypeId}(aF:o.op= .call ⟨.builtin .copy,args,dE⟩)(h:PE T G σ o args.toList dE.toList k=some b):∃aU,gV T G σ o=some aU/\k aU=some b:=by
 unfold PE at h;split at h
 case h_2=>cases h
 rename_i t t' s x aK aY;split at h
 case h_2=>cases h
 rename_i e s1 s2 gH aM;split at h
 case h_2=>cases h
 rename_i bg he;have aT:eL T (ch G σ.aJ) o.op=none:=by rw[aF];rfl
 have hm:dB T (ch G σ.aJ) σ.objs o.op=none:=by rw[aF];rfl
 have key:∀p:Nat×List (List D),l6 σ.objs (ch G σ.aJ x)=some p->aD (decide (p.1=bg.size\/p.2=[])) (match ch G σ.aJ s with
     | .row key=>match σ.objs key with
      |some (.row bs es)=>if bs=bg.size then mN T σ o.dst k (.d (.val (.int .i64 (min p.2.length es.length:Nat)))) [(key,.row bs (p.2.take (min p.2.length es.length)++es.drop (min p.2.length es.length)))]else none
      |_=>none
     | .sub key bs i len=>match σ.objs key with
      |some (.row pb es)=>if bs=bg.size/\pb=bs then aD (decide (i+len<=es.length)) (mN T σ o.dst k (.d (.val (.int .i64 (min p.2.length len:Nat)))) [(key,.row bs (es.take i++p.2.take (min p.2.length len)++es.drop (i+min p.2.length len)))])else none
      |_=>none
     |_=>none)=some b->∃aU,gV T G σ o=some aU/\k aU=some b:=by
  rintro⟨cR,xs⟩ e0 h;obtain⟨au,h⟩:=lj h;simp only[xaC]at au;split at h
  .rename_i key aI;split at h
   case h_2=>cases h
   rename_i bs es ak;split at h
   case isFalse=>cases h
   rename_i di;refine qW aT hm ?_ h;rw[aF];simp only[ei,aK,aY,aM,he,e0,aI,ak];rw[xad au,xad di]
  .rename_i key bs i len aI;split at h
   case h_2=>cases h
   rename_i pb es ak;split at h
   case isFalse=>cases h
   rename_i di;obtain⟨ab,h⟩:=lj h;simp only[xaC]at ab;refine qW aT hm ?_ h;rw[aF];simp only[ei,aK,aY,aM,he,e0,aI,ak];rw[xad au,xad ⟨di.1,di.2,ab⟩]
  .cases h
 simp only at h;split at h;.rename_i a aI;obtain⟨p,ab,af⟩:=fp h;exact key p (by rw[aI];exact Xh ab _) af
 .rename_i ail bs i len aI;split at h
  case h_2=>cases h
  rename_i pb es ak;split at h
  case isFalse=>cases h
  rename_i di;obtain⟨ab,af⟩:=lj h;have e0:l6 σ.objs (ch G σ.aJ x)=some (bs,(es.drop i).take len):=by rw[aI];simp only[l6,ak];rw[xad ⟨di,xaW ab⟩]
  exact key (bs,(es.drop i).take len) e0 af
 split at h
 case h_2=>cases h
 rename_i p aT;exact key p aT h
def Xi{hZ bg:iK}{t ie gT:TypeId}{s1 s2:Nat}{gH:Value}(aM:T t=some ⟨.map ie gT,s1,s2,gH⟩)(ab:T ie=some hZ)(af:T gT=some bg)(ak:vv hZ.desc=true){ok:Bool}{es:List (Value×D)}{e9 v:D} (h:jU hZ.desc bg.zero ok es e9=some v):∃u,e9= .val u/\xy T t es u ok=some (.d v):=by
 unfold jU at h;split at h
 case h_2=>cases h
 rename_i u;refine⟨u,rfl,?_⟩;unfold xy;simp only[aM,ab,af,ak,xaD];split at h;.rename_i x ag;cases h;simp only[ag]
 .rename_i ag;cases h;simp only[ag]
 cases h
def aio{t:TypeId}{x i:Operand}{ok:Bool}(aF:o.op= .lookup t x i ok)(h:PG T G σ o t x i ok k=some b):∃aU,gV T G σ o=some aU/\k aU=some b:=by
 unfold PG at h;split at h
 case h_2=>cases h
 rename_i ie gT s1 s2 gH aM;split at h
 case h_2=>cases h
 rename_i hZ bg ab af;split at h
 case isFalse=>cases h
 rename_i ak;split at h
 case h_2=>cases h
 rename_i e9 Jn;split at h;.rename_i m hm;obtain⟨es,aV,a2⟩:=fp h;obtain⟨v,bc,cV⟩:=fp a2;obtain⟨u,rfl,hS⟩:=Xi aM ab af ak bc;refine mh (by rw[aF];rfl) ?_ cV;rw[aF];simp only[dB,Jn,hm];unfold ll at aV;split at aV<;>cases aV<;>exact hS
 .rename_i key hm;split at h
  case h_2=>cases h
  rename_i es mi;obtain⟨v,bc,cV⟩:=fp h;obtain⟨u,rfl,hS⟩:=Xi aM ab af ak bc;refine mh (by rw[aF];rfl) ?_ cV;rw[aF];simp only[dB,Jn,hm,mi,hS]
 cases h
def Xj{t:TypeId}{m i x:Operand}(aF:o.op= .mapUpdate t m i x\/o.op= .insert t m i x)(h:Kj T G σ o t m i x k=some b):∃aU,gV T G σ o=some aU/\k aU=some b:=by
 unfold Kj at h;split at h
 case h_2=>cases h
 rename_i ie gT s1 s2 gH aM;split at h
 case h_2=>cases h
 rename_i hZ ab;split at h
 case isFalse=>cases h
 rename_i ak;split at h
 case h_2=>cases h
 rename_i key e9 v aK aY bN;split at h
 case h_2=>cases h
 rename_i es mi;obtain⟨l,aV,a2⟩:=fp h;unfold nc at aV;split at aV
 case h_2=>cases aV
 rcases aF with aF|aF<;>
 .refine qW (by rw[aF];rfl) (by rw[aF];rfl) ?_ a2;rw[aF];simp only[ei,aM,ab,ak,xaD,aK,aY,bN,mi,aV]
def aip{t:TypeId}{a x:Operand}(aF:o.op= .store t a x)(h:PH T G σ o t a x k=some b):∃aU,gV T G σ o=some aU/\k aU=some b:=by
 unfold PH at h;split at h
 case h_2=>cases h
 rename_i i ah;obtain⟨cs,ab,af⟩:=Kf h;split at af
 case isFalse=>cases af
 rename_i aq;split at af
 .rename_i key off aI;split at af
  case h_2=>cases af
  rename_i cells ak;split at af
  case isFalse=>cases af
  rename_i an;refine qW (by rw[aF];rfl) (by rw[aF];rfl) ?_ af;rw[aF];simp only[ei,ah,ab,aI,ak];rw[xad aq,xad an]
 .rename_i key cR fw off aI;split at af
  case h_2=>cases af
  rename_i bs es aO ak eM;split at af
  case isFalse=>cases af
  rename_i an;obtain⟨e,aV,a2⟩:=fp af;refine qW (by rw[aF];rfl) (by rw[aF];rfl) ?_ a2;rw[aF];simp only[ei,ah,ab,aI,ak,eM,aV];rw[xad aq,xad an]
 cases af
def aiq{t:TypeId}{parts:Array (Nat×Operand)}(aF:o.op= .build t parts)(h:PI T G σ o t parts k=some b):∃aU,gV T G σ o=some aU/\k aU=some b:=by
 unfold PI at h;split at h
 case h_2=>cases h
 rename_i pl z aj;obtain⟨cs,ab,af⟩:=Xb h;exact mO (by rw[aF];simp only[eL,Ji,aj,ab]) af
def air{t:TypeId}{n:Nat}{parts:Array (Nat×Operand)}(aF:o.op= .buildSlice t n parts)(h:PJ T G σ o t n parts k=some b):∃aU,gV T G σ o=some aU/\k aU=some b:=by
 unfold PJ at h;split at h
 case h_2=>cases h
 rename_i e s1 s2 gH aM aA;split at h
 case h_2=>cases h
 rename_i bg he;obtain⟨es,ab,af⟩:=Xc h;split at af
 case isFalse=>cases af
 rename_i an;refine qW (by rw[aF];rfl) (by rw[aF];rfl) ?_ af;rw[aF];simp only[ei,aM,aA,he,ab];rw[xad an]
def ais{t:TypeId}{l c:Operand}(aF:o.op= .makeSlice t l c)(h:PK T G σ o t l c k=some b):∃aU,gV T G σ o=some aU/\k aU=some b:=by
 unfold PK at h;split at h
 case h_2=>cases h
 rename_i e s1 s2 gH aM aA;split at h
 case h_2=>cases h
 rename_i bg he;split at h
 case h_2=>cases h
 rename_i r6 je aq an;split at h
 case isFalse=>cases h
 rename_i bx;obtain⟨n,ab,af⟩:=fp h;unfold qV at ab;split at ab
 case h_2=>cases ab
 split at ab
 case isFalse=>cases ab
 rename_i l5;cases ab;refine qW (by rw[aF];rfl) (by rw[aF];rfl) ?_ af;rw[aF];simp only[ei,aM,aA,he,aq,an];rw[xad ⟨l5.1,l5.2.1,l5.2.2.1,l5.2.2.2,bx⟩]
def ait{s t:TypeId}{x:Operand}(aF:o.op= .convert s t x)(h:PL T G σ o s t x k=some b):∃aU,gV T G σ o=some aU/\k aU=some b:=by
 unfold PL at h;split at h;.rename_i q i s1 s2 gH a aH aM ag;obtain⟨v,ab,af⟩:=fp h;unfold ka at ab;split at ab<;>cases ab;exact mO (by rw[aF];simp only[eL,aH,aM,ag]) af
 .rename_i q s1 s2 gH a aH aM ag;obtain⟨v,ab,af⟩:=fp h;unfold W8 at ab;split at ab<;>cases ab;exact mO (by rw[aF];simp only[eL,aH,aM,ag]) af
 exact vX h
def A4(h:uf T G σ o k=some b):∃aU,gV T G σ o=some aU/\k aU=some b:=by
 unfold uf at h;split at h;.exact aid (by assumption) h
 .rename_i aF;split at h
  .rename_i a aI;obtain⟨v,ab,af⟩:=fp h;unfold dp at ab;split at ab<;>cases ab;.exact mO (by rw[aF];simp only[eL,aI]) af
   exact mO (by rw[aF];simp only[eL,aI]) af
  cases h
 .exact ait (by assumption) h
 .rename_i c x y aF;split at h
  case h_2=>cases h
  rename_i je an;split at h
  .rename_i p aT;obtain⟨aI,aj⟩:=aic aT;obtain⟨v,ab,af⟩:=fp h;unfold bW at ab;split at ab<;>cases ab;rename_i t;refine mO ?_ af;rw[aF];simp only[eL,an,aI,aj];split;.rename_i aK aY;simp only[aS.d.injEq]at aK aY;rw[aK,aY];cases t<;>rfl
   cases t<;>rfl
  rename_i aT;rcases W6 h with⟨rfl,ab⟩|⟨rfl,ab⟩
  .exact mO (by rw[aF];exact Xf an aT) ab
  exact mO (by rw[aF];exact Xf an aT) ab
 .exact aie (by assumption) h
 .rename_i x i aF;split at h
  .rename_i a aI;obtain⟨v,ab,af⟩:=fp h;unfold bu at ab;split at ab
   case h_2=>cases ab
   exact mO (by rw[aF];simp only[eL,aI,ab]) af
  exact vX h
 .rename_i t x i aF;split at h
  .rename_i s1 s2 gH aM;split at h
   case h_2=>cases h
   rename_i a c aI an;obtain⟨v,ab,af⟩:=fp h;unfold nH at ab;split at ab
   case h_2=>cases ab
   exact mO (by rw[aF];simp only[eL,aM,aI,an];exact xX ab) af
  .rename_i len e s1 s2 gH aM;split at h
   case h_2=>cases h
   rename_i bg iL;split at h
   case h_2=>cases h
   rename_i a c aI an;obtain⟨n,aV,h⟩:=fp h;obtain⟨v,ab,af⟩:=fp h;unfold cd at aV;split at aV
   case h_2=>cases aV
   split at aV
   case isFalse=>cases aV
   rename_i aL;cases aV;unfold lI at ab;split at ab
   case h_2=>cases ab
   exact mO (by rw[aF];simp only[eL,aM,aI,an];rw[xad aL];simp only[iL];exact Kl ab) af
  cases h
 .exact aif (by assumption) h
 .exact aih (by assumption) h
 .exact aii (by assumption) h
 .exact aio (by assumption) h
 .rename_i aF;exact Xj (.inl aF) h
 .rename_i aF;exact Xj (.inr aF) h
 .exact aip (by assumption) h
 .exact aiq (by assumption) h
 .exact air (by assumption) h
 .exact ais (by assumption) h
 .rename_i t x aF;split at h
  case h_2=>cases h
  rename_i i ah aA;obtain⟨cs,ab,af⟩:=Kf h;exact qW (by rw[aF];rfl) (by rw[aF];rfl) (by rw[aF];simp only[ei,ab,aA]) af
 .exact aij (by assumption) h
 .exact aik (by assumption) h
 .exact ain (by assumption) h
 .exact aim (by assumption) h
 .rename_i args dE aF;unfold Kk at h;split at h
  case h_2=>cases h
  rename_i aO eM;obtain⟨v,ab,af⟩:=fp h;exact mO (by rw[aF];simp only[eL,Au eM];exact xX ab) af
 .rename_i args dE aF;unfold Kk at h;split at h
  case h_2=>cases h
  rename_i aO eM;obtain⟨v,ab,af⟩:=fp h;exact mO (by rw[aF];simp only[eL,Au eM];exact xX ab) af
 exact vX h
end
section
variable{β:Type}
abbrev lK:=Tmp->FuncId->List D->Option D
def Es(G:dm)(C:lK)(σ:aG)(o:Oper)(x:Operand)(args:List Operand)(k:aG->Option β):Option β:=match vH (ch G σ.aJ x)with
 |some (f,pre,post)=>match hv ((pre++args.map (ch G σ.aJ)++post).map (toD σ.objs))with|some aO=>aa (C (o.dst.getD 9999) f aO) λr=>aD ((pre++args.map (ch G σ.aJ)++post).all sk||r.flat) (k (σ.put o.dst (.d r)))|none=>none
 |none=>none
def PN:D->Option (FuncId×List D)
 | .fn (.func f) [] oi=>some (f,oi)| .val (.func (.func f) a b)=>if a.size=0/\b.size=0 then some (f,[])else none
 |_=>none
def Et(f:FuncId)(aO:List D):List (FuncId×(List D->Option D))->Option D
 |[]=>none|(g,F)::r=>if f=g then F aO else Et f aO r
def A5(l:List (FuncId×(List D->Option D)))(v:D)(aO:List D):Option D:=aa (PN v) λp=>Et p.1 (aO++p.2) l
def Xk(t:Tmp):List (Nat×List FuncId)->List FuncId
 |[]=>[]|(d,l)::r=>if t=d then l else Xk t r
def PO(l:List FuncId)(G:dm)(C:lK)(σ:aG)(o:Oper)(x:Operand)(args:List Operand)(k:aG->Option β):Option β:=match ch G σ.aJ x,hv ((args.map (ch G σ.aJ)).map (toD σ.objs))with| .d v,some aO=>aa (A5 (l.map λg=>(g,C (o.dst.getD 9999) g)) v aO) λr=>aD ((args.map (ch G σ.aJ)).all sk||r.flat) (k (σ.put o.dst (.d r)))|_,_=>none
def xZ(T:cg)(G:dm)(C:lK)(σ:aG)(o:Oper)(x:Operand)(args:List Operand)(k:aG->Option β):Option β:=match Xk (o.dst.getD 9999) T.dyn with|[]=>Es G C σ o x args k|g::l=>PO (g::l) G C σ o x args k
def su(T:cg)(G:dm)(C:lK)(σ:aG)(o:Oper)(k:aG->Option β):Option β:=match o.op with| .call ⟨.value x,args,_⟩=>xZ T G C σ o x args.toList k|_=>uf T G σ o k
def sw(T:cg)(G:dm)(C:lK):List Oper->aG->(aG->Option β)->Option β
 |[],σ,k=>k σ|o::r,σ,k=>su T G C σ o λaU=>sw T G C r aU k
def vZ:List Oper->List (Option (Nat×Bool)×List Oper)
 |[]=>[]
 |o::r=>match vZ r with
  |(g,os)::rest=>if g=o.guard then(g,o::os)::rest else(o.guard,[o])::(g,os)::rest
  |[]=>[(o.guard,[o])]
def bL(x:D)(want:Bool)(p:Option D):Option D:=match x with
 | .val (.bool b)=>if b=want then p else some lk
 | .val (.tuple _)=>some lk|_=>none
def v3{ee:Type}(x:D)(want:Bool)(p q:Option ee):Option ee:=match x with
 | .val (.bool b)=>if b=want then p else q
 | .val (.tuple _)=>q|_=>none
def PQ:List Oper->aG->aG
 |[],σ=>σ|o::r,σ=>PQ r (σ.put o.dst (.d lk))
def v5:List Oper->Option Tmp
 |[]=>none|[o]=>o.dst|_::r=>v5 r
def dstsOf(os:List Oper):List Tmp:=os.filterMap (·.dst)
def still(o:Oper):Bool:=iN o.op||jf o.op||hy o.op
def v7(ts:List Tmp)(v:D)(σ:aG):aG:=⟨λt=>if t∈ts then .d (ad v (ts.idxOf t))else σ.aJ t,σ.objs⟩
def Eu(σ:aG):List Tmp->Option (List D)
 |[]=>some []|t::r=>match σ.aJ t,Eu σ r with| .d v,some l=>some (v::l)|_,_=>none
def kept(all:Array Oper)(os l:List Oper):List Tmp:=(dstsOf os).filter λt=>l.any λo=>(o.looksAt all).contains t
def Xl{σ:aG}:∀{ts:List Tmp}{l:List D},Eu σ ts=some l->l.length=ts.length/\∀(i:Nat)(t:Tmp),ts[i]?=some t->∃v,l[i]?=some v/\σ.aJ t= .d v
 |[],l,h=>by cases h;exact⟨rfl,λi t h=>by simp at h⟩
 |t::r,l,h=>by
  unfold Eu at h;split at h
  case h_2=>cases h
  rename_i v r6 a6 aq;cases h;have ih:=Xl aq;refine⟨by simp[ih.1],λi u hu=>?_⟩;cases i with|zero=>simp at hu;subst hu;exact⟨v,rfl,a6⟩|succ i=>exact ih.2 i u (by simpa using hu)
def aiu{σ:aG}{ts:List Tmp}{l:List D}(h:Eu σ ts=some l){t:Tmp}(aM:t∈ts):σ.aJ t= .d (ad (.agg l) (ts.idxOf t)):=by
 have ab:ts[ts.idxOf t]?=some t:=by have:=List.idxOf_lt_length_of_mem aM;rw[xaa this,List.getElem_idxOf]
 obtain⟨v,af,aw⟩:=(Xl h).2 _ t ab;rw[aw]
 congr 1
 show v=l.getD _ _;simp[List.getD,af]
def lL(aO:List Tmp)(σ:aG):aG:=⟨λt=>if t∈aO then .any else σ.aJ t,σ.objs⟩
def blind(all:Array Oper)(aO:List Tmp)(l:List Oper):Bool:=l.all λo=>aO.all λd=>!(o.looksAt all).contains d&&o.dst !=some d
def Xm(all:Array Oper)(d ca:Tmp)(os l:List Oper):Bool:=os.all (λo=>still o&&o.dst !=some d)&&blind all ((dstsOf os).filter (·!=ca)) l
def flat(gs:List (Option (Nat×Bool)×List Oper)):List Oper:=gs.flatMap (·.2)
def x0(T:cg)(G:dm)(C:lK)(all:Array Oper):List (Option (Nat×Bool)×List Oper)->aG->(aG->Option β)->Option β
 |[],σ,k=>k σ|(none,os)::r,σ,k=>sw T G C os σ λaU=>x0 T G C all r aU k
 |(some (j,want),os)::r,σ,k=>match(all[j]?).bind (·.dst),v5 os with
  |some d,some ca=>match σ.aJ d with
   | .d x=>if Xm all d ca os (flat r)=true then
     aa (bL x want (sw T G C os σ λaU=>match aU.aJ ca with| .d v=>some v|_=>none)) λv=>x0 T G C all r ((lL (dstsOf os) σ).put (some ca) (.d v)) k
    else if os.all (λo=>o.dst !=some d)=true then v3 x want (sw T G C os σ λaU=>x0 T G C all r aU k) (x0 T G C all r (PQ os σ) k)else none
   |_=>none
  |_,_=>none
def Xn(T:cg)(G:dm)(C:lK)(all:Array Oper)(σ:aG)(k:aG->Option β):Option β:=x0 T G C all (vZ all.toList) σ k
def Xo:Op->Bool
 | .store _ _ _=>true|_=>false
def PR(all:Array Oper)(listed:Array Bool)(i:Nat):Bool:=match all[i]? with|none=>false|some fo=>((waits all i).all λj=>!listed.getD j true&&match all[j]? with|some c8=>c8.after.any λe=>Region.binds .any e&&(e.on==i||(waits all i).contains e.on)|none=>false)&&(List.range all.size).all λj=>j==i||listed.getD j true||(waits all i).contains j||match all[j]? with|some c8=>fo.apart all c8&&!Xo c8.op|none=>true
def Xp(all:Array Oper)(listed:Array Bool)(i:Nat)(σ:aG)(o:Oper):Bool:=match o.op with
 | .load _ (.tmp a)=>match σ.aJ a with| .ptr _ _=>PR all listed i|_=>false
 |_=>false
def x1(all:Array Oper)(listed:Array Bool)(i:Nat):List Oper:=(List.range all.size).filterMap λj=>if j==i||listed.getD j true||(waits all i).contains j then none else all[j]?
def PS(all:Array Oper)(listed:Array Bool)(i:Nat)(aJ:Nat->aS)(o:Oper):Bool:=((waits all i).all λj=>!listed.getD j true&&match all[j]? with|some c8=>c8.after.any λe=>Region.binds .any e&&(e.on==i||(waits all i).contains e.on)|none=>false)&&(x1 all listed i).all λy=>o.apart all y&&sq aJ o y&&(mL o.op++(x1 all listed i).flatMap λy=>ue y.op).all λt=>y.dst !=some t
def A6(T:cg)(G:dm)(C:lK)(all:Array Oper):List Nat->Array Bool->aG->(aG->Option β)->Option β
 |[],listed,σ,k=>if(Region.ready .any all listed).isEmpty=true then k σ else none
 |i::r,listed,σ,k=>match all[i]? with
  |some o=>if o.guard=none/\(Region.ready .any all listed).contains i=true/\(agW all listed i||Xp all listed i σ o||PS all listed i σ.aJ o||Wy T all listed i)=true then su T G C σ o λaU=>A6 T G C all r (listed.setIfInBounds i true) aU k else none
  |none=>none
def hj(P:Program)(G:dm)(C:lK):Prop:=∀d f aO r,C d f aO=some r->ez P G f aO (·=r)
def v8:∀l:List Oper,flat (vZ l)=l
 |[]=>rfl
 |o::r=>by
  have ih:=v8 r;unfold vZ;split;.rename_i g os rest cc;rw[cc]at ih;split<;>simp_all [flat]
  rename_i cc;rw[cc]at ih;simp[flat]at ih;subst ih;rfl
def Kn:∀(l:List Oper)(g:Option (Nat×Bool)) (os:List Oper),(g,os)∈vZ l->∀o∈os,o.guard=g
 |[],g,os,h=>by cases h
 |o::r,g,os,h=>by
  have ih:=Kn r;unfold vZ at h;split at h
  .rename_i lg aiv rest cc;split at h
   .rename_i he;rcases xak.1 h with ab|ab
    .cases ab;intro q bk;rcases xak.1 bk with rfl|bk
     .exact he.symm
     exact ih g aiv (by rw[cc];simp) q bk
    exact ih g os (by rw[cc];simp[ab])
   rcases xak.1 h with ab|ab;.cases ab;intro q bk;simp at bk;subst bk;rfl
   exact ih g os (by rw[cc];exact ab)
  simp at h;obtain⟨rfl,rfl⟩:=h;intro q bk;simp at bk;subst bk;rfl
variable{P:Program}{T:cg}{G:dm}{C:lK}{σ:aG}{all:Array Oper}
def Xq{α:Type}:∀{a b:List (Option α)} {x y:List α},hv a=some x->hv b=some y->hv (a++b)=some (x++y)
 |[],b,x,y,h,bz=>by cases h;exact bz
 |none::a,b,x,y,h,bz=>by cases h
 |some c::a,b,x,y,h,bz=>by
  simp only[hv,xce]at h⊢;split at h
  case h_2=>cases h
  rename_i z ab;cases h;rw[Xq ab bz];rfl
def Xr{objs:cF}:∀(l:List D),hv ((l.map aS.d).map (toD objs))=some l
 |[]=>rfl|c::r=>by have:=Xr (objs:=objs) r;have e:toD objs (aS.d c)=some c:=rfl;simp only[xaz,e,hv];rw[this]
def Xs{f:FuncId}{aO:List D}{C:FuncId->List D->Option D}{r:D}:∀{l:List FuncId},Et f aO (l.map λg=>(g,C g))=some r->C f aO=some r
 |[],h=>by cases h
 |g::l,h=>by
  simp only[xaz,Et]at h;split at h;.rename_i e;rw[e];exact h
  exact Xs h
def aiw{l:List FuncId}{o:Oper}{x:Operand}{args:List Operand}{k:aG->Option β}{b:β}(h:PO l G C σ o x args k=some b):Es G C σ o x args k=some b:=by
 unfold PO at h;split at h
 case h_2=>cases h
 rename_i v aO a6 eM;obtain⟨r,ab,af⟩:=fp h;obtain⟨p,aw,a4⟩:=fp ab;have b7:=Xs (C:=C (o.dst.getD 9999)) a4;obtain⟨f,oi⟩:=p;have gO:vH (.d v)=some (f,[],oi.map .d):=by
  unfold PN at aw;split at aw;.cases aw;rfl
  .split at aw;.rename_i gE;cases aw;simp only[vH,xad gE,xbm]
   cases aw
  cases aw
 unfold Es;rw[a6,gO];simp only[xaH,List.map_append];rw[Xq eM (Xr oi)];simp only;rw[b7];obtain⟨aV,a2⟩:=lj af;have gl:((args.map (ch G σ.aJ))++oi.map aS.d).all sk=(args.map (ch G σ.aJ)).all sk:=by
  rw[List.all_append];have:(oi.map aS.d).all sk=true:=by rw[xay];intro y aP;obtain⟨c,_,rfl⟩:=xax.1 aP;rfl
  rw[this,xbq]
 rw[gl];exact af
def aix{o:Oper}{x:Operand}{args:List Operand}{k:aG->Option β}{b:β}(h:xZ T G C σ o x args k=some b):Es G C σ o x args k=some b:=by
 unfold xZ at h;split at h;.exact h
 exact aiw h
def Ko(cf:hj P G C){dP:cg}{o:Oper}{x:Operand}{args:Array Operand}{dE:Array TypeId}(aF:o.op= .call ⟨.value x,args,dE⟩){k:aG->Option β}{b:β}(h:xZ dP G C σ o x args.toList k=some b):da P T G o (λaU=>k aU=some b/\aU.objs=σ.objs/\∀t,o.dst≠some t->aU.aJ t=σ.aJ t) σ:=by
 have eE:hy o.op=true:=by rw[aF];rfl
 rw[nB (tU eE)]
 replace h:=aix h
 unfold Es at h;unfold jC;rw[aF];simp only;split at h
 case h_2=>cases h
 rename_i f pre post gO;simp only[gO];split at h
 case h_2=>cases h
 rename_i aO eM;obtain⟨r,ab,af⟩:=fp h;obtain⟨af,aw⟩:=lj af;refine⟨aO,aO,(·=r),eM,qK.refl _,cf _ _ _ _ ab,⟨r,rfl⟩,?_,?_⟩
 .rcases xbB.1 af with af|af;.exact .inr af
  exact .inl (by rintro _ rfl;exact af)
 rintro _ rfl;refine⟨aw,by simp,?_⟩;intro t aM;cases aA:o.dst with|none=>rfl|some d=>rw[aA]at aM;simp only[aG.put];exact cX _ _ (λe=>aM (by rw[e]))
def Xt(cf:hj P G C){o:Oper}{k:aG->Option β}{b:β}(h:su T G C σ o k=some b):da P T G o (λaU=>k aU=some b) σ:=by
 unfold su at h;split at h;.exact pZ (λ_ h=>h.1) (Ko cf (by assumption) h)
 obtain⟨aU,ab,af⟩:=A4 h;unfold da;rw[ab];exact af
def qX{dst:Option Tmp}{r:aS}{t:Tmp}(aM:dst≠some t):(σ.put dst r).aJ t=σ.aJ t:=by cases dst with|none=>rfl|some d=>simp only[aG.put];exact cX _ _ (λe=>aM (by rw[e]))
def Xu(cf:hj P G C){o:Oper}(aH:still o=true){k:aG->Option β}{b:β}(h:su T G C σ o k=some b):da P T G o (λaU=>k aU=some b/\aU.objs=σ.objs/\∀t,o.dst≠some t->aU.aJ t=σ.aJ t) σ:=by
 unfold su at h;split at h;.exact Ko cf (by assumption) h
 rename_i Xv;obtain⟨aU,ab,af⟩:=A4 h;unfold da;rw[ab];have aiy:g7 T (ch G σ.aJ) σ.objs (o.dst.getD 9999) o.op=none:=by
  unfold still at aH;simp only[xbc]at aH;rcases aH with(aH|aH)|aH
  .exact(AN aH).2
  .exact AO aH
  exact(O8 aH).2.2
 unfold gV at ab;split at ab;.cases ab;exact⟨af,by simp,λt aM=>qX aM⟩
 split at ab;.cases ab;exact⟨af,by simp,λt aM=>qX aM⟩
 rw[aiy]at ab;cases ab
def mP{l:List Oper}:∀{σ:aG}{K K':aG->Prop},(∀σ,K σ->K' σ)->fP P T G all l K σ->fP P T G all l K' σ:=by
 induction l with
 |nil=>intro σ K K' ak h;exact ak _ h
 |cons o l ih=>intro σ K K' ak h;exact Ea (λaU bz=>ih ak bz) h
def PT{l r:List Oper}:∀{σ:aG}{K:aG->Prop},fP P T G all l (fP P T G all r K) σ->fP P T G all (l++r) K σ:=by
 induction l with
 |nil=>intro σ K h;exact h
 |cons o l ih=>intro σ K h;exact Ea (λaU bz=>ih bz) h
def oj(σ τ:aG):Prop:=σ.objs=τ.objs/\∀t,τ.aJ t= .any\/σ.aJ t=τ.aJ t
theorem oj.refl(σ:aG):oj σ σ:=⟨rfl,λ_=> .inr rfl⟩
def oj.trans{σ τ xQ:aG}(h:oj σ τ)(bz:oj τ xQ):oj σ xQ:=by
 refine⟨h.1.trans bz.1,λt=>?_⟩;rcases bz.2 t with af|af
 .exact .inl af
 rcases h.2 t with ab|ab;.exact .inl (af▸ab)
 exact .inr (ab.trans af)
def oj.Ev{σ τ:aG}(h:oj σ τ):gX σ τ:=by
 obtain⟨s,o⟩:=σ;obtain⟨s',o'⟩:=τ;obtain⟨ab,af⟩:=h;simp only at ab af;subst ab;intro m fr ρ ac w cY;refine⟨m,ρ,Mem.le_refl m,⟨cY.mem,cY.frame,cY.apart,cY.one,?_,cY.objs,cY.own,cY.sep⟩,λk ak aj=>⟨aj,rfl⟩⟩;intro t;rcases af t with h|h;.simp only[h];exact .any _
 have:=cY.aJ t;simp only at this⊢;rw[<-h];exact this
def Xw{d:Tmp}{r:aS}:∀{l:List Oper}{σ:aG}{K:aG->Prop},(∀o∈l,d∉o.looksAt all/\o.dst≠some d)->fP P T G all l K (σ.put (some d) r)=fP P T G all l (λaU=>K (aU.put (some d) r)) σ
 |[],σ,K,h=>rfl
 |o::l,σ,K,h=>by
  have au:=h o (by simp);have ih:∀{σ:aG},fP P T G all l K (σ.put (some d) r)=fP P T G all l (λaU=>K (aU.put (some d) r)) σ:=Xw λo' og=>h o' (by simp[og]);unfold fP;rw[hE,hE,oc (by rintro _ ⟨⟩;exact au.1)];cases hw:jS all σ o with
  |none=>rfl
  |some w=>
   cases w with
   |true=>simp only;rw[jD (all:=all) (by rintro _ ⟨⟩;exact au.1) (by rintro _ ⟨⟩;exact au.2)];simp only[ih]
   |false=>simp only;rw[<-ih,put_comm (by rintro _ ⟨⟩;exact au.2)]
def aiz{d:Tmp}{a:aS}{l:List Oper}{σ:aG}{K:aG->Prop}(ff:∀σ τ,oj σ τ->K τ->K σ)(aq:∀o∈l,d∉o.looksAt all/\o.dst≠some d)(h:fP P T G all l K (σ.put (some d) .any)):fP P T G all l K (σ.put (some d) a):=by
 rw[Xw aq]at h⊢;refine mP (λaU bz=>ff _ _ ?_ bz) h;refine⟨rfl,λt=>?_⟩;by_cases aM:t=d;.subst aM;exact .inl (by simp[aG.put])
 exact .inr (by simp[aG.put,cX _ _ aM])
def PU{l:List Oper}{K:aG->Prop}(ff:∀σ τ,oj σ τ->K τ->K σ):∀(aO:List Tmp){σ τ:aG},(∀d∈aO,∀o∈l,d∉o.looksAt all/\o.dst≠some d)->(∀t,t∉aO->σ.aJ t=τ.aJ t)->(∀d∈aO,τ.aJ d= .any\/σ.aJ d=τ.aJ d)->σ.objs=τ.objs->fP P T G all l K τ->fP P T G all l K σ
 |[],σ,τ,_,ab,af,aw,h=>by
  have:σ=τ:=by
   cases σ;cases τ;simp only at ab aw;subst aw
   congr 1
   funext t
   exact ab t (by simp)
  rw[this];exact h
 |d::aO,σ,τ,aj,ab,af,aw,h=>by
  by_cases aA:τ.aJ d= .any
  .have e:τ=τ.put (some d) .any:=by
    cases τ;simp only[aG.put]
    congr 1
    funext t
    by_cases aM:t=d;.subst aM;simp only[e1];exact aA
    rw[cX _ _ aM]
   rw[e]at h;have bz:=aiz (a:=σ.aJ d) ff (λo aF=>aj d (by simp) o aF) h;refine PU (τ:=τ.put (some d) (σ.aJ d)) ff aO (λp2 iz=>aj p2 (by simp[iz])) ?_ ?_ aw bz
   .intro t aM;by_cases ug:t=d;.subst ug;simp[aG.put]
    simp only[aG.put,cX _ _ ug];exact ab t (by simp[ug,aM])
   intro p2 iz;by_cases ug:p2=d;.subst ug;simp[aG.put]
   simp only[aG.put,cX _ _ ug];exact af p2 (by simp[iz])
  refine PU ff aO (λp2 iz=>aj p2 (by simp[iz])) ?_ (λp2 iz=>af p2 (by simp[iz])) aw h;intro t aM;by_cases ug:t=d
  .subst ug;rcases af t (by simp)with a4|a4
   .exact absurd a4 aA
   exact a4
  exact ab t (by simp[ug,aM])
def Xx(cf:hj P G C):∀{os:List Oper}{σ:aG}{k:aG->Option β}{b:β},(∀o∈os,o.guard=none)->sw T G C os σ k=some b->fP P T G all os (λaU=>k aU=some b) σ
 |[],σ,k,b,_,h=>h|o::os,σ,k,b,cc,h=>by unfold fP ep;rw[cc o (by simp)];exact pZ (λaU bz=>Xx cf (λo aF=>cc o (by simp[aF])) bz) (Xt cf h)
def Xy(cf:hj P G C){j:Nat}{want:Bool}{d:Tmp}(aA:(all[j]?).bind (·.dst)=some d):∀{os:List Oper}{σ:aG}{k:aG->Option β}{b:β},(∀o∈os,o.guard=some (j,want))->(∀o∈os,still o=true/\o.dst≠some d)->σ.aJ d= .d (.val (.bool want))->sw T G C os σ k=some b->fP P T G all os (λaU=>k aU=some b/\aU.objs=σ.objs/\∀t,t∉dstsOf os->aU.aJ t=σ.aJ t) σ
 |[],σ,k,b,_,_,_,h=>⟨h,rfl,λ_ _=>rfl⟩
 |o::os,σ,k,b,cc,aH,hw,h=>by
  have au:=aH o (by simp);unfold fP ep;rw[cc o (by simp)];simp only[aA,hw,xaD];refine pZ ?_ (Xu cf au.1 h);rintro aU ⟨ab,af,aw⟩;refine mP ?_ (Xy cf aA (λo aF=>cc o (by simp[aF])) (λo aF=>aH o (by simp[aF])) (by rw[aw d au.2];exact hw) ab);rintro qR ⟨aV,a2,bc⟩;refine⟨aV,a2.trans af,?_⟩;intro t aM;have pc:t∉dstsOf os:=λan=>aM (by unfold dstsOf at an⊢;simp only[xbK];cases o.dst<;>simp[an])
  have x2:o.dst≠some t:=λan=>aM (by unfold dstsOf;simp[an]);rw[bc t pc,aw t x2]
def Ew{j:Nat}{want:Bool}{d:Tmp}(aA:(all[j]?).bind (·.dst)=some d):∀{os:List Oper}{σ:aG},(∀o∈os,o.guard=some (j,want))->(∀o∈os,o.dst≠some d)->(σ.aJ d= .d (.val (.bool (!want)))\/∃vs,σ.aJ d= .d (.val (.tuple vs)))->fP P T G all os (λaU=>aU.objs=σ.objs/\(∀t,t∉dstsOf os->aU.aJ t=σ.aJ t)/\∀ca,v5 os=some ca->aU.aJ ca= .d lk) σ
 |[],σ,_,_,_=>⟨rfl,λ_ _=>rfl,by intro ca h;cases h⟩
 |o::os,σ,cc,aH,hw=>by
  have au:=aH o (by simp);unfold fP;have key:fP P T G all os (λaU=>aU.objs=σ.objs/\(∀t,t∉dstsOf (o::os)->aU.aJ t=σ.aJ t)/\∀ca,v5 (o::os)=some ca->aU.aJ ca= .d lk) (σ.put o.dst (.d (.val (.tuple #[])))):=by
   have Ex:(σ.put o.dst (.d (.val (.tuple #[])))).aJ d= .d (.val (.bool (!want)))\/∃vs,(σ.put o.dst (.d (.val (.tuple #[])))).aJ d= .d (.val (.tuple vs)):=by rw[qX au];exact hw
   refine mP ?_ (Ew aA (λo aF=>cc o (by simp[aF])) (λo aF=>aH o (by simp[aF])) Ex);rintro aU ⟨ab,af,aw⟩;refine⟨ab.trans (by simp),?_,?_⟩
   .intro t aM;have pc:t∉dstsOf os:=λan=>aM (by
     unfold dstsOf at an⊢;simp only[xbK];cases o.dst<;>simp[an])
    have x2:o.dst≠some t:=λan=>aM (by unfold dstsOf;simp[an]);rw[af t pc,qX x2]
   intro ca aq;cases os with|nil=>simp only[v5]at aq;rw[af ca (by simp[dstsOf]),aq];simp[aG.put,lk]|cons q ay5=>exact aw ca aq
  unfold ep;rw[cc o (by simp)];simp only[aA];rcases hw with hw|⟨vs,hw⟩
  .simp only[hw];rw[xab (by cases want<;>simp)];exact key
  simp only[hw];exact key
def PV{j:Nat}{want:Bool}{d:Tmp}(aA:(all[j]?).bind (·.dst)=some d):∀{os:List Oper}{σ:aG},(∀o∈os,o.guard=some (j,want))->(∀o∈os,o.dst≠some d)->(σ.aJ d= .d (.val (.bool (!want)))\/∃vs,σ.aJ d= .d (.val (.tuple vs)))->fP P T G all os (λaU=>aU.objs=σ.objs/\(∀t,t∉dstsOf os->aU.aJ t=σ.aJ t)/\∀t∈dstsOf os,aU.aJ t= .d lk) σ
 |[],σ,_,_,_=>⟨rfl,λ_ _=>rfl,by intro t h;cases h⟩
 |o::os,σ,cc,aH,hw=>by
  have au:=aH o (by simp);unfold fP;have key:fP P T G all os (λaU=>aU.objs=σ.objs/\(∀t,t∉dstsOf (o::os)->aU.aJ t=σ.aJ t)/\∀t∈dstsOf (o::os),aU.aJ t= .d lk) (σ.put o.dst (.d (.val (.tuple #[])))):=by
   have Ex:(σ.put o.dst (.d (.val (.tuple #[])))).aJ d= .d (.val (.bool (!want)))\/∃vs,(σ.put o.dst (.d (.val (.tuple #[])))).aJ d= .d (.val (.tuple vs)):=by rw[qX au];exact hw
   refine mP ?_ (PV aA (λo aF=>cc o (by simp[aF])) (λo aF=>aH o (by simp[aF])) Ex);rintro aU ⟨ab,af,aw⟩;refine⟨ab.trans (by simp),?_,?_⟩
   .intro t aM;have pc:t∉dstsOf os:=λan=>aM (by
     unfold dstsOf at an⊢;simp only[xbK];cases o.dst<;>simp[an])
    have x2:o.dst≠some t:=λan=>aM (by unfold dstsOf;simp[an]);rw[af t pc,qX x2]
   intro t aM;by_cases pc:t∈dstsOf os;.exact aw t pc
   have kU:o.dst=some t:=by
    unfold dstsOf at aM pc;simp only[xbK]at aM;cases aF:o.dst with
    |none=>rw[aF]at aM;exact absurd aM pc
    |some u=>
     rw[aF]at aM;rcases xak.1 aM with rfl|h
     .rfl
     exact absurd h pc
   rw[af t pc,kU];simp[aG.put,lk]
  unfold ep;rw[cc o (by simp)];simp only[aA];rcases hw with hw|⟨vs,hw⟩
  .simp only[hw];rw[xab (by cases want<;>simp)];exact key
  simp only[hw];exact key
def aiA(cf:hj P G C){o:Oper}{k:aG->Option β}{b:β}(h:su T G C σ o k=some b):da P T G o (λaU=>k aU=some b/\∀t,o.dst≠some t->aU.aJ t=σ.aJ t) σ:=by
 unfold su at h;split at h;.exact pZ (λ_ h=>⟨h.1,h.2.2⟩) (Ko cf (by assumption) h)
 obtain⟨aU,ab,af⟩:=A4 h;unfold da;rw[ab];refine⟨af,λt aM=>?_⟩;unfold gV at ab;split at ab;.cases ab;exact qX aM
 split at ab;.cases ab;exact qX aM
 split at ab;.cases ab;exact qX aM
 cases ab
def Xz(cf:hj P G C){j:Nat}{want:Bool}{d:Tmp}(aA:(all[j]?).bind (·.dst)=some d):∀{os:List Oper}{σ:aG}{k:aG->Option β}{b:β},(∀o∈os,o.guard=some (j,want))->(∀o∈os,o.dst≠some d)->σ.aJ d= .d (.val (.bool want))->sw T G C os σ k=some b->fP P T G all os (λaU=>k aU=some b) σ
 |[],σ,k,b,_,_,_,h=>h|o::os,σ,k,b,cc,aH,hw,h=>by unfold fP ep;rw[cc o (by simp)];simp only[aA,hw,xaD];refine pZ ?_ (aiA cf h);rintro aU ⟨ab,aw⟩;exact Xz cf aA (λo aF=>cc o (by simp[aF])) (λo aF=>aH o (by simp[aF])) (by rw[aw d (aH o (by simp))];exact hw) ab
def PW{j:Nat}{want:Bool}{d:Tmp}(aA:(all[j]?).bind (·.dst)=some d){K:aG->Prop}:∀{os:List Oper}{σ:aG},(∀o∈os,o.guard=some (j,want))->(∀o∈os,o.dst≠some d)->(σ.aJ d= .d (.val (.bool (!want)))\/∃vs,σ.aJ d= .d (.val (.tuple vs)))->K (PQ os σ)->fP P T G all os K σ
 |[],σ,_,_,_,h=>h
 |o::os,σ,cc,aH,hw,h=>by
  have au:=aH o (by simp);have Ex:(σ.put o.dst (.d (.val (.tuple #[])))).aJ d= .d (.val (.bool (!want)))\/∃vs,(σ.put o.dst (.d (.val (.tuple #[])))).aJ d= .d (.val (.tuple vs)):=by rw[qX au];exact hw
  have key:fP P T G all os K (σ.put o.dst (.d (.val (.tuple #[])))):=PW aA (λo aF=>cc o (by simp[aF])) (λo aF=>aH o (by simp[aF])) Ex h;unfold fP ep;rw[cc o (by simp)];simp only[aA];rcases hw with hw|⟨vs,hw⟩
  .simp only[hw];rw[xab (by cases want<;>simp)];exact key
  simp only[hw];exact key
def XA:∀{os:List Oper}{ca:Tmp},v5 os=some ca->ca∈dstsOf os
 |[],ca,h=>by cases h
 |[o],ca,h=>by simp only[v5]at h;simp[dstsOf,h]|o::q::r,ca,h=>by have:=XA (os:=q::r) h;unfold dstsOf at this⊢;rw[xbK];cases o.dst<;>simp[this]
def A7(cf:hj P G C){K:aG->Prop}(ff:∀σ τ,oj σ τ->K τ->K σ):∀{gs:List (Option (Nat×Bool)×List Oper)} {σ:aG} {k:aG->Option β} {b:β},(∀g∈gs,∀o∈g.2,o.guard=g.1)->(∀aU,k aU=some b->K aU)->x0 T G C all gs σ k=some b->fP P T G all (flat gs) K σ
 |[],σ,k,b,_,ak,h=>ak _ h|(none,os)::r,σ,k,b,cc,ak,h=>by show fP P T G all (os++flat r) K σ;refine PT (mP ?_ (Xx cf (λo aF=>cc (none,os) (by simp) o aF) h));intro aU bz;exact A7 cf ff (λg hm=>cc g (by simp[hm])) ak bz
 |(some (j,want),os)::r,σ,k,b,cc,ak,h=>by
  show fP P T G all (os++flat r) K σ;unfold x0 at h;split at h
  case h_2=>cases h
  rename_i d ca aA x3;split at h
  case h_2=>cases h
  rename_i x ag;split at h
  case isFalse=>
   split at h
   case isFalse=>cases h
   rename_i ln;simp only[xay,bne_iff_ne,ne_eq]at ln;have iX:∀o∈os,o.guard=some (j,want):=λo aF=>cc (some (j,want),os) (by simp) o aF;unfold v3 at h;refine PT ?_;split at h
   .rename_i nw;split at h;.rename_i aj;subst aj;exact mP (λaU bz=>A7 cf ff (λg hm=>cc g (by simp[hm])) ak bz) (Xz cf aA iX ln ag h)
    rename_i aj;exact PW aA iX ln (.inl (by rw[ag];cases nw<;>cases want<;>simp_all)) (A7 cf ff (λg hm=>cc g (by simp[hm])) ak h)
   .exact PW aA iX ln (.inr ⟨_,ag⟩) (A7 cf ff (λg hm=>cc g (by simp[hm])) ak h)
   cases h
  rename_i bn;simp only[Xm,xam,xay,bne_iff_ne,ne_eq,blind,xbx,xbZ,List.contains_eq_mem,decide_eq_false_iff_not]at bn;obtain⟨PX,aiB⟩:=bn;obtain⟨v,ab,af⟩:=fp h;have iX:∀o∈os,o.guard=some (j,want):=λo aF=>cc (some (j,want),os) (by simp) o aF;have rest:=A7 cf ff (λg hm=>cc g (by simp[hm])) ak af;have fin:∀aU:aG,aU.objs=σ.objs->(∀t,t∉dstsOf os->aU.aJ t=σ.aJ t)->aU.aJ ca= .d v->fP P T G all (flat r) K aU:=by
   intro aU aK aY bN;refine PU ff ((dstsOf os).filter (·!=ca)) ?_ ?_ ?_ ?_ rest;.intro p2 iz o aF;have Ey:=xbx.1 iz;exact aiB o aF p2 ⟨Ey.1,by simpa using Ey.2⟩
   .intro t aM;simp only[xbx,bne_iff_ne,ne_eq,not_and,Decidable.not_not]at aM;by_cases om:t=ca;.subst om;simp[aG.put,bN]
    have ij:t∉dstsOf os:=λan=>om (aM an);simp only[aG.put,cX _ _ om,lL,ij,xaG];exact aY t ij
   .intro p2 iz;have Ey:=xbx.1 iz;have cP:p2≠ca:=by simpa using Ey.2
    refine .inl ?_;simp only[aG.put,cX _ _ cP,lL,Ey.1,xaD]
   simp[aG.put,lL,aK]
  unfold bL at ab;refine PT ?_;split at ab
  .rename_i nw;split at ab
   .rename_i aj;subst aj;refine mP ?_ (Xy cf aA iX PX ag ab);rintro aU ⟨aV,a2,bc⟩;refine fin aU a2 bc ?_;split at aV;.rename_i u hu;cases aV;exact hu
    cases aV
   rename_i aj;cases ab;refine mP ?_ (Ew aA iX (λo aF=>(PX o aF).2) (.inl (by rw[ag];cases nw<;>cases want<;>simp_all)));rintro aU ⟨aV,a2,bc⟩;exact fin aU aV a2 (bc ca x3)
  .rename_i vs;cases ab;refine mP ?_ (Ew aA iX (λo aF=>(PX o aF).2) (.inr ⟨_,ag⟩));rintro aU ⟨aV,a2,bc⟩;exact fin aU aV a2 (bc ca x3)
  cases ab
def aiC{i:Nat}{fo:Oper}{listed:Array Bool}(ah:all[i]?=some fo)(h:PR all listed i=true):(∀j c8,j∈waits all i->all[j]?=some c8->∃e∈c8.after,Region.binds .any e=true/\(e.on=i\/e.on∈waits all i))/\(∀j,j∈waits all i->listed.getD j true=false)/\ ∀j c8,all[j]?=some c8->j≠i->listed.getD j true=false->j∉waits all i->fo.apart all c8=true/\∀t a x,c8.op≠ .store t a x:=by
 simp only[PR,ah,xam,xay,xbT]at h;refine⟨λj c8 aN jh=>?_,λj aN=>by simpa using(h.1 j aN).1,λj c8 jh cP oe ij=>?_⟩;.have ab:=(h.1 j aN).2;simp only[jh]at ab;obtain⟨e,he,aj⟩:=Array.any_eq_true'.1 ab;simp only[xam,xbc,xbH,List.contains_iff_mem]at aj;exact⟨e,he,aj.1,aj.2⟩
 have ab:=h.2 j (xaS.1 jh).1;simp only[jh,xbc,xbH,cP,false_or,oe,xat,xam,List.contains_iff_mem,ij]at ab;refine⟨ab.1,?_⟩;intro t a x he;rw[he]at ab;simp[Xo]at ab
def aiD{i:Nat}{fo:Oper}{listed:Array Bool}{aJ:Nat->aS}(h:PS all listed i aJ fo=true):(∀j c8,j∈waits all i->all[j]?=some c8->∃e∈c8.after,Region.binds .any e=true/\(e.on=i\/e.on∈waits all i))/\(∀j,j∈waits all i->listed.getD j true=false)/\ ∀j c8,all[j]?=some c8->j≠i->listed.getD j true=false->j∉waits all i->fo.apart all c8=true/\sq aJ fo c8=true/\(∀t∈mL fo.op++(x1 all listed i).flatMap (λy=>ue y.op),c8.dst≠some t)/\∀t∈ue c8.op,t∈mL fo.op++(x1 all listed i).flatMap (λy=>ue y.op):=by
 simp only[PS,xam,xay]at h;refine⟨λj c8 aN jh=>?_,λj aN=>by simpa using(h.1 j aN).1,λj c8 jh cP oe ij=>?_⟩;.have ab:=(h.1 j aN).2;simp only[jh]at ab;obtain⟨e,he,aj⟩:=Array.any_eq_true'.1 ab;simp only[xam,xbc,xbH,List.contains_iff_mem]at aj;exact⟨e,he,aj.1,aj.2⟩
 have hm:c8∈x1 all listed i:=by
  unfold x1;rw[List.mem_filterMap];refine⟨j,by simpa using(xaS.1 jh).1,?_⟩;have:(j==i||listed.getD j true||(waits all i).contains j)=false:=by simp only[Bool.or_eq_false_iff,beq_eq_false_iff_ne,ne_eq];exact⟨⟨cP,oe⟩,by simpa using ij⟩
  rw[this];simpa using jh
 obtain⟨ab,af⟩:=h.2 c8 hm;refine⟨ab.1,ab.2,λt aM=>by simpa using af t aM,λt aM=>List.mem_append_right _ (List.mem_flatMap.2 ⟨c8,hm,aM⟩)⟩
def PY(cf:hj P G C){k:aG->Option β}{b:β}:∀(ord:List Nat)(listed:Array Bool)(σ:aG),A6 T G C all ord listed σ k=some b->jg P T G all (λaU=>k aU=some b) ord.length listed σ
 |[],listed,σ,h=>by
  unfold A6 at h;split at h;.rename_i av;exact⟨List.isEmpty_iff.1 av,h⟩
  cases h
 |i::r,listed,σ,h=>by
  unfold A6 at h;split at h
  case h_2=>cases h
  rename_i o ah;split at h
  case isFalse=>cases h
  rename_i an;obtain⟨cc,av,bd⟩:=an;have H:hR P T G all i (jg P T G all (λaU=>k aU=some b) r.length (listed.setIfInBounds i true)) σ:=by unfold hR;simp only[ah];unfold ep;simp only[cc];exact pZ (λaU bz=>PY cf r _ aU bz) (Xt cf h)
  rcases xbB.1 bd with bd|bd
  case inr=>obtain⟨bC,bD,cy⟩:=Pf ah bd;exact Pe ah bC r.length listed σ bD cy (by simpa using av) (.inr trivial) H
  rcases xbB.1 bd with bd|bd
  case inr=>obtain⟨bC,bD,cy⟩:=aiD bd;exact ah1 ah cc bC (s0:=σ.aJ) (L:=mL o.op++(x1 all listed i).flatMap (λy=>ue y.op)) (λt aM=>xbO _ aM) r.length listed σ (λ_ _=>rfl) bD cy (by simpa using av) H
  rcases xbB.1 bd with bd|bd;.obtain⟨bC,bD,cy⟩:=agX ah bd;exact agV ah bC r.length listed σ bD cy (by simpa using av) (.inr trivial) H
  unfold Xp at bd;split at bd
  case h_2=>cases bd
  rename_i t a aF;split at bd
  case h_2=>cases bd
  rename_i cR off aH;obtain⟨bC,bD,cy⟩:=aiC ah bd;exact ahF ah aF cc bC r.length listed σ aH bD cy (by simpa using av) H
def aiE(cf:hj P G C){K:aG->Prop}(ff:∀σ τ,oj σ τ->K τ->K σ){k:aG->Option β}{b:β}(ak:∀aU,k aU=some b->K aU)(h:Xn T G C all σ k=some b):fP P T G all all.toList K σ:=by
 have:=A7 (P:=P) cf ff (λg hm o aF=>Kn _ _ _ hm o aF) ak h
 rwa [v8]at this
end
inductive p3 where
 |any
 |d
 |Ez (f:FuncId)
 |fd (f:FuncId) (m:Nat)
 |eo (off:Nat)
 |ptr (k:Key) (off:Nat)
 |row (k:Key)
 |map (k:Key)
 |sub (k:Key) (cR:Nat)
inductive lp where
 |b (s:p3)
 |fn (f:Fn) (first cap:List p3)
 |agg (cs:List p3)
 |a1 (cs:List p3)
inductive lM where
 |dead
 |box (cs:List lp)
 |row (k:Nat)
 |map
inductive v9 where
 |slot (t K n:Nat)
 |box (k i K n:Nat)
 |all (t cR:Nat)
structure qY where
 aJ:List (Nat×lp)
 objs:List (Key×lM)
 pd:List v9
def I(ls:List D)(n:Nat):D:=ls.getD n lk
def PZ:D->Nat
 | .val (.int _ n)=>n.toNat|_=>0
def wa(ls:List D):p3->Nat->aS×Nat
 | .any,n=>(.any,n)| .d,n=>(.d (I ls n),n+1)| .Ez f,n=>(.d (.val (.func (.func f) #[] #[])),n)| .fd f m,n=>(.d (.fn (.func f) [] ((List.range m).map λi=>I ls (n+i))),n+m)| .eo off,n=>(.eo (Kd (I ls n)) off,n+1)| .ptr k off,n=>(.ptr k off,n)| .row k,n=>(.row k,n)| .map k,n=>(.map k,n)| .sub k cR,n=>(.sub k cR (PZ (I ls n)) (PZ (I ls (n+1))),n+2)
def oo(ls:List D):List p3->Nat->List aS×Nat
 |[],n=>([],n)|s::r,n=>((wa ls s n).1::(oo ls r (wa ls s n).2).1,(oo ls r (wa ls s n).2).2)
def pe(ls:List D):lp->Nat->aS×Nat
 | .b s,n=>wa ls s n| .fn f first cap,n=>(.fn f (oo ls first n).1 (oo ls cap (oo ls first n).2).1,(oo ls cap (oo ls first n).2).2)
 | .agg cs,n=>(.agg (oo ls cs n).1,(oo ls cs n).2)| .a1 cs,n=>(.a1 (oo ls cs n).1,(oo ls cs n).2)
def qZ(ls:List D):List lp->Nat->List aS×Nat
 |[],n=>([],n)|s::r,n=>((pe ls s n).1::(qZ ls r (pe ls s n).2).1,(qZ ls r (pe ls s n).2).2)
def x4(ls:List D):lM->Nat->cS×Nat
 | .dead,n=>(.dead,n)| .box cs,n=>(.box (qZ ls cs n).1,(qZ ls cs n).2)| .row k,n=>(.row k (ar (I ls n)),n+1)| .map,n=>(.map (ed (I ls n)),n+1)
def wb(ls:List D):List (Nat×lp)->Nat->List (Nat×aS)×Nat
 |[],n=>([],n)|(t,s)::r,n=>((t,(pe ls s n).1)::(wb ls r (pe ls s n).2).1,(wb ls r (pe ls s n).2).2)
def oq(ls:List D):List (Key×lM)->Nat->List (Key×cS)×Nat
 |[],n=>([],n)|(t,s)::r,n=>((t,(x4 ls s n).1)::(oq ls r (x4 ls s n).2).1,(oq ls r (x4 ls s n).2).2)
def restore(gd:qY)(ls:List D):aG:=WG (wb ls gd.aJ 0).1 (oq ls gd.objs (wb ls gd.aJ 0).2).1
def XB:aS->p3->List (Key×Key)
 | .ptr k _,.ptr bs _=>[(bs,k)]| .row k,.row bs=>[(bs,k)]| .map k,.map bs=>[(bs,k)]| .sub k _ _ _,.sub bs _=>[(bs,k)]|_,_=>[]
def EA:List aS->List p3->List (Key×Key)
 |x::xs,s::eP=>XB x s++EA xs eP|_,_=>[]
def XC:aS->lp->List (Key×Key)
 |x,.b s=>XB x s| .fn _ as j7,.fn _ eP ts=>EA as eP++EA j7 ts| .agg cs,.agg eP=>EA cs eP| .a1 cs,.a1 eP=>EA cs eP|_,_=>[]
def Kp:List aS->List lp->List (Key×Key)
 |x::xs,s::eP=>XC x s++Kp xs eP|_,_=>[]
def XD(σ:aG):List (Nat×lp)->List (Key×Key)
 |[]=>[]|(t,s)::r=>XC (σ.aJ t) s++XD σ r
def A8(σ:aG):List (Key×lM)->List (Key×Key)->List (Key×Key)
 |[],ck=>ck|(k,.box eP)::r,ck=>match σ.objs (gb ck k)with|some (.box xs)=>A8 σ r (ck++Kp xs eP)|_=>A8 σ r ck
 |_::r,ck=>A8 σ r ck
def Kq(ck:List (Key×Key))(ks:List Key):aS->p3->Option (List D)
 |_,.any=>some []|x,.d=>(J2 x).map λa=>[a]| .d (.val (.func (.func f) a b)),.Ez kr=>if f=kr/\a.size=0/\b.size=0 then some []else none
 | .d (.fn (.func kr) first oi),.fd f m=>if kr=f/\first.isEmpty=true/\oi.length=m then some oi else none
 | .eo cs off,.eo P0=>if off=P0 then some [.agg cs]else none
 | .ptr k off,.ptr bs P0=>if k=gb ck bs/\off=P0/\ks.contains bs then some []else none
 | .row k,.row bs=>if k=gb ck bs/\ks.contains bs then some []else none
 | .map k,.map bs=>if k=gb ck bs/\ks.contains bs then some []else none
 | .sub k cR i len,.sub bs aiF=>if k=gb ck bs/\cR=aiF/\ks.contains bs then some [.val (.int .i64 (i:Nat)),.val (.int .i64 (len:Nat))]else none
 |_,_=>none
def uh(x y:Option (List D)):Option (List D):=match x,y with|some a,some b=>some (a++b)|_,_=>none
def A9(ck:List (Key×Key))(ks:List Key):List aS->List p3->Option (List D)
 |[],[]=>some []|x::xs,s::eP=>uh (Kq ck ks x s) (A9 ck ks xs eP)|_,_=>none
def Kr(ck:List (Key×Key))(ks:List Key):aS->lp->Option (List D)
 |x,.b s=>Kq ck ks x s| .fn (.func f) as j7,.fn (.func kr) eP ts=>if f=kr then uh (A9 ck ks as eP) (A9 ck ks j7 ts)else none
 | .agg cs,.agg eP=>A9 ck ks cs eP| .a1 cs,.a1 eP=>A9 ck ks cs eP|_,_=>none
def Ks(ck:List (Key×Key))(ks:List Key):List aS->List lp->Option (List D)
 |[],[]=>some []|x::xs,s::eP=>uh (Kr ck ks x s) (Ks ck ks xs eP)|_,_=>none
def P1(ck:List (Key×Key))(ks:List Key):Option cS->lM->Option (List D)
 |some _,.dead=>some []|some (.box xs),.box eP=>Ks ck ks xs eP|some (.row k es),.row bs=>if k=bs then some [.ax k es]else none
 |some (.map es),.map=>some [.mp es]|_,_=>none
def P2(ck:List (Key×Key))(ks:List Key)(σ:aG):List (Nat×lp)->Option (List D)
 |[]=>some []|(t,s)::r=>uh (Kr ck ks (σ.aJ t) s) (P2 ck ks σ r)
def Kt(ck:List (Key×Key))(ks:List Key)(σ:aG):List (Key×lM)->Option (List D)
 |[]=>some []|(k,s)::r=>uh (P1 ck ks (σ.objs (gb ck k)) s) (Kt ck ks σ r)
section
variable{β:Type}
def ot:List v9->aG->(aG->Option β)->Option β
 |[],σ,k=>k σ
 | .slot t K n::r,σ,k=>match σ.aJ t,σ.objs K with
  | .d a,none=>if K<10000 then aD (nG a) (ot r ⟨ct σ.aJ t (.row K),ct σ.objs K (some (.row n []))⟩ k)else none
  |_,_=>ot r σ k
 | .box cR i K n::r,σ,k=>match σ.objs cR with
  |some (.box xs)=>match xs[i]?,σ.objs K with
   |some (.d a),none=>if K<10000 then aD (nG a) (ot r ⟨σ.aJ,ct (ct σ.objs cR (some (.box (xs.set i (.row K))))) K (some (.row n []))⟩ k)else none
   |_,_=>ot r σ k
  |_=>ot r σ k
 | .all t cR::r,σ,k=>match σ.aJ t with
  | .row K=>match σ.objs K with
   |some (.row n es)=>if n=cR then ot r ⟨ct σ.aJ t (.sub K n 0 es.length),σ.objs⟩ k else none
   |_=>ot r σ k
  |_=>ot r σ k
def Ba:lM->Bool
 | .box _=>true| .row _=>true| .map=>true|_=>false
def XE(ib:List Key)(ck:List (Key×Key))(objs:List (Key×lM)):Bool:=objs.all (λp=>decide (p.1<10000)||ib.contains p.1)&&ib.all (λk=>gb ck k==k&&objs.any λp=>p.1==k&&Ba p.2)&&decide ((objs.map (·.1)).Nodup)
def sx(ib:List Key)(gd:qY)(σ:aG)(k:List D->Option β):Option β:=ot gd.pd σ λσ=>
  let ck:=A8 σ gd.objs (XD σ gd.aJ)
  if xU (gb ck) (gd.objs.map (·.1))&&XE ib ck gd.objs=true then
   match uh (P2 ck (gd.objs.map (·.1)) σ gd.aJ) (Kt ck (gd.objs.map (·.1)) σ gd.objs)with|some ls=>k ls|none=>none
  else none
end
def x5{x y:Option (List D)}{l:List D}(h:uh x y=some l):∃a b,x=some a/\y=some b/\l=a++b:=by
 unfold uh at h;split at h;.cases h;exact⟨_,_,rfl,rfl,rfl⟩
 cases h
def lN(ls:List D)(n:Nat)(a:List D):Prop:=∀j d,a[j]?=some d->ls[n+j]?=some d
def lN.left{ls:List D}{n:Nat}{a b:List D}(h:lN ls n (a++b)):lN ls n a:=λj d aN=>h j d (by rw[xaK (xae.1 aN).1];exact aN)
def lN.right{ls:List D}{n:Nat}{a b:List D}(h:lN ls n (a++b)):lN ls (n+a.length) b:=λj d aN=>by
 have:=h (a.length+j) d (by rw[xaI (by omega)];simpa using aN)
 rwa [<-xbe]at this
def lN.I{ls:List D}{n:Nat}{a:D}(h:lN ls n [a]):I ls n=a:=by have:=h 0 a rfl;simp only[xbj]at this;simp[Am.I,xaQ,this]
section
variable{ck:List (Key×Key)}{ks:List Key}{ls:List D}{U:Key->Prop}
def XF(gI:∀k,ks.contains k=true->U k){x:aS}{s:p3}{n:Nat}{a:List D}(h:Kq ck ks x s=some a)(gY:lN ls n a):o7 (gb ck) U x (wa ls s n).1/\(wa ls s n).2=n+a.length:=by
 unfold Kq at h;split at h;.cases h;exact⟨trivial,rfl⟩
 .obtain⟨d,aA,rfl⟩:=xah.1 h;refine⟨⟨_,aA,?_⟩,rfl⟩;rw[gY.I];exact D.le_refl _
 .split at h;.rename_i bd;obtain⟨rfl,aI,aj⟩:=bd;cases h;rw[xbf aI,xbf aj];exact⟨⟨_,rfl,D.le_refl _⟩,rfl⟩
  cases h
 .split at h
  .rename_i bd;obtain⟨rfl,ab,rfl⟩:=bd;cases h;refine⟨⟨_,rfl,?_⟩,rfl⟩;rw[List.isEmpty_iff.1 ab];have e:((List.range a.length).map λi=>I ls (n+i))=a:=by
    apply xbY;intro i;rw[xaj];by_cases ah:i<a.length;.rw[xbP ah,xaa ah];have:=gY i a[i] (xaa ah);simp[Am.I,xaQ,this]
    rw[xbl (by simp;omega),xbl (by omega)];rfl
   skip
   rw[e];exact D.le_refl _
  cases h
 .split at h;.rename_i bd;cases h;subst bd;refine⟨.inl ?_,rfl⟩;rw[gY.I];rfl
  cases h
 .split at h;.rename_i bd;cases h;exact⟨⟨by rw[bd.1,bd.2.1],gI _ bd.2.2⟩,rfl⟩
  cases h
 .split at h;.rename_i bd;cases h;exact⟨⟨by rw[bd.1],gI _ bd.2⟩,rfl⟩
  cases h
 .split at h;.rename_i bd;cases h;exact⟨⟨by rw[bd.1],gI _ bd.2⟩,rfl⟩
  cases h
 .split at h;.rename_i bd;cases h;obtain⟨ab,af,aw⟩:=bd;have aK:=gY.left (a:=[_]) (b:=[_]);have aY:lN ls (n+1) [D.val (.int .i64 ((_:Nat):Int))]:=lN.right (a:=[_]) (b:=[_]) gY;simp only[wa];rw[aK.I,aY.I];exact⟨⟨by rw[ab,af];simp[PZ],gI _ aw⟩,rfl⟩
  cases h
 cases h
def EB(gI:∀k,ks.contains k=true->U k):∀{xs:List aS}{eP:List p3}{n:Nat}{a:List D},A9 ck ks xs eP=some a->lN ls n a->jF (gb ck) U xs (oo ls eP n).1/\(oo ls eP n).2=n+a.length
 |[],[],n,a,h,gY=>by cases h;exact⟨trivial,rfl⟩
 |x::xs,s::eP,n,a,h,gY=>by obtain⟨ao,ba,ab,af,rfl⟩:=x5 h;obtain⟨aV,a2⟩:=XF gI ab gY.left;have av:=gY.right;rw[<-a2]at av;obtain⟨bc,cV⟩:=EB gI af av;refine⟨⟨aV,bc⟩,?_⟩;show(oo ls eP (wa ls s n).2).2=_;rw[cV,a2,xaL];omega
 |[],_::_,n,a,h,_=>by cases h
 |_::_,[],n,a,h,_=>by cases h
def aiG{x y:aS}(h:o7 (gb ck) U x y):tZ (gb ck) U x y:=by cases y<;>first|exact h|exact h.elim
def XG(gI:∀k,ks.contains k=true->U k){x:aS}{s:lp}{n:Nat}{a:List D}(h:Kr ck ks x s=some a)(gY:lN ls n a):tZ (gb ck) U x (pe ls s n).1/\(pe ls s n).2=n+a.length:=by
 unfold Kr at h;split at h;.obtain⟨aV,a2⟩:=XF gI h gY;exact⟨aiG aV,a2⟩
 .split at h;.rename_i bd;subst bd;obtain⟨ao,ba,ab,af,rfl⟩:=x5 h;obtain⟨aV,a2⟩:=EB gI ab gY.left;have av:=gY.right;rw[<-a2]at av;obtain⟨bc,cV⟩:=EB gI af av;refine⟨⟨rfl,aV,bc⟩,?_⟩;simp only[pe];rw[cV,a2,xaL];omega
  cases h
 .obtain⟨aV,a2⟩:=EB gI h gY;exact⟨aV,a2⟩
 .obtain⟨aV,a2⟩:=EB gI h gY;exact⟨aV,a2⟩
 cases h
def P3(gI:∀k,ks.contains k=true->U k):∀{xs:List aS}{eP:List lp}{n:Nat}{a:List D},Ks ck ks xs eP=some a->lN ls n a->sn (gb ck) U xs (qZ ls eP n).1/\(qZ ls eP n).2=n+a.length
 |[],[],n,a,h,gY=>by cases h;exact⟨trivial,rfl⟩
 |x::xs,s::eP,n,a,h,gY=>by obtain⟨ao,ba,ab,af,rfl⟩:=x5 h;obtain⟨aV,a2⟩:=XG gI ab gY.left;have av:=gY.right;rw[<-a2]at av;obtain⟨bc,cV⟩:=P3 gI af av;refine⟨⟨aV,bc⟩,?_⟩;show(qZ ls eP (pe ls s n).2).2=_;rw[cV,a2,xaL];omega
 |[],_::_,n,a,h,_=>by cases h
 |_::_,[],n,a,h,_=>by cases h
def aiH(gI:∀k,ks.contains k=true->U k){x:Option cS}{s:lM}{n:Nat}{a:List D}(h:P1 ck ks x s=some a)(gY:lN ls n a):(∃o',x=some o'/\xS (gb ck) U o' (x4 ls s n).1)/\(x4 ls s n).2=n+a.length:=by
 unfold P1 at h;split at h;.cases h;exact⟨⟨_,rfl,trivial⟩,rfl⟩
 .obtain⟨aV,a2⟩:=P3 gI h gY;exact⟨⟨_,rfl,⟨_,rfl,aV⟩⟩,a2⟩
 .split at h;.rename_i ak;cases h;subst ak;refine⟨⟨_,rfl,⟨_,rfl,.inl ?_⟩⟩,rfl⟩;rw[gY.I];rfl
  cases h
 .cases h;refine⟨⟨_,rfl,?_⟩,rfl⟩;simp only[x4,xS];rw[gY.I];rfl
 cases h
def XH(gI:∀k,ks.contains k=true->U k){σ:aG}:∀{l:List (Nat×lp)} {n:Nat} {a:List D},P2 ck ks σ l=some a->lN ls n a->AX (gb ck) U σ (wb ls l n).1/\(wb ls l n).2=n+a.length
 |[],n,a,h,gY=>by cases h;exact⟨trivial,rfl⟩
 |(t,s)::r,n,a,h,gY=>by obtain⟨ao,ba,ab,af,rfl⟩:=x5 h;obtain⟨aV,a2⟩:=XG gI ab gY.left;have av:=gY.right;rw[<-a2]at av;obtain⟨bc,cV⟩:=XH gI af av;refine⟨⟨aV,bc⟩,?_⟩;simp only[wb];rw[cV,a2,xaL];omega
def P4(gI:∀k,ks.contains k=true->U k){σ:aG}:∀{l:List (Key×lM)} {n:Nat} {a:List D},Kt ck ks σ l=some a->lN ls n a->xT (gb ck) U σ (oq ls l n).1/\(oq ls l n).2=n+a.length
 |[],n,a,h,gY=>by cases h;exact⟨trivial,rfl⟩
 |(t,s)::r,n,a,h,gY=>by obtain⟨ao,ba,ab,af,rfl⟩:=x5 h;obtain⟨aV,a2⟩:=aiH gI ab gY.left;have av:=gY.right;rw[<-a2]at av;obtain⟨bc,cV⟩:=P4 gI af av;refine⟨⟨aV,bc⟩,?_⟩;simp only[oq];rw[cV,a2,xaL];omega
end
def x6(ls:List D):∀(l:List (Key×lM)) (n:Nat),mc (oq ls l n).1=l.map (·.1)
 |[],n=>rfl|(k,s)::r,n=>by have:=x6 ls r (x4 ls s n).2;simp only[oq,mc,xaz]at this⊢;rw[<-this]
def Ku:∀{lo:List (Key×cS)} {k:Key},k∈mc lo->∃o,fx lo k=some o
 |[],k,h=>by cases h
 |(j,x)::r,k,h=>by
  unfold fx;by_cases ak:k=j;.exact⟨x,by rw[xad ak]⟩
  rw[xab ak];simp only[mc,xaz,xak]at h;exact Ku (h.resolve_left ak)
def fL(ib:List Key)(σ:aG):Prop:=∀k,10000<=k->eN (σ.objs k)->k∈ib
def P5(ls:List D):∀(l:List (Key×lM)) (n:Nat) (k:Key),(l.map (·.1)).Nodup->(∃s,(k,s)∈l/\Ba s=true)->eN (fx (oq ls l n).1 k)
 |[],n,k,_,⟨_,h,_⟩=>by cases h
 |(j,s)::r,n,k,aL,⟨eP,h,aH⟩=>by
  simp only[oq,fx];simp only[xaz,List.nodup_cons]at aL;rcases xak.1 h with ab|ab
  .cases ab;rw[xad rfl];cases s<;>first|cases aH|skip
   .exact tQ
   .exact si
   exact vF
  have cP:k≠j:=by rintro rfl;exact aL.1 (xax.2 ⟨_,ab,rfl⟩)
  rw[xab cP];exact P5 ls r _ k aL.2 ⟨eP,ab,aH⟩
def sy{β:Type}{ib:List Key}:∀{l:List v9}{σ:aG}{k:aG->Option β}{b:β},fL ib σ->ot l σ k=some b->∃τ,gX σ τ/\fL ib τ/\k τ=some b
 |[],σ,k,b,bP,h=>⟨σ,gX.refl σ,bP,h⟩
 | .slot t K n::r,σ,k,b,bP,h=>by
  unfold ot at h;split at h
  .rename_i a aH ff;split at h
   case isFalse=>cases h
   rename_i cr;obtain⟨ab,af⟩:=lj h;have aI:a= .val (.slice none 0 0):=by
    unfold nG at ab;split at ab;.rfl
    cases ab
   subst aI;obtain⟨τ,aV,a2,bc⟩:=sy (ib:=ib) (by
    intro j aN aj;by_cases gm:j=K;.exact absurd cr (Nat.not_lt.2 (gm▸aN))
    simp only[cX _ _ gm]at aj;exact bP j aN aj) af
   exact⟨τ,(ahy t K n aH ff).trans aV,a2,bc⟩
  exact sy bP h
 | .box cR i K n::r,σ,k,b,bP,h=>by
  unfold ot at h;split at h
  .rename_i xs ak;split at h
   .rename_i a ah ff;split at h
    case isFalse=>cases h
    rename_i cr;obtain⟨ab,af⟩:=lj h;have aI:a= .val (.slice none 0 0):=by
     unfold nG at ab;split at ab;.rfl
     cases ab
    subst aI;obtain⟨τ,aV,a2,bc⟩:=sy (ib:=ib) (by
     intro j aN aj;by_cases gm:j=K;.exact absurd cr (Nat.not_lt.2 (gm▸aN))
     simp only[cX _ _ gm]at aj;by_cases xD:j=cR;.subst xD;exact bP j aN (by rw[ak];exact tQ)
     simp only[cX _ _ xD]at aj;exact bP j aN aj) af
    exact⟨τ,(ahz cR i K n ak ah ff).trans aV,a2,bc⟩
   exact sy bP h
  exact sy bP h
 | .all t cR::r,σ,k,b,bP,h=>by
  unfold ot at h;split at h
  .rename_i K aH;split at h
   .rename_i n es ak;split at h
    case isFalse=>cases h
    rename_i aL;subst aL;obtain⟨τ,aV,a2,bc⟩:=sy (ib:=ib) (σ:=⟨ct σ.aJ t (.sub K n 0 es.length),σ.objs⟩) (λj aN aj=>bP j aN aj) h;exact⟨τ,(ahA t K n aH ak).trans aV,a2,bc⟩
   exact sy bP h
  exact sy bP h
def Kv{β:Type}{ib:List Key}{gd:qY}{σ:aG}{k:List D->Option β}{b:β}(bP:fL ib σ)(h:sx ib gd σ k=some b):∃ls,gX σ (restore gd ls)/\fL ib (restore gd ls)/\k ls=some b:=by
 unfold sx at h;obtain⟨τ,aV,a2,bc⟩:=sy bP h;simp only at bc;split at bc
 case isFalse=>cases bc
 rename_i an;simp only[XE,xam,xay,xbc,xaC,xbH,xbr,List.contains_eq_mem]at an;obtain⟨EC,⟨o2,aiI⟩,aiJ⟩:=an;split at bc
 case h_2=>cases bc
 rename_i ls Bb;obtain⟨ao,ba,aK,aY,rfl⟩:=x5 Bb;have gY:lN (ao++ba) 0 (ao++ba):=λj d aN=>by rw[xav];exact aN
 have gI:∀k,(gd.objs.map (·.1)).contains k=true->∃o,fx (oq (ao++ba) gd.objs (wb (ao++ba) gd.aJ 0).2).1 k=some o:=by intro k ak;exact Ku (by rw[x6];simpa using ak)
 obtain⟨bC,bD⟩:=XH gI aK gY.left;have av:=gY.right;rw[<-bD]at av;obtain⟨cy,ey⟩:=P4 gI aY av;have Bc:gX τ (restore gd (ao++ba)):=by refine ahm _ (by rw[x6];exact EC) bC cy ?_;intro k ak aj;have hm:=a2 k ak aj;obtain⟨b7,p,x7,ou,XI⟩:=aiI k hm;refine⟨?_,b7⟩;obtain⟨ay6,jR⟩:=p;simp only at ou XI;subst ou;exact P5 _ _ _ _ aiJ ⟨_,x7,XI⟩
 refine⟨_,aV.trans Bc,?_,bc⟩;intro k ak aj;obtain⟨o,aF⟩:=AK aj;have:=vU aF;rw[x6]at this;obtain⟨p,x7,ou⟩:=xax.1 this;rcases o2 p x7 with cO|cO
 .rw[ou]at cO;exact absurd cO (Nat.not_lt.2 ak)
 rw[ou]at cO;exact cO
def Kw(objs:cF)(cs:List aS):Option (List D):=if cs.all sk=true then hv (cs.map (toD objs))else none
def wc(objs:cF)(ks:List Key):aS->aS
 | .ptr k off=>if k∈ks then match objs k with
   |some (.box cs)=>match Kw objs cs with|some aO=> .eo aO off|none=> .ptr k off
   |_=> .ptr k off
  else .ptr k off
 | .row k=>if k∈ks then match objs k with|some (.row n es)=> .d (.ax n es)|_=> .row k
  else .row k
 | .map k=>if k∈ks then match objs k with|some (.map es)=> .d (.mp es)|_=> .map k
  else .map k
 |x=>x
def Kx(objs:cF)(ks:List Key):aS->aS
 | .agg cs=>Av (cs.map (wc objs ks))| .fn f first cap=> .fn f (first.map (wc objs ks)) (cap.map (wc objs ks))
 |x=>wc objs ks x
def ED(objs:cF)(ks:List Key):cS->cS
 | .box cs=> .box (cs.map (Kx objs ks))|o=>o
def P6(objs:cF)(k:Key):Bool:=match objs k with|some (.row _ _)=>decide (k<10000)|some (.map _)=>decide (k<10000)|some (.box cs)=>decide (k<10000)&&(Kw objs cs).isSome|_=>false
def freeze(ks:List Key)(σ:aG):aG:=⟨λt=>Kx σ.objs ks (σ.aJ t),λk=>if k∈ks then some .dead else(σ.objs k).map (ED σ.objs ks)⟩
section
variable{m:Mem}{fr:fH}{ρ:df}{σ:aG}{a:Act}{w:World}{ks:List Key}
def aiK(h:Den m fr ρ σ a w){key off:Nat}{cs:List aS}{aO:List D}(ak:σ.objs key=some (.box cs))(eM:Kw σ.objs cs=some aO)(hm:key∈ks){U:Key->Prop}{v:Value}(a6:b4 m ρ σ.used (.ptr key off) v):b4 (Den.part m ρ ks w) ρ U (.eo aO off) v:=by
 have hle:=Den.sf m ρ ks w;obtain⟨b,vs,dP,aK,aY,bN,cN⟩:=h.objs _ _ ak;have aj:=h.JB ak rfl hm (by rw[aK];rfl);unfold Kw at eM;split at eM
 case isFalse=>cases eM
 rename_i Po;obtain⟨aV,a2⟩:=qM eM;rw[xaY]at aV;cases a6 with
 |ptr _ _ b' hu av=>
  rw[aK]at av;cases av;have:=b4.eo (m:=Den.part m ρ ks w) (ρ:=ρ) (U:=U) aO off b 0 vs dP (0,0) (by rw[aj];exact aY) (λj=>(vs[j]?).getD undef) ?_ ?_
  .simpa using this
  .intro j c aN;have cr:j<vs.size:=by rw[bN,<-aV];exact(xae.1 aN).1
   simp[xao cr]
  intro j c aN;have cr:j<vs.size:=by rw[bN,<-aV];exact(xae.1 aN).1
  have bc:=a2 j c aN;rw[xaj,xah]at bc;obtain⟨y,aP,tT⟩:=bc;have:=cN j y vs[j] aP (xao cr);simp only[xao cr,xbd];exact(O2 (xay.1 Po y (xac aP)) tT this).mono hle
def XJ(h:Den m fr ρ σ a w){x:aS}{v:Value}(ag:b4 m ρ σ.used x v):b4 (Den.part m ρ ks w) ρ (freeze ks σ).used (wc σ.objs ks x) v:=by
 have hle:=Den.sf m ρ ks w;have gI:∀k,σ.used k->(freeze ks σ).used k/\ρ k=ρ k:=by
  rintro k ⟨o,aF⟩;refine⟨?_,rfl⟩;unfold aG.used freeze;by_cases ak:k∈ks;.exact⟨.dead,by simp[ak]⟩
  exact⟨ED σ.objs ks o,by simp[ak,aF]⟩
 unfold wc;split
 .rename_i k off;split
  .rename_i hm;split
   .rename_i cs ak;split;.rename_i aO eM;exact aiK h ak eM hm ag
    exact ag.mono hle gI
   exact ag.mono hle gI
  exact ag.mono hle gI
 .rename_i k;split
  .rename_i hm;split;.rename_i n es ak;cases ag;exact .d _ _ (OV h ak hm)
   exact ag.mono hle gI
  exact ag.mono hle gI
 .rename_i k;split
  .rename_i hm;split;.rename_i es ak;cases ag;exact .d _ _ (af5 h ak hm)
   exact ag.mono hle gI
  exact ag.mono hle gI
 exact ag.mono hle gI
def P7(h:Den m fr ρ σ a w){cs:List aS}{vs:Array Value}(aq:vs.size=cs.length)(bJ:∀(i:Nat)(c:aS)(v:Value),cs[i]?=some c->vs[i]?=some v->b4 m ρ σ.used c v):vs.size=(cs.map (wc σ.objs ks)).length/\∀(i:Nat)(c:aS)(v:Value),(cs.map (wc σ.objs ks))[i]?=some c->vs[i]?=some v->b4 (Den.part m ρ ks w) ρ (freeze ks σ).used c v:=by refine⟨by simpa using aq,?_⟩;intro i c v an a6;simp only[xaj,xah]at an;obtain⟨y,aP,rfl⟩:=an;exact XJ h (bJ i y v aP a6)
def XK(h:Den m fr ρ σ a w){x:aS}{v:Value}(ag:b4 m ρ σ.used x v):b4 (Den.part m ρ ks w) ρ (freeze ks σ).used (Kx σ.objs ks x) v:=by
 unfold Kx;split
 .cases ag with|agg _ vs aq bJ=>
  obtain⟨ab,af⟩:=P7 (ks:=ks) h aq bJ;exact Jd (.agg _ _ ab af)
 .cases ag with|fn _ _ _ vs ws aq ds bJ xI=>
  obtain⟨ab,af⟩:=P7 (ks:=ks) h aq bJ;obtain⟨aw,a4⟩:=P7 (ks:=ks) h ds xI;exact .fn _ _ _ _ _ ab aw af a4
 exact XJ h ag
def aiL(ks:List Key)(eG:ks.all (P6 σ.objs)=true):gX σ (freeze ks σ):=by
 intro m fr ρ a w h;have hle:=Den.sf m ρ ks w;have dV:∀k∈ks,(k<10000/\∃n es,σ.objs k=some (.row n es))\/(k<10000/\∃es,σ.objs k=some (.map es))\/(k<10000/\∃cs,σ.objs k=some (.box cs)):=by
  intro k ak;have:=xay.1 eG k ak;unfold P6 at this;split at this
  .rename_i n es e;exact .inl ⟨xaW this,n,es,e⟩
  .rename_i es e;exact .inr (.inl ⟨xaW this,es,e⟩)
  .rename_i cs e;simp only[xam,xaC]at this;exact .inr (.inr ⟨this.1,cs,e⟩)
  cases this
 have own:∀k∈ks,∃o,σ.objs k=some o/\o.owns=true:=by
  intro k ak;rcases dV k ak with⟨_,n,es,e⟩|⟨_,es,e⟩|⟨_,cs,e⟩
  .exact⟨_,e,rfl⟩
  .exact⟨_,e,rfl⟩
  exact⟨_,e,rfl⟩
 have ig:∀b,Den.part m ρ ks w b=m b\/∃k∈ks,blockOf (ρ k)=some b/\Den.part m ρ ks w b=w.heap[b]?:=by
  intro b;unfold Den.part;cases hm:m b with
  |some x=>exact .inl rfl
  |none=>
   simp only;by_cases an:∃k∈ks,blockOf (ρ k)=some b;.rw[xad an];obtain⟨k,ab,af⟩:=an;exact .inr ⟨k,ab,af,rfl⟩
   rw[xab an];exact .inl rfl
 have nA:∀k o,(freeze ks σ).objs k=some o->o.owns=true->k∉ks/\∃dQ,σ.objs k=some dQ/\o=ED σ.objs ks dQ/\dQ.owns=true:=by
  intro k o ak aF;unfold freeze at ak;simp only at ak;split at ak;.cases ak;cases aF
  rename_i aL;obtain⟨dQ,ab,rfl⟩:=xah.1 ak;refine⟨aL,dQ,ab,rfl,?_⟩;cases dQ<;>first|rfl|exact aF
 refine⟨Den.part m ρ ks w,ρ,hle,⟨?_,h.frame,?_,?_,?_,?_,?_,?_⟩,?_⟩
 .intro b o aj;rcases ig b with e|⟨k,_,_,e⟩
  .rw[e]at aj;exact h.mem b o aj
  rw[e]at aj;exact aj
 .intro b aj;rcases ig b with e|⟨k,ab,af,e⟩
  .rw[e]at aj;exact h.apart b aj
  obtain⟨o,aw,a4⟩:=own k ab;exact(h.own k o b aw a4 af).2
 .rintro k ⟨o,aF⟩;unfold freeze at aF;simp only at aF;split at aF;.rename_i ak;obtain⟨o,aw,a4⟩:=own k ak;exact h.one k ⟨o,aw⟩
  obtain⟨dQ,ab,rfl⟩:=xah.1 aF;exact h.one k ⟨dQ,ab⟩
 .intro t;exact XK h (h.aJ t)
 .intro k o ak;have fK:=ak;unfold freeze at ak;simp only at ak;split at ak
  .cases ak;trivial
  obtain⟨dQ,ab,rfl⟩:=xah.1 ak;have af:=h.objs k dQ ab;cases dQ with
  |dead=>trivial|box cs=>obtain⟨b,vs,T,aK,aY,bN,cN⟩:=af;refine⟨b,vs,T,aK,aY,by simpa using bN,?_⟩;intro i c x an ag;simp only[xaj,xah]at an;obtain⟨y,aP,rfl⟩:=an;exact XK h (cN i y x aP ag)
  |row n es=>
   rcases af with⟨aK,aY⟩|⟨b,o,cap,vs,dP,aK,aY,bN,cN,eb,fB⟩;.exact .inl ⟨aK,aY⟩
   exact .inr ⟨b,o,cap,vs,dP,aK,aY,bN,cN,eb,λi e j c ah aN=>by obtain⟨x,aV,a2⟩:=fB i e j c ah aN;exact⟨x,aV,a2.mono hle⟩⟩
  |map es=>obtain⟨r,dr,clock,aK,aY,bN,cN,eb⟩:=af;exact⟨r,dr,clock,aK,aY,bN,cN,λi e x he ag=>(eb i e x he ag).mono hle⟩
 .intro k o b ak aF aj;obtain⟨aL,dQ,ab,rfl,af⟩:=nA k o ak aF;have aw:=h.own k dQ b ab af aj;refine⟨?_,aw.2⟩;rcases ig b with e|⟨bs,a4,b7,e⟩
  .rw[e];exact aw.1
  obtain⟨o',cO,gp⟩:=own bs a4;exact absurd b7 (h.sep k bs dQ o' b (by rintro rfl;exact aL a4) ab cO af gp aj)
 .intro k bs o o' b cP ak fK aF og aj;obtain⟨aL,dQ,ab,rfl,af⟩:=nA k o ak aF;obtain⟨OX,EE,eS,rfl,hY⟩:=nA bs o' fK og;exact h.sep k bs dQ EE b cP ab eS af hY aj
 intro k ak aj;refine⟨?_,rfl⟩;have aL:k∉ks:=by
  intro hm;rcases dV k hm with⟨cr,_⟩|⟨cr,_⟩|⟨cr,_⟩
  .exact absurd ak (Nat.not_le.2 cr)
  .exact absurd ak (Nat.not_le.2 cr)
  exact absurd ak (Nat.not_le.2 cr)
 show eN (if k∈ks then some .dead else(σ.objs k).map (ED σ.objs ks));rw[xab aL];rcases aj with⟨c,an⟩|⟨n,es,an⟩|⟨es,an⟩
 .rw[an];exact tQ
 .rw[an];exact si
 rw[an];exact vF
end
def x8{β:Type}:List (List Key)->aG->(aG->Option β)->Option β
 |[],σ,k=>k σ|ks::r,σ,k=>match ks with|[]=>x8 r σ k|_=>if ks.all (P6 σ.objs)=true then x8 r (freeze ks σ) k else none
def EF{β:Type}(t:Tmp)(σ:aG)(k:aG->Option β):Option β:=match σ.aJ t with
 | .sub key cR i len=>match σ.objs key,σ.objs t with
  |some (.row bs es),none=>if cR=bs/\key<10000/\t<10000 then aD (decide (i+len<=es.length)) (k ⟨ct σ.aJ t (.row t),ct (ct σ.objs key (some .dead)) t (some (.row cR ((es.drop i).take len)))⟩)else none
  |_,_=>none
 |_=>none
def aiM{σ:aG}{t key cR i len:Nat}{es:List (List D)}(aM:σ.aJ t= .sub key cR i len)(ak:σ.objs key=some (.row cR es))(au:σ.objs t=none)(hle:i+len<=es.length)(p4:key<10000):gX σ ⟨ct σ.aJ t (.row t),ct (ct σ.objs key (some .dead)) t (some (.row cR ((es.drop i).take len)))⟩:=by
 intro m fr ρ a w h;have cP:key≠t:=by rintro rfl;rw[ak]at au;cases au
 have b5:((es.drop i).take len).length=len:=by simp;omega
 have Bd:∀j o,(ct (ct σ.objs key (some .dead)) t (some (.row cR ((es.drop i).take len)))) j=some o->(j=t/\o= .row cR ((es.drop i).take len))\/(j=key/\o= .dead)\/(j≠t/\j≠key/\σ.objs j=some o):=by
  intro j o aN;by_cases ab:j=t;.subst ab;rw[e1]at aN;cases aN;exact .inl ⟨rfl,rfl⟩
  rw[cX _ _ ab]at aN;by_cases af:j=key;.subst af;rw[e1]at aN;cases aN;exact .inr (.inl ⟨rfl,rfl⟩)
  rw[cX _ _ af]at aN;exact .inr (.inr ⟨ab,af,aN⟩)
 let v:=a.tmps.getD t undef
 have a6:=h.aJ t;rw[aM]at a6;have D1:∀k,σ.used k->aG.used ⟨ct σ.aJ t (.row t),ct (ct σ.objs key (some .dead)) t (some (.row cR ((es.drop i).take len)))⟩ k/\ct ρ t v k=ρ k:=by
  rintro k ⟨o,aF⟩;have vB:k≠t:=by rintro rfl;rw[aF]at au;cases au
  refine⟨?_,cX _ _ vB⟩;by_cases af:k=key;.subst af;exact⟨.dead,by simp only[cX _ _ vB,e1]⟩
  exact⟨o,by simp only[cX _ _ vB,cX _ _ af];exact aF⟩
 have piece:j2 v=true/\(blockOf v=none\/blockOf v=blockOf (ρ key))/\ju m (ct ρ t v) (aG.used ⟨ct σ.aJ t (.row t),ct (ct σ.objs key (some .dead)) t (some (.row cR ((es.drop i).take len)))⟩) v w (.row cR ((es.drop i).take len)):=by
  have ny:=h.objs key _ ak;generalize aiN:a.tmps.getD t undef=u at a6;have aiO:v=u:=aiN;rw[aiO];cases a6 with
  |km _ _ _ hu av=>exact⟨rfl,.inl rfl,.inl ⟨rfl,by simp⟩⟩
  |sub _ _ _ _ b o L cap iy hu av OE aI=>
   refine⟨rfl,.inr (by rw[av];rfl),?_⟩;rcases ny with⟨aK,aY⟩|⟨b',o',oX,vs,dP,aK,aY,bN,cN,eb,fB⟩
   .rw[av]at aK;cases aK
   rw[av]at aK;cases aK;refine .inr ⟨b,iy,cap-i,vs,dP,by rw[b5],aY,by rw[b5];omega,?_,?_,?_⟩
   .by_cases P8:i<cap
    .rw[aI.1 P8,xbe,<-xaR];have:i+(cap-i)=cap:=by omega
     rw[this];exact cN
    have:cap-i=0:=by omega
    rw[this,Nat.zero_mul];have:=aI.2;omega
   .intro e he;exact eb e (xbn (xbi he))
   intro p e j c aT aN;rw[xaN]at aT;split at aT
   case isFalse=>cases aT
   rename_i kp;rw[xaV]at aT;obtain⟨x,aV,a2⟩:=fB (i+p) e j c aT aN;have P8:i<cap:=by have:=(xae.1 aT).1;omega
   refine⟨x,?_,a2⟩;rw[aI.1 P8];have:o+i*cR+p*cR+j=o+(i+p)*cR+j:=by rw[xaR];omega
   rw[this];exact aV
 obtain⟨dz,dh,eK⟩:=piece;refine⟨m,ct ρ t v,Mem.le_refl m,⟨h.mem,h.frame,h.apart,?_,?_,?_,?_,?_⟩,?_⟩
 .rintro k ⟨o,aF⟩;rcases Bd k o aF with⟨rfl,_⟩|⟨rfl,_⟩|⟨ab,af,aw⟩;.rw[e1];exact dz
  .rw[cX _ _ cP];exact h.one _ ⟨_,ak⟩
  rw[cX _ _ ab];exact h.one _ ⟨_,aw⟩
 .intro s;by_cases aH:s=t;.subst aH;simp only[e1];have:b4 m (ct ρ s v) (aG.used ⟨ct σ.aJ s (.row s),ct (ct σ.objs key (some .dead)) s (some (.row cR ((es.drop i).take len)))⟩) (.row s) (ct ρ s v s):= .row s ⟨_,e1 _ _ _⟩;rw[e1]at this;exact this
  simp only[cX _ _ aH];exact(h.aJ s).mono (Mem.le_refl m) D1
 .intro k o fK;rcases Bd k o fK with⟨rfl,rfl⟩|⟨rfl,rfl⟩|⟨ab,af,aw⟩
  .rw[e1];exact eK
  .trivial
  rw[cX _ _ ab];exact(h.objs k o aw).mono (Mem.le_refl m) D1 (λb _ _=>rfl)
 .intro k o b fK aF aj;rcases Bd k o fK with⟨rfl,rfl⟩|⟨rfl,rfl⟩|⟨ab,af,aw⟩
  .rw[e1]at aj;rcases dh with dh|dh
   .rw[dh]at aj;cases aj
   exact h.own key _ b ak rfl (by rw[<-dh];exact aj)
  .cases aF
  rw[cX _ _ ab]at aj;exact h.own k o b aw aF aj
 .intro k bs o o' b di fK XL aF og aj;rcases Bd k o fK with⟨rfl,rfl⟩|⟨rfl,rfl⟩|⟨ab,af,aw⟩
  .rcases Bd bs o' XL with⟨rfl,rfl⟩|⟨rfl,rfl⟩|⟨eS,hY,iM⟩;.exact absurd rfl di
   .cases og
   rw[e1]at aj;rw[cX _ _ eS];rcases dh with dh|dh
   .rw[dh]at aj;cases aj
   exact h.sep key bs _ o' b (Ne.symm hY) ak iM rfl og (by rw[<-dh];exact aj)
  .cases aF
  rw[cX _ _ ab]at aj;rcases Bd bs o' XL with⟨rfl,rfl⟩|⟨rfl,rfl⟩|⟨eS,hY,iM⟩
  .rw[e1];rcases dh with dh|dh
   .rw[dh];exact λbJ=>by cases bJ
   rw[dh];exact h.sep k key o _ b af aw ak aF rfl aj
  .cases og
  rw[cX _ _ eS];exact h.sep k bs o o' b di aw iM aF og aj
 intro k fK aj;have vB:k≠t:=by rintro rfl;rw[au]at aj;exact tR aj
 have di:k≠key:=by rintro rfl;exact absurd p4 (Nat.not_lt.2 fK)
 exact⟨by simp only[cX _ _ vB,cX _ _ di];exact aj,cX _ _ vB⟩
def we(φ:Key->Key):aS->aS
 | .any=> .any| .d x=> .d x| .eo cs off=> .eo cs off| .ptr k off=> .ptr (φ k) off| .gk k cR i off=> .gk (φ k) cR i off| .row k=> .row (φ k)| .sub k cR i len=> .sub (φ k) cR i len| .map k=> .map (φ k)|_=> .any
def EG(φ:Key->Key):aS->aS
 | .agg cs=> .agg (cs.map (we φ))| .a1 cs=> .a1 (cs.map (we φ))| .fn f as j7=> .fn f (as.map (we φ)) (j7.map (we φ))|x=>we φ x
def ui(φ:Key->Key):cS->cS
 | .box cs=> .box (cs.map (EG φ))|o=>o
section
variable{m:Mem}{ρ cU:df}{U m6:Key->Prop}{φ:Key->Key}
def XM(h:∀k,U k->m6 (φ k)/\cU (φ k)=ρ k){x:aS}{v:Value}(ag:b4 m ρ U x v):b4 m cU m6 (we φ x) v:=by cases ag with|any v=>exact .any _|d x v ag=>exact .d _ _ ag|agg=>exact .any _|a1=>exact .any _|eo cs off b o vs T eD hm xs ab af=>exact .eo _ _ b o vs T eD hm xs ab af|ptr k off b hu av=>exact .ptr _ _ b (h k hu).1 ((h k hu).2.trans av)|gk k cR i off b o len cap hu av=>exact .gk _ _ _ _ b o len cap (h k hu).1 ((h k hu).2.trans av)|row k hu=>rw[<-(h k hu).2];exact .row _ (h k hu).1|sub k cR i len b o L cap a hu av hle aI=>exact .sub _ _ _ _ b o L cap a (h k hu).1 ((h k hu).2.trans av) hle aI|km k cR i hu av=>exact .km _ _ _ (h k hu).1 ((h k hu).2.trans av)|map k hu=>rw[<-(h k hu).2];exact .map _ (h k hu).1|fn=>exact .any _
def Ky(h:∀k,U k->m6 (φ k)/\cU (φ k)=ρ k){cs:List aS}{vs:Array Value}(aq:vs.size=cs.length)(bJ:∀(i:Nat)(c:aS)(v:Value),cs[i]?=some c->vs[i]?=some v->b4 m ρ U c v):vs.size=(cs.map (we φ)).length/\∀(i:Nat)(c:aS)(v:Value),(cs.map (we φ))[i]?=some c->vs[i]?=some v->b4 m cU m6 c v:=by refine⟨by simpa using aq,?_⟩;intro i c v an a6;simp only[xaj,xah]at an;obtain⟨y,aP,rfl⟩:=an;exact XM h (bJ i y v aP a6)
def XN(h:∀k,U k->m6 (φ k)/\cU (φ k)=ρ k){x:aS}{v:Value}(ag:b4 m ρ U x v):b4 m cU m6 (EG φ x) v:=by
 unfold EG;split
 .cases ag with|agg _ vs aq bJ=>
  obtain⟨ab,af⟩:=Ky h aq bJ;exact .agg _ _ ab af
 .cases ag with|a1 _ vs aq bJ=>
  obtain⟨ab,af⟩:=Ky h aq bJ;exact .a1 _ _ ab af
 .cases ag with|fn _ _ _ vs ws aq ds bJ xI=>
  obtain⟨ab,af⟩:=Ky h aq bJ;obtain⟨aw,a4⟩:=Ky h ds xI;exact .fn _ _ _ _ _ ab aw af a4
 exact XM h ag
def aiP(h:∀k,U k->m6 (φ k)/\cU (φ k)=ρ k){o:cS}{v:Value}{w:World}(aF:ju m ρ U v w o):ju m cU m6 v w (ui φ o):=by
 cases o with
 |dead=>trivial|box cs=>obtain⟨b,vs,T,aK,aY,bN,cN⟩:=aF;refine⟨b,vs,T,aK,aY,by simpa using bN,?_⟩;intro i c x an ag;simp only[xaj,xah]at an;obtain⟨y,aP,rfl⟩:=an;exact XN h (cN i y x aP ag)
 |row=>exact aF|map=>exact aF
theorem aiQ{o:cS}:(ui φ o).owns=o.owns:=by cases o<;>rfl
end
def aiR:Act:={tmps:= #[],defers:=[]}
def Kz(m:Mem)(fr:fH)(ρ:df)(E:cF)(w:World):Prop:=Den m fr ρ ⟨λ_=> .any,E⟩ aiR w
def q0(E:cF)(k:Key):Prop:=∃o,E k=some o
structure fM where
 f:FuncId
 args:List lp
 ins:List (Key×lM)
 res:lp
 outs:List (Key×lM)
def fM.wg(s:fM)(ls:List D):List aS:=(qZ ls s.args 0).1
def fM.nJ(s:fM)(ls:List D):List (Key×cS):=(oq ls s.ins (qZ ls s.args 0).2).1
def fM.KA(s:fM)(ls:List D):aS:=(pe ls s.res 0).1
def fM.pf(s:fM)(ls:List D):List (Key×cS):=(oq ls s.outs (pe ls s.res 0).2).1
structure e2(P:Program)(G:dm)(s:fM)(F:List D->Option (List D)):Prop where
 fn:vE P s.f
 run:∀ls fq,F ls=some fq->∀(m:Mem)(fr:fH)(ρ:df)(w:World)(vs:List Value),kn G m->Kz m fr ρ (fx (s.nJ ls)) w->vs.length=(s.wg ls).length->(∀(i:Nat)(x:aS)(v:Value),(s.wg ls)[i]?=some x->vs[i]?=some v->b4 m ρ (q0 (fx (s.nJ ls))) x v)->Calls P s.f vs.toArray w λe w'=>∃v cI cU,e= .returned v/\m.le cI/\Kz cI fr cU (fx (s.pf fq)) w'/\b4 cI cU (q0 (fx (s.pf fq))) (s.KA fq) v/\ ∀k,10000<=k->eN (fx (s.nJ ls) k)->cU k=ρ k
def q1(ck:List (Key×Key))(base:Nat)(k:Key):Key:=if 10000<=k then gb ck k else base+(k-9000)
def wh(objs:cF)(dead:List Key)(outs:List (Key×cS)):cF:=λp=>match fx outs p with|some o=>some o|none=>if p∈dead then some .dead else objs p
def aiS:lM->Bool
 | .row _=>true| .map=>true|_=>false
def XO(objs:cF)(ck:List (Key×Key))(base:Nat)(s:fM):Bool:=xU (gb ck) (s.ins.map (·.1))&&xU (q1 ck base) (s.outs.map (·.1))&&decide ((s.ins.map (·.1)).Nodup)&&decide ((s.outs.map (·.1)).Nodup)&&s.outs.all (λp=>if 10000<=p.1 then s.ins.any (λq=>q.1==p.1&&Ba q.2)else decide (9000<=p.1)&&decide (q1 ck base p.1<10000)&&(objs (q1 ck base p.1)).isNone)&&s.ins.all (λq=>if 10000<=q.1 then Ba q.2&&s.outs.any (λp=>p.1==q.1&&Ba p.2)else aiS q.2&&decide (gb ck q.1<10000))
section
variable{β:Type}
def P9(G:dm)(s:fM)(F:List D->Option (List D))(base:Nat)(σ:aG)(o:Oper)(x:Operand)(args:List Operand)(k:aG->Option β):Option β:=match vH (ch G σ.aJ x)with
 |some (f,pre,post)=>
  if f=s.f then
   let tS:=pre++args.map (ch G σ.aJ)++post
   let ck:=A8 σ s.ins (Kp tS s.args)
   let ks:=s.ins.map (·.1)
   if XO σ.objs ck base s=true then
    match uh (Ks ck ks tS s.args) (Kt ck ks σ s.ins)with|some ls=>aa (F ls) λfq=>k (aG.put ⟨σ.aJ,wh σ.objs (ks.map (gb ck)) ((s.pf fq).map λp=>(q1 ck base p.1,ui (q1 ck base) p.2))⟩ o.dst (EG (q1 ck base) (s.KA fq)))|none=>none
   else none
  else none
 |none=>none
end
section
variable{P:Program}{T:cg}{G:dm}{m:Mem}{fr:fH}{ρ:df}{σ:aG}{a:Act}{w:World}{N:Nat}
def aiT(c3:kn G m)(h:Den m fr ρ σ a w){o:Oper}{x:Operand}{args:Array Operand}{dE:Array TypeId}(eE:o.op= .call ⟨.value x,args,dE⟩){f:FuncId}{pre post:List aS}(gO:vH (ch G σ.aJ x)=some (f,pre,post))(bd:vE P f): ∃vs:List Value,vs.length=(pre++args.toList.map (ch G σ.aJ)++post).length/\(∀(i:Nat)(c:aS)(v:Value),(pre++args.toList.map (ch G σ.aJ)++post)[i]?=some c->vs[i]?=some v->b4 m ρ σ.used c v)/\(execOp a.eval o).run P w= .ok (.enter f vs.toArray) w:=by
 have dw:=DJ (a:=a) c3 h.aJ;have ag:=dw x;have O3:∃first cap,a.eval x= .func (.func f) first cap/\first.size=pre.length/\cap.size=post.length/\(∀(i:Nat)(c:aS)(v:Value),pre[i]?=some c->first[i]?=some v->b4 m ρ σ.used c v)/\(∀(i:Nat)(c:aS)(v:Value),post[i]?=some c->cap[i]?=some v->b4 m ρ σ.used c v):=by
  unfold vH at gO;split at gO
  .rename_i kr first cap he
   split at gO
   case isFalse=>cases gO
   rename_i au;cases gO;rw[he]at ag;exact⟨first,cap,ag.hQ,by simpa using au.1,by simpa using au.2,by intro i c v an;simp at an,by intro i c v an;simp at an⟩
  .rename_i kr first cap he
   cases gO;rw[he]at ag;generalize a.eval x=u at ag;cases ag with|fn _ _ _ vs ws aq ds g lg=>exact⟨vs,ws,rfl,aq,ds,g,lg⟩
  .rename_i kr first cap he
   cases gO;rw[he]at ag;have ag:=ag.n8;generalize a.eval x=u at ag;cases ag with|fn _ _ _ vs ws aq ds g lg=>
   refine⟨vs,ws,rfl,by simpa using aq,by simpa using ds,?_,?_⟩;.intro i c v an a6;simp only[xaj,xah]at an;obtain⟨y,aP,rfl⟩:=an;exact .d _ _ (g i y v aP a6)
   intro i c v an a6;simp only[xaj,xah]at an;obtain⟨y,aP,rfl⟩:=an;exact .d _ _ (lg i y v aP a6)
  .cases gO
 obtain⟨first,cap,vu,nt,pT,aV,a2⟩:=O3;refine⟨(first++args.map a.eval++cap).toList,by simp[nt,pT],?_,?_⟩
 .intro i c v an a6;simp only[Array.toList_append,Array.toList_map]at a6;have aK:first.toList.length=pre.length:=by simpa using nt
  by_cases ab:i<pre.length;.rw[xaO,xaK ab]at an;rw[xaO,xaK (by omega)]at a6;exact aV i c v an (by simpa using a6)
  by_cases af:i<pre.length+args.size;.rw[xaK (by simp;omega),xaI (by omega)]at an;rw[xaK (by simp;omega),xaI (by omega),aK]at a6;simp only[xaj,xah]at an a6;obtain⟨p,aT,rfl⟩:=an;obtain⟨q,bk,rfl⟩:=a6;rw[aT]at bk;cases bk;exact dw _
  rw[xaI (by simp;omega)]at an;rw[xaI (by simp;omega)]at a6;refine a2 _ c v an ?_;rw[<-a6];simp only[xaL,xaY,xcc,nt];simp
 unfold execOp;rw[eE];simp only[Array.toArray_toList];exact Wb vu bd
def XP{φ:Key->Key}:∀{lo:List (Key×cS)} {p:Key} {o:cS},fx (lo.map λq=>(φ q.1,ui φ q.2)) p=some o->∃k dQ,k∈mc lo/\φ k=p/\o=ui φ dQ/\((mc lo).Nodup->fx lo k=some dQ)
 |[],p,o,h=>by cases h
 |(j,x)::r,p,o,h=>by
  simp only[xaz,fx]at h;split at h;.rename_i e;cases h;exact⟨j,x,by simp[mc],e.symm,rfl,λ_=>by simp[fx]⟩
  obtain⟨k,dQ,ab,af,aw,a4⟩:=XP h;refine⟨k,dQ,?_,af,aw,?_⟩;.simp only[mc,xaz,xak]at ab⊢;exact .inr ab
  intro aL;simp only[mc,xaz,List.nodup_cons]at aL ab;have cP:k≠j:=by rintro rfl;exact aL.1 ab
  simp only[fx,xab cP];exact a4 aL.2
def Qa{φ:Key->Key}:∀{lo:List (Key×cS)} {k:Key},k∈mc lo->∃o,fx (lo.map λq=>(φ q.1,ui φ q.2)) (φ k)=some o
 |[],k,h=>by cases h
 |(j,x)::r,k,h=>by
  simp only[xaz,fx];split;.exact⟨_,rfl⟩
  rename_i cP;simp only[mc,xaz,xak]at h;rcases h with rfl|h
  .exact absurd rfl cP
  exact Qa h
def XQ{ls:List D}{l:List (Key×lM)}{n:Nat}{k:Key}(aL:(l.map (·.1)).Nodup){q:Key×lM}(bk:q∈l)(ak:q.1=k)(aj:Ba q.2=true):eN (fx (oq ls l n).1 k):=by obtain⟨a,b⟩:=q;simp only at ak aj;subst ak;exact P5 ls l n _ aL ⟨_,bk,aj⟩
def aiU{φ:Key->Key}{U:Key->Prop}{o o':cS}(h:xS φ U o' o)(aj:eN (some o)):eN (some o'):=by
 cases o with
 |dead=>exact absurd aj D3|box=>obtain⟨xs,rfl,_⟩:=h;exact tQ
 |row=>obtain⟨es,rfl,_⟩:=h;exact si
 |map=>cases o'<;>first|exact vF|exact h.elim|cases h
def aiV(c3:kn G m)(h:Den m fr ρ σ a w)(b3:N<=a.tmps.size)(hx:a.defers=[]){o:Oper}(gW:∀d,o.dst=some d->d<N){s:fM}{F:List D->Option (List D)}(bn:e2 P G s F){base:Nat} {x:Operand} {args:Array Operand} {dE:Array TypeId} (aF:o.op= .call ⟨.value x,args,dE⟩) {β:Type} {k:aG->Option β} {b:β} (an:P9 G s F base σ o x args.toList k=some b) {Q:Exit->Act->World->Prop}:o.wp P a w (iW N m fr ρ σ (λaU=>k aU=some b/\∀p,10000<=p->eN (aU.objs p)->eN (σ.objs p))) Q:=by
 have iz:∀d,o.dst=some d->d<a.tmps.size:=λd aA=>Nat.lt_of_lt_of_le (gW d aA) b3;have sj:∀v,N<=(a.put o.dst v).tmps.size:=by intro v;cases o.dst<;>simpa[Act.put]using b3
 have l9:∀v,(a.put o.dst v).defers=[]:=by intro v;cases o.dst<;>exact hx
 unfold P9 at an;split at an
 case h_2=>cases an
 rename_i f pre post gO;split at an
 case isFalse=>cases an
 rename_i bd;subst bd;simp only at an;generalize ay7:A8 σ s.ins (Kp (pre++args.toList.map (ch G σ.aJ)++post) s.args)=ck at an;generalize aiW:pre++args.toList.map (ch G σ.aJ)++post=tS at an;split at an
 case isFalse=>cases an
 rename_i XR;split at an
 case h_2=>cases an
 rename_i ls Bb;obtain⟨fq,gP,ak⟩:=fp an;simp only[XO,xam,xay,xaC]at XR;obtain⟨⟨⟨⟨⟨bU,b9⟩,cE⟩,dy⟩,er⟩,et⟩:=XR;obtain⟨ao,ba,aK,aY,rfl⟩:=x5 Bb;have gY:lN (ao++ba) 0 (ao++ba):=λj d aN=>by rw[xav];exact aN
 have Qb:mc (s.nJ (ao++ba))=s.ins.map (·.1):=x6 _ _ _;have Qc:mc (s.pf fq)=s.outs.map (·.1):=x6 _ _ _;have gI:∀k,(s.ins.map (·.1)).contains k=true->q0 (fx (s.nJ (ao++ba))) k:=by intro k ak;exact Ku (by rw[Qb];simpa using ak)
 obtain⟨bC,bD⟩:=P3 gI aK gY.left;have av:=gY.right;rw[<-bD]at av;obtain⟨cy,ey⟩:=P4 gI aY av;have cy:xT (gb ck) (q0 (fx (s.nJ (ao++ba)))) σ (s.nJ (ao++ba)):=cy;have aiX:∀k j,k∈s.ins.map (·.1)->j∈s.ins.map (·.1)->gb ck k=gb ck j->k=j:=J4 bU;have XS:∀k j,k∈s.outs.map (·.1)->j∈s.outs.map (·.1)->q1 ck base k=q1 ck base j->k=j:=J4 b9;have jx:∀{o o':cS},xS (gb ck) (q0 (fx (s.nJ (ao++ba)))) o' o->o.owns=true->o'.owns=true:=by
  intro o o' hle aF;cases o with
  |dead=>cases aF
  |box=>obtain⟨xs,rfl,_⟩:=hle;rfl
  |row=>obtain⟨es,rfl,_⟩:=hle;rfl
  |map=>cases hle;rfl
 have Qd:∀{k o},fx (s.nJ (ao++ba)) k=some o->k∈s.ins.map (·.1):=λak=>by rw[<-Qb];exact vU ak
 have aiY:∀{k o},fx (s.pf fq) k=some o->k∈s.outs.map (·.1):=λak=>by rw[<-Qc];exact vU ak
 let passed:Key->Prop:=λp=>∃k,k∈s.ins.map (·.1)/\gb ck k=p
 let EH:Mem:=λb=>match fr b with|some o=>some o|none=>open Classical in if∃k o,σ.objs k=some o/\o.owns=true/\¬passed k/\blockOf (ρ k)=some b then w.heap[b]? else none
 let uj:fH:=⟨EH,fr.os,fr.out,fr.low⟩
 have KB:∀b o,fr b=some o->uj b=some o:=by intro b o aj;simp only[uj,EH,aj]
 have KC:∀b k o,σ.objs k=some o->o.owns=true->¬passed k->blockOf (ρ k)=some b->uj b=w.heap[b]?:=by intro b k o ab af aw a4;have b7:=(h.own k o b ab af a4).2;simp only[uj,EH,b7];rw[xad ⟨k,o,ab,af,aw,a4⟩]
 have XT:∀b,uj b≠none->fr b≠none\/∃k o,σ.objs k=some o/\o.owns=true/\¬passed k/\blockOf (ρ k)=some b:=by intro b aj;cases bd:fr b with|some o=>exact .inl (by simp)|none=>refine .inr ?_;refine xbA λx9=>aj ?_;simp only[uj,EH,bd];rw[xab x9]
 have Eh:Kz m uj (λk=>ρ (gb ck k)) (fx (s.nJ (ao++ba))) w:=by
  refine⟨h.mem,⟨?_,⟨h.frame.quiet.os,h.frame.quiet.out,h.frame.quiet.low,h.frame.quiet.r4⟩⟩,?_,?_,λ_=> .any _,?_,?_,?_⟩
  .intro b o aj;cases bd:fr b with
   |some o'=>rw[KB b o' bd]at aj;cases aj;exact h.frame.pR b _ bd
   |none=>
    simp only[uj,EH,bd]at aj;split at aj;.exact aj
    cases aj
  .intro b aj;refine xbA λx9=>?_;rcases XT b x9 with ab|⟨k,o,ab,af,aw,a4⟩
   .exact ab (h.apart b aj)
   exact aj (h.own k o b ab af a4).1
  .rintro k ⟨o,me⟩;obtain⟨o',ab,_⟩:=cy.ok k o me;exact h.one _ ⟨o',ab⟩
  .intro k o me;obtain⟨o',ab,af⟩:=cy.ok k o me;have aw:=h.objs _ _ ab;cases o with
   |dead=>trivial|box dj=>obtain⟨xs,rfl,hle⟩:=af;obtain⟨b,vs,T,aK,aY,bN,cN⟩:=aw;have:=sn.cells hle ⟨bN,cN⟩;exact⟨b,vs,T,aK,aY,this.1,this.2⟩
   |row cR dg=>obtain⟨es,rfl,hle⟩:=af;exact hle.ok aw
   |map es=>cases af;exact aw
  .intro k o b me J5 aj;obtain⟨o',ab,af⟩:=cy.ok k o me;have aw:=h.own _ o' b ab (jx af J5) aj;refine⟨aw.1,?_⟩;refine xbA λx9=>?_;rcases XT b x9 with a4|⟨bs,mf,a4,b7,cO,gp⟩
   .exact a4 aw.2
   have cP:gb ck k≠bs:=by rintro rfl;exact cO ⟨k,Qd me,rfl⟩
   exact h.sep _ _ _ _ b cP ab a4 (jx af J5) b7 aj gp
  intro k bs o o' b cP me Ej Pk Pl aj;obtain⟨y,ab,af⟩:=cy.ok k o me;obtain⟨OG,eS,hY⟩:=cy.ok bs o' Ej;exact h.sep (gb ck k) (gb ck bs) y OG b (λe=>cP (aiX k bs (Qd me) (Qd Ej) e)) ab eS (jx af Pk) (jx hY Pl) aj
 obtain⟨vs,v1,v2,Be⟩:=aiT (P:=P) c3 h aF gO bn.fn;rw[aiW]at v1 v2;obtain⟨lH,mH⟩:=bC.ok;have sl:=bn.run _ _ gP m uj _ w vs c3 Eh (v1.trans lH.symm) (by intro i y v aP a6;obtain⟨XU,aiZ,hle⟩:=mH i y aP;exact hle.ok (v2 i XU v aiZ a6))
 unfold Oper.wp;rw[Be];refine sl.mono λe w' he=>?_;obtain⟨v,cI,cU,rfl,uk,lO,AW,Qe⟩:=he;generalize XV:q1 ck base=φ at*
 let um:=(s.pf fq).map λp=>(φ p.1,ui φ p.2)
 let objs':=wh σ.objs ((s.ins.map (·.1)).map (gb ck)) um
 let lf:df:=λp=>match(s.outs.map (·.1)).find? (λk=>φ k==p)with|some k=>cU k|none=>ρ p
 have Qf:∀k,k∈s.outs.map (·.1)->lf (φ k)=cU k:=by intro k ak;simp only[lf];cases Bf:(s.outs.map (·.1)).find? (λbs=>φ bs==φ k)with|none=>exact absurd (List.find?_eq_none.1 Bf k ak) (by simp)|some bs=>have ab:=List.find?_some Bf;simp only[xbH]at ab;rw[XS bs k (List.mem_of_find?_eq_some Bf) ak ab]
 have Qg:∀k,k∈s.outs.map (·.1)->(10000<=k/\k∈s.ins.map (·.1)/\φ k=gb ck k/\eN (fx (s.nJ (ao++ba)) k))\/(σ.objs (φ k)=none/\φ k<10000):=by
  intro k ak;obtain⟨p,aT,rfl⟩:=xax.1 ak;have ab:=er p aT;by_cases cr:10000<=p.1
  .rw[xad cr]at ab;obtain⟨q,bk,af⟩:=xbr.1 ab;simp only[xam,xbH]at af;refine .inl ⟨cr,xax.2 ⟨q,bk,af.1⟩,?_,XQ cE bk af.1 af.2⟩;rw[<-XV];simp only[q1,xad cr]
  rw[xab cr]at ab;simp only[xam,xaC,Option.isNone_iff_eq_none]at ab;exact .inr ⟨ab.2,ab.1.2⟩
 have KD:∀p,σ.used p->lf p=ρ p:=by
  rintro p ⟨op,aT⟩;simp only[lf];cases Bf:(s.outs.map (·.1)).find? (λbs=>φ bs==p)with
  |none=>rfl
  |some k=>
   have ab:=List.find?_some Bf;simp only[xbH]at ab;rcases Qg k (List.mem_of_find?_eq_some Bf)with⟨af,aw,a4,b7⟩|⟨af,_⟩
   .simp only;rw[Qe k af b7,<-a4,ab]
   rw[ab,aT]at af;cases af
 have EI:∀p op,fx um p=some op->∃k dQ,k∈s.outs.map (·.1)/\φ k=p/\op=ui φ dQ/\fx (s.pf fq) k=some dQ:=by intro p op aT;obtain⟨k,dQ,ab,af,aw,a4⟩:=XP aT;rw[Qc]at ab a4;exact⟨k,dQ,ab,af,aw,a4 dy⟩
 have XW:∀k,q0 (fx (s.pf fq)) k->q0 objs' (φ k)/\lf (φ k)=cU k:=by rintro k ⟨dQ,ab⟩;refine⟨?_,Qf k (aiY ab)⟩;obtain⟨gG,af⟩:=Qa (φ:=φ) (vU ab);exact⟨gG,by simp only[objs',wh,um,af]⟩
 have XX:∀p,σ.used p->q0 objs' p/\lf p=ρ p:=by
  rintro p ⟨op,aT⟩;refine⟨?_,KD p ⟨op,aT⟩⟩;unfold q0;simp only[objs',wh];cases aq:fx um p with
  |some gG=>exact⟨gG,rfl⟩
  |none=>
   simp only;split;.exact⟨_,rfl⟩
   exact⟨op,aT⟩
 have EJ:∀p op,objs' p=some op->op.owns=true->(∃k dQ,φ k=p/\op=ui φ dQ/\fx (s.pf fq) k=some dQ/\lf p=cU k/\dQ.owns=true)\/(σ.objs p=some op/\¬passed p/\lf p=ρ p):=by
  intro p op aT eE;simp only[objs',wh]at aT;cases aq:fx um p with
  |some gG=>rw[aq]at aT;cases aT;obtain⟨k,dQ,ab,af,aw,a4⟩:=EI p op aq;refine .inl ⟨k,dQ,af,aw,a4,?_,by rw[aw,aiQ]at eE;exact eE⟩;rw[<-af];exact Qf k ab
  |none=>
   rw[aq]at aT;simp only at aT;split at aT;.cases aT;cases eE
   rename_i aL;refine .inr ⟨aT,?_,KD p ⟨op,aT⟩⟩;rintro⟨k,ak,rfl⟩;exact aL (xax.2 ⟨k,ak,rfl⟩)
 have ai0:Den cI fr lf ⟨σ.aJ,objs'⟩ a w':=by
  refine⟨lO.mem,⟨λb hr aj=>lO.frame.pR b hr (KB b hr aj),⟨lO.frame.quiet.os,lO.frame.quiet.out,lO.frame.quiet.low,lO.frame.quiet.r4⟩⟩,?_,?_,?_,?_,?_,?_⟩;.intro b aj;have ab:=lO.apart b aj;cases bd:fr b with|none=>rfl|some hr=>rw[KB b hr bd]at ab;cases ab
  .rintro p ⟨op,aT⟩;simp only[objs',wh]at aT;cases aq:fx um p with
   |some gG=>obtain⟨k,dQ,ab,af,aw,a4⟩:=EI p gG aq;rw[<-af,Qf k ab];exact lO.one k ⟨dQ,a4⟩
   |none=>
    rw[aq]at aT;simp only at aT;have hu:σ.used p:=by
     split at aT;.rename_i hm;obtain⟨k,ak,rfl⟩:=xax.1 hm;obtain⟨ok,ai1⟩:=Ku (lo:=s.nJ (ao++ba)) (k:=k) (by rw[Qb];exact ak);obtain⟨o',ab,_⟩:=cy.ok k ok ai1;exact⟨o',ab⟩
     exact⟨op,aT⟩
    rw[KD p hu];exact h.one p hu
  .intro t;exact(h.aJ t).mono uk XX
  .intro p op aT;by_cases eE:op.owns=true
   .rcases EJ p op aT eE with⟨k,dQ,ab,af,aw,a4,b7⟩|⟨ab,af,aw⟩;.rw[af,a4];exact aiP XW (lO.objs k dQ aw)
    rw[aw];refine(h.objs p op ab).mono uk XX ?_;intro b tN j6;have a4:=KC b p op ab eE af j6;have b7:∃hr,w.heap[b]?=some hr:=⟨_,xao ((h.objs p op ab).tI tN j6)⟩;obtain⟨hr,b7⟩:=b7;rw[b7];exact lO.frame.pR b hr (by rw[a4,b7])
   cases op with|dead=>trivial|_=>exact absurd rfl eE
  .intro p op b aT eE aj;rcases EJ p op aT eE with⟨k,dQ,ab,af,aw,a4,b7⟩|⟨ab,af,aw⟩
   .rw[a4]at aj;have cO:=lO.own k dQ b aw b7 aj;refine⟨cO.1,?_⟩;cases bd:fr b with|none=>rfl|some hr=>rw[KB b hr bd]at cO;cases cO.2
   rw[aw]at aj;have a4:=h.own p op b ab eE aj;refine⟨?_,a4.2⟩;refine xbA λx9=>?_;have b7:=lO.apart b x9;rw[KC b p op ab eE af aj]at b7;have:=(h.objs p op ab).tI eE aj;rw[xao this]at b7;cases b7
  intro p oa op EK b cP aT ya eE EL aj;rcases EJ p op aT eE with⟨k,dQ,ab,af,aw,a4,b7⟩|⟨ab,af,aw⟩
  .rw[a4]at aj;rcases EJ oa EK ya EL with⟨bs,EE,eS,hY,iM,p5,yb⟩|⟨eS,hY,iM⟩
   .rw[p5];exact lO.sep k bs dQ EE b (by rintro rfl;exact cP (ab.symm.trans eS)) aw iM b7 yb aj
   rw[iM];intro gU;have cO:=(lO.own k dQ b aw b7 aj).2;rw[KC b oa EK eS EL hY gU]at cO;have:=(h.objs oa EK eS).tI EL gU;rw[xao this]at cO;cases cO
  rw[aw]at aj;rcases EJ oa EK ya EL with⟨bs,EE,eS,hY,iM,p5,yb⟩|⟨eS,hY,iM⟩
  .rw[p5];intro gU;have cO:=(lO.own bs EE b iM yb gU).2;rw[KC b p op ab eE af aj]at cO;have:=(h.objs p op ab).tI eE aj;rw[xao this]at cO;cases cO
  rw[iM];exact h.sep p oa op EK b cP ab eS eE EL aj
 have mQ:b4 cI lf (q0 objs') (EG φ (s.KA fq)) v:=XN XW AW;have JW:∀p,10000<=p->eN (objs' p)->eN (σ.objs p):=by
  intro p aT hD;simp only[objs',wh]at hD;cases aq:fx um p with
  |some gG=>
   obtain⟨k,dQ,aV,a2,bc,cV⟩:=EI p gG aq;rcases Qg k aV with⟨af,aw,a4,b7⟩|⟨_,af⟩;.obtain⟨a8,cO⟩:=AK b7;obtain⟨o',gp,hT⟩:=cy.ok k _ cO;rw[cO]at b7;rw[<-a2,a4,gp];exact aiU hT b7
   rw[a2]at af;exact absurd af (Nat.not_lt.2 aT)
  |none=>
   rw[aq]at hD;simp only at hD;split at hD;.exact absurd hD D3
   exact hD
 refine⟨_,cI,lf,⟨ak,by rw[aG.vG];exact JW⟩,uk,ai0.put mQ iz,sj v,l9 v,?_⟩;intro p aT aj;rw[aG.vG];obtain⟨cs,hD⟩:=AK aj;refine⟨?_,KD p ⟨_,hD⟩⟩;show eN (objs' p);simp only[objs',wh];by_cases Qh:p∈(s.ins.map (·.1)).map (gb ck)
 .obtain⟨k,EM,rfl⟩:=xax.1 Qh;obtain⟨q,bk,rfl⟩:=xax.1 EM;have ab:=et q bk;by_cases a4:10000<=q.1
  .rw[xad a4]at ab;simp only[xam,xbr,xbH]at ab;obtain⟨_,oa,ya,b7,cO⟩:=ab;have wi:q.1∈s.outs.map (·.1):=xax.2 ⟨oa,ya,b7⟩;have ai2:φ q.1=gb ck q.1:=by rw[<-XV];simp only[q1,xad a4]
   obtain⟨gG,gp⟩:=Qa (φ:=φ) (lo:=s.pf fq) (k:=q.1) (by rw[Qc];exact wi);obtain⟨k,dQ,aV,a2,bc,cV⟩:=EI _ gG gp;have di:k=q.1:=XS k q.1 aV wi a2;subst di;have hS:eN (fx (s.pf fq) q.1):=XQ (ls:=fq) (n:=(pe fq s.res 0).2) dy ya b7 cO;rw[cV]at hS;rw[<-ai2];have q2:fx um (φ q.1)=some gG:=gp;rw[q2,bc];rcases hS with⟨ay8,hS⟩|⟨p6,ai3,hS⟩|⟨ai3,hS⟩
   .cases hS;exact tQ
   .cases hS;exact si
   cases hS;exact vF
  rw[xab a4]at ab;simp only[xam,xaC]at ab;exact absurd ab.2 (Nat.not_lt.2 aT)
 cases aq:fx um p with
 |some gG=>
  exfalso;obtain⟨k,dQ,aV,a2,bc,cV⟩:=EI p gG aq;rcases Qg k aV with⟨af,aw,a4,b7⟩|⟨af,_⟩
  .exact Qh (xax.2 ⟨k,aw,by rw[<-a4,a2]⟩)
  rw[a2,hD]at af;cases af
 |none=>simp only;rw[xab Qh];exact aj
end
structure Bg where
 s:fM
 F:List D->Option (List D)
 base:Nat
 pd:List v9
abbrev wj:=Tmp->Option Bg
def kV(P:Program)(G:dm)(H:wj):Prop:=∀t e,H t=some e->e2 P G e.s e.F
def KE:aS->List Key
 | .row k=>[k]| .map k=>[k]|_=>[]
def KF:aS->List Key
 | .agg cs=>cs.flatMap KE| .fn _ as j7=>as.flatMap KE++j7.flatMap KE|x=>KE x
def KG:aS->List Key
 | .ptr k _=>[k]|_=>[]
def XY:aS->List Key
 | .agg cs=>cs.flatMap KG| .fn _ as j7=>as.flatMap KG++j7.flatMap KG|x=>KG x
def XZ(objs:cF)(k:Key):List aS:=match objs k with|some (.box cs)=>cs|_=>[]
section
variable{β:Type}
def X0(T:cg)(G:dm)(C:lK)(σ:aG)(o:Oper)(x:Operand)(args:List Operand)(k:aG->Option β):Option β:=
 let tS:=(x::args).map (ch G σ.aJ)
 let eT:=tS.flatMap XY
 let bU:=eT.flatMap (XZ σ.objs)
 let hs:=bU.flatMap XY
 let b9:=hs.flatMap (XZ σ.objs)
 x8 [tS.flatMap KF++bU.flatMap KF++b9.flatMap KF,hs,eT] σ λσ=>xZ T G C σ o x args k
def X1(o:Oper):Tmp:=match o.op,o.dst with| .store _ (.tmp a) _,_=>20000+a| .mapUpdate _ (.tmp a) _ _,_=>30000+a|_,some d=>d|_,none=>9999
def ai4:Op->List Operand
 | .buildSlice _ _ jR=>jR.toList.map (·.2)| .build _ jR=>jR.toList.map (·.2)| .box _ x=>[x]| .store _ _ x=>[x]| .mapUpdate _ _ _ x=>[x]| .call ⟨.builtin .append,args,_⟩=>args.toList.drop 1|_=>[]
def Bh:D->Option (TypeId×D)
 | .dW t x=>some (t,x)|_=>none
def gq{ee:Type}(t c:Nat)(a b:Option ee):Option ee:=if t=c then a else b
def KH(qB:TypeId->Option FuncId)(t:TypeId)(k:FuncId->Option D):List TypeId->Option D
 |[]=>none|c::r=>gq t c (match qB c with|some f=>k f|none=>none) (KH qB t k r)
def Qi(T:cg)(G:dm)(C:lK)(σ:aG)(o:Oper)(x:Operand)(name:String)(args:List Operand)(k:aG->Option β):Option β:=match ch G σ.aJ x with
 | .d a=>match hv ((args.map (ch G σ.aJ)).map (toD σ.objs))with|some aO=>aa (Bh a) λp=>aa (KH (λt=>T.qB t name) p.1 (λf=>C (o.dst.getD 9999) f (p.2::aO)) T.On) λr=>aD ((args.map (ch G σ.aJ)).all sk) (k (σ.put o.dst (.d r)))|none=>none
 |_=>none
def Qj(T:cg)(G:dm)(C:lK)(H:wj)(kb:Tmp->Bool)(σ:aG)(o:Oper)(k:aG->Option β):Option β:=match o.op with
 | .call ⟨.value x,args,_⟩=>match H (o.dst.getD 9999)with
  |some e=>ot e.pd σ λσ=>P9 G e.s e.F e.base σ o x args.toList λaU=>match kb (o.dst.getD 9999)with|true=>EF (o.dst.getD 9999) aU k|false=>k aU
  |none=>match kb (o.dst.getD 9999)with|true=>X0 T G C σ o x args.toList k|false=>xZ T G C σ o x args.toList k
 | .call ⟨.invoke x name,args,_⟩=>Qi T G C σ o x name args.toList k| .slice _ _ _ _ _=>match kb (X1 o)with|true=>uf T G σ o λaU=>EF (o.dst.getD 9999) aU k|false=>uf T G σ o k
 |_=>match kb (X1 o)with|true=>x8 [((ai4 o.op).map (ch G σ.aJ)).flatMap KF] σ λσ=>uf T G σ o k|false=>uf T G σ o k
def Qk(T:cg)(G:dm)(C:lK)(H:wj)(kb:Tmp->Bool):List Oper->aG->(aG->Option β)->Option β
 |[],σ,k=>k σ|o::r,σ,k=>Qj T G C H kb σ o λaU=>Qk T G C H kb r aU k
def Ql(o:Oper):Bool:=still o||pX o.op
def yc(T:cg)(G:dm)(C:lK)(H:wj)(kb:Tmp->Bool)(all:Array Oper):List (Option (Nat×Bool)×List Oper)->aG->(aG->Option β)->Option β
 |[],σ,k=>k σ|(none,os)::r,σ,k=>Qk T G C H kb os σ λaU=>yc T G C H kb all r aU k
 |(some (j,want),os)::r,σ,k=>match(all[j]?).bind (·.dst),v5 os with
  |some d,some ca=>match σ.aJ d with
   | .d x=>if os.all (λo=>Ql o&&o.dst !=some d)=true then
     (if(kept all os (flat r)).all (·==ca)=true then
      aa (bL x want (sw T G C os σ λaU=>match aU.aJ ca with| .d v=>some v|_=>none)) λv=>yc T G C H kb all r ((lL (dstsOf os) σ).put (some ca) (.d v)) k
     else aa (bL x want (sw T G C os σ λaU=>match Eu aU (kept all os (flat r))with|some l=>some (.agg l)|none=>none)) λv=>yc T G C H kb all r (v7 (kept all os (flat r)) v (lL (dstsOf os) σ)) k)else none
   |_=>none
  |_,_=>none
def X2(T:cg)(G:dm)(C:lK)(H:wj)(kb:Tmp->Bool)(all:Array Oper)(σ:aG)(k:aG->Option β):Option β:=yc T G C H kb all (vZ all.toList) σ k
end
def Bi{objs:cF}{k d:Key}{o:cS}(h:eN (some o)->eN (objs k)\/k=d):∀j,eN (ct objs k (some o) j)->eN (objs j)\/j=d:=by
 intro j aN;by_cases gm:j=k;.subst gm;rw[e1]at aN;exact h aN
 rw[cX _ _ gm]at aN;exact .inl aN
def ai5{T:cg}{ev:Operand->aS}{objs:cF}{d:Key}{o:Op}{r:aS}{cz:List (Key×cS)}(h:ei T ev objs d o=some (r,cz)):∀j,eN (dC objs cz j)->eN (objs j)\/j=d:=by
 have new:∀{o:cS},∀j,eN (dC objs [(d,o)] j)->eN (objs j)\/j=d:=by intro o;exact Bi (λ_=> .inr rfl)
 have row:∀{k:Key}{n fO:Nat}{es g5:List (List D)},objs k=some (.row fO g5)->∀j,eN (dC objs [(k,.row n es)] j)->eN (objs j)\/j=d:=by intro k n fO es g5 ak;exact Bi (λ_=> .inl (by rw[ak];exact si))
 have mp:∀{k:Key}{es g5:List (Value×D)},objs k=some (.map g5)->∀j,eN (dC objs [(k,.map es)] j)->eN (objs j)\/j=d:=by intro k es g5 ak;exact Bi (λ_=> .inl (by rw[ak];exact vF))
 cases o<;>simp only[ei,reduceCtorEq]at h
 case alloc=>split at h<;>cases h;exact new
 case box=>split at h<;>cases h;exact new
 case buildSlice=>
  split at h
  case h_2=>cases h
  split at h
  case h_2=>cases h
  split at h
  case h_2=>cases h
  split at h<;>cases h;exact new
 case makeSlice=>
  split at h
  case h_2=>cases h
  split at h
  case h_2=>cases h
  split at h
  case h_2=>cases h
  split at h<;>cases h;exact new
 case makeMap=>split at h<;>cases h;exact new
 case store=>
  split at h
  case h_2=>cases h
  split at h
  case isFalse=>cases h
  split at h
  .split at h
   case h_2=>cases h
   split at h<;>cases h;rename_i ak _;exact Bi λ_=> .inl (by rw[ak];exact tQ)
  .split at h
   case h_2=>cases h
   split at h
   case isFalse=>cases h
   split at h<;>cases h;exact row (by assumption)
  cases h
 case mapUpdate=>
  split at h
  case h_2=>cases h
  split at h
  case h_2=>cases h
  split at h
  case isFalse=>cases h
  split at h
  case h_2=>cases h
  split at h
  case h_2=>cases h
  split at h<;>cases h;exact mp (by assumption)
 case insert=>
  split at h
  case h_2=>cases h
  split at h
  case h_2=>cases h
  split at h
  case isFalse=>cases h
  split at h
  case h_2=>cases h
  split at h
  case h_2=>cases h
  split at h<;>cases h;exact mp (by assumption)
 case call=>
  split at h
  .split at h
   case h_2=>cases h
   split at h
   case h_2=>cases h
   split at h
   case h_2=>cases h
   split at h
   case h_2=>cases h
   split at h
   case isFalse=>cases h
   split at h;.split at h<;>cases h;exact new
   .split at h
    case h_2=>cases h
    split at h<;>cases h;intro j aN;rcases Bi (d:=d) (λ_=> .inr rfl) j aN with ab|ab
    .exact Bi (λh=>absurd h D3) j ab
    exact .inr ab
   cases h
  .split at h
   case h_2=>cases h
   split at h
   case h_2=>cases h
   split at h
   case h_2=>cases h
   split at h
   case h_2=>cases h
   split at h
   case isFalse=>cases h
   split at h
   .split at h
    case h_2=>cases h
    split at h<;>cases h;exact row (by assumption)
   .split at h
    case h_2=>cases h
    split at h<;>cases h;exact row (by assumption)
   cases h
  .split at h
   case h_2=>cases h
   split at h
   case h_2=>cases h
   split at h
   case h_2=>cases h
   split at h
   case h_2=>cases h
   split at h
   case h_2=>cases h
   split at h<;>cases h;exact row (by assumption)
  cases h
def ai6{T:cg}{ev:Operand->aS}{objs:cF}{d:Key}{o:Op}{r:aS}{cz:List (Key×cS)}(h:g7 T ev objs d o=some (r,cz)):∀j,eN (dC objs cz j)->eN (objs j)\/j=d:=by
 obtain⟨⟨jB,sg⟩,au,aj⟩:=vD h;have ab:=ai5 au;intro j aN;by_cases aA:j=d
 .exact .inr aA
 rcases xG (T.born d) d jB sg with e|⟨n,es,rfl,rfl,e⟩|⟨dk,n,es,rfl,rfl,e⟩|⟨off,cs,aO,rfl,rfl,eM,e⟩;.rw[aj]at e;cases e;exact ab j aN
 .rw[aj]at e;cases e;exact ab j (by simp only[dC,cX _ _ aA]at aN⊢;exact aN)
 .rw[aj]at e;cases e;exact ab j (by simp only[dC,cX _ _ aA]at aN⊢;exact aN)
 rw[aj]at e;cases e;exact ab j (by simp only[dC,cX _ _ aA]at aN⊢;exact aN)
section
variable{P:Program}{T:cg}{G:dm}{N:Nat}{σ:aG}{all:Array Oper}{ib:List Key}
def fL.put(h:fL ib σ){dst:Option Tmp}{r:aS}:fL ib (σ.put dst r):=by intro k ak aj;rw[aG.vG]at aj;exact h k ak aj
def Qm(bP:fL ib σ){o:Oper}(aA:∀d,o.dst=some d->d<10000){aU:aG}(h:gV T G σ o=some aU):fL ib aU:=by
 unfold gV at h;split at h;.cases h;exact bP.put
 split at h;.cases h;exact bP.put
 split at h
 case h_2=>cases h
 rename_i r cz he;cases h;refine fL.put ?_;intro k ak aj;rcases ai6 he k aj with ab|ab
 .exact bP k ak ab
 exfalso;have:o.dst.getD 9999<10000:=by cases aF:o.dst with|none=>simp|some d=>exact aA d aF
 exact absurd this (Nat.not_lt.2 (ab▸ak))
def X3(bP:fL ib σ){o:Oper}(aA:∀d,o.dst=some d->d<10000){K:aG->Prop}(h:da P T G o K σ):da P T G o (λaU=>fL ib aU/\K aU) σ:=by
 unfold da at*;split;.rename_i aU aH;simp only[aH]at h;exact⟨Qm bP aA aH,h⟩
 rename_i aH;simp only[aH]at h;unfold jC at*;split at h
 case h_2=>cases h
 split at h
 case h_2=>cases h
 obtain⟨nb,aO,R,ab,af,aw,a4,b7,cO⟩:=h;exact⟨nb,aO,R,ab,af,aw,a4,b7,λr av=>⟨bP.put,cO r av⟩⟩
def Qn:∀{l:List Oper}{σ:aG}{K:aG->Prop},fL ib σ->(∀o∈l,∀d,o.dst=some d->d<10000)->fP P T G all l K σ->fP P T G all l (λaU=>fL ib aU/\K aU) σ
 |[],σ,K,bP,_,h=>⟨bP,h⟩|o::l,σ,K,bP,aA,h=>by unfold fP at*;rw[hE]at*;cases hw:jS all σ o with|none=>rw[hw]at h;exact h|some w=>rw[hw]at h;cases w with|true=>exact pZ (λaU ⟨ab,af⟩=>Qn ab (λo aF=>aA o (by simp[aF])) af) (X3 bP (aA o (by simp)) h)|false=>exact Qn bP.put (λo aF=>aA o (by simp[aF])) h
end
section
variable{P:Program}{T:cg}{G:dm}{C:lK}{H:wj}{kb:Tmp->Bool}{N:Nat}{σ:aG}{all:Array Oper}{ib:List Key}
def ov(P:Program)(G:dm)(N:Nat)(all:Array Oper)(i:Nat)(l:List Oper)(K:aG->Prop)(σ:aG):Prop:= ∀m fr ρ a w (Q:Exit->Act->World->Prop),kn G m->Den m fr ρ σ a w->N<=a.tmps.size->a.defers=[]->(∀cC w',iW N m fr ρ σ K cC w'->Q .normal cC w')->wpOps P all Q (List.range' i l.length) a w
def jk(P:Program)(G:dm)(N:Nat)(o:Oper)(K:aG->Prop)(σ:aG):Prop:= ∀m fr ρ a w (Q:Exit->Act->World->Prop),kn G m->Den m fr ρ σ a w->N<=a.tmps.size->a.defers=[]->o.wp P a w (iW N m fr ρ σ K) Q
def ai7{i:Nat}{K:aG->Prop}(h:K σ):ov P G N all i [] K σ:=λm fr ρ a w Q c3 cY b3 aA hh=>hh a w ⟨σ,m,ρ,h,Mem.le_refl m,cY,b3,aA,kP.refl _ _⟩
def ai8{i:Nat}{o:Oper}{l:List Oper}{K:aG->Prop}(ah:all[i]?=some o)(cc:o.guard=none)(h:jk P G N o (ov P G N all (i+1) l K) σ):ov P G N all i (o::l) K σ:=by
 intro m fr ρ a w Q c3 cY b3 aA hh;rw[xap,List.range'_succ,wpOps_cons];refine wpOp_mono (K:=iW N m fr ρ σ (ov P G N all (i+1) l K)) ?_ ?_;.rintro cC w' ⟨aU,cI,cU,bC,bD,cy,ey,fm,g8⟩;exact bC cI fr cU cC w' Q (c3.mono bD) cy ey fm λo5 kQ av=>hh o5 kQ (av.trans bD g8)
 unfold wpOp;simp only[ah];have:Region.wanted o (yielded all a.tmps)=true:=by simp[Region.wanted,cc]
 rw[xad this];exact .inl (h m fr ρ a w Q c3 cY b3 aA)
def jk.mono{o:Oper}{K K':aG->Prop}(ak:∀σ,K σ->K' σ)(h:jk P G N o K σ):jk P G N o K' σ:=λm fr ρ a w Q c3 cY b3 aA=>by
  have:=h m fr ρ a w Q c3 cY b3 aA;unfold Oper.wp at*;generalize (execOp a.eval o).run P w=r at*;cases r with
  |ok n w'=>
   cases n<;>simp only[Oper.upon]at this⊢<;>first|exact this.mono ak|exact this|skip
   .refine this.mono λe kQ he=>?_;cases e with|returned v=>exact he.mono ak|panicked c=>exact he|outgrown=>exact he
   exact this.mono λv kQ he=>he.mono ak
  |halt x w'=>cases x<;>exact this
def jk.Ev{o:Oper}{K:aG->Prop}{τ:aG}(he:gX σ τ)(h:jk P G N o K τ):jk P G N o K σ:=by
 intro m fr ρ a w Q c3 cY b3 aA;obtain⟨cI,cU,ab,af,aw⟩:=he m fr ρ a w cY;have:=h cI fr cU a w Q (c3.mono ab) af b3 aA;unfold Oper.wp at*;generalize (execOp a.eval o).run P w=r at*;cases r with
 |ok n w'=>
  cases n<;>simp only[Oper.upon]at this⊢<;>first|exact this.trans ab aw|exact this|skip
  .refine this.mono λe kQ he=>?_;cases e with|returned v=>exact he.trans ab aw|panicked c=>exact he|outgrown=>exact he
  exact this.mono λv kQ he=>he.trans ab aw
 |halt x w'=>cases x<;>exact this
def Qo(bf:dM P T){o:Oper}(gW:∀d,o.dst=some d->d<N){K:aG->Prop}(h:da P T G o K σ):jk P G N o K σ:=λm fr ρ a w Q c3 cY b3 aA=>O6 bf c3 cY b3 aA gW h
def ai9{ks:List Key}(h:fL ib σ):fL ib (freeze ks σ):=by
 intro k ak aj;have gU:eN (if k∈ks then some .dead else(σ.objs k).map (ED σ.objs ks)):=aj;split at gU
 .exact absurd gU D3
 cases aF:σ.objs k with|none=>rw[aF]at gU;exact absurd gU tR|some dQ=>rw[aF]at gU;cases dQ with|box cs=>exact h k ak (by rw[aF];exact tQ)|dead=>exact absurd gU D3|row=>exact h k ak (by rw[aF];exact si)|map=>exact h k ak (by rw[aF];exact vF)
def EN{β:Type}:∀{l:List (List Key)} {σ:aG} {k:aG->Option β} {b:β},fL ib σ->x8 l σ k=some b->∃τ,gX σ τ/\fL ib τ/\k τ=some b
 |[],σ,k,b,bP,h=>⟨σ,gX.refl σ,bP,h⟩
 |ks::r,σ,k,b,bP,h=>by
  unfold x8 at h;split at h;.exact EN bP h
  split at h
  case isFalse=>cases h
  rename_i eG;obtain⟨τ,ab,af,aw⟩:=EN (ai9 bP) h;exact⟨τ,(aiL _ eG).trans ab,af,aw⟩
def X4{β:Type}{t:Tmp}{σ:aG}{k:aG->Option β}{b:β}(bP:fL ib σ)(h:EF t σ k=some b):∃τ,gX σ τ/\fL ib τ/\k τ=some b:=by
 unfold EF at h;split at h
 case h_2=>cases h
 rename_i key cR i len aM;split at h
 case h_2=>cases h
 rename_i bs es ak au;split at h
 case isFalse=>cases h
 rename_i di;obtain⟨di,p4,om⟩:=di;subst di;obtain⟨ab,af⟩:=lj h;refine⟨_,aiM aM ak au (xaW ab) p4,?_,af⟩;intro j aN an;simp only at an;by_cases aw:j=t;.subst aw;exact absurd om (Nat.not_lt.2 aN)
 rw[cX _ _ aw]at an;by_cases a4:j=key;.subst a4;exact absurd p4 (Nat.not_lt.2 aN)
 rw[cX _ _ a4]at an;exact bP j aN an
def jk.out{o:Oper}{K:aG->Prop}(h:jk P G N o (λaU=>∃τ,gX aU τ/\K τ) σ):jk P G N o K σ:=λm fr ρ a w Q c3 cY b3 aA=>by
  have key:∀{cC w'},iW N m fr ρ σ (λaU=>∃τ,gX aU τ/\K τ) cC w'->iW N m fr ρ σ K cC w':=by rintro cC w' ⟨aU,cI,cU,⟨τ,aV,a2⟩,af,aw,a4,b7,cO⟩;obtain⟨xO,xP,aK,aY,bN⟩:=aV cI fr cU cC w' aw;exact⟨τ,xO,xP,a2,Mem.le_trans af aK,aY,a4,b7,cO.trans bN⟩
  have:=h m fr ρ a w Q c3 cY b3 aA;unfold Oper.wp at*;generalize (execOp a.eval o).run P w=r at*;cases r with
  |ok n w'=>
   cases n<;>simp only[Oper.upon]at this⊢<;>first|exact key this|exact this|skip
   .refine this.mono λe kQ he=>?_;cases e with|returned v=>exact key he|panicked c=>exact he|outgrown=>exact he
   exact this.mono λv kQ he=>key he
  |halt x w'=>cases x<;>exact this
def X5{β:Type}(bf:dM P T)(cf:hj P G C){o:Oper}(gW:∀d,o.dst=some d->d<N){x:Operand}{args:Array Operand}{dE:Array TypeId}(aF:o.op= .call ⟨.value x,args,dE⟩){k:aG->Option β}{b:β}(bP:fL ib σ) (h:xZ T G C σ o x args.toList k=some b):jk P G N o (λaU=>k aU=some b/\fL ib aU) σ:=by refine Qo bf gW (pZ ?_ (Ko (T:=T) cf aF h));rintro aU ⟨ab,af,_⟩;refine⟨ab,λj aN aj=>bP j aN (by rw[<-af];exact aj)⟩
def X6{qB:TypeId->Option FuncId}{t:TypeId}{k:FuncId->Option D}{r:D}:∀{l:List TypeId},KH qB t k l=some r->∃f,qB t=some f/\k f=some r
 |[],h=>by cases h
 |c::l,h=>by
  unfold KH gq at h;split at h
  .rename_i an;subst an;split at h;.rename_i f bd;exact⟨f,bd,h⟩
   cases h
  exact X6 h
def aja{P:Program}{t:TypeId}{name:String}{f:FuncId}(hm:Jb P t name f)(n:Nat)(v:Value)(w:World):(method (n+1) t v name).run P w= .ok (f,v) w:=by
 obtain⟨info,m,d,ab,af,aw,a4,b7,cO⟩:=hm;have aK:(typeInfo t).run P w= .ok info w:=by simp[typeInfo,ab]
 unfold method;simp only[xag,aK,xaf,af,aw,follow,xau,a4,receiverAt,xas b7];cases d<;>first|(simp only[Place.get,xau,xaf];done)|(exact absurd rfl (cO _))
def ajb{P:Program}{va:Operand->Value}{x:Operand}{name:String}{args:Array Operand}{dE:Array TypeId}{ty:TypeId}{t:TypeId}{v:Value}{f:FuncId}{w:World}(ag:va x= .iface t v)(hm:Jb P t name f)(bd:vE P f):(do let d<-resolve va {callee:= .invoke x name,args:=args,argTypes:=dE} ty;invoke d.target d.args:Sem Next).run P w= .ok (.enter f (#[v]++args.map va)) w:=by
 obtain⟨fn,ab,af,aw⟩:=bd;have jw:0<Made.depth:=by decide
 have aA:∃n,P.types.size+Made.depth=n+1:=⟨P.types.size+Made.depth-1,by omega⟩;obtain⟨n,aL⟩:=aA;have bH:(#[Value.iface t v]++args.map va)[0]?=some (Value.iface t v):=by rw[xbI (by simp)];rfl
 have aK:(#[Value.iface t v]++args.map va).extract 1 (#[Value.iface t v]++args.map va).size=args.map va:=by apply xbC;simp[List.extract,xbz]
 have aY:(program:Sem Program).run P w= .ok P w:=rfl;have uk:=aja hm n v w;have Qp:(callFunc f (#[v]++args.map va)).run P w= .ok (.enter f (#[v]++args.map va)) w:=by simp only[callFunc,xag,aY,xaf,ab,af,aw,xat,xaG,xau]
 simp only[xag,resolve,ag,xau,xaf,invoke,bH,aK,callMethod,aY,aL,uk,Qp]
def ajc{β:Type}(bf:dM P T)(cf:hj P G C){o:Oper}(gW:∀d,o.dst=some d->d<N){x:Operand}{name:String}{args:Array Operand}{dE:Array TypeId}(aF:o.op= .call ⟨.invoke x name,args,dE⟩){k:aG->Option β}{b:β}(bP:fL ib σ) (h:Qi T G C σ o x name args.toList k=some b):jk P G N o (λaU=>k aU=some b/\fL ib aU) σ:=by
 unfold Qi at h;split at h
 case h_2=>cases h
 rename_i d aA;split at h
 case h_2=>cases h
 rename_i aO eM;obtain⟨p,aT,h⟩:=fp h;obtain⟨r,av,h⟩:=fp h;obtain⟨b7,cO⟩:=lj h;obtain⟨f,bd,Qp⟩:=X6 av;have X7:=cf _ _ _ _ Qp;have sm:=bf.Jc _ _ _ bd;obtain⟨t,y⟩:=p;have ajd:d= .dW t y:=by
  unfold Bh at aT;split at aT;.cases aT;rfl
  cases aT
 subst ajd;intro m fr ρ a w Q c3 Qq b3 hx;have dw:=DJ (a:=a) c3 Qq.aJ;have iz:∀d,o.dst=some d->d<a.tmps.size:=λd aA=>Nat.lt_of_lt_of_le (gW d aA) b3;have sj:∀v,N<=(a.put o.dst v).tmps.size:=by intro v;cases o.dst<;>simpa[Act.put]using b3
 have l9:∀v,(a.put o.dst v).defers=[]:=by intro v;cases o.dst<;>exact hx
 have ag:=dw x;rw[aA]at ag;have ag:=ag.n8;obtain⟨v,OQ,aje⟩:∃v,a.eval x= .iface t v/\dv m y v:=by generalize a.eval x=u at ag;cases ag with|dW _ _ v h=>exact⟨v,rfl,h⟩
 have O4:(execOp a.eval o).run P w= .ok (.enter f (#[v]++args.map a.eval)) w:=by unfold execOp;rw[aF];exact ajb OQ sm X7.fn
 unfold Oper.wp;rw[O4];have O5:xH m (y::aO) (#[v]++args.map a.eval).toList:=by obtain⟨aV,a2⟩:=qM eM;refine⟨by simp[aV],?_⟩;intro i d ko aA a6;simp only[Array.toList_append,xce,xaH,Array.toList_map]at a6;cases i with|zero=>simp at aA a6;subst aA;subst a6;exact aje|succ i=>simp only[xcb]at aA a6;have bc:=a2 i d aA;simp only[xaj,xah]at bc a6;obtain⟨z,⟨q,bk,rfl⟩,ajf⟩:=bc;obtain⟨ay9,sz,rfl⟩:=a6;rw[bk]at sz;cases sz;exact O2 (xay.1 b7 _ (xax.2 ⟨q,xac bk,rfl⟩)) ajf (dw q)
 have sl:=X7.run m _ w _ c3 Qq.V5 O5;simp only[Array.toArray_toList]at sl;refine sl.mono λe w' he=>?_;obtain⟨ko,cI,r9,rfl,bC,bD,cy,ey⟩:=he;subst bC;have ajg:=Qq.kept bD cy;exact⟨_,cI,ρ,⟨cO,λj aN aj=>bP j aN (by simpa using aj)⟩,bD,ajg.put (.d _ _ ey) iz,sj ko,l9 ko,λk ak aj=>⟨by simpa using aj,rfl⟩⟩
def ajh{β:Type}(bf:dM P T)(cf:hj P G C)(gf:kV P G H)(b3:N<10000){o:Oper}(gW:∀d,o.dst=some d->d<N){k:aG->Option β}{b:β}(bP:fL ib σ)(h:Qj T G C H kb σ o k=some b):jk P G N o (λaU=>k aU=some b/\fL ib aU) σ:=by
 unfold Qj at h;split at h
 .rename_i x args dE aF;split at h
  .rename_i e he;obtain⟨τ,t1,Qr,h⟩:=sy bP h;refine jk.Ev t1 ?_;generalize fK:(λaU=>match kb (o.dst.getD 9999)with|true=>EF (o.dst.getD 9999) aU k|false=>k aU)=bs at h;have main:jk P G N o (λaU=>bs aU=some b/\fL ib aU) τ:=by refine jk.mono (K:=λaU=>bs aU=some b/\∀p,10000<=p->eN (aU.objs p)->eN (τ.objs p)) (λaU ⟨ab,af⟩=>⟨ab,λp aT aj=>Qr p aT (af p aT aj)⟩) ?_;intro m fr ρ a w Q c3 cY nD aA;exact aiV c3 cY nD aA gW (gf _ _ he) aF h (Q:=Q)
   refine jk.out (jk.mono ?_ main);rintro aU ⟨ab,af⟩;subst fK;simp only at ab;split at ab;.obtain⟨aji,aV,a2,bc⟩:=X4 af ab;exact⟨aji,aV,bc,a2⟩
   exact⟨aU,gX.refl aU,ab,af⟩
  split at h;.unfold X0 at h;simp only at h;obtain⟨τ,ab,af,aw⟩:=EN bP h;exact jk.Ev ab (X5 bf cf gW aF af aw)
  exact X5 bf cf gW aF bP h
 .rename_i x name args dE aF;exact ajc bf cf gW aF bP h
 .have step:∀{τ:aG}{k:aG->Option β},fL ib τ->uf T G τ o k=some b->jk P G N o (λaU=>k aU=some b/\fL ib aU) τ:=by
   intro τ k bP h;obtain⟨aU,ab,af⟩:=A4 h;refine Qo bf gW ?_;unfold da;rw[ab];exact⟨af,Qm bP (λd aA=>Nat.lt_trans (gW d aA) b3) ab⟩
  split at h;.refine jk.out (jk.mono ?_ (step bP h));rintro aU ⟨ab,af⟩;obtain⟨τ,aV,a2,bc⟩:=X4 af ab;exact⟨τ,aV,bc,a2⟩
  exact step bP h
 have step:∀{τ:aG},fL ib τ->uf T G τ o k=some b->jk P G N o (λaU=>k aU=some b/\fL ib aU) τ:=by intro τ bP h;obtain⟨aU,ab,af⟩:=A4 h;refine Qo bf gW ?_;unfold da;rw[ab];exact⟨af,Qm bP (λd aA=>Nat.lt_trans (gW d aA) b3) ab⟩
 split at h;.obtain⟨τ,ab,af,aw⟩:=EN bP h;exact jk.Ev ab (step af aw)
 exact step bP h
def X8{β:Type}(bf:dM P T)(cf:hj P G C)(gf:kV P G H)(b3:N<10000){K:aG->Prop}:∀{os:List Oper}{r:List Oper}{i:Nat}{σ:aG}{k:aG->Option β}{b:β},(∀o∈os,o.guard=none)->(∀o∈os,∀d,o.dst=some d->d<N)->(∀j,(os++r)[j]?=all[i+j]?)->fL ib σ->(∀aU,fL ib aU->k aU=some b->ov P G N all (i+os.length) r K aU)->Qk T G C H kb os σ k=some b->ov P G N all i (os++r) K σ
 |[],r,i,σ,k,b,_,_,_,bP,ak,h=>ak σ bP h
 |o::os,r,i,σ,k,b,cc,aA,gl,bP,ak,h=>by
  have ah:all[i]?=some o:=by simpa using(gl 0).symm
  refine ai8 ah (cc o (by simp)) (jk.mono ?_ (ajh bf cf gf b3 (aA o (by simp)) bP h));rintro aU ⟨ab,af⟩;refine X8 bf cf gf b3 (λo aF=>cc o (by simp[aF])) (λo aF=>aA o (by simp[aF])) (λj=>by have:=gl (j+1);simpa[xbe,Nat.add_comm 1 j]using this) af ?_ ab;intro qR aw a4;have:=ak qR aw a4;rw[show i+(o::os).length=i+1+os.length by simp;omega]at this;exact this
def b4.shrink{m jV:Mem}{ρ Qs:df}{U p0:Key->Prop}{x:aS}{v:Value}(h:b4 m ρ U x v):∀{v0:Value},b4 jV Qs p0 x v0->b4 m ρ p0 x v:=by
 induction h with
 |any v=>intro v0 _;exact .any _
 |d x v h=>intro v0 _;exact .d _ _ h
 |agg cs vs aq h ih=>
  intro v0 au;cases au with|agg _ yd lP EO=>
  refine .agg _ _ aq λi c v an a6=>?_;have ah:i<yd.size:=by rw[lP];exact(xae.1 an).1
  exact ih i c v an a6 (EO i c _ an (xao ah))
 |a1 cs vs aq h ih=>
  intro v0 au;cases au with|a1 _ yd lP EO=>
  refine .a1 _ _ aq λi c v an a6=>?_;have ah:i<yd.size:=by rw[lP];exact(xae.1 an).1
  exact ih i c v an a6 (EO i c _ an (xao ah))
 |eo cs off b o vs T eD aj xs ab af=>intro v0 _;exact .eo _ _ b o vs T eD aj xs ab af
 |ptr key off b hu h=>intro v0 au;cases au with|ptr _ _ _ l7 _=>exact .ptr _ _ b l7 h
 |gk key k i off b o len cap hu h=>intro v0 au;cases au with|gk _ _ _ _ _ _ _ _ l7 _=>exact .gk _ _ _ _ b o len cap l7 h
 |row key hu=>intro v0 au;cases au with|row _ l7=>exact .row _ l7
 |sub key k i len b o L cap a hu h hle aI=>intro v0 au;cases au with|sub _ _ _ _ _ _ _ _ _ l7=>exact .sub _ _ _ _ b o L cap a l7 h hle aI|km _ _ _ l7=>exact .sub _ _ _ _ b o L cap a l7 h hle aI
 |km key k i hu h=>intro v0 au;cases au with|sub _ _ _ _ _ _ _ _ _ l7=>exact .km _ _ _ l7 h|km _ _ _ l7=>exact .km _ _ _ l7 h
 |map key hu=>intro v0 au;cases au with|map _ l7=>exact .map _ l7
 |fn f first captured vs ws aq ds h bz ih xr=>
  intro v0 au;cases au with|fn _ _ _ yd ajj lP ajk EO ajl=>
  refine .fn _ _ _ _ _ aq ds (λi c v an a6=>?_) (λi c v an a6=>?_)
  .have ah:i<yd.size:=by rw[lP];exact(xae.1 an).1
   exact ih i c v an a6 (EO i c _ an (xao ah))
  .have ah:i<ajj.size:=by rw[ajk];exact(xae.1 an).1
   exact xr i c v an a6 (ajl i c _ an (xao ah))
def ju.shrink{m jV:Mem}{ρ Qs:df}{U p0:Key->Prop}{o:cS}{v v0:Value}{w w0:World}(h:ju m ρ U v w o)(au:ju jV Qs p0 v0 w0 o):ju m ρ p0 v w o:=by
 cases o with
 |dead=>trivial
 |box cs=>
  obtain⟨b,vs,T,aK,aY,bN,cN⟩:=h;obtain⟨fF,yd,fI,f1,f2,f3,f4⟩:=au;refine⟨b,vs,T,aK,aY,bN,λi c x an ag=>?_⟩;have ah:i<yd.size:=by rw[f3];exact(xae.1 an).1
  exact(cN i c x an ag).shrink (f4 i c _ an (xao ah))
 |row=>exact h|map=>exact h
def ajm{m cI:Mem}{fr:fH}{ρ cU:df}{σ aU:aG}{a cC:Act}{w w':World}{aO:List Tmp}(h:Den m fr ρ σ a w)(bz:Den cI fr cU aU cC w')(o3:cF.ext σ.objs aU.objs)(aH:∀t,t∉aO->aU.aJ t=σ.aJ t){ca:Tmp}{v:D}(a6:aU.aJ ca= .d v)(x3:ca∈aO):Den cI fr cU ((lL aO σ).put (some ca) (.d v)) cC w':=by
 have ix:((lL aO σ).put (some ca) (.d v)).objs=σ.objs:=by simp[lL]
 refine⟨bz.mem,bz.frame,bz.apart,?_,?_,?_,?_,?_⟩;.rintro k ⟨o,aF⟩;rw[ix]at aF;exact bz.one k ⟨o,o3 k o aF⟩
 .intro t;by_cases om:t=ca;.subst om;simp only[aG.put,e1];have:=bz.aJ t;rw[a6]at this;exact .d _ _ this.n8
  simp only[aG.put,cX _ _ om,lL];split;.exact .any _
  rename_i aL;have ab:=bz.aJ t;rw[aH t aL]at ab;exact ab.shrink (h.aJ t)
 .intro k o ak;rw[ix]at ak;exact(bz.objs k o (o3 k o ak)).shrink (h.objs k o ak)
 .intro k o b ak aF aj;rw[ix]at ak;exact bz.own k o b (o3 k o ak) aF aj
 intro k bs o o' b cP ak fK aF og aj;rw[ix]at ak fK;exact bz.sep k bs o o' b cP (o3 k o ak) (o3 bs o' fK) aF og aj
def ajn{m cI:Mem}{fr:fH}{ρ cU:df}{σ aU:aG}{a cC:Act}{w w':World}{aO:List Tmp}(h:Den m fr ρ σ a w)(bz:Den cI fr cU aU cC w')(o3:cF.ext σ.objs aU.objs)(aH:∀t,t∉aO->aU.aJ t=σ.aJ t){ts:List Tmp}{v:D}(a6:∀t∈ts,aU.aJ t= .d (ad v (ts.idxOf t))):Den cI fr cU (v7 ts v (lL aO σ)) cC w':=by
 have ix:(v7 ts v (lL aO σ)).objs=σ.objs:=rfl;refine⟨bz.mem,bz.frame,bz.apart,?_,?_,?_,?_,?_⟩;.rintro k ⟨o,aF⟩;rw[ix]at aF;exact bz.one k ⟨o,o3 k o aF⟩
 .intro t;by_cases om:t∈ts
  .have af:(v7 ts v (lL aO σ)).aJ t= .d (ad v (ts.idxOf t)):=by simp only[v7,xad om]
   rw[af];have:=bz.aJ t;rw[a6 t om]at this;exact .d _ _ this.n8
  have af:(v7 ts v (lL aO σ)).aJ t=(lL aO σ).aJ t:=by simp only[v7,xab om]
  rw[af];simp only[lL];split;.exact .any _
  rename_i aL;have ab:=bz.aJ t;rw[aH t aL]at ab;exact ab.shrink (h.aJ t)
 .intro k o ak;rw[ix]at ak;exact(bz.objs k o (o3 k o ak)).shrink (h.objs k o ak)
 .intro k o b ak aF aj;rw[ix]at ak;exact bz.own k o b (o3 k o ak) aF aj
 intro k bs o o' b cP ak fK aF og aj;rw[ix]at ak fK;exact bz.sep k bs o o' b cP (o3 k o ak) (o3 bs o' fK) aF og aj
theorem ajo{T:cg}{ev:Operand->aS}{objs:cF}{d:Key}{op:Op}{r:aS}{cz:List (Key×cS)}(aH:pX op=true)(he:g7 T ev objs d op=some (r,cz)):objs d=none:=(AP (objs':=λ_=>none) aH rfl he).2.1
def ajp{β:Type}(cf:hj P G C){o:Oper}(aH:Ql o=true){k:aG->Option β}{b:β}(h:su T G C σ o k=some b):da P T G o (λaU=>k aU=some b/\cF.ext σ.objs aU.objs/\∀t,o.dst≠some t->aU.aJ t=σ.aJ t) σ:=by
 rcases xbB.1 aH with aH|aH;.refine pZ ?_ (Xu cf aH h);rintro aU ⟨ab,af,aw⟩;exact⟨ab,by rw[af];exact λ_ _ h=>h,aw⟩
 have Xv:∀x args dE,o.op≠ .call ⟨.value x,args,dE⟩:=by intro x args dE he;rw[he]at aH;cases aH
 unfold su at h;split at h;.exact absurd (by assumption) (Xv _ _ _)
 obtain⟨aU,ab,af⟩:=A4 h;unfold da;rw[ab];unfold gV at ab;rw[(qN (objs:=σ.objs) aH).1,(qN aH).2]at ab;simp only at ab;split at ab
 case h_2=>cases ab
 rename_i r cz he;cases ab;have od:σ.objs (o.dst.getD 9999)=none:=ajo aH he;obtain⟨_,_,hr,rfl⟩:=AP aH od he;refine⟨af,?_,λt aM=>qX aM⟩;rw[aG.vG];exact cF.JG od hr
def Qt{β:Type}(cf:hj P G C){j:Nat}{want:Bool}{d:Tmp}(aA:(all[j]?).bind (·.dst)=some d):∀{os:List Oper}{σ:aG}{k:aG->Option β}{b:β},(∀o∈os,o.guard=some (j,want))->(∀o∈os,Ql o=true/\o.dst≠some d)->σ.aJ d= .d (.val (.bool want))->sw T G C os σ k=some b->fP P T G all os (λaU=>k aU=some b/\cF.ext σ.objs aU.objs/\∀t,t∉dstsOf os->aU.aJ t=σ.aJ t) σ
 |[],σ,k,b,_,_,_,h=>⟨h,λ_ _ h=>h,λ_ _=>rfl⟩
 |o::os,σ,k,b,cc,aH,hw,h=>by
  have au:=aH o (by simp);unfold fP ep;rw[cc o (by simp)];simp only[aA,hw,xaD];refine pZ ?_ (ajp cf au.1 h);rintro aU ⟨ab,af,aw⟩;refine mP ?_ (Qt cf aA (λo aF=>cc o (by simp[aF])) (λo aF=>aH o (by simp[aF])) (by rw[aw d au.2];exact hw) ab);rintro qR ⟨aV,a2,bc⟩;refine⟨aV,λcR X9 aF=>a2 cR X9 (af cR X9 aF),?_⟩;intro t aM;have pc:t∉dstsOf os:=λan=>aM (by unfold dstsOf at an⊢;simp only[xbK];cases o.dst<;>simp[an])
  have x2:o.dst≠some t:=λan=>aM (by unfold dstsOf;simp[an]);rw[bc t pc,aw t x2]
def Qu(bf:dM P T){fr:fH}{Q:Exit->Act->World->Prop}:∀(os r:List Oper)(i:Nat)(m:Mem)(ρ:df)(σ:aG)(a:Act)(w:World)(K:aG->Prop),(∀j,(os++r)[j]?=all[i+j]?)->kn G m->Den m fr ρ σ a w->N<=a.tmps.size->a.defers=[]->(∀o∈os,∀d,o.dst=some d->d<N)->fP P T G all os K σ->(∀cC w',iW N m fr ρ σ K cC w'->wpOps P all Q (List.range' (i+os.length) r.length) cC w')->wpOps P all Q (List.range' i (os++r).length) a w
 |[],r,i,m,ρ,σ,a,w,K,_,c3,h,b3,hx,_,a6,Qv=>Qv a w ⟨σ,m,ρ,a6,Mem.le_refl m,h,b3,hx,kP.refl _ _⟩
 |o::os,r,i,m,ρ,σ,a,w,K,aq,c3,h,b3,hx,gW,a6,Qv=>by
  rw[xce,xap,List.range'_succ,wpOps_cons];have ah:all[i]?=some o:=by simpa using(aq 0).symm
  refine wpOp_mono ?_ (O7 bf c3 h b3 hx ah (gW o (by simp)) a6);rintro cC w' ⟨aU,cI,cU,bC,bD,cy,ey,fm,g8⟩;refine Qu bf os r (i+1) cI cU aU cC w' K (λj=>by have:=aq (j+1);simpa[xbe,Nat.add_comm 1 j]using this) (c3.mono bD) cy ey fm (λo aF=>gW o (by simp[aF])) bC ?_;intro o5 kQ av;have:=Qv o5 kQ (av.trans bD g8);rw[show i+(o::os).length=i+1+os.length by simp;omega]at this;exact this
theorem Ya(i:Nat):ad lk i=lk:=by unfold ad;cases i<;>rfl
def EP{β:Type}(bf:dM P T)(cf:hj P G C)(gf:kV P G H)(b3:N<10000){K:aG->Prop}:∀{gs:List (Option (Nat×Bool)×List Oper)} {i:Nat} {σ:aG} {k:aG->Option β} {b:β},(∀g∈gs,∀o∈g.2,o.guard=g.1)->(∀o∈flat gs,∀d,o.dst=some d->d<N)->(∀j,(flat gs)[j]?=all[i+j]?)->fL ib σ->(∀aU,fL ib aU->k aU=some b->K aU)->yc T G C H kb all gs σ k=some b->ov P G N all i (flat gs) K σ
 |[],i,σ,k,b,_,_,_,bP,ak,h=>ai7 (ak σ bP h)|(none,os)::r,i,σ,k,b,cc,aA,gl,bP,ak,h=>by show ov P G N all i (os++flat r) K σ;refine X8 bf cf gf b3 (λo aF=>cc (none,os) (by simp) o aF) (λo aF=>aA o (by simp[flat,aF])) gl bP ?_ h;intro aU ab af;refine EP bf cf gf b3 (λg hm=>cc g (by simp[hm])) (λo aF=>aA o (by simp only[flat,List.flatMap_cons,xaq];exact .inr aF)) ?_ ab ak af;intro j;have:=gl (os.length+j);rw[<-xbe]at this;rw[<-this];show _=(os++flat r)[os.length+j]?;rw[xaI (by omega)];simp
 |(some (j,want),os)::r,i,σ,k,b,cc,aA,gl,bP,ak,h=>by
  show ov P G N all i (os++flat r) K σ;unfold yc at h;split at h
  case h_2=>cases h
  rename_i d ca Bj x3;split at h
  case h_2=>cases h
  rename_i x ag;split at h
  case isFalse=>cases h
  rename_i bn;simp only[xay,xam,bne_iff_ne,ne_eq]at bn;split at h
  .obtain⟨v,ab,af⟩:=fp h;have iX:∀o∈os,o.guard=some (j,want):=λo aF=>cc (some (j,want),os) (by simp) o aF;have Qw:ov P G N all (i+os.length) (flat r) K ((lL (dstsOf os) σ).put (some ca) (.d v)):=by
    refine EP bf cf gf b3 (λg hm=>cc g (by simp[hm])) (λo aF=>aA o (by simp only[flat,List.flatMap_cons,xaq];exact .inr aF)) ?_ (fL.put (σ:=lL (dstsOf os) σ) bP) ak af;intro ER;have:=gl (os.length+ER);rw[<-xbe]at this;rw[<-this];show _=(os++flat r)[os.length+ER]?;rw[xaI (by omega)];simp
   have a6:fP P T G all os (λaU=>cF.ext σ.objs aU.objs/\(∀t,t∉dstsOf os->aU.aJ t=σ.aJ t)/\aU.aJ ca= .d v) σ:=by
    unfold bL at ab;split at ab
    .rename_i nw;split at ab
     .rename_i aj;subst aj;refine mP ?_ (Qt cf Bj iX bn ag ab);rintro aU ⟨aV,a2,bc⟩;refine⟨a2,bc,?_⟩;split at aV;.rename_i u hu;cases aV;exact hu
      cases aV
     rename_i aj;cases ab;refine mP ?_ (Ew Bj iX (λo aF=>(bn o aF).2) (.inl (by rw[ag];cases nw<;>cases want<;>simp_all)));rintro aU ⟨aV,a2,bc⟩;exact⟨by rw[aV];exact λ_ _ h=>h,a2,bc ca x3⟩
    .rename_i vs;cases ab;refine mP ?_ (Ew Bj iX (λo aF=>(bn o aF).2) (.inr ⟨_,ag⟩));rintro aU ⟨aV,a2,bc⟩;exact⟨by rw[aV];exact λ_ _ h=>h,a2,bc ca x3⟩
    cases ab
   intro m fr ρ a w Q c3 cY nD hx hh;refine Qu bf os (flat r) i m ρ σ a w _ gl c3 cY nD hx (λo aF=>aA o (by simp[flat,aF])) a6 ?_;rintro cC w' ⟨aU,cI,cU,⟨aV,a2,bc⟩,bD,cy,ey,fm,g8⟩;have lO:=ajm cY cy aV a2 bc (XA x3);refine Qw cI fr cU cC w' Q (c3.mono bD) lO ey fm ?_;intro o5 kQ av;refine hh o5 kQ (av.trans bD ?_);intro cR di aj;exact⟨by rw[aG.vG];exact aj,(g8 cR di aj).2⟩
  obtain⟨v,ab,af⟩:=fp h;have iX:∀o∈os,o.guard=some (j,want):=λo aF=>cc (some (j,want),os) (by simp) o aF;have Qw:ov P G N all (i+os.length) (flat r) K (v7 (kept all os (flat r)) v (lL (dstsOf os) σ)):=by refine EP bf cf gf b3 (λg hm=>cc g (by simp[hm])) (λo aF=>aA o (by simp only[flat,List.flatMap_cons,xaq];exact .inr aF)) ?_ bP ak af;intro ER;have:=gl (os.length+ER);rw[<-xbe]at this;rw[<-this];show _=(os++flat r)[os.length+ER]?;rw[xaI (by omega)];simp
  have a6:fP P T G all os (λaU=>cF.ext σ.objs aU.objs/\(∀t,t∉dstsOf os->aU.aJ t=σ.aJ t)/\(∀t∈kept all os (flat r),aU.aJ t= .d (ad v ((kept all os (flat r)).idxOf t)))) σ:=by
   unfold bL at ab;split at ab
   .rename_i nw;split at ab
    .rename_i aj;subst aj;refine mP ?_ (Qt cf Bj iX bn ag ab);rintro aU ⟨aV,a2,bc⟩;refine⟨a2,bc,?_⟩;split at aV;.rename_i l aq;cases aV;exact λt aM=>aiu aq aM
     cases aV
    rename_i aj;cases ab;refine mP ?_ (PV Bj iX (λo aF=>(bn o aF).2) (.inl (by rw[ag];cases nw<;>cases want<;>simp_all)));rintro aU ⟨aV,a2,bc⟩;exact⟨by rw[aV];exact λ_ _ h=>h,a2,λt aM=>by rw[bc t (xbx.1 aM).1,Ya]⟩
   .rename_i vs;cases ab;refine mP ?_ (PV Bj iX (λo aF=>(bn o aF).2) (.inr ⟨_,ag⟩));rintro aU ⟨aV,a2,bc⟩;exact⟨by rw[aV];exact λ_ _ h=>h,a2,λt aM=>by rw[bc t (xbx.1 aM).1,Ya]⟩
   cases ab
  intro m fr ρ a w Q c3 cY nD hx hh;refine Qu bf os (flat r) i m ρ σ a w _ gl c3 cY nD hx (λo aF=>aA o (by simp[flat,aF])) a6 ?_;rintro cC w' ⟨aU,cI,cU,⟨aV,a2,bc⟩,bD,cy,ey,fm,g8⟩;have lO:=ajn cY cy aV a2 bc;refine Qw cI fr cU cC w' Q (c3.mono bD) lO ey fm ?_;intro o5 kQ av;refine hh o5 kQ (av.trans bD ?_);intro cR di aj;exact⟨aj,(g8 cR di aj).2⟩
def ajq{β:Type}(bf:dM P T)(cf:hj P G C)(gf:kV P G H)(b3:N<10000){k:aG->Option β}{b:β}(aA:∀o∈all.toList,∀d,o.dst=some d->d<N)(bP:fL ib σ)(h:X2 T G C H kb all σ k=some b):ov P G N all 0 all.toList (λaU=>fL ib aU/\k aU=some b) σ:=by
 have:=EP (P:=P) (N:=N) (ib:=ib) (all:=all) (i:=0) bf cf gf b3 (K:=λaU=>fL ib aU/\k aU=some b) (λg hm o aF=>Kn _ _ _ hm o aF) (by rw[v8];exact aA) (by rw[v8];intro j;simp) bP (λaU ab af=>⟨ab,af⟩) h
 rwa [v8]at this
def ajr{Q:Exit->aG->Prop}{id:Nat}{ops:Array Oper}(h:ov P G N ops 0 ops.toList (Q .normal) σ):hi P T G N (.region id ops false) σ Q:=by intro m fr ρ a w c3 cY nD aA;refine wp_region ?_;rw[List.range_eq_range'];have:=h m fr ρ a w (λe cC w'=>iW N m fr ρ σ (Q e) cC w') c3 cY nD aA (λcC w' av=>av);simpa using this
end
def sA(ops:Array Oper):Bool:=(List.range ops.size).all λj=>match ops[j]? with
  |some o=>o.after.all (λe=>!Region.binds .any e||decide (e.on<j))&&(match o.guard with|none=>true|some (g,_)=>decide (g<j))
  |none=>true
def ES(ops:Array Oper)(j:Nat):Bool:=(List.range j).all λi=>(List.range (j+1)).any λk=>decide (i<k)&&match ops[k]? with|some o=>o.after.any (λe=>Region.binds .any e&&decide (e.on=i))|none=>false
def Qx(ops:Array Oper)(p:Nat):Bool:=sA ops&&(List.range ops.size).all λj=>decide (j<p)||ES ops j
def ye{ops:Array Oper}(h:sA ops=true){j:Nat}{o:Oper}(aF:ops[j]?=some o):(∀e∈o.after,Region.binds .any e=true->e.on<j)/\∀g b,o.guard=some (g,b)->g<j:=by
 have aN:j<ops.size:=(xaS.1 aF).1;have ab:=xay.1 h j (xbT.2 aN);simp only[aF,xam]at ab;refine⟨λe he aj=>?_,λg b cc=>?_⟩
 .have:=Array.all_eq_true'.1 ab.1 e he;simpa[aj]using this
 have:=ab.2;rw[cc]at this;simpa using this
def ajs{ops:Array Oper}{j i:Nat}(h:ES ops j=true)(ah:i<j):∃k o,i<k/\k<=j/\ops[k]?=some o/\∃e∈o.after,Region.binds .any e=true/\e.on=i:=by
 have ab:=xay.1 h i (xbT.2 ah);obtain⟨k,ak,af⟩:=xbr.1 ab;simp only[xam,xaC]at af;obtain⟨aw,a4⟩:=af;cases aF:ops[k]? with
 |none=>rw[aF]at a4;cases a4
 |some o=>rw[aF]at a4;obtain⟨e,he,b7⟩:=Array.any_eq_true'.1 a4;simp only[xam,xaC]at b7;have:=xbT.1 ak;exact⟨k,o,aw,by omega,aF,e,he,b7⟩
def Bk(ops:Array Oper)(listed:Array Bool):Prop:=∀j o,ops[j]?=some o->listed.getD j true=true->∀e∈o.after,Region.binds .any e=true->listed.getD e.on false=true
section
variable{P:Program}{ops hF:Array Oper}{Q:Exit->Act->World->Prop}
def uo{i:Nat}(h:i<ops.size):(ops++hF)[i]?=ops[i]?:=xbI h
def Bl{l r:Array Bool}{d:Bool}{i:Nat}(h:i<l.size):(l++r).getD i d=l.getD i d:=by
 have af:i<l.size+r.size:=by omega
 simp only[xbt,xbI h]
theorem ajt{l:Array Bool}{m:Nat}{d:Bool}{i:Nat}(h:l.size<=i)(af:i<l.size+m):(l++Array.replicate m false).getD i d=false:=by simp only[xbt,Array.getElem?_append_right h];rw[Array.getElem?_replicate,xad (by omega)];rfl
def Qy{l:Array Bool}{i:Nat}(h:i<l.size)(d e:Bool):l.getD i d=l.getD i e:=by simp[Array.getD,h]
def Qz{all:Array Oper}{L:Array Bool}{j:Nat}(bP:L.size=all.size)(aq:ES all j=true)(hinv:Bk all L)(av:j∈Region.ready .any all L):∀(d i:Nat),j-i<=d->i<j->L.getD i false=true
 |0,i,h,ah=>by omega
 |d+1,i,h,ah=>by
  obtain⟨k,o',ab,ak,af,e,aw,a4,b7⟩:=ajs aq ah;rw[<-b7];by_cases aju:k=j;.subst aju;obtain⟨_,mf,bC,bD⟩:=xbJ.1 av;rw[af]at bC;cases bC;exact bD e aw a4
  have cO:=Qz bP aq hinv av d k (by omega) (by omega);have eG:=(xaS.1 af).1;rw[Qy (by omega) false true]at cO;exact hinv k o' af cO e aw a4
def ET{all:Array Oper}{L:Array Bool}{i:Nat}(h:i∈Region.ready .any all L):i<all.size:=(xaS.1 (xbJ.1 h).2.choose_spec.1).1
def ajv{all:Array Oper}{L:Array Bool}(aH:L.size=all.size)(h:Bk all L){i:Nat}(ah:i∈Region.ready .any all L):Bk all (L.setIfInBounds i true):=by
 obtain⟨ab,fo,af,aw⟩:=xbJ.1 ah;have cj:=ET ah;have up:∀{j:Nat},L.getD j false=true->(L.setIfInBounds i true).getD j false=true:=by
  intro j aN;by_cases cL:j<L.size
  .by_cases gF:i=j;.subst gF;simp[Array.getD,cL]
   simp[Array.getD,cL]at aN⊢;rw[xby cL gF];exact aN
  simp[Array.getD,cL]at aN
 intro j o' aF aN e he mR;have cL:j<L.size:=by have:=(xaS.1 aF).1;omega
 by_cases gF:i=j;.subst gF;rw[af]at aF;cases aF;exact up (aw e he mR)
 refine up (h j o' aF ?_ e he mR);simp[Array.getD,cL]at aN⊢;rw[xby cL gF]at aN;exact aN
def Yb{listed:Array Bool}(aj:sA (ops++hF)=true)(aH:listed.size=ops.size){i:Nat}(ah:i<ops.size):i∈Region.ready .any (ops++hF) (listed++Array.replicate hF.size false)↔i∈Region.ready .any ops listed:=by
 rw[xbJ,xbJ,Bl (by omega),uo ah];refine and_congr_right λ_=>?_;constructor;.rintro⟨o',aF,h⟩;refine⟨o',aF,λe he mR=>?_⟩;have:=(ye aj (by rw[uo ah];exact aF)).1 e he mR;rw[<-h e he mR,Bl (by omega)]
 rintro⟨o',aF,h⟩;refine⟨o',aF,λe he mR=>?_⟩;have:=(ye aj (by rw[uo ah];exact aF)).1 e he mR;rw[Bl (by omega),h e he mR]
def Yc{all:Array Oper}{L:Array Bool}(aH:L.size=all.size)(h:∀i,i<all.size->L.getD i false=true):Region.ready .any all L=[]:=by refine List.eq_nil_iff_forall_not_mem.2 λi ah=>?_;have cr:=ET ah;have ab:=(xbJ.1 ah).1;rw[Qy (by omega) true false,h i cr]at ab;cases ab
def ajw{all:Array Oper}{L:Array Bool}(aj:sA all=true)(aH:L.size=all.size)(h:Region.ready .any all L=[]):∀(i:Nat),i<all.size->L.getD i false=true:=by
 intro i
 induction i using Nat.strongRecOn with
 |_ i ih=>
  intro ah;refine xbA λan=>?_;have bd:L.getD i true=false:=by rw[Qy (by omega) true false];simpa using an
  have:i∈Region.ready .any all L:=by refine xbJ.2 ⟨bd,all[i],by simp[ah],λe he mR=>?_⟩;have cr:=(ye aj (j:=i) (o:=all[i]) (by simp[ah])).1 e he mR;exact ih e.on cr (by omega)
  rw[h]at this;cases this
def ajx(aj:sA (ops++hF)=true):sA ops=true:=by
 refine xay.2 λj aN=>?_;have aN:=xbT.1 aN;have ab:=xay.1 aj j (xbT.2 (by simp;omega))
 rwa [uo aN]at ab
def ajy{tm:Array Value}{g:Nat}(h:g<ops.size):yielded (ops++hF) tm g=yielded ops tm g:=by unfold yielded;rw[uo h]
def ajz(aj:sA (ops++hF)=true){i:Nat}(ah:i<ops.size){o':Oper}(aF:ops[i]?=some o')(tm:Array Value):Region.wanted o' (yielded (ops++hF) tm)=Region.wanted o' (yielded ops tm):=by unfold Region.wanted;cases cc:o'.guard with|none=>rfl|some p=>obtain⟨g,b⟩:=p;have:=(ye aj (by rw[uo ah];exact aF)).2 g b cc;simp only[ajy (Nat.lt_trans this ah)]
def ajA(aj:sA (ops++hF)=true){i:Nat}(ah:i<ops.size){K:Act->World->Prop}{a:Act}{w:World}:wpOp P (ops++hF) Q i K a w=wpOp P ops Q i K a w:=by
 unfold wpOp;rw[uo ah];have:ops[i]?=some ops[i]:=by simp[ah]
 rw[this];simp only[ajz aj ah this]
def ajB{all:Array Oper}:∀(fuel:Nat)(L:Array Bool)(a:Act)(w:World),Region.ready .any all L=[]->Q .normal a w->wpAny P .any all Q fuel L a w
 |0,L,a,w,h,hh=>⟨h,hh⟩|fuel+1,L,a,w,h,hh=>⟨λ_=>hh,λi ah=>by rw[h]at ah;cases ah⟩
def mj(n j:Nat):Array Bool:=Array.ofFn (n:=n) λi=>decide (i.val<j)
def Yd{n j:Nat}:(mj n j).size=n:=by simp[mj]
def yf{n j i:Nat}{d:Bool}(h:i<n):(mj n j).getD i d=decide (i<j):=by simp[mj,Array.getD,h]
def ajC{n j:Nat}:(mj n j).setIfInBounds j true=mj n (j+1):=by
 apply Array.ext;.simp[mj]
 intro i ab af;simp[mj]at ab;by_cases h:i=j;.subst h;simp[mj]
 rw[xby (by simpa[mj]using ab) (by omega)];simp[mj];omega
def Ye{all:Array Oper}(aj:sA all=true){p:Nat}(aq:∀j,p<=j->j<all.size->ES all j=true):∀(d j:Nat)(a:Act)(w:World),p<=j->j+d=all.size->wpOps P all Q (List.range' j d) a w->wpAny P .any all Q d (mj all.size j) a w
 |0,j,a,w,aT,aA,h=>by refine⟨Yc Yd λi ah=>by rw[yf ah];simp;omega,by simpa[wpOps]using h⟩
 |d+1,j,a,w,aT,aA,h=>by
  have aN:j<all.size:=by omega
  have hinv:Bk all (mj all.size j):=by intro i o aF ah e he mR;have cj:=(xaS.1 aF).1;rw[yf cj]at ah;have:=(ye aj aF).1 e he mR;rw[yf (by omega)];simp at ah⊢;omega
  have Yf:j∈Region.ready .any all (mj all.size j):=by refine xbJ.2 ⟨by rw[yf aN];simp,all[j],by simp[aN],λe he mR=>?_⟩;have:=(ye aj (j:=j) (o:=all[j]) (by simp[aN])).1 e he mR;rw[yf (by omega)];simpa using this
  refine⟨λau=>(by rw[au]at Yf;cases Yf),λi ah=>?_⟩;have ht:=ET ah;have ab:=(xbJ.1 ah).1;rw[yf ht]at ab;have gF:i=j:=by
   have eS:j<=i:=by simpa using ab
   by_cases an:i=j;.exact an
   have:=Qz Yd (aq i (by omega) ht) hinv ah i j (by omega) (by omega);rw[yf aN]at this;simp at this
  subst gF;rw[List.range'_succ,wpOps_cons]at h;refine wpOp_mono (λcC w' bk=>?_) h;rw[ajC];exact Ye aj aq d (i+1) cC w' (by omega) (by omega) bk
def ajD{listed:Array Bool}{m:Nat}(h:∀i,i<listed.size->listed.getD i false=true):listed++Array.replicate m false=mj (listed.size+m) listed.size:=by
 apply Array.ext;.simp[mj]
 intro i ab af;simp at ab;by_cases ah:i<listed.size;.have:=h i ah;simp[Array.getD,ah]at this;rw[Array.getElem_append_left ah,this];simp[mj,ah]
 rw[Array.getElem_append_right (by omega)];simp[mj];omega
def ajE{listed:Array Bool}{m i:Nat}(ah:i<listed.size):(listed++Array.replicate m false).setIfInBounds i true=listed.setIfInBounds i true++Array.replicate m false:=by
 apply Array.ext;.simp
 intro j ab af;simp at ab;by_cases aN:j<listed.size
 .rw[Array.getElem_append_left (by simpa using aN)];by_cases gF:i=j;.subst gF;simp
  rw[xby (by simp;omega) gF,Array.getElem_append_left aN,xby aN gF]
 rw[Array.getElem_append_right (by simp;omega),xby (by simp;omega) (by omega),Array.getElem_append_right (by omega)];simp
end
def Yg{P:Program}{Q:Exit->Act->World->Prop}{all:Array Oper}:∀{n:Nat}{L:Array Bool}{a:Act}{w:World},wpAny P .any all Q n L a w->∀k,n<=k->wpAny P .any all Q k L a w
 |0,L,a,w,h,k,ak=>ajB k L a w h.1 h.2|n+1,L,a,w,h,0,ak=>by omega|n+1,L,a,w,h,k+1,ak=>⟨h.1,λi ah=>wpOp_mono (λcC w' bz=>Yg bz k (by omega)) (h.2 i ah)⟩
section
variable{P:Program}{T:cg}{G:dm}{ops hF:Array Oper}{Q:Exit->Act->World->Prop}
def ajF{m:Mem}{fr:fH}{N:Nat}(bf:dM P T){K:aG->Prop}(aj:sA (ops++hF)=true)(aq:∀j,ops.size<=j->j<(ops++hF).size->ES (ops++hF) j=true)(gW:∀o∈ops,∀d,o.dst=some d->d<N):∀(fuel:Nat)(listed:Array Bool)(m:Mem)(ρ:df)(σ:aG)(a:Act)(w:World),listed.size=ops.size->Bk ops listed->kn G m->Den m fr ρ σ a w->N<=a.tmps.size->a.defers=[]->jg P T G ops K fuel listed σ->(∀cC w',iW N m fr ρ σ K cC w'->wpOps P (ops++hF) Q (List.range' ops.size hF.size) cC w')->wpAny P .any (ops++hF) Q (fuel+hF.size) (listed++Array.replicate hF.size false) a w:=by
 have fin:∀{fuel:Nat}{listed:Array Bool}{m:Mem}{ρ:df}{σ:aG}{a:Act}{w:World},listed.size=ops.size->Region.ready .any ops listed=[]->kn G m->Den m fr ρ σ a w->N<=a.tmps.size->a.defers=[]->K σ->(∀cC w',iW N m fr ρ σ K cC w'->wpOps P (ops++hF) Q (List.range' ops.size hF.size) cC w')->wpAny P .any (ops++hF) Q hF.size (listed++Array.replicate hF.size false) a w:=by intro fuel listed m ρ σ a w aH av c3 h b3 hx ak hh;have ajG:=ajw (ajx aj) aH av;rw[ajD (λi ah=>ajG i (by omega)),aH,<-Array.size_append];exact Ye aj aq _ _ _ _ (xan _) (by simp) (hh a w ⟨σ,m,ρ,ak,Mem.le_refl m,h,b3,hx,kP.refl _ _⟩)
 intro fuel
 induction fuel with
 |zero=>intro listed m ρ σ a w aH hinv c3 h b3 hx a6 hh;rw[xav];exact fin (fuel:=0) aH a6.1 c3 h b3 hx a6.2 hh
 |succ fuel ih=>
  intro listed m ρ σ a w aH hinv c3 h b3 hx a6 hh;by_cases av:Region.ready .any ops listed=[];.have:=fin (fuel:=0) aH av c3 h b3 hx (a6.1 av) hh;exact Yg this _ (by omega)
  rw[Nat.add_right_comm];have ajH:Bk (ops++hF) (listed++Array.replicate hF.size false):=by
   intro j o' aF aN e he mR;have cL:=(xaS.1 aF).1;simp at cL;by_cases Yh:j<ops.size
   .rw[Bl (by omega)]at aN;rw[uo Yh]at aF;have:=(ye aj (by rw[uo Yh];exact aF)).1 e he mR;rw[Bl (by omega)];exact hinv j o' aF aN e he mR
   rw[ajt (by omega) (by omega)]at aN;cases aN
  refine⟨λau=>absurd ?_ av,λi ah=>?_⟩;.refine List.eq_nil_iff_forall_not_mem.2 λi ah=>?_;have:=(Yb aj aH (ET ah)).2 ah;rw[au]at this;cases this
  by_cases se:i<ops.size;.have jv:=(Yb aj aH se).1 ah;have ab:=a6.2 i jv;obtain⟨_,fo,aF,_⟩:=xbJ.1 jv;unfold hR at ab;simp only[aF]at ab;rw[ajA aj se];refine wpOp_mono ?_ (O7 bf c3 h b3 hx aF (gW fo (Array.mem_of_getElem? aF)) ab);rintro cC w' ⟨aU,cI,cU,bC,bD,cy,ey,fm,g8⟩;rw[ajE (by omega)];refine ih _ cI cU aU cC w' (by simp[aH]) (ajv aH hinv jv) (c3.mono bD) cy ey fm bC ?_;rintro o5 kQ ⟨qR,xO,xP,dz,dh,eK,ji,lh,o6⟩;exact hh o5 kQ ⟨qR,xO,xP,dz,Mem.le_trans bD dh,eK,ji,lh,g8.trans o6⟩
  refine absurd (Yc aH λj aN=>?_) av;have:=Qz (by simp[aH]) (aq i (by omega) (ET ah)) ajH ah i j (by omega) (by omega)
  rwa [Bl (by omega)]at this
end
def ajI{P:Program}{T:cg}{G:dm}{N:Nat}{σ:aG}{Q:Exit->aG->Prop}(bf:dM P T)(hm:P.follows .mixedOrders=true){id:Nat}{ops hF:Array Oper}(b3:vQ N ops=true)(aj:Qx (ops++hF) ops.size=true) {K:aG->Prop} (ff:∀aU,K aU->ov P G N (ops++hF) ops.size hF.toList (Q .normal) aU) (h:jg P T G ops K ops.size (Array.replicate ops.size false) σ):hi P T G N (.region id (ops++hF) true) σ Q:=by
 intro m fr ρ a w c3 cY nD aA;refine wp_region_any hm ?_;simp only[Qx,xam]at aj;have e:Array.replicate (ops++hF).size false=Array.replicate ops.size false++Array.replicate hF.size false:=by rw[Array.size_append,Array.replicate_append_replicate]
 rw[e,Array.size_append];refine ajF (m:=m) (fr:=fr) (N:=N) (T:=T) bf aj.1 (λj ab af=>?_) (vR b3) ops.size _ m ρ σ a _ (by simp) ?_ c3 (cY.drew _) nD aA h ?_;.have:=xay.1 aj.2 j (xbT.2 af);simp only[xbc,xaC]at this;exact this.resolve_left (by omega)
 .intro j o' aF aN;have:=(xaS.1 aF).1;simp[Array.getD,this]at aN
 rintro cC w' ⟨aU,cI,cU,bC,bD,cy,ey,fm,g8⟩;have:=ff aU bC cI fr cU cC w' (λe cC w'=>iW N m fr ρ σ (Q e) cC w') (c3.mono bD) cy ey fm (λo5 kQ av=>av.trans bD g8);simpa using this
section
variable{β:Type}
def bp(f:List D->Option (List D⊕β)):Nat->List D->Option β
 |0,_=>none|n+1,ls=>aa (f ls) λx=>match x with| .inl fq=>bp f n fq| .inr b=>some b
end
def wk:Code->Nat
 | .region id _ _=>id| .seq x _=>wk x| .cond _ x _=>wk x| .block _ c=>wk c| .loop c=>wk c| .scope c=>wk c|_=>0
def ajJ(c:Tmp)(x y:Code):Nat:=(c*1000+wk y)*1000+wk x
structure nd where
 T:cg
 G:dm
 C:lK
 n:Nat
 ib:List Key
 loops:Nat->Option qY
 ajK:Nat->Option qY
 blocks:Nat->Option qY
 p7:Nat->Option (List Nat)
 H:wj
 kb:Tmp->Bool
 pre:Nat->List (List Key)
def aX{β:Type}(b:Option β):Option (List D⊕β):=aa b λb=>some (.inr b)
def a9{β:Type}(f:List D->Option β):List D⊕β->Option β
 | .inl ls=>f ls| .inr b=>some b
def QA{β:Type}(ib:List Key)(gd:qY)(run:(Exit->aG->Option (List D⊕β))->Option (List D⊕β))(k:Exit->aG->Option β):Option β:=aa (run λe aU=>match e with| .normal=>sx ib gd aU λls=>some (.inl ls)|e=>aX (k e aU)) (a9 λls=>k .normal (restore gd ls))
def EU{β:Type}(id:Nat)(k:Exit->aG->Option β)(e:Exit)(σ:aG):Option β:=match e with
 | .exit tY=>if tY=id then k .normal σ else k (.exit tY) σ
 |e=>k e σ
def ajL{β:Type}(k:Exit->aG->Option β)(e:Exit)(σ:aG):Option β:=match e with| .goto _=>none|e=>k e σ
def exec(X:nd):Code->{β:Type}->aG->(Exit->aG->Option β)->Option β
 | .skip,_,σ,k=>k .normal σ| .label _,_,σ,k=>k .normal σ| .scope c,_,σ,k=>exec X c σ (ajL k)| .exit id,_,σ,k=>k (.exit id) σ| .ret,_,σ,k=>k .ret σ
 | .region id ops d,_,σ,k=>x8 (X.pre id) σ λσ=>match X.p7 id with
  |none=>match d with|true=>Xn X.T X.G X.C ops σ λaU=>k .normal aU|false=>X2 X.T X.G X.C X.H X.kb ops σ λaU=>k .normal aU
  |some ord=>if d=true/\ord.length=ops.size then A6 X.T X.G X.C ops ord (Array.replicate ops.size false) σ λaU=>k .normal aU
   else if d=true/\ord.length<=ops.size/\Qx ops ord.length=true then A6 X.T X.G X.C (ops.extract 0 ord.length) ord (Array.replicate ord.length false) σ λaU=>yc X.T X.G X.C X.H X.kb ops (vZ (ops.extract ord.length ops.size).toList) aU λqR=>k .normal qR
   else none
 | .seq x y,_,σ,k=>exec X x σ λe aU=>match e with| .normal=>exec X y aU k|e=>k e aU
 | .cond (.tmp c) x y,_,σ,k=>match σ.aJ c with
  | .d a=>match X.ajK (ajJ c x y)with|none=>aE a (exec X x σ k) (exec X y σ k)|some gd=>QA X.ib gd (λbs=>aE a (exec X x σ bs) (exec X y σ bs)) k
  |_=>none
 | .block id c,_,σ,k=>match X.blocks id with|none=>exec X c σ (EU id k)|some gd=>QA X.ib gd (λbs=>exec X c σ (EU id bs)) k
 | .loop c,_,σ,k=>match X.loops (wk c)with|none=>none|some gd=>sx X.ib gd σ λQB=>bp (λls=>exec X c (restore gd ls) λe aU=>match e with| .normal=>sx X.ib gd aU λfq=>some (.inl fq)|e=>aX (k e aU)) X.n QB
 | .cond (.const v) x y,_,σ,k=>match v with| .bool true=>exec X x σ k| .bool false=>exec X y σ k|_=>none
 |_,_,_,_=>none
section
variable{P:Program}{T:cg}{G:dm}{N:Nat}{σ:aG}{all:Array Oper}{ib:List Key}
def Yi{K K':aG->Prop}(ak:∀σ,K σ->K' σ):∀(fuel:Nat){listed:Array Bool}{σ:aG},jg P T G all K fuel listed σ->jg P T G all K' fuel listed σ
 |0,_,_,h=>⟨h.1,ak _ h.2⟩|fuel+1,_,_,h=>⟨λau=>ak _ (h.1 au),λi ah=>vN (λ_ bz=>Yi ak fuel bz) (h.2 i ah)⟩
def EV{K:aG->Prop}(aA:∀o∈all,∀d,o.dst=some d->d<10000):∀(fuel:Nat){listed:Array Bool}{σ:aG},fL ib σ->jg P T G all K fuel listed σ->jg P T G all (λaU=>fL ib aU/\K aU) fuel listed σ
 |0,_,_,bP,h=>⟨h.1,bP,h.2⟩
 |fuel+1,_,σ,bP,h=>by
  refine⟨λau=>⟨bP,h.1 au⟩,λi ah=>?_⟩;have ab:=h.2 i ah;unfold hR at ab⊢;split at ab
  .exact EV aA fuel bP ab
  rename_i o aF;rw[hE]at ab⊢;have yg:=aA o (Array.mem_of_getElem? aF);cases hw:jS all σ o with|none=>rw[hw]at ab;exact ab|some w=>rw[hw]at ab;cases w with|true=>exact pZ (λaU ⟨af,aw⟩=>EV aA fuel af aw) (X3 bP yg ab)|false=>exact EV aA fuel bP.put ab
def ajM{Q:Exit->aG->Prop}(bf:dM P T)(hm:P.follows .mixedOrders=true){id:Nat}{ops:Array Oper}(b3:vQ N ops=true) (h:jg P T G ops (Q .normal) ops.size (Array.replicate ops.size false) σ):hi P T G N (.region id ops true) σ Q:=by intro m fr ρ a w c3 cY nD aA;refine wp_region_any hm ?_;exact Pg (m:=m) (fr:=fr) (N:=N) (Q:=λe cC w'=>iW N m fr ρ σ (Q e) cC w') bf (vR b3) ops.size _ m ρ σ a _ c3 (cY.drew _) nD aA h (λcC w' av=>av)
def pg(T:cg)(os:Nat->Option (List Nat))(N:Nat):Code->Bool
 | .region id ops d=>vQ N ops&&(!d||(os id).isSome||xN T ops (List.range ops.size) (Array.replicate ops.size false))| .seq x y=>pg T os N x&&pg T os N y| .cond _ x y=>pg T os N x&&pg T os N y| .block _ c=>pg T os N c| .loop c=>pg T os N c| .scope c=>pg T os N c|_=>true
def nK{β:Type}(ib:List Key)(k:Exit->aG->Option β)(b:β)(e:Exit)(σ:aG):Prop:=∃τ,gX σ τ/\fL ib τ/\k e τ=some b
def Yj{β:Type}{x:Option β}{y:List D⊕β}(h:aX x=some y):∃b,x=some b/\y= .inr b:=by obtain⟨b,ab,af⟩:=fp h;exact⟨b,ab,(xaU af).symm⟩
def Yk{β:Type}{gd:qY}{c:Code}{run:(Exit->aG->Option (List D⊕β))->Option (List D⊕β)}{k:Exit->aG->Option β}{b:β} (hP:∀bs b',run bs=some b'->hi P T G N c σ (nK ib bs b')) (h:QA ib gd run k=some b):hi P T G N c σ (nK ib k b):=by
 obtain⟨x,ab,af⟩:=fp h;refine AS (hP _ _ ab) ?_;rintro e aU ⟨τ,aV,a2,bc⟩;have other:∀dt,e=dt->aX (k dt τ)=some x->nK ib k b e aU:=by rintro dt rfl aw;obtain⟨b',a4,rfl⟩:=Yj aw;cases af;exact⟨τ,aV,a2,a4⟩
 cases e with
 |normal=>obtain⟨ls,bC,bD,cy⟩:=Kv a2 bc;cases cy;exact⟨_,aV.trans bC,bD,af⟩
 |exit id=>exact other _ rfl bc|goto l=>exact other _ rfl bc|ret=>exact other _ rfl bc|panic c=>exact other _ rfl bc|outgrown=>exact other _ rfl bc
def ajN{β:Type}{f:List D->Option (List D⊕β)}{n:Nat}{ls:List D}{b:β}(h:bp f n ls=some b):∃m,n=m+1/\((∃fq,f ls=some (.inl fq)/\bp f m fq=some b)\/f ls=some (.inr b)):=by
 cases n with
 |zero=>cases h
 |succ m=>obtain⟨x,ab,af⟩:=fp h;refine⟨m,rfl,?_⟩;cases x with|inl fq=>exact .inl ⟨fq,ab,af⟩|inr b'=>cases af;exact .inr ab
def nK.block{β:Type}{id:Nat}{k:Exit->aG->Option β}{b:β}{e:Exit}{σ:aG}(h:nK ib (EU id k) b e σ):Ef id (nK ib k b) e σ:=by
 obtain⟨τ,aV,a2,bc⟩:=h;cases e with
 |exit tY=>
  simp only[Ef];unfold EU at bc;by_cases ah:tY=id;.simp only[ah,xaD]at bc⊢;exact⟨τ,aV,a2,bc⟩
  simp only[ah,xaG]at bc⊢;exact⟨τ,aV,a2,bc⟩
 |normal=>exact⟨τ,aV,a2,bc⟩|goto l=>exact⟨τ,aV,a2,bc⟩|ret=>exact⟨τ,aV,a2,bc⟩|panic c=>exact⟨τ,aV,a2,bc⟩|outgrown=>exact⟨τ,aV,a2,bc⟩
def q3(X:nd)(bf:dM P X.T)(cf:hj P X.G X.C)(gf:kV P X.G X.H)(hm:P.follows .mixedOrders=true)(b3:N<10000):∀(c:Code){β:Type}{σ:aG}{k:Exit->aG->Option β}{b:β},pg X.T X.p7 N c=true->fL X.ib σ->exec X c σ k=some b->hi P X.T X.G N c σ (nK X.ib k b)
 | .skip,β,σ,k,b,_,bP,h=>agY ⟨σ,gX.refl σ,bP,h⟩| .label l,β,σ,k,b,_,bP,h=>agZ ⟨σ,gX.refl σ,bP,h⟩| .exit id,β,σ,k,b,_,bP,h=>ag0 ⟨σ,gX.refl σ,bP,h⟩| .ret,β,σ,k,b,_,bP,h=>ag1 ⟨σ,gX.refl σ,bP,h⟩
 | .region id ops d,β,σ,k,b,bn,bP,h=>by
  simp only[pg,xam,xbc,xbZ]at bn;have gW:∀o∈ops.toList,∀d,o.dst=some d->d<10000:=λo aF d aA=>Nat.lt_trans (vR bn.1 o (by simpa using aF) d aA) b3;have QC:∀aU,fL X.ib aU/\k .normal aU=some b->nK X.ib k b .normal aU:=λaU bz=>⟨aU,gX.refl aU,bz⟩;unfold exec at h;have ag:=EN bP h;clear h bP;obtain⟨σ,ajO,bP,h⟩:=ag;refine Ph ajO ?_;split at h
  .rename_i AT;split at h
   .have ab:=aiE (P:=P) (all:=ops) (σ:=σ) cf (K:=λaU=>∃τ,oj aU τ/\k .normal τ=some b) (λσ τ hw ⟨xQ,ab,af⟩=>⟨xQ,hw.trans ab,af⟩) (λaU bz=>⟨aU,oj.refl _,bz⟩) h;have af:fP P X.T X.G ops ops.toList (nK X.ib k b .normal) σ:=by
     refine mP ?_ (Qn bP gW ab);rintro aU ⟨aV,τ,a2,bc⟩;refine⟨τ,a2.Ev,?_,bc⟩;intro j aN aj;rw[<-a2.1]at aj;exact aV j aN aj
    exact ahq bf hm bn.1 (bn.2.resolve_left (by simp[AT])) af
   have ab:=ajq (P:=P) (all:=ops) (σ:=σ) bf cf gf b3 (λo aF d aA=>vR bn.1 o (by simpa using aF) d aA) bP h;exact ajr (λm fr ρ a w Q c3 cY nD aA hh=>ab m fr ρ a w Q c3 cY nD aA (λcC w' av=>hh cC w' (av.mono QC)))
  rename_i ord AT;split at h
  case isFalse=>
   split at h
   case isFalse=>cases h
   rename_i an;obtain⟨rfl,b5,Yl⟩:=an;have ln:ops=ops.extract 0 ord.length++ops.extract ord.length ops.size:=by rw[Array.extract_append_extract,Nat.max_eq_right b5];simp
   have pT:ord.length=(ops.extract 0 ord.length).size:=by simp;omega
   have ab:=PY (P:=P) cf ord _ σ h;generalize ops.extract 0 ord.length=dj at*;generalize ops.extract ord.length ops.size=Aw at*;subst ln;rw[pT]at ab;have nL:vQ N dj=true:=by have:=bn.1;unfold vQ at this⊢;simp only[Array.toList_append,List.all_append,xam]at this;exact this.1
   rw[pT]at Yl;refine ajI bf hm nL Yl ?_ (EV (λo aF d aA=>Nat.lt_trans (vR nL o aF d aA) b3) _ bP ab);rintro aU ⟨Qr,ag⟩;have af:=EP (P:=P) (N:=N) (ib:=X.ib) (all:=dj++Aw) (i:=dj.size) bf cf gf b3 (K:=nK X.ib k b .normal) (λg hm o aF=>Kn _ _ _ hm o aF) (by rw[v8];intro o' aF d aA;exact vR bn.1 _ (by simp at aF⊢;exact .inr aF) d aA) (by rw[v8];intro j;rw[Array.getElem?_append_right (by omega)];simp) Qr (λqR ab af=>QC qR ⟨ab,af⟩) ag
   rwa [v8]at af
  rename_i an;obtain⟨rfl,b5⟩:=an;have ab:=PY (P:=P) cf ord _ σ h;rw[b5]at ab;exact ajM bf hm bn.1 (Yi QC _ (EV (λo aF d aA=>Nat.lt_trans (vR bn.1 o aF d aA) b3) _ bP ab))
 | .seq x y,β,σ,k,b,bn,bP,h=>by simp only[pg,xam]at bn;refine ag2 (AS (q3 X bf cf gf hm b3 x bn.1 bP h) ?_);rintro e aU ⟨τ,aV,a2,bc⟩;cases e with|normal=>simp only[JY];refine Ph aV (q3 X bf cf gf hm b3 y bn.2 a2 bc)|exit id=>exact⟨τ,aV,a2,bc⟩|goto l=>exact⟨τ,aV,a2,bc⟩|ret=>exact⟨τ,aV,a2,bc⟩|panic c=>exact⟨τ,aV,a2,bc⟩|outgrown=>exact⟨τ,aV,a2,bc⟩
 | .cond c x y,β,σ,k,b,bn,bP,h=>by
  simp only[pg,xam]at bn;cases c with
  |tmp c=>
   unfold exec at h;split at h
   case h_2=>cases h
   rename_i a aI;have two:∀{β:Type}(bs:Exit->aG->Option β)(b':β),aE a (exec X x σ bs) (exec X y σ bs)=some b'->hi P X.T X.G N (.cond (.tmp c) x y) σ (nK X.ib bs b'):=by
    intro β bs b' h;rcases W6 h with⟨rfl,ab⟩|⟨rfl,ab⟩
    .exact JZ (b:=true) aI (by rw[xad rfl];exact q3 X bf cf gf hm b3 x bn.1 bP ab)
    exact JZ (b:=false) aI (by rw[xab (by simp)];exact q3 X bf cf gf hm b3 y bn.2 bP ab)
   split at h;.exact two k b h
   exact Yk (λbs b' bz=>two bs b' bz) h
  |const v=>
   unfold exec at h;split at h;.exact JZ (b:=true) rfl (by rw[xad rfl];exact q3 X bf cf gf hm b3 x bn.1 bP h)
   .exact JZ (b:=false) rfl (by rw[xab (by simp)];exact q3 X bf cf gf hm b3 y bn.2 bP h)
   cases h
  |global g=>cases h
  |func f=>cases h
 | .block id c,β,σ,k,b,bn,bP,h=>by
  have one:∀{β:Type}(bs:Exit->aG->Option β)(b':β),exec X c σ (EU id bs)=some b'->hi P X.T X.G N (.block id c) σ (nK X.ib bs b'):=by intro β bs b' h;exact ag5 (AS (q3 X bf cf gf hm b3 c bn bP h) (λe aU bz=>bz.block))
  unfold exec at h;split at h;.exact one k b h
  exact Yk (λbs b' bz=>one bs b' bz) h
 | .loop c,β,σ,k,b,bn,bP,h=>by
  unfold exec at h;split at h
  case h_1=>cases h
  rename_i gd KI;obtain⟨QB,aK,aY,bN⟩:=Kv bP h;generalize bd:(λls=>exec X c (restore gd ls) λe aU=>match e with| .normal=>sx X.ib gd aU λfq=>some (Sum.inl fq)|e=>aX (k e aU))=f at bN;refine ahf (ι:={p:List D×Nat//bp f p.2 p.1=some b/\fL X.ib (restore gd p.1)}) (λp=>restore gd p.1.1) (λp=>p.1.2) ⟨(QB,X.n),bN,aY⟩ aK ?_;rintro⟨⟨ls,n⟩,Ym,hA⟩;simp only at Ym hA⊢;obtain⟨m,rfl,aw⟩:=ajN Ym;have round:∀x,f ls=some x->hi P X.T X.G N c (restore gd ls) (nK X.ib (λe aU=>match e with| .normal=>sx X.ib gd aU λfq=>some (Sum.inl fq)|e=>aX (k e aU)) x):=by intro x ag;rw[<-bd]at ag;exact q3 X bf cf gf hm b3 c bn hA ag
  have go:∀x,f ls=some x->(∀fq,x= .inl fq->bp f m fq=some b)->(∀b',x= .inr b'->b'=b)->hi P X.T X.G N c (restore gd ls) (JY (λaU=>∃j:{p:List D×Nat//bp f p.2 p.1=some b/\fL X.ib (restore gd p.1)},gX aU (restore gd j.1.1)/\j.1.2<m+1) (nK X.ib k b)):=by
   intro x ag aq av;refine AS (round x ag) ?_;rintro e aU ⟨τ,aV,a2,bc⟩;have other:∀dt,e=dt->aX (k dt τ)=some x->nK X.ib k b e aU:=by rintro dt rfl aw;obtain⟨b',a4,rfl⟩:=Yj aw;rw[av b' rfl]at a4;exact⟨τ,aV,a2,a4⟩
   cases e with
   |normal=>obtain⟨fq,bC,bD,cy⟩:=Kv a2 bc;cases cy;exact⟨⟨(fq,m),aq fq rfl,bD⟩,aV.trans bC,Nat.lt_succ_self m⟩
   |exit id=>exact other _ rfl bc|goto l=>exact other _ rfl bc|ret=>exact other _ rfl bc|panic c=>exact other _ rfl bc|outgrown=>exact other _ rfl bc
  rcases aw with⟨fq,a4,b7⟩|a4;.exact go _ a4 (by rintro _ ⟨⟩;exact b7) (by rintro _ ⟨⟩)
  exact go _ a4 (by rintro _ ⟨⟩) (by rintro _ ⟨⟩;rfl)
 | .rangeFunc _ _ _ _,β,σ,k,b,_,bP,h=>by cases h
 | .scope c,β,σ,k,b,bn,bP,h=>ag4 (AS (q3 X bf cf gf hm b3 c (by simpa[pg]using bn) bP h) (by
   rintro e aU ⟨τ,aV,a2,bc⟩;cases e with
   |goto l=>cases bc
   |normal=>exact⟨τ,aV,a2,bc⟩|exit id=>exact⟨τ,aV,a2,bc⟩|ret=>exact⟨τ,aV,a2,bc⟩|panic c=>exact⟨τ,aV,a2,bc⟩|outgrown=>exact⟨τ,aV,a2,bc⟩))
 | .goto _,β,σ,k,b,_,bP,h=>by cases h
 | .refuse _,β,σ,k,b,_,bP,h=>by cases h
end
def Yn{P:Program}{T:cg}{G:dm}{N:Nat}{c:Code}{σ:aG}{Q:Exit->aG->Prop}(h:hi P T G N c σ (λe aU=>∃τ,gX aU τ/\Q e τ)):hi P T G N c σ Q:=by intro m fr ρ a w c3 cY b3 aA;refine wp_mono (h m fr ρ a w c3 cY b3 aA) ?_;rintro e cC w' ⟨aU,cI,cU,⟨τ,j5,hh⟩,af,aw,a4,b7,cO⟩;obtain⟨xO,xP,aV,a2,bc⟩:=j5 cI fr cU cC w' aw;exact⟨τ,xO,xP,hh,Mem.le_trans af aV,a2,a4,b7,cO.trans bc⟩
def ajP(T:cg)(rs:List ResultVar)(e:Exit)(σ:aG):Option D:=match e with| .normal=>aa (qS T σ rs) (toD σ.objs)| .ret=>aa (qS T σ rs) (toD σ.objs)|_=>none
def uq(X:nd)(fn:Func)(args:List aS):Option D:=match fn.body with|some c=>exec X c (start args λ_=>none) (ajP X.T fn.results.toList)|none=>none
def nM(T:cg)(os:Nat->Option (List Nat))(fn:Func):Bool:=match fn.body with|some c=>pg T os fn.ntmps c&&decide (fn.ntmps<10000)&&!(fn.name== "runtime.NumGoroutine")|none=>false
def ajQ{xs dj:List aS}(h:jF (λk=>k) (λ_=>False) xs dj):gX (start xs λ_=>none) (start dj λ_=>none):=by
 intro m fr ρ a w cY;refine⟨m,ρ,Mem.le_refl m,⟨cY.mem,cY.frame,cY.apart,?_,?_,?_,?_,?_⟩,?_⟩;.rintro k ⟨o,aF⟩;cases aF
 .intro t;have ab:=cY.aJ t;obtain⟨af,aw⟩:=h.ok;simp only[start]at ab⊢;cases aP:dj[t]? with
  |none=>rw[xaQ,aP];exact .any _
  |some y=>
   obtain⟨x,ag,hle⟩:=aw t y aP;rw[xaQ,ag]at ab;rw[xaQ,aP];have a4:o7 (λk=>k) (aG.used (start dj λ_=>none)) x y:=by unfold o7 at hle⊢;split at hle<;>first|exact hle|(exact absurd hle.2 id)
   exact a4.ok (ρ:=ρ) ab
 .intro k o ak;cases ak
 .intro k o b ak;cases ak
 .intro k bs o o' b _ ak;cases ak
 intro k _ an;exact absurd an tR
def ajR{P:Program}(X:nd)(bf:dM P X.T)(cf:hj P X.G X.C)(gf:kV P X.G X.H)(hm:P.follows .mixedOrders=true)(jl:X.ib=[]){f:FuncId}{fn:Func}(bd:P.funcs[f]?=some fn)(bn:nM X.T X.p7 fn=true){aO:List D}{as:List aS}(hle:jF (λk=>k) (λ_=>False) (aO.map .d) as)(b5:decide (aO.length<=fn.ntmps)=true){r:D} (h:uq X fn as=some r):ez P X.G f aO (·=r):=by
 have b5:=xaW b5;unfold uq at h;unfold nM at bn;split at h
 case h_2=>cases h
 rename_i c aj;simp only[aj,xam,xaC,xbZ]at bn;refine ahi bf bd aj bn.2 b5 ?_;refine Ph (ajQ hle) ?_;refine Yn (AS (q3 X bf cf gf hm bn.1.2 c bn.1.1 (by intro k _ an;exact absurd an tR) h) ?_);rintro e aU ⟨τ,aV,a2,bc⟩;have fin:aa (qS X.T τ fn.results.toList) (toD τ.objs)=some r->∃Yo d x,qS X.T τ fn.results.toList=some Yo/\toD τ.objs Yo=some d/\d.le x/\x=r:=by intro ab;obtain⟨u,af,aw⟩:=fp ab;exact⟨u,r,r,af,aw,D.le_refl _,rfl⟩
 refine⟨τ,aV,?_⟩;cases e with
 |normal=>exact⟨.inl rfl,fin bc⟩|ret=>exact⟨.inr rfl,fin bc⟩|exit id=>cases bc
 |goto l=>cases bc
 |panic c=>cases bc
 |outgrown=>cases bc
def KJ(s:fM)(ls:List D):aG:=⟨λt=>(s.wg ls).getD t .any,fx (s.nJ ls)⟩
def ajS(X:nd)(s:fM)(pd:List v9)(rs:List ResultVar)(e:Exit)(σ:aG):Option (List D):=match e with
 | .normal=>aa (qS X.T σ rs) λx=>sx X.ib ⟨[(0,s.res)],s.outs,pd⟩ ⟨λt=>if t=0 then x else .any,σ.objs⟩ some
 | .ret=>aa (qS X.T σ rs) λx=>sx X.ib ⟨[(0,s.res)],s.outs,pd⟩ ⟨λt=>if t=0 then x else .any,σ.objs⟩ some
 |_=>none
def QD(X:nd)(fn:Func)(s:fM)(pd:List v9)(ls:List D):Option (List D):=match fn.body with|some c=>exec X c (KJ s ls) (ajS X s pd fn.results.toList)|none=>none
def ajT{P:Program}(X:nd)(bf:dM P X.T)(cf:hj P X.G X.C)(gf:kV P X.G X.H)(hm:P.follows .mixedOrders=true){s:fM}{fn:Func}(bd:P.funcs[s.f]?=some fn)(bn:nM X.T X.p7 fn=true)(b5:decide (s.args.length<=fn.ntmps)=true) (jl:(s.ins.all λp=>decide (p.1<10000)||X.ib.contains p.1)=true) {pd:List v9} {F:List D->Option (List D)} (h:∀ls fq,F ls=some fq->QD X fn s pd ls=some fq):e2 P X.G s F:=by
 have b5:=xaW b5;unfold nM at bn;split at bn
 case h_2=>cases bn
 rename_i c aj;simp only[xam,xaC,xbZ]at bn;refine⟨⟨fn,bd,bn.2,by rw[aj];rfl⟩,?_⟩;intro ls fq gP m fr ρ w vs c3 cY aq Jk;have ag:=h ls fq gP;unfold QD at ag;rw[aj]at ag;simp only at ag;have fs:(s.wg ls).length=s.args.length:=by
  have:∀(l:List lp)(n:Nat),(qZ ls l n).1.length=l.length:=by
   intro l
   induction l with
   |nil=>intro n;rfl
   |cons x r ih=>intro n;simp[qZ,ih]
  exact this _ _
 have ajU:fL X.ib (KJ s ls):=by
  intro k ak aj;obtain⟨cs,hD⟩:=AK aj;have:=vU hD;have ab:mc (s.nJ ls)=s.ins.map (·.1):=x6 _ _ _;rw[ab]at this;obtain⟨p,aT,rfl⟩:=xax.1 this;have af:=xay.1 jl p aT;simp only[xbc,xaC,List.contains_eq_mem]at af;rcases af with af|af
  .exact absurd af (Nat.not_lt.2 ak)
  exact af
 have hw:=q3 X bf cf gf hm bn.1.2 c bn.1.1 ajU ag;refine calls_of_wp bd aj ?_;have Eh:Den m fr ρ (KJ s ls) {tmps:=vs.toArray++Array.replicate (fn.ntmps-vs.toArray.size) undef,defers:=[]} w:=by
  refine⟨cY.mem,cY.frame,cY.apart,cY.one,?_,cY.objs,cY.own,cY.sep⟩;intro t;simp only[KJ];by_cases aM:t<vs.length
  .have cr:t<(s.wg ls).length:=by rw[<-aq];exact aM
   have aA:=xaa cr;have a6:=xaa aM;have aK:(s.wg ls).getD t .any=(s.wg ls)[t]:=by rw[xaQ,aA];rfl
   have aY:(vs.toArray++Array.replicate (fn.ntmps-vs.toArray.size) undef).getD t undef=vs[t]:=by rw[xbt,xbI (by simpa using aM)];simp[aM]
   rw[aK,aY];exact Jk t _ _ aA a6
  have aK:(s.wg ls).getD t .any= .any:=by rw[xaQ,xbl (by omega)];rfl
  rw[aK];exact .any _
 have gE:fn.ntmps<=(vs.toArray++Array.replicate (fn.ntmps-vs.toArray.size) undef).size:=by simp;omega
 refine wp_mono (Yn hw m fr ρ _ w c3 Eh gE rfl) ?_;rintro e cC w' ⟨aU,cI,cU,⟨a2,bc⟩,b7,cO,gp,hT,jE⟩;have fin:(aa (qS X.T aU fn.results.toList) λx=>sx X.ib ⟨[(0,s.res)],s.outs,pd⟩ ⟨λt=>if t=0 then x else .any,aU.objs⟩ some)=some fq->cC.defers=[]/\∃v,(results fn cC.tmps).run P w'= .ok v w'/\∃v1 gA na,Ending.returned v= .returned v1/\m.le gA/\Kz gA fr na (fx (s.pf fq)) w'/\b4 gA na (q0 (fx (s.pf fq))) (s.KA fq) v1/\∀k,10000<=k->eN (fx (s.nJ ls) k)->na k=ρ k:=by
  intro ab;obtain⟨x,af,aw⟩:=fp ab;obtain⟨v,bC,bD⟩:=WC (P:=P) bf cO af;obtain⟨aza,eJ,dX,ja⟩:=Kv (σ:=⟨λt=>if t=0 then x else .any,aU.objs⟩) a2 aw;cases ja;have ajV:Den cI fr cU ⟨λt=>if t=0 then x else .any,aU.objs⟩ {tmps:= #[v],defers:=[]} w':=by
   refine⟨cO.mem,cO.frame,cO.apart,cO.one,?_,cO.objs,cO.own,cO.sep⟩;intro t;by_cases aM:t=0;.subst aM;exact bD
   simp only[aM,xaG];exact .any _
  obtain⟨ku,lf,t1,t2,t3⟩:=eJ cI fr cU _ w' ajV;have ajW:=t2.aJ 0;refine⟨hT,v,bC,v,ku,lf,rfl,Mem.le_trans b7 t1,⟨t2.mem,t2.frame,t2.apart,t2.one,λ_=> .any _,t2.objs,t2.own,t2.sep⟩,?_,?_⟩
  .exact ajW
  intro k ak ajX;obtain⟨pS,oW⟩:=jE k ak ajX;rw[(t3 k ak pS).2,oW]
 cases e with
 |normal=>exact fin bc|ret=>exact fin bc|exit id=>cases bc
 |goto l=>cases bc
 |panic c=>cases bc
 |outgrown=>cases bc
def ajY{P:Program}{T:cg}{os:Nat->Option (List Nat)}{f:FuncId}{fn:Func}(bd:P.funcs[f]?=some fn)(bn:nM T os fn=true):vE P f:=by
 unfold nM at bn;split at bn
 case h_2=>cases bn
 rename_i c aj;simp only[xam,xaC,xbZ]at bn;exact⟨fn,bd,bn.2,by rw[aj];rfl⟩
def yh{P:Program}{G:dm}{s:fM}{F:List D->Option (List D)}(wm:vE P s.f)(h:∀ls,F ls=none):e2 P G s F:=⟨wm,λls fq bz=>by rw[h]at bz;cases bz⟩
def ek:List (Tmp×Bg)->wj
 |[],_=>none|(t',e)::r,t=>if t=t' then some e else ek r t
def ajZ{P:Program}{G:dm}:kV P G (ek []):=by intro t e h;cases h
def aj0{P:Program}{G:dm}{t:Tmp}{e:Bg}{l:List (Tmp×Bg)}(h:e2 P G e.s e.F)(bz:kV P G (ek l)):kV P G (ek ((t,e)::l)):=by
 intro t' dt he;unfold ek at he;split at he;.cases he;exact h
 exact bz t' dt he
def eU:List (Nat×List (List Key))->Nat->List (List Key)
 |[],_=>[]|(j,s)::r,k=>if k=j then s else eU r k
def e3(l:List Tmp)(t:Tmp):Bool:=l.contains t
def en:List (FuncId×(List D->Option D))->lK
 |[],_,_,_=>none|(kr,F)::r,d,f,aO=>if f=kr then F aO else en r d f aO
def bw(P:Program)(G:dm)(f:FuncId)(F:List D->Option D):Prop:=∀aO r,F aO=some r->ez P G f aO (·=r)
def aj1{P:Program}{G:dm}:hj P G (en []):=by intro d f aO r h;cases h
def aj2{P:Program}{G:dm}{f:FuncId}{F:List D->Option D}{l:List (FuncId×(List D->Option D))}(h:bw P G f F)(bz:hj P G (en l)):hj P G (en ((f,F)::l)):=by
 intro d kr aO r av;unfold en at av;split at av;.rename_i e;subst e;exact h aO r av
 exact bz d kr aO r av
def bZ:List (Nat×qY)->Nat->Option qY
 |[],_=>none|(j,s)::r,k=>if k=j then some s else bZ r k
def eV:List (Nat×List Nat)->Nat->Option (List Nat)
 |[],_=>none|(j,s)::r,k=>if k=j then some s else eV r k
def yi(f:FuncId)(x:D):Bool:=match x with| .val (.func (.func kr) a b)=>kr==f&&a.size==0&&b.size==0|_=>false
def QE{f:FuncId}{x:D}(h:yi f x=true):x= .val (.func (.func f) #[] #[]):=by
 unfold yi at h;split at h;.rename_i kr a b;simp only[xam,xbH]at h;obtain⟨⟨rfl,ab⟩,af⟩:=h;rw[xbf ab,xbf af]
 cases h
def hG(f:FuncId)(x:D):Option (List D):=match x with
 | .fn (.func kr) first oi=>if kr=f/\first.isEmpty=true then some oi else none
 |_=>none
def lQ{f:FuncId}{x:D}{oi:List D}(h:hG f x=some oi):x= .fn (.func f) [] oi:=by
 unfold hG at h;split at h
 .split at h;.rename_i an;cases h;rw[an.1,List.isEmpty_iff.1 an.2]
  cases h
 cases h
def le_nil:jF (λk=>k) (λ_=>False) (List.map aS.d []) []:=trivial
def nN{x:D}{y:aS}{xs:List D}{dj:List aS}(h:o7 (λk=>k) (λ_=>False) (.d x) y)(bz:jF (λk=>k) (λ_=>False) (List.map aS.d xs) dj):jF (λk=>k) (λ_=>False) (List.map aS.d (x::xs)) (y::dj):=⟨h,bz⟩
def aj3{x:D}:o7 (λk=>k) (λ_=>False) (.d x) (.d x):=⟨x,rfl,D.le_refl x⟩
theorem ow{c:List D}{o:Nat}:o7 (λk=>k) (λ_=>False) (.d (.ref c o)) (.eo c o):= .inr rfl
def al(t:Nat):Nat×lp:=(t,.b .d)
def sp(t:Nat):Nat×lp:=(t,.b (.ptr t 0))
def bY(t k:Nat):Nat×lp:=(t,.b (.row k))
def a7(k n:Nat):Key×lM:=(k,.box (List.replicate n (.b .d)))
def br(k n:Nat):Key×lM:=(k,.row n)
def aj4(P:Program)(G:dm)(n:Nat)(c:List (FuncId×(List D->Option D)))(l j b:List (Nat×qY)):nd:=⟨ej P,G,en c,n,[],bZ l,bZ j,bZ b,eV [],ek [],e3 [],eU []⟩
def eW{P:Program}(X:nd)(bf:dM P X.T)(cf:hj P X.G X.C)(gf:kV P X.G X.H)(hm:P.follows .mixedOrders=true){f:FuncId}{fn:Func}(bd:P.funcs[f]?=some fn){aO:List D}{as:List aS}(hle:jF (λk=>k) (λ_=>False) (aO.map .d) as) {o:Option D} {r:D} (h:o=some r) (jl:X.ib=[]:=by rfl) (bn:nM X.T X.p7 fn=true:=by kernel_rfl) (b5:decide (aO.length<=fn.ntmps)=true:=by kernel_rfl) (he:uq X fn as=o:=by kernel_rfl):ez P X.G f aO (·=r):=ajR X bf cf gf hm jl bd bn hle b5 (he.trans h)
def iO{P:Program}(X:nd)(bf:dM P X.T)(cf:hj P X.G X.C)(gf:kV P X.G X.H)(hm:P.follows .mixedOrders=true){s:fM}{fn:Func}(bd:P.funcs[s.f]?=some fn)(pd:List v9){F:List D->Option (List D)}(bn:nM X.T X.p7 fn=true:=by kernel_rfl)(b5:decide (s.args.length<=fn.ntmps)=true:=by kernel_rfl) (jl:(s.ins.all λp=>decide (p.1<10000)||X.ib.contains p.1)=true:=by kernel_rfl) (h:∀ls,QD X fn s pd ls=F ls:=by intros;kernel_rfl):e2 P X.G s F:=ajT X bf cf gf hm bd bn b5 jl λls fq bz=>(h ls).trans bz
def ca{x:D}{xs:List D}{dj:List aS}(h:jF (λk=>k) (λ_=>False) (List.map aS.d xs) dj):jF (λk=>k) (λ_=>False) (List.map aS.d (x::xs)) (.d x::dj):=nN aj3 h
def QF(g:Option D):List D->Option D
 |[]=>g|_=>none
@[simp] theorem azb {g:Option D}:QF g []=g:=rfl
def Ep{P:Program}(X:nd)(bf:dM P X.T)(cf:hj P X.G X.C)(gf:kV P X.G X.H)(hm:P.follows .mixedOrders=true){f:FuncId}{fn:Func}(bd:P.funcs[f]?=some fn){g:Option D}(jl:X.ib=[]:=by rfl)(bn:nM X.T X.p7 fn=true:=by kernel_rfl)(b5:decide (0<=fn.ntmps)=true:=by kernel_rfl)(he:uq X fn []=g:=by intros;kernel_rfl):bw P X.G f (QF g):=by
 intro aO r h;unfold QF at h;split at h
 case h_2=>cases h
 exact eW X bf cf gf hm bd le_nil h jl bn b5 he
def QG(g:D->Option D):List D->Option D
 |[ae]=>g ae|_=>none
@[simp] theorem azc {g:D->Option D} {ae:D}:QG g [ae]=g ae:=rfl
def cB{P:Program}(X:nd)(bf:dM P X.T)(cf:hj P X.G X.C)(gf:kV P X.G X.H)(hm:P.follows .mixedOrders=true){f:FuncId}{fn:Func}(bd:P.funcs[f]?=some fn){g:D->Option D}(jl:X.ib=[]:=by rfl)(bn:nM X.T X.p7 fn=true:=by kernel_rfl)(b5:decide (1<=fn.ntmps)=true:=by kernel_rfl)(he:∀ae,uq X fn [.d ae]=g ae:=by intros;kernel_rfl):bw P X.G f (QG g):=by
 intro aO r h;unfold QG at h;split at h
 case h_2=>cases h
 exact eW X bf cf gf hm bd (ca le_nil) h jl bn b5 (he _)
def QH(g:D->D->Option D):List D->Option D
 |[ae,ao]=>g ae ao|_=>none
@[simp] theorem azd {g:D->D->Option D} {ae ao:D}:QH g [ae,ao]=g ae ao:=rfl
def dx{P:Program}(X:nd)(bf:dM P X.T)(cf:hj P X.G X.C)(gf:kV P X.G X.H)(hm:P.follows .mixedOrders=true){f:FuncId}{fn:Func}(bd:P.funcs[f]?=some fn){g:D->D->Option D}(jl:X.ib=[]:=by rfl)(bn:nM X.T X.p7 fn=true:=by kernel_rfl)(b5:decide (2<=fn.ntmps)=true:=by kernel_rfl)(he:∀ae ao,uq X fn [.d ae,.d ao]=g ae ao:=by intros;kernel_rfl):bw P X.G f (QH g):=by
 intro aO r h;unfold QH at h;split at h
 case h_2=>cases h
 exact eW X bf cf gf hm bd (ca (ca le_nil)) h jl bn b5 (he _ _)
def QI(g:D->D->D->Option D):List D->Option D
 |[ae,ao,ba]=>g ae ao ba|_=>none
@[simp] theorem aze {g:D->D->D->Option D} {ae ao ba:D}:QI g [ae,ao,ba]=g ae ao ba:=rfl
def gZ{P:Program}(X:nd)(bf:dM P X.T)(cf:hj P X.G X.C)(gf:kV P X.G X.H)(hm:P.follows .mixedOrders=true){f:FuncId}{fn:Func}(bd:P.funcs[f]?=some fn){g:D->D->D->Option D}(jl:X.ib=[]:=by rfl)(bn:nM X.T X.p7 fn=true:=by kernel_rfl)(b5:decide (3<=fn.ntmps)=true:=by kernel_rfl)(he:∀ae ao ba,uq X fn [.d ae,.d ao,.d ba]=g ae ao ba:=by intros;kernel_rfl):bw P X.G f (QI g):=by
 intro aO r h;unfold QI at h;split at h
 case h_2=>cases h
 exact eW X bf cf gf hm bd (ca (ca (ca le_nil))) h jl bn b5 (he _ _ _)
def QJ(g:D->D->D->D->Option D):List D->Option D
 |[ae,ao,ba,b6]=>g ae ao ba b6|_=>none
@[simp] theorem azf {g:D->D->D->D->Option D} {ae ao ba b6:D}:QJ g [ae,ao,ba,b6]=g ae ao ba b6:=rfl
def ph{P:Program}(X:nd)(bf:dM P X.T)(cf:hj P X.G X.C)(gf:kV P X.G X.H)(hm:P.follows .mixedOrders=true){f:FuncId}{fn:Func}(bd:P.funcs[f]?=some fn){g:D->D->D->D->Option D}(jl:X.ib=[]:=by rfl)(bn:nM X.T X.p7 fn=true:=by kernel_rfl)(b5:decide (4<=fn.ntmps)=true:=by kernel_rfl)(he:∀ae ao ba b6,uq X fn [.d ae,.d ao,.d ba,.d b6]=g ae ao ba b6:=by intros;kernel_rfl):bw P X.G f (QJ g):=by
 intro aO r h;unfold QJ at h;split at h
 case h_2=>cases h
 exact eW X bf cf gf hm bd (ca (ca (ca (ca le_nil)))) h jl bn b5 (he _ _ _ _)
def QK(g:D->D->D->D->D->Option D):List D->Option D
 |[ae,ao,ba,b6,cJ]=>g ae ao ba b6 cJ|_=>none
@[simp] theorem azg {g:D->D->D->D->D->Option D} {ae ao ba b6 cJ:D}:QK g [ae,ao,ba,b6,cJ]=g ae ao ba b6 cJ:=rfl
def aj5{P:Program}(X:nd)(bf:dM P X.T)(cf:hj P X.G X.C)(gf:kV P X.G X.H)(hm:P.follows .mixedOrders=true){f:FuncId}{fn:Func}(bd:P.funcs[f]?=some fn){g:D->D->D->D->D->Option D}(jl:X.ib=[]:=by rfl)(bn:nM X.T X.p7 fn=true:=by kernel_rfl)(b5:decide (5<=fn.ntmps)=true:=by kernel_rfl)(he:∀ae ao ba b6 cJ,uq X fn [.d ae,.d ao,.d ba,.d b6,.d cJ]=g ae ao ba b6 cJ:=by intros;kernel_rfl):bw P X.G f (QK g):=by
 intro aO r h;unfold QK at h;split at h
 case h_2=>cases h
 exact eW X bf cf gf hm bd (ca (ca (ca (ca (ca le_nil))))) h jl bn b5 (he _ _ _ _ _)
def aj6(g:D->D->D->D->D->D->Option D):List D->Option D
 |[ae,ao,ba,b6,cJ,c6]=>g ae ao ba b6 cJ c6|_=>none
@[simp] theorem azh {g:D->D->D->D->D->D->Option D} {ae ao ba b6 cJ c6:D}:aj6 g [ae,ao,ba,b6,cJ,c6]=g ae ao ba b6 cJ c6:=rfl
def aj7(g:D->D->D->D->D->D->D->Option D):List D->Option D
 |[ae,ao,ba,b6,cJ,c6,c5]=>g ae ao ba b6 cJ c6 c5|_=>none
@[simp] theorem azi {g:D->D->D->D->D->D->D->Option D} {ae ao ba b6 cJ c6 c5:D}:aj7 g [ae,ao,ba,b6,cJ,c6,c5]=g ae ao ba b6 cJ c6 c5:=rfl
def yj{P:Program}{T:cg}{os:Nat->Option (List Nat)}{f:FuncId}{fn:Func}(h:P.funcs[f]?=some fn)(bn:nM T os fn=true:=by kernel_rfl):vE P f:=ajY h bn
@[congr] def azj {α β:Type} {x y:Option α} {f:α->Option β} (h:x=y):aa x f=aa y f:=by rw[h]
@[simp] theorem eF {α β:Type} {a:α} {f:α->Option β}:aa (some a) f=f a:=rfl
@[simp] theorem azk {α β:Type} {f:α->Option β}:aa (none:Option α) f=none:=rfl
@[congr] def azl {β:Type} {c d:Bool} {p:Option β} (h:c=d):aD c p=aD d p:=by rw[h]
@[simp] theorem sB {β:Type} {p:Option β}:aD true p=p:=rfl
@[simp] theorem azm {β:Type} {p:Option β}:aD false p=none:=rfl
@[congr] def azn {β:Type} {x y:D} {p q:Option β} (h:x=y):aE x p q=aE y p q:=by rw[h]
@[simp] theorem lR {β:Type} {b:Bool} {p q:Option β}:aE (ay b) p q=if b=true then p else q:=by cases b<;>rfl
@[congr] def azo {x y:D} {w:Bool} {p:Option D} (h:x=y):bL x w p=bL y w p:=by rw[h]
@[simp] theorem ef {b w:Bool} {p:Option D}:bL (ay b) w p=if b=w then p else some lk:=rfl
@[simp] theorem QL {ee:Type} {b w:Bool} {p q:Option ee}:v3 (ay b) w p q=if b=w then p else q:=rfl
@[simp] theorem azp {ee:Type} {w:Bool} {p q:Option ee}:v3 lk w p q=q:=rfl
@[simp] theorem ml {w:Bool} {p:Option D}:bL lk w p=some lk:=rfl
@[simp] theorem dY {t:Bool} {a b:D}:bW (ay t) a b=some (if t=true then a else b):=rfl
@[simp] theorem azq {c:Prop} [Decidable c] {a b:Bool}:(if c then ay a else ay b)=ay (if c then a else b):=by split<;>rfl
@[simp] theorem Yp {α:Type} {c:Prop} [Decidable c] {a b:α}:(if c then some a else some b)=some (if c then a else b):=by split<;>rfl
@[simp] theorem azr {α:Type} {c:Prop} [Decidable c] {a b d:α}:(if c then(if c then a else b)else d)=if c then a else d:=by split<;>simp_all
@[simp] theorem QM {β:Type} {b:β}:aX (some b)=some (.inr b):=rfl
@[simp] theorem azs {β:Type}:aX (none:Option β)=none:=rfl
@[simp] theorem p8 {β:Type} {f:List D->Option β} {ls:List D}:a9 f (.inl ls)=f ls:=rfl
@[simp] theorem EW {β:Type} {f:List D->Option β} {b:β}:a9 f (.inr b)=some b:=rfl
@[simp] theorem nO {x:D} {l:List D}:I (x::l) 0=x:=rfl
@[simp] theorem pj {x:D} {l:List D} {n:Nat}:I (x::l) (n+1)=I l n:=rfl
@[simp] theorem EX {k:Nat} {es:List (List D)}:ar (.ax k es)=es:=rfl
@[simp] theorem aj8 {es:List (Value×D)}:ed (.mp es)=es:=rfl
@[simp] theorem aj9 {cs:List D}:Kd (.agg cs)=cs:=rfl
@[simp] theorem azt {cs:List D} {i:Nat}:ad (.agg cs) i=cs.getD i lk:=rfl
@[simp] theorem aka {n:Int}:bE (J n)=true:=rfl
@[simp] theorem akb {n:Bool}:bE (ay n)=true:=rfl
@[simp] theorem akc {n:ByteArray}:bE (aB n)=true:=rfl
@[simp] theorem akd {k:Nat} {es:List (List D)}:bE (.ax k es)=true:=rfl
@[simp] theorem azu {es:List (Value×D)}:bE (.mp es)=true:=rfl
@[simp] theorem ake:bE (.val (.slice none 0 0))=true:=rfl
@[simp] theorem akf {n:Int}:(J n).one=true:=rfl
@[simp] theorem akg {n:Bool}:(ay n).one=true:=rfl
@[simp] theorem akh {n:ByteArray}:(aB n).one=true:=rfl
@[simp] theorem aki {k:Nat} {es:List (List D)}:(D.ax k es).one=true:=rfl
@[simp] theorem akj:(D.val (.slice none 0 0)).one=true:=rfl
@[simp] theorem azv {n:Nat} {cs:List D}:a5 n (.agg cs)=(cs.length==n&&cs.all D.one):=rfl
@[simp] theorem azw:nG (.val (.slice none 0 0))=true:=rfl
@[simp] theorem iP {n off:Nat} {cs:List D}:a3 false n off cs=cs[off]?:=rfl
theorem akk{n off:Nat}{cs:List D}:a3 true n off cs=if off+n<=cs.length then some (.agg ((cs.drop off).take n))else none:=rfl
@[simp] theorem akl {a:Bool} {n off:Nat} {cs:List D}:lI a n off (.agg cs)=a3 a n off cs:=rfl
@[simp] theorem QN {i:Nat} {vs:List D}:bu i (.a1 vs)=vs[i]?:=rfl
@[simp] theorem akm {k:Nat} {es:List (List D)}:bI (.ax k es)=some (J es.length):=rfl
@[simp] theorem akn:bI (.val (.slice none 0 0))=some (J 0):=rfl
@[simp] theorem QO {s:ByteArray}:nI (aB s)=some (J s.size):=rfl
@[simp] theorem Yq {k:Nat} {es:List (List D)} {i:Nat}:bo k (.ax k es) (J (i:Int))=es[i]?:=by simp[bo,J]
@[simp] theorem azx {k:Nat} {es:List (List D)}:bo k (.ax k es) (J 0)=es[0]?:=by simp[bo,J]
def ako{k:Nat}{es:List (List D)}{i:Int}(h:0<=i):bo k (.ax k es) (J i)=es[i.toNat]?:=by simp[bo,J,h]
@[simp] theorem ox {n i:Nat}:cd n (J (i:Int))=if i<n then some i else none:=by simp[cd,J]
@[simp] theorem akp {k:Nat} {es:List (List D)}:kS (.ax k es)=some (k,es):=rfl
@[simp] theorem azy:kS (.val (.slice none 0 0))=some (0,[]):=rfl
def fU{n b:Nat}(ab:n*b<=140737488355328)(af:n<=4611686018427387904):c1 n b=true:=by simp[c1,ab,af]
section
variable{bt:Bool}{a b:Int}
@[simp] theorem EY:ai bt .lss (J a) (J b)=some (ay (decide (a<b))):=rfl
@[simp] theorem KK:ai bt .leq (J a) (J b)=some (ay (decide (a<=b))):=rfl
@[simp] theorem oy:ai bt .gtr (J a) (J b)=some (ay (decide (a>b))):=rfl
@[simp] theorem Bm:ai bt .geq (J a) (J b)=some (ay (decide (a>=b))):=rfl
@[simp] theorem Bn:ai bt .eql (J a) (J b)=some (ay (a==b)):=rfl
@[simp] theorem Bo:ai bt .neq (J a) (J b)=some (ay (a !=b)):=rfl
theorem akq:ai bt .add (J a) (J b)=some (J (IntKind.i64.wrap (a+b))):=rfl
theorem QP:ai bt .sub (J a) (J b)=some (J (IntKind.i64.wrap (a-b))):=rfl
theorem akr:ai bt .mul (J a) (J b)=some (J (IntKind.i64.wrap (a*b))):=rfl
def gj(ab:-9223372036854775808<=a+b)(af:a+b<=9223372036854775807):ai bt .add (J a) (J b)=some (J (a+b)):=by rw[akq,wrap64 _ ab af]
def mm(ab:-9223372036854775808<=a-b)(af:a-b<=9223372036854775807):ai bt .sub (J a) (J b)=some (J (a-b)):=by rw[QP,wrap64 _ ab af]
def KL(ab:-9223372036854775808<=a*b)(af:a*b<=9223372036854775807):ai bt .mul (J a) (J b)=some (J (a*b)):=by rw[akr,wrap64 _ ab af]
def Yr(h:b≠0):ai bt .quo (J a) (J b)=some (J (IntKind.i64.wrap (a.tdiv b))):=by simp[ai,DK,J,h,nF]
def aks(h:b≠0):ai bt .rem (J a) (J b)=some (J (a.tmod b)):=by simp[ai,DK,J,h,nF]
@[simp] theorem QQ {x y:ByteArray}:ai bt .eql (aB x) (aB y)=some (ay (decide (x=y))):=rfl
@[simp] theorem Ys {x y:ByteArray}:ai bt .neq (aB x) (aB y)=some (ay (!decide (x=y))):=rfl
@[simp] theorem akt {x y:ByteArray}:ai bt .lss (aB x) (aB y)=some (ay (blt x y)):=rfl
@[simp] theorem QR {x y:ByteArray}:ai bt .gtr (aB x) (aB y)=some (ay (!(blt x y||decide (x=y)))):=rfl
@[simp] theorem azz {x y:Bool}:ai true .eql (ay x) (ay y)=some (ay (x==y)):=rfl
@[simp] theorem azA {x y:Bool}:ai true .neq (ay x) (ay y)=some (ay (x !=y)):=rfl
@[simp] theorem Bp {x:Bool}:dp .not (ay x)=some (ay (!x)):=rfl
end
attribute [simp] xbu xcb List.getElem?_nil List.getD_cons_zero List.getD_cons_succ
theorem jG{β:Type}{f:List D->Option (List D⊕β)}{n:Nat}{ls:List D}:bp f (n+1) ls=aa (f ls) λx=>match x with| .inl fq=>bp f n fq| .inr b=>some b:=rfl
def Yt{β:Type}{f:List D->Option (List D⊕β)}(eO:Nat->List D):∀{m n j:Nat},(∀i,j<=i->i<j+m->f (eO i)=some (.inl (eO (i+1))))->m<=n->bp f n (eO j)=bp f (n-m) (eO (j+m))
 |0,n,j,_,_=>rfl|m+1,0,j,_,h=>absurd h (by omega)
 |m+1,n+1,j,aH,h=>by
  rw[jG,aH j (xan j) (by omega)];simp only[eF];have:=Yt (f:=f) eO (m:=m) (n:=n) (j:=j+1) (λi ab af=>aH i (by omega) (by omega)) (by omega);rw[this]
  congr 1
  .omega
  congr 1;omega
theorem nf{β:Type}{f:List D->Option (List D⊕β)}{ls:List D}{n:Nat}{b:β}(eO:Nat->List D)(m:Nat)(au:ls=eO 0)(aH:∀i,i<m->f (eO i)=some (.inl (eO (i+1))))(he:f (eO m)=some (.inr b))(aL:m<n):bp f n ls=some b:=by subst au;rw[Yt eO (m:=m) (λi _ h=>aH i (by omega)) (by omega)];obtain⟨k,ak⟩:∃k,n-m=k+1:=⟨n-m-1,by omega⟩;rw[ak,jG,xav,he];rfl
end Go.Am
