/- An evaluator of code over such values, and that what it answers the code does. No condition. -/
import Derived.Test.YthnecpgodmolaaaGreatDoorEngS
import Derived.KernelRfl
set_option linter.all false
set_option linter.unnecessarySimpa false
namespace Go.Am
def aa{α β:Type}(x:Option α)(f:α->Option β):Option β:=match x with|some a=>f a|none=>none
def ft{α β:Type}{x:Option α}{f:α->Option β}{b:β}(h:aa x f=some b):∃a,x=some a/\f a=some b:=by
 cases x with
 |none=>cases h
 |some a=>exact⟨a,rfl,h⟩
def aD{β:Type}(c:Bool)(p:Option β):Option β:=match c with|true=>p|false=>none
def ll{β:Type}{c:Bool}{p:Option β}{b:β}(h:aD c p=some b):c=true/\p=some b:=by
 cases c with
 |false=>cases h
 |true=>exact⟨rfl,h⟩
def aH{β:Type}(x:D)(p q:Option β):Option β:=match x with| .val (.bool true)=>p| .val (.bool false)=>q|_=>none
def Xk{β:Type}{x:D}{p q:Option β}{b:β}(h:aH x p q=some b):(x= .val (.bool true)/\p=some b)\/(x= .val (.bool false)/\q=some b):=by
 unfold aH at h;split at h;.exact .inl ⟨rfl,h⟩
 .exact .inr ⟨rfl,h⟩
 cases h
def ln:D:= .val (.tuple #[])
def nK:Option aS->Option D
 |some (.d r)=>some r|_=>none
def x0{x:Option aS}{r:D}(h:nK x=some r):x=some (.d r):=by
 unfold nK at h;split at h;.cases h;rfl
 cases h
def Kn:D->List D
 | .agg cs=>cs|_=>[]
def ad(x:D)(i:Nat):D:=(Kn x).getD i ln
def ar:D->List (List D)
 | .ax _ es=>es|_=>[]
def ej:D->List (Value×D)
 | .mp es=>es|_=>[]
def bE(x:D):Bool:=x.one
def a5(n:Nat)(x:D):Bool:=match x with| .agg cs=>cs.length==n&&cs.all D.one|_=>false
def nL(x:D):Bool:=match x with| .val (.slice none 0 0)=>true|_=>false
def air{n:Nat}{x:D}(h:a5 n x=true):∃cs,x= .agg cs/\cs.length=n/\cs.all D.one=true:=by
 unfold a5 at h;split at h;.rename_i cs;rw[xam,xbq]at h;exact⟨cs,rfl,h.1,h.2⟩
 cases h
def ais{n:Nat}{cs:List D}(h:cs.length=n):((List.range n).map λi=>aS.d (ad (.agg cs) i))=cs.map .d:=by
 apply xbY;intro i;simp only[xaj];by_cases ah:i<n;.rw[xbQ ah,xab (by omega)];simp[ad,Kn,xaP,h,ah]
 rw[xbo (by simp;omega),xbo (by omega)];rfl
def ai(bt:Bool)(op:BinOp)(x y:D):Option D:=match x,y with
 | .val (.int k a),.val (.int bq b)=>nK (match op with
  | .shl=>if b<0 then none else some (.d (.val (.int k (k.wrap (a*2^(min b.toNat k.bits))))))
  | .shr=>if b<0 then none else some (.d (.val (.int k (a.fdiv (2^(min b.toNat k.bits))))))
  |_=>if k=bq then DK op k a b else none)
 | .val (.string a),.val (.string b)=>nK (OC op a b)| .val (.bool a),.val (.bool b)=>if bt then nK (OD op a b)else none
 |_,_=>none
def ait{T:cd}{t:TypeId}{op:BinOp}{x y r:D}(h:ai (DL T t) op x y=some r):vv T op t (.d x) (.d y)=some (.d r):=by
 unfold ai at h;unfold vv;split at h;.have:=x0 h;cases op<;>exact this
 .exact x0 h
 .split at h;.rename_i aj;simp only[aj,xaD];exact x0 h
  cases h
 cases h
def x1(l:List TypeDesc)(op:BinOp)(x y:D):Option D:=match x,y with| .agg xs,.agg dk=>nK (Jp op l xs dk)|_,_=>none
def aiu{T:cd}{t:TypeId}{op:BinOp}{x y r:D}{l:List TypeDesc}(aq:T.eqs t=some l)(h:x1 l op x y=some r):vv T op t (.d x) (.d y)=some (.d r):=by
 unfold x1 at h;split at h;.unfold vv;simp only[aq];exact x0 h
 cases h
def Xl(op:BinOp)(x y:D):Option D:=match op with
 | .eql=>if nL y then(match x with| .val (.slice none _ _)=>some (.val (.bool true))| .ax _ (_::_)=>some (.val (.bool false))|_=>none)else none
 | .neq=>if nL y then(match x with| .val (.slice none _ _)=>some (.val (.bool false))| .ax _ (_::_)=>some (.val (.bool true))|_=>none)else none
 |_=>none
def dr(op:UnOp)(x:D):Option D:=match op,x with| .not,.val (.bool b)=>some (.val (.bool !b))| .neg,.val (.int k n)=>some (.val (.int k (k.wrap (0-n))))|_,_=>none
def ka(k:IntKind)(x:D):Option D:=match x with| .val (.int _ n)=>some (.val (.int k (k.wrap n)))|_=>none
def Xm(x:D):Option D:=match x with| .val (.string b)=>some (.val (.string b))|_=>none
def bW(c a b:D):Option D:=match c with
 | .val (.bool t)=>some (if t then a else b)
 |_=>none
def a3(agg:Bool)(n off:Nat)(cs:List D):Option D:=match agg with
 |true=>if off+n<=cs.length then some (.agg ((cs.drop off).take n))else none
 |false=>cs[off]?
def lJ(agg:Bool)(n off:Nat)(x:D):Option D:=match x with| .agg cs=>a3 agg n off cs|_=>none
def bs(i:Nat)(x:D):Option D:=match x with| .a1 vs=>vs[i]?|_=>none
def nM(s i:D):Option D:=match s,i with| .val (.string s),.val (.int _ n)=>nK (Jt s n)|_,_=>none
def sA(x:Option D)(OH:Nat):Option Nat:=match x with
 |none=>some OH|some (.val (.int _ n))=>if 0<=n then some n.toNat else none
 |_=>none
theorem Ko(x:Option D)(d:Nat):pZ (x.map .d) d=sA x d:=by cases x with|none=>rfl|some x=>cases x<;>first|rfl|(rename_i v;cases v<;>rfl)
def Xn(s:D)(lo ah:Option D):Option D:=match s with
 | .val (.string s)=>match sA ah s.size,sA lo 0 with
  |some h,some l=>if l<=h/\h<=s.size then some (.val (.string (s.extract l h)))else none
  |_,_=>none
 |_=>none
def q0(k:Nat)(x:D)(lo ah:Option D):Option D:=match x with
 | .ax bq es=>match sA ah es.length,sA lo 0 with
  |some h,some l=>if l<=h/\h<=es.length/\bq=k then some (.ax bq ((es.drop l).take (h-l)))else none
  |_,_=>none
 |_=>none
def pe(n:Nat)(lo ah:Option D):Option (Nat×Nat):=match sA ah n,sA lo 0 with
 |some h,some l=>if l<=h/\h<=n then some (l,h-l)else none
 |_,_=>none
def pf(x:D):Option D:=match x with| .val (.string s)=>some (.val (.int .i64 s.size))|_=>none
def bK(x:D):Option D:=match x with| .ax _ es=>some (.val (.int .i64 es.length))| .val (.slice _ n _)=>some (.val (.int .i64 n))|_=>none
def Xo(x:D):Option D:=match x with| .val (.map none)=>some (.val (.int .i64 0))| .mp es=>some (.val (.int .i64 es.length))|_=>none
def bn(k:Nat)(x i:D):Option (List D):=match i with
 | .val (.int _ n)=>if 0<=n then(match x with
  | .ax bq es=>if bq=k then es[n.toNat]? else none
  |_=>none)else none
 |_=>none
def cg(n:Nat)(i:D):Option Nat:=match i with
 | .val (.int _ j)=>if 0<=j/\j<n then some j.toNat else none
 |_=>none
def kS(x:D):Option (Nat×List (List D)):=match x with| .ax k es=>some (k,es)| .val (.slice none 0 _)=>some (0,[])|_=>none
def lK(hr:Bool)(l:List D):Option D:=nK (qL hr (l.map .d))
def c5(n bytes:Nat):Bool:=decide (n*bytes<=140737488355328)&&decide (n<=4611686018427387904)
def q1(bytes:Nat)(l c:D):Option Nat:=match l,c with
 | .val (.int _ l),.val (.int _ c)=>if 0<=l/\l<=c/\(bytes:Int)*c<=281474976710656/\c<=9223372036854775807 then some l.toNat else none
 |_,_=>none
def jV(kind:TypeDesc)(zero:Value)(ok:Bool)(es:List (Value×D))(k:D):Option D:=match k with
 | .val fc=>match findD kind fc es with
  |some (some x)=>some (if ok then .a1 [x,.val (.bool true)]else x)
  |some none=>some (if ok then .a1 [sg zero,.val (.bool false)]else sg zero)
  |none=>none
 |_=>none
def lp(x:D):Option (List (Value×D)):=match x with| .val (.map none)=>some []| .mp es=>some es|_=>none
def nh(kind:TypeDesc)(es:List (Value×D))(k x:D):Option (List (Value×D)):=match k with| .val fc=>qM kind fc x es|_=>none
section
variable{β:Type}
def Er:List aS->Option β->Option β
 |[],p=>p| .d a::r,p=>aD (bE a) (Er r p)|x::r,p=>if x.one=true then Er r p else none
def PH{p:Option β}{b:β}:∀{cs:List aS},Er cs p=some b->cs.all aS.one=true/\p=some b
 |[],h=>⟨rfl,h⟩
 |x::r,h=>by
  unfold Er at h;split at h;.rename_i e;cases e
  .rename_i a sf oe e;cases e;obtain⟨ab,af⟩:=ll h;obtain⟨aw,a4⟩:=PH af;exact⟨by rw[xbO,aw,xbs];exact ab,a4⟩
  rename_i e;cases e;split at h;.rename_i ag;obtain⟨aw,a4⟩:=PH h;exact⟨by rw[xbO,aw,xbs];exact ag,a4⟩
  cases h
def A1(n:Nat)(x:aS)(k:List aS->Option β):Option β:=match x with
 | .d a=>match n with|1=>aD (bE a) (k [.d a])|_=>aD (a5 n a) (k ((List.range n).map λi=> .d (ad a i)))
 | .agg cs=>Er cs (k cs)|x=>match cellsOf x with|some cs=>k cs|none=>none
def Kp{n:Nat}{x:aS}{k:List aS->Option β}{b:β}(h:A1 n x k=some b):∃cs,cellsOf x=some cs/\k cs=some b:=by
 unfold A1 at h;split at h
 .rename_i a;split at h
  .obtain⟨ab,af⟩:=ll h;refine⟨_,?_,af⟩;unfold bE at ab;unfold cellsOf;split;.rename_i he;cases he;cases ab
   .rename_i he;cases he
   rw[xad (show aS.one (.d a)=true from ab)]
  obtain⟨ab,af⟩:=ll h;obtain⟨cs,rfl,aL,aX⟩:=air ab;rw[ais aL]at af;exact⟨_,by simp only[cellsOf,aX,xaD],af⟩
 .obtain⟨ab,af⟩:=PH h;exact⟨_,by simp only[cellsOf,ab,xaD],af⟩
 split at h;.rename_i cs hG;exact⟨cs,hG,h⟩
 cases h
def Kq(place:Nat->Option (Nat×Nat))(cells:List aS):List (Nat×aS)->(List aS->Option β)->Option β
 |[],k=>k cells|(i,x)::rest,k=>match place i with|none=>none|some (off,size)=>A1 size x λcs=>if cs.length=size/\off+cs.length<=cells.length then Kq place (nB cells off cs) rest k else none
def Xp{place:Nat->Option (Nat×Nat)}:∀{parts:List (Nat×aS)} {cells:List aS} {k:List aS->Option β} {b:β},Kq place cells parts k=some b->∃cs,xy place cells parts=some cs/\k cs=some b
 |[],cells,k,b,h=>⟨cells,rfl,h⟩
 |(i,x)::rest,cells,k,b,h=>by
  unfold Kq at h;split at h;.cases h
  rename_i off size aU;obtain⟨cs,ab,af⟩:=Kp h;split at af
  case isFalse=>cases af
  rename_i ao;obtain⟨out,aw,a4⟩:=Xp af;exact⟨out,by unfold xy;simp only[aU,ab];rw[xad ao];exact aw,a4⟩
def Kr(size:Nat)(n:Nat):List (Nat×aS)->(List (List D)->Option β)->Option β
 |[],k=>k []
 |(i,x)::r,k=>if i=n then A1 size x λcs=>match ld cs with
   |some aO=>if aO.length=size then Kr size (n+1) r λl=>k (aO::l)else none
   |none=>none
  else none
def Xq{size:Nat}:∀{parts:List (Nat×aS)} {n:Nat} {k:List (List D)->Option β} {b:β},Kr size n parts k=some b->∃es,vB size n parts=some es/\k es=some b
 |[],n,k,b,h=>⟨[],rfl,h⟩
 |(i,x)::r,n,k,b,h=>by
  unfold Kr at h;split at h
  case isFalse=>cases h
  rename_i ah;obtain⟨cs,ab,af⟩:=Kp h;split at af
  case h_2=>cases af
  rename_i aO eO;split at af
  case isFalse=>cases af
  rename_i aq;obtain⟨es,aw,a4⟩:=Xq af;exact⟨aO::es,by unfold vB;simp only[ah,xaD,ab,eO,aw,aq],a4⟩
end
section
variable{β:Type}
def sB(T:cd)(G:dn)(σ:aI)(o:Oper)(k:aI->Option β):Option β:=match gY T G σ o with|some aV=>k aV|none=>none
def kT(σ:aI)(dst:Option Tmp)(k:aI->Option β)(p:Option D):Option β:=aa p λv=>k (σ.put dst (.d v))
def mQ(T:cd)(σ:aI)(dst:Option Tmp)(k:aI->Option β)(r:aS)(cA:List (Key×cR)):Option β:=match qQ (T.born (dst.getD 9999)) (dst.getD 9999) (r,cA)with|(r,cA)=>k (aI.put ⟨σ.aJ,dD σ.objs cA⟩ dst r)
def Ks:Option aS->Option (Option D)
 |none=>some none|some (.d a)=>some (some a)|_=>none
theorem Xr{x:Option aS}{y:Option D}(h:Ks x=some y):x=y.map .d:=by unfold Ks at h;split at h<;>cases h<;>rfl
def Xs(T:cd)(t:TypeId):Bool:=match T t with|some ⟨.slice _,_,_,_⟩=>true|_=>false
def PI(T:cd)(G:dn)(σ:aI)(o:Oper)(op:BinOp)(t:TypeId)(x y:Operand)(k:aI->Option β):Option β:=match cf G σ.aJ x,cf G σ.aJ y with
 | .d a,.d b=>match Xs T t with|true=>kT σ o.dst k (Xl op a b)|false=>match T.eqs t with|some l=>kT σ o.dst k (x1 l op a b)|none=>kT σ o.dst k (ai (DL T t) op a b)
 |_,_=>sB T G σ o k
def PJ(T:cd)(G:dn)(σ:aI)(o:Oper)(s:TypeId)(x:Operand)(f:Nat)(k:aI->Option β):Option β:=match DP T s f with
 |some (off,i)=>match cf G σ.aJ x with| .d a=>kT σ o.dst k (lJ (tI i.desc) i.size off a)|_=>sB T G σ o k
 |none=>none
def PK(T:cd)(G:dn)(σ:aI)(o:Oper)(t:TypeId)(a:Operand)(k:aI->Option β):Option β:=match T t with
 |some i=>match cf G σ.aJ a with
  | .et cs off=>kT σ o.dst k (a3 (tI i.desc) i.size off cs)
  | .gd key cQ fy off=>match σ.objs key with
   |some (.row bq es)=>if cQ=bq then aa es[fy]? λe=>kT σ o.dst k (a3 (tI i.desc) i.size off e)else none
   |_=>none
  |_=>sB T G σ o k
 |none=>none
def PL(T:cd)(G:dn)(σ:aI)(o:Oper)(t:TypeId)(x fy:Operand)(k:aI->Option β):Option β:=match T t with
 |some ⟨.slice e,_,_,_⟩=>match T e with
  |some bh=>match cf G σ.aJ fy with
   | .d i=>match cf G σ.aJ x with
    | .d a=>aa (bn bh.size a i) λc=>k (σ.put o.dst (.et c 0))
    | .row key=>match σ.objs key with
     |some (.row bq es)=>if bq=bh.size then aa (cg es.length i) λn=>k (σ.put o.dst (.gd key bq n 0))else none
     |_=>none
    | .sub key bq i0 len=>if bq=bh.size then aa (cg len i) λn=>k (σ.put o.dst (.gd key bq (i0+n) 0))else none
    |_=>none
   |_=>none
  |none=>none
 |some ⟨.array len e,_,_,_⟩=>match T e with
  |some bh=>match cf G σ.aJ fy with
   | .d i=>aa (cg len i) λn=>match DQ (cf G σ.aJ x) (n*bh.size)with|some r=>k (σ.put o.dst r)|none=>none
   |_=>none
  |none=>none
 |_=>none
def PM(T:cd)(G:dn)(σ:aI)(o:Oper)(t:TypeId)(x:Operand)(lo ah:Option Operand)(k:aI->Option β):Option β:=match Ks (lo.map (cf G σ.aJ)),Ks (ah.map (cf G σ.aJ))with
 |some l,some h=>match T t with
  |some ⟨.string,_,_,_⟩=>match cf G σ.aJ x with| .d a=>kT σ o.dst k (Xn a l h)|_=>none
  |some ⟨.slice e,_,_,_⟩=>match T e with
   |some bh=>match cf G σ.aJ x with
    | .d a=>kT σ o.dst k (q0 bh.size a l h)
    | .row key=>match σ.objs key with
     |some (.row bq es)=>if bq=bh.size then aa (pe es.length l h) λp=>k (σ.put o.dst (.sub key bq p.1 p.2))else none
     |_=>none
    | .sub key bq i0 len=>if bq=bh.size then aa (pe len l h) λp=>k (σ.put o.dst (.sub key bq (i0+p.1) p.2))else none
    |_=>none
   |none=>none
  |_=>sB T G σ o k
 |_,_=>none
def PN(T:cd)(G:dn)(σ:aI)(o:Oper)(args:List Operand)(dF:List TypeId)(k:aI->Option β):Option β:=match dF,args with
 |[t],[x]=>match cf G σ.aJ x with
  | .d a=>match T t with|some ⟨.string,_,_,_⟩=>kT σ o.dst k (pf a)|some ⟨.slice _,_,_,_⟩=>kT σ o.dst k (bK a)|some ⟨.map _ _,_,_,_⟩=>kT σ o.dst k (Xo a)|_=>none
  |_=>sB T G σ o k
 |_,_=>none
def PO(T:cd)(G:dn)(σ:aI)(o:Oper)(args:List Operand)(dF:List TypeId)(k:aI->Option β):Option β:=match dF,args with
 |[t,t'],[s,x]=>match T t,T t',σ.objs (o.dst.getD 9999)with
  |some ⟨.slice e,_,_,_⟩,some ⟨.slice _,_,_,_⟩,none=>match T e with
   |some bh=>
    let go:Nat×List (List D)->Option β:=λp=>aD (decide (p.1=bh.size\/p.2=[])&&decide (0<bh.size)) (match cf G σ.aJ s with
     | .d a=>aD (nL a&&c5 p.2.length bh.bytes) (mQ T σ o.dst k (.row (o.dst.getD 9999)) [(o.dst.getD 9999,.row bh.size p.2)])
     | .row key=>match σ.objs key with
      |some (.row bq es)=>if bq=bh.size/\key<10000 then aD (c5 (es.length+p.2.length) bh.bytes) (mQ T σ o.dst k (.row (o.dst.getD 9999)) [(key,.dead),(o.dst.getD 9999,.row bq (es++p.2))])else none
      |_=>none
     |_=>none)
    match cf G σ.aJ x with
    | .d a=>aa (kS a) go
    | .sub key bq i len=>match σ.objs key with
     |some (.row pg es)=>if bq=pg then aD (decide (i+len<=es.length)) (go (bq,(es.drop i).take len))else none
     |_=>none
    |y=>match l9 σ.objs y with|some p=>go p|none=>none
   |none=>none
  |_,_,_=>none
 |_,_=>none
def PQ(T:cd)(G:dn)(σ:aI)(o:Oper)(args:List Operand)(dF:List TypeId)(k:aI->Option β):Option β:=match dF,args with
 |[t,t'],[s,x]=>match T t with
  |some ⟨.slice e,_,_,_⟩=>match T e with
   |some bh=>
    let go:Nat×List (List D)->Option β:=λp=>aD (decide (p.1=bh.size\/p.2=[])) (match cf G σ.aJ s with
     | .row key=>match σ.objs key with
      |some (.row bq es)=>if bq=bh.size then mQ T σ o.dst k (.d (.val (.int .i64 (min p.2.length es.length:Nat)))) [(key,.row bq (p.2.take (min p.2.length es.length)++es.drop (min p.2.length es.length)))]else none
      |_=>none
     | .sub key bq i len=>match σ.objs key with
      |some (.row pg es)=>if bq=bh.size/\pg=bq then aD (decide (i+len<=es.length)) (mQ T σ o.dst k (.d (.val (.int .i64 (min p.2.length len:Nat)))) [(key,.row bq (es.take i++p.2.take (min p.2.length len)++es.drop (i+min p.2.length len)))])else none
      |_=>none
     |_=>none)
    match cf G σ.aJ x with
    | .d a=>aa (kS a) go
    | .sub key bq i len=>match σ.objs key with
     |some (.row pg es)=>if bq=pg then aD (decide (i+len<=es.length)) (go (bq,(es.drop i).take len))else none
     |_=>none
    |y=>match l9 σ.objs y with|some p=>go p|none=>none
   |none=>none
  |_=>none
 |_,_=>none
def PR(T:cd)(G:dn)(σ:aI)(o:Oper)(args:List Operand)(dF:List TypeId)(k:aI->Option β):Option β:=match dF,args with
 |[t],[s]=>match T t with
  |some ⟨.slice e,_,_,_⟩=>match T e with
   |some bh=>match cf G σ.aJ s with
    | .sub key bq i len=>match σ.objs key with
     |some (.row pg es)=>if bq=bh.size/\pg=bq/\bh.zero.cells.toList.all j3=true then aD (decide (i+len<=es.length)) (mQ T σ o.dst k .any [(key,.row bq (es.take i++List.replicate len (bh.zero.cells.toList.map .val)++es.drop (i+len)))])else none
     |_=>none
    |_=>none
   |none=>none
  |_=>none
 |_,_=>none
def PS(T:cd)(G:dn)(σ:aI)(o:Oper)(t:TypeId)(x i:Operand)(ok:Bool)(k:aI->Option β):Option β:=match T t with
 |some ⟨.map ia hi,_,_,_⟩=>match T ia,T hi with
  |some h0,some bh=>if vy h0.desc then(match cf G σ.aJ i with
   | .d fc=>match cf G σ.aJ x with
    | .d m=>aa (lp m) λes=>kT σ o.dst k (jV h0.desc bh.zero ok es fc)| .map key=>match σ.objs key with|some (.map es)=>kT σ o.dst k (jV h0.desc bh.zero ok es fc)|_=>none
    |_=>none
   |_=>none)else none
  |_,_=>none
 |_=>none
def Kt(T:cd)(G:dn)(σ:aI)(o:Oper)(t:TypeId)(m i x:Operand)(k:aI->Option β):Option β:=match T t with
 |some ⟨.map ia _,_,_,_⟩=>match T ia with
  |some h0=>if vy h0.desc then(match cf G σ.aJ m,cf G σ.aJ i,cf G σ.aJ x with
   | .map key,.d fc,.d v=>match σ.objs key with|some (.map es)=>aa (nh h0.desc es fc v) λl=>mQ T σ o.dst k .any [(key,.map l)]|_=>none
   |_,_,_=>none)else none
  |none=>none
 |_=>none
def PT(T:cd)(G:dn)(σ:aI)(o:Oper)(t:TypeId)(a x:Operand)(k:aI->Option β):Option β:=match T t with
 |some i=>A1 i.size (cf G σ.aJ x) λcs=>if cs.length=i.size then(match cf G σ.aJ a with
  | .ptr key off=>match σ.objs key with
   |some (.box cells)=>if off+cs.length<=cells.length then mQ T σ o.dst k .any [(key,.box (nB cells off cs))]else none
   |_=>none
  | .gd key cQ fy off=>match σ.objs key,ld cs with
   |some (.row bq es),some aO=>if cQ=bq/\off+aO.length<=cQ then aa es[fy]? λe=>mQ T σ o.dst k .any [(key,.row cQ (es.set fy (dE e off aO)))]else none
   |_,_=>none
  |_=>none)else none
 |none=>none
def PU(T:cd)(G:dn)(σ:aI)(o:Oper)(t:TypeId)(parts:Array (Nat×Operand))(k:aI->Option β):Option β:=match OG T t with|some (pl,z)=>Kq pl (zeroCells z) (parts.toList.map λp=>(p.1,cf G σ.aJ p.2)) λout=>k (σ.put o.dst (Au out))|none=>none
def PV(T:cd)(G:dn)(σ:aI)(o:Oper)(t:TypeId)(n:Nat)(parts:Array (Nat×Operand))(k:aI->Option β):Option β:=match T t,σ.objs (o.dst.getD 9999)with
 |some ⟨.slice e,_,_,_⟩,none=>match T e with
  |some bh=>Kr bh.size 0 (parts.toList.map λp=>(p.1,cf G σ.aJ p.2)) λes=>if es.length=n/\0<bh.size/\n*bh.size<=16777216 then mQ T σ o.dst k (.row (o.dst.getD 9999)) [(o.dst.getD 9999,.row bh.size es)]else none
  |none=>none
 |_,_=>none
def PW(T:cd)(G:dn)(σ:aI)(o:Oper)(t:TypeId)(l c:Operand)(k:aI->Option β):Option β:=match T t,σ.objs (o.dst.getD 9999)with
 |some ⟨.slice e,_,_,_⟩,none=>match T e with
  |some bh=>match cf G σ.aJ l,cf G σ.aJ c with
   | .d l,.d c=>if bh.zero.cells.toList.all j3 then aa (q1 bh.bytes l c) λn=>mQ T σ o.dst k (.row (o.dst.getD 9999)) [(o.dst.getD 9999,.row bh.size (List.replicate n (bh.zero.cells.toList.map .val)))]else none
   |_,_=>none
  |none=>none
 |_,_=>none
def PX(T:cd)(G:dn)(σ:aI)(o:Oper)(s t:TypeId)(x:Operand)(k:aI->Option β):Option β:=match T s,T t,cf G σ.aJ x with|some _,some ⟨.int i,_,_,_⟩,.d a=>kT σ o.dst k (ka i a)|some _,some ⟨.string,_,_,_⟩,.d a=>kT σ o.dst k (Xm a)|_,_,_=>sB T G σ o k
def Ku(T:cd)(G:dn)(σ:aI)(o:Oper)(hr:Bool)(args:List Operand)(k:aI->Option β):Option β:=match ld (args.map (cf G σ.aJ))with|some aO=>kT σ o.dst k (lK hr aO)|none=>none
def dd:aS->aS->Option (D×D)
 | .d a,.d b=>some (a,b)|_,_=>none
theorem aiv{x y:aS}{p:D×D}(h:dd x y=some p):x= .d p.1/\y= .d p.2:=by unfold dd at h;split at h<;>cases h;exact⟨rfl,rfl⟩
def Xt{T:cd}{ev:Operand->aS}{c a b:Operand}{t:Bool}(ao:ev c= .d (.val (.bool t)))(h:dd (ev a) (ev b)=none):eN T ev (.pick c a b)=some (if t then ev a else ev b):=by
 simp only[eN,ao];generalize ev a=x at*;generalize ev b=y at*;split;.cases h
 rfl
def ug(T:cd)(G:dn)(σ:aI)(o:Oper)(k:aI->Option β):Option β:=match o.op with
 | .binOp op t x y _=>PI T G σ o op t x y k| .unOp op _ x=>match cf G σ.aJ x with| .d a=>kT σ o.dst k (dr op a)|_=>none
 | .convert s t x=>PX T G σ o s t x k
 | .pick c a b=>match cf G σ.aJ c with
  | .d c=>match dd (cf G σ.aJ a) (cf G σ.aJ b)with|some p=>kT σ o.dst k (bW c p.1 p.2)|none=>aH c (k (σ.put o.dst (cf G σ.aJ a))) (k (σ.put o.dst (cf G σ.aJ b)))
  |_=>none
 | .field s x f=>PJ T G σ o s x f k| .extract x i=>match cf G σ.aJ x with| .d a=>kT σ o.dst k (bs i a)|_=>sB T G σ o k
 | .index t x i=>match T t with
  |some ⟨.string,_,_,_⟩=>match cf G σ.aJ x,cf G σ.aJ i with| .d a,.d b=>kT σ o.dst k (nM a b)|_,_=>none
  |some ⟨.array len e,_,_,_⟩=>match T e with
   |some bh=>match cf G σ.aJ x,cf G σ.aJ i with| .d a,.d b=>aa (cg len b) λn=>kT σ o.dst k (lJ (tI bh.desc) bh.size (n*bh.size) a)|_,_=>none
   |none=>none
  |_=>none
 | .load t a=>PK T G σ o t a k| .indexAddr t x fy=>PL T G σ o t x fy k| .slice t x lo ah none=>PM T G σ o t x lo ah k| .lookup t x i ok=>PS T G σ o t x i ok k| .mapUpdate t m i x=>Kt T G σ o t m i x k| .insert t m i x=>Kt T G σ o t m i x k| .store t a x=>PT T G σ o t a x k| .build t parts=>PU T G σ o t parts k| .buildSlice t n parts=>PV T G σ o t n parts k| .makeSlice t l c=>PW T G σ o t l c k| .box t x=>match T t,σ.objs (o.dst.getD 9999)with|some i,none=>A1 i.size (cf G σ.aJ x) λcs=>mQ T σ o.dst k (.ptr (o.dst.getD 9999) 0) [(o.dst.getD 9999,.box cs)]|_,_=>none
 | .call ⟨.builtin .len,args,dF⟩=>PN T G σ o args.toList dF.toList k| .call ⟨.builtin .append,args,dF⟩=>PO T G σ o args.toList dF.toList k| .call ⟨.builtin .copy,args,dF⟩=>PQ T G σ o args.toList dF.toList k| .call ⟨.builtin .clear,args,dF⟩=>PR T G σ o args.toList dF.toList k| .call ⟨.builtin .max,args,_⟩=>Ku T G σ o true args.toList k| .call ⟨.builtin .min,args,_⟩=>Ku T G σ o false args.toList k|_=>sB T G σ o k
variable{T:cd}{G:dn}{σ:aI}{o:Oper}{k:aI->Option β}{b:β}
def v3(h:sB T G σ o k=some b):∃aV,gY T G σ o=some aV/\k aV=some b:=by
 unfold sB at h;split at h;.exact⟨_,by assumption,h⟩
 cases h
def mR{r:aS}(h:eN T (cf G σ.aJ) o.op=some r)(ak:k (σ.put o.dst r)=some b):∃aV,gY T G σ o=some aV/\k aV=some b:=⟨_,by unfold gY;rw[h],ak⟩
def mm{r:aS}(au:eN T (cf G σ.aJ) o.op=none)(h:dC T (cf G σ.aJ) σ.objs o.op=some r)(ak:k (σ.put o.dst r)=some b):∃aV,gY T G σ o=some aV/\k aV=some b:=⟨_,by unfold gY;rw[au,h],ak⟩
def q2{r:aS}{cA:List (Key×cR)}(au:eN T (cf G σ.aJ) o.op=none)(ab:dC T (cf G σ.aJ) σ.objs o.op=none)(h:eo T (cf G σ.aJ) σ.objs (o.dst.getD 9999) o.op=some (r,cA)) (ak:mQ T σ o.dst k r cA=some b):∃aV,gY T G σ o=some aV/\k aV=some b:=⟨_,by unfold gY;rw[au,ab];unfold hb;rw[h];rfl,by unfold mQ at ak;exact ak⟩
def aiw{op:BinOp}{t:TypeId}{x y:Operand}{xz:TypeId}(aF:o.op= .binOp op t x y xz)(h:PI T G σ o op t x y k=some b):∃aV,gY T G σ o=some aV/\k aV=some b:=by
 unfold PI at h;split at h
 .rename_i a c aE ao;split at h
  .rename_i aG;obtain⟨v,ab,af⟩:=ft h;have Xu:∀{d},nL d=true->d= .val (.slice none 0 0):=by
    intro d aB;unfold nL at aB;split at aB;.rfl
    cases aB
   unfold Xs at aG;split at aG
   case h_2=>cases aG
   rename_i aL aX bL cL aK;have aj:c= .val (.slice none 0 0)->eN T (cf G σ.aJ) o.op=none:=by intro dX;subst dX;rw[aF];simp only[eN,aE,ao,vv]
   unfold Xl at ab;split at ab
   .split at ab
    case isFalse=>cases ab
    rename_i aM;have aM:=Xu aM;subst aM;refine mm (r:= .d v) (aj rfl) ?_ af;rw[aF];simp only[dC,aK,ao,vz,xaD,aE,mG];split at ab<;>cases ab<;>simp
   .split at ab
    case isFalse=>cases ab
    rename_i aM;have aM:=Xu aM;subst aM;refine mm (r:= .d v) (aj rfl) ?_ af;rw[aF];simp only[dC,aK,ao,vz,xaD,aE,mG];split at ab<;>cases ab<;>simp
   cases ab
  split at h;.rename_i l aq;obtain⟨v,ab,af⟩:=ft h;exact mR (by rw[aF];simp only[eN,aE,ao];exact aiu aq ab) af
  obtain⟨v,ab,af⟩:=ft h;exact mR (by rw[aF];simp only[eN,aE,ao];exact ait ab) af
 exact v3 h
def Kv{i:iJ}{off:Nat}{cs:List D}{v:D}(h:a3 (tI i.desc) i.size off cs=some v):sd i cs off=some (.d v):=by
 unfold a3 at h;unfold sd;cases aB:tI i.desc with
 |true=>
  simp only[aB]at h;simp only[xaD];split at h;.rename_i ao;rw[xad ao];cases h;rfl
  cases h
 |false=>simp only[aB]at h;simp[h]
def aix{s:TypeId}{x:Operand}{f:Nat}(aF:o.op= .field s x f)(h:PJ T G σ o s x f k=some b):∃aV,gY T G σ o=some aV/\k aV=some b:=by
 unfold PJ at h;split at h
 case h_2=>cases h
 rename_i off i bd;split at h
 .rename_i a aE;obtain⟨v,ab,af⟩:=ft h;unfold lJ at ab;split at ab
  case h_2=>cases ab
  exact mR (by rw[aF];simp only[eN,bd,aE];exact Kv ab) af
 exact v3 h
def aiy{t:TypeId}{a:Operand}(aF:o.op= .load t a)(h:PK T G σ o t a k=some b):∃aV,gY T G σ o=some aV/\k aV=some b:=by
 unfold PK at h;split at h
 case h_2=>cases h
 rename_i i ah;split at h;.rename_i cs off aE;obtain⟨v,ab,af⟩:=ft h;exact mm (by rw[aF];rfl) (by rw[aF];simp only[dC,ah,aE];exact Kv ab) af
 .rename_i key cQ fy off aE;split at h
  case h_2=>cases h
  rename_i bq es ak;split at h
  case isFalse=>cases h
  rename_i dj;obtain⟨e,ab,af⟩:=ft h;obtain⟨v,aw,a4⟩:=ft af;exact mm (by rw[aF];rfl) (by rw[aF];simp only[dC,ah,aE,ak,dj,xaD,ab];exact Kv aw) a4
 exact v3 h
def PY{n m:Nat}{i:D}(h:cg n i=some m):∃Kw j,i= .val (.int Kw j)/\0<=j/\j<n/\m=j.toNat:=by
 unfold cg at h;split at h
 case h_2=>cases h
 split at h
 case isFalse=>cases h
 rename_i ao;cases h;exact⟨_,_,rfl,ao.1,ao.2,rfl⟩
def aiz{t:TypeId}{x fy:Operand}(aF:o.op= .indexAddr t x fy)(h:PL T G σ o t x fy k=some b):∃aV,gY T G σ o=some aV/\k aV=some b:=by
 unfold PL at h;split at h
 .rename_i e s1 s2 gM aK;split at h
  case h_2=>cases h
  rename_i bh he;split at h
  case h_2=>cases h
  rename_i i ah;split at h
  .rename_i a aE;obtain⟨c,ab,af⟩:=ft h;unfold bn at ab;split at ab
   case h_2=>cases ab
   split at ab
   case isFalse=>cases ab
   rename_i aM;split at ab
   case h_2=>cases ab
   split at ab
   case isFalse=>cases ab
   rename_i ak;exact mm (by rw[aF];rfl) (by rw[aF];simp only[dC,aK,ah,he,aE,aM,ak,xaD,ab]) af
  .rename_i key aE;split at h
   case h_2=>cases h
   rename_i bq es ak;split at h
   case isFalse=>cases h
   rename_i dj;obtain⟨n,ab,af⟩:=ft h;obtain⟨Kw,j,rfl,aW,a2,rfl⟩:=PY ab;exact mm (by rw[aF];rfl) (by rw[aF];simp only[dC,aK,ah,he,aE,aW,xaD,ak,dj,a2,and_self]) (dj▸af)
  .rename_i key bq i0 len aE;split at h
   case isFalse=>cases h
   rename_i dj;obtain⟨n,ab,af⟩:=ft h;obtain⟨Kw,j,rfl,aW,a2,rfl⟩:=PY ab;exact mm (by rw[aF];rfl) (by rw[aF];simp only[dC,aK,ah,he,aE,aW,xaD,dj,a2,and_self]) (dj▸af)
  cases h
 .rename_i len e s1 s2 gM aK;split at h
  case h_2=>cases h
  rename_i bh he;split at h
  case h_2=>cases h
  rename_i i ah;obtain⟨n,ab,af⟩:=ft h;obtain⟨Kw,j,rfl,aW,a2,rfl⟩:=PY ab;split at af
  case h_2=>cases af
  rename_i r av;exact mm (by rw[aF];rfl) (by rw[aF];simp only[dC,aK,ah,he,aW,a2,and_self,xaD];exact av) af
 cases h
def aiA{t:TypeId}{x:Operand}{lo ah:Option Operand}(aF:o.op= .slice t x lo ah none)(h:PM T G σ o t x lo ah k=some b):∃aV,gY T G σ o=some aV/\k aV=some b:=by
 unfold PM at h;split at h
 case h_2=>cases h
 rename_i l bJ aq v5;have aq:=Xr aq;have v5:=Xr v5;split at h
 .rename_i s1 s2 gM aK;split at h
  case h_2=>cases h
  rename_i a aE;obtain⟨v,ab,af⟩:=ft h;unfold Xn at ab;split at ab
  case h_2=>cases ab
  split at ab
  case h_2=>cases ab
  rename_i bw bz;split at ab
  case isFalse=>cases ab
  rename_i ao;cases ab;exact mR (by rw[aF];simp only[eN,aK,aE,aq,v5,Ko,bw,bz];rw[xad ao]) af
 .rename_i e s1 s2 gM aK;split at h
  case h_2=>cases h
  rename_i bh he;split at h
  .rename_i a aE;obtain⟨v,ab,af⟩:=ft h;unfold q0 at ab;split at ab
   case h_2=>cases ab
   split at ab
   case h_2=>cases ab
   rename_i bw bz;split at ab
   case isFalse=>cases ab
   rename_i ao;cases ab;exact mm (by rw[aF];simp only[eN,aK]) (by rw[aF];simp only[dC,aK,he,aE,j4,aq,v5,Ko,bw,bz];rw[xad ⟨ao.1,ao.2.1⟩,xad ao.2.2]) af
  .rename_i key aE;split at h
   case h_2=>cases h
   rename_i bq es ak;split at h
   case isFalse=>cases h
   rename_i dj;obtain⟨p,ab,af⟩:=ft h;unfold pe at ab;split at ab
   case h_2=>cases ab
   rename_i bw bz;split at ab
   case isFalse=>cases ab
   rename_i ao;cases ab;exact mm (by rw[aF];simp only[eN,aK]) (by rw[aF];simp only[dC,aK,he,aE,j4,ak,aq,v5,Ko,bw,bz];rw[xad ao,xad dj]) af
  .rename_i key bq i0 len aE;split at h
   case isFalse=>cases h
   rename_i dj;obtain⟨p,ab,af⟩:=ft h;unfold pe at ab;split at ab
   case h_2=>cases ab
   rename_i bw bz;split at ab
   case isFalse=>cases ab
   rename_i ao;cases ab;exact mm (by rw[aF];simp only[eN,aK]) (by rw[aF];simp only[dC,aK,he,aE,j4,aq,v5,Ko,bw,bz];rw[xad ao,xad dj]) af
  cases h
 exact v3 h
def aiB{args:Array Operand}{dF:Array TypeId}(aF:o.op= .call ⟨.builtin .len,args,dF⟩)(h:PN T G σ o args.toList dF.toList k=some b):∃aV,gY T G σ o=some aV/\k aV=some b:=by
 unfold PN at h;split at h
 case h_2=>cases h
 rename_i t x aL aX;have aU:eN T (cf G σ.aJ) o.op=none:=by rw[aF];rfl
 split at h
 .rename_i a aE;split at h;.rename_i s1 s2 gM aK;obtain⟨v,ab,af⟩:=ft h;unfold pf at ab;split at ab<;>cases ab;exact mm aU (by rw[aF];simp only[dC,aL,aX,aK,aE]) af
  .rename_i e s1 s2 gM aK;obtain⟨v,ab,af⟩:=ft h;unfold bK at ab;split at ab<;>cases ab;.exact mm aU (by rw[aF];simp only[dC,aL,aX,aK,aE,j4]) af
   exact mm aU (by rw[aF];simp only[dC,aL,aX,aK,aE,j4]) af
  .rename_i bw bz s1 s2 gM aK;obtain⟨v,ab,af⟩:=ft h;unfold Xo at ab;split at ab<;>cases ab;.exact mm aU (by rw[aF];simp only[dC,aL,aX,aK,aE]) af
   exact mm aU (by rw[aF];simp only[dC,aL,aX,aK,aE]) af
  cases h
 exact v3 h
theorem Xv{a:D}{p:Nat×List (List D)}(h:kS a=some p)(objs:cG):l9 objs (.d a)=some p:=by unfold kS at h;split at h<;>cases h<;>rfl
def aiC{args:Array Operand}{dF:Array TypeId}(aF:o.op= .call ⟨.builtin .append,args,dF⟩)(h:PO T G σ o args.toList dF.toList k=some b):∃aV,gY T G σ o=some aV/\k aV=some b:=by
 unfold PO at h;split at h
 case h_2=>cases h
 rename_i t t' s x aL aX;split at h
 case h_2=>cases h
 rename_i e s1 s2 gM dp ayX ayY ayZ aK tO aB;split at h
 case h_2=>cases h
 rename_i bh he;have aU:eN T (cf G σ.aJ) o.op=none:=by rw[aF];rfl
 have hm:dC T (cf G σ.aJ) σ.objs o.op=none:=by rw[aF];rfl
 have key:∀p:Nat×List (List D),l9 σ.objs (cf G σ.aJ x)=some p->aD (decide (p.1=bh.size\/p.2=[])&&decide (0<bh.size)) (match cf G σ.aJ s with
     | .d a=>aD (nL a&&c5 p.2.length bh.bytes) (mQ T σ o.dst k (.row (o.dst.getD 9999)) [(o.dst.getD 9999,.row bh.size p.2)])
     | .row key=>match σ.objs key with
      |some (.row bq es)=>if bq=bh.size/\key<10000 then aD (c5 (es.length+p.2.length) bh.bytes) (mQ T σ o.dst k (.row (o.dst.getD 9999)) [(key,.dead),(o.dst.getD 9999,.row bq (es++p.2))])else none
      |_=>none
     |_=>none)=some b->∃aV,gY T G σ o=some aV/\k aV=some b:=by
  rintro⟨cQ,xs⟩ e3 h;obtain⟨au,h⟩:=ll h;simp only[xam,xaG]at au;split at h
  .rename_i a aE;obtain⟨ab,h⟩:=ll h;simp only[xam,c5,xaG]at ab;have aM:a= .val (.slice none 0 0):=by
    have:=ab.1;unfold nL at this;split at this;.rfl
    cases this
   have af:=ab.2;clear ab;refine q2 aU hm ?_ h;rw[aF];simp only[eo,aL,aX,aK,tO,aB,he,e3,aE,aM];rw[xad au,xad af]
  .rename_i key aE;split at h
   case h_2=>cases h
   rename_i bq es ak;split at h
   case isFalse=>cases h
   rename_i dj;obtain⟨ab,h⟩:=ll h;simp only[xam,c5,xaG]at ab;refine q2 aU hm ?_ h;rw[aF];simp only[eo,aL,aX,aK,tO,aB,he,e3,aE,ak];rw[xad au,xad ⟨dj.1,ab.1,ab.2,dj.2⟩]
  .cases h
 simp only at h;split at h;.rename_i a aE;obtain⟨p,ab,af⟩:=ft h;exact key p (by rw[aE];exact Xv ab _) af
 .rename_i aiD bq i len aE;split at h
  case h_2=>cases h
  rename_i pg es ak;split at h
  case isFalse=>cases h
  rename_i dj;obtain⟨ab,af⟩:=ll h;have e3:l9 σ.objs (cf G σ.aJ x)=some (bq,(es.drop i).take len):=by rw[aE];simp only[l9,ak];rw[xad ⟨dj,xba ab⟩]
  exact key (bq,(es.drop i).take len) e3 af
 split at h
 case h_2=>cases h
 rename_i p aU;exact key p aU h
def aiE{args:Array Operand}{dF:Array TypeId}(aF:o.op= .call ⟨.builtin .clear,args,dF⟩)(h:PR T G σ o args.toList dF.toList k=some b):∃aV,gY T G σ o=some aV/\k aV=some b:=by
 unfold PR at h;split at h
 case h_2=>cases h
 rename_i t s aL aX;split at h
 case h_2=>cases h
 rename_i e s1 s2 gM aK;split at h
 case h_2=>cases h
 rename_i bh he;have aU:eN T (cf G σ.aJ) o.op=none:=by rw[aF];rfl
 have hm:dC T (cf G σ.aJ) σ.objs o.op=none:=by rw[aF];rfl
 split at h
 case h_2=>cases h
 rename_i key bq i len aE;split at h
 case h_2=>cases h
 rename_i pg es ak;split at h
 case isFalse=>cases h
 rename_i dj;obtain⟨au,h⟩:=ll h;simp only[xaG]at au;refine q2 aU hm ?_ h;rw[aF];simp only[eo,aL,aX,aK,he,aE,ak];rw[xad ⟨dj.1,dj.2.1,au,dj.2.2⟩]
def aiF{args:Array Operand}{dF:Array TypeId}(aF:o.op= .call ⟨.builtin .copy,args,dF⟩)(h:PQ T G σ o args.toList dF.toList k=some b):∃aV,gY T G σ o=some aV/\k aV=some b:=by
 unfold PQ at h;split at h
 case h_2=>cases h
 rename_i t t' s x aL aX;split at h
 case h_2=>cases h
 rename_i e s1 s2 gM aK;split at h
 case h_2=>cases h
 rename_i bh he;have aU:eN T (cf G σ.aJ) o.op=none:=by rw[aF];rfl
 have hm:dC T (cf G σ.aJ) σ.objs o.op=none:=by rw[aF];rfl
 have key:∀p:Nat×List (List D),l9 σ.objs (cf G σ.aJ x)=some p->aD (decide (p.1=bh.size\/p.2=[])) (match cf G σ.aJ s with
     | .row key=>match σ.objs key with
      |some (.row bq es)=>if bq=bh.size then mQ T σ o.dst k (.d (.val (.int .i64 (min p.2.length es.length:Nat)))) [(key,.row bq (p.2.take (min p.2.length es.length)++es.drop (min p.2.length es.length)))]else none
      |_=>none
     | .sub key bq i len=>match σ.objs key with
      |some (.row pg es)=>if bq=bh.size/\pg=bq then aD (decide (i+len<=es.length)) (mQ T σ o.dst k (.d (.val (.int .i64 (min p.2.length len:Nat)))) [(key,.row bq (es.take i++p.2.take (min p.2.length len)++es.drop (i+min p.2.length len)))])else none
      |_=>none
     |_=>none)=some b->∃aV,gY T G σ o=some aV/\k aV=some b:=by
  rintro⟨cQ,xs⟩ e3 h;obtain⟨au,h⟩:=ll h;simp only[xaG]at au;split at h
  .rename_i key aE;split at h
   case h_2=>cases h
   rename_i bq es ak;split at h
   case isFalse=>cases h
   rename_i dj;refine q2 aU hm ?_ h;rw[aF];simp only[eo,aL,aX,aK,he,e3,aE,ak];rw[xad au,xad dj]
  .rename_i key bq i len aE;split at h
   case h_2=>cases h
   rename_i pg es ak;split at h
   case isFalse=>cases h
   rename_i dj;obtain⟨ab,h⟩:=ll h;simp only[xaG]at ab;refine q2 aU hm ?_ h;rw[aF];simp only[eo,aL,aX,aK,he,e3,aE,ak];rw[xad au,xad ⟨dj.1,dj.2,ab⟩]
  .cases h
 simp only at h;split at h;.rename_i a aE;obtain⟨p,ab,af⟩:=ft h;exact key p (by rw[aE];exact Xv ab _) af
 .rename_i aiD bq i len aE;split at h
  case h_2=>cases h
  rename_i pg es ak;split at h
  case isFalse=>cases h
  rename_i dj;obtain⟨ab,af⟩:=ll h;have e3:l9 σ.objs (cf G σ.aJ x)=some (bq,(es.drop i).take len):=by rw[aE];simp only[l9,ak];rw[xad ⟨dj,xba ab⟩]
  exact key (bq,(es.drop i).take len) e3 af
 split at h
 case h_2=>cases h
 rename_i p aU;exact key p aU h
def Xw{h0 bh:iJ}{t ia hi:TypeId}{s1 s2:Nat}{gM:Value}(aK:T t=some ⟨.map ia hi,s1,s2,gM⟩)(ab:T ia=some h0)(af:T hi=some bh)(ak:vy h0.desc=true){ok:Bool}{es:List (Value×D)}{fc v:D} (h:jV h0.desc bh.zero ok es fc=some v):∃u,fc= .val u/\xB T t es u ok=some (.d v):=by
 unfold jV at h;split at h
 case h_2=>cases h
 rename_i u;refine⟨u,rfl,?_⟩;unfold xB;simp only[aK,ab,af,ak,xaD];split at h;.rename_i x ag;cases h;simp only[ag]
 .rename_i ag;cases h;simp only[ag]
 cases h
def aiG{t:TypeId}{x i:Operand}{ok:Bool}(aF:o.op= .lookup t x i ok)(h:PS T G σ o t x i ok k=some b):∃aV,gY T G σ o=some aV/\k aV=some b:=by
 unfold PS at h;split at h
 case h_2=>cases h
 rename_i ia hi s1 s2 gM aK;split at h
 case h_2=>cases h
 rename_i h0 bh ab af;split at h
 case isFalse=>cases h
 rename_i ak;split at h
 case h_2=>cases h
 rename_i fc Jx;split at h;.rename_i m hm;obtain⟨es,aW,a2⟩:=ft h;obtain⟨v,bc,cV⟩:=ft a2;obtain⟨u,rfl,iA⟩:=Xw aK ab af ak bc;refine mm (by rw[aF];rfl) ?_ cV;rw[aF];simp only[dC,Jx,hm];unfold lp at aW;split at aW<;>cases aW<;>exact iA
 .rename_i key hm;split at h
  case h_2=>cases h
  rename_i es mn;obtain⟨v,bc,cV⟩:=ft h;obtain⟨u,rfl,iA⟩:=Xw aK ab af ak bc;refine mm (by rw[aF];rfl) ?_ cV;rw[aF];simp only[dC,Jx,hm,mn,iA]
 cases h
def Xx{t:TypeId}{m i x:Operand}(aF:o.op= .mapUpdate t m i x\/o.op= .insert t m i x)(h:Kt T G σ o t m i x k=some b):∃aV,gY T G σ o=some aV/\k aV=some b:=by
 unfold Kt at h;split at h
 case h_2=>cases h
 rename_i ia hi s1 s2 gM aK;split at h
 case h_2=>cases h
 rename_i h0 ab;split at h
 case isFalse=>cases h
 rename_i ak;split at h
 case h_2=>cases h
 rename_i key fc v aL aX bL;split at h
 case h_2=>cases h
 rename_i es mn;obtain⟨l,aW,a2⟩:=ft h;unfold nh at aW;split at aW
 case h_2=>cases aW
 rcases aF with aF|aF<;>
 .refine q2 (by rw[aF];rfl) (by rw[aF];rfl) ?_ a2;rw[aF];simp only[eo,aK,ab,ak,xaD,aL,aX,bL,mn,aW]
def aiH{t:TypeId}{a x:Operand}(aF:o.op= .store t a x)(h:PT T G σ o t a x k=some b):∃aV,gY T G σ o=some aV/\k aV=some b:=by
 unfold PT at h;split at h
 case h_2=>cases h
 rename_i i ah;obtain⟨cs,ab,af⟩:=Kp h;split at af
 case isFalse=>cases af
 rename_i aq;split at af
 .rename_i key off aE;split at af
  case h_2=>cases af
  rename_i cells ak;split at af
  case isFalse=>cases af
  rename_i ao;refine q2 (by rw[aF];rfl) (by rw[aF];rfl) ?_ af;rw[aF];simp only[eo,ah,ab,aE,ak];rw[xad aq,xad ao]
 .rename_i key cQ fy off aE;split at af
  case h_2=>cases af
  rename_i bq es aO ak eO;split at af
  case isFalse=>cases af
  rename_i ao;obtain⟨e,aW,a2⟩:=ft af;refine q2 (by rw[aF];rfl) (by rw[aF];rfl) ?_ a2;rw[aF];simp only[eo,ah,ab,aE,ak,eO,aW];rw[xad aq,xad ao]
 cases af
def aiI{t:TypeId}{parts:Array (Nat×Operand)}(aF:o.op= .build t parts)(h:PU T G σ o t parts k=some b):∃aV,gY T G σ o=some aV/\k aV=some b:=by
 unfold PU at h;split at h
 case h_2=>cases h
 rename_i pl z aj;obtain⟨cs,ab,af⟩:=Xp h;exact mR (by rw[aF];simp only[eN,Js,aj,ab]) af
def aiJ{t:TypeId}{n:Nat}{parts:Array (Nat×Operand)}(aF:o.op= .buildSlice t n parts)(h:PV T G σ o t n parts k=some b):∃aV,gY T G σ o=some aV/\k aV=some b:=by
 unfold PV at h;split at h
 case h_2=>cases h
 rename_i e s1 s2 gM aK aB;split at h
 case h_2=>cases h
 rename_i bh he;obtain⟨es,ab,af⟩:=Xq h;split at af
 case isFalse=>cases af
 rename_i ao;refine q2 (by rw[aF];rfl) (by rw[aF];rfl) ?_ af;rw[aF];simp only[eo,aK,aB,he,ab];rw[xad ao]
def aiK{t:TypeId}{l c:Operand}(aF:o.op= .makeSlice t l c)(h:PW T G σ o t l c k=some b):∃aV,gY T G σ o=some aV/\k aV=some b:=by
 unfold PW at h;split at h
 case h_2=>cases h
 rename_i e s1 s2 gM aK aB;split at h
 case h_2=>cases h
 rename_i bh he;split at h
 case h_2=>cases h
 rename_i sc jb aq ao;split at h
 case isFalse=>cases h
 rename_i bD;obtain⟨n,ab,af⟩:=ft h;unfold q1 at ab;split at ab
 case h_2=>cases ab
 split at ab
 case isFalse=>cases ab
 rename_i l8;cases ab;refine q2 (by rw[aF];rfl) (by rw[aF];rfl) ?_ af;rw[aF];simp only[eo,aK,aB,he,aq,ao];rw[xad ⟨l8.1,l8.2.1,l8.2.2.1,l8.2.2.2,bD⟩]
def aiL{s t:TypeId}{x:Operand}(aF:o.op= .convert s t x)(h:PX T G σ o s t x k=some b):∃aV,gY T G σ o=some aV/\k aV=some b:=by
 unfold PX at h;split at h;.rename_i q i s1 s2 gM a aG aK ag;obtain⟨v,ab,af⟩:=ft h;unfold ka at ab;split at ab<;>cases ab;exact mR (by rw[aF];simp only[eN,aG,aK,ag]) af
 .rename_i q s1 s2 gM a aG aK ag;obtain⟨v,ab,af⟩:=ft h;unfold Xm at ab;split at ab<;>cases ab;exact mR (by rw[aF];simp only[eN,aG,aK,ag]) af
 exact v3 h
def A2(h:ug T G σ o k=some b):∃aV,gY T G σ o=some aV/\k aV=some b:=by
 unfold ug at h;split at h;.exact aiw (by assumption) h
 .rename_i aF;split at h
  .rename_i a aE;obtain⟨v,ab,af⟩:=ft h;unfold dr at ab;split at ab<;>cases ab;.exact mR (by rw[aF];simp only[eN,aE]) af
   exact mR (by rw[aF];simp only[eN,aE]) af
  cases h
 .exact aiL (by assumption) h
 .rename_i c x y aF;split at h
  case h_2=>cases h
  rename_i jb ao;split at h
  .rename_i p aU;obtain⟨aE,aj⟩:=aiv aU;obtain⟨v,ab,af⟩:=ft h;unfold bW at ab;split at ab<;>cases ab;rename_i t;refine mR ?_ af;rw[aF];simp only[eN,ao,aE,aj];split;.rename_i aL aX;simp only[aS.d.injEq]at aL aX;rw[aL,aX];cases t<;>rfl
   cases t<;>rfl
  rename_i aU;rcases Xk h with⟨rfl,ab⟩|⟨rfl,ab⟩
  .exact mR (by rw[aF];exact Xt ao aU) ab
  exact mR (by rw[aF];exact Xt ao aU) ab
 .exact aix (by assumption) h
 .rename_i x i aF;split at h
  .rename_i a aE;obtain⟨v,ab,af⟩:=ft h;unfold bs at ab;split at ab
   case h_2=>cases ab
   exact mR (by rw[aF];simp only[eN,aE,ab]) af
  exact v3 h
 .rename_i t x i aF;split at h
  .rename_i s1 s2 gM aK;split at h
   case h_2=>cases h
   rename_i a c aE ao;obtain⟨v,ab,af⟩:=ft h;unfold nM at ab;split at ab
   case h_2=>cases ab
   exact mR (by rw[aF];simp only[eN,aK,aE,ao];exact x0 ab) af
  .rename_i len e s1 s2 gM aK;split at h
   case h_2=>cases h
   rename_i bh iK;split at h
   case h_2=>cases h
   rename_i a c aE ao;obtain⟨n,aW,h⟩:=ft h;obtain⟨v,ab,af⟩:=ft h;unfold cg at aW;split at aW
   case h_2=>cases aW
   split at aW
   case isFalse=>cases aW
   rename_i aM;cases aW;unfold lJ at ab;split at ab
   case h_2=>cases ab
   exact mR (by rw[aF];simp only[eN,aK,aE,ao];rw[xad aM];simp only[iK];exact Kv ab) af
  cases h
 .exact aiy (by assumption) h
 .exact aiz (by assumption) h
 .exact aiA (by assumption) h
 .exact aiG (by assumption) h
 .rename_i aF;exact Xx (.inl aF) h
 .rename_i aF;exact Xx (.inr aF) h
 .exact aiH (by assumption) h
 .exact aiI (by assumption) h
 .exact aiJ (by assumption) h
 .exact aiK (by assumption) h
 .rename_i t x aF;split at h
  case h_2=>cases h
  rename_i i ah aB;obtain⟨cs,ab,af⟩:=Kp h;exact q2 (by rw[aF];rfl) (by rw[aF];rfl) (by rw[aF];simp only[eo,ab,aB]) af
 .exact aiB (by assumption) h
 .exact aiC (by assumption) h
 .exact aiF (by assumption) h
 .exact aiE (by assumption) h
 .rename_i args dF aF;unfold Ku at h;split at h
  case h_2=>cases h
  rename_i aO eO;obtain⟨v,ab,af⟩:=ft h;exact mR (by rw[aF];simp only[eN,At eO];exact x0 ab) af
 .rename_i args dF aF;unfold Ku at h;split at h
  case h_2=>cases h
  rename_i aO eO;obtain⟨v,ab,af⟩:=ft h;exact mR (by rw[aF];simp only[eN,At eO];exact x0 ab) af
 exact v3 h
end
section
variable{β:Type}
abbrev lL:=Tmp->FuncId->List D->Option D
def Es(G:dn)(C:lL)(σ:aI)(o:Oper)(x:Operand)(args:List Operand)(k:aI->Option β):Option β:=match vK (cf G σ.aJ x)with
 |some (f,pre,post)=>match hv ((pre++args.map (cf G σ.aJ)++post).map (toD σ.objs))with|some aO=>aa (C (o.dst.getD 9999) f aO) λr=>aD ((pre++args.map (cf G σ.aJ)++post).all sr||r.flat) (k (σ.put o.dst (.d r)))|none=>none
 |none=>none
def PZ:D->Option (FuncId×List D)
 | .fn (.func f) [] oq=>some (f,oq)| .val (.func (.func f) a b)=>if a.size=0/\b.size=0 then some (f,[])else none
 |_=>none
def Et(f:FuncId)(aO:List D):List (FuncId×(List D->Option D))->Option D
 |[]=>none|(g,F)::r=>if f=g then F aO else Et f aO r
def A3(l:List (FuncId×(List D->Option D)))(v:D)(aO:List D):Option D:=aa (PZ v) λp=>Et p.1 (aO++p.2) l
def Xy(t:Tmp):List (Nat×List FuncId)->List FuncId
 |[]=>[]|(d,l)::r=>if t=d then l else Xy t r
def P0(l:List FuncId)(G:dn)(C:lL)(σ:aI)(o:Oper)(x:Operand)(args:List Operand)(k:aI->Option β):Option β:=match cf G σ.aJ x,hv ((args.map (cf G σ.aJ)).map (toD σ.objs))with| .d v,some aO=>aa (A3 (l.map λg=>(g,C (o.dst.getD 9999) g)) v aO) λr=>aD ((args.map (cf G σ.aJ)).all sr||r.flat) (k (σ.put o.dst (.d r)))|_,_=>none
def x2(T:cd)(G:dn)(C:lL)(σ:aI)(o:Oper)(x:Operand)(args:List Operand)(k:aI->Option β):Option β:=match Xy (o.dst.getD 9999) T.dyn with|[]=>Es G C σ o x args k|g::l=>P0 (g::l) G C σ o x args k
def sC(T:cd)(G:dn)(C:lL)(σ:aI)(o:Oper)(k:aI->Option β):Option β:=match o.op with| .call ⟨.value x,args,_⟩=>x2 T G C σ o x args.toList k|_=>ug T G σ o k
def sD(T:cd)(G:dn)(C:lL):List Oper->aI->(aI->Option β)->Option β
 |[],σ,k=>k σ|o::r,σ,k=>sC T G C σ o λaV=>sD T G C r aV k
def v7:List Oper->List (Option (Nat×Bool)×List Oper)
 |[]=>[]
 |o::r=>match v7 r with
  |(g,os)::rest=>if g=o.guard then(g,o::os)::rest else(o.guard,[o])::(g,os)::rest
  |[]=>[(o.guard,[o])]
def bM(x:D)(want:Bool)(p:Option D):Option D:=match x with
 | .val (.bool b)=>if b=want then p else some ln
 | .val (.tuple _)=>some ln|_=>none
def v8{dY:Type}(x:D)(want:Bool)(p q:Option dY):Option dY:=match x with
 | .val (.bool b)=>if b=want then p else q
 | .val (.tuple _)=>q|_=>none
def P1:List Oper->aI->aI
 |[],σ=>σ|o::r,σ=>P1 r (σ.put o.dst (.d ln))
def v9:List Oper->Option Tmp
 |[]=>none|[o]=>o.dst|_::r=>v9 r
def dstsOf(os:List Oper):List Tmp:=os.filterMap (·.dst)
def still(o:Oper):Bool:=iM o.op||jc o.op||hy o.op
def wa(ts:List Tmp)(v:D)(σ:aI):aI:=⟨λt=>if t∈ts then .d (ad v (ts.idxOf t))else σ.aJ t,σ.objs⟩
def Eu(σ:aI):List Tmp->Option (List D)
 |[]=>some []|t::r=>match σ.aJ t,Eu σ r with| .d v,some l=>some (v::l)|_,_=>none
def kept(all:Array Oper)(os l:List Oper):List Tmp:=(dstsOf os).filter λt=>l.any λo=>(o.looksAt all).contains t
def Xz{σ:aI}:∀{ts:List Tmp}{l:List D},Eu σ ts=some l->l.length=ts.length/\∀(i:Nat)(t:Tmp),ts[i]?=some t->∃v,l[i]?=some v/\σ.aJ t= .d v
 |[],l,h=>by cases h;exact⟨rfl,λi t h=>by simp at h⟩
 |t::r,l,h=>by
  unfold Eu at h;split at h
  case h_2=>cases h
  rename_i v sc a6 aq;cases h;have ih:=Xz aq;refine⟨by simp[ih.1],λi u hu=>?_⟩;cases i with|zero=>simp at hu;subst hu;exact⟨v,rfl,a6⟩|succ i=>exact ih.2 i u (by simpa using hu)
def aiM{σ:aI}{ts:List Tmp}{l:List D}(h:Eu σ ts=some l){t:Tmp}(aK:t∈ts):σ.aJ t= .d (ad (.agg l) (ts.idxOf t)):=by
 have ab:ts[ts.idxOf t]?=some t:=by have:=List.idxOf_lt_length_of_mem aK;rw[xab this,List.getElem_idxOf]
 obtain⟨v,af,aw⟩:=(Xz h).2 _ t ab;rw[aw]
 congr 1
 show v=l.getD _ _;simp[List.getD,af]
def lM(aO:List Tmp)(σ:aI):aI:=⟨λt=>if t∈aO then .any else σ.aJ t,σ.objs⟩
def blind(all:Array Oper)(aO:List Tmp)(l:List Oper):Bool:=l.all λo=>aO.all λd=>!(o.looksAt all).contains d&&o.dst !=some d
def XA(all:Array Oper)(d ca:Tmp)(os l:List Oper):Bool:=os.all (λo=>still o&&o.dst !=some d)&&blind all ((dstsOf os).filter (·!=ca)) l
def flat(gs:List (Option (Nat×Bool)×List Oper)):List Oper:=gs.flatMap (·.2)
def x3(T:cd)(G:dn)(C:lL)(all:Array Oper):List (Option (Nat×Bool)×List Oper)->aI->(aI->Option β)->Option β
 |[],σ,k=>k σ|(none,os)::r,σ,k=>sD T G C os σ λaV=>x3 T G C all r aV k
 |(some (j,want),os)::r,σ,k=>match(all[j]?).bind (·.dst),v9 os with
  |some d,some ca=>match σ.aJ d with
   | .d x=>if XA all d ca os (flat r)=true then
     aa (bM x want (sD T G C os σ λaV=>match aV.aJ ca with| .d v=>some v|_=>none)) λv=>x3 T G C all r ((lM (dstsOf os) σ).put (some ca) (.d v)) k
    else if os.all (λo=>o.dst !=some d)=true then v8 x want (sD T G C os σ λaV=>x3 T G C all r aV k) (x3 T G C all r (P1 os σ) k)else none
   |_=>none
  |_,_=>none
def XB(T:cd)(G:dn)(C:lL)(all:Array Oper)(σ:aI)(k:aI->Option β):Option β:=x3 T G C all (v7 all.toList) σ k
def XC:Op->Bool
 | .store _ _ _=>true|_=>false
def P2(all:Array Oper)(listed:Array Bool)(i:Nat):Bool:=match all[i]? with|none=>false|some fs=>((waits all i).all λj=>!listed.getD j true&&match all[j]? with|some c6=>c6.after.any λe=>Region.binds .any e&&(e.on==i||(waits all i).contains e.on)|none=>false)&&(List.range all.size).all λj=>j==i||listed.getD j true||(waits all i).contains j||match all[j]? with|some c6=>fs.apart all c6&&!XC c6.op|none=>true
def XD(all:Array Oper)(listed:Array Bool)(i:Nat)(σ:aI)(o:Oper):Bool:=match o.op with
 | .load _ (.tmp a)=>match σ.aJ a with| .ptr _ _=>P2 all listed i|_=>false
 |_=>false
def x4(all:Array Oper)(listed:Array Bool)(i:Nat):List Oper:=(List.range all.size).filterMap λj=>if j==i||listed.getD j true||(waits all i).contains j then none else all[j]?
def P3(all:Array Oper)(listed:Array Bool)(i:Nat)(aJ:Nat->aS)(o:Oper):Bool:=((waits all i).all λj=>!listed.getD j true&&match all[j]? with|some c6=>c6.after.any λe=>Region.binds .any e&&(e.on==i||(waits all i).contains e.on)|none=>false)&&(x4 all listed i).all λy=>o.apart all y&&sy aJ o y&&(mO o.op++(x4 all listed i).flatMap λy=>uf y.op).all λt=>y.dst !=some t
def A4(T:cd)(G:dn)(C:lL)(all:Array Oper):List Nat->Array Bool->aI->(aI->Option β)->Option β
 |[],listed,σ,k=>if(Region.ready .any all listed).isEmpty=true then k σ else none
 |i::r,listed,σ,k=>match all[i]? with
  |some o=>if o.guard=none/\(Region.ready .any all listed).contains i=true/\(ahe all listed i||XD all listed i σ o||P3 all listed i σ.aJ o||WN T all listed i)=true then sC T G C σ o λaV=>A4 T G C all r (listed.setIfInBounds i true) aV k else none
  |none=>none
def hn(P:Program)(G:dn)(C:lL):Prop:=∀d f aO r,C d f aO=some r->eB P G f aO (·=r)
def wb:∀l:List Oper,flat (v7 l)=l
 |[]=>rfl
 |o::r=>by
  have ih:=wb r;unfold v7;split;.rename_i g os rest cb;rw[cb]at ih;split<;>simp_all [flat]
  rename_i cb;rw[cb]at ih;simp[flat]at ih;subst ih;rfl
def Kx:∀(l:List Oper)(g:Option (Nat×Bool)) (os:List Oper),(g,os)∈v7 l->∀o∈os,o.guard=g
 |[],g,os,h=>by cases h
 |o::r,g,os,h=>by
  have ih:=Kx r;unfold v7 at h;split at h
  .rename_i lj aiN rest cb;split at h
   .rename_i he;rcases xao.1 h with ab|ab
    .cases ab;intro q bg;rcases xao.1 bg with rfl|bg
     .exact he.symm
     exact ih g aiN (by rw[cb];simp) q bg
    exact ih g os (by rw[cb];simp[ab])
   rcases xao.1 h with ab|ab;.cases ab;intro q bg;simp at bg;subst bg;rfl
   exact ih g os (by rw[cb];exact ab)
  simp at h;obtain⟨rfl,rfl⟩:=h;intro q bg;simp at bg;subst bg;rfl
variable{P:Program}{T:cd}{G:dn}{C:lL}{σ:aI}{all:Array Oper}
def XE{α:Type}:∀{a b:List (Option α)} {x y:List α},hv a=some x->hv b=some y->hv (a++b)=some (x++y)
 |[],b,x,y,h,bx=>by cases h;exact bx
 |none::a,b,x,y,h,bx=>by cases h
 |some c::a,b,x,y,h,bx=>by
  simp only[hv,xcf]at h⊢;split at h
  case h_2=>cases h
  rename_i z ab;cases h;rw[XE ab bx];rfl
def XF{objs:cG}:∀(l:List D),hv ((l.map aS.d).map (toD objs))=some l
 |[]=>rfl|c::r=>by have:=XF (objs:=objs) r;have e:toD objs (aS.d c)=some c:=rfl;simp only[xaB,e,hv];rw[this]
def XG{f:FuncId}{aO:List D}{C:FuncId->List D->Option D}{r:D}:∀{l:List FuncId},Et f aO (l.map λg=>(g,C g))=some r->C f aO=some r
 |[],h=>by cases h
 |g::l,h=>by
  simp only[xaB,Et]at h;split at h;.rename_i e;rw[e];exact h
  exact XG h
def aiO{l:List FuncId}{o:Oper}{x:Operand}{args:List Operand}{k:aI->Option β}{b:β}(h:P0 l G C σ o x args k=some b):Es G C σ o x args k=some b:=by
 unfold P0 at h;split at h
 case h_2=>cases h
 rename_i v aO a6 eO;obtain⟨r,ab,af⟩:=ft h;obtain⟨p,aw,a4⟩:=ft ab;have b7:=XG (C:=C (o.dst.getD 9999)) a4;obtain⟨f,oq⟩:=p;have gT:vK (.d v)=some (f,[],oq.map .d):=by
  unfold PZ at aw;split at aw;.cases aw;rfl
  .split at aw;.rename_i gJ;cases aw;simp only[vK,xad gJ,xbj]
   cases aw
  cases aw
 unfold Es;rw[a6,gT];simp only[xaH,List.map_append];rw[XE eO (XF oq)];simp only;rw[b7];obtain⟨aW,a2⟩:=ll af;have gu:((args.map (cf G σ.aJ))++oq.map aS.d).all sr=(args.map (cf G σ.aJ)).all sr:=by
  rw[List.all_append];have:(oq.map aS.d).all sr=true:=by rw[xaz];intro y aQ;obtain⟨c,_,rfl⟩:=xax.1 aQ;rfl
  rw[this,xbs]
 rw[gu];exact af
def aiP{o:Oper}{x:Operand}{args:List Operand}{k:aI->Option β}{b:β}(h:x2 T G C σ o x args k=some b):Es G C σ o x args k=some b:=by
 unfold x2 at h;split at h;.exact h
 exact aiO h
def Ky(b8:hn P G C){dU:cd}{o:Oper}{x:Operand}{args:Array Operand}{dF:Array TypeId}(aF:o.op= .call ⟨.value x,args,dF⟩){k:aI->Option β}{b:β}(h:x2 dU G C σ o x args.toList k=some b):db P T G o (λaV=>k aV=some b/\aV.objs=σ.objs/\∀t,o.dst≠some t->aV.aJ t=σ.aJ t) σ:=by
 have eF:hy o.op=true:=by rw[aF];rfl
 rw[nG (tV eF)]
 replace h:=aiP h
 unfold Es at h;unfold jB;rw[aF];simp only;split at h
 case h_2=>cases h
 rename_i f pre post gT;simp only[gT];split at h
 case h_2=>cases h
 rename_i aO eO;obtain⟨r,ab,af⟩:=ft h;obtain⟨af,aw⟩:=ll af;refine⟨aO,aO,(·=r),eO,qR.refl _,b8 _ _ _ _ ab,⟨r,rfl⟩,?_,?_⟩
 .rcases xbB.1 af with af|af;.exact .inr af
  exact .inl (by rintro _ rfl;exact af)
 rintro _ rfl;refine⟨aw,by simp,?_⟩;intro t aK;cases aB:o.dst with|none=>rfl|some d=>rw[aB]at aK;simp only[aI.put];exact cX _ _ (λe=>aK (by rw[e]))
def XH(b8:hn P G C){o:Oper}{k:aI->Option β}{b:β}(h:sC T G C σ o k=some b):db P T G o (λaV=>k aV=some b) σ:=by
 unfold sC at h;split at h;.exact p4 (λ_ h=>h.1) (Ky b8 (by assumption) h)
 obtain⟨aV,ab,af⟩:=A2 h;unfold db;rw[ab];exact af
def q3{dst:Option Tmp}{r:aS}{t:Tmp}(aK:dst≠some t):(σ.put dst r).aJ t=σ.aJ t:=by cases dst with|none=>rfl|some d=>simp only[aI.put];exact cX _ _ (λe=>aK (by rw[e]))
def XI(b8:hn P G C){o:Oper}(aG:still o=true){k:aI->Option β}{b:β}(h:sC T G C σ o k=some b):db P T G o (λaV=>k aV=some b/\aV.objs=σ.objs/\∀t,o.dst≠some t->aV.aJ t=σ.aJ t) σ:=by
 unfold sC at h;split at h;.exact Ky b8 (by assumption) h
 rename_i XJ;obtain⟨aV,ab,af⟩:=A2 h;unfold db;rw[ab];have aiQ:hb T (cf G σ.aJ) σ.objs (o.dst.getD 9999) o.op=none:=by
  unfold still at aG;simp only[xbb]at aG;rcases aG with(aG|aG)|aG
  .exact(AL aG).2
  .exact AM aG
  exact(Pk aG).2.2
 unfold gY at ab;split at ab;.cases ab;exact⟨af,by simp,λt aK=>q3 aK⟩
 split at ab;.cases ab;exact⟨af,by simp,λt aK=>q3 aK⟩
 rw[aiQ]at ab;cases ab
def mS{l:List Oper}:∀{σ:aI}{K K':aI->Prop},(∀σ,K σ->K' σ)->fV P T G all l K σ->fV P T G all l K' σ:=by
 induction l with
 |nil=>intro σ K K' ak h;exact ak _ h
 |cons o l ih=>intro σ K K' ak h;exact Ea (λaV bx=>ih ak bx) h
def P4{l r:List Oper}:∀{σ:aI}{K:aI->Prop},fV P T G all l (fV P T G all r K) σ->fV P T G all (l++r) K σ:=by
 induction l with
 |nil=>intro σ K h;exact h
 |cons o l ih=>intro σ K h;exact Ea (λaV bx=>ih bx) h
def ot(σ τ:aI):Prop:=σ.objs=τ.objs/\∀t,τ.aJ t= .any\/σ.aJ t=τ.aJ t
theorem ot.refl(σ:aI):ot σ σ:=⟨rfl,λ_=> .inr rfl⟩
def ot.trans{σ τ xT:aI}(h:ot σ τ)(bx:ot τ xT):ot σ xT:=by
 refine⟨h.1.trans bx.1,λt=>?_⟩;rcases bx.2 t with af|af
 .exact .inl af
 rcases h.2 t with ab|ab;.exact .inl (af▸ab)
 exact .inr (ab.trans af)
def ot.Ev{σ τ:aI}(h:ot σ τ):g0 σ τ:=by
 obtain⟨s,o⟩:=σ;obtain⟨s',o'⟩:=τ;obtain⟨ab,af⟩:=h;simp only at ab af;subst ab;intro m fr ρ ac w cZ;refine⟨m,ρ,Mem.le_refl m,⟨cZ.mem,cZ.frame,cZ.apart,cZ.one,?_,cZ.objs,cZ.own,cZ.sep⟩,λk ak aj=>⟨aj,rfl⟩⟩;intro t;rcases af t with h|h;.simp only[h];exact .any _
 have:=cZ.aJ t;simp only at this⊢;rw[<-h];exact this
def XK{d:Tmp}{r:aS}:∀{l:List Oper}{σ:aI}{K:aI->Prop},(∀o∈l,d∉o.looksAt all/\o.dst≠some d)->fV P T G all l K (σ.put (some d) r)=fV P T G all l (λaV=>K (aV.put (some d) r)) σ
 |[],σ,K,h=>rfl
 |o::l,σ,K,h=>by
  have au:=h o (by simp);have ih:∀{σ:aI},fV P T G all l K (σ.put (some d) r)=fV P T G all l (λaV=>K (aV.put (some d) r)) σ:=XK λo' om=>h o' (by simp[om]);unfold fV;rw[hH,hH,oh (by rintro _ ⟨⟩;exact au.1)];cases hw:jT all σ o with
  |none=>rfl
  |some w=>
   cases w with
   |true=>simp only;rw[jC (all:=all) (by rintro _ ⟨⟩;exact au.1) (by rintro _ ⟨⟩;exact au.2)];simp only[ih]
   |false=>simp only;rw[<-ih,put_comm (by rintro _ ⟨⟩;exact au.2)]
def aiR{d:Tmp}{a:aS}{l:List Oper}{σ:aI}{K:aI->Prop}(fi:∀σ τ,ot σ τ->K τ->K σ)(aq:∀o∈l,d∉o.looksAt all/\o.dst≠some d)(h:fV P T G all l K (σ.put (some d) .any)):fV P T G all l K (σ.put (some d) a):=by
 rw[XK aq]at h⊢;refine mS (λaV bx=>fi _ _ ?_ bx) h;refine⟨rfl,λt=>?_⟩;by_cases aK:t=d;.subst aK;exact .inl (by simp[aI.put])
 exact .inr (by simp[aI.put,cX _ _ aK])
def P5{l:List Oper}{K:aI->Prop}(fi:∀σ τ,ot σ τ->K τ->K σ):∀(aO:List Tmp){σ τ:aI},(∀d∈aO,∀o∈l,d∉o.looksAt all/\o.dst≠some d)->(∀t,t∉aO->σ.aJ t=τ.aJ t)->(∀d∈aO,τ.aJ d= .any\/σ.aJ d=τ.aJ d)->σ.objs=τ.objs->fV P T G all l K τ->fV P T G all l K σ
 |[],σ,τ,_,ab,af,aw,h=>by
  have:σ=τ:=by
   cases σ;cases τ;simp only at ab aw;subst aw
   congr 1
   funext t
   exact ab t (by simp)
  rw[this];exact h
 |d::aO,σ,τ,aj,ab,af,aw,h=>by
  by_cases aB:τ.aJ d= .any
  .have e:τ=τ.put (some d) .any:=by
    cases τ;simp only[aI.put]
    congr 1
    funext t
    by_cases aK:t=d;.subst aK;simp only[e4];exact aB
    rw[cX _ _ aK]
   rw[e]at h;have bx:=aiR (a:=σ.aJ d) fi (λo aF=>aj d (by simp) o aF) h;refine P5 (τ:=τ.put (some d) (σ.aJ d)) fi aO (λp7 iy=>aj p7 (by simp[iy])) ?_ ?_ aw bx
   .intro t aK;by_cases uh:t=d;.subst uh;simp[aI.put]
    simp only[aI.put,cX _ _ uh];exact ab t (by simp[uh,aK])
   intro p7 iy;by_cases uh:p7=d;.subst uh;simp[aI.put]
   simp only[aI.put,cX _ _ uh];exact af p7 (by simp[iy])
  refine P5 fi aO (λp7 iy=>aj p7 (by simp[iy])) ?_ (λp7 iy=>af p7 (by simp[iy])) aw h;intro t aK;by_cases uh:t=d
  .subst uh;rcases af t (by simp)with a4|a4
   .exact absurd a4 aB
   exact a4
  exact ab t (by simp[uh,aK])
def XL(b8:hn P G C):∀{os:List Oper}{σ:aI}{k:aI->Option β}{b:β},(∀o∈os,o.guard=none)->sD T G C os σ k=some b->fV P T G all os (λaV=>k aV=some b) σ
 |[],σ,k,b,_,h=>h|o::os,σ,k,b,cb,h=>by unfold fV eu;rw[cb o (by simp)];exact p4 (λaV bx=>XL b8 (λo aF=>cb o (by simp[aF])) bx) (XH b8 h)
def XM(b8:hn P G C){j:Nat}{want:Bool}{d:Tmp}(aB:(all[j]?).bind (·.dst)=some d):∀{os:List Oper}{σ:aI}{k:aI->Option β}{b:β},(∀o∈os,o.guard=some (j,want))->(∀o∈os,still o=true/\o.dst≠some d)->σ.aJ d= .d (.val (.bool want))->sD T G C os σ k=some b->fV P T G all os (λaV=>k aV=some b/\aV.objs=σ.objs/\∀t,t∉dstsOf os->aV.aJ t=σ.aJ t) σ
 |[],σ,k,b,_,_,_,h=>⟨h,rfl,λ_ _=>rfl⟩
 |o::os,σ,k,b,cb,aG,hw,h=>by
  have au:=aG o (by simp);unfold fV eu;rw[cb o (by simp)];simp only[aB,hw,xaD];refine p4 ?_ (XI b8 au.1 h);rintro aV ⟨ab,af,aw⟩;refine mS ?_ (XM b8 aB (λo aF=>cb o (by simp[aF])) (λo aF=>aG o (by simp[aF])) (by rw[aw d au.2];exact hw) ab);rintro qY ⟨aW,a2,bc⟩;refine⟨aW,a2.trans af,?_⟩;intro t aK;have ph:t∉dstsOf os:=λao=>aK (by unfold dstsOf at ao⊢;simp only[xbL];cases o.dst<;>simp[ao])
  have x5:o.dst≠some t:=λao=>aK (by unfold dstsOf;simp[ao]);rw[bc t ph,aw t x5]
def Ew{j:Nat}{want:Bool}{d:Tmp}(aB:(all[j]?).bind (·.dst)=some d):∀{os:List Oper}{σ:aI},(∀o∈os,o.guard=some (j,want))->(∀o∈os,o.dst≠some d)->(σ.aJ d= .d (.val (.bool (!want)))\/∃vs,σ.aJ d= .d (.val (.tuple vs)))->fV P T G all os (λaV=>aV.objs=σ.objs/\(∀t,t∉dstsOf os->aV.aJ t=σ.aJ t)/\∀ca,v9 os=some ca->aV.aJ ca= .d ln) σ
 |[],σ,_,_,_=>⟨rfl,λ_ _=>rfl,by intro ca h;cases h⟩
 |o::os,σ,cb,aG,hw=>by
  have au:=aG o (by simp);unfold fV;have key:fV P T G all os (λaV=>aV.objs=σ.objs/\(∀t,t∉dstsOf (o::os)->aV.aJ t=σ.aJ t)/\∀ca,v9 (o::os)=some ca->aV.aJ ca= .d ln) (σ.put o.dst (.d (.val (.tuple #[])))):=by
   have Ex:(σ.put o.dst (.d (.val (.tuple #[])))).aJ d= .d (.val (.bool (!want)))\/∃vs,(σ.put o.dst (.d (.val (.tuple #[])))).aJ d= .d (.val (.tuple vs)):=by rw[q3 au];exact hw
   refine mS ?_ (Ew aB (λo aF=>cb o (by simp[aF])) (λo aF=>aG o (by simp[aF])) Ex);rintro aV ⟨ab,af,aw⟩;refine⟨ab.trans (by simp),?_,?_⟩
   .intro t aK;have ph:t∉dstsOf os:=λao=>aK (by
     unfold dstsOf at ao⊢;simp only[xbL];cases o.dst<;>simp[ao])
    have x5:o.dst≠some t:=λao=>aK (by unfold dstsOf;simp[ao]);rw[af t ph,q3 x5]
   intro ca aq;cases os with|nil=>simp only[v9]at aq;rw[af ca (by simp[dstsOf]),aq];simp[aI.put,ln]|cons q ay0=>exact aw ca aq
  unfold eu;rw[cb o (by simp)];simp only[aB];rcases hw with hw|⟨vs,hw⟩
  .simp only[hw];rw[xac (by cases want<;>simp)];exact key
  simp only[hw];exact key
def P6{j:Nat}{want:Bool}{d:Tmp}(aB:(all[j]?).bind (·.dst)=some d):∀{os:List Oper}{σ:aI},(∀o∈os,o.guard=some (j,want))->(∀o∈os,o.dst≠some d)->(σ.aJ d= .d (.val (.bool (!want)))\/∃vs,σ.aJ d= .d (.val (.tuple vs)))->fV P T G all os (λaV=>aV.objs=σ.objs/\(∀t,t∉dstsOf os->aV.aJ t=σ.aJ t)/\∀t∈dstsOf os,aV.aJ t= .d ln) σ
 |[],σ,_,_,_=>⟨rfl,λ_ _=>rfl,by intro t h;cases h⟩
 |o::os,σ,cb,aG,hw=>by
  have au:=aG o (by simp);unfold fV;have key:fV P T G all os (λaV=>aV.objs=σ.objs/\(∀t,t∉dstsOf (o::os)->aV.aJ t=σ.aJ t)/\∀t∈dstsOf (o::os),aV.aJ t= .d ln) (σ.put o.dst (.d (.val (.tuple #[])))):=by
   have Ex:(σ.put o.dst (.d (.val (.tuple #[])))).aJ d= .d (.val (.bool (!want)))\/∃vs,(σ.put o.dst (.d (.val (.tuple #[])))).aJ d= .d (.val (.tuple vs)):=by rw[q3 au];exact hw
   refine mS ?_ (P6 aB (λo aF=>cb o (by simp[aF])) (λo aF=>aG o (by simp[aF])) Ex);rintro aV ⟨ab,af,aw⟩;refine⟨ab.trans (by simp),?_,?_⟩
   .intro t aK;have ph:t∉dstsOf os:=λao=>aK (by
     unfold dstsOf at ao⊢;simp only[xbL];cases o.dst<;>simp[ao])
    have x5:o.dst≠some t:=λao=>aK (by unfold dstsOf;simp[ao]);rw[af t ph,q3 x5]
   intro t aK;by_cases ph:t∈dstsOf os;.exact aw t ph
   have kU:o.dst=some t:=by
    unfold dstsOf at aK ph;simp only[xbL]at aK;cases aF:o.dst with
    |none=>rw[aF]at aK;exact absurd aK ph
    |some u=>
     rw[aF]at aK;rcases xao.1 aK with rfl|h
     .rfl
     exact absurd h ph
   rw[af t ph,kU];simp[aI.put,ln]
  unfold eu;rw[cb o (by simp)];simp only[aB];rcases hw with hw|⟨vs,hw⟩
  .simp only[hw];rw[xac (by cases want<;>simp)];exact key
  simp only[hw];exact key
def aiS(b8:hn P G C){o:Oper}{k:aI->Option β}{b:β}(h:sC T G C σ o k=some b):db P T G o (λaV=>k aV=some b/\∀t,o.dst≠some t->aV.aJ t=σ.aJ t) σ:=by
 unfold sC at h;split at h;.exact p4 (λ_ h=>⟨h.1,h.2.2⟩) (Ky b8 (by assumption) h)
 obtain⟨aV,ab,af⟩:=A2 h;unfold db;rw[ab];refine⟨af,λt aK=>?_⟩;unfold gY at ab;split at ab;.cases ab;exact q3 aK
 split at ab;.cases ab;exact q3 aK
 split at ab;.cases ab;exact q3 aK
 cases ab
def XN(b8:hn P G C){j:Nat}{want:Bool}{d:Tmp}(aB:(all[j]?).bind (·.dst)=some d):∀{os:List Oper}{σ:aI}{k:aI->Option β}{b:β},(∀o∈os,o.guard=some (j,want))->(∀o∈os,o.dst≠some d)->σ.aJ d= .d (.val (.bool want))->sD T G C os σ k=some b->fV P T G all os (λaV=>k aV=some b) σ
 |[],σ,k,b,_,_,_,h=>h|o::os,σ,k,b,cb,aG,hw,h=>by unfold fV eu;rw[cb o (by simp)];simp only[aB,hw,xaD];refine p4 ?_ (aiS b8 h);rintro aV ⟨ab,aw⟩;exact XN b8 aB (λo aF=>cb o (by simp[aF])) (λo aF=>aG o (by simp[aF])) (by rw[aw d (aG o (by simp))];exact hw) ab
def P7{j:Nat}{want:Bool}{d:Tmp}(aB:(all[j]?).bind (·.dst)=some d){K:aI->Prop}:∀{os:List Oper}{σ:aI},(∀o∈os,o.guard=some (j,want))->(∀o∈os,o.dst≠some d)->(σ.aJ d= .d (.val (.bool (!want)))\/∃vs,σ.aJ d= .d (.val (.tuple vs)))->K (P1 os σ)->fV P T G all os K σ
 |[],σ,_,_,_,h=>h
 |o::os,σ,cb,aG,hw,h=>by
  have au:=aG o (by simp);have Ex:(σ.put o.dst (.d (.val (.tuple #[])))).aJ d= .d (.val (.bool (!want)))\/∃vs,(σ.put o.dst (.d (.val (.tuple #[])))).aJ d= .d (.val (.tuple vs)):=by rw[q3 au];exact hw
  have key:fV P T G all os K (σ.put o.dst (.d (.val (.tuple #[])))):=P7 aB (λo aF=>cb o (by simp[aF])) (λo aF=>aG o (by simp[aF])) Ex h;unfold fV eu;rw[cb o (by simp)];simp only[aB];rcases hw with hw|⟨vs,hw⟩
  .simp only[hw];rw[xac (by cases want<;>simp)];exact key
  simp only[hw];exact key
def XO:∀{os:List Oper}{ca:Tmp},v9 os=some ca->ca∈dstsOf os
 |[],ca,h=>by cases h
 |[o],ca,h=>by simp only[v9]at h;simp[dstsOf,h]|o::q::r,ca,h=>by have:=XO (os:=q::r) h;unfold dstsOf at this⊢;rw[xbL];cases o.dst<;>simp[this]
def A5(b8:hn P G C){K:aI->Prop}(fi:∀σ τ,ot σ τ->K τ->K σ):∀{gs:List (Option (Nat×Bool)×List Oper)} {σ:aI} {k:aI->Option β} {b:β},(∀g∈gs,∀o∈g.2,o.guard=g.1)->(∀aV,k aV=some b->K aV)->x3 T G C all gs σ k=some b->fV P T G all (flat gs) K σ
 |[],σ,k,b,_,ak,h=>ak _ h|(none,os)::r,σ,k,b,cb,ak,h=>by show fV P T G all (os++flat r) K σ;refine P4 (mS ?_ (XL b8 (λo aF=>cb (none,os) (by simp) o aF) h));intro aV bx;exact A5 b8 fi (λg hm=>cb g (by simp[hm])) ak bx
 |(some (j,want),os)::r,σ,k,b,cb,ak,h=>by
  show fV P T G all (os++flat r) K σ;unfold x3 at h;split at h
  case h_2=>cases h
  rename_i d ca aB x6;split at h
  case h_2=>cases h
  rename_i x ag;split at h
  case isFalse=>
   split at h
   case isFalse=>cases h
   rename_i lq;simp only[xaz,bne_iff_ne,ne_eq]at lq;have iW:∀o∈os,o.guard=some (j,want):=λo aF=>cb (some (j,want),os) (by simp) o aF;unfold v8 at h;refine P4 ?_;split at h
   .rename_i gS;split at h;.rename_i aj;subst aj;exact mS (λaV bx=>A5 b8 fi (λg hm=>cb g (by simp[hm])) ak bx) (XN b8 aB iW lq ag h)
    rename_i aj;exact P7 aB iW lq (.inl (by rw[ag];cases gS<;>cases want<;>simp_all)) (A5 b8 fi (λg hm=>cb g (by simp[hm])) ak h)
   .exact P7 aB iW lq (.inr ⟨_,ag⟩) (A5 b8 fi (λg hm=>cb g (by simp[hm])) ak h)
   cases h
  rename_i bm;simp only[XA,xam,xaz,bne_iff_ne,ne_eq,blind,xby,xbZ,List.contains_eq_mem,decide_eq_false_iff_not]at bm;obtain⟨P8,aiT⟩:=bm;obtain⟨v,ab,af⟩:=ft h;have iW:∀o∈os,o.guard=some (j,want):=λo aF=>cb (some (j,want),os) (by simp) o aF;have rest:=A5 b8 fi (λg hm=>cb g (by simp[hm])) ak af;have fin:∀aV:aI,aV.objs=σ.objs->(∀t,t∉dstsOf os->aV.aJ t=σ.aJ t)->aV.aJ ca= .d v->fV P T G all (flat r) K aV:=by
   intro aV aL aX bL;refine P5 fi ((dstsOf os).filter (·!=ca)) ?_ ?_ ?_ ?_ rest;.intro p7 iy o aF;have Ey:=xby.1 iy;exact aiT o aF p7 ⟨Ey.1,by simpa using Ey.2⟩
   .intro t aK;simp only[xby,bne_iff_ne,ne_eq,not_and,Decidable.not_not]at aK;by_cases ou:t=ca;.subst ou;simp[aI.put,bL]
    have ie:t∉dstsOf os:=λao=>ou (aK ao);simp only[aI.put,cX _ _ ou,lM,ie,xaF];exact aX t ie
   .intro p7 iy;have Ey:=xby.1 iy;have cU:p7≠ca:=by simpa using Ey.2
    refine .inl ?_;simp only[aI.put,cX _ _ cU,lM,Ey.1,xaD]
   simp[aI.put,lM,aL]
  unfold bM at ab;refine P4 ?_;split at ab
  .rename_i gS;split at ab
   .rename_i aj;subst aj;refine mS ?_ (XM b8 aB iW P8 ag ab);rintro aV ⟨aW,a2,bc⟩;refine fin aV a2 bc ?_;split at aW;.rename_i u hu;cases aW;exact hu
    cases aW
   rename_i aj;cases ab;refine mS ?_ (Ew aB iW (λo aF=>(P8 o aF).2) (.inl (by rw[ag];cases gS<;>cases want<;>simp_all)));rintro aV ⟨aW,a2,bc⟩;exact fin aV aW a2 (bc ca x6)
  .rename_i vs;cases ab;refine mS ?_ (Ew aB iW (λo aF=>(P8 o aF).2) (.inr ⟨_,ag⟩));rintro aV ⟨aW,a2,bc⟩;exact fin aV aW a2 (bc ca x6)
  cases ab
def aiU{i:Nat}{fs:Oper}{listed:Array Bool}(ah:all[i]?=some fs)(h:P2 all listed i=true):(∀j c6,j∈waits all i->all[j]?=some c6->∃e∈c6.after,Region.binds .any e=true/\(e.on=i\/e.on∈waits all i))/\(∀j,j∈waits all i->listed.getD j true=false)/\ ∀j c6,all[j]?=some c6->j≠i->listed.getD j true=false->j∉waits all i->fs.apart all c6=true/\∀t a x,c6.op≠ .store t a x:=by
 simp only[P2,ah,xam,xaz,xbT]at h;refine⟨λj c6 aN je=>?_,λj aN=>by simpa using(h.1 j aN).1,λj c6 je cU oj ie=>?_⟩;.have ab:=(h.1 j aN).2;simp only[je]at ab;obtain⟨e,he,aj⟩:=Array.any_eq_true'.1 ab;simp only[xam,xbb,xbq,List.contains_iff_mem]at aj;exact⟨e,he,aj.1,aj.2⟩
 have ab:=h.2 j (xaS.1 je).1;simp only[je,xbb,xbq,cU,false_or,oj,xat,xam,List.contains_iff_mem,ie]at ab;refine⟨ab.1,?_⟩;intro t a x he;rw[he]at ab;simp[XC]at ab
def aiV{i:Nat}{fs:Oper}{listed:Array Bool}{aJ:Nat->aS}(h:P3 all listed i aJ fs=true):(∀j c6,j∈waits all i->all[j]?=some c6->∃e∈c6.after,Region.binds .any e=true/\(e.on=i\/e.on∈waits all i))/\(∀j,j∈waits all i->listed.getD j true=false)/\ ∀j c6,all[j]?=some c6->j≠i->listed.getD j true=false->j∉waits all i->fs.apart all c6=true/\sy aJ fs c6=true/\(∀t∈mO fs.op++(x4 all listed i).flatMap (λy=>uf y.op),c6.dst≠some t)/\∀t∈uf c6.op,t∈mO fs.op++(x4 all listed i).flatMap (λy=>uf y.op):=by
 simp only[P3,xam,xaz]at h;refine⟨λj c6 aN je=>?_,λj aN=>by simpa using(h.1 j aN).1,λj c6 je cU oj ie=>?_⟩;.have ab:=(h.1 j aN).2;simp only[je]at ab;obtain⟨e,he,aj⟩:=Array.any_eq_true'.1 ab;simp only[xam,xbb,xbq,List.contains_iff_mem]at aj;exact⟨e,he,aj.1,aj.2⟩
 have hm:c6∈x4 all listed i:=by
  unfold x4;rw[List.mem_filterMap];refine⟨j,by simpa using(xaS.1 je).1,?_⟩;have:(j==i||listed.getD j true||(waits all i).contains j)=false:=by simp only[Bool.or_eq_false_iff,beq_eq_false_iff_ne,ne_eq];exact⟨⟨cU,oj⟩,by simpa using ie⟩
  rw[this];simpa using je
 obtain⟨ab,af⟩:=h.2 c6 hm;refine⟨ab.1,ab.2,λt aK=>by simpa using af t aK,λt aK=>List.mem_append_right _ (List.mem_flatMap.2 ⟨c6,hm,aK⟩)⟩
def P9(b8:hn P G C){k:aI->Option β}{b:β}:∀(ord:List Nat)(listed:Array Bool)(σ:aI),A4 T G C all ord listed σ k=some b->jd P T G all (λaV=>k aV=some b) ord.length listed σ
 |[],listed,σ,h=>by
  unfold A4 at h;split at h;.rename_i av;exact⟨List.isEmpty_iff.1 av,h⟩
  cases h
 |i::r,listed,σ,h=>by
  unfold A4 at h;split at h
  case h_2=>cases h
  rename_i o ah;split at h
  case isFalse=>cases h
  rename_i ao;obtain⟨cb,av,bd⟩:=ao;have H:hU P T G all i (jd P T G all (λaV=>k aV=some b) r.length (listed.setIfInBounds i true)) σ:=by unfold hU;simp only[ah];unfold eu;simp only[cb];exact p4 (λaV bx=>P9 b8 r _ aV bx) (XH b8 h)
  rcases xbB.1 bd with bd|bd
  case inr=>obtain⟨bw,bz,cz⟩:=Pr ah bd;exact Pq ah bw r.length listed σ bz cz (by simpa using av) (.inr trivial) H
  rcases xbB.1 bd with bd|bd
  case inr=>obtain⟨bw,bz,cz⟩:=aiV bd;exact aik ah cb bw (s0:=σ.aJ) (L:=mO o.op++(x4 all listed i).flatMap (λy=>uf y.op)) (λt aK=>xbP _ aK) r.length listed σ (λ_ _=>rfl) bz cz (by simpa using av) H
  rcases xbB.1 bd with bd|bd;.obtain⟨bw,bz,cz⟩:=ahf ah bd;exact ahd ah bw r.length listed σ bz cz (by simpa using av) (.inr trivial) H
  unfold XD at bd;split at bd
  case h_2=>cases bd
  rename_i t a aF;split at bd
  case h_2=>cases bd
  rename_i cQ off aG;obtain⟨bw,bz,cz⟩:=aiU ah bd;exact ahX ah aF cb bw r.length listed σ aG bz cz (by simpa using av) H
def aiW(b8:hn P G C){K:aI->Prop}(fi:∀σ τ,ot σ τ->K τ->K σ){k:aI->Option β}{b:β}(ak:∀aV,k aV=some b->K aV)(h:XB T G C all σ k=some b):fV P T G all all.toList K σ:=by
 have:=A5 (P:=P) b8 fi (λg hm o aF=>Kx _ _ _ hm o aF) ak h
 rwa [wb]at this
end
inductive p8 where
 |any
 |d
 |Ez (f:FuncId)
 |fd (f:FuncId) (m:Nat)
 |et (off:Nat)
 |ptr (k:Key) (off:Nat)
 |row (k:Key)
 |map (k:Key)
 |sub (k:Key) (cQ:Nat)
inductive lr where
 |b (s:p8)
 |fn (f:Fn) (first cap:List p8)
 |agg (cs:List p8)
 |a1 (cs:List p8)
inductive lN where
 |dead
 |box (cs:List lr)
 |row (k:Nat)
 |map
inductive wc where
 |slot (t K n:Nat)
 |box (k i K n:Nat)
 |all (t cQ:Nat)
structure q4 where
 aJ:List (Nat×lr)
 objs:List (Key×lN)
 pj:List wc
def I(ls:List D)(n:Nat):D:=ls.getD n ln
def Qa:D->Nat
 | .val (.int _ n)=>n.toNat|_=>0
def we(ls:List D):p8->Nat->aS×Nat
 | .any,n=>(.any,n)| .d,n=>(.d (I ls n),n+1)| .Ez f,n=>(.d (.val (.func (.func f) #[] #[])),n)| .fd f m,n=>(.d (.fn (.func f) [] ((List.range m).map λi=>I ls (n+i))),n+m)| .et off,n=>(.et (Kn (I ls n)) off,n+1)| .ptr k off,n=>(.ptr k off,n)| .row k,n=>(.row k,n)| .map k,n=>(.map k,n)| .sub k cQ,n=>(.sub k cQ (Qa (I ls n)) (Qa (I ls (n+1))),n+2)
def ov(ls:List D):List p8->Nat->List aS×Nat
 |[],n=>([],n)|s::r,n=>((we ls s n).1::(ov ls r (we ls s n).2).1,(ov ls r (we ls s n).2).2)
def pk(ls:List D):lr->Nat->aS×Nat
 | .b s,n=>we ls s n| .fn f first cap,n=>(.fn f (ov ls first n).1 (ov ls cap (ov ls first n).2).1,(ov ls cap (ov ls first n).2).2)
 | .agg cs,n=>(.agg (ov ls cs n).1,(ov ls cs n).2)| .a1 cs,n=>(.a1 (ov ls cs n).1,(ov ls cs n).2)
def q5(ls:List D):List lr->Nat->List aS×Nat
 |[],n=>([],n)|s::r,n=>((pk ls s n).1::(q5 ls r (pk ls s n).2).1,(q5 ls r (pk ls s n).2).2)
def x7(ls:List D):lN->Nat->cR×Nat
 | .dead,n=>(.dead,n)| .box cs,n=>(.box (q5 ls cs n).1,(q5 ls cs n).2)| .row k,n=>(.row k (ar (I ls n)),n+1)| .map,n=>(.map (ej (I ls n)),n+1)
def wg(ls:List D):List (Nat×lr)->Nat->List (Nat×aS)×Nat
 |[],n=>([],n)|(t,s)::r,n=>((t,(pk ls s n).1)::(wg ls r (pk ls s n).2).1,(wg ls r (pk ls s n).2).2)
def ow(ls:List D):List (Key×lN)->Nat->List (Key×cR)×Nat
 |[],n=>([],n)|(t,s)::r,n=>((t,(x7 ls s n).1)::(ow ls r (x7 ls s n).2).1,(ow ls r (x7 ls s n).2).2)
def restore(gi:q4)(ls:List D):aI:=WV (wg ls gi.aJ 0).1 (ow ls gi.objs (wg ls gi.aJ 0).2).1
def XP:aS->p8->List (Key×Key)
 | .ptr k _,.ptr bq _=>[(bq,k)]| .row k,.row bq=>[(bq,k)]| .map k,.map bq=>[(bq,k)]| .sub k _ _ _,.sub bq _=>[(bq,k)]|_,_=>[]
def EA:List aS->List p8->List (Key×Key)
 |x::xs,s::eG=>XP x s++EA xs eG|_,_=>[]
def XQ:aS->lr->List (Key×Key)
 |x,.b s=>XP x s| .fn _ as j7,.fn _ eG ts=>EA as eG++EA j7 ts| .agg cs,.agg eG=>EA cs eG| .a1 cs,.a1 eG=>EA cs eG|_,_=>[]
def Kz:List aS->List lr->List (Key×Key)
 |x::xs,s::eG=>XQ x s++Kz xs eG|_,_=>[]
def XR(σ:aI):List (Nat×lr)->List (Key×Key)
 |[]=>[]|(t,s)::r=>XQ (σ.aJ t) s++XR σ r
def A6(σ:aI):List (Key×lN)->List (Key×Key)->List (Key×Key)
 |[],ck=>ck|(k,.box eG)::r,ck=>match σ.objs (gh ck k)with|some (.box xs)=>A6 σ r (ck++Kz xs eG)|_=>A6 σ r ck
 |_::r,ck=>A6 σ r ck
def KA(ck:List (Key×Key))(ks:List Key):aS->p8->Option (List D)
 |_,.any=>some []|x,.d=>(Kc x).map λa=>[a]| .d (.val (.func (.func f) a b)),.Ez ku=>if f=ku/\a.size=0/\b.size=0 then some []else none
 | .d (.fn (.func ku) first oq),.fd f m=>if ku=f/\first.isEmpty=true/\oq.length=m then some oq else none
 | .et cs off,.et Qb=>if off=Qb then some [.agg cs]else none
 | .ptr k off,.ptr bq Qb=>if k=gh ck bq/\off=Qb/\ks.contains bq then some []else none
 | .row k,.row bq=>if k=gh ck bq/\ks.contains bq then some []else none
 | .map k,.map bq=>if k=gh ck bq/\ks.contains bq then some []else none
 | .sub k cQ i len,.sub bq aiX=>if k=gh ck bq/\cQ=aiX/\ks.contains bq then some [.val (.int .i64 (i:Nat)),.val (.int .i64 (len:Nat))]else none
 |_,_=>none
def ui(x y:Option (List D)):Option (List D):=match x,y with|some a,some b=>some (a++b)|_,_=>none
def A7(ck:List (Key×Key))(ks:List Key):List aS->List p8->Option (List D)
 |[],[]=>some []|x::xs,s::eG=>ui (KA ck ks x s) (A7 ck ks xs eG)|_,_=>none
def KB(ck:List (Key×Key))(ks:List Key):aS->lr->Option (List D)
 |x,.b s=>KA ck ks x s| .fn (.func f) as j7,.fn (.func ku) eG ts=>if f=ku then ui (A7 ck ks as eG) (A7 ck ks j7 ts)else none
 | .agg cs,.agg eG=>A7 ck ks cs eG| .a1 cs,.a1 eG=>A7 ck ks cs eG|_,_=>none
def KC(ck:List (Key×Key))(ks:List Key):List aS->List lr->Option (List D)
 |[],[]=>some []|x::xs,s::eG=>ui (KB ck ks x s) (KC ck ks xs eG)|_,_=>none
def Qc(ck:List (Key×Key))(ks:List Key):Option cR->lN->Option (List D)
 |some _,.dead=>some []|some (.box xs),.box eG=>KC ck ks xs eG|some (.row k es),.row bq=>if k=bq then some [.ax k es]else none
 |some (.map es),.map=>some [.mp es]|_,_=>none
def Qd(ck:List (Key×Key))(ks:List Key)(σ:aI):List (Nat×lr)->Option (List D)
 |[]=>some []|(t,s)::r=>ui (KB ck ks (σ.aJ t) s) (Qd ck ks σ r)
def KD(ck:List (Key×Key))(ks:List Key)(σ:aI):List (Key×lN)->Option (List D)
 |[]=>some []|(k,s)::r=>ui (Qc ck ks (σ.objs (gh ck k)) s) (KD ck ks σ r)
section
variable{β:Type}
def ox:List wc->aI->(aI->Option β)->Option β
 |[],σ,k=>k σ
 | .slot t K n::r,σ,k=>match σ.aJ t,σ.objs K with
  | .d a,none=>if K<10000 then aD (nL a) (ox r ⟨cr σ.aJ t (.row K),cr σ.objs K (some (.row n []))⟩ k)else none
  |_,_=>ox r σ k
 | .box cQ i K n::r,σ,k=>match σ.objs cQ with
  |some (.box xs)=>match xs[i]?,σ.objs K with
   |some (.d a),none=>if K<10000 then aD (nL a) (ox r ⟨σ.aJ,cr (cr σ.objs cQ (some (.box (xs.set i (.row K))))) K (some (.row n []))⟩ k)else none
   |_,_=>ox r σ k
  |_=>ox r σ k
 | .all t cQ::r,σ,k=>match σ.aJ t with
  | .row K=>match σ.objs K with
   |some (.row n es)=>if n=cQ then ox r ⟨cr σ.aJ t (.sub K n 0 es.length),σ.objs⟩ k else none
   |_=>ox r σ k
  |_=>ox r σ k
def A8:lN->Bool
 | .box _=>true| .row _=>true| .map=>true|_=>false
def XS(ib:List Key)(ck:List (Key×Key))(objs:List (Key×lN)):Bool:=objs.all (λp=>decide (p.1<10000)||ib.contains p.1)&&ib.all (λk=>gh ck k==k&&objs.any λp=>p.1==k&&A8 p.2)&&decide ((objs.map (·.1)).Nodup)
def sE(ib:List Key)(gi:q4)(σ:aI)(k:List D->Option β):Option β:=ox gi.pj σ λσ=>
  let ck:=A6 σ gi.objs (XR σ gi.aJ)
  if xX (gh ck) (gi.objs.map (·.1))&&XS ib ck gi.objs=true then
   match ui (Qd ck (gi.objs.map (·.1)) σ gi.aJ) (KD ck (gi.objs.map (·.1)) σ gi.objs)with|some ls=>k ls|none=>none
  else none
end
def x8{x y:Option (List D)}{l:List D}(h:ui x y=some l):∃a b,x=some a/\y=some b/\l=a++b:=by
 unfold ui at h;split at h;.cases h;exact⟨_,_,rfl,rfl,rfl⟩
 cases h
def lO(ls:List D)(n:Nat)(a:List D):Prop:=∀j d,a[j]?=some d->ls[n+j]?=some d
def lO.left{ls:List D}{n:Nat}{a b:List D}(h:lO ls n (a++b)):lO ls n a:=λj d aN=>h j d (by rw[xaK (xae.1 aN).1];exact aN)
def lO.right{ls:List D}{n:Nat}{a b:List D}(h:lO ls n (a++b)):lO ls (n+a.length) b:=λj d aN=>by
 have:=h (a.length+j) d (by rw[xaI (by omega)];simpa using aN)
 rwa [<-xbf]at this
def lO.I{ls:List D}{n:Nat}{a:D}(h:lO ls n [a]):I ls n=a:=by have:=h 0 a rfl;simp only[xbm]at this;simp[Am.I,xaP,this]
section
variable{ck:List (Key×Key)}{ks:List Key}{ls:List D}{U:Key->Prop}
def XT(gN:∀k,ks.contains k=true->U k){x:aS}{s:p8}{n:Nat}{a:List D}(h:KA ck ks x s=some a)(g1:lO ls n a):pb (gh ck) U x (we ls s n).1/\(we ls s n).2=n+a.length:=by
 unfold KA at h;split at h;.cases h;exact⟨trivial,rfl⟩
 .obtain⟨d,aB,rfl⟩:=xah.1 h;refine⟨⟨_,aB,?_⟩,rfl⟩;rw[g1.I];exact D.le_refl _
 .split at h;.rename_i bd;obtain⟨rfl,aE,aj⟩:=bd;cases h;rw[xbg aE,xbg aj];exact⟨⟨_,rfl,D.le_refl _⟩,rfl⟩
  cases h
 .split at h
  .rename_i bd;obtain⟨rfl,ab,rfl⟩:=bd;cases h;refine⟨⟨_,rfl,?_⟩,rfl⟩;rw[List.isEmpty_iff.1 ab];have e:((List.range a.length).map λi=>I ls (n+i))=a:=by
    apply xbY;intro i;rw[xaj];by_cases ah:i<a.length;.rw[xbQ ah,xab ah];have:=g1 i a[i] (xab ah);simp[Am.I,xaP,this]
    rw[xbo (by simp;omega),xbo (by omega)];rfl
   skip
   rw[e];exact D.le_refl _
  cases h
 .split at h;.rename_i bd;cases h;subst bd;refine⟨.inl ?_,rfl⟩;rw[g1.I];rfl
  cases h
 .split at h;.rename_i bd;cases h;exact⟨⟨by rw[bd.1,bd.2.1],gN _ bd.2.2⟩,rfl⟩
  cases h
 .split at h;.rename_i bd;cases h;exact⟨⟨by rw[bd.1],gN _ bd.2⟩,rfl⟩
  cases h
 .split at h;.rename_i bd;cases h;exact⟨⟨by rw[bd.1],gN _ bd.2⟩,rfl⟩
  cases h
 .split at h;.rename_i bd;cases h;obtain⟨ab,af,aw⟩:=bd;have aL:=g1.left (a:=[_]) (b:=[_]);have aX:lO ls (n+1) [D.val (.int .i64 ((_:Nat):Int))]:=lO.right (a:=[_]) (b:=[_]) g1;simp only[we];rw[aL.I,aX.I];exact⟨⟨by rw[ab,af];simp[Qa],gN _ aw⟩,rfl⟩
  cases h
 cases h
def EB(gN:∀k,ks.contains k=true->U k):∀{xs:List aS}{eG:List p8}{n:Nat}{a:List D},A7 ck ks xs eG=some a->lO ls n a->jF (gh ck) U xs (ov ls eG n).1/\(ov ls eG n).2=n+a.length
 |[],[],n,a,h,g1=>by cases h;exact⟨trivial,rfl⟩
 |x::xs,s::eG,n,a,h,g1=>by obtain⟨an,bb,ab,af,rfl⟩:=x8 h;obtain⟨aW,a2⟩:=XT gN ab g1.left;have av:=g1.right;rw[<-a2]at av;obtain⟨bc,cV⟩:=EB gN af av;refine⟨⟨aW,bc⟩,?_⟩;show(ov ls eG (we ls s n).2).2=_;rw[cV,a2,xaN];omega
 |[],_::_,n,a,h,_=>by cases h
 |_::_,[],n,a,h,_=>by cases h
def aiY{x y:aS}(h:pb (gh ck) U x y):ua (gh ck) U x y:=by cases y<;>first|exact h|exact h.elim
def XU(gN:∀k,ks.contains k=true->U k){x:aS}{s:lr}{n:Nat}{a:List D}(h:KB ck ks x s=some a)(g1:lO ls n a):ua (gh ck) U x (pk ls s n).1/\(pk ls s n).2=n+a.length:=by
 unfold KB at h;split at h;.obtain⟨aW,a2⟩:=XT gN h g1;exact⟨aiY aW,a2⟩
 .split at h;.rename_i bd;subst bd;obtain⟨an,bb,ab,af,rfl⟩:=x8 h;obtain⟨aW,a2⟩:=EB gN ab g1.left;have av:=g1.right;rw[<-a2]at av;obtain⟨bc,cV⟩:=EB gN af av;refine⟨⟨rfl,aW,bc⟩,?_⟩;simp only[pk];rw[cV,a2,xaN];omega
  cases h
 .obtain⟨aW,a2⟩:=EB gN h g1;exact⟨aW,a2⟩
 .obtain⟨aW,a2⟩:=EB gN h g1;exact⟨aW,a2⟩
 cases h
def Qe(gN:∀k,ks.contains k=true->U k):∀{xs:List aS}{eG:List lr}{n:Nat}{a:List D},KC ck ks xs eG=some a->lO ls n a->sw (gh ck) U xs (q5 ls eG n).1/\(q5 ls eG n).2=n+a.length
 |[],[],n,a,h,g1=>by cases h;exact⟨trivial,rfl⟩
 |x::xs,s::eG,n,a,h,g1=>by obtain⟨an,bb,ab,af,rfl⟩:=x8 h;obtain⟨aW,a2⟩:=XU gN ab g1.left;have av:=g1.right;rw[<-a2]at av;obtain⟨bc,cV⟩:=Qe gN af av;refine⟨⟨aW,bc⟩,?_⟩;show(q5 ls eG (pk ls s n).2).2=_;rw[cV,a2,xaN];omega
 |[],_::_,n,a,h,_=>by cases h
 |_::_,[],n,a,h,_=>by cases h
def aiZ(gN:∀k,ks.contains k=true->U k){x:Option cR}{s:lN}{n:Nat}{a:List D}(h:Qc ck ks x s=some a)(g1:lO ls n a):(∃o',x=some o'/\xV (gh ck) U o' (x7 ls s n).1)/\(x7 ls s n).2=n+a.length:=by
 unfold Qc at h;split at h;.cases h;exact⟨⟨_,rfl,trivial⟩,rfl⟩
 .obtain⟨aW,a2⟩:=Qe gN h g1;exact⟨⟨_,rfl,⟨_,rfl,aW⟩⟩,a2⟩
 .split at h;.rename_i ak;cases h;subst ak;refine⟨⟨_,rfl,⟨_,rfl,.inl ?_⟩⟩,rfl⟩;rw[g1.I];rfl
  cases h
 .cases h;refine⟨⟨_,rfl,?_⟩,rfl⟩;simp only[x7,xV];rw[g1.I];rfl
 cases h
def XV(gN:∀k,ks.contains k=true->U k){σ:aI}:∀{l:List (Nat×lr)} {n:Nat} {a:List D},Qd ck ks σ l=some a->lO ls n a->AV (gh ck) U σ (wg ls l n).1/\(wg ls l n).2=n+a.length
 |[],n,a,h,g1=>by cases h;exact⟨trivial,rfl⟩
 |(t,s)::r,n,a,h,g1=>by obtain⟨an,bb,ab,af,rfl⟩:=x8 h;obtain⟨aW,a2⟩:=XU gN ab g1.left;have av:=g1.right;rw[<-a2]at av;obtain⟨bc,cV⟩:=XV gN af av;refine⟨⟨aW,bc⟩,?_⟩;simp only[wg];rw[cV,a2,xaN];omega
def Qf(gN:∀k,ks.contains k=true->U k){σ:aI}:∀{l:List (Key×lN)} {n:Nat} {a:List D},KD ck ks σ l=some a->lO ls n a->xW (gh ck) U σ (ow ls l n).1/\(ow ls l n).2=n+a.length
 |[],n,a,h,g1=>by cases h;exact⟨trivial,rfl⟩
 |(t,s)::r,n,a,h,g1=>by obtain⟨an,bb,ab,af,rfl⟩:=x8 h;obtain⟨aW,a2⟩:=aiZ gN ab g1.left;have av:=g1.right;rw[<-a2]at av;obtain⟨bc,cV⟩:=Qf gN af av;refine⟨⟨aW,bc⟩,?_⟩;simp only[ow];rw[cV,a2,xaN];omega
end
def x9(ls:List D):∀(l:List (Key×lN)) (n:Nat),mi (ow ls l n).1=l.map (·.1)
 |[],n=>rfl|(k,s)::r,n=>by have:=x9 ls r (x7 ls s n).2;simp only[ow,mi,xaB]at this⊢;rw[<-this]
def KE:∀{lo:List (Key×cR)} {k:Key},k∈mi lo->∃o,fz lo k=some o
 |[],k,h=>by cases h
 |(j,x)::r,k,h=>by
  unfold fz;by_cases ak:k=j;.exact⟨x,by rw[xad ak]⟩
  rw[xac ak];simp only[mi,xaB,xao]at h;exact KE (h.resolve_left ak)
def fR(ib:List Key)(σ:aI):Prop:=∀k,10000<=k->eP (σ.objs k)->k∈ib
def Qg(ls:List D):∀(l:List (Key×lN)) (n:Nat) (k:Key),(l.map (·.1)).Nodup->(∃s,(k,s)∈l/\A8 s=true)->eP (fz (ow ls l n).1 k)
 |[],n,k,_,⟨_,h,_⟩=>by cases h
 |(j,s)::r,n,k,aM,⟨eG,h,aG⟩=>by
  simp only[ow,fz];simp only[xaB,List.nodup_cons]at aM;rcases xao.1 h with ab|ab
  .cases ab;rw[xad rfl];cases s<;>first|cases aG|skip
   .exact tR
   .exact so
   exact vI
  have cU:k≠j:=by rintro rfl;exact aM.1 (xax.2 ⟨_,ab,rfl⟩)
  rw[xac cU];exact Qg ls r _ k aM.2 ⟨eG,ab,aG⟩
def sF{β:Type}{ib:List Key}:∀{l:List wc}{σ:aI}{k:aI->Option β}{b:β},fR ib σ->ox l σ k=some b->∃τ,g0 σ τ/\fR ib τ/\k τ=some b
 |[],σ,k,b,bT,h=>⟨σ,g0.refl σ,bT,h⟩
 | .slot t K n::r,σ,k,b,bT,h=>by
  unfold ox at h;split at h
  .rename_i a aG fi;split at h
   case isFalse=>cases h
   rename_i cv;obtain⟨ab,af⟩:=ll h;have aE:a= .val (.slice none 0 0):=by
    unfold nL at ab;split at ab;.rfl
    cases ab
   subst aE;obtain⟨τ,aW,a2,bc⟩:=sF (ib:=ib) (by
    intro j aN aj;by_cases gv:j=K;.exact absurd cv (Nat.not_lt.2 (gv▸aN))
    simp only[cX _ _ gv]at aj;exact bT j aN aj) af
   exact⟨τ,(ahQ t K n aG fi).trans aW,a2,bc⟩
  exact sF bT h
 | .box cQ i K n::r,σ,k,b,bT,h=>by
  unfold ox at h;split at h
  .rename_i xs ak;split at h
   .rename_i a ah fi;split at h
    case isFalse=>cases h
    rename_i cv;obtain⟨ab,af⟩:=ll h;have aE:a= .val (.slice none 0 0):=by
     unfold nL at ab;split at ab;.rfl
     cases ab
    subst aE;obtain⟨τ,aW,a2,bc⟩:=sF (ib:=ib) (by
     intro j aN aj;by_cases gv:j=K;.exact absurd cv (Nat.not_lt.2 (gv▸aN))
     simp only[cX _ _ gv]at aj;by_cases xG:j=cQ;.subst xG;exact bT j aN (by rw[ak];exact tR)
     simp only[cX _ _ xG]at aj;exact bT j aN aj) af
    exact⟨τ,(ahR cQ i K n ak ah fi).trans aW,a2,bc⟩
   exact sF bT h
  exact sF bT h
 | .all t cQ::r,σ,k,b,bT,h=>by
  unfold ox at h;split at h
  .rename_i K aG;split at h
   .rename_i n es ak;split at h
    case isFalse=>cases h
    rename_i aM;subst aM;obtain⟨τ,aW,a2,bc⟩:=sF (ib:=ib) (σ:=⟨cr σ.aJ t (.sub K n 0 es.length),σ.objs⟩) (λj aN aj=>bT j aN aj) h;exact⟨τ,(ahS t K n aG ak).trans aW,a2,bc⟩
   exact sF bT h
  exact sF bT h
def KF{β:Type}{ib:List Key}{gi:q4}{σ:aI}{k:List D->Option β}{b:β}(bT:fR ib σ)(h:sE ib gi σ k=some b):∃ls,g0 σ (restore gi ls)/\fR ib (restore gi ls)/\k ls=some b:=by
 unfold sE at h;obtain⟨τ,aW,a2,bc⟩:=sF bT h;simp only at bc;split at bc
 case isFalse=>cases bc
 rename_i ao;simp only[XS,xam,xaz,xbb,xaG,xbq,xbt,List.contains_eq_mem]at ao;obtain⟨EC,⟨o5,ai0⟩,ai1⟩:=ao;split at bc
 case h_2=>cases bc
 rename_i ls Qh;obtain⟨an,bb,aL,aX,rfl⟩:=x8 Qh;have g1:lO (an++bb) 0 (an++bb):=λj d aN=>by rw[xau];exact aN
 have gN:∀k,(gi.objs.map (·.1)).contains k=true->∃o,fz (ow (an++bb) gi.objs (wg (an++bb) gi.aJ 0).2).1 k=some o:=by intro k ak;exact KE (by rw[x9];simpa using ak)
 obtain⟨bw,bz⟩:=XV gN aL g1.left;have av:=g1.right;rw[<-bz]at av;obtain⟨cz,eA⟩:=Qf gN aX av;have A9:g0 τ (restore gi (an++bb)):=by refine ahE _ (by rw[x9];exact EC) bw cz ?_;intro k ak aj;have hm:=a2 k ak aj;obtain⟨b7,p,ya,oy,XW⟩:=ai0 k hm;refine⟨?_,b7⟩;obtain⟨ay1,jS⟩:=p;simp only at oy XW;subst oy;exact Qg _ _ _ _ ai1 ⟨_,ya,XW⟩
 refine⟨_,aW.trans A9,?_,bc⟩;intro k ak aj;obtain⟨o,aF⟩:=AI aj;have:=vX aF;rw[x9]at this;obtain⟨p,ya,oy⟩:=xax.1 this;rcases o5 p ya with cO|cO
 .rw[oy]at cO;exact absurd cO (Nat.not_lt.2 ak)
 rw[oy]at cO;exact cO
def KG(objs:cG)(cs:List aS):Option (List D):=if cs.all sr=true then hv (cs.map (toD objs))else none
def wh(objs:cG)(ks:List Key):aS->aS
 | .ptr k off=>if k∈ks then match objs k with
   |some (.box cs)=>match KG objs cs with|some aO=> .et aO off|none=> .ptr k off
   |_=> .ptr k off
  else .ptr k off
 | .row k=>if k∈ks then match objs k with|some (.row n es)=> .d (.ax n es)|_=> .row k
  else .row k
 | .map k=>if k∈ks then match objs k with|some (.map es)=> .d (.mp es)|_=> .map k
  else .map k
 |x=>x
def KH(objs:cG)(ks:List Key):aS->aS
 | .agg cs=>Au (cs.map (wh objs ks))| .fn f first cap=> .fn f (first.map (wh objs ks)) (cap.map (wh objs ks))
 |x=>wh objs ks x
def ED(objs:cG)(ks:List Key):cR->cR
 | .box cs=> .box (cs.map (KH objs ks))|o=>o
def Qi(objs:cG)(k:Key):Bool:=match objs k with|some (.row _ _)=>decide (k<10000)|some (.map _)=>decide (k<10000)|some (.box cs)=>decide (k<10000)&&(KG objs cs).isSome|_=>false
def freeze(ks:List Key)(σ:aI):aI:=⟨λt=>KH σ.objs ks (σ.aJ t),λk=>if k∈ks then some .dead else(σ.objs k).map (ED σ.objs ks)⟩
section
variable{m:Mem}{fr:fJ}{ρ:dh}{σ:aI}{a:Act}{w:World}{ks:List Key}
def ai2(h:Den m fr ρ σ a w){key off:Nat}{cs:List aS}{aO:List D}(ak:σ.objs key=some (.box cs))(eO:KG σ.objs cs=some aO)(hm:key∈ks){U:Key->Prop}{v:Value}(a6:b5 m ρ σ.used (.ptr key off) v):b5 (Den.part m ρ ks w) ρ U (.et aO off) v:=by
 have hle:=Den.sl m ρ ks w;obtain⟨b,vs,dU,aL,aX,bL,cL⟩:=h.objs _ _ ak;have aj:=h.JL ak rfl hm (by rw[aL];rfl);unfold KG at eO;split at eO
 case isFalse=>cases eO
 rename_i Pz;obtain⟨aW,a2⟩:=qT eO;rw[xaV]at aW;cases a6 with
 |ptr _ _ b' hu av=>
  rw[aL]at av;cases av;have:=b5.et (m:=Den.part m ρ ks w) (ρ:=ρ) (U:=U) aO off b 0 vs dU (0,0) (by rw[aj];exact aX) (λj=>(vs[j]?).getD undef) ?_ ?_
  .simpa using this
  .intro j c aN;have cv:j<vs.size:=by rw[bL,<-aW];exact(xae.1 aN).1
   simp[xan cv]
  intro j c aN;have cv:j<vs.size:=by rw[bL,<-aW];exact(xae.1 aN).1
  have bc:=a2 j c aN;rw[xaj,xah]at bc;obtain⟨y,aQ,tU⟩:=bc;have:=cL j y vs[j] aQ (xan cv);simp only[xan cv,xbc];exact(Pd (xaz.1 Pz y (xaa aQ)) tU this).mono hle
def XX(h:Den m fr ρ σ a w){x:aS}{v:Value}(ag:b5 m ρ σ.used x v):b5 (Den.part m ρ ks w) ρ (freeze ks σ).used (wh σ.objs ks x) v:=by
 have hle:=Den.sl m ρ ks w;have gN:∀k,σ.used k->(freeze ks σ).used k/\ρ k=ρ k:=by
  rintro k ⟨o,aF⟩;refine⟨?_,rfl⟩;unfold aI.used freeze;by_cases ak:k∈ks;.exact⟨.dead,by simp[ak]⟩
  exact⟨ED σ.objs ks o,by simp[ak,aF]⟩
 unfold wh;split
 .rename_i k off;split
  .rename_i hm;split
   .rename_i cs ak;split;.rename_i aO eO;exact ai2 h ak eO hm ag
    exact ag.mono hle gN
   exact ag.mono hle gN
  exact ag.mono hle gN
 .rename_i k;split
  .rename_i hm;split;.rename_i n es ak;cases ag;exact .d _ _ (O5 h ak hm)
   exact ag.mono hle gN
  exact ag.mono hle gN
 .rename_i k;split
  .rename_i hm;split;.rename_i es ak;cases ag;exact .d _ _ (ago h ak hm)
   exact ag.mono hle gN
  exact ag.mono hle gN
 exact ag.mono hle gN
def Qj(h:Den m fr ρ σ a w){cs:List aS}{vs:Array Value}(aq:vs.size=cs.length)(bJ:∀(i:Nat)(c:aS)(v:Value),cs[i]?=some c->vs[i]?=some v->b5 m ρ σ.used c v):vs.size=(cs.map (wh σ.objs ks)).length/\∀(i:Nat)(c:aS)(v:Value),(cs.map (wh σ.objs ks))[i]?=some c->vs[i]?=some v->b5 (Den.part m ρ ks w) ρ (freeze ks σ).used c v:=by refine⟨by simpa using aq,?_⟩;intro i c v ao a6;simp only[xaj,xah]at ao;obtain⟨y,aQ,rfl⟩:=ao;exact XX h (bJ i y v aQ a6)
def XY(h:Den m fr ρ σ a w){x:aS}{v:Value}(ag:b5 m ρ σ.used x v):b5 (Den.part m ρ ks w) ρ (freeze ks σ).used (KH σ.objs ks x) v:=by
 unfold KH;split
 .cases ag with|agg _ vs aq bJ=>
  obtain⟨ab,af⟩:=Qj (ks:=ks) h aq bJ;exact Jn (.agg _ _ ab af)
 .cases ag with|fn _ _ _ vs ws aq du bJ xL=>
  obtain⟨ab,af⟩:=Qj (ks:=ks) h aq bJ;obtain⟨aw,a4⟩:=Qj (ks:=ks) h du xL;exact .fn _ _ _ _ _ ab aw af a4
 exact XX h ag
def ai3(ks:List Key)(eJ:ks.all (Qi σ.objs)=true):g0 σ (freeze ks σ):=by
 intro m fr ρ a w h;have hle:=Den.sl m ρ ks w;have dM:∀k∈ks,(k<10000/\∃n es,σ.objs k=some (.row n es))\/(k<10000/\∃es,σ.objs k=some (.map es))\/(k<10000/\∃cs,σ.objs k=some (.box cs)):=by
  intro k ak;have:=xaz.1 eJ k ak;unfold Qi at this;split at this
  .rename_i n es e;exact .inl ⟨xba this,n,es,e⟩
  .rename_i es e;exact .inr (.inl ⟨xba this,es,e⟩)
  .rename_i cs e;simp only[xam,xaG]at this;exact .inr (.inr ⟨this.1,cs,e⟩)
  cases this
 have own:∀k∈ks,∃o,σ.objs k=some o/\o.owns=true:=by
  intro k ak;rcases dM k ak with⟨_,n,es,e⟩|⟨_,es,e⟩|⟨_,cs,e⟩
  .exact⟨_,e,rfl⟩
  .exact⟨_,e,rfl⟩
  exact⟨_,e,rfl⟩
 have ic:∀b,Den.part m ρ ks w b=m b\/∃k∈ks,blockOf (ρ k)=some b/\Den.part m ρ ks w b=w.heap[b]?:=by
  intro b;unfold Den.part;cases hm:m b with
  |some x=>exact .inl rfl
  |none=>
   simp only;by_cases ao:∃k∈ks,blockOf (ρ k)=some b;.rw[xad ao];obtain⟨k,ab,af⟩:=ao;exact .inr ⟨k,ab,af,rfl⟩
   rw[xac ao];exact .inl rfl
 have nF:∀k o,(freeze ks σ).objs k=some o->o.owns=true->k∉ks/\∃dV,σ.objs k=some dV/\o=ED σ.objs ks dV/\dV.owns=true:=by
  intro k o ak aF;unfold freeze at ak;simp only at ak;split at ak;.cases ak;cases aF
  rename_i aM;obtain⟨dV,ab,rfl⟩:=xah.1 ak;refine⟨aM,dV,ab,rfl,?_⟩;cases dV<;>first|rfl|exact aF
 refine⟨Den.part m ρ ks w,ρ,hle,⟨?_,h.frame,?_,?_,?_,?_,?_,?_⟩,?_⟩
 .intro b o aj;rcases ic b with e|⟨k,_,_,e⟩
  .rw[e]at aj;exact h.mem b o aj
  rw[e]at aj;exact aj
 .intro b aj;rcases ic b with e|⟨k,ab,af,e⟩
  .rw[e]at aj;exact h.apart b aj
  obtain⟨o,aw,a4⟩:=own k ab;exact(h.own k o b aw a4 af).2
 .rintro k ⟨o,aF⟩;unfold freeze at aF;simp only at aF;split at aF;.rename_i ak;obtain⟨o,aw,a4⟩:=own k ak;exact h.one k ⟨o,aw⟩
  obtain⟨dV,ab,rfl⟩:=xah.1 aF;exact h.one k ⟨dV,ab⟩
 .intro t;exact XY h (h.aJ t)
 .intro k o ak;have fQ:=ak;unfold freeze at ak;simp only at ak;split at ak
  .cases ak;trivial
  obtain⟨dV,ab,rfl⟩:=xah.1 ak;have af:=h.objs k dV ab;cases dV with
  |dead=>trivial|box cs=>obtain⟨b,vs,T,aL,aX,bL,cL⟩:=af;refine⟨b,vs,T,aL,aX,by simpa using bL,?_⟩;intro i c x ao ag;simp only[xaj,xah]at ao;obtain⟨y,aQ,rfl⟩:=ao;exact XY h (cL i y x aQ ag)
  |row n es=>
   rcases af with⟨aL,aX⟩|⟨b,o,cap,vs,dU,aL,aX,bL,cL,ea,fp⟩;.exact .inl ⟨aL,aX⟩
   exact .inr ⟨b,o,cap,vs,dU,aL,aX,bL,cL,ea,λi e j c ah aN=>by obtain⟨x,aW,a2⟩:=fp i e j c ah aN;exact⟨x,aW,a2.mono hle⟩⟩
  |map es=>obtain⟨r,dt,clock,aL,aX,bL,cL,ea⟩:=af;exact⟨r,dt,clock,aL,aX,bL,cL,λi e x he ag=>(ea i e x he ag).mono hle⟩
 .intro k o b ak aF aj;obtain⟨aM,dV,ab,rfl,af⟩:=nF k o ak aF;have aw:=h.own k dV b ab af aj;refine⟨?_,aw.2⟩;rcases ic b with e|⟨bq,a4,b7,e⟩
  .rw[e];exact aw.1
  obtain⟨o',cO,gx⟩:=own bq a4;exact absurd b7 (h.sep k bq dV o' b (by rintro rfl;exact aM a4) ab cO af gx aj)
 .intro k bq o o' b cU ak fQ aF om aj;obtain⟨aM,dV,ab,rfl,af⟩:=nF k o ak aF;obtain⟨O7,EE,eW,rfl,hZ⟩:=nF bq o' fQ om;exact h.sep k bq dV EE b cU ab eW af hZ aj
 intro k ak aj;refine⟨?_,rfl⟩;have aM:k∉ks:=by
  intro hm;rcases dM k hm with⟨cv,_⟩|⟨cv,_⟩|⟨cv,_⟩
  .exact absurd ak (Nat.not_le.2 cv)
  .exact absurd ak (Nat.not_le.2 cv)
  exact absurd ak (Nat.not_le.2 cv)
 show eP (if k∈ks then some .dead else(σ.objs k).map (ED σ.objs ks));rw[xac aM];rcases aj with⟨c,ao⟩|⟨n,es,ao⟩|⟨es,ao⟩
 .rw[ao];exact tR
 .rw[ao];exact so
 rw[ao];exact vI
end
def yb{β:Type}:List (List Key)->aI->(aI->Option β)->Option β
 |[],σ,k=>k σ|ks::r,σ,k=>match ks with|[]=>yb r σ k|_=>if ks.all (Qi σ.objs)=true then yb r (freeze ks σ) k else none
def EF{β:Type}(t:Tmp)(σ:aI)(k:aI->Option β):Option β:=match σ.aJ t with
 | .sub key cQ i len=>match σ.objs key,σ.objs t with
  |some (.row bq es),none=>if cQ=bq/\key<10000/\t<10000 then aD (decide (i+len<=es.length)) (k ⟨cr σ.aJ t (.row t),cr (cr σ.objs key (some .dead)) t (some (.row cQ ((es.drop i).take len)))⟩)else none
  |_,_=>none
 |_=>none
def ai4{σ:aI}{t key cQ i len:Nat}{es:List (List D)}(aK:σ.aJ t= .sub key cQ i len)(ak:σ.objs key=some (.row cQ es))(au:σ.objs t=none)(hle:i+len<=es.length)(p9:key<10000):g0 σ ⟨cr σ.aJ t (.row t),cr (cr σ.objs key (some .dead)) t (some (.row cQ ((es.drop i).take len)))⟩:=by
 intro m fr ρ a w h;have cU:key≠t:=by rintro rfl;rw[ak]at au;cases au
 have b6:((es.drop i).take len).length=len:=by simp;omega
 have Ba:∀j o,(cr (cr σ.objs key (some .dead)) t (some (.row cQ ((es.drop i).take len)))) j=some o->(j=t/\o= .row cQ ((es.drop i).take len))\/(j=key/\o= .dead)\/(j≠t/\j≠key/\σ.objs j=some o):=by
  intro j o aN;by_cases ab:j=t;.subst ab;rw[e4]at aN;cases aN;exact .inl ⟨rfl,rfl⟩
  rw[cX _ _ ab]at aN;by_cases af:j=key;.subst af;rw[e4]at aN;cases aN;exact .inr (.inl ⟨rfl,rfl⟩)
  rw[cX _ _ af]at aN;exact .inr (.inr ⟨ab,af,aN⟩)
 let v:=a.tmps.getD t undef
 have a6:=h.aJ t;rw[aK]at a6;have D1:∀k,σ.used k->aI.used ⟨cr σ.aJ t (.row t),cr (cr σ.objs key (some .dead)) t (some (.row cQ ((es.drop i).take len)))⟩ k/\cr ρ t v k=ρ k:=by
  rintro k ⟨o,aF⟩;have vE:k≠t:=by rintro rfl;rw[aF]at au;cases au
  refine⟨?_,cX _ _ vE⟩;by_cases af:k=key;.subst af;exact⟨.dead,by simp only[cX _ _ vE,e4]⟩
  exact⟨o,by simp only[cX _ _ vE,cX _ _ af];exact aF⟩
 have piece:j3 v=true/\(blockOf v=none\/blockOf v=blockOf (ρ key))/\jt m (cr ρ t v) (aI.used ⟨cr σ.aJ t (.row t),cr (cr σ.objs key (some .dead)) t (some (.row cQ ((es.drop i).take len)))⟩) v w (.row cQ ((es.drop i).take len)):=by
  have nE:=h.objs key _ ak;generalize ai5:a.tmps.getD t undef=u at a6;have ai6:v=u:=ai5;rw[ai6];cases a6 with
  |ko _ _ _ hu av=>exact⟨rfl,.inl rfl,.inl ⟨rfl,by simp⟩⟩
  |sub _ _ _ _ b o L cap ix hu av OO aE=>
   refine⟨rfl,.inr (by rw[av];rfl),?_⟩;rcases nE with⟨aL,aX⟩|⟨b',o',o1,vs,dU,aL,aX,bL,cL,ea,fp⟩
   .rw[av]at aL;cases aL
   rw[av]at aL;cases aL;refine .inr ⟨b,ix,cap-i,vs,dU,by rw[b6],aX,by rw[b6];omega,?_,?_,?_⟩
   .by_cases Qk:i<cap
    .rw[aE.1 Qk,xbf,<-xaR];have:i+(cap-i)=cap:=by omega
     rw[this];exact cL
    have:cap-i=0:=by omega
    rw[this,Nat.zero_mul];have:=aE.2;omega
   .intro e he;exact ea e (xbp (xbl he))
   intro p e j c aU aN;rw[xaM]at aU;split at aU
   case isFalse=>cases aU
   rename_i kr;rw[xaW]at aU;obtain⟨x,aW,a2⟩:=fp (i+p) e j c aU aN;have Qk:i<cap:=by have:=(xae.1 aU).1;omega
   refine⟨x,?_,a2⟩;rw[aE.1 Qk];have:o+i*cQ+p*cQ+j=o+(i+p)*cQ+j:=by rw[xaR];omega
   rw[this];exact aW
 obtain⟨dw,da,eM⟩:=piece;refine⟨m,cr ρ t v,Mem.le_refl m,⟨h.mem,h.frame,h.apart,?_,?_,?_,?_,?_⟩,?_⟩
 .rintro k ⟨o,aF⟩;rcases Ba k o aF with⟨rfl,_⟩|⟨rfl,_⟩|⟨ab,af,aw⟩;.rw[e4];exact dw
  .rw[cX _ _ cU];exact h.one _ ⟨_,ak⟩
  rw[cX _ _ ab];exact h.one _ ⟨_,aw⟩
 .intro s;by_cases aG:s=t;.subst aG;simp only[e4];have:b5 m (cr ρ s v) (aI.used ⟨cr σ.aJ s (.row s),cr (cr σ.objs key (some .dead)) s (some (.row cQ ((es.drop i).take len)))⟩) (.row s) (cr ρ s v s):= .row s ⟨_,e4 _ _ _⟩;rw[e4]at this;exact this
  simp only[cX _ _ aG];exact(h.aJ s).mono (Mem.le_refl m) D1
 .intro k o fQ;rcases Ba k o fQ with⟨rfl,rfl⟩|⟨rfl,rfl⟩|⟨ab,af,aw⟩
  .rw[e4];exact eM
  .trivial
  rw[cX _ _ ab];exact(h.objs k o aw).mono (Mem.le_refl m) D1 (λb _ _=>rfl)
 .intro k o b fQ aF aj;rcases Ba k o fQ with⟨rfl,rfl⟩|⟨rfl,rfl⟩|⟨ab,af,aw⟩
  .rw[e4]at aj;rcases da with da|da
   .rw[da]at aj;cases aj
   exact h.own key _ b ak rfl (by rw[<-da];exact aj)
  .cases aF
  rw[cX _ _ ab]at aj;exact h.own k o b aw aF aj
 .intro k bq o o' b dj fQ XZ aF om aj;rcases Ba k o fQ with⟨rfl,rfl⟩|⟨rfl,rfl⟩|⟨ab,af,aw⟩
  .rcases Ba bq o' XZ with⟨rfl,rfl⟩|⟨rfl,rfl⟩|⟨eW,hZ,iL⟩;.exact absurd rfl dj
   .cases om
   rw[e4]at aj;rw[cX _ _ eW];rcases da with da|da
   .rw[da]at aj;cases aj
   exact h.sep key bq _ o' b (Ne.symm hZ) ak iL rfl om (by rw[<-da];exact aj)
  .cases aF
  rw[cX _ _ ab]at aj;rcases Ba bq o' XZ with⟨rfl,rfl⟩|⟨rfl,rfl⟩|⟨eW,hZ,iL⟩
  .rw[e4];rcases da with da|da
   .rw[da];exact λbJ=>by cases bJ
   rw[da];exact h.sep k key o _ b af aw ak aF rfl aj
  .cases om
  rw[cX _ _ eW];exact h.sep k bq o o' b dj aw iL aF om aj
 intro k fQ aj;have vE:k≠t:=by rintro rfl;rw[au]at aj;exact tS aj
 have dj:k≠key:=by rintro rfl;exact absurd p9 (Nat.not_lt.2 fQ)
 exact⟨by simp only[cX _ _ vE,cX _ _ dj];exact aj,cX _ _ vE⟩
def wi(φ:Key->Key):aS->aS
 | .any=> .any| .d x=> .d x| .et cs off=> .et cs off| .ptr k off=> .ptr (φ k) off| .gd k cQ i off=> .gd (φ k) cQ i off| .row k=> .row (φ k)| .sub k cQ i len=> .sub (φ k) cQ i len| .map k=> .map (φ k)|_=> .any
def EG(φ:Key->Key):aS->aS
 | .agg cs=> .agg (cs.map (wi φ))| .a1 cs=> .a1 (cs.map (wi φ))| .fn f as j7=> .fn f (as.map (wi φ)) (j7.map (wi φ))|x=>wi φ x
def uj(φ:Key->Key):cR->cR
 | .box cs=> .box (cs.map (EG φ))|o=>o
section
variable{m:Mem}{ρ cS:dh}{U na:Key->Prop}{φ:Key->Key}
def X0(h:∀k,U k->na (φ k)/\cS (φ k)=ρ k){x:aS}{v:Value}(ag:b5 m ρ U x v):b5 m cS na (wi φ x) v:=by cases ag with|any v=>exact .any _|d x v ag=>exact .d _ _ ag|agg=>exact .any _|a1=>exact .any _|et cs off b o vs T eE hm xs ab af=>exact .et _ _ b o vs T eE hm xs ab af|ptr k off b hu av=>exact .ptr _ _ b (h k hu).1 ((h k hu).2.trans av)|gd k cQ i off b o len cap hu av=>exact .gd _ _ _ _ b o len cap (h k hu).1 ((h k hu).2.trans av)|row k hu=>rw[<-(h k hu).2];exact .row _ (h k hu).1|sub k cQ i len b o L cap a hu av hle aE=>exact .sub _ _ _ _ b o L cap a (h k hu).1 ((h k hu).2.trans av) hle aE|ko k cQ i hu av=>exact .ko _ _ _ (h k hu).1 ((h k hu).2.trans av)|map k hu=>rw[<-(h k hu).2];exact .map _ (h k hu).1|fn=>exact .any _
def KI(h:∀k,U k->na (φ k)/\cS (φ k)=ρ k){cs:List aS}{vs:Array Value}(aq:vs.size=cs.length)(bJ:∀(i:Nat)(c:aS)(v:Value),cs[i]?=some c->vs[i]?=some v->b5 m ρ U c v):vs.size=(cs.map (wi φ)).length/\∀(i:Nat)(c:aS)(v:Value),(cs.map (wi φ))[i]?=some c->vs[i]?=some v->b5 m cS na c v:=by refine⟨by simpa using aq,?_⟩;intro i c v ao a6;simp only[xaj,xah]at ao;obtain⟨y,aQ,rfl⟩:=ao;exact X0 h (bJ i y v aQ a6)
def X1(h:∀k,U k->na (φ k)/\cS (φ k)=ρ k){x:aS}{v:Value}(ag:b5 m ρ U x v):b5 m cS na (EG φ x) v:=by
 unfold EG;split
 .cases ag with|agg _ vs aq bJ=>
  obtain⟨ab,af⟩:=KI h aq bJ;exact .agg _ _ ab af
 .cases ag with|a1 _ vs aq bJ=>
  obtain⟨ab,af⟩:=KI h aq bJ;exact .a1 _ _ ab af
 .cases ag with|fn _ _ _ vs ws aq du bJ xL=>
  obtain⟨ab,af⟩:=KI h aq bJ;obtain⟨aw,a4⟩:=KI h du xL;exact .fn _ _ _ _ _ ab aw af a4
 exact X0 h ag
def ai7(h:∀k,U k->na (φ k)/\cS (φ k)=ρ k){o:cR}{v:Value}{w:World}(aF:jt m ρ U v w o):jt m cS na v w (uj φ o):=by
 cases o with
 |dead=>trivial|box cs=>obtain⟨b,vs,T,aL,aX,bL,cL⟩:=aF;refine⟨b,vs,T,aL,aX,by simpa using bL,?_⟩;intro i c x ao ag;simp only[xaj,xah]at ao;obtain⟨y,aQ,rfl⟩:=ao;exact X1 h (cL i y x aQ ag)
 |row=>exact aF|map=>exact aF
theorem ai8{o:cR}:(uj φ o).owns=o.owns:=by cases o<;>rfl
end
def ai9:Act:={tmps:= #[],defers:=[]}
def KJ(m:Mem)(fr:fJ)(ρ:dh)(E:cG)(w:World):Prop:=Den m fr ρ ⟨λ_=> .any,E⟩ ai9 w
def q6(E:cG)(k:Key):Prop:=∃o,E k=some o
structure fS where
 f:FuncId
 args:List lr
 ins:List (Key×lN)
 res:lr
 outs:List (Key×lN)
def fS.wj(s:fS)(ls:List D):List aS:=(q5 ls s.args 0).1
def fS.nN(s:fS)(ls:List D):List (Key×cR):=(ow ls s.ins (q5 ls s.args 0).2).1
def fS.KK(s:fS)(ls:List D):aS:=(pk ls s.res 0).1
def fS.pn(s:fS)(ls:List D):List (Key×cR):=(ow ls s.outs (pk ls s.res 0).2).1
structure e5(P:Program)(G:dn)(s:fS)(F:List D->Option (List D)):Prop where
 fn:vH P s.f
 run:∀ls fu,F ls=some fu->∀(m:Mem)(fr:fJ)(ρ:dh)(w:World)(vs:List Value),kp G m->KJ m fr ρ (fz (s.nN ls)) w->vs.length=(s.wj ls).length->(∀(i:Nat)(x:aS)(v:Value),(s.wj ls)[i]?=some x->vs[i]?=some v->b5 m ρ (q6 (fz (s.nN ls))) x v)->Calls P s.f vs.toArray w λe w'=>∃v cI cS,e= .returned v/\m.le cI/\KJ cI fr cS (fz (s.pn fu)) w'/\b5 cI cS (q6 (fz (s.pn fu))) (s.KK fu) v/\ ∀k,10000<=k->eP (fz (s.nN ls) k)->cS k=ρ k
def q7(ck:List (Key×Key))(base:Nat)(k:Key):Key:=if 10000<=k then gh ck k else base+(k-9000)
def wk(objs:cG)(dead:List Key)(outs:List (Key×cR)):cG:=λp=>match fz outs p with|some o=>some o|none=>if p∈dead then some .dead else objs p
def aja:lN->Bool
 | .row _=>true| .map=>true|_=>false
def X2(objs:cG)(ck:List (Key×Key))(base:Nat)(s:fS):Bool:=xX (gh ck) (s.ins.map (·.1))&&xX (q7 ck base) (s.outs.map (·.1))&&decide ((s.ins.map (·.1)).Nodup)&&decide ((s.outs.map (·.1)).Nodup)&&s.outs.all (λp=>if 10000<=p.1 then s.ins.any (λq=>q.1==p.1&&A8 q.2)else decide (9000<=p.1)&&decide (q7 ck base p.1<10000)&&(objs (q7 ck base p.1)).isNone)&&s.ins.all (λq=>if 10000<=q.1 then A8 q.2&&s.outs.any (λp=>p.1==q.1&&A8 p.2)else aja q.2&&decide (gh ck q.1<10000))
section
variable{β:Type}
def Ql(G:dn)(s:fS)(F:List D->Option (List D))(base:Nat)(σ:aI)(o:Oper)(x:Operand)(args:List Operand)(k:aI->Option β):Option β:=match vK (cf G σ.aJ x)with
 |some (f,pre,post)=>
  if f=s.f then
   let tT:=pre++args.map (cf G σ.aJ)++post
   let ck:=A6 σ s.ins (Kz tT s.args)
   let ks:=s.ins.map (·.1)
   if X2 σ.objs ck base s=true then
    match ui (KC ck ks tT s.args) (KD ck ks σ s.ins)with|some ls=>aa (F ls) λfu=>k (aI.put ⟨σ.aJ,wk σ.objs (ks.map (gh ck)) ((s.pn fu).map λp=>(q7 ck base p.1,uj (q7 ck base) p.2))⟩ o.dst (EG (q7 ck base) (s.KK fu)))|none=>none
   else none
  else none
 |none=>none
end
section
variable{P:Program}{T:cd}{G:dn}{m:Mem}{fr:fJ}{ρ:dh}{σ:aI}{a:Act}{w:World}{N:Nat}
def ajb(c2:kp G m)(h:Den m fr ρ σ a w){o:Oper}{x:Operand}{args:Array Operand}{dF:Array TypeId}(eF:o.op= .call ⟨.value x,args,dF⟩){f:FuncId}{pre post:List aS}(gT:vK (cf G σ.aJ x)=some (f,pre,post))(bd:vH P f): ∃vs:List Value,vs.length=(pre++args.toList.map (cf G σ.aJ)++post).length/\(∀(i:Nat)(c:aS)(v:Value),(pre++args.toList.map (cf G σ.aJ)++post)[i]?=some c->vs[i]?=some v->b5 m ρ σ.used c v)/\(execOp a.eval o).run P w= .ok (.enter f vs.toArray) w:=by
 have dx:=DJ (a:=a) c2 h.aJ;have ag:=dx x;have Pe:∃first cap,a.eval x= .func (.func f) first cap/\first.size=pre.length/\cap.size=post.length/\(∀(i:Nat)(c:aS)(v:Value),pre[i]?=some c->first[i]?=some v->b5 m ρ σ.used c v)/\(∀(i:Nat)(c:aS)(v:Value),post[i]?=some c->cap[i]?=some v->b5 m ρ σ.used c v):=by
  unfold vK at gT;split at gT
  .rename_i ku first cap he
   split at gT
   case isFalse=>cases gT
   rename_i au;cases gT;rw[he]at ag;exact⟨first,cap,ag.hS,by simpa using au.1,by simpa using au.2,by intro i c v ao;simp at ao,by intro i c v ao;simp at ao⟩
  .rename_i ku first cap he
   cases gT;rw[he]at ag;generalize a.eval x=u at ag;cases ag with|fn _ _ _ vs ws aq du g lj=>exact⟨vs,ws,rfl,aq,du,g,lj⟩
  .rename_i ku first cap he
   cases gT;rw[he]at ag;have ag:=ag.ob;generalize a.eval x=u at ag;cases ag with|fn _ _ _ vs ws aq du g lj=>
   refine⟨vs,ws,rfl,by simpa using aq,by simpa using du,?_,?_⟩;.intro i c v ao a6;simp only[xaj,xah]at ao;obtain⟨y,aQ,rfl⟩:=ao;exact .d _ _ (g i y v aQ a6)
   intro i c v ao a6;simp only[xaj,xah]at ao;obtain⟨y,aQ,rfl⟩:=ao;exact .d _ _ (lj i y v aQ a6)
  .cases gT
 obtain⟨first,cap,vx,nA,pY,aW,a2⟩:=Pe;refine⟨(first++args.map a.eval++cap).toList,by simp[nA,pY],?_,?_⟩
 .intro i c v ao a6;simp only[Array.toList_append,Array.toList_map]at a6;have aL:first.toList.length=pre.length:=by simpa using nA
  by_cases ab:i<pre.length;.rw[xaQ,xaK ab]at ao;rw[xaQ,xaK (by omega)]at a6;exact aW i c v ao (by simpa using a6)
  by_cases af:i<pre.length+args.size;.rw[xaK (by simp;omega),xaI (by omega)]at ao;rw[xaK (by simp;omega),xaI (by omega),aL]at a6;simp only[xaj,xah]at ao a6;obtain⟨p,aU,rfl⟩:=ao;obtain⟨q,bg,rfl⟩:=a6;rw[aU]at bg;cases bg;exact dx _
  rw[xaI (by simp;omega)]at ao;rw[xaI (by simp;omega)]at a6;refine a2 _ c v ao ?_;rw[<-a6];simp only[xaN,xaV,xcc,nA];simp
 unfold execOp;rw[eF];simp only[Array.toArray_toList];exact Wp vx bd
def X3{φ:Key->Key}:∀{lo:List (Key×cR)} {p:Key} {o:cR},fz (lo.map λq=>(φ q.1,uj φ q.2)) p=some o->∃k dV,k∈mi lo/\φ k=p/\o=uj φ dV/\((mi lo).Nodup->fz lo k=some dV)
 |[],p,o,h=>by cases h
 |(j,x)::r,p,o,h=>by
  simp only[xaB,fz]at h;split at h;.rename_i e;cases h;exact⟨j,x,by simp[mi],e.symm,rfl,λ_=>by simp[fz]⟩
  obtain⟨k,dV,ab,af,aw,a4⟩:=X3 h;refine⟨k,dV,?_,af,aw,?_⟩;.simp only[mi,xaB,xao]at ab⊢;exact .inr ab
  intro aM;simp only[mi,xaB,List.nodup_cons]at aM ab;have cU:k≠j:=by rintro rfl;exact aM.1 ab
  simp only[fz,xac cU];exact a4 aM.2
def Qm{φ:Key->Key}:∀{lo:List (Key×cR)} {k:Key},k∈mi lo->∃o,fz (lo.map λq=>(φ q.1,uj φ q.2)) (φ k)=some o
 |[],k,h=>by cases h
 |(j,x)::r,k,h=>by
  simp only[xaB,fz];split;.exact⟨_,rfl⟩
  rename_i cU;simp only[mi,xaB,xao]at h;rcases h with rfl|h
  .exact absurd rfl cU
  exact Qm h
def X4{ls:List D}{l:List (Key×lN)}{n:Nat}{k:Key}(aM:(l.map (·.1)).Nodup){q:Key×lN}(bg:q∈l)(ak:q.1=k)(aj:A8 q.2=true):eP (fz (ow ls l n).1 k):=by obtain⟨a,b⟩:=q;simp only at ak aj;subst ak;exact Qg ls l n _ aM ⟨_,bg,aj⟩
def ajc{φ:Key->Key}{U:Key->Prop}{o o':cR}(h:xV φ U o' o)(aj:eP (some o)):eP (some o'):=by
 cases o with
 |dead=>exact absurd aj D3|box=>obtain⟨xs,rfl,_⟩:=h;exact tR
 |row=>obtain⟨es,rfl,_⟩:=h;exact so
 |map=>cases o'<;>first|exact vI|exact h.elim|cases h
def ajd(c2:kp G m)(h:Den m fr ρ σ a w)(cj:N<=a.tmps.size)(hx:a.defers=[]){o:Oper}(gZ:∀d,o.dst=some d->d<N){s:fS}{F:List D->Option (List D)}(bm:e5 P G s F){base:Nat} {x:Operand} {args:Array Operand} {dF:Array TypeId} (aF:o.op= .call ⟨.value x,args,dF⟩) {β:Type} {k:aI->Option β} {b:β} (ao:Ql G s F base σ o x args.toList k=some b) {Q:Exit->Act->World->Prop}:o.wp P a w (iV N m fr ρ σ (λaV=>k aV=some b/\∀p,10000<=p->eP (aV.objs p)->eP (σ.objs p))) Q:=by
 have iy:∀d,o.dst=some d->d<a.tmps.size:=λd aB=>Nat.lt_of_lt_of_le (gZ d aB) cj;have sq:∀v,N<=(a.put o.dst v).tmps.size:=by intro v;cases o.dst<;>simpa[Act.put]using cj
 have me:∀v,(a.put o.dst v).defers=[]:=by intro v;cases o.dst<;>exact hx
 unfold Ql at ao;split at ao
 case h_2=>cases ao
 rename_i f pre post gT;split at ao
 case isFalse=>cases ao
 rename_i bd;subst bd;simp only at ao;generalize ay2:A6 σ s.ins (Kz (pre++args.toList.map (cf G σ.aJ)++post) s.args)=ck at ao;generalize aje:pre++args.toList.map (cf G σ.aJ)++post=tT at ao;split at ao
 case isFalse=>cases ao
 rename_i X5;split at ao
 case h_2=>cases ao
 rename_i ls Qh;obtain⟨fu,ig,ak⟩:=ft ao;simp only[X2,xam,xaz,xaG]at X5;obtain⟨⟨⟨⟨⟨bR,bY⟩,ct⟩,de⟩,ee⟩,ef⟩:=X5;obtain⟨an,bb,aL,aX,rfl⟩:=x8 Qh;have g1:lO (an++bb) 0 (an++bb):=λj d aN=>by rw[xau];exact aN
 have Qn:mi (s.nN (an++bb))=s.ins.map (·.1):=x9 _ _ _;have Qo:mi (s.pn fu)=s.outs.map (·.1):=x9 _ _ _;have gN:∀k,(s.ins.map (·.1)).contains k=true->q6 (fz (s.nN (an++bb))) k:=by intro k ak;exact KE (by rw[Qn];simpa using ak)
 obtain⟨bw,bz⟩:=Qe gN aL g1.left;have av:=g1.right;rw[<-bz]at av;obtain⟨cz,eA⟩:=Qf gN aX av;have cz:xW (gh ck) (q6 (fz (s.nN (an++bb)))) σ (s.nN (an++bb)):=cz;have ajf:∀k j,k∈s.ins.map (·.1)->j∈s.ins.map (·.1)->gh ck k=gh ck j->k=j:=Ke bR;have X6:∀k j,k∈s.outs.map (·.1)->j∈s.outs.map (·.1)->q7 ck base k=q7 ck base j->k=j:=Ke bY;have jw:∀{o o':cR},xV (gh ck) (q6 (fz (s.nN (an++bb)))) o' o->o.owns=true->o'.owns=true:=by
  intro o o' hle aF;cases o with
  |dead=>cases aF
  |box=>obtain⟨xs,rfl,_⟩:=hle;rfl
  |row=>obtain⟨es,rfl,_⟩:=hle;rfl
  |map=>cases hle;rfl
 have Qp:∀{k o},fz (s.nN (an++bb)) k=some o->k∈s.ins.map (·.1):=λak=>by rw[<-Qn];exact vX ak
 have ajg:∀{k o},fz (s.pn fu) k=some o->k∈s.outs.map (·.1):=λak=>by rw[<-Qo];exact vX ak
 let passed:Key->Prop:=λp=>∃k,k∈s.ins.map (·.1)/\gh ck k=p
 let EH:Mem:=λb=>match fr b with|some o=>some o|none=>open Classical in if∃k o,σ.objs k=some o/\o.owns=true/\¬passed k/\blockOf (ρ k)=some b then w.heap[b]? else none
 let uk:fJ:=⟨EH,fr.os,fr.out,fr.low⟩
 have KL:∀b o,fr b=some o->uk b=some o:=by intro b o aj;simp only[uk,EH,aj]
 have KM:∀b k o,σ.objs k=some o->o.owns=true->¬passed k->blockOf (ρ k)=some b->uk b=w.heap[b]?:=by intro b k o ab af aw a4;have b7:=(h.own k o b ab af a4).2;simp only[uk,EH,b7];rw[xad ⟨k,o,ab,af,aw,a4⟩]
 have X7:∀b,uk b≠none->fr b≠none\/∃k o,σ.objs k=some o/\o.owns=true/\¬passed k/\blockOf (ρ k)=some b:=by intro b aj;cases bd:fr b with|some o=>exact .inl (by simp)|none=>refine .inr ?_;refine xbA λyc=>aj ?_;simp only[uk,EH,bd];rw[xac yc]
 have Eh:KJ m uk (λk=>ρ (gh ck k)) (fz (s.nN (an++bb))) w:=by
  refine⟨h.mem,⟨?_,⟨h.frame.quiet.os,h.frame.quiet.out,h.frame.quiet.low,h.frame.quiet.sa⟩⟩,?_,?_,λ_=> .any _,?_,?_,?_⟩
  .intro b o aj;cases bd:fr b with
   |some o'=>rw[KL b o' bd]at aj;cases aj;exact h.frame.pW b _ bd
   |none=>
    simp only[uk,EH,bd]at aj;split at aj;.exact aj
    cases aj
  .intro b aj;refine xbA λyc=>?_;rcases X7 b yc with ab|⟨k,o,ab,af,aw,a4⟩
   .exact ab (h.apart b aj)
   exact aj (h.own k o b ab af a4).1
  .rintro k ⟨o,mj⟩;obtain⟨o',ab,_⟩:=cz.ok k o mj;exact h.one _ ⟨o',ab⟩
  .intro k o mj;obtain⟨o',ab,af⟩:=cz.ok k o mj;have aw:=h.objs _ _ ab;cases o with
   |dead=>trivial|box dk=>obtain⟨xs,rfl,hle⟩:=af;obtain⟨b,vs,T,aL,aX,bL,cL⟩:=aw;have:=sw.cells hle ⟨bL,cL⟩;exact⟨b,vs,T,aL,aX,this.1,this.2⟩
   |row cQ di=>obtain⟨es,rfl,hle⟩:=af;exact hle.ok aw
   |map es=>cases af;exact aw
  .intro k o b mj Kf aj;obtain⟨o',ab,af⟩:=cz.ok k o mj;have aw:=h.own _ o' b ab (jw af Kf) aj;refine⟨aw.1,?_⟩;refine xbA λyc=>?_;rcases X7 b yc with a4|⟨bq,ml,a4,b7,cO,gx⟩
   .exact a4 aw.2
   have cU:gh ck k≠bq:=by rintro rfl;exact cO ⟨k,Qp mj,rfl⟩
   exact h.sep _ _ _ _ b cU ab a4 (jw af Kf) b7 aj gx
  intro k bq o o' b cU mj Ej Pv Pw aj;obtain⟨y,ab,af⟩:=cz.ok k o mj;obtain⟨OQ,eW,hZ⟩:=cz.ok bq o' Ej;exact h.sep (gh ck k) (gh ck bq) y OQ b (λe=>cU (ajf k bq (Qp mj) (Qp Ej) e)) ab eW (jw af Pv) (jw hZ Pw) aj
 obtain⟨vs,v1,v2,Bb⟩:=ajb (P:=P) c2 h aF gT bm.fn;rw[aje]at v1 v2;obtain⟨mc,mK⟩:=bw.ok;have ss:=bm.run _ _ ig m uk _ w vs c2 Eh (v1.trans mc.symm) (by intro i y v aQ a6;obtain⟨X8,ajh,hle⟩:=mK i y aQ;exact hle.ok (v2 i X8 v ajh a6))
 unfold Oper.wp;rw[Bb];refine ss.mono λe w' he=>?_;obtain⟨v,cI,cS,rfl,um,lP,AU,Qq⟩:=he;generalize X9:q7 ck base=φ at*
 let uo:=(s.pn fu).map λp=>(φ p.1,uj φ p.2)
 let objs':=wk σ.objs ((s.ins.map (·.1)).map (gh ck)) uo
 let lh:dh:=λp=>match(s.outs.map (·.1)).find? (λk=>φ k==p)with|some k=>cS k|none=>ρ p
 have Qr:∀k,k∈s.outs.map (·.1)->lh (φ k)=cS k:=by intro k ak;simp only[lh];cases Bc:(s.outs.map (·.1)).find? (λbq=>φ bq==φ k)with|none=>exact absurd (List.find?_eq_none.1 Bc k ak) (by simp)|some bq=>have ab:=List.find?_some Bc;simp only[xbq]at ab;rw[X6 bq k (List.mem_of_find?_eq_some Bc) ak ab]
 have Qs:∀k,k∈s.outs.map (·.1)->(10000<=k/\k∈s.ins.map (·.1)/\φ k=gh ck k/\eP (fz (s.nN (an++bb)) k))\/(σ.objs (φ k)=none/\φ k<10000):=by
  intro k ak;obtain⟨p,aU,rfl⟩:=xax.1 ak;have ab:=ee p aU;by_cases cv:10000<=p.1
  .rw[xad cv]at ab;obtain⟨q,bg,af⟩:=xbt.1 ab;simp only[xam,xbq]at af;refine .inl ⟨cv,xax.2 ⟨q,bg,af.1⟩,?_,X4 ct bg af.1 af.2⟩;rw[<-X9];simp only[q7,xad cv]
  rw[xac cv]at ab;simp only[xam,xaG,Option.isNone_iff_eq_none]at ab;exact .inr ⟨ab.2,ab.1.2⟩
 have KN:∀p,σ.used p->lh p=ρ p:=by
  rintro p ⟨op,aU⟩;simp only[lh];cases Bc:(s.outs.map (·.1)).find? (λbq=>φ bq==p)with
  |none=>rfl
  |some k=>
   have ab:=List.find?_some Bc;simp only[xbq]at ab;rcases Qs k (List.mem_of_find?_eq_some Bc)with⟨af,aw,a4,b7⟩|⟨af,_⟩
   .simp only;rw[Qq k af b7,<-a4,ab]
   rw[ab,aU]at af;cases af
 have EI:∀p op,fz uo p=some op->∃k dV,k∈s.outs.map (·.1)/\φ k=p/\op=uj φ dV/\fz (s.pn fu) k=some dV:=by intro p op aU;obtain⟨k,dV,ab,af,aw,a4⟩:=X3 aU;rw[Qo]at ab a4;exact⟨k,dV,ab,af,aw,a4 de⟩
 have Ya:∀k,q6 (fz (s.pn fu)) k->q6 objs' (φ k)/\lh (φ k)=cS k:=by rintro k ⟨dV,ab⟩;refine⟨?_,Qr k (ajg ab)⟩;obtain⟨gL,af⟩:=Qm (φ:=φ) (vX ab);exact⟨gL,by simp only[objs',wk,uo,af]⟩
 have Yb:∀p,σ.used p->q6 objs' p/\lh p=ρ p:=by
  rintro p ⟨op,aU⟩;refine⟨?_,KN p ⟨op,aU⟩⟩;unfold q6;simp only[objs',wk];cases aq:fz uo p with
  |some gL=>exact⟨gL,rfl⟩
  |none=>
   simp only;split;.exact⟨_,rfl⟩
   exact⟨op,aU⟩
 have EJ:∀p op,objs' p=some op->op.owns=true->(∃k dV,φ k=p/\op=uj φ dV/\fz (s.pn fu) k=some dV/\lh p=cS k/\dV.owns=true)\/(σ.objs p=some op/\¬passed p/\lh p=ρ p):=by
  intro p op aU eF;simp only[objs',wk]at aU;cases aq:fz uo p with
  |some gL=>rw[aq]at aU;cases aU;obtain⟨k,dV,ab,af,aw,a4⟩:=EI p op aq;refine .inl ⟨k,dV,af,aw,a4,?_,by rw[aw,ai8]at eF;exact eF⟩;rw[<-af];exact Qr k ab
  |none=>
   rw[aq]at aU;simp only at aU;split at aU;.cases aU;cases eF
   rename_i aM;refine .inr ⟨aU,?_,KN p ⟨op,aU⟩⟩;rintro⟨k,ak,rfl⟩;exact aM (xax.2 ⟨k,ak,rfl⟩)
 have aji:Den cI fr lh ⟨σ.aJ,objs'⟩ a w':=by
  refine⟨lP.mem,⟨λb hs aj=>lP.frame.pW b hs (KL b hs aj),⟨lP.frame.quiet.os,lP.frame.quiet.out,lP.frame.quiet.low,lP.frame.quiet.sa⟩⟩,?_,?_,?_,?_,?_,?_⟩;.intro b aj;have ab:=lP.apart b aj;cases bd:fr b with|none=>rfl|some hs=>rw[KL b hs bd]at ab;cases ab
  .rintro p ⟨op,aU⟩;simp only[objs',wk]at aU;cases aq:fz uo p with
   |some gL=>obtain⟨k,dV,ab,af,aw,a4⟩:=EI p gL aq;rw[<-af,Qr k ab];exact lP.one k ⟨dV,a4⟩
   |none=>
    rw[aq]at aU;simp only at aU;have hu:σ.used p:=by
     split at aU;.rename_i hm;obtain⟨k,ak,rfl⟩:=xax.1 hm;obtain⟨ok,ajj⟩:=KE (lo:=s.nN (an++bb)) (k:=k) (by rw[Qn];exact ak);obtain⟨o',ab,_⟩:=cz.ok k ok ajj;exact⟨o',ab⟩
     exact⟨op,aU⟩
    rw[KN p hu];exact h.one p hu
  .intro t;exact(h.aJ t).mono um Yb
  .intro p op aU;by_cases eF:op.owns=true
   .rcases EJ p op aU eF with⟨k,dV,ab,af,aw,a4,b7⟩|⟨ab,af,aw⟩;.rw[af,a4];exact ai7 Ya (lP.objs k dV aw)
    rw[aw];refine(h.objs p op ab).mono um Yb ?_;intro b tP kO;have a4:=KM b p op ab eF af kO;have b7:∃hs,w.heap[b]?=some hs:=⟨_,xan ((h.objs p op ab).tK tP kO)⟩;obtain⟨hs,b7⟩:=b7;rw[b7];exact lP.frame.pW b hs (by rw[a4,b7])
   cases op with|dead=>trivial|_=>exact absurd rfl eF
  .intro p op b aU eF aj;rcases EJ p op aU eF with⟨k,dV,ab,af,aw,a4,b7⟩|⟨ab,af,aw⟩
   .rw[a4]at aj;have cO:=lP.own k dV b aw b7 aj;refine⟨cO.1,?_⟩;cases bd:fr b with|none=>rfl|some hs=>rw[KL b hs bd]at cO;cases cO.2
   rw[aw]at aj;have a4:=h.own p op b ab eF aj;refine⟨?_,a4.2⟩;refine xbA λyc=>?_;have b7:=lP.apart b yc;rw[KM b p op ab eF af aj]at b7;have:=(h.objs p op ab).tK eF aj;rw[xan this]at b7;cases b7
  intro p oe op EK b cU aU yd eF EL aj;rcases EJ p op aU eF with⟨k,dV,ab,af,aw,a4,b7⟩|⟨ab,af,aw⟩
  .rw[a4]at aj;rcases EJ oe EK yd EL with⟨bq,EE,eW,hZ,iL,qa,ye⟩|⟨eW,hZ,iL⟩
   .rw[qa];exact lP.sep k bq dV EE b (by rintro rfl;exact cU (ab.symm.trans eW)) aw iL b7 ye aj
   rw[iL];intro gX;have cO:=(lP.own k dV b aw b7 aj).2;rw[KM b oe EK eW EL hZ gX]at cO;have:=(h.objs oe EK eW).tK EL gX;rw[xan this]at cO;cases cO
  rw[aw]at aj;rcases EJ oe EK yd EL with⟨bq,EE,eW,hZ,iL,qa,ye⟩|⟨eW,hZ,iL⟩
  .rw[qa];intro gX;have cO:=(lP.own bq EE b iL ye gX).2;rw[KM b p op ab eF af aj]at cO;have:=(h.objs p op ab).tK eF aj;rw[xan this]at cO;cases cO
  rw[iL];exact h.sep p oe op EK b cU ab eW eF EL aj
 have mT:b5 cI lh (q6 objs') (EG φ (s.KK fu)) v:=X1 Ya AU;have J6:∀p,10000<=p->eP (objs' p)->eP (σ.objs p):=by
  intro p aU hG;simp only[objs',wk]at hG;cases aq:fz uo p with
  |some gL=>
   obtain⟨k,dV,aW,a2,bc,cV⟩:=EI p gL aq;rcases Qs k aW with⟨af,aw,a4,b7⟩|⟨_,af⟩;.obtain⟨a7,cO⟩:=AI b7;obtain⟨o',gx,hV⟩:=cz.ok k _ cO;rw[cO]at b7;rw[<-a2,a4,gx];exact ajc hV b7
   rw[a2]at af;exact absurd af (Nat.not_lt.2 aU)
  |none=>
   rw[aq]at hG;simp only at hG;split at hG;.exact absurd hG D3
   exact hG
 refine⟨_,cI,lh,⟨ak,by rw[aI.vJ];exact J6⟩,um,aji.put mT iy,sq v,me v,?_⟩;intro p aU aj;rw[aI.vJ];obtain⟨cs,hG⟩:=AI aj;refine⟨?_,KN p ⟨_,hG⟩⟩;show eP (objs' p);simp only[objs',wk];by_cases Qt:p∈(s.ins.map (·.1)).map (gh ck)
 .obtain⟨k,EM,rfl⟩:=xax.1 Qt;obtain⟨q,bg,rfl⟩:=xax.1 EM;have ab:=ef q bg;by_cases a4:10000<=q.1
  .rw[xad a4]at ab;simp only[xam,xbt,xbq]at ab;obtain⟨_,oe,yd,b7,cO⟩:=ab;have wm:q.1∈s.outs.map (·.1):=xax.2 ⟨oe,yd,b7⟩;have ajk:φ q.1=gh ck q.1:=by rw[<-X9];simp only[q7,xad a4]
   obtain⟨gL,gx⟩:=Qm (φ:=φ) (lo:=s.pn fu) (k:=q.1) (by rw[Qo];exact wm);obtain⟨k,dV,aW,a2,bc,cV⟩:=EI _ gL gx;have dj:k=q.1:=X6 k q.1 aW wm a2;subst dj;have iA:eP (fz (s.pn fu) q.1):=X4 (ls:=fu) (n:=(pk fu s.res 0).2) de yd b7 cO;rw[cV]at iA;rw[<-ajk];have q8:fz uo (φ q.1)=some gL:=gx;rw[q8,bc];rcases iA with⟨ay3,iA⟩|⟨qb,ajl,iA⟩|⟨ajl,iA⟩
   .cases iA;exact tR
   .cases iA;exact so
   cases iA;exact vI
  rw[xac a4]at ab;simp only[xam,xaG]at ab;exact absurd ab.2 (Nat.not_lt.2 aU)
 cases aq:fz uo p with
 |some gL=>
  exfalso;obtain⟨k,dV,aW,a2,bc,cV⟩:=EI p gL aq;rcases Qs k aW with⟨af,aw,a4,b7⟩|⟨af,_⟩
  .exact Qt (xax.2 ⟨k,aw,by rw[<-a4,a2]⟩)
  rw[a2,hG]at af;cases af
 |none=>simp only;rw[xac Qt];exact aj
end
structure Bd where
 s:fS
 F:List D->Option (List D)
 base:Nat
 pj:List wc
abbrev wo:=Tmp->Option Bd
def kV(P:Program)(G:dn)(H:wo):Prop:=∀t e,H t=some e->e5 P G e.s e.F
def KO:aS->List Key
 | .row k=>[k]| .map k=>[k]|_=>[]
def KP:aS->List Key
 | .agg cs=>cs.flatMap KO| .fn _ as j7=>as.flatMap KO++j7.flatMap KO|x=>KO x
def KQ:aS->List Key
 | .ptr k _=>[k]|_=>[]
def Yc:aS->List Key
 | .agg cs=>cs.flatMap KQ| .fn _ as j7=>as.flatMap KQ++j7.flatMap KQ|x=>KQ x
def Yd(objs:cG)(k:Key):List aS:=match objs k with|some (.box cs)=>cs|_=>[]
section
variable{β:Type}
def Ye(T:cd)(G:dn)(C:lL)(σ:aI)(o:Oper)(x:Operand)(args:List Operand)(k:aI->Option β):Option β:=
 let tT:=(x::args).map (cf G σ.aJ)
 let eI:=tT.flatMap Yc
 let bR:=eI.flatMap (Yd σ.objs)
 let gW:=bR.flatMap Yc
 let bY:=gW.flatMap (Yd σ.objs)
 yb [tT.flatMap KP++bR.flatMap KP++bY.flatMap KP,gW,eI] σ λσ=>x2 T G C σ o x args k
def Yf(o:Oper):Tmp:=match o.op,o.dst with| .store _ (.tmp a) _,_=>20000+a| .mapUpdate _ (.tmp a) _ _,_=>30000+a|_,some d=>d|_,none=>9999
def ajm:Op->List Operand
 | .buildSlice _ _ jS=>jS.toList.map (·.2)| .build _ jS=>jS.toList.map (·.2)| .box _ x=>[x]| .store _ _ x=>[x]| .mapUpdate _ _ _ x=>[x]| .call ⟨.builtin .append,args,_⟩=>args.toList.drop 1|_=>[]
def Be:D->Option (TypeId×D)
 | .dZ t x=>some (t,x)|_=>none
def gy{dY:Type}(t c:Nat)(a b:Option dY):Option dY:=if t=c then a else b
def KR(qJ:TypeId->Option FuncId)(t:TypeId)(k:FuncId->Option D):List TypeId->Option D
 |[]=>none|c::r=>gy t c (match qJ c with|some f=>k f|none=>none) (KR qJ t k r)
def Qu(T:cd)(G:dn)(C:lL)(σ:aI)(o:Oper)(x:Operand)(name:String)(args:List Operand)(k:aI->Option β):Option β:=match cf G σ.aJ x with
 | .d a=>match hv ((args.map (cf G σ.aJ)).map (toD σ.objs))with|some aO=>aa (Be a) λp=>aa (KR (λt=>T.qJ t name) p.1 (λf=>C (o.dst.getD 9999) f (p.2::aO)) T.OA) λr=>aD ((args.map (cf G σ.aJ)).all sr) (k (σ.put o.dst (.d r)))|none=>none
 |_=>none
def Qv(T:cd)(G:dn)(C:lL)(H:wo)(kb:Tmp->Bool)(σ:aI)(o:Oper)(k:aI->Option β):Option β:=match o.op with
 | .call ⟨.value x,args,_⟩=>match H (o.dst.getD 9999)with
  |some e=>ox e.pj σ λσ=>Ql G e.s e.F e.base σ o x args.toList λaV=>match kb (o.dst.getD 9999)with|true=>EF (o.dst.getD 9999) aV k|false=>k aV
  |none=>match kb (o.dst.getD 9999)with|true=>Ye T G C σ o x args.toList k|false=>x2 T G C σ o x args.toList k
 | .call ⟨.invoke x name,args,_⟩=>Qu T G C σ o x name args.toList k| .slice _ _ _ _ _=>match kb (Yf o)with|true=>ug T G σ o λaV=>EF (o.dst.getD 9999) aV k|false=>ug T G σ o k
 |_=>match kb (Yf o)with|true=>yb [((ajm o.op).map (cf G σ.aJ)).flatMap KP] σ λσ=>ug T G σ o k|false=>ug T G σ o k
def Qw(T:cd)(G:dn)(C:lL)(H:wo)(kb:Tmp->Bool):List Oper->aI->(aI->Option β)->Option β
 |[],σ,k=>k σ|o::r,σ,k=>Qv T G C H kb σ o λaV=>Qw T G C H kb r aV k
def Qx(o:Oper):Bool:=still o||p2 o.op
def yf(T:cd)(G:dn)(C:lL)(H:wo)(kb:Tmp->Bool)(all:Array Oper):List (Option (Nat×Bool)×List Oper)->aI->(aI->Option β)->Option β
 |[],σ,k=>k σ|(none,os)::r,σ,k=>Qw T G C H kb os σ λaV=>yf T G C H kb all r aV k
 |(some (j,want),os)::r,σ,k=>match(all[j]?).bind (·.dst),v9 os with
  |some d,some ca=>match σ.aJ d with
   | .d x=>if os.all (λo=>Qx o&&o.dst !=some d)=true then
     (if(kept all os (flat r)).all (·==ca)=true then
      aa (bM x want (sD T G C os σ λaV=>match aV.aJ ca with| .d v=>some v|_=>none)) λv=>yf T G C H kb all r ((lM (dstsOf os) σ).put (some ca) (.d v)) k
     else aa (bM x want (sD T G C os σ λaV=>match Eu aV (kept all os (flat r))with|some l=>some (.agg l)|none=>none)) λv=>yf T G C H kb all r (wa (kept all os (flat r)) v (lM (dstsOf os) σ)) k)else none
   |_=>none
  |_,_=>none
def Yg(T:cd)(G:dn)(C:lL)(H:wo)(kb:Tmp->Bool)(all:Array Oper)(σ:aI)(k:aI->Option β):Option β:=yf T G C H kb all (v7 all.toList) σ k
end
def Bf{objs:cG}{k d:Key}{o:cR}(h:eP (some o)->eP (objs k)\/k=d):∀j,eP (cr objs k (some o) j)->eP (objs j)\/j=d:=by
 intro j aN;by_cases gv:j=k;.subst gv;rw[e4]at aN;exact h aN
 rw[cX _ _ gv]at aN;exact .inl aN
def ajn{T:cd}{ev:Operand->aS}{objs:cG}{d:Key}{o:Op}{r:aS}{cA:List (Key×cR)}(h:eo T ev objs d o=some (r,cA)):∀j,eP (dD objs cA j)->eP (objs j)\/j=d:=by
 have new:∀{o:cR},∀j,eP (dD objs [(d,o)] j)->eP (objs j)\/j=d:=by intro o;exact Bf (λ_=> .inr rfl)
 have row:∀{k:Key}{n fU:Nat}{es g9:List (List D)},objs k=some (.row fU g9)->∀j,eP (dD objs [(k,.row n es)] j)->eP (objs j)\/j=d:=by intro k n fU es g9 ak;exact Bf (λ_=> .inl (by rw[ak];exact so))
 have mp:∀{k:Key}{es g9:List (Value×D)},objs k=some (.map g9)->∀j,eP (dD objs [(k,.map es)] j)->eP (objs j)\/j=d:=by intro k es g9 ak;exact Bf (λ_=> .inl (by rw[ak];exact vI))
 cases o<;>simp only[eo,reduceCtorEq]at h
 case alloc=>split at h<;>cases h;exact new
 case box=>split at h<;>cases h;exact new
 case buildSlice=>
  split at h
  case h_2=>cases h
  split at h
  case h_2=>cases h
  split at h
  case h_2=>cases h
  split at h<;>cases h;exact new
 case makeSlice=>
  split at h
  case h_2=>cases h
  split at h
  case h_2=>cases h
  split at h
  case h_2=>cases h
  split at h<;>cases h;exact new
 case makeMap=>split at h<;>cases h;exact new
 case store=>
  split at h
  case h_2=>cases h
  split at h
  case isFalse=>cases h
  split at h
  .split at h
   case h_2=>cases h
   split at h<;>cases h;rename_i ak _;exact Bf λ_=> .inl (by rw[ak];exact tR)
  .split at h
   case h_2=>cases h
   split at h
   case isFalse=>cases h
   split at h<;>cases h;exact row (by assumption)
  cases h
 case mapUpdate=>
  split at h
  case h_2=>cases h
  split at h
  case h_2=>cases h
  split at h
  case isFalse=>cases h
  split at h
  case h_2=>cases h
  split at h
  case h_2=>cases h
  split at h<;>cases h;exact mp (by assumption)
 case insert=>
  split at h
  case h_2=>cases h
  split at h
  case h_2=>cases h
  split at h
  case isFalse=>cases h
  split at h
  case h_2=>cases h
  split at h
  case h_2=>cases h
  split at h<;>cases h;exact mp (by assumption)
 case call=>
  split at h
  .split at h
   case h_2=>cases h
   split at h
   case h_2=>cases h
   split at h
   case h_2=>cases h
   split at h
   case h_2=>cases h
   split at h
   case isFalse=>cases h
   split at h;.split at h<;>cases h;exact new
   .split at h
    case h_2=>cases h
    split at h<;>cases h;intro j aN;rcases Bf (d:=d) (λ_=> .inr rfl) j aN with ab|ab
    .exact Bf (λh=>absurd h D3) j ab
    exact .inr ab
   cases h
  .split at h
   case h_2=>cases h
   split at h
   case h_2=>cases h
   split at h
   case h_2=>cases h
   split at h
   case h_2=>cases h
   split at h
   case isFalse=>cases h
   split at h
   .split at h
    case h_2=>cases h
    split at h<;>cases h;exact row (by assumption)
   .split at h
    case h_2=>cases h
    split at h<;>cases h;exact row (by assumption)
   cases h
  .split at h
   case h_2=>cases h
   split at h
   case h_2=>cases h
   split at h
   case h_2=>cases h
   split at h
   case h_2=>cases h
   split at h
   case h_2=>cases h
   split at h<;>cases h;exact row (by assumption)
  cases h
def ajo{T:cd}{ev:Operand->aS}{objs:cG}{d:Key}{o:Op}{r:aS}{cA:List (Key×cR)}(h:hb T ev objs d o=some (r,cA)):∀j,eP (dD objs cA j)->eP (objs j)\/j=d:=by
 obtain⟨⟨jA,sm⟩,au,aj⟩:=vG h;have ab:=ajn au;intro j aN;by_cases aB:j=d
 .exact .inr aB
 rcases xJ (T.born d) d jA sm with e|⟨n,es,rfl,rfl,e⟩|⟨dm,n,es,rfl,rfl,e⟩|⟨off,cs,aO,rfl,rfl,eO,e⟩;.rw[aj]at e;cases e;exact ab j aN
 .rw[aj]at e;cases e;exact ab j (by simp only[dD,cX _ _ aB]at aN⊢;exact aN)
 .rw[aj]at e;cases e;exact ab j (by simp only[dD,cX _ _ aB]at aN⊢;exact aN)
 rw[aj]at e;cases e;exact ab j (by simp only[dD,cX _ _ aB]at aN⊢;exact aN)
section
variable{P:Program}{T:cd}{G:dn}{N:Nat}{σ:aI}{all:Array Oper}{ib:List Key}
def fR.put(h:fR ib σ){dst:Option Tmp}{r:aS}:fR ib (σ.put dst r):=by intro k ak aj;rw[aI.vJ]at aj;exact h k ak aj
def Qy(bT:fR ib σ){o:Oper}(aB:∀d,o.dst=some d->d<10000){aV:aI}(h:gY T G σ o=some aV):fR ib aV:=by
 unfold gY at h;split at h;.cases h;exact bT.put
 split at h;.cases h;exact bT.put
 split at h
 case h_2=>cases h
 rename_i r cA he;cases h;refine fR.put ?_;intro k ak aj;rcases ajo he k aj with ab|ab
 .exact bT k ak ab
 exfalso;have:o.dst.getD 9999<10000:=by cases aF:o.dst with|none=>simp|some d=>exact aB d aF
 exact absurd this (Nat.not_lt.2 (ab▸ak))
def Yh(bT:fR ib σ){o:Oper}(aB:∀d,o.dst=some d->d<10000){K:aI->Prop}(h:db P T G o K σ):db P T G o (λaV=>fR ib aV/\K aV) σ:=by
 unfold db at*;split;.rename_i aV aG;simp only[aG]at h;exact⟨Qy bT aB aG,h⟩
 rename_i aG;simp only[aG]at h;unfold jB at*;split at h
 case h_2=>cases h
 split at h
 case h_2=>cases h
 obtain⟨ng,aO,R,ab,af,aw,a4,b7,cO⟩:=h;exact⟨ng,aO,R,ab,af,aw,a4,b7,λr av=>⟨bT.put,cO r av⟩⟩
def Qz:∀{l:List Oper}{σ:aI}{K:aI->Prop},fR ib σ->(∀o∈l,∀d,o.dst=some d->d<10000)->fV P T G all l K σ->fV P T G all l (λaV=>fR ib aV/\K aV) σ
 |[],σ,K,bT,_,h=>⟨bT,h⟩|o::l,σ,K,bT,aB,h=>by unfold fV at*;rw[hH]at*;cases hw:jT all σ o with|none=>rw[hw]at h;exact h|some w=>rw[hw]at h;cases w with|true=>exact p4 (λaV ⟨ab,af⟩=>Qz ab (λo aF=>aB o (by simp[aF])) af) (Yh bT (aB o (by simp)) h)|false=>exact Qz bT.put (λo aF=>aB o (by simp[aF])) h
end
section
variable{P:Program}{T:cd}{G:dn}{C:lL}{H:wo}{kb:Tmp->Bool}{N:Nat}{σ:aI}{all:Array Oper}{ib:List Key}
def oz(P:Program)(G:dn)(N:Nat)(all:Array Oper)(i:Nat)(l:List Oper)(K:aI->Prop)(σ:aI):Prop:= ∀m fr ρ a w (Q:Exit->Act->World->Prop),kp G m->Den m fr ρ σ a w->N<=a.tmps.size->a.defers=[]->(∀cB w',iV N m fr ρ σ K cB w'->Q .normal cB w')->wpOps P all Q (List.range' i l.length) a w
def jh(P:Program)(G:dn)(N:Nat)(o:Oper)(K:aI->Prop)(σ:aI):Prop:= ∀m fr ρ a w (Q:Exit->Act->World->Prop),kp G m->Den m fr ρ σ a w->N<=a.tmps.size->a.defers=[]->o.wp P a w (iV N m fr ρ σ K) Q
def ajp{i:Nat}{K:aI->Prop}(h:K σ):oz P G N all i [] K σ:=λm fr ρ a w Q c2 cZ cj aB hk=>hk a w ⟨σ,m,ρ,h,Mem.le_refl m,cZ,cj,aB,kQ.refl _ _⟩
def ajq{i:Nat}{o:Oper}{l:List Oper}{K:aI->Prop}(ah:all[i]?=some o)(cb:o.guard=none)(h:jh P G N o (oz P G N all (i+1) l K) σ):oz P G N all i (o::l) K σ:=by
 intro m fr ρ a w Q c2 cZ cj aB hk;rw[xap,List.range'_succ,wpOps_cons];refine wpOp_mono (K:=iV N m fr ρ σ (oz P G N all (i+1) l K)) ?_ ?_;.rintro cB w' ⟨aV,cI,cS,bw,bz,cz,eA,fq,hc⟩;exact bw cI fr cS cB w' Q (c2.mono bz) cz eA fq λo8 kR av=>hk o8 kR (av.trans bz hc)
 unfold wpOp;simp only[ah];have:Region.wanted o (yielded all a.tmps)=true:=by simp[Region.wanted,cb]
 rw[xad this];exact .inl (h m fr ρ a w Q c2 cZ cj aB)
def jh.mono{o:Oper}{K K':aI->Prop}(ak:∀σ,K σ->K' σ)(h:jh P G N o K σ):jh P G N o K' σ:=λm fr ρ a w Q c2 cZ cj aB=>by
  have:=h m fr ρ a w Q c2 cZ cj aB;unfold Oper.wp at*;generalize (execOp a.eval o).run P w=r at*;cases r with
  |ok n w'=>
   cases n<;>simp only[Oper.upon]at this⊢<;>first|exact this.mono ak|exact this|skip
   .refine this.mono λe kR he=>?_;cases e with|returned v=>exact he.mono ak|panicked c=>exact he|outgrown=>exact he
   exact this.mono λv kR he=>he.mono ak
  |halt x w'=>cases x<;>exact this
def jh.Ev{o:Oper}{K:aI->Prop}{τ:aI}(he:g0 σ τ)(h:jh P G N o K τ):jh P G N o K σ:=by
 intro m fr ρ a w Q c2 cZ cj aB;obtain⟨cI,cS,ab,af,aw⟩:=he m fr ρ a w cZ;have:=h cI fr cS a w Q (c2.mono ab) af cj aB;unfold Oper.wp at*;generalize (execOp a.eval o).run P w=r at*;cases r with
 |ok n w'=>
  cases n<;>simp only[Oper.upon]at this⊢<;>first|exact this.trans ab aw|exact this|skip
  .refine this.mono λe kR he=>?_;cases e with|returned v=>exact he.trans ab aw|panicked c=>exact he|outgrown=>exact he
  exact this.mono λv kR he=>he.trans ab aw
 |halt x w'=>cases x<;>exact this
def QA(bf:dQ P T){o:Oper}(gZ:∀d,o.dst=some d->d<N){K:aI->Prop}(h:db P T G o K σ):jh P G N o K σ:=λm fr ρ a w Q c2 cZ cj aB=>Ph bf c2 cZ cj aB gZ h
def ajr{ks:List Key}(h:fR ib σ):fR ib (freeze ks σ):=by
 intro k ak aj;have gX:eP (if k∈ks then some .dead else(σ.objs k).map (ED σ.objs ks)):=aj;split at gX
 .exact absurd gX D3
 cases aF:σ.objs k with|none=>rw[aF]at gX;exact absurd gX tS|some dV=>rw[aF]at gX;cases dV with|box cs=>exact h k ak (by rw[aF];exact tR)|dead=>exact absurd gX D3|row=>exact h k ak (by rw[aF];exact so)|map=>exact h k ak (by rw[aF];exact vI)
def EN{β:Type}:∀{l:List (List Key)} {σ:aI} {k:aI->Option β} {b:β},fR ib σ->yb l σ k=some b->∃τ,g0 σ τ/\fR ib τ/\k τ=some b
 |[],σ,k,b,bT,h=>⟨σ,g0.refl σ,bT,h⟩
 |ks::r,σ,k,b,bT,h=>by
  unfold yb at h;split at h;.exact EN bT h
  split at h
  case isFalse=>cases h
  rename_i eJ;obtain⟨τ,ab,af,aw⟩:=EN (ajr bT) h;exact⟨τ,(ai3 _ eJ).trans ab,af,aw⟩
def Yi{β:Type}{t:Tmp}{σ:aI}{k:aI->Option β}{b:β}(bT:fR ib σ)(h:EF t σ k=some b):∃τ,g0 σ τ/\fR ib τ/\k τ=some b:=by
 unfold EF at h;split at h
 case h_2=>cases h
 rename_i key cQ i len aK;split at h
 case h_2=>cases h
 rename_i bq es ak au;split at h
 case isFalse=>cases h
 rename_i dj;obtain⟨dj,p9,ou⟩:=dj;subst dj;obtain⟨ab,af⟩:=ll h;refine⟨_,ai4 aK ak au (xba ab) p9,?_,af⟩;intro j aN ao;simp only at ao;by_cases aw:j=t;.subst aw;exact absurd ou (Nat.not_lt.2 aN)
 rw[cX _ _ aw]at ao;by_cases a4:j=key;.subst a4;exact absurd p9 (Nat.not_lt.2 aN)
 rw[cX _ _ a4]at ao;exact bT j aN ao
def jh.out{o:Oper}{K:aI->Prop}(h:jh P G N o (λaV=>∃τ,g0 aV τ/\K τ) σ):jh P G N o K σ:=λm fr ρ a w Q c2 cZ cj aB=>by
  have key:∀{cB w'},iV N m fr ρ σ (λaV=>∃τ,g0 aV τ/\K τ) cB w'->iV N m fr ρ σ K cB w':=by rintro cB w' ⟨aV,cI,cS,⟨τ,aW,a2⟩,af,aw,a4,b7,cO⟩;obtain⟨xR,xS,aL,aX,bL⟩:=aW cI fr cS cB w' aw;exact⟨τ,xR,xS,a2,Mem.le_trans af aL,aX,a4,b7,cO.trans bL⟩
  have:=h m fr ρ a w Q c2 cZ cj aB;unfold Oper.wp at*;generalize (execOp a.eval o).run P w=r at*;cases r with
  |ok n w'=>
   cases n<;>simp only[Oper.upon]at this⊢<;>first|exact key this|exact this|skip
   .refine this.mono λe kR he=>?_;cases e with|returned v=>exact key he|panicked c=>exact he|outgrown=>exact he
   exact this.mono λv kR he=>key he
  |halt x w'=>cases x<;>exact this
def Yj{β:Type}(bf:dQ P T)(b8:hn P G C){o:Oper}(gZ:∀d,o.dst=some d->d<N){x:Operand}{args:Array Operand}{dF:Array TypeId}(aF:o.op= .call ⟨.value x,args,dF⟩){k:aI->Option β}{b:β}(bT:fR ib σ) (h:x2 T G C σ o x args.toList k=some b):jh P G N o (λaV=>k aV=some b/\fR ib aV) σ:=by refine QA bf gZ (p4 ?_ (Ky (T:=T) b8 aF h));rintro aV ⟨ab,af,_⟩;refine⟨ab,λj aN aj=>bT j aN (by rw[<-af];exact aj)⟩
def Yk{qJ:TypeId->Option FuncId}{t:TypeId}{k:FuncId->Option D}{r:D}:∀{l:List TypeId},KR qJ t k l=some r->∃f,qJ t=some f/\k f=some r
 |[],h=>by cases h
 |c::l,h=>by
  unfold KR gy at h;split at h
  .rename_i ao;subst ao;split at h;.rename_i f bd;exact⟨f,bd,h⟩
   cases h
  exact Yk h
def ajs{P:Program}{t:TypeId}{name:String}{f:FuncId}(hm:Jl P t name f)(n:Nat)(v:Value)(w:World):(method (n+1) t v name).run P w= .ok (f,v) w:=by
 obtain⟨info,m,d,ab,af,aw,a4,b7,cO⟩:=hm;have aL:(typeInfo t).run P w= .ok info w:=by simp[typeInfo,ab]
 unfold method;simp only[xag,aL,xaf,af,aw,follow,xaw,a4,receiverAt,xaq b7];cases d<;>first|(simp only[Place.get,xaw,xaf];done)|(exact absurd rfl (cO _))
def ajt{P:Program}{va:Operand->Value}{x:Operand}{name:String}{args:Array Operand}{dF:Array TypeId}{ty:TypeId}{t:TypeId}{v:Value}{f:FuncId}{w:World}(ag:va x= .iface t v)(hm:Jl P t name f)(bd:vH P f):(do let d<-resolve va {callee:= .invoke x name,args:=args,argTypes:=dF} ty;invoke d.target d.args:Sem Next).run P w= .ok (.enter f (#[v]++args.map va)) w:=by
 obtain⟨fn,ab,af,aw⟩:=bd;have jv:0<Made.depth:=by decide
 have aB:∃n,P.types.size+Made.depth=n+1:=⟨P.types.size+Made.depth-1,by omega⟩;obtain⟨n,aM⟩:=aB;have bF:(#[Value.iface t v]++args.map va)[0]?=some (Value.iface t v):=by rw[xbI (by simp)];rfl
 have aL:(#[Value.iface t v]++args.map va).extract 1 (#[Value.iface t v]++args.map va).size=args.map va:=by apply xbC;simp[List.extract,xbJ]
 have aX:(program:Sem Program).run P w= .ok P w:=rfl;have um:=ajs hm n v w;have QB:(callFunc f (#[v]++args.map va)).run P w= .ok (.enter f (#[v]++args.map va)) w:=by simp only[callFunc,xag,aX,xaf,ab,af,aw,xat,xaF,xaw]
 simp only[xag,resolve,ag,xaw,xaf,invoke,bF,aL,callMethod,aX,aM,um,QB]
def aju{β:Type}(bf:dQ P T)(b8:hn P G C){o:Oper}(gZ:∀d,o.dst=some d->d<N){x:Operand}{name:String}{args:Array Operand}{dF:Array TypeId}(aF:o.op= .call ⟨.invoke x name,args,dF⟩){k:aI->Option β}{b:β}(bT:fR ib σ) (h:Qu T G C σ o x name args.toList k=some b):jh P G N o (λaV=>k aV=some b/\fR ib aV) σ:=by
 unfold Qu at h;split at h
 case h_2=>cases h
 rename_i d aB;split at h
 case h_2=>cases h
 rename_i aO eO;obtain⟨p,aU,h⟩:=ft h;obtain⟨r,av,h⟩:=ft h;obtain⟨b7,cO⟩:=ll h;obtain⟨f,bd,QB⟩:=Yk av;have Yl:=b8 _ _ _ _ QB;have su:=bf.Jm _ _ _ bd;obtain⟨t,y⟩:=p;have ajv:d= .dZ t y:=by
  unfold Be at aU;split at aU;.cases aU;rfl
  cases aU
 subst ajv;intro m fr ρ a w Q c2 QC cj hx;have dx:=DJ (a:=a) c2 QC.aJ;have iy:∀d,o.dst=some d->d<a.tmps.size:=λd aB=>Nat.lt_of_lt_of_le (gZ d aB) cj;have sq:∀v,N<=(a.put o.dst v).tmps.size:=by intro v;cases o.dst<;>simpa[Act.put]using cj
 have me:∀v,(a.put o.dst v).defers=[]:=by intro v;cases o.dst<;>exact hx
 have ag:=dx x;rw[aB]at ag;have ag:=ag.ob;obtain⟨v,O0,ajw⟩:∃v,a.eval x= .iface t v/\dv m y v:=by generalize a.eval x=u at ag;cases ag with|dZ _ _ v h=>exact⟨v,rfl,h⟩
 have Pf:(execOp a.eval o).run P w= .ok (.enter f (#[v]++args.map a.eval)) w:=by unfold execOp;rw[aF];exact ajt O0 su Yl.fn
 unfold Oper.wp;rw[Pf];have Pg:xK m (y::aO) (#[v]++args.map a.eval).toList:=by obtain⟨aW,a2⟩:=qT eO;refine⟨by simp[aW],?_⟩;intro i d kq aB a6;simp only[Array.toList_append,xcf,xaH,Array.toList_map]at a6;cases i with|zero=>simp at aB a6;subst aB;subst a6;exact ajw|succ i=>simp only[xcb]at aB a6;have bc:=a2 i d aB;simp only[xaj,xah]at bc a6;obtain⟨z,⟨q,bg,rfl⟩,ajx⟩:=bc;obtain⟨ay4,sG,rfl⟩:=a6;rw[bg]at sG;cases sG;exact Pd (xaz.1 b7 _ (xax.2 ⟨q,xaa bg,rfl⟩)) ajx (dx q)
 have ss:=Yl.run m _ w _ c2 QC.Wj Pg;simp only[Array.toArray_toList]at ss;refine ss.mono λe w' he=>?_;obtain⟨kq,cI,sf,rfl,bw,bz,cz,eA⟩:=he;subst bw;have ajy:=QC.kept bz cz;exact⟨_,cI,ρ,⟨cO,λj aN aj=>bT j aN (by simpa using aj)⟩,bz,ajy.put (.d _ _ eA) iy,sq kq,me kq,λk ak aj=>⟨by simpa using aj,rfl⟩⟩
def ajz{β:Type}(bf:dQ P T)(b8:hn P G C)(gj:kV P G H)(cj:N<10000){o:Oper}(gZ:∀d,o.dst=some d->d<N){k:aI->Option β}{b:β}(bT:fR ib σ)(h:Qv T G C H kb σ o k=some b):jh P G N o (λaV=>k aV=some b/\fR ib aV) σ:=by
 unfold Qv at h;split at h
 .rename_i x args dF aF;split at h
  .rename_i e he;obtain⟨τ,t1,QD,h⟩:=sF bT h;refine jh.Ev t1 ?_;generalize fQ:(λaV=>match kb (o.dst.getD 9999)with|true=>EF (o.dst.getD 9999) aV k|false=>k aV)=bq at h;have main:jh P G N o (λaV=>bq aV=some b/\fR ib aV) τ:=by refine jh.mono (K:=λaV=>bq aV=some b/\∀p,10000<=p->eP (aV.objs p)->eP (τ.objs p)) (λaV ⟨ab,af⟩=>⟨ab,λp aU aj=>QD p aU (af p aU aj)⟩) ?_;intro m fr ρ a w Q c2 cZ nI aB;exact ajd c2 cZ nI aB gZ (gj _ _ he) aF h (Q:=Q)
   refine jh.out (jh.mono ?_ main);rintro aV ⟨ab,af⟩;subst fQ;simp only at ab;split at ab;.obtain⟨ajA,aW,a2,bc⟩:=Yi af ab;exact⟨ajA,aW,bc,a2⟩
   exact⟨aV,g0.refl aV,ab,af⟩
  split at h;.unfold Ye at h;simp only at h;obtain⟨τ,ab,af,aw⟩:=EN bT h;exact jh.Ev ab (Yj bf b8 gZ aF af aw)
  exact Yj bf b8 gZ aF bT h
 .rename_i x name args dF aF;exact aju bf b8 gZ aF bT h
 .have step:∀{τ:aI}{k:aI->Option β},fR ib τ->ug T G τ o k=some b->jh P G N o (λaV=>k aV=some b/\fR ib aV) τ:=by
   intro τ k bT h;obtain⟨aV,ab,af⟩:=A2 h;refine QA bf gZ ?_;unfold db;rw[ab];exact⟨af,Qy bT (λd aB=>Nat.lt_trans (gZ d aB) cj) ab⟩
  split at h;.refine jh.out (jh.mono ?_ (step bT h));rintro aV ⟨ab,af⟩;obtain⟨τ,aW,a2,bc⟩:=Yi af ab;exact⟨τ,aW,bc,a2⟩
  exact step bT h
 have step:∀{τ:aI},fR ib τ->ug T G τ o k=some b->jh P G N o (λaV=>k aV=some b/\fR ib aV) τ:=by intro τ bT h;obtain⟨aV,ab,af⟩:=A2 h;refine QA bf gZ ?_;unfold db;rw[ab];exact⟨af,Qy bT (λd aB=>Nat.lt_trans (gZ d aB) cj) ab⟩
 split at h;.obtain⟨τ,ab,af,aw⟩:=EN bT h;exact jh.Ev ab (step af aw)
 exact step bT h
def Ym{β:Type}(bf:dQ P T)(b8:hn P G C)(gj:kV P G H)(cj:N<10000){K:aI->Prop}:∀{os:List Oper}{r:List Oper}{i:Nat}{σ:aI}{k:aI->Option β}{b:β},(∀o∈os,o.guard=none)->(∀o∈os,∀d,o.dst=some d->d<N)->(∀j,(os++r)[j]?=all[i+j]?)->fR ib σ->(∀aV,fR ib aV->k aV=some b->oz P G N all (i+os.length) r K aV)->Qw T G C H kb os σ k=some b->oz P G N all i (os++r) K σ
 |[],r,i,σ,k,b,_,_,_,bT,ak,h=>ak σ bT h
 |o::os,r,i,σ,k,b,cb,aB,gu,bT,ak,h=>by
  have ah:all[i]?=some o:=by simpa using(gu 0).symm
  refine ajq ah (cb o (by simp)) (jh.mono ?_ (ajz bf b8 gj cj (aB o (by simp)) bT h));rintro aV ⟨ab,af⟩;refine Ym bf b8 gj cj (λo aF=>cb o (by simp[aF])) (λo aF=>aB o (by simp[aF])) (λj=>by have:=gu (j+1);simpa[xbf,Nat.add_comm 1 j]using this) af ?_ ab;intro qY aw a4;have:=ak qY aw a4;rw[show i+(o::os).length=i+1+os.length by simp;omega]at this;exact this
def b5.shrink{m jW:Mem}{ρ QE:dh}{U p5:Key->Prop}{x:aS}{v:Value}(h:b5 m ρ U x v):∀{v0:Value},b5 jW QE p5 x v0->b5 m ρ p5 x v:=by
 induction h with
 |any v=>intro v0 _;exact .any _
 |d x v h=>intro v0 _;exact .d _ _ h
 |agg cs vs aq h ih=>
  intro v0 au;cases au with|agg _ yg kW EO=>
  refine .agg _ _ aq λi c v ao a6=>?_;have ah:i<yg.size:=by rw[kW];exact(xae.1 ao).1
  exact ih i c v ao a6 (EO i c _ ao (xan ah))
 |a1 cs vs aq h ih=>
  intro v0 au;cases au with|a1 _ yg kW EO=>
  refine .a1 _ _ aq λi c v ao a6=>?_;have ah:i<yg.size:=by rw[kW];exact(xae.1 ao).1
  exact ih i c v ao a6 (EO i c _ ao (xan ah))
 |et cs off b o vs T eE aj xs ab af=>intro v0 _;exact .et _ _ b o vs T eE aj xs ab af
 |ptr key off b hu h=>intro v0 au;cases au with|ptr _ _ _ ma _=>exact .ptr _ _ b ma h
 |gd key k i off b o len cap hu h=>intro v0 au;cases au with|gd _ _ _ _ _ _ _ _ ma _=>exact .gd _ _ _ _ b o len cap ma h
 |row key hu=>intro v0 au;cases au with|row _ ma=>exact .row _ ma
 |sub key k i len b o L cap a hu h hle aE=>intro v0 au;cases au with|sub _ _ _ _ _ _ _ _ _ ma=>exact .sub _ _ _ _ b o L cap a ma h hle aE|ko _ _ _ ma=>exact .sub _ _ _ _ b o L cap a ma h hle aE
 |ko key k i hu h=>intro v0 au;cases au with|sub _ _ _ _ _ _ _ _ _ ma=>exact .ko _ _ _ ma h|ko _ _ _ ma=>exact .ko _ _ _ ma h
 |map key hu=>intro v0 au;cases au with|map _ ma=>exact .map _ ma
 |fn f first captured vs ws aq du h bx ih xv=>
  intro v0 au;cases au with|fn _ _ _ yg ajB kW ajC EO ajD=>
  refine .fn _ _ _ _ _ aq du (λi c v ao a6=>?_) (λi c v ao a6=>?_)
  .have ah:i<yg.size:=by rw[kW];exact(xae.1 ao).1
   exact ih i c v ao a6 (EO i c _ ao (xan ah))
  .have ah:i<ajB.size:=by rw[ajC];exact(xae.1 ao).1
   exact xv i c v ao a6 (ajD i c _ ao (xan ah))
def jt.shrink{m jW:Mem}{ρ QE:dh}{U p5:Key->Prop}{o:cR}{v v0:Value}{w w0:World}(h:jt m ρ U v w o)(au:jt jW QE p5 v0 w0 o):jt m ρ p5 v w o:=by
 cases o with
 |dead=>trivial
 |box cs=>
  obtain⟨b,vs,T,aL,aX,bL,cL⟩:=h;obtain⟨fI,yg,fK,f1,f2,f3,f4⟩:=au;refine⟨b,vs,T,aL,aX,bL,λi c x ao ag=>?_⟩;have ah:i<yg.size:=by rw[f3];exact(xae.1 ao).1
  exact(cL i c x ao ag).shrink (f4 i c _ ao (xan ah))
 |row=>exact h|map=>exact h
def ajE{m cI:Mem}{fr:fJ}{ρ cS:dh}{σ aV:aI}{a cB:Act}{w w':World}{aO:List Tmp}(h:Den m fr ρ σ a w)(bx:Den cI fr cS aV cB w')(o6:cG.ext σ.objs aV.objs)(aG:∀t,t∉aO->aV.aJ t=σ.aJ t){ca:Tmp}{v:D}(a6:aV.aJ ca= .d v)(x6:ca∈aO):Den cI fr cS ((lM aO σ).put (some ca) (.d v)) cB w':=by
 have iw:((lM aO σ).put (some ca) (.d v)).objs=σ.objs:=by simp[lM]
 refine⟨bx.mem,bx.frame,bx.apart,?_,?_,?_,?_,?_⟩;.rintro k ⟨o,aF⟩;rw[iw]at aF;exact bx.one k ⟨o,o6 k o aF⟩
 .intro t;by_cases ou:t=ca;.subst ou;simp only[aI.put,e4];have:=bx.aJ t;rw[a6]at this;exact .d _ _ this.ob
  simp only[aI.put,cX _ _ ou,lM];split;.exact .any _
  rename_i aM;have ab:=bx.aJ t;rw[aG t aM]at ab;exact ab.shrink (h.aJ t)
 .intro k o ak;rw[iw]at ak;exact(bx.objs k o (o6 k o ak)).shrink (h.objs k o ak)
 .intro k o b ak aF aj;rw[iw]at ak;exact bx.own k o b (o6 k o ak) aF aj
 intro k bq o o' b cU ak fQ aF om aj;rw[iw]at ak fQ;exact bx.sep k bq o o' b cU (o6 k o ak) (o6 bq o' fQ) aF om aj
def ajF{m cI:Mem}{fr:fJ}{ρ cS:dh}{σ aV:aI}{a cB:Act}{w w':World}{aO:List Tmp}(h:Den m fr ρ σ a w)(bx:Den cI fr cS aV cB w')(o6:cG.ext σ.objs aV.objs)(aG:∀t,t∉aO->aV.aJ t=σ.aJ t){ts:List Tmp}{v:D}(a6:∀t∈ts,aV.aJ t= .d (ad v (ts.idxOf t))):Den cI fr cS (wa ts v (lM aO σ)) cB w':=by
 have iw:(wa ts v (lM aO σ)).objs=σ.objs:=rfl;refine⟨bx.mem,bx.frame,bx.apart,?_,?_,?_,?_,?_⟩;.rintro k ⟨o,aF⟩;rw[iw]at aF;exact bx.one k ⟨o,o6 k o aF⟩
 .intro t;by_cases ou:t∈ts
  .have af:(wa ts v (lM aO σ)).aJ t= .d (ad v (ts.idxOf t)):=by simp only[wa,xad ou]
   rw[af];have:=bx.aJ t;rw[a6 t ou]at this;exact .d _ _ this.ob
  have af:(wa ts v (lM aO σ)).aJ t=(lM aO σ).aJ t:=by simp only[wa,xac ou]
  rw[af];simp only[lM];split;.exact .any _
  rename_i aM;have ab:=bx.aJ t;rw[aG t aM]at ab;exact ab.shrink (h.aJ t)
 .intro k o ak;rw[iw]at ak;exact(bx.objs k o (o6 k o ak)).shrink (h.objs k o ak)
 .intro k o b ak aF aj;rw[iw]at ak;exact bx.own k o b (o6 k o ak) aF aj
 intro k bq o o' b cU ak fQ aF om aj;rw[iw]at ak fQ;exact bx.sep k bq o o' b cU (o6 k o ak) (o6 bq o' fQ) aF om aj
theorem ajG{T:cd}{ev:Operand->aS}{objs:cG}{d:Key}{op:Op}{r:aS}{cA:List (Key×cR)}(aG:p2 op=true)(he:hb T ev objs d op=some (r,cA)):objs d=none:=(AN (objs':=λ_=>none) aG rfl he).2.1
def ajH{β:Type}(b8:hn P G C){o:Oper}(aG:Qx o=true){k:aI->Option β}{b:β}(h:sC T G C σ o k=some b):db P T G o (λaV=>k aV=some b/\cG.ext σ.objs aV.objs/\∀t,o.dst≠some t->aV.aJ t=σ.aJ t) σ:=by
 rcases xbB.1 aG with aG|aG;.refine p4 ?_ (XI b8 aG h);rintro aV ⟨ab,af,aw⟩;exact⟨ab,by rw[af];exact λ_ _ h=>h,aw⟩
 have XJ:∀x args dF,o.op≠ .call ⟨.value x,args,dF⟩:=by intro x args dF he;rw[he]at aG;cases aG
 unfold sC at h;split at h;.exact absurd (by assumption) (XJ _ _ _)
 obtain⟨aV,ab,af⟩:=A2 h;unfold db;rw[ab];unfold gY at ab;rw[(qU (objs:=σ.objs) aG).1,(qU aG).2]at ab;simp only at ab;split at ab
 case h_2=>cases ab
 rename_i r cA he;cases ab;have oi:σ.objs (o.dst.getD 9999)=none:=ajG aG he;obtain⟨_,_,hs,rfl⟩:=AN aG oi he;refine⟨af,?_,λt aK=>q3 aK⟩;rw[aI.vJ];exact cG.JQ oi hs
def QF{β:Type}(b8:hn P G C){j:Nat}{want:Bool}{d:Tmp}(aB:(all[j]?).bind (·.dst)=some d):∀{os:List Oper}{σ:aI}{k:aI->Option β}{b:β},(∀o∈os,o.guard=some (j,want))->(∀o∈os,Qx o=true/\o.dst≠some d)->σ.aJ d= .d (.val (.bool want))->sD T G C os σ k=some b->fV P T G all os (λaV=>k aV=some b/\cG.ext σ.objs aV.objs/\∀t,t∉dstsOf os->aV.aJ t=σ.aJ t) σ
 |[],σ,k,b,_,_,_,h=>⟨h,λ_ _ h=>h,λ_ _=>rfl⟩
 |o::os,σ,k,b,cb,aG,hw,h=>by
  have au:=aG o (by simp);unfold fV eu;rw[cb o (by simp)];simp only[aB,hw,xaD];refine p4 ?_ (ajH b8 au.1 h);rintro aV ⟨ab,af,aw⟩;refine mS ?_ (QF b8 aB (λo aF=>cb o (by simp[aF])) (λo aF=>aG o (by simp[aF])) (by rw[aw d au.2];exact hw) ab);rintro qY ⟨aW,a2,bc⟩;refine⟨aW,λcQ Yn aF=>a2 cQ Yn (af cQ Yn aF),?_⟩;intro t aK;have ph:t∉dstsOf os:=λao=>aK (by unfold dstsOf at ao⊢;simp only[xbL];cases o.dst<;>simp[ao])
  have x5:o.dst≠some t:=λao=>aK (by unfold dstsOf;simp[ao]);rw[bc t ph,aw t x5]
def QG(bf:dQ P T){fr:fJ}{Q:Exit->Act->World->Prop}:∀(os r:List Oper)(i:Nat)(m:Mem)(ρ:dh)(σ:aI)(a:Act)(w:World)(K:aI->Prop),(∀j,(os++r)[j]?=all[i+j]?)->kp G m->Den m fr ρ σ a w->N<=a.tmps.size->a.defers=[]->(∀o∈os,∀d,o.dst=some d->d<N)->fV P T G all os K σ->(∀cB w',iV N m fr ρ σ K cB w'->wpOps P all Q (List.range' (i+os.length) r.length) cB w')->wpOps P all Q (List.range' i (os++r).length) a w
 |[],r,i,m,ρ,σ,a,w,K,_,c2,h,cj,hx,_,a6,QH=>QH a w ⟨σ,m,ρ,a6,Mem.le_refl m,h,cj,hx,kQ.refl _ _⟩
 |o::os,r,i,m,ρ,σ,a,w,K,aq,c2,h,cj,hx,gZ,a6,QH=>by
  rw[xcf,xap,List.range'_succ,wpOps_cons];have ah:all[i]?=some o:=by simpa using(aq 0).symm
  refine wpOp_mono ?_ (Pj bf c2 h cj hx ah (gZ o (by simp)) a6);rintro cB w' ⟨aV,cI,cS,bw,bz,cz,eA,fq,hc⟩;refine QG bf os r (i+1) cI cS aV cB w' K (λj=>by have:=aq (j+1);simpa[xbf,Nat.add_comm 1 j]using this) (c2.mono bz) cz eA fq (λo aF=>gZ o (by simp[aF])) bw ?_;intro o8 kR av;have:=QH o8 kR (av.trans bz hc);rw[show i+(o::os).length=i+1+os.length by simp;omega]at this;exact this
theorem Yo(i:Nat):ad ln i=ln:=by unfold ad;cases i<;>rfl
def EP{β:Type}(bf:dQ P T)(b8:hn P G C)(gj:kV P G H)(cj:N<10000){K:aI->Prop}:∀{gs:List (Option (Nat×Bool)×List Oper)} {i:Nat} {σ:aI} {k:aI->Option β} {b:β},(∀g∈gs,∀o∈g.2,o.guard=g.1)->(∀o∈flat gs,∀d,o.dst=some d->d<N)->(∀j,(flat gs)[j]?=all[i+j]?)->fR ib σ->(∀aV,fR ib aV->k aV=some b->K aV)->yf T G C H kb all gs σ k=some b->oz P G N all i (flat gs) K σ
 |[],i,σ,k,b,_,_,_,bT,ak,h=>ajp (ak σ bT h)|(none,os)::r,i,σ,k,b,cb,aB,gu,bT,ak,h=>by show oz P G N all i (os++flat r) K σ;refine Ym bf b8 gj cj (λo aF=>cb (none,os) (by simp) o aF) (λo aF=>aB o (by simp[flat,aF])) gu bT ?_ h;intro aV ab af;refine EP bf b8 gj cj (λg hm=>cb g (by simp[hm])) (λo aF=>aB o (by simp only[flat,List.flatMap_cons,xas];exact .inr aF)) ?_ ab ak af;intro j;have:=gu (os.length+j);rw[<-xbf]at this;rw[<-this];show _=(os++flat r)[os.length+j]?;rw[xaI (by omega)];simp
 |(some (j,want),os)::r,i,σ,k,b,cb,aB,gu,bT,ak,h=>by
  show oz P G N all i (os++flat r) K σ;unfold yf at h;split at h
  case h_2=>cases h
  rename_i d ca Bg x6;split at h
  case h_2=>cases h
  rename_i x ag;split at h
  case isFalse=>cases h
  rename_i bm;simp only[xaz,xam,bne_iff_ne,ne_eq]at bm;split at h
  .obtain⟨v,ab,af⟩:=ft h;have iW:∀o∈os,o.guard=some (j,want):=λo aF=>cb (some (j,want),os) (by simp) o aF;have QI:oz P G N all (i+os.length) (flat r) K ((lM (dstsOf os) σ).put (some ca) (.d v)):=by
    refine EP bf b8 gj cj (λg hm=>cb g (by simp[hm])) (λo aF=>aB o (by simp only[flat,List.flatMap_cons,xas];exact .inr aF)) ?_ (fR.put (σ:=lM (dstsOf os) σ) bT) ak af;intro ER;have:=gu (os.length+ER);rw[<-xbf]at this;rw[<-this];show _=(os++flat r)[os.length+ER]?;rw[xaI (by omega)];simp
   have a6:fV P T G all os (λaV=>cG.ext σ.objs aV.objs/\(∀t,t∉dstsOf os->aV.aJ t=σ.aJ t)/\aV.aJ ca= .d v) σ:=by
    unfold bM at ab;split at ab
    .rename_i gS;split at ab
     .rename_i aj;subst aj;refine mS ?_ (QF b8 Bg iW bm ag ab);rintro aV ⟨aW,a2,bc⟩;refine⟨a2,bc,?_⟩;split at aW;.rename_i u hu;cases aW;exact hu
      cases aW
     rename_i aj;cases ab;refine mS ?_ (Ew Bg iW (λo aF=>(bm o aF).2) (.inl (by rw[ag];cases gS<;>cases want<;>simp_all)));rintro aV ⟨aW,a2,bc⟩;exact⟨by rw[aW];exact λ_ _ h=>h,a2,bc ca x6⟩
    .rename_i vs;cases ab;refine mS ?_ (Ew Bg iW (λo aF=>(bm o aF).2) (.inr ⟨_,ag⟩));rintro aV ⟨aW,a2,bc⟩;exact⟨by rw[aW];exact λ_ _ h=>h,a2,bc ca x6⟩
    cases ab
   intro m fr ρ a w Q c2 cZ nI hx hk;refine QG bf os (flat r) i m ρ σ a w _ gu c2 cZ nI hx (λo aF=>aB o (by simp[flat,aF])) a6 ?_;rintro cB w' ⟨aV,cI,cS,⟨aW,a2,bc⟩,bz,cz,eA,fq,hc⟩;have lP:=ajE cZ cz aW a2 bc (XO x6);refine QI cI fr cS cB w' Q (c2.mono bz) lP eA fq ?_;intro o8 kR av;refine hk o8 kR (av.trans bz ?_);intro cQ dj aj;exact⟨by rw[aI.vJ];exact aj,(hc cQ dj aj).2⟩
  obtain⟨v,ab,af⟩:=ft h;have iW:∀o∈os,o.guard=some (j,want):=λo aF=>cb (some (j,want),os) (by simp) o aF;have QI:oz P G N all (i+os.length) (flat r) K (wa (kept all os (flat r)) v (lM (dstsOf os) σ)):=by refine EP bf b8 gj cj (λg hm=>cb g (by simp[hm])) (λo aF=>aB o (by simp only[flat,List.flatMap_cons,xas];exact .inr aF)) ?_ bT ak af;intro ER;have:=gu (os.length+ER);rw[<-xbf]at this;rw[<-this];show _=(os++flat r)[os.length+ER]?;rw[xaI (by omega)];simp
  have a6:fV P T G all os (λaV=>cG.ext σ.objs aV.objs/\(∀t,t∉dstsOf os->aV.aJ t=σ.aJ t)/\(∀t∈kept all os (flat r),aV.aJ t= .d (ad v ((kept all os (flat r)).idxOf t)))) σ:=by
   unfold bM at ab;split at ab
   .rename_i gS;split at ab
    .rename_i aj;subst aj;refine mS ?_ (QF b8 Bg iW bm ag ab);rintro aV ⟨aW,a2,bc⟩;refine⟨a2,bc,?_⟩;split at aW;.rename_i l aq;cases aW;exact λt aK=>aiM aq aK
     cases aW
    rename_i aj;cases ab;refine mS ?_ (P6 Bg iW (λo aF=>(bm o aF).2) (.inl (by rw[ag];cases gS<;>cases want<;>simp_all)));rintro aV ⟨aW,a2,bc⟩;exact⟨by rw[aW];exact λ_ _ h=>h,a2,λt aK=>by rw[bc t (xby.1 aK).1,Yo]⟩
   .rename_i vs;cases ab;refine mS ?_ (P6 Bg iW (λo aF=>(bm o aF).2) (.inr ⟨_,ag⟩));rintro aV ⟨aW,a2,bc⟩;exact⟨by rw[aW];exact λ_ _ h=>h,a2,λt aK=>by rw[bc t (xby.1 aK).1,Yo]⟩
   cases ab
  intro m fr ρ a w Q c2 cZ nI hx hk;refine QG bf os (flat r) i m ρ σ a w _ gu c2 cZ nI hx (λo aF=>aB o (by simp[flat,aF])) a6 ?_;rintro cB w' ⟨aV,cI,cS,⟨aW,a2,bc⟩,bz,cz,eA,fq,hc⟩;have lP:=ajF cZ cz aW a2 bc;refine QI cI fr cS cB w' Q (c2.mono bz) lP eA fq ?_;intro o8 kR av;refine hk o8 kR (av.trans bz ?_);intro cQ dj aj;exact⟨aj,(hc cQ dj aj).2⟩
def ajI{β:Type}(bf:dQ P T)(b8:hn P G C)(gj:kV P G H)(cj:N<10000){k:aI->Option β}{b:β}(aB:∀o∈all.toList,∀d,o.dst=some d->d<N)(bT:fR ib σ)(h:Yg T G C H kb all σ k=some b):oz P G N all 0 all.toList (λaV=>fR ib aV/\k aV=some b) σ:=by
 have:=EP (P:=P) (N:=N) (ib:=ib) (all:=all) (i:=0) bf b8 gj cj (K:=λaV=>fR ib aV/\k aV=some b) (λg hm o aF=>Kx _ _ _ hm o aF) (by rw[wb];exact aB) (by rw[wb];intro j;simp) bT (λaV ab af=>⟨ab,af⟩) h
 rwa [wb]at this
def ajJ{Q:Exit->aI->Prop}{id:Nat}{ops:Array Oper}(h:oz P G N ops 0 ops.toList (Q .normal) σ):hl P T G N (.region id ops false) σ Q:=by intro m fr ρ a w c2 cZ nI aB;refine wp_region ?_;rw[List.range_eq_range'];have:=h m fr ρ a w (λe cB w'=>iV N m fr ρ σ (Q e) cB w') c2 cZ nI aB (λcB w' av=>av);simpa using this
end
def sH(ops:Array Oper):Bool:=(List.range ops.size).all λj=>match ops[j]? with
  |some o=>o.after.all (λe=>!Region.binds .any e||decide (e.on<j))&&(match o.guard with|none=>true|some (g,_)=>decide (g<j))
  |none=>true
def ES(ops:Array Oper)(j:Nat):Bool:=(List.range j).all λi=>(List.range (j+1)).any λk=>decide (i<k)&&match ops[k]? with|some o=>o.after.any (λe=>Region.binds .any e&&decide (e.on=i))|none=>false
def QJ(ops:Array Oper)(p:Nat):Bool:=sH ops&&(List.range ops.size).all λj=>decide (j<p)||ES ops j
def yh{ops:Array Oper}(h:sH ops=true){j:Nat}{o:Oper}(aF:ops[j]?=some o):(∀e∈o.after,Region.binds .any e=true->e.on<j)/\∀g b,o.guard=some (g,b)->g<j:=by
 have aN:j<ops.size:=(xaS.1 aF).1;have ab:=xaz.1 h j (xbT.2 aN);simp only[aF,xam]at ab;refine⟨λe he aj=>?_,λg b cb=>?_⟩
 .have:=Array.all_eq_true'.1 ab.1 e he;simpa[aj]using this
 have:=ab.2;rw[cb]at this;simpa using this
def ajK{ops:Array Oper}{j i:Nat}(h:ES ops j=true)(ah:i<j):∃k o,i<k/\k<=j/\ops[k]?=some o/\∃e∈o.after,Region.binds .any e=true/\e.on=i:=by
 have ab:=xaz.1 h i (xbT.2 ah);obtain⟨k,ak,af⟩:=xbt.1 ab;simp only[xam,xaG]at af;obtain⟨aw,a4⟩:=af;cases aF:ops[k]? with
 |none=>rw[aF]at a4;cases a4
 |some o=>rw[aF]at a4;obtain⟨e,he,b7⟩:=Array.any_eq_true'.1 a4;simp only[xam,xaG]at b7;have:=xbT.1 ak;exact⟨k,o,aw,by omega,aF,e,he,b7⟩
def Bh(ops:Array Oper)(listed:Array Bool):Prop:=∀j o,ops[j]?=some o->listed.getD j true=true->∀e∈o.after,Region.binds .any e=true->listed.getD e.on false=true
section
variable{P:Program}{ops hB:Array Oper}{Q:Exit->Act->World->Prop}
def uq{i:Nat}(h:i<ops.size):(ops++hB)[i]?=ops[i]?:=xbI h
def Bi{l r:Array Bool}{d:Bool}{i:Nat}(h:i<l.size):(l++r).getD i d=l.getD i d:=by
 have af:i<l.size+r.size:=by omega
 simp only[xbv,xbI h]
theorem ajL{l:Array Bool}{m:Nat}{d:Bool}{i:Nat}(h:l.size<=i)(af:i<l.size+m):(l++Array.replicate m false).getD i d=false:=by simp only[xbv,Array.getElem?_append_right h];rw[Array.getElem?_replicate,xad (by omega)];rfl
def QK{l:Array Bool}{i:Nat}(h:i<l.size)(d e:Bool):l.getD i d=l.getD i e:=by simp[Array.getD,h]
def QL{all:Array Oper}{L:Array Bool}{j:Nat}(bT:L.size=all.size)(aq:ES all j=true)(hinv:Bh all L)(av:j∈Region.ready .any all L):∀(d i:Nat),j-i<=d->i<j->L.getD i false=true
 |0,i,h,ah=>by omega
 |d+1,i,h,ah=>by
  obtain⟨k,o',ab,ak,af,e,aw,a4,b7⟩:=ajK aq ah;rw[<-b7];by_cases ajM:k=j;.subst ajM;obtain⟨_,ml,bw,bz⟩:=xbK.1 av;rw[af]at bw;cases bw;exact bz e aw a4
  have cO:=QL bT aq hinv av d k (by omega) (by omega);have eJ:=(xaS.1 af).1;rw[QK (by omega) false true]at cO;exact hinv k o' af cO e aw a4
def ET{all:Array Oper}{L:Array Bool}{i:Nat}(h:i∈Region.ready .any all L):i<all.size:=(xaS.1 (xbK.1 h).2.choose_spec.1).1
def ajN{all:Array Oper}{L:Array Bool}(aG:L.size=all.size)(h:Bh all L){i:Nat}(ah:i∈Region.ready .any all L):Bh all (L.setIfInBounds i true):=by
 obtain⟨ab,fs,af,aw⟩:=xbK.1 ah;have ch:=ET ah;have up:∀{j:Nat},L.getD j false=true->(L.setIfInBounds i true).getD j false=true:=by
  intro j aN;by_cases cM:j<L.size
  .by_cases gK:i=j;.subst gK;simp[Array.getD,cM]
   simp[Array.getD,cM]at aN⊢;rw[xbz cM gK];exact aN
  simp[Array.getD,cM]at aN
 intro j o' aF aN e he mU;have cM:j<L.size:=by have:=(xaS.1 aF).1;omega
 by_cases gK:i=j;.subst gK;rw[af]at aF;cases aF;exact up (aw e he mU)
 refine up (h j o' aF ?_ e he mU);simp[Array.getD,cM]at aN⊢;rw[xbz cM gK]at aN;exact aN
def Yp{listed:Array Bool}(aj:sH (ops++hB)=true)(aG:listed.size=ops.size){i:Nat}(ah:i<ops.size):i∈Region.ready .any (ops++hB) (listed++Array.replicate hB.size false)↔i∈Region.ready .any ops listed:=by
 rw[xbK,xbK,Bi (by omega),uq ah];refine and_congr_right λ_=>?_;constructor;.rintro⟨o',aF,h⟩;refine⟨o',aF,λe he mU=>?_⟩;have:=(yh aj (by rw[uq ah];exact aF)).1 e he mU;rw[<-h e he mU,Bi (by omega)]
 rintro⟨o',aF,h⟩;refine⟨o',aF,λe he mU=>?_⟩;have:=(yh aj (by rw[uq ah];exact aF)).1 e he mU;rw[Bi (by omega),h e he mU]
def Yq{all:Array Oper}{L:Array Bool}(aG:L.size=all.size)(h:∀i,i<all.size->L.getD i false=true):Region.ready .any all L=[]:=by refine List.eq_nil_iff_forall_not_mem.2 λi ah=>?_;have cv:=ET ah;have ab:=(xbK.1 ah).1;rw[QK (by omega) true false,h i cv]at ab;cases ab
def ajO{all:Array Oper}{L:Array Bool}(aj:sH all=true)(aG:L.size=all.size)(h:Region.ready .any all L=[]):∀(i:Nat),i<all.size->L.getD i false=true:=by
 intro i
 induction i using Nat.strongRecOn with
 |_ i ih=>
  intro ah;refine xbA λao=>?_;have bd:L.getD i true=false:=by rw[QK (by omega) true false];simpa using ao
  have:i∈Region.ready .any all L:=by refine xbK.2 ⟨bd,all[i],by simp[ah],λe he mU=>?_⟩;have cv:=(yh aj (j:=i) (o:=all[i]) (by simp[ah])).1 e he mU;exact ih e.on cv (by omega)
  rw[h]at this;cases this
def ajP(aj:sH (ops++hB)=true):sH ops=true:=by
 refine xaz.2 λj aN=>?_;have aN:=xbT.1 aN;have ab:=xaz.1 aj j (xbT.2 (by simp;omega))
 rwa [uq aN]at ab
def ajQ{tm:Array Value}{g:Nat}(h:g<ops.size):yielded (ops++hB) tm g=yielded ops tm g:=by unfold yielded;rw[uq h]
def ajR(aj:sH (ops++hB)=true){i:Nat}(ah:i<ops.size){o':Oper}(aF:ops[i]?=some o')(tm:Array Value):Region.wanted o' (yielded (ops++hB) tm)=Region.wanted o' (yielded ops tm):=by unfold Region.wanted;cases cb:o'.guard with|none=>rfl|some p=>obtain⟨g,b⟩:=p;have:=(yh aj (by rw[uq ah];exact aF)).2 g b cb;simp only[ajQ (Nat.lt_trans this ah)]
def ajS(aj:sH (ops++hB)=true){i:Nat}(ah:i<ops.size){K:Act->World->Prop}{a:Act}{w:World}:wpOp P (ops++hB) Q i K a w=wpOp P ops Q i K a w:=by
 unfold wpOp;rw[uq ah];have:ops[i]?=some ops[i]:=by simp[ah]
 rw[this];simp only[ajR aj ah this]
def ajT{all:Array Oper}:∀(fuel:Nat)(L:Array Bool)(a:Act)(w:World),Region.ready .any all L=[]->Q .normal a w->wpAny P .any all Q fuel L a w
 |0,L,a,w,h,hk=>⟨h,hk⟩|fuel+1,L,a,w,h,hk=>⟨λ_=>hk,λi ah=>by rw[h]at ah;cases ah⟩
def mo(n j:Nat):Array Bool:=Array.ofFn (n:=n) λi=>decide (i.val<j)
def Yr{n j:Nat}:(mo n j).size=n:=by simp[mo]
def yi{n j i:Nat}{d:Bool}(h:i<n):(mo n j).getD i d=decide (i<j):=by simp[mo,Array.getD,h]
def ajU{n j:Nat}:(mo n j).setIfInBounds j true=mo n (j+1):=by
 apply Array.ext;.simp[mo]
 intro i ab af;simp[mo]at ab;by_cases h:i=j;.subst h;simp[mo]
 rw[xbz (by simpa[mo]using ab) (by omega)];simp[mo];omega
def Ys{all:Array Oper}(aj:sH all=true){p:Nat}(aq:∀j,p<=j->j<all.size->ES all j=true):∀(d j:Nat)(a:Act)(w:World),p<=j->j+d=all.size->wpOps P all Q (List.range' j d) a w->wpAny P .any all Q d (mo all.size j) a w
 |0,j,a,w,aU,aB,h=>by refine⟨Yq Yr λi ah=>by rw[yi ah];simp;omega,by simpa[wpOps]using h⟩
 |d+1,j,a,w,aU,aB,h=>by
  have aN:j<all.size:=by omega
  have hinv:Bh all (mo all.size j):=by intro i o aF ah e he mU;have ch:=(xaS.1 aF).1;rw[yi ch]at ah;have:=(yh aj aF).1 e he mU;rw[yi (by omega)];simp at ah⊢;omega
  have Yt:j∈Region.ready .any all (mo all.size j):=by refine xbK.2 ⟨by rw[yi aN];simp,all[j],by simp[aN],λe he mU=>?_⟩;have:=(yh aj (j:=j) (o:=all[j]) (by simp[aN])).1 e he mU;rw[yi (by omega)];simpa using this
  refine⟨λau=>(by rw[au]at Yt;cases Yt),λi ah=>?_⟩;have ht:=ET ah;have ab:=(xbK.1 ah).1;rw[yi ht]at ab;have gK:i=j:=by
   have eW:j<=i:=by simpa using ab
   by_cases ao:i=j;.exact ao
   have:=QL Yr (aq i (by omega) ht) hinv ah i j (by omega) (by omega);rw[yi aN]at this;simp at this
  subst gK;rw[List.range'_succ,wpOps_cons]at h;refine wpOp_mono (λcB w' bg=>?_) h;rw[ajU];exact Ys aj aq d (i+1) cB w' (by omega) (by omega) bg
def ajV{listed:Array Bool}{m:Nat}(h:∀i,i<listed.size->listed.getD i false=true):listed++Array.replicate m false=mo (listed.size+m) listed.size:=by
 apply Array.ext;.simp[mo]
 intro i ab af;simp at ab;by_cases ah:i<listed.size;.have:=h i ah;simp[Array.getD,ah]at this;rw[Array.getElem_append_left ah,this];simp[mo,ah]
 rw[Array.getElem_append_right (by omega)];simp[mo];omega
def ajW{listed:Array Bool}{m i:Nat}(ah:i<listed.size):(listed++Array.replicate m false).setIfInBounds i true=listed.setIfInBounds i true++Array.replicate m false:=by
 apply Array.ext;.simp
 intro j ab af;simp at ab;by_cases aN:j<listed.size
 .rw[Array.getElem_append_left (by simpa using aN)];by_cases gK:i=j;.subst gK;simp
  rw[xbz (by simp;omega) gK,Array.getElem_append_left aN,xbz aN gK]
 rw[Array.getElem_append_right (by simp;omega),xbz (by simp;omega) (by omega),Array.getElem_append_right (by omega)];simp
end
def Yu{P:Program}{Q:Exit->Act->World->Prop}{all:Array Oper}:∀{n:Nat}{L:Array Bool}{a:Act}{w:World},wpAny P .any all Q n L a w->∀k,n<=k->wpAny P .any all Q k L a w
 |0,L,a,w,h,k,ak=>ajT k L a w h.1 h.2|n+1,L,a,w,h,0,ak=>by omega|n+1,L,a,w,h,k+1,ak=>⟨h.1,λi ah=>wpOp_mono (λcB w' bx=>Yu bx k (by omega)) (h.2 i ah)⟩
section
variable{P:Program}{T:cd}{G:dn}{ops hB:Array Oper}{Q:Exit->Act->World->Prop}
def ajX{m:Mem}{fr:fJ}{N:Nat}(bf:dQ P T){K:aI->Prop}(aj:sH (ops++hB)=true)(aq:∀j,ops.size<=j->j<(ops++hB).size->ES (ops++hB) j=true)(gZ:∀o∈ops,∀d,o.dst=some d->d<N):∀(fuel:Nat)(listed:Array Bool)(m:Mem)(ρ:dh)(σ:aI)(a:Act)(w:World),listed.size=ops.size->Bh ops listed->kp G m->Den m fr ρ σ a w->N<=a.tmps.size->a.defers=[]->jd P T G ops K fuel listed σ->(∀cB w',iV N m fr ρ σ K cB w'->wpOps P (ops++hB) Q (List.range' ops.size hB.size) cB w')->wpAny P .any (ops++hB) Q (fuel+hB.size) (listed++Array.replicate hB.size false) a w:=by
 have fin:∀{fuel:Nat}{listed:Array Bool}{m:Mem}{ρ:dh}{σ:aI}{a:Act}{w:World},listed.size=ops.size->Region.ready .any ops listed=[]->kp G m->Den m fr ρ σ a w->N<=a.tmps.size->a.defers=[]->K σ->(∀cB w',iV N m fr ρ σ K cB w'->wpOps P (ops++hB) Q (List.range' ops.size hB.size) cB w')->wpAny P .any (ops++hB) Q hB.size (listed++Array.replicate hB.size false) a w:=by intro fuel listed m ρ σ a w aG av c2 h cj hx ak hk;have ajY:=ajO (ajP aj) aG av;rw[ajV (λi ah=>ajY i (by omega)),aG,<-Array.size_append];exact Ys aj aq _ _ _ _ (xal _) (by simp) (hk a w ⟨σ,m,ρ,ak,Mem.le_refl m,h,cj,hx,kQ.refl _ _⟩)
 intro fuel
 induction fuel with
 |zero=>intro listed m ρ σ a w aG hinv c2 h cj hx a6 hk;rw[xau];exact fin (fuel:=0) aG a6.1 c2 h cj hx a6.2 hk
 |succ fuel ih=>
  intro listed m ρ σ a w aG hinv c2 h cj hx a6 hk;by_cases av:Region.ready .any ops listed=[];.have:=fin (fuel:=0) aG av c2 h cj hx (a6.1 av) hk;exact Yu this _ (by omega)
  rw[Nat.add_right_comm];have ajZ:Bh (ops++hB) (listed++Array.replicate hB.size false):=by
   intro j o' aF aN e he mU;have cM:=(xaS.1 aF).1;simp at cM;by_cases Yv:j<ops.size
   .rw[Bi (by omega)]at aN;rw[uq Yv]at aF;have:=(yh aj (by rw[uq Yv];exact aF)).1 e he mU;rw[Bi (by omega)];exact hinv j o' aF aN e he mU
   rw[ajL (by omega) (by omega)]at aN;cases aN
  refine⟨λau=>absurd ?_ av,λi ah=>?_⟩;.refine List.eq_nil_iff_forall_not_mem.2 λi ah=>?_;have:=(Yp aj aG (ET ah)).2 ah;rw[au]at this;cases this
  by_cases sk:i<ops.size;.have ju:=(Yp aj aG sk).1 ah;have ab:=a6.2 i ju;obtain⟨_,fs,aF,_⟩:=xbK.1 ju;unfold hU at ab;simp only[aF]at ab;rw[ajS aj sk];refine wpOp_mono ?_ (Pj bf c2 h cj hx aF (gZ fs (Array.mem_of_getElem? aF)) ab);rintro cB w' ⟨aV,cI,cS,bw,bz,cz,eA,fq,hc⟩;rw[ajW (by omega)];refine ih _ cI cS aV cB w' (by simp[aG]) (ajN aG hinv ju) (c2.mono bz) cz eA fq bw ?_;rintro o8 kR ⟨qY,xR,xS,dw,da,eM,jf,lk,o9⟩;exact hk o8 kR ⟨qY,xR,xS,dw,Mem.le_trans bz da,eM,jf,lk,hc.trans o9⟩
  refine absurd (Yq aG λj aN=>?_) av;have:=QL (by simp[aG]) (aq i (by omega) (ET ah)) ajZ ah i j (by omega) (by omega)
  rwa [Bi (by omega)]at this
end
def aj0{P:Program}{T:cd}{G:dn}{N:Nat}{σ:aI}{Q:Exit->aI->Prop}(bf:dQ P T)(hm:P.follows .mixedOrders=true){id:Nat}{ops hB:Array Oper}(cj:vT N ops=true)(aj:QJ (ops++hB) ops.size=true) {K:aI->Prop} (fi:∀aV,K aV->oz P G N (ops++hB) ops.size hB.toList (Q .normal) aV) (h:jd P T G ops K ops.size (Array.replicate ops.size false) σ):hl P T G N (.region id (ops++hB) true) σ Q:=by
 intro m fr ρ a w c2 cZ nI aB;refine wp_region_any hm ?_;simp only[QJ,xam]at aj;have e:Array.replicate (ops++hB).size false=Array.replicate ops.size false++Array.replicate hB.size false:=by rw[Array.size_append,Array.replicate_append_replicate]
 rw[e,Array.size_append];refine ajX (m:=m) (fr:=fr) (N:=N) (T:=T) bf aj.1 (λj ab af=>?_) (vU cj) ops.size _ m ρ σ a _ (by simp) ?_ c2 (cZ.drew _) nI aB h ?_;.have:=xaz.1 aj.2 j (xbT.2 af);simp only[xbb,xaG]at this;exact this.resolve_left (by omega)
 .intro j o' aF aN;have:=(xaS.1 aF).1;simp[Array.getD,this]at aN
 rintro cB w' ⟨aV,cI,cS,bw,bz,cz,eA,fq,hc⟩;have:=fi aV bw cI fr cS cB w' (λe cB w'=>iV N m fr ρ σ (Q e) cB w') (c2.mono bz) cz eA fq (λo8 kR av=>av.trans bz hc);simpa using this
section
variable{β:Type}
def bp(f:List D->Option (List D⊕β)):Nat->List D->Option β
 |0,_=>none|n+1,ls=>aa (f ls) λx=>match x with| .inl fu=>bp f n fu| .inr b=>some b
end
def wq:Code->Nat
 | .region id _ _=>id| .seq x _=>wq x| .cond _ x _=>wq x| .block _ c=>wq c| .loop c=>wq c| .scope c=>wq c|_=>0
def aj1(c:Tmp)(x y:Code):Nat:=(c*1000+wq y)*1000+wq x
structure ni where
 T:cd
 G:dn
 C:lL
 n:Nat
 ib:List Key
 loops:Nat->Option q4
 aj2:Nat->Option q4
 blocks:Nat->Option q4
 qc:Nat->Option (List Nat)
 H:wo
 kb:Tmp->Bool
 pre:Nat->List (List Key)
def aY{β:Type}(b:Option β):Option (List D⊕β):=aa b λb=>some (.inr b)
def ba{β:Type}(f:List D->Option β):List D⊕β->Option β
 | .inl ls=>f ls| .inr b=>some b
def QM{β:Type}(ib:List Key)(gi:q4)(run:(Exit->aI->Option (List D⊕β))->Option (List D⊕β))(k:Exit->aI->Option β):Option β:=aa (run λe aV=>match e with| .normal=>sE ib gi aV λls=>some (.inl ls)|e=>aY (k e aV)) (ba λls=>k .normal (restore gi ls))
def EU{β:Type}(id:Nat)(k:Exit->aI->Option β)(e:Exit)(σ:aI):Option β:=match e with
 | .exit tZ=>if tZ=id then k .normal σ else k (.exit tZ) σ
 |e=>k e σ
def aj3{β:Type}(k:Exit->aI->Option β)(e:Exit)(σ:aI):Option β:=match e with| .goto _=>none|e=>k e σ
def exec(X:ni):Code->{β:Type}->aI->(Exit->aI->Option β)->Option β
 | .skip,_,σ,k=>k .normal σ| .label _,_,σ,k=>k .normal σ| .scope c,_,σ,k=>exec X c σ (aj3 k)| .exit id,_,σ,k=>k (.exit id) σ| .ret,_,σ,k=>k .ret σ
 | .region id ops d,_,σ,k=>yb (X.pre id) σ λσ=>match X.qc id with
  |none=>match d with|true=>XB X.T X.G X.C ops σ λaV=>k .normal aV|false=>Yg X.T X.G X.C X.H X.kb ops σ λaV=>k .normal aV
  |some ord=>if d=true/\ord.length=ops.size then A4 X.T X.G X.C ops ord (Array.replicate ops.size false) σ λaV=>k .normal aV
   else if d=true/\ord.length<=ops.size/\QJ ops ord.length=true then A4 X.T X.G X.C (ops.extract 0 ord.length) ord (Array.replicate ord.length false) σ λaV=>yf X.T X.G X.C X.H X.kb ops (v7 (ops.extract ord.length ops.size).toList) aV λqY=>k .normal qY
   else none
 | .seq x y,_,σ,k=>exec X x σ λe aV=>match e with| .normal=>exec X y aV k|e=>k e aV
 | .cond (.tmp c) x y,_,σ,k=>match σ.aJ c with
  | .d a=>match X.aj2 (aj1 c x y)with|none=>aH a (exec X x σ k) (exec X y σ k)|some gi=>QM X.ib gi (λbq=>aH a (exec X x σ bq) (exec X y σ bq)) k
  |_=>none
 | .block id c,_,σ,k=>match X.blocks id with|none=>exec X c σ (EU id k)|some gi=>QM X.ib gi (λbq=>exec X c σ (EU id bq)) k
 | .loop c,_,σ,k=>match X.loops (wq c)with|none=>none|some gi=>sE X.ib gi σ λQN=>bp (λls=>exec X c (restore gi ls) λe aV=>match e with| .normal=>sE X.ib gi aV λfu=>some (.inl fu)|e=>aY (k e aV)) X.n QN
 | .cond (.const v) x y,_,σ,k=>match v with| .bool true=>exec X x σ k| .bool false=>exec X y σ k|_=>none
 |_,_,_,_=>none
section
variable{P:Program}{T:cd}{G:dn}{N:Nat}{σ:aI}{all:Array Oper}{ib:List Key}
def Yw{K K':aI->Prop}(ak:∀σ,K σ->K' σ):∀(fuel:Nat){listed:Array Bool}{σ:aI},jd P T G all K fuel listed σ->jd P T G all K' fuel listed σ
 |0,_,_,h=>⟨h.1,ak _ h.2⟩|fuel+1,_,_,h=>⟨λau=>ak _ (h.1 au),λi ah=>vQ (λ_ bx=>Yw ak fuel bx) (h.2 i ah)⟩
def EV{K:aI->Prop}(aB:∀o∈all,∀d,o.dst=some d->d<10000):∀(fuel:Nat){listed:Array Bool}{σ:aI},fR ib σ->jd P T G all K fuel listed σ->jd P T G all (λaV=>fR ib aV/\K aV) fuel listed σ
 |0,_,_,bT,h=>⟨h.1,bT,h.2⟩
 |fuel+1,_,σ,bT,h=>by
  refine⟨λau=>⟨bT,h.1 au⟩,λi ah=>?_⟩;have ab:=h.2 i ah;unfold hU at ab⊢;split at ab
  .exact EV aB fuel bT ab
  rename_i o aF;rw[hH]at ab⊢;have yj:=aB o (Array.mem_of_getElem? aF);cases hw:jT all σ o with|none=>rw[hw]at ab;exact ab|some w=>rw[hw]at ab;cases w with|true=>exact p4 (λaV ⟨af,aw⟩=>EV aB fuel af aw) (Yh bT yj ab)|false=>exact EV aB fuel bT.put ab
def aj4{Q:Exit->aI->Prop}(bf:dQ P T)(hm:P.follows .mixedOrders=true){id:Nat}{ops:Array Oper}(cj:vT N ops=true) (h:jd P T G ops (Q .normal) ops.size (Array.replicate ops.size false) σ):hl P T G N (.region id ops true) σ Q:=by intro m fr ρ a w c2 cZ nI aB;refine wp_region_any hm ?_;exact Ps (m:=m) (fr:=fr) (N:=N) (Q:=λe cB w'=>iV N m fr ρ σ (Q e) cB w') bf (vU cj) ops.size _ m ρ σ a _ c2 (cZ.drew _) nI aB h (λcB w' av=>av)
def po(T:cd)(os:Nat->Option (List Nat))(N:Nat):Code->Bool
 | .region id ops d=>vT N ops&&(!d||(os id).isSome||xQ T ops (List.range ops.size) (Array.replicate ops.size false))| .seq x y=>po T os N x&&po T os N y| .cond _ x y=>po T os N x&&po T os N y| .block _ c=>po T os N c| .loop c=>po T os N c| .scope c=>po T os N c|_=>true
def nO{β:Type}(ib:List Key)(k:Exit->aI->Option β)(b:β)(e:Exit)(σ:aI):Prop:=∃τ,g0 σ τ/\fR ib τ/\k e τ=some b
def Yx{β:Type}{x:Option β}{y:List D⊕β}(h:aY x=some y):∃b,x=some b/\y= .inr b:=by obtain⟨b,ab,af⟩:=ft h;exact⟨b,ab,(xaU af).symm⟩
def Yy{β:Type}{gi:q4}{c:Code}{run:(Exit->aI->Option (List D⊕β))->Option (List D⊕β)}{k:Exit->aI->Option β}{b:β} (hR:∀bq b',run bq=some b'->hl P T G N c σ (nO ib bq b')) (h:QM ib gi run k=some b):hl P T G N c σ (nO ib k b):=by
 obtain⟨x,ab,af⟩:=ft h;refine AQ (hR _ _ ab) ?_;rintro e aV ⟨τ,aW,a2,bc⟩;have other:∀dp,e=dp->aY (k dp τ)=some x->nO ib k b e aV:=by rintro dp rfl aw;obtain⟨b',a4,rfl⟩:=Yx aw;cases af;exact⟨τ,aW,a2,a4⟩
 cases e with
 |normal=>obtain⟨ls,bw,bz,cz⟩:=KF a2 bc;cases cz;exact⟨_,aW.trans bw,bz,af⟩
 |exit id=>exact other _ rfl bc|goto l=>exact other _ rfl bc|ret=>exact other _ rfl bc|panic c=>exact other _ rfl bc|outgrown=>exact other _ rfl bc
def aj5{β:Type}{f:List D->Option (List D⊕β)}{n:Nat}{ls:List D}{b:β}(h:bp f n ls=some b):∃m,n=m+1/\((∃fu,f ls=some (.inl fu)/\bp f m fu=some b)\/f ls=some (.inr b)):=by
 cases n with
 |zero=>cases h
 |succ m=>obtain⟨x,ab,af⟩:=ft h;refine⟨m,rfl,?_⟩;cases x with|inl fu=>exact .inl ⟨fu,ab,af⟩|inr b'=>cases af;exact .inr ab
def nO.block{β:Type}{id:Nat}{k:Exit->aI->Option β}{b:β}{e:Exit}{σ:aI}(h:nO ib (EU id k) b e σ):Ef id (nO ib k b) e σ:=by
 obtain⟨τ,aW,a2,bc⟩:=h;cases e with
 |exit tZ=>
  simp only[Ef];unfold EU at bc;by_cases ah:tZ=id;.simp only[ah,xaD]at bc⊢;exact⟨τ,aW,a2,bc⟩
  simp only[ah,xaF]at bc⊢;exact⟨τ,aW,a2,bc⟩
 |normal=>exact⟨τ,aW,a2,bc⟩|goto l=>exact⟨τ,aW,a2,bc⟩|ret=>exact⟨τ,aW,a2,bc⟩|panic c=>exact⟨τ,aW,a2,bc⟩|outgrown=>exact⟨τ,aW,a2,bc⟩
def q9(X:ni)(bf:dQ P X.T)(b8:hn P X.G X.C)(gj:kV P X.G X.H)(hm:P.follows .mixedOrders=true)(cj:N<10000):∀(c:Code){β:Type}{σ:aI}{k:Exit->aI->Option β}{b:β},po X.T X.qc N c=true->fR X.ib σ->exec X c σ k=some b->hl P X.T X.G N c σ (nO X.ib k b)
 | .skip,β,σ,k,b,_,bT,h=>ahg ⟨σ,g0.refl σ,bT,h⟩| .label l,β,σ,k,b,_,bT,h=>ahh ⟨σ,g0.refl σ,bT,h⟩| .exit id,β,σ,k,b,_,bT,h=>ahi ⟨σ,g0.refl σ,bT,h⟩| .ret,β,σ,k,b,_,bT,h=>ahj ⟨σ,g0.refl σ,bT,h⟩
 | .region id ops d,β,σ,k,b,bm,bT,h=>by
  simp only[po,xam,xbb,xbZ]at bm;have gZ:∀o∈ops.toList,∀d,o.dst=some d->d<10000:=λo aF d aB=>Nat.lt_trans (vU bm.1 o (by simpa using aF) d aB) cj;have QO:∀aV,fR X.ib aV/\k .normal aV=some b->nO X.ib k b .normal aV:=λaV bx=>⟨aV,g0.refl aV,bx⟩;unfold exec at h;have ag:=EN bT h;clear h bT;obtain⟨σ,aj6,bT,h⟩:=ag;refine Pt aj6 ?_;split at h
  .rename_i AR;split at h
   .have ab:=aiW (P:=P) (all:=ops) (σ:=σ) b8 (K:=λaV=>∃τ,ot aV τ/\k .normal τ=some b) (λσ τ hw ⟨xT,ab,af⟩=>⟨xT,hw.trans ab,af⟩) (λaV bx=>⟨aV,ot.refl _,bx⟩) h;have af:fV P X.T X.G ops ops.toList (nO X.ib k b .normal) σ:=by
     refine mS ?_ (Qz bT gZ ab);rintro aV ⟨aW,τ,a2,bc⟩;refine⟨τ,a2.Ev,?_,bc⟩;intro j aN aj;rw[<-a2.1]at aj;exact aW j aN aj
    exact ahI bf hm bm.1 (bm.2.resolve_left (by simp[AR])) af
   have ab:=ajI (P:=P) (all:=ops) (σ:=σ) bf b8 gj cj (λo aF d aB=>vU bm.1 o (by simpa using aF) d aB) bT h;exact ajJ (λm fr ρ a w Q c2 cZ nI aB hk=>ab m fr ρ a w Q c2 cZ nI aB (λcB w' av=>hk cB w' (av.mono QO)))
  rename_i ord AR;split at h
  case isFalse=>
   split at h
   case isFalse=>cases h
   rename_i ao;obtain⟨rfl,b6,Yz⟩:=ao;have lq:ops=ops.extract 0 ord.length++ops.extract ord.length ops.size:=by rw[Array.extract_append_extract,Nat.max_eq_right b6];simp
   have pY:ord.length=(ops.extract 0 ord.length).size:=by simp;omega
   have ab:=P9 (P:=P) b8 ord _ σ h;generalize ops.extract 0 ord.length=dk at*;generalize ops.extract ord.length ops.size=Av at*;subst lq;rw[pY]at ab;have nP:vT N dk=true:=by have:=bm.1;unfold vT at this⊢;simp only[Array.toList_append,List.all_append,xam]at this;exact this.1
   rw[pY]at Yz;refine aj0 bf hm nP Yz ?_ (EV (λo aF d aB=>Nat.lt_trans (vU nP o aF d aB) cj) _ bT ab);rintro aV ⟨QD,ag⟩;have af:=EP (P:=P) (N:=N) (ib:=X.ib) (all:=dk++Av) (i:=dk.size) bf b8 gj cj (K:=nO X.ib k b .normal) (λg hm o aF=>Kx _ _ _ hm o aF) (by rw[wb];intro o' aF d aB;exact vU bm.1 _ (by simp at aF⊢;exact .inr aF) d aB) (by rw[wb];intro j;rw[Array.getElem?_append_right (by omega)];simp) QD (λqY ab af=>QO qY ⟨ab,af⟩) ag
   rwa [wb]at af
  rename_i ao;obtain⟨rfl,b6⟩:=ao;have ab:=P9 (P:=P) b8 ord _ σ h;rw[b6]at ab;exact aj4 bf hm bm.1 (Yw QO _ (EV (λo aF d aB=>Nat.lt_trans (vU bm.1 o aF d aB) cj) _ bT ab))
 | .seq x y,β,σ,k,b,bm,bT,h=>by simp only[po,xam]at bm;refine ahk (AQ (q9 X bf b8 gj hm cj x bm.1 bT h) ?_);rintro e aV ⟨τ,aW,a2,bc⟩;cases e with|normal=>simp only[J8];refine Pt aW (q9 X bf b8 gj hm cj y bm.2 a2 bc)|exit id=>exact⟨τ,aW,a2,bc⟩|goto l=>exact⟨τ,aW,a2,bc⟩|ret=>exact⟨τ,aW,a2,bc⟩|panic c=>exact⟨τ,aW,a2,bc⟩|outgrown=>exact⟨τ,aW,a2,bc⟩
 | .cond c x y,β,σ,k,b,bm,bT,h=>by
  simp only[po,xam]at bm;cases c with
  |tmp c=>
   unfold exec at h;split at h
   case h_2=>cases h
   rename_i a aE;have two:∀{β:Type}(bq:Exit->aI->Option β)(b':β),aH a (exec X x σ bq) (exec X y σ bq)=some b'->hl P X.T X.G N (.cond (.tmp c) x y) σ (nO X.ib bq b'):=by
    intro β bq b' h;rcases Xk h with⟨rfl,ab⟩|⟨rfl,ab⟩
    .exact J9 (b:=true) aE (by rw[xad rfl];exact q9 X bf b8 gj hm cj x bm.1 bT ab)
    exact J9 (b:=false) aE (by rw[xac (by simp)];exact q9 X bf b8 gj hm cj y bm.2 bT ab)
   split at h;.exact two k b h
   exact Yy (λbq b' bx=>two bq b' bx) h
  |const v=>
   unfold exec at h;split at h;.exact J9 (b:=true) rfl (by rw[xad rfl];exact q9 X bf b8 gj hm cj x bm.1 bT h)
   .exact J9 (b:=false) rfl (by rw[xac (by simp)];exact q9 X bf b8 gj hm cj y bm.2 bT h)
   cases h
  |global g=>cases h
  |func f=>cases h
 | .block id c,β,σ,k,b,bm,bT,h=>by
  have one:∀{β:Type}(bq:Exit->aI->Option β)(b':β),exec X c σ (EU id bq)=some b'->hl P X.T X.G N (.block id c) σ (nO X.ib bq b'):=by intro β bq b' h;exact ahn (AQ (q9 X bf b8 gj hm cj c bm bT h) (λe aV bx=>bx.block))
  unfold exec at h;split at h;.exact one k b h
  exact Yy (λbq b' bx=>one bq b' bx) h
 | .loop c,β,σ,k,b,bm,bT,h=>by
  unfold exec at h;split at h
  case h_1=>cases h
  rename_i gi KS;obtain⟨QN,aL,aX,bL⟩:=KF bT h;generalize bd:(λls=>exec X c (restore gi ls) λe aV=>match e with| .normal=>sE X.ib gi aV λfu=>some (Sum.inl fu)|e=>aY (k e aV))=f at bL;refine ahx (ι:={p:List D×Nat//bp f p.2 p.1=some b/\fR X.ib (restore gi p.1)}) (λp=>restore gi p.1.1) (λp=>p.1.2) ⟨(QN,X.n),bL,aX⟩ aL ?_;rintro⟨⟨ls,n⟩,YA,hC⟩;simp only at YA hC⊢;obtain⟨m,rfl,aw⟩:=aj5 YA;have round:∀x,f ls=some x->hl P X.T X.G N c (restore gi ls) (nO X.ib (λe aV=>match e with| .normal=>sE X.ib gi aV λfu=>some (Sum.inl fu)|e=>aY (k e aV)) x):=by intro x ag;rw[<-bd]at ag;exact q9 X bf b8 gj hm cj c bm hC ag
  have go:∀x,f ls=some x->(∀fu,x= .inl fu->bp f m fu=some b)->(∀b',x= .inr b'->b'=b)->hl P X.T X.G N c (restore gi ls) (J8 (λaV=>∃j:{p:List D×Nat//bp f p.2 p.1=some b/\fR X.ib (restore gi p.1)},g0 aV (restore gi j.1.1)/\j.1.2<m+1) (nO X.ib k b)):=by
   intro x ag aq av;refine AQ (round x ag) ?_;rintro e aV ⟨τ,aW,a2,bc⟩;have other:∀dp,e=dp->aY (k dp τ)=some x->nO X.ib k b e aV:=by rintro dp rfl aw;obtain⟨b',a4,rfl⟩:=Yx aw;rw[av b' rfl]at a4;exact⟨τ,aW,a2,a4⟩
   cases e with
   |normal=>obtain⟨fu,bw,bz,cz⟩:=KF a2 bc;cases cz;exact⟨⟨(fu,m),aq fu rfl,bz⟩,aW.trans bw,Nat.lt_succ_self m⟩
   |exit id=>exact other _ rfl bc|goto l=>exact other _ rfl bc|ret=>exact other _ rfl bc|panic c=>exact other _ rfl bc|outgrown=>exact other _ rfl bc
  rcases aw with⟨fu,a4,b7⟩|a4;.exact go _ a4 (by rintro _ ⟨⟩;exact b7) (by rintro _ ⟨⟩)
  exact go _ a4 (by rintro _ ⟨⟩) (by rintro _ ⟨⟩;rfl)
 | .rangeFunc _ _ _ _,β,σ,k,b,_,bT,h=>by cases h
 | .scope c,β,σ,k,b,bm,bT,h=>ahm (AQ (q9 X bf b8 gj hm cj c (by simpa[po]using bm) bT h) (by
   rintro e aV ⟨τ,aW,a2,bc⟩;cases e with
   |goto l=>cases bc
   |normal=>exact⟨τ,aW,a2,bc⟩|exit id=>exact⟨τ,aW,a2,bc⟩|ret=>exact⟨τ,aW,a2,bc⟩|panic c=>exact⟨τ,aW,a2,bc⟩|outgrown=>exact⟨τ,aW,a2,bc⟩))
 | .goto _,β,σ,k,b,_,bT,h=>by cases h
 | .refuse _,β,σ,k,b,_,bT,h=>by cases h
end
def YB{P:Program}{T:cd}{G:dn}{N:Nat}{c:Code}{σ:aI}{Q:Exit->aI->Prop}(h:hl P T G N c σ (λe aV=>∃τ,g0 aV τ/\Q e τ)):hl P T G N c σ Q:=by intro m fr ρ a w c2 cZ cj aB;refine wp_mono (h m fr ρ a w c2 cZ cj aB) ?_;rintro e cB w' ⟨aV,cI,cS,⟨τ,j6,hk⟩,af,aw,a4,b7,cO⟩;obtain⟨xR,xS,aW,a2,bc⟩:=j6 cI fr cS cB w' aw;exact⟨τ,xR,xS,hk,Mem.le_trans af aW,a2,a4,b7,cO.trans bc⟩
def aj7(T:cd)(rs:List ResultVar)(e:Exit)(σ:aI):Option D:=match e with| .normal=>aa (qZ T σ rs) (toD σ.objs)| .ret=>aa (qZ T σ rs) (toD σ.objs)|_=>none
def ur(X:ni)(fn:Func)(args:List aS):Option D:=match fn.body with|some c=>exec X c (start args λ_=>none) (aj7 X.T fn.results.toList)|none=>none
def nQ(T:cd)(os:Nat->Option (List Nat))(fn:Func):Bool:=match fn.body with|some c=>po T os fn.ntmps c&&decide (fn.ntmps<10000)&&!(fn.name== "runtime.NumGoroutine")|none=>false
def aj8{xs dk:List aS}(h:jF (λk=>k) (λ_=>False) xs dk):g0 (start xs λ_=>none) (start dk λ_=>none):=by
 intro m fr ρ a w cZ;refine⟨m,ρ,Mem.le_refl m,⟨cZ.mem,cZ.frame,cZ.apart,?_,?_,?_,?_,?_⟩,?_⟩;.rintro k ⟨o,aF⟩;cases aF
 .intro t;have ab:=cZ.aJ t;obtain⟨af,aw⟩:=h.ok;simp only[start]at ab⊢;cases aQ:dk[t]? with
  |none=>rw[xaP,aQ];exact .any _
  |some y=>
   obtain⟨x,ag,hle⟩:=aw t y aQ;rw[xaP,ag]at ab;rw[xaP,aQ];have a4:pb (λk=>k) (aI.used (start dk λ_=>none)) x y:=by unfold pb at hle⊢;split at hle<;>first|exact hle|(exact absurd hle.2 id)
   exact a4.ok (ρ:=ρ) ab
 .intro k o ak;cases ak
 .intro k o b ak;cases ak
 .intro k bq o o' b _ ak;cases ak
 intro k _ ao;exact absurd ao tS
def aj9{P:Program}(X:ni)(bf:dQ P X.T)(b8:hn P X.G X.C)(gj:kV P X.G X.H)(hm:P.follows .mixedOrders=true)(ji:X.ib=[]){f:FuncId}{fn:Func}(bd:P.funcs[f]?=some fn)(bm:nQ X.T X.qc fn=true){aO:List D}{as:List aS}(hle:jF (λk=>k) (λ_=>False) (aO.map .d) as)(b6:decide (aO.length<=fn.ntmps)=true){r:D} (h:ur X fn as=some r):eB P X.G f aO (·=r):=by
 have b6:=xba b6;unfold ur at h;unfold nQ at bm;split at h
 case h_2=>cases h
 rename_i c aj;simp only[aj,xam,xaG,xbZ]at bm;refine ahA bf bd aj bm.2 b6 ?_;refine Pt (aj8 hle) ?_;refine YB (AQ (q9 X bf b8 gj hm bm.1.2 c bm.1.1 (by intro k _ ao;exact absurd ao tS) h) ?_);rintro e aV ⟨τ,aW,a2,bc⟩;have fin:aa (qZ X.T τ fn.results.toList) (toD τ.objs)=some r->∃YC d x,qZ X.T τ fn.results.toList=some YC/\toD τ.objs YC=some d/\d.le x/\x=r:=by intro ab;obtain⟨u,af,aw⟩:=ft ab;exact⟨u,r,r,af,aw,D.le_refl _,rfl⟩
 refine⟨τ,aW,?_⟩;cases e with
 |normal=>exact⟨.inl rfl,fin bc⟩|ret=>exact⟨.inr rfl,fin bc⟩|exit id=>cases bc
 |goto l=>cases bc
 |panic c=>cases bc
 |outgrown=>cases bc
def KT(s:fS)(ls:List D):aI:=⟨λt=>(s.wj ls).getD t .any,fz (s.nN ls)⟩
def aka(X:ni)(s:fS)(pj:List wc)(rs:List ResultVar)(e:Exit)(σ:aI):Option (List D):=match e with
 | .normal=>aa (qZ X.T σ rs) λx=>sE X.ib ⟨[(0,s.res)],s.outs,pj⟩ ⟨λt=>if t=0 then x else .any,σ.objs⟩ some
 | .ret=>aa (qZ X.T σ rs) λx=>sE X.ib ⟨[(0,s.res)],s.outs,pj⟩ ⟨λt=>if t=0 then x else .any,σ.objs⟩ some
 |_=>none
def QP(X:ni)(fn:Func)(s:fS)(pj:List wc)(ls:List D):Option (List D):=match fn.body with|some c=>exec X c (KT s ls) (aka X s pj fn.results.toList)|none=>none
def akb{P:Program}(X:ni)(bf:dQ P X.T)(b8:hn P X.G X.C)(gj:kV P X.G X.H)(hm:P.follows .mixedOrders=true){s:fS}{fn:Func}(bd:P.funcs[s.f]?=some fn)(bm:nQ X.T X.qc fn=true)(b6:decide (s.args.length<=fn.ntmps)=true) (ji:(s.ins.all λp=>decide (p.1<10000)||X.ib.contains p.1)=true) {pj:List wc} {F:List D->Option (List D)} (h:∀ls fu,F ls=some fu->QP X fn s pj ls=some fu):e5 P X.G s F:=by
 have b6:=xba b6;unfold nQ at bm;split at bm
 case h_2=>cases bm
 rename_i c aj;simp only[xam,xaG,xbZ]at bm;refine⟨⟨fn,bd,bm.2,by rw[aj];rfl⟩,?_⟩;intro ls fu ig m fr ρ w vs c2 cZ aq Ju;have ag:=h ls fu ig;unfold QP at ag;rw[aj]at ag;simp only at ag;have fv:(s.wj ls).length=s.args.length:=by
  have:∀(l:List lr)(n:Nat),(q5 ls l n).1.length=l.length:=by
   intro l
   induction l with
   |nil=>intro n;rfl
   |cons x r ih=>intro n;simp[q5,ih]
  exact this _ _
 have akc:fR X.ib (KT s ls):=by
  intro k ak aj;obtain⟨cs,hG⟩:=AI aj;have:=vX hG;have ab:mi (s.nN ls)=s.ins.map (·.1):=x9 _ _ _;rw[ab]at this;obtain⟨p,aU,rfl⟩:=xax.1 this;have af:=xaz.1 ji p aU;simp only[xbb,xaG,List.contains_eq_mem]at af;rcases af with af|af
  .exact absurd af (Nat.not_lt.2 ak)
  exact af
 have hw:=q9 X bf b8 gj hm bm.1.2 c bm.1.1 akc ag;refine calls_of_wp bd aj ?_;have Eh:Den m fr ρ (KT s ls) {tmps:=vs.toArray++Array.replicate (fn.ntmps-vs.toArray.size) undef,defers:=[]} w:=by
  refine⟨cZ.mem,cZ.frame,cZ.apart,cZ.one,?_,cZ.objs,cZ.own,cZ.sep⟩;intro t;simp only[KT];by_cases aK:t<vs.length
  .have cv:t<(s.wj ls).length:=by rw[<-aq];exact aK
   have aB:=xab cv;have a6:=xab aK;have aL:(s.wj ls).getD t .any=(s.wj ls)[t]:=by rw[xaP,aB];rfl
   have aX:(vs.toArray++Array.replicate (fn.ntmps-vs.toArray.size) undef).getD t undef=vs[t]:=by rw[xbv,xbI (by simpa using aK)];simp[aK]
   rw[aL,aX];exact Ju t _ _ aB a6
  have aL:(s.wj ls).getD t .any= .any:=by rw[xaP,xbo (by omega)];rfl
  rw[aL];exact .any _
 have gJ:fn.ntmps<=(vs.toArray++Array.replicate (fn.ntmps-vs.toArray.size) undef).size:=by simp;omega
 refine wp_mono (YB hw m fr ρ _ w c2 Eh gJ rfl) ?_;rintro e cB w' ⟨aV,cI,cS,⟨a2,bc⟩,b7,cO,gx,hV,jE⟩;have fin:(aa (qZ X.T aV fn.results.toList) λx=>sE X.ib ⟨[(0,s.res)],s.outs,pj⟩ ⟨λt=>if t=0 then x else .any,aV.objs⟩ some)=some fu->cB.defers=[]/\∃v,(results fn cB.tmps).run P w'= .ok v w'/\∃v1 gD nf,Ending.returned v= .returned v1/\m.le gD/\KJ gD fr nf (fz (s.pn fu)) w'/\b5 gD nf (q6 (fz (s.pn fu))) (s.KK fu) v1/\∀k,10000<=k->eP (fz (s.nN ls) k)->nf k=ρ k:=by
  intro ab;obtain⟨x,af,aw⟩:=ft ab;obtain⟨v,bw,bz⟩:=WS (P:=P) bf cO af;obtain⟨ay5,eX,ei,jD⟩:=KF (σ:=⟨λt=>if t=0 then x else .any,aV.objs⟩) a2 aw;cases jD;have akd:Den cI fr cS ⟨λt=>if t=0 then x else .any,aV.objs⟩ {tmps:= #[v],defers:=[]} w':=by
   refine⟨cO.mem,cO.frame,cO.apart,cO.one,?_,cO.objs,cO.own,cO.sep⟩;intro t;by_cases aK:t=0;.subst aK;exact bz
   simp only[aK,xaF];exact .any _
  obtain⟨kx,lh,t1,t2,t3⟩:=eX cI fr cS _ w' akd;have ake:=t2.aJ 0;refine⟨hV,v,bw,v,kx,lh,rfl,Mem.le_trans b7 t1,⟨t2.mem,t2.frame,t2.apart,t2.one,λ_=> .any _,t2.objs,t2.own,t2.sep⟩,?_,?_⟩
  .exact ake
  intro k ak akf;obtain⟨pX,o0⟩:=jE k ak akf;rw[(t3 k ak pX).2,o0]
 cases e with
 |normal=>exact fin bc|ret=>exact fin bc|exit id=>cases bc
 |goto l=>cases bc
 |panic c=>cases bc
 |outgrown=>cases bc
def akg{P:Program}{T:cd}{os:Nat->Option (List Nat)}{f:FuncId}{fn:Func}(bd:P.funcs[f]?=some fn)(bm:nQ T os fn=true):vH P f:=by
 unfold nQ at bm;split at bm
 case h_2=>cases bm
 rename_i c aj;simp only[xam,xaG,xbZ]at bm;exact⟨fn,bd,bm.2,by rw[aj];rfl⟩
def yk{P:Program}{G:dn}{s:fS}{F:List D->Option (List D)}(wu:vH P s.f)(h:∀ls,F ls=none):e5 P G s F:=⟨wu,λls fu bx=>by rw[h]at bx;cases bx⟩
def ew:List (Tmp×Bd)->wo
 |[],_=>none|(t',e)::r,t=>if t=t' then some e else ew r t
def akh{P:Program}{G:dn}:kV P G (ew []):=by intro t e h;cases h
def aki{P:Program}{G:dn}{t:Tmp}{e:Bd}{l:List (Tmp×Bd)}(h:e5 P G e.s e.F)(bx:kV P G (ew l)):kV P G (ew ((t,e)::l)):=by
 intro t' dp he;unfold ew at he;split at he;.cases he;exact h
 exact bx t' dp he
def e6:List (Nat×List (List Key))->Nat->List (List Key)
 |[],_=>[]|(j,s)::r,k=>if k=j then s else e6 r k
def ff(l:List Tmp)(t:Tmp):Bool:=l.contains t
def ey:List (FuncId×(List D->Option D))->lL
 |[],_,_,_=>none|(ku,F)::r,d,f,aO=>if f=ku then F aO else ey r d f aO
def bu(P:Program)(G:dn)(f:FuncId)(F:List D->Option D):Prop:=∀aO r,F aO=some r->eB P G f aO (·=r)
def akj{P:Program}{G:dn}:hn P G (ey []):=by intro d f aO r h;cases h
def akk{P:Program}{G:dn}{f:FuncId}{F:List D->Option D}{l:List (FuncId×(List D->Option D))}(h:bu P G f F)(bx:hn P G (ey l)):hn P G (ey ((f,F)::l)):=by
 intro d ku aO r av;unfold ey at av;split at av;.rename_i e;subst e;exact h aO r av
 exact bx d ku aO r av
def b3:List (Nat×q4)->Nat->Option q4
 |[],_=>none|(j,s)::r,k=>if k=j then some s else b3 r k
def e7:List (Nat×List Nat)->Nat->Option (List Nat)
 |[],_=>none|(j,s)::r,k=>if k=j then some s else e7 r k
def ra(f:FuncId)(x:D):Bool:=match x with| .val (.func (.func ku) a b)=>ku==f&&a.size==0&&b.size==0|_=>false
def QQ{f:FuncId}{x:D}(h:ra f x=true):x= .val (.func (.func f) #[] #[]):=by
 unfold ra at h;split at h;.rename_i ku a b;simp only[xam,xbq]at h;obtain⟨⟨rfl,ab⟩,af⟩:=h;rw[xbg ab,xbg af]
 cases h
def hI(f:FuncId)(x:D):Option (List D):=match x with
 | .fn (.func ku) first oq=>if ku=f/\first.isEmpty=true then some oq else none
 |_=>none
def lQ{f:FuncId}{x:D}{oq:List D}(h:hI f x=some oq):x= .fn (.func f) [] oq:=by
 unfold hI at h;split at h
 .split at h;.rename_i ao;cases h;rw[ao.1,List.isEmpty_iff.1 ao.2]
  cases h
 cases h
def le_nil:jF (λk=>k) (λ_=>False) (List.map aS.d []) []:=trivial
def nR{x:D}{y:aS}{xs:List D}{dk:List aS}(h:pb (λk=>k) (λ_=>False) (.d x) y)(bx:jF (λk=>k) (λ_=>False) (List.map aS.d xs) dk):jF (λk=>k) (λ_=>False) (List.map aS.d (x::xs)) (y::dk):=⟨h,bx⟩
def akl{x:D}:pb (λk=>k) (λ_=>False) (.d x) (.d x):=⟨x,rfl,D.le_refl x⟩
theorem oA{c:List D}{o:Nat}:pb (λk=>k) (λ_=>False) (.d (.ref c o)) (.et c o):= .inr rfl
def al(t:Nat):Nat×lr:=(t,.b .d)
def sp(t:Nat):Nat×lr:=(t,.b (.ptr t 0))
def b0(t k:Nat):Nat×lr:=(t,.b (.row k))
def a9(k n:Nat):Key×lN:=(k,.box (List.replicate n (.b .d)))
def br(k n:Nat):Key×lN:=(k,.row n)
def akm(P:Program)(G:dn)(n:Nat)(c:List (FuncId×(List D->Option D)))(l j b:List (Nat×q4)):ni:=⟨er P,G,ey c,n,[],b3 l,b3 j,b3 b,e7 [],ew [],ff [],e6 []⟩
def eY{P:Program}(X:ni)(bf:dQ P X.T)(b8:hn P X.G X.C)(gj:kV P X.G X.H)(hm:P.follows .mixedOrders=true){f:FuncId}{fn:Func}(bd:P.funcs[f]?=some fn){aO:List D}{as:List aS}(hle:jF (λk=>k) (λ_=>False) (aO.map .d) as) {o:Option D} {r:D} (h:o=some r) (ji:X.ib=[]:=by rfl) (bm:nQ X.T X.qc fn=true:=by kernel_rfl) (b6:decide (aO.length<=fn.ntmps)=true:=by kernel_rfl) (he:ur X fn as=o:=by kernel_rfl):eB P X.G f aO (·=r):=aj9 X bf b8 gj hm ji bd bm hle b6 (he.trans h)
def iN{P:Program}(X:ni)(bf:dQ P X.T)(b8:hn P X.G X.C)(gj:kV P X.G X.H)(hm:P.follows .mixedOrders=true){s:fS}{fn:Func}(bd:P.funcs[s.f]?=some fn)(pj:List wc){F:List D->Option (List D)}(bm:nQ X.T X.qc fn=true:=by kernel_rfl)(b6:decide (s.args.length<=fn.ntmps)=true:=by kernel_rfl) (ji:(s.ins.all λp=>decide (p.1<10000)||X.ib.contains p.1)=true:=by kernel_rfl) (h:∀ls,QP X fn s pj ls=F ls:=by intros;kernel_rfl):e5 P X.G s F:=akb X bf b8 gj hm bd bm b6 ji λls fu bx=>(h ls).trans bx
def ca{x:D}{xs:List D}{dk:List aS}(h:jF (λk=>k) (λ_=>False) (List.map aS.d xs) dk):jF (λk=>k) (λ_=>False) (List.map aS.d (x::xs)) (.d x::dk):=nR akl h
def QR(g:Option D):List D->Option D
 |[]=>g|_=>none
@[simp] theorem ay6 {g:Option D}:QR g []=g:=rfl
def Ep{P:Program}(X:ni)(bf:dQ P X.T)(b8:hn P X.G X.C)(gj:kV P X.G X.H)(hm:P.follows .mixedOrders=true){f:FuncId}{fn:Func}(bd:P.funcs[f]?=some fn){g:Option D}(ji:X.ib=[]:=by rfl)(bm:nQ X.T X.qc fn=true:=by kernel_rfl)(b6:decide (0<=fn.ntmps)=true:=by kernel_rfl)(he:ur X fn []=g:=by intros;kernel_rfl):bu P X.G f (QR g):=by
 intro aO r h;unfold QR at h;split at h
 case h_2=>cases h
 exact eY X bf b8 gj hm bd le_nil h ji bm b6 he
def QS(g:D->Option D):List D->Option D
 |[ae]=>g ae|_=>none
@[simp] theorem ay7 {g:D->Option D} {ae:D}:QS g [ae]=g ae:=rfl
def cE{P:Program}(X:ni)(bf:dQ P X.T)(b8:hn P X.G X.C)(gj:kV P X.G X.H)(hm:P.follows .mixedOrders=true){f:FuncId}{fn:Func}(bd:P.funcs[f]?=some fn){g:D->Option D}(ji:X.ib=[]:=by rfl)(bm:nQ X.T X.qc fn=true:=by kernel_rfl)(b6:decide (1<=fn.ntmps)=true:=by kernel_rfl)(he:∀ae,ur X fn [.d ae]=g ae:=by intros;kernel_rfl):bu P X.G f (QS g):=by
 intro aO r h;unfold QS at h;split at h
 case h_2=>cases h
 exact eY X bf b8 gj hm bd (ca le_nil) h ji bm b6 (he _)
def QT(g:D->D->Option D):List D->Option D
 |[ae,an]=>g ae an|_=>none
@[simp] theorem ay8 {g:D->D->Option D} {ae an:D}:QT g [ae,an]=g ae an:=rfl
def dz{P:Program}(X:ni)(bf:dQ P X.T)(b8:hn P X.G X.C)(gj:kV P X.G X.H)(hm:P.follows .mixedOrders=true){f:FuncId}{fn:Func}(bd:P.funcs[f]?=some fn){g:D->D->Option D}(ji:X.ib=[]:=by rfl)(bm:nQ X.T X.qc fn=true:=by kernel_rfl)(b6:decide (2<=fn.ntmps)=true:=by kernel_rfl)(he:∀ae an,ur X fn [.d ae,.d an]=g ae an:=by intros;kernel_rfl):bu P X.G f (QT g):=by
 intro aO r h;unfold QT at h;split at h
 case h_2=>cases h
 exact eY X bf b8 gj hm bd (ca (ca le_nil)) h ji bm b6 (he _ _)
def QU(g:D->D->D->Option D):List D->Option D
 |[ae,an,bb]=>g ae an bb|_=>none
@[simp] theorem ay9 {g:D->D->D->Option D} {ae an bb:D}:QU g [ae,an,bb]=g ae an bb:=rfl
def g2{P:Program}(X:ni)(bf:dQ P X.T)(b8:hn P X.G X.C)(gj:kV P X.G X.H)(hm:P.follows .mixedOrders=true){f:FuncId}{fn:Func}(bd:P.funcs[f]?=some fn){g:D->D->D->Option D}(ji:X.ib=[]:=by rfl)(bm:nQ X.T X.qc fn=true:=by kernel_rfl)(b6:decide (3<=fn.ntmps)=true:=by kernel_rfl)(he:∀ae an bb,ur X fn [.d ae,.d an,.d bb]=g ae an bb:=by intros;kernel_rfl):bu P X.G f (QU g):=by
 intro aO r h;unfold QU at h;split at h
 case h_2=>cases h
 exact eY X bf b8 gj hm bd (ca (ca (ca le_nil))) h ji bm b6 (he _ _ _)
def QV(g:D->D->D->D->Option D):List D->Option D
 |[ae,an,bb,b4]=>g ae an bb b4|_=>none
@[simp] theorem aza {g:D->D->D->D->Option D} {ae an bb b4:D}:QV g [ae,an,bb,b4]=g ae an bb b4:=rfl
def pq{P:Program}(X:ni)(bf:dQ P X.T)(b8:hn P X.G X.C)(gj:kV P X.G X.H)(hm:P.follows .mixedOrders=true){f:FuncId}{fn:Func}(bd:P.funcs[f]?=some fn){g:D->D->D->D->Option D}(ji:X.ib=[]:=by rfl)(bm:nQ X.T X.qc fn=true:=by kernel_rfl)(b6:decide (4<=fn.ntmps)=true:=by kernel_rfl)(he:∀ae an bb b4,ur X fn [.d ae,.d an,.d bb,.d b4]=g ae an bb b4:=by intros;kernel_rfl):bu P X.G f (QV g):=by
 intro aO r h;unfold QV at h;split at h
 case h_2=>cases h
 exact eY X bf b8 gj hm bd (ca (ca (ca (ca le_nil)))) h ji bm b6 (he _ _ _ _)
def QW(g:D->D->D->D->D->Option D):List D->Option D
 |[ae,an,bb,b4,cK]=>g ae an bb b4 cK|_=>none
@[simp] theorem azb {g:D->D->D->D->D->Option D} {ae an bb b4 cK:D}:QW g [ae,an,bb,b4,cK]=g ae an bb b4 cK:=rfl
def akn{P:Program}(X:ni)(bf:dQ P X.T)(b8:hn P X.G X.C)(gj:kV P X.G X.H)(hm:P.follows .mixedOrders=true){f:FuncId}{fn:Func}(bd:P.funcs[f]?=some fn){g:D->D->D->D->D->Option D}(ji:X.ib=[]:=by rfl)(bm:nQ X.T X.qc fn=true:=by kernel_rfl)(b6:decide (5<=fn.ntmps)=true:=by kernel_rfl)(he:∀ae an bb b4 cK,ur X fn [.d ae,.d an,.d bb,.d b4,.d cK]=g ae an bb b4 cK:=by intros;kernel_rfl):bu P X.G f (QW g):=by
 intro aO r h;unfold QW at h;split at h
 case h_2=>cases h
 exact eY X bf b8 gj hm bd (ca (ca (ca (ca (ca le_nil))))) h ji bm b6 (he _ _ _ _ _)
def ako(g:D->D->D->D->D->D->Option D):List D->Option D
 |[ae,an,bb,b4,cK,c3]=>g ae an bb b4 cK c3|_=>none
@[simp] theorem azc {g:D->D->D->D->D->D->Option D} {ae an bb b4 cK c3:D}:ako g [ae,an,bb,b4,cK,c3]=g ae an bb b4 cK c3:=rfl
def akp(g:D->D->D->D->D->D->D->Option D):List D->Option D
 |[ae,an,bb,b4,cK,c3,c4]=>g ae an bb b4 cK c3 c4|_=>none
@[simp] theorem azd {g:D->D->D->D->D->D->D->Option D} {ae an bb b4 cK c3 c4:D}:akp g [ae,an,bb,b4,cK,c3,c4]=g ae an bb b4 cK c3 c4:=rfl
def yl{P:Program}{T:cd}{os:Nat->Option (List Nat)}{f:FuncId}{fn:Func}(h:P.funcs[f]?=some fn)(bm:nQ T os fn=true:=by kernel_rfl):vH P f:=akg h bm
@[congr] def aze {α β:Type} {x y:Option α} {f:α->Option β} (h:x=y):aa x f=aa y f:=by rw[h]
@[simp] theorem eH {α β:Type} {a:α} {f:α->Option β}:aa (some a) f=f a:=rfl
@[simp] theorem azf {α β:Type} {f:α->Option β}:aa (none:Option α) f=none:=rfl
@[congr] def azg {β:Type} {c d:Bool} {p:Option β} (h:c=d):aD c p=aD d p:=by rw[h]
@[simp] theorem sI {β:Type} {p:Option β}:aD true p=p:=rfl
@[simp] theorem azh {β:Type} {p:Option β}:aD false p=none:=rfl
@[congr] def azi {β:Type} {x y:D} {p q:Option β} (h:x=y):aH x p q=aH y p q:=by rw[h]
@[simp] theorem lR {β:Type} {b:Bool} {p q:Option β}:aH (ay b) p q=if b=true then p else q:=by cases b<;>rfl
@[congr] def azj {x y:D} {w:Bool} {p:Option D} (h:x=y):bM x w p=bM y w p:=by rw[h]
@[simp] theorem ec {b w:Bool} {p:Option D}:bM (ay b) w p=if b=w then p else some ln:=rfl
@[simp] theorem QX {dY:Type} {b w:Bool} {p q:Option dY}:v8 (ay b) w p q=if b=w then p else q:=rfl
@[simp] theorem azk {dY:Type} {w:Bool} {p q:Option dY}:v8 ln w p q=q:=rfl
@[simp] theorem jG {w:Bool} {p:Option D}:bM ln w p=some ln:=rfl
@[simp] theorem dS {t:Bool} {a b:D}:bW (ay t) a b=some (if t=true then a else b):=rfl
@[simp] theorem azl {c:Prop} [Decidable c] {a b:Bool}:(if c then ay a else ay b)=ay (if c then a else b):=by split<;>rfl
@[simp] theorem YD {α:Type} {c:Prop} [Decidable c] {a b:α}:(if c then some a else some b)=some (if c then a else b):=by split<;>rfl
@[simp] theorem azm {α:Type} {c:Prop} [Decidable c] {a b d:α}:(if c then(if c then a else b)else d)=if c then a else d:=by split<;>simp_all
@[simp] theorem QY {β:Type} {b:β}:aY (some b)=some (.inr b):=rfl
@[simp] theorem azn {β:Type}:aY (none:Option β)=none:=rfl
@[simp] theorem qd {β:Type} {f:List D->Option β} {ls:List D}:ba f (.inl ls)=f ls:=rfl
@[simp] theorem EW {β:Type} {f:List D->Option β} {b:β}:ba f (.inr b)=some b:=rfl
@[simp] theorem nS {x:D} {l:List D}:I (x::l) 0=x:=rfl
@[simp] theorem pr {x:D} {l:List D} {n:Nat}:I (x::l) (n+1)=I l n:=rfl
@[simp] theorem QZ {k:Nat} {es:List (List D)}:ar (.ax k es)=es:=rfl
@[simp] theorem akq {es:List (Value×D)}:ej (.mp es)=es:=rfl
@[simp] theorem akr {cs:List D}:Kn (.agg cs)=cs:=rfl
@[simp] theorem azo {cs:List D} {i:Nat}:ad (.agg cs) i=cs.getD i ln:=rfl
@[simp] theorem aks {n:Int}:bE (J n)=true:=rfl
@[simp] theorem akt {n:Bool}:bE (ay n)=true:=rfl
@[simp] theorem aku {n:ByteArray}:bE (aC n)=true:=rfl
@[simp] theorem akv {k:Nat} {es:List (List D)}:bE (.ax k es)=true:=rfl
@[simp] theorem azp {es:List (Value×D)}:bE (.mp es)=true:=rfl
@[simp] theorem akw:bE (.val (.slice none 0 0))=true:=rfl
@[simp] theorem akx {n:Int}:(J n).one=true:=rfl
@[simp] theorem aky {n:Bool}:(ay n).one=true:=rfl
@[simp] theorem akz {n:ByteArray}:(aC n).one=true:=rfl
@[simp] theorem akA {k:Nat} {es:List (List D)}:(D.ax k es).one=true:=rfl
@[simp] theorem akB:(D.val (.slice none 0 0)).one=true:=rfl
@[simp] theorem azq {n:Nat} {cs:List D}:a5 n (.agg cs)=(cs.length==n&&cs.all D.one):=rfl
@[simp] theorem azr:nL (.val (.slice none 0 0))=true:=rfl
@[simp] theorem iO {n off:Nat} {cs:List D}:a3 false n off cs=cs[off]?:=rfl
theorem akC{n off:Nat}{cs:List D}:a3 true n off cs=if off+n<=cs.length then some (.agg ((cs.drop off).take n))else none:=rfl
@[simp] theorem akD {a:Bool} {n off:Nat} {cs:List D}:lJ a n off (.agg cs)=a3 a n off cs:=rfl
@[simp] theorem Q0 {i:Nat} {vs:List D}:bs i (.a1 vs)=vs[i]?:=rfl
@[simp] theorem akE {k:Nat} {es:List (List D)}:bK (.ax k es)=some (J es.length):=rfl
@[simp] theorem akF:bK (.val (.slice none 0 0))=some (J 0):=rfl
@[simp] theorem Q1 {s:ByteArray}:pf (aC s)=some (J s.size):=rfl
@[simp] theorem YE {k:Nat} {es:List (List D)} {i:Nat}:bn k (.ax k es) (J (i:Int))=es[i]?:=by simp[bn,J]
@[simp] theorem azs {k:Nat} {es:List (List D)}:bn k (.ax k es) (J 0)=es[0]?:=by simp[bn,J]
def akG{k:Nat}{es:List (List D)}{i:Int}(h:0<=i):bn k (.ax k es) (J i)=es[i.toNat]?:=by simp[bn,J,h]
@[simp] theorem oB {n i:Nat}:cg n (J (i:Int))=if i<n then some i else none:=by simp[cg,J]
@[simp] theorem akH {k:Nat} {es:List (List D)}:kS (.ax k es)=some (k,es):=rfl
@[simp] theorem azt:kS (.val (.slice none 0 0))=some (0,[]):=rfl
def gk{n b:Nat}(ab:n*b<=140737488355328)(af:n<=4611686018427387904):c5 n b=true:=by simp[c5,ab,af]
section
variable{bt:Bool}{a b:Int}
@[simp] theorem EX:ai bt .lss (J a) (J b)=some (ay (decide (a<b))):=rfl
@[simp] theorem KU:ai bt .leq (J a) (J b)=some (ay (decide (a<=b))):=rfl
@[simp] theorem oC:ai bt .gtr (J a) (J b)=some (ay (decide (a>b))):=rfl
@[simp] theorem Bj:ai bt .geq (J a) (J b)=some (ay (decide (a>=b))):=rfl
@[simp] theorem Bk:ai bt .eql (J a) (J b)=some (ay (a==b)):=rfl
@[simp] theorem Bl:ai bt .neq (J a) (J b)=some (ay (a !=b)):=rfl
theorem akI:ai bt .add (J a) (J b)=some (J (IntKind.i64.wrap (a+b))):=rfl
theorem Q2:ai bt .sub (J a) (J b)=some (J (IntKind.i64.wrap (a-b))):=rfl
theorem akJ:ai bt .mul (J a) (J b)=some (J (IntKind.i64.wrap (a*b))):=rfl
def gr(ab:-9223372036854775808<=a+b)(af:a+b<=9223372036854775807):ai bt .add (J a) (J b)=some (J (a+b)):=by rw[akI,wrap64 _ ab af]
def mq(ab:-9223372036854775808<=a-b)(af:a-b<=9223372036854775807):ai bt .sub (J a) (J b)=some (J (a-b)):=by rw[Q2,wrap64 _ ab af]
def KV(ab:-9223372036854775808<=a*b)(af:a*b<=9223372036854775807):ai bt .mul (J a) (J b)=some (J (a*b)):=by rw[akJ,wrap64 _ ab af]
def YF(h:b≠0):ai bt .quo (J a) (J b)=some (J (IntKind.i64.wrap (a.tdiv b))):=by simp[ai,DK,J,h,nK]
def akK(h:b≠0):ai bt .rem (J a) (J b)=some (J (a.tmod b)):=by simp[ai,DK,J,h,nK]
@[simp] theorem Q3 {x y:ByteArray}:ai bt .eql (aC x) (aC y)=some (ay (decide (x=y))):=rfl
@[simp] theorem YG {x y:ByteArray}:ai bt .neq (aC x) (aC y)=some (ay (!decide (x=y))):=rfl
@[simp] theorem akL {x y:ByteArray}:ai bt .lss (aC x) (aC y)=some (ay (blt x y)):=rfl
@[simp] theorem Q4 {x y:ByteArray}:ai bt .gtr (aC x) (aC y)=some (ay (!(blt x y||decide (x=y)))):=rfl
@[simp] theorem azu {x y:Bool}:ai true .eql (ay x) (ay y)=some (ay (x==y)):=rfl
@[simp] theorem azv {x y:Bool}:ai true .neq (ay x) (ay y)=some (ay (x !=y)):=rfl
@[simp] theorem Bm {x:Bool}:dr .not (ay x)=some (ay (!x)):=rfl
end
attribute [simp] xbw xcb List.getElem?_nil List.getD_cons_zero List.getD_cons_succ
theorem jH{β:Type}{f:List D->Option (List D⊕β)}{n:Nat}{ls:List D}:bp f (n+1) ls=aa (f ls) λx=>match x with| .inl fu=>bp f n fu| .inr b=>some b:=rfl
def YH{β:Type}{f:List D->Option (List D⊕β)}(eQ:Nat->List D):∀{m n j:Nat},(∀i,j<=i->i<j+m->f (eQ i)=some (.inl (eQ (i+1))))->m<=n->bp f n (eQ j)=bp f (n-m) (eQ (j+m))
 |0,n,j,_,_=>rfl|m+1,0,j,_,h=>absurd h (by omega)
 |m+1,n+1,j,aG,h=>by
  rw[jH,aG j (xal j) (by omega)];simp only[eH];have:=YH (f:=f) eQ (m:=m) (n:=n) (j:=j+1) (λi ab af=>aG i (by omega) (by omega)) (by omega);rw[this]
  congr 1
  .omega
  congr 1;omega
theorem nj{β:Type}{f:List D->Option (List D⊕β)}{ls:List D}{n:Nat}{b:β}(eQ:Nat->List D)(m:Nat)(au:ls=eQ 0)(aG:∀i,i<m->f (eQ i)=some (.inl (eQ (i+1))))(he:f (eQ m)=some (.inr b))(aM:m<n):bp f n ls=some b:=by subst au;rw[YH eQ (m:=m) (λi _ h=>aG i (by omega)) (by omega)];obtain⟨k,ak⟩:∃k,n-m=k+1:=⟨n-m-1,by omega⟩;rw[ak,jH,xau,he];rfl
end Go.Am
