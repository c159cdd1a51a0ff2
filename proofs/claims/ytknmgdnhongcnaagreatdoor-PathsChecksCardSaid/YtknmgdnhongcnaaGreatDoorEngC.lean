/- An evaluator of code over such values, and that what it answers the code does. No condition. -/
import Derived.Test.YtknmgdnhongcnaaGreatDoorEngS
import Derived.KernelRfl
set_option linter.all false
set_option linter.unnecessarySimpa false
namespace Go.Am
def R{α β:Type}(x:Option α)(f:α->Option β):Option β:=match x with|some a=>f a|none=>none
def fN{α β:Type}{x:Option α}{f:α->Option β}{b:β}(h:R x f=some b):∃a,x=some a/\f a=some b:=by
 cases x with
 |none=>cases h
 |some a=>exact⟨a,rfl,h⟩
def ay{β:Type}(c:Bool)(p:Option β):Option β:=match c with|true=>p|false=>none
def nb{β:Type}{c:Bool}{p:Option β}{b:β}(h:ay c p=some b):c=true/\p=some b:=by
 cases c with
 |false=>cases h
 |true=>exact⟨rfl,h⟩
def aA{β:Type}(x:D)(p q:Option β):Option β:=match x with| .val (.bool true)=>p| .val (.bool false)=>q|_=>none
def aad{β:Type}{x:D}{p q:Option β}{b:β}(h:aA x p q=some b):(x= .val (.bool true)/\p=some b)\/(x= .val (.bool false)/\q=some b):=by
 unfold aA at h;split at h;.exact .inl ⟨rfl,h⟩
 .exact .inr ⟨rfl,h⟩
 cases h
def kG:D:= .val (.tuple #[])
def p2:Option aY->Option D
 |some (.d r)=>some r|_=>none
def AL{x:Option aY}{r:D}(h:p2 x=some r):x=some (.d r):=by
 unfold p2 at h;split at h;.cases h;rfl
 cases h
def M9:D->List D
 | .agg cs=>cs|_=>[]
def aa(x:D)(i:Nat):D:=(M9 x).getD i kG
def aP:D->List (List D)
 | .aE _ es=>es|_=>[]
def gZ:D->List (Value×D)
 | .mp es=>es|_=>[]
def bZ(x:D):Bool:=x.one
def aL(n:Nat)(x:D):Bool:=match x with| .agg cs=>cs.length==n&&cs.all D.one|_=>false
def o3(x:D):Bool:=match x with| .val (.slice none 0 0)=>true|_=>false
def amc{n:Nat}{x:D}(h:aL n x=true):∃cs,x= .agg cs/\cs.length=n/\cs.all D.one=true:=by
 unfold aL at h;split at h;.rename_i cs;rw[xai,xbH]at h;exact⟨cs,rfl,h.1,h.2⟩
 cases h
def amd{n:Nat}{cs:List D}(h:cs.length=n):((List.range n).map λi=>aY.d (aa (.agg cs) i))=cs.map .d:=by
 apply xbR;intro i;simp only[xaj];by_cases ag:i<n;.rw[xcd ag,xab (by omega)];simp[aa,M9,xaW,h,ag]
 rw[xaT (by simp;omega),xaT (by omega)];rfl
def b9(bt:Bool)(op:BinOp)(x y:D):Option D:=match x,y with
 | .val (.int k a),.val (.int bO b)=>p2 (match op with
  | .shl=>if b<0 then none else some (.d (.val (.int k (k.wrap (a*2^(min b.toNat k.bits))))))
  | .shr=>if b<0 then none else some (.d (.val (.int k (a.fdiv (2^(min b.toNat k.bits))))))
  |_=>if k=bO then GM op k a b else none)
 | .val (.string a),.val (.string b)=>p2 (Rt op a b)| .val (.bool a),.val (.bool b)=>if bt then p2 (Ru op a b)else none
 |_,_=>none
def ame{T:cr}{t:TypeId}{op:BinOp}{x y r:D}(h:b9 (GN T t) op x y=some r):x9 T op t (.d x) (.d y)=some (.d r):=by
 unfold b9 at h;unfold x9;split at h;.have:=AL h;cases op<;>exact this
 .exact AL h
 .split at h;.rename_i an;simp only[an,xay];exact AL h
  cases h
 cases h
def Sw(l:List TypeDesc)(op:BinOp)(x y:D):Option D:=match x,y with| .agg xs,.agg dy=>p2 (Rv op l xs dy)|_,_=>none
def amf{T:cr}{t:TypeId}{op:BinOp}{x y r:D}{l:List TypeDesc}(ak:T.eqs t=some l)(h:Sw l op x y=some r):x9 T op t (.d x) (.d y)=some (.d r):=by
 unfold Sw at h;split at h;.unfold x9;simp only[ak];exact AL h
 cases h
def aae(op:BinOp)(x y:D):Option D:=match op with
 | .eql=>if o3 y then(match x with| .val (.slice none _ _)=>some (.val (.bool true))| .aE _ (_::_)=>some (.val (.bool false))|_=>none)else none
 | .neq=>if o3 y then(match x with| .val (.slice none _ _)=>some (.val (.bool false))| .aE _ (_::_)=>some (.val (.bool true))|_=>none)else none
 |_=>none
def cx(op:UnOp)(x:D):Option D:=match op,x with| .not,.val (.bool b)=>some (.val (.bool !b))| .neg,.val (.int k n)=>some (.val (.int k (k.wrap (0-n))))|_,_=>none
def ox(k:IntKind)(x:D):Option D:=match x with| .val (.int _ n)=>some (.val (.int k (k.wrap n)))|_=>none
def aaf(x:D):Option D:=match x with| .val (.string b)=>some (.val (.string b))|_=>none
def fW(c a b:D):Option D:=match c with
 | .val (.bool t)=>some (if t then a else b)
 |_=>none
def bh(agg:Bool)(n off:Nat)(cs:List D):Option D:=match agg with
 |true=>if off+n<=cs.length then some (.agg ((cs.drop off).take n))else none
 |false=>cs[off]?
def mr(agg:Bool)(n off:Nat)(x:D):Option D:=match x with| .agg cs=>bh agg n off cs|_=>none
def bk(i:Nat)(x:D):Option D:=match x with| .aU vs=>vs[i]?|_=>none
def sZ(s i:D):Option D:=match s,i with| .val (.string s),.val (.int _ n)=>p2 (Mk s n)|_,_=>none
def qI(x:Option D)(Rz:Nat):Option Nat:=match x with
 |none=>some Rz|some (.val (.int _ n))=>if 0<=n then some n.toNat else none
 |_=>none
theorem Na(x:Option D)(d:Nat):rD (x.map .d) d=qI x d:=by cases x with|none=>rfl|some x=>cases x<;>first|rfl|(rename_i v;cases v<;>rfl)
def aag(s:D)(lo ag:Option D):Option D:=match s with
 | .val (.string s)=>match qI ag s.size,qI lo 0 with
  |some h,some l=>if l<=h/\h<=s.size then some (.val (.string (s.extract l h)))else none
  |_,_=>none
 |_=>none
def kt(k:Nat)(x:D)(lo ag:Option D):Option D:=match x with
 | .aE bO es=>match qI ag es.length,qI lo 0 with
  |some h,some l=>if l<=h/\h<=es.length/\bO=k then some (.aE bO ((es.drop l).take (h-l)))else none
  |_,_=>none
 |_=>none
def qJ(n:Nat)(lo ag:Option D):Option (Nat×Nat):=match qI ag n,qI lo 0 with
 |some h,some l=>if l<=h/\h<=n then some (l,h-l)else none
 |_,_=>none
def qK(x:D):Option D:=match x with| .val (.string s)=>some (.val (.int .i64 s.size))|_=>none
def bs(x:D):Option D:=match x with| .aE _ es=>some (.val (.int .i64 es.length))| .val (.slice _ n _)=>some (.val (.int .i64 n))|_=>none
def aah(x:D):Option D:=match x with| .val (.map none)=>some (.val (.int .i64 0))| .mp es=>some (.val (.int .i64 es.length))|_=>none
def bp(k:Nat)(x i:D):Option (List D):=match i with
 | .val (.int _ n)=>if 0<=n then(match x with
  | .aE bO es=>if bO=k then es[n.toNat]? else none
  |_=>none)else none
 |_=>none
def c4(n:Nat)(i:D):Option Nat:=match i with
 | .val (.int _ j)=>if 0<=j/\j<n then some j.toNat else none
 |_=>none
def oy(x:D):Option (Nat×List (List D)):=match x with| .aE k es=>some (k,es)| .val (.slice none 0 _)=>some (0,[])|_=>none
def lW(gq:Bool)(l:List D):Option D:=p2 (sG gq (l.map .d))
def dd(n bytes:Nat):Bool:=decide (n*bytes<=140737488355328)&&decide (n<=4611686018427387904)
def s3(bytes:Nat)(l c:D):Option Nat:=match l,c with
 | .val (.int _ l),.val (.int _ c)=>if 0<=l/\l<=c/\(bytes:Int)*c<=281474976710656/\c<=9223372036854775807 then some l.toNat else none
 |_,_=>none
def k6(kind:TypeDesc)(zero:Value)(ok:Bool)(es:List (Value×D))(k:D):Option D:=match k with
 | .val fp=>match findD kind fp es with
  |some (some x)=>some (if ok then .aU [x,.val (.bool true)]else x)
  |some none=>some (if ok then .aU [sH zero,.val (.bool false)]else sH zero)
  |none=>none
 |_=>none
def nO(x:D):Option (List (Value×D)):=match x with| .val (.map none)=>some []| .mp es=>some es|_=>none
def s4(kind:TypeDesc)(es:List (Value×D))(k x:D):Option (List (Value×D)):=match k with| .val fp=>sI kind fp x es|_=>none
section
variable{β:Type}
def Hu:List aY->Option β->Option β
 |[],p=>p| .d a::r,p=>ay (bZ a) (Hu r p)|x::r,p=>if x.one=true then Hu r p else none
def Sx{p:Option β}{b:β}:∀{cs:List aY},Hu cs p=some b->cs.all aY.one=true/\p=some b
 |[],h=>⟨rfl,h⟩
 |x::r,h=>by
  unfold Hu at h;split at h;.rename_i e;cases e
  .rename_i a yb pT e;cases e;obtain⟨ad,ae⟩:=nb h;obtain⟨az,a3⟩:=Sx ae;exact⟨by rw[xaH,az,xbt];exact ad,a3⟩
  rename_i e;cases e;split at h;.rename_i af;obtain⟨az,a3⟩:=Sx h;exact⟨by rw[xaH,az,xbt];exact af,a3⟩
  cases h
def D1(n:Nat)(x:aY)(k:List aY->Option β):Option β:=match x with
 | .d a=>match n with|1=>ay (bZ a) (k [.d a])|_=>ay (aL n a) (k ((List.range n).map λi=> .d (aa a i)))
 | .agg cs=>Hu cs (k cs)|x=>match cellsOf x with|some cs=>k cs|none=>none
def Nb{n:Nat}{x:aY}{k:List aY->Option β}{b:β}(h:D1 n x k=some b):∃cs,cellsOf x=some cs/\k cs=some b:=by
 unfold D1 at h;split at h
 .rename_i a;split at h
  .obtain⟨ad,ae⟩:=nb h;refine⟨_,?_,ae⟩;unfold bZ at ad;unfold cellsOf;split;.rename_i he;cases he;cases ad
   .rename_i he;cases he
   rw[xac (show aY.one (.d a)=true from ad)]
  obtain⟨ad,ae⟩:=nb h;obtain⟨cs,rfl,aZ,a6⟩:=amc ad;rw[amd aZ]at ae;exact⟨_,by simp only[cellsOf,a6,xay],ae⟩
 .obtain⟨ad,ae⟩:=Sx h;exact⟨_,by simp only[cellsOf,ad,xay],ae⟩
 split at h;.rename_i cs iy;exact⟨cs,iy,h⟩
 cases h
def Nc(place:Nat->Option (Nat×Nat))(cells:List aY):List (Nat×aY)->(List aY->Option β)->Option β
 |[],k=>k cells|(i,x)::rest,k=>match place i with|none=>none|some (off,size)=>D1 size x λcs=>if cs.length=size/\off+cs.length<=cells.length then Nc place (oV cells off cs) rest k else none
def aai{place:Nat->Option (Nat×Nat)}:∀{parts:List (Nat×aY)} {cells:List aY} {k:List aY->Option β} {b:β},Nc place cells parts k=some b->∃cs,z8 place cells parts=some cs/\k cs=some b
 |[],cells,k,b,h=>⟨cells,rfl,h⟩
 |(i,x)::rest,cells,k,b,h=>by
  unfold Nc at h;split at h;.cases h
  rename_i off size a1;obtain⟨cs,ad,ae⟩:=Nb h;split at ae
  case isFalse=>cases ae
  rename_i aj;obtain⟨out,az,a3⟩:=aai ae;exact⟨out,by unfold z8;simp only[a1,ad];rw[xac aj];exact az,a3⟩
def Nd(size:Nat)(n:Nat):List (Nat×aY)->(List (List D)->Option β)->Option β
 |[],k=>k []
 |(i,x)::r,k=>if i=n then D1 size x λcs=>match lR cs with
   |some aM=>if aM.length=size then Nd size (n+1) r λl=>k (aM::l)else none
   |none=>none
  else none
def aaj{size:Nat}:∀{parts:List (Nat×aY)} {n:Nat} {k:List (List D)->Option β} {b:β},Nd size n parts k=some b->∃es,yg size n parts=some es/\k es=some b
 |[],n,k,b,h=>⟨[],rfl,h⟩
 |(i,x)::r,n,k,b,h=>by
  unfold Nd at h;split at h
  case isFalse=>cases h
  rename_i ag;obtain⟨cs,ad,ae⟩:=Nb h;split at ae
  case h_2=>cases ae
  rename_i aM fA;split at ae
  case isFalse=>cases ae
  rename_i ak;obtain⟨es,az,a3⟩:=aaj ae;exact⟨aM::es,by unfold yg;simp only[ag,xay,ad,fA,az,ak],a3⟩
end
section
variable{β:Type}
def uX(T:cr)(G:dG)(σ:aK)(o:Oper)(k:aK->Option β):Option β:=match hp T G σ o with|some a2=>k a2|none=>none
def lu(σ:aK)(dst:Option Tmp)(k:aK->Option β)(p:Option D):Option β:=R p λv=>k (σ.put dst (.d v))
def oz(T:cr)(σ:aK)(dst:Option Tmp)(k:aK->Option β)(r:aY)(cC:List (Key×c0)):Option β:=match sK (T.born (dst.getD 9999)) (dst.getD 9999) (r,cC)with|(r,cC)=>k (aK.put ⟨σ.aS,dS σ.objs cC⟩ dst r)
def Nf:Option aY->Option (Option D)
 |none=>some none|some (.d a)=>some (some a)|_=>none
theorem aak{x:Option aY}{y:Option D}(h:Nf x=some y):x=y.map .d:=by unfold Nf at h;split at h<;>cases h<;>rfl
def aal(T:cr)(t:TypeId):Bool:=match T t with|some ⟨.slice _,_,_,_⟩=>true|_=>false
def Sy(T:cr)(G:dG)(σ:aK)(o:Oper)(op:BinOp)(t:TypeId)(x y:Operand)(k:aK->Option β):Option β:=match ct G σ.aS x,ct G σ.aS y with
 | .d a,.d b=>match aal T t with|true=>lu σ o.dst k (aae op a b)|false=>match T.eqs t with|some l=>lu σ o.dst k (Sw l op a b)|none=>lu σ o.dst k (b9 (GN T t) op a b)
 |_,_=>uX T G σ o k
def Sz(T:cr)(G:dG)(σ:aK)(o:Oper)(s:TypeId)(x:Operand)(f:Nat)(k:aK->Option β):Option β:=match GQ T s f with
 |some (off,i)=>match ct G σ.aS x with| .d a=>lu σ o.dst k (mr (wk i.desc) i.size off a)|_=>uX T G σ o k
 |none=>none
def SA(T:cr)(G:dG)(σ:aK)(o:Oper)(t:TypeId)(a:Operand)(k:aK->Option β):Option β:=match T t with
 |some i=>match ct G σ.aS a with
  | .e6 cs off=>lu σ o.dst k (bh (wk i.desc) i.size off cs)
  | .gL key dg e7 off=>match σ.objs key with
   |some (.row bO es)=>if dg=bO then R es[e7]? λe=>lu σ o.dst k (bh (wk i.desc) i.size off e)else none
   |_=>none
  |_=>uX T G σ o k
 |none=>none
def SB(T:cr)(G:dG)(σ:aK)(o:Oper)(t:TypeId)(x e7:Operand)(k:aK->Option β):Option β:=match T t with
 |some ⟨.slice e,_,_,_⟩=>match T e with
  |some bM=>match ct G σ.aS e7 with
   | .d i=>match ct G σ.aS x with
    | .d a=>R (bp bM.size a i) λc=>k (σ.put o.dst (.e6 c 0))
    | .row key=>match σ.objs key with
     |some (.row bO es)=>if bO=bM.size then R (c4 es.length i) λn=>k (σ.put o.dst (.gL key bO n 0))else none
     |_=>none
    | .sub key bO i0 len=>if bO=bM.size then R (c4 len i) λn=>k (σ.put o.dst (.gL key bO (i0+n) 0))else none
    |_=>none
   |_=>none
  |none=>none
 |some ⟨.array len e,_,_,_⟩=>match T e with
  |some bM=>match ct G σ.aS e7 with
   | .d i=>R (c4 len i) λn=>match GS (ct G σ.aS x) (n*bM.size)with|some r=>k (σ.put o.dst r)|none=>none
   |_=>none
  |none=>none
 |_=>none
def SC(T:cr)(G:dG)(σ:aK)(o:Oper)(t:TypeId)(x:Operand)(lo ag:Option Operand)(k:aK->Option β):Option β:=match Nf (lo.map (ct G σ.aS)),Nf (ag.map (ct G σ.aS))with
 |some l,some h=>match T t with
  |some ⟨.string,_,_,_⟩=>match ct G σ.aS x with| .d a=>lu σ o.dst k (aag a l h)|_=>none
  |some ⟨.slice e,_,_,_⟩=>match T e with
   |some bM=>match ct G σ.aS x with
    | .d a=>lu σ o.dst k (kt bM.size a l h)
    | .row key=>match σ.objs key with
     |some (.row bO es)=>if bO=bM.size then R (qJ es.length l h) λp=>k (σ.put o.dst (.sub key bO p.1 p.2))else none
     |_=>none
    | .sub key bO i0 len=>if bO=bM.size then R (qJ len l h) λp=>k (σ.put o.dst (.sub key bO (i0+p.1) p.2))else none
    |_=>none
   |none=>none
  |_=>uX T G σ o k
 |_,_=>none
def SD(T:cr)(G:dG)(σ:aK)(o:Oper)(args:List Operand)(eA:List TypeId)(k:aK->Option β):Option β:=match eA,args with
 |[t],[x]=>match ct G σ.aS x with
  | .d a=>match T t with|some ⟨.string,_,_,_⟩=>lu σ o.dst k (qK a)|some ⟨.slice _,_,_,_⟩=>lu σ o.dst k (bs a)|some ⟨.map _ _,_,_,_⟩=>lu σ o.dst k (aah a)|_=>none
  |_=>uX T G σ o k
 |_,_=>none
def SE(T:cr)(G:dG)(σ:aK)(o:Oper)(args:List Operand)(eA:List TypeId)(k:aK->Option β):Option β:=match eA,args with
 |[t,t'],[s,x]=>match T t,T t',σ.objs (o.dst.getD 9999)with
  |some ⟨.slice e,_,_,_⟩,some ⟨.slice _,_,_,_⟩,none=>match T e with
   |some bM=>
    let go:Nat×List (List D)->Option β:=λp=>ay (decide (p.1=bM.size\/p.2=[])&&decide (0<bM.size)) (match ct G σ.aS s with
     | .d a=>ay (o3 a&&dd p.2.length bM.bytes) (oz T σ o.dst k (.row (o.dst.getD 9999)) [(o.dst.getD 9999,.row bM.size p.2)])
     | .row key=>match σ.objs key with
      |some (.row bO es)=>if bO=bM.size/\key<10000 then ay (dd (es.length+p.2.length) bM.bytes) (oz T σ o.dst k (.row (o.dst.getD 9999)) [(key,.dead),(o.dst.getD 9999,.row bO (es++p.2))])else none
      |_=>none
     |_=>none)
    match ct G σ.aS x with
    | .d a=>R (oy a) go
    | .sub key bO i len=>match σ.objs key with
     |some (.row uY es)=>if bO=uY then ay (decide (i+len<=es.length)) (go (bO,(es.drop i).take len))else none
     |_=>none
    |y=>match m4 σ.objs y with|some p=>go p|none=>none
   |none=>none
  |_,_,_=>none
 |_,_=>none
def SF(T:cr)(G:dG)(σ:aK)(o:Oper)(args:List Operand)(eA:List TypeId)(k:aK->Option β):Option β:=match eA,args with
 |[t,t'],[s,x]=>match T t with
  |some ⟨.slice e,_,_,_⟩=>match T e with
   |some bM=>
    let go:Nat×List (List D)->Option β:=λp=>ay (decide (p.1=bM.size\/p.2=[])) (match ct G σ.aS s with
     | .row key=>match σ.objs key with
      |some (.row bO es)=>if bO=bM.size then oz T σ o.dst k (.d (.val (.int .i64 (min p.2.length es.length:Nat)))) [(key,.row bO (p.2.take (min p.2.length es.length)++es.drop (min p.2.length es.length)))]else none
      |_=>none
     | .sub key bO i len=>match σ.objs key with
      |some (.row uY es)=>if bO=bM.size/\uY=bO then ay (decide (i+len<=es.length)) (oz T σ o.dst k (.d (.val (.int .i64 (min p.2.length len:Nat)))) [(key,.row bO (es.take i++p.2.take (min p.2.length len)++es.drop (i+min p.2.length len)))])else none
      |_=>none
     |_=>none)
    match ct G σ.aS x with
    | .d a=>R (oy a) go
    | .sub key bO i len=>match σ.objs key with
     |some (.row uY es)=>if bO=uY then ay (decide (i+len<=es.length)) (go (bO,(es.drop i).take len))else none
     |_=>none
    |y=>match m4 σ.objs y with|some p=>go p|none=>none
   |none=>none
  |_=>none
 |_,_=>none
def SG(T:cr)(G:dG)(σ:aK)(o:Oper)(t:TypeId)(x i:Operand)(ok:Bool)(k:aK->Option β):Option β:=match T t with
 |some ⟨.map iK jy,_,_,_⟩=>match T iK,T jy with
  |some ix,some bM=>if ye ix.desc then(match ct G σ.aS i with
   | .d fp=>match ct G σ.aS x with
    | .d m=>R (nO m) λes=>lu σ o.dst k (k6 ix.desc bM.zero ok es fp)| .map key=>match σ.objs key with|some (.map es)=>lu σ o.dst k (k6 ix.desc bM.zero ok es fp)|_=>none
    |_=>none
   |_=>none)else none
  |_,_=>none
 |_=>none
def Ng(T:cr)(G:dG)(σ:aK)(o:Oper)(t:TypeId)(m i x:Operand)(k:aK->Option β):Option β:=match T t with
 |some ⟨.map iK _,_,_,_⟩=>match T iK with
  |some ix=>if ye ix.desc then(match ct G σ.aS m,ct G σ.aS i,ct G σ.aS x with
   | .map key,.d fp,.d v=>match σ.objs key with|some (.map es)=>R (s4 ix.desc es fp v) λl=>oz T σ o.dst k .any [(key,.map l)]|_=>none
   |_,_,_=>none)else none
  |none=>none
 |_=>none
def SH(T:cr)(G:dG)(σ:aK)(o:Oper)(t:TypeId)(a x:Operand)(k:aK->Option β):Option β:=match T t with
 |some i=>D1 i.size (ct G σ.aS x) λcs=>if cs.length=i.size then(match ct G σ.aS a with
  | .ptr key off=>match σ.objs key with
   |some (.box cells)=>if off+cs.length<=cells.length then oz T σ o.dst k .any [(key,.box (oV cells off cs))]else none
   |_=>none
  | .gL key dg e7 off=>match σ.objs key,lR cs with
   |some (.row bO es),some aM=>if dg=bO/\off+aM.length<=dg then R es[e7]? λe=>oz T σ o.dst k .any [(key,.row dg (es.set e7 (om e off aM)))]else none
   |_,_=>none
  |_=>none)else none
 |none=>none
def SI(T:cr)(G:dG)(σ:aK)(o:Oper)(t:TypeId)(parts:Array (Nat×Operand))(k:aK->Option β):Option β:=match Ry T t with|some (pl,z)=>Nc pl (zeroCells z) (parts.toList.map λp=>(p.1,ct G σ.aS p.2)) λout=>k (σ.put o.dst (Dw out))|none=>none
def SJ(T:cr)(G:dG)(σ:aK)(o:Oper)(t:TypeId)(n:Nat)(parts:Array (Nat×Operand))(k:aK->Option β):Option β:=match T t,σ.objs (o.dst.getD 9999)with
 |some ⟨.slice e,_,_,_⟩,none=>match T e with
  |some bM=>Nd bM.size 0 (parts.toList.map λp=>(p.1,ct G σ.aS p.2)) λes=>if es.length=n/\0<bM.size/\n*bM.size<=16777216 then oz T σ o.dst k (.row (o.dst.getD 9999)) [(o.dst.getD 9999,.row bM.size es)]else none
  |none=>none
 |_,_=>none
def SK(T:cr)(G:dG)(σ:aK)(o:Oper)(t:TypeId)(l c:Operand)(k:aK->Option β):Option β:=match T t,σ.objs (o.dst.getD 9999)with
 |some ⟨.slice e,_,_,_⟩,none=>match T e with
  |some bM=>match ct G σ.aS l,ct G σ.aS c with
   | .d l,.d c=>if bM.zero.cells.toList.all lP then R (s3 bM.bytes l c) λn=>oz T σ o.dst k (.row (o.dst.getD 9999)) [(o.dst.getD 9999,.row bM.size (List.replicate n (bM.zero.cells.toList.map .val)))]else none
   |_,_=>none
  |none=>none
 |_,_=>none
def SL(T:cr)(G:dG)(σ:aK)(o:Oper)(s t:TypeId)(x:Operand)(k:aK->Option β):Option β:=match T s,T t,ct G σ.aS x with|some _,some ⟨.int i,_,_,_⟩,.d a=>lu σ o.dst k (ox i a)|some _,some ⟨.string,_,_,_⟩,.d a=>lu σ o.dst k (aaf a)|_,_,_=>uX T G σ o k
def Nh(T:cr)(G:dG)(σ:aK)(o:Oper)(gq:Bool)(args:List Operand)(k:aK->Option β):Option β:=match lR (args.map (ct G σ.aS))with|some aM=>lu σ o.dst k (lW gq aM)|none=>none
def hF:aY->aY->Option (D×D)
 | .d a,.d b=>some (a,b)|_,_=>none
theorem amg{x y:aY}{p:D×D}(h:hF x y=some p):x= .d p.1/\y= .d p.2:=by unfold hF at h;split at h<;>cases h;exact⟨rfl,rfl⟩
def aam{T:cr}{ev:Operand->aY}{c a b:Operand}{t:Bool}(aj:ev c= .d (.val (.bool t)))(h:hF (ev a) (ev b)=none):ff T ev (.pick c a b)=some (if t then ev a else ev b):=by
 simp only[ff,aj];generalize ev a=x at*;generalize ev b=y at*;split;.cases h
 rfl
def wN(T:cr)(G:dG)(σ:aK)(o:Oper)(k:aK->Option β):Option β:=match o.op with
 | .binOp op t x y _=>Sy T G σ o op t x y k| .unOp op _ x=>match ct G σ.aS x with| .d a=>lu σ o.dst k (cx op a)|_=>none
 | .convert s t x=>SL T G σ o s t x k
 | .pick c a b=>match ct G σ.aS c with
  | .d c=>match hF (ct G σ.aS a) (ct G σ.aS b)with|some p=>lu σ o.dst k (fW c p.1 p.2)|none=>aA c (k (σ.put o.dst (ct G σ.aS a))) (k (σ.put o.dst (ct G σ.aS b)))
  |_=>none
 | .field s x f=>Sz T G σ o s x f k| .extract x i=>match ct G σ.aS x with| .d a=>lu σ o.dst k (bk i a)|_=>uX T G σ o k
 | .index t x i=>match T t with
  |some ⟨.string,_,_,_⟩=>match ct G σ.aS x,ct G σ.aS i with| .d a,.d b=>lu σ o.dst k (sZ a b)|_,_=>none
  |some ⟨.array len e,_,_,_⟩=>match T e with
   |some bM=>match ct G σ.aS x,ct G σ.aS i with| .d a,.d b=>R (c4 len b) λn=>lu σ o.dst k (mr (wk bM.desc) bM.size (n*bM.size) a)|_,_=>none
   |none=>none
  |_=>none
 | .load t a=>SA T G σ o t a k| .indexAddr t x e7=>SB T G σ o t x e7 k| .slice t x lo ag none=>SC T G σ o t x lo ag k| .lookup t x i ok=>SG T G σ o t x i ok k| .mapUpdate t m i x=>Ng T G σ o t m i x k| .insert t m i x=>Ng T G σ o t m i x k| .store t a x=>SH T G σ o t a x k| .build t parts=>SI T G σ o t parts k| .buildSlice t n parts=>SJ T G σ o t n parts k| .makeSlice t l c=>SK T G σ o t l c k| .box t x=>match T t,σ.objs (o.dst.getD 9999)with|some i,none=>D1 i.size (ct G σ.aS x) λcs=>oz T σ o.dst k (.ptr (o.dst.getD 9999) 0) [(o.dst.getD 9999,.box cs)]|_,_=>none
 | .call ⟨.builtin .len,args,eA⟩=>SD T G σ o args.toList eA.toList k| .call ⟨.builtin .append,args,eA⟩=>SE T G σ o args.toList eA.toList k| .call ⟨.builtin .copy,args,eA⟩=>SF T G σ o args.toList eA.toList k| .call ⟨.builtin .max,args,_⟩=>Nh T G σ o true args.toList k| .call ⟨.builtin .min,args,_⟩=>Nh T G σ o false args.toList k|_=>uX T G σ o k
variable{T:cr}{G:dG}{σ:aK}{o:Oper}{k:aK->Option β}{b:β}
def yH(h:uX T G σ o k=some b):∃a2,hp T G σ o=some a2/\k a2=some b:=by
 unfold uX at h;split at h;.exact⟨_,by assumption,h⟩
 cases h
def nP{r:aY}(h:ff T (ct G σ.aS) o.op=some r)(ai:k (σ.put o.dst r)=some b):∃a2,hp T G σ o=some a2/\k a2=some b:=⟨_,by unfold hp;rw[h],ai⟩
def nc{r:aY}(ao:ff T (ct G σ.aS) o.op=none)(h:dU T (ct G σ.aS) σ.objs o.op=some r)(ai:k (σ.put o.dst r)=some b):∃a2,hp T G σ o=some a2/\k a2=some b:=⟨_,by unfold hp;rw[ao,h],ai⟩
def uZ{r:aY}{cC:List (Key×c0)}(ao:ff T (ct G σ.aS) o.op=none)(ad:dU T (ct G σ.aS) σ.objs o.op=none)(h:eW T (ct G σ.aS) σ.objs (o.dst.getD 9999) o.op=some (r,cC)) (ai:oz T σ o.dst k r cC=some b):∃a2,hp T G σ o=some a2/\k a2=some b:=⟨_,by unfold hp;rw[ao,ad];unfold ho;rw[h];rfl,by unfold oz at ai;exact ai⟩
def amh{op:BinOp}{t:TypeId}{x y:Operand}{z9:TypeId}(aC:o.op= .binOp op t x y z9)(h:Sy T G σ o op t x y k=some b):∃a2,hp T G σ o=some a2/\k a2=some b:=by
 unfold Sy at h;split at h
 .rename_i a c aB aj;split at h
  .rename_i aD;obtain⟨v,ad,ae⟩:=fN h;have aan:∀{d},o3 d=true->d= .val (.slice none 0 0):=by
    intro d aF;unfold o3 at aF;split at aF;.rfl
    cases aF
   unfold aal at aD;split at aD
   case h_2=>cases aD
   rename_i aZ a6 b2 dh aQ;have an:c= .val (.slice none 0 0)->ff T (ct G σ.aS) o.op=none:=by intro dZ;subst dZ;rw[aC];simp only[ff,aB,aj,x9]
   unfold aae at ad;split at ad
   .split at ad
    case isFalse=>cases ad
    rename_i aH;have aH:=aan aH;subst aH;refine nc (r:= .d v) (an rfl) ?_ ae;rw[aC];simp only[dU,aQ,aj,yf,xay,aB,nF];split at ad<;>cases ad<;>simp
   .split at ad
    case isFalse=>cases ad
    rename_i aH;have aH:=aan aH;subst aH;refine nc (r:= .d v) (an rfl) ?_ ae;rw[aC];simp only[dU,aQ,aj,yf,xay,aB,nF];split at ad<;>cases ad<;>simp
   cases ad
  split at h;.rename_i l ak;obtain⟨v,ad,ae⟩:=fN h;exact nP (by rw[aC];simp only[ff,aB,aj];exact amf ak ad) ae
  obtain⟨v,ad,ae⟩:=fN h;exact nP (by rw[aC];simp only[ff,aB,aj];exact ame ad) ae
 exact yH h
def Ni{i:jx}{off:Nat}{cs:List D}{v:D}(h:bh (wk i.desc) i.size off cs=some v):uK i cs off=some (.d v):=by
 unfold bh at h;unfold uK;cases aF:wk i.desc with
 |true=>
  simp only[aF]at h;simp only[xay];split at h;.rename_i aj;rw[xac aj];cases h;rfl
  cases h
 |false=>simp only[aF]at h;simp[h]
def ami{s:TypeId}{x:Operand}{f:Nat}(aC:o.op= .field s x f)(h:Sz T G σ o s x f k=some b):∃a2,hp T G σ o=some a2/\k a2=some b:=by
 unfold Sz at h;split at h
 case h_2=>cases h
 rename_i off i ba;split at h
 .rename_i a aB;obtain⟨v,ad,ae⟩:=fN h;unfold mr at ad;split at ad
  case h_2=>cases ad
  exact nP (by rw[aC];simp only[ff,ba,aB];exact Ni ad) ae
 exact yH h
def amj{t:TypeId}{a:Operand}(aC:o.op= .load t a)(h:SA T G σ o t a k=some b):∃a2,hp T G σ o=some a2/\k a2=some b:=by
 unfold SA at h;split at h
 case h_2=>cases h
 rename_i i ag;split at h;.rename_i cs off aB;obtain⟨v,ad,ae⟩:=fN h;exact nc (by rw[aC];rfl) (by rw[aC];simp only[dU,ag,aB];exact Ni ad) ae
 .rename_i key dg e7 off aB;split at h
  case h_2=>cases h
  rename_i bO es ai;split at h
  case isFalse=>cases h
  rename_i c5;obtain⟨e,ad,ae⟩:=fN h;obtain⟨v,az,a3⟩:=fN ae;exact nc (by rw[aC];rfl) (by rw[aC];simp only[dU,ag,aB,ai,c5,xay,ad];exact Ni az) a3
 exact yH h
def SM{n m:Nat}{i:D}(h:c4 n i=some m):∃eg j,i= .val (.int eg j)/\0<=j/\j<n/\m=j.toNat:=by
 unfold c4 at h;split at h
 case h_2=>cases h
 split at h
 case isFalse=>cases h
 rename_i aj;cases h;exact⟨_,_,rfl,aj.1,aj.2,rfl⟩
def amk{t:TypeId}{x e7:Operand}(aC:o.op= .indexAddr t x e7)(h:SB T G σ o t x e7 k=some b):∃a2,hp T G σ o=some a2/\k a2=some b:=by
 unfold SB at h;split at h
 .rename_i e s1 s2 j9 aQ;split at h
  case h_2=>cases h
  rename_i bM he;split at h
  case h_2=>cases h
  rename_i i ag;split at h
  .rename_i a aB;obtain⟨c,ad,ae⟩:=fN h;unfold bp at ad;split at ad
   case h_2=>cases ad
   split at ad
   case isFalse=>cases ad
   rename_i aH;split at ad
   case h_2=>cases ad
   split at ad
   case isFalse=>cases ad
   rename_i ai;exact nc (by rw[aC];rfl) (by rw[aC];simp only[dU,aQ,ag,he,aB,aH,ai,xay,ad]) ae
  .rename_i key aB;split at h
   case h_2=>cases h
   rename_i bO es ai;split at h
   case isFalse=>cases h
   rename_i c5;obtain⟨n,ad,ae⟩:=fN h;obtain⟨eg,j,rfl,bb,bo,rfl⟩:=SM ad;exact nc (by rw[aC];rfl) (by rw[aC];simp only[dU,aQ,ag,he,aB,bb,xay,ai,c5,bo,and_self]) (c5▸ae)
  .rename_i key bO i0 len aB;split at h
   case isFalse=>cases h
   rename_i c5;obtain⟨n,ad,ae⟩:=fN h;obtain⟨eg,j,rfl,bb,bo,rfl⟩:=SM ad;exact nc (by rw[aC];rfl) (by rw[aC];simp only[dU,aQ,ag,he,aB,bb,xay,c5,bo,and_self]) (c5▸ae)
  cases h
 .rename_i len e s1 s2 j9 aQ;split at h
  case h_2=>cases h
  rename_i bM he;split at h
  case h_2=>cases h
  rename_i i ag;obtain⟨n,ad,ae⟩:=fN h;obtain⟨eg,j,rfl,bb,bo,rfl⟩:=SM ad;split at ae
  case h_2=>cases ae
  rename_i r aw;exact nc (by rw[aC];rfl) (by rw[aC];simp only[dU,aQ,ag,he,bb,bo,and_self,xay];exact aw) ae
 cases h
def aml{t:TypeId}{x:Operand}{lo ag:Option Operand}(aC:o.op= .slice t x lo ag none)(h:SC T G σ o t x lo ag k=some b):∃a2,hp T G σ o=some a2/\k a2=some b:=by
 unfold SC at h;split at h
 case h_2=>cases h
 rename_i l bH ak yI;have ak:=aak ak;have yI:=aak yI;split at h
 .rename_i s1 s2 j9 aQ;split at h
  case h_2=>cases h
  rename_i a aB;obtain⟨v,ad,ae⟩:=fN h;unfold aag at ad;split at ad
  case h_2=>cases ad
  split at ad
  case h_2=>cases ad
  rename_i bS bP;split at ad
  case isFalse=>cases ad
  rename_i aj;cases ad;exact nP (by rw[aC];simp only[ff,aQ,aB,ak,yI,Na,bS,bP];rw[xac aj]) ae
 .rename_i e s1 s2 j9 aQ;split at h
  case h_2=>cases h
  rename_i bM he;split at h
  .rename_i a aB;obtain⟨v,ad,ae⟩:=fN h;unfold kt at ad;split at ad
   case h_2=>cases ad
   split at ad
   case h_2=>cases ad
   rename_i bS bP;split at ad
   case isFalse=>cases ad
   rename_i aj;cases ad;exact nc (by rw[aC];simp only[ff,aQ]) (by rw[aC];simp only[dU,aQ,he,aB,kD,ak,yI,Na,bS,bP];rw[xac ⟨aj.1,aj.2.1⟩,xac aj.2.2]) ae
  .rename_i key aB;split at h
   case h_2=>cases h
   rename_i bO es ai;split at h
   case isFalse=>cases h
   rename_i c5;obtain⟨p,ad,ae⟩:=fN h;unfold qJ at ad;split at ad
   case h_2=>cases ad
   rename_i bS bP;split at ad
   case isFalse=>cases ad
   rename_i aj;cases ad;exact nc (by rw[aC];simp only[ff,aQ]) (by rw[aC];simp only[dU,aQ,he,aB,kD,ai,ak,yI,Na,bS,bP];rw[xac aj,xac c5]) ae
  .rename_i key bO i0 len aB;split at h
   case isFalse=>cases h
   rename_i c5;obtain⟨p,ad,ae⟩:=fN h;unfold qJ at ad;split at ad
   case h_2=>cases ad
   rename_i bS bP;split at ad
   case isFalse=>cases ad
   rename_i aj;cases ad;exact nc (by rw[aC];simp only[ff,aQ]) (by rw[aC];simp only[dU,aQ,he,aB,kD,ak,yI,Na,bS,bP];rw[xac aj,xac c5]) ae
  cases h
 exact yH h
def amm{args:Array Operand}{eA:Array TypeId}(aC:o.op= .call ⟨.builtin .len,args,eA⟩)(h:SD T G σ o args.toList eA.toList k=some b):∃a2,hp T G σ o=some a2/\k a2=some b:=by
 unfold SD at h;split at h
 case h_2=>cases h
 rename_i t x aZ a6;have a1:ff T (ct G σ.aS) o.op=none:=by rw[aC];rfl
 split at h
 .rename_i a aB;split at h;.rename_i s1 s2 j9 aQ;obtain⟨v,ad,ae⟩:=fN h;unfold qK at ad;split at ad<;>cases ad;exact nc a1 (by rw[aC];simp only[dU,aZ,a6,aQ,aB]) ae
  .rename_i e s1 s2 j9 aQ;obtain⟨v,ad,ae⟩:=fN h;unfold bs at ad;split at ad<;>cases ad;.exact nc a1 (by rw[aC];simp only[dU,aZ,a6,aQ,aB,kD]) ae
   exact nc a1 (by rw[aC];simp only[dU,aZ,a6,aQ,aB,kD]) ae
  .rename_i bS bP s1 s2 j9 aQ;obtain⟨v,ad,ae⟩:=fN h;unfold aah at ad;split at ad<;>cases ad;.exact nc a1 (by rw[aC];simp only[dU,aZ,a6,aQ,aB]) ae
   exact nc a1 (by rw[aC];simp only[dU,aZ,a6,aQ,aB]) ae
  cases h
 exact yH h
theorem aao{a:D}{p:Nat×List (List D)}(h:oy a=some p)(objs:cH):m4 objs (.d a)=some p:=by unfold oy at h;split at h<;>cases h<;>rfl
def amn{args:Array Operand}{eA:Array TypeId}(aC:o.op= .call ⟨.builtin .append,args,eA⟩)(h:SE T G σ o args.toList eA.toList k=some b):∃a2,hp T G σ o=some a2/\k a2=some b:=by
 unfold SE at h;split at h
 case h_2=>cases h
 rename_i t t' s x aZ a6;split at h
 case h_2=>cases h
 rename_i e s1 s2 j9 dj aEA aEB aEC aQ rH aF;split at h
 case h_2=>cases h
 rename_i bM he;have a1:ff T (ct G σ.aS) o.op=none:=by rw[aC];rfl
 have hm:dU T (ct G σ.aS) σ.objs o.op=none:=by rw[aC];rfl
 have key:∀p:Nat×List (List D),m4 σ.objs (ct G σ.aS x)=some p->ay (decide (p.1=bM.size\/p.2=[])&&decide (0<bM.size)) (match ct G σ.aS s with
     | .d a=>ay (o3 a&&dd p.2.length bM.bytes) (oz T σ o.dst k (.row (o.dst.getD 9999)) [(o.dst.getD 9999,.row bM.size p.2)])
     | .row key=>match σ.objs key with
      |some (.row bO es)=>if bO=bM.size/\key<10000 then ay (dd (es.length+p.2.length) bM.bytes) (oz T σ o.dst k (.row (o.dst.getD 9999)) [(key,.dead),(o.dst.getD 9999,.row bO (es++p.2))])else none
      |_=>none
     |_=>none)=some b->∃a2,hp T G σ o=some a2/\k a2=some b:=by
  rintro⟨dg,xs⟩ fL h;obtain⟨ao,h⟩:=nb h;simp only[xai,xau]at ao;split at h
  .rename_i a aB;obtain⟨ad,h⟩:=nb h;simp only[xai,dd,xau]at ad;have aH:a= .val (.slice none 0 0):=by
    have:=ad.1;unfold o3 at this;split at this;.rfl
    cases this
   have ae:=ad.2;clear ad;refine uZ a1 hm ?_ h;rw[aC];simp only[eW,aZ,a6,aQ,rH,aF,he,fL,aB,aH];rw[xac ao,xac ae]
  .rename_i key aB;split at h
   case h_2=>cases h
   rename_i bO es ai;split at h
   case isFalse=>cases h
   rename_i c5;obtain⟨ad,h⟩:=nb h;simp only[xai,dd,xau]at ad;refine uZ a1 hm ?_ h;rw[aC];simp only[eW,aZ,a6,aQ,rH,aF,he,fL,aB,ai];rw[xac ao,xac ⟨c5.1,ad.1,ad.2,c5.2⟩]
  .cases h
 simp only at h;split at h;.rename_i a aB;obtain⟨p,ad,ae⟩:=fN h;exact key p (by rw[aB];exact aao ad _) ae
 .rename_i amo bO i len aB;split at h
  case h_2=>cases h
  rename_i uY es ai;split at h
  case isFalse=>cases h
  rename_i c5;obtain⟨ad,ae⟩:=nb h;have fL:m4 σ.objs (ct G σ.aS x)=some (bO,(es.drop i).take len):=by rw[aB];simp only[m4,ai];rw[xac ⟨c5,xbj ad⟩]
  exact key (bO,(es.drop i).take len) fL ae
 split at h
 case h_2=>cases h
 rename_i p a1;exact key p a1 h
def amp{args:Array Operand}{eA:Array TypeId}(aC:o.op= .call ⟨.builtin .copy,args,eA⟩)(h:SF T G σ o args.toList eA.toList k=some b):∃a2,hp T G σ o=some a2/\k a2=some b:=by
 unfold SF at h;split at h
 case h_2=>cases h
 rename_i t t' s x aZ a6;split at h
 case h_2=>cases h
 rename_i e s1 s2 j9 aQ;split at h
 case h_2=>cases h
 rename_i bM he;have a1:ff T (ct G σ.aS) o.op=none:=by rw[aC];rfl
 have hm:dU T (ct G σ.aS) σ.objs o.op=none:=by rw[aC];rfl
 have key:∀p:Nat×List (List D),m4 σ.objs (ct G σ.aS x)=some p->ay (decide (p.1=bM.size\/p.2=[])) (match ct G σ.aS s with
     | .row key=>match σ.objs key with
      |some (.row bO es)=>if bO=bM.size then oz T σ o.dst k (.d (.val (.int .i64 (min p.2.length es.length:Nat)))) [(key,.row bO (p.2.take (min p.2.length es.length)++es.drop (min p.2.length es.length)))]else none
      |_=>none
     | .sub key bO i len=>match σ.objs key with
      |some (.row uY es)=>if bO=bM.size/\uY=bO then ay (decide (i+len<=es.length)) (oz T σ o.dst k (.d (.val (.int .i64 (min p.2.length len:Nat)))) [(key,.row bO (es.take i++p.2.take (min p.2.length len)++es.drop (i+min p.2.length len)))])else none
      |_=>none
     |_=>none)=some b->∃a2,hp T G σ o=some a2/\k a2=some b:=by
  rintro⟨dg,xs⟩ fL h;obtain⟨ao,h⟩:=nb h;simp only[xau]at ao;split at h
  .rename_i key aB;split at h
   case h_2=>cases h
   rename_i bO es ai;split at h
   case isFalse=>cases h
   rename_i c5;refine uZ a1 hm ?_ h;rw[aC];simp only[eW,aZ,a6,aQ,he,fL,aB,ai];rw[xac ao,xac c5]
  .rename_i key bO i len aB;split at h
   case h_2=>cases h
   rename_i uY es ai;split at h
   case isFalse=>cases h
   rename_i c5;obtain⟨ad,h⟩:=nb h;simp only[xau]at ad;refine uZ a1 hm ?_ h;rw[aC];simp only[eW,aZ,a6,aQ,he,fL,aB,ai];rw[xac ao,xac ⟨c5.1,c5.2,ad⟩]
  .cases h
 simp only at h;split at h;.rename_i a aB;obtain⟨p,ad,ae⟩:=fN h;exact key p (by rw[aB];exact aao ad _) ae
 .rename_i amo bO i len aB;split at h
  case h_2=>cases h
  rename_i uY es ai;split at h
  case isFalse=>cases h
  rename_i c5;obtain⟨ad,ae⟩:=nb h;have fL:m4 σ.objs (ct G σ.aS x)=some (bO,(es.drop i).take len):=by rw[aB];simp only[m4,ai];rw[xac ⟨c5,xbj ad⟩]
  exact key (bO,(es.drop i).take len) fL ae
 split at h
 case h_2=>cases h
 rename_i p a1;exact key p a1 h
def aap{ix bM:jx}{t iK jy:TypeId}{s1 s2:Nat}{j9:Value}(aQ:T t=some ⟨.map iK jy,s1,s2,j9⟩)(ad:T iK=some ix)(ae:T jy=some bM)(ai:ye ix.desc=true){ok:Bool}{es:List (Value×D)}{fp v:D} (h:k6 ix.desc bM.zero ok es fp=some v):∃u,fp= .val u/\Ab T t es u ok=some (.d v):=by
 unfold k6 at h;split at h
 case h_2=>cases h
 rename_i u;refine⟨u,rfl,?_⟩;unfold Ab;simp only[aQ,ad,ae,ai,xay];split at h;.rename_i x af;cases h;simp only[af]
 .rename_i af;cases h;simp only[af]
 cases h
def amq{t:TypeId}{x i:Operand}{ok:Bool}(aC:o.op= .lookup t x i ok)(h:SG T G σ o t x i ok k=some b):∃a2,hp T G σ o=some a2/\k a2=some b:=by
 unfold SG at h;split at h
 case h_2=>cases h
 rename_i iK jy s1 s2 j9 aQ;split at h
 case h_2=>cases h
 rename_i ix bM ad ae;split at h
 case isFalse=>cases h
 rename_i ai;split at h
 case h_2=>cases h
 rename_i fp GX;split at h;.rename_i m hm;obtain⟨es,bb,bo⟩:=fN h;obtain⟨v,b0,eR⟩:=fN bo;obtain⟨u,rfl,gY⟩:=aap aQ ad ae ai b0;refine nc (by rw[aC];rfl) ?_ eR;rw[aC];simp only[dU,GX,hm];unfold nO at bb;split at bb<;>cases bb<;>exact gY
 .rename_i key hm;split at h
  case h_2=>cases h
  rename_i es nd;obtain⟨v,b0,eR⟩:=fN h;obtain⟨u,rfl,gY⟩:=aap aQ ad ae ai b0;refine nc (by rw[aC];rfl) ?_ eR;rw[aC];simp only[dU,GX,hm,nd,gY]
 cases h
def aaq{t:TypeId}{m i x:Operand}(aC:o.op= .mapUpdate t m i x\/o.op= .insert t m i x)(h:Ng T G σ o t m i x k=some b):∃a2,hp T G σ o=some a2/\k a2=some b:=by
 unfold Ng at h;split at h
 case h_2=>cases h
 rename_i iK jy s1 s2 j9 aQ;split at h
 case h_2=>cases h
 rename_i ix ad;split at h
 case isFalse=>cases h
 rename_i ai;split at h
 case h_2=>cases h
 rename_i key fp v aZ a6 b2;split at h
 case h_2=>cases h
 rename_i es nd;obtain⟨l,bb,bo⟩:=fN h;unfold s4 at bb;split at bb
 case h_2=>cases bb
 rcases aC with aC|aC<;>
 .refine uZ (by rw[aC];rfl) (by rw[aC];rfl) ?_ bo;rw[aC];simp only[eW,aQ,ad,ai,xay,aZ,a6,b2,nd,bb]
def amr{t:TypeId}{a x:Operand}(aC:o.op= .store t a x)(h:SH T G σ o t a x k=some b):∃a2,hp T G σ o=some a2/\k a2=some b:=by
 unfold SH at h;split at h
 case h_2=>cases h
 rename_i i ag;obtain⟨cs,ad,ae⟩:=Nb h;split at ae
 case isFalse=>cases ae
 rename_i ak;split at ae
 .rename_i key off aB;split at ae
  case h_2=>cases ae
  rename_i cells ai;split at ae
  case isFalse=>cases ae
  rename_i aj;refine uZ (by rw[aC];rfl) (by rw[aC];rfl) ?_ ae;rw[aC];simp only[eW,ag,ad,aB,ai];rw[xac ak,xac aj]
 .rename_i key dg e7 off aB;split at ae
  case h_2=>cases ae
  rename_i bO es aM ai fA;split at ae
  case isFalse=>cases ae
  rename_i aj;obtain⟨e,bb,bo⟩:=fN ae;refine uZ (by rw[aC];rfl) (by rw[aC];rfl) ?_ bo;rw[aC];simp only[eW,ag,ad,aB,ai,fA,bb];rw[xac ak,xac aj]
 cases ae
def ams{t:TypeId}{parts:Array (Nat×Operand)}(aC:o.op= .build t parts)(h:SI T G σ o t parts k=some b):∃a2,hp T G σ o=some a2/\k a2=some b:=by
 unfold SI at h;split at h
 case h_2=>cases h
 rename_i pl z an;obtain⟨cs,ad,ae⟩:=aai h;exact nP (by rw[aC];simp only[ff,Mj,an,ad]) ae
def amt{t:TypeId}{n:Nat}{parts:Array (Nat×Operand)}(aC:o.op= .buildSlice t n parts)(h:SJ T G σ o t n parts k=some b):∃a2,hp T G σ o=some a2/\k a2=some b:=by
 unfold SJ at h;split at h
 case h_2=>cases h
 rename_i e s1 s2 j9 aQ aF;split at h
 case h_2=>cases h
 rename_i bM he;obtain⟨es,ad,ae⟩:=aaj h;split at ae
 case isFalse=>cases ae
 rename_i aj;refine uZ (by rw[aC];rfl) (by rw[aC];rfl) ?_ ae;rw[aC];simp only[eW,aQ,aF,he,ad];rw[xac aj]
def amu{t:TypeId}{l c:Operand}(aC:o.op= .makeSlice t l c)(h:SK T G σ o t l c k=some b):∃a2,hp T G σ o=some a2/\k a2=some b:=by
 unfold SK at h;split at h
 case h_2=>cases h
 rename_i e s1 s2 j9 aQ aF;split at h
 case h_2=>cases h
 rename_i bM he;split at h
 case h_2=>cases h
 rename_i sF iw ak aj;split at h
 case isFalse=>cases h
 rename_i bF;obtain⟨n,ad,ae⟩:=fN h;unfold s3 at ad;split at ad
 case h_2=>cases ad
 split at ad
 case isFalse=>cases ad
 rename_i oi;cases ad;refine uZ (by rw[aC];rfl) (by rw[aC];rfl) ?_ ae;rw[aC];simp only[eW,aQ,aF,he,ak,aj];rw[xac ⟨oi.1,oi.2.1,oi.2.2.1,oi.2.2.2,bF⟩]
def amv{s t:TypeId}{x:Operand}(aC:o.op= .convert s t x)(h:SL T G σ o s t x k=some b):∃a2,hp T G σ o=some a2/\k a2=some b:=by
 unfold SL at h;split at h;.rename_i q i s1 s2 j9 a aD aQ af;obtain⟨v,ad,ae⟩:=fN h;unfold ox at ad;split at ad<;>cases ad;exact nP (by rw[aC];simp only[ff,aD,aQ,af]) ae
 .rename_i q s1 s2 j9 a aD aQ af;obtain⟨v,ad,ae⟩:=fN h;unfold aaf at ad;split at ad<;>cases ad;exact nP (by rw[aC];simp only[ff,aD,aQ,af]) ae
 exact yH h
def D2(h:wN T G σ o k=some b):∃a2,hp T G σ o=some a2/\k a2=some b:=by
 unfold wN at h;split at h;.exact amh (by assumption) h
 .rename_i aC;split at h
  .rename_i a aB;obtain⟨v,ad,ae⟩:=fN h;unfold cx at ad;split at ad<;>cases ad;.exact nP (by rw[aC];simp only[ff,aB]) ae
   exact nP (by rw[aC];simp only[ff,aB]) ae
  cases h
 .exact amv (by assumption) h
 .rename_i c x y aC;split at h
  case h_2=>cases h
  rename_i iw aj;split at h
  .rename_i p a1;obtain⟨aB,an⟩:=amg a1;obtain⟨v,ad,ae⟩:=fN h;unfold fW at ad;split at ad<;>cases ad;rename_i t;refine nP ?_ ae;rw[aC];simp only[ff,aj,aB,an];split;.rename_i aZ a6;simp only[aY.d.injEq]at aZ a6;rw[aZ,a6];cases t<;>rfl
   cases t<;>rfl
  rename_i a1;rcases aad h with⟨rfl,ad⟩|⟨rfl,ad⟩
  .exact nP (by rw[aC];exact aam aj a1) ad
  exact nP (by rw[aC];exact aam aj a1) ad
 .exact ami (by assumption) h
 .rename_i x i aC;split at h
  .rename_i a aB;obtain⟨v,ad,ae⟩:=fN h;unfold bk at ad;split at ad
   case h_2=>cases ad
   exact nP (by rw[aC];simp only[ff,aB,ad]) ae
  exact yH h
 .rename_i t x i aC;split at h
  .rename_i s1 s2 j9 aQ;split at h
   case h_2=>cases h
   rename_i a c aB aj;obtain⟨v,ad,ae⟩:=fN h;unfold sZ at ad;split at ad
   case h_2=>cases ad
   exact nP (by rw[aC];simp only[ff,aQ,aB,aj];exact AL ad) ae
  .rename_i len e s1 s2 j9 aQ;split at h
   case h_2=>cases h
   rename_i bM kl;split at h
   case h_2=>cases h
   rename_i a c aB aj;obtain⟨n,bb,h⟩:=fN h;obtain⟨v,ad,ae⟩:=fN h;unfold c4 at bb;split at bb
   case h_2=>cases bb
   split at bb
   case isFalse=>cases bb
   rename_i aH;cases bb;unfold mr at ad;split at ad
   case h_2=>cases ad
   exact nP (by rw[aC];simp only[ff,aQ,aB,aj];rw[xac aH];simp only[kl];exact Ni ad) ae
  cases h
 .exact amj (by assumption) h
 .exact amk (by assumption) h
 .exact aml (by assumption) h
 .exact amq (by assumption) h
 .rename_i aC;exact aaq (.inl aC) h
 .rename_i aC;exact aaq (.inr aC) h
 .exact amr (by assumption) h
 .exact ams (by assumption) h
 .exact amt (by assumption) h
 .exact amu (by assumption) h
 .rename_i t x aC;split at h
  case h_2=>cases h
  rename_i i ag aF;obtain⟨cs,ad,ae⟩:=Nb h;exact uZ (by rw[aC];rfl) (by rw[aC];rfl) (by rw[aC];simp only[eW,ad,aF]) ae
 .exact amm (by assumption) h
 .exact amn (by assumption) h
 .exact amp (by assumption) h
 .rename_i args eA aC;unfold Nh at h;split at h
  case h_2=>cases h
  rename_i aM fA;obtain⟨v,ad,ae⟩:=fN h;exact nP (by rw[aC];simp only[ff,Dv fA];exact AL ad) ae
 .rename_i args eA aC;unfold Nh at h;split at h
  case h_2=>cases h
  rename_i aM fA;obtain⟨v,ad,ae⟩:=fN h;exact nP (by rw[aC];simp only[ff,Dv fA];exact AL ad) ae
 exact yH h
end
section
variable{β:Type}
abbrev nQ:=Tmp->FuncId->List D->Option D
def D3(G:dG)(C:nQ)(σ:aK)(o:Oper)(x:Operand)(args:List Operand)(k:aK->Option β):Option β:=match DH (ct G σ.aS x)with
 |some (f,pre,post)=>match jz ((pre++args.map (ct G σ.aS)++post).map (toD σ.objs))with|some aM=>R (C (o.dst.getD 9999) f aM) λr=>ay ((pre++args.map (ct G σ.aS)++post).all DJ||r.flat) (k (σ.put o.dst (.d r)))|none=>none
 |none=>none
def u0(T:cr)(G:dG)(C:nQ)(σ:aK)(o:Oper)(k:aK->Option β):Option β:=match o.op with| .call ⟨.value x,args,_⟩=>D3 G C σ o x args.toList k|_=>wN T G σ o k
def u1(T:cr)(G:dG)(C:nQ):List Oper->aK->(aK->Option β)->Option β
 |[],σ,k=>k σ|o::r,σ,k=>u0 T G C σ o λa2=>u1 T G C r a2 k
def yJ:List Oper->List (Option (Nat×Bool)×List Oper)
 |[]=>[]
 |o::r=>match yJ r with
  |(g,os)::rest=>if g=o.guard then(g,o::os)::rest else(o.guard,[o])::(g,os)::rest
  |[]=>[(o.guard,[o])]
def dA(x:D)(want:Bool)(p:Option D):Option D:=match x with
 | .val (.bool b)=>if b=want then p else some kG
 | .val (.tuple _)=>some kG|_=>none
def AM{e3:Type}(x:D)(want:Bool)(p q:Option e3):Option e3:=match x with
 | .val (.bool b)=>if b=want then p else q
 | .val (.tuple _)=>q|_=>none
def SN:List Oper->aK->aK
 |[],σ=>σ|o::r,σ=>SN r (σ.put o.dst (.d kG))
def yK:List Oper->Option Tmp
 |[]=>none|[o]=>o.dst|_::r=>yK r
def dstsOf(os:List Oper):List Tmp:=os.filterMap (·.dst)
def still(o:Oper):Bool:=jj o.op||jO o.op||hO o.op
def yL(ts:List Tmp)(v:D)(σ:aK):aK:=⟨λt=>if t∈ts then .d (aa v (ts.idxOf t))else σ.aS t,σ.objs⟩
def Hv(σ:aK):List Tmp->Option (List D)
 |[]=>some []|t::r=>match σ.aS t,Hv σ r with| .d v,some l=>some (v::l)|_,_=>none
def kept(all:Array Oper)(os l:List Oper):List Tmp:=(dstsOf os).filter λt=>l.any λo=>(o.looksAt all).contains t
def aar{σ:aK}:∀{ts:List Tmp}{l:List D},Hv σ ts=some l->l.length=ts.length/\∀(i:Nat)(t:Tmp),ts[i]?=some t->∃v,l[i]?=some v/\σ.aS t= .d v
 |[],l,h=>by cases h;exact⟨rfl,λi t h=>by simp at h⟩
 |t::r,l,h=>by
  unfold Hv at h;split at h
  case h_2=>cases h
  rename_i v sF aN ak;cases h;have ih:=aar ak;refine⟨by simp[ih.1],λi u hu=>?_⟩;cases i with|zero=>simp at hu;subst hu;exact⟨v,rfl,aN⟩|succ i=>exact ih.2 i u (by simpa using hu)
def amw{σ:aK}{ts:List Tmp}{l:List D}(h:Hv σ ts=some l){t:Tmp}(aQ:t∈ts):σ.aS t= .d (aa (.agg l) (ts.idxOf t)):=by
 have ad:ts[ts.idxOf t]?=some t:=by have:=List.idxOf_lt_length_of_mem aQ;rw[xab this,List.getElem_idxOf]
 obtain⟨v,ae,az⟩:=(aar h).2 _ t ad;rw[az]
 congr 1
 show v=l.getD _ _;simp[List.getD,ae]
def mu(aM:List Tmp)(σ:aK):aK:=⟨λt=>if t∈aM then .any else σ.aS t,σ.objs⟩
def blind(all:Array Oper)(aM:List Tmp)(l:List Oper):Bool:=l.all λo=>aM.all λd=>!(o.looksAt all).contains d&&o.dst !=some d
def aas(all:Array Oper)(d bX:Tmp)(os l:List Oper):Bool:=os.all (λo=>still o&&o.dst !=some d)&&blind all ((dstsOf os).filter (·!=bX)) l
def flat(gs:List (Option (Nat×Bool)×List Oper)):List Oper:=gs.flatMap (·.2)
def AN(T:cr)(G:dG)(C:nQ)(all:Array Oper):List (Option (Nat×Bool)×List Oper)->aK->(aK->Option β)->Option β
 |[],σ,k=>k σ|(none,os)::r,σ,k=>u1 T G C os σ λa2=>AN T G C all r a2 k
 |(some (j,want),os)::r,σ,k=>match(all[j]?).bind (·.dst),yK os with
  |some d,some bX=>match σ.aS d with
   | .d x=>if aas all d bX os (flat r)=true then
     R (dA x want (u1 T G C os σ λa2=>match a2.aS bX with| .d v=>some v|_=>none)) λv=>AN T G C all r ((mu (dstsOf os) σ).put (some bX) (.d v)) k
    else if os.all (λo=>o.dst !=some d)=true then AM x want (u1 T G C os σ λa2=>AN T G C all r a2 k) (AN T G C all r (SN os σ) k)else none
   |_=>none
  |_,_=>none
def aat(T:cr)(G:dG)(C:nQ)(all:Array Oper)(σ:aK)(k:aK->Option β):Option β:=AN T G C all (yJ all.toList) σ k
def aau:Op->Bool
 | .store _ _ _=>true|_=>false
def SO(all:Array Oper)(listed:Array Bool)(i:Nat):Bool:=match all[i]? with|none=>false|some fD=>((waits all i).all λj=>!listed.getD j true&&match all[j]? with|some dk=>dk.after.any λe=>Region.binds .any e&&(e.on==i||(waits all i).contains e.on)|none=>false)&&(List.range all.size).all λj=>j==i||listed.getD j true||(waits all i).contains j||match all[j]? with|some dk=>fD.apart all dk&&!aau dk.op|none=>true
def aav(all:Array Oper)(listed:Array Bool)(i:Nat)(σ:aK)(o:Oper):Bool:=match o.op with
 | .load _ (.tmp a)=>match σ.aS a with| .ptr _ _=>SO all listed i|_=>false
 |_=>false
def AO(all:Array Oper)(listed:Array Bool)(i:Nat):List Oper:=(List.range all.size).filterMap λj=>if j==i||listed.getD j true||(waits all i).contains j then none else all[j]?
def SP(all:Array Oper)(listed:Array Bool)(i:Nat)(aS:Nat->aY)(o:Oper):Bool:=((waits all i).all λj=>!listed.getD j true&&match all[j]? with|some dk=>dk.after.any λe=>Region.binds .any e&&(e.on==i||(waits all i).contains e.on)|none=>false)&&(AO all listed i).all λy=>o.apart all y&&uV aS o y&&(nM o.op++(AO all listed i).flatMap λy=>wM y.op).all λt=>y.dst !=some t
def D4(T:cr)(G:dG)(C:nQ)(all:Array Oper):List Nat->Array Bool->aK->(aK->Option β)->Option β
 |[],listed,σ,k=>if(Region.ready .any all listed).isEmpty=true then k σ else none
 |i::r,listed,σ,k=>match all[i]? with
  |some o=>if o.guard=none/\(Region.ready .any all listed).contains i=true/\(ak0 all listed i||aav all listed i σ o||SP all listed i σ.aS o||ZH T all listed i)=true then u0 T G C σ o λa2=>D4 T G C all r (listed.setIfInBounds i true) a2 k else none
  |none=>none
def ht(P:Program)(G:dG)(C:nQ):Prop:=∀d f aM r,C d f aM=some r->en P G f aM (·=r)
def yM:∀l:List Oper,flat (yJ l)=l
 |[]=>rfl
 |o::r=>by
  have ih:=yM r;unfold yJ;split;.rename_i g os rest bV;rw[bV]at ih;split<;>simp_all [flat]
  rename_i bV;rw[bV]at ih;simp[flat]at ih;subst ih;rfl
def Nj:∀(l:List Oper)(g:Option (Nat×Bool)) (os:List Oper),(g,os)∈yJ l->∀o∈os,o.guard=g
 |[],g,os,h=>by cases h
 |o::r,g,os,h=>by
  have ih:=Nj r;unfold yJ at h;split at h
  .rename_i sO amx rest bV;split at h
   .rename_i he;rcases xas.1 h with ad|ad
    .cases ad;intro q b4;rcases xas.1 b4 with rfl|b4
     .exact he.symm
     exact ih g amx (by rw[bV];simp) q b4
    exact ih g os (by rw[bV];simp[ad])
   rcases xas.1 h with ad|ad;.cases ad;intro q b4;simp at b4;subst b4;rfl
   exact ih g os (by rw[bV];exact ad)
  simp at h;obtain⟨rfl,rfl⟩:=h;intro q b4;simp at b4;subst b4;rfl
variable{P:Program}{T:cr}{G:dG}{C:nQ}{σ:aK}{all:Array Oper}
def Nk(b5:ht P G C){o:Oper}{x:Operand}{args:Array Operand}{eA:Array TypeId}(aC:o.op= .call ⟨.value x,args,eA⟩){k:aK->Option β}{b:β}(h:D3 G C σ o x args.toList k=some b):ds P T G o (λa2=>k a2=some b/\a2.objs=σ.objs/\∀t,o.dst≠some t->a2.aS t=σ.aS t) σ:=by
 have eB:hO o.op=true:=by rw[aC];rfl
 rw[oZ (wE eB)];unfold D3 at h;unfold j6;rw[aC];simp only;split at h
 case h_2=>cases h
 rename_i f pre post hr;simp only[hr];split at h
 case h_2=>cases h
 rename_i aM fA;obtain⟨r,ad,ae⟩:=fN h;obtain⟨ae,az⟩:=nb ae;refine⟨aM,aM,(·=r),fA,sL.refl _,b5 _ _ _ _ ad,⟨r,rfl⟩,?_,?_⟩
 .rcases xbC.1 ae with ae|ae;.exact .inr ae
  exact .inl (by rintro _ rfl;exact ae)
 rintro _ rfl;refine⟨az,by simp,?_⟩;intro t aQ;cases aF:o.dst with|none=>rfl|some d=>rw[aF]at aQ;simp only[aK.put];exact da _ _ (λe=>aQ (by rw[e]))
def aaw(b5:ht P G C){o:Oper}{k:aK->Option β}{b:β}(h:u0 T G C σ o k=some b):ds P T G o (λa2=>k a2=some b) σ:=by
 unfold u0 at h;split at h;.exact rN (λ_ h=>h.1) (Nk b5 (by assumption) h)
 obtain⟨a2,ad,ae⟩:=D2 h;unfold ds;rw[ad];exact ae
def s5{dst:Option Tmp}{r:aY}{t:Tmp}(aQ:dst≠some t):(σ.put dst r).aS t=σ.aS t:=by cases dst with|none=>rfl|some d=>simp only[aK.put];exact da _ _ (λe=>aQ (by rw[e]))
def aax(b5:ht P G C){o:Oper}(aD:still o=true){k:aK->Option β}{b:β}(h:u0 T G C σ o k=some b):ds P T G o (λa2=>k a2=some b/\a2.objs=σ.objs/\∀t,o.dst≠some t->a2.aS t=σ.aS t) σ:=by
 unfold u0 at h;split at h;.exact Nk b5 (by assumption) h
 rename_i aay;obtain⟨a2,ad,ae⟩:=D2 h;unfold ds;rw[ad];have amy:ho T (ct G σ.aS) σ.objs (o.dst.getD 9999) o.op=none:=by
  unfold still at aD;simp only[xbh]at aD;rcases aD with(aD|aD)|aD
  .exact(DL aD).2
  .exact DM aD
  exact(R9 aD).2.2
 unfold hp at ad;split at ad;.cases ad;exact⟨ae,by simp,λt aQ=>s5 aQ⟩
 split at ad;.cases ad;exact⟨ae,by simp,λt aQ=>s5 aQ⟩
 rw[amy]at ad;cases ad
def nR{l:List Oper}:∀{σ:aK}{K K':aK->Prop},(∀σ,K σ->K' σ)->gf P T G all l K σ->gf P T G all l K' σ:=by
 induction l with
 |nil=>intro σ K K' ai h;exact ai _ h
 |cons o l ih=>intro σ K K' ai h;exact Hf (λa2 bL=>ih ai bL) h
def SQ{l r:List Oper}:∀{σ:aK}{K:aK->Prop},gf P T G all l (gf P T G all r K) σ->gf P T G all (l++r) K σ:=by
 induction l with
 |nil=>intro σ K h;exact h
 |cons o l ih=>intro σ K h;exact Hf (λa2 bL=>ih bL) h
def p3(σ τ:aK):Prop:=σ.objs=τ.objs/\∀t,τ.aS t= .any\/σ.aS t=τ.aS t
theorem p3.refl(σ:aK):p3 σ σ:=⟨rfl,λ_=> .inr rfl⟩
def p3.trans{σ τ AE:aK}(h:p3 σ τ)(bL:p3 τ AE):p3 σ AE:=by
 refine⟨h.1.trans bL.1,λt=>?_⟩;rcases bL.2 t with ae|ae
 .exact .inl ae
 rcases h.2 t with ad|ad;.exact .inl (ae▸ad)
 exact .inr (ad.trans ae)
def p3.Hw{σ τ:aK}(h:p3 σ τ):hC σ τ:=by
 obtain⟨s,o⟩:=σ;obtain⟨s',o'⟩:=τ;obtain⟨ad,ae⟩:=h;simp only at ad ae;subst ad;intro m fr ρ ac w de;refine⟨m,ρ,Mem.le_refl m,⟨de.mem,de.frame,de.apart,de.one,?_,de.objs,de.own,de.sep⟩,λk ai an=>⟨an,rfl⟩⟩;intro t;rcases ae t with h|h;.simp only[h];exact .any _
 have:=de.aS t;simp only at this⊢;rw[<-h];exact this
def aaz{d:Tmp}{r:aY}:∀{l:List Oper}{σ:aK}{K:aK->Prop},(∀o∈l,d∉o.looksAt all/\o.dst≠some d)->gf P T G all l K (σ.put (some d) r)=gf P T G all l (λa2=>K (a2.put (some d) r)) σ
 |[],σ,K,h=>rfl
 |o::l,σ,K,h=>by
  have ao:=h o (by simp);have ih:∀{σ:aK},gf P T G all l K (σ.put (some d) r)=gf P T G all l (λa2=>K (a2.put (some d) r)) σ:=aaz λo' pZ=>h o' (by simp[pZ]);unfold gf;rw[hY,hY,pV (by rintro _ ⟨⟩;exact ao.1)];cases hw:ko all σ o with
  |none=>rfl
  |some w=>
   cases w with
   |true=>simp only;rw[j7 (all:=all) (by rintro _ ⟨⟩;exact ao.1) (by rintro _ ⟨⟩;exact ao.2)];simp only[ih]
   |false=>simp only;rw[<-ih,put_comm (by rintro _ ⟨⟩;exact ao.2)]
def amz{d:Tmp}{a:aY}{l:List Oper}{σ:aK}{K:aK->Prop}(gA:∀σ τ,p3 σ τ->K τ->K σ)(ak:∀o∈l,d∉o.looksAt all/\o.dst≠some d)(h:gf P T G all l K (σ.put (some d) .any)):gf P T G all l K (σ.put (some d) a):=by
 rw[aaz ak]at h⊢;refine nR (λa2 bL=>gA _ _ ?_ bL) h;refine⟨rfl,λt=>?_⟩;by_cases aQ:t=d;.subst aQ;exact .inl (by simp[aK.put])
 exact .inr (by simp[aK.put,da _ _ aQ])
def SR{l:List Oper}{K:aK->Prop}(gA:∀σ τ,p3 σ τ->K τ->K σ):∀(aM:List Tmp){σ τ:aK},(∀d∈aM,∀o∈l,d∉o.looksAt all/\o.dst≠some d)->(∀t,t∉aM->σ.aS t=τ.aS t)->(∀d∈aM,τ.aS d= .any\/σ.aS d=τ.aS d)->σ.objs=τ.objs->gf P T G all l K τ->gf P T G all l K σ
 |[],σ,τ,_,ad,ae,az,h=>by
  have:σ=τ:=by
   cases σ;cases τ;simp only at ad az;subst az
   congr 1
   funext t
   exact ad t (by simp)
  rw[this];exact h
 |d::aM,σ,τ,an,ad,ae,az,h=>by
  by_cases aF:τ.aS d= .any
  .have e:τ=τ.put (some d) .any:=by
    cases τ;simp only[aK.put]
    congr 1
    funext t
    by_cases aQ:t=d;.subst aQ;simp only[fq];exact aF
    rw[da _ _ aQ]
   rw[e]at h;have bL:=amz (a:=σ.aS d) gA (λo aC=>an d (by simp) o aC) h;refine SR (τ:=τ.put (some d) (σ.aS d)) gA aM (λg5 jB=>an g5 (by simp[jB])) ?_ ?_ az bL
   .intro t aQ;by_cases wO:t=d;.subst wO;simp[aK.put]
    simp only[aK.put,da _ _ wO];exact ad t (by simp[wO,aQ])
   intro g5 jB;by_cases wO:g5=d;.subst wO;simp[aK.put]
   simp only[aK.put,da _ _ wO];exact ae g5 (by simp[jB])
  refine SR gA aM (λg5 jB=>an g5 (by simp[jB])) ?_ (λg5 jB=>ae g5 (by simp[jB])) az h;intro t aQ;by_cases wO:t=d
  .subst wO;rcases ae t (by simp)with a3|a3
   .exact absurd a3 aF
   exact a3
  exact ad t (by simp[wO,aQ])
def aaA(b5:ht P G C):∀{os:List Oper}{σ:aK}{k:aK->Option β}{b:β},(∀o∈os,o.guard=none)->u1 T G C os σ k=some b->gf P T G all os (λa2=>k a2=some b) σ
 |[],σ,k,b,_,h=>h|o::os,σ,k,b,bV,h=>by unfold gf eX;rw[bV o (by simp)];exact rN (λa2 bL=>aaA b5 (λo aC=>bV o (by simp[aC])) bL) (aaw b5 h)
def aaB(b5:ht P G C){j:Nat}{want:Bool}{d:Tmp}(aF:(all[j]?).bind (·.dst)=some d):∀{os:List Oper}{σ:aK}{k:aK->Option β}{b:β},(∀o∈os,o.guard=some (j,want))->(∀o∈os,still o=true/\o.dst≠some d)->σ.aS d= .d (.val (.bool want))->u1 T G C os σ k=some b->gf P T G all os (λa2=>k a2=some b/\a2.objs=σ.objs/\∀t,t∉dstsOf os->a2.aS t=σ.aS t) σ
 |[],σ,k,b,_,_,_,h=>⟨h,rfl,λ_ _=>rfl⟩
 |o::os,σ,k,b,bV,aD,hw,h=>by
  have ao:=aD o (by simp);unfold gf eX;rw[bV o (by simp)];simp only[aF,hw,xay];refine rN ?_ (aax b5 ao.1 h);rintro a2 ⟨ad,ae,az⟩;refine nR ?_ (aaB b5 aF (λo aC=>bV o (by simp[aC])) (λo aC=>aD o (by simp[aC])) (by rw[az d ao.2];exact hw) ad);rintro sV ⟨bb,bo,b0⟩;refine⟨bb,bo.trans ae,?_⟩;intro t aQ;have qL:t∉dstsOf os:=λaj=>aQ (by unfold dstsOf at aj⊢;simp only[xbM];cases o.dst<;>simp[aj])
  have AP:o.dst≠some t:=λaj=>aQ (by unfold dstsOf;simp[aj]);rw[b0 t qL,az t AP]
def Hx{j:Nat}{want:Bool}{d:Tmp}(aF:(all[j]?).bind (·.dst)=some d):∀{os:List Oper}{σ:aK},(∀o∈os,o.guard=some (j,want))->(∀o∈os,o.dst≠some d)->(σ.aS d= .d (.val (.bool (!want)))\/∃vs,σ.aS d= .d (.val (.tuple vs)))->gf P T G all os (λa2=>a2.objs=σ.objs/\(∀t,t∉dstsOf os->a2.aS t=σ.aS t)/\∀bX,yK os=some bX->a2.aS bX= .d kG) σ
 |[],σ,_,_,_=>⟨rfl,λ_ _=>rfl,by intro bX h;cases h⟩
 |o::os,σ,bV,aD,hw=>by
  have ao:=aD o (by simp);unfold gf;have key:gf P T G all os (λa2=>a2.objs=σ.objs/\(∀t,t∉dstsOf (o::os)->a2.aS t=σ.aS t)/\∀bX,yK (o::os)=some bX->a2.aS bX= .d kG) (σ.put o.dst (.d (.val (.tuple #[])))):=by
   have Hy:(σ.put o.dst (.d (.val (.tuple #[])))).aS d= .d (.val (.bool (!want)))\/∃vs,(σ.put o.dst (.d (.val (.tuple #[])))).aS d= .d (.val (.tuple vs)):=by rw[s5 ao];exact hw
   refine nR ?_ (Hx aF (λo aC=>bV o (by simp[aC])) (λo aC=>aD o (by simp[aC])) Hy);rintro a2 ⟨ad,ae,az⟩;refine⟨ad.trans (by simp),?_,?_⟩
   .intro t aQ;have qL:t∉dstsOf os:=λaj=>aQ (by
     unfold dstsOf at aj⊢;simp only[xbM];cases o.dst<;>simp[aj])
    have AP:o.dst≠some t:=λaj=>aQ (by unfold dstsOf;simp[aj]);rw[ae t qL,s5 AP]
   intro bX ak;cases os with|nil=>simp only[yK]at ak;rw[ae bX (by simp[dstsOf]),ak];simp[aK.put,kG]|cons q aED=>exact az bX ak
  unfold eX;rw[bV o (by simp)];simp only[aF];rcases hw with hw|⟨vs,hw⟩
  .simp only[hw];rw[xaa (by cases want<;>simp)];exact key
  simp only[hw];exact key
def SS{j:Nat}{want:Bool}{d:Tmp}(aF:(all[j]?).bind (·.dst)=some d):∀{os:List Oper}{σ:aK},(∀o∈os,o.guard=some (j,want))->(∀o∈os,o.dst≠some d)->(σ.aS d= .d (.val (.bool (!want)))\/∃vs,σ.aS d= .d (.val (.tuple vs)))->gf P T G all os (λa2=>a2.objs=σ.objs/\(∀t,t∉dstsOf os->a2.aS t=σ.aS t)/\∀t∈dstsOf os,a2.aS t= .d kG) σ
 |[],σ,_,_,_=>⟨rfl,λ_ _=>rfl,by intro t h;cases h⟩
 |o::os,σ,bV,aD,hw=>by
  have ao:=aD o (by simp);unfold gf;have key:gf P T G all os (λa2=>a2.objs=σ.objs/\(∀t,t∉dstsOf (o::os)->a2.aS t=σ.aS t)/\∀t∈dstsOf (o::os),a2.aS t= .d kG) (σ.put o.dst (.d (.val (.tuple #[])))):=by
   have Hy:(σ.put o.dst (.d (.val (.tuple #[])))).aS d= .d (.val (.bool (!want)))\/∃vs,(σ.put o.dst (.d (.val (.tuple #[])))).aS d= .d (.val (.tuple vs)):=by rw[s5 ao];exact hw
   refine nR ?_ (SS aF (λo aC=>bV o (by simp[aC])) (λo aC=>aD o (by simp[aC])) Hy);rintro a2 ⟨ad,ae,az⟩;refine⟨ad.trans (by simp),?_,?_⟩
   .intro t aQ;have qL:t∉dstsOf os:=λaj=>aQ (by
     unfold dstsOf at aj⊢;simp only[xbM];cases o.dst<;>simp[aj])
    have AP:o.dst≠some t:=λaj=>aQ (by unfold dstsOf;simp[aj]);rw[ae t qL,s5 AP]
   intro t aQ;by_cases qL:t∈dstsOf os;.exact az t qL
   have lv:o.dst=some t:=by
    unfold dstsOf at aQ qL;simp only[xbM]at aQ;cases aC:o.dst with
    |none=>rw[aC]at aQ;exact absurd aQ qL
    |some u=>
     rw[aC]at aQ;rcases xas.1 aQ with rfl|h
     .rfl
     exact absurd h qL
   rw[ae t qL,lv];simp[aK.put,kG]
  unfold eX;rw[bV o (by simp)];simp only[aF];rcases hw with hw|⟨vs,hw⟩
  .simp only[hw];rw[xaa (by cases want<;>simp)];exact key
  simp only[hw];exact key
def amA(b5:ht P G C){o:Oper}{k:aK->Option β}{b:β}(h:u0 T G C σ o k=some b):ds P T G o (λa2=>k a2=some b/\∀t,o.dst≠some t->a2.aS t=σ.aS t) σ:=by
 unfold u0 at h;split at h;.exact rN (λ_ h=>⟨h.1,h.2.2⟩) (Nk b5 (by assumption) h)
 obtain⟨a2,ad,ae⟩:=D2 h;unfold ds;rw[ad];refine⟨ae,λt aQ=>?_⟩;unfold hp at ad;split at ad;.cases ad;exact s5 aQ
 split at ad;.cases ad;exact s5 aQ
 split at ad;.cases ad;exact s5 aQ
 cases ad
def aaC(b5:ht P G C){j:Nat}{want:Bool}{d:Tmp}(aF:(all[j]?).bind (·.dst)=some d):∀{os:List Oper}{σ:aK}{k:aK->Option β}{b:β},(∀o∈os,o.guard=some (j,want))->(∀o∈os,o.dst≠some d)->σ.aS d= .d (.val (.bool want))->u1 T G C os σ k=some b->gf P T G all os (λa2=>k a2=some b) σ
 |[],σ,k,b,_,_,_,h=>h|o::os,σ,k,b,bV,aD,hw,h=>by unfold gf eX;rw[bV o (by simp)];simp only[aF,hw,xay];refine rN ?_ (amA b5 h);rintro a2 ⟨ad,az⟩;exact aaC b5 aF (λo aC=>bV o (by simp[aC])) (λo aC=>aD o (by simp[aC])) (by rw[az d (aD o (by simp))];exact hw) ad
def SU{j:Nat}{want:Bool}{d:Tmp}(aF:(all[j]?).bind (·.dst)=some d){K:aK->Prop}:∀{os:List Oper}{σ:aK},(∀o∈os,o.guard=some (j,want))->(∀o∈os,o.dst≠some d)->(σ.aS d= .d (.val (.bool (!want)))\/∃vs,σ.aS d= .d (.val (.tuple vs)))->K (SN os σ)->gf P T G all os K σ
 |[],σ,_,_,_,h=>h
 |o::os,σ,bV,aD,hw,h=>by
  have ao:=aD o (by simp);have Hy:(σ.put o.dst (.d (.val (.tuple #[])))).aS d= .d (.val (.bool (!want)))\/∃vs,(σ.put o.dst (.d (.val (.tuple #[])))).aS d= .d (.val (.tuple vs)):=by rw[s5 ao];exact hw
  have key:gf P T G all os K (σ.put o.dst (.d (.val (.tuple #[])))):=SU aF (λo aC=>bV o (by simp[aC])) (λo aC=>aD o (by simp[aC])) Hy h;unfold gf eX;rw[bV o (by simp)];simp only[aF];rcases hw with hw|⟨vs,hw⟩
  .simp only[hw];rw[xaa (by cases want<;>simp)];exact key
  simp only[hw];exact key
def aaD:∀{os:List Oper}{bX:Tmp},yK os=some bX->bX∈dstsOf os
 |[],bX,h=>by cases h
 |[o],bX,h=>by simp only[yK]at h;simp[dstsOf,h]|o::q::r,bX,h=>by have:=aaD (os:=q::r) h;unfold dstsOf at this⊢;rw[xbM];cases o.dst<;>simp[this]
def D5(b5:ht P G C){K:aK->Prop}(gA:∀σ τ,p3 σ τ->K τ->K σ):∀{gs:List (Option (Nat×Bool)×List Oper)} {σ:aK} {k:aK->Option β} {b:β},(∀g∈gs,∀o∈g.2,o.guard=g.1)->(∀a2,k a2=some b->K a2)->AN T G C all gs σ k=some b->gf P T G all (flat gs) K σ
 |[],σ,k,b,_,ai,h=>ai _ h|(none,os)::r,σ,k,b,bV,ai,h=>by show gf P T G all (os++flat r) K σ;refine SQ (nR ?_ (aaA b5 (λo aC=>bV (none,os) (by simp) o aC) h));intro a2 bL;exact D5 b5 gA (λg hm=>bV g (by simp[hm])) ai bL
 |(some (j,want),os)::r,σ,k,b,bV,ai,h=>by
  show gf P T G all (os++flat r) K σ;unfold AN at h;split at h
  case h_2=>cases h
  rename_i d bX aF AQ;split at h
  case h_2=>cases h
  rename_i x af;split at h
  case isFalse=>
   split at h
   case isFalse=>cases h
   rename_i lX;simp only[xat,bne_iff_ne,ne_eq]at lX;have iL:∀o∈os,o.guard=some (j,want):=λo aC=>bV (some (j,want),os) (by simp) o aC;unfold AM at h;refine SQ ?_;split at h
   .rename_i oX;split at h;.rename_i an;subst an;exact nR (λa2 bL=>D5 b5 gA (λg hm=>bV g (by simp[hm])) ai bL) (aaC b5 aF iL lX af h)
    rename_i an;exact SU aF iL lX (.inl (by rw[af];cases oX<;>cases want<;>simp_all)) (D5 b5 gA (λg hm=>bV g (by simp[hm])) ai h)
   .exact SU aF iL lX (.inr ⟨_,af⟩) (D5 b5 gA (λg hm=>bV g (by simp[hm])) ai h)
   cases h
  rename_i a4;simp only[aas,xai,xat,bne_iff_ne,ne_eq,blind,List.mem_filter,Bool.not_eq_true',List.contains_eq_mem,decide_eq_false_iff_not]at a4;obtain⟨SV,amB⟩:=a4;obtain⟨v,ad,ae⟩:=fN h;have iL:∀o∈os,o.guard=some (j,want):=λo aC=>bV (some (j,want),os) (by simp) o aC;have rest:=D5 b5 gA (λg hm=>bV g (by simp[hm])) ai ae;have fin:∀a2:aK,a2.objs=σ.objs->(∀t,t∉dstsOf os->a2.aS t=σ.aS t)->a2.aS bX= .d v->gf P T G all (flat r) K a2:=by
   intro a2 aZ a6 b2;refine SR gA ((dstsOf os).filter (·!=bX)) ?_ ?_ ?_ ?_ rest;.intro g5 jB o aC;have Hz:=List.mem_filter.1 jB;exact amB o aC g5 ⟨Hz.1,by simpa using Hz.2⟩
   .intro t aQ;simp only[List.mem_filter,bne_iff_ne,ne_eq,not_and,Decidable.not_not]at aQ;by_cases oA:t=bX;.subst oA;simp[aK.put,b2]
    have iN:t∉dstsOf os:=λaj=>oA (aQ aj);simp only[aK.put,da _ _ oA,mu,iN,xaB];exact a6 t iN
   .intro g5 jB;have Hz:=List.mem_filter.1 jB;have cm:g5≠bX:=by simpa using Hz.2
    refine .inl ?_;simp only[aK.put,da _ _ cm,mu,Hz.1,xay]
   simp[aK.put,mu,aZ]
  unfold dA at ad;refine SQ ?_;split at ad
  .rename_i oX;split at ad
   .rename_i an;subst an;refine nR ?_ (aaB b5 aF iL SV af ad);rintro a2 ⟨bb,bo,b0⟩;refine fin a2 bo b0 ?_;split at bb;.rename_i u hu;cases bb;exact hu
    cases bb
   rename_i an;cases ad;refine nR ?_ (Hx aF iL (λo aC=>(SV o aC).2) (.inl (by rw[af];cases oX<;>cases want<;>simp_all)));rintro a2 ⟨bb,bo,b0⟩;exact fin a2 bb bo (b0 bX AQ)
  .rename_i vs;cases ad;refine nR ?_ (Hx aF iL (λo aC=>(SV o aC).2) (.inr ⟨_,af⟩));rintro a2 ⟨bb,bo,b0⟩;exact fin a2 bb bo (b0 bX AQ)
  cases ad
def amC{i:Nat}{fD:Oper}{listed:Array Bool}(ag:all[i]?=some fD)(h:SO all listed i=true):(∀j dk,j∈waits all i->all[j]?=some dk->∃e∈dk.after,Region.binds .any e=true/\(e.on=i\/e.on∈waits all i))/\(∀j,j∈waits all i->listed.getD j true=false)/\ ∀j dk,all[j]?=some dk->j≠i->listed.getD j true=false->j∉waits all i->fD.apart all dk=true/\∀t a x,dk.op≠ .store t a x:=by
 simp only[SO,ag,xai,xat,xbX]at h;refine⟨λj dk aR jQ=>?_,λj aR=>by simpa using(h.1 j aR).1,λj dk jQ cm pY iN=>?_⟩;.have ad:=(h.1 j aR).2;simp only[jQ]at ad;obtain⟨e,he,an⟩:=Array.any_eq_true'.1 ad;simp only[xai,xbh,xbH,List.contains_iff_mem]at an;exact⟨e,he,an.1,an.2⟩
 have ad:=h.2 j (xaZ.1 jQ).1;simp only[jQ,xbh,xbH,cm,false_or,pY,xaq,xai,List.contains_iff_mem,iN]at ad;refine⟨ad.1,?_⟩;intro t a x he;rw[he]at ad;simp[aau]at ad
def amD{i:Nat}{fD:Oper}{listed:Array Bool}{aS:Nat->aY}(h:SP all listed i aS fD=true):(∀j dk,j∈waits all i->all[j]?=some dk->∃e∈dk.after,Region.binds .any e=true/\(e.on=i\/e.on∈waits all i))/\(∀j,j∈waits all i->listed.getD j true=false)/\ ∀j dk,all[j]?=some dk->j≠i->listed.getD j true=false->j∉waits all i->fD.apart all dk=true/\uV aS fD dk=true/\(∀t∈nM fD.op++(AO all listed i).flatMap (λy=>wM y.op),dk.dst≠some t)/\∀t∈wM dk.op,t∈nM fD.op++(AO all listed i).flatMap (λy=>wM y.op):=by
 simp only[SP,xai,xat]at h;refine⟨λj dk aR jQ=>?_,λj aR=>by simpa using(h.1 j aR).1,λj dk jQ cm pY iN=>?_⟩;.have ad:=(h.1 j aR).2;simp only[jQ]at ad;obtain⟨e,he,an⟩:=Array.any_eq_true'.1 ad;simp only[xai,xbh,xbH,List.contains_iff_mem]at an;exact⟨e,he,an.1,an.2⟩
 have hm:dk∈AO all listed i:=by
  unfold AO;rw[List.mem_filterMap];refine⟨j,by simpa using(xaZ.1 jQ).1,?_⟩;have:(j==i||listed.getD j true||(waits all i).contains j)=false:=by simp only[Bool.or_eq_false_iff,beq_eq_false_iff_ne,ne_eq];exact⟨⟨cm,pY⟩,by simpa using iN⟩
  rw[this];simpa using jQ
 obtain⟨ad,ae⟩:=h.2 dk hm;refine⟨ad.1,ad.2,λt aQ=>by simpa using ae t aQ,λt aQ=>List.mem_append_right _ (List.mem_flatMap.2 ⟨dk,hm,aQ⟩)⟩
def SW(b5:ht P G C){k:aK->Option β}{b:β}:∀(ord:List Nat)(listed:Array Bool)(σ:aK),D4 T G C all ord listed σ k=some b->jP P T G all (λa2=>k a2=some b) ord.length listed σ
 |[],listed,σ,h=>by
  unfold D4 at h;split at h;.rename_i aw;exact⟨List.isEmpty_iff.1 aw,h⟩
  cases h
 |i::r,listed,σ,h=>by
  unfold D4 at h;split at h
  case h_2=>cases h
  rename_i o ag;split at h
  case isFalse=>cases h
  rename_i aj;obtain⟨bV,aw,ba⟩:=aj;have H:ia P T G all i (jP P T G all (λa2=>k a2=some b) r.length (listed.setIfInBounds i true)) σ:=by unfold ia;simp only[ag];unfold eX;simp only[bV];exact rN (λa2 bL=>SW b5 r _ a2 bL) (aaw b5 h)
  rcases xbC.1 ba with ba|ba
  case inr=>obtain⟨bS,bP,ca⟩:=Sh ag ba;exact Sg ag bS r.length listed σ bP ca (by simpa using aw) (.inr trivial) H
  rcases xbC.1 ba with ba|ba
  case inr=>obtain⟨bS,bP,ca⟩:=amD ba;exact al5 ag bV bS (s0:=σ.aS) (L:=nM o.op++(AO all listed i).flatMap (λy=>wM y.op)) (λt aQ=>xbQ _ aQ) r.length listed σ (λ_ _=>rfl) bP ca (by simpa using aw) H
  rcases xbC.1 ba with ba|ba;.obtain⟨bS,bP,ca⟩:=ak1 ag ba;exact akZ ag bS r.length listed σ bP ca (by simpa using aw) (.inr trivial) H
  unfold aav at ba;split at ba
  case h_2=>cases ba
  rename_i t a aC;split at ba
  case h_2=>cases ba
  rename_i dg off aD;obtain⟨bS,bP,ca⟩:=amC ag ba;exact alJ ag aC bV bS r.length listed σ aD bP ca (by simpa using aw) H
def amE(b5:ht P G C){K:aK->Prop}(gA:∀σ τ,p3 σ τ->K τ->K σ){k:aK->Option β}{b:β}(ai:∀a2,k a2=some b->K a2)(h:aat T G C all σ k=some b):gf P T G all all.toList K σ:=by
 have:=D5 (P:=P) b5 gA (λg hm o aC=>Nj _ _ _ hm o aC) ai h
 rwa [yM]at this
end
inductive s6 where
 |any
 |d
 |HA (f:FuncId)
 |fd (f:FuncId) (m:Nat)
 |e6 (off:Nat)
 |ptr (k:Key) (off:Nat)
 |row (k:Key)
 |map (k:Key)
inductive lY where
 |b (s:s6)
 |fn (f:Fn) (first cap:List s6)
 |agg (cs:List s6)
inductive mw where
 |dead
 |box (cs:List lY)
 |row (k:Nat)
 |map
inductive yN where
 |slot (t K n:Nat)
 |box (k i K n:Nat)
structure s7 where
 aS:List (Nat×lY)
 objs:List (Key×mw)
 qM:List yN
def I(ls:List D)(n:Nat):D:=ls.getD n kG
def AR(ls:List D):s6->Nat->aY×Nat
 | .any,n=>(.any,n)| .d,n=>(.d (I ls n),n+1)| .HA f,n=>(.d (.val (.func (.func f) #[] #[])),n)| .fd f m,n=>(.d (.fn (.func f) [] ((List.range m).map λi=>I ls (n+i))),n+m)| .e6 off,n=>(.e6 (M9 (I ls n)) off,n+1)| .ptr k off,n=>(.ptr k off,n)| .row k,n=>(.row k,n)| .map k,n=>(.map k,n)
def rS(ls:List D):List s6->Nat->List aY×Nat
 |[],n=>([],n)|s::r,n=>((AR ls s n).1::(rS ls r (AR ls s n).2).1,(rS ls r (AR ls s n).2).2)
def qN(ls:List D):lY->Nat->aY×Nat
 | .b s,n=>AR ls s n| .fn f first cap,n=>(.fn f (rS ls first n).1 (rS ls cap (rS ls first n).2).1,(rS ls cap (rS ls first n).2).2)
 | .agg cs,n=>(.agg (rS ls cs n).1,(rS ls cs n).2)
def s8(ls:List D):List lY->Nat->List aY×Nat
 |[],n=>([],n)|s::r,n=>((qN ls s n).1::(s8 ls r (qN ls s n).2).1,(s8 ls r (qN ls s n).2).2)
def AS(ls:List D):mw->Nat->c0×Nat
 | .dead,n=>(.dead,n)| .box cs,n=>(.box (s8 ls cs n).1,(s8 ls cs n).2)| .row k,n=>(.row k (aP (I ls n)),n+1)| .map,n=>(.map (gZ (I ls n)),n+1)
def yO(ls:List D):List (Nat×lY)->Nat->List (Nat×aY)×Nat
 |[],n=>([],n)|(t,s)::r,n=>((t,(qN ls s n).1)::(yO ls r (qN ls s n).2).1,(yO ls r (qN ls s n).2).2)
def p4(ls:List D):List (Key×mw)->Nat->List (Key×c0)×Nat
 |[],n=>([],n)|(t,s)::r,n=>((t,(AS ls s n).1)::(p4 ls r (AS ls s n).2).1,(p4 ls r (AS ls s n).2).2)
def restore(gv:s7)(ls:List D):aK:=ZO (yO ls gv.aS 0).1 (p4 ls gv.objs (yO ls gv.aS 0).2).1
def aaE:aY->s6->List (Key×Key)
 | .ptr k _,.ptr bO _=>[(bO,k)]| .row k,.row bO=>[(bO,k)]| .map k,.map bO=>[(bO,k)]|_,_=>[]
def Nl:List aY->List s6->List (Key×Key)
 |x::xs,s::hZ=>aaE x s++Nl xs hZ|_,_=>[]
def aaF:aY->lY->List (Key×Key)
 |x,.b s=>aaE x s| .fn _ as kF,.fn _ hZ ts=>Nl as hZ++Nl kF ts| .agg cs,.agg hZ=>Nl cs hZ|_,_=>[]
def Nm:List aY->List lY->List (Key×Key)
 |x::xs,s::hZ=>aaF x s++Nm xs hZ|_,_=>[]
def aaG(σ:aK):List (Nat×lY)->List (Key×Key)
 |[]=>[]|(t,s)::r=>aaF (σ.aS t) s++aaG σ r
def D6(σ:aK):List (Key×mw)->List (Key×Key)->List (Key×Key)
 |[],cn=>cn|(k,.box hZ)::r,cn=>match σ.objs (gB cn k)with|some (.box xs)=>D6 σ r (cn++Nm xs hZ)|_=>D6 σ r cn
 |_::r,cn=>D6 σ r cn
def Nn(cn:List (Key×Key))(ks:List Key):aY->s6->Option (List D)
 |_,.any=>some []|x,.d=>(MX x).map λa=>[a]| .d (.val (.func (.func f) a b)),.HA jN=>if f=jN/\a.size=0/\b.size=0 then some []else none
 | .d (.fn (.func jN) first AT),.fd f m=>if jN=f/\first.isEmpty=true/\AT.length=m then some AT else none
 | .e6 cs off,.e6 SX=>if off=SX then some [.agg cs]else none
 | .ptr k off,.ptr bO SX=>if k=gB cn bO/\off=SX/\ks.contains bO then some []else none
 | .row k,.row bO=>if k=gB cn bO/\ks.contains bO then some []else none
 | .map k,.map bO=>if k=gB cn bO/\ks.contains bO then some []else none
 |_,_=>none
def wP(x y:Option (List D)):Option (List D):=match x,y with|some a,some b=>some (a++b)|_,_=>none
def HB(cn:List (Key×Key))(ks:List Key):List aY->List s6->Option (List D)
 |[],[]=>some []|x::xs,s::hZ=>wP (Nn cn ks x s) (HB cn ks xs hZ)|_,_=>none
def No(cn:List (Key×Key))(ks:List Key):aY->lY->Option (List D)
 |x,.b s=>Nn cn ks x s| .fn (.func f) as kF,.fn (.func jN) hZ ts=>if f=jN then wP (HB cn ks as hZ) (HB cn ks kF ts)else none
 | .agg cs,.agg hZ=>HB cn ks cs hZ|_,_=>none
def Np(cn:List (Key×Key))(ks:List Key):List aY->List lY->Option (List D)
 |[],[]=>some []|x::xs,s::hZ=>wP (No cn ks x s) (Np cn ks xs hZ)|_,_=>none
def SY(cn:List (Key×Key))(ks:List Key):Option c0->mw->Option (List D)
 |some _,.dead=>some []|some (.box xs),.box hZ=>Np cn ks xs hZ|some (.row k es),.row bO=>if k=bO then some [.aE k es]else none
 |some (.map es),.map=>some [.mp es]|_,_=>none
def SZ(cn:List (Key×Key))(ks:List Key)(σ:aK):List (Nat×lY)->Option (List D)
 |[]=>some []|(t,s)::r=>wP (No cn ks (σ.aS t) s) (SZ cn ks σ r)
def Nq(cn:List (Key×Key))(ks:List Key)(σ:aK):List (Key×mw)->Option (List D)
 |[]=>some []|(k,s)::r=>wP (SY cn ks (σ.objs (gB cn k)) s) (Nq cn ks σ r)
section
variable{β:Type}
def u2:List yN->aK->(aK->Option β)->Option β
 |[],σ,k=>k σ
 | .slot t K n::r,σ,k=>match σ.aS t,σ.objs K with
  | .d a,none=>if K<10000 then ay (o3 a) (u2 r ⟨cz σ.aS t (.row K),cz σ.objs K (some (.row n []))⟩ k)else none
  |_,_=>u2 r σ k
 | .box dg i K n::r,σ,k=>match σ.objs dg with
  |some (.box xs)=>match xs[i]?,σ.objs K with
   |some (.d a),none=>if K<10000 then ay (o3 a) (u2 r ⟨σ.aS,cz (cz σ.objs dg (some (.box (xs.set i (.row K))))) K (some (.row n []))⟩ k)else none
   |_,_=>u2 r σ k
  |_=>u2 r σ k
def D7:mw->Bool
 | .box _=>true| .row _=>true|_=>false
def aaH(ib:List Key)(cn:List (Key×Key))(objs:List (Key×mw)):Bool:=objs.all (λp=>decide (p.1<10000)||ib.contains p.1)&&ib.all (λk=>gB cn k==k&&objs.any λp=>p.1==k&&D7 p.2)&&decide ((objs.map (·.1)).Nodup)
def u3(ib:List Key)(gv:s7)(σ:aK)(k:List D->Option β):Option β:=u2 gv.qM σ λσ=>
  let cn:=D6 σ gv.objs (aaG σ gv.aS)
  if AI (gB cn) (gv.objs.map (·.1))&&aaH ib cn gv.objs=true then
   match wP (SZ cn (gv.objs.map (·.1)) σ gv.aS) (Nq cn (gv.objs.map (·.1)) σ gv.objs)with|some ls=>k ls|none=>none
  else none
end
def AU{x y:Option (List D)}{l:List D}(h:wP x y=some l):∃a b,x=some a/\y=some b/\l=a++b:=by
 unfold wP at h;split at h;.cases h;exact⟨_,_,rfl,rfl,rfl⟩
 cases h
def nS(ls:List D)(n:Nat)(a:List D):Prop:=∀j d,a[j]?=some d->ls[n+j]?=some d
def nS.left{ls:List D}{n:Nat}{a b:List D}(h:nS ls n (a++b)):nS ls n a:=λj d aR=>h j d (by rw[xaM (xae.1 aR).1];exact aR)
def nS.right{ls:List D}{n:Nat}{a b:List D}(h:nS ls n (a++b)):nS ls (n+a.length) b:=λj d aR=>by
 have:=h (a.length+j) d (by rw[xaF (by omega)];simpa using aR)
 rwa [<-xbl]at this
def nS.I{ls:List D}{n:Nat}{a:D}(h:nS ls n [a]):I ls n=a:=by have:=h 0 a rfl;simp only[xbw]at this;simp[Am.I,xaW,this]
section
variable{cn:List (Key×Key)}{ks:List Key}{ls:List D}{U:Key->Prop}
def aaI(hj:∀k,ks.contains k=true->U k){x:aY}{s:s6}{n:Nat}{a:List D}(h:Nn cn ks x s=some a)(hG:nS ls n a):qG (gB cn) U x (AR ls s n).1/\(AR ls s n).2=n+a.length:=by
 unfold Nn at h;split at h;.cases h;exact⟨trivial,rfl⟩
 .obtain⟨d,aF,rfl⟩:=xan.1 h;refine⟨⟨_,aF,?_⟩,rfl⟩;rw[hG.I];exact D.le_refl _
 .split at h;.rename_i ba;obtain⟨rfl,aB,an⟩:=ba;cases h;rw[xbm aB,xbm an];exact⟨⟨_,rfl,D.le_refl _⟩,rfl⟩
  cases h
 .split at h
  .rename_i ba;obtain⟨rfl,ad,rfl⟩:=ba;cases h;refine⟨⟨_,rfl,?_⟩,rfl⟩;rw[List.isEmpty_iff.1 ad];have e:((List.range a.length).map λi=>I ls (n+i))=a:=by
    apply xbR;intro i;rw[xaj];by_cases ag:i<a.length;.rw[xcd ag,xab ag];have:=hG i a[i] (xab ag);simp[Am.I,xaW,this]
    rw[xaT (by simp;omega),xaT (by omega)];rfl
   skip
   rw[e];exact D.le_refl _
  cases h
 .split at h;.rename_i ba;cases h;subst ba;refine⟨.inl ?_,rfl⟩;rw[hG.I];rfl
  cases h
 .split at h;.rename_i ba;cases h;exact⟨⟨by rw[ba.1,ba.2.1],hj _ ba.2.2⟩,rfl⟩
  cases h
 .split at h;.rename_i ba;cases h;exact⟨⟨by rw[ba.1],hj _ ba.2⟩,rfl⟩
  cases h
 .split at h;.rename_i ba;cases h;exact⟨⟨by rw[ba.1],hj _ ba.2⟩,rfl⟩
  cases h
 cases h
def Nr(hj:∀k,ks.contains k=true->U k):∀{xs:List aY}{hZ:List s6}{n:Nat}{a:List D},HB cn ks xs hZ=some a->nS ls n a->j8 (gB cn) U xs (rS ls hZ n).1/\(rS ls hZ n).2=n+a.length
 |[],[],n,a,h,hG=>by cases h;exact⟨trivial,rfl⟩
 |x::xs,s::hZ,n,a,h,hG=>by obtain⟨ah,aT,ad,ae,rfl⟩:=AU h;obtain⟨bb,bo⟩:=aaI hj ad hG.left;have aw:=hG.right;rw[<-bo]at aw;obtain⟨b0,eR⟩:=Nr hj ae aw;refine⟨⟨bb,b0⟩,?_⟩;show(rS ls hZ (AR ls s n).2).2=_;rw[eR,bo,xaG];omega
 |[],_::_,n,a,h,_=>by cases h
 |_::_,[],n,a,h,_=>by cases h
def amF{x y:aY}(h:qG (gB cn) U x y):wH (gB cn) U x y:=by cases y<;>first|exact h|exact h.elim
def aaJ(hj:∀k,ks.contains k=true->U k){x:aY}{s:lY}{n:Nat}{a:List D}(h:No cn ks x s=some a)(hG:nS ls n a):wH (gB cn) U x (qN ls s n).1/\(qN ls s n).2=n+a.length:=by
 unfold No at h;split at h;.obtain⟨bb,bo⟩:=aaI hj h hG;exact⟨amF bb,bo⟩
 .split at h;.rename_i ba;subst ba;obtain⟨ah,aT,ad,ae,rfl⟩:=AU h;obtain⟨bb,bo⟩:=Nr hj ad hG.left;have aw:=hG.right;rw[<-bo]at aw;obtain⟨b0,eR⟩:=Nr hj ae aw;refine⟨⟨rfl,bb,b0⟩,?_⟩;simp only[qN];rw[eR,bo,xaG];omega
  cases h
 .obtain⟨bb,bo⟩:=Nr hj h hG;exact⟨bb,bo⟩
 cases h
def S0(hj:∀k,ks.contains k=true->U k):∀{xs:List aY}{hZ:List lY}{n:Nat}{a:List D},Np cn ks xs hZ=some a->nS ls n a->uU (gB cn) U xs (s8 ls hZ n).1/\(s8 ls hZ n).2=n+a.length
 |[],[],n,a,h,hG=>by cases h;exact⟨trivial,rfl⟩
 |x::xs,s::hZ,n,a,h,hG=>by obtain⟨ah,aT,ad,ae,rfl⟩:=AU h;obtain⟨bb,bo⟩:=aaJ hj ad hG.left;have aw:=hG.right;rw[<-bo]at aw;obtain⟨b0,eR⟩:=S0 hj ae aw;refine⟨⟨bb,b0⟩,?_⟩;show(s8 ls hZ (qN ls s n).2).2=_;rw[eR,bo,xaG];omega
 |[],_::_,n,a,h,_=>by cases h
 |_::_,[],n,a,h,_=>by cases h
def amG(hj:∀k,ks.contains k=true->U k){x:Option c0}{s:mw}{n:Nat}{a:List D}(h:SY cn ks x s=some a)(hG:nS ls n a):(∃o',x=some o'/\AG (gB cn) U o' (AS ls s n).1)/\(AS ls s n).2=n+a.length:=by
 unfold SY at h;split at h;.cases h;exact⟨⟨_,rfl,trivial⟩,rfl⟩
 .obtain⟨bb,bo⟩:=S0 hj h hG;exact⟨⟨_,rfl,⟨_,rfl,bb⟩⟩,bo⟩
 .split at h;.rename_i ai;cases h;subst ai;refine⟨⟨_,rfl,⟨_,rfl,.inl ?_⟩⟩,rfl⟩;rw[hG.I];rfl
  cases h
 .cases h;refine⟨⟨_,rfl,?_⟩,rfl⟩;simp only[AS,AG];rw[hG.I];rfl
 cases h
def aaK(hj:∀k,ks.contains k=true->U k){σ:aK}:∀{l:List (Nat×lY)} {n:Nat} {a:List D},SZ cn ks σ l=some a->nS ls n a->DV (gB cn) U σ (yO ls l n).1/\(yO ls l n).2=n+a.length
 |[],n,a,h,hG=>by cases h;exact⟨trivial,rfl⟩
 |(t,s)::r,n,a,h,hG=>by obtain⟨ah,aT,ad,ae,rfl⟩:=AU h;obtain⟨bb,bo⟩:=aaJ hj ad hG.left;have aw:=hG.right;rw[<-bo]at aw;obtain⟨b0,eR⟩:=aaK hj ae aw;refine⟨⟨bb,b0⟩,?_⟩;simp only[yO];rw[eR,bo,xaG];omega
def S1(hj:∀k,ks.contains k=true->U k){σ:aK}:∀{l:List (Key×mw)} {n:Nat} {a:List D},Nq cn ks σ l=some a->nS ls n a->AH (gB cn) U σ (p4 ls l n).1/\(p4 ls l n).2=n+a.length
 |[],n,a,h,hG=>by cases h;exact⟨trivial,rfl⟩
 |(t,s)::r,n,a,h,hG=>by obtain⟨ah,aT,ad,ae,rfl⟩:=AU h;obtain⟨bb,bo⟩:=amG hj ad hG.left;have aw:=hG.right;rw[<-bo]at aw;obtain⟨b0,eR⟩:=S1 hj ae aw;refine⟨⟨bb,b0⟩,?_⟩;simp only[p4];rw[eR,bo,xaG];omega
end
def AV(ls:List D):∀(l:List (Key×mw)) (n:Nat),m9 (p4 ls l n).1=l.map (·.1)
 |[],n=>rfl|(k,s)::r,n=>by have:=AV ls r (AS ls s n).2;simp only[p4,m9,xaA]at this⊢;rw[<-this]
def Ns:∀{lo:List (Key×c0)} {k:Key},k∈m9 lo->∃o,fH lo k=some o
 |[],k,h=>by cases h
 |(j,x)::r,k,h=>by
  unfold fH;by_cases ai:k=j;.exact⟨x,by rw[xac ai]⟩
  rw[xaa ai];simp only[m9,xaA,xas]at h;exact Ns (h.resolve_left ai)
def gg(ib:List Key)(σ:aK):Prop:=∀k,10000<=k->fa (σ.objs k)->k∈ib
def S2(ls:List D):∀(l:List (Key×mw)) (n:Nat) (k:Key),(l.map (·.1)).Nodup->(∃s,(k,s)∈l/\D7 s=true)->fa (fH (p4 ls l n).1 k)
 |[],n,k,_,⟨_,h,_⟩=>by cases h
 |(j,s)::r,n,k,aH,⟨hZ,h,aD⟩=>by
  simp only[p4,fH];simp only[xaA,List.nodup_cons]at aH;rcases xas.1 h with ad|ad
  .cases ad;rw[xac rfl];cases s<;>first|cases aD|skip
   .exact wz
   exact wA
  have cm:k≠j:=by rintro rfl;exact aH.1 (xbc.2 ⟨_,ad,rfl⟩)
  rw[xaa cm];exact S2 ls r _ k aH.2 ⟨hZ,ad,aD⟩
def AW{β:Type}{ib:List Key}:∀{l:List yN}{σ:aK}{k:aK->Option β}{b:β},gg ib σ->u2 l σ k=some b->∃τ,hC σ τ/\gg ib τ/\k τ=some b
 |[],σ,k,b,cg,h=>⟨σ,hC.refl σ,cg,h⟩
 | .slot t K n::r,σ,k,b,cg,h=>by
  unfold u2 at h;split at h
  .rename_i a aD gA;split at h
   case isFalse=>cases h
   rename_i bY;obtain⟨ad,ae⟩:=nb h;have aB:a= .val (.slice none 0 0):=by
    unfold o3 at ad;split at ad;.rfl
    cases ad
   subst aB;obtain⟨τ,bb,bo,b0⟩:=AW (ib:=ib) (by
    intro j aR an;by_cases gN:j=K;.exact absurd bY (Nat.not_lt.2 (gN▸aR))
    simp only[da _ _ gN]at an;exact cg j aR an) ae
   exact⟨τ,(alD t K n aD gA).trans bb,bo,b0⟩
  exact AW cg h
 | .box dg i K n::r,σ,k,b,cg,h=>by
  unfold u2 at h;split at h
  .rename_i xs ai;split at h
   .rename_i a ag gA;split at h
    case isFalse=>cases h
    rename_i bY;obtain⟨ad,ae⟩:=nb h;have aB:a= .val (.slice none 0 0):=by
     unfold o3 at ad;split at ad;.rfl
     cases ad
    subst aB;obtain⟨τ,bb,bo,b0⟩:=AW (ib:=ib) (by
     intro j aR an;by_cases gN:j=K;.exact absurd bY (Nat.not_lt.2 (gN▸aR))
     simp only[da _ _ gN]at an;by_cases Ag:j=dg;.subst Ag;exact cg j aR (by rw[ai];exact wz)
     simp only[da _ _ Ag]at an;exact cg j aR an) ae
    exact⟨τ,(alE dg i K n ai ag gA).trans bb,bo,b0⟩
   exact AW cg h
  exact AW cg h
def Nt{β:Type}{ib:List Key}{gv:s7}{σ:aK}{k:List D->Option β}{b:β}(cg:gg ib σ)(h:u3 ib gv σ k=some b):∃ls,hC σ (restore gv ls)/\gg ib (restore gv ls)/\k ls=some b:=by
 unfold u3 at h;obtain⟨τ,bb,bo,b0⟩:=AW cg h;simp only at b0;split at b0
 case isFalse=>cases b0
 rename_i aj;simp only[aaH,xai,xat,xbh,xau,xbH,xbI,List.contains_eq_mem]at aj;obtain⟨AX,⟨qC,amH⟩,amI⟩:=aj;split at b0
 case h_2=>cases b0
 rename_i ls S3;obtain⟨ah,aT,aZ,a6,rfl⟩:=AU S3;have hG:nS (ah++aT) 0 (ah++aT):=λj d aR=>by rw[xaz];exact aR
 have hj:∀k,(gv.objs.map (·.1)).contains k=true->∃o,fH (p4 (ah++aT) gv.objs (yO (ah++aT) gv.aS 0).2).1 k=some o:=by intro k ai;exact Ns (by rw[AV];simpa using ai)
 obtain⟨bS,bP⟩:=aaK hj aZ hG.left;have aw:=hG.right;rw[<-bP]at aw;obtain⟨ca,ee⟩:=S1 hj a6 aw;have u4:hC τ (restore gv (ah++aT)):=by refine alr _ (by rw[AV];exact AX) bS ca ?_;intro k ai an;have hm:=bo k ai an;obtain⟨bx,p,wQ,AY,aaL⟩:=amH k hm;refine⟨?_,bx⟩;obtain⟨aEE,kn⟩:=p;simp only at AY aaL;subst AY;exact S2 _ _ _ _ amI ⟨_,wQ,aaL⟩
 refine⟨_,bb.trans u4,?_,b0⟩;intro k ai an;obtain⟨o,aC⟩:=DG an;have:=yE aC;rw[AV]at this;obtain⟨p,wQ,AY⟩:=xbc.1 this;rcases qC p wQ with cq|cq
 .rw[AY]at cq;exact absurd cq (Nat.not_lt.2 ai)
 rw[AY]at cq;exact cq
def Nu(objs:cH)(cs:List aY):Option (List D):=if cs.all DJ=true then jz (cs.map (toD objs))else none
def yP(objs:cH)(ks:List Key):aY->aY
 | .ptr k off=>if k∈ks then match objs k with
   |some (.box cs)=>match Nu objs cs with|some aM=> .e6 aM off|none=> .ptr k off
   |_=> .ptr k off
  else .ptr k off
 | .row k=>if k∈ks then match objs k with|some (.row n es)=> .d (.aE n es)|_=> .row k
  else .row k
 | .map k=>if k∈ks then match objs k with|some (.map es)=> .d (.mp es)|_=> .map k
  else .map k
 |x=>x
def Nv(objs:cH)(ks:List Key):aY->aY
 | .agg cs=>Dw (cs.map (yP objs ks))| .fn f first cap=> .fn f (first.map (yP objs ks)) (cap.map (yP objs ks))
 |x=>yP objs ks x
def HC(objs:cH)(ks:List Key):c0->c0
 | .box cs=> .box (cs.map (Nv objs ks))|o=>o
def S4(objs:cH)(k:Key):Bool:=match objs k with|some (.row _ _)=>decide (k<10000)|some (.map _)=>true|some (.box cs)=>decide (k<10000)&&(Nu objs cs).isSome|_=>false
def freeze(ks:List Key)(σ:aK):aK:=⟨λt=>Nv σ.objs ks (σ.aS t),λk=>if k∈ks then some .dead else(σ.objs k).map (HC σ.objs ks)⟩
section
variable{m:Mem}{fr:fT}{ρ:dv}{σ:aK}{a:Act}{w:World}{ks:List Key}
def amJ(h:Den m fr ρ σ a w){key off:Nat}{cs:List aY}{aM:List D}(ai:σ.objs key=some (.box cs))(fA:Nu σ.objs cs=some aM)(hm:key∈ks){U:Key->Prop}{v:Value}(aN:cf m ρ σ.used (.ptr key off) v):cf (Den.part m ρ ks w) ρ U (.e6 aM off) v:=by
 have hle:=Den.uP m ρ ks w;obtain⟨b,vs,eV,aZ,a6,b2,dh⟩:=h.objs _ _ ai;have an:=h.My ai rfl hm (by rw[aZ];rfl);unfold Nu at fA;split at fA
 case isFalse=>cases fA
 rename_i Sp;obtain⟨bb,bo⟩:=sN fA;rw[xbg]at bb;cases aN with
 |ptr _ _ b' hu aw=>
  rw[aZ]at aw;cases aw;have:=cf.e6 (m:=Den.part m ρ ks w) (ρ:=ρ) (U:=U) aM off b 0 vs eV (0,0) (by rw[an];exact a6) (λj=>(vs[j]?).getD undef) ?_ ?_
  .simpa using this
  .intro j c aR;have bY:j<vs.size:=by rw[b2,<-bb];exact(xae.1 aR).1
   simp[xap bY]
  intro j c aR;have bY:j<vs.size:=by rw[b2,<-bb];exact(xae.1 aR).1
  have b0:=bo j c aR;rw[xaj,xan]at b0;obtain⟨y,aO,wD⟩:=b0;have:=dh j y vs[j] aO (xap bY);simp only[xap bY,xbn];exact(R3 (xat.1 Sp y (xad aO)) wD this).mono hle
def aaM(h:Den m fr ρ σ a w){x:aY}{v:Value}(af:cf m ρ σ.used x v):cf (Den.part m ρ ks w) ρ (freeze ks σ).used (yP σ.objs ks x) v:=by
 have hle:=Den.uP m ρ ks w;have hj:∀k,σ.used k->(freeze ks σ).used k/\ρ k=ρ k:=by
  rintro k ⟨o,aC⟩;refine⟨?_,rfl⟩;unfold aK.used freeze;by_cases ai:k∈ks;.exact⟨.dead,by simp[ai]⟩
  exact⟨HC σ.objs ks o,by simp[ai,aC]⟩
 unfold yP;split
 .rename_i k off;split
  .rename_i hm;split
   .rename_i cs ai;split;.rename_i aM fA;exact amJ h ai fA hm af
    exact af.mono hle hj
   exact af.mono hle hj
  exact af.mono hle hj
 .rename_i k;split
  .rename_i hm;split;.rename_i n es ai;cases af;exact .d _ _ (RY h ai hm)
   exact af.mono hle hj
  exact af.mono hle hj
 .rename_i k;split
  .rename_i hm;split;.rename_i es ai;cases af;exact .d _ _ (akb h ai hm)
   exact af.mono hle hj
  exact af.mono hle hj
 exact af.mono hle hj
def S5(h:Den m fr ρ σ a w){cs:List aY}{vs:Array Value}(ak:vs.size=cs.length)(bH:∀(i:Nat)(c:aY)(v:Value),cs[i]?=some c->vs[i]?=some v->cf m ρ σ.used c v):vs.size=(cs.map (yP σ.objs ks)).length/\∀(i:Nat)(c:aY)(v:Value),(cs.map (yP σ.objs ks))[i]?=some c->vs[i]?=some v->cf (Den.part m ρ ks w) ρ (freeze ks σ).used c v:=by refine⟨by simpa using ak,?_⟩;intro i c v aj aN;simp only[xaj,xan]at aj;obtain⟨y,aO,rfl⟩:=aj;exact aaM h (bH i y v aO aN)
def aaN(h:Den m fr ρ σ a w){x:aY}{v:Value}(af:cf m ρ σ.used x v):cf (Den.part m ρ ks w) ρ (freeze ks σ).used (Nv σ.objs ks x) v:=by
 unfold Nv;split
 .cases af with|agg _ vs ak bH=>
  obtain⟨ad,ae⟩:=S5 (ks:=ks) h ak bH;exact Mg (.agg _ _ ad ae)
 .cases af with|fn _ _ _ vs ws ak fe bH At=>
  obtain⟨ad,ae⟩:=S5 (ks:=ks) h ak bH;obtain⟨az,a3⟩:=S5 (ks:=ks) h fe At;exact .fn _ _ _ _ _ ad az ae a3
 exact aaM h af
def amK(ks:List Key)(eH:ks.all (S4 σ.objs)=true):hC σ (freeze ks σ):=by
 intro m fr ρ a w h;have hle:=Den.uP m ρ ks w;have eo:∀k∈ks,(k<10000/\∃n es,σ.objs k=some (.row n es))\/(∃es,σ.objs k=some (.map es))\/(k<10000/\∃cs,σ.objs k=some (.box cs)):=by
  intro k ai;have:=xat.1 eH k ai;unfold S4 at this;split at this
  .rename_i n es e;exact .inl ⟨xbj this,n,es,e⟩
  .rename_i es e;exact .inr (.inl ⟨es,e⟩)
  .rename_i cs e;simp only[xai,xau]at this;exact .inr (.inr ⟨this.1,cs,e⟩)
  cases this
 have own:∀k∈ks,∃o,σ.objs k=some o/\o.owns=true:=by
  intro k ai;rcases eo k ai with⟨_,n,es,e⟩|⟨es,e⟩|⟨_,cs,e⟩
  .exact⟨_,e,rfl⟩
  .exact⟨_,e,rfl⟩
  exact⟨_,e,rfl⟩
 have mm:∀b,Den.part m ρ ks w b=m b\/∃k∈ks,blockOf (ρ k)=some b/\Den.part m ρ ks w b=w.heap[b]?:=by
  intro b;unfold Den.part;cases hm:m b with
  |some x=>exact .inl rfl
  |none=>
   simp only;by_cases aj:∃k∈ks,blockOf (ρ k)=some b;.rw[xac aj];obtain⟨k,ad,ae⟩:=aj;exact .inr ⟨k,ad,ae,rfl⟩
   rw[xaa aj];exact .inl rfl
 have pS:∀k o,(freeze ks σ).objs k=some o->o.owns=true->k∉ks/\∃ez,σ.objs k=some ez/\o=HC σ.objs ks ez/\ez.owns=true:=by
  intro k o ai aC;unfold freeze at ai;simp only at ai;split at ai;.cases ai;cases aC
  rename_i aH;obtain⟨ez,ad,rfl⟩:=xan.1 ai;refine⟨aH,ez,ad,rfl,?_⟩;cases ez<;>first|rfl|exact aC
 refine⟨Den.part m ρ ks w,ρ,hle,⟨?_,h.frame,?_,?_,?_,?_,?_,?_⟩,?_⟩
 .intro b o an;rcases mm b with e|⟨k,_,_,e⟩
  .rw[e]at an;exact h.mem b o an
  rw[e]at an;exact an
 .intro b an;rcases mm b with e|⟨k,ad,ae,e⟩
  .rw[e]at an;exact h.apart b an
  obtain⟨o,az,a3⟩:=own k ad;exact(h.own k o b az a3 ae).2
 .rintro k ⟨o,aC⟩;unfold freeze at aC;simp only at aC;split at aC;.rename_i ai;obtain⟨o,az,a3⟩:=own k ai;exact h.one k ⟨o,az⟩
  obtain⟨ez,ad,rfl⟩:=xan.1 aC;exact h.one k ⟨ez,ad⟩
 .intro t;exact aaN h (h.aS t)
 .intro k o ai;have eF:=ai;unfold freeze at ai;simp only at ai;split at ai
  .cases ai;trivial
  obtain⟨ez,ad,rfl⟩:=xan.1 ai;have ae:=h.objs k ez ad;cases ez with
  |dead=>trivial|box cs=>obtain⟨b,vs,T,aZ,a6,b2,dh⟩:=ae;refine⟨b,vs,T,aZ,a6,by simpa using b2,?_⟩;intro i c x aj af;simp only[xaj,xan]at aj;obtain⟨y,aO,rfl⟩:=aj;exact aaN h (dh i y x aO af)
  |row n es=>
   rcases ae with⟨aZ,a6⟩|⟨b,o,cap,vs,eV,aZ,a6,b2,dh,ey,gk⟩;.exact .inl ⟨aZ,a6⟩
   exact .inr ⟨b,o,cap,vs,eV,aZ,a6,b2,dh,ey,λi e j c ag aR=>by obtain⟨x,bb,bo⟩:=gk i e j c ag aR;exact⟨x,bb,bo.mono hle⟩⟩
  |map es=>obtain⟨r,dE,clock,aZ,a6,b2,dh,ey⟩:=ae;exact⟨r,dE,clock,aZ,a6,b2,dh,λi e x he af=>(ey i e x he af).mono hle⟩
 .intro k o b ai aC an;obtain⟨aH,ez,ad,rfl,ae⟩:=pS k o ai aC;have az:=h.own k ez b ad ae an;refine⟨?_,az.2⟩;rcases mm b with e|⟨bO,a3,bx,e⟩
  .rw[e];exact az.1
  obtain⟨o',cq,fs⟩:=own bO a3;exact absurd bx (h.sep k bO ez o' b (by rintro rfl;exact aH a3) ad cq ae fs an)
 .intro k bO o o' b cm ai eF aC pZ an;obtain⟨aH,ez,ad,rfl,ae⟩:=pS k o ai aC;obtain⟨Aq,HD,dN,rfl,hA⟩:=pS bO o' eF pZ;exact h.sep k bO ez HD b cm ad dN ae hA an
 intro k ai an;refine⟨?_,rfl⟩;have aH:k∉ks:=by
  intro hm;rcases eo k hm with⟨bY,_⟩|⟨es,e⟩|⟨bY,_⟩
  .exact absurd ai (Nat.not_le.2 bY)
  .rw[e]at an;exact DF an
  exact absurd ai (Nat.not_le.2 bY)
 show fa (if k∈ks then some .dead else(σ.objs k).map (HC σ.objs ks));rw[xaa aH];rcases an with⟨c,aj⟩|⟨n,es,aj⟩
 .rw[aj];exact wz
 rw[aj];exact wA
end
def AZ{β:Type}:List (List Key)->aK->(aK->Option β)->Option β
 |[],σ,k=>k σ|ks::r,σ,k=>match ks with|[]=>AZ r σ k|_=>if ks.all (S4 σ.objs)=true then AZ r (freeze ks σ) k else none
def S6{β:Type}(t:Tmp)(σ:aK)(k:aK->Option β):Option β:=match σ.aS t with
 | .sub key dg i len=>match σ.objs key,σ.objs t with
  |some (.row bO es),none=>if dg=bO/\key<10000/\t<10000 then ay (decide (i+len<=es.length)) (k ⟨cz σ.aS t (.row t),cz (cz σ.objs key (some .dead)) t (some (.row dg ((es.drop i).take len)))⟩)else none
  |_,_=>none
 |_=>none
def amL{σ:aK}{t key dg i len:Nat}{es:List (List D)}(aQ:σ.aS t= .sub key dg i len)(ai:σ.objs key=some (.row dg es))(ao:σ.objs t=none)(hle:i+len<=es.length)(g6:key<10000):hC σ ⟨cz σ.aS t (.row t),cz (cz σ.objs key (some .dead)) t (some (.row dg ((es.drop i).take len)))⟩:=by
 intro m fr ρ a w h;have cm:key≠t:=by rintro rfl;rw[ai]at ao;cases ao
 have bz:((es.drop i).take len).length=len:=by simp;omega
 have D8:∀j o,(cz (cz σ.objs key (some .dead)) t (some (.row dg ((es.drop i).take len)))) j=some o->(j=t/\o= .row dg ((es.drop i).take len))\/(j=key/\o= .dead)\/(j≠t/\j≠key/\σ.objs j=some o):=by
  intro j o aR;by_cases ad:j=t;.subst ad;rw[fq]at aR;cases aR;exact .inl ⟨rfl,rfl⟩
  rw[da _ _ ad]at aR;by_cases ae:j=key;.subst ae;rw[fq]at aR;cases aR;exact .inr (.inl ⟨rfl,rfl⟩)
  rw[da _ _ ae]at aR;exact .inr (.inr ⟨ad,ae,aR⟩)
 let v:=a.tmps.getD t undef
 have aN:=h.aS t;rw[aQ]at aN;have G6:∀k,σ.used k->aK.used ⟨cz σ.aS t (.row t),cz (cz σ.objs key (some .dead)) t (some (.row dg ((es.drop i).take len)))⟩ k/\cz ρ t v k=ρ k:=by
  rintro k ⟨o,aC⟩;have yk:k≠t:=by rintro rfl;rw[aC]at ao;cases ao
  refine⟨?_,da _ _ yk⟩;by_cases ae:k=key;.subst ae;exact⟨.dead,by simp only[da _ _ yk,fq]⟩
  exact⟨o,by simp only[da _ _ yk,da _ _ ae];exact aC⟩
 have piece:lP v=true/\(blockOf v=none\/blockOf v=blockOf (ρ key))/\kC m (cz ρ t v) (aK.used ⟨cz σ.aS t (.row t),cz (cz σ.objs key (some .dead)) t (some (.row dg ((es.drop i).take len)))⟩) v w (.row dg ((es.drop i).take len)):=by
  have qA:=h.objs key _ ai;generalize amM:a.tmps.getD t undef=u at aN;have amN:v=u:=amM;rw[amN];cases aN with
  |lQ _ _ _ hu aw=>exact⟨rfl,.inl rfl,.inl ⟨rfl,by simp⟩⟩
  |sub _ _ _ _ b o L cap j3 hu aw RF aB=>
   refine⟨rfl,.inr (by rw[aw];rfl),?_⟩;rcases qA with⟨aZ,a6⟩|⟨b',o',rE,vs,eV,aZ,a6,b2,dh,ey,gk⟩
   .rw[aw]at aZ;cases aZ
   rw[aw]at aZ;cases aZ;refine .inr ⟨b,j3,cap-i,vs,eV,by rw[bz],a6,by rw[bz];omega,?_,?_,?_⟩
   .by_cases S7:i<cap
    .rw[aB.1 S7,xbl,<-xbd];have:i+(cap-i)=cap:=by omega
     rw[this];exact dh
    have:cap-i=0:=by omega
    rw[this,Nat.zero_mul];have:=aB.2;omega
   .intro e he;exact ey e (xbu (xbi he))
   intro p e j c a1 aR;rw[xaY]at a1;split at a1
   case isFalse=>cases a1
   rename_i mj;rw[xbk]at a1;obtain⟨x,bb,bo⟩:=gk (i+p) e j c a1 aR;have S7:i<cap:=by have:=(xae.1 a1).1;omega
   refine⟨x,?_,bo⟩;rw[aB.1 S7];have:o+i*dg+p*dg+j=o+(i+p)*dg+j:=by rw[xbd];omega
   rw[this];exact bb
 obtain⟨fu,eQ,iv⟩:=piece;refine⟨m,cz ρ t v,Mem.le_refl m,⟨h.mem,h.frame,h.apart,?_,?_,?_,?_,?_⟩,?_⟩
 .rintro k ⟨o,aC⟩;rcases D8 k o aC with⟨rfl,_⟩|⟨rfl,_⟩|⟨ad,ae,az⟩;.rw[fq];exact fu
  .rw[da _ _ cm];exact h.one _ ⟨_,ai⟩
  rw[da _ _ ad];exact h.one _ ⟨_,az⟩
 .intro s;by_cases aD:s=t;.subst aD;simp only[fq];have:cf m (cz ρ s v) (aK.used ⟨cz σ.aS s (.row s),cz (cz σ.objs key (some .dead)) s (some (.row dg ((es.drop i).take len)))⟩) (.row s) (cz ρ s v s):= .row s ⟨_,fq _ _ _⟩;rw[fq]at this;exact this
  simp only[da _ _ aD];exact(h.aS s).mono (Mem.le_refl m) G6
 .intro k o eF;rcases D8 k o eF with⟨rfl,rfl⟩|⟨rfl,rfl⟩|⟨ad,ae,az⟩
  .rw[fq];exact iv
  .trivial
  rw[da _ _ ad];exact(h.objs k o az).mono (Mem.le_refl m) G6 (λb _ _=>rfl)
 .intro k o b eF aC an;rcases D8 k o eF with⟨rfl,rfl⟩|⟨rfl,rfl⟩|⟨ad,ae,az⟩
  .rw[fq]at an;rcases eQ with eQ|eQ
   .rw[eQ]at an;cases an
   exact h.own key _ b ai rfl (by rw[<-eQ];exact an)
  .cases aC
  rw[da _ _ ad]at an;exact h.own k o b az aC an
 .intro k bO o o' b c5 eF aaO aC pZ an;rcases D8 k o eF with⟨rfl,rfl⟩|⟨rfl,rfl⟩|⟨ad,ae,az⟩
  .rcases D8 bO o' aaO with⟨rfl,rfl⟩|⟨rfl,rfl⟩|⟨dN,hA,ji⟩;.exact absurd rfl c5
   .cases pZ
   rw[fq]at an;rw[da _ _ dN];rcases eQ with eQ|eQ
   .rw[eQ]at an;cases an
   exact h.sep key bO _ o' b (Ne.symm hA) ai ji rfl pZ (by rw[<-eQ];exact an)
  .cases aC
  rw[da _ _ ad]at an;rcases D8 bO o' aaO with⟨rfl,rfl⟩|⟨rfl,rfl⟩|⟨dN,hA,ji⟩
  .rw[fq];rcases eQ with eQ|eQ
   .rw[eQ];exact λbH=>by cases bH
   rw[eQ];exact h.sep k key o _ b ae az ai aC rfl an
  .cases pZ
  rw[da _ _ dN];exact h.sep k bO o o' b c5 az ji aC pZ an
 intro k eF an;have yk:k≠t:=by rintro rfl;rw[ao]at an;exact wB an
 have c5:k≠key:=by rintro rfl;exact absurd g6 (Nat.not_lt.2 eF)
 exact⟨by simp only[da _ _ yk,da _ _ c5];exact an,da _ _ yk⟩
def yQ(φ:Key->Key):aY->aY
 | .any=> .any| .d x=> .d x| .e6 cs off=> .e6 cs off| .ptr k off=> .ptr (φ k) off| .gL k dg i off=> .gL (φ k) dg i off| .row k=> .row (φ k)| .sub k dg i len=> .sub (φ k) dg i len| .map k=> .map (φ k)|_=> .any
def HE(φ:Key->Key):aY->aY
 | .agg cs=> .agg (cs.map (yQ φ))| .aU cs=> .aU (cs.map (yQ φ))| .fn f as kF=> .fn f (as.map (yQ φ)) (kF.map (yQ φ))|x=>yQ φ x
def wR(φ:Key->Key):c0->c0
 | .box cs=> .box (cs.map (HE φ))|o=>o
section
variable{m:Mem}{ρ c2:dv}{U oh:Key->Prop}{φ:Key->Key}
def aaP(h:∀k,U k->oh (φ k)/\c2 (φ k)=ρ k){x:aY}{v:Value}(af:cf m ρ U x v):cf m c2 oh (yQ φ x) v:=by cases af with|any v=>exact .any _|d x v af=>exact .d _ _ af|agg=>exact .any _|aU=>exact .any _|e6 cs off b o vs T e2 hm xs ad ae=>exact .e6 _ _ b o vs T e2 hm xs ad ae|ptr k off b hu aw=>exact .ptr _ _ b (h k hu).1 ((h k hu).2.trans aw)|gL k dg i off b o len cap hu aw=>exact .gL _ _ _ _ b o len cap (h k hu).1 ((h k hu).2.trans aw)|row k hu=>rw[<-(h k hu).2];exact .row _ (h k hu).1|sub k dg i len b o L cap a hu aw hle aB=>exact .sub _ _ _ _ b o L cap a (h k hu).1 ((h k hu).2.trans aw) hle aB|lQ k dg i hu aw=>exact .lQ _ _ _ (h k hu).1 ((h k hu).2.trans aw)|map k hu=>rw[<-(h k hu).2];exact .map _ (h k hu).1|fn=>exact .any _
def Nw(h:∀k,U k->oh (φ k)/\c2 (φ k)=ρ k){cs:List aY}{vs:Array Value}(ak:vs.size=cs.length)(bH:∀(i:Nat)(c:aY)(v:Value),cs[i]?=some c->vs[i]?=some v->cf m ρ U c v):vs.size=(cs.map (yQ φ)).length/\∀(i:Nat)(c:aY)(v:Value),(cs.map (yQ φ))[i]?=some c->vs[i]?=some v->cf m c2 oh c v:=by refine⟨by simpa using ak,?_⟩;intro i c v aj aN;simp only[xaj,xan]at aj;obtain⟨y,aO,rfl⟩:=aj;exact aaP h (bH i y v aO aN)
def aaQ(h:∀k,U k->oh (φ k)/\c2 (φ k)=ρ k){x:aY}{v:Value}(af:cf m ρ U x v):cf m c2 oh (HE φ x) v:=by
 unfold HE;split
 .cases af with|agg _ vs ak bH=>
  obtain⟨ad,ae⟩:=Nw h ak bH;exact .agg _ _ ad ae
 .cases af with|aU _ vs ak bH=>
  obtain⟨ad,ae⟩:=Nw h ak bH;exact .aU _ _ ad ae
 .cases af with|fn _ _ _ vs ws ak fe bH At=>
  obtain⟨ad,ae⟩:=Nw h ak bH;obtain⟨az,a3⟩:=Nw h fe At;exact .fn _ _ _ _ _ ad az ae a3
 exact aaP h af
def amO(h:∀k,U k->oh (φ k)/\c2 (φ k)=ρ k){o:c0}{v:Value}{w:World}(aC:kC m ρ U v w o):kC m c2 oh v w (wR φ o):=by
 cases o with
 |dead=>trivial|box cs=>obtain⟨b,vs,T,aZ,a6,b2,dh⟩:=aC;refine⟨b,vs,T,aZ,a6,by simpa using b2,?_⟩;intro i c x aj af;simp only[xaj,xan]at aj;obtain⟨y,aO,rfl⟩:=aj;exact aaQ h (dh i y x aO af)
 |row=>exact aC|map=>exact aC
theorem amP{o:c0}:(wR φ o).owns=o.owns:=by cases o<;>rfl
end
def amQ:Act:={tmps:= #[],defers:=[]}
def Nx(m:Mem)(fr:fT)(ρ:dv)(E:cH)(w:World):Prop:=Den m fr ρ ⟨λ_=> .any,E⟩ amQ w
def s9(E:cH)(k:Key):Prop:=∃o,E k=some o
structure h0 where
 f:FuncId
 args:List lY
 ins:List (Key×mw)
 res:lY
 outs:List (Key×mw)
def h0.yR(s:h0)(ls:List D):List aY:=(s8 ls s.args 0).1
def h0.o4(s:h0)(ls:List D):List (Key×c0):=(p4 ls s.ins (s8 ls s.args 0).2).1
def h0.Ny(s:h0)(ls:List D):aY:=(qN ls s.res 0).1
def h0.qO(s:h0)(ls:List D):List (Key×c0):=(p4 ls s.outs (qN ls s.res 0).2).1
structure gl(P:Program)(G:dG)(s:h0)(F:List D->Option (List D)):Prop where
 fn:yn P s.f
 run:∀ls fE,F ls=some fE->∀(m:Mem)(fr:fT)(ρ:dv)(w:World)(vs:List Value),k2 G m->Nx m fr ρ (fH (s.o4 ls)) w->vs.length=(s.yR ls).length->(∀(i:Nat)(x:aY)(v:Value),(s.yR ls)[i]?=some x->vs[i]?=some v->cf m ρ (s9 (fH (s.o4 ls))) x v)->Calls P s.f vs.toArray w λe w'=>∃v cP c2,e= .returned v/\m.le cP/\Nx cP fr c2 (fH (s.qO fE)) w'/\cf cP c2 (s9 (fH (s.qO fE))) (s.Ny fE) v/\ ∀k,10000<=k->fa (fH (s.o4 ls) k)->c2 k=ρ k
def ta(cn:List (Key×Key))(base:Nat)(k:Key):Key:=if 10000<=k then gB cn k else base+(k-9000)
def yS(objs:cH)(dead:List Key)(outs:List (Key×c0)):cH:=λp=>match fH outs p with|some o=>some o|none=>if p∈dead then some .dead else objs p
def amR:mw->Bool
 | .row _=>true| .map=>true|_=>false
def aaR(objs:cH)(cn:List (Key×Key))(base:Nat)(s:h0):Bool:=AI (gB cn) (s.ins.map (·.1))&&AI (ta cn base) (s.outs.map (·.1))&&decide ((s.ins.map (·.1)).Nodup)&&decide ((s.outs.map (·.1)).Nodup)&&s.outs.all (λp=>if 10000<=p.1 then s.ins.any (λq=>q.1==p.1&&D7 q.2)else decide (9000<=p.1)&&decide (ta cn base p.1<10000)&&(objs (ta cn base p.1)).isNone)&&s.ins.all (λq=>if 10000<=q.1 then D7 q.2&&s.outs.any (λp=>p.1==q.1&&D7 p.2)else amR q.2&&decide (gB cn q.1<10000))
section
variable{β:Type}
def S8(G:dG)(s:h0)(F:List D->Option (List D))(base:Nat)(σ:aK)(o:Oper)(x:Operand)(args:List Operand)(k:aK->Option β):Option β:=match DH (ct G σ.aS x)with
 |some (f,pre,post)=>
  if f=s.f then
   let wC:=pre++args.map (ct G σ.aS)++post
   let cn:=D6 σ s.ins (Nm wC s.args)
   let ks:=s.ins.map (·.1)
   if aaR σ.objs cn base s=true then
    match wP (Np cn ks wC s.args) (Nq cn ks σ s.ins)with|some ls=>R (F ls) λfE=>k (aK.put ⟨σ.aS,yS σ.objs (ks.map (gB cn)) ((s.qO fE).map λp=>(ta cn base p.1,wR (ta cn base) p.2))⟩ o.dst (HE (ta cn base) (s.Ny fE)))|none=>none
   else none
  else none
 |none=>none
end
section
variable{P:Program}{T:cr}{G:dG}{m:Mem}{fr:fT}{ρ:dv}{σ:aK}{a:Act}{w:World}{N:Nat}
def amS(cN:k2 G m)(h:Den m fr ρ σ a w){o:Oper}{x:Operand}{args:Array Operand}{eA:Array TypeId}(eB:o.op= .call ⟨.value x,args,eA⟩){f:FuncId}{pre post:List aY}(hr:DH (ct G σ.aS x)=some (f,pre,post))(ba:yn P f): ∃vs:List Value,vs.length=(pre++args.toList.map (ct G σ.aS)++post).length/\(∀(i:Nat)(c:aY)(v:Value),(pre++args.toList.map (ct G σ.aS)++post)[i]?=some c->vs[i]?=some v->cf m ρ σ.used c v)/\(execOp a.eval o).run P w= .ok (.enter f vs.toArray) w:=by
 have dI:=GL (a:=a) cN h.aS;have af:=dI x;have R4:∃first cap,a.eval x= .func (.func f) first cap/\first.size=pre.length/\cap.size=post.length/\(∀(i:Nat)(c:aY)(v:Value),pre[i]?=some c->first[i]?=some v->cf m ρ σ.used c v)/\(∀(i:Nat)(c:aY)(v:Value),post[i]?=some c->cap[i]?=some v->cf m ρ σ.used c v):=by
  unfold DH at hr;split at hr
  .rename_i jN first cap he
   split at hr
   case isFalse=>cases hr
   rename_i ao;cases hr;rw[he]at af;exact⟨first,cap,af.h8,by simpa using ao.1,by simpa using ao.2,by intro i c v aj;simp at aj,by intro i c v aj;simp at aj⟩
  .rename_i jN first cap he
   cases hr;rw[he]at af;generalize a.eval x=u at af;cases af with|fn _ _ _ vs ws ak fe g sO=>exact⟨vs,ws,rfl,ak,fe,g,sO⟩
  .rename_i jN first cap he
   cases hr;rw[he]at af;have af:=af.pO;generalize a.eval x=u at af;cases af with|fn _ _ _ vs ws ak fe g sO=>
   refine⟨vs,ws,rfl,by simpa using ak,by simpa using fe,?_,?_⟩;.intro i c v aj aN;simp only[xaj,xan]at aj;obtain⟨y,aO,rfl⟩:=aj;exact .d _ _ (g i y v aO aN)
   intro i c v aj aN;simp only[xaj,xan]at aj;obtain⟨y,aO,rfl⟩:=aj;exact .d _ _ (sO i y v aO aN)
  .cases hr
 obtain⟨first,cap,yc,oU,m1,bb,bo⟩:=R4;refine⟨(first++args.map a.eval++cap).toList,by simp[oU,m1],?_,?_⟩
 .intro i c v aj aN;simp only[Array.toList_append,Array.toList_map]at aN;have aZ:first.toList.length=pre.length:=by simpa using oU
  by_cases ad:i<pre.length;.rw[xaE,xaM ad]at aj;rw[xaE,xaM (by omega)]at aN;exact bb i c v aj (by simpa using aN)
  by_cases ae:i<pre.length+args.size;.rw[xaM (by simp;omega),xaF (by omega)]at aj;rw[xaM (by simp;omega),xaF (by omega),aZ]at aN;simp only[xaj,xan]at aj aN;obtain⟨p,a1,rfl⟩:=aj;obtain⟨q,b4,rfl⟩:=aN;rw[a1]at b4;cases b4;exact dI _
  rw[xaF (by simp;omega)]at aj;rw[xaF (by simp;omega)]at aN;refine bo _ c v aj ?_;rw[<-aN];simp only[xaG,xbg,Array.length_toList,oU];simp
 unfold execOp;rw[eB];simp only[Array.toArray_toList];exact Zk yc ba
def aaS{φ:Key->Key}:∀{lo:List (Key×c0)} {p:Key} {o:c0},fH (lo.map λq=>(φ q.1,wR φ q.2)) p=some o->∃k ez,k∈m9 lo/\φ k=p/\o=wR φ ez/\((m9 lo).Nodup->fH lo k=some ez)
 |[],p,o,h=>by cases h
 |(j,x)::r,p,o,h=>by
  simp only[xaA,fH]at h;split at h;.rename_i e;cases h;exact⟨j,x,by simp[m9],e.symm,rfl,λ_=>by simp[fH]⟩
  obtain⟨k,ez,ad,ae,az,a3⟩:=aaS h;refine⟨k,ez,?_,ae,az,?_⟩;.simp only[m9,xaA,xas]at ad⊢;exact .inr ad
  intro aH;simp only[m9,xaA,List.nodup_cons]at aH ad;have cm:k≠j:=by rintro rfl;exact aH.1 ad
  simp only[fH,xaa cm];exact a3 aH.2
def S9{φ:Key->Key}:∀{lo:List (Key×c0)} {k:Key},k∈m9 lo->∃o,fH (lo.map λq=>(φ q.1,wR φ q.2)) (φ k)=some o
 |[],k,h=>by cases h
 |(j,x)::r,k,h=>by
  simp only[xaA,fH];split;.exact⟨_,rfl⟩
  rename_i cm;simp only[m9,xaA,xas]at h;rcases h with rfl|h
  .exact absurd rfl cm
  exact S9 h
def aaT{ls:List D}{l:List (Key×mw)}{n:Nat}{k:Key}(aH:(l.map (·.1)).Nodup){q:Key×mw}(b4:q∈l)(ai:q.1=k)(an:D7 q.2=true):fa (fH (p4 ls l n).1 k):=by obtain⟨a,b⟩:=q;simp only at ai an;subst ai;exact S2 ls l n _ aH ⟨_,b4,an⟩
def amT{φ:Key->Key}{U:Key->Prop}{o o':c0}(h:AG φ U o' o)(an:fa (some o)):fa (some o'):=by
 cases o with
 |dead=>exact absurd an G8|box=>obtain⟨xs,rfl,_⟩:=h;exact wz
 |row=>obtain⟨es,rfl,_⟩:=h;exact wA
 |map=>exact absurd an DF
def amU(cN:k2 G m)(h:Den m fr ρ σ a w)(cj:N<=a.tmps.size)(hN:a.defers=[]){o:Oper}(hi:∀d,o.dst=some d->d<N){s:h0}{F:List D->Option (List D)}(a4:gl P G s F){base:Nat} {x:Operand} {args:Array Operand} {eA:Array TypeId} (aC:o.op= .call ⟨.value x,args,eA⟩) {β:Type} {k:aK->Option β} {b:β} (aj:S8 G s F base σ o x args.toList k=some b) {Q:Exit->Act->World->Prop}:o.wp P a w (jA N m fr ρ σ (λa2=>k a2=some b/\∀p,10000<=p->fa (a2.objs p)->fa (σ.objs p))) Q:=by
 have jB:∀d,o.dst=some d->d<a.tmps.size:=λd aF=>Nat.lt_of_lt_of_le (hi d aF) cj;have uS:∀v,N<=(a.put o.dst v).tmps.size:=by intro v;cases o.dst<;>simpa[Act.put]using cj
 have m6:∀v,(a.put o.dst v).defers=[]:=by intro v;cases o.dst<;>exact hN
 unfold S8 at aj;split at aj
 case h_2=>cases aj
 rename_i f pre post hr;split at aj
 case isFalse=>cases aj
 rename_i ba;subst ba;simp only at aj;generalize aEF:D6 σ s.ins (Nm (pre++args.toList.map (ct G σ.aS)++post) s.args)=cn at aj;generalize aaU:pre++args.toList.map (ct G σ.aS)++post=wC at aj;split at aj
 case isFalse=>cases aj
 rename_i aaV;split at aj
 case h_2=>cases aj
 rename_i ls S3;obtain⟨fE,hk,ai⟩:=fN aj;simp only[aaR,xai,xat,xau]at aaV;obtain⟨⟨⟨⟨⟨bl,bu⟩,bT⟩,cM⟩,cR⟩,dc⟩:=aaV;obtain⟨ah,aT,aZ,a6,rfl⟩:=AU S3;have hG:nS (ah++aT) 0 (ah++aT):=λj d aR=>by rw[xaz];exact aR
 have Ta:m9 (s.o4 (ah++aT))=s.ins.map (·.1):=AV _ _ _;have Tb:m9 (s.qO fE)=s.outs.map (·.1):=AV _ _ _;have hj:∀k,(s.ins.map (·.1)).contains k=true->s9 (fH (s.o4 (ah++aT))) k:=by intro k ai;exact Ns (by rw[Ta];simpa using ai)
 obtain⟨bS,bP⟩:=S0 hj aZ hG.left;have aw:=hG.right;rw[<-bP]at aw;obtain⟨ca,ee⟩:=S1 hj a6 aw;have ca:AH (gB cn) (s9 (fH (s.o4 (ah++aT)))) σ (s.o4 (ah++aT)):=ca;have amV:∀k j,k∈s.ins.map (·.1)->j∈s.ins.map (·.1)->gB cn k=gB cn j->k=j:=MZ bl;have aaW:∀k j,k∈s.outs.map (·.1)->j∈s.outs.map (·.1)->ta cn base k=ta cn base j->k=j:=MZ bu;have km:∀{o o':c0},AG (gB cn) (s9 (fH (s.o4 (ah++aT)))) o' o->o.owns=true->o'.owns=true:=by
  intro o o' hle aC;cases o with
  |dead=>cases aC
  |box=>obtain⟨xs,rfl,_⟩:=hle;rfl
  |row=>obtain⟨es,rfl,_⟩:=hle;rfl
  |map=>cases hle;rfl
 have Tc:∀{k o},fH (s.o4 (ah++aT)) k=some o->k∈s.ins.map (·.1):=λai=>by rw[<-Ta];exact yE ai
 have amW:∀{k o},fH (s.qO fE) k=some o->k∈s.outs.map (·.1):=λai=>by rw[<-Tb];exact yE ai
 let passed:Key->Prop:=λp=>∃k,k∈s.ins.map (·.1)/\gB cn k=p
 let HF:Mem:=λb=>match fr b with|some o=>some o|none=>open Classical in if∃k o,σ.objs k=some o/\o.owns=true/\¬passed k/\blockOf (ρ k)=some b then w.heap[b]? else none
 let wS:fT:=⟨HF,fr.os,fr.out,fr.low⟩
 have Nz:∀b o,fr b=some o->wS b=some o:=by intro b o an;simp only[wS,HF,an]
 have NA:∀b k o,σ.objs k=some o->o.owns=true->¬passed k->blockOf (ρ k)=some b->wS b=w.heap[b]?:=by intro b k o ad ae az a3;have bx:=(h.own k o b ad ae a3).2;simp only[wS,HF,bx];rw[xac ⟨k,o,ad,ae,az,a3⟩]
 have aaX:∀b,wS b≠none->fr b≠none\/∃k o,σ.objs k=some o/\o.owns=true/\¬passed k/\blockOf (ρ k)=some b:=by intro b an;cases ba:fr b with|some o=>exact .inl (by simp)|none=>refine .inr ?_;refine xbf λA0=>an ?_;simp only[wS,HF,ba];rw[xaa A0]
 have Hl:Nx m wS (λk=>ρ (gB cn k)) (fH (s.o4 (ah++aT))) w:=by
  refine⟨h.mem,⟨?_,⟨h.frame.quiet.os,h.frame.quiet.out,h.frame.quiet.low,h.frame.quiet.uF⟩⟩,?_,?_,λ_=> .any _,?_,?_,?_⟩
  .intro b o an;cases ba:fr b with
   |some o'=>rw[Nz b o' ba]at an;cases an;exact h.frame.rC b _ ba
   |none=>
    simp only[wS,HF,ba]at an;split at an;.exact an
    cases an
  .intro b an;refine xbf λA0=>?_;rcases aaX b A0 with ad|⟨k,o,ad,ae,az,a3⟩
   .exact ad (h.apart b an)
   exact an (h.own k o b ad ae a3).1
  .rintro k ⟨o,na⟩;obtain⟨o',ad,_⟩:=ca.ok k o na;exact h.one _ ⟨o',ad⟩
  .intro k o na;obtain⟨o',ad,ae⟩:=ca.ok k o na;have az:=h.objs _ _ ad;cases o with
   |dead=>trivial|box dy=>obtain⟨xs,rfl,hle⟩:=ae;obtain⟨b,vs,T,aZ,a6,b2,dh⟩:=az;have:=uU.cells hle ⟨b2,dh⟩;exact⟨b,vs,T,aZ,a6,this.1,this.2⟩
   |row dg dw=>obtain⟨es,rfl,hle⟩:=ae;exact hle.ok az
   |map es=>cases ae;exact az
  .intro k o b na M0 an;obtain⟨o',ad,ae⟩:=ca.ok k o na;have az:=h.own _ o' b ad (km ae M0) an;refine⟨az.1,?_⟩;refine xbf λA0=>?_;rcases aaX b A0 with a3|⟨bO,lV,a3,bx,cq,fs⟩
   .exact a3 az.2
   have cm:gB cn k≠bO:=by rintro rfl;exact cq ⟨k,Tc na,rfl⟩
   exact h.sep _ _ _ _ b cm ad a3 (km ae M0) bx an fs
  intro k bO o o' b cm na Hn Sl Sm an;obtain⟨y,ad,ae⟩:=ca.ok k o na;obtain⟨RH,dN,hA⟩:=ca.ok bO o' Hn;exact h.sep (gB cn k) (gB cn bO) y RH b (λe=>cm (amV k bO (Tc na) (Tc Hn) e)) ad dN (km ae Sl) (km hA Sm) an
 obtain⟨vs,v1,v2,tb⟩:=amS (P:=P) cN h aC hr a4.fn;rw[aaU]at v1 v2;obtain⟨hq,lp⟩:=bS.ok;have uT:=a4.run _ _ hk m wS _ w vs cN Hl (v1.trans hq.symm) (by intro i y v aO aN;obtain⟨aaY,amX,hle⟩:=lp i y aO;exact hle.ok (v2 i aaY v amX aN))
 unfold Oper.wp;rw[tb];refine uT.mono λe w' he=>?_;obtain⟨v,cP,c2,rfl,A1,mx,DU,amY⟩:=he;generalize jR:ta cn base=φ at*
 let wT:=(s.qO fE).map λp=>(φ p.1,wR φ p.2)
 let objs':=yS σ.objs ((s.ins.map (·.1)).map (gB cn)) wT
 let lU:dv:=λp=>match(s.outs.map (·.1)).find? (λk=>φ k==p)with|some k=>c2 k|none=>ρ p
 have Td:∀k,k∈s.outs.map (·.1)->lU (φ k)=c2 k:=by intro k ai;simp only[lU];cases D9:(s.outs.map (·.1)).find? (λbO=>φ bO==φ k)with|none=>exact absurd (List.find?_eq_none.1 D9 k ai) (by simp)|some bO=>have ad:=List.find?_some D9;simp only[xbH]at ad;rw[aaW bO k (List.mem_of_find?_eq_some D9) ai ad]
 have Te:∀k,k∈s.outs.map (·.1)->(10000<=k/\k∈s.ins.map (·.1)/\φ k=gB cn k/\fa (fH (s.o4 (ah++aT)) k))\/(σ.objs (φ k)=none/\φ k<10000):=by
  intro k ai;obtain⟨p,a1,rfl⟩:=xbc.1 ai;have ad:=cR p a1;by_cases bY:10000<=p.1
  .rw[xac bY]at ad;obtain⟨q,b4,ae⟩:=xbI.1 ad;simp only[xai,xbH]at ae;refine .inl ⟨bY,xbc.2 ⟨q,b4,ae.1⟩,?_,aaT bT b4 ae.1 ae.2⟩;rw[<-jR];simp only[ta,xac bY]
  rw[xaa bY]at ad;simp only[xai,xau,Option.isNone_iff_eq_none]at ad;exact .inr ⟨ad.2,ad.1.2⟩
 have NB:∀p,σ.used p->lU p=ρ p:=by
  rintro p ⟨op,a1⟩;simp only[lU];cases D9:(s.outs.map (·.1)).find? (λbO=>φ bO==p)with
  |none=>rfl
  |some k=>
   have ad:=List.find?_some D9;simp only[xbH]at ad;rcases Te k (List.mem_of_find?_eq_some D9)with⟨ae,az,a3,bx⟩|⟨ae,_⟩
   .simp only;rw[amY k ae bx,<-a3,ad]
   rw[ad,a1]at ae;cases ae
 have HG:∀p op,fH wT p=some op->∃k ez,k∈s.outs.map (·.1)/\φ k=p/\op=wR φ ez/\fH (s.qO fE) k=some ez:=by intro p op a1;obtain⟨k,ez,ad,ae,az,a3⟩:=aaS a1;rw[Tb]at ad a3;exact⟨k,ez,ad,ae,az,a3 cM⟩
 have aaZ:∀k,s9 (fH (s.qO fE)) k->s9 objs' (φ k)/\lU (φ k)=c2 k:=by rintro k ⟨ez,ad⟩;refine⟨?_,Td k (amW ad)⟩;obtain⟨gT,ae⟩:=S9 (φ:=φ) (yE ad);exact⟨gT,by simp only[objs',yS,wT,ae]⟩
 have aa0:∀p,σ.used p->s9 objs' p/\lU p=ρ p:=by
  rintro p ⟨op,a1⟩;refine⟨?_,NB p ⟨op,a1⟩⟩;unfold s9;simp only[objs',yS];cases ak:fH wT p with
  |some gT=>exact⟨gT,rfl⟩
  |none=>
   simp only;split;.exact⟨_,rfl⟩
   exact⟨op,a1⟩
 have HH:∀p op,objs' p=some op->op.owns=true->(∃k ez,φ k=p/\op=wR φ ez/\fH (s.qO fE) k=some ez/\lU p=c2 k/\ez.owns=true)\/(σ.objs p=some op/\¬passed p/\lU p=ρ p):=by
  intro p op a1 eB;simp only[objs',yS]at a1;cases ak:fH wT p with
  |some gT=>rw[ak]at a1;cases a1;obtain⟨k,ez,ad,ae,az,a3⟩:=HG p op ak;refine .inl ⟨k,ez,ae,az,a3,?_,by rw[az,amP]at eB;exact eB⟩;rw[<-ae];exact Td k ad
  |none=>
   rw[ak]at a1;simp only at a1;split at a1;.cases a1;cases eB
   rename_i aH;refine .inr ⟨a1,?_,NB p ⟨op,a1⟩⟩;rintro⟨k,ai,rfl⟩;exact aH (xbc.2 ⟨k,ai,rfl⟩)
 have amZ:Den cP fr lU ⟨σ.aS,objs'⟩ a w':=by
  refine⟨mx.mem,⟨λb h9 an=>mx.frame.rC b h9 (Nz b h9 an),⟨mx.frame.quiet.os,mx.frame.quiet.out,mx.frame.quiet.low,mx.frame.quiet.uF⟩⟩,?_,?_,?_,?_,?_,?_⟩;.intro b an;have ad:=mx.apart b an;cases ba:fr b with|none=>rfl|some h9=>rw[Nz b h9 ba]at ad;cases ad
  .rintro p ⟨op,a1⟩;simp only[objs',yS]at a1;cases ak:fH wT p with
   |some gT=>obtain⟨k,ez,ad,ae,az,a3⟩:=HG p gT ak;rw[<-ae,Td k ad];exact mx.one k ⟨ez,a3⟩
   |none=>
    rw[ak]at a1;simp only at a1;have hu:σ.used p:=by
     split at a1;.rename_i hm;obtain⟨k,ai,rfl⟩:=xbc.1 hm;obtain⟨ok,am0⟩:=Ns (lo:=s.o4 (ah++aT)) (k:=k) (by rw[Ta];exact ai);obtain⟨o',ad,_⟩:=ca.ok k ok am0;exact⟨o',ad⟩
     exact⟨op,a1⟩
    rw[NB p hu];exact h.one p hu
  .intro t;exact(h.aS t).mono A1 aa0
  .intro p op a1;by_cases eB:op.owns=true
   .rcases HH p op a1 eB with⟨k,ez,ad,ae,az,a3,bx⟩|⟨ad,ae,az⟩;.rw[ae,a3];exact amO aaZ (mx.objs k ez az)
    rw[az];refine(h.objs p op ad).mono A1 aa0 ?_;intro b pR sJ;have a3:=NA b p op ad eB ae sJ;have bx:∃h9,w.heap[b]?=some h9:=⟨_,xap ((h.objs p op ad).wq pR sJ)⟩;obtain⟨h9,bx⟩:=bx;rw[bx];exact mx.frame.rC b h9 (by rw[a3,bx])
   cases op with|dead=>trivial|_=>exact absurd rfl eB
  .intro p op b a1 eB an;rcases HH p op a1 eB with⟨k,ez,ad,ae,az,a3,bx⟩|⟨ad,ae,az⟩
   .rw[a3]at an;have cq:=mx.own k ez b az bx an;refine⟨cq.1,?_⟩;cases ba:fr b with|none=>rfl|some h9=>rw[Nz b h9 ba]at cq;cases cq.2
   rw[az]at an;have a3:=h.own p op b ad eB an;refine⟨?_,a3.2⟩;refine xbf λA0=>?_;have bx:=mx.apart b A0;rw[NA b p op ad eB ae an]at bx;have:=(h.objs p op ad).wq eB an;rw[xap this]at bx;cases bx
  intro p pT op HI b cm a1 HJ eB HK an;rcases HH p op a1 eB with⟨k,ez,ad,ae,az,a3,bx⟩|⟨ad,ae,az⟩
  .rw[a3]at an;rcases HH pT HI HJ HK with⟨bO,HD,dN,hA,ji,lZ,kH⟩|⟨dN,hA,ji⟩
   .rw[lZ];exact mx.sep k bO ez HD b (by rintro rfl;exact cm (ad.symm.trans dN)) az ji bx kH an
   rw[ji];intro hn;have cq:=(mx.own k ez b az bx an).2;rw[NA b pT HI dN HK hA hn]at cq;have:=(h.objs pT HI dN).wq HK hn;rw[xap this]at cq;cases cq
  rw[az]at an;rcases HH pT HI HJ HK with⟨bO,HD,dN,hA,ji,lZ,kH⟩|⟨dN,hA,ji⟩
  .rw[lZ];intro hn;have cq:=(mx.own bO HD b ji kH hn).2;rw[NA b p op ad eB ae an]at cq;have:=(h.objs p op ad).wq eB an;rw[xap this]at cq;cases cq
  rw[ji];exact h.sep p pT op HI b cm ad dN eB HK an
 have tc:cf cP lU (s9 objs') (HE φ (s.Ny fE)) v:=aaQ aaZ DU;have MS:∀p,10000<=p->fa (objs' p)->fa (σ.objs p):=by
  intro p a1 iy;simp only[objs',yS]at iy;cases ak:fH wT p with
  |some gT=>
   obtain⟨k,ez,bb,bo,b0,eR⟩:=HG p gT ak;rcases Te k bb with⟨ae,az,a3,bx⟩|⟨_,ae⟩;.obtain⟨aX,cq⟩:=DG bx;obtain⟨o',fs,hE⟩:=ca.ok k _ cq;rw[cq]at bx;rw[<-bo,a3,fs];exact amT hE bx
   rw[bo]at ae;exact absurd ae (Nat.not_lt.2 a1)
  |none=>
   rw[ak]at iy;simp only at iy;split at iy;.exact absurd iy G8
   exact iy
 refine⟨_,cP,lU,⟨ai,by rw[aK.yo];exact MS⟩,A1,amZ.put tc jB,uS v,m6 v,?_⟩;intro p a1 an;rw[aK.yo];obtain⟨cs,iy⟩:=DG an;refine⟨?_,NB p ⟨_,iy⟩⟩;show fa (objs' p);simp only[objs',yS];by_cases Tf:p∈(s.ins.map (·.1)).map (gB cn)
 .obtain⟨k,ku,rfl⟩:=xbc.1 Tf;obtain⟨q,b4,rfl⟩:=xbc.1 ku;have ad:=dc q b4;by_cases a3:10000<=q.1
  .rw[xac a3]at ad;simp only[xai,xbI,xbH]at ad;obtain⟨_,pT,HJ,bx,cq⟩:=ad;have te:q.1∈s.outs.map (·.1):=xbc.2 ⟨pT,HJ,bx⟩;have am1:φ q.1=gB cn q.1:=by rw[<-jR];simp only[ta,xac a3]
   obtain⟨gT,fs⟩:=S9 (φ:=φ) (lo:=s.qO fE) (k:=q.1) (by rw[Tb];exact te);obtain⟨k,ez,bb,bo,b0,eR⟩:=HG _ gT fs;have c5:k=q.1:=aaW k q.1 bb te bo;subst c5;have gY:fa (fH (s.qO fE) q.1):=aaT (ls:=fE) (n:=(qN fE s.res 0).2) cM HJ bx cq;rw[eR]at gY;rw[<-am1];have ie:fH wT (φ q.1)=some gT:=fs;rw[ie,b0];rcases gY with⟨aEG,gY⟩|⟨nf,aEH,gY⟩
   .cases gY;exact wz
   cases gY;exact wA
  rw[xaa a3]at ad;simp only[xai,xau]at ad;exact absurd ad.2 (Nat.not_lt.2 a1)
 cases ak:fH wT p with
 |some gT=>
  exfalso;obtain⟨k,ez,bb,bo,b0,eR⟩:=HG p gT ak;rcases Te k bb with⟨ae,az,a3,bx⟩|⟨ae,_⟩
  .exact Tf (xbc.2 ⟨k,az,by rw[<-a3,bo]⟩)
  rw[bo,iy]at ae;cases ae
 |none=>simp only;rw[xaa Tf];exact an
end
structure Ea where
 s:h0
 F:List D->Option (List D)
 base:Nat
 qM:List yN
abbrev yU:=Tmp->Option Ea
def k7(P:Program)(G:dG)(H:yU):Prop:=∀t e,H t=some e->gl P G e.s e.F
def NC:aY->List Key
 | .row k=>[k]| .map k=>[k]|_=>[]
def ND:aY->List Key
 | .agg cs=>cs.flatMap NC| .fn _ as kF=>as.flatMap NC++kF.flatMap NC|x=>NC x
def NF:aY->List Key
 | .ptr k _=>[k]|_=>[]
def aa1:aY->List Key
 | .agg cs=>cs.flatMap NF| .fn _ as kF=>as.flatMap NF++kF.flatMap NF|x=>NF x
def aa2(objs:cH)(k:Key):List aY:=match objs k with|some (.box cs)=>cs|_=>[]
section
variable{β:Type}
def aa3(G:dG)(C:nQ)(σ:aK)(o:Oper)(x:Operand)(args:List Operand)(k:aK->Option β):Option β:=
 let wC:=(x::args).map (ct G σ.aS)
 let fv:=wC.flatMap aa1
 let bl:=fv.flatMap (aa2 σ.objs)
 let gS:=bl.flatMap aa1
 let bu:=gS.flatMap (aa2 σ.objs)
 AZ [wC.flatMap ND++bl.flatMap ND++bu.flatMap ND,gS,fv] σ λσ=>D3 G C σ o x args k
def aa4(o:Oper):Tmp:=match o.op,o.dst with| .store _ (.tmp a) _,_=>20000+a| .mapUpdate _ (.tmp a) _ _,_=>30000+a|_,some d=>d|_,none=>9999
def am2:Op->List Operand
 | .buildSlice _ _ kn=>kn.toList.map (·.2)| .build _ kn=>kn.toList.map (·.2)| .box _ x=>[x]| .store _ _ x=>[x]| .mapUpdate _ _ _ x=>[x]| .call ⟨.builtin .append,args,_⟩=>args.toList.drop 1|_=>[]
def Eb:D->Option (TypeId×D)
 | .eD t x=>some (t,x)|_=>none
def gP{e3:Type}(t c:Nat)(a b:Option e3):Option e3:=if t=c then a else b
def NG(uG:TypeId->Option FuncId)(t:TypeId)(k:FuncId->Option D):List TypeId->Option D
 |[]=>none|c::r=>gP t c (match uG c with|some f=>k f|none=>none) (NG uG t k r)
def Tg(T:cr)(G:dG)(C:nQ)(σ:aK)(o:Oper)(x:Operand)(name:String)(args:List Operand)(k:aK->Option β):Option β:=match ct G σ.aS x with
 | .d a=>match jz ((args.map (ct G σ.aS)).map (toD σ.objs))with|some aM=>R (Eb a) λp=>R (NG (λt=>T.uG t name) p.1 (λf=>C (o.dst.getD 9999) f (p.2::aM)) T.Yk) λr=>ay ((args.map (ct G σ.aS)).all DJ) (k (σ.put o.dst (.d r)))|none=>none
 |_=>none
def Th(T:cr)(G:dG)(C:nQ)(H:yU)(lx:Tmp->Bool)(σ:aK)(o:Oper)(k:aK->Option β):Option β:=match o.op with
 | .call ⟨.value x,args,_⟩=>match H (o.dst.getD 9999)with|some e=>u2 e.qM σ λσ=>S8 G e.s e.F e.base σ o x args.toList k|none=>match lx (o.dst.getD 9999)with|true=>aa3 G C σ o x args.toList k|false=>D3 G C σ o x args.toList k
 | .call ⟨.invoke x name,args,_⟩=>Tg T G C σ o x name args.toList k| .slice _ _ _ _ _=>match lx (aa4 o)with|true=>wN T G σ o λa2=>S6 (o.dst.getD 9999) a2 k|false=>wN T G σ o k
 |_=>match lx (aa4 o)with|true=>AZ [((am2 o.op).map (ct G σ.aS)).flatMap ND] σ λσ=>wN T G σ o k|false=>wN T G σ o k
def Ti(T:cr)(G:dG)(C:nQ)(H:yU)(lx:Tmp->Bool):List Oper->aK->(aK->Option β)->Option β
 |[],σ,k=>k σ|o::r,σ,k=>Th T G C H lx σ o λa2=>Ti T G C H lx r a2 k
def Tj(o:Oper):Bool:=still o||rL o.op
def A2(T:cr)(G:dG)(C:nQ)(H:yU)(lx:Tmp->Bool)(all:Array Oper):List (Option (Nat×Bool)×List Oper)->aK->(aK->Option β)->Option β
 |[],σ,k=>k σ|(none,os)::r,σ,k=>Ti T G C H lx os σ λa2=>A2 T G C H lx all r a2 k
 |(some (j,want),os)::r,σ,k=>match(all[j]?).bind (·.dst),yK os with
  |some d,some bX=>match σ.aS d with
   | .d x=>if os.all (λo=>Tj o&&o.dst !=some d)=true then
     (if(kept all os (flat r)).all (·==bX)=true then
      R (dA x want (u1 T G C os σ λa2=>match a2.aS bX with| .d v=>some v|_=>none)) λv=>A2 T G C H lx all r ((mu (dstsOf os) σ).put (some bX) (.d v)) k
     else R (dA x want (u1 T G C os σ λa2=>match Hv a2 (kept all os (flat r))with|some l=>some (.agg l)|none=>none)) λv=>A2 T G C H lx all r (yL (kept all os (flat r)) v (mu (dstsOf os) σ)) k)else none
   |_=>none
  |_,_=>none
def aa5(T:cr)(G:dG)(C:nQ)(H:yU)(lx:Tmp->Bool)(all:Array Oper)(σ:aK)(k:aK->Option β):Option β:=A2 T G C H lx all (yJ all.toList) σ k
end
def Ec{objs:cH}{k d:Key}{o:c0}(h:fa (some o)->fa (objs k)\/k=d):∀j,fa (cz objs k (some o) j)->fa (objs j)\/j=d:=by
 intro j aR;by_cases gN:j=k;.subst gN;rw[fq]at aR;exact h aR
 rw[da _ _ gN]at aR;exact .inl aR
def am3{T:cr}{ev:Operand->aY}{objs:cH}{d:Key}{o:Op}{r:aY}{cC:List (Key×c0)}(h:eW T ev objs d o=some (r,cC)):∀j,fa (dS objs cC j)->fa (objs j)\/j=d:=by
 have new:∀{o:c0},∀j,fa (dS objs [(d,o)] j)->fa (objs j)\/j=d:=by intro o;exact Ec (λ_=> .inr rfl)
 have row:∀{k:Key}{n eI:Nat}{es iZ:List (List D)},objs k=some (.row eI iZ)->∀j,fa (dS objs [(k,.row n es)] j)->fa (objs j)\/j=d:=by intro k n eI es iZ ai;exact Ec (λ_=> .inl (by rw[ai];exact wA))
 have mp:∀{k:Key}{es:List (Value×D)},∀j,fa (dS objs [(k,.map es)] j)->fa (objs j)\/j=d:=by intro k es;exact Ec (λh=>absurd h DF)
 cases o<;>simp only[eW,reduceCtorEq]at h
 case alloc=>split at h<;>cases h;exact new
 case box=>split at h<;>cases h;exact new
 case buildSlice=>
  split at h
  case h_2=>cases h
  split at h
  case h_2=>cases h
  split at h
  case h_2=>cases h
  split at h<;>cases h;exact new
 case makeSlice=>
  split at h
  case h_2=>cases h
  split at h
  case h_2=>cases h
  split at h
  case h_2=>cases h
  split at h<;>cases h;exact new
 case makeMap=>split at h<;>cases h;exact new
 case store=>
  split at h
  case h_2=>cases h
  split at h
  case isFalse=>cases h
  split at h
  .split at h
   case h_2=>cases h
   split at h<;>cases h;rename_i ai _;exact Ec λ_=> .inl (by rw[ai];exact wz)
  .split at h
   case h_2=>cases h
   split at h
   case isFalse=>cases h
   split at h<;>cases h;exact row (by assumption)
  cases h
 case mapUpdate=>
  split at h
  case h_2=>cases h
  split at h
  case h_2=>cases h
  split at h
  case isFalse=>cases h
  split at h
  case h_2=>cases h
  split at h
  case h_2=>cases h
  split at h<;>cases h;exact mp
 case insert=>
  split at h
  case h_2=>cases h
  split at h
  case h_2=>cases h
  split at h
  case isFalse=>cases h
  split at h
  case h_2=>cases h
  split at h
  case h_2=>cases h
  split at h<;>cases h;exact mp
 case call=>
  split at h
  .split at h
   case h_2=>cases h
   split at h
   case h_2=>cases h
   split at h
   case h_2=>cases h
   split at h
   case h_2=>cases h
   split at h
   case isFalse=>cases h
   split at h;.split at h<;>cases h;exact new
   .split at h
    case h_2=>cases h
    split at h<;>cases h;intro j aR;rcases Ec (d:=d) (λ_=> .inr rfl) j aR with ad|ad
    .exact Ec (λh=>absurd h G8) j ad
    exact .inr ad
   cases h
  .split at h
   case h_2=>cases h
   split at h
   case h_2=>cases h
   split at h
   case h_2=>cases h
   split at h
   case h_2=>cases h
   split at h
   case isFalse=>cases h
   split at h
   .split at h
    case h_2=>cases h
    split at h<;>cases h;exact row (by assumption)
   .split at h
    case h_2=>cases h
    split at h<;>cases h;exact row (by assumption)
   cases h
  cases h
def am4{T:cr}{ev:Operand->aY}{objs:cH}{d:Key}{o:Op}{r:aY}{cC:List (Key×c0)}(h:ho T ev objs d o=some (r,cC)):∀j,fa (dS objs cC j)->fa (objs j)\/j=d:=by
 obtain⟨⟨ja,uQ⟩,ao,an⟩:=ym h;have ad:=am3 ao;intro j aR;by_cases aF:j=d
 .exact .inr aF
 rcases Ar (T.born d) d ja uQ with e|⟨n,es,rfl,rfl,e⟩|⟨rG,n,es,rfl,rfl,e⟩|⟨off,cs,aM,rfl,rfl,fA,e⟩;.rw[an]at e;cases e;exact ad j aR
 .rw[an]at e;cases e;exact ad j (by simp only[dS,da _ _ aF]at aR⊢;exact aR)
 .rw[an]at e;cases e;exact ad j (by simp only[dS,da _ _ aF]at aR⊢;exact aR)
 rw[an]at e;cases e;exact ad j (by simp only[dS,da _ _ aF]at aR⊢;exact aR)
section
variable{P:Program}{T:cr}{G:dG}{N:Nat}{σ:aK}{all:Array Oper}{ib:List Key}
def gg.put(h:gg ib σ){dst:Option Tmp}{r:aY}:gg ib (σ.put dst r):=by intro k ai an;rw[aK.yo]at an;exact h k ai an
def Tk(cg:gg ib σ){o:Oper}(aF:∀d,o.dst=some d->d<10000){a2:aK}(h:hp T G σ o=some a2):gg ib a2:=by
 unfold hp at h;split at h;.cases h;exact cg.put
 split at h;.cases h;exact cg.put
 split at h
 case h_2=>cases h
 rename_i r cC he;cases h;refine gg.put ?_;intro k ai an;rcases am4 he k an with ad|ad
 .exact cg k ai ad
 exfalso;have:o.dst.getD 9999<10000:=by cases aC:o.dst with|none=>simp|some d=>exact aF d aC
 exact absurd this (Nat.not_lt.2 (ad▸ai))
def aa6(cg:gg ib σ){o:Oper}(aF:∀d,o.dst=some d->d<10000){K:aK->Prop}(h:ds P T G o K σ):ds P T G o (λa2=>gg ib a2/\K a2) σ:=by
 unfold ds at*;split;.rename_i a2 aD;simp only[aD]at h;exact⟨Tk cg aF aD,h⟩
 rename_i aD;simp only[aD]at h;unfold j6 at*;split at h
 case h_2=>cases h
 split at h
 case h_2=>cases h
 obtain⟨ou,aM,e8,ad,ae,az,a3,bx,cq⟩:=h;exact⟨ou,aM,e8,ad,ae,az,a3,bx,λr aw=>⟨cg.put,cq r aw⟩⟩
def Tl:∀{l:List Oper}{σ:aK}{K:aK->Prop},gg ib σ->(∀o∈l,∀d,o.dst=some d->d<10000)->gf P T G all l K σ->gf P T G all l (λa2=>gg ib a2/\K a2) σ
 |[],σ,K,cg,_,h=>⟨cg,h⟩|o::l,σ,K,cg,aF,h=>by unfold gf at*;rw[hY]at*;cases hw:ko all σ o with|none=>rw[hw]at h;exact h|some w=>rw[hw]at h;cases w with|true=>exact rN (λa2 ⟨ad,ae⟩=>Tl ad (λo aC=>aF o (by simp[aC])) ae) (aa6 cg (aF o (by simp)) h)|false=>exact Tl cg.put (λo aC=>aF o (by simp[aC])) h
end
section
variable{P:Program}{T:cr}{G:dG}{C:nQ}{H:yU}{lx:Tmp->Bool}{N:Nat}{σ:aK}{all:Array Oper}{ib:List Key}
def p5(P:Program)(G:dG)(N:Nat)(all:Array Oper)(i:Nat)(l:List Oper)(K:aK->Prop)(σ:aK):Prop:= ∀m fr ρ a w (Q:Exit->Act->World->Prop),k2 G m->Den m fr ρ σ a w->N<=a.tmps.size->a.defers=[]->(∀db w',jA N m fr ρ σ K db w'->Q .normal db w')->wpOps P all Q (List.range' i l.length) a w
def kI(P:Program)(G:dG)(N:Nat)(o:Oper)(K:aK->Prop)(σ:aK):Prop:= ∀m fr ρ a w (Q:Exit->Act->World->Prop),k2 G m->Den m fr ρ σ a w->N<=a.tmps.size->a.defers=[]->o.wp P a w (jA N m fr ρ σ K) Q
def am5{i:Nat}{K:aK->Prop}(h:K σ):p5 P G N all i [] K σ:=λm fr ρ a w Q cN de cj aF iz=>iz a w ⟨σ,m,ρ,h,Mem.le_refl m,de,cj,aF,lT.refl _ _⟩
def am6{i:Nat}{o:Oper}{l:List Oper}{K:aK->Prop}(ag:all[i]?=some o)(bV:o.guard=none)(h:kI P G N o (p5 P G N all (i+1) l K) σ):p5 P G N all i (o::l) K σ:=by
 intro m fr ρ a w Q cN de cj aF iz;rw[xax,List.range'_succ,wpOps_cons];refine wpOp_mono (K:=jA N m fr ρ σ (p5 P G N all (i+1) l K)) ?_ ?_;.rintro db w' ⟨a2,cP,c2,bS,bP,ca,ee,eJ,fB⟩;exact bS cP fr c2 db w' Q (cN.mono bP) ca ee eJ λqF lq aw=>iz qF lq (aw.trans bP fB)
 unfold wpOp;simp only[ag];have:Region.wanted o (yielded all a.tmps)=true:=by simp[Region.wanted,bV]
 rw[xac this];exact .inl (h m fr ρ a w Q cN de cj aF)
def kI.mono{o:Oper}{K K':aK->Prop}(ai:∀σ,K σ->K' σ)(h:kI P G N o K σ):kI P G N o K' σ:=λm fr ρ a w Q cN de cj aF=>by
  have:=h m fr ρ a w Q cN de cj aF;unfold Oper.wp at*;generalize (execOp a.eval o).run P w=r at*;cases r with
  |ok n w'=>
   cases n<;>simp only[Oper.upon]at this⊢<;>first|exact this.mono ai|exact this|skip
   .refine this.mono λe lq he=>?_;cases e with|returned v=>exact he.mono ai|panicked c=>exact he|outgrown=>exact he
   exact this.mono λv lq he=>he.mono ai
  |halt x w'=>cases x<;>exact this
def kI.Hw{o:Oper}{K:aK->Prop}{τ:aK}(he:hC σ τ)(h:kI P G N o K τ):kI P G N o K σ:=by
 intro m fr ρ a w Q cN de cj aF;obtain⟨cP,c2,ad,ae,az⟩:=he m fr ρ a w de;have:=h cP fr c2 a w Q (cN.mono ad) ae cj aF;unfold Oper.wp at*;generalize (execOp a.eval o).run P w=r at*;cases r with
 |ok n w'=>
  cases n<;>simp only[Oper.upon]at this⊢<;>first|exact this.trans ad az|exact this|skip
  .refine this.mono λe lq he=>?_;cases e with|returned v=>exact he.trans ad az|panicked c=>exact he|outgrown=>exact he
  exact this.mono λv lq he=>he.trans ad az
 |halt x w'=>cases x<;>exact this
def Tn(bd:eE P T){o:Oper}(hi:∀d,o.dst=some d->d<N){K:aK->Prop}(h:ds P T G o K σ):kI P G N o K σ:=λm fr ρ a w Q cN de cj aF=>R7 bd cN de cj aF hi h
def am7{ks:List Key}(h:gg ib σ):gg ib (freeze ks σ):=by
 intro k ai an;have hn:fa (if k∈ks then some .dead else(σ.objs k).map (HC σ.objs ks)):=an;split at hn
 .exact absurd hn G8
 cases aC:σ.objs k with|none=>rw[aC]at hn;exact absurd hn wB|some ez=>rw[aC]at hn;cases ez with|box cs=>exact h k ai (by rw[aC];exact wz)|dead=>exact absurd hn G8|row=>exact h k ai (by rw[aC];exact wA)|map=>exact absurd hn DF
def HL{β:Type}:∀{l:List (List Key)} {σ:aK} {k:aK->Option β} {b:β},gg ib σ->AZ l σ k=some b->∃τ,hC σ τ/\gg ib τ/\k τ=some b
 |[],σ,k,b,cg,h=>⟨σ,hC.refl σ,cg,h⟩
 |ks::r,σ,k,b,cg,h=>by
  unfold AZ at h;split at h;.exact HL cg h
  split at h
  case isFalse=>cases h
  rename_i eH;obtain⟨τ,ad,ae,az⟩:=HL (am7 cg) h;exact⟨τ,(amK _ eH).trans ad,ae,az⟩
def am8{β:Type}{t:Tmp}{σ:aK}{k:aK->Option β}{b:β}(cg:gg ib σ)(h:S6 t σ k=some b):∃τ,hC σ τ/\gg ib τ/\k τ=some b:=by
 unfold S6 at h;split at h
 case h_2=>cases h
 rename_i key dg i len aQ;split at h
 case h_2=>cases h
 rename_i bO es ai ao;split at h
 case isFalse=>cases h
 rename_i c5;obtain⟨c5,g6,oA⟩:=c5;subst c5;obtain⟨ad,ae⟩:=nb h;refine⟨_,amL aQ ai ao (xbj ad) g6,?_,ae⟩;intro j aR aj;simp only at aj;by_cases az:j=t;.subst az;exact absurd oA (Nat.not_lt.2 aR)
 rw[da _ _ az]at aj;by_cases a3:j=key;.subst a3;exact absurd g6 (Nat.not_lt.2 aR)
 rw[da _ _ a3]at aj;exact cg j aR aj
def kI.out{o:Oper}{K:aK->Prop}(h:kI P G N o (λa2=>∃τ,hC a2 τ/\K τ) σ):kI P G N o K σ:=λm fr ρ a w Q cN de cj aF=>by
  have key:∀{db w'},jA N m fr ρ σ (λa2=>∃τ,hC a2 τ/\K τ) db w'->jA N m fr ρ σ K db w':=by rintro db w' ⟨a2,cP,c2,⟨τ,bb,bo⟩,ae,az,a3,bx,cq⟩;obtain⟨Az,AA,aZ,a6,b2⟩:=bb cP fr c2 db w' az;exact⟨τ,Az,AA,bo,Mem.le_trans ae aZ,a6,a3,bx,cq.trans b2⟩
  have:=h m fr ρ a w Q cN de cj aF;unfold Oper.wp at*;generalize (execOp a.eval o).run P w=r at*;cases r with
  |ok n w'=>
   cases n<;>simp only[Oper.upon]at this⊢<;>first|exact key this|exact this|skip
   .refine this.mono λe lq he=>?_;cases e with|returned v=>exact key he|panicked c=>exact he|outgrown=>exact he
   exact this.mono λv lq he=>key he
  |halt x w'=>cases x<;>exact this
def aa7{β:Type}(bd:eE P T)(b5:ht P G C){o:Oper}(hi:∀d,o.dst=some d->d<N){x:Operand}{args:Array Operand}{eA:Array TypeId}(aC:o.op= .call ⟨.value x,args,eA⟩){k:aK->Option β}{b:β}(cg:gg ib σ) (h:D3 G C σ o x args.toList k=some b):kI P G N o (λa2=>k a2=some b/\gg ib a2) σ:=by refine Tn bd hi (rN ?_ (Nk (T:=T) b5 aC h));rintro a2 ⟨ad,ae,_⟩;refine⟨ad,λj aR an=>cg j aR (by rw[<-ae];exact an)⟩
def aa8{uG:TypeId->Option FuncId}{t:TypeId}{k:FuncId->Option D}{r:D}:∀{l:List TypeId},NG uG t k l=some r->∃f,uG t=some f/\k f=some r
 |[],h=>by cases h
 |c::l,h=>by
  unfold NG gP at h;split at h
  .rename_i aj;subst aj;split at h;.rename_i f ba;exact⟨f,ba,h⟩
   cases h
  exact aa8 h
def am9{P:Program}{t:TypeId}{name:String}{f:FuncId}(hm:Me P t name f)(n:Nat)(v:Value)(w:World):(method (n+1) t v name).run P w= .ok (f,v) w:=by
 obtain⟨info,m,d,ad,ae,az,a3,bx,cq⟩:=hm;have aZ:(typeInfo t).run P w= .ok info w:=by simp[typeInfo,ad]
 unfold method;simp only[xam,aZ,xaf,ae,az,follow,xaw,a3,receiverAt,xav bx];cases d<;>first|(simp only[Place.get,xaw,xaf];done)|(exact absurd rfl (cq _))
def ana{P:Program}{va:Operand->Value}{x:Operand}{name:String}{args:Array Operand}{eA:Array TypeId}{ty:TypeId}{t:TypeId}{v:Value}{f:FuncId}{w:World}(af:va x= .iface t v)(hm:Me P t name f)(ba:yn P f):(do let d<-resolve va {callee:= .invoke x name,args:=args,argTypes:=eA} ty;invoke d.target d.args:Sem Next).run P w= .ok (.enter f (#[v]++args.map va)) w:=by
 obtain⟨fn,ad,ae,az⟩:=ba;have jM:0<Made.depth:=by decide
 have aF:∃n,P.types.size+Made.depth=n+1:=⟨P.types.size+Made.depth-1,by omega⟩;obtain⟨n,aH⟩:=aF;have bK:(#[Value.iface t v]++args.map va)[0]?=some (Value.iface t v):=by rw[xbJ (by simp)];rfl
 have aZ:(#[Value.iface t v]++args.map va).extract 1 (#[Value.iface t v]++args.map va).size=args.map va:=by apply xbO;simp[List.extract,xbB]
 have a6:(program:Sem Program).run P w= .ok P w:=rfl;have A1:=am9 hm n v w;have To:(callFunc f (#[v]++args.map va)).run P w= .ok (.enter f (#[v]++args.map va)) w:=by simp only[callFunc,xam,a6,xaf,ad,ae,az,xaq,xaB,xaw]
 simp only[xam,resolve,af,xaw,xaf,invoke,bK,aZ,callMethod,a6,aH,A1,To]
def anb{β:Type}(bd:eE P T)(b5:ht P G C){o:Oper}(hi:∀d,o.dst=some d->d<N){x:Operand}{name:String}{args:Array Operand}{eA:Array TypeId}(aC:o.op= .call ⟨.invoke x name,args,eA⟩){k:aK->Option β}{b:β}(cg:gg ib σ) (h:Tg T G C σ o x name args.toList k=some b):kI P G N o (λa2=>k a2=some b/\gg ib a2) σ:=by
 unfold Tg at h;split at h
 case h_2=>cases h
 rename_i d aF;split at h
 case h_2=>cases h
 rename_i aM fA;obtain⟨p,a1,h⟩:=fN h;obtain⟨r,aw,h⟩:=fN h;obtain⟨bx,cq⟩:=nb h;obtain⟨f,ba,To⟩:=aa8 aw;have aa9:=b5 _ _ _ _ To;have Hh:=bd.Rq _ _ _ ba;obtain⟨t,y⟩:=p;have anc:d= .eD t y:=by
  unfold Eb at a1;split at a1;.cases a1;rfl
  cases a1
 subst anc;intro m fr ρ a w Q cN Tp cj hN;have dI:=GL (a:=a) cN Tp.aS;have jB:∀d,o.dst=some d->d<a.tmps.size:=λd aF=>Nat.lt_of_lt_of_le (hi d aF) cj;have uS:∀v,N<=(a.put o.dst v).tmps.size:=by intro v;cases o.dst<;>simpa[Act.put]using cj
 have m6:∀v,(a.put o.dst v).defers=[]:=by intro v;cases o.dst<;>exact hN
 have af:=dI x;rw[aF]at af;have af:=af.pO;obtain⟨v,RV,ane⟩:∃v,a.eval x= .iface t v/\dF m y v:=by generalize a.eval x=u at af;cases af with|eD _ _ v h=>exact⟨v,rfl,h⟩
 have R5:(execOp a.eval o).run P w= .ok (.enter f (#[v]++args.map a.eval)) w:=by unfold execOp;rw[aC];exact ana RV Hh aa9.fn
 unfold Oper.wp;rw[R5];have R6:As m (y::aM) (#[v]++args.map a.eval).toList:=by obtain⟨bb,bo⟩:=sN fA;refine⟨by simp[bb],?_⟩;intro i d k3 aF aN;simp only[Array.toList_append,List.cons_append,xaO,Array.toList_map]at aN;cases i with|zero=>simp at aF aN;subst aF;subst aN;exact ane|succ i=>simp only[xcc]at aF aN;have b0:=bo i d aF;simp only[xaj,xan]at b0 aN;obtain⟨z,⟨q,b4,rfl⟩,anf⟩:=b0;obtain⟨aEI,aba,rfl⟩:=aN;rw[b4]at aba;cases aba;exact R3 (xat.1 bx _ (xbc.2 ⟨q,xad b4,rfl⟩)) anf (dI q)
 have uT:=aa9.run m _ w _ cN Tp.Ze R6;simp only[Array.toArray_toList]at uT;refine uT.mono λe w' he=>?_;obtain⟨k3,cP,yb,rfl,bS,bP,ca,ee⟩:=he;subst bS;have ang:=Tp.kept bP ca;exact⟨_,cP,ρ,⟨cq,λj aR an=>cg j aR (by simpa using an)⟩,bP,ang.put (.d _ _ ee) jB,uS k3,m6 k3,λk ai an=>⟨by simpa using an,rfl⟩⟩
def anh{β:Type}(bd:eE P T)(b5:ht P G C)(gh:k7 P G H)(cj:N<10000){o:Oper}(hi:∀d,o.dst=some d->d<N){k:aK->Option β}{b:β}(cg:gg ib σ)(h:Th T G C H lx σ o k=some b):kI P G N o (λa2=>k a2=some b/\gg ib a2) σ:=by
 unfold Th at h;split at h
 .rename_i x args eA aC;split at h;.rename_i e he;obtain⟨τ,t1,Tq,h⟩:=AW cg h;refine kI.Hw t1 ?_;refine kI.mono (K:=λa2=>k a2=some b/\∀p,10000<=p->fa (a2.objs p)->fa (τ.objs p)) (λa2 ⟨ad,ae⟩=>⟨ad,λp a1 an=>Tq p a1 (ae p a1 an)⟩) ?_;intro m fr ρ a w Q cN de o1 aF;exact amU cN de o1 aF hi (gh _ _ he) aC h (Q:=Q)
  split at h;.unfold aa3 at h;simp only at h;obtain⟨τ,ad,ae,az⟩:=HL cg h;exact kI.Hw ad (aa7 bd b5 hi aC ae az)
  exact aa7 bd b5 hi aC cg h
 .rename_i x name args eA aC;exact anb bd b5 hi aC cg h
 .have step:∀{τ:aK}{k:aK->Option β},gg ib τ->wN T G τ o k=some b->kI P G N o (λa2=>k a2=some b/\gg ib a2) τ:=by
   intro τ k cg h;obtain⟨a2,ad,ae⟩:=D2 h;refine Tn bd hi ?_;unfold ds;rw[ad];exact⟨ae,Tk cg (λd aF=>Nat.lt_trans (hi d aF) cj) ad⟩
  split at h;.refine kI.out (kI.mono ?_ (step cg h));rintro a2 ⟨ad,ae⟩;obtain⟨τ,bb,bo,b0⟩:=am8 ae ad;exact⟨τ,bb,b0,bo⟩
  exact step cg h
 have step:∀{τ:aK},gg ib τ->wN T G τ o k=some b->kI P G N o (λa2=>k a2=some b/\gg ib a2) τ:=by intro τ cg h;obtain⟨a2,ad,ae⟩:=D2 h;refine Tn bd hi ?_;unfold ds;rw[ad];exact⟨ae,Tk cg (λd aF=>Nat.lt_trans (hi d aF) cj) ad⟩
 split at h;.obtain⟨τ,ad,ae,az⟩:=HL cg h;exact kI.Hw ad (step ae az)
 exact step cg h
def abb{β:Type}(bd:eE P T)(b5:ht P G C)(gh:k7 P G H)(cj:N<10000){K:aK->Prop}:∀{os:List Oper}{r:List Oper}{i:Nat}{σ:aK}{k:aK->Option β}{b:β},(∀o∈os,o.guard=none)->(∀o∈os,∀d,o.dst=some d->d<N)->(∀j,(os++r)[j]?=all[i+j]?)->gg ib σ->(∀a2,gg ib a2->k a2=some b->p5 P G N all (i+os.length) r K a2)->Ti T G C H lx os σ k=some b->p5 P G N all i (os++r) K σ
 |[],r,i,σ,k,b,_,_,_,cg,ai,h=>ai σ cg h
 |o::os,r,i,σ,k,b,bV,aF,gz,cg,ai,h=>by
  have ag:all[i]?=some o:=by simpa using(gz 0).symm
  refine am6 ag (bV o (by simp)) (kI.mono ?_ (anh bd b5 gh cj (aF o (by simp)) cg h));rintro a2 ⟨ad,ae⟩;refine abb bd b5 gh cj (λo aC=>bV o (by simp[aC])) (λo aC=>aF o (by simp[aC])) (λj=>by have:=gz (j+1);simpa[xbl,Nat.add_comm 1 j]using this) ae ?_ ad;intro sV az a3;have:=ai sV az a3;rw[show i+(o::os).length=i+1+os.length by simp;omega]at this;exact this
def cf.shrink{m tg:Mem}{ρ Ts:dv}{U rP:Key->Prop}{x:aY}{v:Value}(h:cf m ρ U x v):∀{v0:Value},cf tg Ts rP x v0->cf m ρ rP x v:=by
 induction h with
 |any v=>intro v0 _;exact .any _
 |d x v h=>intro v0 _;exact .d _ _ h
 |agg cs vs ak h ih=>
  intro v0 ao;cases ao with|agg _ A3 nT HM=>
  refine .agg _ _ ak λi c v aj aN=>?_;have ag:i<A3.size:=by rw[nT];exact(xae.1 aj).1
  exact ih i c v aj aN (HM i c _ aj (xap ag))
 |aU cs vs ak h ih=>
  intro v0 ao;cases ao with|aU _ A3 nT HM=>
  refine .aU _ _ ak λi c v aj aN=>?_;have ag:i<A3.size:=by rw[nT];exact(xae.1 aj).1
  exact ih i c v aj aN (HM i c _ aj (xap ag))
 |e6 cs off b o vs T e2 an xs ad ae=>intro v0 _;exact .e6 _ _ b o vs T e2 an xs ad ae
 |ptr key off b hu h=>intro v0 ao;cases ao with|ptr _ _ _ m5 _=>exact .ptr _ _ b m5 h
 |gL key k i off b o len cap hu h=>intro v0 ao;cases ao with|gL _ _ _ _ _ _ _ _ m5 _=>exact .gL _ _ _ _ b o len cap m5 h
 |row key hu=>intro v0 ao;cases ao with|row _ m5=>exact .row _ m5
 |sub key k i len b o L cap a hu h hle aB=>intro v0 ao;cases ao with|sub _ _ _ _ _ _ _ _ _ m5=>exact .sub _ _ _ _ b o L cap a m5 h hle aB|lQ _ _ _ m5=>exact .sub _ _ _ _ b o L cap a m5 h hle aB
 |lQ key k i hu h=>intro v0 ao;cases ao with|sub _ _ _ _ _ _ _ _ _ m5=>exact .lQ _ _ _ m5 h|lQ _ _ _ m5=>exact .lQ _ _ _ m5 h
 |map key hu=>intro v0 ao;cases ao with|map _ m5=>exact .map _ m5
 |fn f first captured vs ws ak fe h bL ih z4=>
  intro v0 ao;cases ao with|fn _ _ _ A3 ani nT anj HM ank=>
  refine .fn _ _ _ _ _ ak fe (λi c v aj aN=>?_) (λi c v aj aN=>?_)
  .have ag:i<A3.size:=by rw[nT];exact(xae.1 aj).1
   exact ih i c v aj aN (HM i c _ aj (xap ag))
  .have ag:i<ani.size:=by rw[anj];exact(xae.1 aj).1
   exact z4 i c v aj aN (ank i c _ aj (xap ag))
def kC.shrink{m tg:Mem}{ρ Ts:dv}{U rP:Key->Prop}{o:c0}{v v0:Value}{w w0:World}(h:kC m ρ U v w o)(ao:kC tg Ts rP v0 w0 o):kC m ρ rP v w o:=by
 cases o with
 |dead=>trivial
 |box cs=>
  obtain⟨b,vs,T,aZ,a6,b2,dh⟩:=h;obtain⟨Ed,A3,eS,f1,f2,f3,f4⟩:=ao;refine⟨b,vs,T,aZ,a6,b2,λi c x aj af=>?_⟩;have ag:i<A3.size:=by rw[f3];exact(xae.1 aj).1
  exact(dh i c x aj af).shrink (f4 i c _ aj (xap ag))
 |row=>exact h|map=>exact h
def anl{m cP:Mem}{fr:fT}{ρ c2:dv}{σ a2:aK}{a db:Act}{w w':World}{aM:List Tmp}(h:Den m fr ρ σ a w)(bL:Den cP fr c2 a2 db w')(qD:cH.ext σ.objs a2.objs)(aD:∀t,t∉aM->a2.aS t=σ.aS t){bX:Tmp}{v:D}(aN:a2.aS bX= .d v)(AQ:bX∈aM):Den cP fr c2 ((mu aM σ).put (some bX) (.d v)) db w':=by
 have iX:((mu aM σ).put (some bX) (.d v)).objs=σ.objs:=by simp[mu]
 refine⟨bL.mem,bL.frame,bL.apart,?_,?_,?_,?_,?_⟩;.rintro k ⟨o,aC⟩;rw[iX]at aC;exact bL.one k ⟨o,qD k o aC⟩
 .intro t;by_cases oA:t=bX;.subst oA;simp only[aK.put,fq];have:=bL.aS t;rw[aN]at this;exact .d _ _ this.pO
  simp only[aK.put,da _ _ oA,mu];split;.exact .any _
  rename_i aH;have ad:=bL.aS t;rw[aD t aH]at ad;exact ad.shrink (h.aS t)
 .intro k o ai;rw[iX]at ai;exact(bL.objs k o (qD k o ai)).shrink (h.objs k o ai)
 .intro k o b ai aC an;rw[iX]at ai;exact bL.own k o b (qD k o ai) aC an
 intro k bO o o' b cm ai eF aC pZ an;rw[iX]at ai eF;exact bL.sep k bO o o' b cm (qD k o ai) (qD bO o' eF) aC pZ an
def anm{m cP:Mem}{fr:fT}{ρ c2:dv}{σ a2:aK}{a db:Act}{w w':World}{aM:List Tmp}(h:Den m fr ρ σ a w)(bL:Den cP fr c2 a2 db w')(qD:cH.ext σ.objs a2.objs)(aD:∀t,t∉aM->a2.aS t=σ.aS t){ts:List Tmp}{v:D}(aN:∀t∈ts,a2.aS t= .d (aa v (ts.idxOf t))):Den cP fr c2 (yL ts v (mu aM σ)) db w':=by
 have iX:(yL ts v (mu aM σ)).objs=σ.objs:=rfl;refine⟨bL.mem,bL.frame,bL.apart,?_,?_,?_,?_,?_⟩;.rintro k ⟨o,aC⟩;rw[iX]at aC;exact bL.one k ⟨o,qD k o aC⟩
 .intro t;by_cases oA:t∈ts
  .have ae:(yL ts v (mu aM σ)).aS t= .d (aa v (ts.idxOf t)):=by simp only[yL,xac oA]
   rw[ae];have:=bL.aS t;rw[aN t oA]at this;exact .d _ _ this.pO
  have ae:(yL ts v (mu aM σ)).aS t=(mu aM σ).aS t:=by simp only[yL,xaa oA]
  rw[ae];simp only[mu];split;.exact .any _
  rename_i aH;have ad:=bL.aS t;rw[aD t aH]at ad;exact ad.shrink (h.aS t)
 .intro k o ai;rw[iX]at ai;exact(bL.objs k o (qD k o ai)).shrink (h.objs k o ai)
 .intro k o b ai aC an;rw[iX]at ai;exact bL.own k o b (qD k o ai) aC an
 intro k bO o o' b cm ai eF aC pZ an;rw[iX]at ai eF;exact bL.sep k bO o o' b cm (qD k o ai) (qD bO o' eF) aC pZ an
theorem ann{T:cr}{ev:Operand->aY}{objs:cH}{d:Key}{op:Op}{r:aY}{cC:List (Key×c0)}(aD:rL op=true)(he:ho T ev objs d op=some (r,cC)):objs d=none:=(DN (objs':=λ_=>none) aD rfl he).2.1
def ano{β:Type}(b5:ht P G C){o:Oper}(aD:Tj o=true){k:aK->Option β}{b:β}(h:u0 T G C σ o k=some b):ds P T G o (λa2=>k a2=some b/\cH.ext σ.objs a2.objs/\∀t,o.dst≠some t->a2.aS t=σ.aS t) σ:=by
 rcases xbC.1 aD with aD|aD;.refine rN ?_ (aax b5 aD h);rintro a2 ⟨ad,ae,az⟩;exact⟨ad,by rw[ae];exact λ_ _ h=>h,az⟩
 have aay:∀x args eA,o.op≠ .call ⟨.value x,args,eA⟩:=by intro x args eA he;rw[he]at aD;cases aD
 unfold u0 at h;split at h;.exact absurd (by assumption) (aay _ _ _)
 obtain⟨a2,ad,ae⟩:=D2 h;unfold ds;rw[ad];unfold hp at ad;rw[(sP (objs:=σ.objs) aD).1,(sP aD).2]at ad;simp only at ad;split at ad
 case h_2=>cases ad
 rename_i r cC he;cases ad;have pX:σ.objs (o.dst.getD 9999)=none:=ann aD he;obtain⟨_,_,h9,rfl⟩:=DN aD pX he;refine⟨ae,?_,λt aQ=>s5 aQ⟩;rw[aK.yo];exact cH.MD pX h9
def Tt{β:Type}(b5:ht P G C){j:Nat}{want:Bool}{d:Tmp}(aF:(all[j]?).bind (·.dst)=some d):∀{os:List Oper}{σ:aK}{k:aK->Option β}{b:β},(∀o∈os,o.guard=some (j,want))->(∀o∈os,Tj o=true/\o.dst≠some d)->σ.aS d= .d (.val (.bool want))->u1 T G C os σ k=some b->gf P T G all os (λa2=>k a2=some b/\cH.ext σ.objs a2.objs/\∀t,t∉dstsOf os->a2.aS t=σ.aS t) σ
 |[],σ,k,b,_,_,_,h=>⟨h,λ_ _ h=>h,λ_ _=>rfl⟩
 |o::os,σ,k,b,bV,aD,hw,h=>by
  have ao:=aD o (by simp);unfold gf eX;rw[bV o (by simp)];simp only[aF,hw,xay];refine rN ?_ (ano b5 ao.1 h);rintro a2 ⟨ad,ae,az⟩;refine nR ?_ (Tt b5 aF (λo aC=>bV o (by simp[aC])) (λo aC=>aD o (by simp[aC])) (by rw[az d ao.2];exact hw) ad);rintro sV ⟨bb,bo,b0⟩;refine⟨bb,λdg abc aC=>bo dg abc (ae dg abc aC),?_⟩;intro t aQ;have qL:t∉dstsOf os:=λaj=>aQ (by unfold dstsOf at aj⊢;simp only[xbM];cases o.dst<;>simp[aj])
  have AP:o.dst≠some t:=λaj=>aQ (by unfold dstsOf;simp[aj]);rw[b0 t qL,az t AP]
def Tu(bd:eE P T){fr:fT}{Q:Exit->Act->World->Prop}:∀(os r:List Oper)(i:Nat)(m:Mem)(ρ:dv)(σ:aK)(a:Act)(w:World)(K:aK->Prop),(∀j,(os++r)[j]?=all[i+j]?)->k2 G m->Den m fr ρ σ a w->N<=a.tmps.size->a.defers=[]->(∀o∈os,∀d,o.dst=some d->d<N)->gf P T G all os K σ->(∀db w',jA N m fr ρ σ K db w'->wpOps P all Q (List.range' (i+os.length) r.length) db w')->wpOps P all Q (List.range' i (os++r).length) a w
 |[],r,i,m,ρ,σ,a,w,K,_,cN,h,cj,hN,_,aN,Tv=>Tv a w ⟨σ,m,ρ,aN,Mem.le_refl m,h,cj,hN,lT.refl _ _⟩
 |o::os,r,i,m,ρ,σ,a,w,K,ak,cN,h,cj,hN,hi,aN,Tv=>by
  rw[List.cons_append,xax,List.range'_succ,wpOps_cons];have ag:all[i]?=some o:=by simpa using(ak 0).symm
  refine wpOp_mono ?_ (R8 bd cN h cj hN ag (hi o (by simp)) aN);rintro db w' ⟨a2,cP,c2,bS,bP,ca,ee,eJ,fB⟩;refine Tu bd os r (i+1) cP c2 a2 db w' K (λj=>by have:=ak (j+1);simpa[xbl,Nat.add_comm 1 j]using this) (cN.mono bP) ca ee eJ (λo aC=>hi o (by simp[aC])) bS ?_;intro qF lq aw;have:=Tv qF lq (aw.trans bP fB);rw[show i+(o::os).length=i+1+os.length by simp;omega]at this;exact this
theorem abd(i:Nat):aa kG i=kG:=by unfold aa;cases i<;>rfl
def HN{β:Type}(bd:eE P T)(b5:ht P G C)(gh:k7 P G H)(cj:N<10000){K:aK->Prop}:∀{gs:List (Option (Nat×Bool)×List Oper)} {i:Nat} {σ:aK} {k:aK->Option β} {b:β},(∀g∈gs,∀o∈g.2,o.guard=g.1)->(∀o∈flat gs,∀d,o.dst=some d->d<N)->(∀j,(flat gs)[j]?=all[i+j]?)->gg ib σ->(∀a2,gg ib a2->k a2=some b->K a2)->A2 T G C H lx all gs σ k=some b->p5 P G N all i (flat gs) K σ
 |[],i,σ,k,b,_,_,_,cg,ai,h=>am5 (ai σ cg h)|(none,os)::r,i,σ,k,b,bV,aF,gz,cg,ai,h=>by show p5 P G N all i (os++flat r) K σ;refine abb bd b5 gh cj (λo aC=>bV (none,os) (by simp) o aC) (λo aC=>aF o (by simp[flat,aC])) gz cg ?_ h;intro a2 ad ae;refine HN bd b5 gh cj (λg hm=>bV g (by simp[hm])) (λo aC=>aF o (by simp only[flat,List.flatMap_cons,xaJ];exact .inr aC)) ?_ ad ai ae;intro j;have:=gz (os.length+j);rw[<-xbl]at this;rw[<-this];show _=(os++flat r)[os.length+j]?;rw[xaF (by omega)];simp
 |(some (j,want),os)::r,i,σ,k,b,bV,aF,gz,cg,ai,h=>by
  show p5 P G N all i (os++flat r) K σ;unfold A2 at h;split at h
  case h_2=>cases h
  rename_i d bX Ee AQ;split at h
  case h_2=>cases h
  rename_i x af;split at h
  case isFalse=>cases h
  rename_i a4;simp only[xat,xai,bne_iff_ne,ne_eq]at a4;split at h
  .obtain⟨v,ad,ae⟩:=fN h;have iL:∀o∈os,o.guard=some (j,want):=λo aC=>bV (some (j,want),os) (by simp) o aC;have Tw:p5 P G N all (i+os.length) (flat r) K ((mu (dstsOf os) σ).put (some bX) (.d v)):=by
    refine HN bd b5 gh cj (λg hm=>bV g (by simp[hm])) (λo aC=>aF o (by simp only[flat,List.flatMap_cons,xaJ];exact .inr aC)) ?_ (gg.put (σ:=mu (dstsOf os) σ) cg) ai ae;intro HO;have:=gz (os.length+HO);rw[<-xbl]at this;rw[<-this];show _=(os++flat r)[os.length+HO]?;rw[xaF (by omega)];simp
   have aN:gf P T G all os (λa2=>cH.ext σ.objs a2.objs/\(∀t,t∉dstsOf os->a2.aS t=σ.aS t)/\a2.aS bX= .d v) σ:=by
    unfold dA at ad;split at ad
    .rename_i oX;split at ad
     .rename_i an;subst an;refine nR ?_ (Tt b5 Ee iL a4 af ad);rintro a2 ⟨bb,bo,b0⟩;refine⟨bo,b0,?_⟩;split at bb;.rename_i u hu;cases bb;exact hu
      cases bb
     rename_i an;cases ad;refine nR ?_ (Hx Ee iL (λo aC=>(a4 o aC).2) (.inl (by rw[af];cases oX<;>cases want<;>simp_all)));rintro a2 ⟨bb,bo,b0⟩;exact⟨by rw[bb];exact λ_ _ h=>h,bo,b0 bX AQ⟩
    .rename_i vs;cases ad;refine nR ?_ (Hx Ee iL (λo aC=>(a4 o aC).2) (.inr ⟨_,af⟩));rintro a2 ⟨bb,bo,b0⟩;exact⟨by rw[bb];exact λ_ _ h=>h,bo,b0 bX AQ⟩
    cases ad
   intro m fr ρ a w Q cN de o1 hN iz;refine Tu bd os (flat r) i m ρ σ a w _ gz cN de o1 hN (λo aC=>aF o (by simp[flat,aC])) aN ?_;rintro db w' ⟨a2,cP,c2,⟨bb,bo,b0⟩,bP,ca,ee,eJ,fB⟩;have mx:=anl de ca bb bo b0 (aaD AQ);refine Tw cP fr c2 db w' Q (cN.mono bP) mx ee eJ ?_;intro qF lq aw;refine iz qF lq (aw.trans bP ?_);intro dg c5 an;exact⟨by rw[aK.yo];exact an,(fB dg c5 an).2⟩
  obtain⟨v,ad,ae⟩:=fN h;have iL:∀o∈os,o.guard=some (j,want):=λo aC=>bV (some (j,want),os) (by simp) o aC;have Tw:p5 P G N all (i+os.length) (flat r) K (yL (kept all os (flat r)) v (mu (dstsOf os) σ)):=by refine HN bd b5 gh cj (λg hm=>bV g (by simp[hm])) (λo aC=>aF o (by simp only[flat,List.flatMap_cons,xaJ];exact .inr aC)) ?_ cg ai ae;intro HO;have:=gz (os.length+HO);rw[<-xbl]at this;rw[<-this];show _=(os++flat r)[os.length+HO]?;rw[xaF (by omega)];simp
  have aN:gf P T G all os (λa2=>cH.ext σ.objs a2.objs/\(∀t,t∉dstsOf os->a2.aS t=σ.aS t)/\(∀t∈kept all os (flat r),a2.aS t= .d (aa v ((kept all os (flat r)).idxOf t)))) σ:=by
   unfold dA at ad;split at ad
   .rename_i oX;split at ad
    .rename_i an;subst an;refine nR ?_ (Tt b5 Ee iL a4 af ad);rintro a2 ⟨bb,bo,b0⟩;refine⟨bo,b0,?_⟩;split at bb;.rename_i l ak;cases bb;exact λt aQ=>amw ak aQ
     cases bb
    rename_i an;cases ad;refine nR ?_ (SS Ee iL (λo aC=>(a4 o aC).2) (.inl (by rw[af];cases oX<;>cases want<;>simp_all)));rintro a2 ⟨bb,bo,b0⟩;exact⟨by rw[bb];exact λ_ _ h=>h,bo,λt aQ=>by rw[b0 t (List.mem_filter.1 aQ).1,abd]⟩
   .rename_i vs;cases ad;refine nR ?_ (SS Ee iL (λo aC=>(a4 o aC).2) (.inr ⟨_,af⟩));rintro a2 ⟨bb,bo,b0⟩;exact⟨by rw[bb];exact λ_ _ h=>h,bo,λt aQ=>by rw[b0 t (List.mem_filter.1 aQ).1,abd]⟩
   cases ad
  intro m fr ρ a w Q cN de o1 hN iz;refine Tu bd os (flat r) i m ρ σ a w _ gz cN de o1 hN (λo aC=>aF o (by simp[flat,aC])) aN ?_;rintro db w' ⟨a2,cP,c2,⟨bb,bo,b0⟩,bP,ca,ee,eJ,fB⟩;have mx:=anm de ca bb bo b0;refine Tw cP fr c2 db w' Q (cN.mono bP) mx ee eJ ?_;intro qF lq aw;refine iz qF lq (aw.trans bP ?_);intro dg c5 an;exact⟨an,(fB dg c5 an).2⟩
def anp{β:Type}(bd:eE P T)(b5:ht P G C)(gh:k7 P G H)(cj:N<10000){k:aK->Option β}{b:β}(aF:∀o∈all.toList,∀d,o.dst=some d->d<N)(cg:gg ib σ)(h:aa5 T G C H lx all σ k=some b):p5 P G N all 0 all.toList (λa2=>gg ib a2/\k a2=some b) σ:=by
 have:=HN (P:=P) (N:=N) (ib:=ib) (all:=all) (i:=0) bd b5 gh cj (K:=λa2=>gg ib a2/\k a2=some b) (λg hm o aC=>Nj _ _ _ hm o aC) (by rw[yM];exact aF) (by rw[yM];intro j;simp) cg (λa2 ad ae=>⟨ad,ae⟩) h
 rwa [yM]at this
def anq{Q:Exit->aK->Prop}{id:Nat}{ops:Array Oper}(h:p5 P G N ops 0 ops.toList (Q .normal) σ):hD P T G N (.region id ops false) σ Q:=by intro m fr ρ a w cN de o1 aF;refine wp_region ?_;rw[List.range_eq_range'];have:=h m fr ρ a w (λe db w'=>jA N m fr ρ σ (Q e) db w') cN de o1 aF (λdb w' aw=>aw);simpa using this
end
def u5(ops:Array Oper):Bool:=(List.range ops.size).all λj=>match ops[j]? with
  |some o=>o.after.all (λe=>!Region.binds .any e||decide (e.on<j))&&(match o.guard with|none=>true|some (g,_)=>decide (g<j))
  |none=>true
def HP(ops:Array Oper)(j:Nat):Bool:=(List.range j).all λi=>(List.range (j+1)).any λk=>decide (i<k)&&match ops[k]? with|some o=>o.after.any (λe=>Region.binds .any e&&decide (e.on=i))|none=>false
def Tx(ops:Array Oper)(p:Nat):Bool:=u5 ops&&(List.range ops.size).all λj=>decide (j<p)||HP ops j
def A4{ops:Array Oper}(h:u5 ops=true){j:Nat}{o:Oper}(aC:ops[j]?=some o):(∀e∈o.after,Region.binds .any e=true->e.on<j)/\∀g b,o.guard=some (g,b)->g<j:=by
 have aR:j<ops.size:=(xaZ.1 aC).1;have ad:=xat.1 h j (xbX.2 aR);simp only[aC,xai]at ad;refine⟨λe he an=>?_,λg b bV=>?_⟩
 .have:=Array.all_eq_true'.1 ad.1 e he;simpa[an]using this
 have:=ad.2;rw[bV]at this;simpa using this
def anr{ops:Array Oper}{j i:Nat}(h:HP ops j=true)(ag:i<j):∃k o,i<k/\k<=j/\ops[k]?=some o/\∃e∈o.after,Region.binds .any e=true/\e.on=i:=by
 have ad:=xat.1 h i (xbX.2 ag);obtain⟨k,ai,ae⟩:=xbI.1 ad;simp only[xai,xau]at ae;obtain⟨az,a3⟩:=ae;cases aC:ops[k]? with
 |none=>rw[aC]at a3;cases a3
 |some o=>rw[aC]at a3;obtain⟨e,he,bx⟩:=Array.any_eq_true'.1 a3;simp only[xai,xau]at bx;have:=xbX.1 ai;exact⟨k,o,az,by omega,aC,e,he,bx⟩
def Ef(ops:Array Oper)(listed:Array Bool):Prop:=∀j o,ops[j]?=some o->listed.getD j true=true->∀e∈o.after,Region.binds .any e=true->listed.getD e.on false=true
section
variable{P:Program}{ops h1:Array Oper}{Q:Exit->Act->World->Prop}
def wU{i:Nat}(h:i<ops.size):(ops++h1)[i]?=ops[i]?:=xbJ h
def Eg{l r:Array Bool}{d:Bool}{i:Nat}(h:i<l.size):(l++r).getD i d=l.getD i d:=by
 have ae:i<l.size+r.size:=by omega
 simp only[xby,xbJ h]
theorem ans{l:Array Bool}{m:Nat}{d:Bool}{i:Nat}(h:l.size<=i)(ae:i<l.size+m):(l++Array.replicate m false).getD i d=false:=by simp only[xby,Array.getElem?_append_right h];rw[Array.getElem?_replicate,xac (by omega)];rfl
def Ty{l:Array Bool}{i:Nat}(h:i<l.size)(d e:Bool):l.getD i d=l.getD i e:=by simp[Array.getD,h]
def Tz{all:Array Oper}{L:Array Bool}{j:Nat}(cg:L.size=all.size)(ak:HP all j=true)(hinv:Ef all L)(aw:j∈Region.ready .any all L):∀(d i:Nat),j-i<=d->i<j->L.getD i false=true
 |0,i,h,ag=>by omega
 |d+1,i,h,ag=>by
  obtain⟨k,o',ad,ai,ae,e,az,a3,bx⟩:=anr ak ag;rw[<-bx];by_cases ant:k=j;.subst ant;obtain⟨_,lV,bS,bP⟩:=xbL.1 aw;rw[ae]at bS;cases bS;exact bP e az a3
  have cq:=Tz cg ak hinv aw d k (by omega) (by omega);have eH:=(xaZ.1 ae).1;rw[Ty (by omega) false true]at cq;exact hinv k o' ae cq e az a3
def HQ{all:Array Oper}{L:Array Bool}{i:Nat}(h:i∈Region.ready .any all L):i<all.size:=(xaZ.1 (xbL.1 h).2.choose_spec.1).1
def anu{all:Array Oper}{L:Array Bool}(aD:L.size=all.size)(h:Ef all L){i:Nat}(ag:i∈Region.ready .any all L):Ef all (L.setIfInBounds i true):=by
 obtain⟨ad,fD,ae,az⟩:=xbL.1 ag;have cb:=HQ ag;have up:∀{j:Nat},L.getD j false=true->(L.setIfInBounds i true).getD j false=true:=by
  intro j aR;by_cases cE:j<L.size
  .by_cases nK:i=j;.subst nK;simp[Array.getD,cE]
   simp[Array.getD,cE]at aR⊢;rw[xbA cE nK];exact aR
  simp[Array.getD,cE]at aR
 intro j o' aC aR e he my;have cE:j<L.size:=by have:=(xaZ.1 aC).1;omega
 by_cases nK:i=j;.subst nK;rw[ae]at aC;cases aC;exact up (az e he my)
 refine up (h j o' aC ?_ e he my);simp[Array.getD,cE]at aR⊢;rw[xbA cE nK]at aR;exact aR
def abe{listed:Array Bool}(an:u5 (ops++h1)=true)(aD:listed.size=ops.size){i:Nat}(ag:i<ops.size):i∈Region.ready .any (ops++h1) (listed++Array.replicate h1.size false)↔i∈Region.ready .any ops listed:=by
 rw[xbL,xbL,Eg (by omega),wU ag];refine and_congr_right λ_=>?_;constructor;.rintro⟨o',aC,h⟩;refine⟨o',aC,λe he my=>?_⟩;have:=(A4 an (by rw[wU ag];exact aC)).1 e he my;rw[<-h e he my,Eg (by omega)]
 rintro⟨o',aC,h⟩;refine⟨o',aC,λe he my=>?_⟩;have:=(A4 an (by rw[wU ag];exact aC)).1 e he my;rw[Eg (by omega),h e he my]
def abf{all:Array Oper}{L:Array Bool}(aD:L.size=all.size)(h:∀i,i<all.size->L.getD i false=true):Region.ready .any all L=[]:=by refine List.eq_nil_iff_forall_not_mem.2 λi ag=>?_;have bY:=HQ ag;have ad:=(xbL.1 ag).1;rw[Ty (by omega) true false,h i bY]at ad;cases ad
def anv{all:Array Oper}{L:Array Bool}(an:u5 all=true)(aD:L.size=all.size)(h:Region.ready .any all L=[]):∀(i:Nat),i<all.size->L.getD i false=true:=by
 intro i
 induction i using Nat.strongRecOn with
 |_ i ih=>
  intro ag;refine xbf λaj=>?_;have ba:L.getD i true=false:=by rw[Ty (by omega) true false];simpa using aj
  have:i∈Region.ready .any all L:=by refine xbL.2 ⟨ba,all[i],by simp[ag],λe he my=>?_⟩;have bY:=(A4 an (j:=i) (o:=all[i]) (by simp[ag])).1 e he my;exact ih e.on bY (by omega)
  rw[h]at this;cases this
def anw(an:u5 (ops++h1)=true):u5 ops=true:=by
 refine xat.2 λj aR=>?_;have aR:=xbX.1 aR;have ad:=xat.1 an j (xbX.2 (by simp;omega))
 rwa [wU aR]at ad
def anx{tm:Array Value}{g:Nat}(h:g<ops.size):yielded (ops++h1) tm g=yielded ops tm g:=by unfold yielded;rw[wU h]
def anz(an:u5 (ops++h1)=true){i:Nat}(ag:i<ops.size){o':Oper}(aC:ops[i]?=some o')(tm:Array Value):Region.wanted o' (yielded (ops++h1) tm)=Region.wanted o' (yielded ops tm):=by unfold Region.wanted;cases bV:o'.guard with|none=>rfl|some p=>obtain⟨g,b⟩:=p;have:=(A4 an (by rw[wU ag];exact aC)).2 g b bV;simp only[anx (Nat.lt_trans this ag)]
def anA(an:u5 (ops++h1)=true){i:Nat}(ag:i<ops.size){K:Act->World->Prop}{a:Act}{w:World}:wpOp P (ops++h1) Q i K a w=wpOp P ops Q i K a w:=by
 unfold wpOp;rw[wU ag];have:ops[i]?=some ops[i]:=by simp[ag]
 rw[this];simp only[anz an ag this]
def anB{all:Array Oper}:∀(fuel:Nat)(L:Array Bool)(a:Act)(w:World),Region.ready .any all L=[]->Q .normal a w->wpAny P .any all Q fuel L a w
 |0,L,a,w,h,iz=>⟨h,iz⟩|fuel+1,L,a,w,h,iz=>⟨λ_=>iz,λi ag=>by rw[h]at ag;cases ag⟩
def ng(n j:Nat):Array Bool:=Array.ofFn (n:=n) λi=>decide (i.val<j)
def abg{n j:Nat}:(ng n j).size=n:=by simp[ng]
def A5{n j i:Nat}{d:Bool}(h:i<n):(ng n j).getD i d=decide (i<j):=by simp[ng,Array.getD,h]
def anC{n j:Nat}:(ng n j).setIfInBounds j true=ng n (j+1):=by
 apply Array.ext;.simp[ng]
 intro i ad ae;simp[ng]at ad;by_cases h:i=j;.subst h;simp[ng]
 rw[xbA (by simpa[ng]using ad) (by omega)];simp[ng];omega
def abh{all:Array Oper}(an:u5 all=true){p:Nat}(ak:∀j,p<=j->j<all.size->HP all j=true):∀(d j:Nat)(a:Act)(w:World),p<=j->j+d=all.size->wpOps P all Q (List.range' j d) a w->wpAny P .any all Q d (ng all.size j) a w
 |0,j,a,w,a1,aF,h=>by refine⟨abf abg λi ag=>by rw[A5 ag];simp;omega,by simpa[wpOps]using h⟩
 |d+1,j,a,w,a1,aF,h=>by
  have aR:j<all.size:=by omega
  have hinv:Ef all (ng all.size j):=by intro i o aC ag e he my;have cb:=(xaZ.1 aC).1;rw[A5 cb]at ag;have:=(A4 an aC).1 e he my;rw[A5 (by omega)];simp at ag⊢;omega
  have abi:j∈Region.ready .any all (ng all.size j):=by refine xbL.2 ⟨by rw[A5 aR];simp,all[j],by simp[aR],λe he my=>?_⟩;have:=(A4 an (j:=j) (o:=all[j]) (by simp[aR])).1 e he my;rw[A5 (by omega)];simpa using this
  refine⟨λao=>(by rw[ao]at abi;cases abi),λi ag=>?_⟩;have fU:=HQ ag;have ad:=(xbL.1 ag).1;rw[A5 fU]at ad;have nK:i=j:=by
   have dN:j<=i:=by simpa using ad
   by_cases aj:i=j;.exact aj
   have:=Tz abg (ak i (by omega) fU) hinv ag i j (by omega) (by omega);rw[A5 aR]at this;simp at this
  subst nK;rw[List.range'_succ,wpOps_cons]at h;refine wpOp_mono (λdb w' b4=>?_) h;rw[anC];exact abh an ak d (i+1) db w' (by omega) (by omega) b4
def anD{listed:Array Bool}{m:Nat}(h:∀i,i<listed.size->listed.getD i false=true):listed++Array.replicate m false=ng (listed.size+m) listed.size:=by
 apply Array.ext;.simp[ng]
 intro i ad ae;simp at ad;by_cases ag:i<listed.size;.have:=h i ag;simp[Array.getD,ag]at this;rw[Array.getElem_append_left ag,this];simp[ng,ag]
 rw[Array.getElem_append_right (by omega)];simp[ng];omega
def anE{listed:Array Bool}{m i:Nat}(ag:i<listed.size):(listed++Array.replicate m false).setIfInBounds i true=listed.setIfInBounds i true++Array.replicate m false:=by
 apply Array.ext;.simp
 intro j ad ae;simp at ad;by_cases aR:j<listed.size
 .rw[Array.getElem_append_left (by simpa using aR)];by_cases nK:i=j;.subst nK;simp
  rw[xbA (by simp;omega) nK,Array.getElem_append_left aR,xbA aR nK]
 rw[Array.getElem_append_right (by simp;omega),xbA (by simp;omega) (by omega),Array.getElem_append_right (by omega)];simp
end
def abj{P:Program}{Q:Exit->Act->World->Prop}{all:Array Oper}:∀{n:Nat}{L:Array Bool}{a:Act}{w:World},wpAny P .any all Q n L a w->∀k,n<=k->wpAny P .any all Q k L a w
 |0,L,a,w,h,k,ai=>anB k L a w h.1 h.2|n+1,L,a,w,h,0,ai=>by omega|n+1,L,a,w,h,k+1,ai=>⟨h.1,λi ag=>wpOp_mono (λdb w' bL=>abj bL k (by omega)) (h.2 i ag)⟩
section
variable{P:Program}{T:cr}{G:dG}{ops h1:Array Oper}{Q:Exit->Act->World->Prop}
def anF{m:Mem}{fr:fT}{N:Nat}(bd:eE P T){K:aK->Prop}(an:u5 (ops++h1)=true)(ak:∀j,ops.size<=j->j<(ops++h1).size->HP (ops++h1) j=true)(hi:∀o∈ops,∀d,o.dst=some d->d<N):∀(fuel:Nat)(listed:Array Bool)(m:Mem)(ρ:dv)(σ:aK)(a:Act)(w:World),listed.size=ops.size->Ef ops listed->k2 G m->Den m fr ρ σ a w->N<=a.tmps.size->a.defers=[]->jP P T G ops K fuel listed σ->(∀db w',jA N m fr ρ σ K db w'->wpOps P (ops++h1) Q (List.range' ops.size h1.size) db w')->wpAny P .any (ops++h1) Q (fuel+h1.size) (listed++Array.replicate h1.size false) a w:=by
 have fin:∀{fuel:Nat}{listed:Array Bool}{m:Mem}{ρ:dv}{σ:aK}{a:Act}{w:World},listed.size=ops.size->Region.ready .any ops listed=[]->k2 G m->Den m fr ρ σ a w->N<=a.tmps.size->a.defers=[]->K σ->(∀db w',jA N m fr ρ σ K db w'->wpOps P (ops++h1) Q (List.range' ops.size h1.size) db w')->wpAny P .any (ops++h1) Q h1.size (listed++Array.replicate h1.size false) a w:=by intro fuel listed m ρ σ a w aD aw cN h cj hN ai iz;have anG:=anv (anw an) aD aw;rw[anD (λi ag=>anG i (by omega)),aD,<-Array.size_append];exact abh an ak _ _ _ _ (xaX _) (by simp) (iz a w ⟨σ,m,ρ,ai,Mem.le_refl m,h,cj,hN,lT.refl _ _⟩)
 intro fuel
 induction fuel with
 |zero=>intro listed m ρ σ a w aD hinv cN h cj hN aN iz;rw[xaz];exact fin (fuel:=0) aD aN.1 cN h cj hN aN.2 iz
 |succ fuel ih=>
  intro listed m ρ σ a w aD hinv cN h cj hN aN iz;by_cases aw:Region.ready .any ops listed=[];.have:=fin (fuel:=0) aD aw cN h cj hN (aN.1 aw) iz;exact abj this _ (by omega)
  rw[Nat.add_right_comm];have anH:Ef (ops++h1) (listed++Array.replicate h1.size false):=by
   intro j o' aC aR e he my;have cE:=(xaZ.1 aC).1;simp at cE;by_cases abk:j<ops.size
   .rw[Eg (by omega)]at aR;rw[wU abk]at aC;have:=(A4 an (by rw[wU abk];exact aC)).1 e he my;rw[Eg (by omega)];exact hinv j o' aC aR e he my
   rw[ans (by omega) (by omega)]at aR;cases aR
  refine⟨λao=>absurd ?_ aw,λi ag=>?_⟩;.refine List.eq_nil_iff_forall_not_mem.2 λi ag=>?_;have:=(abe an aD (HQ ag)).2 ag;rw[ao]at this;cases this
  by_cases rJ:i<ops.size;.have ml:=(abe an aD rJ).1 ag;have ad:=aN.2 i ml;obtain⟨_,fD,aC,_⟩:=xbL.1 ml;unfold ia at ad;simp only[aC]at ad;rw[anA an rJ];refine wpOp_mono ?_ (R8 bd cN h cj hN aC (hi fD (Array.mem_of_getElem? aC)) ad);rintro db w' ⟨a2,cP,c2,bS,bP,ca,ee,eJ,fB⟩;rw[anE (by omega)];refine ih _ cP c2 a2 db w' (by simp[aD]) (anu aD hinv ml) (cN.mono bP) ca ee eJ bS ?_;rintro qF lq ⟨sV,Az,AA,fu,eQ,iv,sW,AB,AD⟩;exact iz qF lq ⟨sV,Az,AA,fu,Mem.le_trans bP eQ,iv,sW,AB,fB.trans AD⟩
  refine absurd (abf aD λj aR=>?_) aw;have:=Tz (by simp[aD]) (ak i (by omega) (HQ ag)) anH ag i j (by omega) (by omega)
  rwa [Eg (by omega)]at this
end
def anI{P:Program}{T:cr}{G:dG}{N:Nat}{σ:aK}{Q:Exit->aK->Prop}(bd:eE P T)(hm:P.follows .mixedOrders=true){id:Nat}{ops h1:Array Oper}(cj:yz N ops=true)(an:Tx (ops++h1) ops.size=true) {K:aK->Prop} (gA:∀a2,K a2->p5 P G N (ops++h1) ops.size h1.toList (Q .normal) a2) (h:jP P T G ops K ops.size (Array.replicate ops.size false) σ):hD P T G N (.region id (ops++h1) true) σ Q:=by
 intro m fr ρ a w cN de o1 aF;refine wp_region_any hm ?_;simp only[Tx,xai]at an;have e:Array.replicate (ops++h1).size false=Array.replicate ops.size false++Array.replicate h1.size false:=by rw[Array.size_append,Array.replicate_append_replicate]
 rw[e,Array.size_append];refine anF (m:=m) (fr:=fr) (N:=N) (T:=T) bd an.1 (λj ad ae=>?_) (yA cj) ops.size _ m ρ σ a _ (by simp) ?_ cN (de.drew _) o1 aF h ?_;.have:=xat.1 an.2 j (xbX.2 ae);simp only[xbh,xau]at this;exact this.resolve_left (by omega)
 .intro j o' aC aR;have:=(xaZ.1 aC).1;simp[Array.getD,this]at aR
 rintro db w' ⟨a2,cP,c2,bS,bP,ca,ee,eJ,fB⟩;have:=gA a2 bS cP fr c2 db w' (λe db w'=>jA N m fr ρ σ (Q e) db w') (cN.mono bP) ca ee eJ (λqF lq aw=>aw.trans bP fB);simpa using this
section
variable{β:Type}
def bA(f:List D->Option (List D⊕β)):Nat->List D->Option β
 |0,_=>none|n+1,ls=>R (f ls) λx=>match x with| .inl fE=>bA f n fE| .inr b=>some b
end
def yV:Code->Nat
 | .region id _ _=>id| .seq x _=>yV x| .cond _ x _=>yV x| .block _ c=>yV c| .loop c=>yV c| .scope c=>yV c|_=>0
def anJ(c:Tmp)(x y:Code):Nat:=(c*1000+yV y)*1000+yV x
structure nU where
 T:cr
 G:dG
 C:nQ
 n:Nat
 ib:List Key
 loops:Nat->Option s7
 anK:Nat->Option s7
 blocks:Nat->Option s7
 qP:Nat->Option (List Nat)
 H:yU
 lx:Tmp->Bool
 pre:Nat->List (List Key)
def a0{β:Type}(b:Option β):Option (List D⊕β):=R b λb=>some (.inr b)
def bj{β:Type}(f:List D->Option β):List D⊕β->Option β
 | .inl ls=>f ls| .inr b=>some b
def TA{β:Type}(ib:List Key)(gv:s7)(run:(Exit->aK->Option (List D⊕β))->Option (List D⊕β))(k:Exit->aK->Option β):Option β:=R (run λe a2=>match e with| .normal=>u3 ib gv a2 λls=>some (.inl ls)|e=>a0 (k e a2)) (bj λls=>k .normal (restore gv ls))
def HR{β:Type}(id:Nat)(k:Exit->aK->Option β)(e:Exit)(σ:aK):Option β:=match e with
 | .exit wG=>if wG=id then k .normal σ else k (.exit wG) σ
 |e=>k e σ
def anL{β:Type}(k:Exit->aK->Option β)(e:Exit)(σ:aK):Option β:=match e with| .goto _=>none|e=>k e σ
def exec(X:nU):Code->{β:Type}->aK->(Exit->aK->Option β)->Option β
 | .skip,_,σ,k=>k .normal σ| .label _,_,σ,k=>k .normal σ| .scope c,_,σ,k=>exec X c σ (anL k)| .exit id,_,σ,k=>k (.exit id) σ| .ret,_,σ,k=>k .ret σ
 | .region id ops d,_,σ,k=>AZ (X.pre id) σ λσ=>match X.qP id with
  |none=>match d with|true=>aat X.T X.G X.C ops σ λa2=>k .normal a2|false=>aa5 X.T X.G X.C X.H X.lx ops σ λa2=>k .normal a2
  |some ord=>if d=true/\ord.length=ops.size then D4 X.T X.G X.C ops ord (Array.replicate ops.size false) σ λa2=>k .normal a2
   else if d=true/\ord.length<=ops.size/\Tx ops ord.length=true then D4 X.T X.G X.C (ops.extract 0 ord.length) ord (Array.replicate ord.length false) σ λa2=>A2 X.T X.G X.C X.H X.lx ops (yJ (ops.extract ord.length ops.size).toList) a2 λsV=>k .normal sV
   else none
 | .seq x y,_,σ,k=>exec X x σ λe a2=>match e with| .normal=>exec X y a2 k|e=>k e a2
 | .cond (.tmp c) x y,_,σ,k=>match σ.aS c with
  | .d a=>match X.anK (anJ c x y)with|none=>aA a (exec X x σ k) (exec X y σ k)|some gv=>TA X.ib gv (λbO=>aA a (exec X x σ bO) (exec X y σ bO)) k
  |_=>none
 | .block id c,_,σ,k=>match X.blocks id with|none=>exec X c σ (HR id k)|some gv=>TA X.ib gv (λbO=>exec X c σ (HR id bO)) k
 | .loop c,_,σ,k=>match X.loops (yV c)with|none=>none|some gv=>u3 X.ib gv σ λTB=>bA (λls=>exec X c (restore gv ls) λe a2=>match e with| .normal=>u3 X.ib gv a2 λfE=>some (.inl fE)|e=>a0 (k e a2)) X.n TB
 | .cond (.const v) x y,_,σ,k=>match v with| .bool true=>exec X x σ k| .bool false=>exec X y σ k|_=>none
 |_,_,_,_=>none
section
variable{P:Program}{T:cr}{G:dG}{N:Nat}{σ:aK}{all:Array Oper}{ib:List Key}
def abl{K K':aK->Prop}(ai:∀σ,K σ->K' σ):∀(fuel:Nat){listed:Array Bool}{σ:aK},jP P T G all K fuel listed σ->jP P T G all K' fuel listed σ
 |0,_,_,h=>⟨h.1,ai _ h.2⟩|fuel+1,_,_,h=>⟨λao=>ai _ (h.1 ao),λi ag=>yw (λ_ bL=>abl ai fuel bL) (h.2 i ag)⟩
def HS{K:aK->Prop}(aF:∀o∈all,∀d,o.dst=some d->d<10000):∀(fuel:Nat){listed:Array Bool}{σ:aK},gg ib σ->jP P T G all K fuel listed σ->jP P T G all (λa2=>gg ib a2/\K a2) fuel listed σ
 |0,_,_,cg,h=>⟨h.1,cg,h.2⟩
 |fuel+1,_,σ,cg,h=>by
  refine⟨λao=>⟨cg,h.1 ao⟩,λi ag=>?_⟩;have ad:=h.2 i ag;unfold ia at ad⊢;split at ad
  .exact HS aF fuel cg ad
  rename_i o aC;rw[hY]at ad⊢;have anM:=aF o (Array.mem_of_getElem? aC);cases hw:ko all σ o with|none=>rw[hw]at ad;exact ad|some w=>rw[hw]at ad;cases w with|true=>exact rN (λa2 ⟨ae,az⟩=>HS aF fuel ae az) (aa6 cg anM ad)|false=>exact HS aF fuel cg.put ad
def anN{Q:Exit->aK->Prop}(bd:eE P T)(hm:P.follows .mixedOrders=true){id:Nat}{ops:Array Oper}(cj:yz N ops=true) (h:jP P T G ops (Q .normal) ops.size (Array.replicate ops.size false) σ):hD P T G N (.region id ops true) σ Q:=by intro m fr ρ a w cN de o1 aF;refine wp_region_any hm ?_;exact Si (m:=m) (fr:=fr) (N:=N) (Q:=λe db w'=>jA N m fr ρ σ (Q e) db w') bd (yA cj) ops.size _ m ρ σ a _ cN (de.drew _) o1 aF h (λdb w' aw=>aw)
def qQ(T:cr)(os:Nat->Option (List Nat))(N:Nat):Code->Bool
 | .region id ops d=>yz N ops&&(!d||(os id).isSome||Ay T ops (List.range ops.size) (Array.replicate ops.size false))| .seq x y=>qQ T os N x&&qQ T os N y| .cond _ x y=>qQ T os N x&&qQ T os N y| .block _ c=>qQ T os N c| .loop c=>qQ T os N c| .scope c=>qQ T os N c|_=>true
def o5{β:Type}(ib:List Key)(k:Exit->aK->Option β)(b:β)(e:Exit)(σ:aK):Prop:=∃τ,hC σ τ/\gg ib τ/\k e τ=some b
def abm{β:Type}{x:Option β}{y:List D⊕β}(h:a0 x=some y):∃b,x=some b/\y= .inr b:=by obtain⟨b,ad,ae⟩:=fN h;exact⟨b,ad,(xba ae).symm⟩
def abn{β:Type}{gv:s7}{c:Code}{run:(Exit->aK->Option (List D⊕β))->Option (List D⊕β)}{k:Exit->aK->Option β}{b:β} (jg:∀bO b',run bO=some b'->hD P T G N c σ (o5 ib bO b')) (h:TA ib gv run k=some b):hD P T G N c σ (o5 ib k b):=by
 obtain⟨x,ad,ae⟩:=fN h;refine DQ (jg _ _ ad) ?_;rintro e a2 ⟨τ,bb,bo,b0⟩;have other:∀dj,e=dj->a0 (k dj τ)=some x->o5 ib k b e a2:=by rintro dj rfl az;obtain⟨b',a3,rfl⟩:=abm az;cases ae;exact⟨τ,bb,bo,a3⟩
 cases e with
 |normal=>obtain⟨ls,bS,bP,ca⟩:=Nt bo b0;cases ca;exact⟨_,bb.trans bS,bP,ae⟩
 |exit id=>exact other _ rfl b0|goto l=>exact other _ rfl b0|ret=>exact other _ rfl b0|panic c=>exact other _ rfl b0|outgrown=>exact other _ rfl b0
def anO{β:Type}{f:List D->Option (List D⊕β)}{n:Nat}{ls:List D}{b:β}(h:bA f n ls=some b):∃m,n=m+1/\((∃fE,f ls=some (.inl fE)/\bA f m fE=some b)\/f ls=some (.inr b)):=by
 cases n with
 |zero=>cases h
 |succ m=>obtain⟨x,ad,ae⟩:=fN h;refine⟨m,rfl,?_⟩;cases x with|inl fE=>exact .inl ⟨fE,ad,ae⟩|inr b'=>cases ae;exact .inr ad
def o5.block{β:Type}{id:Nat}{k:Exit->aK->Option β}{b:β}{e:Exit}{σ:aK}(h:o5 ib (HR id k) b e σ):Hk id (o5 ib k b) e σ:=by
 obtain⟨τ,bb,bo,b0⟩:=h;cases e with
 |exit wG=>
  simp only[Hk];unfold HR at b0;by_cases ag:wG=id;.simp only[ag,xay]at b0⊢;exact⟨τ,bb,bo,b0⟩
  simp only[ag,xaB]at b0⊢;exact⟨τ,bb,bo,b0⟩
 |normal=>exact⟨τ,bb,bo,b0⟩|goto l=>exact⟨τ,bb,bo,b0⟩|ret=>exact⟨τ,bb,bo,b0⟩|panic c=>exact⟨τ,bb,bo,b0⟩|outgrown=>exact⟨τ,bb,bo,b0⟩
def th(X:nU)(bd:eE P X.T)(b5:ht P X.G X.C)(gh:k7 P X.G X.H)(hm:P.follows .mixedOrders=true)(cj:N<10000):∀(c:Code){β:Type}{σ:aK}{k:Exit->aK->Option β}{b:β},qQ X.T X.qP N c=true->gg X.ib σ->exec X c σ k=some b->hD P X.T X.G N c σ (o5 X.ib k b)
 | .skip,β,σ,k,b,_,cg,h=>ak2 ⟨σ,hC.refl σ,cg,h⟩| .label l,β,σ,k,b,_,cg,h=>ak3 ⟨σ,hC.refl σ,cg,h⟩| .exit id,β,σ,k,b,_,cg,h=>ak4 ⟨σ,hC.refl σ,cg,h⟩| .ret,β,σ,k,b,_,cg,h=>ak5 ⟨σ,hC.refl σ,cg,h⟩
 | .region id ops d,β,σ,k,b,a4,cg,h=>by
  simp only[qQ,xai,xbh,Bool.not_eq_true']at a4;have hi:∀o∈ops.toList,∀d,o.dst=some d->d<10000:=λo aC d aF=>Nat.lt_trans (yA a4.1 o (by simpa using aC) d aF) cj;have TC:∀a2,gg X.ib a2/\k .normal a2=some b->o5 X.ib k b .normal a2:=λa2 bL=>⟨a2,hC.refl a2,bL⟩;unfold exec at h;have af:=HL cg h;clear h cg;obtain⟨σ,anP,cg,h⟩:=af;refine Sj anP ?_;split at h
  .rename_i DR;split at h
   .have ad:=amE (P:=P) (all:=ops) (σ:=σ) b5 (K:=λa2=>∃τ,p3 a2 τ/\k .normal τ=some b) (λσ τ hw ⟨AE,ad,ae⟩=>⟨AE,hw.trans ad,ae⟩) (λa2 bL=>⟨a2,p3.refl _,bL⟩) h;have ae:gf P X.T X.G ops ops.toList (o5 X.ib k b .normal) σ:=by
     refine nR ?_ (Tl cg hi ad);rintro a2 ⟨bb,τ,bo,b0⟩;refine⟨τ,bo.Hw,?_,b0⟩;intro j aR an;rw[<-bo.1]at an;exact bb j aR an
    exact alw bd hm a4.1 (a4.2.resolve_left (by simp[DR])) ae
   have ad:=anp (P:=P) (all:=ops) (σ:=σ) bd b5 gh cj (λo aC d aF=>yA a4.1 o (by simpa using aC) d aF) cg h;exact anq (λm fr ρ a w Q cN de o1 aF iz=>ad m fr ρ a w Q cN de o1 aF (λdb w' aw=>iz db w' (aw.mono TC)))
  rename_i ord DR;split at h
  case isFalse=>
   split at h
   case isFalse=>cases h
   rename_i aj;obtain⟨rfl,bz,abo⟩:=aj;have lX:ops=ops.extract 0 ord.length++ops.extract ord.length ops.size:=by rw[Array.extract_append_extract,Nat.max_eq_right bz];simp
   have m1:ord.length=(ops.extract 0 ord.length).size:=by simp;omega
   have ad:=SW (P:=P) b5 ord _ σ h;generalize ops.extract 0 ord.length=dy at*;generalize ops.extract ord.length ops.size=Dx at*;subst lX;rw[m1]at ad;have o6:yz N dy=true:=by have:=a4.1;unfold yz at this⊢;simp only[Array.toList_append,List.all_append,xai]at this;exact this.1
   rw[m1]at abo;refine anI bd hm o6 abo ?_ (HS (λo aC d aF=>Nat.lt_trans (yA o6 o aC d aF) cj) _ cg ad);rintro a2 ⟨Tq,af⟩;have ae:=HN (P:=P) (N:=N) (ib:=X.ib) (all:=dy++Dx) (i:=dy.size) bd b5 gh cj (K:=o5 X.ib k b .normal) (λg hm o aC=>Nj _ _ _ hm o aC) (by rw[yM];intro o' aC d aF;exact yA a4.1 _ (by simp at aC⊢;exact .inr aC) d aF) (by rw[yM];intro j;rw[Array.getElem?_append_right (by omega)];simp) Tq (λsV ad ae=>TC sV ⟨ad,ae⟩) af
   rwa [yM]at ae
  rename_i aj;obtain⟨rfl,bz⟩:=aj;have ad:=SW (P:=P) b5 ord _ σ h;rw[bz]at ad;exact anN bd hm a4.1 (abl TC _ (HS (λo aC d aF=>Nat.lt_trans (yA a4.1 o aC d aF) cj) _ cg ad))
 | .seq x y,β,σ,k,b,a4,cg,h=>by simp only[qQ,xai]at a4;refine ak6 (DQ (th X bd b5 gh hm cj x a4.1 cg h) ?_);rintro e a2 ⟨τ,bb,bo,b0⟩;cases e with|normal=>simp only[MU];refine Sj bb (th X bd b5 gh hm cj y a4.2 bo b0)|exit id=>exact⟨τ,bb,bo,b0⟩|goto l=>exact⟨τ,bb,bo,b0⟩|ret=>exact⟨τ,bb,bo,b0⟩|panic c=>exact⟨τ,bb,bo,b0⟩|outgrown=>exact⟨τ,bb,bo,b0⟩
 | .cond c x y,β,σ,k,b,a4,cg,h=>by
  simp only[qQ,xai]at a4;cases c with
  |tmp c=>
   unfold exec at h;split at h
   case h_2=>cases h
   rename_i a aB;have two:∀{β:Type}(bO:Exit->aK->Option β)(b':β),aA a (exec X x σ bO) (exec X y σ bO)=some b'->hD P X.T X.G N (.cond (.tmp c) x y) σ (o5 X.ib bO b'):=by
    intro β bO b' h;rcases aad h with⟨rfl,ad⟩|⟨rfl,ad⟩
    .exact MV (b:=true) aB (by rw[xac rfl];exact th X bd b5 gh hm cj x a4.1 cg ad)
    exact MV (b:=false) aB (by rw[xaa (by simp)];exact th X bd b5 gh hm cj y a4.2 cg ad)
   split at h;.exact two k b h
   exact abn (λbO b' bL=>two bO b' bL) h
  |const v=>
   unfold exec at h;split at h;.exact MV (b:=true) rfl (by rw[xac rfl];exact th X bd b5 gh hm cj x a4.1 cg h)
   .exact MV (b:=false) rfl (by rw[xaa (by simp)];exact th X bd b5 gh hm cj y a4.2 cg h)
   cases h
  |global g=>cases h
  |func f=>cases h
 | .block id c,β,σ,k,b,a4,cg,h=>by
  have one:∀{β:Type}(bO:Exit->aK->Option β)(b':β),exec X c σ (HR id bO)=some b'->hD P X.T X.G N (.block id c) σ (o5 X.ib bO b'):=by intro β bO b' h;exact ak9 (DQ (th X bd b5 gh hm cj c a4 cg h) (λe a2 bL=>bL.block))
  unfold exec at h;split at h;.exact one k b h
  exact abn (λbO b' bL=>one bO b' bL) h
 | .loop c,β,σ,k,b,a4,cg,h=>by
  unfold exec at h;split at h
  case h_1=>cases h
  rename_i gv u6;obtain⟨TB,aZ,a6,b2⟩:=Nt cg h;generalize ba:(λls=>exec X c (restore gv ls) λe a2=>match e with| .normal=>u3 X.ib gv a2 λfE=>some (Sum.inl fE)|e=>a0 (k e a2))=f at b2;refine alj (ι:={p:List D×Nat//bA f p.2 p.1=some b/\gg X.ib (restore gv p.1)}) (λp=>restore gv p.1.1) (λp=>p.1.2) ⟨(TB,X.n),b2,a6⟩ aZ ?_;rintro⟨⟨ls,n⟩,abp,iA⟩;simp only at abp iA⊢;obtain⟨m,rfl,az⟩:=anO abp;have round:∀x,f ls=some x->hD P X.T X.G N c (restore gv ls) (o5 X.ib (λe a2=>match e with| .normal=>u3 X.ib gv a2 λfE=>some (Sum.inl fE)|e=>a0 (k e a2)) x):=by intro x af;rw[<-ba]at af;exact th X bd b5 gh hm cj c a4 iA af
  have go:∀x,f ls=some x->(∀fE,x= .inl fE->bA f m fE=some b)->(∀b',x= .inr b'->b'=b)->hD P X.T X.G N c (restore gv ls) (MU (λa2=>∃j:{p:List D×Nat//bA f p.2 p.1=some b/\gg X.ib (restore gv p.1)},hC a2 (restore gv j.1.1)/\j.1.2<m+1) (o5 X.ib k b)):=by
   intro x af ak aw;refine DQ (round x af) ?_;rintro e a2 ⟨τ,bb,bo,b0⟩;have other:∀dj,e=dj->a0 (k dj τ)=some x->o5 X.ib k b e a2:=by rintro dj rfl az;obtain⟨b',a3,rfl⟩:=abm az;rw[aw b' rfl]at a3;exact⟨τ,bb,bo,a3⟩
   cases e with
   |normal=>obtain⟨fE,bS,bP,ca⟩:=Nt bo b0;cases ca;exact⟨⟨(fE,m),ak fE rfl,bP⟩,bb.trans bS,Nat.lt_succ_self m⟩
   |exit id=>exact other _ rfl b0|goto l=>exact other _ rfl b0|ret=>exact other _ rfl b0|panic c=>exact other _ rfl b0|outgrown=>exact other _ rfl b0
  rcases az with⟨fE,a3,bx⟩|a3;.exact go _ a3 (by rintro _ ⟨⟩;exact bx) (by rintro _ ⟨⟩)
  exact go _ a3 (by rintro _ ⟨⟩) (by rintro _ ⟨⟩;rfl)
 | .rangeFunc _ _ _ _,β,σ,k,b,_,cg,h=>by cases h
 | .scope c,β,σ,k,b,a4,cg,h=>ak8 (DQ (th X bd b5 gh hm cj c (by simpa[qQ]using a4) cg h) (by
   rintro e a2 ⟨τ,bb,bo,b0⟩;cases e with
   |goto l=>cases b0
   |normal=>exact⟨τ,bb,bo,b0⟩|exit id=>exact⟨τ,bb,bo,b0⟩|ret=>exact⟨τ,bb,bo,b0⟩|panic c=>exact⟨τ,bb,bo,b0⟩|outgrown=>exact⟨τ,bb,bo,b0⟩))
 | .goto _,β,σ,k,b,_,cg,h=>by cases h
 | .refuse _,β,σ,k,b,_,cg,h=>by cases h
end
def abq{P:Program}{T:cr}{G:dG}{N:Nat}{c:Code}{σ:aK}{Q:Exit->aK->Prop}(h:hD P T G N c σ (λe a2=>∃τ,hC a2 τ/\Q e τ)):hD P T G N c σ Q:=by intro m fr ρ a w cN de cj aF;refine wp_mono (h m fr ρ a w cN de cj aF) ?_;rintro e db w' ⟨a2,cP,c2,⟨τ,fj,iz⟩,ae,az,a3,bx,cq⟩;obtain⟨Az,AA,bb,bo,b0⟩:=fj cP fr c2 db w' az;exact⟨τ,Az,AA,iz,Mem.le_trans ae bb,bo,a3,bx,cq.trans b0⟩
def anQ(T:cr)(rs:List ResultVar)(e:Exit)(σ:aK):Option D:=match e with| .normal=>R (sX T σ rs) (toD σ.objs)| .ret=>R (sX T σ rs) (toD σ.objs)|_=>none
def u7(X:nU)(fn:Func)(args:List aY):Option D:=match fn.body with|some c=>exec X c (start args λ_=>none) (anQ X.T fn.results.toList)|none=>none
def oB(T:cr)(os:Nat->Option (List Nat))(fn:Func):Bool:=match fn.body with|some c=>qQ T os fn.ntmps c&&decide (fn.ntmps<10000)&&!(fn.name== "runtime.NumGoroutine")|none=>false
def anR{xs dy:List aY}(h:j8 (λk=>k) (λ_=>False) xs dy):hC (start xs λ_=>none) (start dy λ_=>none):=by
 intro m fr ρ a w de;refine⟨m,ρ,Mem.le_refl m,⟨de.mem,de.frame,de.apart,?_,?_,?_,?_,?_⟩,?_⟩;.rintro k ⟨o,aC⟩;cases aC
 .intro t;have ad:=de.aS t;obtain⟨ae,az⟩:=h.ok;simp only[start]at ad⊢;cases aO:dy[t]? with
  |none=>rw[xaW,aO];exact .any _
  |some y=>
   obtain⟨x,af,hle⟩:=az t y aO;rw[xaW,af]at ad;rw[xaW,aO];have a3:qG (λk=>k) (aK.used (start dy λ_=>none)) x y:=by unfold qG at hle⊢;split at hle<;>first|exact hle|(exact absurd hle.2 id)
   exact a3.ok (ρ:=ρ) ad
 .intro k o ai;cases ai
 .intro k o b ai;cases ai
 .intro k bO o o' b _ ai;cases ai
 intro k _ aj;exact absurd aj wB
def anS{P:Program}(X:nU)(bd:eE P X.T)(b5:ht P X.G X.C)(gh:k7 P X.G X.H)(hm:P.follows .mixedOrders=true)(l0:X.ib=[]){f:FuncId}{fn:Func}(ba:P.funcs[f]?=some fn)(a4:oB X.T X.qP fn=true){aM:List D}{as:List aY}(hle:j8 (λk=>k) (λ_=>False) (aM.map .d) as)(bz:decide (aM.length<=fn.ntmps)=true){r:D} (h:u7 X fn as=some r):en P X.G f aM (·=r):=by
 have bz:=xbj bz;unfold u7 at h;unfold oB at a4;split at h
 case h_2=>cases h
 rename_i c an;simp only[an,xai,xau,Bool.not_eq_true']at a4;refine aln bd ba an a4.2 bz ?_;refine Sj (anR hle) ?_;refine abq (DQ (th X bd b5 gh hm a4.1.2 c a4.1.1 (by intro k _ aj;exact absurd aj wB) h) ?_);rintro e a2 ⟨τ,bb,bo,b0⟩;have fin:R (sX X.T τ fn.results.toList) (toD τ.objs)=some r->∃abr d x,sX X.T τ fn.results.toList=some abr/\toD τ.objs abr=some d/\d.le x/\x=r:=by intro ad;obtain⟨u,ae,az⟩:=fN ad;exact⟨u,r,r,ae,az,D.le_refl _,rfl⟩
 refine⟨τ,bb,?_⟩;cases e with
 |normal=>exact⟨.inl rfl,fin b0⟩|ret=>exact⟨.inr rfl,fin b0⟩|exit id=>cases b0
 |goto l=>cases b0
 |panic c=>cases b0
 |outgrown=>cases b0
def NH(s:h0)(ls:List D):aK:=⟨λt=>(s.yR ls).getD t .any,fH (s.o4 ls)⟩
def anT(X:nU)(s:h0)(qM:List yN)(rs:List ResultVar)(e:Exit)(σ:aK):Option (List D):=match e with
 | .normal=>R (sX X.T σ rs) λx=>u3 X.ib ⟨[(0,s.res)],s.outs,qM⟩ ⟨λt=>if t=0 then x else .any,σ.objs⟩ some
 | .ret=>R (sX X.T σ rs) λx=>u3 X.ib ⟨[(0,s.res)],s.outs,qM⟩ ⟨λt=>if t=0 then x else .any,σ.objs⟩ some
 |_=>none
def TD(X:nU)(fn:Func)(s:h0)(qM:List yN)(ls:List D):Option (List D):=match fn.body with|some c=>exec X c (NH s ls) (anT X s qM fn.results.toList)|none=>none
def anU{P:Program}(X:nU)(bd:eE P X.T)(b5:ht P X.G X.C)(gh:k7 P X.G X.H)(hm:P.follows .mixedOrders=true){s:h0}{fn:Func}(ba:P.funcs[s.f]?=some fn)(a4:oB X.T X.qP fn=true)(bz:decide (s.args.length<=fn.ntmps)=true) (l0:(s.ins.all λp=>decide (p.1<10000)||X.ib.contains p.1)=true) {qM:List yN} {F:List D->Option (List D)} (h:∀ls fE,F ls=some fE->TD X fn s qM ls=some fE):gl P X.G s F:=by
 have bz:=xbj bz;unfold oB at a4;split at a4
 case h_2=>cases a4
 rename_i c an;simp only[xai,xau,Bool.not_eq_true']at a4;refine⟨⟨fn,ba,a4.2,by rw[an];rfl⟩,?_⟩;intro ls fE hk m fr ρ w vs cN de ak Ml;have af:=h ls fE hk;unfold TD at af;rw[an]at af;simp only at af;have HT:(s.yR ls).length=s.args.length:=by
  have:∀(l:List lY)(n:Nat),(s8 ls l n).1.length=l.length:=by
   intro l
   induction l with
   |nil=>intro n;rfl
   |cons x r ih=>intro n;simp[s8,ih]
  exact this _ _
 have anV:gg X.ib (NH s ls):=by
  intro k ai an;obtain⟨cs,iy⟩:=DG an;have:=yE iy;have ad:m9 (s.o4 ls)=s.ins.map (·.1):=AV _ _ _;rw[ad]at this;obtain⟨p,a1,rfl⟩:=xbc.1 this;have ae:=xat.1 l0 p a1;simp only[xbh,xau,List.contains_eq_mem]at ae;rcases ae with ae|ae
  .exact absurd ae (Nat.not_lt.2 ai)
  exact ae
 have hw:=th X bd b5 gh hm a4.1.2 c a4.1.1 anV af;refine calls_of_wp ba an ?_;have Hl:Den m fr ρ (NH s ls) {tmps:=vs.toArray++Array.replicate (fn.ntmps-vs.toArray.size) undef,defers:=[]} w:=by
  refine⟨de.mem,de.frame,de.apart,de.one,?_,de.objs,de.own,de.sep⟩;intro t;simp only[NH];by_cases aQ:t<vs.length
  .have bY:t<(s.yR ls).length:=by rw[<-ak];exact aQ
   have aF:=xab bY;have aN:=xab aQ;have aZ:(s.yR ls).getD t .any=(s.yR ls)[t]:=by rw[xaW,aF];rfl
   have a6:(vs.toArray++Array.replicate (fn.ntmps-vs.toArray.size) undef).getD t undef=vs[t]:=by rw[xby,xbJ (by simpa using aQ)];simp[aQ]
   rw[aZ,a6];exact Ml t _ _ aF aN
  have aZ:(s.yR ls).getD t .any= .any:=by rw[xaW,xaT (by omega)];rfl
  rw[aZ];exact .any _
 have fi:fn.ntmps<=(vs.toArray++Array.replicate (fn.ntmps-vs.toArray.size) undef).size:=by simp;omega
 refine wp_mono (abq hw m fr ρ _ w cN Hl fi rfl) ?_;rintro e db w' ⟨a2,cP,c2,⟨bo,b0⟩,bx,cq,fs,hE,ic⟩;have fin:(R (sX X.T a2 fn.results.toList) λx=>u3 X.ib ⟨[(0,s.res)],s.outs,qM⟩ ⟨λt=>if t=0 then x else .any,a2.objs⟩ some)=some fE->db.defers=[]/\∃v,(results fn db.tmps).run P w'= .ok v w'/\∃v1 gu ot,Ending.returned v= .returned v1/\m.le gu/\Nx gu fr ot (fH (s.qO fE)) w'/\cf gu ot (s9 (fH (s.qO fE))) (s.Ny fE) v1/\∀k,10000<=k->fa (fH (s.o4 ls) k)->ot k=ρ k:=by
  intro ad;obtain⟨x,ae,az⟩:=fN ad;obtain⟨v,bS,bP⟩:=ZL (P:=P) bd cq ae;obtain⟨aEJ,r1,r2,r3⟩:=Nt (σ:=⟨λt=>if t=0 then x else .any,a2.objs⟩) bo az;cases r3;have anW:Den cP fr c2 ⟨λt=>if t=0 then x else .any,a2.objs⟩ {tmps:= #[v],defers:=[]} w':=by
   refine⟨cq.mem,cq.frame,cq.apart,cq.one,?_,cq.objs,cq.own,cq.sep⟩;intro t;by_cases aQ:t=0;.subst aQ;exact bP
   simp only[aQ,xaB];exact .any _
  obtain⟨lr,lU,t1,t2,t3⟩:=r1 cP fr c2 _ w' anW;have oC:=t2.aS 0;refine⟨hE,v,bS,v,lr,lU,rfl,Mem.le_trans bx t1,⟨t2.mem,t2.frame,t2.apart,t2.one,λ_=> .any _,t2.objs,t2.own,t2.sep⟩,?_,?_⟩
  .exact oC
  intro k ai anX;obtain⟨wj,uJ⟩:=ic k ai anX;rw[(t3 k ai wj).2,uJ]
 cases e with
 |normal=>exact fin b0|ret=>exact fin b0|exit id=>cases b0
 |goto l=>cases b0
 |panic c=>cases b0
 |outgrown=>cases b0
def anY{P:Program}{T:cr}{os:Nat->Option (List Nat)}{f:FuncId}{fn:Func}(ba:P.funcs[f]?=some fn)(a4:oB T os fn=true):yn P f:=by
 unfold oB at a4;split at a4
 case h_2=>cases a4
 rename_i c an;simp only[xai,xau,Bool.not_eq_true']at a4;exact⟨fn,ba,a4.2,by rw[an];rfl⟩
def yW{P:Program}{G:dG}{s:h0}{F:List D->Option (List D)}(yX:yn P s.f)(h:∀ls,F ls=none):gl P G s F:=⟨yX,λls fE bL=>by rw[h]at bL;cases bL⟩
def gi:List (Tmp×Ea)->yU
 |[],_=>none|(t',e)::r,t=>if t=t' then some e else gi r t
def anZ{P:Program}{G:dG}:k7 P G (gi []):=by intro t e h;cases h
def an0{P:Program}{G:dG}{t:Tmp}{e:Ea}{l:List (Tmp×Ea)}(h:gl P G e.s e.F)(bL:k7 P G (gi l)):k7 P G (gi ((t,e)::l)):=by
 intro t' dj he;unfold gi at he;split at he;.cases he;exact h
 exact bL t' dj he
def g0:List (Nat×List (List Key))->Nat->List (List Key)
 |[],_=>[]|(j,s)::r,k=>if k=j then s else g0 r k
def g7(l:List Tmp)(t:Tmp):Bool:=l.contains t
def gj:List (FuncId×(List D->Option D))->nQ
 |[],_,_,_=>none|(jN,F)::r,d,f,aM=>if f=jN then F aM else gj r d f aM
def bf(P:Program)(G:dG)(f:FuncId)(F:List D->Option D):Prop:=∀aM r,F aM=some r->en P G f aM (·=r)
def an1{P:Program}{G:dG}:ht P G (gj []):=by intro d f aM r h;cases h
def an2{P:Program}{G:dG}{f:FuncId}{F:List D->Option D}{l:List (FuncId×(List D->Option D))}(h:bf P G f F)(bL:ht P G (gj l)):ht P G (gj ((f,F)::l)):=by
 intro d jN aM r aw;unfold gj at aw;split at aw;.rename_i e;subst e;exact h aM r aw
 exact bL d jN aM r aw
def cS:List (Nat×s7)->Nat->Option s7
 |[],_=>none|(j,s)::r,k=>if k=j then some s else cS r k
def gU:List (Nat×List Nat)->Nat->Option (List Nat)
 |[],_=>none|(j,s)::r,k=>if k=j then some s else gU r k
def wV(f:FuncId)(x:D):Bool:=match x with| .val (.func (.func jN) a b)=>jN==f&&a.size==0&&b.size==0|_=>false
def TE{f:FuncId}{x:D}(h:wV f x=true):x= .val (.func (.func f) #[] #[]):=by
 unfold wV at h;split at h;.rename_i jN a b;simp only[xai,xbH]at h;obtain⟨⟨rfl,ad⟩,ae⟩:=h;rw[xbm ad,xbm ae]
 cases h
def kJ(f:FuncId)(x:D):Option (List D):=match x with
 | .fn (.func jN) first AT=>if jN=f/\first.isEmpty=true then some AT else none
 |_=>none
def mz{f:FuncId}{x:D}{AT:List D}(h:kJ f x=some AT):x= .fn (.func f) [] AT:=by
 unfold kJ at h;split at h
 .split at h;.rename_i aj;cases h;rw[aj.1,List.isEmpty_iff.1 aj.2]
  cases h
 cases h
def le_nil:j8 (λk=>k) (λ_=>False) (List.map aY.d []) []:=trivial
def o7{x:D}{y:aY}{xs:List D}{dy:List aY}(h:qG (λk=>k) (λ_=>False) (.d x) y)(bL:j8 (λk=>k) (λ_=>False) (List.map aY.d xs) dy):j8 (λk=>k) (λ_=>False) (List.map aY.d (x::xs)) (y::dy):=⟨h,bL⟩
def an3{x:D}:qG (λk=>k) (λ_=>False) (.d x) (.d x):=⟨x,rfl,D.le_refl x⟩
theorem p6{c:List D}{o:Nat}:qG (λk=>k) (λ_=>False) (.d (.ref c o)) (.e6 c o):= .inr rfl
def aq(t:Nat):Nat×lY:=(t,.b .d)
def sp(t:Nat):Nat×lY:=(t,.b (.ptr t 0))
def cZ(t k:Nat):Nat×lY:=(t,.b (.row k))
def a5(k n:Nat):Key×mw:=(k,.box (List.replicate n (.b .d)))
def cp(k n:Nat):Key×mw:=(k,.row n)
def an4(P:Program)(G:dG)(n:Nat)(c:List (FuncId×(List D->Option D)))(l j b:List (Nat×s7)):nU:=⟨fV P,G,gj c,n,[],cS l,cS j,cS b,gU [],gi [],g7 [],g0 []⟩
def eC{P:Program}(X:nU)(bd:eE P X.T)(b5:ht P X.G X.C)(gh:k7 P X.G X.H)(hm:P.follows .mixedOrders=true){f:FuncId}{fn:Func}(ba:P.funcs[f]?=some fn){aM:List D}{as:List aY}(hle:j8 (λk=>k) (λ_=>False) (aM.map .d) as) {o:Option D} {r:D} (h:o=some r) (l0:X.ib=[]:=by rfl) (a4:oB X.T X.qP fn=true:=by kernel_rfl) (bz:decide (aM.length<=fn.ntmps)=true:=by kernel_rfl) (he:u7 X fn as=o:=by kernel_rfl):en P X.G f aM (·=r):=anS X bd b5 gh hm l0 ba a4 hle bz (he.trans h)
def p7{P:Program}(X:nU)(bd:eE P X.T)(b5:ht P X.G X.C)(gh:k7 P X.G X.H)(hm:P.follows .mixedOrders=true){s:h0}{fn:Func}(ba:P.funcs[s.f]?=some fn)(qM:List yN){F:List D->Option (List D)}(a4:oB X.T X.qP fn=true:=by kernel_rfl)(bz:decide (s.args.length<=fn.ntmps)=true:=by kernel_rfl) (l0:(s.ins.all λp=>decide (p.1<10000)||X.ib.contains p.1)=true:=by kernel_rfl) (h:∀ls,TD X fn s qM ls=F ls:=by intros;kernel_rfl):gl P X.G s F:=anU X bd b5 gh hm ba a4 bz l0 λls fE bL=>(h ls).trans bL
def bX{x:D}{xs:List D}{dy:List aY}(h:j8 (λk=>k) (λ_=>False) (List.map aY.d xs) dy):j8 (λk=>k) (λ_=>False) (List.map aY.d (x::xs)) (.d x::dy):=o7 an3 h
def TF(g:Option D):List D->Option D
 |[]=>g|_=>none
@[simp] theorem aEK {g:Option D}:TF g []=g:=rfl
def p0{P:Program}(X:nU)(bd:eE P X.T)(b5:ht P X.G X.C)(gh:k7 P X.G X.H)(hm:P.follows .mixedOrders=true){f:FuncId}{fn:Func}(ba:P.funcs[f]?=some fn){g:Option D}(l0:X.ib=[]:=by rfl)(a4:oB X.T X.qP fn=true:=by kernel_rfl)(bz:decide (0<=fn.ntmps)=true:=by kernel_rfl)(he:u7 X fn []=g:=by intros;kernel_rfl):bf P X.G f (TF g):=by
 intro aM r h;unfold TF at h;split at h
 case h_2=>cases h
 exact eC X bd b5 gh hm ba le_nil h l0 a4 bz he
def TG(g:D->Option D):List D->Option D
 |[ab]=>g ab|_=>none
@[simp] theorem aEL {g:D->Option D} {ab:D}:TG g [ab]=g ab:=rfl
def cK{P:Program}(X:nU)(bd:eE P X.T)(b5:ht P X.G X.C)(gh:k7 P X.G X.H)(hm:P.follows .mixedOrders=true){f:FuncId}{fn:Func}(ba:P.funcs[f]?=some fn){g:D->Option D}(l0:X.ib=[]:=by rfl)(a4:oB X.T X.qP fn=true:=by kernel_rfl)(bz:decide (1<=fn.ntmps)=true:=by kernel_rfl)(he:∀ab,u7 X fn [.d ab]=g ab:=by intros;kernel_rfl):bf P X.G f (TG g):=by
 intro aM r h;unfold TG at h;split at h
 case h_2=>cases h
 exact eC X bd b5 gh hm ba (bX le_nil) h l0 a4 bz (he _)
def TH(g:D->D->Option D):List D->Option D
 |[ab,ah]=>g ab ah|_=>none
@[simp] theorem aEM {g:D->D->Option D} {ab ah:D}:TH g [ab,ah]=g ab ah:=rfl
def dV{P:Program}(X:nU)(bd:eE P X.T)(b5:ht P X.G X.C)(gh:k7 P X.G X.H)(hm:P.follows .mixedOrders=true){f:FuncId}{fn:Func}(ba:P.funcs[f]?=some fn){g:D->D->Option D}(l0:X.ib=[]:=by rfl)(a4:oB X.T X.qP fn=true:=by kernel_rfl)(bz:decide (2<=fn.ntmps)=true:=by kernel_rfl)(he:∀ab ah,u7 X fn [.d ab,.d ah]=g ab ah:=by intros;kernel_rfl):bf P X.G f (TH g):=by
 intro aM r h;unfold TH at h;split at h
 case h_2=>cases h
 exact eC X bd b5 gh hm ba (bX (bX le_nil)) h l0 a4 bz (he _ _)
def TI(g:D->D->D->Option D):List D->Option D
 |[ab,ah,aT]=>g ab ah aT|_=>none
@[simp] theorem aEN {g:D->D->D->Option D} {ab ah aT:D}:TI g [ab,ah,aT]=g ab ah aT:=rfl
def iB{P:Program}(X:nU)(bd:eE P X.T)(b5:ht P X.G X.C)(gh:k7 P X.G X.H)(hm:P.follows .mixedOrders=true){f:FuncId}{fn:Func}(ba:P.funcs[f]?=some fn){g:D->D->D->Option D}(l0:X.ib=[]:=by rfl)(a4:oB X.T X.qP fn=true:=by kernel_rfl)(bz:decide (3<=fn.ntmps)=true:=by kernel_rfl)(he:∀ab ah aT,u7 X fn [.d ab,.d ah,.d aT]=g ab ah aT:=by intros;kernel_rfl):bf P X.G f (TI g):=by
 intro aM r h;unfold TI at h;split at h
 case h_2=>cases h
 exact eC X bd b5 gh hm ba (bX (bX (bX le_nil))) h l0 a4 bz (he _ _ _)
def TJ(g:D->D->D->D->Option D):List D->Option D
 |[ab,ah,aT,bq]=>g ab ah aT bq|_=>none
@[simp] theorem aEO {g:D->D->D->D->Option D} {ab ah aT bq:D}:TJ g [ab,ah,aT,bq]=g ab ah aT bq:=rfl
def u9{P:Program}(X:nU)(bd:eE P X.T)(b5:ht P X.G X.C)(gh:k7 P X.G X.H)(hm:P.follows .mixedOrders=true){f:FuncId}{fn:Func}(ba:P.funcs[f]?=some fn){g:D->D->D->D->Option D}(l0:X.ib=[]:=by rfl)(a4:oB X.T X.qP fn=true:=by kernel_rfl)(bz:decide (4<=fn.ntmps)=true:=by kernel_rfl)(he:∀ab ah aT bq,u7 X fn [.d ab,.d ah,.d aT,.d bq]=g ab ah aT bq:=by intros;kernel_rfl):bf P X.G f (TJ g):=by
 intro aM r h;unfold TJ at h;split at h
 case h_2=>cases h
 exact eC X bd b5 gh hm ba (bX (bX (bX (bX le_nil)))) h l0 a4 bz (he _ _ _ _)
def TK(g:D->D->D->D->D->Option D):List D->Option D
 |[ab,ah,aT,bq,dx]=>g ab ah aT bq dx|_=>none
@[simp] theorem aEP {g:D->D->D->D->D->Option D} {ab ah aT bq dx:D}:TK g [ab,ah,aT,bq,dx]=g ab ah aT bq dx:=rfl
def TL{P:Program}(X:nU)(bd:eE P X.T)(b5:ht P X.G X.C)(gh:k7 P X.G X.H)(hm:P.follows .mixedOrders=true){f:FuncId}{fn:Func}(ba:P.funcs[f]?=some fn){g:D->D->D->D->D->Option D}(l0:X.ib=[]:=by rfl)(a4:oB X.T X.qP fn=true:=by kernel_rfl)(bz:decide (5<=fn.ntmps)=true:=by kernel_rfl)(he:∀ab ah aT bq dx,u7 X fn [.d ab,.d ah,.d aT,.d bq,.d dx]=g ab ah aT bq dx:=by intros;kernel_rfl):bf P X.G f (TK g):=by
 intro aM r h;unfold TK at h;split at h
 case h_2=>cases h
 exact eC X bd b5 gh hm ba (bX (bX (bX (bX (bX le_nil))))) h l0 a4 bz (he _ _ _ _ _)
def TM(g:D->D->D->D->D->D->Option D):List D->Option D
 |[ab,ah,aT,bq,dx,gw]=>g ab ah aT bq dx gw|_=>none
@[simp] theorem aEQ {g:D->D->D->D->D->D->Option D} {ab ah aT bq dx gw:D}:TM g [ab,ah,aT,bq,dx,gw]=g ab ah aT bq dx gw:=rfl
def abt{P:Program}(X:nU)(bd:eE P X.T)(b5:ht P X.G X.C)(gh:k7 P X.G X.H)(hm:P.follows .mixedOrders=true){f:FuncId}{fn:Func}(ba:P.funcs[f]?=some fn){g:D->D->D->D->D->D->Option D}(l0:X.ib=[]:=by rfl)(a4:oB X.T X.qP fn=true:=by kernel_rfl)(bz:decide (6<=fn.ntmps)=true:=by kernel_rfl)(he:∀ab ah aT bq dx gw,u7 X fn [.d ab,.d ah,.d aT,.d bq,.d dx,.d gw]=g ab ah aT bq dx gw:=by intros;kernel_rfl):bf P X.G f (TM g):=by
 intro aM r h;unfold TM at h;split at h
 case h_2=>cases h
 exact eC X bd b5 gh hm ba (bX (bX (bX (bX (bX (bX le_nil)))))) h l0 a4 bz (he _ _ _ _ _ _)
def an5(g:D->D->D->D->D->D->D->Option D):List D->Option D
 |[ab,ah,aT,bq,dx,gw,ka]=>g ab ah aT bq dx gw ka|_=>none
@[simp] theorem aER {g:D->D->D->D->D->D->D->Option D} {ab ah aT bq dx gw ka:D}:an5 g [ab,ah,aT,bq,dx,gw,ka]=g ab ah aT bq dx gw ka:=rfl
def yY{P:Program}{T:cr}{os:Nat->Option (List Nat)}{f:FuncId}{fn:Func}(h:P.funcs[f]?=some fn)(a4:oB T os fn=true:=by kernel_rfl):yn P f:=anY h a4
@[congr] def aES {α β:Type} {x y:Option α} {f:α->Option β} (h:x=y):R x f=R y f:=by rw[h]
@[simp] theorem et {α β:Type} {a:α} {f:α->Option β}:R (some a) f=f a:=rfl
@[simp] theorem aET {α β:Type} {f:α->Option β}:R (none:Option α) f=none:=rfl
@[congr] def aEU {β:Type} {c d:Bool} {p:Option β} (h:c=d):ay c p=ay d p:=by rw[h]
@[simp] theorem p8 {β:Type} {p:Option β}:ay true p=p:=rfl
@[simp] theorem aEV {β:Type} {p:Option β}:ay false p=none:=rfl
@[congr] def aEW {β:Type} {x y:D} {p q:Option β} (h:x=y):aA x p q=aA y p q:=by rw[h]
@[simp] theorem ly {β:Type} {b:Bool} {p q:Option β}:aA (ax b) p q=if b=true then p else q:=by cases b<;>rfl
@[congr] def aEX {x y:D} {w:Bool} {p:Option D} (h:x=y):dA x w p=dA y w p:=by rw[h]
@[simp] theorem wW {b w:Bool} {p:Option D}:dA (ax b) w p=if b=w then p else some kG:=rfl
@[simp] theorem aEY {e3:Type} {b w:Bool} {p q:Option e3}:AM (ax b) w p q=if b=w then p else q:=rfl
@[simp] theorem aEZ {e3:Type} {w:Bool} {p q:Option e3}:AM kG w p q=q:=rfl
@[simp] theorem aE0 {w:Bool} {p:Option D}:dA kG w p=some kG:=rfl
@[simp] theorem wX {t:Bool} {a b:D}:fW (ax t) a b=some (if t=true then a else b):=rfl
@[simp] theorem abu {c:Prop} [Decidable c] {a b:Bool}:(if c then ax a else ax b)=ax (if c then a else b):=by split<;>rfl
@[simp] theorem TN {α:Type} {c:Prop} [Decidable c] {a b:α}:(if c then some a else some b)=some (if c then a else b):=by split<;>rfl
@[simp] theorem aE1 {α:Type} {c:Prop} [Decidable c] {a b d:α}:(if c then(if c then a else b)else d)=if c then a else d:=by split<;>simp_all
@[simp] theorem TO {β:Type} {b:β}:a0 (some b)=some (.inr b):=rfl
@[simp] theorem aE2 {β:Type}:a0 (none:Option β)=none:=rfl
@[simp] theorem qR {β:Type} {f:List D->Option β} {ls:List D}:bj f (.inl ls)=f ls:=rfl
@[simp] theorem HU {β:Type} {f:List D->Option β} {b:β}:bj f (.inr b)=some b:=rfl
@[simp] theorem p9 {x:D} {l:List D}:I (x::l) 0=x:=rfl
@[simp] theorem rT {x:D} {l:List D} {n:Nat}:I (x::l) (n+1)=I l n:=rfl
@[simp] theorem an6 {k:Nat} {es:List (List D)}:aP (.aE k es)=es:=rfl
@[simp] theorem an7 {es:List (Value×D)}:gZ (.mp es)=es:=rfl
@[simp] theorem an8 {cs:List D}:M9 (.agg cs)=cs:=rfl
@[simp] theorem aE3 {cs:List D} {i:Nat}:aa (.agg cs) i=cs.getD i kG:=rfl
@[simp] theorem an9 {n:Int}:bZ (J n)=true:=rfl
@[simp] theorem aoa {n:Bool}:bZ (ax n)=true:=rfl
@[simp] theorem aob {n:ByteArray}:bZ (aI n)=true:=rfl
@[simp] theorem aoc {k:Nat} {es:List (List D)}:bZ (.aE k es)=true:=rfl
@[simp] theorem aE4 {es:List (Value×D)}:bZ (.mp es)=true:=rfl
@[simp] theorem aod:bZ (.val (.slice none 0 0))=true:=rfl
@[simp] theorem aoe {n:Int}:(J n).one=true:=rfl
@[simp] theorem aof {n:Bool}:(ax n).one=true:=rfl
@[simp] theorem aog {n:ByteArray}:(aI n).one=true:=rfl
@[simp] theorem aoh {k:Nat} {es:List (List D)}:(D.aE k es).one=true:=rfl
@[simp] theorem aoi:(D.val (.slice none 0 0)).one=true:=rfl
@[simp] theorem aE5 {n:Nat} {cs:List D}:aL n (.agg cs)=(cs.length==n&&cs.all D.one):=rfl
@[simp] theorem aE6:o3 (.val (.slice none 0 0))=true:=rfl
@[simp] theorem jk {n off:Nat} {cs:List D}:bh false n off cs=cs[off]?:=rfl
theorem A6{n off:Nat}{cs:List D}:bh true n off cs=if off+n<=cs.length then some (.agg ((cs.drop off).take n))else none:=rfl
@[simp] theorem abv {a:Bool} {n off:Nat} {cs:List D}:mr a n off (.agg cs)=bh a n off cs:=rfl
@[simp] theorem TP {i:Nat} {vs:List D}:bk i (.aU vs)=vs[i]?:=rfl
@[simp] theorem aoj {k:Nat} {es:List (List D)}:bs (.aE k es)=some (J es.length):=rfl
@[simp] theorem aok:bs (.val (.slice none 0 0))=some (J 0):=rfl
@[simp] theorem TQ {s:ByteArray}:qK (aI s)=some (J s.size):=rfl
@[simp] theorem abw {k:Nat} {es:List (List D)} {i:Nat}:bp k (.aE k es) (J (i:Int))=es[i]?:=by simp[bp,J]
@[simp] theorem aE7 {k:Nat} {es:List (List D)}:bp k (.aE k es) (J 0)=es[0]?:=by simp[bp,J]
def TR{n:Nat}{i:Int}(h:0<=i)(bL:i<n):c4 n (J i)=some i.toNat:=by simp[c4,J,h,bL]
@[simp] theorem oD {n i:Nat}:c4 n (J (i:Int))=if i<n then some i else none:=by simp[c4,J]
@[simp] theorem aol {k:Nat} {es:List (List D)}:oy (.aE k es)=some (k,es):=rfl
@[simp] theorem aE8:oy (.val (.slice none 0 0))=some (0,[]):=rfl
def gC{n b:Nat}(ad:n*b<=140737488355328)(ae:n<=4611686018427387904):dd n b=true:=by simp[dd,ad,ae]
section
variable{bt:Bool}{a b:Int}
@[simp] theorem Eh:b9 bt .lss (J a) (J b)=some (ax (decide (a<b))):=rfl
@[simp] theorem NI:b9 bt .leq (J a) (J b)=some (ax (decide (a<=b))):=rfl
@[simp] theorem o8:b9 bt .gtr (J a) (J b)=some (ax (decide (a>b))):=rfl
@[simp] theorem Ei:b9 bt .geq (J a) (J b)=some (ax (decide (a>=b))):=rfl
@[simp] theorem Ej:b9 bt .eql (J a) (J b)=some (ax (a==b)):=rfl
@[simp] theorem yZ:b9 bt .neq (J a) (J b)=some (ax (a !=b)):=rfl
theorem NJ:b9 bt .add (J a) (J b)=some (J (IntKind.i64.wrap (a+b))):=rfl
theorem TS:b9 bt .sub (J a) (J b)=some (J (IntKind.i64.wrap (a-b))):=rfl
theorem aom:b9 bt .mul (J a) (J b)=some (J (IntKind.i64.wrap (a*b))):=rfl
def fg(ad:-9223372036854775808<=a+b)(ae:a+b<=9223372036854775807):b9 bt .add (J a) (J b)=some (J (a+b)):=by rw[NJ,wrap64 _ ad ae]
def mA(ad:-9223372036854775808<=a-b)(ae:a-b<=9223372036854775807):b9 bt .sub (J a) (J b)=some (J (a-b)):=by rw[TS,wrap64 _ ad ae]
def NK(ad:-9223372036854775808<=a*b)(ae:a*b<=9223372036854775807):b9 bt .mul (J a) (J b)=some (J (a*b)):=by rw[aom,wrap64 _ ad ae]
def abx(h:b≠0):b9 bt .quo (J a) (J b)=some (J (IntKind.i64.wrap (a.tdiv b))):=by simp[b9,GM,J,h,p2]
def HV(h:b≠0):b9 bt .rem (J a) (J b)=some (J (a.tmod b)):=by simp[b9,GM,J,h,p2]
@[simp] theorem TT {x y:ByteArray}:b9 bt .eql (aI x) (aI y)=some (ax (decide (x=y))):=rfl
@[simp] theorem aby {x y:ByteArray}:b9 bt .neq (aI x) (aI y)=some (ax (!decide (x=y))):=rfl
@[simp] theorem aon {x y:ByteArray}:b9 bt .lss (aI x) (aI y)=some (ax (blt x y)):=rfl
@[simp] theorem TU {x y:ByteArray}:b9 bt .gtr (aI x) (aI y)=some (ax (!(blt x y||decide (x=y)))):=rfl
@[simp] theorem aE9 {x y:Bool}:b9 true .eql (ax x) (ax y)=some (ax (x==y)):=rfl
@[simp] theorem aFa {x y:Bool}:b9 true .neq (ax x) (ax y)=some (ax (x !=y)):=rfl
@[simp] theorem Ek {x:Bool}:cx .not (ax x)=some (ax (!x)):=rfl
end
attribute [simp] xbz xcc List.getElem?_nil List.getD_cons_zero List.getD_cons_succ
theorem l1{β:Type}{f:List D->Option (List D⊕β)}{n:Nat}{ls:List D}:bA f (n+1) ls=R (f ls) λx=>match x with| .inl fE=>bA f n fE| .inr b=>some b:=rfl
def abz{β:Type}{f:List D->Option (List D⊕β)}(fk:Nat->List D):∀{m n j:Nat},(∀i,j<=i->i<j+m->f (fk i)=some (.inl (fk (i+1))))->m<=n->bA f n (fk j)=bA f (n-m) (fk (j+m))
 |0,n,j,_,_=>rfl|m+1,0,j,_,h=>absurd h (by omega)
 |m+1,n+1,j,aD,h=>by
  rw[l1,aD j (xaX j) (by omega)];simp only[et];have:=abz (f:=f) fk (m:=m) (n:=n) (j:=j+1) (λi ad ae=>aD i (by omega) (by omega)) (by omega);rw[this]
  congr 1
  .omega
  congr 1;omega
theorem l2{β:Type}{f:List D->Option (List D⊕β)}{ls:List D}{n:Nat}{b:β}(fk:Nat->List D)(m:Nat)(ao:ls=fk 0)(aD:∀i,i<m->f (fk i)=some (.inl (fk (i+1))))(he:f (fk m)=some (.inr b))(aH:m<n):bA f n ls=some b:=by subst ao;rw[abz fk (m:=m) (λi _ h=>aD i (by omega)) (by omega)];obtain⟨k,ai⟩:∃k,n-m=k+1:=⟨n-m-1,by omega⟩;rw[ai,l1,xaz,he];rfl
end Go.Am
