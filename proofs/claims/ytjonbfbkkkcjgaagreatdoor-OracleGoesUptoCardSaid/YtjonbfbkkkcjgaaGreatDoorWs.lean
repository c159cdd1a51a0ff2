/- Laws, on data. No condition. -/
import Derived.Test.YtjonbfbkkkcjgaaGreatDoorLaws
import Derived.Test.YtjonbfbkkkcjgaaGreatDoorEngS
import Derived.KernelRfl
set_option linter.all false
set_option linter.unnecessarySimpa false
namespace Go.Am
structure cp where
 name:ByteArray
 f:Fm
def cp.cells(d:cp):lZ:=[aA d.name,aa d.f.op,aa d.f.e.op,aa d.f.e.num,aA d.f.e.name,bM 4 d.f.e.nl (Tm.rows d.f.e.aC),bM 6 d.f.nl (Fm.rows d.f.aC)]
def al(l:List Tm):D:= .aw 4 (Tm.rows l)
def bg(l:List cp):D:= .aw 7 (l.map cp.cells)
def qG{l:List Tm}{i:Nat}{t:Tm}(h:l[i]?=some t):a8 4 (al l) (aa (i:Int))=some t.cells:=by simp[al,Tm.BT h]
def zL(l:List Tm):dK (al l)=some (aa l.length):=by simp[al]
attribute [go_sem] zL
def jo{l:List cp}{i:Nat}{t:cp}(h:l[i]?=some t):a8 7 (bg l) (aa (i:Int))=some t.cells:=by simp[bg,h]
def agh(l:List cp):dK (bg l)=some (aa l.length):=by simp[bg]
attribute [go_sem] agh
def cp.d(d:cp):D:= .agg d.cells
theorem cp.agi(d:cp):aN true 7 0 d.cells=some d.d:=rfl
theorem cp.xa(d:cp):aN true 6 1 d.cells=some d.f.d:=by rw[Fm.ha];rfl
attribute [go_sem] cp.xa
theorem cp.w9(d:cp):aN false 1 0 d.cells=some (aA d.name):=rfl
attribute [go_sem] cp.w9
def cp.agg(d:cp):cw 7 d.d=true:=by unfold cp.d cp.cells;simp[]
theorem cp.bF(d:cp):ae d.d 0=aA d.name:=rfl
theorem cp.c1(d:cp):ae d.d 1=aa d.f.op:=rfl
theorem cp.c2(d:cp):ae d.d 2=aa d.f.e.op:=rfl
theorem cp.b3(d:cp):ae d.d 3=aa d.f.e.num:=rfl
theorem cp.eM(d:cp):ae d.d 4=aA d.f.e.name:=rfl
theorem cp.iF(d:cp):ae d.d 5=bM 4 d.f.e.nl (Tm.rows d.f.e.aC):=rfl
theorem cp.iG(d:cp):ae d.d 6=bM 6 d.f.nl (Fm.rows d.f.aC):=rfl
structure bA where
 vars:List V
 ao:List a7
 bb:List Tm
 bc:List Tm
 next:List a7
 trans:List Tm
 a1:List Tm
 a6:List cp
def bA.d(m:bA):D:= .agg [aM m.vars,ay m.ao,al m.bb,al m.bc,ay m.next,al m.trans,al m.a1,bg m.a6]
section
variable(m:bA)
theorem bA.bF:ae m.d 0=aM m.vars:=rfl
attribute [go_sem] bA.bF
theorem bA.c1:ae m.d 1=ay m.ao:=rfl
attribute [go_sem] bA.c1
theorem bA.c2:ae m.d 2=al m.bb:=rfl
attribute [go_sem] bA.c2
theorem bA.b3:ae m.d 3=al m.bc:=rfl
attribute [go_sem] bA.b3
theorem bA.eM:ae m.d 4=ay m.next:=rfl
attribute [go_sem] bA.eM
theorem bA.iF:ae m.d 5=al m.trans:=rfl
attribute [go_sem] bA.iF
theorem bA.iG:ae m.d 6=al m.a1:=rfl
attribute [go_sem] bA.iG
theorem bA.nO:ae m.d 7=bg m.a6:=rfl
attribute [go_sem] bA.nO
theorem bA.agg:cw 8 m.d=true:=rfl
attribute [go_sem] bA.agg
theorem bA.eta:D.agg [aM m.vars,ay m.ao,al m.bb,al m.bc,ay m.next,al m.trans,al m.a1,bg m.a6]=m.d:=rfl
attribute [go_sem] bA.eta
end
def Sg:∀l:List Tm,j1 l=l.map ep
 |[]=>rfl|k::r=>by rw[j1,Sg r];rfl
theorem vE(t:Tm):ep t= .mk t.op t.num t.name false (t.aC.map ep):=by cases t;rw[ep,Sg];rfl
def Ej(t:Tm):(ep t).aO=t.aO:=by
 refine Tm.ind (P:=λt=>(ep t).aO=t.aO) ?_ t;intro t ih;have key:∀l:List Tm,(∀k∈l,(ep k).aO=k.aO)->Tm.dp (l.map ep)=Tm.dp l:=by
  intro l
  induction l with
  |nil=>intro _;rfl
  |cons a r b=>intro h;simp only[xav,Tm.dp];rw[h a sZ,b λk c=>h k (by simp[c])]
 rw[Tm.sq,Tm.sq t,vE];show 2+Tm.dp (t.aC.map ep)=_;rw[key _ ih]
def agj(t:Tm):t.Ok->(ep t).Ok:=by
 refine Tm.ind (P:=λt=>t.Ok->(ep t).Ok) ?_ t;intro t ih a;rw[vE];have d:=a.len;obtain⟨i,j,l⟩:(-9223372036854775808<=t.op/\t.op<=9223372036854775807)/\(-9223372036854775808<=t.num/\t.num<=9223372036854775807)/\t.name.size<=140737488355328:=by cases a with|mk o n s b ks g f aj ah e=>exact⟨g,f,aj⟩
 refine .mk _ _ _ _ _ i j l (by simpa using d) ?_;intro k e;obtain⟨h,c,rfl⟩:=xaK.1 e;exact ih h c (a.dx c)
def gv:Int:=9007199254740992
def cY(n:Int):Bool:=decide (-9007199254740992<=n)&&decide (n<=9007199254740992)
def kE(n:Int)(ok:Bool):D:=if ok&&cY n then .az [aa n,aD true]else .az [aa 0,aD false]
def agk(n:Nat)(a:Int)(ok:Bool):B8 n [aa a,aD ok]=some (kE a ok):=by unfold kE cY;cases ok<;>simp[B8,Oh,-Hz,-Hj];grind
def Ek(n:Nat)(a b:Int)(h:-9223372036854775808<=a/\a<=9223372036854775807)(i:-9223372036854775808<=b/\b<=9223372036854775807):p9 n [aa a,aa b]=some (kE (a+b) true):=by
 have aY:=agk n;by_cases ab:(a<0)=(b<0)
 case neg=>
  have e:IntKind.i64.wrap (a+b)=a+b:=by
   refine wrap64 _ ?_ ?_;.by_cases c:a<0<;>by_cases d:b<0<;>simp[c,d]at ab<;>omega
   by_cases c:a<0<;>by_cases d:b<0<;>simp[c,d]at ab<;>omega
  have f:(decide (a<0) !=decide (b<0))=true:=by by_cases c:a<0<;>by_cases d:b<0<;>simp[c,d]at ab⊢
  simp[p9,B9,BM,e,f,aY];unfold kE;split<;>simp
 have f:(decide (a<0) !=decide (b<0))=false:=by by_cases c:a<0<;>by_cases d:b<0<;>simp[c,d]at ab⊢
 by_cases g:-9223372036854775808<=a+b/\a+b<=9223372036854775807
 .have e:IntKind.i64.wrap (a+b)=a+b:=wrap64 _ g.1 g.2;have aj:(decide (a<0)==decide (a+b<0))=true:=by
   by_cases c:a<0<;>by_cases d:b<0<;>simp[c,d]at ab⊢<;>omega
  simp[p9,B9,BM,e,f,aj,aY];unfold kE;split<;>simp
 have e:IntKind.i64.wrap (a+b)=if a<0 then a+b+18446744073709551616 else a+b-18446744073709551616:=by simp only[IntKind.wrap_i64];split<;>omega
 have aj:(decide (a<0)==decide (IntKind.i64.wrap (a+b)<0))=false:=by rw[e];by_cases c:a<0<;>by_cases d:b<0<;>simp[c,d]at ab⊢<;>omega
 simp[p9,B9,BM,f,aj,aY];have:cY (a+b)=false:=by unfold cY;simp;omega
 simp[kE,this]
def dI(n:Int):D:= .val (.int .u64 n)
section
variable{bt:Bool}{a b:Int}
def El(h:0<=a+b)(c:a+b<18446744073709551616):aP bt .add (dI a) (dI b)=some (dI (a+b)):=by have e:aP bt .add (dI a) (dI b)=some (dI (IntKind.u64.wrap (a+b))):=rfl;rw[e,xcu,Int.emod_eq_of_lt h c]
theorem Sh:aP bt .mul (dI a) (dI b)=some (dI (IntKind.u64.wrap (a*b))):=rfl
def Em(h:0<=a*b)(c:a*b<18446744073709551616):aP bt .mul (dI a) (dI b)=some (dI (a*b)):=by rw[Sh,xcu,Int.emod_eq_of_lt h c]
def agl(h:0<=a):aP bt .shr (dI a) (dI 32)=some (dI (a/4294967296)):=by
 have e:aP bt .shr (dI a) (dI 32)=some (dI (a.fdiv (2^(min (32:Int).toNat IntKind.u64.bits)))):=rfl;rw[e];have:(2:Int)^(min (32:Int).toNat IntKind.u64.bits)=4294967296:=dZ
 rw[this,Int.fdiv_eq_ediv_of_nonneg _ oZ]
def agm(h:0<=a)(i:a<18446744073709551616):aP bt .and (dI a) (dI 4294967295)=some (dI (a%4294967296)):=by
 have e:aP bt .and (dI a) (dI 4294967295)=some (dI (IntKind.u64.wrap ((BitVec.ofInt IntKind.u64.bits a&&&BitVec.ofInt IntKind.u64.bits 4294967295).toNat:Int))):=rfl;rw[e];have g:IntKind.u64.bits=64:=rfl;obtain⟨m,rfl⟩:∃m:Nat,a=m:=⟨a.toNat,by omega⟩;have c:(BitVec.ofInt 64 (m:Int)&&&BitVec.ofInt 64 4294967295).toNat=m%4294967296:=by
  have d:BitVec.ofInt 64 (m:Int)=BitVec.ofNat 64 m:=sZ
  have f:BitVec.ofInt 64 4294967295=BitVec.ofNat 64 4294967295:=dZ
  rw[d,f,BitVec.toNat_and,BitVec.toNat_ofNat,BitVec.toNat_ofNat,Nat.mod_eq_of_lt oZ];have:=Nat.and_two_pow_sub_one_eq_mod m 32;simpa using this
 rw[g,c,xcu]
 congr 2
 omega
theorem En:aP bt .neq (dI a) (dI b)=some (aD (a !=b)):=rfl
theorem Eo:aP bt .gtr (dI a) (dI b)=some (aD (decide (a>b))):=rfl
end
def Ep{x y:Int}(b:0<=x/\x<=4294967295)(a:0<=y/\y<=4294967295):0<=x*y/\x*y<=18446744065119617025:=by refine⟨Int.mul_nonneg b.1 a.1,?_⟩;have:=xci b.2 a.2 a.1 oZ;simpa using this
def agn(n:Nat)(x y:Int)(e:0<=x/\x<18446744073709551616)(g:0<=y/\y<18446744073709551616):HQ n [dI x,dI y]=some (.az [dI (x*y/18446744073709551616),dI (x*y%18446744073709551616)]):=by
 have aE:0<=x%4294967296/\x%4294967296<=4294967295:=oZ
 have a2:0<=x/4294967296/\x/4294967296<=4294967295:=oZ
 have m:0<=y%4294967296/\y%4294967296<=4294967295:=oZ
 have o:0<=y/4294967296/\y/4294967296<=4294967295:=oZ
 have i:=Ep aE m;have k:=Ep a2 m;have j:=Ep aE o;have l:=Ep a2 o;have f:x*y=(x/4294967296*(y/4294967296))*18446744073709551616+(x/4294967296*(y%4294967296)+x%4294967296*(y/4294967296))*4294967296+x%4294967296*(y%4294967296):=by
  have ex:x=x/4294967296*4294967296+x%4294967296:=oZ
  have A:y=y/4294967296*4294967296+y%4294967296:=oZ
  generalize x/4294967296=u at*;generalize x%4294967296=v at*;generalize y/4294967296=w at*;generalize y%4294967296=z at*;subst ex;subst A;simp only[Int.add_mul,Int.mul_add];have C:u*4294967296*(w*4294967296)=u*w*18446744073709551616:=by rw[Int.mul_assoc,Int.mul_left_comm 4294967296 w,<-Int.mul_assoc,Int.mul_comm 4294967296 4294967296];rfl
  have E:u*4294967296*z=u*z*4294967296:=by rw[Int.mul_assoc,Int.mul_comm 4294967296 z,<-Int.mul_assoc]
  have F:v*(w*4294967296)=v*w*4294967296:=by rw[<-Int.mul_assoc]
  omega
 show HP n (dI x) (dI y)=_;have d:(D.val (.int .u64 32))=dI 32:=rfl;have t:(D.val (.int .u64 4294967295))=dI 4294967295:=rfl;have a:∀q:Int,0<=q->aP false .shr (dI q) (dI 32)=some (dI (q/4294967296)):=λq h=>agl h;have b:∀q:Int,0<=q->q<18446744073709551616->aP false .and (dI q) (dI 4294967295)=some (dI (q%4294967296)):=λq h B=>agm h B;simp only[HP,d,t,aK];rw[b x e.1 e.2,cG,a x e.1,cG,b y g.1 g.2,cG,a y g.1,cG,Em i.1 oZ,cG,Em k.1 oZ,cG];generalize x%4294967296*(y%4294967296)=c at*;generalize x/4294967296*(y%4294967296)=r at*;rw[a c oZ,cG,El oZ oZ,cG,b _ oZ oZ,cG,a _ oZ,cG,Em j.1 oZ,cG];generalize x%4294967296*(y/4294967296)=p at*;rw[El oZ oZ,cG,Em l.1 oZ,cG];generalize x/4294967296*(y/4294967296)=s at*;rw[El oZ oZ,cG,a _ oZ,cG,El oZ oZ,cG,Sh,cG,xcu,f]
 congr 3
 congr 1;omega
def Si(n:Nat)(a:Int)(d:-9223372036854775808<=a/\a<=9223372036854775807):tU n [aa a]=some (dI a.natAbs):=by
 have c:∀v:Int,cb .neg (.val (.int .u64 v))=some (dI (IntKind.u64.wrap (0-v))):=λ_=>rfl;have b:∀v:Int,jB .u64 (aa v)=some (.val (.int .u64 (IntKind.u64.wrap v))):=λ_=>rfl;by_cases h:a<0
 .simp[tU,HO,h,b,c];simp only[xcu,dI,D.val.injEq,Value.int.injEq,true_and];omega
 simp[tU,HO,h,b];simp only[xcu,dI,D.val.injEq,Value.int.injEq,true_and];omega
def gS(n:Int):cY n=true↔n.natAbs<=9007199254740992:=by unfold cY;simp;omega
def Sj{a b:Int}{A B:Nat}(h:a.natAbs<=A)(c:b.natAbs<=B):(a*b).natAbs<=A*B:=by rw[Int.natAbs_mul];exact Nat.mul_le_mul h c
def sign_mul(a b:Int)(h:a*b≠0):((a<0)≠(b<0))↔a*b<0:=by
 have c:a≠0:=by rintro rfl;simp at h
 have d:b≠0:=by rintro rfl;simp at h
 rcases Int.lt_or_gt_of_ne c with ab|ab<;>rcases Int.lt_or_gt_of_ne d with ad|ad;.have:=Int.mul_pos_of_neg_of_neg ab ad;simp[ab,ad];omega
 .have:=Int.mul_neg_of_neg_of_pos ab ad;simp[ab,this];omega
 .have:=Int.mul_neg_of_pos_of_neg ab ad;simp[ad,this];omega
 have:=Int.mul_pos ab ad;simp;omega
def ago(n:Nat)(a b:Int)(k:cY a=true)(l:cY b=true):rI n [aa a,aa b]=some (kE (a*b) true):=by
 rw[gS]at k l;have ab:=Si n a oZ;have ad:=Si n b oZ;have t:=Sj k l;have ai:=agn n a.natAbs b.natAbs oZ oZ;have e:((a.natAbs:Int)*b.natAbs)=((a*b).natAbs:Int):=by rw[Int.natAbs_mul];simp
 rw[e]at ai;have aj:=sign_mul a b;generalize a*b=p at*;have bF:(D.val (.int .u64 0))=dI 0:=rfl;have c1:(D.val (.int .u64 9007199254740992))=dI 9007199254740992:=rfl;have d:∀v:Int,jB .i64 (dI v)=some (aa (IntKind.i64.wrap v)):=λ_=>rfl;by_cases c:cY p=true
 .have g:=(gS p).1 c;have f:((p.natAbs:Int)/18446744073709551616)=0:=oZ
  have i:((p.natAbs:Int)%18446744073709551616)=p.natAbs:=oZ
  have q:IntKind.i64.wrap (p.natAbs:Int)=p.natAbs:=wrap64 _ oZ oZ;have r:IntKind.i64.wrap (-(p.natAbs:Int))=-(p.natAbs:Int):=wrap64 _ oZ oZ;have j:¬(9007199254740992<(p.natAbs:Int)):=oZ
  rw[f,i]at ai;by_cases o:p=0;.subst o;simp[rI,xz,ab,ad,ai,bF,c1,En,Eo,d,kE,c];by_cases x1:a<0<;>by_cases df:b<0<;>simp[x1,df,show IntKind.i64.wrap 0=0 from rfl]
  have aj:=aj o;by_cases x1:a<0<;>by_cases df:b<0<;>simp[x1,df]at aj<;>simp[rI,xz,ab,ad,ai,bF,c1,En,Eo,d,kE,c,j,q,r,x1,df]<;>omega
 have g:¬(p.natAbs<=9007199254740992):=λh=>c ((gS p).2 h);have m:cY p=false:=by simpa using c
 by_cases f:((p.natAbs:Int)/18446744073709551616)=0
 .have i:((p.natAbs:Int)%18446744073709551616)=p.natAbs:=oZ
  have j:9007199254740992<(p.natAbs:Int):=oZ
  rw[f,i]at ai;simp[rI,xz,ab,ad,ai,bF,c1,En,Eo,d,kE,m,j]
 have s:((p.natAbs:Int)/18446744073709551616 !=0)=true:=by simpa using f
 simp[rI,xz,ab,ad,ai,bF,c1,En,Eo,d,kE,m,s]
def tr(b:Bool):Int:=if b then 1 else 0
def Sk(n:Nat)(b:Bool):mn n [aD b]=some (.az [aa (tr b),aD true]):=by cases b<;>simp[mn,Og,tr]
def Sl(n:Nat)(b:Bool):lA n [aD b]=some (aa (tr b)):=by cases b<;>simp[lA,Pa,tr]
def Sm(n:Nat)(v:Int):rU n [aa v]=some (aD (!cY v)):=by
 by_cases ab:v< -9007199254740992
 .have:cY v=false:=by unfold cY;simp;omega
  simp[rU,CP,this,ab]
 by_cases ad:9007199254740992<v
 .have:cY v=false:=by unfold cY;simp;omega
  simp[rU,CP,this,ab,ad]
 have:cY v=true:=by unfold cY;simp;omega
 simp[rU,CP,this,ab,ad]
def Sn(n:Nat)(v:Int)(h:-9223372036854775807<=v/\v<=9223372036854775807):yq n [aa v]=some (aa (v.natAbs:Int)):=by have:IntKind.i64.wrap (-v)=-v:=wrap64 _ oZ oZ;simp[yq,Pb,this,Ee,dU];split<;>omega
def dR(op:Int)(l:lY):Int×Bool:=if op=6 then(tr (decide (l.sum=l.length)),true)
 else if op=7 then(tr (decide (l.sum>0)),true)
 else match l with
  |[a]=>(1-a,cY (1-a))
  |[a,b]=>if op=8 then(tr (a==0||b==1),true)else if op=9\/op=10 then(tr (a==b),true)else if op=11 then(tr (a !=b),true)
   else if op=12 then(tr (decide (a<b)),true)else if op=13 then(tr (decide (a<=b)),true)
   else if op=14 then(a+b,cY (a+b))else if op=15 then(a-b,cY (a-b))
   else if op=16 then if cY (a*b)then(a*b,true)else(0,false)
   else((a.tmod b+b).tmod b,cY ((a.tmod b+b).tmod b))
  |[a,b,c]=>(if a=1 then b else c,cY (if a=1 then b else c))
  |_=>(0,false)
def ed(p:Int×Bool):D:=if p.2 then .az [aa p.1,aD true]else .az [aa 0,aD false]
def Sp(v:Int):kE v true=ed (v,cY v):=by simp[kE,ed]
def k1{l:lY}{i:Nat}{y:Int}(h:l[i]?=some y):a8 1 (bV l) (aa (i:Int))=some [aa y]:=by simp[bV,h]
theorem zM{y:Int}{l:lY}:a8 1 (bV (y::l)) (aa 0)=some [aa y]:=k1 (i:=0) rfl
theorem Er{x y:Int}{l:lY}:a8 1 (bV (x::y::l)) (aa 1)=some [aa y]:=k1 (i:=1) rfl
theorem agp{x y z:Int}{l:lY}:a8 1 (bV (x::y::z::l)) (aa 2)=some [aa z]:=k1 (i:=2) rfl
def pb(l:lY):dK (bV l)=some (aa l.length):=by simp[bV]
attribute [go_sem] pb
def JD:∀(l:lY),(∀v∈l,cY v=true)->-(9007199254740992*(l.length:Int))<=l.sum/\l.sum<=9007199254740992*(l.length:Int)
 |[],_=>by simp|a::r,h=>by have:=JD r λv b=>h v (by simp[b]);have:=(gS a).1 (h a sZ);simp only[List.sum_cons,xal];omega
def agq{l:lY}(h:∀v∈l,cY v=true)(ah:l.length<=64)(i:Nat):-576460752303423488<=(l.take i).sum/\(l.take i).sum<=576460752303423488:=by
 have:=JD (l.take i) λv b=>h v (xbr b);have a:(l.take i).length<=64:=by rw[xbx];omega
 omega
def agr(n:Nat)(c d1 d2 d3 d4:D)(l:lY)(h:∀v∈l,cY v=true)(ah:l.length<=64)(k:64<n):aS (xA n) n [c,aa 0,bV l,aa l.length,aa 0,d1,d2,d3,d4]=some (.inl [c,aa l.sum,d1,d2,d3,d4]):=by
 have ag:=cd (f:=xA n) l (λi (s:Int)=>[c,aa s,bV l,aa l.length,aa (i:Int),d1,d2,d3,d4]) (λr s=>(Sum.inl [c,aa (s+r.sum),d1,d2,d3,d4]:lZ⊕D)) (λi s=>s=(l.take i).sum) (λs _=>by simp[xA]) ?_ n 0 0 sZ oZ (xah _);.have e:(aa ((0:Nat):Int))=aa 0:=rfl;rw[e]at ag;simpa using ag
 intro i a s d ag aj;left;have j:=agq h ah i;have g:=(gS a).1 (h a (xad d));have b:aP false .add (aa s) (aa a)=some (aa (s+a)):=ds oZ oZ;refine⟨s+a,by simp[xA,ag,k1 d,b,bu i],by simp[Int.add_assoc],?_⟩;rw[List.take_add_one,d,aj];simp
def zN{a b:Int}(c:1<=b):-b<a.tmod b/\a.tmod b<b:=by have ab:=Int.tmod_lt_of_pos a (oZ:0<b);have ad:=Int.lt_tmod_of_pos a (oZ:0<b);exact⟨ad,ab⟩
set_option maxHeartbeats 1000000 in
def ags(n:Nat)(t:Tm)(l:lY)(N:Valid t)(b5:l.length=t.aC.length)(b6:5<=t.op)(B:∀v∈l,cY v=true)(cU:100<n) (G:(t.op<=9->∀v∈l,v=0\/v=1)/\(t.op=18->∀v,l[0]?=some v->v=0\/v=1)) (bX:t.op=17->∀v,l[1]?=some v->1<=v/\v<=255):hz n [t.d,bV l]=some (ed (dR t.op l)):=by
 have cz:=N.op;have f:=N.len;have bF:=Tm.kW t;have g:=Tm.jf t;have bU:=qE (op:=t.op);have L:=ss (op:=t.op);have Z:=N.vD;have u:=pb l;have e:=Sk n;have j:=λW d1 d2 d3 d4=>agr n W d1 d2 d3 d4 l B oZ oZ;by_cases s:t.op=6\/t.op=7
 .have bY:1<=l.length:=by
   have:eh t.op=(1,64):=by unfold eh;rw[xab oZ,xab oZ,xac s]
   rw[this]at f;simp only at f;omega
  generalize t.op=op at*;rcases s with rfl|rfl
  .simp[hz,hV,g,bF,u,j,dR,ed,-Np];by_cases q:l.sum=(l.length:Int)<;>simp[q,e]
  simp[hz,hV,g,bF,u,j,dR,ed,-Np];by_cases q:l.sum=(l.length:Int)
  .have:0<l.sum:=oZ
   have cv:0<l.length:=oZ
   simp[q,e,cv]
  by_cases ak:0<l.sum<;>simp[q,ak,e]
 have M:t.op=5->l.length=1:=λh=>by
  have:eh t.op=(1,1):=by rw[h];rfl
  rw[this]at f;simp only at f;omega
 by_cases P:t.op=5
 .have:=M P
  match l,this with
  |[a],_=>
   have F:=G.1 oZ a sZ;have g0:=zM (y:=a) (l:=[]);generalize t.op=op at*;subst P;rcases F with rfl|rfl
   .simp[hz,hV,g,bF,g0,dR,ed,e,tr,cY]
   simp[hz,hV,g,bF,g0,dR,ed,e,tr,cY]
 by_cases k:t.op=18
 .rw[L k]at f;obtain⟨a,b,c,rfl⟩:=o8 (l:=l) (by simp only at f;omega);have F:=G.2 k a rfl;have g0:=zM (y:=a) (l:=[b,c]);have g1:=Er (x:=a) (y:=b) (l:=[c]);have g2:=agp (x:=a) (y:=b) (z:=c) (l:=[]);have I:=B b sZ;have J:=B c sZ;generalize t.op=op at*;subst k;rcases F with rfl|rfl
  .simp[hz,hV,g,bF,g0,g1,g2,dR,ed,J]
  simp[hz,hV,g,bF,g0,g1,g2,dR,ed,I]
 rw[bU oZ]at f;obtain⟨a,b,rfl⟩:=lD (l:=l) (by simp only at f;omega);have g0:=zM (y:=a) (l:=[b]);have g1:=Er (x:=a) (y:=b) (l:=[]);have U:=B a sZ;have V:=B b sZ;have cL:=(gS a).1 U;have cy:=(gS b).1 V;have Q:=Ek n a b oZ oZ;have E:=Ek n a (-b) oZ oZ;have R:=ago n a b U V;have w:IntKind.i64.wrap (-b)=-b:=wrap64 _ oZ oZ;have C:a+-b=a-b:=oZ
 have O:∀p:Int×Bool,(eK 0 (ed p))=some (aa (if p.2 then p.1 else 0))/\(eK 1 (ed p))=some (aD p.2):=by intro p;obtain⟨v,o⟩:=p;cases o<;>simp[ed]
 have S:∀p:Int×Bool,D.az [aa (if p.2 then p.1 else 0),aD p.2]=ed p:=by intro p;obtain⟨v,o⟩:=p;cases o<;>simp[ed]
 rw[C]at E;rw[Sp]at Q E R;by_cases r:t.op=17
 .obtain⟨T,dD⟩:=bX r b rfl;have m1:=zN (a:=a) T;have A:b≠0:=oZ
  have di:aP false .add (aa (a.tmod b)) (aa b)=some (aa (a.tmod b+b)):=ds oZ oZ;have m2:=zN (a:=a.tmod b+b) T;have K:cY ((a.tmod b+b).tmod b)=true:=(gS _).2 oZ;have X:aP false .rem (aa a) (aa b)=some (aa (a.tmod b)):=w3 A;have Y:aP false .rem (aa (a.tmod b+b)) (aa b)=some (aa ((a.tmod b+b).tmod b)):=w3 A;generalize t.op=op at*;subst r;simp[hz,hV,g,bF,g0,g1,dR,ed,X,Y,di,K]
 have q:t.op=8\/t.op=9\/t.op=10\/t.op=11\/t.op=12\/t.op=13\/t.op=14\/t.op=15\/t.op=16:=oZ
 have H:t.op=8->(b=0\/b=1):=λh=>G.1 oZ b sZ;generalize t.op=op at*;rcases q with rfl|rfl|rfl|rfl|rfl|rfl|rfl|rfl|rfl
 .rcases H rfl with rfl|rfl
  .by_cases i:a=0;.simp[hz,hV,g,bF,dR,ed,e,i,zM,Er]
   have m:(a==0)=false:=by simpa using i
   simp[hz,hV,g,bF,g0,g1,dR,ed,e,i,m]
  by_cases i:a=0;.simp[hz,hV,g,bF,dR,ed,e,i,zM,Er]
  have m:(a==0)=false:=by simpa using i
  simp[hz,hV,g,bF,g0,g1,dR,ed,e,i,m]
 .simp[hz,hV,g,bF,g0,g1,dR,ed,e]
 .simp[hz,hV,g,bF,g0,g1,dR,ed,e]
 .simp[hz,hV,g,bF,g0,g1,dR,ed,e]
 .simp[hz,hV,g,bF,g0,g1,dR,ed,e]
 .simp[hz,hV,g,bF,g0,g1,dR,ed,e]
 .simp[hz,hV,g,bF,g0,g1,dR,Q,O];rw[<-S]
 .simp[hz,hV,g,bF,g0,g1,dR,w,E,O];rw[<-S]
 simp[hz,hV,g,bF,g0,g1,dR,R,O];cases de:cY (a*b)<;>simp[ed]
def jq(vs:List V)(s nn:lY)(t:Tm):Option Nat:=if(if t.op=4 then nn else s).length=vs.length then cX vs t.name else none
def agt{vs:List V}{s nn:lY}{t:Tm}{i:Nat}(h:jq vs s nn t=some i):cX vs t.name=some i/\(if t.op=4 then nn else s).length=vs.length:=by
 unfold jq at h;by_cases a:(if t.op=4 then nn else s).length=vs.length;.rw[xac a]at h;exact⟨h,a⟩
 rw[xab a]at h;cases h
def hC(vs:List V)(s nn:lY)(t:Tm):Int×Bool:=if t.op<=2 then(t.num,true)
 else match jq vs s nn t with
  |none=>(0,false)
  |some i=>match vs[i]?,(if t.op=4 then nn else s)[i]? with
   |some v,some x=>if v.bool then(tr (x !=0),true)else(x,cY x)
   |_,_=>(0,false)
mutual
def dd(vs:List V)(s nn:lY):Tm->Int×Bool
 | .mk o n a b ks=>if o<=4 then hC vs s nn (.mk o n a b ks)else match eT vs s nn ks with|some l=>dR o l|none=>(0,false)
def eT(vs:List V)(s nn:lY):List Tm->Option lY
 |[]=>some []
 |t::r=>if(dd vs s nn t).2 then match eT vs s nn r with|some l=>some ((dd vs s nn t).1::l)|none=>none
  else none
end
theorem lE(vs:List V)(s nn:lY)(t:Tm):dd vs s nn t=if t.op<=4 then hC vs s nn t else match eT vs s nn t.aC with|some l=>dR t.op l|none=>(0,false):=by cases t;rw[dd];rfl
mutual
def steps:Tm->Bool
 | .mk o _ _ _ ks=>o==4||kF ks
def kF:List Tm->Bool
 |[]=>false|t::r=>steps t||kF r
end
theorem Es(t:Tm):steps t=(t.op==4||kF t.aC):=by cases t;rw[steps];rfl
def Sq:∀{l:List Tm}{t:Tm},t∈l->kF l=false->steps t=false
 |a::r,t,h,aj=>by
  rw[kF,Bool.or_eq_false_iff]at aj;rcases xan.1 h with rfl|h
  .exact aj.1
  exact Sq h aj.2
theorem JE(b:Bool):cY (tr b)=true:=by cases b<;>rfl
def vF(p:Int×Bool):Prop:=p.2=true->cY p.1=true
def nU{c:Prop}[Decidable c]{p q:Int×Bool}(a:vF p)(b:c\/vF q):vF (if c then p else q):=by
 split;.exact a
 exact b.resolve_left aZ
def su(b:Bool):vF (tr b,true):=λ_=>JE b
def zO(v:Int):vF (v,cY v):=λh=>h
def agu{op:Int}{l:lY}:vF (dR op l):=by
 unfold dR;refine nU (su _) (.inr (nU (su _) (.inr ?_)))
 match l with
 |[]=>intro h;cases h
 |[a]=>exact zO _|[a,b,c]=>exact zO _|a::b::c::d::r=>intro h;cases h
 |[a,b]=>
  refine nU (su _) (.inr (nU (su _) (.inr (nU (su _) (.inr (nU (su _) (.inr (nU (su _) (.inr (nU (zO _) (.inr (nU (zO _) (.inr (nU ?_ (.inr (zO _))))))))))))))));by_cases h:cY (a*b)=true;.rw[xac h];exact λ_=>h
  rw[xab h];intro h;cases h
def agv{vs:List V}{s nn:lY}{t:Tm}(d:Valid t)(h:(hC vs s nn t).2=true):cY (hC vs s nn t).1=true:=by
 have e:=d.num;unfold hC at*;by_cases ad:t.op<=2;.rw[xac ad];exact(gS _).2 (by simp only;omega)
 rw[xab ad]at*;cases ag:jq vs s nn t with
 |none=>simp[ag]at h
 |some i=>
  rw[ag]at h;simp only at h⊢;cases a:vs[i]? with
  |none=>rw[a]at h;cases h
  |some v=>
   cases c:((if t.op=4 then nn else s)[i]?)with
   |none=>rw[a,c]at h;cases h
   |some x=>
    rw[a,c]at h;simp only at h⊢;by_cases b:v.bool=true;.rw[xac b];exact JE _
    rw[xab b]at*;exact h
def Sr{vs:List V}{s nn:lY}{t:Tm}(b:Valid t)(h:(dd vs s nn t).2=true):cY (dd vs s nn t).1=true:=by
 rw[lE]at*;by_cases a:t.op<=4;.rw[xac a]at*;exact agv b h
 rw[xab a]at*;split at h;.rename_i l ah;exact agu h
 cases h
def qH(v:Int):Prop:=v=0\/v=1
def zP(b:Bool):qH (tr b):=by cases b<;>simp[tr,qH]
theorem vG(lo ag:Int):(eS lo ag).1.b=false:=by unfold eS;split<;>rfl
def agw(op:Int)(a b:Y):(kD op a b).1.b=false:=by unfold kD;split<;>(try split)<;>exact vG _ _
def JF(vs:List V)(nx:Bool)(s nn:lY):∀{ks:List Tm}{l:lY},(cT vs nx ks).2=0->eT vs s nn ks=some l->l.length=ks.length/\∀(i:Nat)(y:Y)(v:Int),(cT vs nx ks).1[i]?=some y->l[i]?=some v-> ∃k,ks[i]?=some k/\(cJ vs nx k).2=0/\y=(cJ vs nx k).1/\(dd vs s nn k).2=true/\v=(dd vs s nn k).1
 |[],l,_,a=>by cases a;exact⟨rfl,by intro i y v _ h;simp at h⟩
 |k::r,l,h,a=>by
  rw[cT]at*;rw[eT]at a;by_cases ab:(cJ vs nx k).2=0
  case neg=>rw[xac ab]at h;exact absurd h ab
  have b:¬(cJ vs nx k).2≠0:=by simpa using ab
  rw[xab b]at h⊢;by_cases ad:(cT vs nx r).2=0
  case neg=>rw[xac ad]at h;exact absurd h ad
  have c:¬(cT vs nx r).2≠0:=by simpa using ad
  rw[xab c]at h⊢;by_cases ai:(dd vs s nn k).2=true
  case neg=>rw[xab ai]at a;cases a
  rw[xac ai]at a;cases d:eT vs s nn r with
  |none=>rw[d]at a;cases a
  |some g=>rw[d]at a;cases a;obtain⟨g1,g2⟩:=JF vs nx s nn ad d;refine⟨by simp[g1],?_⟩;intro i y v f e;cases i with|zero=>simp at f e;exact⟨k,rfl,ab,f.symm,ai,e.symm⟩|succ i=>simpa using g2 i y v (by simpa using f) (by simpa using e)
def Et{t:Tm}{l:List Y}(h:(eG t l).2=0)(ab:5<=t.op/\t.op<=9):l.all Y.b=true:=by
 unfold eG at h;rw[xac ab]at h;by_cases a:l.all Y.b=true;.exact a
 rw[xab a]at h;cases h
def JG{t:Tm}{a b c:Y}(h:(eG t [a,b,c]).2=0)(ab:¬(5<=t.op/\t.op<=9)):a.b=true/\b.b=c.b/\((eG t [a,b,c]).1.b=true->b.b=true):=by
 unfold eG at*;rw[xab ab]at*;simp only at h⊢;by_cases e:(!a.b||(b.b !=c.b))=true;.rw[xac e]at h;cases h
 rw[xab e]at*;refine⟨by cases g:a.b<;>simp_all,by cases d:b.b<;>cases f:c.b<;>simp_all,?_⟩;by_cases d:b.b=true;.exact λ_=>d
 rw[xab d,vG];intro h;cases h
def Ss{t:Tm}{a b:Y}(h:(eG t [a,b]).2=0)(ab:t.op=17){k:Tm}(e:t.aC[1]?=some k):k.op=1/\1<=k.num:=by
 unfold eG at h;rw[xab oZ]at h;simp only at h;rw[xab oZ]at h;by_cases c:(a.b||b.b)=true;.rw[xac c]at h;cases h
 rw[xab c,xab oZ,xac ab,e]at h;simp only at h;by_cases d:k.op≠1\/k.num<1;.rw[xac d]at h;cases h
 omega
def agx{t:Tm}{a b:Y}(ab:14<=t.op/\t.op<=17):(eG t [a,b]).1.b=false:=by
 unfold eG;rw[xab oZ];simp only;rw[xab oZ];split;.rfl
 rw[xab oZ];split
 .split
  .split;.rfl
   exact vG _ _
  rfl
 exact agw _ _ _
def agy{vs:List V}{nx:Bool}{s nn:lY}{t:Tm}(d:Valid t)(h:(hB vs nx t).1.b=true)(a:(hC vs s nn t).2=true):qH (hC vs s nn t).1:=by
 have j:=d.num;unfold hB at h;unfold hC at*;by_cases ab:t.op=1;.rw[xac ab,vG]at h;cases h
 rw[xab ab]at h;by_cases ad:t.op=2;.rw[xac oZ];unfold qH;simp only;omega
 rw[xab ad]at h;have f:=d.op;rw[xab oZ]at*;cases ag:jq vs s nn t with
 |none=>rw[ag]at a;cases a
 |some i=>
  rw[(agt ag).1]at h;rw[ag]at a;simp only at h a⊢;by_cases ai:t.op=4/\nx=false;.rw[xac ai]at h;cases h
  rw[xab ai]at h;cases e:vs[i]? with
  |none=>rw[e]at a;cases a
  |some v=>
   rw[e]at h a;simp only at h;by_cases c:v.bool=true
   .cases g:((if t.op=4 then nn else s)[i]?)with
    |none=>rw[g]at a;cases a
    |some x=>simp only;rw[xac c];exact zP _
   rw[xab c,vG]at h;cases h
def St(vs:List V)(nx:Bool)(s nn:lY)(t:Tm):Valid t->(cJ vs nx t).2=0->(cJ vs nx t).1.b=true->(dd vs s nn t).2=true->qH (dd vs s nn t).1:=by
 refine Tm.ind (P:=λt=>Valid t->(cJ vs nx t).2=0->(cJ vs nx t).1.b=true->(dd vs s nn t).2=true->qH (dd vs s nn t).1) ?_ t;intro t ih o h f g;rw[j3]at h f;rw[lE]at g⊢;by_cases E:t.op<=4;.rw[xac E]at*;exact agy o f g
 rw[xab E]at*;by_cases ak:(cT vs nx t.aC).2=0
 case neg=>rw[xac ak]at h;exact absurd h ak
 rw[xab (by simpa using ak)]at h f;cases ah:eT vs s nn t.aC with
 |none=>rw[ah]at g;cases g
 |some l=>
  rw[ah]at g;simp only at g⊢;obtain⟨g1,g2⟩:=JF vs nx s nn ak ah;obtain⟨g3,_⟩:=vC vs nx t.aC ak;have O:=o.op;have d:=o.len;have N:=qE (op:=t.op);have u:=ss (op:=t.op);unfold dR;by_cases F:t.op=6
  .rw[xac F];exact zP _
  rw[xab F];by_cases G:t.op=7;.rw[xac G];exact zP _
  rw[xab G];by_cases M:t.op=5
  .have:eh t.op=(1,1):=by rw[M];rfl
   rw[this]at d
   match l,g1,g2 with
   |[a],g1,g2=>
    have j:=Et h oZ;have:0<(cT vs nx t.aC).1.length:=by simp at g1;omega
    obtain⟨k,q,z,A,B,C⟩:=g2 0 _ a (xaa this) rfl;have n:=xax.1 j _ (xaX this);rw[A]at n;have:=ih k (xad q) (o.dx (xad q)) z n B;rw[<-C]at this;simp only;rcases this with h|h<;>subst h<;>simp[qH]
   |[],g1,_=>simp at g1;simp only at d;omega|_::_::_,g1,_=>simp at g1;simp only at d;omega
  by_cases r:t.op=18
  .rw[u r]at d;have w:l.length=3:=by simp only at d;omega
   obtain⟨a,b,c,rfl⟩:=o8 w;obtain⟨J,D,K,p⟩:=o8 (l:=(cT vs nx t.aC).1) (by simp only at d;omega);rw[p]at h f g2;obtain⟨T,R,S⟩:=JG h oZ;have m:=S f;have get:∀(i:Nat)(y:Y)(v:Int),[J,D,K][i]?=some y->[a,b,c][i]?=some v->y.b=true->qH v:=by intro i y v p Q x;obtain⟨k,q,z,A,B,C⟩:=g2 i y v p Q;rw[C];exact ih k (xad q) (o.dx (xad q)) z (by rw[<-A];exact x) B
   simp only;by_cases H:a=1;.rw[xac H];exact get 1 D b rfl rfl m
   rw[xab H];exact get 2 K c rfl rfl (by rw[<-R];exact m)
  rw[N oZ]at d;obtain⟨a,b,rfl⟩:=lD (l:=l) (by simp only at d;omega);obtain⟨J,D,p⟩:=lD (l:=(cT vs nx t.aC).1) (by simp only at d;omega);rw[p]at h f;have L:t.op<=13:=by refine xbi λI=>?_;rw[agx oZ]at f;cases f
  simp only;have I:t.op=8\/t.op=9\/t.op=10\/t.op=11\/t.op=12\/t.op=13:=oZ
  rcases I with e|e|e|e|e|e<;>simp only[e]<;>exact zP _
def Su{vs:List V}{nx:Bool}{s nn:lY}{t:Tm}{l:lY}(j:Valid t)(h:(cJ vs nx t).2=0)(u:5<=t.op)(ah:eT vs s nn t.aC=some l):l.length=t.aC.length/\(∀v∈l,cY v=true)/\((t.op<=9->∀v∈l,v=0\/v=1)/\(t.op=18->∀v,l[0]?=some v->v=0\/v=1))/\(t.op=17->∀v,l[1]?=some v->1<=v/\v<=255):=by
 rw[j3,xab oZ]at h;by_cases ak:(cT vs nx t.aC).2=0
 case neg=>rw[xac ak]at h;exact absurd h ak
 rw[xab (by simpa using ak)]at h;obtain⟨g1,g2⟩:=JF vs nx s nn ak ah;obtain⟨g3,_⟩:=vC vs nx t.aC ak;have A:=j.op;have a:=j.len;have at_:∀(i:Nat)(v:Int),l[i]?=some v->∃k y,t.aC[i]?=some k/\(cT vs nx t.aC).1[i]?=some y/\(cJ vs nx k).2=0/\y=(cJ vs nx k).1/\(dd vs s nn k).2=true/\v=(dd vs s nn k).1:=by
  intro i v ag;have n:i<(cT vs nx t.aC).1.length:=by have:=(lV.1 ag).1;omega
  obtain⟨k,b,c,e,f,d⟩:=g2 i _ v (xaa n) ag;exact⟨k,_,b,xaa n,c,e,f,d⟩
 refine⟨g1,?_,⟨?_,?_⟩,?_⟩;.intro v q;obtain⟨i,ag⟩:=xaJ.1 q;obtain⟨k,y,b,c,e,f,d,g⟩:=at_ i v ag;rw[g];exact Sr (j.dx (xad b)) d
 .intro w v q;obtain⟨i,ag⟩:=xaJ.1 q;obtain⟨k,y,b,c,e,f,d,g⟩:=at_ i v ag;have m:=xax.1 (Et h ⟨u,w⟩) y (xad c);rw[g];exact St vs nx s nn k (j.dx (xad b)) e (by rw[<-f];exact m) d
 .intro p v ag;obtain⟨k,y,b,c,e,f,d,g⟩:=at_ 0 v ag;rw[ss p]at a;obtain⟨C,D,F,r⟩:=o8 (l:=(cT vs nx t.aC).1) (by simp only at a;omega);rw[r]at h c;have x:=(JG h oZ).1;cases c;rw[g];exact St vs nx s nn k (j.dx (xad b)) e (by rw[<-f];exact x) d
 intro o v ag;obtain⟨k,y,b,c,e,f,d,g⟩:=at_ 1 v ag;rw[qE oZ]at a;obtain⟨C,D,r⟩:=lD (l:=(cT vs nx t.aC).1) (by simp only at a;omega);rw[r]at h;obtain⟨E,B⟩:=Ss h o b;have z:=(j.dx (xad b)).num;have:dd vs s nn k=(k.num,true):=by rw[lE,xac oZ];unfold hC;rw[xac oZ]
 rw[g,this];exact⟨B,by simp only;omega⟩
def fA(b:Bool)(l:lY):D:=bM 1 b (l.map λx=>[aa x])
@[simp] theorem amB (b:Bool) (l:lY):dK (fA b l)=some (aa l.length):=by simp[fA]
@[simp] theorem amC (b:Bool) (l:lY):da (fA b l)=true:=by unfold fA bM;split<;>rfl
def Sv{b:Bool}{l:lY}{i:Nat}{x:Int}(h:l[i]?=some x):a8 1 (fA b l) (aa (i:Int))=some [aa x]:=by
 have a:l≠[]:=by rintro rfl;simp at h
 have:fA b l= .aw 1 (l.map λx=>[aa x]):=by unfold fA bM;rw[xab (by simp[a])]
 rw[this];simp[h]
def Sw(l:lY):fA false l=bV l:=by simp[fA,bM,bV]
theorem vH:fA true []=b9:=rfl
variable{bn:Bool}
theorem Eu{k:Nat}:cS (k+1) (aa 0)=some 0:=by rw[Ho oZ oZ];rfl
theorem Sx{k:Nat}:cS (k+2) (aa 1)=some 1:=by rw[Ho oZ oZ];rfl
theorem agz{k:Nat}:cS (k+3) (aa 2)=some 2:=by rw[Ho oZ oZ];rfl
def agA{x:Int}(ab:x≠0)(ad:x.natAbs<=9007199254740992):aP false .quo (aa 9007199254740992) (aa (x.natAbs:Int))=some (aa ((9007199254740992/x.natAbs:Nat):Int)):=by
 have a:(x.natAbs:Int)≠0:=oZ
 rw[Ns a];have e:(9007199254740992:Int).tdiv (x.natAbs:Int)=((9007199254740992/x.natAbs:Nat):Int):=by rw[Int.tdiv_eq_ediv_of_nonneg oZ];rfl
 have ai:=Nat.div_le_self 9007199254740992 x.natAbs;rw[e];generalize 9007199254740992/x.natAbs=q at*;rw[wrap64 _ oZ oZ]
def agB(a b:Int)(h:a≠0):(b.natAbs:Int)>((9007199254740992/a.natAbs:Nat):Int)↔cY (a*b)=false:=by
 have c:0<a.natAbs:=oZ
 have ab:cY (a*b)=false↔9007199254740992<a.natAbs*b.natAbs:=by
  rw[<-Int.natAbs_mul];have:=gS (a*b);constructor
  .intro h;refine xbi λe=>?_;rw[this.2 oZ]at h;cases h
  intro h;cases d:cY (a*b)with|false=>rfl|true=>exact absurd (this.1 d) oZ
 rw[ab,Nat.mul_comm,<-Nat.div_lt_iff_lt_mul c];omega
set_option maxHeartbeats 2000000 in
def agC(W:lZ->oX)(n:Nat)(vs:List V)(s nn:lY)(t:Tm)(l:lY)(P:Valid t)(bX:l.length=t.aC.length)(cz:5<=t.op)(T:∀v∈l,cY v=true) (Z:(t.op<=9->∀v∈l,v=0\/v=1)/\(t.op=18->∀v,l[0]?=some v->v=0\/v=1)) (b6:t.op=17->∀v,l[1]?=some v->1<=v/\v<=255) (e:aS (qj W n) n [aM vs,bV s,fA bn nn,aa 0,aa 0,aa t.op,aa t.num,aA t.name,bM 4 t.nl (Tm.rows t.aC),.aw 1 []]=some (.inl [aa (if t.op=6\/t.op=7 then l.sum else 0),aa t.op,aa t.num,aA t.name,bM 4 t.nl (Tm.rows t.aC),bV l])):ik W n (aM vs) t.d (bV s) (fA bn nn)=some (.az [aa (dR t.op l).1,aD (dR t.op l).2]):=by
 have cL:=P.op;have i:=P.len;have bF:=Tm.kW t;have c1:=Tm.ns t;have c2:=Tm.nt t;have b3:=Tm.me t;have k:=Tm.jf t;have b5:=qE (op:=t.op);have N:=ss (op:=t.op);have X:=P.vD;have j:=Sl n;have f:=Sm n;have es:∀l:lY,aF (bV l)=l.map λv=>[aa v]:=λ_=>rfl;have g:∀b:Bool,cY (tr b)=true:=JE;by_cases L:t.op=6\/t.op=7
 .generalize t.op=op at*;rcases L with rfl|rfl
  .simp[ik,k,bF,c1,c2,b3,e,es,j,f,dR,g];rfl
  simp[ik,k,bF,c1,c2,b3,e,es,j,f,dR,g]
 by_cases R:t.op=5
 .have:eh t.op=(1,1):=by rw[R];rfl
  rw[this]at i;have O:l.length=1:=by simp only at i;omega
  match l,O with|[a],_=>have m:=Z.1 oZ a sZ;have p:aP false .sub (aa 1) (aa a)=some (aa (1-a)):=jX oZ oZ;generalize t.op=op at*;subst R;simp[ik,k,bF,c1,c2,b3,e,es,f,dR,Eu,p]
 by_cases B:t.op=18;.rw[N B]at i;obtain⟨a,b,c,rfl⟩:=o8 (l:=l) (by simp only at i;omega);generalize t.op=op at*;subst B;by_cases m:a=1<;>simp[ik,k,bF,c1,c2,b3,e,es,f,dR,Eu,Sx,agz,m]
 rw[b5 oZ]at i;obtain⟨a,b,rfl⟩:=lD (l:=l) (by simp only at i;omega);have I:=(gS a).1 (T a sZ);have Q:=(gS b).1 (T b sZ);have iH:cS 2 (aa 0)=some 0:=Eu;have w:cS 2 (aa 1)=some 1:=Sx;by_cases A:t.op=17
 .obtain⟨cy,cU⟩:=b6 A b rfl;have m1:=zN (a:=a) cy;have F:b≠0:=oZ
  have di:aP false .add (aa (a.tmod b)) (aa b)=some (aa (a.tmod b+b)):=ds oZ oZ;have p:aP false .rem (aa a) (aa b)=some (aa (a.tmod b)):=w3 F;have z:aP false .rem (aa (a.tmod b+b)) (aa b)=some (aa ((a.tmod b+b).tmod b)):=w3 F;generalize t.op=op at*;subst A;simp[ik,k,bF,c1,c2,b3,e,es,f,dR,iH,w,p,z,di]
 by_cases K:t.op=16
 .have G:=Sn n a oZ;have H:=Sn n b oZ;have o:=agB a b;have cv:=Sj I Q;generalize t.op=op at*;subst K;by_cases m:a=0
  .subst m;have p:aP false .mul (aa 0) (aa b)=some (aa 0):=by rw[p3 oZ oZ,Int.zero_mul]
   simp[ik,k,bF,c1,c2,b3,e,es,f,dR,iH,w,p,show cY 0=true from rfl]
  have S:=agA m I;have o:=o m;have Y:(a==0)=false:=by simpa using m
  generalize 9007199254740992/a.natAbs=q at*;by_cases C:cY (a*b)=true
  .have ab:¬((b.natAbs:Int)>(q:Int)):=λh=>by rw[o.1 h]at C;cases C
   have r:decide ((b.natAbs:Int)>(q:Int))=false:=xaB ab;have bU:=(gS _).1 C;have p:aP false .mul (aa a) (aa b)=some (aa (a*b)):=p3 oZ oZ;have z:aP false .gtr (aa (b.natAbs:Int)) (aa (q:Int))=some (aD false):=by rw[kV,r]
   simp[ik,k,bF,c1,c2,b3,e,es,f,dR,iH,w,G,H,S,z,p,C,m]
  have E:cY (a*b)=false:=by simpa using C
  have r:decide ((b.natAbs:Int)>(q:Int))=true:=xap (o.2 E);have z:aP false .gtr (aa (b.natAbs:Int)) (aa (q:Int))=some (aD true):=by rw[kV,r]
  simp[ik,k,bF,c1,c2,b3,e,es,dR,iH,w,G,H,S,z,E,m]
 have bY:t.op=8\/t.op=9\/t.op=10\/t.op=11\/t.op=12\/t.op=13\/t.op=14\/t.op=15:=oZ
 have ct:aP false .add (aa a) (aa b)=some (aa (a+b)):=ds oZ oZ;have J:aP false .sub (aa a) (aa b)=some (aa (a-b)):=jX oZ oZ;have U:∀x y:Int,lA n [aD (x==y)]=some (aa (tr (x==y))):=λ_ _=>j _;generalize t.op=op at*;rcases bY with rfl|rfl|rfl|rfl|rfl|rfl|rfl|rfl
 .by_cases u:a=0;.simp[ik,k,bF,c1,c2,b3,e,es,j,f,dR,g,iH,w,u]
  have M:(a==0)=false:=by simpa using u
  simp[ik,k,bF,c1,c2,b3,e,es,j,f,dR,g,iH,w,u,M]
 all_goals simp[ik,k,bF,c1,c2,b3,e,es,j,f,dR,g,iH,w,ct,J]
variable{bn:Bool}
def Sy{a b:Nat}(h:a+b<=1000):bZ (a+b) 8=true:=eB
def Sz{vs:List V}{nx:Bool}{t:Tm}(h:(hB vs nx t).2=0)(ai:3<=t.op):∃i,cX vs t.name=some i:=by
 unfold hB at h;rw[xab oZ,xab oZ]at h;cases ag:cX vs t.name with
 |none=>rw[ag]at h;cases h
 |some i=>exact⟨i,rfl⟩
def JH{vs:List V}{nx:Bool}:∀{l:List Tm},(cT vs nx l).2=0->∀k∈l,(cJ vs nx k).2=0
 |[],_,k,a=>by cases a
 |t::r,h,k,a=>by
  rw[cT]at h;by_cases ab:(cJ vs nx t).2=0
  case neg=>rw[xac ab]at h;exact absurd h ab
  rw[xab (by simpa using ab)]at h;by_cases ad:(cT vs nx r).2=0
  case neg=>rw[xac ad]at h;exact absurd h ad
  rcases xan.1 a with rfl|a;.exact ab
  exact JH ad k a
def zQ{vs:List V}{nx:Bool}{t k:Tm}(c:Valid t)(h:(cJ vs nx t).2=0)(a:k∈t.aC):(cJ vs nx k).2=0:=by
 rw[j3]at h;by_cases b:t.op<=4;.rw[c.leaf b]at a;cases a
 rw[xab b]at h;by_cases ak:(cT vs nx t.aC).2=0;.exact JH ak k a
 rw[xac ak]at h;exact absurd h ak
def JI{vs:List V}{i:Nat}{l:lY}(h:i<vs.length)(ah:l.length=vs.length):∃x,l[i]?=some x:=⟨_,xaa oZ⟩
@[simp] theorem amD (p:lY) (x:Int):D.aw 1 (aF (bV p)++[[aa x]])=bV (p++[x]):=by simp[bV]
@[simp] theorem amE (p:lY):(aF (bV p)).length=p.length:=by simp[bV]
@[simp] theorem amF (p:lY):D.aw 1 (aF (bV p))=bV p:=rfl
def SA(vs:List V)(nx:Bool)(s nn:lY)(C:vs.length<1000000000000)(aj:s.length=vs.length):∀(n:Nat)(t:Tm),t.aO+200+vs.length<n->t.Ok->Valid t->(cJ vs nx t).2=0->(steps t=true->nn.length=vs.length)->nJ n [aM vs,t.d,bV s,fA bn nn]=some (.az [aa (dd vs s nn t).1,aD (dd vs s nn t).2])
 |0,t,h,_,_,_,_=>absurd h (xaI _)
 |n+1,t,cL,N,o,G,z=>by
  have cz:=o.op;have bY:=o.vD;rw[lE];show ik (nJ n) n (aM vs) t.d (bV s) (fA bn nn)=_;by_cases J:t.op<=4
  .rw[xac J];rw[j3,xac J]at G;have bF:=Tm.kW t;have c1:=Tm.ns t;have c2:=Tm.nt t;have b3:=Tm.me t;have H:=Tm.jf t;have B:=Sl n;have g:=Sm n;by_cases ad:t.op<=2
   .unfold hC;rw[xac ad];have L:t.op=1\/t.op=2:=oZ
    generalize t.op=op at*;rcases L with rfl|rfl<;>simp[ik,H,bF,c1,c2,b3]
   obtain⟨i,ag⟩:=Sz G oZ;obtain⟨v,Q,v2,v3⟩:=qF ag;have P:=JA n vs t.name oZ C;rw[ag]at P;have j:(if t.op=4 then nn else s).length=vs.length:=by
    by_cases h:t.op=4;.rw[xac h];exact z (by rw[Es,h];rfl)
    rw[xab h];exact aj
   have M:jq vs s nn t=some i:=by unfold jq;rw[xac j,ag]
   obtain⟨x,b⟩:=JI v3 j;unfold hC;rw[xab ad,M];simp only[Q,b];have L:t.op=3\/t.op=4:=oZ
   generalize t.op=op at*;rcases L with rfl|rfl
   .simp only[show¬((3:Int)=4) by omega,xaF]at b;cases K:v.bool<;>simp[ik,H,bF,c1,c2,b3,P,eH Q,v.o9,k1 b,B,g,K]
   simp only[xaE]at b;cases K:v.bool<;>simp[ik,H,bF,c1,c2,b3,P,eH Q,v.o9,Sv b,B,g,K]
  rw[xab J];have A:∀k∈t.aC,steps k=true->nn.length=vs.length:=λk cv h=>by refine z ?_;cases R:kF t.aC with|true=>rw[Es,R,Bool.or_true]|false=>rw[Sq cv R]at h;cases h
  have ah:=cd (f:=qj (nJ n) n) t.aC (λi (p:lY)=>[aM vs,bV s,fA bn nn,aa (if t.op=6\/t.op=7 then p.sum else 0),aa (i:Int),aa t.op,aa t.num,aA t.name,bM 4 t.nl (Tm.rows t.aC),bV p]) (λr p=>match eT vs s nn r with
    |some l=>(Sum.inl [aa (if t.op=6\/t.op=7 then(p++l).sum else 0),aa t.op,aa t.num,aA t.name,bM 4 t.nl (Tm.rows t.aC),bV (p++l)]:lZ⊕D)
    |none=> .inr (.az [aa 0,aD false]))
   (λi p=>p.length=i/\∀v∈p,cY v=true) ?_ ?_ n 0 [] ⟨rfl,by simp⟩ oZ (xah _)
  .have X:(aa ((0:Nat):Int))=aa 0:=rfl;have Y:bV []= .aw 1 []:=rfl;rw[X,Y]at ah;simp only[List.sum_nil,ite_self,xak,xaM]at ah;cases q:eT vs s nn t.aC with
   |none=>
    rw[q]at ah;have S:(t.op==1)=false:=uZ
    have T:(t.op==2)=false:=uZ
    have U:(t.op==3)=false:=uZ
    have W:(t.op==4)=false:=uZ
    simp[ik,S,T,U,W,ah]
   |some l=>rw[q]at ah;obtain⟨g1,g2,g3,g4⟩:=Su (nx:=nx) o G oZ q;exact agC (nJ n) n vs s nn t l o g1 oZ g2 g3 g4 ah
  .intro p E;simp[qj,eT]
  intro i a p w ag E;have u:=xad w;have cy:=Tm.gC u;have F:=SA vs nx s nn C aj n a oZ (N.dx u) (o.dx u) (zQ o G u) (A a u);have m:bZ (p.length+1) 8=true:=Sy oZ;by_cases ak:(dd vs s nn a).2=true
  .left;have y:=Sr (o.dx u) ak;refine⟨p++[(dd vs s nn a).1],?_,?_,by simp[E.1],?_⟩
   .have b5:=JD p E.2;have bX:=(gS _).1 y;have e:aP false .add (aa p.sum) (aa (dd vs s nn a).1)=some (aa (p.sum+(dd vs s nn a).1)):=ds oZ oZ;by_cases c:t.op=6\/t.op=7
    .have b6:(if t.op=6 then true else decide (t.op=7))=true:=by rcases c with h|h<;>simp[h]
     rcases c with h|h;.simp[qj,ag,Tm.e9 w,F,ak,bu i,m,h,e]
     simp[qj,ag,Tm.e9 w,F,ak,bu i,m,h,e]
    have Z:¬t.op=6:=λh=>c (.inl h);have bU:¬t.op=7:=λh=>c (.inr h);simp[qj,ag,Tm.e9 w,F,ak,bu i,m,Z,bU]
   .rw[eT,xac ak];cases eT vs s nn (t.aC.drop (i+1))with|none=>rfl|some l=>simp
   intro v O;rcases xar.1 O with h|h
   .exact E.2 v h
   simp at h;rw[h];exact y
  right;rw[eT,xab ak];have I:(dd vs s nn a).2=false:=by simpa using ak
  simp[qj,ag,Tm.e9 w,F,I]
theorem agD{M:List (Value×D)}(h:ij M){z:Value}{x:ByteArray}:gA .string z false M (aA x)=some (match eu M x with|some d=>d|none=>lO z):=by simp only[gA,aA,NO h];cases eu M x<;>rfl
def vI(p:Int×Bool):eK 0 (ed p)=some (aa (if p.2=true then p.1 else 0)):=by obtain⟨v,o⟩:=p;cases o<;>simp[ed]
def vJ(p:Int×Bool):eK 1 (ed p)=some (aD p.2):=by obtain⟨v,o⟩:=p;cases o<;>simp[ed]
def Ev(p:Int×Bool):D.az [aa (if p.2=true then p.1 else 0),aD p.2]=ed p:=by obtain⟨v,o⟩:=p;cases o<;>simp[ed]
theorem agE(p:Int×Bool):(ed p).flat=true:=by obtain⟨v,o⟩:=p;cases o<;>rfl
def SB(vs:List V)(nx:Bool)(s nn:lY)(M:List (Value×D))(J:Ei M vs)(Q:vs.length<1000000000000)(aj:s.length=vs.length)(o:∀v,v∈s\/v∈nn->-9223372036854775808<=v/\v<=9223372036854775807):∀(n:Nat)(t:Tm),t.aO+200<n->t.Ok->Valid t->(cJ vs nx t).2=0->oK n [t.d,bV s,.mp M,fA bn nn,aM vs]=some [ed (dd vs s nn t),bV s,.mp M,fA bn nn,aM vs]
 |0,t,h,_,_,_=>absurd h (xaI _)
 |n+1,t,cL,O,q,H=>by
  have cv:=q.op;have bX:=q.vD;rw[lE];show oJ (oK n) n [t.d,bV s,.mp M,fA bn nn,aM vs]=_;have ah:=cd (f:=xB (oK n) n) t.aC (λi (p:lY)=>[bM 4 t.nl (Tm.rows t.aC),aa t.aC.length,aa (i:Int),bV s,.mp M,fA bn nn,aM vs,aa t.op,aa t.num,aA t.name,bM 4 t.nl (Tm.rows t.aC),bV p]) (λr p=>match eT vs s nn r with|some l=>(Sum.inl [bV s,.mp M,fA bn nn,aM vs,aa t.op,aa t.num,aA t.name,bM 4 t.nl (Tm.rows t.aC),bV (p++l)]:lZ⊕lZ)|none=> .inr [.az [aa 0,aD false],bV s,.mp M,fA bn nn,aM vs])
   (λi p=>p.length=i) ?_ ?_ n 0 [] rfl oZ (xah _)
  .have bY:(aa ((0:Nat):Int))=aa 0:=rfl;have bU:bV []= .aw 1 []:=rfl;have cz:D.az [aa 0,aD false]=ed (0,false):=rfl;rw[bY,bU]at ah;simp only[xak,xaM]at ah;have bF:=Tm.kW t;have c1:=Tm.ns t;have c2:=Tm.nt t;have b3:=Tm.me t;have w:=Tm.jf t;by_cases F:t.op<=4
   .rw[xac F];rw[j3,xac F]at H;have C:=q.leaf F;rw[C]at ah;have z0:((([]:List Tm).length:Nat):Int)=0:=rfl;simp only[eT,z0]at ah;have b5:D.aw 1 []=bV []:=rfl;have E:=Sk n;by_cases ad:t.op<=2
    .unfold hC;rw[xac ad];have B:t.op=1\/t.op=2:=oZ
     generalize t.op=op at*;rcases B with rfl|rfl<;>simp[oJ,w,bF,c1,c2,b3,C,ah,ed]
    obtain⟨i,ag⟩:=Sz H oZ;obtain⟨v,R,v2,v3⟩:=qF ag;have g:=agD J.1 (z:= .int .i64 0) (x:=t.name);rw[J.2,ag]at g;simp only[xaH]at g;have e:iX (.mp M)=some M:=rfl;unfold hC;rw[xab ad];have B:t.op=3\/t.op=4:=oZ
    have S:(t.op==3||t.op==4)=true:=by rcases B with h|h<;>simp[h]
    by_cases b:(if t.op=4 then nn else s).length=vs.length
    .have m:jq vs s nn t=some i:=by unfold jq;rw[xac b,ag]
     obtain⟨x,c⟩:=JI v3 b;have j:=xad c;rw[m];simp only[R,c];have k:kE (x+0) true=ed (x,cY x):=by rw[Sp,Int.add_zero]
     generalize t.op=op at*;rcases B with rfl|rfl
     .simp only[show¬((3:Int)=4) by omega,xaF]at c j b;have A:=Ek n x 0 (o x (.inl j)) oZ;rw[k]at A;cases L:v.bool<;>simp[oJ,w,bF,c1,c2,b3,C,ah,e,g,pb,jn,b,eH R,v.o9,k1 c,E,L,A,vI,vJ]<;>(try exact Ev (x,cY x))<;>(try rfl)
     simp only[xaE]at c j b;have A:=Ek n x 0 (o x (.inr j)) oZ;rw[k]at A;cases L:v.bool<;>simp[oJ,w,bF,c1,c2,b3,C,ah,e,g,jn,b,eH R,v.o9,Sv c,E,L,A,vI,vJ]<;>(try exact Ev (x,cY x))<;>(try rfl)
    have m:jq vs s nn t=none:=by unfold jq;rw[xab b]
    rw[m];have y:t.op=4:=by refine B.resolve_left λh=>b ?_;rw[xab oZ];exact aj
    rw[xac y]at b;generalize t.op=op at*;subst y;have N:¬((nn.length:Int)=(vs.length:Int)):=oZ
    simp[oJ,w,bF,c1,c2,b3,C,ah,e,g,jn,N]<;>(try rfl)
   rw[xab F];have W:(t.op==1)=false:=uZ
   have X:(t.op==2)=false:=uZ
   have Y:(t.op==3)=false:=uZ
   have Z:(t.op==4)=false:=uZ
   cases u:eT vs s nn t.aC with
   |none=>rw[u]at ah;simp[oJ,w,bF,c1,c2,b3,ah]<;>(try rfl)
   |some l=>rw[u]at ah;obtain⟨g1,g2,g3,g4⟩:=Su (nx:=nx) q H oZ u;have b6:=ags n t l q g1 oZ g2 oZ g3 g4;simp[oJ,w,bF,c1,c2,b3,ah,W,X,Y,Z,b6,agE,vI,vJ,Ev]
  .intro p T;simp[xB,eT]
  intro i a p K ag T;have G:=xad K;have cy:=Tm.gC G;have U:=SB vs nx s nn M J Q aj o n a oZ (O.dx G) (q.dx G) (zQ q H G);have P:bZ (p.length+1) 8=true:=Sy oZ;by_cases ak:(dd vs s nn a).2=true
  .left;refine⟨p++[(dd vs s nn a).1],?_,?_,by simp[T]⟩;.simp[xB,ag,Tm.e9 K,U,ak,bu i,P,vI,vJ]
   rw[eT,xac ak];cases eT vs s nn (t.aC.drop (i+1))with|none=>rfl|some l=>simp
  right;rw[eT,xab ak];have I:(dd vs s nn a).2=false:=by simpa using ak
  simp[xB,ag,Tm.e9 K,U,I,vI,vJ]
def SC:∀(n:Nat)(t:Tm),t.aO<n->t.Ok->nI n [t.d]=some (aD (steps t))
 |0,t,h,_=>absurd h (xaI _)
 |n+1,t,o,b=>by
  have g:=b.len;rw[Es];have ah:=cd (f:=yp (nI n) n) t.aC (λi (_:Unit)=>[aa (i:Int),aa t.op,aa t.num,aA t.name,bM 4 t.nl (Tm.rows t.aC)]) (λr _=>if kF r=true then(Sum.inr (aD true):lZ⊕D)else .inl []) (λ_ _=>True) (λ_ _=>by simp[yp,kF]) ?_ n 0 () trivial (by have:=t.ie;omega) (xah _)
  .have l:(aa ((0:Nat):Int))=aa 0:=rfl;rw[l]at ah;simp only[xak]at ah;by_cases c:t.op=4;.simp[nI,CO,c]
   have m:(t.op==4)=false:=by simpa using c
   cases aj:kF t.aC<;>simp[nI,CO,c,ah,aj]
  intro i a _ e ag _;have j:=xad e;have p:=Tm.gC j;have k:=SC n a oZ (b.dx j);cases aj:steps a
  .left;exact⟨(),by simp[yp,ag,Tm.e9 e,k,aj,bu i],by simp[kF,aj],trivial⟩
  right;simp[yp,ag,Tm.e9 e,k,aj,kF]
def SD{vs:List V}{s nn:lY}:∀{l:List Tm}{r:lY},eT vs s nn l=some r->∀k∈l,(dd vs s nn k).2=true
 |[],_,_,k,a=>by cases a
 |t::q,r,h,k,a=>by
  rw[eT]at h;by_cases ab:(dd vs s nn t).2=true
  case neg=>rw[xab ab]at h;cases h
  rw[xac ab]at h;cases ad:eT vs s nn q with
  |none=>rw[ad]at h;cases h
  |some l=>
   rcases xan.1 a with rfl|a;.exact ab
   exact SD ad k a
def SE:∀{l:List Tm},kF l=true->∃k∈l,steps k=true
 |a::r,h=>by rw[kF]at h;cases b:steps a with|true=>exact⟨a,by simp,b⟩|false=>rw[b,xbG]at h;obtain⟨k,ab,ad⟩:=SE h;exact⟨k,by simp[ab],ad⟩
def agF{vs:List V}{s nn:lY}(c:nn.length≠vs.length)(t:Tm):Valid t->steps t=true->(dd vs s nn t).2=false:=by
 refine Tm.ind (P:=λt=>Valid t->steps t=true->(dd vs s nn t).2=false) ?_ t;intro t ih d h;rw[lE];rw[Es]at h;by_cases a:t.op<=4
 .rw[xac a];have b:t.op=4:=by
   rw[d.leaf a]at h;simpa[kF]using h
  unfold hC;rw[xab oZ];have:jq vs s nn t=none:=by unfold jq;rw[xac b,xab c]
  rw[this]
 rw[xab a];have e:(t.op==4)=false:=uZ
 rw[e,xbG]at h;obtain⟨k,ab,ad⟩:=SE h;cases ah:eT vs s nn t.aC with|none=>rfl|some l=>have:=SD ah k ab;rw[ih k ab (d.dx ab) ad]at this;cases this
def fi(vs:List V)(t:Tm)(s nn:lY):Int×Bool:=if(eZ vs true t).2≠0\/s.length≠vs.length then(0,false)else dd vs s nn t
def zR{vs:List V}{nx:Bool}{t:Tm}(h:(eZ vs nx t).2=0):Valid t/\(cJ vs nx t).2=0:=by
 unfold eZ at h;by_cases a:(ck t 1 0).1=0;.rw[xab (by simpa using a)]at h;exact⟨⟨1,0,a⟩,h⟩
 rw[xac a]at h;exact absurd h a
def SF(n:Nat)(vs:List V)(t:Tm)(s nn:lY)(m:t.aO+200+vs.length<n)(b:t.Ok)(a:vs.length<1000000000000)(g:∀v,v∈s\/v∈nn->-9223372036854775808<=v/\v<=9223372036854775807):nM n [aM vs,t.d,bV s,fA bn nn]=some (ed (fi vs t s nn)):=by
 have ab:=Sd n vs t true m b a;obtain⟨M,m1,m2⟩:=R9 n vs oZ a;have i:da (aM vs)=true:=rfl;have j:∀l,da (bV l)=true:=λ_=>rfl;have c:D.az [aa 0,aD false]=ed (0,false):=rfl;unfold fi;by_cases f:(eZ vs true t).2=0
 .by_cases aj:s.length=vs.length
  .obtain⟨o,h⟩:=zR f;have k:=SB (bn:=bn) vs true s nn M m2 a aj g n t oZ b o h;have e:((s.length:Int) !=(vs.length:Int))=false:=by simp[aj]
   simp[nM,DE,i,j,ab,f,aj,pb,jn,m1,k,vI,vJ,Ev]
  have e:¬((s.length:Int)=(vs.length:Int)):=oZ
  simp[nM,DE,i,j,ab,f,aj,pb,jn,e];exact c
 simp[nM,DE,i,j,ab,f];exact c
def SG(n:Nat)(vs:List V)(t:Tm)(s nn:lY)(w:t.aO+200+vs.length<n)(b:t.Ok)(i:vs.length<1000000000000):mu n [aM vs,t.d,bV s,fA bn nn]=some (ed (fi vs t s nn)):=by
 have ab:=Se n vs t true w b i;have ad:=SC n t oZ b;have f:D.az [aa 0,aD false]=ed (0,false):=rfl;unfold fi;by_cases e:(eZ vs true t).2=0
 .by_cases aj:s.length=vs.length
  .obtain⟨x,q⟩:=zR e;by_cases a:steps t=true/\nn.length≠vs.length
   .have r:=agF (s:=s) a.2 t x a.1;have m:¬((nn.length:Int)=(vs.length:Int)):=by have:=a.2;omega
    have j:ed (dd vs s nn t)= .az [aa 0,aD false]:=by unfold ed;rw[xab (by simp[r])]
    simp[mu,uG,ab,ad,e,aj,pb,jn,a.1,m,j]
   have u:=SA (bn:=bn) vs true s nn i aj n t w b x q (λh=>by refine xbi λl=>a ⟨h,l⟩);have j:ed (dd vs s nn t)=if(dd vs s nn t).2=true then .az [aa (dd vs s nn t).1,aD true]else .az [aa 0,aD false]:=rfl
   by_cases c:steps t=true;.have o:nn.length=vs.length:=xbi λl=>a ⟨c,l⟩;cases k:(dd vs s nn t).2<;>simp[mu,uG,ab,ad,e,aj,pb,jn,c,o,u,k,j]
   have g:steps t=false:=by simpa using c
   cases k:(dd vs s nn t).2<;>simp[mu,uG,ab,ad,e,aj,pb,jn,g,u,k,j]
  have p:¬((s.length:Int)=(vs.length:Int)):=oZ
  simp[mu,uG,ab,ad,e,aj,pb,jn,p];exact f
 simp[mu,uG,ab,ad,e];exact f
def SH{lo ag x y:Int}(ab:lo<=x)(ad:x<=ag):hY (lo*y) (ag*y)<=x*y/\x*y<=dU (lo*y) (ag*y):=by
 by_cases c:0<=y;.have a:=Int.mul_le_mul_of_nonneg_right ab c;have b:=Int.mul_le_mul_of_nonneg_right ad c;unfold hY dU;constructor<;>split<;>omega
 have a:=Int.mul_le_mul_of_nonpos_right ab (oZ:y<=0);have b:=Int.mul_le_mul_of_nonpos_right ad (oZ:y<=0);unfold hY dU;constructor<;>split<;>omega
def SI{lo ag x y:Int}(ab:lo<=x)(ad:x<=ag):hY (y*lo) (y*ag)<=y*x/\y*x<=dU (y*lo) (y*ag):=by have:=SH (y:=y) ab ad;rw[Int.mul_comm lo y,Int.mul_comm ag y,Int.mul_comm x y]at this;exact this
def agG{a b:Y}{x y:Int}(d:a.lo<=x/\x<=a.ag)(c:b.lo<=y/\y<=b.ag):vA a b<=x*y/\x*y<=vB a b:=by have ab:=SH (y:=y) d.1 d.2;have ad:=SI (y:=a.lo) c.1 c.2;have ai:=SI (y:=a.ag) c.1 c.2;unfold vA vB;generalize x*y=p at*;generalize a.lo*y=q at*;generalize a.ag*y=r at*;generalize a.lo*b.lo=s at*;generalize a.lo*b.ag=t at*;generalize a.ag*b.lo=u at*;generalize a.ag*b.ag=v at*;unfold hY dU at*;omega
def agH{lo ag v:Int}(h:(eS lo ag).2=0)(ab:lo<=v)(ad:v<=ag):(eS lo ag).1.lo<=v/\v<=(eS lo ag).1.ag:=by
 unfold eS at*;split at h;.cases h
 rename_i a;rw[xab a];exact⟨ab,ad⟩
def ee(vs:List V)(s:lY):Prop:=s.length=vs.length/\∀(i:Nat)(v:V)(x:Int),vs[i]?=some v->s[i]?=some x->if v.bool then x=0\/x=1 else v.lo<=x/\x<=v.ag
def within(y:Y)(v:Int):Prop:=if y.b then v=0\/v=1 else y.lo<=v/\v<=y.ag
def qI{lo ag v:Int}(h:(eS lo ag).2=0)(ab:lo<=v)(ad:v<=ag):within (eS lo ag).1 v:=by unfold within;rw[vG];exact agH h ab ad
def pc{y:Y}{b:Bool}(h:y.b=true):within y (tr b):=by unfold within;rw[xac h];exact zP b
def SJ{lo ag:Int}(h:(eS lo ag).2=0):-1048576<=lo/\ag<=1048576/\lo<=ag:=by
 unfold eS at h;split at h;.cases h
 omega
def agI{vs:List V}{s nn:lY}{t:Tm}(aj:ee vs s)(n:ee vs nn)(j:Valid t)(h:(hB vs true t).2=0):(hC vs s nn t).2=true/\within (hB vs true t).1 (hC vs s nn t).1:=by
 have f:=j.num;unfold hB at*;unfold hC;by_cases ab:t.op=1;.rw[xac ab]at*;rw[xac oZ];exact⟨rfl,qI h (Int.le_refl _) (Int.le_refl _)⟩
 rw[xab ab]at*;by_cases ad:t.op=2;.rw[xac ad]at*;rw[xac oZ];refine⟨rfl,?_⟩;unfold within;simp only[gi,xaE];omega
 rw[xab ad]at*;have m:=j.op;rw[xab (show¬t.op<=2 by omega)];cases ag:cX vs t.name with
 |none=>rw[ag]at h;cases h
 |some i=>
  rw[ag]at h;simp only at h⊢;obtain⟨v,d,v2,v3⟩:=qF ag;have b:¬(t.op=4/\true=false):=sZ
  rw[xab b,d]at h;rw[xab b,d];simp only at h⊢;have a:ee vs (if t.op=4 then nn else s):=by split<;>assumption
  have e:jq vs s nn t=some i:=by unfold jq;rw[xac a.1,ag]
  obtain⟨x,k⟩:=JI v3 a.1;rw[e];simp only[k,d];have g:=a.2 i v x d k;by_cases c:v.bool=true
  .rw[xac c]at*;rw[xac c];exact⟨rfl,pc rfl⟩
  rw[xab c]at*;rw[xab c];have l:=SJ h;exact⟨(gS _).2 oZ,qI h g.1 g.2⟩
def agJ{l:List Y}{a:lY}(ah:l.all Y.b=true)(d:a.length=l.length)(h:∀(i:Nat)(y:Y)(v:Int),l[i]?=some y->a[i]?=some v->within y v):∀v∈a,v=0\/v=1:=by
 intro v g;obtain⟨i,ag⟩:=xaJ.1 g;have c:i<l.length:=by have:=(lV.1 ag).1;omega
 have j:=xaa c;have f:=xax.1 ah _ (xaX c);have e:=h i _ v j ag;unfold within at e
 rwa [xac f]at e
def agK{t:Tm}{a b c:Y}(h:¬(5<=t.op/\t.op<=9)):eG t [a,b,c]=if(!a.b||(b.b !=c.b))then(dz,13)else if b.b then(gi,0)else eS (hY b.lo c.lo) (dU b.ag c.ag):=by unfold eG;rw[xab h]
def agL{t:Tm}{a b:Y}(h:¬(5<=t.op/\t.op<=9)):eG t [a,b]=if t.op=10\/t.op=11 then if a.b !=b.b then(dz,13)else(gi,0)
   else if(a.b||b.b)then(dz,13)
   else if t.op=12\/t.op=13 then(gi,0)
   else if t.op=17 then(match t.aC[1]? with
    |some k=>if k.op≠1\/k.num<1 then(dz,2)else eS 0 (k.num-1)
    |none=>(dz,0))
   else kD t.op a b:=by
 unfold eG;rw[xab h]<;>rfl
def agM{op a b c:Int}(d:¬op=6)(e:¬op=7):dR op [a,b,c]=(if a=1 then b else c,cY (if a=1 then b else c)):=by unfold dR;rw[xab d,xab e]
def agN{op a b:Int}(c:¬op=6)(d:¬op=7):dR op [a,b]=if op=8 then(tr (a==0||b==1),true)else if op=9\/op=10 then(tr (a==b),true)else if op=11 then(tr (a !=b),true)
   else if op=12 then(tr (decide (a<b)),true)else if op=13 then(tr (decide (a<=b)),true)
   else if op=14 then(a+b,cY (a+b))else if op=15 then(a-b,cY (a-b))
   else if op=16 then if cY (a*b)then(a*b,true)else(0,false)
   else((a.tmod b+b).tmod b,cY ((a.tmod b+b).tmod b)):=by
 unfold dR;rw[xab c,xab d]
def agO{t:Tm}{l:List Y}{f:lY}(V:Valid t)(eW:5<=t.op)(d:(eG t l).2=0)(J:∀y∈l,y.hP)(b6:l.length=t.aC.length)(o:f.length=l.length) (s:∀(i:Nat)(y:Y)(v:Int),l[i]?=some y->f[i]?=some v->within y v) (dS:t.op=17->∀k v,t.aC[1]?=some k->f[1]?=some v->v=k.num):(dR t.op f).2=true/\within (eG t l).1 (dR t.op f).1:=by
 have dN:=V.op;have e:=V.len;have r:5<=t.op/\t.op<=9->(eG t l).1.b=true:=λh=>by have:=Et d h;unfold eG;rw[xac h,xac this];rfl
 by_cases S:t.op=6\/t.op=7
 .have m:=r oZ;unfold dR;rcases S with h|h
  .rw[xac h];exact⟨rfl,pc m⟩
  rw[xab oZ,xac h];exact⟨rfl,pc m⟩
 by_cases R:t.op=5
 .have m:=r oZ;have:eh t.op=(1,1):=by rw[R];rfl
  rw[this]at e;have W:f.length=1:=by simp only at e;omega
  match f,W,o,s with|[a],_,o,s=>have cU:=agJ (Et d oZ) o s a sZ;have C:cY (1-a)=true:=(gS _).2 oZ;unfold dR;rw[xab oZ,xab oZ];refine⟨C,?_⟩;unfold within;rw[xac m];simp only;omega
 have bY:¬t.op=6:=oZ
 have bU:¬t.op=7:=oZ
 by_cases Q:t.op=18
 .rw[ss Q]at e;obtain⟨a,b,c,rfl⟩:=o8 (l:=l) (by simp only at e;omega);obtain⟨x,y,z,rfl⟩:=o8 (l:=f) (by simpa using o);have p:¬(5<=t.op/\t.op<=9):=oZ
  obtain⟨eQ,Z,eO⟩:=JG d p;have I:=s 0 a x rfl rfl;have u:=s 1 b y rfl rfl;have L:=s 2 c z rfl rfl;have M:=J b sZ;have gc:=J c sZ;unfold within at I u L;rw[agM bY bU];rw[agK p]at d⊢;have T:¬(!a.b||(b.b !=c.b))=true:=by rw[eQ,Z];simp
  rw[xab T]at d⊢;by_cases m:b.b=true
  .rw[xac m];rw[xac m]at u;rw[<-Z,xac m]at L;by_cases H:x=1;.rw[xac H];have q:cY y=true:=(gS _).2 oZ;refine⟨q,?_⟩;unfold within;simp only[gi,xaE];exact u
   rw[xab H];have q:cY z=true:=(gS _).2 oZ;refine⟨q,?_⟩;unfold within;simp only[gi,xaE];exact L
  rw[xab m]at d⊢;rw[xab m]at u;rw[<-Z,xab m]at L;obtain⟨_,cv,cz,cL⟩:=M;obtain⟨_,c1,c2,b3⟩:=gc;have dA:hY b.lo c.lo<=b.lo/\hY b.lo c.lo<=c.lo:=by unfold hY;split<;>omega
  have eI:b.ag<=dU b.ag c.ag/\c.ag<=dU b.ag c.ag:=by unfold dU;split<;>omega
  by_cases H:x=1;.rw[xac H];have q:cY y=true:=(gS _).2 oZ;exact⟨q,qI d oZ oZ⟩
  rw[xab H];have q:cY z=true:=(gS _).2 oZ;exact⟨q,qI d oZ oZ⟩
 rw[qE (oZ:8<=t.op/\t.op<=17)]at e;obtain⟨a,b,rfl⟩:=lD (l:=l) (by simp only at e;omega);obtain⟨x,y,rfl⟩:=lD (l:=f) (by simpa using o);have I:=s 0 a x rfl rfl;have u:=s 1 b y rfl rfl;have cy:=J a sZ;have M:=J b sZ;rw[agN bY bU];by_cases b5:t.op=8
 .rw[xac b5];exact⟨rfl,pc (r oZ)⟩
 rw[xab b5];by_cases di:t.op=9;.rw[xac (Or.inl di)];exact⟨rfl,pc (r oZ)⟩
 have p:¬(5<=t.op/\t.op<=9):=oZ
 rw[agL p]at d⊢;by_cases w:t.op=10\/t.op=11
 .rw[xac w]at d⊢;by_cases E:(a.b !=b.b)=true;.rw[xac E]at d;cases d
  rw[xab E];rcases w with h|h
  .rw[xac (Or.inr h)];exact⟨rfl,pc rfl⟩
  have U:¬(t.op=9\/t.op=10):=oZ
  rw[xab U,xac h];exact⟨rfl,pc rfl⟩
 rw[xab w]at d⊢;have D:¬(t.op=9\/t.op=10):=oZ
 have N:¬t.op=11:=oZ
 rw[xab D,xab N];by_cases E:(a.b||b.b)=true;.rw[xac E]at d;cases d
 rw[xab E]at d⊢;have eb:a.b=false/\b.b=false:=by cases cU:a.b<;>cases m:b.b<;>simp_all
 have G:¬(false=true):=sZ
 unfold within at I u;rw[eb.1,xab G]at I;rw[eb.2,xab G]at u;obtain⟨_,aE,a2,a3⟩:=cy;obtain⟨_,cv,cz,cL⟩:=M;by_cases g:t.op=12\/t.op=13
 .rw[xac g];rcases g with h|h
  .rw[xac h];exact⟨rfl,pc rfl⟩
  have U:¬t.op=12:=oZ
  rw[xab U,xac h];exact⟨rfl,pc rfl⟩
 rw[xab g]at d⊢;have O:¬t.op=12:=oZ
 have P:¬t.op=13:=oZ
 rw[xab O,xab P];by_cases B:t.op=17
 .rw[xac B]at d⊢;have j:¬t.op=14:=oZ
  have n:¬t.op=15:=oZ
  have A:¬t.op=16:=oZ
  rw[xab j,xab n,xab A];cases K:t.aC[1]? with
  |none=>have:=xcj.1 K;simp only at e;omega
  |some k=>
   rw[K]at d;simp only at d⊢;by_cases bX:k.op≠1\/k.num<1;.rw[xac bX]at d;cases d
   rw[xab bX]at d⊢;have X:=dS B k y K rfl;subst X;have dD:=(V.dx (xad K)).num;have m1:=zN (a:=x) (b:=k.num) oZ;have m2:=zN (a:=x.tmod k.num+k.num) (b:=k.num) oZ;have m3:=Int.tmod_nonneg (a:=x.tmod k.num+k.num) k.num oZ;have q:cY ((x.tmod k.num+k.num).tmod k.num)=true:=(gS _).2 oZ;exact⟨q,qI d m3 oZ⟩
 rw[xab B]at d⊢;unfold kD at d⊢;by_cases n:t.op=15
 .have j:¬t.op=14:=oZ
  simp only[xac n,xab j]at d⊢;have q:cY (x-y)=true:=(gS _).2 oZ;exact⟨q,qI d oZ oZ⟩
 by_cases j:t.op=14;.simp only[xab n,xac j]at d⊢;have q:cY (x+y)=true:=(gS _).2 oZ;exact⟨q,qI d oZ oZ⟩
 have A:t.op=16:=oZ
 simp only[xab j,xab n,xac A]at d⊢;have F:=agG I u;have de:=SJ d;have C:cY (x*y)=true:=(gS _).2 oZ;simp only[xac C];exact⟨trivial,qI d F.1 F.2⟩
def SK{vs:List V}{s nn:lY}:∀{l:List Tm},(∀k∈l,(dd vs s nn k).2=true)->eT vs s nn l=some (l.map λk=>(dd vs s nn k).1)
 |[],_=>rfl|t::r,h=>by rw[eT,xac (h t sZ),SK λk a=>h k (by simp[a])];rfl
def SL{vs:List V}{nx:Bool}:∀{l:List Tm},(cT vs nx l).2=0->(cT vs nx l).1=l.map λk=>(cJ vs nx k).1
 |[],_=>rfl
 |t::r,h=>by
  rw[cT]at*;by_cases ab:(cJ vs nx t).2=0
  case neg=>rw[xac ab]at h;exact absurd h ab
  have a:¬(cJ vs nx t).2≠0:=by simpa using ab
  rw[xab a]at h⊢;by_cases ad:(cT vs nx r).2=0
  case neg=>rw[xac ad]at h;exact absurd h ad
  have b:¬(cT vs nx r).2≠0:=by simpa using ad
  rw[xab b];simp[SL ad]
def SM{vs:List V}{s nn:lY}(aj:ee vs s)(r:ee vs nn)(t:Tm):Valid t->(cJ vs true t).2=0->(dd vs s nn t).2=true/\within (cJ vs true t).1 (dd vs s nn t).1:=by
 refine Tm.ind (P:=λt=>Valid t->(cJ vs true t).2=0->(dd vs s nn t).2=true/\within (cJ vs true t).1 (dd vs s nn t).1) ?_ t;intro t ih b h;have m:∀k∈t.aC,(cJ vs true k).2=0:=λk m=>zQ b h m;rw[j3]at h⊢;rw[lE];by_cases j:t.op<=4
 .rw[xac j]at*;rw[xac j];exact agI aj r b h
 rw[xab j]at h⊢;rw[xab j];by_cases ak:(cT vs true t.aC).2=0
 case neg=>rw[xac ak]at h;exact absurd h ak
 have n:¬(cT vs true t.aC).2≠0:=by simpa using ak
 rw[xab n]at h⊢;have q:eT vs s nn t.aC=_:=SK λk a=>(ih k a (b.dx a) (m k a)).1;rw[q];simp only;obtain⟨g1,g2⟩:=vC vs true t.aC ak;have p:=SL ak;refine agO b oZ h g2 g1 (by rw[g1];simp) ?_ ?_
 .intro i y v g e;rw[p]at g;simp only[xag,xae]at g e;obtain⟨k,bT,rfl⟩:=g;obtain⟨u,cM,rfl⟩:=e;rw[bT]at cM;cases cM;exact(ih k (xad bT) (b.dx (xad bT)) (m k (xad bT))).2
 intro o k v c f;simp only[xag,c,xaH,xaD]at f;have d:=b.len;rw[qE oZ]at d;obtain⟨w,x,g⟩:=lD (l:=(cT vs true t.aC).1) (by simp only at d;omega);rw[g]at h;have:=Ss h o c;rw[<-f,lE,xac oZ];unfold hC;rw[xac oZ]
end Go.Am
