/- Laws, on data. No condition. -/
import Derived.Test.YtjonbfbkkkcjgaaGreatDoorLaws
import Derived.Test.YtjonbfbkkkcjgaaGreatDoorEngS
import Derived.KernelRfl
set_option linter.all false
set_option linter.unnecessarySimpa false
namespace Go.Am
structure cv where
 name:ByteArray
 f:Fm
def cv.cells(d:cv):lZ:=[aD d.name,aa d.f.op,aa d.f.e.op,aa d.f.e.num,aD d.f.e.name,bJ 4 d.f.e.nl (Tm.rows d.f.e.aC),bJ 6 d.f.nl (Fm.rows d.f.aC)]
def an(l:List Tm):D:= .aw 4 (Tm.rows l)
def bj(l:List cv):D:= .aw 7 (l.map cv.cells)
def rr{l:List Tm}{i:Nat}{t:Tm}(h:l[i]?=some t):bc 4 (an l) (aa (i:Int))=some t.cells:=by simp[an,Tm.C9 h]
def Ba(l:List Tm):dL (an l)=some (aa l.length):=by simp[an]
attribute [go_sem] Ba
def jS{l:List cv}{i:Nat}{t:cv}(h:l[i]?=some t):bc 7 (bj l) (aa (i:Int))=some t.cells:=by simp[bj,h]
def aif(l:List cv):dL (bj l)=some (aa l.length):=by simp[bj]
attribute [go_sem] aif
def cv.d(d:cv):D:= .agg d.cells
theorem cv.aih(d:cv):aR true 7 0 d.cells=some d.d:=rfl
theorem cv.ys(d:cv):aR true 6 1 d.cells=some d.f.d:=by rw[Fm.gI];rfl
attribute [go_sem] cv.ys
theorem cv.yr(d:cv):aR false 1 0 d.cells=some (aD d.name):=rfl
attribute [go_sem] cv.yr
def cv.agg(d:cv):cz 7 d.d=true:=by unfold cv.d cv.cells;simp[]
theorem cv.bK(d:cv):ad d.d 0=aD d.name:=rfl
theorem cv.c1(d:cv):ad d.d 1=aa d.f.op:=rfl
theorem cv.c2(d:cv):ad d.d 2=aa d.f.e.op:=rfl
theorem cv.b8(d:cv):ad d.d 3=aa d.f.e.num:=rfl
theorem cv.eZ(d:cv):ad d.d 4=aD d.f.e.name:=rfl
theorem cv.jl(d:cv):ad d.d 5=bJ 4 d.f.e.nl (Tm.rows d.f.e.aC):=rfl
theorem cv.jm(d:cv):ad d.d 6=bJ 6 d.f.nl (Fm.rows d.f.aC):=rfl
structure bG where
 vars:List V
 ao:List bd
 bf:List Tm
 bg:List Tm
 next:List bd
 trans:List Tm
 ba:List Tm
 bb:List cv
def bG.d(m:bG):D:= .agg [aO m.vars,ay m.ao,an m.bf,an m.bg,ay m.next,an m.trans,an m.ba,bj m.bb]
section
variable(m:bG)
theorem bG.bK:ad m.d 0=aO m.vars:=rfl
attribute [go_sem] bG.bK
theorem bG.c1:ad m.d 1=ay m.ao:=rfl
attribute [go_sem] bG.c1
theorem bG.c2:ad m.d 2=an m.bf:=rfl
attribute [go_sem] bG.c2
theorem bG.b8:ad m.d 3=an m.bg:=rfl
attribute [go_sem] bG.b8
theorem bG.eZ:ad m.d 4=ay m.next:=rfl
attribute [go_sem] bG.eZ
theorem bG.jl:ad m.d 5=an m.trans:=rfl
attribute [go_sem] bG.jl
theorem bG.jm:ad m.d 6=an m.ba:=rfl
attribute [go_sem] bG.jm
theorem bG.oy:ad m.d 7=bj m.bb:=rfl
attribute [go_sem] bG.oy
theorem bG.agg:cz 8 m.d=true:=rfl
attribute [go_sem] bG.agg
theorem bG.eta:D.agg [aO m.vars,ay m.ao,an m.bf,an m.bg,ay m.next,an m.trans,an m.ba,bj m.bb]=m.d:=rfl
attribute [go_sem] bG.eta
end
def Uk:∀l:List Tm,kz l=l.map eA
 |[]=>rfl|k::r=>by rw[kz,Uk r];rfl
theorem w5(t:Tm):eA t= .mk t.op t.num t.name false (t.aC.map eA):=by cases t;rw[eA,Uk];rfl
def F1(t:Tm):(eA t).aP=t.aP:=by
 refine Tm.ind (P:=λt=>(eA t).aP=t.aP) ?_ t;intro t ih;have key:∀l:List Tm,(∀k∈l,(eA k).aP=k.aP)->Tm.cS (l.map eA)=Tm.cS l:=by
  intro l
  induction l with
  |nil=>intro _;rfl
  |cons a r b=>intro h;simp only[xaw,Tm.cS];rw[h a sZ,b λk c=>h k (by simp[c])]
 rw[Tm.tA,Tm.tA t,w5];show 2+Tm.cS (t.aC.map eA)=_;rw[key _ ih]
def aii(t:Tm):t.Ok->(eA t).Ok:=by
 refine Tm.ind (P:=λt=>t.Ok->(eA t).Ok) ?_ t;intro t ih a;rw[w5];have d:=a.len;obtain⟨i,j,l⟩:(-9223372036854775808<=t.op/\t.op<=9223372036854775807)/\(-9223372036854775808<=t.num/\t.num<=9223372036854775807)/\t.name.size<=140737488355328:=by cases a with|mk o n s b ks g f aj ah e=>exact⟨g,f,aj⟩
 refine .mk _ _ _ _ _ i j l (by simpa using d) ?_;intro k e;obtain⟨h,c,rfl⟩:=xaK.1 e;exact ih h c (a.dj c)
def gO:Int:=9007199254740992
def c5(n:Int):Bool:=decide (-9007199254740992<=n)&&decide (n<=9007199254740992)
def k6(n:Int)(ok:Bool):D:=if ok&&c5 n then .aB [aa n,aE true]else .aB [aa 0,aE false]
def aij(n:Nat)(a:Int)(ok:Bool):Dr n [aa a,aE ok]=some (k6 a ok):=by unfold k6 c5;cases ok<;>simp[Dr,Qr,-Ji,-I3];grind
def F2(n:Nat)(a b:Int)(h:-9223372036854775808<=a/\a<=9223372036854775807)(i:-9223372036854775808<=b/\b<=9223372036854775807):qS n [aa a,aa b]=some (k6 (a+b) true):=by
 have aX:=aij n;by_cases ab:(a<0)=(b<0)
 case neg=>
  have e:IntKind.i64.wrap (a+b)=a+b:=by
   refine wrap64 _ ?_ ?_;.by_cases c:a<0<;>by_cases d:b<0<;>simp[c,d]at ab<;>omega
   by_cases c:a<0<;>by_cases d:b<0<;>simp[c,d]at ab<;>omega
  have f:(decide (a<0) !=decide (b<0))=true:=by by_cases c:a<0<;>by_cases d:b<0<;>simp[c,d]at ab⊢
  simp[qS,Ds,C2,e,f,aX];unfold k6;split<;>simp
 have f:(decide (a<0) !=decide (b<0))=false:=by by_cases c:a<0<;>by_cases d:b<0<;>simp[c,d]at ab⊢
 by_cases g:-9223372036854775808<=a+b/\a+b<=9223372036854775807
 .have e:IntKind.i64.wrap (a+b)=a+b:=wrap64 _ g.1 g.2;have aj:(decide (a<0)==decide (a+b<0))=true:=by
   by_cases c:a<0<;>by_cases d:b<0<;>simp[c,d]at ab⊢<;>omega
  simp[qS,Ds,C2,e,f,aj,aX];unfold k6;split<;>simp
 have e:IntKind.i64.wrap (a+b)=if a<0 then a+b+18446744073709551616 else a+b-18446744073709551616:=by simp only[IntKind.wrap_i64];split<;>omega
 have aj:(decide (a<0)==decide (IntKind.i64.wrap (a+b)<0))=false:=by rw[e];by_cases c:a<0<;>by_cases d:b<0<;>simp[c,d]at ab⊢<;>omega
 simp[qS,Ds,C2,f,aj,aX];have:c5 (a+b)=false:=by unfold c5;simp;omega
 simp[k6,this]
def dQ(n:Int):D:= .val (.int .u64 n)
section
variable{bt:Bool}{a b:Int}
def F3(h:0<=a+b)(c:a+b<18446744073709551616):aV bt .add (dQ a) (dQ b)=some (dQ (a+b)):=by have e:aV bt .add (dQ a) (dQ b)=some (dQ (IntKind.u64.wrap (a+b))):=rfl;rw[e,xcv,Int.emod_eq_of_lt h c]
theorem Ul:aV bt .mul (dQ a) (dQ b)=some (dQ (IntKind.u64.wrap (a*b))):=rfl
def F4(h:0<=a*b)(c:a*b<18446744073709551616):aV bt .mul (dQ a) (dQ b)=some (dQ (a*b)):=by rw[Ul,xcv,Int.emod_eq_of_lt h c]
def aik(h:0<=a):aV bt .shr (dQ a) (dQ 32)=some (dQ (a/4294967296)):=by
 have e:aV bt .shr (dQ a) (dQ 32)=some (dQ (a.fdiv (2^(min (32:Int).toNat IntKind.u64.bits)))):=rfl;rw[e];have:(2:Int)^(min (32:Int).toNat IntKind.u64.bits)=4294967296:=dZ
 rw[this,Int.fdiv_eq_ediv_of_nonneg _ oZ]
def ail(h:0<=a)(i:a<18446744073709551616):aV bt .and (dQ a) (dQ 4294967295)=some (dQ (a%4294967296)):=by
 have e:aV bt .and (dQ a) (dQ 4294967295)=some (dQ (IntKind.u64.wrap ((BitVec.ofInt IntKind.u64.bits a&&&BitVec.ofInt IntKind.u64.bits 4294967295).toNat:Int))):=rfl;rw[e];have g:IntKind.u64.bits=64:=rfl;obtain⟨m,rfl⟩:∃m:Nat,a=m:=⟨a.toNat,by omega⟩;have c:(BitVec.ofInt 64 (m:Int)&&&BitVec.ofInt 64 4294967295).toNat=m%4294967296:=by
  have d:BitVec.ofInt 64 (m:Int)=BitVec.ofNat 64 m:=sZ
  have f:BitVec.ofInt 64 4294967295=BitVec.ofNat 64 4294967295:=dZ
  rw[d,f,BitVec.toNat_and,BitVec.toNat_ofNat,BitVec.toNat_ofNat,Nat.mod_eq_of_lt oZ];have:=Nat.and_two_pow_sub_one_eq_mod m 32;simpa using this
 rw[g,c,xcv]
 congr 2
 omega
theorem F5:aV bt .neq (dQ a) (dQ b)=some (aE (a !=b)):=rfl
theorem F6:aV bt .gtr (dQ a) (dQ b)=some (aE (decide (a>b))):=rfl
end
def F7{x y:Int}(b:0<=x/\x<=4294967295)(a:0<=y/\y<=4294967295):0<=x*y/\x*y<=18446744065119617025:=by refine⟨Int.mul_nonneg b.1 a.1,?_⟩;have:=xcj b.2 a.2 a.1 oZ;simpa using this
def aim(n:Nat)(x y:Int)(e:0<=x/\x<18446744073709551616)(g:0<=y/\y<18446744073709551616):Jy n [dQ x,dQ y]=some (.aB [dQ (x*y/18446744073709551616),dQ (x*y%18446744073709551616)]):=by
 have aG:0<=x%4294967296/\x%4294967296<=4294967295:=oZ
 have a2:0<=x/4294967296/\x/4294967296<=4294967295:=oZ
 have m:0<=y%4294967296/\y%4294967296<=4294967295:=oZ
 have o:0<=y/4294967296/\y/4294967296<=4294967295:=oZ
 have i:=F7 aG m;have k:=F7 a2 m;have j:=F7 aG o;have l:=F7 a2 o;have f:x*y=(x/4294967296*(y/4294967296))*18446744073709551616+(x/4294967296*(y%4294967296)+x%4294967296*(y/4294967296))*4294967296+x%4294967296*(y%4294967296):=by
  have ex:x=x/4294967296*4294967296+x%4294967296:=oZ
  have A:y=y/4294967296*4294967296+y%4294967296:=oZ
  generalize x/4294967296=u at*;generalize x%4294967296=v at*;generalize y/4294967296=w at*;generalize y%4294967296=z at*;subst ex;subst A;simp only[Int.add_mul,Int.mul_add];have C:u*4294967296*(w*4294967296)=u*w*18446744073709551616:=by rw[Int.mul_assoc,Int.mul_left_comm 4294967296 w,<-Int.mul_assoc,Int.mul_comm 4294967296 4294967296];rfl
  have E:u*4294967296*z=u*z*4294967296:=by rw[Int.mul_assoc,Int.mul_comm 4294967296 z,<-Int.mul_assoc]
  have F:v*(w*4294967296)=v*w*4294967296:=by rw[<-Int.mul_assoc]
  omega
 show Jx n (dQ x) (dQ y)=_;have d:(D.val (.int .u64 32))=dQ 32:=rfl;have t:(D.val (.int .u64 4294967295))=dQ 4294967295:=rfl;have a:∀q:Int,0<=q->aV false .shr (dQ q) (dQ 32)=some (dQ (q/4294967296)):=λq h=>aik h;have b:∀q:Int,0<=q->q<18446744073709551616->aV false .and (dQ q) (dQ 4294967295)=some (dQ (q%4294967296)):=λq h B=>ail h B;simp only[Jx,d,t,aN];rw[b x e.1 e.2,cL,a x e.1,cL,b y g.1 g.2,cL,a y g.1,cL,F4 i.1 oZ,cL,F4 k.1 oZ,cL];generalize x%4294967296*(y%4294967296)=c at*;generalize x/4294967296*(y%4294967296)=r at*;rw[a c oZ,cL,F3 oZ oZ,cL,b _ oZ oZ,cL,a _ oZ,cL,F4 j.1 oZ,cL];generalize x%4294967296*(y/4294967296)=p at*;rw[F3 oZ oZ,cL,F4 l.1 oZ,cL];generalize x/4294967296*(y/4294967296)=s at*;rw[F3 oZ oZ,cL,a _ oZ,cL,F3 oZ oZ,cL,Ul,cL,xcv,f]
 congr 3
 congr 1;omega
def Um(n:Nat)(a:Int)(d:-9223372036854775808<=a/\a<=9223372036854775807):u6 n [aa a]=some (dQ a.natAbs):=by
 have c:∀v:Int,cd .neg (.val (.int .u64 v))=some (dQ (IntKind.u64.wrap (0-v))):=λ_=>rfl;have b:∀v:Int,j4 .u64 (aa v)=some (.val (.int .u64 (IntKind.u64.wrap v))):=λ_=>rfl;by_cases h:a<0
 .simp[u6,Jw,h,b,c];simp only[xcv,dQ,D.val.injEq,Value.int.injEq,true_and];omega
 simp[u6,Jw,h,b];simp only[xcv,dQ,D.val.injEq,Value.int.injEq,true_and];omega
def hr(n:Int):c5 n=true↔n.natAbs<=9007199254740992:=by unfold c5;simp;omega
def Un{a b:Int}{A B:Nat}(h:a.natAbs<=A)(c:b.natAbs<=B):(a*b).natAbs<=A*B:=by rw[Int.natAbs_mul];exact Nat.mul_le_mul h c
def sign_mul(a b:Int)(h:a*b≠0):((a<0)≠(b<0))↔a*b<0:=by
 have c:a≠0:=by rintro rfl;simp at h
 have d:b≠0:=by rintro rfl;simp at h
 rcases Int.lt_or_gt_of_ne c with ab|ab<;>rcases Int.lt_or_gt_of_ne d with ae|ae;.have:=Int.mul_pos_of_neg_of_neg ab ae;simp[ab,ae];omega
 .have:=Int.mul_neg_of_neg_of_pos ab ae;simp[ab,this];omega
 .have:=Int.mul_neg_of_pos_of_neg ab ae;simp[ae,this];omega
 have:=Int.mul_pos ab ae;simp;omega
def ain(n:Nat)(a b:Int)(k:c5 a=true)(l:c5 b=true):sB n [aa a,aa b]=some (k6 (a*b) true):=by
 rw[hr]at k l;have ab:=Um n a oZ;have ae:=Um n b oZ;have t:=Un k l;have ai:=aim n a.natAbs b.natAbs oZ oZ;have e:((a.natAbs:Int)*b.natAbs)=((a*b).natAbs:Int):=by rw[Int.natAbs_mul];simp
 rw[e]at ai;have aj:=sign_mul a b;generalize a*b=p at*;have bK:(D.val (.int .u64 0))=dQ 0:=rfl;have c1:(D.val (.int .u64 9007199254740992))=dQ 9007199254740992:=rfl;have d:∀v:Int,j4 .i64 (dQ v)=some (aa (IntKind.i64.wrap v)):=λ_=>rfl;by_cases c:c5 p=true
 .have g:=(hr p).1 c;have f:((p.natAbs:Int)/18446744073709551616)=0:=oZ
  have i:((p.natAbs:Int)%18446744073709551616)=p.natAbs:=oZ
  have q:IntKind.i64.wrap (p.natAbs:Int)=p.natAbs:=wrap64 _ oZ oZ;have r:IntKind.i64.wrap (-(p.natAbs:Int))=-(p.natAbs:Int):=wrap64 _ oZ oZ;have j:¬(9007199254740992<(p.natAbs:Int)):=oZ
  rw[f,i]at ai;by_cases o:p=0;.subst o;simp[sB,yK,ab,ae,ai,bK,c1,F5,F6,d,k6,c];by_cases x1:a<0<;>by_cases c9:b<0<;>simp[x1,c9,show IntKind.i64.wrap 0=0 from rfl]
  have aj:=aj o;by_cases x1:a<0<;>by_cases c9:b<0<;>simp[x1,c9]at aj<;>simp[sB,yK,ab,ae,ai,bK,c1,F5,F6,d,k6,c,j,q,r,x1,c9]<;>omega
 have g:¬(p.natAbs<=9007199254740992):=λh=>c ((hr p).2 h);have m:c5 p=false:=by simpa using c
 by_cases f:((p.natAbs:Int)/18446744073709551616)=0
 .have i:((p.natAbs:Int)%18446744073709551616)=p.natAbs:=oZ
  have j:9007199254740992<(p.natAbs:Int):=oZ
  rw[f,i]at ai;simp[sB,yK,ab,ae,ai,bK,c1,F5,F6,d,k6,m,j]
 have s:((p.natAbs:Int)/18446744073709551616 !=0)=true:=by simpa using f
 simp[sB,yK,ab,ae,ai,bK,c1,F5,F6,d,k6,m,s]
def tr(b:Bool):Int:=if b then 1 else 0
def Uo(n:Nat)(b:Bool):nk n [aE b]=some (.aB [aa (tr b),aE true]):=by cases b<;>simp[nk,Qq,tr]
def Up(n:Nat)(b:Bool):mc n [aE b]=some (aa (tr b)):=by cases b<;>simp[mc,Q2,tr]
def Uq(n:Nat)(v:Int):sO n [aa v]=some (aE (!c5 v)):=by
 by_cases ab:v< -9007199254740992
 .have:c5 v=false:=by unfold c5;simp;omega
  simp[sO,Eg,this,ab]
 by_cases ae:9007199254740992<v
 .have:c5 v=false:=by unfold c5;simp;omega
  simp[sO,Eg,this,ab,ae]
 have:c5 v=true:=by unfold c5;simp;omega
 simp[sO,Eg,this,ab,ae]
def Ur(n:Nat)(v:Int)(h:-9223372036854775807<=v/\v<=9223372036854775807):zE n [aa v]=some (aa (v.natAbs:Int)):=by have:IntKind.i64.wrap (-v)=-v:=wrap64 _ oZ oZ;simp[zE,Q3,this,FW,ed];split<;>omega
def ea(op:Int)(l:lY):Int×Bool:=if op=6 then(tr (decide (l.sum=l.length)),true)
 else if op=7 then(tr (decide (l.sum>0)),true)
 else match l with
  |[a]=>(1-a,c5 (1-a))
  |[a,b]=>if op=8 then(tr (a==0||b==1),true)else if op=9\/op=10 then(tr (a==b),true)else if op=11 then(tr (a !=b),true)
   else if op=12 then(tr (decide (a<b)),true)else if op=13 then(tr (decide (a<=b)),true)
   else if op=14 then(a+b,c5 (a+b))else if op=15 then(a-b,c5 (a-b))
   else if op=16 then if c5 (a*b)then(a*b,true)else(0,false)
   else((a.tmod b+b).tmod b,c5 ((a.tmod b+b).tmod b))
  |[a,b,c]=>(if a=1 then b else c,c5 (if a=1 then b else c))
  |_=>(0,false)
def er(p:Int×Bool):D:=if p.2 then .aB [aa p.1,aE true]else .aB [aa 0,aE false]
def Us(v:Int):k6 v true=er (v,c5 v):=by simp[k6,er]
def lD{l:lY}{i:Nat}{y:Int}(h:l[i]?=some y):bc 1 (bY l) (aa (i:Int))=some [aa y]:=by simp[bY,h]
theorem Bb{y:Int}{l:lY}:bc 1 (bY (y::l)) (aa 0)=some [aa y]:=lD (i:=0) rfl
theorem F8{x y:Int}{l:lY}:bc 1 (bY (x::y::l)) (aa 1)=some [aa y]:=lD (i:=1) rfl
theorem aio{x y z:Int}{l:lY}:bc 1 (bY (x::y::z::l)) (aa 2)=some [aa z]:=lD (i:=2) rfl
def p0(l:lY):dL (bY l)=some (aa l.length):=by simp[bY]
attribute [go_sem] p0
def Lo:∀(l:lY),(∀v∈l,c5 v=true)->-(9007199254740992*(l.length:Int))<=l.sum/\l.sum<=9007199254740992*(l.length:Int)
 |[],_=>by simp|a::r,h=>by have:=Lo r λv b=>h v (by simp[b]);have:=(hr a).1 (h a sZ);simp only[List.sum_cons,xal];omega
def aip{l:lY}(h:∀v∈l,c5 v=true)(ah:l.length<=64)(i:Nat):-576460752303423488<=(l.take i).sum/\(l.take i).sum<=576460752303423488:=by
 have:=Lo (l.take i) λv b=>h v (xbr b);have a:(l.take i).length<=64:=by rw[xby];omega
 omega
def aiq(n:Nat)(c d1 d2 d3 d4:D)(l:lY)(h:∀v∈l,c5 v=true)(ah:l.length<=64)(k:64<n):aS (yL n) n [c,aa 0,bY l,aa l.length,aa 0,d1,d2,d3,d4]=some (.inl [c,aa l.sum,d1,d2,d3,d4]):=by
 have ag:=ch (f:=yL n) l (λi (s:Int)=>[c,aa s,bY l,aa l.length,aa (i:Int),d1,d2,d3,d4]) (λr s=>(Sum.inl [c,aa (s+r.sum),d1,d2,d3,d4]:lZ⊕D)) (λi s=>s=(l.take i).sum) (λs _=>by simp[yL]) ?_ n 0 0 sZ oZ (xah _);.have e:(aa ((0:Nat):Int))=aa 0:=rfl;rw[e]at ag;simpa using ag
 intro i a s d ag aj;left;have j:=aip h ah i;have g:=(hr a).1 (h a (xad d));have b:aV false .add (aa s) (aa a)=some (aa (s+a)):=dx oZ oZ;refine⟨s+a,by simp[yL,ag,lD d,b,bk i],by simp[Int.add_assoc],?_⟩;rw[List.take_add_one,d,aj];simp
def Bc{a b:Int}(c:1<=b):-b<a.tmod b/\a.tmod b<b:=by have ab:=Int.tmod_lt_of_pos a (oZ:0<b);have ae:=Int.lt_tmod_of_pos a (oZ:0<b);exact⟨ae,ab⟩
set_option maxHeartbeats 1000000 in
def air(n:Nat)(t:Tm)(l:lY)(N:Valid t)(b3:l.length=t.aC.length)(ck:5<=t.op)(B:∀v∈l,c5 v=true)(cK:100<n) (G:(t.op<=9->∀v∈l,v=0\/v=1)/\(t.op=18->∀v,l[0]?=some v->v=0\/v=1)) (b0:t.op=17->∀v,l[1]?=some v->1<=v/\v<=255):h2 n [t.d,bY l]=some (er (ea t.op l)):=by
 have cC:=N.op;have f:=N.len;have bK:=Tm.lx t;have g:=Tm.jJ t;have b5:=rp (op:=t.op);have L:=tC (op:=t.op);have Z:=N.w3;have u:=p0 l;have e:=Uo n;have j:=λW d1 d2 d3 d4=>aiq n W d1 d2 d3 d4 l B oZ oZ;by_cases s:t.op=6\/t.op=7
 .have bX:1<=l.length:=by
   have:et t.op=(1,64):=by unfold et;rw[xab oZ,xab oZ,xac s]
   rw[this]at f;simp only at f;omega
  generalize t.op=op at*;rcases s with rfl|rfl
  .simp[h2,iA,g,bK,u,j,ea,er,-Pv];by_cases q:l.sum=(l.length:Int)<;>simp[q,e]
  simp[h2,iA,g,bK,u,j,ea,er,-Pv];by_cases q:l.sum=(l.length:Int)
  .have:0<l.sum:=oZ
   have cA:0<l.length:=oZ
   simp[q,e,cA]
  by_cases ak:0<l.sum<;>simp[q,ak,e]
 have M:t.op=5->l.length=1:=λh=>by
  have:et t.op=(1,1):=by rw[h];rfl
  rw[this]at f;simp only at f;omega
 by_cases P:t.op=5
 .have:=M P
  match l,this with
  |[a],_=>
   have F:=G.1 oZ a sZ;have g0:=Bb (y:=a) (l:=[]);generalize t.op=op at*;subst P;rcases F with rfl|rfl
   .simp[h2,iA,g,bK,g0,ea,er,e,tr,c5]
   simp[h2,iA,g,bK,g0,ea,er,e,tr,c5]
 by_cases k:t.op=18
 .rw[L k]at f;obtain⟨a,b,c,rfl⟩:=pY (l:=l) (by simp only at f;omega);have F:=G.2 k a rfl;have g0:=Bb (y:=a) (l:=[b,c]);have g1:=F8 (x:=a) (y:=b) (l:=[c]);have g2:=aio (x:=a) (y:=b) (z:=c) (l:=[]);have I:=B b sZ;have J:=B c sZ;generalize t.op=op at*;subst k;rcases F with rfl|rfl
  .simp[h2,iA,g,bK,g0,g1,g2,ea,er,J]
  simp[h2,iA,g,bK,g0,g1,g2,ea,er,I]
 rw[b5 oZ]at f;obtain⟨a,b,rfl⟩:=mi (l:=l) (by simp only at f;omega);have g0:=Bb (y:=a) (l:=[b]);have g1:=F8 (x:=a) (y:=b) (l:=[]);have U:=B a sZ;have V:=B b sZ;have cx:=(hr a).1 U;have cU:=(hr b).1 V;have Q:=F2 n a b oZ oZ;have E:=F2 n a (-b) oZ oZ;have R:=ain n a b U V;have w:IntKind.i64.wrap (-b)=-b:=wrap64 _ oZ oZ;have C:a+-b=a-b:=oZ
 have O:∀p:Int×Bool,(eJ 0 (er p))=some (aa (if p.2 then p.1 else 0))/\(eJ 1 (er p))=some (aE p.2):=by intro p;obtain⟨v,o⟩:=p;cases o<;>simp[er]
 have S:∀p:Int×Bool,D.aB [aa (if p.2 then p.1 else 0),aE p.2]=er p:=by intro p;obtain⟨v,o⟩:=p;cases o<;>simp[er]
 rw[C]at E;rw[Us]at Q E R;by_cases r:t.op=17
 .obtain⟨T,dR⟩:=b0 r b rfl;have m1:=Bc (a:=a) T;have A:b≠0:=oZ
  have de:aV false .add (aa (a.tmod b)) (aa b)=some (aa (a.tmod b+b)):=dx oZ oZ;have m2:=Bc (a:=a.tmod b+b) T;have K:c5 ((a.tmod b+b).tmod b)=true:=(hr _).2 oZ;have X:aV false .rem (aa a) (aa b)=some (aa (a.tmod b)):=ym A;have Y:aV false .rem (aa (a.tmod b+b)) (aa b)=some (aa ((a.tmod b+b).tmod b)):=ym A;generalize t.op=op at*;subst r;simp[h2,iA,g,bK,g0,g1,ea,er,X,Y,de,K]
 have q:t.op=8\/t.op=9\/t.op=10\/t.op=11\/t.op=12\/t.op=13\/t.op=14\/t.op=15\/t.op=16:=oZ
 have H:t.op=8->(b=0\/b=1):=λh=>G.1 oZ b sZ;generalize t.op=op at*;rcases q with rfl|rfl|rfl|rfl|rfl|rfl|rfl|rfl|rfl
 .rcases H rfl with rfl|rfl
  .by_cases i:a=0;.simp[h2,iA,g,bK,ea,er,e,i,Bb,F8]
   have m:(a==0)=false:=by simpa using i
   simp[h2,iA,g,bK,g0,g1,ea,er,e,i,m]
  by_cases i:a=0;.simp[h2,iA,g,bK,ea,er,e,i,Bb,F8]
  have m:(a==0)=false:=by simpa using i
  simp[h2,iA,g,bK,g0,g1,ea,er,e,i,m]
 .simp[h2,iA,g,bK,g0,g1,ea,er,e]
 .simp[h2,iA,g,bK,g0,g1,ea,er,e]
 .simp[h2,iA,g,bK,g0,g1,ea,er,e]
 .simp[h2,iA,g,bK,g0,g1,ea,er,e]
 .simp[h2,iA,g,bK,g0,g1,ea,er,e]
 .simp[h2,iA,g,bK,g0,g1,ea,Q,O];rw[<-S]
 .simp[h2,iA,g,bK,g0,g1,ea,w,E,O];rw[<-S]
 simp[h2,iA,g,bK,g0,g1,ea,R,O];cases dE:c5 (a*b)<;>simp[er]
def jT(vs:List V)(s nn:lY)(t:Tm):Option Nat:=if(if t.op=4 then nn else s).length=vs.length then c4 vs t.name else none
def ais{vs:List V}{s nn:lY}{t:Tm}{i:Nat}(h:jT vs s nn t=some i):c4 vs t.name=some i/\(if t.op=4 then nn else s).length=vs.length:=by
 unfold jT at h;by_cases a:(if t.op=4 then nn else s).length=vs.length;.rw[xac a]at h;exact⟨h,a⟩
 rw[xab a]at h;cases h
def h6(vs:List V)(s nn:lY)(t:Tm):Int×Bool:=if t.op<=2 then(t.num,true)
 else match jT vs s nn t with
  |none=>(0,false)
  |some i=>match vs[i]?,(if t.op=4 then nn else s)[i]? with
   |some v,some x=>if v.bool then(tr (x !=0),true)else(x,c5 x)
   |_,_=>(0,false)
mutual
def dp(vs:List V)(s nn:lY):Tm->Int×Bool
 | .mk o n a b ks=>if o<=4 then h6 vs s nn (.mk o n a b ks)else match e9 vs s nn ks with|some l=>ea o l|none=>(0,false)
def e9(vs:List V)(s nn:lY):List Tm->Option lY
 |[]=>some []
 |t::r=>if(dp vs s nn t).2 then match e9 vs s nn r with|some l=>some ((dp vs s nn t).1::l)|none=>none
  else none
end
theorem mj(vs:List V)(s nn:lY)(t:Tm):dp vs s nn t=if t.op<=4 then h6 vs s nn t else match e9 vs s nn t.aC with|some l=>ea t.op l|none=>(0,false):=by cases t;rw[dp];rfl
mutual
def steps:Tm->Bool
 | .mk o _ _ _ ks=>o==4||k7 ks
def k7:List Tm->Bool
 |[]=>false|t::r=>steps t||k7 r
end
theorem F9(t:Tm):steps t=(t.op==4||k7 t.aC):=by cases t;rw[steps];rfl
def Ut:∀{l:List Tm}{t:Tm},t∈l->k7 l=false->steps t=false
 |a::r,t,h,aj=>by
  rw[k7,Bool.or_eq_false_iff]at aj;rcases xam.1 h with rfl|h
  .exact aj.1
  exact Ut h aj.2
theorem Lp(b:Bool):c5 (tr b)=true:=by cases b<;>rfl
def w6(p:Int×Bool):Prop:=p.2=true->c5 p.1=true
def oG{c:Prop}[Decidable c]{p q:Int×Bool}(a:w6 p)(b:c\/w6 q):w6 (if c then p else q):=by
 split;.exact a
 exact b.resolve_left aZ
def tD(b:Bool):w6 (tr b,true):=λ_=>Lp b
def Bd(v:Int):w6 (v,c5 v):=λh=>h
def ait{op:Int}{l:lY}:w6 (ea op l):=by
 unfold ea;refine oG (tD _) (.inr (oG (tD _) (.inr ?_)))
 match l with
 |[]=>intro h;cases h
 |[a]=>exact Bd _|[a,b,c]=>exact Bd _|a::b::c::d::r=>intro h;cases h
 |[a,b]=>
  refine oG (tD _) (.inr (oG (tD _) (.inr (oG (tD _) (.inr (oG (tD _) (.inr (oG (tD _) (.inr (oG (Bd _) (.inr (oG (Bd _) (.inr (oG ?_ (.inr (Bd _))))))))))))))));by_cases h:c5 (a*b)=true;.rw[xac h];exact λ_=>h
  rw[xab h];intro h;cases h
def aiu{vs:List V}{s nn:lY}{t:Tm}(d:Valid t)(h:(h6 vs s nn t).2=true):c5 (h6 vs s nn t).1=true:=by
 have e:=d.num;unfold h6 at*;by_cases ae:t.op<=2;.rw[xac ae];exact(hr _).2 (by simp only;omega)
 rw[xab ae]at*;cases ag:jT vs s nn t with
 |none=>simp[ag]at h
 |some i=>
  rw[ag]at h;simp only at h⊢;cases a:vs[i]? with
  |none=>rw[a]at h;cases h
  |some v=>
   cases c:((if t.op=4 then nn else s)[i]?)with
   |none=>rw[a,c]at h;cases h
   |some x=>
    rw[a,c]at h;simp only at h⊢;by_cases b:v.bool=true;.rw[xac b];exact Lp _
    rw[xab b]at*;exact h
def Uu{vs:List V}{s nn:lY}{t:Tm}(b:Valid t)(h:(dp vs s nn t).2=true):c5 (dp vs s nn t).1=true:=by
 rw[mj]at*;by_cases a:t.op<=4;.rw[xac a]at*;exact aiu b h
 rw[xab a]at*;split at h;.rename_i l ah;exact ait h
 cases h
def ru(v:Int):Prop:=v=0\/v=1
def Be(b:Bool):ru (tr b):=by cases b<;>simp[tr,ru]
theorem w7(lo ag:Int):(e8 lo ag).1.b=false:=by unfold e8;split<;>rfl
def aiv(op:Int)(a b:Y):(k5 op a b).1.b=false:=by unfold k5;split<;>(try split)<;>exact w7 _ _
def Lq(vs:List V)(nx:Bool)(s nn:lY):∀{ks:List Tm}{l:lY},(cX vs nx ks).2=0->e9 vs s nn ks=some l->l.length=ks.length/\∀(i:Nat)(y:Y)(v:Int),(cX vs nx ks).1[i]?=some y->l[i]?=some v-> ∃k,ks[i]?=some k/\(cP vs nx k).2=0/\y=(cP vs nx k).1/\(dp vs s nn k).2=true/\v=(dp vs s nn k).1
 |[],l,_,a=>by cases a;exact⟨rfl,by intro i y v _ h;simp at h⟩
 |k::r,l,h,a=>by
  rw[cX]at*;rw[e9]at a;by_cases ab:(cP vs nx k).2=0
  case neg=>rw[xac ab]at h;exact absurd h ab
  have b:¬(cP vs nx k).2≠0:=by simpa using ab
  rw[xab b]at h⊢;by_cases ae:(cX vs nx r).2=0
  case neg=>rw[xac ae]at h;exact absurd h ae
  have c:¬(cX vs nx r).2≠0:=by simpa using ae
  rw[xab c]at h⊢;by_cases ai:(dp vs s nn k).2=true
  case neg=>rw[xab ai]at a;cases a
  rw[xac ai]at a;cases d:e9 vs s nn r with
  |none=>rw[d]at a;cases a
  |some g=>rw[d]at a;cases a;obtain⟨g1,g2⟩:=Lq vs nx s nn ae d;refine⟨by simp[g1],?_⟩;intro i y v f e;cases i with|zero=>simp at f e;exact⟨k,rfl,ab,f.symm,ai,e.symm⟩|succ i=>simpa using g2 i y v (by simpa using f) (by simpa using e)
def Ga{t:Tm}{l:List Y}(h:(eR t l).2=0)(ab:5<=t.op/\t.op<=9):l.all Y.b=true:=by
 unfold eR at h;rw[xac ab]at h;by_cases a:l.all Y.b=true;.exact a
 rw[xab a]at h;cases h
def Lr{t:Tm}{a b c:Y}(h:(eR t [a,b,c]).2=0)(ab:¬(5<=t.op/\t.op<=9)):a.b=true/\b.b=c.b/\((eR t [a,b,c]).1.b=true->b.b=true):=by
 unfold eR at*;rw[xab ab]at*;simp only at h⊢;by_cases e:(!a.b||(b.b !=c.b))=true;.rw[xac e]at h;cases h
 rw[xab e]at*;refine⟨by cases g:a.b<;>simp_all,by cases d:b.b<;>cases f:c.b<;>simp_all,?_⟩;by_cases d:b.b=true;.exact λ_=>d
 rw[xab d,w7];intro h;cases h
def Uv{t:Tm}{a b:Y}(h:(eR t [a,b]).2=0)(ab:t.op=17){k:Tm}(e:t.aC[1]?=some k):k.op=1/\1<=k.num:=by
 unfold eR at h;rw[xab oZ]at h;simp only at h;rw[xab oZ]at h;by_cases c:(a.b||b.b)=true;.rw[xac c]at h;cases h
 rw[xab c,xab oZ,xac ab,e]at h;simp only at h;by_cases d:k.op≠1\/k.num<1;.rw[xac d]at h;cases h
 omega
def aiw{t:Tm}{a b:Y}(ab:14<=t.op/\t.op<=17):(eR t [a,b]).1.b=false:=by
 unfold eR;rw[xab oZ];simp only;rw[xab oZ];split;.rfl
 rw[xab oZ];split
 .split
  .split;.rfl
   exact w7 _ _
  rfl
 exact aiv _ _ _
def aix{vs:List V}{nx:Bool}{s nn:lY}{t:Tm}(d:Valid t)(h:(h5 vs nx t).1.b=true)(a:(h6 vs s nn t).2=true):ru (h6 vs s nn t).1:=by
 have j:=d.num;unfold h5 at h;unfold h6 at*;by_cases ab:t.op=1;.rw[xac ab,w7]at h;cases h
 rw[xab ab]at h;by_cases ae:t.op=2;.rw[xac oZ];unfold ru;simp only;omega
 rw[xab ae]at h;have f:=d.op;rw[xab oZ]at*;cases ag:jT vs s nn t with
 |none=>rw[ag]at a;cases a
 |some i=>
  rw[(ais ag).1]at h;rw[ag]at a;simp only at h a⊢;by_cases ai:t.op=4/\nx=false;.rw[xac ai]at h;cases h
  rw[xab ai]at h;cases e:vs[i]? with
  |none=>rw[e]at a;cases a
  |some v=>
   rw[e]at h a;simp only at h;by_cases c:v.bool=true
   .cases g:((if t.op=4 then nn else s)[i]?)with
    |none=>rw[g]at a;cases a
    |some x=>simp only;rw[xac c];exact Be _
   rw[xab c,w7]at h;cases h
def Uw(vs:List V)(nx:Bool)(s nn:lY)(t:Tm):Valid t->(cP vs nx t).2=0->(cP vs nx t).1.b=true->(dp vs s nn t).2=true->ru (dp vs s nn t).1:=by
 refine Tm.ind (P:=λt=>Valid t->(cP vs nx t).2=0->(cP vs nx t).1.b=true->(dp vs s nn t).2=true->ru (dp vs s nn t).1) ?_ t;intro t ih o h f g;rw[kC]at h f;rw[mj]at g⊢;by_cases E:t.op<=4;.rw[xac E]at*;exact aix o f g
 rw[xab E]at*;by_cases ak:(cX vs nx t.aC).2=0
 case neg=>rw[xac ak]at h;exact absurd h ak
 rw[xab (by simpa using ak)]at h f;cases ah:e9 vs s nn t.aC with
 |none=>rw[ah]at g;cases g
 |some l=>
  rw[ah]at g;simp only at g⊢;obtain⟨g1,g2⟩:=Lq vs nx s nn ak ah;obtain⟨g3,_⟩:=w2 vs nx t.aC ak;have O:=o.op;have d:=o.len;have N:=rp (op:=t.op);have u:=tC (op:=t.op);unfold ea;by_cases F:t.op=6
  .rw[xac F];exact Be _
  rw[xab F];by_cases G:t.op=7;.rw[xac G];exact Be _
  rw[xab G];by_cases M:t.op=5
  .have:et t.op=(1,1):=by rw[M];rfl
   rw[this]at d
   match l,g1,g2 with
   |[a],g1,g2=>
    have j:=Ga h oZ;have:0<(cX vs nx t.aC).1.length:=by simp at g1;omega
    obtain⟨k,q,z,A,B,C⟩:=g2 0 _ a (xaa this) rfl;have n:=xay.1 j _ (xaW this);rw[A]at n;have:=ih k (xad q) (o.dj (xad q)) z n B;rw[<-C]at this;simp only;rcases this with h|h<;>subst h<;>simp[ru]
   |[],g1,_=>simp at g1;simp only at d;omega|_::_::_,g1,_=>simp at g1;simp only at d;omega
  by_cases r:t.op=18
  .rw[u r]at d;have w:l.length=3:=by simp only at d;omega
   obtain⟨a,b,c,rfl⟩:=pY w;obtain⟨J,D,K,p⟩:=pY (l:=(cX vs nx t.aC).1) (by simp only at d;omega);rw[p]at h f g2;obtain⟨T,R,S⟩:=Lr h oZ;have m:=S f;have get:∀(i:Nat)(y:Y)(v:Int),[J,D,K][i]?=some y->[a,b,c][i]?=some v->y.b=true->ru v:=by intro i y v p Q x;obtain⟨k,q,z,A,B,C⟩:=g2 i y v p Q;rw[C];exact ih k (xad q) (o.dj (xad q)) z (by rw[<-A];exact x) B
   simp only;by_cases H:a=1;.rw[xac H];exact get 1 D b rfl rfl m
   rw[xab H];exact get 2 K c rfl rfl (by rw[<-R];exact m)
  rw[N oZ]at d;obtain⟨a,b,rfl⟩:=mi (l:=l) (by simp only at d;omega);obtain⟨J,D,p⟩:=mi (l:=(cX vs nx t.aC).1) (by simp only at d;omega);rw[p]at h f;have L:t.op<=13:=by refine xbi λI=>?_;rw[aiw oZ]at f;cases f
  simp only;have I:t.op=8\/t.op=9\/t.op=10\/t.op=11\/t.op=12\/t.op=13:=oZ
  rcases I with e|e|e|e|e|e<;>simp only[e]<;>exact Be _
def Ux{vs:List V}{nx:Bool}{s nn:lY}{t:Tm}{l:lY}(j:Valid t)(h:(cP vs nx t).2=0)(u:5<=t.op)(ah:e9 vs s nn t.aC=some l):l.length=t.aC.length/\(∀v∈l,c5 v=true)/\((t.op<=9->∀v∈l,v=0\/v=1)/\(t.op=18->∀v,l[0]?=some v->v=0\/v=1))/\(t.op=17->∀v,l[1]?=some v->1<=v/\v<=255):=by
 rw[kC,xab oZ]at h;by_cases ak:(cX vs nx t.aC).2=0
 case neg=>rw[xac ak]at h;exact absurd h ak
 rw[xab (by simpa using ak)]at h;obtain⟨g1,g2⟩:=Lq vs nx s nn ak ah;obtain⟨g3,_⟩:=w2 vs nx t.aC ak;have A:=j.op;have a:=j.len;have at_:∀(i:Nat)(v:Int),l[i]?=some v->∃k y,t.aC[i]?=some k/\(cX vs nx t.aC).1[i]?=some y/\(cP vs nx k).2=0/\y=(cP vs nx k).1/\(dp vs s nn k).2=true/\v=(dp vs s nn k).1:=by
  intro i v ag;have n:i<(cX vs nx t.aC).1.length:=by have:=(lV.1 ag).1;omega
  obtain⟨k,b,c,e,f,d⟩:=g2 i _ v (xaa n) ag;exact⟨k,_,b,xaa n,c,e,f,d⟩
 refine⟨g1,?_,⟨?_,?_⟩,?_⟩;.intro v q;obtain⟨i,ag⟩:=xaJ.1 q;obtain⟨k,y,b,c,e,f,d,g⟩:=at_ i v ag;rw[g];exact Uu (j.dj (xad b)) d
 .intro w v q;obtain⟨i,ag⟩:=xaJ.1 q;obtain⟨k,y,b,c,e,f,d,g⟩:=at_ i v ag;have m:=xay.1 (Ga h ⟨u,w⟩) y (xad c);rw[g];exact Uw vs nx s nn k (j.dj (xad b)) e (by rw[<-f];exact m) d
 .intro p v ag;obtain⟨k,y,b,c,e,f,d,g⟩:=at_ 0 v ag;rw[tC p]at a;obtain⟨C,D,F,r⟩:=pY (l:=(cX vs nx t.aC).1) (by simp only at a;omega);rw[r]at h c;have x:=(Lr h oZ).1;cases c;rw[g];exact Uw vs nx s nn k (j.dj (xad b)) e (by rw[<-f];exact x) d
 intro o v ag;obtain⟨k,y,b,c,e,f,d,g⟩:=at_ 1 v ag;rw[rp oZ]at a;obtain⟨C,D,r⟩:=mi (l:=(cX vs nx t.aC).1) (by simp only at a;omega);rw[r]at h;obtain⟨E,B⟩:=Uv h o b;have z:=(j.dj (xad b)).num;have:dp vs s nn k=(k.num,true):=by rw[mj,xac oZ];unfold h6;rw[xac oZ]
 rw[g,this];exact⟨B,by simp only;omega⟩
def fT(b:Bool)(l:lY):D:=bJ 1 b (l.map λx=>[aa x])
@[simp] theorem aoQ (b:Bool) (l:lY):dL (fT b l)=some (aa l.length):=by simp[fT]
@[simp] theorem aoR (b:Bool) (l:lY):c8 (fT b l)=true:=by unfold fT bJ;split<;>rfl
def Uy{b:Bool}{l:lY}{i:Nat}{x:Int}(h:l[i]?=some x):bc 1 (fT b l) (aa (i:Int))=some [aa x]:=by
 have a:l≠[]:=by rintro rfl;simp at h
 have:fT b l= .aw 1 (l.map λx=>[aa x]):=by unfold fT bJ;rw[xab (by simp[a])]
 rw[this];simp[h]
def Uz(l:lY):fT false l=bY l:=by simp[fT,bJ,bY]
theorem w8:fT true []=cg:=rfl
variable{bn:Bool}
theorem Gb{k:Nat}:cI (k+1) (aa 0)=some 0:=by rw[I8 oZ oZ];rfl
theorem UA{k:Nat}:cI (k+2) (aa 1)=some 1:=by rw[I8 oZ oZ];rfl
theorem aiy{k:Nat}:cI (k+3) (aa 2)=some 2:=by rw[I8 oZ oZ];rfl
def aiz{x:Int}(ab:x≠0)(ae:x.natAbs<=9007199254740992):aV false .quo (aa 9007199254740992) (aa (x.natAbs:Int))=some (aa ((9007199254740992/x.natAbs:Nat):Int)):=by
 have a:(x.natAbs:Int)≠0:=oZ
 rw[Py a];have e:(9007199254740992:Int).tdiv (x.natAbs:Int)=((9007199254740992/x.natAbs:Nat):Int):=by rw[Int.tdiv_eq_ediv_of_nonneg oZ];rfl
 have ai:=Nat.div_le_self 9007199254740992 x.natAbs;rw[e];generalize 9007199254740992/x.natAbs=q at*;rw[wrap64 _ oZ oZ]
def aiA(a b:Int)(h:a≠0):(b.natAbs:Int)>((9007199254740992/a.natAbs:Nat):Int)↔c5 (a*b)=false:=by
 have c:0<a.natAbs:=oZ
 have ab:c5 (a*b)=false↔9007199254740992<a.natAbs*b.natAbs:=by
  rw[<-Int.natAbs_mul];have:=hr (a*b);constructor
  .intro h;refine xbi λe=>?_;rw[this.2 oZ]at h;cases h
  intro h;cases d:c5 (a*b)with|false=>rfl|true=>exact absurd (this.1 d) oZ
 rw[ab,Nat.mul_comm,<-Nat.div_lt_iff_lt_mul c];omega
set_option maxHeartbeats 2000000 in
def aiB(W:lZ->oX)(n:Nat)(vs:List V)(s nn:lY)(t:Tm)(l:lY)(P:Valid t)(b0:l.length=t.aC.length)(cC:5<=t.op)(T:∀v∈l,c5 v=true) (Z:(t.op<=9->∀v∈l,v=0\/v=1)/\(t.op=18->∀v,l[0]?=some v->v=0\/v=1)) (ck:t.op=17->∀v,l[1]?=some v->1<=v/\v<=255) (e:aS (q2 W n) n [aO vs,bY s,fT bn nn,aa 0,aa 0,aa t.op,aa t.num,aD t.name,bJ 4 t.nl (Tm.rows t.aC),.aw 1 []]=some (.inl [aa (if t.op=6\/t.op=7 then l.sum else 0),aa t.op,aa t.num,aD t.name,bJ 4 t.nl (Tm.rows t.aC),bY l])):iS W n (aO vs) t.d (bY s) (fT bn nn)=some (.aB [aa (ea t.op l).1,aE (ea t.op l).2]):=by
 have cx:=P.op;have i:=P.len;have bK:=Tm.lx t;have c1:=Tm.n7 t;have c2:=Tm.n8 t;have b8:=Tm.nb t;have k:=Tm.jJ t;have b3:=rp (op:=t.op);have N:=tC (op:=t.op);have X:=P.w3;have j:=Up n;have f:=Uq n;have es:∀l:lY,aF (bY l)=l.map λv=>[aa v]:=λ_=>rfl;have g:∀b:Bool,c5 (tr b)=true:=Lp;by_cases L:t.op=6\/t.op=7
 .generalize t.op=op at*;rcases L with rfl|rfl
  .simp[iS,k,bK,c1,c2,b8,e,es,j,f,ea,g];rfl
  simp[iS,k,bK,c1,c2,b8,e,es,j,f,ea,g]
 by_cases R:t.op=5
 .have:et t.op=(1,1):=by rw[R];rfl
  rw[this]at i;have O:l.length=1:=by simp only at i;omega
  match l,O with|[a],_=>have m:=Z.1 oZ a sZ;have p:aV false .sub (aa 1) (aa a)=some (aa (1-a)):=j6 oZ oZ;generalize t.op=op at*;subst R;simp[iS,k,bK,c1,c2,b8,e,es,f,ea,Gb,p]
 by_cases B:t.op=18;.rw[N B]at i;obtain⟨a,b,c,rfl⟩:=pY (l:=l) (by simp only at i;omega);generalize t.op=op at*;subst B;by_cases m:a=1<;>simp[iS,k,bK,c1,c2,b8,e,es,f,ea,Gb,UA,aiy,m]
 rw[b3 oZ]at i;obtain⟨a,b,rfl⟩:=mi (l:=l) (by simp only at i;omega);have I:=(hr a).1 (T a sZ);have Q:=(hr b).1 (T b sZ);have iL:cI 2 (aa 0)=some 0:=Gb;have w:cI 2 (aa 1)=some 1:=UA;by_cases A:t.op=17
 .obtain⟨cU,cK⟩:=ck A b rfl;have m1:=Bc (a:=a) cU;have F:b≠0:=oZ
  have de:aV false .add (aa (a.tmod b)) (aa b)=some (aa (a.tmod b+b)):=dx oZ oZ;have p:aV false .rem (aa a) (aa b)=some (aa (a.tmod b)):=ym F;have z:aV false .rem (aa (a.tmod b+b)) (aa b)=some (aa ((a.tmod b+b).tmod b)):=ym F;generalize t.op=op at*;subst A;simp[iS,k,bK,c1,c2,b8,e,es,f,ea,iL,w,p,z,de]
 by_cases K:t.op=16
 .have G:=Ur n a oZ;have H:=Ur n b oZ;have o:=aiA a b;have cA:=Un I Q;generalize t.op=op at*;subst K;by_cases m:a=0
  .subst m;have p:aV false .mul (aa 0) (aa b)=some (aa 0):=by rw[qK oZ oZ,Int.zero_mul]
   simp[iS,k,bK,c1,c2,b8,e,es,f,ea,iL,w,p,show c5 0=true from rfl]
  have S:=aiz m I;have o:=o m;have Y:(a==0)=false:=by simpa using m
  generalize 9007199254740992/a.natAbs=q at*;by_cases C:c5 (a*b)=true
  .have ab:¬((b.natAbs:Int)>(q:Int)):=λh=>by rw[o.1 h]at C;cases C
   have r:decide ((b.natAbs:Int)>(q:Int))=false:=xax ab;have b5:=(hr _).1 C;have p:aV false .mul (aa a) (aa b)=some (aa (a*b)):=qK oZ oZ;have z:aV false .gtr (aa (b.natAbs:Int)) (aa (q:Int))=some (aE false):=by rw[lv,r]
   simp[iS,k,bK,c1,c2,b8,e,es,f,ea,iL,w,G,H,S,z,p,C,m]
  have E:c5 (a*b)=false:=by simpa using C
  have r:decide ((b.natAbs:Int)>(q:Int))=true:=xao (o.2 E);have z:aV false .gtr (aa (b.natAbs:Int)) (aa (q:Int))=some (aE true):=by rw[lv,r]
  simp[iS,k,bK,c1,c2,b8,e,es,ea,iL,w,G,H,S,z,E,m]
 have bX:t.op=8\/t.op=9\/t.op=10\/t.op=11\/t.op=12\/t.op=13\/t.op=14\/t.op=15:=oZ
 have cr:aV false .add (aa a) (aa b)=some (aa (a+b)):=dx oZ oZ;have J:aV false .sub (aa a) (aa b)=some (aa (a-b)):=j6 oZ oZ;have U:∀x y:Int,mc n [aE (x==y)]=some (aa (tr (x==y))):=λ_ _=>j _;generalize t.op=op at*;rcases bX with rfl|rfl|rfl|rfl|rfl|rfl|rfl|rfl
 .by_cases u:a=0;.simp[iS,k,bK,c1,c2,b8,e,es,j,f,ea,g,iL,w,u]
  have M:(a==0)=false:=by simpa using u
  simp[iS,k,bK,c1,c2,b8,e,es,j,f,ea,g,iL,w,u,M]
 all_goals simp[iS,k,bK,c1,c2,b8,e,es,j,f,ea,g,iL,w,cr,J]
variable{bn:Bool}
def UB{a b:Nat}(h:a+b<=1000):b1 (a+b) 8=true:=eB
def UC{vs:List V}{nx:Bool}{t:Tm}(h:(h5 vs nx t).2=0)(ai:3<=t.op):∃i,c4 vs t.name=some i:=by
 unfold h5 at h;rw[xab oZ,xab oZ]at h;cases ag:c4 vs t.name with
 |none=>rw[ag]at h;cases h
 |some i=>exact⟨i,rfl⟩
def Ls{vs:List V}{nx:Bool}:∀{l:List Tm},(cX vs nx l).2=0->∀k∈l,(cP vs nx k).2=0
 |[],_,k,a=>by cases a
 |t::r,h,k,a=>by
  rw[cX]at h;by_cases ab:(cP vs nx t).2=0
  case neg=>rw[xac ab]at h;exact absurd h ab
  rw[xab (by simpa using ab)]at h;by_cases ae:(cX vs nx r).2=0
  case neg=>rw[xac ae]at h;exact absurd h ae
  rcases xam.1 a with rfl|a;.exact ab
  exact Ls ae k a
def Bf{vs:List V}{nx:Bool}{t k:Tm}(c:Valid t)(h:(cP vs nx t).2=0)(a:k∈t.aC):(cP vs nx k).2=0:=by
 rw[kC]at h;by_cases b:t.op<=4;.rw[c.leaf b]at a;cases a
 rw[xab b]at h;by_cases ak:(cX vs nx t.aC).2=0;.exact Ls ak k a
 rw[xac ak]at h;exact absurd h ak
def Lt{vs:List V}{i:Nat}{l:lY}(h:i<vs.length)(ah:l.length=vs.length):∃x,l[i]?=some x:=⟨_,xaa oZ⟩
@[simp] theorem aoS (p:lY) (x:Int):D.aw 1 (aF (bY p)++[[aa x]])=bY (p++[x]):=by simp[bY]
@[simp] theorem aoT (p:lY):(aF (bY p)).length=p.length:=by simp[bY]
@[simp] theorem aoU (p:lY):D.aw 1 (aF (bY p))=bY p:=rfl
def UD(vs:List V)(nx:Bool)(s nn:lY)(C:vs.length<1000000000000)(aj:s.length=vs.length):∀(n:Nat)(t:Tm),t.aP+200+vs.length<n->t.Ok->Valid t->(cP vs nx t).2=0->(steps t=true->nn.length=vs.length)->ou n [aO vs,t.d,bY s,fT bn nn]=some (.aB [aa (dp vs s nn t).1,aE (dp vs s nn t).2])
 |0,t,h,_,_,_,_=>absurd h (xaF _)
 |n+1,t,cx,N,o,G,z=>by
  have cC:=o.op;have bX:=o.w3;rw[mj];show iS (ou n) n (aO vs) t.d (bY s) (fT bn nn)=_;by_cases J:t.op<=4
  .rw[xac J];rw[kC,xac J]at G;have bK:=Tm.lx t;have c1:=Tm.n7 t;have c2:=Tm.n8 t;have b8:=Tm.nb t;have H:=Tm.jJ t;have B:=Up n;have g:=Uq n;by_cases ae:t.op<=2
   .unfold h6;rw[xac ae];have L:t.op=1\/t.op=2:=oZ
    generalize t.op=op at*;rcases L with rfl|rfl<;>simp[iS,H,bK,c1,c2,b8]
   obtain⟨i,ag⟩:=UC G oZ;obtain⟨v,Q,v2,v3⟩:=rq ag;have P:=Ll n vs t.name oZ C;rw[ag]at P;have j:(if t.op=4 then nn else s).length=vs.length:=by
    by_cases h:t.op=4;.rw[xac h];exact z (by rw[F9,h];rfl)
    rw[xab h];exact aj
   have M:jT vs s nn t=some i:=by unfold jT;rw[xac j,ag]
   obtain⟨x,b⟩:=Lt v3 j;unfold h6;rw[xab ae,M];simp only[Q,b];have L:t.op=3\/t.op=4:=oZ
   generalize t.op=op at*;rcases L with rfl|rfl
   .simp only[show¬((3:Int)=4) by omega,xaG]at b;cases K:v.bool<;>simp[iS,H,bK,c1,c2,b8,P,eS Q,v.pZ,lD b,B,g,K]
   simp only[xaD]at b;cases K:v.bool<;>simp[iS,H,bK,c1,c2,b8,P,eS Q,v.pZ,Uy b,B,g,K]
  rw[xab J];have A:∀k∈t.aC,steps k=true->nn.length=vs.length:=λk cA h=>by refine z ?_;cases R:k7 t.aC with|true=>rw[F9,R,Bool.or_true]|false=>rw[Ut cA R]at h;cases h
  have ah:=ch (f:=q2 (ou n) n) t.aC (λi (p:lY)=>[aO vs,bY s,fT bn nn,aa (if t.op=6\/t.op=7 then p.sum else 0),aa (i:Int),aa t.op,aa t.num,aD t.name,bJ 4 t.nl (Tm.rows t.aC),bY p]) (λr p=>match e9 vs s nn r with
    |some l=>(Sum.inl [aa (if t.op=6\/t.op=7 then(p++l).sum else 0),aa t.op,aa t.num,aD t.name,bJ 4 t.nl (Tm.rows t.aC),bY (p++l)]:lZ⊕D)
    |none=> .inr (.aB [aa 0,aE false]))
   (λi p=>p.length=i/\∀v∈p,c5 v=true) ?_ ?_ n 0 [] ⟨rfl,by simp⟩ oZ (xah _)
  .have X:(aa ((0:Nat):Int))=aa 0:=rfl;have Y:bY []= .aw 1 []:=rfl;rw[X,Y]at ah;simp only[List.sum_nil,ite_self,xak,xaM]at ah;cases q:e9 vs s nn t.aC with
   |none=>
    rw[q]at ah;have S:(t.op==1)=false:=uZ
    have T:(t.op==2)=false:=uZ
    have U:(t.op==3)=false:=uZ
    have W:(t.op==4)=false:=uZ
    simp[iS,S,T,U,W,ah]
   |some l=>rw[q]at ah;obtain⟨g1,g2,g3,g4⟩:=Ux (nx:=nx) o G oZ q;exact aiB (ou n) n vs s nn t l o g1 oZ g2 g3 g4 ah
  .intro p E;simp[q2,e9]
  intro i a p w ag E;have u:=xad w;have cU:=Tm.gg u;have F:=UD vs nx s nn C aj n a oZ (N.dj u) (o.dj u) (Bf o G u) (A a u);have m:b1 (p.length+1) 8=true:=UB oZ;by_cases ak:(dp vs s nn a).2=true
  .left;have y:=Uu (o.dj u) ak;refine⟨p++[(dp vs s nn a).1],?_,?_,by simp[E.1],?_⟩
   .have b3:=Lo p E.2;have b0:=(hr _).1 y;have e:aV false .add (aa p.sum) (aa (dp vs s nn a).1)=some (aa (p.sum+(dp vs s nn a).1)):=dx oZ oZ;by_cases c:t.op=6\/t.op=7
    .have ck:(if t.op=6 then true else decide (t.op=7))=true:=by rcases c with h|h<;>simp[h]
     rcases c with h|h;.simp[q2,ag,Tm.eO w,F,ak,bk i,m,h,e]
     simp[q2,ag,Tm.eO w,F,ak,bk i,m,h,e]
    have Z:¬t.op=6:=λh=>c (.inl h);have b5:¬t.op=7:=λh=>c (.inr h);simp[q2,ag,Tm.eO w,F,ak,bk i,m,Z,b5]
   .rw[e9,xac ak];cases e9 vs s nn (t.aC.drop (i+1))with|none=>rfl|some l=>simp
   intro v O;rcases xar.1 O with h|h
   .exact E.2 v h
   simp at h;rw[h];exact y
  right;rw[e9,xab ak];have I:(dp vs s nn a).2=false:=by simpa using ak
  simp[q2,ag,Tm.eO w,F,I]
theorem aiC{M:List (Value×D)}(h:iQ M){z:Value}{x:ByteArray}:gU .string z false M (aD x)=some (match eC M x with|some d=>d|none=>mF z):=by simp only[gU,aD,PV h];cases eC M x<;>rfl
def w9(p:Int×Bool):eJ 0 (er p)=some (aa (if p.2=true then p.1 else 0)):=by obtain⟨v,o⟩:=p;cases o<;>simp[er]
def xa(p:Int×Bool):eJ 1 (er p)=some (aE p.2):=by obtain⟨v,o⟩:=p;cases o<;>simp[er]
def Gc(p:Int×Bool):D.aB [aa (if p.2=true then p.1 else 0),aE p.2]=er p:=by obtain⟨v,o⟩:=p;cases o<;>simp[er]
theorem aiD(p:Int×Bool):(er p).flat=true:=by obtain⟨v,o⟩:=p;cases o<;>rfl
def UE(vs:List V)(nx:Bool)(s nn:lY)(M:List (Value×D))(J:F0 M vs)(Q:vs.length<1000000000000)(aj:s.length=vs.length)(o:∀v,v∈s\/v∈nn->-9223372036854775808<=v/\v<=9223372036854775807):∀(n:Nat)(t:Tm),t.aP+200<n->t.Ok->Valid t->(cP vs nx t).2=0->pA n [t.d,bY s,.mp M,fT bn nn,aO vs]=some [er (dp vs s nn t),bY s,.mp M,fT bn nn,aO vs]
 |0,t,h,_,_,_=>absurd h (xaF _)
 |n+1,t,cx,O,q,H=>by
  have cA:=q.op;have b0:=q.w3;rw[mj];show pz (pA n) n [t.d,bY s,.mp M,fT bn nn,aO vs]=_;have ah:=ch (f:=yM (pA n) n) t.aC (λi (p:lY)=>[bJ 4 t.nl (Tm.rows t.aC),aa t.aC.length,aa (i:Int),bY s,.mp M,fT bn nn,aO vs,aa t.op,aa t.num,aD t.name,bJ 4 t.nl (Tm.rows t.aC),bY p]) (λr p=>match e9 vs s nn r with|some l=>(Sum.inl [bY s,.mp M,fT bn nn,aO vs,aa t.op,aa t.num,aD t.name,bJ 4 t.nl (Tm.rows t.aC),bY (p++l)]:lZ⊕lZ)|none=> .inr [.aB [aa 0,aE false],bY s,.mp M,fT bn nn,aO vs])
   (λi p=>p.length=i) ?_ ?_ n 0 [] rfl oZ (xah _)
  .have bX:(aa ((0:Nat):Int))=aa 0:=rfl;have b5:bY []= .aw 1 []:=rfl;have cC:D.aB [aa 0,aE false]=er (0,false):=rfl;rw[bX,b5]at ah;simp only[xak,xaM]at ah;have bK:=Tm.lx t;have c1:=Tm.n7 t;have c2:=Tm.n8 t;have b8:=Tm.nb t;have w:=Tm.jJ t;by_cases F:t.op<=4
   .rw[xac F];rw[kC,xac F]at H;have C:=q.leaf F;rw[C]at ah;have z0:((([]:List Tm).length:Nat):Int)=0:=rfl;simp only[e9,z0]at ah;have b3:D.aw 1 []=bY []:=rfl;have E:=Uo n;by_cases ae:t.op<=2
    .unfold h6;rw[xac ae];have B:t.op=1\/t.op=2:=oZ
     generalize t.op=op at*;rcases B with rfl|rfl<;>simp[pz,w,bK,c1,c2,b8,C,ah,er]
    obtain⟨i,ag⟩:=UC H oZ;obtain⟨v,R,v2,v3⟩:=rq ag;have g:=aiC J.1 (z:= .int .i64 0) (x:=t.name);rw[J.2,ag]at g;simp only[xaI]at g;have e:jA (.mp M)=some M:=rfl;unfold h6;rw[xab ae];have B:t.op=3\/t.op=4:=oZ
    have S:(t.op==3||t.op==4)=true:=by rcases B with h|h<;>simp[h]
    by_cases b:(if t.op=4 then nn else s).length=vs.length
    .have m:jT vs s nn t=some i:=by unfold jT;rw[xac b,ag]
     obtain⟨x,c⟩:=Lt v3 b;have j:=xad c;rw[m];simp only[R,c];have k:k6 (x+0) true=er (x,c5 x):=by rw[Us,Int.add_zero]
     generalize t.op=op at*;rcases B with rfl|rfl
     .simp only[show¬((3:Int)=4) by omega,xaG]at c j b;have A:=F2 n x 0 (o x (.inl j)) oZ;rw[k]at A;cases L:v.bool<;>simp[pz,w,bK,c1,c2,b8,C,ah,e,g,p0,jR,b,eS R,v.pZ,lD c,E,L,A,w9,xa]<;>(try exact Gc (x,c5 x))<;>(try rfl)
     simp only[xaD]at c j b;have A:=F2 n x 0 (o x (.inr j)) oZ;rw[k]at A;cases L:v.bool<;>simp[pz,w,bK,c1,c2,b8,C,ah,e,g,jR,b,eS R,v.pZ,Uy c,E,L,A,w9,xa]<;>(try exact Gc (x,c5 x))<;>(try rfl)
    have m:jT vs s nn t=none:=by unfold jT;rw[xab b]
    rw[m];have y:t.op=4:=by refine B.resolve_left λh=>b ?_;rw[xab oZ];exact aj
    rw[xac y]at b;generalize t.op=op at*;subst y;have N:¬((nn.length:Int)=(vs.length:Int)):=oZ
    simp[pz,w,bK,c1,c2,b8,C,ah,e,g,jR,N]<;>(try rfl)
   rw[xab F];have W:(t.op==1)=false:=uZ
   have X:(t.op==2)=false:=uZ
   have Y:(t.op==3)=false:=uZ
   have Z:(t.op==4)=false:=uZ
   cases u:e9 vs s nn t.aC with
   |none=>rw[u]at ah;simp[pz,w,bK,c1,c2,b8,ah]<;>(try rfl)
   |some l=>rw[u]at ah;obtain⟨g1,g2,g3,g4⟩:=Ux (nx:=nx) q H oZ u;have ck:=air n t l q g1 oZ g2 oZ g3 g4;simp[pz,w,bK,c1,c2,b8,ah,W,X,Y,Z,ck,aiD,w9,xa,Gc]
  .intro p T;simp[yM,e9]
  intro i a p K ag T;have G:=xad K;have cU:=Tm.gg G;have U:=UE vs nx s nn M J Q aj o n a oZ (O.dj G) (q.dj G) (Bf q H G);have P:b1 (p.length+1) 8=true:=UB oZ;by_cases ak:(dp vs s nn a).2=true
  .left;refine⟨p++[(dp vs s nn a).1],?_,?_,by simp[T]⟩;.simp[yM,ag,Tm.eO K,U,ak,bk i,P,w9,xa]
   rw[e9,xac ak];cases e9 vs s nn (t.aC.drop (i+1))with|none=>rfl|some l=>simp
  right;rw[e9,xab ak];have I:(dp vs s nn a).2=false:=by simpa using ak
  simp[yM,ag,Tm.eO K,U,I,w9,xa]
def UF:∀(n:Nat)(t:Tm),t.aP<n->t.Ok->ot n [t.d]=some (aE (steps t))
 |0,t,h,_=>absurd h (xaF _)
 |n+1,t,o,b=>by
  have g:=b.len;rw[F9];have ah:=ch (f:=zD (ot n) n) t.aC (λi (_:Unit)=>[aa (i:Int),aa t.op,aa t.num,aD t.name,bJ 4 t.nl (Tm.rows t.aC)]) (λr _=>if k7 r=true then(Sum.inr (aE true):lZ⊕D)else .inl []) (λ_ _=>True) (λ_ _=>by simp[zD,k7]) ?_ n 0 () trivial (by have:=t.iz;omega) (xah _)
  .have l:(aa ((0:Nat):Int))=aa 0:=rfl;rw[l]at ah;simp only[xak]at ah;by_cases c:t.op=4;.simp[ot,Ef,c]
   have m:(t.op==4)=false:=by simpa using c
   cases aj:k7 t.aC<;>simp[ot,Ef,c,ah,aj]
  intro i a _ e ag _;have j:=xad e;have p:=Tm.gg j;have k:=UF n a oZ (b.dj j);cases aj:steps a
  .left;exact⟨(),by simp[zD,ag,Tm.eO e,k,aj,bk i],by simp[k7,aj],trivial⟩
  right;simp[zD,ag,Tm.eO e,k,aj,k7]
def UG{vs:List V}{s nn:lY}:∀{l:List Tm}{r:lY},e9 vs s nn l=some r->∀k∈l,(dp vs s nn k).2=true
 |[],_,_,k,a=>by cases a
 |t::q,r,h,k,a=>by
  rw[e9]at h;by_cases ab:(dp vs s nn t).2=true
  case neg=>rw[xab ab]at h;cases h
  rw[xac ab]at h;cases ae:e9 vs s nn q with
  |none=>rw[ae]at h;cases h
  |some l=>
   rcases xam.1 a with rfl|a;.exact ab
   exact UG ae k a
def UH:∀{l:List Tm},k7 l=true->∃k∈l,steps k=true
 |a::r,h=>by rw[k7]at h;cases b:steps a with|true=>exact⟨a,by simp,b⟩|false=>rw[b,xbB]at h;obtain⟨k,ab,ae⟩:=UH h;exact⟨k,by simp[ab],ae⟩
def aiE{vs:List V}{s nn:lY}(c:nn.length≠vs.length)(t:Tm):Valid t->steps t=true->(dp vs s nn t).2=false:=by
 refine Tm.ind (P:=λt=>Valid t->steps t=true->(dp vs s nn t).2=false) ?_ t;intro t ih d h;rw[mj];rw[F9]at h;by_cases a:t.op<=4
 .rw[xac a];have b:t.op=4:=by
   rw[d.leaf a]at h;simpa[k7]using h
  unfold h6;rw[xab oZ];have:jT vs s nn t=none:=by unfold jT;rw[xac b,xab c]
  rw[this]
 rw[xab a];have e:(t.op==4)=false:=uZ
 rw[e,xbB]at h;obtain⟨k,ab,ae⟩:=UH h;cases ah:e9 vs s nn t.aC with|none=>rfl|some l=>have:=UG ah k ab;rw[ih k ab (d.dj ab) ae]at this;cases this
def fG(vs:List V)(t:Tm)(s nn:lY):Int×Bool:=if(eF vs true t).2≠0\/s.length≠vs.length then(0,false)else dp vs s nn t
def Bg{vs:List V}{nx:Bool}{t:Tm}(h:(eF vs nx t).2=0):Valid t/\(cP vs nx t).2=0:=by
 unfold eF at h;by_cases a:(cq t 1 0).1=0;.rw[xab (by simpa using a)]at h;exact⟨⟨1,0,a⟩,h⟩
 rw[xac a]at h;exact absurd h a
def Lu(n:Nat)(vs:List V)(t:Tm)(s nn:lY)(m:t.aP+200+vs.length<n)(b:t.Ok)(a:vs.length<1000000000000)(g:∀v,v∈s\/v∈nn->-9223372036854775808<=v/\v<=9223372036854775807):nu n [aO vs,t.d,bY s,fT bn nn]=some (er (fG vs t s nn)):=by
 have ab:=Ln n vs t true m b a;obtain⟨M,m1,m2⟩:=T9 n vs oZ a;have i:c8 (aO vs)=true:=rfl;have j:∀l,c8 (bY l)=true:=λ_=>rfl;have c:D.aB [aa 0,aE false]=er (0,false):=rfl;unfold fG;by_cases f:(eF vs true t).2=0
 .by_cases aj:s.length=vs.length
  .obtain⟨o,h⟩:=Bg f;have k:=UE (bn:=bn) vs true s nn M m2 a aj g n t oZ b o h;have e:((s.length:Int) !=(vs.length:Int))=false:=by simp[aj]
   simp[nu,E6,i,j,ab,f,aj,p0,jR,m1,k,w9,xa,Gc]
  have e:¬((s.length:Int)=(vs.length:Int)):=oZ
  simp[nu,E6,i,j,ab,f,aj,p0,jR,e];exact c
 simp[nu,E6,i,j,ab,f];exact c
def Lv(n:Nat)(vs:List V)(t:Tm)(s nn:lY)(w:t.aP+200+vs.length<n)(b:t.Ok)(i:vs.length<1000000000000):me n [aO vs,t.d,bY s,fT bn nn]=some (er (fG vs t s nn)):=by
 have ab:=Ud n vs t true w b i;have ae:=UF n t oZ b;have f:D.aB [aa 0,aE false]=er (0,false):=rfl;unfold fG;by_cases e:(eF vs true t).2=0
 .by_cases aj:s.length=vs.length
  .obtain⟨x,q⟩:=Bg e;by_cases a:steps t=true/\nn.length≠vs.length
   .have r:=aiE (s:=s) a.2 t x a.1;have m:¬((nn.length:Int)=(vs.length:Int)):=by have:=a.2;omega
    have j:er (dp vs s nn t)= .aB [aa 0,aE false]:=by unfold er;rw[xab (by simp[r])]
    simp[me,vM,ab,ae,e,aj,p0,jR,a.1,m,j]
   have u:=UD (bn:=bn) vs true s nn i aj n t w b x q (λh=>by refine xbi λl=>a ⟨h,l⟩);have j:er (dp vs s nn t)=if(dp vs s nn t).2=true then .aB [aa (dp vs s nn t).1,aE true]else .aB [aa 0,aE false]:=rfl
   by_cases c:steps t=true;.have o:nn.length=vs.length:=xbi λl=>a ⟨c,l⟩;cases k:(dp vs s nn t).2<;>simp[me,vM,ab,ae,e,aj,p0,jR,c,o,u,k,j]
   have g:steps t=false:=by simpa using c
   cases k:(dp vs s nn t).2<;>simp[me,vM,ab,ae,e,aj,p0,jR,g,u,k,j]
  have p:¬((s.length:Int)=(vs.length:Int)):=oZ
  simp[me,vM,ab,ae,e,aj,p0,jR,p];exact f
 simp[me,vM,ab,ae,e];exact f
def UI{lo ag x y:Int}(ab:lo<=x)(ae:x<=ag):iC (lo*y) (ag*y)<=x*y/\x*y<=ed (lo*y) (ag*y):=by
 by_cases c:0<=y;.have a:=Int.mul_le_mul_of_nonneg_right ab c;have b:=Int.mul_le_mul_of_nonneg_right ae c;unfold iC ed;constructor<;>split<;>omega
 have a:=Int.mul_le_mul_of_nonpos_right ab (oZ:y<=0);have b:=Int.mul_le_mul_of_nonpos_right ae (oZ:y<=0);unfold iC ed;constructor<;>split<;>omega
def UJ{lo ag x y:Int}(ab:lo<=x)(ae:x<=ag):iC (y*lo) (y*ag)<=y*x/\y*x<=ed (y*lo) (y*ag):=by have:=UI (y:=y) ab ae;rw[Int.mul_comm lo y,Int.mul_comm ag y,Int.mul_comm x y]at this;exact this
def aiF{a b:Y}{x y:Int}(d:a.lo<=x/\x<=a.ag)(c:b.lo<=y/\y<=b.ag):wZ a b<=x*y/\x*y<=w1 a b:=by have ab:=UI (y:=y) d.1 d.2;have ae:=UJ (y:=a.lo) c.1 c.2;have ai:=UJ (y:=a.ag) c.1 c.2;unfold wZ w1;generalize x*y=p at*;generalize a.lo*y=q at*;generalize a.ag*y=r at*;generalize a.lo*b.lo=s at*;generalize a.lo*b.ag=t at*;generalize a.ag*b.lo=u at*;generalize a.ag*b.ag=v at*;unfold iC ed at*;omega
def aiG{lo ag v:Int}(h:(e8 lo ag).2=0)(ab:lo<=v)(ae:v<=ag):(e8 lo ag).1.lo<=v/\v<=(e8 lo ag).1.ag:=by
 unfold e8 at*;split at h;.cases h
 rename_i a;rw[xab a];exact⟨ab,ae⟩
def eb(vs:List V)(s:lY):Prop:=s.length=vs.length/\∀(i:Nat)(v:V)(x:Int),vs[i]?=some v->s[i]?=some x->if v.bool then x=0\/x=1 else v.lo<=x/\x<=v.ag
def within(y:Y)(v:Int):Prop:=if y.b then v=0\/v=1 else y.lo<=v/\v<=y.ag
def rv{lo ag v:Int}(h:(e8 lo ag).2=0)(ab:lo<=v)(ae:v<=ag):within (e8 lo ag).1 v:=by unfold within;rw[w7];exact aiG h ab ae
def p1{y:Y}{b:Bool}(h:y.b=true):within y (tr b):=by unfold within;rw[xac h];exact Be b
def UK{lo ag:Int}(h:(e8 lo ag).2=0):-1048576<=lo/\ag<=1048576/\lo<=ag:=by
 unfold e8 at h;split at h;.cases h
 omega
def aiH{vs:List V}{s nn:lY}{t:Tm}(aj:eb vs s)(n:eb vs nn)(j:Valid t)(h:(h5 vs true t).2=0):(h6 vs s nn t).2=true/\within (h5 vs true t).1 (h6 vs s nn t).1:=by
 have f:=j.num;unfold h5 at*;unfold h6;by_cases ab:t.op=1;.rw[xac ab]at*;rw[xac oZ];exact⟨rfl,rv h (Int.le_refl _) (Int.le_refl _)⟩
 rw[xab ab]at*;by_cases ae:t.op=2;.rw[xac ae]at*;rw[xac oZ];refine⟨rfl,?_⟩;unfold within;simp only[gB,xaD];omega
 rw[xab ae]at*;have m:=j.op;rw[xab (show¬t.op<=2 by omega)];cases ag:c4 vs t.name with
 |none=>rw[ag]at h;cases h
 |some i=>
  rw[ag]at h;simp only at h⊢;obtain⟨v,d,v2,v3⟩:=rq ag;have b:¬(t.op=4/\true=false):=sZ
  rw[xab b,d]at h;rw[xab b,d];simp only at h⊢;have a:eb vs (if t.op=4 then nn else s):=by split<;>assumption
  have e:jT vs s nn t=some i:=by unfold jT;rw[xac a.1,ag]
  obtain⟨x,k⟩:=Lt v3 a.1;rw[e];simp only[k,d];have g:=a.2 i v x d k;by_cases c:v.bool=true
  .rw[xac c]at*;rw[xac c];exact⟨rfl,p1 rfl⟩
  rw[xab c]at*;rw[xab c];have l:=UK h;exact⟨(hr _).2 oZ,rv h g.1 g.2⟩
def aiI{l:List Y}{a:lY}(ah:l.all Y.b=true)(d:a.length=l.length)(h:∀(i:Nat)(y:Y)(v:Int),l[i]?=some y->a[i]?=some v->within y v):∀v∈a,v=0\/v=1:=by
 intro v g;obtain⟨i,ag⟩:=xaJ.1 g;have c:i<l.length:=by have:=(lV.1 ag).1;omega
 have j:=xaa c;have f:=xay.1 ah _ (xaW c);have e:=h i _ v j ag;unfold within at e
 rwa [xac f]at e
def aiJ{t:Tm}{a b c:Y}(h:¬(5<=t.op/\t.op<=9)):eR t [a,b,c]=if(!a.b||(b.b !=c.b))then(dJ,13)else if b.b then(gB,0)else e8 (iC b.lo c.lo) (ed b.ag c.ag):=by unfold eR;rw[xab h]
def aiK{t:Tm}{a b:Y}(h:¬(5<=t.op/\t.op<=9)):eR t [a,b]=if t.op=10\/t.op=11 then if a.b !=b.b then(dJ,13)else(gB,0)
   else if(a.b||b.b)then(dJ,13)
   else if t.op=12\/t.op=13 then(gB,0)
   else if t.op=17 then(match t.aC[1]? with
    |some k=>if k.op≠1\/k.num<1 then(dJ,2)else e8 0 (k.num-1)
    |none=>(dJ,0))
   else k5 t.op a b:=by
 unfold eR;rw[xab h]<;>rfl
def aiL{op a b c:Int}(d:¬op=6)(e:¬op=7):ea op [a,b,c]=(if a=1 then b else c,c5 (if a=1 then b else c)):=by unfold ea;rw[xab d,xab e]
def aiM{op a b:Int}(c:¬op=6)(d:¬op=7):ea op [a,b]=if op=8 then(tr (a==0||b==1),true)else if op=9\/op=10 then(tr (a==b),true)else if op=11 then(tr (a !=b),true)
   else if op=12 then(tr (decide (a<b)),true)else if op=13 then(tr (decide (a<=b)),true)
   else if op=14 then(a+b,c5 (a+b))else if op=15 then(a-b,c5 (a-b))
   else if op=16 then if c5 (a*b)then(a*b,true)else(0,false)
   else((a.tmod b+b).tmod b,c5 ((a.tmod b+b).tmod b)):=by
 unfold ea;rw[xab c,xab d]
def aiN{t:Tm}{l:List Y}{f:lY}(V:Valid t)(eW:5<=t.op)(d:(eR t l).2=0)(J:∀y∈l,y.im)(ck:l.length=t.aC.length)(o:f.length=l.length) (s:∀(i:Nat)(y:Y)(v:Int),l[i]?=some y->f[i]?=some v->within y v) (dD:t.op=17->∀k v,t.aC[1]?=some k->f[1]?=some v->v=k.num):(ea t.op f).2=true/\within (eR t l).1 (ea t.op f).1:=by
 have eI:=V.op;have e:=V.len;have r:5<=t.op/\t.op<=9->(eR t l).1.b=true:=λh=>by have:=Ga d h;unfold eR;rw[xac h,xac this];rfl
 by_cases S:t.op=6\/t.op=7
 .have m:=r oZ;unfold ea;rcases S with h|h
  .rw[xac h];exact⟨rfl,p1 m⟩
  rw[xab oZ,xac h];exact⟨rfl,p1 m⟩
 by_cases R:t.op=5
 .have m:=r oZ;have:et t.op=(1,1):=by rw[R];rfl
  rw[this]at e;have W:f.length=1:=by simp only at e;omega
  match f,W,o,s with|[a],_,o,s=>have cK:=aiI (Ga d oZ) o s a sZ;have C:c5 (1-a)=true:=(hr _).2 oZ;unfold ea;rw[xab oZ,xab oZ];refine⟨C,?_⟩;unfold within;rw[xac m];simp only;omega
 have bX:¬t.op=6:=oZ
 have b5:¬t.op=7:=oZ
 by_cases Q:t.op=18
 .rw[tC Q]at e;obtain⟨a,b,c,rfl⟩:=pY (l:=l) (by simp only at e;omega);obtain⟨x,y,z,rfl⟩:=pY (l:=f) (by simpa using o);have p:¬(5<=t.op/\t.op<=9):=oZ
  obtain⟨fg,Z,ff⟩:=Lr d p;have I:=s 0 a x rfl rfl;have u:=s 1 b y rfl rfl;have L:=s 2 c z rfl rfl;have M:=J b sZ;have gc:=J c sZ;unfold within at I u L;rw[aiL bX b5];rw[aiJ p]at d⊢;have T:¬(!a.b||(b.b !=c.b))=true:=by rw[fg,Z];simp
  rw[xab T]at d⊢;by_cases m:b.b=true
  .rw[xac m];rw[xac m]at u;rw[<-Z,xac m]at L;by_cases H:x=1;.rw[xac H];have q:c5 y=true:=(hr _).2 oZ;refine⟨q,?_⟩;unfold within;simp only[gB,xaD];exact u
   rw[xab H];have q:c5 z=true:=(hr _).2 oZ;refine⟨q,?_⟩;unfold within;simp only[gB,xaD];exact L
  rw[xab m]at d⊢;rw[xab m]at u;rw[<-Z,xab m]at L;obtain⟨_,cA,cC,cx⟩:=M;obtain⟨_,c1,c2,b8⟩:=gc;have eV:iC b.lo c.lo<=b.lo/\iC b.lo c.lo<=c.lo:=by unfold iC;split<;>omega
  have ek:b.ag<=ed b.ag c.ag/\c.ag<=ed b.ag c.ag:=by unfold ed;split<;>omega
  by_cases H:x=1;.rw[xac H];have q:c5 y=true:=(hr _).2 oZ;exact⟨q,rv d oZ oZ⟩
  rw[xab H];have q:c5 z=true:=(hr _).2 oZ;exact⟨q,rv d oZ oZ⟩
 rw[rp (oZ:8<=t.op/\t.op<=17)]at e;obtain⟨a,b,rfl⟩:=mi (l:=l) (by simp only at e;omega);obtain⟨x,y,rfl⟩:=mi (l:=f) (by simpa using o);have I:=s 0 a x rfl rfl;have u:=s 1 b y rfl rfl;have cU:=J a sZ;have M:=J b sZ;rw[aiM bX b5];by_cases b3:t.op=8
 .rw[xac b3];exact⟨rfl,p1 (r oZ)⟩
 rw[xab b3];by_cases de:t.op=9;.rw[xac (Or.inl de)];exact⟨rfl,p1 (r oZ)⟩
 have p:¬(5<=t.op/\t.op<=9):=oZ
 rw[aiK p]at d⊢;by_cases w:t.op=10\/t.op=11
 .rw[xac w]at d⊢;by_cases E:(a.b !=b.b)=true;.rw[xac E]at d;cases d
  rw[xab E];rcases w with h|h
  .rw[xac (Or.inr h)];exact⟨rfl,p1 rfl⟩
  have U:¬(t.op=9\/t.op=10):=oZ
  rw[xab U,xac h];exact⟨rfl,p1 rfl⟩
 rw[xab w]at d⊢;have D:¬(t.op=9\/t.op=10):=oZ
 have N:¬t.op=11:=oZ
 rw[xab D,xab N];by_cases E:(a.b||b.b)=true;.rw[xac E]at d;cases d
 rw[xab E]at d⊢;have dV:a.b=false/\b.b=false:=by cases cK:a.b<;>cases m:b.b<;>simp_all
 have G:¬(false=true):=sZ
 unfold within at I u;rw[dV.1,xab G]at I;rw[dV.2,xab G]at u;obtain⟨_,aG,a2,a3⟩:=cU;obtain⟨_,cA,cC,cx⟩:=M;by_cases g:t.op=12\/t.op=13
 .rw[xac g];rcases g with h|h
  .rw[xac h];exact⟨rfl,p1 rfl⟩
  have U:¬t.op=12:=oZ
  rw[xab U,xac h];exact⟨rfl,p1 rfl⟩
 rw[xab g]at d⊢;have O:¬t.op=12:=oZ
 have P:¬t.op=13:=oZ
 rw[xab O,xab P];by_cases B:t.op=17
 .rw[xac B]at d⊢;have j:¬t.op=14:=oZ
  have n:¬t.op=15:=oZ
  have A:¬t.op=16:=oZ
  rw[xab j,xab n,xab A];cases K:t.aC[1]? with
  |none=>have:=xck.1 K;simp only at e;omega
  |some k=>
   rw[K]at d;simp only at d⊢;by_cases b0:k.op≠1\/k.num<1;.rw[xac b0]at d;cases d
   rw[xab b0]at d⊢;have X:=dD B k y K rfl;subst X;have dR:=(V.dj (xad K)).num;have m1:=Bc (a:=x) (b:=k.num) oZ;have m2:=Bc (a:=x.tmod k.num+k.num) (b:=k.num) oZ;have m3:=Int.tmod_nonneg (a:=x.tmod k.num+k.num) k.num oZ;have q:c5 ((x.tmod k.num+k.num).tmod k.num)=true:=(hr _).2 oZ;exact⟨q,rv d m3 oZ⟩
 rw[xab B]at d⊢;unfold k5 at d⊢;by_cases n:t.op=15
 .have j:¬t.op=14:=oZ
  simp only[xac n,xab j]at d⊢;have q:c5 (x-y)=true:=(hr _).2 oZ;exact⟨q,rv d oZ oZ⟩
 by_cases j:t.op=14;.simp only[xab n,xac j]at d⊢;have q:c5 (x+y)=true:=(hr _).2 oZ;exact⟨q,rv d oZ oZ⟩
 have A:t.op=16:=oZ
 simp only[xab j,xab n,xac A]at d⊢;have F:=aiF I u;have dE:=UK d;have C:c5 (x*y)=true:=(hr _).2 oZ;simp only[xac C];exact⟨trivial,rv d F.1 F.2⟩
def UL{vs:List V}{s nn:lY}:∀{l:List Tm},(∀k∈l,(dp vs s nn k).2=true)->e9 vs s nn l=some (l.map λk=>(dp vs s nn k).1)
 |[],_=>rfl|t::r,h=>by rw[e9,xac (h t sZ),UL λk a=>h k (by simp[a])];rfl
def UM{vs:List V}{nx:Bool}:∀{l:List Tm},(cX vs nx l).2=0->(cX vs nx l).1=l.map λk=>(cP vs nx k).1
 |[],_=>rfl
 |t::r,h=>by
  rw[cX]at*;by_cases ab:(cP vs nx t).2=0
  case neg=>rw[xac ab]at h;exact absurd h ab
  have a:¬(cP vs nx t).2≠0:=by simpa using ab
  rw[xab a]at h⊢;by_cases ae:(cX vs nx r).2=0
  case neg=>rw[xac ae]at h;exact absurd h ae
  have b:¬(cX vs nx r).2≠0:=by simpa using ae
  rw[xab b];simp[UM ae]
def UN{vs:List V}{s nn:lY}(aj:eb vs s)(r:eb vs nn)(t:Tm):Valid t->(cP vs true t).2=0->(dp vs s nn t).2=true/\within (cP vs true t).1 (dp vs s nn t).1:=by
 refine Tm.ind (P:=λt=>Valid t->(cP vs true t).2=0->(dp vs s nn t).2=true/\within (cP vs true t).1 (dp vs s nn t).1) ?_ t;intro t ih b h;have m:∀k∈t.aC,(cP vs true k).2=0:=λk m=>Bf b h m;rw[kC]at h⊢;rw[mj];by_cases j:t.op<=4
 .rw[xac j]at*;rw[xac j];exact aiH aj r b h
 rw[xab j]at h⊢;rw[xab j];by_cases ak:(cX vs true t.aC).2=0
 case neg=>rw[xac ak]at h;exact absurd h ak
 have n:¬(cX vs true t.aC).2≠0:=by simpa using ak
 rw[xab n]at h⊢;have q:e9 vs s nn t.aC=_:=UL λk a=>(ih k a (b.dj a) (m k a)).1;rw[q];simp only;obtain⟨g1,g2⟩:=w2 vs true t.aC ak;have p:=UM ak;refine aiN b oZ h g2 g1 (by rw[g1];simp) ?_ ?_
 .intro i y v g e;rw[p]at g;simp only[xag,xae]at g e;obtain⟨k,bS,rfl⟩:=g;obtain⟨u,cy,rfl⟩:=e;rw[bS]at cy;cases cy;exact(ih k (xad bS) (b.dj (xad bS)) (m k (xad bS))).2
 intro o k v c f;simp only[xag,c,xaI,xaE]at f;have d:=b.len;rw[rp oZ]at d;obtain⟨w,x,g⟩:=mi (l:=(cX vs true t.aC).1) (by simp only at d;omega);rw[g]at h;have:=Uv h o c;rw[<-f,mj,xac oZ];unfold h6;rw[xac oZ]
end Go.Am
