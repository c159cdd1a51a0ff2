/- Laws, on data. No condition. -/
import Derived.Test.YtjonbfbkkkcjgaaGreatDoorLaws
import Derived.Test.YtjonbfbkkkcjgaaGreatDoorEngS
import Derived.KernelRfl
set_option linter.all false
set_option linter.unnecessarySimpa false
namespace Go.Am
structure cv where
 name:ByteArray
 f:Fm
def cv.cells(d:cv):lZ:=[aD d.name,aa d.f.op,aa d.f.e.op,aa d.f.e.num,aD d.f.e.name,bI 4 d.f.e.nl (Tm.rows d.f.e.az),bI 6 d.f.nl (Fm.rows d.f.az)]
def an(l:List Tm):D:= .aw 4 (Tm.rows l)
def bj(l:List cv):D:= .aw 7 (l.map cv.cells)
def rl{l:List Tm}{i:Nat}{t:Tm}(h:l[i]?=some t):ba 4 (an l) (aa (i:Int))=some t.cells:=by simp[an,Tm.C7 h]
def Be(l:List Tm):dN (an l)=some (aa l.length):=by simp[an]
attribute [go_sem] Be
def jQ{l:List cv}{i:Nat}{t:cv}(h:l[i]?=some t):ba 7 (bj l) (aa (i:Int))=some t.cells:=by simp[bj,h]
def ah8(l:List cv):dN (bj l)=some (aa l.length):=by simp[bj]
attribute [go_sem] ah8
def cv.d(d:cv):D:= .agg d.cells
theorem cv.ah9(d:cv):aQ true 7 0 d.cells=some d.d:=rfl
theorem cv.ys(d:cv):aQ true 6 1 d.cells=some d.f.d:=by rw[Fm.hj];rfl
attribute [go_sem] cv.ys
theorem cv.yr(d:cv):aQ false 1 0 d.cells=some (aD d.name):=rfl
attribute [go_sem] cv.yr
def cv.agg(d:cv):cz 7 d.d=true:=by unfold cv.d cv.cells;simp[]
theorem cv.bK(d:cv):ae d.d 0=aD d.name:=rfl
theorem cv.c1(d:cv):ae d.d 1=aa d.f.op:=rfl
theorem cv.c2(d:cv):ae d.d 2=aa d.f.e.op:=rfl
theorem cv.b6(d:cv):ae d.d 3=aa d.f.e.num:=rfl
theorem cv.e2(d:cv):ae d.d 4=aD d.f.e.name:=rfl
theorem cv.jh(d:cv):ae d.d 5=bI 4 d.f.e.nl (Tm.rows d.f.e.az):=rfl
theorem cv.ji(d:cv):ae d.d 6=bI 6 d.f.nl (Fm.rows d.f.az):=rfl
structure bH where
 vars:List V
 ao:List bd
 bg:List Tm
 bh:List Tm
 next:List bd
 trans:List Tm
 bb:List Tm
 bc:List cv
def bH.d(m:bH):D:= .agg [aO m.vars,aA m.ao,an m.bg,an m.bh,aA m.next,an m.trans,an m.bb,bj m.bc]
section
variable(m:bH)
theorem bH.bK:ae m.d 0=aO m.vars:=rfl
attribute [go_sem] bH.bK
theorem bH.c1:ae m.d 1=aA m.ao:=rfl
attribute [go_sem] bH.c1
theorem bH.c2:ae m.d 2=an m.bg:=rfl
attribute [go_sem] bH.c2
theorem bH.b6:ae m.d 3=an m.bh:=rfl
attribute [go_sem] bH.b6
theorem bH.e2:ae m.d 4=aA m.next:=rfl
attribute [go_sem] bH.e2
theorem bH.jh:ae m.d 5=an m.trans:=rfl
attribute [go_sem] bH.jh
theorem bH.ji:ae m.d 6=an m.bb:=rfl
attribute [go_sem] bH.ji
theorem bH.ou:ae m.d 7=bj m.bc:=rfl
attribute [go_sem] bH.ou
theorem bH.agg:cz 8 m.d=true:=rfl
attribute [go_sem] bH.agg
theorem bH.eta:D.agg [aO m.vars,aA m.ao,an m.bg,an m.bh,aA m.next,an m.trans,an m.bb,bj m.bc]=m.d:=rfl
attribute [go_sem] bH.eta
end
def T9:∀l:List Tm,kr l=l.map eD
 |[]=>rfl|k::r=>by rw[kr,T9 r];rfl
theorem w9(t:Tm):eD t= .mk t.op t.num t.name false (t.az.map eD):=by cases t;rw[eD,T9];rfl
def FX(t:Tm):(eD t).aS=t.aS:=by
 refine Tm.ind (P:=λt=>(eD t).aS=t.aS) ?_ t;intro t ih;have key:∀l:List Tm,(∀k∈l,(eD k).aS=k.aS)->Tm.cY (l.map eD)=Tm.cY l:=by
  intro l
  induction l with
  |nil=>intro _;rfl
  |cons a r b=>intro h;simp only[xaw,Tm.cY];rw[h a sZ,b λk c=>h k (by simp[c])]
 rw[Tm.tw,Tm.tw t,w9];show 2+Tm.cY (t.az.map eD)=_;rw[key _ ih]
def aia(t:Tm):t.Ok->(eD t).Ok:=by
 refine Tm.ind (P:=λt=>t.Ok->(eD t).Ok) ?_ t;intro t ih a;rw[w9];have d:=a.len;obtain⟨i,j,l⟩:(-9223372036854775808<=t.op/\t.op<=9223372036854775807)/\(-9223372036854775808<=t.num/\t.num<=9223372036854775807)/\t.name.size<=140737488355328:=by cases a with|mk o n s b ks g f aj ah e=>exact⟨g,f,aj⟩
 refine .mk _ _ _ _ _ i j l (by simpa using d) ?_;intro k e;obtain⟨h,c,rfl⟩:=xaK.1 e;exact ih h c (a.di c)
def gO:Int:=9007199254740992
def c4(n:Int):Bool:=decide (-9007199254740992<=n)&&decide (n<=9007199254740992)
def k1(n:Int)(ok:Bool):D:=if ok&&c4 n then .aC [aa n,aF true]else .aC [aa 0,aF false]
def aib(n:Nat)(a:Int)(ok:Bool):Dm n [aa a,aF ok]=some (k1 a ok):=by unfold k1 c4;cases ok<;>simp[Dm,Qp,-Jj,-I4];grind
def FY(n:Nat)(a b:Int)(h:-9223372036854775808<=a/\a<=9223372036854775807)(i:-9223372036854775808<=b/\b<=9223372036854775807):qL n [aa a,aa b]=some (k1 (a+b) true):=by
 have a1:=aib n;by_cases ab:(a<0)=(b<0)
 case neg=>
  have e:IntKind.i64.wrap (a+b)=a+b:=by
   refine wrap64 _ ?_ ?_;.by_cases c:a<0<;>by_cases d:b<0<;>simp[c,d]at ab<;>omega
   by_cases c:a<0<;>by_cases d:b<0<;>simp[c,d]at ab<;>omega
  have f:(decide (a<0) !=decide (b<0))=true:=by by_cases c:a<0<;>by_cases d:b<0<;>simp[c,d]at ab⊢
  simp[qL,Dn,C0,e,f,a1];unfold k1;split<;>simp
 have f:(decide (a<0) !=decide (b<0))=false:=by by_cases c:a<0<;>by_cases d:b<0<;>simp[c,d]at ab⊢
 by_cases g:-9223372036854775808<=a+b/\a+b<=9223372036854775807
 .have e:IntKind.i64.wrap (a+b)=a+b:=wrap64 _ g.1 g.2;have aj:(decide (a<0)==decide (a+b<0))=true:=by
   by_cases c:a<0<;>by_cases d:b<0<;>simp[c,d]at ab⊢<;>omega
  simp[qL,Dn,C0,e,f,aj,a1];unfold k1;split<;>simp
 have e:IntKind.i64.wrap (a+b)=if a<0 then a+b+18446744073709551616 else a+b-18446744073709551616:=by simp only[IntKind.wrap_i64];split<;>omega
 have aj:(decide (a<0)==decide (IntKind.i64.wrap (a+b)<0))=false:=by rw[e];by_cases c:a<0<;>by_cases d:b<0<;>simp[c,d]at ab⊢<;>omega
 simp[qL,Dn,C0,f,aj,a1];have:c4 (a+b)=false:=by unfold c4;simp;omega
 simp[k1,this]
def dS(n:Int):D:= .val (.int .u64 n)
section
variable{bt:Bool}{a b:Int}
def FZ(h:0<=a+b)(c:a+b<18446744073709551616):aW bt .add (dS a) (dS b)=some (dS (a+b)):=by have e:aW bt .add (dS a) (dS b)=some (dS (IntKind.u64.wrap (a+b))):=rfl;rw[e,xcv,Int.emod_eq_of_lt h c]
theorem Ua:aW bt .mul (dS a) (dS b)=some (dS (IntKind.u64.wrap (a*b))):=rfl
def F0(h:0<=a*b)(c:a*b<18446744073709551616):aW bt .mul (dS a) (dS b)=some (dS (a*b)):=by rw[Ua,xcv,Int.emod_eq_of_lt h c]
def aic(h:0<=a):aW bt .shr (dS a) (dS 32)=some (dS (a/4294967296)):=by
 have e:aW bt .shr (dS a) (dS 32)=some (dS (a.fdiv (2^(min (32:Int).toNat IntKind.u64.bits)))):=rfl;rw[e];have:(2:Int)^(min (32:Int).toNat IntKind.u64.bits)=4294967296:=dZ
 rw[this,Int.fdiv_eq_ediv_of_nonneg _ oZ]
def aid(h:0<=a)(i:a<18446744073709551616):aW bt .and (dS a) (dS 4294967295)=some (dS (a%4294967296)):=by
 have e:aW bt .and (dS a) (dS 4294967295)=some (dS (IntKind.u64.wrap ((BitVec.ofInt IntKind.u64.bits a&&&BitVec.ofInt IntKind.u64.bits 4294967295).toNat:Int))):=rfl;rw[e];have g:IntKind.u64.bits=64:=rfl;obtain⟨m,rfl⟩:∃m:Nat,a=m:=⟨a.toNat,by omega⟩;have c:(BitVec.ofInt 64 (m:Int)&&&BitVec.ofInt 64 4294967295).toNat=m%4294967296:=by
  have d:BitVec.ofInt 64 (m:Int)=BitVec.ofNat 64 m:=sZ
  have f:BitVec.ofInt 64 4294967295=BitVec.ofNat 64 4294967295:=dZ
  rw[d,f,BitVec.toNat_and,BitVec.toNat_ofNat,BitVec.toNat_ofNat,Nat.mod_eq_of_lt oZ];have:=Nat.and_two_pow_sub_one_eq_mod m 32;simpa using this
 rw[g,c,xcv]
 congr 2
 omega
theorem F1:aW bt .neq (dS a) (dS b)=some (aF (a !=b)):=rfl
theorem F2:aW bt .gtr (dS a) (dS b)=some (aF (decide (a>b))):=rfl
end
def F3{x y:Int}(b:0<=x/\x<=4294967295)(a:0<=y/\y<=4294967295):0<=x*y/\x*y<=18446744065119617025:=by refine⟨Int.mul_nonneg b.1 a.1,?_⟩;have:=xcj b.2 a.2 a.1 oZ;simpa using this
def aie(n:Nat)(x y:Int)(e:0<=x/\x<18446744073709551616)(g:0<=y/\y<18446744073709551616):JA n [dS x,dS y]=some (.aC [dS (x*y/18446744073709551616),dS (x*y%18446744073709551616)]):=by
 have aG:0<=x%4294967296/\x%4294967296<=4294967295:=oZ
 have a2:0<=x/4294967296/\x/4294967296<=4294967295:=oZ
 have m:0<=y%4294967296/\y%4294967296<=4294967295:=oZ
 have o:0<=y/4294967296/\y/4294967296<=4294967295:=oZ
 have i:=F3 aG m;have k:=F3 a2 m;have j:=F3 aG o;have l:=F3 a2 o;have f:x*y=(x/4294967296*(y/4294967296))*18446744073709551616+(x/4294967296*(y%4294967296)+x%4294967296*(y/4294967296))*4294967296+x%4294967296*(y%4294967296):=by
  have ex:x=x/4294967296*4294967296+x%4294967296:=oZ
  have A:y=y/4294967296*4294967296+y%4294967296:=oZ
  generalize x/4294967296=u at*;generalize x%4294967296=v at*;generalize y/4294967296=w at*;generalize y%4294967296=z at*;subst ex;subst A;simp only[Int.add_mul,Int.mul_add];have C:u*4294967296*(w*4294967296)=u*w*18446744073709551616:=by rw[Int.mul_assoc,Int.mul_left_comm 4294967296 w,<-Int.mul_assoc,Int.mul_comm 4294967296 4294967296];rfl
  have E:u*4294967296*z=u*z*4294967296:=by rw[Int.mul_assoc,Int.mul_comm 4294967296 z,<-Int.mul_assoc]
  have F:v*(w*4294967296)=v*w*4294967296:=by rw[<-Int.mul_assoc]
  omega
 show Jz n (dS x) (dS y)=_;have d:(D.val (.int .u64 32))=dS 32:=rfl;have t:(D.val (.int .u64 4294967295))=dS 4294967295:=rfl;have a:∀q:Int,0<=q->aW false .shr (dS q) (dS 32)=some (dS (q/4294967296)):=λq h=>aic h;have b:∀q:Int,0<=q->q<18446744073709551616->aW false .and (dS q) (dS 4294967295)=some (dS (q%4294967296)):=λq h B=>aid h B;simp only[Jz,d,t,aN];rw[b x e.1 e.2,cL,a x e.1,cL,b y g.1 g.2,cL,a y g.1,cL,F0 i.1 oZ,cL,F0 k.1 oZ,cL];generalize x%4294967296*(y%4294967296)=c at*;generalize x/4294967296*(y%4294967296)=r at*;rw[a c oZ,cL,FZ oZ oZ,cL,b _ oZ oZ,cL,a _ oZ,cL,F0 j.1 oZ,cL];generalize x%4294967296*(y/4294967296)=p at*;rw[FZ oZ oZ,cL,F0 l.1 oZ,cL];generalize x/4294967296*(y/4294967296)=s at*;rw[FZ oZ oZ,cL,a _ oZ,cL,FZ oZ oZ,cL,Ua,cL,xcv,f]
 congr 3
 congr 1;omega
def Ub(n:Nat)(a:Int)(d:-9223372036854775808<=a/\a<=9223372036854775807):u5 n [aa a]=some (dS a.natAbs):=by
 have c:∀v:Int,cd .neg (.val (.int .u64 v))=some (dS (IntKind.u64.wrap (0-v))):=λ_=>rfl;have b:∀v:Int,j2 .u64 (aa v)=some (.val (.int .u64 (IntKind.u64.wrap v))):=λ_=>rfl;by_cases h:a<0
 .simp[u5,Jy,h,b,c];simp only[xcv,dS,D.val.injEq,Value.int.injEq,true_and];omega
 simp[u5,Jy,h,b];simp only[xcv,dS,D.val.injEq,Value.int.injEq,true_and];omega
def hp(n:Int):c4 n=true↔n.natAbs<=9007199254740992:=by unfold c4;simp;omega
def Uc{a b:Int}{A B:Nat}(h:a.natAbs<=A)(c:b.natAbs<=B):(a*b).natAbs<=A*B:=by rw[Int.natAbs_mul];exact Nat.mul_le_mul h c
def sign_mul(a b:Int)(h:a*b≠0):((a<0)≠(b<0))↔a*b<0:=by
 have c:a≠0:=by rintro rfl;simp at h
 have d:b≠0:=by rintro rfl;simp at h
 rcases Int.lt_or_gt_of_ne c with ab|ab<;>rcases Int.lt_or_gt_of_ne d with ad|ad;.have:=Int.mul_pos_of_neg_of_neg ab ad;simp[ab,ad];omega
 .have:=Int.mul_neg_of_neg_of_pos ab ad;simp[ab,this];omega
 .have:=Int.mul_neg_of_pos_of_neg ab ad;simp[ad,this];omega
 have:=Int.mul_pos ab ad;simp;omega
def aif(n:Nat)(a b:Int)(k:c4 a=true)(l:c4 b=true):sA n [aa a,aa b]=some (k1 (a*b) true):=by
 rw[hp]at k l;have ab:=Ub n a oZ;have ad:=Ub n b oZ;have t:=Uc k l;have ai:=aie n a.natAbs b.natAbs oZ oZ;have e:((a.natAbs:Int)*b.natAbs)=((a*b).natAbs:Int):=by rw[Int.natAbs_mul];simp
 rw[e]at ai;have aj:=sign_mul a b;generalize a*b=p at*;have bK:(D.val (.int .u64 0))=dS 0:=rfl;have c1:(D.val (.int .u64 9007199254740992))=dS 9007199254740992:=rfl;have d:∀v:Int,j2 .i64 (dS v)=some (aa (IntKind.i64.wrap v)):=λ_=>rfl;by_cases c:c4 p=true
 .have g:=(hp p).1 c;have f:((p.natAbs:Int)/18446744073709551616)=0:=oZ
  have i:((p.natAbs:Int)%18446744073709551616)=p.natAbs:=oZ
  have q:IntKind.i64.wrap (p.natAbs:Int)=p.natAbs:=wrap64 _ oZ oZ;have r:IntKind.i64.wrap (-(p.natAbs:Int))=-(p.natAbs:Int):=wrap64 _ oZ oZ;have j:¬(9007199254740992<(p.natAbs:Int)):=oZ
  rw[f,i]at ai;by_cases o:p=0;.subst o;simp[sA,yK,ab,ad,ai,bK,c1,F1,F2,d,k1,c];by_cases x1:a<0<;>by_cases ds:b<0<;>simp[x1,ds,show IntKind.i64.wrap 0=0 from rfl]
  have aj:=aj o;by_cases x1:a<0<;>by_cases ds:b<0<;>simp[x1,ds]at aj<;>simp[sA,yK,ab,ad,ai,bK,c1,F1,F2,d,k1,c,j,q,r,x1,ds]<;>omega
 have g:¬(p.natAbs<=9007199254740992):=λh=>c ((hp p).2 h);have m:c4 p=false:=by simpa using c
 by_cases f:((p.natAbs:Int)/18446744073709551616)=0
 .have i:((p.natAbs:Int)%18446744073709551616)=p.natAbs:=oZ
  have j:9007199254740992<(p.natAbs:Int):=oZ
  rw[f,i]at ai;simp[sA,yK,ab,ad,ai,bK,c1,F1,F2,d,k1,m,j]
 have s:((p.natAbs:Int)/18446744073709551616 !=0)=true:=by simpa using f
 simp[sA,yK,ab,ad,ai,bK,c1,F1,F2,d,k1,m,s]
def tr(b:Bool):Int:=if b then 1 else 0
def Ud(n:Nat)(b:Bool):nd n [aF b]=some (.aC [aa (tr b),aF true]):=by cases b<;>simp[nd,Qo,tr]
def Ue(n:Nat)(b:Bool):mb n [aF b]=some (aa (tr b)):=by cases b<;>simp[mb,Q0,tr]
def Uf(n:Nat)(v:Int):sN n [aa v]=some (aF (!c4 v)):=by
 by_cases ab:v< -9007199254740992
 .have:c4 v=false:=by unfold c4;simp;omega
  simp[sN,Ec,this,ab]
 by_cases ad:9007199254740992<v
 .have:c4 v=false:=by unfold c4;simp;omega
  simp[sN,Ec,this,ab,ad]
 have:c4 v=true:=by unfold c4;simp;omega
 simp[sN,Ec,this,ab,ad]
def Ug(n:Nat)(v:Int)(h:-9223372036854775807<=v/\v<=9223372036854775807):zD n [aa v]=some (aa (v.natAbs:Int)):=by have:IntKind.i64.wrap (-v)=-v:=wrap64 _ oZ oZ;simp[zD,Q1,this,FR,ed];split<;>omega
def dY(op:Int)(l:lY):Int×Bool:=if op=6 then(tr (decide (l.sum=l.length)),true)
 else if op=7 then(tr (decide (l.sum>0)),true)
 else match l with
  |[a]=>(1-a,c4 (1-a))
  |[a,b]=>if op=8 then(tr (a==0||b==1),true)else if op=9\/op=10 then(tr (a==b),true)else if op=11 then(tr (a !=b),true)
   else if op=12 then(tr (decide (a<b)),true)else if op=13 then(tr (decide (a<=b)),true)
   else if op=14 then(a+b,c4 (a+b))else if op=15 then(a-b,c4 (a-b))
   else if op=16 then if c4 (a*b)then(a*b,true)else(0,false)
   else((a.tmod b+b).tmod b,c4 ((a.tmod b+b).tmod b))
  |[a,b,c]=>(if a=1 then b else c,c4 (if a=1 then b else c))
  |_=>(0,false)
def eu(p:Int×Bool):D:=if p.2 then .aC [aa p.1,aF true]else .aC [aa 0,aF false]
def Uh(v:Int):k1 v true=eu (v,c4 v):=by simp[k1,eu]
def lC{l:lY}{i:Nat}{y:Int}(h:l[i]?=some y):ba 1 (bY l) (aa (i:Int))=some [aa y]:=by simp[bY,h]
theorem Bf{y:Int}{l:lY}:ba 1 (bY (y::l)) (aa 0)=some [aa y]:=lC (i:=0) rfl
theorem F4{x y:Int}{l:lY}:ba 1 (bY (x::y::l)) (aa 1)=some [aa y]:=lC (i:=1) rfl
theorem aih{x y z:Int}{l:lY}:ba 1 (bY (x::y::z::l)) (aa 2)=some [aa z]:=lC (i:=2) rfl
def pW(l:lY):dN (bY l)=some (aa l.length):=by simp[bY]
attribute [go_sem] pW
def Lv:∀(l:lY),(∀v∈l,c4 v=true)->-(9007199254740992*(l.length:Int))<=l.sum/\l.sum<=9007199254740992*(l.length:Int)
 |[],_=>by simp|a::r,h=>by have:=Lv r λv b=>h v (by simp[b]);have:=(hp a).1 (h a sZ);simp only[List.sum_cons,xal];omega
def aii{l:lY}(h:∀v∈l,c4 v=true)(ah:l.length<=64)(i:Nat):-576460752303423488<=(l.take i).sum/\(l.take i).sum<=576460752303423488:=by
 have:=Lv (l.take i) λv b=>h v (xbr b);have a:(l.take i).length<=64:=by rw[xby];omega
 omega
def aij(n:Nat)(c d1 d2 d3 d4:D)(l:lY)(h:∀v∈l,c4 v=true)(ah:l.length<=64)(k:64<n):aR (yL n) n [c,aa 0,bY l,aa l.length,aa 0,d1,d2,d3,d4]=some (.inl [c,aa l.sum,d1,d2,d3,d4]):=by
 have ag:=ch (f:=yL n) l (λi (s:Int)=>[c,aa s,bY l,aa l.length,aa (i:Int),d1,d2,d3,d4]) (λr s=>(Sum.inl [c,aa (s+r.sum),d1,d2,d3,d4]:lZ⊕D)) (λi s=>s=(l.take i).sum) (λs _=>by simp[yL]) ?_ n 0 0 sZ oZ (xag _);.have e:(aa ((0:Nat):Int))=aa 0:=rfl;rw[e]at ag;simpa using ag
 intro i a s d ag aj;left;have j:=aii h ah i;have g:=(hp a).1 (h a (xad d));have b:aW false .add (aa s) (aa a)=some (aa (s+a)):=dw oZ oZ;refine⟨s+a,by simp[yL,ag,lC d,b,bl i],by simp[Int.add_assoc],?_⟩;rw[List.take_add_one,d,aj];simp
def Bg{a b:Int}(c:1<=b):-b<a.tmod b/\a.tmod b<b:=by have ab:=Int.tmod_lt_of_pos a (oZ:0<b);have ad:=Int.lt_tmod_of_pos a (oZ:0<b);exact⟨ad,ab⟩
set_option maxHeartbeats 1000000 in
def aik(n:Nat)(t:Tm)(l:lY)(N:Valid t)(b3:l.length=t.az.length)(ck:5<=t.op)(B:∀v∈l,c4 v=true)(cK:100<n) (G:(t.op<=9->∀v∈l,v=0\/v=1)/\(t.op=18->∀v,l[0]?=some v->v=0\/v=1)) (b1:t.op=17->∀v,l[1]?=some v->1<=v/\v<=255):hX n [t.d,bY l]=some (eu (dY t.op l)):=by
 have cC:=N.op;have f:=N.len;have bK:=Tm.lr t;have g:=Tm.jG t;have b4:=rj (op:=t.op);have L:=tz (op:=t.op);have Z:=N.w8;have u:=pW l;have e:=Ud n;have j:=λW d1 d2 d3 d4=>aij n W d1 d2 d3 d4 l B oZ oZ;by_cases s:t.op=6\/t.op=7
 .have bX:1<=l.length:=by
   have:ew t.op=(1,64):=by unfold ew;rw[xab oZ,xab oZ,xac s]
   rw[this]at f;simp only at f;omega
  generalize t.op=op at*;rcases s with rfl|rfl
  .simp[hX,iw,g,bK,u,j,dY,eu,-PA];by_cases q:l.sum=(l.length:Int)<;>simp[q,e]
  simp[hX,iw,g,bK,u,j,dY,eu,-PA];by_cases q:l.sum=(l.length:Int)
  .have:0<l.sum:=oZ
   have cA:0<l.length:=oZ
   simp[q,e,cA]
  by_cases ak:0<l.sum<;>simp[q,ak,e]
 have M:t.op=5->l.length=1:=λh=>by
  have:ew t.op=(1,1):=by rw[h];rfl
  rw[this]at f;simp only at f;omega
 by_cases P:t.op=5
 .have:=M P
  match l,this with
  |[a],_=>
   have F:=G.1 oZ a sZ;have g0:=Bf (y:=a) (l:=[]);generalize t.op=op at*;subst P;rcases F with rfl|rfl
   .simp[hX,iw,g,bK,g0,dY,eu,e,tr,c4]
   simp[hX,iw,g,bK,g0,dY,eu,e,tr,c4]
 by_cases k:t.op=18
 .rw[L k]at f;obtain⟨a,b,c,rfl⟩:=pU (l:=l) (by simp only at f;omega);have F:=G.2 k a rfl;have g0:=Bf (y:=a) (l:=[b,c]);have g1:=F4 (x:=a) (y:=b) (l:=[c]);have g2:=aih (x:=a) (y:=b) (z:=c) (l:=[]);have I:=B b sZ;have J:=B c sZ;generalize t.op=op at*;subst k;rcases F with rfl|rfl
  .simp[hX,iw,g,bK,g0,g1,g2,dY,eu,J]
  simp[hX,iw,g,bK,g0,g1,g2,dY,eu,I]
 rw[b4 oZ]at f;obtain⟨a,b,rfl⟩:=me (l:=l) (by simp only at f;omega);have g0:=Bf (y:=a) (l:=[b]);have g1:=F4 (x:=a) (y:=b) (l:=[]);have U:=B a sZ;have V:=B b sZ;have cy:=(hp a).1 U;have cT:=(hp b).1 V;have Q:=FY n a b oZ oZ;have E:=FY n a (-b) oZ oZ;have R:=aif n a b U V;have w:IntKind.i64.wrap (-b)=-b:=wrap64 _ oZ oZ;have C:a+-b=a-b:=oZ
 have O:∀p:Int×Bool,(e0 0 (eu p))=some (aa (if p.2 then p.1 else 0))/\(e0 1 (eu p))=some (aF p.2):=by intro p;obtain⟨v,o⟩:=p;cases o<;>simp[eu]
 have S:∀p:Int×Bool,D.aC [aa (if p.2 then p.1 else 0),aF p.2]=eu p:=by intro p;obtain⟨v,o⟩:=p;cases o<;>simp[eu]
 rw[C]at E;rw[Uh]at Q E R;by_cases r:t.op=17
 .obtain⟨T,dT⟩:=b1 r b rfl;have m1:=Bg (a:=a) T;have A:b≠0:=oZ
  have dc:aW false .add (aa (a.tmod b)) (aa b)=some (aa (a.tmod b+b)):=dw oZ oZ;have m2:=Bg (a:=a.tmod b+b) T;have K:c4 ((a.tmod b+b).tmod b)=true:=(hp _).2 oZ;have X:aW false .rem (aa a) (aa b)=some (aa (a.tmod b)):=ym A;have Y:aW false .rem (aa (a.tmod b+b)) (aa b)=some (aa ((a.tmod b+b).tmod b)):=ym A;generalize t.op=op at*;subst r;simp[hX,iw,g,bK,g0,g1,dY,eu,X,Y,dc,K]
 have q:t.op=8\/t.op=9\/t.op=10\/t.op=11\/t.op=12\/t.op=13\/t.op=14\/t.op=15\/t.op=16:=oZ
 have H:t.op=8->(b=0\/b=1):=λh=>G.1 oZ b sZ;generalize t.op=op at*;rcases q with rfl|rfl|rfl|rfl|rfl|rfl|rfl|rfl|rfl
 .rcases H rfl with rfl|rfl
  .by_cases i:a=0;.simp[hX,iw,g,bK,dY,eu,e,i,Bf,F4]
   have m:(a==0)=false:=by simpa using i
   simp[hX,iw,g,bK,g0,g1,dY,eu,e,i,m]
  by_cases i:a=0;.simp[hX,iw,g,bK,dY,eu,e,i,Bf,F4]
  have m:(a==0)=false:=by simpa using i
  simp[hX,iw,g,bK,g0,g1,dY,eu,e,i,m]
 .simp[hX,iw,g,bK,g0,g1,dY,eu,e]
 .simp[hX,iw,g,bK,g0,g1,dY,eu,e]
 .simp[hX,iw,g,bK,g0,g1,dY,eu,e]
 .simp[hX,iw,g,bK,g0,g1,dY,eu,e]
 .simp[hX,iw,g,bK,g0,g1,dY,eu,e]
 .simp[hX,iw,g,bK,g0,g1,dY,Q,O];rw[<-S]
 .simp[hX,iw,g,bK,g0,g1,dY,w,E,O];rw[<-S]
 simp[hX,iw,g,bK,g0,g1,dY,R,O];cases dE:c4 (a*b)<;>simp[eu]
def jR(vs:List V)(s nn:lY)(t:Tm):Option Nat:=if(if t.op=4 then nn else s).length=vs.length then c3 vs t.name else none
def ail{vs:List V}{s nn:lY}{t:Tm}{i:Nat}(h:jR vs s nn t=some i):c3 vs t.name=some i/\(if t.op=4 then nn else s).length=vs.length:=by
 unfold jR at h;by_cases a:(if t.op=4 then nn else s).length=vs.length;.rw[xac a]at h;exact⟨h,a⟩
 rw[xab a]at h;cases h
def h0(vs:List V)(s nn:lY)(t:Tm):Int×Bool:=if t.op<=2 then(t.num,true)
 else match jR vs s nn t with
  |none=>(0,false)
  |some i=>match vs[i]?,(if t.op=4 then nn else s)[i]? with
   |some v,some x=>if v.bool then(tr (x !=0),true)else(x,c4 x)
   |_,_=>(0,false)
mutual
def dj(vs:List V)(s nn:lY):Tm->Int×Bool
 | .mk o n a b ks=>if o<=4 then h0 vs s nn (.mk o n a b ks)else match e7 vs s nn ks with|some l=>dY o l|none=>(0,false)
def e7(vs:List V)(s nn:lY):List Tm->Option lY
 |[]=>some []
 |t::r=>if(dj vs s nn t).2 then match e7 vs s nn r with|some l=>some ((dj vs s nn t).1::l)|none=>none
  else none
end
theorem mf(vs:List V)(s nn:lY)(t:Tm):dj vs s nn t=if t.op<=4 then h0 vs s nn t else match e7 vs s nn t.az with|some l=>dY t.op l|none=>(0,false):=by cases t;rw[dj];rfl
mutual
def steps:Tm->Bool
 | .mk o _ _ _ ks=>o==4||k2 ks
def k2:List Tm->Bool
 |[]=>false|t::r=>steps t||k2 r
end
theorem F5(t:Tm):steps t=(t.op==4||k2 t.az):=by cases t;rw[steps];rfl
def Ui:∀{l:List Tm}{t:Tm},t∈l->k2 l=false->steps t=false
 |a::r,t,h,aj=>by
  rw[k2,Bool.or_eq_false_iff]at aj;rcases xao.1 h with rfl|h
  .exact aj.1
  exact Ui h aj.2
theorem Lw(b:Bool):c4 (tr b)=true:=by cases b<;>rfl
def xa(p:Int×Bool):Prop:=p.2=true->c4 p.1=true
def oD{c:Prop}[Decidable c]{p q:Int×Bool}(a:xa p)(b:c\/xa q):xa (if c then p else q):=by
 split;.exact a
 exact b.resolve_left aZ
def tA(b:Bool):xa (tr b,true):=λ_=>Lw b
def Bh(v:Int):xa (v,c4 v):=λh=>h
def aim{op:Int}{l:lY}:xa (dY op l):=by
 unfold dY;refine oD (tA _) (.inr (oD (tA _) (.inr ?_)))
 match l with
 |[]=>intro h;cases h
 |[a]=>exact Bh _|[a,b,c]=>exact Bh _|a::b::c::d::r=>intro h;cases h
 |[a,b]=>
  refine oD (tA _) (.inr (oD (tA _) (.inr (oD (tA _) (.inr (oD (tA _) (.inr (oD (tA _) (.inr (oD (Bh _) (.inr (oD (Bh _) (.inr (oD ?_ (.inr (Bh _))))))))))))))));by_cases h:c4 (a*b)=true;.rw[xac h];exact λ_=>h
  rw[xab h];intro h;cases h
def ain{vs:List V}{s nn:lY}{t:Tm}(d:Valid t)(h:(h0 vs s nn t).2=true):c4 (h0 vs s nn t).1=true:=by
 have e:=d.num;unfold h0 at*;by_cases ad:t.op<=2;.rw[xac ad];exact(hp _).2 (by simp only;omega)
 rw[xab ad]at*;cases ag:jR vs s nn t with
 |none=>simp[ag]at h
 |some i=>
  rw[ag]at h;simp only at h⊢;cases a:vs[i]? with
  |none=>rw[a]at h;cases h
  |some v=>
   cases c:((if t.op=4 then nn else s)[i]?)with
   |none=>rw[a,c]at h;cases h
   |some x=>
    rw[a,c]at h;simp only at h⊢;by_cases b:v.bool=true;.rw[xac b];exact Lw _
    rw[xab b]at*;exact h
def Uj{vs:List V}{s nn:lY}{t:Tm}(b:Valid t)(h:(dj vs s nn t).2=true):c4 (dj vs s nn t).1=true:=by
 rw[mf]at*;by_cases a:t.op<=4;.rw[xac a]at*;exact ain b h
 rw[xab a]at*;split at h;.rename_i l ah;exact aim h
 cases h
def rm(v:Int):Prop:=v=0\/v=1
def Bi(b:Bool):rm (tr b):=by cases b<;>simp[tr,rm]
theorem xb(lo ag:Int):(e6 lo ag).1.b=false:=by unfold e6;split<;>rfl
def aio(op:Int)(a b:Y):(k0 op a b).1.b=false:=by unfold k0;split<;>(try split)<;>exact xb _ _
def Lx(vs:List V)(nx:Bool)(s nn:lY):∀{ks:List Tm}{l:lY},(cX vs nx ks).2=0->e7 vs s nn ks=some l->l.length=ks.length/\∀(i:Nat)(y:Y)(v:Int),(cX vs nx ks).1[i]?=some y->l[i]?=some v-> ∃k,ks[i]?=some k/\(cP vs nx k).2=0/\y=(cP vs nx k).1/\(dj vs s nn k).2=true/\v=(dj vs s nn k).1
 |[],l,_,a=>by cases a;exact⟨rfl,by intro i y v _ h;simp at h⟩
 |k::r,l,h,a=>by
  rw[cX]at*;rw[e7]at a;by_cases ab:(cP vs nx k).2=0
  case neg=>rw[xac ab]at h;exact absurd h ab
  have b:¬(cP vs nx k).2≠0:=by simpa using ab
  rw[xab b]at h⊢;by_cases ad:(cX vs nx r).2=0
  case neg=>rw[xac ad]at h;exact absurd h ad
  have c:¬(cX vs nx r).2≠0:=by simpa using ad
  rw[xab c]at h⊢;by_cases ai:(dj vs s nn k).2=true
  case neg=>rw[xab ai]at a;cases a
  rw[xac ai]at a;cases d:e7 vs s nn r with
  |none=>rw[d]at a;cases a
  |some g=>rw[d]at a;cases a;obtain⟨g1,g2⟩:=Lx vs nx s nn ad d;refine⟨by simp[g1],?_⟩;intro i y v f e;cases i with|zero=>simp at f e;exact⟨k,rfl,ab,f.symm,ai,e.symm⟩|succ i=>simpa using g2 i y v (by simpa using f) (by simpa using e)
def F6{t:Tm}{l:List Y}(h:(eU t l).2=0)(ab:5<=t.op/\t.op<=9):l.all Y.b=true:=by
 unfold eU at h;rw[xac ab]at h;by_cases a:l.all Y.b=true;.exact a
 rw[xab a]at h;cases h
def Ly{t:Tm}{a b c:Y}(h:(eU t [a,b,c]).2=0)(ab:¬(5<=t.op/\t.op<=9)):a.b=true/\b.b=c.b/\((eU t [a,b,c]).1.b=true->b.b=true):=by
 unfold eU at*;rw[xab ab]at*;simp only at h⊢;by_cases e:(!a.b||(b.b !=c.b))=true;.rw[xac e]at h;cases h
 rw[xab e]at*;refine⟨by cases g:a.b<;>simp_all,by cases d:b.b<;>cases f:c.b<;>simp_all,?_⟩;by_cases d:b.b=true;.exact λ_=>d
 rw[xab d,xb];intro h;cases h
def Uk{t:Tm}{a b:Y}(h:(eU t [a,b]).2=0)(ab:t.op=17){k:Tm}(e:t.az[1]?=some k):k.op=1/\1<=k.num:=by
 unfold eU at h;rw[xab oZ]at h;simp only at h;rw[xab oZ]at h;by_cases c:(a.b||b.b)=true;.rw[xac c]at h;cases h
 rw[xab c,xab oZ,xac ab,e]at h;simp only at h;by_cases d:k.op≠1\/k.num<1;.rw[xac d]at h;cases h
 omega
def aip{t:Tm}{a b:Y}(ab:14<=t.op/\t.op<=17):(eU t [a,b]).1.b=false:=by
 unfold eU;rw[xab oZ];simp only;rw[xab oZ];split;.rfl
 rw[xab oZ];split
 .split
  .split;.rfl
   exact xb _ _
  rfl
 exact aio _ _ _
def aiq{vs:List V}{nx:Bool}{s nn:lY}{t:Tm}(d:Valid t)(h:(hZ vs nx t).1.b=true)(a:(h0 vs s nn t).2=true):rm (h0 vs s nn t).1:=by
 have j:=d.num;unfold hZ at h;unfold h0 at*;by_cases ab:t.op=1;.rw[xac ab,xb]at h;cases h
 rw[xab ab]at h;by_cases ad:t.op=2;.rw[xac oZ];unfold rm;simp only;omega
 rw[xab ad]at h;have f:=d.op;rw[xab oZ]at*;cases ag:jR vs s nn t with
 |none=>rw[ag]at a;cases a
 |some i=>
  rw[(ail ag).1]at h;rw[ag]at a;simp only at h a⊢;by_cases ai:t.op=4/\nx=false;.rw[xac ai]at h;cases h
  rw[xab ai]at h;cases e:vs[i]? with
  |none=>rw[e]at a;cases a
  |some v=>
   rw[e]at h a;simp only at h;by_cases c:v.bool=true
   .cases g:((if t.op=4 then nn else s)[i]?)with
    |none=>rw[g]at a;cases a
    |some x=>simp only;rw[xac c];exact Bi _
   rw[xab c,xb]at h;cases h
def Ul(vs:List V)(nx:Bool)(s nn:lY)(t:Tm):Valid t->(cP vs nx t).2=0->(cP vs nx t).1.b=true->(dj vs s nn t).2=true->rm (dj vs s nn t).1:=by
 refine Tm.ind (P:=λt=>Valid t->(cP vs nx t).2=0->(cP vs nx t).1.b=true->(dj vs s nn t).2=true->rm (dj vs s nn t).1) ?_ t;intro t ih o h f g;rw[ku]at h f;rw[mf]at g⊢;by_cases E:t.op<=4;.rw[xac E]at*;exact aiq o f g
 rw[xab E]at*;by_cases ak:(cX vs nx t.az).2=0
 case neg=>rw[xac ak]at h;exact absurd h ak
 rw[xab (by simpa using ak)]at h f;cases ah:e7 vs s nn t.az with
 |none=>rw[ah]at g;cases g
 |some l=>
  rw[ah]at g;simp only at g⊢;obtain⟨g1,g2⟩:=Lx vs nx s nn ak ah;obtain⟨g3,_⟩:=w7 vs nx t.az ak;have O:=o.op;have d:=o.len;have N:=rj (op:=t.op);have u:=tz (op:=t.op);unfold dY;by_cases F:t.op=6
  .rw[xac F];exact Bi _
  rw[xab F];by_cases G:t.op=7;.rw[xac G];exact Bi _
  rw[xab G];by_cases M:t.op=5
  .have:ew t.op=(1,1):=by rw[M];rfl
   rw[this]at d
   match l,g1,g2 with
   |[a],g1,g2=>
    have j:=F6 h oZ;have:0<(cX vs nx t.az).1.length:=by simp at g1;omega
    obtain⟨k,q,z,A,B,C⟩:=g2 0 _ a (xaa this) rfl;have n:=xay.1 j _ (xaV this);rw[A]at n;have:=ih k (xad q) (o.di (xad q)) z n B;rw[<-C]at this;simp only;rcases this with h|h<;>subst h<;>simp[rm]
   |[],g1,_=>simp at g1;simp only at d;omega|_::_::_,g1,_=>simp at g1;simp only at d;omega
  by_cases r:t.op=18
  .rw[u r]at d;have w:l.length=3:=by simp only at d;omega
   obtain⟨a,b,c,rfl⟩:=pU w;obtain⟨J,D,K,p⟩:=pU (l:=(cX vs nx t.az).1) (by simp only at d;omega);rw[p]at h f g2;obtain⟨T,R,S⟩:=Ly h oZ;have m:=S f;have get:∀(i:Nat)(y:Y)(v:Int),[J,D,K][i]?=some y->[a,b,c][i]?=some v->y.b=true->rm v:=by intro i y v p Q x;obtain⟨k,q,z,A,B,C⟩:=g2 i y v p Q;rw[C];exact ih k (xad q) (o.di (xad q)) z (by rw[<-A];exact x) B
   simp only;by_cases H:a=1;.rw[xac H];exact get 1 D b rfl rfl m
   rw[xab H];exact get 2 K c rfl rfl (by rw[<-R];exact m)
  rw[N oZ]at d;obtain⟨a,b,rfl⟩:=me (l:=l) (by simp only at d;omega);obtain⟨J,D,p⟩:=me (l:=(cX vs nx t.az).1) (by simp only at d;omega);rw[p]at h f;have L:t.op<=13:=by refine xbi λI=>?_;rw[aip oZ]at f;cases f
  simp only;have I:t.op=8\/t.op=9\/t.op=10\/t.op=11\/t.op=12\/t.op=13:=oZ
  rcases I with e|e|e|e|e|e<;>simp only[e]<;>exact Bi _
def Um{vs:List V}{nx:Bool}{s nn:lY}{t:Tm}{l:lY}(j:Valid t)(h:(cP vs nx t).2=0)(u:5<=t.op)(ah:e7 vs s nn t.az=some l):l.length=t.az.length/\(∀v∈l,c4 v=true)/\((t.op<=9->∀v∈l,v=0\/v=1)/\(t.op=18->∀v,l[0]?=some v->v=0\/v=1))/\(t.op=17->∀v,l[1]?=some v->1<=v/\v<=255):=by
 rw[ku,xab oZ]at h;by_cases ak:(cX vs nx t.az).2=0
 case neg=>rw[xac ak]at h;exact absurd h ak
 rw[xab (by simpa using ak)]at h;obtain⟨g1,g2⟩:=Lx vs nx s nn ak ah;obtain⟨g3,_⟩:=w7 vs nx t.az ak;have A:=j.op;have a:=j.len;have at_:∀(i:Nat)(v:Int),l[i]?=some v->∃k y,t.az[i]?=some k/\(cX vs nx t.az).1[i]?=some y/\(cP vs nx k).2=0/\y=(cP vs nx k).1/\(dj vs s nn k).2=true/\v=(dj vs s nn k).1:=by
  intro i v ag;have n:i<(cX vs nx t.az).1.length:=by have:=(lV.1 ag).1;omega
  obtain⟨k,b,c,e,f,d⟩:=g2 i _ v (xaa n) ag;exact⟨k,_,b,xaa n,c,e,f,d⟩
 refine⟨g1,?_,⟨?_,?_⟩,?_⟩;.intro v q;obtain⟨i,ag⟩:=xaJ.1 q;obtain⟨k,y,b,c,e,f,d,g⟩:=at_ i v ag;rw[g];exact Uj (j.di (xad b)) d
 .intro w v q;obtain⟨i,ag⟩:=xaJ.1 q;obtain⟨k,y,b,c,e,f,d,g⟩:=at_ i v ag;have m:=xay.1 (F6 h ⟨u,w⟩) y (xad c);rw[g];exact Ul vs nx s nn k (j.di (xad b)) e (by rw[<-f];exact m) d
 .intro p v ag;obtain⟨k,y,b,c,e,f,d,g⟩:=at_ 0 v ag;rw[tz p]at a;obtain⟨C,D,F,r⟩:=pU (l:=(cX vs nx t.az).1) (by simp only at a;omega);rw[r]at h c;have x:=(Ly h oZ).1;cases c;rw[g];exact Ul vs nx s nn k (j.di (xad b)) e (by rw[<-f];exact x) d
 intro o v ag;obtain⟨k,y,b,c,e,f,d,g⟩:=at_ 1 v ag;rw[rj oZ]at a;obtain⟨C,D,r⟩:=me (l:=(cX vs nx t.az).1) (by simp only at a;omega);rw[r]at h;obtain⟨E,B⟩:=Uk h o b;have z:=(j.di (xad b)).num;have:dj vs s nn k=(k.num,true):=by rw[mf,xac oZ];unfold h0;rw[xac oZ]
 rw[g,this];exact⟨B,by simp only;omega⟩
def fV(b:Bool)(l:lY):D:=bI 1 b (l.map λx=>[aa x])
@[simp] theorem aoG (b:Bool) (l:lY):dN (fV b l)=some (aa l.length):=by simp[fV]
@[simp] theorem aoH (b:Bool) (l:lY):c7 (fV b l)=true:=by unfold fV bI;split<;>rfl
def Un{b:Bool}{l:lY}{i:Nat}{x:Int}(h:l[i]?=some x):ba 1 (fV b l) (aa (i:Int))=some [aa x]:=by
 have a:l≠[]:=by rintro rfl;simp at h
 have:fV b l= .aw 1 (l.map λx=>[aa x]):=by unfold fV bI;rw[xab (by simp[a])]
 rw[this];simp[h]
def Uo(l:lY):fV false l=bY l:=by simp[fV,bI,bY]
theorem xc:fV true []=cc:=rfl
variable{bn:Bool}
theorem F7{k:Nat}:cI (k+1) (aa 0)=some 0:=by rw[I9 oZ oZ];rfl
theorem Up{k:Nat}:cI (k+2) (aa 1)=some 1:=by rw[I9 oZ oZ];rfl
theorem air{k:Nat}:cI (k+3) (aa 2)=some 2:=by rw[I9 oZ oZ];rfl
def ais{x:Int}(ab:x≠0)(ad:x.natAbs<=9007199254740992):aW false .quo (aa 9007199254740992) (aa (x.natAbs:Int))=some (aa ((9007199254740992/x.natAbs:Nat):Int)):=by
 have a:(x.natAbs:Int)≠0:=oZ
 rw[PD a];have e:(9007199254740992:Int).tdiv (x.natAbs:Int)=((9007199254740992/x.natAbs:Nat):Int):=by rw[Int.tdiv_eq_ediv_of_nonneg oZ];rfl
 have ai:=Nat.div_le_self 9007199254740992 x.natAbs;rw[e];generalize 9007199254740992/x.natAbs=q at*;rw[wrap64 _ oZ oZ]
def ait(a b:Int)(h:a≠0):(b.natAbs:Int)>((9007199254740992/a.natAbs:Nat):Int)↔c4 (a*b)=false:=by
 have c:0<a.natAbs:=oZ
 have ab:c4 (a*b)=false↔9007199254740992<a.natAbs*b.natAbs:=by
  rw[<-Int.natAbs_mul];have:=hp (a*b);constructor
  .intro h;refine xbi λe=>?_;rw[this.2 oZ]at h;cases h
  intro h;cases d:c4 (a*b)with|false=>rfl|true=>exact absurd (this.1 d) oZ
 rw[ab,Nat.mul_comm,<-Nat.div_lt_iff_lt_mul c];omega
set_option maxHeartbeats 2000000 in
def aiu(W:lZ->oX)(n:Nat)(vs:List V)(s nn:lY)(t:Tm)(l:lY)(P:Valid t)(b1:l.length=t.az.length)(cC:5<=t.op)(T:∀v∈l,c4 v=true) (Z:(t.op<=9->∀v∈l,v=0\/v=1)/\(t.op=18->∀v,l[0]?=some v->v=0\/v=1)) (ck:t.op=17->∀v,l[1]?=some v->1<=v/\v<=255) (e:aR (qV W n) n [aO vs,bY s,fV bn nn,aa 0,aa 0,aa t.op,aa t.num,aD t.name,bI 4 t.nl (Tm.rows t.az),.aw 1 []]=some (.inl [aa (if t.op=6\/t.op=7 then l.sum else 0),aa t.op,aa t.num,aD t.name,bI 4 t.nl (Tm.rows t.az),bY l])):iP W n (aO vs) t.d (bY s) (fV bn nn)=some (.aC [aa (dY t.op l).1,aF (dY t.op l).2]):=by
 have cy:=P.op;have i:=P.len;have bK:=Tm.lr t;have c1:=Tm.n1 t;have c2:=Tm.n2 t;have b6:=Tm.mR t;have k:=Tm.jG t;have b3:=rj (op:=t.op);have N:=tz (op:=t.op);have X:=P.w8;have j:=Ue n;have f:=Uf n;have es:∀l:lY,aE (bY l)=l.map λv=>[aa v]:=λ_=>rfl;have g:∀b:Bool,c4 (tr b)=true:=Lw;by_cases L:t.op=6\/t.op=7
 .generalize t.op=op at*;rcases L with rfl|rfl
  .simp[iP,k,bK,c1,c2,b6,e,es,j,f,dY,g];rfl
  simp[iP,k,bK,c1,c2,b6,e,es,j,f,dY,g]
 by_cases R:t.op=5
 .have:ew t.op=(1,1):=by rw[R];rfl
  rw[this]at i;have O:l.length=1:=by simp only at i;omega
  match l,O with|[a],_=>have m:=Z.1 oZ a sZ;have p:aW false .sub (aa 1) (aa a)=some (aa (1-a)):=j4 oZ oZ;generalize t.op=op at*;subst R;simp[iP,k,bK,c1,c2,b6,e,es,f,dY,F7,p]
 by_cases B:t.op=18;.rw[N B]at i;obtain⟨a,b,c,rfl⟩:=pU (l:=l) (by simp only at i;omega);generalize t.op=op at*;subst B;by_cases m:a=1<;>simp[iP,k,bK,c1,c2,b6,e,es,f,dY,F7,Up,air,m]
 rw[b3 oZ]at i;obtain⟨a,b,rfl⟩:=me (l:=l) (by simp only at i;omega);have I:=(hp a).1 (T a sZ);have Q:=(hp b).1 (T b sZ);have jj:cI 2 (aa 0)=some 0:=F7;have w:cI 2 (aa 1)=some 1:=Up;by_cases A:t.op=17
 .obtain⟨cT,cK⟩:=ck A b rfl;have m1:=Bg (a:=a) cT;have F:b≠0:=oZ
  have dc:aW false .add (aa (a.tmod b)) (aa b)=some (aa (a.tmod b+b)):=dw oZ oZ;have p:aW false .rem (aa a) (aa b)=some (aa (a.tmod b)):=ym F;have z:aW false .rem (aa (a.tmod b+b)) (aa b)=some (aa ((a.tmod b+b).tmod b)):=ym F;generalize t.op=op at*;subst A;simp[iP,k,bK,c1,c2,b6,e,es,f,dY,jj,w,p,z,dc]
 by_cases K:t.op=16
 .have G:=Ug n a oZ;have H:=Ug n b oZ;have o:=ait a b;have cA:=Uc I Q;generalize t.op=op at*;subst K;by_cases m:a=0
  .subst m;have p:aW false .mul (aa 0) (aa b)=some (aa 0):=by rw[qF oZ oZ,Int.zero_mul]
   simp[iP,k,bK,c1,c2,b6,e,es,f,dY,jj,w,p,show c4 0=true from rfl]
  have S:=ais m I;have o:=o m;have Y:(a==0)=false:=by simpa using m
  generalize 9007199254740992/a.natAbs=q at*;by_cases C:c4 (a*b)=true
  .have ab:¬((b.natAbs:Int)>(q:Int)):=λh=>by rw[o.1 h]at C;cases C
   have r:decide ((b.natAbs:Int)>(q:Int))=false:=xax ab;have b4:=(hp _).1 C;have p:aW false .mul (aa a) (aa b)=some (aa (a*b)):=qF oZ oZ;have z:aW false .gtr (aa (b.natAbs:Int)) (aa (q:Int))=some (aF false):=by rw[lq,r]
   simp[iP,k,bK,c1,c2,b6,e,es,f,dY,jj,w,G,H,S,z,p,C,m]
  have E:c4 (a*b)=false:=by simpa using C
  have r:decide ((b.natAbs:Int)>(q:Int))=true:=xan (o.2 E);have z:aW false .gtr (aa (b.natAbs:Int)) (aa (q:Int))=some (aF true):=by rw[lq,r]
  simp[iP,k,bK,c1,c2,b6,e,es,dY,jj,w,G,H,S,z,E,m]
 have bX:t.op=8\/t.op=9\/t.op=10\/t.op=11\/t.op=12\/t.op=13\/t.op=14\/t.op=15:=oZ
 have cu:aW false .add (aa a) (aa b)=some (aa (a+b)):=dw oZ oZ;have J:aW false .sub (aa a) (aa b)=some (aa (a-b)):=j4 oZ oZ;have U:∀x y:Int,mb n [aF (x==y)]=some (aa (tr (x==y))):=λ_ _=>j _;generalize t.op=op at*;rcases bX with rfl|rfl|rfl|rfl|rfl|rfl|rfl|rfl
 .by_cases u:a=0;.simp[iP,k,bK,c1,c2,b6,e,es,j,f,dY,g,jj,w,u]
  have M:(a==0)=false:=by simpa using u
  simp[iP,k,bK,c1,c2,b6,e,es,j,f,dY,g,jj,w,u,M]
 all_goals simp[iP,k,bK,c1,c2,b6,e,es,j,f,dY,g,jj,w,cu,J]
variable{bn:Bool}
def Uq{a b:Nat}(h:a+b<=1000):b2 (a+b) 8=true:=eE
def Ur{vs:List V}{nx:Bool}{t:Tm}(h:(hZ vs nx t).2=0)(ai:3<=t.op):∃i,c3 vs t.name=some i:=by
 unfold hZ at h;rw[xab oZ,xab oZ]at h;cases ag:c3 vs t.name with
 |none=>rw[ag]at h;cases h
 |some i=>exact⟨i,rfl⟩
def Lz{vs:List V}{nx:Bool}:∀{l:List Tm},(cX vs nx l).2=0->∀k∈l,(cP vs nx k).2=0
 |[],_,k,a=>by cases a
 |t::r,h,k,a=>by
  rw[cX]at h;by_cases ab:(cP vs nx t).2=0
  case neg=>rw[xac ab]at h;exact absurd h ab
  rw[xab (by simpa using ab)]at h;by_cases ad:(cX vs nx r).2=0
  case neg=>rw[xac ad]at h;exact absurd h ad
  rcases xao.1 a with rfl|a;.exact ab
  exact Lz ad k a
def Bj{vs:List V}{nx:Bool}{t k:Tm}(c:Valid t)(h:(cP vs nx t).2=0)(a:k∈t.az):(cP vs nx k).2=0:=by
 rw[ku]at h;by_cases b:t.op<=4;.rw[c.leaf b]at a;cases a
 rw[xab b]at h;by_cases ak:(cX vs nx t.az).2=0;.exact Lz ak k a
 rw[xac ak]at h;exact absurd h ak
def LA{vs:List V}{i:Nat}{l:lY}(h:i<vs.length)(ah:l.length=vs.length):∃x,l[i]?=some x:=⟨_,xaa oZ⟩
@[simp] theorem aoI (p:lY) (x:Int):D.aw 1 (aE (bY p)++[[aa x]])=bY (p++[x]):=by simp[bY]
@[simp] theorem aoJ (p:lY):(aE (bY p)).length=p.length:=by simp[bY]
@[simp] theorem aoK (p:lY):D.aw 1 (aE (bY p))=bY p:=rfl
def Us(vs:List V)(nx:Bool)(s nn:lY)(C:vs.length<1000000000000)(aj:s.length=vs.length):∀(n:Nat)(t:Tm),t.aS+200+vs.length<n->t.Ok->Valid t->(cP vs nx t).2=0->(steps t=true->nn.length=vs.length)->om n [aO vs,t.d,bY s,fV bn nn]=some (.aC [aa (dj vs s nn t).1,aF (dj vs s nn t).2])
 |0,t,h,_,_,_,_=>absurd h (xaD _)
 |n+1,t,cy,N,o,G,z=>by
  have cC:=o.op;have bX:=o.w8;rw[mf];show iP (om n) n (aO vs) t.d (bY s) (fV bn nn)=_;by_cases J:t.op<=4
  .rw[xac J];rw[ku,xac J]at G;have bK:=Tm.lr t;have c1:=Tm.n1 t;have c2:=Tm.n2 t;have b6:=Tm.mR t;have H:=Tm.jG t;have B:=Ue n;have g:=Uf n;by_cases ad:t.op<=2
   .unfold h0;rw[xac ad];have L:t.op=1\/t.op=2:=oZ
    generalize t.op=op at*;rcases L with rfl|rfl<;>simp[iP,H,bK,c1,c2,b6]
   obtain⟨i,ag⟩:=Ur G oZ;obtain⟨v,Q,v2,v3⟩:=rk ag;have P:=Lq n vs t.name oZ C;rw[ag]at P;have j:(if t.op=4 then nn else s).length=vs.length:=by
    by_cases h:t.op=4;.rw[xac h];exact z (by rw[F5,h];rfl)
    rw[xab h];exact aj
   have M:jR vs s nn t=some i:=by unfold jR;rw[xac j,ag]
   obtain⟨x,b⟩:=LA v3 j;unfold h0;rw[xab ad,M];simp only[Q,b];have L:t.op=3\/t.op=4:=oZ
   generalize t.op=op at*;rcases L with rfl|rfl
   .simp only[show¬((3:Int)=4) by omega,xaG]at b;cases K:v.bool<;>simp[iP,H,bK,c1,c2,b6,P,eV Q,v.pV,lC b,B,g,K]
   simp only[xaC]at b;cases K:v.bool<;>simp[iP,H,bK,c1,c2,b6,P,eV Q,v.pV,Un b,B,g,K]
  rw[xab J];have A:∀k∈t.az,steps k=true->nn.length=vs.length:=λk cA h=>by refine z ?_;cases R:k2 t.az with|true=>rw[F5,R,Bool.or_true]|false=>rw[Ui cA R]at h;cases h
  have ah:=ch (f:=qV (om n) n) t.az (λi (p:lY)=>[aO vs,bY s,fV bn nn,aa (if t.op=6\/t.op=7 then p.sum else 0),aa (i:Int),aa t.op,aa t.num,aD t.name,bI 4 t.nl (Tm.rows t.az),bY p]) (λr p=>match e7 vs s nn r with
    |some l=>(Sum.inl [aa (if t.op=6\/t.op=7 then(p++l).sum else 0),aa t.op,aa t.num,aD t.name,bI 4 t.nl (Tm.rows t.az),bY (p++l)]:lZ⊕D)
    |none=> .inr (.aC [aa 0,aF false]))
   (λi p=>p.length=i/\∀v∈p,c4 v=true) ?_ ?_ n 0 [] ⟨rfl,by simp⟩ oZ (xag _)
  .have X:(aa ((0:Nat):Int))=aa 0:=rfl;have Y:bY []= .aw 1 []:=rfl;rw[X,Y]at ah;simp only[List.sum_nil,ite_self,xak,xaM]at ah;cases q:e7 vs s nn t.az with
   |none=>
    rw[q]at ah;have S:(t.op==1)=false:=uZ
    have T:(t.op==2)=false:=uZ
    have U:(t.op==3)=false:=uZ
    have W:(t.op==4)=false:=uZ
    simp[iP,S,T,U,W,ah]
   |some l=>rw[q]at ah;obtain⟨g1,g2,g3,g4⟩:=Um (nx:=nx) o G oZ q;exact aiu (om n) n vs s nn t l o g1 oZ g2 g3 g4 ah
  .intro p E;simp[qV,e7]
  intro i a p w ag E;have u:=xad w;have cT:=Tm.fB u;have F:=Us vs nx s nn C aj n a oZ (N.di u) (o.di u) (Bj o G u) (A a u);have m:b2 (p.length+1) 8=true:=Uq oZ;by_cases ak:(dj vs s nn a).2=true
  .left;have y:=Uj (o.di u) ak;refine⟨p++[(dj vs s nn a).1],?_,?_,by simp[E.1],?_⟩
   .have b3:=Lv p E.2;have b1:=(hp _).1 y;have e:aW false .add (aa p.sum) (aa (dj vs s nn a).1)=some (aa (p.sum+(dj vs s nn a).1)):=dw oZ oZ;by_cases c:t.op=6\/t.op=7
    .have ck:(if t.op=6 then true else decide (t.op=7))=true:=by rcases c with h|h<;>simp[h]
     rcases c with h|h;.simp[qV,ag,Tm.ep w,F,ak,bl i,m,h,e]
     simp[qV,ag,Tm.ep w,F,ak,bl i,m,h,e]
    have Z:¬t.op=6:=λh=>c (.inl h);have b4:¬t.op=7:=λh=>c (.inr h);simp[qV,ag,Tm.ep w,F,ak,bl i,m,Z,b4]
   .rw[e7,xac ak];cases e7 vs s nn (t.az.drop (i+1))with|none=>rfl|some l=>simp
   intro v O;rcases xar.1 O with h|h
   .exact E.2 v h
   simp at h;rw[h];exact y
  right;rw[e7,xab ak];have I:(dj vs s nn a).2=false:=by simpa using ak
  simp[qV,ag,Tm.ep w,F,I]
theorem aiv{M:List (Value×D)}(h:iN M){z:Value}{x:ByteArray}:gT .string z false M (aD x)=some (match eF M x with|some d=>d|none=>my z):=by simp only[gT,aD,PV h];cases eF M x<;>rfl
def xd(p:Int×Bool):e0 0 (eu p)=some (aa (if p.2=true then p.1 else 0)):=by obtain⟨v,o⟩:=p;cases o<;>simp[eu]
def xe(p:Int×Bool):e0 1 (eu p)=some (aF p.2):=by obtain⟨v,o⟩:=p;cases o<;>simp[eu]
def F8(p:Int×Bool):D.aC [aa (if p.2=true then p.1 else 0),aF p.2]=eu p:=by obtain⟨v,o⟩:=p;cases o<;>simp[eu]
theorem aiw(p:Int×Bool):(eu p).flat=true:=by obtain⟨v,o⟩:=p;cases o<;>rfl
def Ut(vs:List V)(nx:Bool)(s nn:lY)(M:List (Value×D))(J:FW M vs)(Q:vs.length<1000000000000)(aj:s.length=vs.length)(o:∀v,v∈s\/v∈nn->-9223372036854775808<=v/\v<=9223372036854775807):∀(n:Nat)(t:Tm),t.aS+200<n->t.Ok->Valid t->(cP vs nx t).2=0->py n [t.d,bY s,.mp M,fV bn nn,aO vs]=some [eu (dj vs s nn t),bY s,.mp M,fV bn nn,aO vs]
 |0,t,h,_,_,_=>absurd h (xaD _)
 |n+1,t,cy,O,q,H=>by
  have cA:=q.op;have b1:=q.w8;rw[mf];show px (py n) n [t.d,bY s,.mp M,fV bn nn,aO vs]=_;have ah:=ch (f:=yM (py n) n) t.az (λi (p:lY)=>[bI 4 t.nl (Tm.rows t.az),aa t.az.length,aa (i:Int),bY s,.mp M,fV bn nn,aO vs,aa t.op,aa t.num,aD t.name,bI 4 t.nl (Tm.rows t.az),bY p]) (λr p=>match e7 vs s nn r with|some l=>(Sum.inl [bY s,.mp M,fV bn nn,aO vs,aa t.op,aa t.num,aD t.name,bI 4 t.nl (Tm.rows t.az),bY (p++l)]:lZ⊕lZ)|none=> .inr [.aC [aa 0,aF false],bY s,.mp M,fV bn nn,aO vs])
   (λi p=>p.length=i) ?_ ?_ n 0 [] rfl oZ (xag _)
  .have bX:(aa ((0:Nat):Int))=aa 0:=rfl;have b4:bY []= .aw 1 []:=rfl;have cC:D.aC [aa 0,aF false]=eu (0,false):=rfl;rw[bX,b4]at ah;simp only[xak,xaM]at ah;have bK:=Tm.lr t;have c1:=Tm.n1 t;have c2:=Tm.n2 t;have b6:=Tm.mR t;have w:=Tm.jG t;by_cases F:t.op<=4
   .rw[xac F];rw[ku,xac F]at H;have C:=q.leaf F;rw[C]at ah;have z0:((([]:List Tm).length:Nat):Int)=0:=rfl;simp only[e7,z0]at ah;have b3:D.aw 1 []=bY []:=rfl;have E:=Ud n;by_cases ad:t.op<=2
    .unfold h0;rw[xac ad];have B:t.op=1\/t.op=2:=oZ
     generalize t.op=op at*;rcases B with rfl|rfl<;>simp[px,w,bK,c1,c2,b6,C,ah,eu]
    obtain⟨i,ag⟩:=Ur H oZ;obtain⟨v,R,v2,v3⟩:=rk ag;have g:=aiv J.1 (z:= .int .i64 0) (x:=t.name);rw[J.2,ag]at g;simp only[xaI]at g;have e:jx (.mp M)=some M:=rfl;unfold h0;rw[xab ad];have B:t.op=3\/t.op=4:=oZ
    have S:(t.op==3||t.op==4)=true:=by rcases B with h|h<;>simp[h]
    by_cases b:(if t.op=4 then nn else s).length=vs.length
    .have m:jR vs s nn t=some i:=by unfold jR;rw[xac b,ag]
     obtain⟨x,c⟩:=LA v3 b;have j:=xad c;rw[m];simp only[R,c];have k:k1 (x+0) true=eu (x,c4 x):=by rw[Uh,Int.add_zero]
     generalize t.op=op at*;rcases B with rfl|rfl
     .simp only[show¬((3:Int)=4) by omega,xaG]at c j b;have A:=FY n x 0 (o x (.inl j)) oZ;rw[k]at A;cases L:v.bool<;>simp[px,w,bK,c1,c2,b6,C,ah,e,g,pW,jP,b,eV R,v.pV,lC c,E,L,A,xd,xe]<;>(try exact F8 (x,c4 x))<;>(try rfl)
     simp only[xaC]at c j b;have A:=FY n x 0 (o x (.inr j)) oZ;rw[k]at A;cases L:v.bool<;>simp[px,w,bK,c1,c2,b6,C,ah,e,g,jP,b,eV R,v.pV,Un c,E,L,A,xd,xe]<;>(try exact F8 (x,c4 x))<;>(try rfl)
    have m:jR vs s nn t=none:=by unfold jR;rw[xab b]
    rw[m];have y:t.op=4:=by refine B.resolve_left λh=>b ?_;rw[xab oZ];exact aj
    rw[xac y]at b;generalize t.op=op at*;subst y;have N:¬((nn.length:Int)=(vs.length:Int)):=oZ
    simp[px,w,bK,c1,c2,b6,C,ah,e,g,jP,N]<;>(try rfl)
   rw[xab F];have W:(t.op==1)=false:=uZ
   have X:(t.op==2)=false:=uZ
   have Y:(t.op==3)=false:=uZ
   have Z:(t.op==4)=false:=uZ
   cases u:e7 vs s nn t.az with
   |none=>rw[u]at ah;simp[px,w,bK,c1,c2,b6,ah]<;>(try rfl)
   |some l=>rw[u]at ah;obtain⟨g1,g2,g3,g4⟩:=Um (nx:=nx) q H oZ u;have ck:=aik n t l q g1 oZ g2 oZ g3 g4;simp[px,w,bK,c1,c2,b6,ah,W,X,Y,Z,ck,aiw,xd,xe,F8]
  .intro p T;simp[yM,e7]
  intro i a p K ag T;have G:=xad K;have cT:=Tm.fB G;have U:=Ut vs nx s nn M J Q aj o n a oZ (O.di G) (q.di G) (Bj q H G);have P:b2 (p.length+1) 8=true:=Uq oZ;by_cases ak:(dj vs s nn a).2=true
  .left;refine⟨p++[(dj vs s nn a).1],?_,?_,by simp[T]⟩;.simp[yM,ag,Tm.ep K,U,ak,bl i,P,xd,xe]
   rw[e7,xac ak];cases e7 vs s nn (t.az.drop (i+1))with|none=>rfl|some l=>simp
  right;rw[e7,xab ak];have I:(dj vs s nn a).2=false:=by simpa using ak
  simp[yM,ag,Tm.ep K,U,I,xd,xe]
def Uu:∀(n:Nat)(t:Tm),t.aS<n->t.Ok->oj n [t.d]=some (aF (steps t))
 |0,t,h,_=>absurd h (xaD _)
 |n+1,t,o,b=>by
  have g:=b.len;rw[F5];have ah:=ch (f:=zC (oj n) n) t.az (λi (_:Unit)=>[aa (i:Int),aa t.op,aa t.num,aD t.name,bI 4 t.nl (Tm.rows t.az)]) (λr _=>if k2 r=true then(Sum.inr (aF true):lZ⊕D)else .inl []) (λ_ _=>True) (λ_ _=>by simp[zC,k2]) ?_ n 0 () trivial (by have:=t.h8;omega) (xag _)
  .have l:(aa ((0:Nat):Int))=aa 0:=rfl;rw[l]at ah;simp only[xak]at ah;by_cases c:t.op=4;.simp[oj,Eb,c]
   have m:(t.op==4)=false:=by simpa using c
   cases aj:k2 t.az<;>simp[oj,Eb,c,ah,aj]
  intro i a _ e ag _;have j:=xad e;have p:=Tm.fB j;have k:=Uu n a oZ (b.di j);cases aj:steps a
  .left;exact⟨(),by simp[zC,ag,Tm.ep e,k,aj,bl i],by simp[k2,aj],trivial⟩
  right;simp[zC,ag,Tm.ep e,k,aj,k2]
def Uv{vs:List V}{s nn:lY}:∀{l:List Tm}{r:lY},e7 vs s nn l=some r->∀k∈l,(dj vs s nn k).2=true
 |[],_,_,k,a=>by cases a
 |t::q,r,h,k,a=>by
  rw[e7]at h;by_cases ab:(dj vs s nn t).2=true
  case neg=>rw[xab ab]at h;cases h
  rw[xac ab]at h;cases ad:e7 vs s nn q with
  |none=>rw[ad]at h;cases h
  |some l=>
   rcases xao.1 a with rfl|a;.exact ab
   exact Uv ad k a
def Uw:∀{l:List Tm},k2 l=true->∃k∈l,steps k=true
 |a::r,h=>by rw[k2]at h;cases b:steps a with|true=>exact⟨a,by simp,b⟩|false=>rw[b,xbB]at h;obtain⟨k,ab,ad⟩:=Uw h;exact⟨k,by simp[ab],ad⟩
def aix{vs:List V}{s nn:lY}(c:nn.length≠vs.length)(t:Tm):Valid t->steps t=true->(dj vs s nn t).2=false:=by
 refine Tm.ind (P:=λt=>Valid t->steps t=true->(dj vs s nn t).2=false) ?_ t;intro t ih d h;rw[mf];rw[F5]at h;by_cases a:t.op<=4
 .rw[xac a];have b:t.op=4:=by
   rw[d.leaf a]at h;simpa[k2]using h
  unfold h0;rw[xab oZ];have:jR vs s nn t=none:=by unfold jR;rw[xac b,xab c]
  rw[this]
 rw[xab a];have e:(t.op==4)=false:=uZ
 rw[e,xbB]at h;obtain⟨k,ab,ad⟩:=Uw h;cases ah:e7 vs s nn t.az with|none=>rfl|some l=>have:=Uv ah k ab;rw[ih k ab (d.di ab) ad]at this;cases this
def fI(vs:List V)(t:Tm)(s nn:lY):Int×Bool:=if(et vs true t).2≠0\/s.length≠vs.length then(0,false)else dj vs s nn t
def Bk{vs:List V}{nx:Bool}{t:Tm}(h:(et vs nx t).2=0):Valid t/\(cP vs nx t).2=0:=by
 unfold et at h;by_cases a:(ct t 1 0).1=0;.rw[xab (by simpa using a)]at h;exact⟨⟨1,0,a⟩,h⟩
 rw[xac a]at h;exact absurd h a
def LB(n:Nat)(vs:List V)(t:Tm)(s nn:lY)(m:t.aS+200+vs.length<n)(b:t.Ok)(a:vs.length<1000000000000)(g:∀v,v∈s\/v∈nn->-9223372036854775808<=v/\v<=9223372036854775807):nm n [aO vs,t.d,bY s,fV bn nn]=some (eu (fI vs t s nn)):=by
 have ab:=Ls n vs t true m b a;obtain⟨M,m1,m2⟩:=T4 n vs oZ a;have i:c7 (aO vs)=true:=rfl;have j:∀l,c7 (bY l)=true:=λ_=>rfl;have c:D.aC [aa 0,aF false]=eu (0,false):=rfl;unfold fI;by_cases f:(et vs true t).2=0
 .by_cases aj:s.length=vs.length
  .obtain⟨o,h⟩:=Bk f;have k:=Ut (bn:=bn) vs true s nn M m2 a aj g n t oZ b o h;have e:((s.length:Int) !=(vs.length:Int))=false:=by simp[aj]
   simp[nm,E2,i,j,ab,f,aj,pW,jP,m1,k,xd,xe,F8]
  have e:¬((s.length:Int)=(vs.length:Int)):=oZ
  simp[nm,E2,i,j,ab,f,aj,pW,jP,e];exact c
 simp[nm,E2,i,j,ab,f];exact c
def LC(n:Nat)(vs:List V)(t:Tm)(s nn:lY)(w:t.aS+200+vs.length<n)(b:t.Ok)(i:vs.length<1000000000000):ly n [aO vs,t.d,bY s,fV bn nn]=some (eu (fI vs t s nn)):=by
 have ab:=Lt n vs t true w b i;have ad:=Uu n t oZ b;have f:D.aC [aa 0,aF false]=eu (0,false):=rfl;unfold fI;by_cases e:(et vs true t).2=0
 .by_cases aj:s.length=vs.length
  .obtain⟨x,q⟩:=Bk e;by_cases a:steps t=true/\nn.length≠vs.length
   .have r:=aix (s:=s) a.2 t x a.1;have m:¬((nn.length:Int)=(vs.length:Int)):=by have:=a.2;omega
    have j:eu (dj vs s nn t)= .aC [aa 0,aF false]:=by unfold eu;rw[xab (by simp[r])]
    simp[ly,vN,ab,ad,e,aj,pW,jP,a.1,m,j]
   have u:=Us (bn:=bn) vs true s nn i aj n t w b x q (λh=>by refine xbi λl=>a ⟨h,l⟩);have j:eu (dj vs s nn t)=if(dj vs s nn t).2=true then .aC [aa (dj vs s nn t).1,aF true]else .aC [aa 0,aF false]:=rfl
   by_cases c:steps t=true;.have o:nn.length=vs.length:=xbi λl=>a ⟨c,l⟩;cases k:(dj vs s nn t).2<;>simp[ly,vN,ab,ad,e,aj,pW,jP,c,o,u,k,j]
   have g:steps t=false:=by simpa using c
   cases k:(dj vs s nn t).2<;>simp[ly,vN,ab,ad,e,aj,pW,jP,g,u,k,j]
  have p:¬((s.length:Int)=(vs.length:Int)):=oZ
  simp[ly,vN,ab,ad,e,aj,pW,jP,p];exact f
 simp[ly,vN,ab,ad,e];exact f
def Ux{lo ag x y:Int}(ab:lo<=x)(ad:x<=ag):iy (lo*y) (ag*y)<=x*y/\x*y<=ed (lo*y) (ag*y):=by
 by_cases c:0<=y;.have a:=Int.mul_le_mul_of_nonneg_right ab c;have b:=Int.mul_le_mul_of_nonneg_right ad c;unfold iy ed;constructor<;>split<;>omega
 have a:=Int.mul_le_mul_of_nonpos_right ab (oZ:y<=0);have b:=Int.mul_le_mul_of_nonpos_right ad (oZ:y<=0);unfold iy ed;constructor<;>split<;>omega
def Uy{lo ag x y:Int}(ab:lo<=x)(ad:x<=ag):iy (y*lo) (y*ag)<=y*x/\y*x<=ed (y*lo) (y*ag):=by have:=Ux (y:=y) ab ad;rw[Int.mul_comm lo y,Int.mul_comm ag y,Int.mul_comm x y]at this;exact this
def aiy{a b:Y}{x y:Int}(d:a.lo<=x/\x<=a.ag)(c:b.lo<=y/\y<=b.ag):w5 a b<=x*y/\x*y<=w6 a b:=by have ab:=Ux (y:=y) d.1 d.2;have ad:=Uy (y:=a.lo) c.1 c.2;have ai:=Uy (y:=a.ag) c.1 c.2;unfold w5 w6;generalize x*y=p at*;generalize a.lo*y=q at*;generalize a.ag*y=r at*;generalize a.lo*b.lo=s at*;generalize a.lo*b.ag=t at*;generalize a.ag*b.lo=u at*;generalize a.ag*b.ag=v at*;unfold iy ed at*;omega
def aiz{lo ag v:Int}(h:(e6 lo ag).2=0)(ab:lo<=v)(ad:v<=ag):(e6 lo ag).1.lo<=v/\v<=(e6 lo ag).1.ag:=by
 unfold e6 at*;split at h;.cases h
 rename_i a;rw[xab a];exact⟨ab,ad⟩
def eb(vs:List V)(s:lY):Prop:=s.length=vs.length/\∀(i:Nat)(v:V)(x:Int),vs[i]?=some v->s[i]?=some x->if v.bool then x=0\/x=1 else v.lo<=x/\x<=v.ag
def within(y:Y)(v:Int):Prop:=if y.b then v=0\/v=1 else y.lo<=v/\v<=y.ag
def rn{lo ag v:Int}(h:(e6 lo ag).2=0)(ab:lo<=v)(ad:v<=ag):within (e6 lo ag).1 v:=by unfold within;rw[xb];exact aiz h ab ad
def pX{y:Y}{b:Bool}(h:y.b=true):within y (tr b):=by unfold within;rw[xac h];exact Bi b
def Uz{lo ag:Int}(h:(e6 lo ag).2=0):-1048576<=lo/\ag<=1048576/\lo<=ag:=by
 unfold e6 at h;split at h;.cases h
 omega
def aiA{vs:List V}{s nn:lY}{t:Tm}(aj:eb vs s)(n:eb vs nn)(j:Valid t)(h:(hZ vs true t).2=0):(h0 vs s nn t).2=true/\within (hZ vs true t).1 (h0 vs s nn t).1:=by
 have f:=j.num;unfold hZ at*;unfold h0;by_cases ab:t.op=1;.rw[xac ab]at*;rw[xac oZ];exact⟨rfl,rn h (Int.le_refl _) (Int.le_refl _)⟩
 rw[xab ab]at*;by_cases ad:t.op=2;.rw[xac ad]at*;rw[xac oZ];refine⟨rfl,?_⟩;unfold within;simp only[gF,xaC];omega
 rw[xab ad]at*;have m:=j.op;rw[xab (show¬t.op<=2 by omega)];cases ag:c3 vs t.name with
 |none=>rw[ag]at h;cases h
 |some i=>
  rw[ag]at h;simp only at h⊢;obtain⟨v,d,v2,v3⟩:=rk ag;have b:¬(t.op=4/\true=false):=sZ
  rw[xab b,d]at h;rw[xab b,d];simp only at h⊢;have a:eb vs (if t.op=4 then nn else s):=by split<;>assumption
  have e:jR vs s nn t=some i:=by unfold jR;rw[xac a.1,ag]
  obtain⟨x,k⟩:=LA v3 a.1;rw[e];simp only[k,d];have g:=a.2 i v x d k;by_cases c:v.bool=true
  .rw[xac c]at*;rw[xac c];exact⟨rfl,pX rfl⟩
  rw[xab c]at*;rw[xab c];have l:=Uz h;exact⟨(hp _).2 oZ,rn h g.1 g.2⟩
def aiB{l:List Y}{a:lY}(ah:l.all Y.b=true)(d:a.length=l.length)(h:∀(i:Nat)(y:Y)(v:Int),l[i]?=some y->a[i]?=some v->within y v):∀v∈a,v=0\/v=1:=by
 intro v g;obtain⟨i,ag⟩:=xaJ.1 g;have c:i<l.length:=by have:=(lV.1 ag).1;omega
 have j:=xaa c;have f:=xay.1 ah _ (xaV c);have e:=h i _ v j ag;unfold within at e
 rwa [xac f]at e
def aiC{t:Tm}{a b c:Y}(h:¬(5<=t.op/\t.op<=9)):eU t [a,b,c]=if(!a.b||(b.b !=c.b))then(dL,13)else if b.b then(gF,0)else e6 (iy b.lo c.lo) (ed b.ag c.ag):=by unfold eU;rw[xab h]
def aiD{t:Tm}{a b:Y}(h:¬(5<=t.op/\t.op<=9)):eU t [a,b]=if t.op=10\/t.op=11 then if a.b !=b.b then(dL,13)else(gF,0)
   else if(a.b||b.b)then(dL,13)
   else if t.op=12\/t.op=13 then(gF,0)
   else if t.op=17 then(match t.az[1]? with
    |some k=>if k.op≠1\/k.num<1 then(dL,2)else e6 0 (k.num-1)
    |none=>(dL,0))
   else k0 t.op a b:=by
 unfold eU;rw[xab h]<;>rfl
def aiE{op a b c:Int}(d:¬op=6)(e:¬op=7):dY op [a,b,c]=(if a=1 then b else c,c4 (if a=1 then b else c)):=by unfold dY;rw[xab d,xab e]
def aiF{op a b:Int}(c:¬op=6)(d:¬op=7):dY op [a,b]=if op=8 then(tr (a==0||b==1),true)else if op=9\/op=10 then(tr (a==b),true)else if op=11 then(tr (a !=b),true)
   else if op=12 then(tr (decide (a<b)),true)else if op=13 then(tr (decide (a<=b)),true)
   else if op=14 then(a+b,c4 (a+b))else if op=15 then(a-b,c4 (a-b))
   else if op=16 then if c4 (a*b)then(a*b,true)else(0,false)
   else((a.tmod b+b).tmod b,c4 ((a.tmod b+b).tmod b)):=by
 unfold dY;rw[xab c,xab d]
def aiG{t:Tm}{l:List Y}{f:lY}(V:Valid t)(eY:5<=t.op)(d:(eU t l).2=0)(J:∀y∈l,y.ik)(ck:l.length=t.az.length)(o:f.length=l.length) (s:∀(i:Nat)(y:Y)(v:Int),l[i]?=some y->f[i]?=some v->within y v) (dD:t.op=17->∀k v,t.az[1]?=some k->f[1]?=some v->v=k.num):(dY t.op f).2=true/\within (eU t l).1 (dY t.op f).1:=by
 have eL:=V.op;have e:=V.len;have r:5<=t.op/\t.op<=9->(eU t l).1.b=true:=λh=>by have:=F6 d h;unfold eU;rw[xac h,xac this];rfl
 by_cases S:t.op=6\/t.op=7
 .have m:=r oZ;unfold dY;rcases S with h|h
  .rw[xac h];exact⟨rfl,pX m⟩
  rw[xab oZ,xac h];exact⟨rfl,pX m⟩
 by_cases R:t.op=5
 .have m:=r oZ;have:ew t.op=(1,1):=by rw[R];rfl
  rw[this]at e;have W:f.length=1:=by simp only at e;omega
  match f,W,o,s with|[a],_,o,s=>have cK:=aiB (F6 d oZ) o s a sZ;have C:c4 (1-a)=true:=(hp _).2 oZ;unfold dY;rw[xab oZ,xab oZ];refine⟨C,?_⟩;unfold within;rw[xac m];simp only;omega
 have bX:¬t.op=6:=oZ
 have b4:¬t.op=7:=oZ
 by_cases Q:t.op=18
 .rw[tz Q]at e;obtain⟨a,b,c,rfl⟩:=pU (l:=l) (by simp only at e;omega);obtain⟨x,y,z,rfl⟩:=pU (l:=f) (by simpa using o);have p:¬(5<=t.op/\t.op<=9):=oZ
  obtain⟨fe,Z,fc⟩:=Ly d p;have I:=s 0 a x rfl rfl;have u:=s 1 b y rfl rfl;have L:=s 2 c z rfl rfl;have M:=J b sZ;have gc:=J c sZ;unfold within at I u L;rw[aiE bX b4];rw[aiC p]at d⊢;have T:¬(!a.b||(b.b !=c.b))=true:=by rw[fe,Z];simp
  rw[xab T]at d⊢;by_cases m:b.b=true
  .rw[xac m];rw[xac m]at u;rw[<-Z,xac m]at L;by_cases H:x=1;.rw[xac H];have q:c4 y=true:=(hp _).2 oZ;refine⟨q,?_⟩;unfold within;simp only[gF,xaC];exact u
   rw[xab H];have q:c4 z=true:=(hp _).2 oZ;refine⟨q,?_⟩;unfold within;simp only[gF,xaC];exact L
  rw[xab m]at d⊢;rw[xab m]at u;rw[<-Z,xab m]at L;obtain⟨_,cA,cC,cy⟩:=M;obtain⟨_,c1,c2,b6⟩:=gc;have eX:iy b.lo c.lo<=b.lo/\iy b.lo c.lo<=c.lo:=by unfold iy;split<;>omega
  have ek:b.ag<=ed b.ag c.ag/\c.ag<=ed b.ag c.ag:=by unfold ed;split<;>omega
  by_cases H:x=1;.rw[xac H];have q:c4 y=true:=(hp _).2 oZ;exact⟨q,rn d oZ oZ⟩
  rw[xab H];have q:c4 z=true:=(hp _).2 oZ;exact⟨q,rn d oZ oZ⟩
 rw[rj (oZ:8<=t.op/\t.op<=17)]at e;obtain⟨a,b,rfl⟩:=me (l:=l) (by simp only at e;omega);obtain⟨x,y,rfl⟩:=me (l:=f) (by simpa using o);have I:=s 0 a x rfl rfl;have u:=s 1 b y rfl rfl;have cT:=J a sZ;have M:=J b sZ;rw[aiF bX b4];by_cases b3:t.op=8
 .rw[xac b3];exact⟨rfl,pX (r oZ)⟩
 rw[xab b3];by_cases dc:t.op=9;.rw[xac (Or.inl dc)];exact⟨rfl,pX (r oZ)⟩
 have p:¬(5<=t.op/\t.op<=9):=oZ
 rw[aiD p]at d⊢;by_cases w:t.op=10\/t.op=11
 .rw[xac w]at d⊢;by_cases E:(a.b !=b.b)=true;.rw[xac E]at d;cases d
  rw[xab E];rcases w with h|h
  .rw[xac (Or.inr h)];exact⟨rfl,pX rfl⟩
  have U:¬(t.op=9\/t.op=10):=oZ
  rw[xab U,xac h];exact⟨rfl,pX rfl⟩
 rw[xab w]at d⊢;have D:¬(t.op=9\/t.op=10):=oZ
 have N:¬t.op=11:=oZ
 rw[xab D,xab N];by_cases E:(a.b||b.b)=true;.rw[xac E]at d;cases d
 rw[xab E]at d⊢;have ea:a.b=false/\b.b=false:=by cases cK:a.b<;>cases m:b.b<;>simp_all
 have G:¬(false=true):=sZ
 unfold within at I u;rw[ea.1,xab G]at I;rw[ea.2,xab G]at u;obtain⟨_,aG,a2,a3⟩:=cT;obtain⟨_,cA,cC,cy⟩:=M;by_cases g:t.op=12\/t.op=13
 .rw[xac g];rcases g with h|h
  .rw[xac h];exact⟨rfl,pX rfl⟩
  have U:¬t.op=12:=oZ
  rw[xab U,xac h];exact⟨rfl,pX rfl⟩
 rw[xab g]at d⊢;have O:¬t.op=12:=oZ
 have P:¬t.op=13:=oZ
 rw[xab O,xab P];by_cases B:t.op=17
 .rw[xac B]at d⊢;have j:¬t.op=14:=oZ
  have n:¬t.op=15:=oZ
  have A:¬t.op=16:=oZ
  rw[xab j,xab n,xab A];cases K:t.az[1]? with
  |none=>have:=xck.1 K;simp only at e;omega
  |some k=>
   rw[K]at d;simp only at d⊢;by_cases b1:k.op≠1\/k.num<1;.rw[xac b1]at d;cases d
   rw[xab b1]at d⊢;have X:=dD B k y K rfl;subst X;have dT:=(V.di (xad K)).num;have m1:=Bg (a:=x) (b:=k.num) oZ;have m2:=Bg (a:=x.tmod k.num+k.num) (b:=k.num) oZ;have m3:=Int.tmod_nonneg (a:=x.tmod k.num+k.num) k.num oZ;have q:c4 ((x.tmod k.num+k.num).tmod k.num)=true:=(hp _).2 oZ;exact⟨q,rn d m3 oZ⟩
 rw[xab B]at d⊢;unfold k0 at d⊢;by_cases n:t.op=15
 .have j:¬t.op=14:=oZ
  simp only[xac n,xab j]at d⊢;have q:c4 (x-y)=true:=(hp _).2 oZ;exact⟨q,rn d oZ oZ⟩
 by_cases j:t.op=14;.simp only[xab n,xac j]at d⊢;have q:c4 (x+y)=true:=(hp _).2 oZ;exact⟨q,rn d oZ oZ⟩
 have A:t.op=16:=oZ
 simp only[xab j,xab n,xac A]at d⊢;have F:=aiy I u;have dE:=Uz d;have C:c4 (x*y)=true:=(hp _).2 oZ;simp only[xac C];exact⟨trivial,rn d F.1 F.2⟩
def UA{vs:List V}{s nn:lY}:∀{l:List Tm},(∀k∈l,(dj vs s nn k).2=true)->e7 vs s nn l=some (l.map λk=>(dj vs s nn k).1)
 |[],_=>rfl|t::r,h=>by rw[e7,xac (h t sZ),UA λk a=>h k (by simp[a])];rfl
def UB{vs:List V}{nx:Bool}:∀{l:List Tm},(cX vs nx l).2=0->(cX vs nx l).1=l.map λk=>(cP vs nx k).1
 |[],_=>rfl
 |t::r,h=>by
  rw[cX]at*;by_cases ab:(cP vs nx t).2=0
  case neg=>rw[xac ab]at h;exact absurd h ab
  have a:¬(cP vs nx t).2≠0:=by simpa using ab
  rw[xab a]at h⊢;by_cases ad:(cX vs nx r).2=0
  case neg=>rw[xac ad]at h;exact absurd h ad
  have b:¬(cX vs nx r).2≠0:=by simpa using ad
  rw[xab b];simp[UB ad]
def UC{vs:List V}{s nn:lY}(aj:eb vs s)(r:eb vs nn)(t:Tm):Valid t->(cP vs true t).2=0->(dj vs s nn t).2=true/\within (cP vs true t).1 (dj vs s nn t).1:=by
 refine Tm.ind (P:=λt=>Valid t->(cP vs true t).2=0->(dj vs s nn t).2=true/\within (cP vs true t).1 (dj vs s nn t).1) ?_ t;intro t ih b h;have m:∀k∈t.az,(cP vs true k).2=0:=λk m=>Bj b h m;rw[ku]at h⊢;rw[mf];by_cases j:t.op<=4
 .rw[xac j]at*;rw[xac j];exact aiA aj r b h
 rw[xab j]at h⊢;rw[xab j];by_cases ak:(cX vs true t.az).2=0
 case neg=>rw[xac ak]at h;exact absurd h ak
 have n:¬(cX vs true t.az).2≠0:=by simpa using ak
 rw[xab n]at h⊢;have q:e7 vs s nn t.az=_:=UA λk a=>(ih k a (b.di a) (m k a)).1;rw[q];simp only;obtain⟨g1,g2⟩:=w7 vs true t.az ak;have p:=UB ak;refine aiG b oZ h g2 g1 (by rw[g1];simp) ?_ ?_
 .intro i y v g e;rw[p]at g;simp only[xah,xae]at g e;obtain⟨k,bR,rfl⟩:=g;obtain⟨u,cx,rfl⟩:=e;rw[bR]at cx;cases cx;exact(ih k (xad bR) (b.di (xad bR)) (m k (xad bR))).2
 intro o k v c f;simp only[xah,c,xaI,xaE]at f;have d:=b.len;rw[rj oZ]at d;obtain⟨w,x,g⟩:=me (l:=(cX vs true t.az).1) (by simp only at d;omega);rw[g]at h;have:=Uk h o c;rw[<-f,mf,xac oZ];unfold h0;rw[xac oZ]
end Go.Am
