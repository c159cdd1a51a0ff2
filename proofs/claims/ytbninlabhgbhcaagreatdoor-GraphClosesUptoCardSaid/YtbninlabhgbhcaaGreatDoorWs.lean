/- Laws, on data. No condition. -/
import Derived.Test.YtbninlabhgbhcaaGreatDoorLaws
import Derived.Test.YtbninlabhgbhcaaGreatDoorEngS
import Derived.KernelRfl
set_option linter.all false
set_option linter.unnecessarySimpa false
namespace Go.Am
structure cQ where
 name:ByteArray
 f:Fm
def cQ.cells(d:cQ):List D:=[a1 d.name,I d.f.op,I d.f.e.op,I d.f.e.num,a1 d.f.e.name,cB 4 d.f.e.nl (Tm.rows d.f.e.bc),cB 6 d.f.nl (Fm.rows d.f.bc)]
def az(l:List Tm):D:= .aV 4 (Tm.rows l)
def b2(l:List cQ):D:= .aV 7 (l.map cQ.cells)
def ya{l:List Tm}{i:Nat}{t:Tm}(h:l[i]?=some t):bX 4 (az l) (I (i:Int))=some t.cells:=by simp[az,Tm.LZ h]
def iu(l:List Tm):fA (az l)=some (I l.length):=by simp[az]
def ny{l:List cQ}{i:Nat}{t:cQ}(h:l[i]?=some t):bX 7 (b2 l) (I (i:Int))=some t.cells:=by simp[b2,h]
def jd(l:List cQ):fA (b2 l)=some (I l.length):=by simp[b2]
def cQ.d(d:cQ):D:= .agg d.cells
theorem cQ.aej(d:cQ):bN true 7 0 d.cells=some d.d:=rfl
theorem cQ.iQ(d:cQ):bN true 6 1 d.cells=some d.f.d:=by rw[Fm.j3];rfl
theorem cQ.gX(d:cQ):bN false 1 0 d.cells=some (a1 d.name):=rfl
def cQ.agg(d:cQ):dV 7 d.d=true:=by unfold cQ.d cQ.cells;simp[aan]
theorem cQ.bf(d:cQ):ae d.d 0=a1 d.name:=rfl
theorem cQ.c1(d:cQ):ae d.d 1=I d.f.op:=rfl
theorem cQ.c2(d:cQ):ae d.d 2=I d.f.e.op:=rfl
theorem cQ.b4(d:cQ):ae d.d 3=I d.f.e.num:=rfl
theorem cQ.cT(d:cQ):ae d.d 4=a1 d.f.e.name:=rfl
theorem cQ.dp(d:cQ):ae d.d 5=cB 4 d.f.e.nl (Tm.rows d.f.e.bc):=rfl
theorem cQ.dq(d:cQ):ae d.d 6=cB 6 d.f.nl (Fm.rows d.f.bc):=rfl
structure ar where
 vars:List V
 aA:List bw
 bU:List Tm
 bW:List Tm
 next:List bw
 trans:List Tm
 bO:List Tm
 bP:List cQ
def ar.d(m:ar):D:= .agg [br m.vars,aY m.aA,az m.bU,az m.bW,aY m.next,az m.trans,az m.bO,b2 m.bP]
section
variable(m:ar)
theorem ar.bf:ae m.d 0=br m.vars:=rfl
theorem ar.c1:ae m.d 1=aY m.aA:=rfl
theorem ar.c2:ae m.d 2=az m.bU:=rfl
theorem ar.b4:ae m.d 3=az m.bW:=rfl
theorem ar.cT:ae m.d 4=aY m.next:=rfl
theorem ar.dp:ae m.d 5=az m.trans:=rfl
theorem ar.dq:ae m.d 6=az m.bO:=rfl
theorem ar.dE:ae m.d 7=b2 m.bP:=rfl
theorem ar.agg:dV 8 m.d=true:=rfl
theorem ar.eta:D.agg [br m.vars,aY m.aA,az m.bU,az m.bW,aY m.next,az m.trans,az m.bO,b2 m.bP]=m.d:=rfl
end
def aek:∀l:List Tm,oH l=l.map gH
 |[]=>rfl|k::r=>by rw[oH,aek r];rfl
theorem D8(t:Tm):gH t= .mk t.op t.num t.name false (t.bc.map gH):=by cases t;rw[gH,aek];rfl
def NV(t:Tm):(gH t).bA=t.bA:=by
 refine Tm.ind (P:=λt=>(gH t).bA=t.bA) ?_ t;intro t ih;have key:∀l:List Tm,(∀k∈l,(gH k).bA=k.bA)->Tm.eZ (l.map gH)=Tm.eZ l:=by
  intro l
  induction l with
  |nil=>intro _;rfl
  |cons a r mb=>intro h;simp only[xau,Tm.eZ];rw[h a (by simp),mb λk ah=>h k (by simp[ah])]
 rw[Tm.Bj,Tm.Bj t,D8];show 2+Tm.eZ (t.bc.map gH)=_;rw[key _ ih]
def avA(t:Tm):t.Ok->(gH t).Ok:=by
 refine Tm.ind (P:=λt=>t.Ok->(gH t).Ok) ?_ t;intro t ih bD;rw[D8];have bJ:=bD.len;obtain⟨eQ,eE,hR⟩:(-9223372036854775808<=t.op/\t.op<=9223372036854775807)/\(-9223372036854775808<=t.num/\t.num<=9223372036854775807)/\t.name.size<=140737488355328:=by cases bD with|mk o n s b ks aT aN aC al ah=>exact⟨aT,aN,aC⟩
 refine .mk _ _ _ _ _ eQ eE hR (by simpa using bJ) ?_;intro k ah;obtain⟨bF,fh,rfl⟩:=xaO.1 ah;exact ih bF fh (bD.fD fh)
def jG:Int:=9007199254740992
def ep(n:Int):Bool:=decide (-9007199254740992<=n)&&decide (n<=9007199254740992)
def pK(n:Int)(ok:Bool):D:=if ok&&ep n then .a6 [I n,aI true]else .a6 [I 0,aI false]
def avB(n:Nat)(a:Int)(ok:Bool):Iv n [I a,aI ok]=some (pK a ok):=by unfold pK ep;cases ok<;>simp[Iv,abH,-R2,-RJ];grind
def NW(n:Nat)(a b:Int)(aH:-9223372036854775808<=a/\a<=9223372036854775807)(aj:-9223372036854775808<=b/\b<=9223372036854775807):tZ n [I a,I b]=some (pK (a+b) true):=by
 have bS:=avB n;by_cases J:(a<0)=(b<0)
 case neg=>
  have e:IntKind.i64.wrap (a+b)=a+b:=by
   refine wrap64 _ ?_ ?_;.by_cases c:a<0<;>by_cases d:b<0<;>simp[c,d]at J<;>omega
   by_cases c:a<0<;>by_cases d:b<0<;>simp[c,d]at J<;>omega
  have cp:(decide (a<0) !=decide (b<0))=true:=by by_cases c:a<0<;>by_cases d:b<0<;>simp[c,d]at J⊢
  simp[tZ,MY,LQ,e,cp,bS];unfold pK;split<;>simp
 have cp:(decide (a<0) !=decide (b<0))=false:=by by_cases c:a<0<;>by_cases d:b<0<;>simp[c,d]at J⊢
 by_cases av:-9223372036854775808<=a+b/\a+b<=9223372036854775807
 .have e:IntKind.i64.wrap (a+b)=a+b:=wrap64 _ av.1 av.2;have aC:(decide (a<0)==decide (a+b<0))=true:=by
   by_cases c:a<0<;>by_cases d:b<0<;>simp[c,d]at J⊢<;>omega
  simp[tZ,MY,LQ,e,cp,aC,bS];unfold pK;split<;>simp
 have e:IntKind.i64.wrap (a+b)=if a<0 then a+b+18446744073709551616 else a+b-18446744073709551616:=by simp only[IntKind.wrap_i64];split<;>omega
 have aC:(decide (a<0)==decide (IntKind.i64.wrap (a+b)<0))=false:=by rw[e];by_cases c:a<0<;>by_cases d:b<0<;>simp[c,d]at J⊢<;>omega
 simp[tZ,MY,LQ,cp,aC,bS];have:ep (a+b)=false:=by unfold ep;simp;omega
 simp[pK,this]
def fE(n:Int):D:= .val (.int .u64 n)
section
variable{bt:Bool}{a b:Int}
def NX(h:0<=a+b)(bC:a+b<18446744073709551616):bB bt .add (fE a) (fE b)=some (fE (a+b)):=by have e:bB bt .add (fE a) (fE b)=some (fE (IntKind.u64.wrap (a+b))):=rfl;rw[e,xco,Int.emod_eq_of_lt h bC]
theorem ael:bB bt .mul (fE a) (fE b)=some (fE (IntKind.u64.wrap (a*b))):=rfl
def NY(h:0<=a*b)(bC:a*b<18446744073709551616):bB bt .mul (fE a) (fE b)=some (fE (a*b)):=by rw[ael,xco,Int.emod_eq_of_lt h bC]
def avC(h:0<=a):bB bt .shr (fE a) (fE 32)=some (fE (a/4294967296)):=by
 have e:bB bt .shr (fE a) (fE 32)=some (fE (a.fdiv (2^(min (32:Int).toNat IntKind.u64.bits)))):=rfl;rw[e];have:(2:Int)^(min (32:Int).toNat IntKind.u64.bits)=4294967296:=by decide
 rw[this,Int.fdiv_eq_ediv_of_nonneg _ (by omega)]
def avD(h:0<=a)(bC:a<18446744073709551616):bB bt .and (fE a) (fE 4294967295)=some (fE (a%4294967296)):=by
 have e:bB bt .and (fE a) (fE 4294967295)=some (fE (IntKind.u64.wrap ((BitVec.ofInt IntKind.u64.bits a&&&BitVec.ofInt IntKind.u64.bits 4294967295).toNat:Int))):=rfl;rw[e];have aj:IntKind.u64.bits=64:=rfl;obtain⟨m,rfl⟩:∃m:Nat,a=m:=⟨a.toNat,by omega⟩;have aL:(BitVec.ofInt 64 (m:Int)&&&BitVec.ofInt 64 4294967295).toNat=m%4294967296:=by
  have a7:BitVec.ofInt 64 (m:Int)=BitVec.ofNat 64 m:=by simp
  have bV:BitVec.ofInt 64 4294967295=BitVec.ofNat 64 4294967295:=by decide
  rw[a7,bV,BitVec.toNat_and,BitVec.toNat_ofNat,BitVec.toNat_ofNat,Nat.mod_eq_of_lt (by omega)];have:=Nat.and_two_pow_sub_one_eq_mod m 32;simpa using this
 rw[aj,aL,xco]
 congr 2
 omega
theorem NZ:bB bt .neq (fE a) (fE b)=some (aI (a !=b)):=rfl
theorem N0:bB bt .gtr (fE a) (fE b)=some (aI (decide (a>b))):=rfl
end
def N1{x y:Int}(ad:0<=x/\x<=4294967295)(aE:0<=y/\y<=4294967295):0<=x*y/\x*y<=18446744065119617025:=by refine⟨Int.mul_nonneg ad.1 aE.1,?_⟩;have:=xcg ad.2 aE.2 aE.1 (by omega);simpa using this
def avE(n:Nat)(x y:Int)(ad:0<=x/\x<18446744073709551616)(aE:0<=y/\y<18446744073709551616):MZ n [fE x,fE y]=some (.a6 [fE (x*y/18446744073709551616),fE (x*y%18446744073709551616)]):=by
 have aK:0<=x%4294967296/\x%4294967296<=4294967295:=by omega
 have a2:0<=x/4294967296/\x/4294967296<=4294967295:=by omega
 have fJ:0<=y%4294967296/\y%4294967296<=4294967295:=by omega
 have hV:0<=y/4294967296/\y/4294967296<=4294967295:=by omega
 have avF:=N1 aK fJ;have avG:=N1 a2 fJ;have avH:=N1 aK hV;have avI:=N1 a2 hV;have CL:x*y=(x/4294967296*(y/4294967296))*18446744073709551616+(x/4294967296*(y%4294967296)+x%4294967296*(y/4294967296))*4294967296+x%4294967296*(y%4294967296):=by
  have ex:x=x/4294967296*4294967296+x%4294967296:=by omega
  have od:y=y/4294967296*4294967296+y%4294967296:=by omega
  generalize x/4294967296=u at*;generalize x%4294967296=v at*;generalize y/4294967296=w at*;generalize y%4294967296=z at*;subst ex;subst od;simp only[Int.add_mul,Int.mul_add];have aL:u*4294967296*(w*4294967296)=u*w*18446744073709551616:=by rw[Int.mul_assoc,Int.mul_left_comm 4294967296 w,<-Int.mul_assoc,Int.mul_comm 4294967296 4294967296];rfl
  have a7:u*4294967296*z=u*z*4294967296:=by rw[Int.mul_assoc,Int.mul_comm 4294967296 z,<-Int.mul_assoc]
  have bV:v*(w*4294967296)=v*w*4294967296:=by rw[<-Int.mul_assoc]
  omega
 show Tq n (fE x) (fE y)=_;have avJ:(D.val (.int .u64 32))=fE 32:=rfl;have em:(D.val (.int .u64 4294967295))=fE 4294967295:=rfl;have tz:∀q:Int,0<=q->bB false .shr (fE q) (fE 32)=some (fE (q/4294967296)):=λq h=>avC h;have U0:∀q:Int,0<=q->q<18446744073709551616->bB false .and (fE q) (fE 4294967295)=some (fE (q%4294967296)):=λq h bC=>avD h bC;simp only[Tq,avJ,em,aw];rw[U0 x ad.1 ad.2,dT,tz x ad.1,dT,U0 y aE.1 aE.2,dT,tz y aE.1,dT,NY avF.1 (by omega),dT,NY avG.1 (by omega),dT];generalize x%4294967296*(y%4294967296)=avK at*;generalize x/4294967296*(y%4294967296)=aCA at*;rw[tz avK (by omega),dT,NX (by omega) (by omega),dT,U0 _ (by omega) (by omega),dT,tz _ (by omega),dT,NY avH.1 (by omega),dT];generalize x%4294967296*(y/4294967296)=aCB at*;rw[NX (by omega) (by omega),dT,NY avI.1 (by omega),dT];generalize x/4294967296*(y/4294967296)=aCC at*;rw[NX (by omega) (by omega),dT,tz _ (by omega),dT,NX (by omega) (by omega),dT,ael,dT,xco,CL]
 congr 3
 congr 1;omega
def aem(n:Nat)(a:Int)(aH:-9223372036854775808<=a/\a<=9223372036854775807):AK n [I a]=some (fE a.natAbs):=by
 have aL:∀v:Int,dv .neg (.val (.int .u64 v))=some (fE (IntKind.u64.wrap (0-v))):=λ_=>rfl;have a7:∀v:Int,nO .u64 (I v)=some (.val (.int .u64 (IntKind.u64.wrap v))):=λ_=>rfl;by_cases h:a<0
 .simp[AK,Tp,h,a7,aL];simp only[xco,fE,D.val.injEq,Value.int.injEq,true_and];omega
 simp[AK,Tp,h,a7];simp only[xco,fE,D.val.injEq,Value.int.injEq,true_and];omega
def ka(n:Int):ep n=true↔n.natAbs<=9007199254740992:=by unfold ep;simp;omega
def aen{a b:Int}{A B:Nat}(h:a.natAbs<=A)(bC:b.natAbs<=B):(a*b).natAbs<=A*B:=by rw[Int.natAbs_mul];exact Nat.mul_le_mul h bC
def sign_mul(a b:Int)(h:a*b≠0):((a<0)≠(b<0))↔a*b<0:=by
 have aH:a≠0:=by rintro rfl;simp at h
 have aj:b≠0:=by rintro rfl;simp at h
 rcases Int.lt_or_gt_of_ne aH with J|J<;>rcases Int.lt_or_gt_of_ne aj with aa|aa;.have:=Int.mul_pos_of_neg_of_neg J aa;simp[J,aa];omega
 .have:=Int.mul_neg_of_neg_of_pos J aa;simp[J,this];omega
 .have:=Int.mul_neg_of_pos_of_neg J aa;simp[aa,this];omega
 have:=Int.mul_pos J aa;simp;omega
def avL(n:Nat)(a b:Int)(aH:ep a=true)(aj:ep b=true):xO n [I a,I b]=some (pK (a*b) true):=by
 rw[ka]at aH aj;have J:=aem n a (by omega);have aa:=aem n b (by omega);have hm:=aen aH aj;have ax:=avE n a.natAbs b.natAbs (by omega) (by omega);have e:((a.natAbs:Int)*b.natAbs)=((a*b).natAbs:Int):=by rw[Int.natAbs_mul];simp
 rw[e]at ax;have aC:=sign_mul a b;generalize a*b=p at*;have bf:(D.val (.int .u64 0))=fE 0:=rfl;have c1:(D.val (.int .u64 9007199254740992))=fE 9007199254740992:=rfl;have aL:∀v:Int,nO .i64 (fE v)=some (I (IntKind.i64.wrap v)):=λ_=>rfl;by_cases av:ep p=true
 .have om:=(ka p).1 av;have b0:((p.natAbs:Int)/18446744073709551616)=0:=by omega
  have bR:((p.natAbs:Int)%18446744073709551616)=p.natAbs:=by omega
  have cw:IntKind.i64.wrap (p.natAbs:Int)=p.natAbs:=wrap64 _ (by omega) (by omega);have dX:IntKind.i64.wrap (-(p.natAbs:Int))=-(p.natAbs:Int):=wrap64 _ (by omega) (by omega);have eB:¬(9007199254740992<(p.natAbs:Int)):=by omega
  rw[b0,bR]at ax;by_cases bG:p=0;.subst bG;simp[xO,Iw,J,aa,ax,bf,c1,NZ,N0,aL,pK,av];by_cases x1:a<0<;>by_cases q5:b<0<;>simp[x1,q5,show IntKind.i64.wrap 0=0 from rfl]
  have aC:=aC bG;by_cases x1:a<0<;>by_cases q5:b<0<;>simp[x1,q5]at aC<;>simp[xO,Iw,J,aa,ax,bf,c1,NZ,N0,aL,pK,av,eB,cw,dX,x1,q5]<;>omega
 have om:¬(p.natAbs<=9007199254740992):=λh=>av ((ka p).2 h);have bk:ep p=false:=by simpa using av
 by_cases b0:((p.natAbs:Int)/18446744073709551616)=0
 .have bR:((p.natAbs:Int)%18446744073709551616)=p.natAbs:=by omega
  have eB:9007199254740992<(p.natAbs:Int):=by omega
  rw[b0,bR]at ax;simp[xO,Iw,J,aa,ax,bf,c1,NZ,N0,aL,pK,bk,eB]
 have fo:((p.natAbs:Int)/18446744073709551616 !=0)=true:=by simpa using b0
 simp[xO,Iw,J,aa,ax,bf,c1,NZ,N0,aL,pK,bk,fo]
def tr(b:Bool):Int:=if b then 1 else 0
def aeo(n:Nat)(b:Bool):qi n [aI b]=some (.a6 [I (tr b),aI true]):=by cases b<;>simp[qi,abG,tr]
def aep(n:Nat)(b:Bool):so n [aI b]=some (I (tr b)):=by cases b<;>simp[so,abS,tr]
def aeq(n:Nat)(v:Int):DE n [I v]=some (aI (!ep v)):=by
 by_cases J:v< -9007199254740992
 .have:ep v=false:=by unfold ep;simp;omega
  simp[DE,Nh,this,J]
 by_cases aa:9007199254740992<v
 .have:ep v=false:=by unfold ep;simp;omega
  simp[DE,Nh,this,J,aa]
 have:ep v=true:=by unfold ep;simp;omega
 simp[DE,Nh,this,J,aa]
def aer(n:Nat)(v:Int)(h:-9223372036854775807<=v/\v<=9223372036854775807):Ni n [I v]=some (I (v.natAbs:Int)):=by have:IntKind.i64.wrap (-v)=-v:=wrap64 _ (by omega) (by omega);simp[Ni,abT,this,NP,fX];split<;>omega
def fU(op:Int)(l:List Int):Int×Bool:=if op=6 then(tr (decide (l.sum=l.length)),true)
 else if op=7 then(tr (decide (l.sum>0)),true)
 else match l with
  |[a]=>(1-a,ep (1-a))
  |[a,b]=>if op=8 then(tr (a==0||b==1),true)else if op=9\/op=10 then(tr (a==b),true)else if op=11 then(tr (a !=b),true)
   else if op=12 then(tr (decide (a<b)),true)else if op=13 then(tr (decide (a<=b)),true)
   else if op=14 then(a+b,ep (a+b))else if op=15 then(a-b,ep (a-b))
   else if op=16 then if ep (a*b)then(a*b,true)else(0,false)
   else((a.tmod b+b).tmod b,ep ((a.tmod b+b).tmod b))
  |[a,b,c]=>(if a=1 then b else c,ep (if a=1 then b else c))
  |_=>(0,false)
def gm(p:Int×Bool):D:=if p.2 then .a6 [I p.1,aI true]else .a6 [I 0,aI false]
def aes(v:Int):pK v true=gm (v,ep v):=by simp[pK,gm]
def um{l:List Int}{i:Nat}{y:Int}(h:l[i]?=some y):bX 1 (cJ l) (I (i:Int))=some [I y]:=by simp[cJ,h]
theorem Bm{y:Int}{l:List Int}:bX 1 (cJ (y::l)) (I 0)=some [I y]:=um (i:=0) rfl
theorem D9{x y:Int}{l:List Int}:bX 1 (cJ (x::y::l)) (I 1)=some [I y]:=um (i:=1) rfl
theorem avM{x y z:Int}{l:List Int}:bX 1 (cJ (x::y::z::l)) (I 2)=some [I z]:=um (i:=2) rfl
def sy(l:List Int):fA (cJ l)=some (I l.length):=by simp[cJ]
def U1:∀(l:List Int),(∀v∈l,ep v=true)->-(9007199254740992*(l.length:Int))<=l.sum/\l.sum<=9007199254740992*(l.length:Int)
 |[],_=>by simp|a::r,h=>by have:=U1 r λv aS=>h v (by simp[aS]);have:=(ka a).1 (h a (by simp));simp only[List.sum_cons,xan];omega
def avN{l:List Int}(h:∀v∈l,ep v=true)(al:l.length<=64)(i:Nat):-576460752303423488<=(l.take i).sum/\(l.take i).sum<=576460752303423488:=by
 have:=U1 (l.take i) λv aS=>h v (xbo aS);have hle:(l.take i).length<=64:=by rw[xbz];omega
 omega
def avO(n:Nat)(Ea d1 d2 d3 d4:D)(l:List Int)(h:∀v∈l,ep v=true)(al:l.length<=64)(aN:64<n):bL (Ix n) n [Ea,I 0,cJ l,I l.length,I 0,d1,d2,d3,d4]=some (.inl [Ea,I l.sum,d1,d2,d3,d4]):=by
 have af:=dC (f:=Ix n) l (λi (s:Int)=>[Ea,I s,cJ l,I l.length,I (i:Int),d1,d2,d3,d4]) (λr s=>(Sum.inl [Ea,I (s+r.sum),d1,d2,d3,d4]:List D⊕D)) (λi s=>s=(l.take i).sum) (λs _=>by simp[Ix]) ?_ n 0 0 (by simp) (by omega) (xaj _);.have b1:(I ((0:Nat):Int))=I 0:=rfl;rw[b1]at af;simpa using af
 intro i a s aH af aC;left;have aj:=avN h al i;have Zk:=(ka a).1 (h a (xad aH));have fT:bB false .add (I s) (I a)=some (I (s+a)):=e5 (by omega) (by omega);refine⟨s+a,by simp[Ix,af,um aH,fT,cm (bt:=false) (i:=i) (by omega)],by simp[Int.add_assoc],?_⟩;rw[List.take_add_one,aH,aC];simp
def Jn{a b:Int}(aj:1<=b):-b<a.tmod b/\a.tmod b<b:=by have J:=Int.tmod_lt_of_pos a (show 0<b by omega);have aa:=Int.lt_tmod_of_pos a (show 0<b by omega);exact⟨aa,J⟩
set_option maxHeartbeats 1000000 in
def avP(n:Nat)(t:Tm)(l:List Int)(aS:Valid t)(b5:l.length=t.bc.length)(ea:5<=t.op)(av:∀v∈l,ep v=true)(aN:100<n) (aj:(t.op<=9->∀v∈l,v=0\/v=1)/\(t.op=18->∀v,l[0]?=some v->v=0\/v=1)) (hm:t.op=17->∀v,l[1]?=some v->1<=v/\v<=255):ku n [t.d,cJ l]=some (gm (fU t.op l)):=by
 have q2:=aS.op;have bJ:=aS.len;have bf:=Tm.qc t;have dF:=Tm.nV t;have ah:=x7 (op:=t.op);have wa:=Bk (op:=t.op);have x9:=aS.D7;have aet:=sy l;have h7:=aeo n;have Bn:=λEa d1 d2 d3 d4=>avO n Ea d1 d2 d3 d4 l av (by omega) (by omega);by_cases sz:t.op=6\/t.op=7
 .have gJ:1<=l.length:=by
   have:gu t.op=(1,64):=by unfold gu;rw[xae (by omega),xae (by omega),xac sz]
   rw[this]at bJ;simp only at bJ;omega
  generalize t.op=op at*;rcases sz with rfl|rfl
  .simp[ku,lK,dF,bf,aet,Bn,fU,gm,h7,-ZR];by_cases ai:l.sum=(l.length:Int)<;>simp[ai,h7]
  simp[ku,lK,dF,bf,aet,Bn,fU,gm,h7,-ZR];by_cases ai:l.sum=(l.length:Int)
  .have:0<l.sum:=by omega
   have aU:0<l.length:=by omega
   simp[ai,h7,aU]
  by_cases au:0<l.sum<;>simp[ai,au,h7]
 have mW:t.op=5->l.length=1:=λh=>by
  have:gu t.op=(1,1):=by rw[h];rfl
  rw[this]at bJ;simp only at bJ;omega
 by_cases b9:t.op=5
 .have:=mW b9
  match l,this with
  |[a],_=>
   have aH:=aj.1 (by omega) a (by simp);have g0:=Bm (y:=a) (l:=[]);generalize t.op=op at*;subst b9;rcases aH with rfl|rfl
   .simp[ku,lK,dF,bf,g0,fU,gm,h7,tr,ep]
   simp[ku,lK,dF,bf,g0,fU,gm,h7,tr,ep]
 by_cases oL:t.op=18
 .rw[wa oL]at bJ;obtain⟨a,b,c,rfl⟩:=v8 (l:=l) (by simp only at bJ;omega);have aH:=aj.2 oL a rfl;have g0:=Bm (y:=a) (l:=[b,c]);have g1:=D9 (x:=a) (y:=b) (l:=[c]);have g2:=avM (x:=a) (y:=b) (z:=c) (l:=[]);have avQ:=av b (by simp);have avR:=av c (by simp);generalize t.op=op at*;subst oL;rcases aH with rfl|rfl
  .simp[ku,lK,dF,bf,g0,g1,g2,fU,gm,avR]
  simp[ku,lK,dF,bf,g0,g1,g2,fU,gm,avQ]
 rw[ah (by omega)]at bJ;obtain⟨a,b,rfl⟩:=q1 (l:=l) (by simp only at bJ;omega);have g0:=Bm (y:=a) (l:=[b]);have g1:=D9 (x:=a) (y:=b) (l:=[]);have aeu:=av a (by simp);have yE:=av b (by simp);have U2:=(ka a).1 aeu;have aev:=(ka b).1 yE;have dr:=NW n a b (by omega) (by omega);have cK:=NW n a (-b) (by omega) (by omega);have cM:=avL n a b aeu yE;have U3:IntKind.i64.wrap (-b)=-b:=wrap64 _ (by omega) (by omega);have nu:a+-b=a-b:=by omega
 have ad:∀p:Int×Bool,(bx 0 (gm p))=some (I (if p.2 then p.1 else 0))/\(bx 1 (gm p))=some (aI p.2):=by intro p;obtain⟨v,o⟩:=p;cases o<;>simp[gm]
 have aE:∀p:Int×Bool,D.a6 [I (if p.2 then p.1 else 0),aI p.2]=gm p:=by intro p;obtain⟨v,o⟩:=p;cases o<;>simp[gm]
 rw[nu]at cK;rw[aes]at dr cK cM;by_cases oF:t.op=17
 .obtain⟨b0,bR⟩:=hm oF b rfl;have m1:=Jn (a:=a) b0;have Jo:b≠0:=by omega
  have gF:bB false .add (I (a.tmod b)) (I b)=some (I (a.tmod b+b)):=e5 (by omega) (by omega);have m2:=Jn (a:=a.tmod b+b) b0;have cX:ep ((a.tmod b+b).tmod b)=true:=(ka _).2 (by omega);have aL:bB false .rem (I a) (I b)=some (I (a.tmod b)):=Ge Jo;have a7:bB false .rem (I (a.tmod b+b)) (I b)=some (I ((a.tmod b+b).tmod b)):=Ge Jo;generalize t.op=op at*;subst oF;simp[ku,lK,dF,bf,g0,g1,fU,gm,aL,a7,gF,cX]
 have ai:t.op=8\/t.op=9\/t.op=10\/t.op=11\/t.op=12\/t.op=13\/t.op=14\/t.op=15\/t.op=16:=by omega
 have avS:t.op=8->(b=0\/b=1):=λh=>aj.1 (by omega) b (by simp);generalize t.op=op at*;rcases ai with rfl|rfl|rfl|rfl|rfl|rfl|rfl|rfl|rfl
 .rcases avS rfl with rfl|rfl
  .by_cases sA:a=0;.simp[ku,lK,dF,bf,g0,g1,fU,gm,h7,sA,Bm,D9]
   have Jp:(a==0)=false:=by simpa using sA
   simp[ku,lK,dF,bf,g0,g1,fU,gm,h7,sA,Jp,Bm,D9]
  by_cases sA:a=0;.simp[ku,lK,dF,bf,g0,g1,fU,gm,h7,sA,Bm,D9]
  have Jp:(a==0)=false:=by simpa using sA
  simp[ku,lK,dF,bf,g0,g1,fU,gm,h7,sA,Jp,Bm,D9]
 .simp[ku,lK,dF,bf,g0,g1,fU,gm,h7]
 .simp[ku,lK,dF,bf,g0,g1,fU,gm,h7]
 .simp[ku,lK,dF,bf,g0,g1,fU,gm,h7]
 .simp[ku,lK,dF,bf,g0,g1,fU,gm,h7]
 .simp[ku,lK,dF,bf,g0,g1,fU,gm,h7]
 .simp[ku,lK,dF,bf,g0,g1,fU,dr,ad];rw[<-aE]
 .simp[ku,lK,dF,bf,g0,g1,fU,U3,cK,ad];rw[<-aE]
 simp[ku,lK,dF,bf,g0,g1,fU,cM,ad];cases bM:ep (a*b)<;>simp[gm]
def nz(vs:List V)(s nn:List Int)(t:Tm):Option Nat:=if(if t.op=4 then nn else s).length=vs.length then eo vs t.name else none
def avT{vs:List V}{s nn:List Int}{t:Tm}{i:Nat}(h:nz vs s nn t=some i):eo vs t.name=some i/\(if t.op=4 then nn else s).length=vs.length:=by
 unfold nz at h;by_cases ai:(if t.op=4 then nn else s).length=vs.length;.rw[xac ai]at h;exact⟨h,ai⟩
 rw[xae ai]at h;cases h
def kX(vs:List V)(s nn:List Int)(t:Tm):Int×Bool:=if t.op<=2 then(t.num,true)
 else match nz vs s nn t with
  |none=>(0,false)
  |some i=>match vs[i]?,(if t.op=4 then nn else s)[i]? with
   |some v,some x=>if v.bool then(tr (x !=0),true)else(x,ep x)
   |_,_=>(0,false)
mutual
def eT(vs:List V)(s nn:List Int):Tm->Int×Bool
 | .mk o n a b ks=>if o<=4 then kX vs s nn (.mk o n a b ks)else match hA vs s nn ks with|some l=>fU o l|none=>(0,false)
def hA(vs:List V)(s nn:List Int):List Tm->Option (List Int)
 |[]=>some []
 |t::r=>if(eT vs s nn t).2 then match hA vs s nn r with|some l=>some ((eT vs s nn t).1::l)|none=>none
  else none
end
theorem q6(vs:List V)(s nn:List Int)(t:Tm):eT vs s nn t=if t.op<=4 then kX vs s nn t else match hA vs s nn t.bc with|some l=>fU t.op l|none=>(0,false):=by cases t;rw[eT];rfl
mutual
def steps:Tm->Bool
 | .mk o _ _ _ ks=>o==4||pL ks
def pL:List Tm->Bool
 |[]=>false|t::r=>steps t||pL r
end
theorem N2(t:Tm):steps t=(t.op==4||pL t.bc):=by cases t;rw[steps];rfl
def aew:∀{l:List Tm}{t:Tm},t∈l->pL l=false->steps t=false
 |a::r,t,h,aC=>by
  rw[pL,Bool.or_eq_false_iff]at aC;rcases xal.1 h with rfl|h
  .exact aC.1
  exact aew h aC.2
theorem U4(b:Bool):ep (tr b)=true:=by cases b<;>rfl
def Eb(p:Int×Bool):Prop:=p.2=true->ep p.1=true
def uo{c:Prop}[Decidable c]{p q:Int×Bool}(aU:Eb p)(bM:c\/Eb q):Eb (if c then p else q):=by
 split;.exact aU
 exact bM.resolve_left (by assumption)
def Bo(b:Bool):Eb (tr b,true):=λ_=>U4 b
def Jq(v:Int):Eb (v,ep v):=λh=>h
def avU{op:Int}{l:List Int}:Eb (fU op l):=by
 unfold fU;refine uo (Bo _) (.inr (uo (Bo _) (.inr ?_)))
 match l with
 |[]=>intro h;cases h
 |[a]=>exact Jq _|[a,b,c]=>exact Jq _|a::b::c::d::r=>intro h;cases h
 |[a,b]=>
  refine uo (Bo _) (.inr (uo (Bo _) (.inr (uo (Bo _) (.inr (uo (Bo _) (.inr (uo (Bo _) (.inr (uo (Jq _) (.inr (uo (Jq _) (.inr (uo ?_ (.inr (Jq _))))))))))))))));by_cases h:ep (a*b)=true;.rw[xac h];exact λ_=>h
  rw[xae h];intro h;cases h
def avV{vs:List V}{s nn:List Int}{t:Tm}(aS:Valid t)(h:(kX vs s nn t).2=true):ep (kX vs s nn t).1=true:=by
 have aN:=aS.num;unfold kX at*;by_cases aa:t.op<=2;.rw[xac aa];exact(ka _).2 (by simp only;omega)
 rw[xae aa]at*;cases af:nz vs s nn t with
 |none=>simp[af]at h
 |some i=>
  rw[af]at h;simp only at h⊢;cases hw:vs[i]? with
  |none=>rw[hw]at h;cases h
  |some v=>
   cases ad:((if t.op=4 then nn else s)[i]?)with
   |none=>rw[hw,ad]at h;cases h
   |some x=>
    rw[hw,ad]at h;simp only at h⊢;by_cases aj:v.bool=true;.rw[xac aj];exact U4 _
    rw[xae aj]at*;exact h
def aex{vs:List V}{s nn:List Int}{t:Tm}(aS:Valid t)(h:(eT vs s nn t).2=true):ep (eT vs s nn t).1=true:=by
 rw[q6]at*;by_cases bh:t.op<=4;.rw[xac bh]at*;exact avV aS h
 rw[xae bh]at*;split at h;.rename_i l al;exact avU h
 cases h
def yb(v:Int):Prop:=v=0\/v=1
def Jr(b:Bool):yb (tr b):=by cases b<;>simp[tr,yb]
theorem Ec(lo af:Int):(hz lo af).1.b=false:=by unfold hz;split<;>rfl
def avW(op:Int)(a b:Y):(pJ op a b).1.b=false:=by unfold pJ;split<;>(try split)<;>exact Ec _ _
def U5(vs:List V)(nx:Bool)(s nn:List Int):∀{ks:List Tm}{l:List Int},(eg vs nx ks).2=0->hA vs s nn ks=some l->l.length=ks.length/\∀(i:Nat)(y:Y)(v:Int),(eg vs nx ks).1[i]?=some y->l[i]?=some v-> ∃k,ks[i]?=some k/\(eb vs nx k).2=0/\y=(eb vs nx k).1/\(eT vs s nn k).2=true/\v=(eT vs s nn k).1
 |[],l,_,aS=>by cases aS;exact⟨rfl,by intro i y v _ h;simp at h⟩
 |k::r,l,h,aS=>by
  rw[eg]at*;rw[hA]at aS;by_cases J:(eb vs nx k).2=0
  case neg=>rw[xac J]at h;exact absurd h J
  have dS:¬(eb vs nx k).2≠0:=by simpa using J
  rw[xae dS]at h⊢;by_cases aa:(eg vs nx r).2=0
  case neg=>rw[xac aa]at h;exact absurd h aa
  have gO:¬(eg vs nx r).2≠0:=by simpa using aa
  rw[xae gO]at h⊢;by_cases ax:(eT vs s nn k).2=true
  case neg=>rw[xae ax]at aS;cases aS
  rw[xac ax]at aS;cases bh:hA vs s nn r with
  |none=>rw[bh]at aS;cases aS
  |some jT=>rw[bh]at aS;cases aS;obtain⟨g1,g2⟩:=U5 vs nx s nn aa bh;refine⟨by simp[g1],?_⟩;intro i y v aE hw;cases i with|zero=>simp at aE hw;exact⟨k,rfl,J,aE.symm,ax,hw.symm⟩|succ i=>simpa using g2 i y v (by simpa using aE) (by simpa using hw)
def N3{t:Tm}{l:List Y}(h:(hi t l).2=0)(J:5<=t.op/\t.op<=9):l.all Y.b=true:=by
 unfold hi at h;rw[xac J]at h;by_cases ai:l.all Y.b=true;.exact ai
 rw[xae ai]at h;cases h
def U6{t:Tm}{a b c:Y}(h:(hi t [a,b,c]).2=0)(J:¬(5<=t.op/\t.op<=9)):a.b=true/\b.b=c.b/\((hi t [a,b,c]).1.b=true->b.b=true):=by
 unfold hi at*;rw[xae J]at*;simp only at h⊢;by_cases ai:(!a.b||(b.b !=c.b))=true;.rw[xac ai]at h;cases h
 rw[xae ai]at*;refine⟨by cases aH:a.b<;>simp_all,by cases aj:b.b<;>cases KF:c.b<;>simp_all,?_⟩;by_cases aj:b.b=true;.exact λ_=>aj
 rw[xae aj,Ec];intro h;cases h
def aey{t:Tm}{a b:Y}(h:(hi t [a,b]).2=0)(J:t.op=17){k:Tm}(ah:t.bc[1]?=some k):k.op=1/\1<=k.num:=by
 unfold hi at h;rw[xae (by omega)]at h;simp only at h;rw[xae (by omega)]at h;by_cases ai:(a.b||b.b)=true;.rw[xac ai]at h;cases h
 rw[xae ai,xae (by omega),xac J,ah]at h;simp only at h;by_cases ay:k.op≠1\/k.num<1;.rw[xac ay]at h;cases h
 omega
def avX{t:Tm}{a b:Y}(J:14<=t.op/\t.op<=17):(hi t [a,b]).1.b=false:=by
 unfold hi;rw[xae (by omega)];simp only;rw[xae (by omega)];split;.rfl
 rw[xae (by omega)];split
 .split
  .split;.rfl
   exact Ec _ _
  rfl
 exact avW _ _ _
def avY{vs:List V}{nx:Bool}{s nn:List Int}{t:Tm}(aS:Valid t)(h:(kW vs nx t).1.b=true)(av:(kX vs s nn t).2=true):yb (kX vs s nn t).1:=by
 have aN:=aS.num;unfold kW at h;unfold kX at*;by_cases J:t.op=1;.rw[xac J,Ec]at h;cases h
 rw[xae J]at h;by_cases aa:t.op=2;.rw[xac (by omega)];unfold yb;simp only;omega
 rw[xae aa]at h;have ea:=aS.op;rw[xae (by omega)]at*;cases af:nz vs s nn t with
 |none=>rw[af]at av;cases av
 |some i=>
  rw[(avT af).1]at h;rw[af]at av;simp only at h av⊢;by_cases ax:t.op=4/\nx=false;.rw[xac ax]at h;cases h
  rw[xae ax]at h;cases hw:vs[i]? with
  |none=>rw[hw]at av;cases av
  |some v=>
   rw[hw]at h av;simp only at h;by_cases aj:v.bool=true
   .cases ad:((if t.op=4 then nn else s)[i]?)with
    |none=>rw[ad]at av;cases av
    |some x=>simp only;rw[xac aj];exact Jr _
   rw[xae aj,Ec]at h;cases h
def aez(vs:List V)(nx:Bool)(s nn:List Int)(t:Tm):Valid t->(eb vs nx t).2=0->(eb vs nx t).1.b=true->(eT vs s nn t).2=true->yb (eT vs s nn t).1:=by
 refine Tm.ind (P:=λt=>Valid t->(eb vs nx t).2=0->(eb vs nx t).1.b=true->(eT vs s nn t).2=true->yb (eT vs s nn t).1) ?_ t;intro t ih aS h aj av;rw[oK]at h aj;rw[q6]at av⊢;by_cases bh:t.op<=4;.rw[xac bh]at*;exact avY aS aj av
 rw[xae bh]at*;by_cases au:(eg vs nx t.bc).2=0
 case neg=>rw[xac au]at h;exact absurd h au
 rw[xae (by simpa using au)]at h aj;cases al:hA vs s nn t.bc with
 |none=>rw[al]at av;cases av
 |some l=>
  rw[al]at av;simp only at av⊢;obtain⟨g1,g2⟩:=U5 vs nx s nn au al;obtain⟨g3,_⟩:=D6 vs nx t.bc au;have ea:=aS.op;have bJ:=aS.len;have ah:=x7 (op:=t.op);have wa:=Bk (op:=t.op);unfold fU;by_cases cN:t.op=6
  .rw[xac cN];exact Jr _
  rw[xae cN];by_cases fP:t.op=7;.rw[xac fP];exact Jr _
  rw[xae fP];by_cases b9:t.op=5
  .have:gu t.op=(1,1):=by rw[b9];rfl
   rw[this]at bJ
   match l,g1,g2 with
   |[a],g1,g2=>
    have ft:=N3 h (by omega);have:0<(eg vs nx t.bc).1.length:=by simp at g1;omega
    obtain⟨k,b0,bR,cw,dX,eB⟩:=g2 0 _ a (xab this) rfl;have aeA:=xax.1 ft _ (xaZ this);rw[cw]at aeA;have:=ih k (xad b0) (aS.fD (xad b0)) bR aeA dX;rw[<-eB]at this;simp only;rcases this with h|h<;>subst h<;>simp[yb]
   |[],g1,_=>simp at g1;simp only at bJ;omega|_::_::_,g1,_=>simp at g1;simp only at bJ;omega
  by_cases oL:t.op=18
  .rw[wa oL]at bJ;have avZ:l.length=3:=by simp only at bJ;omega
   obtain⟨a,b,c,rfl⟩:=v8 avZ;obtain⟨Js,Ed,U7,aE⟩:=v8 (l:=(eg vs nx t.bc).1) (by simp only at bJ;omega);rw[aE]at h aj g2;obtain⟨U8,Bp,aeB⟩:=U6 h (by omega);have aeC:=aeB aj;have get:∀(i:Nat)(y:Y)(v:Int),[Js,Ed,U7][i]?=some y->[a,b,c][i]?=some v->y.b=true->yb v:=by intro i y v aE hw av0;obtain⟨k,b0,bR,cw,dX,eB⟩:=g2 i y v aE hw;rw[eB];exact ih k (xad b0) (aS.fD (xad b0)) bR (by rw[<-cw];exact av0) dX
   simp only;by_cases aH:a=1;.rw[xac aH];exact get 1 Ed b rfl rfl aeC
   rw[xae aH];exact get 2 U7 c rfl rfl (by rw[<-Bp];exact aeC)
  rw[ah (by omega)]at bJ;obtain⟨a,b,rfl⟩:=q1 (l:=l) (by simp only at bJ;omega);obtain⟨Js,Ed,aE⟩:=q1 (l:=(eg vs nx t.bc).1) (by simp only at bJ;omega);rw[aE]at h aj;have mN:t.op<=13:=by refine xbf λai=>?_;rw[avX (by omega)]at aj;cases aj
  simp only;have ai:t.op=8\/t.op=9\/t.op=10\/t.op=11\/t.op=12\/t.op=13:=by omega
  rcases ai with e|e|e|e|e|e<;>simp only[e]<;>exact Jr _
def aeD{vs:List V}{nx:Bool}{s nn:List Int}{t:Tm}{l:List Int}(aS:Valid t)(h:(eb vs nx t).2=0)(b9:5<=t.op)(al:hA vs s nn t.bc=some l):l.length=t.bc.length/\(∀v∈l,ep v=true)/\((t.op<=9->∀v∈l,v=0\/v=1)/\(t.op=18->∀v,l[0]?=some v->v=0\/v=1))/\(t.op=17->∀v,l[1]?=some v->1<=v/\v<=255):=by
 rw[oK,xae (by omega)]at h;by_cases au:(eg vs nx t.bc).2=0
 case neg=>rw[xac au]at h;exact absurd h au
 rw[xae (by simpa using au)]at h;obtain⟨g1,g2⟩:=U5 vs nx s nn au al;obtain⟨g3,_⟩:=D6 vs nx t.bc au;have ea:=aS.op;have bJ:=aS.len;have at_:∀(i:Nat)(v:Int),l[i]?=some v->∃k y,t.bc[i]?=some k/\(eg vs nx t.bc).1[i]?=some y/\(eb vs nx k).2=0/\y=(eb vs nx k).1/\(eT vs s nn k).2=true/\v=(eT vs s nn k).1:=by
  intro i v af;have b5:i<(eg vs nx t.bc).1.length:=by have:=(xaa.1 af).1;omega
  obtain⟨k,b0,bR,cw,dX,eB⟩:=g2 i _ v (xab b5) af;exact⟨k,_,b0,xab b5,bR,cw,dX,eB⟩
 refine⟨g1,?_,⟨?_,?_⟩,?_⟩;.intro v hm;obtain⟨i,af⟩:=xaG.1 hm;obtain⟨k,y,b0,bR,cw,dX,eB,fo⟩:=at_ i v af;rw[fo];exact aex (aS.fD (xad b0)) eB
 .intro k8 v hm;obtain⟨i,af⟩:=xaG.1 hm;obtain⟨k,y,b0,bR,cw,dX,eB,fo⟩:=at_ i v af;have ft:=xax.1 (N3 h ⟨b9,k8⟩) y (xad bR);rw[fo];exact aez vs nx s nn k (aS.fD (xad b0)) cw (by rw[<-dX];exact ft) eB
 .intro oL v af;obtain⟨k,y,b0,bR,cw,dX,eB,fo⟩:=at_ 0 v af;rw[Bk oL]at bJ;obtain⟨Js,Ed,U7,aE⟩:=v8 (l:=(eg vs nx t.bc).1) (by simp only at bJ;omega);rw[aE]at h bR;have aB:=(U6 h (by omega)).1;cases bR;rw[fo];exact aez vs nx s nn k (aS.fD (xad b0)) cw (by rw[<-dX];exact aB) eB
 intro oF v af;obtain⟨k,y,b0,bR,cw,dX,eB,fo⟩:=at_ 1 v af;rw[x7 (by omega)]at bJ;obtain⟨Js,Ed,aE⟩:=q1 (l:=(eg vs nx t.bc).1) (by simp only at bJ;omega);rw[aE]at h;obtain⟨U8,Bp⟩:=aey h oF b0;have E6:=(aS.fD (xad b0)).num;have:eT vs s nn k=(k.num,true):=by rw[q6,xac (by omega)];unfold kX;rw[xac (by omega)]
 rw[fo,this];exact⟨Bp,by simp only;omega⟩
def iF(b:Bool)(l:List Int):D:=cB 1 b (l.map λx=>[I x])
@[simp] theorem aCD (b:Bool) (l:List Int):fA (iF b l)=some (I l.length):=by simp[iF]
@[simp] theorem aCE (b:Bool) (l:List Int):bZ (iF b l)=true:=by unfold iF cB;split<;>rfl
def aeE{b:Bool}{l:List Int}{i:Nat}{x:Int}(h:l[i]?=some x):bX 1 (iF b l) (I (i:Int))=some [I x]:=by
 have cp:l≠[]:=by rintro rfl;simp at h
 have:iF b l= .aV 1 (l.map λx=>[I x]):=by unfold iF cB;rw[xae (by simp[cp])]
 rw[this];simp[h]
def aeF(l:List Int):iF false l=cJ l:=by simp[iF,cB,cJ]
theorem Ee:iF true []=da:=rfl
variable{bn:Bool}
theorem N4{k:Nat}:cL (k+1) (I 0)=some 0:=by rw[RO (by omega) (by omega)];rfl
theorem aeG{k:Nat}:cL (k+2) (I 1)=some 1:=by rw[RO (by omega) (by omega)];rfl
theorem av1{k:Nat}:cL (k+3) (I 2)=some 2:=by rw[RO (by omega) (by omega)];rfl
def av2{x:Int}(J:x≠0)(aa:x.natAbs<=9007199254740992):bB false .quo (I 9007199254740992) (I (x.natAbs:Int))=some (I ((9007199254740992/x.natAbs:Nat):Int)):=by
 have ad:(x.natAbs:Int)≠0:=by omega
 rw[ZU ad];have e:(9007199254740992:Int).tdiv (x.natAbs:Int)=((9007199254740992/x.natAbs:Nat):Int):=by rw[Int.tdiv_eq_ediv_of_nonneg (by omega)];rfl
 have ax:=Nat.div_le_self 9007199254740992 x.natAbs;rw[e];generalize 9007199254740992/x.natAbs=q at*;rw[wrap64 _ (by omega) (by omega)]
def av3(a b:Int)(h:a≠0):(b.natAbs:Int)>((9007199254740992/a.natAbs:Nat):Int)↔ep (a*b)=false:=by
 have aU:0<a.natAbs:=by omega
 have J:ep (a*b)=false↔9007199254740992<a.natAbs*b.natAbs:=by
  rw[<-Int.natAbs_mul];have:=ka (a*b);constructor
  .intro h;refine xbf λai=>?_;rw[this.2 (by omega)]at h;cases h
  intro h;cases bM:ep (a*b)with|false=>rfl|true=>exact absurd (this.1 bM) (by omega)
 rw[J,Nat.mul_comm,<-Nat.div_lt_iff_lt_mul aU];omega
set_option maxHeartbeats 2000000 in
def av4(w4:List D->Option D)(n:Nat)(vs:List V)(s nn:List Int)(t:Tm)(l:List Int)(aS:Valid t)(b5:l.length=t.bc.length)(ea:5<=t.op)(av:∀v∈l,ep v=true) (aj:(t.op<=9->∀v∈l,v=0\/v=1)/\(t.op=18->∀v,l[0]?=some v->v=0\/v=1)) (hm:t.op=17->∀v,l[1]?=some v->1<=v/\v<=255) (ja:bL (xT w4 n) n [br vs,cJ s,iF bn nn,I 0,I 0,I t.op,I t.num,a1 t.name,cB 4 t.nl (Tm.rows t.bc),.aV 1 []]=some (.inl [I (if t.op=6\/t.op=7 then l.sum else 0),I t.op,I t.num,a1 t.name,cB 4 t.nl (Tm.rows t.bc),cJ l])):mO w4 n (br vs) t.d (cJ s) (iF bn nn)=some (.a6 [I (fU t.op l).1,aI (fU t.op l).2]):=by
 have q2:=aS.op;have bJ:=aS.len;have bf:=Tm.qc t;have c1:=Tm.tE t;have c2:=Tm.tF t;have b4:=Tm.rS t;have dF:=Tm.nV t;have ah:=x7 (op:=t.op);have wa:=Bk (op:=t.op);have x9:=aS.D7;have h7:=aep n;have pM:=aeq n;have es:∀l:List Int,ba (cJ l)=l.map λv=>[I v]:=λ_=>rfl;have Jt:∀b:Bool,ep (tr b)=true:=U4;by_cases sz:t.op=6\/t.op=7
 .generalize t.op=op at*;rcases sz with rfl|rfl
  .simp[mO,dF,bf,c1,c2,b4,ja,es,h7,pM,fU,Jt];rfl
  simp[mO,dF,bf,c1,c2,b4,ja,es,h7,pM,fU,Jt]
 by_cases b9:t.op=5
 .have:gu t.op=(1,1):=by rw[b9];rfl
  rw[this]at bJ;have mW:l.length=1:=by simp only at bJ;omega
  match l,mW with|[a],_=>have aH:=aj.1 (by omega) a (by simp);have aL:bB false .sub (I 1) (I a)=some (I (1-a)):=nU (by omega) (by omega);generalize t.op=op at*;subst b9;simp[mO,dF,bf,c1,c2,b4,ja,es,pM,fU,N4,aL]
 by_cases oL:t.op=18;.rw[wa oL]at bJ;obtain⟨a,b,c,rfl⟩:=v8 (l:=l) (by simp only at bJ;omega);generalize t.op=op at*;subst oL;by_cases aH:a=1<;>simp[mO,dF,bf,c1,c2,b4,ja,es,pM,fU,N4,aeG,av1,aH]
 rw[ah (by omega)]at bJ;obtain⟨a,b,rfl⟩:=q1 (l:=l) (by simp only at bJ;omega);have U2:=(ka a).1 (av a (by simp));have aev:=(ka b).1 (av b (by simp));have mE:cL 2 (I 0)=some 0:=N4;have nN:cL 2 (I 1)=some 1:=aeG;by_cases oF:t.op=17
 .obtain⟨b0,bR⟩:=hm oF b rfl;have m1:=Jn (a:=a) b0;have Jo:b≠0:=by omega
  have gF:bB false .add (I (a.tmod b)) (I b)=some (I (a.tmod b+b)):=e5 (by omega) (by omega);have aL:bB false .rem (I a) (I b)=some (I (a.tmod b)):=Ge Jo;have a7:bB false .rem (I (a.tmod b+b)) (I b)=some (I ((a.tmod b+b).tmod b)):=Ge Jo;generalize t.op=op at*;subst oF;simp[mO,dF,bf,c1,c2,b4,ja,es,pM,fU,mE,nN,aL,a7,gF]
 by_cases e6:t.op=16
 .have aeH:=aer n a (by omega);have aeI:=aer n b (by omega);have N5:=av3 a b;have aCF:=aen U2 aev;generalize t.op=op at*;subst e6;by_cases aH:a=0
  .subst aH;have aL:bB false .mul (I 0) (I b)=some (I 0):=by rw[xo (by omega) (by omega),Int.zero_mul]
   simp[mO,dF,bf,c1,c2,b4,ja,es,pM,fU,mE,nN,aL,show ep 0=true from rfl]
  have bM:=av2 aH U2;have N5:=N5 aH;have y4:(a==0)=false:=by simpa using aH
  generalize 9007199254740992/a.natAbs=q at*;by_cases bk:ep (a*b)=true
  .have J:¬((b.natAbs:Int)>(q:Int)):=λh=>by rw[N5.1 h]at bk;cases bk
   have dS:decide ((b.natAbs:Int)>(q:Int))=false:=xaD J;have aCG:=(ka _).1 bk;have aL:bB false .mul (I a) (I b)=some (I (a*b)):=xo (by omega) (by omega);have a7:bB false .gtr (I (b.natAbs:Int)) (I (q:Int))=some (aI false):=by rw[px,dS]
   simp[mO,dF,bf,c1,c2,b4,ja,es,pM,fU,mE,nN,aeH,aeI,bM,a7,aL,bk,aH]
  have Ju:ep (a*b)=false:=by simpa using bk
  have dS:decide ((b.natAbs:Int)>(q:Int))=true:=xaq (N5.2 Ju);have a7:bB false .gtr (I (b.natAbs:Int)) (I (q:Int))=some (aI true):=by rw[px,dS]
  simp[mO,dF,bf,c1,c2,b4,ja,es,pM,fU,mE,nN,aeH,aeI,bM,a7,Ju,aH]
 have ai:t.op=8\/t.op=9\/t.op=10\/t.op=11\/t.op=12\/t.op=13\/t.op=14\/t.op=15:=by omega
 have dB:bB false .add (I a) (I b)=some (I (a+b)):=e5 (by omega) (by omega);have av5:bB false .sub (I a) (I b)=some (I (a-b)):=nU (by omega) (by omega);have aCH:∀x y:Int,so n [aI (x==y)]=some (I (tr (x==y))):=λ_ _=>h7 _;generalize t.op=op at*;rcases ai with rfl|rfl|rfl|rfl|rfl|rfl|rfl|rfl
 .by_cases sA:a=0;.simp[mO,dF,bf,c1,c2,b4,ja,es,h7,pM,fU,Jt,mE,nN,sA]
  have Jp:(a==0)=false:=by simpa using sA
  simp[mO,dF,bf,c1,c2,b4,ja,es,h7,pM,fU,Jt,mE,nN,sA,Jp]
 all_goals simp[mO,dF,bf,c1,c2,b4,ja,es,h7,pM,fU,Jt,mE,nN,dB,av5]
variable{bn:Bool}
def aeJ{a b:Nat}(h:a+b<=1000):cZ (a+b) 8=true:=fV (by omega) (by omega)
def aeK{vs:List V}{nx:Bool}{t:Tm}(h:(kW vs nx t).2=0)(ax:3<=t.op):∃i,eo vs t.name=some i:=by
 unfold kW at h;rw[xae (by omega),xae (by omega)]at h;cases af:eo vs t.name with
 |none=>rw[af]at h;cases h
 |some i=>exact⟨i,rfl⟩
def U9{vs:List V}{nx:Bool}:∀{l:List Tm},(eg vs nx l).2=0->∀k∈l,(eb vs nx k).2=0
 |[],_,k,ah=>by cases ah
 |t::r,h,k,ah=>by
  rw[eg]at h;by_cases J:(eb vs nx t).2=0
  case neg=>rw[xac J]at h;exact absurd h J
  rw[xae (by simpa using J)]at h;by_cases aa:(eg vs nx r).2=0
  case neg=>rw[xac aa]at h;exact absurd h aa
  rcases xal.1 ah with rfl|ah;.exact J
  exact U9 aa k ah
def Jv{vs:List V}{nx:Bool}{t k:Tm}(aS:Valid t)(h:(eb vs nx t).2=0)(ah:k∈t.bc):(eb vs nx k).2=0:=by
 rw[oK]at h;by_cases bh:t.op<=4;.rw[aS.leaf bh]at ah;cases ah
 rw[xae bh]at h;by_cases au:(eg vs nx t.bc).2=0;.exact U9 au k ah
 rw[xac au]at h;exact absurd h au
def Va{vs:List V}{i:Nat}{l:List Int}(h:i<vs.length)(al:l.length=vs.length):∃x,l[i]?=some x:=⟨_,xab (by omega)⟩
@[simp] theorem aCI (p:List Int) (x:Int):D.aV 1 (ba (cJ p)++[[I x]])=cJ (p++[x]):=by simp[cJ]
@[simp] theorem aCJ (p:List Int):(ba (cJ p)).length=p.length:=by simp[cJ]
@[simp] theorem aCK (p:List Int):D.aV 1 (ba (cJ p))=cJ p:=rfl
def aeL(vs:List V)(nx:Bool)(s nn:List Int)(jl:vs.length<1000000000000)(aC:s.length=vs.length):∀(n:Nat)(t:Tm),t.bA+200+vs.length<n->t.Ok->Valid t->(eb vs nx t).2=0->(steps t=true->nn.length=vs.length)->DF n [br vs,t.d,cJ s,iF bn nn]=some (.a6 [I (eT vs s nn t).1,aI (eT vs s nn t).2])
 |0,t,h,_,_,_,_=>absurd h (xaJ _)
 |n+1,t,aN,bD,aS,aP,gB=>by
  have ea:=aS.op;have x9:=aS.D7;rw[q6];show mO (DF n) n (br vs) t.d (cJ s) (iF bn nn)=_;by_cases bh:t.op<=4
  .rw[xac bh];rw[oK,xac bh]at aP;have bf:=Tm.qc t;have c1:=Tm.tE t;have c2:=Tm.tF t;have b4:=Tm.rS t;have dF:=Tm.nV t;have h7:=aep n;have pM:=aeq n;by_cases aa:t.op<=2
   .unfold kX;rw[xac aa];have ai:t.op=1\/t.op=2:=by omega
    generalize t.op=op at*;rcases ai with rfl|rfl<;>simp[mO,dF,bf,c1,c2,b4]
   obtain⟨i,af⟩:=aeK aP (by omega);obtain⟨v,v1,v2,v3⟩:=x8 af;have ad:=UW n vs t.name (by omega) jl;rw[af]at ad;have bJ:(if t.op=4 then nn else s).length=vs.length:=by
    by_cases h:t.op=4;.rw[xac h];exact gB (by rw[N2,h];rfl)
    rw[xae h];exact aC
   have bY:nz vs s nn t=some i:=by unfold nz;rw[xac bJ,af]
   obtain⟨x,q7⟩:=Va v3 bJ;unfold kX;rw[xae aa,bY];simp only[v1,q7];have ai:t.op=3\/t.op=4:=by omega
   generalize t.op=op at*;rcases ai with rfl|rfl
   .simp only[show¬((3:Int)=4) by omega,xaH]at q7;cases aj:v.bool<;>simp[mO,dF,bf,c1,c2,b4,ad,hj v1,v.wb,um q7,h7,pM,aj]
   simp only[xaF]at q7;cases aj:v.bool<;>simp[mO,dF,bf,c1,c2,b4,ad,hj v1,v.wb,aeE q7,h7,pM,aj]
  rw[xae bh];have av6:∀k∈t.bc,steps k=true->nn.length=vs.length:=λk ah h=>by refine gB ?_;cases bM:pL t.bc with|true=>rw[N2,bM,Bool.or_true]|false=>rw[aew ah bM]at h;cases h
  have al:=dC (f:=xT (DF n) n) t.bc (λi (p:List Int)=>[br vs,cJ s,iF bn nn,I (if t.op=6\/t.op=7 then p.sum else 0),I (i:Int),I t.op,I t.num,a1 t.name,cB 4 t.nl (Tm.rows t.bc),cJ p]) (λr p=>match hA vs s nn r with
    |some l=>(Sum.inl [I (if t.op=6\/t.op=7 then(p++l).sum else 0),I t.op,I t.num,a1 t.name,cB 4 t.nl (Tm.rows t.bc),cJ (p++l)]:List D⊕D)
    |none=> .inr (.a6 [I 0,aI false]))
   (λi p=>p.length=i/\∀v∈p,ep v=true) ?_ ?_ n 0 [] ⟨rfl,by simp⟩ (by omega) (xaj _)
  .have b1:(I ((0:Nat):Int))=I 0:=rfl;have aL:cJ []= .aV 1 []:=rfl;rw[b1,aL]at al;simp only[List.sum_nil,ite_self,xam,xaM]at al;cases kz:hA vs s nn t.bc with
   |none=>
    rw[kz]at al;have fJ:(t.op==1)=false:=by simp;omega
    have hV:(t.op==2)=false:=by simp;omega
    have ko:(t.op==3)=false:=by simp;omega
    have q4:(t.op==4)=false:=by simp;omega
    simp[mO,fJ,hV,ko,q4,al]
   |some l=>rw[kz]at al;obtain⟨g1,g2,g3,g4⟩:=aeD (nx:=nx) aS aP (by omega) kz;exact av4 (DF n) n vs s nn t l aS g1 (by omega) g2 g3 g4 al
  .intro p aU;simp[xT,hA]
  intro i a p aH af aU;have hm:=xad aH;have bG:=Tm.j2 hm;have av:=aeL vs nx s nn jl aC n a (by omega) (bD.fD hm) (aS.fD hm) (Jv aS aP hm) (av6 a hm);have eI:cZ (p.length+1) 8=true:=aeJ (by omega);by_cases au:(eT vs s nn a).2=true
  .left;have cX:=aex (aS.fD hm) au;refine⟨p++[(eT vs s nn a).1],?_,?_,by simp[aU.1],?_⟩
   .have sY:=U1 p aU.2;have yN:=(ka _).1 cX;have fT:bB false .add (I p.sum) (I (eT vs s nn a).1)=some (I (p.sum+(eT vs s nn a).1)):=e5 (by omega) (by omega);by_cases sz:t.op=6\/t.op=7
    .have aCL:(if t.op=6 then true else decide (t.op=7))=true:=by rcases sz with h|h<;>simp[h]
     rcases sz with h|h;.simp[xT,af,Tm.h0 aH,av,au,cm (bt:=false) (i:=i) (by omega),eI,h,fT]
     simp[xT,af,Tm.h0 aH,av,au,cm (bt:=false) (i:=i) (by omega),eI,h,fT]
    have cN:¬t.op=6:=λh=>sz (.inl h);have fP:¬t.op=7:=λh=>sz (.inr h);simp[xT,af,Tm.h0 aH,av,au,cm (bt:=false) (i:=i) (by omega),eI,cN,fP]
   .rw[hA,xac au];cases hA vs s nn (t.bc.drop (i+1))with|none=>rfl|some l=>simp
   intro v hI;rcases xas.1 hI with h|h
   .exact aU.2 v h
   simp at h;rw[h];exact cX
  right;rw[hA,xae au];have Jw:(eT vs s nn a).2=false:=by simpa using au
  simp[xT,af,Tm.h0 aH,av,Jw]
theorem av7{M:List (Value×D)}(h:l7 M){z:Value}{x:ByteArray}:kP .string z false M (a1 x)=some (match gM M x with|some d=>d|none=>ri z):=by simp only[kP,a1,aaf h];cases gM M x<;>rfl
def Ef(p:Int×Bool):bx 0 (gm p)=some (I (if p.2=true then p.1 else 0)):=by obtain⟨v,o⟩:=p;cases o<;>simp[gm]
def Eg(p:Int×Bool):bx 1 (gm p)=some (aI p.2):=by obtain⟨v,o⟩:=p;cases o<;>simp[gm]
def Eh(p:Int×Bool):D.a6 [I (if p.2=true then p.1 else 0),aI p.2]=gm p:=by obtain⟨v,o⟩:=p;cases o<;>simp[gm]
theorem av8(p:Int×Bool):(gm p).flat=true:=by obtain⟨v,o⟩:=p;cases o<;>rfl
def aeM(vs:List V)(nx:Bool)(s nn:List Int)(M:List (Value×D))(cM:NU M vs)(jl:vs.length<1000000000000)(aC:s.length=vs.length)(cX:∀v,v∈s\/v∈nn->-9223372036854775808<=v/\v<=9223372036854775807):∀(n:Nat)(t:Tm),t.bA+200<n->t.Ok->Valid t->(eb vs nx t).2=0->vL n [t.d,cJ s,.mp M,iF bn nn,br vs]=some [gm (eT vs s nn t),cJ s,.mp M,iF bn nn,br vs]
 |0,t,h,_,_,_=>absurd h (xaJ _)
 |n+1,t,aN,bD,aS,aP=>by
  have ea:=aS.op;have x9:=aS.D7;rw[q6];show vK (vL n) n [t.d,cJ s,.mp M,iF bn nn,br vs]=_;have al:=dC (f:=Iz (vL n) n) t.bc (λi (p:List Int)=>[cB 4 t.nl (Tm.rows t.bc),I t.bc.length,I (i:Int),cJ s,.mp M,iF bn nn,br vs,I t.op,I t.num,a1 t.name,cB 4 t.nl (Tm.rows t.bc),cJ p]) (λr p=>match hA vs s nn r with|some l=>(Sum.inl [cJ s,.mp M,iF bn nn,br vs,I t.op,I t.num,a1 t.name,cB 4 t.nl (Tm.rows t.bc),cJ (p++l)]:List D⊕List D)|none=> .inr [.a6 [I 0,aI false],cJ s,.mp M,iF bn nn,br vs])
   (λi p=>p.length=i) ?_ ?_ n 0 [] rfl (by omega) (xaj _)
  .have b1:(I ((0:Nat):Int))=I 0:=rfl;have aL:cJ []= .aV 1 []:=rfl;have Ei:D.a6 [I 0,aI false]=gm (0,false):=rfl;rw[b1,aL]at al;simp only[xam,xaM]at al;have bf:=Tm.qc t;have c1:=Tm.tE t;have c2:=Tm.tF t;have b4:=Tm.rS t;have dF:=Tm.nV t;by_cases bh:t.op<=4
   .rw[xac bh];rw[oK,xac bh]at aP;have ah:=aS.leaf bh;rw[ah]at al;have z0:((([]:List Tm).length:Nat):Int)=0:=rfl;simp only[hA,xav,z0]at al;have aCM:D.aV 1 []=cJ []:=rfl;have h7:=aeo n;by_cases aa:t.op<=2
    .unfold kX;rw[xac aa];have ai:t.op=1\/t.op=2:=by omega
     generalize t.op=op at*;rcases ai with rfl|rfl<;>simp[vK,dF,bf,c1,c2,b4,ah,al,gm]
    obtain⟨i,af⟩:=aeK aP (by omega);obtain⟨v,v1,v2,v3⟩:=x8 af;have uh:=av7 cM.1 (z:= .int .i64 0) (x:=t.name);rw[cM.2,af]at uh;simp only[xaI]at uh;have tq:nh (.mp M)=some M:=rfl;unfold kX;rw[xae aa];have ai:t.op=3\/t.op=4:=by omega
    have aCN:(t.op==3||t.op==4)=true:=by rcases ai with h|h<;>simp[h]
    by_cases bJ:(if t.op=4 then nn else s).length=vs.length
    .have bY:nz vs s nn t=some i:=by unfold nz;rw[xac bJ,af]
     obtain⟨x,q7⟩:=Va v3 bJ;have x2:=xad q7;rw[bY];simp only[v1,q7];have Bn:pK (x+0) true=gm (x,ep x):=by rw[aes,Int.add_zero]
     generalize t.op=op at*;rcases ai with rfl|rfl
     .simp only[show¬((3:Int)=4) by omega,xaH]at q7 x2 bJ;have dr:=NW n x 0 (cX x (.inl x2)) (by omega);rw[Bn]at dr;cases aj:v.bool<;>simp[vK,dF,bf,c1,c2,b4,ah,al,tq,uh,sy,eY,bJ,hj v1,v.wb,um q7,h7,aj,dr,Ef,Eg,Eh]<;>(try exact Eh (x,ep x))<;>(try rfl)
     simp only[xaF]at q7 x2 bJ;have dr:=NW n x 0 (cX x (.inr x2)) (by omega);rw[Bn]at dr;cases aj:v.bool<;>simp[vK,dF,bf,c1,c2,b4,ah,al,tq,uh,sy,eY,bJ,hj v1,v.wb,aeE q7,h7,aj,dr,Ef,Eg,Eh]<;>(try exact Eh (x,ep x))<;>(try rfl)
    have bY:nz vs s nn t=none:=by unfold nz;rw[xae bJ]
    rw[bY];have nm:t.op=4:=by refine ai.resolve_left λh=>bJ ?_;rw[xae (by omega)];exact aC
    rw[xac nm]at bJ;generalize t.op=op at*;subst nm;have cp:¬((nn.length:Int)=(vs.length:Int)):=by omega
    simp[vK,dF,bf,c1,c2,b4,ah,al,tq,uh,sy,eY,bJ,cp]<;>(try rfl)
   rw[xae bh];have fJ:(t.op==1)=false:=by simp;omega
   have hV:(t.op==2)=false:=by simp;omega
   have ko:(t.op==3)=false:=by simp;omega
   have q4:(t.op==4)=false:=by simp;omega
   cases kz:hA vs s nn t.bc with
   |none=>rw[kz]at al;simp[vK,dF,bf,c1,c2,b4,al]<;>(try rfl)
   |some l=>rw[kz]at al;obtain⟨g1,g2,g3,g4⟩:=aeD (nx:=nx) aS aP (by omega) kz;have aB:=avP n t l aS g1 (by omega) g2 (by omega) g3 g4;simp[vK,dF,bf,c1,c2,b4,al,fJ,hV,ko,q4,aB,av8,Ef,Eg,Eh]
  .intro p aU;simp[Iz,hA]
  intro i a p aH af aU;have hm:=xad aH;have bG:=Tm.j2 hm;have av:=aeM vs nx s nn M cM jl aC cX n a (by omega) (bD.fD hm) (aS.fD hm) (Jv aS aP hm);have eI:cZ (p.length+1) 8=true:=aeJ (by omega);by_cases au:(eT vs s nn a).2=true
  .left;refine⟨p++[(eT vs s nn a).1],?_,?_,by simp[aU]⟩;.simp[Iz,af,Tm.h0 aH,av,au,cm (bt:=false) (i:=i) (by omega),eI,Ef,Eg]
   rw[hA,xac au];cases hA vs s nn (t.bc.drop (i+1))with|none=>rfl|some l=>simp
  right;rw[hA,xae au];have Jw:(eT vs s nn a).2=false:=by simpa using au
  simp[Iz,af,Tm.h0 aH,av,Jw,Ef,Eg]
def aeN:∀(n:Nat)(t:Tm),t.bA<n->t.Ok->DD n [t.d]=some (aI (steps t))
 |0,t,h,_=>absurd h (xaJ _)
 |n+1,t,aN,bD=>by
  have bJ:=bD.len;rw[N2];have al:=dC (f:=IW (DD n) n) t.bc (λi (_:Unit)=>[I (i:Int),I t.op,I t.num,a1 t.name,cB 4 t.nl (Tm.rows t.bc)]) (λr _=>if pL r=true then(Sum.inr (aI true):List D⊕D)else .inl []) (λ_ _=>True) (λ_ _=>by simp[IW,pL]) ?_ n 0 () trivial (by have:=t.l5;omega) (xaj _)
  .have b1:(I ((0:Nat):Int))=I 0:=rfl;rw[b1]at al;simp only[xam]at al;by_cases bh:t.op=4;.simp[DD,TI,bh]
   have q4:(t.op==4)=false:=by simpa using bh
   cases aC:pL t.bc<;>simp[DD,TI,bh,al,aC]
  intro i a _ aH af _;have hm:=xad aH;have bG:=Tm.j2 hm;have av:=aeN n a (by omega) (bD.fD hm);cases aC:steps a
  .left;exact⟨(),by simp[IW,af,Tm.h0 aH,av,aC,cm (bt:=false) (i:=i) (by omega)],by simp[pL,aC],trivial⟩
  right;simp[IW,af,Tm.h0 aH,av,aC,pL]
def aeO{vs:List V}{s nn:List Int}:∀{l:List Tm}{r:List Int},hA vs s nn l=some r->∀k∈l,(eT vs s nn k).2=true
 |[],_,_,k,ah=>by cases ah
 |t::q,r,h,k,ah=>by
  rw[hA]at h;by_cases J:(eT vs s nn t).2=true
  case neg=>rw[xae J]at h;cases h
  rw[xac J]at h;cases aa:hA vs s nn q with
  |none=>rw[aa]at h;cases h
  |some l=>
   rcases xal.1 ah with rfl|ah;.exact J
   exact aeO aa k ah
def aeP:∀{l:List Tm},pL l=true->∃k∈l,steps k=true
 |a::r,h=>by rw[pL]at h;cases aH:steps a with|true=>exact⟨a,by simp,aH⟩|false=>rw[aH,xbE]at h;obtain⟨k,J,aa⟩:=aeP h;exact⟨k,by simp[J],aa⟩
def av9{vs:List V}{s nn:List Int}(cp:nn.length≠vs.length)(t:Tm):Valid t->steps t=true->(eT vs s nn t).2=false:=by
 refine Tm.ind (P:=λt=>Valid t->steps t=true->(eT vs s nn t).2=false) ?_ t;intro t ih aS h;rw[q6];rw[N2]at h;by_cases bh:t.op<=4
 .rw[xac bh];have nm:t.op=4:=by
   rw[aS.leaf bh]at h;simpa[pL]using h
  unfold kX;rw[xae (by omega)];have:nz vs s nn t=none:=by unfold nz;rw[xac nm,xae cp]
  rw[this]
 rw[xae bh];have aj:(t.op==4)=false:=by simp;omega
 rw[aj,xbE]at h;obtain⟨k,J,aa⟩:=aeP h;cases al:hA vs s nn t.bc with|none=>rfl|some l=>have:=aeO al k J;rw[ih k J (aS.fD J) aa]at this;cases this
def ic(vs:List V)(t:Tm)(s nn:List Int):Int×Bool:=if(jP vs true t).2≠0\/s.length≠vs.length then(0,false)else eT vs s nn t
def Jx{vs:List V}{nx:Bool}{t:Tm}(h:(jP vs nx t).2=0):Valid t/\(eb vs nx t).2=0:=by
 unfold jP at h;by_cases ai:(dk t 1 0).1=0;.rw[xae (by simpa using ai)]at h;exact⟨⟨1,0,ai⟩,h⟩
 rw[xac ai]at h;exact absurd h ai
def aeQ(n:Nat)(vs:List V)(t:Tm)(s nn:List Int)(aN:t.bA+200+vs.length<n)(bD:t.Ok)(jl:vs.length<1000000000000)(cX:∀v,v∈s\/v∈nn->-9223372036854775808<=v/\v<=9223372036854775807):sk n [br vs,t.d,cJ s,iF bn nn]=some (gm (ic vs t s nn)):=by
 have J:=aeg n vs t true aN bD jl;obtain⟨M,m1,m2⟩:=aec n vs (by omega) jl;have e4:bZ (br vs)=true:=rfl;have kk:∀l,bZ (cJ l)=true:=λ_=>rfl;have Ei:D.a6 [I 0,aI false]=gm (0,false):=rfl;unfold ic;by_cases aP:(jP vs true t).2=0
 .by_cases aC:s.length=vs.length
  .obtain⟨aS,fp⟩:=Jx aP;have ay:=aeM (bn:=bn) vs true s nn M m2 jl aC cX n t (by omega) bD aS fp;have N6:((s.length:Int) !=(vs.length:Int))=false:=by simp[aC]
   simp[sk,M0,e4,kk,J,aP,aC,sy,eY,m1,ay,Ef,Eg,Eh]
  have N6:¬((s.length:Int)=(vs.length:Int)):=by omega
  simp[sk,M0,e4,kk,J,aP,aC,sy,eY,N6];exact Ei
 simp[sk,M0,e4,kk,J,aP];exact Ei
def aeR(n:Nat)(vs:List V)(t:Tm)(s nn:List Int)(aN:t.bA+200+vs.length<n)(bD:t.Ok)(jl:vs.length<1000000000000):uc n [br vs,t.d,cJ s,iF bn nn]=some (gm (ic vs t s nn)):=by
 have J:=aeh n vs t true aN bD jl;have aa:=aeN n t (by omega) bD;have Ei:D.a6 [I 0,aI false]=gm (0,false):=rfl;unfold ic;by_cases aP:(jP vs true t).2=0
 .by_cases aC:s.length=vs.length
  .obtain⟨aS,fp⟩:=Jx aP;by_cases gB:steps t=true/\nn.length≠vs.length
   .have awa:=av9 (s:=s) gB.2 t aS gB.1;have awb:¬((nn.length:Int)=(vs.length:Int)):=by have:=gB.2;omega
    have av:gm (eT vs s nn t)= .a6 [I 0,aI false]:=by unfold gm;rw[xae (by simp[awa])]
    simp[uc,DG,J,aa,aP,aC,sy,eY,gB.1,awb,av]
   have ay:=aeL (bn:=bn) vs true s nn jl aC n t aN bD aS fp (λh=>by refine xbf λai=>gB ⟨h,ai⟩);have av:gm (eT vs s nn t)=if(eT vs s nn t).2=true then .a6 [I (eT vs s nn t).1,aI true]else .a6 [I 0,aI false]:=rfl
   by_cases Vb:steps t=true;.have nX:nn.length=vs.length:=xbf λai=>gB ⟨Vb,ai⟩;cases aj:(eT vs s nn t).2<;>simp[uc,DG,J,aa,aP,aC,sy,eY,Vb,nX,ay,aj,av]
   have awc:steps t=false:=by simpa using Vb
   cases aj:(eT vs s nn t).2<;>simp[uc,DG,J,aa,aP,aC,sy,eY,awc,ay,aj,av]
  have N6:¬((s.length:Int)=(vs.length:Int)):=by omega
  simp[uc,DG,J,aa,aP,aC,sy,eY,N6];exact Ei
 simp[uc,DG,J,aa,aP];exact Ei
def aeS{lo af x y:Int}(J:lo<=x)(aa:x<=af):lO (lo*y) (af*y)<=x*y/\x*y<=fX (lo*y) (af*y):=by
 by_cases aE:0<=y;.have a:=Int.mul_le_mul_of_nonneg_right J aE;have b:=Int.mul_le_mul_of_nonneg_right aa aE;unfold lO fX;constructor<;>split<;>omega
 have a:=Int.mul_le_mul_of_nonpos_right J (show y<=0 by omega);have b:=Int.mul_le_mul_of_nonpos_right aa (show y<=0 by omega);unfold lO fX;constructor<;>split<;>omega
def aeT{lo af x y:Int}(J:lo<=x)(aa:x<=af):lO (y*lo) (y*af)<=y*x/\y*x<=fX (y*lo) (y*af):=by have:=aeS (y:=y) J aa;rw[Int.mul_comm lo y,Int.mul_comm af y,Int.mul_comm x y]at this;exact this
def awd{a b:Y}{x y:Int}(ad:a.lo<=x/\x<=a.af)(aE:b.lo<=y/\y<=b.af):D4 a b<=x*y/\x*y<=D5 a b:=by have J:=aeS (y:=y) ad.1 ad.2;have aa:=aeT (y:=a.lo) aE.1 aE.2;have ax:=aeT (y:=a.af) aE.1 aE.2;unfold D4 D5;generalize x*y=p at*;generalize a.lo*y=q at*;generalize a.af*y=r at*;generalize a.lo*b.lo=s at*;generalize a.lo*b.af=t at*;generalize a.af*b.lo=u at*;generalize a.af*b.af=v at*;unfold lO fX at*;omega
def awe{lo af v:Int}(h:(hz lo af).2=0)(J:lo<=v)(aa:v<=af):(hz lo af).1.lo<=v/\v<=(hz lo af).1.af:=by
 unfold hz at*;split at h;.cases h
 rename_i ai;rw[xae ai];exact⟨J,aa⟩
def hq(vs:List V)(s:List Int):Prop:=s.length=vs.length/\∀(i:Nat)(v:V)(x:Int),vs[i]?=some v->s[i]?=some x->if v.bool then x=0\/x=1 else v.lo<=x/\x<=v.af
def within(y:Y)(v:Int):Prop:=if y.b then v=0\/v=1 else y.lo<=v/\v<=y.af
def yc{lo af v:Int}(h:(hz lo af).2=0)(J:lo<=v)(aa:v<=af):within (hz lo af).1 v:=by unfold within;rw[Ec];exact awe h J aa
def wc{y:Y}{b:Bool}(h:y.b=true):within y (tr b):=by unfold within;rw[xac h];exact Jr b
def aeU{lo af:Int}(h:(hz lo af).2=0):-1048576<=lo/\af<=1048576/\lo<=af:=by
 unfold hz at h;split at h;.cases h
 omega
def awf{vs:List V}{s nn:List Int}{t:Tm}(aC:hq vs s)(aN:hq vs nn)(aS:Valid t)(h:(kW vs true t).2=0):(kX vs s nn t).2=true/\within (kW vs true t).1 (kX vs s nn t).1:=by
 have ud:=aS.num;unfold kW at*;unfold kX;by_cases J:t.op=1;.rw[xac J]at*;rw[xac (by omega)];exact⟨rfl,yc h (Int.le_refl _) (Int.le_refl _)⟩
 rw[xae J]at*;by_cases aa:t.op=2;.rw[xac aa]at*;rw[xac (by omega)];refine⟨rfl,?_⟩;unfold within;simp only[jm,xaF];omega
 rw[xae aa]at*;have ea:=aS.op;rw[xae (show¬t.op<=2 by omega)];cases af:eo vs t.name with
 |none=>rw[af]at h;cases h
 |some i=>
  rw[af]at h;simp only at h⊢;obtain⟨v,v1,v2,v3⟩:=x8 af;have aeV:¬(t.op=4/\true=false):=by simp
  rw[xae aeV,v1]at h;rw[xae aeV,v1];simp only at h⊢;have x3:hq vs (if t.op=4 then nn else s):=by split<;>assumption
  have bY:nz vs s nn t=some i:=by unfold nz;rw[xac x3.1,af]
  obtain⟨x,ad⟩:=Va v3 x3.1;rw[bY];simp only[ad,v1];have av:=x3.2 i v x v1 ad;by_cases aj:v.bool=true
  .rw[xac aj]at*;rw[xac aj];exact⟨rfl,wc rfl⟩
  rw[xae aj]at*;rw[xae aj];have jA:=aeU h;exact⟨(ka _).2 (by omega),yc h av.1 av.2⟩
def awg{l:List Y}{qk:List Int}(al:l.all Y.b=true)(bJ:qk.length=l.length)(h:∀(i:Nat)(y:Y)(v:Int),l[i]?=some y->qk[i]?=some v->within y v):∀v∈qk,v=0\/v=1:=by
 intro v aS;obtain⟨i,af⟩:=xaG.1 aS;have b5:i<l.length:=by have:=(xaa.1 af).1;omega
 have aE:=xab b5;have aj:=xax.1 al _ (xaZ b5);have hw:=h i _ v aE af;unfold within at hw
 rwa [xac aj]at hw
def awh{t:Tm}{a b c:Y}(h:¬(5<=t.op/\t.op<=9)):hi t [a,b,c]=if(!a.b||(b.b !=c.b))then(fs,13)else if b.b then(jm,0)else hz (lO b.lo c.lo) (fX b.af c.af):=by unfold hi;rw[xae h]
def awi{t:Tm}{a b:Y}(h:¬(5<=t.op/\t.op<=9)):hi t [a,b]=if t.op=10\/t.op=11 then if a.b !=b.b then(fs,13)else(jm,0)
   else if(a.b||b.b)then(fs,13)
   else if t.op=12\/t.op=13 then(jm,0)
   else if t.op=17 then(match t.bc[1]? with
    |some k=>if k.op≠1\/k.num<1 then(fs,2)else hz 0 (k.num-1)
    |none=>(fs,0))
   else pJ t.op a b:=by
 unfold hi;rw[xae h]<;>rfl
def awj{op a b c:Int}(cN:¬op=6)(fP:¬op=7):fU op [a,b,c]=(if a=1 then b else c,ep (if a=1 then b else c)):=by unfold fU;rw[xae cN,xae fP]
def awk{op a b:Int}(cN:¬op=6)(fP:¬op=7):fU op [a,b]=if op=8 then(tr (a==0||b==1),true)else if op=9\/op=10 then(tr (a==b),true)else if op=11 then(tr (a !=b),true)
   else if op=12 then(tr (decide (a<b)),true)else if op=13 then(tr (decide (a<=b)),true)
   else if op=14 then(a+b,ep (a+b))else if op=15 then(a-b,ep (a-b))
   else if op=16 then if ep (a*b)then(a*b,true)else(0,false)
   else((a.tmod b+b).tmod b,ep ((a.tmod b+b).tmod b)):=by
 unfold fU;rw[xae cN,xae fP]
def awl{t:Tm}{l:List Y}{qk:List Int}(aS:Valid t)(b9:5<=t.op)(aB:(hi t l).2=0)(bQ:∀y∈l,y.lk)(bJ:l.length=t.bc.length)(kz:qk.length=l.length) (hw:∀(i:Nat)(y:Y)(v:Int),l[i]?=some y->qk[i]?=some v->within y v) (hm:t.op=17->∀k v,t.bc[1]?=some k->qk[1]?=some v->v=k.num):(fU t.op qk).2=true/\within (hi t l).1 (fU t.op qk).1:=by
 have ea:=aS.op;have Bq:=aS.len;have N7:5<=t.op/\t.op<=9->(hi t l).1.b=true:=λh=>by have:=N3 aB h;unfold hi;rw[xac h,xac this];rfl
 by_cases sz:t.op=6\/t.op=7
 .have aj:=N7 (by omega);unfold fU;rcases sz with h|h
  .rw[xac h];exact⟨rfl,wc aj⟩
  rw[xae (by omega),xac h];exact⟨rfl,wc aj⟩
 by_cases vh:t.op=5
 .have aj:=N7 (by omega);have:gu t.op=(1,1):=by rw[vh];rfl
  rw[this]at Bq;have q2:qk.length=1:=by simp only at Bq;omega
  match qk,q2,kz,hw with|[a],_,kz,hw=>have aH:=awg (N3 aB (by omega)) kz hw a (by simp);have cX:ep (1-a)=true:=(ka _).2 (by omega);unfold fU;rw[xae (by omega),xae (by omega)];refine⟨cX,?_⟩;unfold within;rw[xac aj];simp only;omega
 have cN:¬t.op=6:=by omega
 have fP:¬t.op=7:=by omega
 by_cases oL:t.op=18
 .rw[Bk oL]at Bq;obtain⟨a,b,c,rfl⟩:=v8 (l:=l) (by simp only at Bq;omega);obtain⟨x,y,z,rfl⟩:=v8 (l:=qk) (by simpa using kz);have N8:¬(5<=t.op/\t.op<=9):=by omega
  obtain⟨U8,Bp,aeB⟩:=U6 aB N8;have rA:=hw 0 a x rfl rfl;have qD:=hw 1 b y rfl rfl;have N9:=hw 2 c z rfl rfl;have q3:=bQ b (by simp);have gc:=bQ c (by simp);unfold within at rA qD N9;rw[awj cN fP];rw[awh N8]at aB⊢;have zi:¬(!a.b||(b.b !=c.b))=true:=by rw[U8,Bp];simp
  rw[xae zi]at aB⊢;by_cases aj:b.b=true
  .rw[xac aj];rw[xac aj]at qD;rw[<-Bp,xac aj]at N9;by_cases ad:x=1;.rw[xac ad];have q:ep y=true:=(ka _).2 (by omega);refine⟨q,?_⟩;unfold within;simp only[jm,xaF];exact qD
   rw[xae ad];have q:ep z=true:=(ka _).2 (by omega);refine⟨q,?_⟩;unfold within;simp only[jm,xaF];exact N9
  rw[xae aj]at aB⊢;rw[xae aj]at qD;rw[<-Bp,xae aj]at N9;obtain⟨_,fJ,hV,ko⟩:=q3;obtain⟨_,c1,c2,b4⟩:=gc;have jn:lO b.lo c.lo<=b.lo/\lO b.lo c.lo<=c.lo:=by unfold lO;split<;>omega
  have B6:b.af<=fX b.af c.af/\c.af<=fX b.af c.af:=by unfold fX;split<;>omega
  by_cases ad:x=1;.rw[xac ad];have q:ep y=true:=(ka _).2 (by omega);exact⟨q,yc aB (by omega) (by omega)⟩
  rw[xae ad];have q:ep z=true:=(ka _).2 (by omega);exact⟨q,yc aB (by omega) (by omega)⟩
 rw[x7 (show 8<=t.op/\t.op<=17 by omega)]at Bq;obtain⟨a,b,rfl⟩:=q1 (l:=l) (by simp only at Bq;omega);obtain⟨x,y,rfl⟩:=q1 (l:=qk) (by simpa using kz);have rA:=hw 0 a x rfl rfl;have qD:=hw 1 b y rfl rfl;have Bl:=bQ a (by simp);have q3:=bQ b (by simp);rw[awk cN fP];by_cases il:t.op=8
 .rw[xac il];exact⟨rfl,wc (N7 (by omega))⟩
 rw[xae il];by_cases k8:t.op=9;.rw[xac (Or.inl k8)];exact⟨rfl,wc (N7 (by omega))⟩
 have N8:¬(5<=t.op/\t.op<=9):=by omega
 rw[awi N8]at aB⊢;by_cases oM:t.op=10\/t.op=11
 .rw[xac oM]at aB⊢;by_cases ai:(a.b !=b.b)=true;.rw[xac ai]at aB;cases aB
  rw[xae ai];rcases oM with h|h
  .rw[xac (Or.inr h)];exact⟨rfl,wc rfl⟩
  have aN:¬(t.op=9\/t.op=10):=by omega
  rw[xae aN,xac h];exact⟨rfl,wc rfl⟩
 rw[xae oM]at aB⊢;have awm:¬(t.op=9\/t.op=10):=by omega
 have oN:¬t.op=11:=by omega
 rw[xae awm,xae oN];by_cases ai:(a.b||b.b)=true;.rw[xac ai]at aB;cases aB
 rw[xae ai]at aB⊢;have hf:a.b=false/\b.b=false:=by cases aH:a.b<;>cases aj:b.b<;>simp_all
 have Ju:¬(false=true):=by simp
 unfold within at rA qD;rw[hf.1,xae Ju]at rA;rw[hf.2,xae Ju]at qD;obtain⟨_,aK,a2,a3⟩:=Bl;obtain⟨_,fJ,hV,ko⟩:=q3;by_cases Vc:t.op=12\/t.op=13
 .rw[xac Vc];rcases Vc with h|h
  .rw[xac h];exact⟨rfl,wc rfl⟩
  have aN:¬t.op=12:=by omega
  rw[xae aN,xac h];exact⟨rfl,wc rfl⟩
 rw[xae Vc]at aB⊢;have Vd:¬t.op=12:=by omega
 have lP:¬t.op=13:=by omega
 rw[xae Vd,xae lP];by_cases oF:t.op=17
 .rw[xac oF]at aB⊢;have mN:¬t.op=14:=by omega
  have vN:¬t.op=15:=by omega
  have e6:¬t.op=16:=by omega
  rw[xae mN,xae vN,xae e6];cases ah:t.bc[1]? with
  |none=>have:=xch.1 ah;simp only at Bq;omega
  |some k=>
   rw[ah]at aB;simp only at aB⊢;by_cases ay:k.op≠1\/k.num<1;.rw[xac ay]at aB;cases aB
   rw[xae ay]at aB⊢;have Qk:=hm oF k y ah rfl;subst Qk;have aCO:=(aS.fD (xad ah)).num;have m1:=Jn (a:=x) (b:=k.num) (by omega);have m2:=Jn (a:=x.tmod k.num+k.num) (b:=k.num) (by omega);have m3:=Int.tmod_nonneg (a:=x.tmod k.num+k.num) k.num (by omega);have q:ep ((x.tmod k.num+k.num).tmod k.num)=true:=(ka _).2 (by omega);exact⟨q,yc aB m3 (by omega)⟩
 rw[xae oF]at aB⊢;unfold pJ at aB⊢;by_cases vN:t.op=15
 .have mN:¬t.op=14:=by omega
  simp only[xac vN,xae mN]at aB⊢;have q:ep (x-y)=true:=(ka _).2 (by omega);exact⟨q,yc aB (by omega) (by omega)⟩
 by_cases mN:t.op=14;.simp only[xae vN,xac mN]at aB⊢;have q:ep (x+y)=true:=(ka _).2 (by omega);exact⟨q,yc aB (by omega) (by omega)⟩
 have e6:t.op=16:=by omega
 simp only[xae mN,xae vN,xac e6]at aB⊢;have we:=awd rA qD;have jA:=aeU aB;have cX:ep (x*y)=true:=(ka _).2 (by omega);simp only[xac cX];exact⟨trivial,yc aB we.1 we.2⟩
def aeW{vs:List V}{s nn:List Int}:∀{l:List Tm},(∀k∈l,(eT vs s nn k).2=true)->hA vs s nn l=some (l.map λk=>(eT vs s nn k).1)
 |[],_=>rfl|t::r,h=>by rw[hA,xac (h t (by simp)),aeW λk ah=>h k (by simp[ah])];rfl
def aeX{vs:List V}{nx:Bool}:∀{l:List Tm},(eg vs nx l).2=0->(eg vs nx l).1=l.map λk=>(eb vs nx k).1
 |[],_=>rfl
 |t::r,h=>by
  rw[eg]at*;by_cases J:(eb vs nx t).2=0
  case neg=>rw[xac J]at h;exact absurd h J
  have dS:¬(eb vs nx t).2≠0:=by simpa using J
  rw[xae dS]at h⊢;by_cases aa:(eg vs nx r).2=0
  case neg=>rw[xac aa]at h;exact absurd h aa
  have gO:¬(eg vs nx r).2≠0:=by simpa using aa
  rw[xae gO];simp[aeX aa]
def aeY{vs:List V}{s nn:List Int}(aC:hq vs s)(aN:hq vs nn)(t:Tm):Valid t->(eb vs true t).2=0->(eT vs s nn t).2=true/\within (eb vs true t).1 (eT vs s nn t).1:=by
 refine Tm.ind (P:=λt=>Valid t->(eb vs true t).2=0->(eT vs s nn t).2=true/\within (eb vs true t).1 (eT vs s nn t).1) ?_ t;intro t ih aS h;have ah:∀k∈t.bc,(eb vs true k).2=0:=λk ah=>Jv aS h ah;rw[oK]at h⊢;rw[q6];by_cases bh:t.op<=4
 .rw[xac bh]at*;rw[xac bh];exact awf aC aN aS h
 rw[xae bh]at h⊢;rw[xae bh];by_cases au:(eg vs true t.bc).2=0
 case neg=>rw[xac au]at h;exact absurd h au
 have Jw:¬(eg vs true t.bc).2≠0:=by simpa using au
 rw[xae Jw]at h⊢;have kz:hA vs s nn t.bc=_:=aeW λk l1=>(ih k l1 (aS.fD l1) (ah k l1)).1;rw[kz];simp only;obtain⟨g1,g2⟩:=D6 vs true t.bc au;have nQ:=aeX au;refine awl aS (by omega) h g2 g1 (by rw[g1];simp) ?_ ?_
 .intro i y v aE hI;rw[nQ]at aE;simp only[xah,xaf]at aE hI;obtain⟨k,cS,rfl⟩:=aE;obtain⟨bF,e2,rfl⟩:=hI;rw[cS]at e2;cases e2;exact(ih k (xad cS) (aS.fD (xad cS)) (ah k (xad cS))).2
 intro oF k v ou q2;simp only[xah,ou,xaI,xaE]at q2;have ob:=aS.len;rw[x7 (by omega)]at ob;obtain⟨Js,Ed,aE⟩:=q1 (l:=(eg vs true t.bc).1) (by simp only at ob;omega);rw[aE]at h;have:=aey h oF ou;rw[<-q2,q6,xac (by omega)];unfold kX;rw[xac (by omega)]
end Go.Am
