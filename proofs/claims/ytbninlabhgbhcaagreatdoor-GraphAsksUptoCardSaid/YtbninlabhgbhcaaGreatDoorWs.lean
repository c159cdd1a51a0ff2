/- Laws, on data. No condition. -/
import Derived.Test.YtbninlabhgbhcaaGreatDoorLaws
import Derived.Test.YtbninlabhgbhcaaGreatDoorEngS
import Derived.KernelRfl
set_option linter.all false
set_option linter.unnecessarySimpa false
namespace Go.Am
structure cU where
 name:ByteArray
 f:Fm
def cU.cells(d:cU):List D:=[a6 d.name,I d.f.op,I d.f.e.op,I d.f.e.num,a6 d.f.e.name,cH 4 d.f.e.nl (Tm.rows d.f.e.bf),cH 6 d.f.nl (Fm.rows d.f.bf)]
def aC(l:List Tm):D:= .aW 4 (Tm.rows l)
def b5(l:List cU):D:= .aW 7 (l.map cU.cells)
def yR{l:List Tm}{i:Nat}{t:Tm}(h:l[i]?=some t):b3 4 (aC l) (I (i:Int))=some t.cells:=by simp[aC,Tm.M8 h]
def ix(l:List Tm):fW (aC l)=some (I l.length):=by simp[aC]
def nX{l:List cU}{i:Nat}{t:cU}(h:l[i]?=some t):b3 7 (b5 l) (I (i:Int))=some t.cells:=by simp[b5,h]
def jr(l:List cU):fW (b5 l)=some (I l.length):=by simp[b5]
def cU.d(d:cU):D:= .agg d.cells
theorem cU.afG(d:cU):bM true 7 0 d.cells=some d.d:=rfl
theorem cU.iZ(d:cU):bM true 6 1 d.cells=some d.f.d:=by rw[Fm.kj];rfl
theorem cU.hb(d:cU):bM false 1 0 d.cells=some (a6 d.name):=rfl
def cU.agg(d:cU):dO 7 d.d=true:=by unfold cU.d cU.cells;simp[abm]
theorem cU.bc(d:cU):ae d.d 0=a6 d.name:=rfl
theorem cU.c1(d:cU):ae d.d 1=I d.f.op:=rfl
theorem cU.c2(d:cU):ae d.d 2=I d.f.e.op:=rfl
theorem cU.b8(d:cU):ae d.d 3=I d.f.e.num:=rfl
theorem cU.c3(d:cU):ae d.d 4=a6 d.f.e.name:=rfl
theorem cU.dq(d:cU):ae d.d 5=cH 4 d.f.e.nl (Tm.rows d.f.e.bf):=rfl
theorem cU.dr(d:cU):ae d.d 6=cH 6 d.f.nl (Fm.rows d.f.bf):=rfl
structure au where
 vars:List V
 aD:List bA
 bZ:List Tm
 b1:List Tm
 next:List bA
 trans:List Tm
 bR:List Tm
 bS:List cU
def au.d(m:au):D:= .agg [bu m.vars,aY m.aD,aC m.bZ,aC m.b1,aY m.next,aC m.trans,aC m.bR,b5 m.bS]
section
variable(m:au)
theorem au.bc:ae m.d 0=bu m.vars:=rfl
theorem au.c1:ae m.d 1=aY m.aD:=rfl
theorem au.c2:ae m.d 2=aC m.bZ:=rfl
theorem au.b8:ae m.d 3=aC m.b1:=rfl
theorem au.c3:ae m.d 4=aY m.next:=rfl
theorem au.dq:ae m.d 5=aC m.trans:=rfl
theorem au.dr:ae m.d 6=aC m.bR:=rfl
theorem au.dG:ae m.d 7=b5 m.bS:=rfl
theorem au.agg:dO 8 m.d=true:=rfl
theorem au.eta:D.agg [bu m.vars,aY m.aD,aC m.bZ,aC m.b1,aY m.next,aC m.trans,aC m.bR,b5 m.bS]=m.d:=rfl
end
def afH:∀l:List Tm,o2 l=l.map gN
 |[]=>rfl|k::r=>by rw[o2,afH r];rfl
theorem E2(t:Tm):gN t= .mk t.op t.num t.name false (t.bf.map gN):=by cases t;rw[gN,afH];rfl
def Pd(t:Tm):(gN t).bC=t.bC:=by
 refine Tm.ind (P:=λt=>(gN t).bC=t.bC) ?_ t;intro t ih;have key:∀l:List Tm,(∀k∈l,(gN k).bC=k.bC)->Tm.fa (l.map gN)=Tm.fa l:=by
  intro l
  induction l with
  |nil=>intro _;rfl
  |cons a r mD=>intro h;simp only[xaw,Tm.fa];rw[h a (by simp),mD λk ai=>h k (by simp[ai])]
 rw[Tm.B6,Tm.B6 t,E2];show 2+Tm.fa (t.bf.map gN)=_;rw[key _ ih]
def axf(t:Tm):t.Ok->(gN t).Ok:=by
 refine Tm.ind (P:=λt=>t.Ok->(gN t).Ok) ?_ t;intro t ih bE;rw[E2];have bI:=bE.len;obtain⟨ei,eu,gS⟩:(-9223372036854775808<=t.op/\t.op<=9223372036854775807)/\(-9223372036854775808<=t.num/\t.num<=9223372036854775807)/\t.name.size<=140737488355328:=by cases bE with|mk o n s b ks aT aN az al ai=>exact⟨aT,aN,az⟩
 refine .mk _ _ _ _ _ ei eu gS (by simpa using bI) ?_;intro k ai;obtain⟨bG,fs,rfl⟩:=xaN.1 ai;exact ih bG fs (bE.fO fs)
def jU:Int:=9007199254740992
def eC(n:Int):Bool:=decide (-9007199254740992<=n)&&decide (n<=9007199254740992)
def p6(n:Int)(ok:Bool):D:=if ok&&eC n then .aZ [I n,aK true]else .aZ [I 0,aK false]
def axg(n:Nat)(a:Int)(ok:Bool):Jq n [I a,aK ok]=some (p6 a ok):=by unfold p6 eC;cases ok<;>simp[Jq,acJ,-S9,-SP];grind
def Pe(n:Nat)(a b:Int)(aG:-9223372036854775808<=a/\a<=9223372036854775807)(aj:-9223372036854775808<=b/\b<=9223372036854775807):uF n [I a,I b]=some (p6 (a+b) true):=by
 have bQ:=axg n;by_cases J:(a<0)=(b<0)
 case neg=>
  have e:IntKind.i64.wrap (a+b)=a+b:=by
   refine wrap64 _ ?_ ?_;.by_cases c:a<0<;>by_cases d:b<0<;>simp[c,d]at J<;>omega
   by_cases c:a<0<;>by_cases d:b<0<;>simp[c,d]at J<;>omega
  have cp:(decide (a<0) !=decide (b<0))=true:=by by_cases c:a<0<;>by_cases d:b<0<;>simp[c,d]at J⊢
  simp[uF,Oa,MY,e,cp,bQ];unfold p6;split<;>simp
 have cp:(decide (a<0) !=decide (b<0))=false:=by by_cases c:a<0<;>by_cases d:b<0<;>simp[c,d]at J⊢
 by_cases av:-9223372036854775808<=a+b/\a+b<=9223372036854775807
 .have e:IntKind.i64.wrap (a+b)=a+b:=wrap64 _ av.1 av.2;have az:(decide (a<0)==decide (a+b<0))=true:=by
   by_cases c:a<0<;>by_cases d:b<0<;>simp[c,d]at J⊢<;>omega
  simp[uF,Oa,MY,e,cp,az,bQ];unfold p6;split<;>simp
 have e:IntKind.i64.wrap (a+b)=if a<0 then a+b+18446744073709551616 else a+b-18446744073709551616:=by simp only[IntKind.wrap_i64];split<;>omega
 have az:(decide (a<0)==decide (IntKind.i64.wrap (a+b)<0))=false:=by rw[e];by_cases c:a<0<;>by_cases d:b<0<;>simp[c,d]at J⊢<;>omega
 simp[uF,Oa,MY,cp,az,bQ];have:eC (a+b)=false:=by unfold eC;simp;omega
 simp[p6,this]
def fh(n:Int):D:= .val (.int .u64 n)
section
variable{bt:Bool}{a b:Int}
def Pf(h:0<=a+b)(bB:a+b<18446744073709551616):bD bt .add (fh a) (fh b)=some (fh (a+b)):=by have e:bD bt .add (fh a) (fh b)=some (fh (IntKind.u64.wrap (a+b))):=rfl;rw[e,xcs,Int.emod_eq_of_lt h bB]
theorem afI:bD bt .mul (fh a) (fh b)=some (fh (IntKind.u64.wrap (a*b))):=rfl
def Pg(h:0<=a*b)(bB:a*b<18446744073709551616):bD bt .mul (fh a) (fh b)=some (fh (a*b)):=by rw[afI,xcs,Int.emod_eq_of_lt h bB]
def axh(h:0<=a):bD bt .shr (fh a) (fh 32)=some (fh (a/4294967296)):=by
 have e:bD bt .shr (fh a) (fh 32)=some (fh (a.fdiv (2^(min (32:Int).toNat IntKind.u64.bits)))):=rfl;rw[e];have:(2:Int)^(min (32:Int).toNat IntKind.u64.bits)=4294967296:=by decide
 rw[this,Int.fdiv_eq_ediv_of_nonneg _ (by omega)]
def axi(h:0<=a)(bB:a<18446744073709551616):bD bt .and (fh a) (fh 4294967295)=some (fh (a%4294967296)):=by
 have e:bD bt .and (fh a) (fh 4294967295)=some (fh (IntKind.u64.wrap ((BitVec.ofInt IntKind.u64.bits a&&&BitVec.ofInt IntKind.u64.bits 4294967295).toNat:Int))):=rfl;rw[e];have aj:IntKind.u64.bits=64:=rfl;obtain⟨m,rfl⟩:∃m:Nat,a=m:=⟨a.toNat,by omega⟩;have aM:(BitVec.ofInt 64 (m:Int)&&&BitVec.ofInt 64 4294967295).toNat=m%4294967296:=by
  have a8:BitVec.ofInt 64 (m:Int)=BitVec.ofNat 64 m:=by simp
  have b0:BitVec.ofInt 64 4294967295=BitVec.ofNat 64 4294967295:=by decide
  rw[a8,b0,BitVec.toNat_and,BitVec.toNat_ofNat,BitVec.toNat_ofNat,Nat.mod_eq_of_lt (by omega)];have:=Nat.and_two_pow_sub_one_eq_mod m 32;simpa using this
 rw[aj,aM,xcs]
 congr 2
 omega
theorem Ph:bD bt .neq (fh a) (fh b)=some (aK (a !=b)):=rfl
theorem Pj:bD bt .gtr (fh a) (fh b)=some (aK (decide (a>b))):=rfl
end
def Pk{x y:Int}(ad:0<=x/\x<=4294967295)(aH:0<=y/\y<=4294967295):0<=x*y/\x*y<=18446744065119617025:=by refine⟨Int.mul_nonneg ad.1 aH.1,?_⟩;have:=xci ad.2 aH.2 aH.1 (by omega);simpa using this
def axj(n:Nat)(x y:Int)(ad:0<=x/\x<18446744073709551616)(aH:0<=y/\y<18446744073709551616):Ob n [fh x,fh y]=some (.aZ [fh (x*y/18446744073709551616),fh (x*y%18446744073709551616)]):=by
 have aI:0<=x%4294967296/\x%4294967296<=4294967295:=by omega
 have a2:0<=x/4294967296/\x/4294967296<=4294967295:=by omega
 have fH:0<=y%4294967296/\y%4294967296<=4294967295:=by omega
 have hI:0<=y/4294967296/\y/4294967296<=4294967295:=by omega
 have axk:=Pk aI fH;have axl:=Pk a2 fH;have axm:=Pk aI hI;have axn:=Pk a2 hI;have ui:x*y=(x/4294967296*(y/4294967296))*18446744073709551616+(x/4294967296*(y%4294967296)+x%4294967296*(y/4294967296))*4294967296+x%4294967296*(y%4294967296):=by
  have ex:x=x/4294967296*4294967296+x%4294967296:=by omega
  have oG:y=y/4294967296*4294967296+y%4294967296:=by omega
  generalize x/4294967296=u at*;generalize x%4294967296=v at*;generalize y/4294967296=w at*;generalize y%4294967296=z at*;subst ex;subst oG;simp only[Int.add_mul,Int.mul_add];have aM:u*4294967296*(w*4294967296)=u*w*18446744073709551616:=by rw[Int.mul_assoc,Int.mul_left_comm 4294967296 w,<-Int.mul_assoc,Int.mul_comm 4294967296 4294967296];rfl
  have a8:u*4294967296*z=u*z*4294967296:=by rw[Int.mul_assoc,Int.mul_comm 4294967296 z,<-Int.mul_assoc]
  have b0:v*(w*4294967296)=v*w*4294967296:=by rw[<-Int.mul_assoc]
  omega
 show Up n (fh x) (fh y)=_;have axo:(D.val (.int .u64 32))=fh 32:=rfl;have em:(D.val (.int .u64 4294967295))=fh 4294967295:=rfl;have uc:∀q:Int,0<=q->bD false .shr (fh q) (fh 32)=some (fh (q/4294967296)):=λq h=>axh h;have V3:∀q:Int,0<=q->q<18446744073709551616->bD false .and (fh q) (fh 4294967295)=some (fh (q%4294967296)):=λq h bB=>axi h bB;simp only[Up,axo,em,aw];rw[V3 x ad.1 ad.2,dQ,uc x ad.1,dQ,V3 y aH.1 aH.2,dQ,uc y aH.1,dQ,Pg axk.1 (by omega),dQ,Pg axl.1 (by omega),dQ];generalize x%4294967296*(y%4294967296)=axp at*;generalize x/4294967296*(y%4294967296)=aEm at*;rw[uc axp (by omega),dQ,Pf (by omega) (by omega),dQ,V3 _ (by omega) (by omega),dQ,uc _ (by omega),dQ,Pg axm.1 (by omega),dQ];generalize x%4294967296*(y/4294967296)=aEn at*;rw[Pf (by omega) (by omega),dQ,Pg axn.1 (by omega),dQ];generalize x/4294967296*(y/4294967296)=aEo at*;rw[Pf (by omega) (by omega),dQ,uc _ (by omega),dQ,Pf (by omega) (by omega),dQ,afI,dQ,xcs,ui]
 congr 3
 congr 1;omega
def afJ(n:Nat)(a:Int)(aG:-9223372036854775808<=a/\a<=9223372036854775807):Bo n [I a]=some (fh a.natAbs):=by
 have aM:∀v:Int,dB .neg (.val (.int .u64 v))=some (fh (IntKind.u64.wrap (0-v))):=λ_=>rfl;have a8:∀v:Int,k2 .u64 (I v)=some (.val (.int .u64 (IntKind.u64.wrap v))):=λ_=>rfl;by_cases h:a<0
 .simp[Bo,Uo,h,a8,aM];simp only[xcs,fh,D.val.injEq,Value.int.injEq,true_and];omega
 simp[Bo,Uo,h,a8];simp only[xcs,fh,D.val.injEq,Value.int.injEq,true_and];omega
def kq(n:Int):eC n=true↔n.natAbs<=9007199254740992:=by unfold eC;simp;omega
def afK{a b:Int}{A B:Nat}(h:a.natAbs<=A)(bB:b.natAbs<=B):(a*b).natAbs<=A*B:=by rw[Int.natAbs_mul];exact Nat.mul_le_mul h bB
def sign_mul(a b:Int)(h:a*b≠0):((a<0)≠(b<0))↔a*b<0:=by
 have aG:a≠0:=by rintro rfl;simp at h
 have aj:b≠0:=by rintro rfl;simp at h
 rcases Int.lt_or_gt_of_ne aG with J|J<;>rcases Int.lt_or_gt_of_ne aj with aa|aa;.have:=Int.mul_pos_of_neg_of_neg J aa;simp[J,aa];omega
 .have:=Int.mul_neg_of_neg_of_pos J aa;simp[J,this];omega
 .have:=Int.mul_neg_of_pos_of_neg J aa;simp[aa,this];omega
 have:=Int.mul_pos J aa;simp;omega
def axq(n:Nat)(a b:Int)(aG:eC a=true)(aj:eC b=true):yj n [I a,I b]=some (p6 (a*b) true):=by
 rw[kq]at aG aj;have J:=afJ n a (by omega);have aa:=afJ n b (by omega);have hm:=afK aG aj;have ax:=axj n a.natAbs b.natAbs (by omega) (by omega);have e:((a.natAbs:Int)*b.natAbs)=((a*b).natAbs:Int):=by rw[Int.natAbs_mul];simp
 rw[e]at ax;have az:=sign_mul a b;generalize a*b=p at*;have bc:(D.val (.int .u64 0))=fh 0:=rfl;have c1:(D.val (.int .u64 9007199254740992))=fh 9007199254740992:=rfl;have aM:∀v:Int,k2 .i64 (fh v)=some (I (IntKind.i64.wrap v)):=λ_=>rfl;by_cases av:eC p=true
 .have nB:=(kq p).1 av;have bN:((p.natAbs:Int)/18446744073709551616)=0:=by omega
  have bO:((p.natAbs:Int)%18446744073709551616)=p.natAbs:=by omega
  have cx:IntKind.i64.wrap (p.natAbs:Int)=p.natAbs:=wrap64 _ (by omega) (by omega);have dX:IntKind.i64.wrap (-(p.natAbs:Int))=-(p.natAbs:Int):=wrap64 _ (by omega) (by omega);have eO:¬(9007199254740992<(p.natAbs:Int)):=by omega
  rw[bN,bO]at ax;by_cases bF:p=0;.subst bF;simp[yj,Jr,J,aa,ax,bc,c1,Ph,Pj,aM,p6,av];by_cases x1:a<0<;>by_cases rN:b<0<;>simp[x1,rN,show IntKind.i64.wrap 0=0 from rfl]
  have az:=az bF;by_cases x1:a<0<;>by_cases rN:b<0<;>simp[x1,rN]at az<;>simp[yj,Jr,J,aa,ax,bc,c1,Ph,Pj,aM,p6,av,eO,cx,dX,x1,rN]<;>omega
 have nB:¬(p.natAbs<=9007199254740992):=λh=>av ((kq p).2 h);have bm:eC p=false:=by simpa using av
 by_cases bN:((p.natAbs:Int)/18446744073709551616)=0
 .have bO:((p.natAbs:Int)%18446744073709551616)=p.natAbs:=by omega
  have eO:9007199254740992<(p.natAbs:Int):=by omega
  rw[bN,bO]at ax;simp[yj,Jr,J,aa,ax,bc,c1,Ph,Pj,aM,p6,bm,eO]
 have fB:((p.natAbs:Int)/18446744073709551616 !=0)=true:=by simpa using bN
 simp[yj,Jr,J,aa,ax,bc,c1,Ph,Pj,aM,p6,bm,fB]
def tr(b:Bool):Int:=if b then 1 else 0
def afL(n:Nat)(b:Bool):qI n [aK b]=some (.aZ [I (tr b),aK true]):=by cases b<;>simp[qI,acI,tr]
def afM(n:Nat)(b:Bool):qM n [aK b]=some (I (tr b)):=by cases b<;>simp[qM,acW,tr]
def afN(n:Nat)(v:Int):yp n [I v]=some (aK (!eC v)):=by
 by_cases J:v< -9007199254740992
 .have:eC v=false:=by unfold eC;simp;omega
  simp[yp,OA,this,J]
 by_cases aa:9007199254740992<v
 .have:eC v=false:=by unfold eC;simp;omega
  simp[yp,OA,this,J,aa]
 have:eC v=true:=by unfold eC;simp;omega
 simp[yp,OA,this,J,aa]
def afO(n:Nat)(v:Int)(h:-9223372036854775807<=v/\v<=9223372036854775807):Ev n [I v]=some (I (v.natAbs:Int)):=by have:IntKind.i64.wrap (-v)=-v:=wrap64 _ (by omega) (by omega);simp[Ev,acX,this,O8,gj];split<;>omega
def ga(op:Int)(l:List Int):Int×Bool:=if op=6 then(tr (decide (l.sum=l.length)),true)
 else if op=7 then(tr (decide (l.sum>0)),true)
 else match l with
  |[a]=>(1-a,eC (1-a))
  |[a,b]=>if op=8 then(tr (a==0||b==1),true)else if op=9\/op=10 then(tr (a==b),true)else if op=11 then(tr (a !=b),true)
   else if op=12 then(tr (decide (a<b)),true)else if op=13 then(tr (decide (a<=b)),true)
   else if op=14 then(a+b,eC (a+b))else if op=15 then(a-b,eC (a-b))
   else if op=16 then if eC (a*b)then(a*b,true)else(0,false)
   else((a.tmod b+b).tmod b,eC ((a.tmod b+b).tmod b))
  |[a,b,c]=>(if a=1 then b else c,eC (if a=1 then b else c))
  |_=>(0,false)
def gD(p:Int×Bool):D:=if p.2 then .aZ [I p.1,aK true]else .aZ [I 0,aK false]
def afP(v:Int):p6 v true=gD (v,eC v):=by simp[p6,gD]
def kr{l:List Int}{i:Nat}{y:Int}(h:l[i]?=some y):b3 1 (cc l) (I (i:Int))=some [I y]:=by simp[cc,h]
theorem B9{y:Int}{l:List Int}:b3 1 (cc (y::l)) (I 0)=some [I y]:=kr (i:=0) rfl
theorem E3{x y:Int}{l:List Int}:b3 1 (cc (x::y::l)) (I 1)=some [I y]:=kr (i:=1) rfl
theorem axr{x y z:Int}{l:List Int}:b3 1 (cc (x::y::z::l)) (I 2)=some [I z]:=kr (i:=2) rfl
def iy(l:List Int):fW (cc l)=some (I l.length):=by simp[cc]
def V4:∀(l:List Int),(∀v∈l,eC v=true)->-(9007199254740992*(l.length:Int))<=l.sum/\l.sum<=9007199254740992*(l.length:Int)
 |[],_=>by simp|a::r,h=>by have:=V4 r λv aS=>h v (by simp[aS]);have:=(kq a).1 (h a (by simp));simp only[List.sum_cons,xan];omega
def axs{l:List Int}(h:∀v∈l,eC v=true)(al:l.length<=64)(i:Nat):-576460752303423488<=(l.take i).sum/\(l.take i).sum<=576460752303423488:=by
 have:=V4 (l.take i) λv aS=>h v (xbq aS);have hle:(l.take i).length<=64:=by rw[xbB];omega
 omega
def axt(n:Nat)(E4 d1 d2 d3 d4:D)(l:List Int)(h:∀v∈l,eC v=true)(al:l.length<=64)(aN:64<n):bJ (Js n) n [E4,I 0,cc l,I l.length,I 0,d1,d2,d3,d4]=some (.inl [E4,I l.sum,d1,d2,d3,d4]):=by
 have ag:=dy (f:=Js n) l (λi (s:Int)=>[E4,I s,cc l,I l.length,I (i:Int),d1,d2,d3,d4]) (λr s=>(Sum.inl [E4,I (s+r.sum),d1,d2,d3,d4]:List D⊕D)) (λi s=>s=(l.take i).sum) (λs _=>by simp[Js]) ?_ n 0 0 (by simp) (by omega) (xai _);.have bT:(I ((0:Nat):Int))=I 0:=rfl;rw[bT]at ag;simpa using ag
 intro i a s aG ag az;left;have aj:=axs h al i;have aaj:=(kq a).1 (h a (xad aG));have fZ:bD false .add (I s) (I a)=some (I (s+a)):=e9 (by omega) (by omega);refine⟨s+a,by simp[Js,ag,kr aG,fZ,cf (bt:=false) (i:=i) (by omega)],by simp[Int.add_assoc],?_⟩;rw[List.take_add_one,aG,az];simp
def Ko{a b:Int}(aj:1<=b):-b<a.tmod b/\a.tmod b<b:=by have J:=Int.tmod_lt_of_pos a (show 0<b by omega);have aa:=Int.lt_tmod_of_pos a (show 0<b by omega);exact⟨aa,J⟩
set_option maxHeartbeats 1000000 in
def axu(n:Nat)(t:Tm)(l:List Int)(aS:Valid t)(b6:l.length=t.bf.length)(eb:5<=t.op)(av:∀v∈l,eC v=true)(aN:100<n) (aj:(t.op<=9->∀v∈l,v=0\/v=1)/\(t.op=18->∀v,l[0]?=some v->v=0\/v=1)) (hm:t.op=17->∀v,l[1]?=some v->1<=v/\v<=255):kL n [t.d,cc l]=some (gD (ga t.op l)):=by
 have rK:=aS.op;have bI:=aS.len;have bc:=Tm.qC t;have dp:=Tm.oq t;have ai:=yO (op:=t.op);have wK:=B7 (op:=t.op);have yQ:=aS.E1;have afQ:=iy l;have ic:=afL n;have Ca:=λE4 d1 d2 d3 d4=>axt n E4 d1 d2 d3 d4 l av (by omega) (by omega);by_cases s8:t.op=6\/t.op=7
 .have fM:1<=l.length:=by
   have:gG t.op=(1,64):=by unfold gG;rw[xae (by omega),xae (by omega),xac s8]
   rw[this]at bI;simp only at bI;omega
  generalize t.op=op at*;rcases s8 with rfl|rfl
  .simp[kL,l0,dp,bc,afQ,Ca,ga,gD,ic,-aaQ];by_cases ah:l.sum=(l.length:Int)<;>simp[ah,ic]
  simp[kL,l0,dp,bc,afQ,Ca,ga,gD,ic,-aaQ];by_cases ah:l.sum=(l.length:Int)
  .have:0<l.sum:=by omega
   have aU:0<l.length:=by omega
   simp[ah,ic,aU]
  by_cases ar:0<l.sum<;>simp[ah,ar,ic]
 have mb:t.op=5->l.length=1:=λh=>by
  have:gG t.op=(1,1):=by rw[h];rfl
  rw[this]at bI;simp only at bI;omega
 by_cases ca:t.op=5
 .have:=mb ca
  match l,this with
  |[a],_=>
   have aG:=aj.1 (by omega) a (by simp);have g0:=B9 (y:=a) (l:=[]);generalize t.op=op at*;subst ca;rcases aG with rfl|rfl
   .simp[kL,l0,dp,bc,g0,ga,gD,ic,tr,eC]
   simp[kL,l0,dp,bc,g0,ga,gD,ic,tr,eC]
 by_cases o5:t.op=18
 .rw[wK o5]at bI;obtain⟨a,b,c,rfl⟩:=wJ (l:=l) (by simp only at bI;omega);have aG:=aj.2 o5 a rfl;have g0:=B9 (y:=a) (l:=[b,c]);have g1:=E3 (x:=a) (y:=b) (l:=[c]);have g2:=axr (x:=a) (y:=b) (z:=c) (l:=[]);have adx:=av b (by simp);have axv:=av c (by simp);generalize t.op=op at*;subst o5;rcases aG with rfl|rfl
  .simp[kL,l0,dp,bc,g0,g1,g2,ga,gD,axv]
  simp[kL,l0,dp,bc,g0,g1,g2,ga,gD,adx]
 rw[ai (by omega)]at bI;obtain⟨a,b,rfl⟩:=rJ (l:=l) (by simp only at bI;omega);have g0:=B9 (y:=a) (l:=[b]);have g1:=E3 (x:=a) (y:=b) (l:=[]);have afR:=av a (by simp);have zi:=av b (by simp);have V5:=(kq a).1 afR;have afS:=(kq b).1 zi;have dm:=Pe n a b (by omega) (by omega);have cL:=Pe n a (-b) (by omega) (by omega);have cQ:=axq n a b afR zi;have V6:IntKind.i64.wrap (-b)=-b:=wrap64 _ (by omega) (by omega);have nU:a+-b=a-b:=by omega
 have ad:∀p:Int×Bool,(bz 0 (gD p))=some (I (if p.2 then p.1 else 0))/\(bz 1 (gD p))=some (aK p.2):=by intro p;obtain⟨v,o⟩:=p;cases o<;>simp[gD]
 have aH:∀p:Int×Bool,D.aZ [I (if p.2 then p.1 else 0),aK p.2]=gD p:=by intro p;obtain⟨v,o⟩:=p;cases o<;>simp[gD]
 rw[nU]at cL;rw[afP]at dm cL cQ;by_cases o0:t.op=17
 .obtain⟨bN,bO⟩:=hm o0 b rfl;have m1:=Ko (a:=a) bN;have Kp:b≠0:=by omega
  have gv:bD false .add (I (a.tmod b)) (I b)=some (I (a.tmod b+b)):=e9 (by omega) (by omega);have m2:=Ko (a:=a.tmod b+b) bN;have cS:eC ((a.tmod b+b).tmod b)=true:=(kq _).2 (by omega);have aM:bD false .rem (I a) (I b)=some (I (a.tmod b)):=Ha Kp;have a8:bD false .rem (I (a.tmod b+b)) (I b)=some (I ((a.tmod b+b).tmod b)):=Ha Kp;generalize t.op=op at*;subst o0;simp[kL,l0,dp,bc,g0,g1,ga,gD,aM,a8,gv,cS]
 have ah:t.op=8\/t.op=9\/t.op=10\/t.op=11\/t.op=12\/t.op=13\/t.op=14\/t.op=15\/t.op=16:=by omega
 have axw:t.op=8->(b=0\/b=1):=λh=>aj.1 (by omega) b (by simp);generalize t.op=op at*;rcases ah with rfl|rfl|rfl|rfl|rfl|rfl|rfl|rfl|rfl
 .rcases axw rfl with rfl|rfl
  .by_cases s9:a=0;.simp[kL,l0,dp,bc,g0,g1,ga,gD,ic,s9,B9,E3]
   have Kq:(a==0)=false:=by simpa using s9
   simp[kL,l0,dp,bc,g0,g1,ga,gD,ic,s9,Kq,B9,E3]
  by_cases s9:a=0;.simp[kL,l0,dp,bc,g0,g1,ga,gD,ic,s9,B9,E3]
  have Kq:(a==0)=false:=by simpa using s9
  simp[kL,l0,dp,bc,g0,g1,ga,gD,ic,s9,Kq,B9,E3]
 .simp[kL,l0,dp,bc,g0,g1,ga,gD,ic]
 .simp[kL,l0,dp,bc,g0,g1,ga,gD,ic]
 .simp[kL,l0,dp,bc,g0,g1,ga,gD,ic]
 .simp[kL,l0,dp,bc,g0,g1,ga,gD,ic]
 .simp[kL,l0,dp,bc,g0,g1,ga,gD,ic]
 .simp[kL,l0,dp,bc,g0,g1,ga,dm,ad];rw[<-aH]
 .simp[kL,l0,dp,bc,g0,g1,ga,V6,cL,ad];rw[<-aH]
 simp[kL,l0,dp,bc,g0,g1,ga,cQ,ad];cases bU:eC (a*b)<;>simp[gD]
def nY(vs:List V)(s nn:List Int)(t:Tm):Option Nat:=if(if t.op=4 then nn else s).length=vs.length then eB vs t.name else none
def axx{vs:List V}{s nn:List Int}{t:Tm}{i:Nat}(h:nY vs s nn t=some i):eB vs t.name=some i/\(if t.op=4 then nn else s).length=vs.length:=by
 unfold nY at h;by_cases ah:(if t.op=4 then nn else s).length=vs.length;.rw[xac ah]at h;exact⟨h,ah⟩
 rw[xae ah]at h;cases h
def lf(vs:List V)(s nn:List Int)(t:Tm):Int×Bool:=if t.op<=2 then(t.num,true)
 else match nY vs s nn t with
  |none=>(0,false)
  |some i=>match vs[i]?,(if t.op=4 then nn else s)[i]? with
   |some v,some x=>if v.bool then(tr (x !=0),true)else(x,eC x)
   |_,_=>(0,false)
mutual
def e2(vs:List V)(s nn:List Int):Tm->Int×Bool
 | .mk o n a b ks=>if o<=4 then lf vs s nn (.mk o n a b ks)else match hE vs s nn ks with|some l=>ga o l|none=>(0,false)
def hE(vs:List V)(s nn:List Int):List Tm->Option (List Int)
 |[]=>some []
 |t::r=>if(e2 vs s nn t).2 then match hE vs s nn r with|some l=>some ((e2 vs s nn t).1::l)|none=>none
  else none
end
theorem rO(vs:List V)(s nn:List Int)(t:Tm):e2 vs s nn t=if t.op<=4 then lf vs s nn t else match hE vs s nn t.bf with|some l=>ga t.op l|none=>(0,false):=by cases t;rw[e2];rfl
mutual
def steps:Tm->Bool
 | .mk o _ _ _ ks=>o==4||p7 ks
def p7:List Tm->Bool
 |[]=>false|t::r=>steps t||p7 r
end
theorem Pl(t:Tm):steps t=(t.op==4||p7 t.bf):=by cases t;rw[steps];rfl
def afT:∀{l:List Tm}{t:Tm},t∈l->p7 l=false->steps t=false
 |a::r,t,h,az=>by
  rw[p7,Bool.or_eq_false_iff]at az;rcases xam.1 h with rfl|h
  .exact az.1
  exact afT h az.2
theorem V7(b:Bool):eC (tr b)=true:=by cases b<;>rfl
def E5(p:Int×Bool):Prop:=p.2=true->eC p.1=true
def uS{c:Prop}[Decidable c]{p q:Int×Bool}(aU:E5 p)(bU:c\/E5 q):E5 (if c then p else q):=by
 split;.exact aU
 exact bU.resolve_left (by assumption)
def Cb(b:Bool):E5 (tr b,true):=λ_=>V7 b
def Kr(v:Int):E5 (v,eC v):=λh=>h
def axy{op:Int}{l:List Int}:E5 (ga op l):=by
 unfold ga;refine uS (Cb _) (.inr (uS (Cb _) (.inr ?_)))
 match l with
 |[]=>intro h;cases h
 |[a]=>exact Kr _|[a,b,c]=>exact Kr _|a::b::c::d::r=>intro h;cases h
 |[a,b]=>
  refine uS (Cb _) (.inr (uS (Cb _) (.inr (uS (Cb _) (.inr (uS (Cb _) (.inr (uS (Cb _) (.inr (uS (Kr _) (.inr (uS (Kr _) (.inr (uS ?_ (.inr (Kr _))))))))))))))));by_cases h:eC (a*b)=true;.rw[xac h];exact λ_=>h
  rw[xae h];intro h;cases h
def axz{vs:List V}{s nn:List Int}{t:Tm}(aS:Valid t)(h:(lf vs s nn t).2=true):eC (lf vs s nn t).1=true:=by
 have aN:=aS.num;unfold lf at*;by_cases aa:t.op<=2;.rw[xac aa];exact(kq _).2 (by simp only;omega)
 rw[xae aa]at*;cases ag:nY vs s nn t with
 |none=>simp[ag]at h
 |some i=>
  rw[ag]at h;simp only at h⊢;cases hw:vs[i]? with
  |none=>rw[hw]at h;cases h
  |some v=>
   cases ad:((if t.op=4 then nn else s)[i]?)with
   |none=>rw[hw,ad]at h;cases h
   |some x=>
    rw[hw,ad]at h;simp only at h⊢;by_cases aj:v.bool=true;.rw[xac aj];exact V7 _
    rw[xae aj]at*;exact h
def afU{vs:List V}{s nn:List Int}{t:Tm}(aS:Valid t)(h:(e2 vs s nn t).2=true):eC (e2 vs s nn t).1=true:=by
 rw[rO]at*;by_cases bj:t.op<=4;.rw[xac bj]at*;exact axz aS h
 rw[xae bj]at*;split at h;.rename_i l al;exact axy h
 cases h
def yS(v:Int):Prop:=v=0\/v=1
def Ks(b:Bool):yS (tr b):=by cases b<;>simp[tr,yS]
theorem E6(lo ag:Int):(hC lo ag).1.b=false:=by unfold hC;split<;>rfl
def axA(op:Int)(a b:Y):(p5 op a b).1.b=false:=by unfold p5;split<;>(try split)<;>exact E6 _ _
def V8(vs:List V)(nx:Bool)(s nn:List Int):∀{ks:List Tm}{l:List Int},(er vs nx ks).2=0->hE vs s nn ks=some l->l.length=ks.length/\∀(i:Nat)(y:Y)(v:Int),(er vs nx ks).1[i]?=some y->l[i]?=some v-> ∃k,ks[i]?=some k/\(ed vs nx k).2=0/\y=(ed vs nx k).1/\(e2 vs s nn k).2=true/\v=(e2 vs s nn k).1
 |[],l,_,aS=>by cases aS;exact⟨rfl,by intro i y v _ h;simp at h⟩
 |k::r,l,h,aS=>by
  rw[er]at*;rw[hE]at aS;by_cases J:(ed vs nx k).2=0
  case neg=>rw[xac J]at h;exact absurd h J
  have dS:¬(ed vs nx k).2≠0:=by simpa using J
  rw[xae dS]at h⊢;by_cases aa:(er vs nx r).2=0
  case neg=>rw[xac aa]at h;exact absurd h aa
  have gT:¬(er vs nx r).2≠0:=by simpa using aa
  rw[xae gT]at h⊢;by_cases ax:(e2 vs s nn k).2=true
  case neg=>rw[xae ax]at aS;cases aS
  rw[xac ax]at aS;cases bj:hE vs s nn r with
  |none=>rw[bj]at aS;cases aS
  |some kc=>rw[bj]at aS;cases aS;obtain⟨g1,g2⟩:=V8 vs nx s nn aa bj;refine⟨by simp[g1],?_⟩;intro i y v aH hw;cases i with|zero=>simp at aH hw;exact⟨k,rfl,J,aH.symm,ax,hw.symm⟩|succ i=>simpa using g2 i y v (by simpa using aH) (by simpa using hw)
def Pm{t:Tm}{l:List Y}(h:(hj t l).2=0)(J:5<=t.op/\t.op<=9):l.all Y.b=true:=by
 unfold hj at h;rw[xac J]at h;by_cases ah:l.all Y.b=true;.exact ah
 rw[xae ah]at h;cases h
def V9{t:Tm}{a b c:Y}(h:(hj t [a,b,c]).2=0)(J:¬(5<=t.op/\t.op<=9)):a.b=true/\b.b=c.b/\((hj t [a,b,c]).1.b=true->b.b=true):=by
 unfold hj at*;rw[xae J]at*;simp only at h⊢;by_cases ah:(!a.b||(b.b !=c.b))=true;.rw[xac ah]at h;cases h
 rw[xae ah]at*;refine⟨by cases aG:a.b<;>simp_all,by cases aj:b.b<;>cases LL:c.b<;>simp_all,?_⟩;by_cases aj:b.b=true;.exact λ_=>aj
 rw[xae aj,E6];intro h;cases h
def afV{t:Tm}{a b:Y}(h:(hj t [a,b]).2=0)(J:t.op=17){k:Tm}(ai:t.bf[1]?=some k):k.op=1/\1<=k.num:=by
 unfold hj at h;rw[xae (by omega)]at h;simp only at h;rw[xae (by omega)]at h;by_cases ah:(a.b||b.b)=true;.rw[xac ah]at h;cases h
 rw[xae ah,xae (by omega),xac J,ai]at h;simp only at h;by_cases ay:k.op≠1\/k.num<1;.rw[xac ay]at h;cases h
 omega
def axB{t:Tm}{a b:Y}(J:14<=t.op/\t.op<=17):(hj t [a,b]).1.b=false:=by
 unfold hj;rw[xae (by omega)];simp only;rw[xae (by omega)];split;.rfl
 rw[xae (by omega)];split
 .split
  .split;.rfl
   exact E6 _ _
  rfl
 exact axA _ _ _
def axC{vs:List V}{nx:Bool}{s nn:List Int}{t:Tm}(aS:Valid t)(h:(ld vs nx t).1.b=true)(av:(lf vs s nn t).2=true):yS (lf vs s nn t).1:=by
 have aN:=aS.num;unfold ld at h;unfold lf at*;by_cases J:t.op=1;.rw[xac J,E6]at h;cases h
 rw[xae J]at h;by_cases aa:t.op=2;.rw[xac (by omega)];unfold yS;simp only;omega
 rw[xae aa]at h;have eb:=aS.op;rw[xae (by omega)]at*;cases ag:nY vs s nn t with
 |none=>rw[ag]at av;cases av
 |some i=>
  rw[(axx ag).1]at h;rw[ag]at av;simp only at h av⊢;by_cases ax:t.op=4/\nx=false;.rw[xac ax]at h;cases h
  rw[xae ax]at h;cases hw:vs[i]? with
  |none=>rw[hw]at av;cases av
  |some v=>
   rw[hw]at h av;simp only at h;by_cases aj:v.bool=true
   .cases ad:((if t.op=4 then nn else s)[i]?)with
    |none=>rw[ad]at av;cases av
    |some x=>simp only;rw[xac aj];exact Ks _
   rw[xae aj,E6]at h;cases h
def afW(vs:List V)(nx:Bool)(s nn:List Int)(t:Tm):Valid t->(ed vs nx t).2=0->(ed vs nx t).1.b=true->(e2 vs s nn t).2=true->yS (e2 vs s nn t).1:=by
 refine Tm.ind (P:=λt=>Valid t->(ed vs nx t).2=0->(ed vs nx t).1.b=true->(e2 vs s nn t).2=true->yS (e2 vs s nn t).1) ?_ t;intro t ih aS h aj av;rw[o4]at h aj;rw[rO]at av⊢;by_cases bj:t.op<=4;.rw[xac bj]at*;exact axC aS aj av
 rw[xae bj]at*;by_cases ar:(er vs nx t.bf).2=0
 case neg=>rw[xac ar]at h;exact absurd h ar
 rw[xae (by simpa using ar)]at h aj;cases al:hE vs s nn t.bf with
 |none=>rw[al]at av;cases av
 |some l=>
  rw[al]at av;simp only at av⊢;obtain⟨g1,g2⟩:=V8 vs nx s nn ar al;obtain⟨g3,_⟩:=E0 vs nx t.bf ar;have eb:=aS.op;have bI:=aS.len;have ai:=yO (op:=t.op);have wK:=B7 (op:=t.op);unfold ga;by_cases cR:t.op=6
  .rw[xac cR];exact Ks _
  rw[xae cR];by_cases fP:t.op=7;.rw[xac fP];exact Ks _
  rw[xae fP];by_cases ca:t.op=5
  .have:gG t.op=(1,1):=by rw[ca];rfl
   rw[this]at bI
   match l,g1,g2 with
   |[a],g1,g2=>
    have fl:=Pm h (by omega);have:0<(er vs nx t.bf).1.length:=by simp at g1;omega
    obtain⟨k,bN,bO,cx,dX,eO⟩:=g2 0 _ a (xab this) rfl;have afX:=xaB.1 fl _ (xbc this);rw[cx]at afX;have:=ih k (xad bN) (aS.fO (xad bN)) bO afX dX;rw[<-eO]at this;simp only;rcases this with h|h<;>subst h<;>simp[yS]
   |[],g1,_=>simp at g1;simp only at bI;omega|_::_::_,g1,_=>simp at g1;simp only at bI;omega
  by_cases o5:t.op=18
  .rw[wK o5]at bI;have axD:l.length=3:=by simp only at bI;omega
   obtain⟨a,b,c,rfl⟩:=wJ axD;obtain⟨Kt,E7,Wa,aH⟩:=wJ (l:=(er vs nx t.bf).1) (by simp only at bI;omega);rw[aH]at h aj g2;obtain⟨E8,wM,afY⟩:=V9 h (by omega);have afZ:=afY aj;have get:∀(i:Nat)(y:Y)(v:Int),[Kt,E7,Wa][i]?=some y->[a,b,c][i]?=some v->y.b=true->yS v:=by intro i y v aH hw axE;obtain⟨k,bN,bO,cx,dX,eO⟩:=g2 i y v aH hw;rw[eO];exact ih k (xad bN) (aS.fO (xad bN)) bO (by rw[<-cx];exact axE) dX
   simp only;by_cases aG:a=1;.rw[xac aG];exact get 1 E7 b rfl rfl afZ
   rw[xae aG];exact get 2 Wa c rfl rfl (by rw[<-wM];exact afZ)
  rw[ai (by omega)]at bI;obtain⟨a,b,rfl⟩:=rJ (l:=l) (by simp only at bI;omega);obtain⟨Kt,E7,aH⟩:=rJ (l:=(er vs nx t.bf).1) (by simp only at bI;omega);rw[aH]at h aj;have nq:t.op<=13:=by refine xbi λah=>?_;rw[axB (by omega)]at aj;cases aj
  simp only;have ah:t.op=8\/t.op=9\/t.op=10\/t.op=11\/t.op=12\/t.op=13:=by omega
  rcases ah with e|e|e|e|e|e<;>simp only[e]<;>exact Ks _
def af0{vs:List V}{nx:Bool}{s nn:List Int}{t:Tm}{l:List Int}(aS:Valid t)(h:(ed vs nx t).2=0)(ca:5<=t.op)(al:hE vs s nn t.bf=some l):l.length=t.bf.length/\(∀v∈l,eC v=true)/\((t.op<=9->∀v∈l,v=0\/v=1)/\(t.op=18->∀v,l[0]?=some v->v=0\/v=1))/\(t.op=17->∀v,l[1]?=some v->1<=v/\v<=255):=by
 rw[o4,xae (by omega)]at h;by_cases ar:(er vs nx t.bf).2=0
 case neg=>rw[xac ar]at h;exact absurd h ar
 rw[xae (by simpa using ar)]at h;obtain⟨g1,g2⟩:=V8 vs nx s nn ar al;obtain⟨g3,_⟩:=E0 vs nx t.bf ar;have eb:=aS.op;have bI:=aS.len;have at_:∀(i:Nat)(v:Int),l[i]?=some v->∃k y,t.bf[i]?=some k/\(er vs nx t.bf).1[i]?=some y/\(ed vs nx k).2=0/\y=(ed vs nx k).1/\(e2 vs s nn k).2=true/\v=(e2 vs s nn k).1:=by
  intro i v ag;have b6:i<(er vs nx t.bf).1.length:=by have:=(xaa.1 ag).1;omega
  obtain⟨k,bN,bO,cx,dX,eO⟩:=g2 i _ v (xab b6) ag;exact⟨k,_,bN,xab b6,bO,cx,dX,eO⟩
 refine⟨g1,?_,⟨?_,?_⟩,?_⟩;.intro v hm;obtain⟨i,ag⟩:=xaF.1 hm;obtain⟨k,y,bN,bO,cx,dX,eO,fB⟩:=at_ i v ag;rw[fB];exact afU (aS.fO (xad bN)) eO
 .intro iV v hm;obtain⟨i,ag⟩:=xaF.1 hm;obtain⟨k,y,bN,bO,cx,dX,eO,fB⟩:=at_ i v ag;have fl:=xaB.1 (Pm h ⟨ca,iV⟩) y (xad bO);rw[fB];exact afW vs nx s nn k (aS.fO (xad bN)) cx (by rw[<-dX];exact fl) eO
 .intro o5 v ag;obtain⟨k,y,bN,bO,cx,dX,eO,fB⟩:=at_ 0 v ag;rw[B7 o5]at bI;obtain⟨Kt,E7,Wa,aH⟩:=wJ (l:=(er vs nx t.bf).1) (by simp only at bI;omega);rw[aH]at h bO;have aA:=(V9 h (by omega)).1;cases bO;rw[fB];exact afW vs nx s nn k (aS.fO (xad bN)) cx (by rw[<-dX];exact aA) eO
 intro o0 v ag;obtain⟨k,y,bN,bO,cx,dX,eO,fB⟩:=at_ 1 v ag;rw[yO (by omega)]at bI;obtain⟨Kt,E7,aH⟩:=rJ (l:=(er vs nx t.bf).1) (by simp only at bI;omega);rw[aH]at h;obtain⟨E8,wM⟩:=afV h o0 bN;have F4:=(aS.fO (xad bN)).num;have:e2 vs s nn k=(k.num,true):=by rw[rO,xac (by omega)];unfold lf;rw[xac (by omega)]
 rw[fB,this];exact⟨wM,by simp only;omega⟩
def iL(b:Bool)(l:List Int):D:=cH 1 b (l.map λx=>[I x])
@[simp] theorem aEp (b:Bool) (l:List Int):fW (iL b l)=some (I l.length):=by simp[iL]
@[simp] theorem aEq (b:Bool) (l:List Int):bV (iL b l)=true:=by unfold iL cH;split<;>rfl
def af1{b:Bool}{l:List Int}{i:Nat}{x:Int}(h:l[i]?=some x):b3 1 (iL b l) (I (i:Int))=some [I x]:=by
 have cp:l≠[]:=by rintro rfl;simp at h
 have:iL b l= .aW 1 (l.map λx=>[I x]):=by unfold iL cH;rw[xae (by simp[cp])]
 rw[this];simp[h]
def af2(l:List Int):iL false l=cc l:=by simp[iL,cH,cc]
theorem E9:iL true []=de:=rfl
variable{bn:Bool}
theorem Pn{k:Nat}:cC (k+1) (I 0)=some 0:=by rw[SV (by omega) (by omega)];rfl
theorem af3{k:Nat}:cC (k+2) (I 1)=some 1:=by rw[SV (by omega) (by omega)];rfl
theorem axF{k:Nat}:cC (k+3) (I 2)=some 2:=by rw[SV (by omega) (by omega)];rfl
def axG{x:Int}(J:x≠0)(aa:x.natAbs<=9007199254740992):bD false .quo (I 9007199254740992) (I (x.natAbs:Int))=some (I ((9007199254740992/x.natAbs:Nat):Int)):=by
 have ad:(x.natAbs:Int)≠0:=by omega
 rw[aaT ad];have e:(9007199254740992:Int).tdiv (x.natAbs:Int)=((9007199254740992/x.natAbs:Nat):Int):=by rw[Int.tdiv_eq_ediv_of_nonneg (by omega)];rfl
 have ax:=Nat.div_le_self 9007199254740992 x.natAbs;rw[e];generalize 9007199254740992/x.natAbs=q at*;rw[wrap64 _ (by omega) (by omega)]
def axH(a b:Int)(h:a≠0):(b.natAbs:Int)>((9007199254740992/a.natAbs:Nat):Int)↔eC (a*b)=false:=by
 have aU:0<a.natAbs:=by omega
 have J:eC (a*b)=false↔9007199254740992<a.natAbs*b.natAbs:=by
  rw[<-Int.natAbs_mul];have:=kq (a*b);constructor
  .intro h;refine xbi λah=>?_;rw[this.2 (by omega)]at h;cases h
  intro h;cases bU:eC (a*b)with|false=>rfl|true=>exact absurd (this.1 bU) (by omega)
 rw[J,Nat.mul_comm,<-Nat.div_lt_iff_lt_mul aU];omega
set_option maxHeartbeats 2000000 in
def axI(xw:List D->Option D)(n:Nat)(vs:List V)(s nn:List Int)(t:Tm)(l:List Int)(aS:Valid t)(b6:l.length=t.bf.length)(eb:5<=t.op)(av:∀v∈l,eC v=true) (aj:(t.op<=9->∀v∈l,v=0\/v=1)/\(t.op=18->∀v,l[0]?=some v->v=0\/v=1)) (hm:t.op=17->∀v,l[1]?=some v->1<=v/\v<=255) (jn:bJ (yq xw n) n [bu vs,cc s,iL bn nn,I 0,I 0,I t.op,I t.num,a6 t.name,cH 4 t.nl (Tm.rows t.bf),.aW 1 []]=some (.inl [I (if t.op=6\/t.op=7 then l.sum else 0),I t.op,I t.num,a6 t.name,cH 4 t.nl (Tm.rows t.bf),cc l])):mA xw n (bu vs) t.d (cc s) (iL bn nn)=some (.aZ [I (ga t.op l).1,aK (ga t.op l).2]):=by
 have rK:=aS.op;have bI:=aS.len;have bc:=Tm.qC t;have c1:=Tm.ug t;have c2:=Tm.uh t;have b8:=Tm.sw t;have dp:=Tm.oq t;have ai:=yO (op:=t.op);have wK:=B7 (op:=t.op);have yQ:=aS.E1;have ic:=afM n;have p8:=afN n;have es:∀l:List Int,bb (cc l)=l.map λv=>[I v]:=λ_=>rfl;have Ku:∀b:Bool,eC (tr b)=true:=V7;by_cases s8:t.op=6\/t.op=7
 .generalize t.op=op at*;rcases s8 with rfl|rfl
  .simp[mA,dp,bc,c1,c2,b8,jn,es,ic,p8,ga,Ku];rfl
  simp[mA,dp,bc,c1,c2,b8,jn,es,ic,p8,ga,Ku]
 by_cases ca:t.op=5
 .have:gG t.op=(1,1):=by rw[ca];rfl
  rw[this]at bI;have mb:l.length=1:=by simp only at bI;omega
  match l,mb with|[a],_=>have aG:=aj.1 (by omega) a (by simp);have aM:bD false .sub (I 1) (I a)=some (I (1-a)):=oo (by omega) (by omega);generalize t.op=op at*;subst ca;simp[mA,dp,bc,c1,c2,b8,jn,es,p8,ga,Pn,aM]
 by_cases o5:t.op=18;.rw[wK o5]at bI;obtain⟨a,b,c,rfl⟩:=wJ (l:=l) (by simp only at bI;omega);generalize t.op=op at*;subst o5;by_cases aG:a=1<;>simp[mA,dp,bc,c1,c2,b8,jn,es,p8,ga,Pn,af3,axF,aG]
 rw[ai (by omega)]at bI;obtain⟨a,b,rfl⟩:=rJ (l:=l) (by simp only at bI;omega);have V5:=(kq a).1 (av a (by simp));have afS:=(kq b).1 (av b (by simp));have na:cC 2 (I 0)=some 0:=Pn;have oe:cC 2 (I 1)=some 1:=af3;by_cases o0:t.op=17
 .obtain⟨bN,bO⟩:=hm o0 b rfl;have m1:=Ko (a:=a) bN;have Kp:b≠0:=by omega
  have gv:bD false .add (I (a.tmod b)) (I b)=some (I (a.tmod b+b)):=e9 (by omega) (by omega);have aM:bD false .rem (I a) (I b)=some (I (a.tmod b)):=Ha Kp;have a8:bD false .rem (I (a.tmod b+b)) (I b)=some (I ((a.tmod b+b).tmod b)):=Ha Kp;generalize t.op=op at*;subst o0;simp[mA,dp,bc,c1,c2,b8,jn,es,p8,ga,na,oe,aM,a8,gv]
 by_cases fg:t.op=16
 .have af4:=afO n a (by omega);have af5:=afO n b (by omega);have Po:=axH a b;have aEr:=afK V5 afS;generalize t.op=op at*;subst fg;by_cases aG:a=0
  .subst aG;have aM:bD false .mul (I 0) (I b)=some (I 0):=by rw[xQ (by omega) (by omega),Int.zero_mul]
   simp[mA,dp,bc,c1,c2,b8,jn,es,p8,ga,na,oe,aM,show eC 0=true from rfl]
  have bU:=axG aG V5;have Po:=Po aG;have zF:(a==0)=false:=by simpa using aG
  generalize 9007199254740992/a.natAbs=q at*;by_cases bm:eC (a*b)=true
  .have J:¬((b.natAbs:Int)>(q:Int)):=λh=>by rw[Po.1 h]at bm;cases bm
   have dS:decide ((b.natAbs:Int)>(q:Int))=false:=xat J;have aEs:=(kq _).1 bm;have aM:bD false .mul (I a) (I b)=some (I (a*b)):=xQ (by omega) (by omega);have a8:bD false .gtr (I (b.natAbs:Int)) (I (q:Int))=some (aK false):=by rw[pU,dS]
   simp[mA,dp,bc,c1,c2,b8,jn,es,p8,ga,na,oe,af4,af5,bU,a8,aM,bm,aG]
  have Kv:eC (a*b)=false:=by simpa using bm
  have dS:decide ((b.natAbs:Int)>(q:Int))=true:=xao (Po.2 Kv);have a8:bD false .gtr (I (b.natAbs:Int)) (I (q:Int))=some (aK true):=by rw[pU,dS]
  simp[mA,dp,bc,c1,c2,b8,jn,es,p8,ga,na,oe,af4,af5,bU,a8,Kv,aG]
 have ah:t.op=8\/t.op=9\/t.op=10\/t.op=11\/t.op=12\/t.op=13\/t.op=14\/t.op=15:=by omega
 have dw:bD false .add (I a) (I b)=some (I (a+b)):=e9 (by omega) (by omega);have axJ:bD false .sub (I a) (I b)=some (I (a-b)):=oo (by omega) (by omega);have aEt:∀x y:Int,qM n [aK (x==y)]=some (I (tr (x==y))):=λ_ _=>ic _;generalize t.op=op at*;rcases ah with rfl|rfl|rfl|rfl|rfl|rfl|rfl|rfl
 .by_cases s9:a=0;.simp[mA,dp,bc,c1,c2,b8,jn,es,ic,p8,ga,Ku,na,oe,s9]
  have Kq:(a==0)=false:=by simpa using s9
  simp[mA,dp,bc,c1,c2,b8,jn,es,ic,p8,ga,Ku,na,oe,s9,Kq]
 all_goals simp[mA,dp,bc,c1,c2,b8,jn,es,ic,p8,ga,Ku,na,oe,dw,axJ]
variable{bn:Bool}
def af6{a b:Nat}(h:a+b<=1000):cT (a+b) 8=true:=fX (by omega) (by omega)
def af7{vs:List V}{nx:Bool}{t:Tm}(h:(ld vs nx t).2=0)(ax:3<=t.op):∃i,eB vs t.name=some i:=by
 unfold ld at h;rw[xae (by omega),xae (by omega)]at h;cases ag:eB vs t.name with
 |none=>rw[ag]at h;cases h
 |some i=>exact⟨i,rfl⟩
def Wb{vs:List V}{nx:Bool}:∀{l:List Tm},(er vs nx l).2=0->∀k∈l,(ed vs nx k).2=0
 |[],_,k,ai=>by cases ai
 |t::r,h,k,ai=>by
  rw[er]at h;by_cases J:(ed vs nx t).2=0
  case neg=>rw[xac J]at h;exact absurd h J
  rw[xae (by simpa using J)]at h;by_cases aa:(er vs nx r).2=0
  case neg=>rw[xac aa]at h;exact absurd h aa
  rcases xam.1 ai with rfl|ai;.exact J
  exact Wb aa k ai
def Kw{vs:List V}{nx:Bool}{t k:Tm}(aS:Valid t)(h:(ed vs nx t).2=0)(ai:k∈t.bf):(ed vs nx k).2=0:=by
 rw[o4]at h;by_cases bj:t.op<=4;.rw[aS.leaf bj]at ai;cases ai
 rw[xae bj]at h;by_cases ar:(er vs nx t.bf).2=0;.exact Wb ar k ai
 rw[xac ar]at h;exact absurd h ar
def Wc{vs:List V}{i:Nat}{l:List Int}(h:i<vs.length)(al:l.length=vs.length):∃x,l[i]?=some x:=⟨_,xab (by omega)⟩
@[simp] theorem aEu (p:List Int) (x:Int):D.aW 1 (bb (cc p)++[[I x]])=cc (p++[x]):=by simp[cc]
@[simp] theorem aEv (p:List Int):(bb (cc p)).length=p.length:=by simp[cc]
@[simp] theorem aEw (p:List Int):D.aW 1 (bb (cc p))=cc p:=rfl
def af8(vs:List V)(nx:Bool)(s nn:List Int)(jz:vs.length<1000000000000)(az:s.length=vs.length):∀(n:Nat)(t:Tm),t.bC+200+vs.length<n->t.Ok->Valid t->(ed vs nx t).2=0->(steps t=true->nn.length=vs.length)->sY n [bu vs,t.d,cc s,iL bn nn]=some (.aZ [I (e2 vs s nn t).1,aK (e2 vs s nn t).2])
 |0,t,h,_,_,_,_=>absurd h (xaH _)
 |n+1,t,aN,bE,aS,aP,ft=>by
  have eb:=aS.op;have yQ:=aS.E1;rw[rO];show mA (sY n) n (bu vs) t.d (cc s) (iL bn nn)=_;by_cases bj:t.op<=4
  .rw[xac bj];rw[o4,xac bj]at aP;have bc:=Tm.qC t;have c1:=Tm.ug t;have c2:=Tm.uh t;have b8:=Tm.sw t;have dp:=Tm.oq t;have ic:=afM n;have p8:=afN n;by_cases aa:t.op<=2
   .unfold lf;rw[xac aa];have ah:t.op=1\/t.op=2:=by omega
    generalize t.op=op at*;rcases ah with rfl|rfl<;>simp[mA,dp,bc,c1,c2,b8]
   obtain⟨i,ag⟩:=af7 aP (by omega);obtain⟨v,v1,v2,v3⟩:=yP ag;have ad:=VZ n vs t.name (by omega) jz;rw[ag]at ad;have bI:(if t.op=4 then nn else s).length=vs.length:=by
    by_cases h:t.op=4;.rw[xac h];exact ft (by rw[Pl,h];rfl)
    rw[xae h];exact az
   have bX:nY vs s nn t=some i:=by unfold nY;rw[xac bI,ag]
   obtain⟨x,rP⟩:=Wc v3 bI;unfold lf;rw[xae aa,bX];simp only[v1,rP];have ah:t.op=3\/t.op=4:=by omega
   generalize t.op=op at*;rcases ah with rfl|rfl
   .simp only[show¬((3:Int)=4) by omega,xaI]at rP;cases aj:v.bool<;>simp[mA,dp,bc,c1,c2,b8,ad,hk v1,v.wL,kr rP,ic,p8,aj]
   simp only[xaG]at rP;cases aj:v.bool<;>simp[mA,dp,bc,c1,c2,b8,ad,hk v1,v.wL,af1 rP,ic,p8,aj]
  rw[xae bj];have axK:∀k∈t.bf,steps k=true->nn.length=vs.length:=λk ai h=>by refine ft ?_;cases bU:p7 t.bf with|true=>rw[Pl,bU,Bool.or_true]|false=>rw[afT ai bU]at h;cases h
  have al:=dy (f:=yq (sY n) n) t.bf (λi (p:List Int)=>[bu vs,cc s,iL bn nn,I (if t.op=6\/t.op=7 then p.sum else 0),I (i:Int),I t.op,I t.num,a6 t.name,cH 4 t.nl (Tm.rows t.bf),cc p]) (λr p=>match hE vs s nn r with
    |some l=>(Sum.inl [I (if t.op=6\/t.op=7 then(p++l).sum else 0),I t.op,I t.num,a6 t.name,cH 4 t.nl (Tm.rows t.bf),cc (p++l)]:List D⊕D)
    |none=> .inr (.aZ [I 0,aK false]))
   (λi p=>p.length=i/\∀v∈p,eC v=true) ?_ ?_ n 0 [] ⟨rfl,by simp⟩ (by omega) (xai _)
  .have bT:(I ((0:Nat):Int))=I 0:=rfl;have aM:cc []= .aW 1 []:=rfl;rw[bT,aM]at al;simp only[List.sum_nil,ite_self,xal,xaL]at al;cases kP:hE vs s nn t.bf with
   |none=>
    rw[kP]at al;have fH:(t.op==1)=false:=by simp;omega
    have hI:(t.op==2)=false:=by simp;omega
    have kH:(t.op==3)=false:=by simp;omega
    have rM:(t.op==4)=false:=by simp;omega
    simp[mA,fH,hI,kH,rM,al]
   |some l=>rw[kP]at al;obtain⟨g1,g2,g3,g4⟩:=af0 (nx:=nx) aS aP (by omega) kP;exact axI (sY n) n vs s nn t l aS g1 (by omega) g2 g3 g4 al
  .intro p aU;simp[yq,hE]
  intro i a p aG ag aU;have hm:=xad aG;have bF:=Tm.ki hm;have av:=af8 vs nx s nn jz az n a (by omega) (bE.fO hm) (aS.fO hm) (Kw aS aP hm) (axK a hm);have eL:cT (p.length+1) 8=true:=af6 (by omega);by_cases ar:(e2 vs s nn a).2=true
  .left;have cS:=afU (aS.fO hm) ar;refine⟨p++[(e2 vs s nn a).1],?_,?_,by simp[aU.1],?_⟩
   .have tF:=V4 p aU.2;have rZ:=(kq _).1 cS;have fZ:bD false .add (I p.sum) (I (e2 vs s nn a).1)=some (I (p.sum+(e2 vs s nn a).1)):=e9 (by omega) (by omega);by_cases s8:t.op=6\/t.op=7
    .have aEx:(if t.op=6 then true else decide (t.op=7))=true:=by rcases s8 with h|h<;>simp[h]
     rcases s8 with h|h;.simp[yq,ag,Tm.h4 aG,av,ar,cf (bt:=false) (i:=i) (by omega),eL,h,fZ]
     simp[yq,ag,Tm.h4 aG,av,ar,cf (bt:=false) (i:=i) (by omega),eL,h,fZ]
    have cR:¬t.op=6:=λh=>s8 (.inl h);have fP:¬t.op=7:=λh=>s8 (.inr h);simp[yq,ag,Tm.h4 aG,av,ar,cf (bt:=false) (i:=i) (by omega),eL,cR,fP]
   .rw[hE,xac ar];cases hE vs s nn (t.bf.drop (i+1))with|none=>rfl|some l=>simp
   intro v hK;rcases xas.1 hK with h|h
   .exact aU.2 v h
   simp at h;rw[h];exact cS
  right;rw[hE,xae ar];have Kx:(e2 vs s nn a).2=false:=by simpa using ar
  simp[yq,ag,Tm.h4 aG,av,Kx]
theorem axL{M:List (Value×D)}(h:mx M){z:Value}{x:ByteArray}:k4 .string z false M (a6 x)=some (match gP M x with|some d=>d|none=>rW z):=by simp only[k4,a6,abe h];cases gP M x<;>rfl
def Fa(p:Int×Bool):bz 0 (gD p)=some (I (if p.2=true then p.1 else 0)):=by obtain⟨v,o⟩:=p;cases o<;>simp[gD]
def Fb(p:Int×Bool):bz 1 (gD p)=some (aK p.2):=by obtain⟨v,o⟩:=p;cases o<;>simp[gD]
def Fc(p:Int×Bool):D.aZ [I (if p.2=true then p.1 else 0),aK p.2]=gD p:=by obtain⟨v,o⟩:=p;cases o<;>simp[gD]
theorem axM(p:Int×Bool):(gD p).flat=true:=by obtain⟨v,o⟩:=p;cases o<;>rfl
def af9(vs:List V)(nx:Bool)(s nn:List Int)(M:List (Value×D))(cQ:Pc M vs)(jz:vs.length<1000000000000)(az:s.length=vs.length)(cS:∀v,v∈s\/v∈nn->-9223372036854775808<=v/\v<=9223372036854775807):∀(n:Nat)(t:Tm),t.bC+200<n->t.Ok->Valid t->(ed vs nx t).2=0->wz n [t.d,cc s,.mp M,iL bn nn,bu vs]=some [gD (e2 vs s nn t),cc s,.mp M,iL bn nn,bu vs]
 |0,t,h,_,_,_=>absurd h (xaH _)
 |n+1,t,aN,bE,aS,aP=>by
  have eb:=aS.op;have yQ:=aS.E1;rw[rO];show wy (wz n) n [t.d,cc s,.mp M,iL bn nn,bu vs]=_;have al:=dy (f:=Jt (wz n) n) t.bf (λi (p:List Int)=>[cH 4 t.nl (Tm.rows t.bf),I t.bf.length,I (i:Int),cc s,.mp M,iL bn nn,bu vs,I t.op,I t.num,a6 t.name,cH 4 t.nl (Tm.rows t.bf),cc p]) (λr p=>match hE vs s nn r with|some l=>(Sum.inl [cc s,.mp M,iL bn nn,bu vs,I t.op,I t.num,a6 t.name,cH 4 t.nl (Tm.rows t.bf),cc (p++l)]:List D⊕List D)|none=> .inr [.aZ [I 0,aK false],cc s,.mp M,iL bn nn,bu vs])
   (λi p=>p.length=i) ?_ ?_ n 0 [] rfl (by omega) (xai _)
  .have bT:(I ((0:Nat):Int))=I 0:=rfl;have aM:cc []= .aW 1 []:=rfl;have Fe:D.aZ [I 0,aK false]=gD (0,false):=rfl;rw[bT,aM]at al;simp only[xal,xaL]at al;have bc:=Tm.qC t;have c1:=Tm.ug t;have c2:=Tm.uh t;have b8:=Tm.sw t;have dp:=Tm.oq t;by_cases bj:t.op<=4
   .rw[xac bj];rw[o4,xac bj]at aP;have ai:=aS.leaf bj;rw[ai]at al;have z0:((([]:List Tm).length:Nat):Int)=0:=rfl;simp only[hE,xau,z0]at al;have aEy:D.aW 1 []=cc []:=rfl;have ic:=afL n;by_cases aa:t.op<=2
    .unfold lf;rw[xac aa];have ah:t.op=1\/t.op=2:=by omega
     generalize t.op=op at*;rcases ah with rfl|rfl<;>simp[wy,dp,bc,c1,c2,b8,ai,al,gD]
    obtain⟨i,ag⟩:=af7 aP (by omega);obtain⟨v,v1,v2,v3⟩:=yP ag;have uO:=axL cQ.1 (z:= .int .i64 0) (x:=t.name);rw[cQ.2,ag]at uO;simp only[xaJ]at uO;have tY:nH (.mp M)=some M:=rfl;unfold lf;rw[xae aa];have ah:t.op=3\/t.op=4:=by omega
    have aEz:(t.op==3||t.op==4)=true:=by rcases ah with h|h<;>simp[h]
    by_cases bI:(if t.op=4 then nn else s).length=vs.length
    .have bX:nY vs s nn t=some i:=by unfold nY;rw[xac bI,ag]
     obtain⟨x,rP⟩:=Wc v3 bI;have yJ:=xad rP;rw[bX];simp only[v1,rP];have Ca:p6 (x+0) true=gD (x,eC x):=by rw[afP,Int.add_zero]
     generalize t.op=op at*;rcases ah with rfl|rfl
     .simp only[show¬((3:Int)=4) by omega,xaI]at rP yJ bI;have dm:=Pe n x 0 (cS x (.inl yJ)) (by omega);rw[Ca]at dm;cases aj:v.bool<;>simp[wy,dp,bc,c1,c2,b8,ai,al,tY,uO,iy,e5,bI,hk v1,v.wL,kr rP,ic,aj,dm,Fa,Fb,Fc]<;>(try exact Fc (x,eC x))<;>(try rfl)
     simp only[xaG]at rP yJ bI;have dm:=Pe n x 0 (cS x (.inr yJ)) (by omega);rw[Ca]at dm;cases aj:v.bool<;>simp[wy,dp,bc,c1,c2,b8,ai,al,tY,uO,iy,e5,bI,hk v1,v.wL,af1 rP,ic,aj,dm,Fa,Fb,Fc]<;>(try exact Fc (x,eC x))<;>(try rfl)
    have bX:nY vs s nn t=none:=by unfold nY;rw[xae bI]
    rw[bX];have nL:t.op=4:=by refine ah.resolve_left λh=>bI ?_;rw[xae (by omega)];exact az
    rw[xac nL]at bI;generalize t.op=op at*;subst nL;have cp:¬((nn.length:Int)=(vs.length:Int)):=by omega
    simp[wy,dp,bc,c1,c2,b8,ai,al,tY,uO,iy,e5,bI,cp]<;>(try rfl)
   rw[xae bj];have fH:(t.op==1)=false:=by simp;omega
   have hI:(t.op==2)=false:=by simp;omega
   have kH:(t.op==3)=false:=by simp;omega
   have rM:(t.op==4)=false:=by simp;omega
   cases kP:hE vs s nn t.bf with
   |none=>rw[kP]at al;simp[wy,dp,bc,c1,c2,b8,al]<;>(try rfl)
   |some l=>rw[kP]at al;obtain⟨g1,g2,g3,g4⟩:=af0 (nx:=nx) aS aP (by omega) kP;have aA:=axu n t l aS g1 (by omega) g2 (by omega) g3 g4;simp[wy,dp,bc,c1,c2,b8,al,fH,hI,kH,rM,aA,axM,Fa,Fb,Fc]
  .intro p aU;simp[Jt,hE]
  intro i a p aG ag aU;have hm:=xad aG;have bF:=Tm.ki hm;have av:=af9 vs nx s nn M cQ jz az cS n a (by omega) (bE.fO hm) (aS.fO hm) (Kw aS aP hm);have eL:cT (p.length+1) 8=true:=af6 (by omega);by_cases ar:(e2 vs s nn a).2=true
  .left;refine⟨p++[(e2 vs s nn a).1],?_,?_,by simp[aU]⟩;.simp[Jt,ag,Tm.h4 aG,av,ar,cf (bt:=false) (i:=i) (by omega),eL,Fa,Fb]
   rw[hE,xac ar];cases hE vs s nn (t.bf.drop (i+1))with|none=>rfl|some l=>simp
  right;rw[hE,xae ar];have Kx:(e2 vs s nn a).2=false:=by simpa using ar
  simp[Jt,ag,Tm.h4 aG,av,Kx,Fa,Fb]
def aga:∀(n:Nat)(t:Tm),t.bC<n->t.Ok->sX n [t.d]=some (aK (steps t))
 |0,t,h,_=>absurd h (xaH _)
 |n+1,t,aN,bE=>by
  have bI:=bE.len;rw[Pl];have al:=dy (f:=JO (sX n) n) t.bf (λi (_:Unit)=>[I (i:Int),I t.op,I t.num,a6 t.name,cH 4 t.nl (Tm.rows t.bf)]) (λr _=>if p7 r=true then(Sum.inr (aK true):List D⊕D)else .inl []) (λ_ _=>True) (λ_ _=>by simp[JO,p7]) ?_ n 0 () trivial (by have:=t.mu;omega) (xai _)
  .have bT:(I ((0:Nat):Int))=I 0:=rfl;rw[bT]at al;simp only[xal]at al;by_cases bj:t.op=4;.simp[sX,Oz,bj]
   have rM:(t.op==4)=false:=by simpa using bj
   cases az:p7 t.bf<;>simp[sX,Oz,bj,al,az]
  intro i a _ aG ag _;have hm:=xad aG;have bF:=Tm.ki hm;have av:=aga n a (by omega) (bE.fO hm);cases az:steps a
  .left;exact⟨(),by simp[JO,ag,Tm.h4 aG,av,az,cf (bt:=false) (i:=i) (by omega)],by simp[p7,az],trivial⟩
  right;simp[JO,ag,Tm.h4 aG,av,az,p7]
def agb{vs:List V}{s nn:List Int}:∀{l:List Tm}{r:List Int},hE vs s nn l=some r->∀k∈l,(e2 vs s nn k).2=true
 |[],_,_,k,ai=>by cases ai
 |t::q,r,h,k,ai=>by
  rw[hE]at h;by_cases J:(e2 vs s nn t).2=true
  case neg=>rw[xae J]at h;cases h
  rw[xac J]at h;cases aa:hE vs s nn q with
  |none=>rw[aa]at h;cases h
  |some l=>
   rcases xam.1 ai with rfl|ai;.exact J
   exact agb aa k ai
def agc:∀{l:List Tm},p7 l=true->∃k∈l,steps k=true
 |a::r,h=>by rw[p7]at h;cases aG:steps a with|true=>exact⟨a,by simp,aG⟩|false=>rw[aG,xbG]at h;obtain⟨k,J,aa⟩:=agc h;exact⟨k,by simp[J],aa⟩
def axN{vs:List V}{s nn:List Int}(cp:nn.length≠vs.length)(t:Tm):Valid t->steps t=true->(e2 vs s nn t).2=false:=by
 refine Tm.ind (P:=λt=>Valid t->steps t=true->(e2 vs s nn t).2=false) ?_ t;intro t ih aS h;rw[rO];rw[Pl]at h;by_cases bj:t.op<=4
 .rw[xac bj];have nL:t.op=4:=by
   rw[aS.leaf bj]at h;simpa[p7]using h
  unfold lf;rw[xae (by omega)];have:nY vs s nn t=none:=by unfold nY;rw[xac nL,xae cp]
  rw[this]
 rw[xae bj];have aj:(t.op==4)=false:=by simp;omega
 rw[aj,xbG]at h;obtain⟨k,J,aa⟩:=agc h;cases al:hE vs s nn t.bf with|none=>rfl|some l=>have:=agb al k J;rw[ih k J (aS.fO J) aa]at this;cases this
def ik(vs:List V)(t:Tm)(s nn:List Int):Int×Bool:=if(j6 vs true t).2≠0\/s.length≠vs.length then(0,false)else e2 vs s nn t
def Ky{vs:List V}{nx:Bool}{t:Tm}(h:(j6 vs nx t).2=0):Valid t/\(ed vs nx t).2=0:=by
 unfold j6 at h;by_cases ah:(dn t 1 0).1=0;.rw[xae (by simpa using ah)]at h;exact⟨⟨1,0,ah⟩,h⟩
 rw[xac ah]at h;exact absurd h ah
def agd(n:Nat)(vs:List V)(t:Tm)(s nn:List Int)(aN:t.bC+200+vs.length<n)(bE:t.Ok)(jz:vs.length<1000000000000)(cS:∀v,v∈s\/v∈nn->-9223372036854775808<=v/\v<=9223372036854775807):sT n [bu vs,t.d,cc s,iL bn nn]=some (gD (ik vs t s nn)):=by
 have J:=afD n vs t true aN bE jz;obtain⟨M,m1,m2⟩:=afz n vs (by omega) jz;have eK:bV (bu vs)=true:=rfl;have iW:∀l,bV (cc l)=true:=λ_=>rfl;have Fe:D.aZ [I 0,aK false]=gD (0,false):=rfl;unfold ik;by_cases aP:(j6 vs true t).2=0
 .by_cases az:s.length=vs.length
  .obtain⟨aS,fC⟩:=Ky aP;have ay:=af9 (bn:=bn) vs true s nn M m2 jz az cS n t (by omega) bE aS fC;have Pp:((s.length:Int) !=(vs.length:Int))=false:=by simp[az]
   simp[sT,Oc,eK,iW,J,aP,az,iy,e5,m1,ay,Fa,Fb,Fc]
  have Pp:¬((s.length:Int)=(vs.length:Int)):=by omega
  simp[sT,Oc,eK,iW,J,aP,az,iy,e5,Pp];exact Fe
 simp[sT,Oc,eK,iW,J,aP];exact Fe
def age(n:Nat)(vs:List V)(t:Tm)(s nn:List Int)(aN:t.bC+200+vs.length<n)(bE:t.Ok)(jz:vs.length<1000000000000):qN n [bu vs,t.d,cc s,iL bn nn]=some (gD (ik vs t s nn)):=by
 have J:=afE n vs t true aN bE jz;have aa:=aga n t (by omega) bE;have Fe:D.aZ [I 0,aK false]=gD (0,false):=rfl;unfold ik;by_cases aP:(j6 vs true t).2=0
 .by_cases az:s.length=vs.length
  .obtain⟨aS,fC⟩:=Ky aP;by_cases ft:steps t=true/\nn.length≠vs.length
   .have axO:=axN (s:=s) ft.2 t aS ft.1;have Wd:¬((nn.length:Int)=(vs.length:Int)):=by have:=ft.2;omega
    have av:gD (e2 vs s nn t)= .aZ [I 0,aK false]:=by unfold gD;rw[xae (by simp[axO])]
    simp[qN,Ew,J,aa,aP,az,iy,e5,ft.1,Wd,av]
   have ay:=af8 (bn:=bn) vs true s nn jz az n t aN bE aS fC (λh=>by refine xbi λah=>ft ⟨h,ah⟩);have av:gD (e2 vs s nn t)=if(e2 vs s nn t).2=true then .aZ [I (e2 vs s nn t).1,aK true]else .aZ [I 0,aK false]:=rfl
   by_cases We:steps t=true;.have nO:nn.length=vs.length:=xbi λah=>ft ⟨We,ah⟩;cases aj:(e2 vs s nn t).2<;>simp[qN,Ew,J,aa,aP,az,iy,e5,We,nO,ay,aj,av]
   have axP:steps t=false:=by simpa using We
   cases aj:(e2 vs s nn t).2<;>simp[qN,Ew,J,aa,aP,az,iy,e5,axP,ay,aj,av]
  have Pp:¬((s.length:Int)=(vs.length:Int)):=by omega
  simp[qN,Ew,J,aa,aP,az,iy,e5,Pp];exact Fe
 simp[qN,Ew,J,aa,aP];exact Fe
def agf{lo ag x y:Int}(J:lo<=x)(aa:x<=ag):l4 (lo*y) (ag*y)<=x*y/\x*y<=gj (lo*y) (ag*y):=by
 by_cases aH:0<=y;.have a:=Int.mul_le_mul_of_nonneg_right J aH;have b:=Int.mul_le_mul_of_nonneg_right aa aH;unfold l4 gj;constructor<;>split<;>omega
 have a:=Int.mul_le_mul_of_nonpos_right J (show y<=0 by omega);have b:=Int.mul_le_mul_of_nonpos_right aa (show y<=0 by omega);unfold l4 gj;constructor<;>split<;>omega
def agh{lo ag x y:Int}(J:lo<=x)(aa:x<=ag):l4 (y*lo) (y*ag)<=y*x/\y*x<=gj (y*lo) (y*ag):=by have:=agf (y:=y) J aa;rw[Int.mul_comm lo y,Int.mul_comm ag y,Int.mul_comm x y]at this;exact this
def axQ{a b:Y}{x y:Int}(ad:a.lo<=x/\x<=a.ag)(aH:b.lo<=y/\y<=b.ag):EY a b<=x*y/\x*y<=EZ a b:=by have J:=agf (y:=y) ad.1 ad.2;have aa:=agh (y:=a.lo) aH.1 aH.2;have ax:=agh (y:=a.ag) aH.1 aH.2;unfold EY EZ;generalize x*y=p at*;generalize a.lo*y=q at*;generalize a.ag*y=r at*;generalize a.lo*b.lo=s at*;generalize a.lo*b.ag=t at*;generalize a.ag*b.lo=u at*;generalize a.ag*b.ag=v at*;unfold l4 gj at*;omega
def axR{lo ag v:Int}(h:(hC lo ag).2=0)(J:lo<=v)(aa:v<=ag):(hC lo ag).1.lo<=v/\v<=(hC lo ag).1.ag:=by
 unfold hC at*;split at h;.cases h
 rename_i ah;rw[xae ah];exact⟨J,aa⟩
def hc(vs:List V)(s:List Int):Prop:=s.length=vs.length/\∀(i:Nat)(v:V)(x:Int),vs[i]?=some v->s[i]?=some x->if v.bool then x=0\/x=1 else v.lo<=x/\x<=v.ag
def within(y:Y)(v:Int):Prop:=if y.b then v=0\/v=1 else y.lo<=v/\v<=y.ag
def yU{lo ag v:Int}(h:(hC lo ag).2=0)(J:lo<=v)(aa:v<=ag):within (hC lo ag).1 v:=by unfold within;rw[E6];exact axR h J aa
def wN{y:Y}{b:Bool}(h:y.b=true):within y (tr b):=by unfold within;rw[xac h];exact Ks b
def agi{lo ag:Int}(h:(hC lo ag).2=0):-1048576<=lo/\ag<=1048576/\lo<=ag:=by
 unfold hC at h;split at h;.cases h
 omega
def axS{vs:List V}{s nn:List Int}{t:Tm}(az:hc vs s)(aN:hc vs nn)(aS:Valid t)(h:(ld vs true t).2=0):(lf vs s nn t).2=true/\within (ld vs true t).1 (lf vs s nn t).1:=by
 have uK:=aS.num;unfold ld at*;unfold lf;by_cases J:t.op=1;.rw[xac J]at*;rw[xac (by omega)];exact⟨rfl,yU h (Int.le_refl _) (Int.le_refl _)⟩
 rw[xae J]at*;by_cases aa:t.op=2;.rw[xac aa]at*;rw[xac (by omega)];refine⟨rfl,?_⟩;unfold within;simp only[jA,xaG];omega
 rw[xae aa]at*;have eb:=aS.op;rw[xae (show¬t.op<=2 by omega)];cases ag:eB vs t.name with
 |none=>rw[ag]at h;cases h
 |some i=>
  rw[ag]at h;simp only at h⊢;obtain⟨v,v1,v2,v3⟩:=yP ag;have agj:¬(t.op=4/\true=false):=by simp
  rw[xae agj,v1]at h;rw[xae agj,v1];simp only at h⊢;have yK:hc vs (if t.op=4 then nn else s):=by split<;>assumption
  have bX:nY vs s nn t=some i:=by unfold nY;rw[xac yK.1,ag]
  obtain⟨x,ad⟩:=Wc v3 yK.1;rw[bX];simp only[ad,v1];have av:=yK.2 i v x v1 ad;by_cases aj:v.bool=true
  .rw[xac aj]at*;rw[xac aj];exact⟨rfl,wN rfl⟩
  rw[xae aj]at*;rw[xae aj];have jM:=agi h;exact⟨(kq _).2 (by omega),yU h av.1 av.2⟩
def axT{l:List Y}{qQ:List Int}(al:l.all Y.b=true)(bI:qQ.length=l.length)(h:∀(i:Nat)(y:Y)(v:Int),l[i]?=some y->qQ[i]?=some v->within y v):∀v∈qQ,v=0\/v=1:=by
 intro v aS;obtain⟨i,ag⟩:=xaF.1 aS;have b6:i<l.length:=by have:=(xaa.1 ag).1;omega
 have aH:=xab b6;have aj:=xaB.1 al _ (xbc b6);have hw:=h i _ v aH ag;unfold within at hw
 rwa [xac aj]at hw
def axU{t:Tm}{a b c:Y}(h:¬(5<=t.op/\t.op<=9)):hj t [a,b,c]=if(!a.b||(b.b !=c.b))then(fE,13)else if b.b then(jA,0)else hC (l4 b.lo c.lo) (gj b.ag c.ag):=by unfold hj;rw[xae h]
def axV{t:Tm}{a b:Y}(h:¬(5<=t.op/\t.op<=9)):hj t [a,b]=if t.op=10\/t.op=11 then if a.b !=b.b then(fE,13)else(jA,0)
   else if(a.b||b.b)then(fE,13)
   else if t.op=12\/t.op=13 then(jA,0)
   else if t.op=17 then(match t.bf[1]? with
    |some k=>if k.op≠1\/k.num<1 then(fE,2)else hC 0 (k.num-1)
    |none=>(fE,0))
   else p5 t.op a b:=by
 unfold hj;rw[xae h]<;>rfl
def axW{op a b c:Int}(cR:¬op=6)(fP:¬op=7):ga op [a,b,c]=(if a=1 then b else c,eC (if a=1 then b else c)):=by unfold ga;rw[xae cR,xae fP]
def axX{op a b:Int}(cR:¬op=6)(fP:¬op=7):ga op [a,b]=if op=8 then(tr (a==0||b==1),true)else if op=9\/op=10 then(tr (a==b),true)else if op=11 then(tr (a !=b),true)
   else if op=12 then(tr (decide (a<b)),true)else if op=13 then(tr (decide (a<=b)),true)
   else if op=14 then(a+b,eC (a+b))else if op=15 then(a-b,eC (a-b))
   else if op=16 then if eC (a*b)then(a*b,true)else(0,false)
   else((a.tmod b+b).tmod b,eC ((a.tmod b+b).tmod b)):=by
 unfold ga;rw[xae cR,xae fP]
def axY{t:Tm}{l:List Y}{qQ:List Int}(aS:Valid t)(ca:5<=t.op)(aA:(hj t l).2=0)(bL:∀y∈l,y.lD)(bI:l.length=t.bf.length)(kP:qQ.length=l.length) (hw:∀(i:Nat)(y:Y)(v:Int),l[i]?=some y->qQ[i]?=some v->within y v) (hm:t.op=17->∀k v,t.bf[1]?=some k->qQ[1]?=some v->v=k.num):(ga t.op qQ).2=true/\within (hj t l).1 (ga t.op qQ).1:=by
 have eb:=aS.op;have Cc:=aS.len;have Pq:5<=t.op/\t.op<=9->(hj t l).1.b=true:=λh=>by have:=Pm aA h;unfold hj;rw[xac h,xac this];rfl
 by_cases s8:t.op=6\/t.op=7
 .have aj:=Pq (by omega);unfold ga;rcases s8 with h|h
  .rw[xac h];exact⟨rfl,wN aj⟩
  rw[xae (by omega),xac h];exact⟨rfl,wN aj⟩
 by_cases vL:t.op=5
 .have aj:=Pq (by omega);have:gG t.op=(1,1):=by rw[vL];rfl
  rw[this]at Cc;have rK:qQ.length=1:=by simp only at Cc;omega
  match qQ,rK,kP,hw with|[a],_,kP,hw=>have aG:=axT (Pm aA (by omega)) kP hw a (by simp);have cS:eC (1-a)=true:=(kq _).2 (by omega);unfold ga;rw[xae (by omega),xae (by omega)];refine⟨cS,?_⟩;unfold within;rw[xac aj];simp only;omega
 have cR:¬t.op=6:=by omega
 have fP:¬t.op=7:=by omega
 by_cases o5:t.op=18
 .rw[B7 o5]at Cc;obtain⟨a,b,c,rfl⟩:=wJ (l:=l) (by simp only at Cc;omega);obtain⟨x,y,z,rfl⟩:=wJ (l:=qQ) (by simpa using kP);have Pr:¬(5<=t.op/\t.op<=9):=by omega
  obtain⟨E8,wM,afY⟩:=V9 aA Pr;have sa:=hw 0 a x rfl rfl;have re:=hw 1 b y rfl rfl;have Ps:=hw 2 c z rfl rfl;have rL:=bL b (by simp);have gc:=bL c (by simp);unfold within at sa re Ps;rw[axW cR fP];rw[axU Pr]at aA⊢;have zT:¬(!a.b||(b.b !=c.b))=true:=by rw[E8,wM];simp
  rw[xae zT]at aA⊢;by_cases aj:b.b=true
  .rw[xac aj];rw[xac aj]at re;rw[<-wM,xac aj]at Ps;by_cases ad:x=1;.rw[xac ad];have q:eC y=true:=(kq _).2 (by omega);refine⟨q,?_⟩;unfold within;simp only[jA,xaG];exact re
   rw[xae ad];have q:eC z=true:=(kq _).2 (by omega);refine⟨q,?_⟩;unfold within;simp only[jA,xaG];exact Ps
  rw[xae aj]at aA⊢;rw[xae aj]at re;rw[<-wM,xae aj]at Ps;obtain⟨_,fH,hI,kH⟩:=rL;obtain⟨_,c1,c2,b8⟩:=gc;have jB:l4 b.lo c.lo<=b.lo/\l4 b.lo c.lo<=c.lo:=by unfold l4;split<;>omega
  have CU:b.ag<=gj b.ag c.ag/\c.ag<=gj b.ag c.ag:=by unfold gj;split<;>omega
  by_cases ad:x=1;.rw[xac ad];have q:eC y=true:=(kq _).2 (by omega);exact⟨q,yU aA (by omega) (by omega)⟩
  rw[xae ad];have q:eC z=true:=(kq _).2 (by omega);exact⟨q,yU aA (by omega) (by omega)⟩
 rw[yO (show 8<=t.op/\t.op<=17 by omega)]at Cc;obtain⟨a,b,rfl⟩:=rJ (l:=l) (by simp only at Cc;omega);obtain⟨x,y,rfl⟩:=rJ (l:=qQ) (by simpa using kP);have sa:=hw 0 a x rfl rfl;have re:=hw 1 b y rfl rfl;have B8:=bL a (by simp);have rL:=bL b (by simp);rw[axX cR fP];by_cases iu:t.op=8
 .rw[xac iu];exact⟨rfl,wN (Pq (by omega))⟩
 rw[xae iu];by_cases iV:t.op=9;.rw[xac (Or.inl iV)];exact⟨rfl,wN (Pq (by omega))⟩
 have Pr:¬(5<=t.op/\t.op<=9):=by omega
 rw[axV Pr]at aA⊢;by_cases ta:t.op=10\/t.op=11
 .rw[xac ta]at aA⊢;by_cases ah:(a.b !=b.b)=true;.rw[xac ah]at aA;cases aA
  rw[xae ah];rcases ta with h|h
  .rw[xac (Or.inr h)];exact⟨rfl,wN rfl⟩
  have aN:¬(t.op=9\/t.op=10):=by omega
  rw[xae aN,xac h];exact⟨rfl,wN rfl⟩
 rw[xae ta]at aA⊢;have axZ:¬(t.op=9\/t.op=10):=by omega
 have o6:¬t.op=11:=by omega
 rw[xae axZ,xae o6];by_cases ah:(a.b||b.b)=true;.rw[xac ah]at aA;cases aA
 rw[xae ah]at aA⊢;have gg:a.b=false/\b.b=false:=by cases aG:a.b<;>cases aj:b.b<;>simp_all
 have Kv:¬(false=true):=by simp
 unfold within at sa re;rw[gg.1,xae Kv]at sa;rw[gg.2,xae Kv]at re;obtain⟨_,aI,a2,a3⟩:=B8;obtain⟨_,fH,hI,kH⟩:=rL;by_cases Wf:t.op=12\/t.op=13
 .rw[xac Wf];rcases Wf with h|h
  .rw[xac h];exact⟨rfl,wN rfl⟩
  have aN:¬t.op=12:=by omega
  rw[xae aN,xac h];exact⟨rfl,wN rfl⟩
 rw[xae Wf]at aA⊢;have Wg:¬t.op=12:=by omega
 have l5:¬t.op=13:=by omega
 rw[xae Wg,xae l5];by_cases o0:t.op=17
 .rw[xac o0]at aA⊢;have nq:¬t.op=14:=by omega
  have wA:¬t.op=15:=by omega
  have fg:¬t.op=16:=by omega
  rw[xae nq,xae wA,xae fg];cases ai:t.bf[1]? with
  |none=>have:=xcj.1 ai;simp only at Cc;omega
  |some k=>
   rw[ai]at aA;simp only at aA⊢;by_cases ay:k.op≠1\/k.num<1;.rw[xac ay]at aA;cases aA
   rw[xae ay]at aA⊢;have Rr:=hm o0 k y ai rfl;subst Rr;have aEA:=(aS.fO (xad ai)).num;have m1:=Ko (a:=x) (b:=k.num) (by omega);have m2:=Ko (a:=x.tmod k.num+k.num) (b:=k.num) (by omega);have m3:=Int.tmod_nonneg (a:=x.tmod k.num+k.num) k.num (by omega);have q:eC ((x.tmod k.num+k.num).tmod k.num)=true:=(kq _).2 (by omega);exact⟨q,yU aA m3 (by omega)⟩
 rw[xae o0]at aA⊢;unfold p5 at aA⊢;by_cases wA:t.op=15
 .have nq:¬t.op=14:=by omega
  simp only[xac wA,xae nq]at aA⊢;have q:eC (x-y)=true:=(kq _).2 (by omega);exact⟨q,yU aA (by omega) (by omega)⟩
 by_cases nq:t.op=14;.simp only[xae wA,xac nq]at aA⊢;have q:eC (x+y)=true:=(kq _).2 (by omega);exact⟨q,yU aA (by omega) (by omega)⟩
 have fg:t.op=16:=by omega
 simp only[xae nq,xae wA,xac fg]at aA⊢;have qR:=axQ sa re;have jM:=agi aA;have cS:eC (x*y)=true:=(kq _).2 (by omega);simp only[xac cS];exact⟨trivial,yU aA qR.1 qR.2⟩
def agk{vs:List V}{s nn:List Int}:∀{l:List Tm},(∀k∈l,(e2 vs s nn k).2=true)->hE vs s nn l=some (l.map λk=>(e2 vs s nn k).1)
 |[],_=>rfl|t::r,h=>by rw[hE,xac (h t (by simp)),agk λk ai=>h k (by simp[ai])];rfl
def agl{vs:List V}{nx:Bool}:∀{l:List Tm},(er vs nx l).2=0->(er vs nx l).1=l.map λk=>(ed vs nx k).1
 |[],_=>rfl
 |t::r,h=>by
  rw[er]at*;by_cases J:(ed vs nx t).2=0
  case neg=>rw[xac J]at h;exact absurd h J
  have dS:¬(ed vs nx t).2≠0:=by simpa using J
  rw[xae dS]at h⊢;by_cases aa:(er vs nx r).2=0
  case neg=>rw[xac aa]at h;exact absurd h aa
  have gT:¬(er vs nx r).2≠0:=by simpa using aa
  rw[xae gT];simp[agl aa]
def agm{vs:List V}{s nn:List Int}(az:hc vs s)(aN:hc vs nn)(t:Tm):Valid t->(ed vs true t).2=0->(e2 vs s nn t).2=true/\within (ed vs true t).1 (e2 vs s nn t).1:=by
 refine Tm.ind (P:=λt=>Valid t->(ed vs true t).2=0->(e2 vs s nn t).2=true/\within (ed vs true t).1 (e2 vs s nn t).1) ?_ t;intro t ih aS h;have ai:∀k∈t.bf,(ed vs true k).2=0:=λk ai=>Kw aS h ai;rw[o4]at h⊢;rw[rO];by_cases bj:t.op<=4
 .rw[xac bj]at*;rw[xac bj];exact axS az aN aS h
 rw[xae bj]at h⊢;rw[xae bj];by_cases ar:(er vs true t.bf).2=0
 case neg=>rw[xac ar]at h;exact absurd h ar
 have Kx:¬(er vs true t.bf).2≠0:=by simpa using ar
 rw[xae Kx]at h⊢;have kP:hE vs s nn t.bf=_:=agk λk oP=>(ih k oP (aS.fO oP) (ai k oP)).1;rw[kP];simp only;obtain⟨g1,g2⟩:=E0 vs true t.bf ar;have oh:=agl ar;refine axY aS (by omega) h g2 g1 (by rw[g1];simp) ?_ ?_
 .intro i y v aH hK;rw[oh]at aH;simp only[xah,xaf]at aH hK;obtain⟨k,cN,rfl⟩:=aH;obtain⟨bG,ea,rfl⟩:=hK;rw[cN]at ea;cases ea;exact(ih k (xad cN) (aS.fO (xad cN)) (ai k (xad cN))).2
 intro o0 k v lS rK;simp only[xah,lS,xaJ,xaE]at rK;have ny:=aS.len;rw[yO (by omega)]at ny;obtain⟨Kt,E7,aH⟩:=rJ (l:=(er vs true t.bf).1) (by simp only at ny;omega);rw[aH]at h;have:=afV h o0 lS;rw[<-rK,rO,xac (by omega)];unfold lf;rw[xac (by omega)]
end Go.Am
