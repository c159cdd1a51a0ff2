/- Laws, on data. No condition. -/
import Derived.Test.YtnaahibhhibijaaGreatDoorLaws
import Derived.Test.YtnaahibhhibijaaGreatDoorEngS
import Derived.KernelRfl
set_option linter.all false
set_option linter.unnecessarySimpa false
namespace Go.Am
structure cL where
 name:ByteArray
 f:Fm
def cL.cells(d:cL):List D:=[aQ d.name,J d.f.op,J d.f.e.op,J d.f.e.num,aQ d.f.e.name,cF 4 d.f.e.nl (Tm.rows d.f.e.aW),cF 6 d.f.nl (Fm.rows d.f.aW)]
def ar(l:List Tm):D:= .aA 4 (Tm.rows l)
def bL(l:List cL):D:= .aA 7 (l.map cL.cells)
def xN{l:List Tm}{i:Nat}{t:Tm}(h:l[i]?=some t):bk 4 (ar l) (J (i:Int))=some t.cells:=by simp[ar,Tm.FV h]
def iF(l:List Tm):bF (ar l)=some (J l.length):=by simp[ar]
def mi{l:List cL}{i:Nat}{t:cL}(h:l[i]?=some t):bk 7 (bL l) (J (i:Int))=some t.cells:=by simp[bL,h]
def il(l:List cL):bF (bL l)=some (J l.length):=by simp[bL]
def cL.d(d:cL):D:= .agg d.cells
theorem cL.adl(d:cL):a7 true 7 0 d.cells=some d.d:=rfl
theorem cL.hB(d:cL):a7 true 6 1 d.cells=some d.f.d:=by rw[Fm.jF];rfl
theorem cL.gn(d:cL):a7 false 1 0 d.cells=some (aQ d.name):=rfl
def cL.agg(d:cL):aX 7 d.d=true:=by unfold cL.d cL.cells;simp[Zk]
theorem cL.aL(d:cL):aa d.d 0=aQ d.name:=rfl
theorem cL.bh(d:cL):aa d.d 1=J d.f.op:=rfl
theorem cL.bo(d:cL):aa d.d 2=J d.f.e.op:=rfl
theorem cL.bC(d:cL):aa d.d 3=J d.f.e.num:=rfl
theorem cL.b5(d:cL):aa d.d 4=aQ d.f.e.name:=rfl
theorem cL.ct(d:cL):aa d.d 5=cF 4 d.f.e.nl (Tm.rows d.f.e.aW):=rfl
theorem cL.cu(d:cL):aa d.d 6=cF 6 d.f.nl (Fm.rows d.f.aW):=rfl
structure af where
 vars:List V
 aw:List bl
 bA:List Tm
 bE:List Tm
 next:List bl
 trans:List Tm
 bz:List Tm
 bp:List cL
def af.d(m:af):D:= .agg [bd m.vars,aM m.aw,ar m.bA,ar m.bE,aM m.next,ar m.trans,ar m.bz,bL m.bp]
section
variable(m:af)
theorem af.aL:aa m.d 0=bd m.vars:=rfl
theorem af.bh:aa m.d 1=aM m.aw:=rfl
theorem af.bo:aa m.d 2=ar m.bA:=rfl
theorem af.bC:aa m.d 3=ar m.bE:=rfl
theorem af.b5:aa m.d 4=aM m.next:=rfl
theorem af.ct:aa m.d 5=ar m.trans:=rfl
theorem af.cu:aa m.d 6=ar m.bz:=rfl
theorem af.cy:aa m.d 7=bL m.bp:=rfl
theorem af.agg:aX 8 m.d=true:=rfl
theorem af.eta:D.agg [bd m.vars,aM m.aw,ar m.bA,ar m.bE,aM m.next,ar m.trans,ar m.bz,bL m.bp]=m.d:=rfl
end
def adm:∀l:List Tm,nH l=l.map ga
 |[]=>rfl|k::r=>by rw[nH,adm r];rfl
theorem DN(t:Tm):ga t= .mk t.op t.num t.name false (t.aW.map ga):=by cases t;rw[ga,adm];rfl
def NM(t:Tm):(ga t).bD=t.bD:=by
 refine Tm.ind (P:=λt=>(ga t).bD=t.bD) ?_ t;intro t ih;have key:∀l:List Tm,(∀k∈l,(ga k).bD=k.bD)->Tm.dL (l.map ga)=Tm.dL l:=by
  intro l
  induction l with
  |nil=>intro _;rfl
  |cons a r lK=>intro h;simp only[xay,Tm.dL];rw[h a (by simp),lK λk ah=>h k (by simp[ah])]
 rw[Tm.xF,Tm.xF t,DN];show 2+Tm.dL (t.aW.map ga)=_;rw[key _ ih]
def auQ(t:Tm):t.cz->(ga t).cz:=by
 refine Tm.ind (P:=λt=>t.cz->(ga t).cz) ?_ t;intro t ih bq;rw[DN];have bH:=bq.len;obtain⟨eJ,dV,hJ⟩:(-9223372036854775808<=t.op/\t.op<=9223372036854775807)/\(-9223372036854775808<=t.num/\t.num<=9223372036854775807)/\t.name.size<=140737488355328:=by cases bq with|mk o n s b ks aR aC av an ah=>exact⟨aR,aC,av⟩
 refine .mk _ _ _ _ _ eJ dV hJ (by simpa using bH) ?_;intro k ah;obtain⟨bu,e1,rfl⟩:=xaR.1 ah;exact ih bu e1 (bq.eY e1)
def jc:Int:=9007199254740992
def dP(n:Int):Bool:=decide (-9007199254740992<=n)&&decide (n<=9007199254740992)
def oR(n:Int)(ok:Bool):D:=if ok&&dP n then .aO [J n,ay true]else .aO [J 0,ay false]
def auR(n:Nat)(a:Int)(ok:Bool):H3 n [J a,ay ok]=some (oR a ok):=by unfold oR dP;cases ok<;>simp[H3,aaA,-Ry,-Rh];grind
def NN(n:Nat)(a b:Int)(aH:-9223372036854775808<=a/\a<=9223372036854775807)(ak:-9223372036854775808<=b/\b<=9223372036854775807):tz n [J a,J b]=some (oR (a+b) true):=by
 have bU:=auR n;by_cases ab:(a<0)=(b<0)
 case neg=>
  have e:IntKind.i64.wrap (a+b)=a+b:=by
   refine wrap64 _ ?_ ?_;.by_cases c:a<0<;>by_cases d:b<0<;>simp[c,d]at ab<;>omega
   by_cases c:a<0<;>by_cases d:b<0<;>simp[c,d]at ab<;>omega
  have cf:(decide (a<0) !=decide (b<0))=true:=by by_cases c:a<0<;>by_cases d:b<0<;>simp[c,d]at ab⊢
  simp[tz,MG,Lk,e,cf,bU];unfold oR;split<;>simp
 have cf:(decide (a<0) !=decide (b<0))=false:=by by_cases c:a<0<;>by_cases d:b<0<;>simp[c,d]at ab⊢
 by_cases au:-9223372036854775808<=a+b/\a+b<=9223372036854775807
 .have e:IntKind.i64.wrap (a+b)=a+b:=wrap64 _ au.1 au.2;have av:(decide (a<0)==decide (a+b<0))=true:=by
   by_cases c:a<0<;>by_cases d:b<0<;>simp[c,d]at ab⊢<;>omega
  simp[tz,MG,Lk,e,cf,av,bU];unfold oR;split<;>simp
 have e:IntKind.i64.wrap (a+b)=if a<0 then a+b+18446744073709551616 else a+b-18446744073709551616:=by simp only[IntKind.wrap_i64];split<;>omega
 have av:(decide (a<0)==decide (IntKind.i64.wrap (a+b)<0))=false:=by rw[e];by_cases c:a<0<;>by_cases d:b<0<;>simp[c,d]at ab⊢<;>omega
 simp[tz,MG,Lk,cf,av,bU];have:dP (a+b)=false:=by unfold dP;simp;omega
 simp[oR,this]
def dc(n:Int):D:= .val (.int .u64 n)
section
variable{bt:Bool}{a b:Int}
def DO(h:0<=a+b)(bs:a+b<18446744073709551616):aj bt .add (dc a) (dc b)=some (dc (a+b)):=by have e:aj bt .add (dc a) (dc b)=some (dc (IntKind.u64.wrap (a+b))):=rfl;rw[e,xbS,Int.emod_eq_of_lt h bs]
theorem adn:aj bt .mul (dc a) (dc b)=some (dc (IntKind.u64.wrap (a*b))):=rfl
def NO(h:0<=a*b)(bs:a*b<18446744073709551616):aj bt .mul (dc a) (dc b)=some (dc (a*b)):=by rw[adn,xbS,Int.emod_eq_of_lt h bs]
def auS(h:0<=a):aj bt .shr (dc a) (dc 32)=some (dc (a/4294967296)):=by
 have e:aj bt .shr (dc a) (dc 32)=some (dc (a.fdiv (2^(min (32:Int).toNat IntKind.u64.bits)))):=rfl;rw[e];have:(2:Int)^(min (32:Int).toNat IntKind.u64.bits)=4294967296:=by decide
 rw[this,Int.fdiv_eq_ediv_of_nonneg _ (by omega)]
def auT(h:0<=a)(bs:a<18446744073709551616):aj bt .and (dc a) (dc 4294967295)=some (dc (a%4294967296)):=by
 have e:aj bt .and (dc a) (dc 4294967295)=some (dc (IntKind.u64.wrap ((BitVec.ofInt IntKind.u64.bits a&&&BitVec.ofInt IntKind.u64.bits 4294967295).toNat:Int))):=rfl;rw[e];have ak:IntKind.u64.bits=64:=rfl;obtain⟨m,rfl⟩:∃m:Nat,a=m:=⟨a.toNat,by omega⟩;have aN:(BitVec.ofInt 64 (m:Int)&&&BitVec.ofInt 64 4294967295).toNat=m%4294967296:=by
  have aV:BitVec.ofInt 64 (m:Int)=BitVec.ofNat 64 m:=by simp
  have bS:BitVec.ofInt 64 4294967295=BitVec.ofNat 64 4294967295:=by decide
  rw[aV,bS,BitVec.toNat_and,BitVec.toNat_ofNat,BitVec.toNat_ofNat,Nat.mod_eq_of_lt (by omega)];have:=Nat.and_two_pow_sub_one_eq_mod m 32;simpa using this
 rw[ak,aN,xbS]
 congr 2
 omega
theorem NP:aj bt .neq (dc a) (dc b)=some (ay (a !=b)):=rfl
theorem AX:aj bt .gtr (dc a) (dc b)=some (ay (decide (a>b))):=rfl
end
def NQ{x y:Int}(ae:0<=x/\x<=4294967295)(aP:0<=y/\y<=4294967295):0<=x*y/\x*y<=18446744065119617025:=by refine⟨Int.mul_nonneg ae.1 aP.1,?_⟩;have:=Int.mul_le_mul ae.2 aP.2 aP.1 (by omega);simpa using this
def auU(n:Nat)(x y:Int)(ae:0<=x/\x<18446744073709551616)(aP:0<=y/\y<18446744073709551616):MH n [dc x,dc y]=some (.aO [dc (x*y/18446744073709551616),dc (x*y%18446744073709551616)]):=by
 have ao:0<=x%4294967296/\x%4294967296<=4294967295:=by omega
 have a2:0<=x/4294967296/\x/4294967296<=4294967295:=by omega
 have e3:0<=y%4294967296/\y%4294967296<=4294967295:=by omega
 have hW:0<=y/4294967296/\y/4294967296<=4294967295:=by omega
 have auV:=NQ ao e3;have auW:=NQ a2 e3;have auX:=NQ ao hW;have auY:=NQ a2 hW;have auZ:x*y=(x/4294967296*(y/4294967296))*18446744073709551616+(x/4294967296*(y%4294967296)+x%4294967296*(y/4294967296))*4294967296+x%4294967296*(y%4294967296):=by
  have ex:x=x/4294967296*4294967296+x%4294967296:=by omega
  have nm:y=y/4294967296*4294967296+y%4294967296:=by omega
  generalize x/4294967296=u at*;generalize x%4294967296=v at*;generalize y/4294967296=w at*;generalize y%4294967296=z at*;subst ex;subst nm;simp only[Int.add_mul,Int.mul_add];have aN:u*4294967296*(w*4294967296)=u*w*18446744073709551616:=by rw[Int.mul_assoc,Int.mul_left_comm 4294967296 w,<-Int.mul_assoc,Int.mul_comm 4294967296 4294967296];rfl
  have aV:u*4294967296*z=u*z*4294967296:=by rw[Int.mul_assoc,Int.mul_comm 4294967296 z,<-Int.mul_assoc]
  have bS:v*(w*4294967296)=v*w*4294967296:=by rw[<-Int.mul_assoc]
  omega
 show SF n (dc x) (dc y)=_;have T5:(D.val (.int .u64 32))=dc 32:=rfl;have em:(D.val (.int .u64 4294967295))=dc 4294967295:=rfl;have sY:∀q:Int,0<=q->aj false .shr (dc q) (dc 32)=some (dc (q/4294967296)):=λq h=>auS h;have T6:∀q:Int,0<=q->q<18446744073709551616->aj false .and (dc q) (dc 4294967295)=some (dc (q%4294967296)):=λq h bs=>auT h bs;simp only[SF,T5,em];rw[T6 x ae.1 ae.2,dx,sY x ae.1,dx,T6 y aP.1 aP.2,dx,sY y aP.1,dx,NO auV.1 (by omega),dx,NO auW.1 (by omega),dx];generalize x%4294967296*(y%4294967296)=au0 at*;generalize x/4294967296*(y%4294967296)=aBm at*;rw[sY au0 (by omega),dx,DO (by omega) (by omega),dx,T6 _ (by omega) (by omega),dx,sY _ (by omega),dx,NO auX.1 (by omega),dx];generalize x%4294967296*(y/4294967296)=aBn at*;rw[DO (by omega) (by omega),dx,NO auY.1 (by omega),dx];generalize x/4294967296*(y/4294967296)=aBo at*;rw[DO (by omega) (by omega),dx,sY _ (by omega),dx,DO (by omega) (by omega),dx,adn,dx,xbS,auZ]
 congr 3
 congr 1;omega
def ado(n:Nat)(a:Int)(aH:-9223372036854775808<=a/\a<=9223372036854775807):Aj n [J a]=some (dc a.natAbs):=by
 have aN:∀v:Int,da .neg (.val (.int .u64 v))=some (dc (IntKind.u64.wrap (0-v))):=λ_=>rfl;have aV:∀v:Int,iz .u64 (J v)=some (.val (.int .u64 (IntKind.u64.wrap v))):=λ_=>rfl;by_cases h:a<0
 .simp[Aj,SE,h,aV,aN];simp only[xbS,dc,D.val.injEq,Value.int.injEq,true_and];omega
 simp[Aj,SE,h,aV];simp only[xbS,dc,D.val.injEq,Value.int.injEq,true_and];omega
def jL(n:Int):dP n=true↔n.natAbs<=9007199254740992:=by unfold dP;simp;omega
def adp{a b:Int}{A B:Nat}(h:a.natAbs<=A)(bs:b.natAbs<=B):(a*b).natAbs<=A*B:=by rw[Int.natAbs_mul];exact Nat.mul_le_mul h bs
def sign_mul(a b:Int)(h:a*b≠0):((a<0)≠(b<0))↔a*b<0:=by
 have aH:a≠0:=by rintro rfl;simp at h
 have ak:b≠0:=by rintro rfl;simp at h
 rcases Int.lt_or_gt_of_ne aH with ab|ab<;>rcases Int.lt_or_gt_of_ne ak with ad|ad;.have:=Int.mul_pos_of_neg_of_neg ab ad;simp[ab,ad];omega
 .have:=Int.mul_neg_of_neg_of_pos ab ad;simp[ab,this];omega
 .have:=Int.mul_neg_of_pos_of_neg ab ad;simp[ad,this];omega
 have:=Int.mul_pos ab ad;simp;omega
def au1(n:Nat)(a b:Int)(aH:dP a=true)(ak:dP b=true):xq n [J a,J b]=some (oR (a*b) true):=by
 rw[jL]at aH ak;have ab:=ado n a (by omega);have ad:=ado n b (by omega);have hm:=adp aH ak;have ax:=auU n a.natAbs b.natAbs (by omega) (by omega);have e:((a.natAbs:Int)*b.natAbs)=((a*b).natAbs:Int):=by rw[Int.natAbs_mul];simp
 rw[e]at ax;have av:=sign_mul a b;generalize a*b=p at*;have aL:(D.val (.int .u64 0))=dc 0:=rfl;have bh:(D.val (.int .u64 9007199254740992))=dc 9007199254740992:=rfl;have aN:∀v:Int,iz .i64 (dc v)=some (J (IntKind.i64.wrap v)):=λ_=>rfl;by_cases au:dP p=true
 .have mr:=(jL p).1 au;have bG:((p.natAbs:Int)/18446744073709551616)=0:=by omega
  have bw:((p.natAbs:Int)%18446744073709551616)=p.natAbs:=by omega
  have cl:IntKind.i64.wrap (p.natAbs:Int)=p.natAbs:=wrap64 _ (by omega) (by omega);have dA:IntKind.i64.wrap (-(p.natAbs:Int))=-(p.natAbs:Int):=wrap64 _ (by omega) (by omega);have dZ:¬(9007199254740992<(p.natAbs:Int)):=by omega
  rw[bG,bw]at ax;by_cases bm:p=0;.subst bm;simp[xq,H4,ab,ad,ax,aL,bh,NP,AX,aN,oR,au];by_cases x1:a<0<;>by_cases sa:b<0<;>simp[x1,sa,show IntKind.i64.wrap 0=0 from rfl]
  have av:=av bm;by_cases x1:a<0<;>by_cases sa:b<0<;>simp[x1,sa]at av<;>simp[xq,H4,ab,ad,ax,aL,bh,NP,AX,aN,oR,au,dZ,cl,dA,x1,sa]<;>omega
 have mr:¬(p.natAbs<=9007199254740992):=λh=>au ((jL p).2 h);have ba:dP p=false:=by simpa using au
 by_cases bG:((p.natAbs:Int)/18446744073709551616)=0
 .have bw:((p.natAbs:Int)%18446744073709551616)=p.natAbs:=by omega
  have dZ:9007199254740992<(p.natAbs:Int):=by omega
  rw[bG,bw]at ax;simp[xq,H4,ab,ad,ax,aL,bh,NP,AX,aN,oR,ba,dZ]
 have eU:((p.natAbs:Int)/18446744073709551616 !=0)=true:=by simpa using bG
 simp[xq,H4,ab,ad,ax,aL,bh,NP,AX,aN,oR,ba,eU]
def tr(b:Bool):Int:=if b then 1 else 0
def adq(n:Nat)(b:Bool):pH n [ay b]=some (.aO [J (tr b),ay true]):=by cases b<;>simp[pH,aaz,tr]
def adr(n:Nat)(b:Bool):pK n [ay b]=some (J (tr b)):=by cases b<;>simp[pK,aaI,tr]
def ads(n:Nat)(v:Int):xt n [J v]=some (ay (!dP v)):=by
 by_cases ab:v< -9007199254740992
 .have:dP v=false:=by unfold dP;simp;omega
  simp[xt,MR,this,ab]
 by_cases ad:9007199254740992<v
 .have:dP v=false:=by unfold dP;simp;omega
  simp[xt,MR,this,ab,ad]
 have:dP v=true:=by unfold dP;simp;omega
 simp[xt,MR,this,ab,ad]
def adt(n:Nat)(v:Int)(h:-9223372036854775807<=v/\v<=9223372036854775807):Dc n [J v]=some (J (v.natAbs:Int)):=by have:IntKind.i64.wrap (-v)=-v:=wrap64 _ (by omega) (by omega);simp[Dc,aaJ,this,NB,fw];split<;>omega
def fk(op:Int)(l:List Int):Int×Bool:=if op=6 then(tr (decide (l.sum=l.length)),true)
 else if op=7 then(tr (decide (l.sum>0)),true)
 else match l with
  |[a]=>(1-a,dP (1-a))
  |[a,b]=>if op=8 then(tr (a==0||b==1),true)else if op=9\/op=10 then(tr (a==b),true)else if op=11 then(tr (a !=b),true)
   else if op=12 then(tr (decide (a<b)),true)else if op=13 then(tr (decide (a<=b)),true)
   else if op=14 then(a+b,dP (a+b))else if op=15 then(a-b,dP (a-b))
   else if op=16 then if dP (a*b)then(a*b,true)else(0,false)
   else((a.tmod b+b).tmod b,dP ((a.tmod b+b).tmod b))
  |[a,b,c]=>(if a=1 then b else c,dP (if a=1 then b else c))
  |_=>(0,false)
def fN(p:Int×Bool):D:=if p.2 then .aO [J p.1,ay true]else .aO [J 0,ay false]
def adu(v:Int):oR v true=fN (v,dP v):=by simp[oR,fN]
def jd{l:List Int}{i:Nat}{y:Int}(h:l[i]?=some y):bk 1 (b0 l) (J (i:Int))=some [J y]:=by simp[b0,h]
theorem AY{y:Int}{l:List Int}:bk 1 (b0 (y::l)) (J 0)=some [J y]:=jd (i:=0) rfl
theorem DP{x y:Int}{l:List Int}:bk 1 (b0 (x::y::l)) (J 1)=some [J y]:=jd (i:=1) rfl
theorem au2{x y z:Int}{l:List Int}:bk 1 (b0 (x::y::z::l)) (J 2)=some [J z]:=jd (i:=2) rfl
def eQ(l:List Int):bF (b0 l)=some (J l.length):=by simp[b0]
def T7:∀(l:List Int),(∀v∈l,dP v=true)->-(9007199254740992*(l.length:Int))<=l.sum/\l.sum<=9007199254740992*(l.length:Int)
 |[],_=>by simp|a::r,h=>by have:=T7 r λv aK=>h v (by simp[aK]);have:=(jL a).1 (h a (by simp));simp only[List.sum_cons,xak];omega
def au3{l:List Int}(h:∀v∈l,dP v=true)(an:l.length<=64)(i:Nat):-576460752303423488<=(l.take i).sum/\(l.take i).sum<=576460752303423488:=by
 have:=T7 (l.take i) λv aK=>h v (xaZ aK);have hle:(l.take i).length<=64:=by rw[xbi];omega
 omega
def au4(n:Nat)(DQ d1 d2 d3 d4:D)(l:List Int)(h:∀v∈l,dP v=true)(an:l.length<=64)(aC:64<n):bI (H5 n) n [DQ,J 0,b0 l,J l.length,J 0,d1,d2,d3,d4]=some (.inl [DQ,J l.sum,d1,d2,d3,d4]):=by
 have ag:=c8 (f:=H5 n) l (λi (s:Int)=>[DQ,J s,b0 l,J l.length,J (i:Int),d1,d2,d3,d4]) (λr s=>(Sum.inl [DQ,J (s+r.sum),d1,d2,d3,d4]:List D⊕D)) (λi s=>s=(l.take i).sum) (λs _=>by simp[H5]) ?_ n 0 0 (by simp) (by omega) (xai _);.have bO:(J ((0:Nat):Int))=J 0:=rfl;rw[bO]at ag;simpa using ag
 intro i a s aH ag av;left;have ak:=au3 h an i;have Yf:=(jL a).1 (h a (xac aH));have e6:aj false .add (J s) (J a)=some (J (s+a)):=er (by omega) (by omega);refine⟨s+a,by simp[H5,ag,jd aH,e6,cc (bt:=false) (i:=i) (by omega)],by simp[Int.add_assoc],?_⟩;rw[xcf,aH,av];simp
def I0{a b:Int}(ak:1<=b):-b<a.tmod b/\a.tmod b<b:=by have ab:=Int.tmod_lt_of_pos a (show 0<b by omega);have ad:=Int.lt_tmod_of_pos a (show 0<b by omega);exact⟨ad,ab⟩
set_option maxHeartbeats 1000000 in
def au5(n:Nat)(t:Tm)(l:List Int)(aK:Valid t)(bZ:l.length=t.aW.length)(dI:5<=t.op)(au:∀v∈l,dP v=true)(aC:100<n) (ak:(t.op<=9->∀v∈l,v=0\/v=1)/\(t.op=18->∀v,l[0]?=some v->v=0\/v=1)) (hm:t.op=17->∀v,l[1]?=some v->1<=v/\v<=255):j4 n [t.d,b0 l]=some (fN (fk t.op l)):=by
 have r9:=aK.op;have bH:=aK.len;have aL:=Tm.px t;have df:=Tm.m6 t;have ah:=xL (op:=t.op);have nc:=AV (op:=t.op);have IZ:=aK.DM;have AZ:=eQ l;have hA:=adq n;have A0:=λDQ d1 d2 d3 d4=>au4 n DQ d1 d2 d3 d4 l au (by omega) (by omega);by_cases sb:t.op=6\/t.op=7
 .have gq:1<=l.length:=by
   have:fQ t.op=(1,64):=by unfold fQ;rw[xab (by omega),xab (by omega),xaa sb]
   rw[this]at bH;simp only at bH;omega
  generalize t.op=op at*;rcases sb with rfl|rfl
  .simp[j4,k9,df,aL,AZ,A0,fk,fN,hA,-YP];by_cases ai:l.sum=(l.length:Int)<;>simp[ai,hA]
  simp[j4,k9,df,aL,AZ,A0,fk,fN,hA,-YP];by_cases ai:l.sum=(l.length:Int)
  .have:0<l.sum:=by omega
   have aU:0<l.length:=by omega
   simp[ai,hA,aU]
  by_cases aq:0<l.sum<;>simp[ai,aq,hA]
 have mZ:t.op=5->l.length=1:=λh=>by
  have:fQ t.op=(1,1):=by rw[h];rfl
  rw[this]at bH;simp only at bH;omega
 by_cases b3:t.op=5
 .have:=mZ b3
  match l,this with
  |[a],_=>
   have aH:=ak.1 (by omega) a (by simp);have g0:=AY (y:=a) (l:=[]);generalize t.op=op at*;subst b3;rcases aH with rfl|rfl
   .simp[j4,k9,df,aL,g0,fk,fN,hA,tr,dP]
   simp[j4,k9,df,aL,g0,fk,fN,hA,tr,dP]
 by_cases nK:t.op=18
 .rw[nc nK]at bH;obtain⟨a,b,c,rfl⟩:=vH (l:=l) (by simp only at bH;omega);have aH:=ak.2 nK a rfl;have g0:=AY (y:=a) (l:=[b,c]);have g1:=DP (x:=a) (y:=b) (l:=[c]);have g2:=au2 (x:=a) (y:=b) (z:=c) (l:=[]);have au6:=au b (by simp);have au7:=au c (by simp);generalize t.op=op at*;subst nK;rcases aH with rfl|rfl
  .simp[j4,k9,df,aL,g0,g1,g2,fk,fN,au7]
  simp[j4,k9,df,aL,g0,g1,g2,fk,fN,au6]
 rw[ah (by omega)]at bH;obtain⟨a,b,rfl⟩:=qx (l:=l) (by simp only at bH;omega);have g0:=AY (y:=a) (l:=[b]);have g1:=DP (x:=a) (y:=b) (l:=[]);have adv:=au a (by simp);have x8:=au b (by simp);have T8:=(jL a).1 adv;have adw:=(jL b).1 x8;have di:=NN n a b (by omega) (by omega);have cb:=NN n a (-b) (by omega) (by omega);have cH:=au1 n a b adv x8;have T9:IntKind.i64.wrap (-b)=-b:=wrap64 _ (by omega) (by omega);have kS:a+-b=a-b:=by omega
 have ae:∀p:Int×Bool,(bf 0 (fN p))=some (J (if p.2 then p.1 else 0))/\(bf 1 (fN p))=some (ay p.2):=by intro p;obtain⟨v,o⟩:=p;cases o<;>simp[fN]
 have aP:∀p:Int×Bool,D.aO [J (if p.2 then p.1 else 0),ay p.2]=fN p:=by intro p;obtain⟨v,o⟩:=p;cases o<;>simp[fN]
 rw[kS]at cb;rw[adu]at di cb cH;by_cases pO:t.op=17
 .obtain⟨bG,bw⟩:=hm pO b rfl;have gd:=I0 (a:=a) bG;have I1:b≠0:=by omega
  have jJ:aj false .add (J (a.tmod b)) (J b)=some (J (a.tmod b+b)):=er (by omega) (by omega);have jm:=I0 (a:=a.tmod b+b) bG;have e4:dP ((a.tmod b+b).tmod b)=true:=(jL _).2 (by omega);have aN:aj false .rem (J a) (J b)=some (J (a.tmod b)):=Cb I1;have aV:aj false .rem (J (a.tmod b+b)) (J b)=some (J ((a.tmod b+b).tmod b)):=Cb I1;generalize t.op=op at*;subst pO;simp[j4,k9,df,aL,g0,g1,fk,fN,aN,aV,jJ,e4]
 have ai:t.op=8\/t.op=9\/t.op=10\/t.op=11\/t.op=12\/t.op=13\/t.op=14\/t.op=15\/t.op=16:=by omega
 have au8:t.op=8->(b=0\/b=1):=λh=>ak.1 (by omega) b (by simp);generalize t.op=op at*;rcases ai with rfl|rfl|rfl|rfl|rfl|rfl|rfl|rfl|rfl
 .rcases au8 rfl with rfl|rfl
  .by_cases sc:a=0;.simp[j4,k9,df,aL,g0,g1,fk,fN,hA,sc,AY,DP]
   have qB:(a==0)=false:=by simpa using sc
   simp[j4,k9,df,aL,g0,g1,fk,fN,hA,sc,qB,AY,DP]
  by_cases sc:a=0;.simp[j4,k9,df,aL,g0,g1,fk,fN,hA,sc,AY,DP]
  have qB:(a==0)=false:=by simpa using sc
  simp[j4,k9,df,aL,g0,g1,fk,fN,hA,sc,qB,AY,DP]
 .simp[j4,k9,df,aL,g0,g1,fk,fN,hA]
 .simp[j4,k9,df,aL,g0,g1,fk,fN,hA]
 .simp[j4,k9,df,aL,g0,g1,fk,fN,hA]
 .simp[j4,k9,df,aL,g0,g1,fk,fN,hA]
 .simp[j4,k9,df,aL,g0,g1,fk,fN,hA]
 .simp[j4,k9,df,aL,g0,g1,fk,di,ae];rw[<-aP]
 .simp[j4,k9,df,aL,g0,g1,fk,T9,cb,ae];rw[<-aP]
 simp[j4,k9,df,aL,g0,g1,fk,cH,ae];cases bP:dP (a*b)<;>simp[fN]
def mQ(vs:List V)(s nn:List Int)(t:Tm):Option Nat:=if(if t.op=4 then nn else s).length=vs.length then dO vs t.name else none
def au9{vs:List V}{s nn:List Int}{t:Tm}{i:Nat}(h:mQ vs s nn t=some i):dO vs t.name=some i/\(if t.op=4 then nn else s).length=vs.length:=by
 unfold mQ at h;by_cases ai:(if t.op=4 then nn else s).length=vs.length;.rw[xaa ai]at h;exact⟨h,ai⟩
 rw[xab ai]at h;cases h
def ku(vs:List V)(s nn:List Int)(t:Tm):Int×Bool:=if t.op<=2 then(t.num,true)
 else match mQ vs s nn t with
  |none=>(0,false)
  |some i=>match vs[i]?,(if t.op=4 then nn else s)[i]? with
   |some v,some x=>if v.bool then(tr (x !=0),true)else(x,dP x)
   |_,_=>(0,false)
mutual
def ej(vs:List V)(s nn:List Int):Tm->Int×Bool
 | .mk o n a b ks=>if o<=4 then ku vs s nn (.mk o n a b ks)else match gP vs s nn ks with|some l=>fk o l|none=>(0,false)
def gP(vs:List V)(s nn:List Int):List Tm->Option (List Int)
 |[]=>some []
 |t::r=>if(ej vs s nn t).2 then match gP vs s nn r with|some l=>some ((ej vs s nn t).1::l)|none=>none
  else none
end
theorem qC(vs:List V)(s nn:List Int)(t:Tm):ej vs s nn t=if t.op<=4 then ku vs s nn t else match gP vs s nn t.aW with|some l=>fk t.op l|none=>(0,false):=by cases t;rw[ej];rfl
mutual
def steps:Tm->Bool
 | .mk o _ _ _ ks=>o==4||oS ks
def oS:List Tm->Bool
 |[]=>false|t::r=>steps t||oS r
end
theorem NR(t:Tm):steps t=(t.op==4||oS t.aW):=by cases t;rw[steps];rfl
def adx:∀{l:List Tm}{t:Tm},t∈l->oS l=false->steps t=false
 |a::r,t,h,av=>by
  rw[oS,Bool.or_eq_false_iff]at av;rcases xas.1 h with rfl|h
  .exact av.1
  exact adx h av.2
theorem Ua(b:Bool):dP (tr b)=true:=by cases b<;>rfl
def DR(p:Int×Bool):Prop:=p.2=true->dP p.1=true
def tM{c:Prop}[Decidable c]{p q:Int×Bool}(aU:DR p)(bP:c\/DR q):DR (if c then p else q):=by
 split;.exact aU
 exact bP.resolve_left (by assumption)
def A1(b:Bool):DR (tr b,true):=λ_=>Ua b
def I2(v:Int):DR (v,dP v):=λh=>h
def ava{op:Int}{l:List Int}:DR (fk op l):=by
 unfold fk;refine tM (A1 _) (.inr (tM (A1 _) (.inr ?_)))
 match l with
 |[]=>intro h;cases h
 |[a]=>exact I2 _|[a,b,c]=>exact I2 _|a::b::c::d::r=>intro h;cases h
 |[a,b]=>
  refine tM (A1 _) (.inr (tM (A1 _) (.inr (tM (A1 _) (.inr (tM (A1 _) (.inr (tM (A1 _) (.inr (tM (I2 _) (.inr (tM (I2 _) (.inr (tM ?_ (.inr (I2 _))))))))))))))));by_cases h:dP (a*b)=true;.rw[xaa h];exact λ_=>h
  rw[xab h];intro h;cases h
def avb{vs:List V}{s nn:List Int}{t:Tm}(aK:Valid t)(h:(ku vs s nn t).2=true):dP (ku vs s nn t).1=true:=by
 have aC:=aK.num;unfold ku at*;by_cases ad:t.op<=2;.rw[xaa ad];exact(jL _).2 (by simp only;omega)
 rw[xab ad]at*;cases ag:mQ vs s nn t with
 |none=>simp[ag]at h
 |some i=>
  rw[ag]at h;simp only at h⊢;cases hw:vs[i]? with
  |none=>rw[hw]at h;cases h
  |some v=>
   cases ae:((if t.op=4 then nn else s)[i]?)with
   |none=>rw[hw,ae]at h;cases h
   |some x=>
    rw[hw,ae]at h;simp only at h⊢;by_cases ak:v.bool=true;.rw[xaa ak];exact Ua _
    rw[xab ak]at*;exact h
def ady{vs:List V}{s nn:List Int}{t:Tm}(aK:Valid t)(h:(ej vs s nn t).2=true):dP (ej vs s nn t).1=true:=by
 rw[qC]at*;by_cases a8:t.op<=4;.rw[xaa a8]at*;exact avb aK h
 rw[xab a8]at*;split at h;.rename_i l an;exact ava h
 cases h
def xO(v:Int):Prop:=v=0\/v=1
def I3(b:Bool):xO (tr b):=by cases b<;>simp[tr,xO]
theorem DS(lo ag:Int):(gO lo ag).1.b=false:=by unfold gO;split<;>rfl
def avc(op:Int)(a b:Y):(oQ op a b).1.b=false:=by unfold oQ;split<;>(try split)<;>exact DS _ _
def Ub(vs:List V)(nx:Bool)(s nn:List Int):∀{ks:List Tm}{l:List Int},(dK vs nx ks).2=0->gP vs s nn ks=some l->l.length=ks.length/\∀(i:Nat)(y:Y)(v:Int),(dK vs nx ks).1[i]?=some y->l[i]?=some v-> ∃k,ks[i]?=some k/\(dE vs nx k).2=0/\y=(dE vs nx k).1/\(ej vs s nn k).2=true/\v=(ej vs s nn k).1
 |[],l,_,aK=>by cases aK;exact⟨rfl,by intro i y v _ h;simp at h⟩
 |k::r,l,h,aK=>by
  rw[dK]at*;rw[gP]at aK;by_cases ab:(dE vs nx k).2=0
  case neg=>rw[xaa ab]at h;exact absurd h ab
  have dQ:¬(dE vs nx k).2≠0:=by simpa using ab
  rw[xab dQ]at h⊢;by_cases ad:(dK vs nx r).2=0
  case neg=>rw[xaa ad]at h;exact absurd h ad
  have gR:¬(dK vs nx r).2≠0:=by simpa using ad
  rw[xab gR]at h⊢;by_cases ax:(ej vs s nn k).2=true
  case neg=>rw[xab ax]at aK;cases aK
  rw[xaa ax]at aK;cases a8:gP vs s nn r with
  |none=>rw[a8]at aK;cases aK
  |some nj=>rw[a8]at aK;cases aK;obtain⟨g1,g2⟩:=Ub vs nx s nn ad a8;refine⟨by simp[g1],?_⟩;intro i y v aP hw;cases i with|zero=>simp at aP hw;exact⟨k,rfl,ab,aP.symm,ax,hw.symm⟩|succ i=>simpa using g2 i y v (by simpa using aP) (by simpa using hw)
def NS{t:Tm}{l:List Y}(h:(gx t l).2=0)(ab:5<=t.op/\t.op<=9):l.all Y.b=true:=by
 unfold gx at h;rw[xaa ab]at h;by_cases ai:l.all Y.b=true;.exact ai
 rw[xab ai]at h;cases h
def Uc{t:Tm}{a b c:Y}(h:(gx t [a,b,c]).2=0)(ab:¬(5<=t.op/\t.op<=9)):a.b=true/\b.b=c.b/\((gx t [a,b,c]).1.b=true->b.b=true):=by
 unfold gx at*;rw[xab ab]at*;simp only at h⊢;by_cases ai:(!a.b||(b.b !=c.b))=true;.rw[xaa ai]at h;cases h
 rw[xab ai]at*;refine⟨by cases aH:a.b<;>simp_all,by cases ak:b.b<;>cases Kd:c.b<;>simp_all,?_⟩;by_cases ak:b.b=true;.exact λ_=>ak
 rw[xab ak,DS];intro h;cases h
def adz{t:Tm}{a b:Y}(h:(gx t [a,b]).2=0)(ab:t.op=17){k:Tm}(ah:t.aW[1]?=some k):k.op=1/\1<=k.num:=by
 unfold gx at h;rw[xab (by omega)]at h;simp only at h;rw[xab (by omega)]at h;by_cases ai:(a.b||b.b)=true;.rw[xaa ai]at h;cases h
 rw[xab ai,xab (by omega),xaa ab,ah]at h;simp only at h;by_cases az:k.op≠1\/k.num<1;.rw[xaa az]at h;cases h
 omega
def avd{t:Tm}{a b:Y}(ab:14<=t.op/\t.op<=17):(gx t [a,b]).1.b=false:=by
 unfold gx;rw[xab (by omega)];simp only;rw[xab (by omega)];split;.rfl
 rw[xab (by omega)];split
 .split
  .split;.rfl
   exact DS _ _
  rfl
 exact avc _ _ _
def ave{vs:List V}{nx:Bool}{s nn:List Int}{t:Tm}(aK:Valid t)(h:(kt vs nx t).1.b=true)(au:(ku vs s nn t).2=true):xO (ku vs s nn t).1:=by
 have aC:=aK.num;unfold kt at h;unfold ku at*;by_cases ab:t.op=1;.rw[xaa ab,DS]at h;cases h
 rw[xab ab]at h;by_cases ad:t.op=2;.rw[xaa (by omega)];unfold xO;simp only;omega
 rw[xab ad]at h;have dI:=aK.op;rw[xab (by omega)]at*;cases ag:mQ vs s nn t with
 |none=>rw[ag]at au;cases au
 |some i=>
  rw[(au9 ag).1]at h;rw[ag]at au;simp only at h au⊢;by_cases ax:t.op=4/\nx=false;.rw[xaa ax]at h;cases h
  rw[xab ax]at h;cases hw:vs[i]? with
  |none=>rw[hw]at au;cases au
  |some v=>
   rw[hw]at h au;simp only at h;by_cases ak:v.bool=true
   .cases ae:((if t.op=4 then nn else s)[i]?)with
    |none=>rw[ae]at au;cases au
    |some x=>simp only;rw[xaa ak];exact I3 _
   rw[xab ak,DS]at h;cases h
def adA(vs:List V)(nx:Bool)(s nn:List Int)(t:Tm):Valid t->(dE vs nx t).2=0->(dE vs nx t).1.b=true->(ej vs s nn t).2=true->xO (ej vs s nn t).1:=by
 refine Tm.ind (P:=λt=>Valid t->(dE vs nx t).2=0->(dE vs nx t).1.b=true->(ej vs s nn t).2=true->xO (ej vs s nn t).1) ?_ t;intro t ih aK h ak au;rw[nJ]at h ak;rw[qC]at au⊢;by_cases a8:t.op<=4;.rw[xaa a8]at*;exact ave aK ak au
 rw[xab a8]at*;by_cases aq:(dK vs nx t.aW).2=0
 case neg=>rw[xaa aq]at h;exact absurd h aq
 rw[xab (by simpa using aq)]at h ak;cases an:gP vs s nn t.aW with
 |none=>rw[an]at au;cases au
 |some l=>
  rw[an]at au;simp only at au⊢;obtain⟨g1,g2⟩:=Ub vs nx s nn aq an;obtain⟨g3,_⟩:=DL vs nx t.aW aq;have dI:=aK.op;have bH:=aK.len;have ah:=xL (op:=t.op);have nc:=AV (op:=t.op);unfold fk;by_cases cI:t.op=6
  .rw[xaa cI];exact I3 _
  rw[xab cI];by_cases fo:t.op=7;.rw[xaa fo];exact I3 _
  rw[xab fo];by_cases b3:t.op=5
  .have:fQ t.op=(1,1):=by rw[b3];rfl
   rw[this]at bH
   match l,g1,g2 with
   |[a],g1,g2=>
    have fS:=NS h (by omega);have:0<(dK vs nx t.aW).1.length:=by simp at g1;omega
    obtain⟨k,bG,bw,cl,dA,dZ⟩:=g2 0 _ a (xad this) rfl;have adB:=xau.1 fS _ (xbd this);rw[cl]at adB;have:=ih k (xac bG) (aK.eY (xac bG)) bw adB dA;rw[<-dZ]at this;simp only;rcases this with h|h<;>subst h<;>simp[xO]
   |[],g1,_=>simp at g1;simp only at bH;omega|_::_::_,g1,_=>simp at g1;simp only at bH;omega
  by_cases nK:t.op=18
  .rw[nc nK]at bH;have avf:l.length=3:=by simp only at bH;omega
   obtain⟨a,b,c,rfl⟩:=vH avf;obtain⟨I4,DT,Ud,aP⟩:=vH (l:=(dK vs nx t.aW).1) (by simp only at bH;omega);rw[aP]at h ak g2;obtain⟨Ue,A2,adC⟩:=Uc h (by omega);have adD:=adC ak;have get:∀(i:Nat)(y:Y)(v:Int),[I4,DT,Ud][i]?=some y->[a,b,c][i]?=some v->y.b=true->xO v:=by intro i y v aP hw avg;obtain⟨k,bG,bw,cl,dA,dZ⟩:=g2 i y v aP hw;rw[dZ];exact ih k (xac bG) (aK.eY (xac bG)) bw (by rw[<-cl];exact avg) dA
   simp only;by_cases aH:a=1;.rw[xaa aH];exact get 1 DT b rfl rfl adD
   rw[xab aH];exact get 2 Ud c rfl rfl (by rw[<-A2];exact adD)
  rw[ah (by omega)]at bH;obtain⟨a,b,rfl⟩:=qx (l:=l) (by simp only at bH;omega);obtain⟨I4,DT,aP⟩:=qx (l:=(dK vs nx t.aW).1) (by simp only at bH;omega);rw[aP]at h ak;have qD:t.op<=13:=by refine xbb λai=>?_;rw[avd (by omega)]at ak;cases ak
  simp only;have ai:t.op=8\/t.op=9\/t.op=10\/t.op=11\/t.op=12\/t.op=13:=by omega
  rcases ai with e|e|e|e|e|e<;>simp only[e]<;>exact I3 _
def adE{vs:List V}{nx:Bool}{s nn:List Int}{t:Tm}{l:List Int}(aK:Valid t)(h:(dE vs nx t).2=0)(b3:5<=t.op)(an:gP vs s nn t.aW=some l):l.length=t.aW.length/\(∀v∈l,dP v=true)/\((t.op<=9->∀v∈l,v=0\/v=1)/\(t.op=18->∀v,l[0]?=some v->v=0\/v=1))/\(t.op=17->∀v,l[1]?=some v->1<=v/\v<=255):=by
 rw[nJ,xab (by omega)]at h;by_cases aq:(dK vs nx t.aW).2=0
 case neg=>rw[xaa aq]at h;exact absurd h aq
 rw[xab (by simpa using aq)]at h;obtain⟨g1,g2⟩:=Ub vs nx s nn aq an;obtain⟨g3,_⟩:=DL vs nx t.aW aq;have dI:=aK.op;have bH:=aK.len;have at_:∀(i:Nat)(v:Int),l[i]?=some v->∃k y,t.aW[i]?=some k/\(dK vs nx t.aW).1[i]?=some y/\(dE vs nx k).2=0/\y=(dE vs nx k).1/\(ej vs s nn k).2=true/\v=(ej vs s nn k).1:=by
  intro i v ag;have bZ:i<(dK vs nx t.aW).1.length:=by have:=(xae.1 ag).1;omega
  obtain⟨k,bG,bw,cl,dA,dZ⟩:=g2 i _ v (xad bZ) ag;exact⟨k,_,bG,xad bZ,bw,cl,dA,dZ⟩
 refine⟨g1,?_,⟨?_,?_⟩,?_⟩;.intro v hm;obtain⟨i,ag⟩:=xaJ.1 hm;obtain⟨k,y,bG,bw,cl,dA,dZ,eU⟩:=at_ i v ag;rw[eU];exact ady (aK.eY (xac bG)) dZ
 .intro jW v hm;obtain⟨i,ag⟩:=xaJ.1 hm;obtain⟨k,y,bG,bw,cl,dA,dZ,eU⟩:=at_ i v ag;have fS:=xau.1 (NS h ⟨b3,jW⟩) y (xac bw);rw[eU];exact adA vs nx s nn k (aK.eY (xac bG)) cl (by rw[<-dA];exact fS) dZ
 .intro nK v ag;obtain⟨k,y,bG,bw,cl,dA,dZ,eU⟩:=at_ 0 v ag;rw[AV nK]at bH;obtain⟨I4,DT,Ud,aP⟩:=vH (l:=(dK vs nx t.aW).1) (by simp only at bH;omega);rw[aP]at h bw;have aG:=(Uc h (by omega)).1;cases bw;rw[eU];exact adA vs nx s nn k (aK.eY (xac bG)) cl (by rw[<-dA];exact aG) dZ
 intro pO v ag;obtain⟨k,y,bG,bw,cl,dA,dZ,eU⟩:=at_ 1 v ag;rw[xL (by omega)]at bH;obtain⟨I4,DT,aP⟩:=qx (l:=(dK vs nx t.aW).1) (by simp only at bH;omega);rw[aP]at h;obtain⟨Ue,A2⟩:=adz h pO bG;have EB:=(aK.eY (xac bG)).num;have:ej vs s nn k=(k.num,true):=by rw[qC,xaa (by omega)];unfold ku;rw[xaa (by omega)]
 rw[eU,this];exact⟨A2,by simp only;omega⟩
def h2(b:Bool)(l:List Int):D:=cF 1 b (l.map λx=>[J x])
@[simp] theorem aBp (b:Bool) (l:List Int):bF (h2 b l)=some (J l.length):=by simp[h2]
@[simp] theorem aBq (b:Bool) (l:List Int):bT (h2 b l)=true:=by unfold h2 cF;split<;>rfl
def adF{b:Bool}{l:List Int}{i:Nat}{x:Int}(h:l[i]?=some x):bk 1 (h2 b l) (J (i:Int))=some [J x]:=by
 have cf:l≠[]:=by rintro rfl;simp at h
 have:h2 b l= .aA 1 (l.map λx=>[J x]):=by unfold h2 cF;rw[xab (by simp[cf])]
 rw[this];simp[h]
def adG(l:List Int):h2 false l=b0 l:=by simp[h2,cF,b0]
theorem I5:h2 true []=cS:=rfl
variable{bn:Bool}
theorem Uf{k:Nat}:cV (k+1) (J 0)=some 0:=by rw[Rl (by omega) (by omega)];rfl
theorem adH{k:Nat}:cV (k+2) (J 1)=some 1:=by rw[Rl (by omega) (by omega)];rfl
theorem avh{k:Nat}:cV (k+3) (J 2)=some 2:=by rw[Rl (by omega) (by omega)];rfl
def avi{x:Int}(ab:x≠0)(ad:x.natAbs<=9007199254740992):aj false .quo (J 9007199254740992) (J (x.natAbs:Int))=some (J ((9007199254740992/x.natAbs:Nat):Int)):=by
 have ae:(x.natAbs:Int)≠0:=by omega
 rw[YS ae];have e:(9007199254740992:Int).tdiv (x.natAbs:Int)=((9007199254740992/x.natAbs:Nat):Int):=by rw[Int.tdiv_eq_ediv_of_nonneg (by omega)];rfl
 have ax:=Nat.div_le_self 9007199254740992 x.natAbs;rw[e];generalize 9007199254740992/x.natAbs=q at*;rw[wrap64 _ (by omega) (by omega)]
def avj(a b:Int)(h:a≠0):(b.natAbs:Int)>((9007199254740992/a.natAbs:Nat):Int)↔dP (a*b)=false:=by
 have aU:0<a.natAbs:=by omega
 have ab:dP (a*b)=false↔9007199254740992<a.natAbs*b.natAbs:=by
  rw[<-Int.natAbs_mul];have:=jL (a*b);constructor
  .intro h;refine xbb λai=>?_;rw[this.2 (by omega)]at h;cases h
  intro h;cases bP:dP (a*b)with|false=>rfl|true=>exact absurd (this.1 bP) (by omega)
 rw[ab,Nat.mul_comm,<-Nat.div_lt_iff_lt_mul aU];omega
set_option maxHeartbeats 2000000 in
def avk(wI:List D->Option D)(n:Nat)(vs:List V)(s nn:List Int)(t:Tm)(l:List Int)(aK:Valid t)(bZ:l.length=t.aW.length)(dI:5<=t.op)(au:∀v∈l,dP v=true) (ak:(t.op<=9->∀v∈l,v=0\/v=1)/\(t.op=18->∀v,l[0]?=some v->v=0\/v=1)) (hm:t.op=17->∀v,l[1]?=some v->1<=v/\v<=255) (iC:bI (xu wI n) n [bd vs,b0 s,h2 bn nn,J 0,J 0,J t.op,J t.num,aQ t.name,cF 4 t.nl (Tm.rows t.aW),.aA 1 []]=some (.inl [J (if t.op=6\/t.op=7 then l.sum else 0),J t.op,J t.num,aQ t.name,cF 4 t.nl (Tm.rows t.aW),b0 l])):lI wI n (bd vs) t.d (b0 s) (h2 bn nn)=some (.aO [J (fk t.op l).1,ay (fk t.op l).2]):=by
 have r9:=aK.op;have bH:=aK.len;have aL:=Tm.px t;have bh:=Tm.s6 t;have bo:=Tm.s7 t;have bC:=Tm.rq t;have df:=Tm.m6 t;have ah:=xL (op:=t.op);have nc:=AV (op:=t.op);have IZ:=aK.DM;have hA:=adr n;have oT:=ads n;have es:∀l:List Int,aB (b0 l)=l.map λv=>[J v]:=λ_=>rfl;have I6:∀b:Bool,dP (tr b)=true:=Ua;by_cases sb:t.op=6\/t.op=7
 .generalize t.op=op at*;rcases sb with rfl|rfl
  .simp[lI,df,aL,bh,bo,bC,iC,es,hA,oT,fk,I6];rfl
  simp[lI,df,aL,bh,bo,bC,iC,es,hA,oT,fk,I6]
 by_cases b3:t.op=5
 .have:fQ t.op=(1,1):=by rw[b3];rfl
  rw[this]at bH;have mZ:l.length=1:=by simp only at bH;omega
  match l,mZ with|[a],_=>have aH:=ak.1 (by omega) a (by simp);have aN:aj false .sub (J 1) (J a)=some (J (1-a)):=mH (by omega) (by omega);generalize t.op=op at*;subst b3;simp[lI,df,aL,bh,bo,bC,iC,es,oT,fk,Uf,aN]
 by_cases nK:t.op=18;.rw[nc nK]at bH;obtain⟨a,b,c,rfl⟩:=vH (l:=l) (by simp only at bH;omega);generalize t.op=op at*;subst nK;by_cases aH:a=1<;>simp[lI,df,aL,bh,bo,bC,iC,es,oT,fk,Uf,adH,avh,aH]
 rw[ah (by omega)]at bH;obtain⟨a,b,rfl⟩:=qx (l:=l) (by simp only at bH;omega);have T8:=(jL a).1 (au a (by simp));have adw:=(jL b).1 (au b (by simp));have kJ:cV 2 (J 0)=some 0:=Uf;have lq:cV 2 (J 1)=some 1:=adH;by_cases pO:t.op=17
 .obtain⟨bG,bw⟩:=hm pO b rfl;have gd:=I0 (a:=a) bG;have I1:b≠0:=by omega
  have jJ:aj false .add (J (a.tmod b)) (J b)=some (J (a.tmod b+b)):=er (by omega) (by omega);have aN:aj false .rem (J a) (J b)=some (J (a.tmod b)):=Cb I1;have aV:aj false .rem (J (a.tmod b+b)) (J b)=some (J ((a.tmod b+b).tmod b)):=Cb I1;generalize t.op=op at*;subst pO;simp[lI,df,aL,bh,bo,bC,iC,es,oT,fk,kJ,lq,aN,aV,jJ]
 by_cases eR:t.op=16
 .have adI:=adt n a (by omega);have NT:=adt n b (by omega);have NU:=avj a b;have aBr:=adp T8 adw;generalize t.op=op at*;subst eR;by_cases aH:a=0
  .subst aH;have aN:aj false .mul (J 0) (J b)=some (J 0):=by rw[uQ (by omega) (by omega),Int.zero_mul]
   simp[lI,df,aL,bh,bo,bC,iC,es,oT,fk,kJ,lq,aN,show dP 0=true from rfl]
  have bP:=avi aH T8;have NU:=NU aH;have Fb:(a==0)=false:=by simpa using aH
  generalize 9007199254740992/a.natAbs=q at*;by_cases ba:dP (a*b)=true
  .have ab:¬((b.natAbs:Int)>(q:Int)):=λh=>by rw[NU.1 h]at ba;cases ba
   have dQ:decide ((b.natAbs:Int)>(q:Int))=false:=xan ab;have aBs:=(jL _).1 ba;have aN:aj false .mul (J a) (J b)=some (J (a*b)):=uQ (by omega) (by omega);have aV:aj false .gtr (J (b.natAbs:Int)) (J (q:Int))=some (ay false):=by rw[oA,dQ]
   simp[lI,df,aL,bh,bo,bC,iC,es,oT,fk,kJ,lq,adI,NT,bP,aV,aN,ba,aH]
  have I7:dP (a*b)=false:=by simpa using ba
  have dQ:decide ((b.natAbs:Int)>(q:Int))=true:=xal (NU.2 I7);have aV:aj false .gtr (J (b.natAbs:Int)) (J (q:Int))=some (ay true):=by rw[oA,dQ]
  simp[lI,df,aL,bh,bo,bC,iC,es,oT,fk,kJ,lq,adI,NT,bP,aV,I7,aH]
 have ai:t.op=8\/t.op=9\/t.op=10\/t.op=11\/t.op=12\/t.op=13\/t.op=14\/t.op=15:=by omega
 have ji:aj false .add (J a) (J b)=some (J (a+b)):=er (by omega) (by omega);have avl:aj false .sub (J a) (J b)=some (J (a-b)):=mH (by omega) (by omega);have aBt:∀x y:Int,pK n [ay (x==y)]=some (J (tr (x==y))):=λ_ _=>hA _;generalize t.op=op at*;rcases ai with rfl|rfl|rfl|rfl|rfl|rfl|rfl|rfl
 .by_cases sc:a=0;.simp[lI,df,aL,bh,bo,bC,iC,es,hA,oT,fk,I6,kJ,lq,sc]
  have qB:(a==0)=false:=by simpa using sc
  simp[lI,df,aL,bh,bo,bC,iC,es,hA,oT,fk,I6,kJ,lq,sc,qB]
 all_goals simp[lI,df,aL,bh,bo,bC,iC,es,hA,oT,fk,I6,kJ,lq,ji,avl]
variable{bn:Bool}
def adJ{a b:Nat}(h:a+b<=1000):cJ (a+b) 8=true:=eW (by omega) (by omega)
def adK{vs:List V}{nx:Bool}{t:Tm}(h:(kt vs nx t).2=0)(ax:3<=t.op):∃i,dO vs t.name=some i:=by
 unfold kt at h;rw[xab (by omega),xab (by omega)]at h;cases ag:dO vs t.name with
 |none=>rw[ag]at h;cases h
 |some i=>exact⟨i,rfl⟩
def Ug{vs:List V}{nx:Bool}:∀{l:List Tm},(dK vs nx l).2=0->∀k∈l,(dE vs nx k).2=0
 |[],_,k,ah=>by cases ah
 |t::r,h,k,ah=>by
  rw[dK]at h;by_cases ab:(dE vs nx t).2=0
  case neg=>rw[xaa ab]at h;exact absurd h ab
  rw[xab (by simpa using ab)]at h;by_cases ad:(dK vs nx r).2=0
  case neg=>rw[xaa ad]at h;exact absurd h ad
  rcases xas.1 ah with rfl|ah;.exact ab
  exact Ug ad k ah
def I8{vs:List V}{nx:Bool}{t k:Tm}(aK:Valid t)(h:(dE vs nx t).2=0)(ah:k∈t.aW):(dE vs nx k).2=0:=by
 rw[nJ]at h;by_cases a8:t.op<=4;.rw[aK.leaf a8]at ah;cases ah
 rw[xab a8]at h;by_cases aq:(dK vs nx t.aW).2=0;.exact Ug aq k ah
 rw[xaa aq]at h;exact absurd h aq
def Uh{vs:List V}{i:Nat}{l:List Int}(h:i<vs.length)(an:l.length=vs.length):∃x,l[i]?=some x:=⟨_,xad (by omega)⟩
@[simp] theorem aBu (p:List Int) (x:Int):D.aA 1 (aB (b0 p)++[[J x]])=b0 (p++[x]):=by simp[b0]
@[simp] theorem aBv (p:List Int):(aB (b0 p)).length=p.length:=by simp[b0]
@[simp] theorem aBw (p:List Int):D.aA 1 (aB (b0 p))=b0 p:=rfl
def adL(vs:List V)(nx:Bool)(s nn:List Int)(mh:vs.length<1000000000000)(av:s.length=vs.length):∀(n:Nat)(t:Tm),t.bD+200+vs.length<n->t.cz->Valid t->(dE vs nx t).2=0->(steps t=true->nn.length=vs.length)->rY n [bd vs,t.d,b0 s,h2 bn nn]=some (.aO [J (ej vs s nn t).1,ay (ej vs s nn t).2])
 |0,t,h,_,_,_,_=>absurd h (xaF _)
 |n+1,t,aC,bq,aK,aF,eI=>by
  have dI:=aK.op;have IZ:=aK.DM;rw[qC];show lI (rY n) n (bd vs) t.d (b0 s) (h2 bn nn)=_;by_cases a8:t.op<=4
  .rw[xaa a8];rw[nJ,xaa a8]at aF;have aL:=Tm.px t;have bh:=Tm.s6 t;have bo:=Tm.s7 t;have bC:=Tm.rq t;have df:=Tm.m6 t;have hA:=adr n;have oT:=ads n;by_cases ad:t.op<=2
   .unfold ku;rw[xaa ad];have ai:t.op=1\/t.op=2:=by omega
    generalize t.op=op at*;rcases ai with rfl|rfl<;>simp[lI,df,aL,bh,bo,bC]
   obtain⟨i,ag⟩:=adK aF (by omega);obtain⟨v,v1,v2,v3⟩:=xM ag;have ae:=T2 n vs t.name (by omega) mh;rw[ag]at ae;have bH:(if t.op=4 then nn else s).length=vs.length:=by
    by_cases h:t.op=4;.rw[xaa h];exact eI (by rw[NR,h];rfl)
    rw[xab h];exact av
   have bX:mQ vs s nn t=some i:=by unfold mQ;rw[xaa bH,ag]
   obtain⟨x,qE⟩:=Uh v3 bH;unfold ku;rw[xab ad,bX];simp only[v1,qE];have ai:t.op=3\/t.op=4:=by omega
   generalize t.op=op at*;rcases ai with rfl|rfl
   .simp only[show¬((3:Int)=4) by omega,xaA]at qE;cases ak:v.bool<;>simp[lI,df,aL,bh,bo,bC,ae,fM v1,v.vI,jd qE,hA,oT,ak]
   simp only[xaz]at qE;cases ak:v.bool<;>simp[lI,df,aL,bh,bo,bC,ae,fM v1,v.vI,adF qE,hA,oT,ak]
  rw[xab a8];have avm:∀k∈t.aW,steps k=true->nn.length=vs.length:=λk ah h=>by refine eI ?_;cases bP:oS t.aW with|true=>rw[NR,bP,Bool.or_true]|false=>rw[adx ah bP]at h;cases h
  have an:=c8 (f:=xu (rY n) n) t.aW (λi (p:List Int)=>[bd vs,b0 s,h2 bn nn,J (if t.op=6\/t.op=7 then p.sum else 0),J (i:Int),J t.op,J t.num,aQ t.name,cF 4 t.nl (Tm.rows t.aW),b0 p]) (λr p=>match gP vs s nn r with
    |some l=>(Sum.inl [J (if t.op=6\/t.op=7 then(p++l).sum else 0),J t.op,J t.num,aQ t.name,cF 4 t.nl (Tm.rows t.aW),b0 (p++l)]:List D⊕D)
    |none=> .inr (.aO [J 0,ay false]))
   (λi p=>p.length=i/\∀v∈p,dP v=true) ?_ ?_ n 0 [] ⟨rfl,by simp⟩ (by omega) (xai _)
  .have bO:(J ((0:Nat):Int))=J 0:=rfl;have aN:b0 []= .aA 1 []:=rfl;rw[bO,aN]at an;simp only[List.sum_nil,ite_self,xap,xaI]at an;cases j9:gP vs s nn t.aW with
   |none=>
    rw[j9]at an;have e3:(t.op==1)=false:=by simp;omega
    have hW:(t.op==2)=false:=by simp;omega
    have kL:(t.op==3)=false:=by simp;omega
    have qz:(t.op==4)=false:=by simp;omega
    simp[lI,e3,hW,kL,qz,an]
   |some l=>rw[j9]at an;obtain⟨g1,g2,g3,g4⟩:=adE (nx:=nx) aK aF (by omega) j9;exact avk (rY n) n vs s nn t l aK g1 (by omega) g2 g3 g4 an
  .intro p aU;simp[xu,gP]
  intro i a p aH ag aU;have hm:=xac aH;have bm:=Tm.iZ hm;have au:=adL vs nx s nn mh av n a (by omega) (bq.eY hm) (aK.eY hm) (I8 aK aF hm) (avm a hm);have dw:cJ (p.length+1) 8=true:=adJ (by omega);by_cases aq:(ej vs s nn a).2=true
  .left;have e4:=ady (aK.eY hm) aq;refine⟨p++[(ej vs s nn a).1],?_,?_,by simp[aU.1],?_⟩
   .have sE:=T7 p aU.2;have sF:=(jL _).1 e4;have e6:aj false .add (J p.sum) (J (ej vs s nn a).1)=some (J (p.sum+(ej vs s nn a).1)):=er (by omega) (by omega);by_cases sb:t.op=6\/t.op=7
    .have aBx:(if t.op=6 then true else decide (t.op=7))=true:=by rcases sb with h|h<;>simp[h]
     rcases sb with h|h;.simp[xu,ag,Tm.gW aH,au,aq,cc (bt:=false) (i:=i) (by omega),dw,h,e6]
     simp[xu,ag,Tm.gW aH,au,aq,cc (bt:=false) (i:=i) (by omega),dw,h,e6]
    have cI:¬t.op=6:=λh=>sb (.inl h);have fo:¬t.op=7:=λh=>sb (.inr h);simp[xu,ag,Tm.gW aH,au,aq,cc (bt:=false) (i:=i) (by omega),dw,cI,fo]
   .rw[gP,xaa aq];cases gP vs s nn (t.aW.drop (i+1))with|none=>rfl|some l=>simp
   intro v gy;rcases xaL.1 gy with h|h
   .exact aU.2 v h
   simp at h;rw[h];exact e4
  right;rw[gP,xab aq];have I9:(ej vs s nn a).2=false:=by simpa using aq
  simp[xu,ag,Tm.gW aH,au,I9]
theorem avn{M:List (Value×D)}(h:lH M){z:Value}{x:ByteArray}:kl .string z false M (aQ x)=some (match gf M x with|some d=>d|none=>qQ z):=by simp only[kl,aQ,Zc h];cases gf M x<;>rfl
def DU(p:Int×Bool):bf 0 (fN p)=some (J (if p.2=true then p.1 else 0)):=by obtain⟨v,o⟩:=p;cases o<;>simp[fN]
def DV(p:Int×Bool):bf 1 (fN p)=some (ay p.2):=by obtain⟨v,o⟩:=p;cases o<;>simp[fN]
def DW(p:Int×Bool):D.aO [J (if p.2=true then p.1 else 0),ay p.2]=fN p:=by obtain⟨v,o⟩:=p;cases o<;>simp[fN]
theorem avo(p:Int×Bool):(fN p).flat=true:=by obtain⟨v,o⟩:=p;cases o<;>rfl
def adM(vs:List V)(nx:Bool)(s nn:List Int)(M:List (Value×D))(cH:NG M vs)(mh:vs.length<1000000000000)(av:s.length=vs.length)(e4:∀v,v∈s\/v∈nn->-9223372036854775808<=v/\v<=9223372036854775807):∀(n:Nat)(t:Tm),t.bD+200<n->t.cz->Valid t->(dE vs nx t).2=0->vu n [t.d,b0 s,.mp M,h2 bn nn,bd vs]=some [fN (ej vs s nn t),b0 s,.mp M,h2 bn nn,bd vs]
 |0,t,h,_,_,_=>absurd h (xaF _)
 |n+1,t,aC,bq,aK,aF=>by
  have dI:=aK.op;have IZ:=aK.DM;rw[qC];show vt (vu n) n [t.d,b0 s,.mp M,h2 bn nn,bd vs]=_;have an:=c8 (f:=H6 (vu n) n) t.aW (λi (p:List Int)=>[cF 4 t.nl (Tm.rows t.aW),J t.aW.length,J (i:Int),b0 s,.mp M,h2 bn nn,bd vs,J t.op,J t.num,aQ t.name,cF 4 t.nl (Tm.rows t.aW),b0 p]) (λr p=>match gP vs s nn r with|some l=>(Sum.inl [b0 s,.mp M,h2 bn nn,bd vs,J t.op,J t.num,aQ t.name,cF 4 t.nl (Tm.rows t.aW),b0 (p++l)]:List D⊕List D)|none=> .inr [.aO [J 0,ay false],b0 s,.mp M,h2 bn nn,bd vs])
   (λi p=>p.length=i) ?_ ?_ n 0 [] rfl (by omega) (xai _)
  .have bO:(J ((0:Nat):Int))=J 0:=rfl;have aN:b0 []= .aA 1 []:=rfl;have DX:D.aO [J 0,ay false]=fN (0,false):=rfl;rw[bO,aN]at an;simp only[xap,xaI]at an;have aL:=Tm.px t;have bh:=Tm.s6 t;have bo:=Tm.s7 t;have bC:=Tm.rq t;have df:=Tm.m6 t;by_cases a8:t.op<=4
   .rw[xaa a8];rw[nJ,xaa a8]at aF;have ah:=aK.leaf a8;rw[ah]at an;have z0:((([]:List Tm).length:Nat):Int)=0:=rfl;simp only[gP,xax,z0]at an;have aBy:D.aA 1 []=b0 []:=rfl;have hA:=adq n;by_cases ad:t.op<=2
    .unfold ku;rw[xaa ad];have ai:t.op=1\/t.op=2:=by omega
     generalize t.op=op at*;rcases ai with rfl|rfl<;>simp[vt,df,aL,bh,bo,bC,ah,an,fN]
    obtain⟨i,ag⟩:=adK aF (by omega);obtain⟨v,v1,v2,v3⟩:=xM ag;have tJ:=avn cH.1 (z:= .int .i64 0) (x:=t.name);rw[cH.2,ag]at tJ;simp only[xaK]at tJ;have sW:mB (.mp M)=some M:=rfl;unfold ku;rw[xab ad];have ai:t.op=3\/t.op=4:=by omega
    have aBz:(t.op==3||t.op==4)=true:=by rcases ai with h|h<;>simp[h]
    by_cases bH:(if t.op=4 then nn else s).length=vs.length
    .have bX:mQ vs s nn t=some i:=by unfold mQ;rw[xaa bH,ag]
     obtain⟨x,qE⟩:=Uh v3 bH;have DG:=xac qE;rw[bX];simp only[v1,qE];have A0:oR (x+0) true=fN (x,dP x):=by rw[adu,Int.add_zero]
     generalize t.op=op at*;rcases ai with rfl|rfl
     .simp only[show¬((3:Int)=4) by omega,xaA]at qE DG bH;have di:=NN n x 0 (e4 x (.inl DG)) (by omega);rw[A0]at di;cases ak:v.bool<;>simp[vt,df,aL,bh,bo,bC,ah,an,sW,tJ,eQ,eg,bH,fM v1,v.vI,jd qE,hA,ak,di,DU,DV,DW]<;>(try exact DW (x,dP x))<;>(try rfl)
     simp only[xaz]at qE DG bH;have di:=NN n x 0 (e4 x (.inr DG)) (by omega);rw[A0]at di;cases ak:v.bool<;>simp[vt,df,aL,bh,bo,bC,ah,an,sW,tJ,eQ,eg,bH,fM v1,v.vI,adF qE,hA,ak,di,DU,DV,DW]<;>(try exact DW (x,dP x))<;>(try rfl)
    have bX:mQ vs s nn t=none:=by unfold mQ;rw[xab bH]
    rw[bX];have mF:t.op=4:=by refine ai.resolve_left λh=>bH ?_;rw[xab (by omega)];exact av
    rw[xaa mF]at bH;generalize t.op=op at*;subst mF;have cf:¬((nn.length:Int)=(vs.length:Int)):=by omega
    simp[vt,df,aL,bh,bo,bC,ah,an,sW,tJ,eQ,eg,bH,cf]<;>(try rfl)
   rw[xab a8];have e3:(t.op==1)=false:=by simp;omega
   have hW:(t.op==2)=false:=by simp;omega
   have kL:(t.op==3)=false:=by simp;omega
   have qz:(t.op==4)=false:=by simp;omega
   cases j9:gP vs s nn t.aW with
   |none=>rw[j9]at an;simp[vt,df,aL,bh,bo,bC,an]<;>(try rfl)
   |some l=>rw[j9]at an;obtain⟨g1,g2,g3,g4⟩:=adE (nx:=nx) aK aF (by omega) j9;have aG:=au5 n t l aK g1 (by omega) g2 (by omega) g3 g4;simp[vt,df,aL,bh,bo,bC,an,e3,hW,kL,qz,aG,avo,DU,DV,DW]
  .intro p aU;simp[H6,gP]
  intro i a p aH ag aU;have hm:=xac aH;have bm:=Tm.iZ hm;have au:=adM vs nx s nn M cH mh av e4 n a (by omega) (bq.eY hm) (aK.eY hm) (I8 aK aF hm);have dw:cJ (p.length+1) 8=true:=adJ (by omega);by_cases aq:(ej vs s nn a).2=true
  .left;refine⟨p++[(ej vs s nn a).1],?_,?_,by simp[aU]⟩;.simp[H6,ag,Tm.gW aH,au,aq,cc (bt:=false) (i:=i) (by omega),dw,DU,DV]
   rw[gP,xaa aq];cases gP vs s nn (t.aW.drop (i+1))with|none=>rfl|some l=>simp
  right;rw[gP,xab aq];have I9:(ej vs s nn a).2=false:=by simpa using aq
  simp[H6,ag,Tm.gW aH,au,I9,DU,DV]
def adN:∀(n:Nat)(t:Tm),t.bD<n->t.cz->rX n [t.d]=some (ay (steps t))
 |0,t,h,_=>absurd h (xaF _)
 |n+1,t,aC,bq=>by
  have bH:=bq.len;rw[NR];have an:=c8 (f:=Ir (rX n) n) t.aW (λi (_:Unit)=>[J (i:Int),J t.op,J t.num,aQ t.name,cF 4 t.nl (Tm.rows t.aW)]) (λr _=>if oS r=true then(Sum.inr (ay true):List D⊕D)else .inl []) (λ_ _=>True) (λ_ _=>by simp[Ir,oS]) ?_ n 0 () trivial (by have:=t.kO;omega) (xai _)
  .have bO:(J ((0:Nat):Int))=J 0:=rfl;rw[bO]at an;simp only[xap]at an;by_cases a8:t.op=4;.simp[rX,MQ,a8]
   have qz:(t.op==4)=false:=by simpa using a8
   cases av:oS t.aW<;>simp[rX,MQ,a8,an,av]
  intro i a _ aH ag _;have hm:=xac aH;have bm:=Tm.iZ hm;have au:=adN n a (by omega) (bq.eY hm);cases av:steps a
  .left;exact⟨(),by simp[Ir,ag,Tm.gW aH,au,av,cc (bt:=false) (i:=i) (by omega)],by simp[oS,av],trivial⟩
  right;simp[Ir,ag,Tm.gW aH,au,av,oS]
def adO{vs:List V}{s nn:List Int}:∀{l:List Tm}{r:List Int},gP vs s nn l=some r->∀k∈l,(ej vs s nn k).2=true
 |[],_,_,k,ah=>by cases ah
 |t::q,r,h,k,ah=>by
  rw[gP]at h;by_cases ab:(ej vs s nn t).2=true
  case neg=>rw[xab ab]at h;cases h
  rw[xaa ab]at h;cases ad:gP vs s nn q with
  |none=>rw[ad]at h;cases h
  |some l=>
   rcases xas.1 ah with rfl|ah;.exact ab
   exact adO ad k ah
def adP:∀{l:List Tm},oS l=true->∃k∈l,steps k=true
 |a::r,h=>by rw[oS]at h;cases aH:steps a with|true=>exact⟨a,by simp,aH⟩|false=>rw[aH,xbx]at h;obtain⟨k,ab,ad⟩:=adP h;exact⟨k,by simp[ab],ad⟩
def avp{vs:List V}{s nn:List Int}(cf:nn.length≠vs.length)(t:Tm):Valid t->steps t=true->(ej vs s nn t).2=false:=by
 refine Tm.ind (P:=λt=>Valid t->steps t=true->(ej vs s nn t).2=false) ?_ t;intro t ih aK h;rw[qC];rw[NR]at h;by_cases a8:t.op<=4
 .rw[xaa a8];have mF:t.op=4:=by
   rw[aK.leaf a8]at h;simpa[oS]using h
  unfold ku;rw[xab (by omega)];have:mQ vs s nn t=none:=by unfold mQ;rw[xaa mF,xab cf]
  rw[this]
 rw[xab a8];have ak:(t.op==4)=false:=by simp;omega
 rw[ak,xbx]at h;obtain⟨k,ab,ad⟩:=adP h;cases an:gP vs s nn t.aW with|none=>rfl|some l=>have:=adO an k ab;rw[ih k ab (aK.eY ab) ad]at this;cases this
def hG(vs:List V)(t:Tm)(s nn:List Int):Int×Bool:=if(jr vs true t).2≠0\/s.length≠vs.length then(0,false)else ej vs s nn t
def Ja{vs:List V}{nx:Bool}{t:Tm}(h:(jr vs nx t).2=0):Valid t/\(dE vs nx t).2=0:=by
 unfold jr at h;by_cases ai:(c4 t 1 0).1=0;.rw[xab (by simpa using ai)]at h;exact⟨⟨1,0,ai⟩,h⟩
 rw[xaa ai]at h;exact absurd h ai
def adQ(n:Nat)(vs:List V)(t:Tm)(s nn:List Int)(aC:t.bD+200+vs.length<n)(bq:t.cz)(mh:vs.length<1000000000000)(e4:∀v,v∈s\/v∈nn->-9223372036854775808<=v/\v<=9223372036854775807):rT n [bd vs,t.d,b0 s,h2 bn nn]=some (fN (hG vs t s nn)):=by
 have ab:=adi n vs t true aC bq mh;obtain⟨M,gd,jm⟩:=ade n vs (by omega) mh;have fW:bT (bd vs)=true:=rfl;have lv:∀l,bT (b0 l)=true:=λ_=>rfl;have DX:D.aO [J 0,ay false]=fN (0,false):=rfl;unfold hG;by_cases aF:(jr vs true t).2=0
 .by_cases av:s.length=vs.length
  .obtain⟨aK,eX⟩:=Ja aF;have az:=adM (bn:=bn) vs true s nn M jm mh av e4 n t (by omega) bq aK eX;have nL:((s.length:Int) !=(vs.length:Int))=false:=by simp[av]
   simp[rT,MI,fW,lv,ab,aF,av,eQ,eg,gd,az,DU,DV,DW]
  have nL:¬((s.length:Int)=(vs.length:Int)):=by omega
  simp[rT,MI,fW,lv,ab,aF,av,eQ,eg,nL];exact DX
 simp[rT,MI,fW,lv,ab,aF];exact DX
def adR(n:Nat)(vs:List V)(t:Tm)(s nn:List Int)(aC:t.bD+200+vs.length<n)(bq:t.cz)(mh:vs.length<1000000000000):pL n [bd vs,t.d,b0 s,h2 bn nn]=some (fN (hG vs t s nn)):=by
 have ab:=adj n vs t true aC bq mh;have ad:=adN n t (by omega) bq;have DX:D.aO [J 0,ay false]=fN (0,false):=rfl;unfold hG;by_cases aF:(jr vs true t).2=0
 .by_cases av:s.length=vs.length
  .obtain⟨aK,eX⟩:=Ja aF;by_cases eI:steps t=true/\nn.length≠vs.length
   .have avq:=avp (s:=s) eI.2 t aK eI.1;have avr:¬((nn.length:Int)=(vs.length:Int)):=by have:=eI.2;omega
    have au:fN (ej vs s nn t)= .aO [J 0,ay false]:=by unfold fN;rw[xab (by simp[avq])]
    simp[pL,Dd,ab,ad,aF,av,eQ,eg,eI.1,avr,au]
   have az:=adL (bn:=bn) vs true s nn mh av n t aC bq aK eX (λh=>by refine xbb λai=>eI ⟨h,ai⟩);have au:fN (ej vs s nn t)=if(ej vs s nn t).2=true then .aO [J (ej vs s nn t).1,ay true]else .aO [J 0,ay false]:=rfl
   by_cases Ui:steps t=true;.have oD:nn.length=vs.length:=xbb λai=>eI ⟨Ui,ai⟩;cases ak:(ej vs s nn t).2<;>simp[pL,Dd,ab,ad,aF,av,eQ,eg,Ui,oD,az,ak,au]
   have avs:steps t=false:=by simpa using Ui
   cases ak:(ej vs s nn t).2<;>simp[pL,Dd,ab,ad,aF,av,eQ,eg,avs,az,ak,au]
  have nL:¬((s.length:Int)=(vs.length:Int)):=by omega
  simp[pL,Dd,ab,ad,aF,av,eQ,eg,nL];exact DX
 simp[pL,Dd,ab,ad,aF];exact DX
def adS{lo ag x y:Int}(ab:lo<=x)(ad:x<=ag):j8 (lo*y) (ag*y)<=x*y/\x*y<=fw (lo*y) (ag*y):=by
 by_cases aP:0<=y;.have a:=Int.mul_le_mul_of_nonneg_right ab aP;have b:=Int.mul_le_mul_of_nonneg_right ad aP;unfold j8 fw;constructor<;>split<;>omega
 have a:=Int.mul_le_mul_of_nonpos_right ab (show y<=0 by omega);have b:=Int.mul_le_mul_of_nonpos_right ad (show y<=0 by omega);unfold j8 fw;constructor<;>split<;>omega
def adT{lo ag x y:Int}(ab:lo<=x)(ad:x<=ag):j8 (y*lo) (y*ag)<=y*x/\y*x<=fw (y*lo) (y*ag):=by have:=adS (y:=y) ab ad;rw[Int.mul_comm lo y,Int.mul_comm ag y,Int.mul_comm x y]at this;exact this
def avt{a b:Y}{x y:Int}(ae:a.lo<=x/\x<=a.ag)(aP:b.lo<=y/\y<=b.ag):DJ a b<=x*y/\x*y<=DK a b:=by have ab:=adS (y:=y) ae.1 ae.2;have ad:=adT (y:=a.lo) aP.1 aP.2;have ax:=adT (y:=a.ag) aP.1 aP.2;unfold DJ DK;generalize x*y=p at*;generalize a.lo*y=q at*;generalize a.ag*y=r at*;generalize a.lo*b.lo=s at*;generalize a.lo*b.ag=t at*;generalize a.ag*b.lo=u at*;generalize a.ag*b.ag=v at*;unfold j8 fw at*;omega
def avu{lo ag v:Int}(h:(gO lo ag).2=0)(ab:lo<=v)(ad:v<=ag):(gO lo ag).1.lo<=v/\v<=(gO lo ag).1.ag:=by
 unfold gO at*;split at h;.cases h
 rename_i ai;rw[xab ai];exact⟨ab,ad⟩
def gz(vs:List V)(s:List Int):Prop:=s.length=vs.length/\∀(i:Nat)(v:V)(x:Int),vs[i]?=some v->s[i]?=some x->if v.bool then x=0\/x=1 else v.lo<=x/\x<=v.ag
def within(y:Y)(v:Int):Prop:=if y.b then v=0\/v=1 else y.lo<=v/\v<=y.ag
def xP{lo ag v:Int}(h:(gO lo ag).2=0)(ab:lo<=v)(ad:v<=ag):within (gO lo ag).1 v:=by unfold within;rw[DS];exact avu h ab ad
def vJ{y:Y}{b:Bool}(h:y.b=true):within y (tr b):=by unfold within;rw[xaa h];exact I3 b
def adU{lo ag:Int}(h:(gO lo ag).2=0):-1048576<=lo/\ag<=1048576/\lo<=ag:=by
 unfold gO at h;split at h;.cases h
 omega
def avv{vs:List V}{s nn:List Int}{t:Tm}(av:gz vs s)(aC:gz vs nn)(aK:Valid t)(h:(kt vs true t).2=0):(ku vs s nn t).2=true/\within (kt vs true t).1 (ku vs s nn t).1:=by
 have tG:=aK.num;unfold kt at*;unfold ku;by_cases ab:t.op=1;.rw[xaa ab]at*;rw[xaa (by omega)];exact⟨rfl,xP h (Int.le_refl _) (Int.le_refl _)⟩
 rw[xab ab]at*;by_cases ad:t.op=2;.rw[xaa ad]at*;rw[xaa (by omega)];refine⟨rfl,?_⟩;unfold within;simp only[iM,xaz];omega
 rw[xab ad]at*;have dI:=aK.op;rw[xab (show¬t.op<=2 by omega)];cases ag:dO vs t.name with
 |none=>rw[ag]at h;cases h
 |some i=>
  rw[ag]at h;simp only at h⊢;obtain⟨v,v1,v2,v3⟩:=xM ag;have adV:¬(t.op=4/\true=false):=by simp
  rw[xab adV,v1]at h;rw[xab adV,v1];simp only at h⊢;have xH:gz vs (if t.op=4 then nn else s):=by split<;>assumption
  have bX:mQ vs s nn t=some i:=by unfold mQ;rw[xaa xH.1,ag]
  obtain⟨x,ae⟩:=Uh v3 xH.1;rw[bX];simp only[ae,v1];have au:=xH.2 i v x v1 ae;by_cases ak:v.bool=true
  .rw[xaa ak]at*;rw[xaa ak];exact⟨rfl,vJ rfl⟩
  rw[xab ak]at*;rw[xab ak];have lD:=adU h;exact⟨(jL _).2 (by omega),xP h au.1 au.2⟩
def avw{l:List Y}{pP:List Int}(an:l.all Y.b=true)(bH:pP.length=l.length)(h:∀(i:Nat)(y:Y)(v:Int),l[i]?=some y->pP[i]?=some v->within y v):∀v∈pP,v=0\/v=1:=by
 intro v aK;obtain⟨i,ag⟩:=xaJ.1 aK;have bZ:i<l.length:=by have:=(xae.1 ag).1;omega
 have aP:=xad bZ;have ak:=xau.1 an _ (xbd bZ);have hw:=h i _ v aP ag;unfold within at hw
 rwa [xaa ak]at hw
def avx{t:Tm}{a b c:Y}(h:¬(5<=t.op/\t.op<=9)):gx t [a,b,c]=if(!a.b||(b.b !=c.b))then(e0,13)else if b.b then(iM,0)else gO (j8 b.lo c.lo) (fw b.ag c.ag):=by unfold gx;rw[xab h]
def avy{t:Tm}{a b:Y}(h:¬(5<=t.op/\t.op<=9)):gx t [a,b]=if t.op=10\/t.op=11 then if a.b !=b.b then(e0,13)else(iM,0)
   else if(a.b||b.b)then(e0,13)
   else if t.op=12\/t.op=13 then(iM,0)
   else if t.op=17 then(match t.aW[1]? with
    |some k=>if k.op≠1\/k.num<1 then(e0,2)else gO 0 (k.num-1)
    |none=>(e0,0))
   else oQ t.op a b:=by
 unfold gx;rw[xab h]<;>rfl
def avz{op a b c:Int}(cI:¬op=6)(fo:¬op=7):fk op [a,b,c]=(if a=1 then b else c,dP (if a=1 then b else c)):=by unfold fk;rw[xab cI,xab fo]
def avA{op a b:Int}(cI:¬op=6)(fo:¬op=7):fk op [a,b]=if op=8 then(tr (a==0||b==1),true)else if op=9\/op=10 then(tr (a==b),true)else if op=11 then(tr (a !=b),true)
   else if op=12 then(tr (decide (a<b)),true)else if op=13 then(tr (decide (a<=b)),true)
   else if op=14 then(a+b,dP (a+b))else if op=15 then(a-b,dP (a-b))
   else if op=16 then if dP (a*b)then(a*b,true)else(0,false)
   else((a.tmod b+b).tmod b,dP ((a.tmod b+b).tmod b)):=by
 unfold fk;rw[xab cI,xab fo]
def avB{t:Tm}{l:List Y}{pP:List Int}(aK:Valid t)(b3:5<=t.op)(aG:(gx t l).2=0)(bB:∀y∈l,y.kW)(bH:l.length=t.aW.length)(j9:pP.length=l.length) (hw:∀(i:Nat)(y:Y)(v:Int),l[i]?=some y->pP[i]?=some v->within y v) (hm:t.op=17->∀k v,t.aW[1]?=some k->pP[1]?=some v->v=k.num):(fk t.op pP).2=true/\within (gx t l).1 (fk t.op pP).1:=by
 have dI:=aK.op;have A3:=aK.len;have NV:5<=t.op/\t.op<=9->(gx t l).1.b=true:=λh=>by have:=NS aG h;unfold gx;rw[xaa h,xaa this];rfl
 by_cases sb:t.op=6\/t.op=7
 .have ak:=NV (by omega);unfold fk;rcases sb with h|h
  .rw[xaa h];exact⟨rfl,vJ ak⟩
  rw[xab (by omega),xaa h];exact⟨rfl,vJ ak⟩
 by_cases uL:t.op=5
 .have ak:=NV (by omega);have:fQ t.op=(1,1):=by rw[uL];rfl
  rw[this]at A3;have r9:pP.length=1:=by simp only at A3;omega
  match pP,r9,j9,hw with|[a],_,j9,hw=>have aH:=avw (NS aG (by omega)) j9 hw a (by simp);have e4:dP (1-a)=true:=(jL _).2 (by omega);unfold fk;rw[xab (by omega),xab (by omega)];refine⟨e4,?_⟩;unfold within;rw[xaa ak];simp only;omega
 have cI:¬t.op=6:=by omega
 have fo:¬t.op=7:=by omega
 by_cases nK:t.op=18
 .rw[AV nK]at A3;obtain⟨a,b,c,rfl⟩:=vH (l:=l) (by simp only at A3;omega);obtain⟨x,y,z,rfl⟩:=vH (l:=pP) (by simpa using j9);have NW:¬(5<=t.op/\t.op<=9):=by omega
  obtain⟨Ue,A2,adC⟩:=Uc aG NW;have q2:=hw 0 a x rfl rfl;have qa:=hw 1 b y rfl rfl;have NX:=hw 2 c z rfl rfl;have qy:=bB b (by simp);have gc:=bB c (by simp);unfold within at q2 qa NX;rw[avz cI fo];rw[avx NW]at aG⊢;have yK:¬(!a.b||(b.b !=c.b))=true:=by rw[Ue,A2];simp
  rw[xab yK]at aG⊢;by_cases ak:b.b=true
  .rw[xaa ak];rw[xaa ak]at qa;rw[<-A2,xaa ak]at NX;by_cases ae:x=1;.rw[xaa ae];have q:dP y=true:=(jL _).2 (by omega);refine⟨q,?_⟩;unfold within;simp only[iM,xaz];exact qa
   rw[xab ae];have q:dP z=true:=(jL _).2 (by omega);refine⟨q,?_⟩;unfold within;simp only[iM,xaz];exact NX
  rw[xab ak]at aG⊢;rw[xab ak]at qa;rw[<-A2,xab ak]at NX;obtain⟨_,e3,hW,kL⟩:=qy;obtain⟨_,bh,bo,bC⟩:=gc;have iN:j8 b.lo c.lo<=b.lo/\j8 b.lo c.lo<=c.lo:=by unfold j8;split<;>omega
  have sO:b.ag<=fw b.ag c.ag/\c.ag<=fw b.ag c.ag:=by unfold fw;split<;>omega
  by_cases ae:x=1;.rw[xaa ae];have q:dP y=true:=(jL _).2 (by omega);exact⟨q,xP aG (by omega) (by omega)⟩
  rw[xab ae];have q:dP z=true:=(jL _).2 (by omega);exact⟨q,xP aG (by omega) (by omega)⟩
 rw[xL (show 8<=t.op/\t.op<=17 by omega)]at A3;obtain⟨a,b,rfl⟩:=qx (l:=l) (by simp only at A3;omega);obtain⟨x,y,rfl⟩:=qx (l:=pP) (by simpa using j9);have q2:=hw 0 a x rfl rfl;have qa:=hw 1 b y rfl rfl;have AW:=bB a (by simp);have qy:=bB b (by simp);rw[avA cI fo];by_cases gD:t.op=8
 .rw[xaa gD];exact⟨rfl,vJ (NV (by omega))⟩
 rw[xab gD];by_cases jW:t.op=9;.rw[xaa (Or.inl jW)];exact⟨rfl,vJ (NV (by omega))⟩
 have NW:¬(5<=t.op/\t.op<=9):=by omega
 rw[avy NW]at aG⊢;by_cases xQ:t.op=10\/t.op=11
 .rw[xaa xQ]at aG⊢;by_cases ai:(a.b !=b.b)=true;.rw[xaa ai]at aG;cases aG
  rw[xab ai];rcases xQ with h|h
  .rw[xaa (Or.inr h)];exact⟨rfl,vJ rfl⟩
  have aC:¬(t.op=9\/t.op=10):=by omega
  rw[xab aC,xaa h];exact⟨rfl,vJ rfl⟩
 rw[xab xQ]at aG⊢;have avC:¬(t.op=9\/t.op=10):=by omega
 have lM:¬t.op=11:=by omega
 rw[xab avC,xab lM];by_cases ai:(a.b||b.b)=true;.rw[xaa ai]at aG;cases aG
 rw[xab ai]at aG⊢;have jK:a.b=false/\b.b=false:=by cases aH:a.b<;>cases ak:b.b<;>simp_all
 have I7:¬(false=true):=by simp
 unfold within at q2 qa;rw[jK.1,xab I7]at q2;rw[jK.2,xab I7]at qa;obtain⟨_,ao,a2,a3⟩:=AW;obtain⟨_,e3,hW,kL⟩:=qy;by_cases Uj:t.op=12\/t.op=13
 .rw[xaa Uj];rcases Uj with h|h
  .rw[xaa h];exact⟨rfl,vJ rfl⟩
  have aC:¬t.op=12:=by omega
  rw[xab aC,xaa h];exact⟨rfl,vJ rfl⟩
 rw[xab Uj]at aG⊢;have Uk:¬t.op=12:=by omega
 have lf:¬t.op=13:=by omega
 rw[xab Uk,xab lf];by_cases pO:t.op=17
 .rw[xaa pO]at aG⊢;have qD:¬t.op=14:=by omega
  have Jb:¬t.op=15:=by omega
  have eR:¬t.op=16:=by omega
  rw[xab qD,xab Jb,xab eR];cases ah:t.aW[1]? with
  |none=>have:=List.getElem?_eq_none_iff.1 ah;simp only at A3;omega
  |some k=>
   rw[ah]at aG;simp only at aG⊢;by_cases az:k.op≠1\/k.num<1;.rw[xaa az]at aG;cases aG
   rw[xab az]at aG⊢;have PF:=hm pO k y ah rfl;subst PF;have aBA:=(aK.eY (xac ah)).num;have gd:=I0 (a:=x) (b:=k.num) (by omega);have jm:=I0 (a:=x.tmod k.num+k.num) (b:=k.num) (by omega);have IN:=Int.tmod_nonneg (a:=x.tmod k.num+k.num) k.num (by omega);have q:dP ((x.tmod k.num+k.num).tmod k.num)=true:=(jL _).2 (by omega);exact⟨q,xP aG IN (by omega)⟩
 rw[xab pO]at aG⊢;unfold oQ at aG⊢;by_cases Jb:t.op=15
 .have qD:¬t.op=14:=by omega
  simp only[xaa Jb,xab qD]at aG⊢;have q:dP (x-y)=true:=(jL _).2 (by omega);exact⟨q,xP aG (by omega) (by omega)⟩
 by_cases qD:t.op=14;.simp only[xab Jb,xaa qD]at aG⊢;have q:dP (x+y)=true:=(jL _).2 (by omega);exact⟨q,xP aG (by omega) (by omega)⟩
 have eR:t.op=16:=by omega
 simp only[xab qD,xab Jb,xaa eR]at aG⊢;have adW:=avt q2 qa;have lD:=adU aG;have e4:dP (x*y)=true:=(jL _).2 (by omega);simp only[xaa e4];exact⟨trivial,xP aG adW.1 adW.2⟩
def adX{vs:List V}{s nn:List Int}:∀{l:List Tm},(∀k∈l,(ej vs s nn k).2=true)->gP vs s nn l=some (l.map λk=>(ej vs s nn k).1)
 |[],_=>rfl|t::r,h=>by rw[gP,xaa (h t (by simp)),adX λk ah=>h k (by simp[ah])];rfl
def adY{vs:List V}{nx:Bool}:∀{l:List Tm},(dK vs nx l).2=0->(dK vs nx l).1=l.map λk=>(dE vs nx k).1
 |[],_=>rfl
 |t::r,h=>by
  rw[dK]at*;by_cases ab:(dE vs nx t).2=0
  case neg=>rw[xaa ab]at h;exact absurd h ab
  have dQ:¬(dE vs nx t).2≠0:=by simpa using ab
  rw[xab dQ]at h⊢;by_cases ad:(dK vs nx r).2=0
  case neg=>rw[xaa ad]at h;exact absurd h ad
  have gR:¬(dK vs nx r).2≠0:=by simpa using ad
  rw[xab gR];simp[adY ad]
def adZ{vs:List V}{s nn:List Int}(av:gz vs s)(aC:gz vs nn)(t:Tm):Valid t->(dE vs true t).2=0->(ej vs s nn t).2=true/\within (dE vs true t).1 (ej vs s nn t).1:=by
 refine Tm.ind (P:=λt=>Valid t->(dE vs true t).2=0->(ej vs s nn t).2=true/\within (dE vs true t).1 (ej vs s nn t).1) ?_ t;intro t ih aK h;have ah:∀k∈t.aW,(dE vs true k).2=0:=λk ah=>I8 aK h ah;rw[nJ]at h⊢;rw[qC];by_cases a8:t.op<=4
 .rw[xaa a8]at*;rw[xaa a8];exact avv av aC aK h
 rw[xab a8]at h⊢;rw[xab a8];by_cases aq:(dK vs true t.aW).2=0
 case neg=>rw[xaa aq]at h;exact absurd h aq
 have I9:¬(dK vs true t.aW).2≠0:=by simpa using aq
 rw[xab I9]at h⊢;have j9:gP vs s nn t.aW=_:=adX λk ny=>(ih k ny (aK.eY ny) (ah k ny)).1;rw[j9];simp only;obtain⟨g1,g2⟩:=DL vs true t.aW aq;have m4:=adY aq;refine avB aK (by omega) h g2 g1 (by rw[g1];simp) ?_ ?_
 .intro i y v aP gy;rw[m4]at aP;simp only[xag,xaj]at aP gy;obtain⟨k,cA,rfl⟩:=aP;obtain⟨bu,dv,rfl⟩:=gy;rw[cA]at dv;cases dv;exact(ih k (xac cA) (aK.eY (xac cA)) (ah k (xac cA))).2
 intro pO k v rl r9;simp only[xag,rl,xaK,xaH]at r9;have jh:=aK.len;rw[xL (by omega)]at jh;obtain⟨I4,DT,aP⟩:=qx (l:=(dK vs true t.aW).1) (by simp only at jh;omega);rw[aP]at h;have:=adz h pO rl;rw[<-r9,qC,xaa (by omega)];unfold ku;rw[xaa (by omega)]
end Go.Am
