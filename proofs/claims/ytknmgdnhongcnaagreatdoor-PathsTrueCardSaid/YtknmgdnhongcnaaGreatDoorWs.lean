/- Laws, on data. No condition. -/
import Derived.Test.YtknmgdnhongcnaaGreatDoorLaws
import Derived.Test.YtknmgdnhongcnaaGreatDoorEngS
import Derived.KernelRfl
set_option linter.all false
set_option linter.unnecessarySimpa false
namespace Go.Am
set_option linter.unusedVariables false
set_option linter.unusedSimpArgs false
structure cj where
 name:ByteArray
 f:Fm
def cj.cells(d:cj):List D:=[aI d.name,J d.f.op,J d.f.e.op,J d.f.e.num,aI d.f.e.name,bM 4 d.f.e.nl (Tm.rows d.f.e.kids),bM 6 d.f.nl (Fm.rows d.f.kids)]
def av(l:List Tm):D:= .aE 4 (Tm.rows l)
def bs(l:List cj):D:= .aE 7 (l.map cj.cells)
theorem sJ{l:List Tm}{i:Nat}{t:Tm}(h:l[i]?=some t):a3 4 (av l) (J (i:Int))=some t.cells:=by simp [av,Tm.BJ h]
theorem hy(l:List Tm):lenP (av l)=some (J l.length):=by simp [av]
theorem kG{l:List cj}{i:Nat}{t:cj}(h:l[i]?=some t):a3 7 (bs l) (J (i:Int))=some t.cells:=by simp [bs,h]
theorem g7(l:List cj):lenP (bs l)=some (J l.length):=by simp [bs]
def cj.d(d:cj):D:= .agg d.cells
theorem cj.W6(d:cj):aX true 7 0 d.cells=some d.d:=rfl
theorem cj.g3(d:cj):aX true 6 1 d.cells=some d.f.d:=by rw [Fm.h1];rfl
theorem cj.fJ(d:cj):aX false 1 0 d.cells=some (aI d.name):=rfl
theorem cj.agg(d:cj):aK 7 d.d=true:=by unfold cj.d cj.cells;simp [S7]
theorem cj.aP(d:cj):aa d.d 0=aI d.name:=rfl
theorem cj.bc(d:cj):aa d.d 1=J d.f.op:=rfl
theorem cj.bm(d:cj):aa d.d 2=J d.f.e.op:=rfl
theorem cj.bB(d:cj):aa d.d 3=J d.f.e.num:=rfl
theorem cj.cm(d:cj):aa d.d 4=aI d.f.e.name:=rfl
theorem cj.cD(d:cj):aa d.d 5=bM 4 d.f.e.nl (Tm.rows d.f.e.kids):=rfl
theorem cj.cE(d:cj):aa d.d 6=bM 6 d.f.nl (Fm.rows d.f.kids):=rfl
structure al where
 vars:List V
 defs:List a9
 init:List Tm
 bk:List Tm
 next:List a9
 trans:List Tm
 fair:List Tm
 specs:List cj
def al.d(m:al):D:= .agg [a8 m.vars,aH m.defs,av m.init,av m.bk,aH m.next,av m.trans,av m.fair,bs m.specs]
section
variable(m:al)
theorem al.aP:aa m.d 0=a8 m.vars:=rfl
theorem al.bc:aa m.d 1=aH m.defs:=rfl
theorem al.bm:aa m.d 2=av m.init:=rfl
theorem al.bB:aa m.d 3=av m.bk:=rfl
theorem al.cm:aa m.d 4=aH m.next:=rfl
theorem al.cD:aa m.d 5=av m.trans:=rfl
theorem al.cE:aa m.d 6=av m.fair:=rfl
theorem al.cP:aa m.d 7=bs m.specs:=rfl
theorem al.agg:aK 8 m.d=true:=rfl
theorem al.eta:D.agg [a8 m.vars,aH m.defs,av m.init,av m.bk,aH m.next,av m.trans,av m.fair,bs m.specs]=m.d:=rfl
end
end Go.Am
namespace Go.Am
set_option linter.unusedVariables false
set_option linter.unusedSimpArgs false
theorem W7:∀l:List Tm,l0 l=l.map fm
 |[]=>rfl
 |k::r=>by rw [l0,W7 r];rfl
theorem Ae(t:Tm):fm t= .mk t.op t.num t.name false (t.kids.map fm):=by cases t;rw [fm,W7];rfl
theorem IG(t:Tm):(fm t).ba=t.ba:=by
 refine Tm.ind (P:=fun t=>(fm t).ba=t.ba) ?_ t
 intro t ih
 have key:∀l:List Tm,(∀k∈l,(fm k).ba=k.ba)→Tm.c7 (l.map fm)=Tm.c7 l:=by
  intro l
  induction l with
  |nil=>intro _;rfl
  |cons a r kb=>intro h;simp only [List.map_cons,Tm.c7];rw [h a (by simp),kb fun k ai=>h k (by simp [ai])]
 rw [Tm.uw,Tm.uw t,Ae]
 show 2+Tm.c7 (t.kids.map fm)=_
 rw [key _ ih]
theorem aoI(t:Tm):t.bO→(fm t).bO:=by
 refine Tm.ind (P:=fun t=>t.bO→(fm t).bO) ?_ t
 intro t ih a7
 rw [Ae]
 have hlen:=a7.len
 obtain ⟨dT,dw,gA⟩:(-9223372036854775808≤t.op∧t.op≤9223372036854775807)∧(-9223372036854775808≤t.num∧t.num≤9223372036854775807)∧t.name.size≤140737488355328:=by
  cases a7 with|mk o n s b ks az aJ aB an ai=>exact ⟨az,aJ,aB⟩
 refine .mk _ _ _ _ _ dT dw gA (by simpa using hlen) ?_
 intro k ai
 obtain ⟨bg,dZ,rfl⟩:=List.mem_map.1 ai
 exact ih bg dZ (a7.dM dZ)
end Go.Am
namespace Go.Am
set_option linter.unusedVariables false
set_option linter.unusedSimpArgs false
def hL:Int:=9007199254740992
def dy(n:Int):Bool:=decide (-9007199254740992≤n)&&decide (n≤9007199254740992)
def mZ(n:Int)(ok:Bool):D:=if ok&&dy n then .aL [J n,ar true] else .aL [J 0,ar false]
theorem aoJ(n:Nat)(a:Int)(ok:Bool):C9 n [J a,ar ok]=some (mZ a ok):=by
 unfold mZ dy
 cases ok<;>simp [C9,TZ,-LO,-Lu]
 grind
theorem IH(n:Nat)(a b:Int)(aA:-9223372036854775808≤a∧a≤9223372036854775807)(ak:-9223372036854775808≤b∧b≤9223372036854775807):qX n [J a,J b]=some (mZ (a+b) true):=by
 have bp:=aoJ n
 by_cases ad:(a<0)=(b<0)
 case neg=>
  have e:IntKind.i64.wrap (a+b)=a+b:=by
   refine wrap64 _ ?_ ?_
   ·by_cases c:a<0<;>by_cases d:b<0<;>simp [c,d] at ad<;>omega
   ·by_cases c:a<0<;>by_cases d:b<0<;>simp [c,d] at ad<;>omega
  have cc:(decide (a<0) !=decide (b<0))=true:=by by_cases c:a<0<;>by_cases d:b<0<;>simp [c,d] at ad⊢
  simp [qX,Hv,Gy,e,cc,bp]
  unfold mZ;split<;>simp
 have cc:(decide (a<0) !=decide (b<0))=false:=by by_cases c:a<0<;>by_cases d:b<0<;>simp [c,d] at ad⊢
 by_cases au:-9223372036854775808≤a+b∧a+b≤9223372036854775807
 ·have e:IntKind.i64.wrap (a+b)=a+b:=wrap64 _ au.1 au.2
  have aB:(decide (a<0)==decide (a+b<0))=true:=by
   by_cases c:a<0<;>by_cases d:b<0<;>simp [c,d] at ad⊢<;>omega
  simp [qX,Hv,Gy,e,cc,aB,bp]
  unfold mZ;split<;>simp
 ·have e:IntKind.i64.wrap (a+b)=if a<0 then a+b+18446744073709551616 else a+b-18446744073709551616:=by
   simp only [IntKind.wrap_i64]
   split<;>omega
  have aB:(decide (a<0)==decide (IntKind.i64.wrap (a+b)<0))=false:=by
   rw [e]
   by_cases c:a<0<;>by_cases d:b<0<;>simp [c,d] at ad⊢<;>omega
  simp [qX,Hv,Gy,cc,aB,bp]
  have:dy (a+b)=false:=by unfold dy;simp;omega
  simp [mZ,this]
def eD(n:Int):D:= .val (.int .u64 n)
section
variable{bt:Bool}{a b:Int}
theorem II(h:0≤a+b)(bh:a+b<18446744073709551616):binP bt .add (eD a) (eD b)=some (eD (a+b)):=by
 have e:binP bt .add (eD a) (eD b)=some (eD (IntKind.u64.wrap (a+b))):=rfl
 rw [e,IntKind.wrap_u64,Int.emod_eq_of_lt h bh]
theorem W8:binP bt .mul (eD a) (eD b)=some (eD (IntKind.u64.wrap (a*b))):=rfl
theorem IJ(h:0≤a*b)(bh:a*b<18446744073709551616):binP bt .mul (eD a) (eD b)=some (eD (a*b)):=by
 rw [W8,IntKind.wrap_u64,Int.emod_eq_of_lt h bh]
theorem aoK(h:0≤a):binP bt .shr (eD a) (eD 32)=some (eD (a/4294967296)):=by
 have e:binP bt .shr (eD a) (eD 32)=some (eD (a.fdiv (2^(min (32:Int).toNat IntKind.u64.bits)))):=rfl
 rw [e]
 have:(2:Int)^(min (32:Int).toNat IntKind.u64.bits)=4294967296:=by decide
 rw [this,Int.fdiv_eq_ediv_of_nonneg _ (by omega)]
theorem aoL(h:0≤a)(bh:a<18446744073709551616):binP bt .and (eD a) (eD 4294967295)=some (eD (a%4294967296)):=by
 have e:binP bt .and (eD a) (eD 4294967295)=some (eD (IntKind.u64.wrap ((BitVec.ofInt IntKind.u64.bits a&&&BitVec.ofInt IntKind.u64.bits 4294967295).toNat:Int))):=rfl
 rw [e]
 have ak:IntKind.u64.bits=64:=rfl
 obtain ⟨m,rfl⟩:∃m:Nat,a=m:=⟨a.toNat,by omega⟩
 have aQ:(BitVec.ofInt 64 (m:Int)&&&BitVec.ofInt 64 4294967295).toNat=m%4294967296:=by
  have aW:BitVec.ofInt 64 (m:Int)=BitVec.ofNat 64 m:=by simp
  have bA:BitVec.ofInt 64 4294967295=BitVec.ofNat 64 4294967295:=by decide
  rw [aW,bA,BitVec.toNat_and,BitVec.toNat_ofNat,BitVec.toNat_ofNat,Nat.mod_eq_of_lt (by omega)]
  have:=Nat.and_two_pow_sub_one_eq_mod m 32
  simpa using this
 rw [ak,aQ,IntKind.wrap_u64]
 congr 2
 omega
theorem IK:binP bt .neq (eD a) (eD b)=some (ar (a !=b)):=rfl
theorem IL:binP bt .gtr (eD a) (eD b)=some (ar (decide (a>b))):=rfl
end
theorem IM{x y:Int}(ah:0≤x∧x≤4294967295)(aT:0≤y∧y≤4294967295):0≤x*y∧x*y≤18446744065119617025:=by
 refine ⟨Int.mul_nonneg ah.1 aT.1,?_⟩
 have:=Int.mul_le_mul ah.2 aT.2 aT.1 (by omega)
 simpa using this
theorem aoM(n:Nat)(x y:Int)(ah:0≤x∧x<18446744073709551616)(aT:0≤y∧y<18446744073709551616):
  Hw n [eD x,eD y]=some (.aL [eD (x*y/18446744073709551616),eD (x*y%18446744073709551616)]):=by
 have ag:0≤x%4294967296∧x%4294967296≤4294967295:=by omega
 have aS:0≤x/4294967296∧x/4294967296≤4294967295:=by omega
 have fk:0≤y%4294967296∧y%4294967296≤4294967295:=by omega
 have g0:0≤y/4294967296∧y/4294967296≤4294967295:=by omega
 have aoN:=IM ag fk
 have aoO:=IM aS fk
 have aoP:=IM ag g0
 have aoQ:=IM aS g0
 have aoR:x*y=(x/4294967296*(y/4294967296))*18446744073709551616+(x/4294967296*(y%4294967296)+x%4294967296*(y/4294967296))*4294967296+x%4294967296*(y%4294967296):=by
  have ex:x=x/4294967296*4294967296+x%4294967296:=by omega
  have AI:y=y/4294967296*4294967296+y%4294967296:=by omega
  generalize x/4294967296=u at*
  generalize x%4294967296=v at*
  generalize y/4294967296=w at*
  generalize y%4294967296=z at*
  subst ex;subst AI
  simp only [Int.add_mul,Int.mul_add]
  have aQ:u*4294967296*(w*4294967296)=u*w*18446744073709551616:=by
   rw [Int.mul_assoc,Int.mul_left_comm 4294967296 w,←Int.mul_assoc,Int.mul_comm 4294967296 4294967296];rfl
  have aW:u*4294967296*z=u*z*4294967296:=by rw [Int.mul_assoc,Int.mul_comm 4294967296 z,←Int.mul_assoc]
  have bA:v*(w*4294967296)=v*w*4294967296:=by rw [←Int.mul_assoc]
  omega
 show MD n (eD x) (eD y)=_
 have aoS:(D.val (.int .u64 32))=eD 32:=rfl
 have em:(D.val (.int .u64 4294967295))=eD 4294967295:=rfl
 have qA:∀q:Int,0≤q→binP false .shr (eD q) (eD 32)=some (eD (q/4294967296)):=fun q h=>aoK h
 have On:∀q:Int,0≤q→q<18446744073709551616→binP false .and (eD q) (eD 4294967295)=some (eD (q%4294967296)):=fun q h bh=>aoL h bh
 simp only [MD,aoS,em]
 rw [On x ah.1 ah.2,c9,qA x ah.1,c9,On y aT.1 aT.2,c9,qA y aT.1,c9,IJ aoN.1 (by omega),c9,IJ aoO.1 (by omega),c9]
 generalize x%4294967296*(y%4294967296)=aoT at*
 generalize x/4294967296*(y%4294967296)=auY at*
 rw [qA aoT (by omega),c9,II (by omega) (by omega),c9,On _ (by omega) (by omega),c9,qA _ (by omega),c9,IJ aoP.1 (by omega),c9]
 generalize x%4294967296*(y/4294967296)=auZ at*
 rw [II (by omega) (by omega),c9,IJ aoQ.1 (by omega),c9]
 generalize x/4294967296*(y/4294967296)=au0 at*
 rw [II (by omega) (by omega),c9,qA _ (by omega),c9,II (by omega) (by omega),c9,W8,c9,IntKind.wrap_u64,aoR]
 congr 3
 ·congr 1;omega
theorem W9(n:Nat)(a:Int)(aA:-9223372036854775808≤a∧a≤9223372036854775807):wO n [J a]=some (eD a.natAbs):=by
 have aQ:∀v:Int,unP .neg (.val (.int .u64 v))=some (eD (IntKind.u64.wrap (0-v))):=fun _=>rfl
 have aW:∀v:Int,cvP .u64 (J v)=some (.val (.int .u64 (IntKind.u64.wrap v))):=fun _=>rfl
 by_cases h:a<0
 ·simp [wO,MC,h,aW,aQ]
  simp only [IntKind.wrap_u64,eD,D.val.injEq,Value.int.injEq,true_and]
  omega
 ·simp [wO,MC,h,aW]
  simp only [IntKind.wrap_u64,eD,D.val.injEq,Value.int.injEq,true_and]
  omega
end Go.Am
namespace Go.Am
set_option linter.unusedVariables false
set_option linter.unusedSimpArgs false
theorem h4(n:Int):dy n=true↔n.natAbs≤9007199254740992:=by unfold dy;simp;omega
theorem Xa{a b:Int}{A B:Nat}(h:a.natAbs≤A)(bh:b.natAbs≤B):(a*b).natAbs≤A*B:=by
 rw [Int.natAbs_mul];exact Nat.mul_le_mul h bh
theorem sign_mul(a b:Int)(h:a*b≠0):((a<0)≠(b<0))↔a*b<0:=by
 have aA:a≠0:=by rintro rfl;simp at h
 have ak:b≠0:=by rintro rfl;simp at h
 rcases Int.lt_or_gt_of_ne aA with ad|ad<;>rcases Int.lt_or_gt_of_ne ak with ae|ae
 ·have:=Int.mul_pos_of_neg_of_neg ad ae
  simp [ad,ae];omega
 ·have:=Int.mul_neg_of_neg_of_pos ad ae
  simp [ad,this];omega
 ·have:=Int.mul_neg_of_pos_of_neg ad ae
  simp [ae,this];omega
 ·have:=Int.mul_pos ad ae
  simp;omega
theorem aoU(n:Nat)(a b:Int)(aA:dy a=true)(ak:dy b=true):tT n [J a,J b]=some (mZ (a*b) true):=by
 rw [h4] at aA ak
 have ad:=W9 n a (by omega)
 have ae:=W9 n b (by omega)
 have hm:=Xa aA ak
 have ax:=aoM n a.natAbs b.natAbs (by omega) (by omega)
 have e:((a.natAbs:Int)*b.natAbs)=((a*b).natAbs:Int):=by rw [Int.natAbs_mul];simp
 rw [e] at ax
 have aB:=sign_mul a b
 generalize a*b=p at*
 have aP:(D.val (.int .u64 0))=eD 0:=rfl
 have bc:(D.val (.int .u64 9007199254740992))=eD 9007199254740992:=rfl
 have aQ:∀v:Int,cvP .i64 (eD v)=some (J (IntKind.i64.wrap v)):=fun _=>rfl
 by_cases au:dy p=true
 ·have lL:=(h4 p).1 au
  have br:((p.natAbs:Int)/18446744073709551616)=0:=by omega
  have bj:((p.natAbs:Int)%18446744073709551616)=p.natAbs:=by omega
  have bS:IntKind.i64.wrap (p.natAbs:Int)=p.natAbs:=wrap64 _ (by omega) (by omega)
  have db:IntKind.i64.wrap (-(p.natAbs:Int))=-(p.natAbs:Int):=wrap64 _ (by omega) (by omega)
  have dA:¬(9007199254740992<(p.natAbs:Int)):=by omega
  rw [br,bj] at ax
  by_cases bz:p=0
  ·subst bz
   simp [tT,Da,ad,ae,ax,aP,bc,IK,IL,aQ,mZ,au]
   by_cases cJ:a<0<;>by_cases ht:b<0<;>simp [cJ,ht,show IntKind.i64.wrap 0=0 from rfl]
  ·have aB:=aB bz
   by_cases cJ:a<0<;>by_cases ht:b<0<;>simp [cJ,ht] at aB<;>simp [tT,Da,ad,ae,ax,aP,bc,IK,IL,aQ,mZ,au,dA,bS,db,cJ,ht]<;>omega
 ·have lL:¬(p.natAbs≤9007199254740992):=fun h=>au ((h4 p).2 h)
  have a4:dy p=false:=by simpa using au
  by_cases br:((p.natAbs:Int)/18446744073709551616)=0
  ·have bj:((p.natAbs:Int)%18446744073709551616)=p.natAbs:=by omega
   have dA:9007199254740992<(p.natAbs:Int):=by omega
   rw [br,bj] at ax
   simp [tT,Da,ad,ae,ax,aP,bc,IK,IL,aQ,mZ,a4,dA]
  ·have ed:((p.natAbs:Int)/18446744073709551616 !=0)=true:=by simpa using br
   simp [tT,Da,ad,ae,ax,aP,bc,IK,IL,aQ,mZ,a4,ed]
def tr(b:Bool):Int:=if b then 1 else 0
theorem Xb(n:Nat)(b:Bool):nH n [ar b]=some (.aL [J (tr b),ar true]):=by
 cases b<;>simp [nH,TY,tr]
theorem Xc(n:Nat)(b:Bool):nO n [ar b]=some (J (tr b)):=by
 cases b<;>simp [nO,UG,tr]
theorem Xd(n:Nat)(v:Int):uh n [J v]=some (ar (!dy v)):=by
 by_cases ad:v< -9007199254740992
 ·have:dy v=false:=by unfold dy;simp;omega
  simp [uh,HZ,this,ad]
 ·by_cases ae:9007199254740992<v
  ·have:dy v=false:=by unfold dy;simp;omega
   simp [uh,HZ,this,ad,ae]
  ·have:dy v=true:=by unfold dy;simp;omega
   simp [uh,HZ,this,ad,ae]
theorem Xe(n:Nat)(v:Int)(h:-9223372036854775807≤v∧v≤9223372036854775807):zQ n [J v]=some (J (v.natAbs:Int)):=by
 have:IntKind.i64.wrap (-v)=-v:=wrap64 _ (by omega) (by omega)
 simp [zQ,UH,this,IA,eS]
 split<;>omega
def eN(op:Int)(l:List Int):Int×Bool:=
 if op=6 then(tr (decide (l.sum=l.length)),true)
 else if op=7 then(tr (decide (l.sum>0)),true)
 else match l with
  |[a]=>(1-a,dy (1-a))
  |[a,b]=>if op=8 then(tr (a==0||b==1),true) else if op=9∨op=10 then(tr (a==b),true) else if op=11 then(tr (a !=b),true)
   else if op=12 then(tr (decide (a<b)),true) else if op=13 then(tr (decide (a≤b)),true)
   else if op=14 then(a+b,dy (a+b)) else if op=15 then(a-b,dy (a-b))
   else if op=16 then if dy (a*b) then(a*b,true) else(0,false)
   else((a.tmod b+b).tmod b,dy ((a.tmod b+b).tmod b))
  |[a,b,c]=>(if a=1 then b else c,dy (if a=1 then b else c))
  |_=>(0,false)
def e4(p:Int×Bool):D:=if p.2 then .aL [J p.1,ar true] else .aL [J 0,ar false]
theorem Xf(v:Int):mZ v true=e4 (v,dy v):=by simp [mZ,e4]
theorem Af{l:List Int}{i:Nat}{y:Int}(h:l[i]?=some y):a3 1 (cw l) (J (i:Int))=some [J y]:=by simp [cw,h]
theorem xQ{y:Int}{l:List Int}:a3 1 (cw (y::l)) (J 0)=some [J y]:=Af (i:=0) rfl
theorem Ag{x y:Int}{l:List Int}:a3 1 (cw (x::y::l)) (J 1)=some [J y]:=Af (i:=1) rfl
theorem aoV{x y z:Int}{l:List Int}:a3 1 (cw (x::y::z::l)) (J 2)=some [J z]:=Af (i:=2) rfl
theorem oE(l:List Int):lenP (cw l)=some (J l.length):=by simp [cw]
theorem Oo:∀(l:List Int),(∀v∈l,dy v=true)→-(9007199254740992*(l.length:Int))≤l.sum∧l.sum≤9007199254740992*(l.length:Int)
 |[],_=>by simp
 |a::r,h=>by
  have:=Oo r fun v aM=>h v (by simp [aM])
  have:=(h4 a).1 (h a (by simp))
  simp only [List.sum_cons,List.length_cons]
  omega
theorem aoW{l:List Int}(h:∀v∈l,dy v=true)(an:l.length≤64)(i:Nat):-576460752303423488≤(l.take i).sum∧(l.take i).sum≤576460752303423488:=by
 have:=Oo (l.take i) fun v aM=>h v (List.mem_of_mem_take aM)
 have hle:(l.take i).length≤64:=by rw [List.length_take];omega
 omega
theorem aoX(n:Nat)(Ah d1 d2 d3 d4:D)(l:List Int)(h:∀v∈l,dy v=true)(an:l.length≤64)(aJ:64<n):
  bo (Db n) n [Ah,J 0,cw l,J l.length,J 0,d1,d2,d3,d4]=some (.inl [Ah,J l.sum,d1,d2,d3,d4]):=by
 have af:=dv (f:=Db n) l (fun i (s:Int)=>[Ah,J s,cw l,J l.length,J (i:Int),d1,d2,d3,d4]) (fun r s=>(Sum.inl [Ah,J (s+r.sum),d1,d2,d3,d4]:List D⊕D)) (fun i s=>s=(l.take i).sum)
  (fun s _=>by simp [Db]) ?_ n 0 0 (by simp) (by omega) (Nat.zero_le _)
 ·have bG:(J ((0:Nat):Int))=J 0:=rfl
  rw [bG] at af
  simpa using af
 ·intro i a s aA af aB
  left
  have ak:=aoW h an i
  have R0:=(h4 a).1 (h a (List.mem_of_getElem? aA))
  have fa:binP false .add (J s) (J a)=some (J (s+a)):=dU (by omega) (by omega)
  refine ⟨s+a,by simp [Db,af,Af aA,fa,cg (bt:=false) (i:=i) (by omega)],by simp [Int.add_assoc],?_⟩
  rw [List.take_add_one,aA,aB]
  simp
theorem Et{a b:Int}(ak:1≤b):-b<a.tmod b∧a.tmod b<b:=by
 have ad:=Int.tmod_lt_of_pos a (show 0<b by omega)
 have ae:=Int.lt_tmod_of_pos a (show 0<b by omega)
 exact ⟨ae,ad⟩
set_option maxHeartbeats 1000000 in
theorem aoY(n:Nat)(t:Tm)(l:List Int)(aM:Valid t)(bP:l.length=t.kids.length)(dj:5≤t.op)(au:∀v∈l,dy v=true)(aJ:100<n)
  (ak:(t.op≤9→∀v∈l,v=0∨v=1)∧(t.op=18→∀v,l[0]?=some v→v=0∨v=1)) (hm:t.op=17→∀v,l[1]?=some v→1≤v∧v≤255):
  ij n [t.d,cw l]=some (e4 (eN t.op l)):=by
 have p3:=aM.op
 have hlen:=aM.len
 have aP:=Tm.mP t
 have de:=Tm.lr t
 have ai:=uC (op:=t.op)
 have sH:=xN (op:=t.op)
 have Es:=aM.Ad
 have Xg:=oE l
 have gr:=Xb n
 have Eu:=fun Ah d1 d2 d3 d4=>aoX n Ah d1 d2 d3 d4 l au (by omega) (by omega)
 by_cases p4:t.op=6∨t.op=7
 ·have hP:1≤l.length:=by
   have:e9 t.op=(1,64):=by unfold e9;rw [if_neg (by omega),if_neg (by omega),if_pos p4]
   rw [this] at hlen
   simp only at hlen;omega
  generalize t.op=op at*
  rcases p4 with rfl|rfl
  ·simp [ij,jK,de,aP,Xg,Eu,eN,e4,gr,-SA]
   by_cases aj:l.sum=(l.length:Int)<;>simp [aj,gr]
  ·simp [ij,jK,de,aP,Xg,Eu,eN,e4,gr,-SA]
   by_cases aj:l.sum=(l.length:Int)
   ·have:0<l.sum:=by omega
    have aV:0<l.length:=by omega
    simp [aj,gr,aV]
   ·by_cases aq:0<l.sum<;>simp [aj,aq,gr]
 have lH:t.op=5→l.length=1:=fun h=>by
  have:e9 t.op=(1,1):=by rw [h];rfl
  rw [this] at hlen;simp only at hlen;omega
 by_cases bI:t.op=5
 ·have:=lH bI
  match l,this with
  |[a],_=>
   have aA:=ak.1 (by omega) a (by simp)
   have e5:=xQ (y:=a) (l:=[])
   generalize t.op=op at*
   subst bI
   rcases aA with rfl|rfl
   ·simp [ij,jK,de,aP,e5,eN,e4,gr,tr,dy]
   ·simp [ij,jK,de,aP,e5,eN,e4,gr,tr,dy]
 by_cases oF:t.op=18
 ·rw [sH oF] at hlen
  obtain ⟨a,b,c,rfl⟩:=sG (l:=l) (by simp only at hlen;omega)
  have aA:=ak.2 oF a rfl
  have e5:=xQ (y:=a) (l:=[b,c])
  have a2:=Ag (x:=a) (y:=b) (l:=[c])
  have bb:=aoV (x:=a) (y:=b) (z:=c) (l:=[])
  have aoZ:=au b (by simp)
  have ao0:=au c (by simp)
  generalize t.op=op at*
  subst oF
  rcases aA with rfl|rfl
  ·simp [ij,jK,de,aP,e5,a2,bb,eN,e4,ao0]
  ·simp [ij,jK,de,aP,e5,a2,bb,eN,e4,aoZ]
 rw [ai (by omega)] at hlen
 obtain ⟨a,b,rfl⟩:=oB (l:=l) (by simp only at hlen;omega)
 have e5:=xQ (y:=a) (l:=[b])
 have a2:=Ag (x:=a) (y:=b) (l:=[])
 have Xh:=au a (by simp)
 have uQ:=au b (by simp)
 have Oq:=(h4 a).1 Xh
 have Xi:=(h4 b).1 uQ
 have dE:=IH n a b (by omega) (by omega)
 have c6:=IH n a (-b) (by omega) (by omega)
 have cU:=aoU n a b Xh uQ
 have Ot:IntKind.i64.wrap (-b)=-b:=wrap64 _ (by omega) (by omega)
 have lY:a+-b=a-b:=by omega
 have ah:∀p:Int×Bool,(extP 0 (e4 p))=some (J (if p.2 then p.1 else 0))∧(extP 1 (e4 p))=some (ar p.2):=by
  intro p;obtain ⟨v,o⟩:=p;cases o<;>simp [e4]
 have aT:∀p:Int×Bool,D.aL [J (if p.2 then p.1 else 0),ar p.2]=e4 p:=by
  intro p;obtain ⟨v,o⟩:=p;cases o<;>simp [e4]
 rw [lY] at c6
 rw [Xf] at dE c6 cU
 by_cases nU:t.op=17
 ·obtain ⟨br,bj⟩:=hm nU b rfl
  have eU:=Et (a:=a) br
  have Ev:b≠0:=by omega
  have jI:binP false .add (J (a.tmod b)) (J b)=some (J (a.tmod b+b)):=dU (by omega) (by omega)
  have iY:=Et (a:=a.tmod b+b) br
  have ff:dy ((a.tmod b+b).tmod b)=true:=(h4 _).2 (by omega)
  have aQ:binP false .rem (J a) (J b)=some (J (a.tmod b)):=BE Ev
  have aW:binP false .rem (J (a.tmod b+b)) (J b)=some (J ((a.tmod b+b).tmod b)):=BE Ev
  generalize t.op=op at*
  subst nU
  simp [ij,jK,de,aP,e5,a2,eN,e4,aQ,aW,jI,ff]
 have aj:t.op=8∨t.op=9∨t.op=10∨t.op=11∨t.op=12∨t.op=13∨t.op=14∨t.op=15∨t.op=16:=by omega
 have ao1:t.op=8→(b=0∨b=1):=fun h=>ak.1 (by omega) b (by simp)
 generalize t.op=op at*
 rcases aj with rfl|rfl|rfl|rfl|rfl|rfl|rfl|rfl|rfl
 ·rcases ao1 rfl with rfl|rfl
  ·by_cases p5:a=0
   ·simp [ij,jK,de,aP,e5,a2,eN,e4,gr,p5,xQ,Ag]
   ·have Ew:(a==0)=false:=by simpa using p5
    simp [ij,jK,de,aP,e5,a2,eN,e4,gr,p5,Ew,xQ,Ag]
  ·by_cases p5:a=0
   ·simp [ij,jK,de,aP,e5,a2,eN,e4,gr,p5,xQ,Ag]
   ·have Ew:(a==0)=false:=by simpa using p5
    simp [ij,jK,de,aP,e5,a2,eN,e4,gr,p5,Ew,xQ,Ag]
 ·simp [ij,jK,de,aP,e5,a2,eN,e4,gr]
 ·simp [ij,jK,de,aP,e5,a2,eN,e4,gr]
 ·simp [ij,jK,de,aP,e5,a2,eN,e4,gr]
 ·simp [ij,jK,de,aP,e5,a2,eN,e4,gr]
 ·simp [ij,jK,de,aP,e5,a2,eN,e4,gr]
 ·simp [ij,jK,de,aP,e5,a2,eN,dE,ah]
  rw [←aT]
 ·simp [ij,jK,de,aP,e5,a2,eN,Ot,c6,ah]
  rw [←aT]
 ·simp [ij,jK,de,aP,e5,a2,eN,cU,ah]
  cases bL:dy (a*b)<;>simp [e4]
def k3(vs:List V)(s nn:List Int)(t:Tm):Option Nat:=if(if t.op=4 then nn else s).length=vs.length then dN vs t.name else none
theorem ao2{vs:List V}{s nn:List Int}{t:Tm}{i:Nat}(h:k3 vs s nn t=some i):dN vs t.name=some i∧(if t.op=4 then nn else s).length=vs.length:=by
 unfold k3 at h
 by_cases aj:(if t.op=4 then nn else s).length=vs.length
 ·rw [if_pos aj] at h;exact ⟨h,aj⟩
 ·rw [if_neg aj] at h;cases h
def iP(vs:List V)(s nn:List Int)(t:Tm):Int×Bool:=
 if t.op≤2 then(t.num,true)
 else match k3 vs s nn t with
  |none=>(0,false)
  |some i=>match vs[i]?,(if t.op=4 then nn else s)[i]? with
   |some v,some x=>if v.bool then(tr (x !=0),true) else(x,dy x)
   |_,_=>(0,false)
mutual
def dR(vs:List V)(s nn:List Int):Tm→Int×Bool
 | .mk o n a b ks=>if o≤4 then iP vs s nn (.mk o n a b ks) else match fN vs s nn ks with
  |some l=>eN o l
  |none=>(0,false)
def fN(vs:List V)(s nn:List Int):List Tm→Option (List Int)
 |[]=>some []
 |t::r=>if(dR vs s nn t).2 then match fN vs s nn r with
   |some l=>some ((dR vs s nn t).1::l)
   |none=>none
  else none
end
theorem oG(vs:List V)(s nn:List Int)(t:Tm):dR vs s nn t=if t.op≤4 then iP vs s nn t else match fN vs s nn t.kids with
  |some l=>eN t.op l
  |none=>(0,false):=by cases t;rw [dR];rfl
mutual
def steps:Tm→Bool
 | .mk o _ _ _ ks=>o==4||m0 ks
def m0:List Tm→Bool
 |[]=>false
 |t::r=>steps t||m0 r
end
theorem IN(t:Tm):steps t=(t.op==4||m0 t.kids):=by cases t;rw [steps];rfl
theorem Xj:∀{l:List Tm} {t:Tm},t∈l→m0 l=false→steps t=false
 |a::r,t,h,aB=>by
  rw [m0,Bool.or_eq_false_iff] at aB
  rcases List.mem_cons.1 h with rfl|h
  ·exact aB.1
  ·exact Xj h aB.2
theorem Ou(b:Bool):dy (tr b)=true:=by cases b<;>rfl
def Ai(p:Int×Bool):Prop:=p.2=true→dy p.1=true
theorem rh{c:Prop}[Decidable c]{p q:Int×Bool}(aV:Ai p)(bL:c∨Ai q):Ai (if c then p else q):=by
 split
 ·exact aV
 ·exact bL.resolve_left (by assumption)
theorem xR(b:Bool):Ai (tr b,true):=fun _=>Ou b
theorem Ex(v:Int):Ai (v,dy v):=fun h=>h
theorem ao3{op:Int}{l:List Int}:Ai (eN op l):=by
 unfold eN
 refine rh (xR _) (.inr (rh (xR _) (.inr ?_)))
 match l with
 |[]=>intro h;cases h
 |[a]=>exact Ex _
 |[a,b,c]=>exact Ex _
 |a::b::c::d::r=>intro h;cases h
 |[a,b]=>
  refine rh (xR _) (.inr (rh (xR _) (.inr (rh (xR _) (.inr (rh (xR _) (.inr (rh (xR _) (.inr (rh (Ex _) (.inr (rh (Ex _) (.inr (rh ?_ (.inr (Ex _))))))))))))))))
  by_cases h:dy (a*b)=true
  ·rw [if_pos h];exact fun _=>h
  ·rw [if_neg h];intro h;cases h
theorem ao4{vs:List V}{s nn:List Int}{t:Tm}(aM:Valid t)(h:(iP vs s nn t).2=true):dy (iP vs s nn t).1=true:=by
 have aJ:=aM.num
 unfold iP at*
 by_cases ae:t.op≤2
 ·rw [if_pos ae];exact (h4 _).2 (by simp only;omega)
 rw [if_neg ae] at*
 cases af:k3 vs s nn t with
 |none=>simp [af] at h
 |some i=>
  rw [af] at h
  simp only at h⊢
  cases hw:vs[i]? with
  |none=>rw [hw] at h;cases h
  |some v=>
   cases ah:((if t.op=4 then nn else s)[i]?) with
   |none=>rw [hw,ah] at h;cases h
   |some x=>
    rw [hw,ah] at h
    simp only at h⊢
    by_cases ak:v.bool=true
    ·rw [if_pos ak];exact Ou _
    ·rw [if_neg ak] at*;exact h
theorem Xk{vs:List V}{s nn:List Int}{t:Tm}(aM:Valid t)(h:(dR vs s nn t).2=true):dy (dR vs s nn t).1=true:=by
 rw [oG] at*
 by_cases aZ:t.op≤4
 ·rw [if_pos aZ] at*;exact ao4 aM h
 ·rw [if_neg aZ] at*
  split at h
  ·rename_i l an;exact ao3 h
  ·cases h
end Go.Am
namespace Go.Am
set_option linter.unusedVariables false
set_option linter.unusedSimpArgs false
def uD(v:Int):Prop:=v=0∨v=1
theorem Ey(b:Bool):uD (tr b):=by cases b<;>simp [tr,uD]
theorem Aj(lo af:Int):(fM lo af).1.b=false:=by unfold fM;split<;>rfl
theorem ao5(op:Int)(a b:Y):(mY op a b).1.b=false:=by unfold mY;split<;>(try split)<;>exact Aj _ _
theorem Ov(vs:List V)(nx:Bool)(s nn:List Int):∀{ks:List Tm} {l:List Int},(ds vs nx ks).2=0→fN vs s nn ks=some l→l.length=ks.length∧∀(i:Nat) (y:Y) (v:Int),(ds vs nx ks).1[i]?=some y→l[i]?=some v→
  ∃k,ks[i]?=some k∧(df vs nx k).2=0∧y=(df vs nx k).1∧(dR vs s nn k).2=true∧v=(dR vs s nn k).1
 |[],l,_,aM=>by cases aM;exact ⟨rfl,by intro i y v _ h;simp at h⟩
 |k::r,l,h,aM=>by
  rw [ds] at*
  rw [fN] at aM
  by_cases ad:(df vs nx k).2=0
  case neg=>rw [if_pos ad] at h;exact absurd h ad
  have c3:¬(df vs nx k).2≠0:=by simpa using ad
  rw [if_neg c3] at h⊢
  by_cases ae:(ds vs nx r).2=0
  case neg=>rw [if_pos ae] at h;exact absurd h ae
  have fQ:¬(ds vs nx r).2≠0:=by simpa using ae
  rw [if_neg fQ] at h⊢
  by_cases ax:(dR vs s nn k).2=true
  case neg=>rw [if_neg ax] at aM;cases aM
  rw [if_pos ax] at aM
  cases aZ:fN vs s nn r with
  |none=>rw [aZ] at aM;cases aM
  |some oS=>
   rw [aZ] at aM
   cases aM
   obtain ⟨a2,bb⟩:=Ov vs nx s nn ae aZ
   refine ⟨by simp [a2],?_⟩
   intro i y v aT hw
   cases i with
   |zero=>simp at aT hw;exact ⟨k,rfl,ad,aT.symm,ax,hw.symm⟩
   |succ i=>simpa using bb i y v (by simpa using aT) (by simpa using hw)
theorem IP{t:Tm}{l:List Y}(h:(fw t l).2=0)(ad:5≤t.op∧t.op≤9):l.all Y.b=true:=by
 unfold fw at h
 rw [if_pos ad] at h
 by_cases aj:l.all Y.b=true
 ·exact aj
 ·rw [if_neg aj] at h;cases h
theorem Ow{t:Tm}{a b c:Y}(h:(fw t [a,b,c]).2=0)(ad:¬(5≤t.op∧t.op≤9)):a.b=true∧b.b=c.b∧((fw t [a,b,c]).1.b=true→b.b=true):=by
 unfold fw at*
 rw [if_neg ad] at*
 simp only at h⊢
 by_cases aj:(!a.b||(b.b !=c.b))=true
 ·rw [if_pos aj] at h;cases h
 rw [if_neg aj] at*
 refine ⟨by cases aA:a.b<;>simp_all,by cases ak:b.b<;>cases FD:c.b<;>simp_all,?_⟩
 by_cases ak:b.b=true
 ·exact fun _=>ak
 ·rw [if_neg ak,Aj];intro h;cases h
theorem Xl{t:Tm}{a b:Y}(h:(fw t [a,b]).2=0)(ad:t.op=17){k:Tm}(ai:t.kids[1]?=some k):k.op=1∧1≤k.num:=by
 unfold fw at h
 rw [if_neg (by omega)] at h
 simp only at h
 rw [if_neg (by omega)] at h
 by_cases aj:(a.b||b.b)=true
 ·rw [if_pos aj] at h;cases h
 rw [if_neg aj,if_neg (by omega),if_pos ad,ai] at h
 simp only at h
 by_cases ay:k.op≠1∨k.num<1
 ·rw [if_pos ay] at h;cases h
 ·omega
theorem ao6{t:Tm}{a b:Y}(ad:14≤t.op∧t.op≤17):(fw t [a,b]).1.b=false:=by
 unfold fw
 rw [if_neg (by omega)]
 simp only
 rw [if_neg (by omega)]
 split
 ·rfl
 rw [if_neg (by omega)]
 split
 ·split
  ·split
   ·rfl
   ·exact Aj _ _
  ·rfl
 ·exact ao5 _ _ _
theorem ao7{vs:List V}{nx:Bool}{s nn:List Int}{t:Tm}(aM:Valid t)(h:(iO vs nx t).1.b=true)(au:(iP vs s nn t).2=true):uD (iP vs s nn t).1:=by
 have aJ:=aM.num
 unfold iO at h
 unfold iP at*
 by_cases ad:t.op=1
 ·rw [if_pos ad,Aj] at h;cases h
 rw [if_neg ad] at h
 by_cases ae:t.op=2
 ·rw [if_pos (by omega)];unfold uD;simp only;omega
 rw [if_neg ae] at h
 have dj:=aM.op
 rw [if_neg (by omega)] at*
 cases af:k3 vs s nn t with
 |none=>rw [af] at au;cases au
 |some i=>
  rw [(ao2 af).1] at h
  rw [af] at au
  simp only at h au⊢
  by_cases ax:t.op=4∧nx=false
  ·rw [if_pos ax] at h;cases h
  rw [if_neg ax] at h
  cases hw:vs[i]? with
  |none=>rw [hw] at au;cases au
  |some v=>
   rw [hw] at h au
   simp only at h
   by_cases ak:v.bool=true
   ·cases ah:((if t.op=4 then nn else s)[i]?) with
    |none=>rw [ah] at au;cases au
    |some x=>simp only;rw [if_pos ak];exact Ey _
   ·rw [if_neg ak,Aj] at h;cases h
theorem Xm(vs:List V)(nx:Bool)(s nn:List Int)(t:Tm):Valid t→(df vs nx t).2=0→(df vs nx t).1.b=true→(dR vs s nn t).2=true→uD (dR vs s nn t).1:=by
 refine Tm.ind (P:=fun t=>Valid t→(df vs nx t).2=0→(df vs nx t).1.b=true→(dR vs s nn t).2=true→uD (dR vs s nn t).1) ?_ t
 intro t ih aM h ak au
 rw [l3] at h ak
 rw [oG] at au⊢
 by_cases aZ:t.op≤4
 ·rw [if_pos aZ] at*;exact ao7 aM ak au
 rw [if_neg aZ] at*
 by_cases aq:(ds vs nx t.kids).2=0
 case neg=>rw [if_pos aq] at h;exact absurd h aq
 rw [if_neg (by simpa using aq)] at h ak
 cases an:fN vs s nn t.kids with
 |none=>rw [an] at au;cases au
 |some l=>
  rw [an] at au
  simp only at au⊢
  obtain ⟨a2,bb⟩:=Ov vs nx s nn aq an
  obtain ⟨bJ,_⟩:=Ac vs nx t.kids aq
  have dj:=aM.op
  have hlen:=aM.len
  have ai:=uC (op:=t.op)
  have sH:=xN (op:=t.op)
  unfold eN
  by_cases b9:t.op=6
  ·rw [if_pos b9];exact Ey _
  rw [if_neg b9]
  by_cases e0:t.op=7
  ·rw [if_pos e0];exact Ey _
  rw [if_neg e0]
  by_cases bI:t.op=5
  ·have:e9 t.op=(1,1):=by rw [bI];rfl
   rw [this] at hlen
   match l,a2,bb with
   |[a],a2,bb=>
    have fp:=IP h (by omega)
    have:0<(ds vs nx t.kids).1.length:=by simp at a2;omega
    obtain ⟨k,br,bj,bS,db,dA⟩:=bb 0 _ a (List.getElem?_eq_getElem this) rfl
    have Xn:=List.all_eq_true.1 fp _ (List.getElem_mem this)
    rw [bS] at Xn
    have:=ih k (List.mem_of_getElem? br) (aM.dM (List.mem_of_getElem? br)) bj Xn db
    rw [←dA] at this
    simp only
    rcases this with h|h<;>subst h<;>simp [uD]
   |[],a2,_=>simp at a2;simp only at hlen;omega
   |_::_::_,a2,_=>simp at a2;simp only at hlen;omega
  by_cases oF:t.op=18
  ·rw [sH oF] at hlen
   have ao8:l.length=3:=by simp only at hlen;omega
   obtain ⟨a,b,c,rfl⟩:=sG ao8
   obtain ⟨Ez,Ak,Ox,aT⟩:=sG (l:=(ds vs nx t.kids).1) (by simp only at hlen;omega)
   rw [aT] at h ak bb
   obtain ⟨Oy,xS,Xo⟩:=Ow h (by omega)
   have Xp:=Xo ak
   have get:∀(i:Nat) (y:Y) (v:Int),[Ez,Ak,Ox][i]?=some y→[a,b,c][i]?=some v→y.b=true→uD v:=by
    intro i y v aT hw ao9
    obtain ⟨k,br,bj,bS,db,dA⟩:=bb i y v aT hw
    rw [dA]
    exact ih k (List.mem_of_getElem? br) (aM.dM (List.mem_of_getElem? br)) bj (by rw [←bS];exact ao9) db
   simp only
   by_cases aA:a=1
   ·rw [if_pos aA];exact get 1 Ak b rfl rfl Xp
   ·rw [if_neg aA];exact get 2 Ox c rfl rfl (by rw [←xS];exact Xp)
  rw [ai (by omega)] at hlen
  obtain ⟨a,b,rfl⟩:=oB (l:=l) (by simp only at hlen;omega)
  obtain ⟨Ez,Ak,aT⟩:=oB (l:=(ds vs nx t.kids).1) (by simp only at hlen;omega)
  rw [aT] at h ak
  have oH:t.op≤13:=by
   refine Classical.byContradiction fun aj=>?_
   rw [ao6 (by omega)] at ak
   cases ak
  simp only
  have aj:t.op=8∨t.op=9∨t.op=10∨t.op=11∨t.op=12∨t.op=13:=by omega
  rcases aj with e|e|e|e|e|e<;>simp only [e]<;>exact Ey _
theorem Xq{vs:List V}{nx:Bool}{s nn:List Int}{t:Tm}{l:List Int}(aM:Valid t)(h:(df vs nx t).2=0)(bI:5≤t.op)(an:fN vs s nn t.kids=some l):
  l.length=t.kids.length∧(∀v∈l,dy v=true)∧((t.op≤9→∀v∈l,v=0∨v=1)∧(t.op=18→∀v,l[0]?=some v→v=0∨v=1))∧(t.op=17→∀v,l[1]?=some v→1≤v∧v≤255):=by
 rw [l3,if_neg (by omega)] at h
 by_cases aq:(ds vs nx t.kids).2=0
 case neg=>rw [if_pos aq] at h;exact absurd h aq
 rw [if_neg (by simpa using aq)] at h
 obtain ⟨a2,bb⟩:=Ov vs nx s nn aq an
 obtain ⟨bJ,_⟩:=Ac vs nx t.kids aq
 have dj:=aM.op
 have hlen:=aM.len
 have at_:∀(i:Nat) (v:Int),l[i]?=some v→∃k y,t.kids[i]?=some k∧(ds vs nx t.kids).1[i]?=some y∧(df vs nx k).2=0∧y=(df vs nx k).1∧(dR vs s nn k).2=true∧v=(dR vs s nn k).1:=by
  intro i v af
  have bP:i<(ds vs nx t.kids).1.length:=by have:=(List.getElem?_eq_some_iff.1 af).1;omega
  obtain ⟨k,br,bj,bS,db,dA⟩:=bb i _ v (List.getElem?_eq_getElem bP) af
  exact ⟨k,_,br,List.getElem?_eq_getElem bP,bj,bS,db,dA⟩
 refine ⟨a2,?_,⟨?_,?_⟩,?_⟩
 ·intro v hm
  obtain ⟨i,af⟩:=List.mem_iff_getElem?.1 hm
  obtain ⟨k,y,br,bj,bS,db,dA,ed⟩:=at_ i v af
  rw [ed]
  exact Xk (aM.dM (List.mem_of_getElem? br)) dA
 ·intro iZ v hm
  obtain ⟨i,af⟩:=List.mem_iff_getElem?.1 hm
  obtain ⟨k,y,br,bj,bS,db,dA,ed⟩:=at_ i v af
  have fp:=List.all_eq_true.1 (IP h ⟨bI,iZ⟩) y (List.mem_of_getElem? bj)
  rw [ed]
  exact Xm vs nx s nn k (aM.dM (List.mem_of_getElem? br)) bS (by rw [←db];exact fp) dA
 ·intro oF v af
  obtain ⟨k,y,br,bj,bS,db,dA,ed⟩:=at_ 0 v af
  rw [xN oF] at hlen
  obtain ⟨Ez,Ak,Ox,aT⟩:=sG (l:=(ds vs nx t.kids).1) (by simp only at hlen;omega)
  rw [aT] at h bj
  have aF:=(Ow h (by omega)).1
  cases bj
  rw [ed]
  exact Xm vs nx s nn k (aM.dM (List.mem_of_getElem? br)) bS (by rw [←db];exact aF) dA
 ·intro nU v af
  obtain ⟨k,y,br,bj,bS,db,dA,ed⟩:=at_ 1 v af
  rw [uC (by omega)] at hlen
  obtain ⟨Ez,Ak,aT⟩:=oB (l:=(ds vs nx t.kids).1) (by simp only at hlen;omega)
  rw [aT] at h
  obtain ⟨Oy,xS⟩:=Xl h nU br
  have AL:=(aM.dM (List.mem_of_getElem? br)).num
  have:dR vs s nn k=(k.num,true):=by rw [oG,if_pos (by omega)];unfold iP;rw [if_pos (by omega)]
  rw [ed,this]
  exact ⟨xS,by simp only;omega⟩
end Go.Am
namespace Go.Am
set_option linter.unusedVariables false
set_option linter.unusedSimpArgs false
def fO(b:Bool)(l:List Int):D:=bM 1 b (l.map fun x=>[J x])
@[simp] theorem au1 (b:Bool) (l:List Int):lenP (fO b l)=some (J l.length):=by simp [fO]
@[simp] theorem apa (b:Bool) (l:List Int):bD (fO b l)=true:=by unfold fO bM;split<;>rfl
theorem Xr{b:Bool}{l:List Int}{i:Nat}{x:Int}(h:l[i]?=some x):a3 1 (fO b l) (J (i:Int))=some [J x]:=by
 have cc:l≠[]:=by rintro rfl;simp at h
 have:fO b l= .aE 1 (l.map fun x=>[J x]):=by unfold fO bM;rw [if_neg (by simp [cc])]
 rw [this];simp [h]
theorem Xs:fO true []=du:=rfl
variable{bn:Bool}
theorem Oz{k:Nat}:ct (k+1) (J 0)=some 0:=by rw [Ly (by omega) (by omega)];rfl
theorem Xt{k:Nat}:ct (k+2) (J 1)=some 1:=by rw [Ly (by omega) (by omega)];rfl
theorem apb{k:Nat}:ct (k+3) (J 2)=some 2:=by rw [Ly (by omega) (by omega)];rfl
theorem apc{x:Int}(ad:x≠0)(ae:x.natAbs≤9007199254740992):binP false .quo (J 9007199254740992) (J (x.natAbs:Int))=some (J ((9007199254740992/x.natAbs:Nat):Int)):=by
 have ah:(x.natAbs:Int)≠0:=by omega
 rw [SD ah]
 have e:(9007199254740992:Int).tdiv (x.natAbs:Int)=((9007199254740992/x.natAbs:Nat):Int):=by
  rw [Int.tdiv_eq_ediv_of_nonneg (by omega)];rfl
 have ax:=Nat.div_le_self 9007199254740992 x.natAbs
 rw [e]
 generalize 9007199254740992/x.natAbs=q at*
 rw [wrap64 _ (by omega) (by omega)]
theorem apd(a b:Int)(h:a≠0):(b.natAbs:Int)>((9007199254740992/a.natAbs:Nat):Int)↔dy (a*b)=false:=by
 have aV:0<a.natAbs:=by omega
 have ad:dy (a*b)=false↔9007199254740992<a.natAbs*b.natAbs:=by
  rw [←Int.natAbs_mul]
  have:=h4 (a*b)
  constructor
  ·intro h;refine Classical.byContradiction fun aj=>?_
   rw [this.2 (by omega)] at h;cases h
  ·intro h;cases bL:dy (a*b) with
   |false=>rfl
   |true=>exact absurd (this.1 bL) (by omega)
 rw [ad,Nat.mul_comm,←Nat.div_lt_iff_lt_mul aV]
 omega
set_option maxHeartbeats 2000000 in
theorem ape(tw:List D→Option D)(n:Nat)(vs:List V)(s nn:List Int)(t:Tm)(l:List Int)(aM:Valid t)(bP:l.length=t.kids.length)(dj:5≤t.op)(au:∀v∈l,dy v=true)
  (ak:(t.op≤9→∀v∈l,v=0∨v=1)∧(t.op=18→∀v,l[0]?=some v→v=0∨v=1)) (hm:t.op=17→∀v,l[1]?=some v→1≤v∧v≤255)
  (hj:bo (ui tw n) n [a8 vs,cw s,fO bn nn,J 0,J 0,J t.op,J t.num,aI t.name,bM 4 t.nl (Tm.rows t.kids),.aE 1 []]=
   some (.inl [J (if t.op=6∨t.op=7 then l.sum else 0),J t.op,J t.num,aI t.name,bM 4 t.nl (Tm.rows t.kids),cw l])):
  ka tw n (a8 vs) t.d (cw s) (fO bn nn)=some (.aL [J (eN t.op l).1,ar (eN t.op l).2]):=by
 have p3:=aM.op
 have hlen:=aM.len
 have aP:=Tm.mP t
 have bc:=Tm.ph t
 have bm:=Tm.qD t
 have bB:=Tm.pj t
 have de:=Tm.lr t
 have ai:=uC (op:=t.op)
 have sH:=xN (op:=t.op)
 have Es:=aM.Ad
 have gr:=Xc n
 have m1:=Xd n
 have es:∀l:List Int,esD (cw l)=l.map fun v=>[J v]:=fun _=>rfl
 have EA:∀b:Bool,dy (tr b)=true:=Ou
 by_cases p4:t.op=6∨t.op=7
 ·generalize t.op=op at*
  rcases p4 with rfl|rfl
  ·simp [ka,de,aP,bc,bm,bB,hj,es,gr,m1,eN,EA]
   rfl
  ·simp [ka,de,aP,bc,bm,bB,hj,es,gr,m1,eN,EA]
 by_cases bI:t.op=5
 ·have:e9 t.op=(1,1):=by rw [bI];rfl
  rw [this] at hlen
  have lH:l.length=1:=by simp only at hlen;omega
  match l,lH with
  |[a],_=>
   have aA:=ak.1 (by omega) a (by simp)
   have aQ:binP false .sub (J 1) (J a)=some (J (1-a)):=lq (by omega) (by omega)
   generalize t.op=op at*
   subst bI
   simp [ka,de,aP,bc,bm,bB,hj,es,m1,eN,Oz,aQ]
 by_cases oF:t.op=18
 ·rw [sH oF] at hlen
  obtain ⟨a,b,c,rfl⟩:=sG (l:=l) (by simp only at hlen;omega)
  generalize t.op=op at*
  subst oF
  by_cases aA:a=1<;>simp [ka,de,aP,bc,bm,bB,hj,es,m1,eN,Oz,Xt,apb,aA]
 rw [ai (by omega)] at hlen
 obtain ⟨a,b,rfl⟩:=oB (l:=l) (by simp only at hlen;omega)
 have Oq:=(h4 a).1 (au a (by simp))
 have Xi:=(h4 b).1 (au b (by simp))
 have kx:ct 2 (J 0)=some 0:=Oz
 have ko:ct 2 (J 1)=some 1:=Xt
 by_cases nU:t.op=17
 ·obtain ⟨br,bj⟩:=hm nU b rfl
  have eU:=Et (a:=a) br
  have Ev:b≠0:=by omega
  have jI:binP false .add (J (a.tmod b)) (J b)=some (J (a.tmod b+b)):=dU (by omega) (by omega)
  have aQ:binP false .rem (J a) (J b)=some (J (a.tmod b)):=BE Ev
  have aW:binP false .rem (J (a.tmod b+b)) (J b)=some (J ((a.tmod b+b).tmod b)):=BE Ev
  generalize t.op=op at*
  subst nU
  simp [ka,de,aP,bc,bm,bB,hj,es,m1,eN,kx,ko,aQ,aW,jI]
 by_cases ez:t.op=16
 ·have Xu:=Xe n a (by omega)
  have Xv:=Xe n b (by omega)
  have IQ:=apd a b
  have au2:=Xa Oq Xi
  generalize t.op=op at*
  subst ez
  by_cases aA:a=0
  ·subst aA
   have aQ:binP false .mul (J 0) (J b)=some (J 0):=by rw [Gz (by omega) (by omega),Int.zero_mul]
   simp [ka,de,aP,bc,bm,bB,hj,es,m1,eN,kx,ko,aQ,show dy 0=true from rfl]
  ·have bL:=apc aA Oq
   have IQ:=IQ aA
   have Bf:(a==0)=false:=by simpa using aA
   generalize 9007199254740992/a.natAbs=q at*
   by_cases a4:dy (a*b)=true
   ·have ad:¬((b.natAbs:Int)>(q:Int)):=fun h=>by rw [IQ.1 h] at a4;cases a4
    have c3:decide ((b.natAbs:Int)>(q:Int))=false:=decide_eq_false ad
    have au3:=(h4 _).1 a4
    have aQ:binP false .mul (J a) (J b)=some (J (a*b)):=Gz (by omega) (by omega)
    have aW:binP false .gtr (J (b.natAbs:Int)) (J (q:Int))=some (ar false):=by rw [lT,c3]
    simp [ka,de,aP,bc,bm,bB,hj,es,m1,eN,kx,ko,Xu,Xv,bL,aW,aQ,a4,aA]
   ·have EB:dy (a*b)=false:=by simpa using a4
    have c3:decide ((b.natAbs:Int)>(q:Int))=true:=decide_eq_true (IQ.2 EB)
    have aW:binP false .gtr (J (b.natAbs:Int)) (J (q:Int))=some (ar true):=by rw [lT,c3]
    simp [ka,de,aP,bc,bm,bB,hj,es,m1,eN,kx,ko,Xu,Xv,bL,aW,EB,aA]
 have aj:t.op=8∨t.op=9∨t.op=10∨t.op=11∨t.op=12∨t.op=13∨t.op=14∨t.op=15:=by omega
 have jQ:binP false .add (J a) (J b)=some (J (a+b)):=dU (by omega) (by omega)
 have apf:binP false .sub (J a) (J b)=some (J (a-b)):=lq (by omega) (by omega)
 have au4:∀x y:Int,nO n [ar (x==y)]=some (J (tr (x==y))):=fun _ _=>gr _
 generalize t.op=op at*
 rcases aj with rfl|rfl|rfl|rfl|rfl|rfl|rfl|rfl
 ·by_cases p5:a=0
  ·simp [ka,de,aP,bc,bm,bB,hj,es,gr,m1,eN,EA,kx,ko,p5]
  ·have Ew:(a==0)=false:=by simpa using p5
   simp [ka,de,aP,bc,bm,bB,hj,es,gr,m1,eN,EA,kx,ko,p5,Ew]
 all_goals simp [ka,de,aP,bc,bm,bB,hj,es,gr,m1,eN,EA,kx,ko,jQ,apf]
end Go.Am
namespace Go.Am
set_option linter.unusedVariables false
set_option linter.unusedSimpArgs false
variable{bn:Bool}
theorem Xw{a b:Nat}(h:a+b≤1000):c2 (a+b) 8=true:=gK (by omega) (by omega)
theorem Xx{vs:List V}{nx:Bool}{t:Tm}(h:(iO vs nx t).2=0)(ax:3≤t.op):∃i,dN vs t.name=some i:=by
 unfold iO at h
 rw [if_neg (by omega),if_neg (by omega)] at h
 cases af:dN vs t.name with
 |none=>rw [af] at h;cases h
 |some i=>exact ⟨i,rfl⟩
theorem OA{vs:List V}{nx:Bool}:∀{l:List Tm},(ds vs nx l).2=0→∀k∈l,(df vs nx k).2=0
 |[],_,k,ai=>by cases ai
 |t::r,h,k,ai=>by
  rw [ds] at h
  by_cases ad:(df vs nx t).2=0
  case neg=>rw [if_pos ad] at h;exact absurd h ad
  rw [if_neg (by simpa using ad)] at h
  by_cases ae:(ds vs nx r).2=0
  case neg=>rw [if_pos ae] at h;exact absurd h ae
  rcases List.mem_cons.1 ai with rfl|ai
  ·exact ad
  ·exact OA ae k ai
theorem EC{vs:List V}{nx:Bool}{t k:Tm}(aM:Valid t)(h:(df vs nx t).2=0)(ai:k∈t.kids):(df vs nx k).2=0:=by
 rw [l3] at h
 by_cases aZ:t.op≤4
 ·rw [aM.leaf aZ] at ai;cases ai
 rw [if_neg aZ] at h
 by_cases aq:(ds vs nx t.kids).2=0
 ·exact OA aq k ai
 ·rw [if_pos aq] at h;exact absurd h aq
theorem OB{vs:List V}{i:Nat}{l:List Int}(h:i<vs.length)(an:l.length=vs.length):∃x,l[i]?=some x:=⟨_,List.getElem?_eq_getElem (by omega)⟩
@[simp] theorem au5 (p:List Int) (x:Int):D.aE 1 (esD (cw p)++[[J x]])=cw (p++[x]):=by simp [cw]
@[simp] theorem au6 (p:List Int):(esD (cw p)).length=p.length:=by simp [cw]
@[simp] theorem au7 (p:List Int):D.aE 1 (esD (cw p))=cw p:=rfl
theorem Xy(vs:List V)(nx:Bool)(s nn:List Int)(kF:vs.length<1000000000000)(aB:s.length=vs.length):∀(n:Nat) (t:Tm),t.ba+200+vs.length<n→t.bO→Valid t→(df vs nx t).2=0→(steps t=true→nn.length=vs.length)→
  pV n [a8 vs,t.d,cw s,fO bn nn]=some (.aL [J (dR vs s nn t).1,ar (dR vs s nn t).2])
 |0,t,h,_,_,_,_=>absurd h (Nat.not_lt_zero _)
 |n+1,t,aJ,a7,aM,aG,jR=>by
  have dj:=aM.op
  have Es:=aM.Ad
  rw [oG]
  show ka (pV n) n (a8 vs) t.d (cw s) (fO bn nn)=_
  by_cases aZ:t.op≤4
  ·rw [if_pos aZ]
   rw [l3,if_pos aZ] at aG
   have aP:=Tm.mP t
   have bc:=Tm.ph t
   have bm:=Tm.qD t
   have bB:=Tm.pj t
   have de:=Tm.lr t
   have gr:=Xc n
   have m1:=Xd n
   by_cases ae:t.op≤2
   ·unfold iP
    rw [if_pos ae]
    have aj:t.op=1∨t.op=2:=by omega
    generalize t.op=op at*
    rcases aj with rfl|rfl<;>simp [ka,de,aP,bc,bm,bB]
   obtain ⟨i,af⟩:=Xx aG (by omega)
   obtain ⟨v,v1,v2,pb⟩:=xP af
   have ah:=W1 n vs t.name (by omega) kF
   rw [af] at ah
   have hlen:(if t.op=4 then nn else s).length=vs.length:=by
    by_cases h:t.op=4
    ·rw [if_pos h];exact jR (by rw [IN,h];rfl)
    ·rw [if_neg h];exact aB
   have bW:k3 vs s nn t=some i:=by unfold k3;rw [if_pos hlen,af]
   obtain ⟨x,oI⟩:=OB pb hlen
   unfold iP
   rw [if_neg ae,bW]
   simp only [v1,oI]
   have aj:t.op=3∨t.op=4:=by omega
   generalize t.op=op at*
   rcases aj with rfl|rfl
   ·simp only [show¬((3:Int)=4) by omega,if_false] at oI
    cases ak:v.bool<;>simp [ka,de,aP,bc,bm,bB,ah,iN v1,v.sI,Af oI,gr,m1,ak]
   ·simp only [if_true] at oI
    cases ak:v.bool<;>simp [ka,de,aP,bc,bm,bB,ah,iN v1,v.sI,Xr oI,gr,m1,ak]
  rw [if_neg aZ]
  have apg:∀k∈t.kids,steps k=true→nn.length=vs.length:=fun k ai h=>by
   refine jR ?_
   cases bL:m0 t.kids with
   |true=>rw [IN,bL,Bool.or_true]
   |false=>rw [Xj ai bL] at h;cases h
  have an:=dv (f:=ui (pV n) n) t.kids (fun i (p:List Int)=>[a8 vs,cw s,fO bn nn,J (if t.op=6∨t.op=7 then p.sum else 0),J (i:Int),J t.op,J t.num,aI t.name,bM 4 t.nl (Tm.rows t.kids),cw p])
   (fun r p=>match fN vs s nn r with
    |some l=>(Sum.inl [J (if t.op=6∨t.op=7 then(p++l).sum else 0),J t.op,J t.num,aI t.name,bM 4 t.nl (Tm.rows t.kids),cw (p++l)]:List D⊕D)
    |none=> .inr (.aL [J 0,ar false]))
   (fun i p=>p.length=i∧∀v∈p,dy v=true) ?_ ?_ n 0 [] ⟨rfl,by simp⟩ (by omega) (Nat.zero_le _)
  ·have bG:(J ((0:Nat):Int))=J 0:=rfl
   have aQ:cw []= .aE 1 []:=rfl
   rw [bG,aQ] at an
   simp only [List.sum_nil,ite_self,List.drop_zero,List.nil_append] at an
   cases jq:fN vs s nn t.kids with
   |none=>
    rw [jq] at an
    have fk:(t.op==1)=false:=by simp;omega
    have g0:(t.op==2)=false:=by simp;omega
    have jg:(t.op==3)=false:=by simp;omega
    have oD:(t.op==4)=false:=by simp;omega
    simp [ka,fk,g0,jg,oD,an]
   |some l=>
    rw [jq] at an
    obtain ⟨a2,bb,bJ,ek⟩:=Xq (nx:=nx) aM aG (by omega) jq
    exact ape (pV n) n vs s nn t l aM a2 (by omega) bb bJ ek an
  ·intro p aV
   simp [ui,fN]
  ·intro i a p aA af aV
   have hm:=List.mem_of_getElem? aA
   have bz:=Tm.ga hm
   have au:=Xy vs nx s nn kF aB n a (by omega) (a7.dM hm) (aM.dM hm) (EC aM aG hm) (apg a hm)
   have ea:c2 (p.length+1) 8=true:=Xw (by omega)
   by_cases aq:(dR vs s nn a).2=true
   ·left
    have ff:=Xk (aM.dM hm) aq
    refine ⟨p++[(dR vs s nn a).1],?_,?_,by simp [aV.1],?_⟩
    ·have qi:=Oo p aV.2
     have oT:=(h4 _).1 ff
     have fa:binP false .add (J p.sum) (J (dR vs s nn a).1)=some (J (p.sum+(dR vs s nn a).1)):=dU (by omega) (by omega)
     by_cases p4:t.op=6∨t.op=7
     ·have au8:(if t.op=6 then true else decide (t.op=7))=true:=by rcases p4 with h|h<;>simp [h]
      rcases p4 with h|h
      ·simp [ui,af,Tm.eC aA,au,aq,cg (bt:=false) (i:=i) (by omega),ea,h,fa]
      ·simp [ui,af,Tm.eC aA,au,aq,cg (bt:=false) (i:=i) (by omega),ea,h,fa]
     ·have b9:¬t.op=6:=fun h=>p4 (.inl h)
      have e0:¬t.op=7:=fun h=>p4 (.inr h)
      simp [ui,af,Tm.eC aA,au,aq,cg (bt:=false) (i:=i) (by omega),ea,b9,e0]
    ·rw [fN,if_pos aq]
     cases fN vs s nn (t.kids.drop (i+1)) with
     |none=>rfl
     |some l=>simp
    ·intro v jr
     rcases List.mem_append.1 jr with h|h
     ·exact aV.2 v h
     ·simp at h;rw [h];exact ff
   ·right
    rw [fN,if_neg aq]
    have ED:(dR vs s nn a).2=false:=by simpa using aq
    simp [ui,af,Tm.eC aA,au,ED]
theorem aph{M:List (Value×D)}(h:j0 M){z:Value}{x:ByteArray}:lookP .string z false M (aI x)=some (match getS M x with|some d=>d|none=>zeroD z):=by
 simp only [lookP,aI,SZ h]
 cases getS M x<;>rfl
theorem Al(p:Int×Bool):extP 0 (e4 p)=some (J (if p.2=true then p.1 else 0)):=by obtain ⟨v,o⟩:=p;cases o<;>simp [e4]
theorem An(p:Int×Bool):extP 1 (e4 p)=some (ar p.2):=by obtain ⟨v,o⟩:=p;cases o<;>simp [e4]
theorem Ao(p:Int×Bool):D.aL [J (if p.2=true then p.1 else 0),ar p.2]=e4 p:=by obtain ⟨v,o⟩:=p;cases o<;>simp [e4]
theorem api(p:Int×Bool):(e4 p).flat=true:=by obtain ⟨v,o⟩:=p;cases o<;>rfl
theorem Xz(vs:List V)(nx:Bool)(s nn:List Int)(M:List (Value×D))(cU:IE M vs)(kF:vs.length<1000000000000)(aB:s.length=vs.length)(ff:∀v,v∈s∨v∈nn→-9223372036854775808≤v∧v≤9223372036854775807):∀(n:Nat) (t:Tm),t.ba+200<n→t.bO→Valid t→(df vs nx t).2=0→
  sm n [t.d,cw s,.mp M,fO bn nn,a8 vs]=some [e4 (dR vs s nn t),cw s,.mp M,fO bn nn,a8 vs]
 |0,t,h,_,_,_=>absurd h (Nat.not_lt_zero _)
 |n+1,t,aJ,a7,aM,aG=>by
  have dj:=aM.op
  have Es:=aM.Ad
  rw [oG]
  show sl (sm n) n [t.d,cw s,.mp M,fO bn nn,a8 vs]=_
  have an:=dv (f:=Dh (sm n) n) t.kids (fun i (p:List Int)=>[bM 4 t.nl (Tm.rows t.kids),J t.kids.length,J (i:Int),cw s,.mp M,fO bn nn,a8 vs,J t.op,J t.num,aI t.name,bM 4 t.nl (Tm.rows t.kids),cw p])
   (fun r p=>match fN vs s nn r with
    |some l=>(Sum.inl [cw s,.mp M,fO bn nn,a8 vs,J t.op,J t.num,aI t.name,bM 4 t.nl (Tm.rows t.kids),cw (p++l)]:List D⊕List D)
    |none=> .inr [.aL [J 0,ar false],cw s,.mp M,fO bn nn,a8 vs])
   (fun i p=>p.length=i) ?_ ?_ n 0 [] rfl (by omega) (Nat.zero_le _)
  ·have bG:(J ((0:Nat):Int))=J 0:=rfl
   have aQ:cw []= .aE 1 []:=rfl
   have Ap:D.aL [J 0,ar false]=e4 (0,false):=rfl
   rw [bG,aQ] at an
   simp only [List.drop_zero,List.nil_append] at an
   have aP:=Tm.mP t
   have bc:=Tm.ph t
   have bm:=Tm.qD t
   have bB:=Tm.pj t
   have de:=Tm.lr t
   by_cases aZ:t.op≤4
   ·rw [if_pos aZ]
    rw [l3,if_pos aZ] at aG
    have ai:=aM.leaf aZ
    rw [ai] at an
    have oJ:((([]:List Tm).length:Nat):Int)=0:=rfl
    simp only [fN,List.append_nil,oJ] at an
    have au9:D.aE 1 []=cw []:=rfl
    have gr:=Xb n
    by_cases ae:t.op≤2
    ·unfold iP
     rw [if_pos ae]
     have aj:t.op=1∨t.op=2:=by omega
     generalize t.op=op at*
     rcases aj with rfl|rfl<;>simp [sl,de,aP,bc,bm,bB,ai,an,e4]
    obtain ⟨i,af⟩:=Xx aG (by omega)
    obtain ⟨v,v1,v2,pb⟩:=xP af
    have rb:=aph cU.1 (z:= .int .i64 0) (x:=t.name)
    rw [cU.2,af] at rb
    simp only [Option.map_some] at rb
    have qz:kS (.mp M)=some M:=rfl
    unfold iP
    rw [if_neg ae]
    have aj:t.op=3∨t.op=4:=by omega
    have ava:(t.op==3||t.op==4)=true:=by rcases aj with h|h<;>simp [h]
    by_cases hlen:(if t.op=4 then nn else s).length=vs.length
    ·have bW:k3 vs s nn t=some i:=by unfold k3;rw [if_pos hlen,af]
     obtain ⟨x,oI⟩:=OB pb hlen
     have z7:=List.mem_of_getElem? oI
     rw [bW]
     simp only [v1,oI]
     have Eu:mZ (x+0) true=e4 (x,dy x):=by rw [Xf,Int.add_zero]
     generalize t.op=op at*
     rcases aj with rfl|rfl
     ·simp only [show¬((3:Int)=4) by omega,if_false] at oI z7 hlen
      have dE:=IH n x 0 (ff x (.inl z7)) (by omega)
      rw [Eu] at dE
      cases ak:v.bool<;>simp [sl,de,aP,bc,bm,bB,ai,an,qz,rb,oE,fC,hlen,iN v1,v.sI,Af oI,gr,ak,dE,Al,An,Ao]<;>(try exact Ao (x,dy x))<;>(try rfl)
     ·simp only [if_true] at oI z7 hlen
      have dE:=IH n x 0 (ff x (.inr z7)) (by omega)
      rw [Eu] at dE
      cases ak:v.bool<;>simp [sl,de,aP,bc,bm,bB,ai,an,qz,rb,oE,fC,hlen,iN v1,v.sI,Xr oI,gr,ak,dE,Al,An,Ao]<;>(try exact Ao (x,dy x))<;>(try rfl)
    ·have bW:k3 vs s nn t=none:=by unfold k3;rw [if_neg hlen]
     rw [bW]
     have jD:t.op=4:=by
      refine aj.resolve_left fun h=>hlen ?_
      rw [if_neg (by omega)];exact aB
     rw [if_pos jD] at hlen
     generalize t.op=op at*
     subst jD
     have cc:¬((nn.length:Int)=(vs.length:Int)):=by omega
     simp [sl,de,aP,bc,bm,bB,ai,an,qz,rb,oE,fC,hlen,cc]<;>(try rfl)
   ·rw [if_neg aZ]
    have fk:(t.op==1)=false:=by simp;omega
    have g0:(t.op==2)=false:=by simp;omega
    have jg:(t.op==3)=false:=by simp;omega
    have oD:(t.op==4)=false:=by simp;omega
    cases jq:fN vs s nn t.kids with
    |none=>
     rw [jq] at an
     simp [sl,de,aP,bc,bm,bB,an]<;>(try rfl)
    |some l=>
     rw [jq] at an
     obtain ⟨a2,bb,bJ,ek⟩:=Xq (nx:=nx) aM aG (by omega) jq
     have aF:=aoY n t l aM a2 (by omega) bb (by omega) bJ ek
     simp [sl,de,aP,bc,bm,bB,an,fk,g0,jg,oD,aF,api,Al,An,Ao]
  ·intro p aV
   simp [Dh,fN]
  ·intro i a p aA af aV
   have hm:=List.mem_of_getElem? aA
   have bz:=Tm.ga hm
   have au:=Xz vs nx s nn M cU kF aB ff n a (by omega) (a7.dM hm) (aM.dM hm) (EC aM aG hm)
   have ea:c2 (p.length+1) 8=true:=Xw (by omega)
   by_cases aq:(dR vs s nn a).2=true
   ·left
    refine ⟨p++[(dR vs s nn a).1],?_,?_,by simp [aV]⟩
    ·simp [Dh,af,Tm.eC aA,au,aq,cg (bt:=false) (i:=i) (by omega),ea,Al,An]
    ·rw [fN,if_pos aq]
     cases fN vs s nn (t.kids.drop (i+1)) with
     |none=>rfl
     |some l=>simp
   ·right
    rw [fN,if_neg aq]
    have ED:(dR vs s nn a).2=false:=by simpa using aq
    simp [Dh,af,Tm.eC aA,au,ED,Al,An]
theorem XA:∀(n:Nat) (t:Tm),t.ba<n→t.bO→pU n [t.d]=some (ar (steps t))
 |0,t,h,_=>absurd h (Nat.not_lt_zero _)
 |n+1,t,aJ,a7=>by
  have hlen:=a7.len
  rw [IN]
  have an:=dv (f:=D4 (pU n) n) t.kids (fun i (_:Unit)=>[J (i:Int),J t.op,J t.num,aI t.name,bM 4 t.nl (Tm.rows t.kids)])
   (fun r _=>if m0 r=true then(Sum.inr (ar true):List D⊕D) else .inl []) (fun _ _=>True)
   (fun _ _=>by simp [D4,m0]) ?_ n 0 () trivial (by have:=t.hh;omega) (Nat.zero_le _)
  ·have bG:(J ((0:Nat):Int))=J 0:=rfl
   rw [bG] at an
   simp only [List.drop_zero] at an
   by_cases aZ:t.op=4
   ·simp [pU,HY,aZ]
   ·have oD:(t.op==4)=false:=by simpa using aZ
    cases aB:m0 t.kids<;>simp [pU,HY,aZ,an,aB]
  ·intro i a _ aA af _
   have hm:=List.mem_of_getElem? aA
   have bz:=Tm.ga hm
   have au:=XA n a (by omega) (a7.dM hm)
   cases aB:steps a
   ·left
    exact ⟨(),by simp [D4,af,Tm.eC aA,au,aB,cg (bt:=false) (i:=i) (by omega)],by simp [m0,aB],trivial⟩
   ·right
    simp [D4,af,Tm.eC aA,au,aB,m0]
theorem XB{vs:List V}{s nn:List Int}:∀{l:List Tm} {r:List Int},fN vs s nn l=some r→∀k∈l,(dR vs s nn k).2=true
 |[],_,_,k,ai=>by cases ai
 |t::q,r,h,k,ai=>by
  rw [fN] at h
  by_cases ad:(dR vs s nn t).2=true
  case neg=>rw [if_neg ad] at h;cases h
  rw [if_pos ad] at h
  cases ae:fN vs s nn q with
  |none=>rw [ae] at h;cases h
  |some l=>
   rcases List.mem_cons.1 ai with rfl|ai
   ·exact ad
   ·exact XB ae k ai
theorem XC:∀{l:List Tm},m0 l=true→∃k∈l,steps k=true
 |a::r,h=>by
  rw [m0] at h
  cases aA:steps a with
  |true=>exact ⟨a,by simp,aA⟩
  |false=>
   rw [aA,Bool.false_or] at h
   obtain ⟨k,ad,ae⟩:=XC h
   exact ⟨k,by simp [ad],ae⟩
theorem apj{vs:List V}{s nn:List Int}(cc:nn.length≠vs.length)(t:Tm):Valid t→steps t=true→(dR vs s nn t).2=false:=by
 refine Tm.ind (P:=fun t=>Valid t→steps t=true→(dR vs s nn t).2=false) ?_ t
 intro t ih aM h
 rw [oG]
 rw [IN] at h
 by_cases aZ:t.op≤4
 ·rw [if_pos aZ]
  have jD:t.op=4:=by
   rw [aM.leaf aZ] at h
   simpa [m0] using h
  unfold iP
  rw [if_neg (by omega)]
  have:k3 vs s nn t=none:=by unfold k3;rw [if_pos jD,if_neg cc]
  rw [this]
 ·rw [if_neg aZ]
  have ak:(t.op==4)=false:=by simp;omega
  rw [ak,Bool.false_or] at h
  obtain ⟨k,ad,ae⟩:=XC h
  cases an:fN vs s nn t.kids with
  |none=>rfl
  |some l=>
   have:=XB an k ad
   rw [ih k ad (aM.dM ad) ae] at this
   cases this
def m2(vs:List V)(t:Tm)(s nn:List Int):Int×Bool:=
 if(gb vs true t).2≠0∨s.length≠vs.length then(0,false) else dR vs s nn t
theorem IS{vs:List V}{nx:Bool}{t:Tm}(h:(gb vs nx t).2=0):Valid t∧(df vs nx t).2=0:=by
 unfold gb at h
 by_cases aj:(cH t 1 0).1=0
 ·rw [if_neg (by simpa using aj)] at h;exact ⟨⟨1,0,aj⟩,h⟩
 ·rw [if_pos aj] at h;exact absurd h aj
theorem XD(n:Nat)(vs:List V)(t:Tm)(s nn:List Int)(aJ:t.ba+200+vs.length<n)(a7:t.bO)(kF:vs.length<1000000000000)(ff:∀v,v∈s∨v∈nn→-9223372036854775808≤v∧v≤9223372036854775807):
  pJ n [a8 vs,t.d,cw s,fO bn nn]=some (e4 (m2 vs t s nn)):=by
 have ad:=Ol n vs t true aJ a7 kF
 obtain ⟨M,eU,iY⟩:=W0 n vs (by omega) kF
 have fH:bD (a8 vs)=true:=rfl
 have lh:∀l,bD (cw l)=true:=fun _=>rfl
 have Ap:D.aL [J 0,ar false]=e4 (0,false):=rfl
 unfold m2
 by_cases aG:(gb vs true t).2=0
 ·by_cases aB:s.length=vs.length
  ·obtain ⟨aM,eo⟩:=IS aG
   have ay:=Xz (bn:=bn) vs true s nn M iY kF aB ff n t (by omega) a7 aM eo
   have IT:((s.length:Int) !=(vs.length:Int))=false:=by simp [aB]
   simp [pJ,Hx,fH,lh,ad,aG,aB,oE,fC,eU,ay,Al,An,Ao]
  ·have IT:¬((s.length:Int)=(vs.length:Int)):=by omega
   simp [pJ,Hx,fH,lh,ad,aG,aB,oE,fC,IT]
   exact Ap
 ·simp [pJ,Hx,fH,lh,ad,aG]
  exact Ap
theorem XE(n:Nat)(vs:List V)(t:Tm)(s nn:List Int)(aJ:t.ba+200+vs.length<n)(a7:t.bO)(kF:vs.length<1000000000000):
  nP n [a8 vs,t.d,cw s,fO bn nn]=some (e4 (m2 vs t s nn)):=by
 have ad:=IF n vs t true aJ a7 kF
 have ae:=XA n t (by omega) a7
 have Ap:D.aL [J 0,ar false]=e4 (0,false):=rfl
 unfold m2
 by_cases aG:(gb vs true t).2=0
 ·by_cases aB:s.length=vs.length
  ·obtain ⟨aM,eo⟩:=IS aG
   by_cases jR:steps t=true∧nn.length≠vs.length
   ·have apk:=apj (s:=s) jR.2 t aM jR.1
    have apl:¬((nn.length:Int)=(vs.length:Int)):=by have:=jR.2;omega
    have au:e4 (dR vs s nn t)= .aL [J 0,ar false]:=by unfold e4;rw [if_neg (by simp [apk])]
    simp [nP,zR,ad,ae,aG,aB,oE,fC,jR.1,apl,au]
   ·have ay:=Xy (bn:=bn) vs true s nn kF aB n t aJ a7 aM eo (fun h=>by
     refine Classical.byContradiction fun aj=>jR ⟨h,aj⟩)
    have au:e4 (dR vs s nn t)=if(dR vs s nn t).2=true then .aL [J (dR vs s nn t).1,ar true] else .aL [J 0,ar false]:=rfl
    by_cases OC:steps t=true
    ·have qE:nn.length=vs.length:=Classical.byContradiction fun aj=>jR ⟨OC,aj⟩
     cases ak:(dR vs s nn t).2<;>simp [nP,zR,ad,ae,aG,aB,oE,fC,OC,qE,ay,ak,au]
    ·have apm:steps t=false:=by simpa using OC
     cases ak:(dR vs s nn t).2<;>simp [nP,zR,ad,ae,aG,aB,oE,fC,apm,ay,ak,au]
  ·have IT:¬((s.length:Int)=(vs.length:Int)):=by omega
   simp [nP,zR,ad,ae,aG,aB,oE,fC,IT]
   exact Ap
 ·simp [nP,zR,ad,ae,aG]
  exact Ap
end Go.Am
namespace Go.Am
set_option linter.unusedVariables false
set_option linter.unusedSimpArgs false
theorem XF{lo af x y:Int}(ad:lo≤x)(ae:x≤af):jN (lo*y) (af*y)≤x*y∧x*y≤eS (lo*y) (af*y):=by
 by_cases aT:0≤y
 ·have a:=Int.mul_le_mul_of_nonneg_right ad aT
  have b:=Int.mul_le_mul_of_nonneg_right ae aT
  unfold jN eS
  constructor<;>split<;>omega
 ·have a:=Int.mul_le_mul_of_nonpos_right ad (show y≤0 by omega)
  have b:=Int.mul_le_mul_of_nonpos_right ae (show y≤0 by omega)
  unfold jN eS
  constructor<;>split<;>omega
theorem XG{lo af x y:Int}(ad:lo≤x)(ae:x≤af):jN (y*lo) (y*af)≤y*x∧y*x≤eS (y*lo) (y*af):=by
 have:=XF (y:=y) ad ae
 rw [Int.mul_comm lo y,Int.mul_comm af y,Int.mul_comm x y] at this
 exact this
theorem apn{a b:Y}{x y:Int}(ah:a.lo≤x∧x≤a.af)(aT:b.lo≤y∧y≤b.af):Aa a b≤x*y∧x*y≤Ab a b:=by
 have ad:=XF (y:=y) ah.1 ah.2
 have ae:=XG (y:=a.lo) aT.1 aT.2
 have ax:=XG (y:=a.af) aT.1 aT.2
 unfold Aa Ab
 generalize x*y=p at*
 generalize a.lo*y=q at*
 generalize a.af*y=r at*
 generalize a.lo*b.lo=s at*
 generalize a.lo*b.af=t at*
 generalize a.af*b.lo=u at*
 generalize a.af*b.af=v at*
 unfold jN eS at*
 omega
theorem apo{lo af v:Int}(h:(fM lo af).2=0)(ad:lo≤v)(ae:v≤af):(fM lo af).1.lo≤v∧v≤(fM lo af).1.af:=by
 unfold fM at*
 split at h
 ·cases h
 ·rename_i aj;rw [if_neg aj];exact ⟨ad,ae⟩
def iQ(vs:List V)(s:List Int):Prop:=s.length=vs.length∧∀(i:Nat) (v:V) (x:Int),vs[i]?=some v→s[i]?=some x→if v.bool then x=0∨x=1 else v.lo≤x∧x≤v.af
def within(y:Y)(v:Int):Prop:=if y.b then v=0∨v=1 else y.lo≤v∧v≤y.af
theorem uE{lo af v:Int}(h:(fM lo af).2=0)(ad:lo≤v)(ae:v≤af):within (fM lo af).1 v:=by
 unfold within
 rw [Aj]
 exact apo h ad ae
theorem sK{y:Y}{b:Bool}(h:y.b=true):within y (tr b):=by
 unfold within;rw [if_pos h];exact Ey b
theorem XH{lo af:Int}(h:(fM lo af).2=0):-1048576≤lo∧af≤1048576∧lo≤af:=by
 unfold fM at h
 split at h
 ·cases h
 ·omega
theorem apq{vs:List V}{s nn:List Int}{t:Tm}(aB:iQ vs s)(aJ:iQ vs nn)(aM:Valid t)(h:(iO vs true t).2=0):(iP vs s nn t).2=true∧within (iO vs true t).1 (iP vs s nn t).1:=by
 have q8:=aM.num
 unfold iO at*
 unfold iP
 by_cases ad:t.op=1
 ·rw [if_pos ad] at*
  rw [if_pos (by omega)]
  exact ⟨rfl,uE h (Int.le_refl _) (Int.le_refl _)⟩
 rw [if_neg ad] at*
 by_cases ae:t.op=2
 ·rw [if_pos ae] at*
  rw [if_pos (by omega)]
  refine ⟨rfl,?_⟩
  unfold within;simp only [hx,if_true];omega
 rw [if_neg ae] at*
 have dj:=aM.op
 rw [if_neg (show¬t.op≤2 by omega)]
 cases af:dN vs t.name with
 |none=>rw [af] at h;cases h
 |some i=>
  rw [af] at h
  simp only at h⊢
  obtain ⟨v,v1,v2,pb⟩:=xP af
  have XI:¬(t.op=4∧true=false):=by simp
  rw [if_neg XI,v1] at h
  rw [if_neg XI,v1]
  simp only at h⊢
  have uy:iQ vs (if t.op=4 then nn else s):=by split<;>assumption
  have bW:k3 vs s nn t=some i:=by unfold k3;rw [if_pos uy.1,af]
  obtain ⟨x,ah⟩:=OB pb uy.1
  rw [bW]
  simp only [ah,v1]
  have au:=uy.2 i v x v1 ah
  by_cases ak:v.bool=true
  ·rw [if_pos ak] at*
   rw [if_pos ak]
   exact ⟨rfl,sK rfl⟩
  ·rw [if_neg ak] at*
   rw [if_neg ak]
   have jX:=XH h
   exact ⟨(h4 _).2 (by omega),uE h au.1 au.2⟩
theorem apr{l:List Y}{nV:List Int}(an:l.all Y.b=true)(hlen:nV.length=l.length)(h:∀(i:Nat) (y:Y) (v:Int),l[i]?=some y→nV[i]?=some v→within y v):∀v∈nV,v=0∨v=1:=by
 intro v aM
 obtain ⟨i,af⟩:=List.mem_iff_getElem?.1 aM
 have bP:i<l.length:=by have:=(List.getElem?_eq_some_iff.1 af).1;omega
 have aT:=List.getElem?_eq_getElem bP
 have ak:=List.all_eq_true.1 an _ (List.getElem_mem bP)
 have hw:=h i _ v aT af
 unfold within at hw
 rwa [if_pos ak] at hw
theorem aps{t:Tm}{a b c:Y}(h:¬(5≤t.op∧t.op≤9)):fw t [a,b,c]=if(!a.b||(b.b !=c.b)) then(et,13) else if b.b then(hx,0) else fM (jN b.lo c.lo) (eS b.af c.af):=by
 unfold fw;rw [if_neg h]
theorem apt{t:Tm}{a b:Y}(h:¬(5≤t.op∧t.op≤9)):fw t [a,b]=if t.op=10∨t.op=11 then if a.b !=b.b then(et,13) else(hx,0)
   else if(a.b||b.b) then(et,13)
   else if t.op=12∨t.op=13 then(hx,0)
   else if t.op=17 then(match t.kids[1]? with
    |some k=>if k.op≠1∨k.num<1 then(et,2) else fM 0 (k.num-1)
    |none=>(et,0))
   else mY t.op a b:=by
 unfold fw;rw [if_neg h]<;>rfl
theorem apu{op a b c:Int}(b9:¬op=6)(e0:¬op=7):eN op [a,b,c]=(if a=1 then b else c,dy (if a=1 then b else c)):=by
 unfold eN;rw [if_neg b9,if_neg e0]
theorem apv{op a b:Int}(b9:¬op=6)(e0:¬op=7):eN op [a,b]=if op=8 then(tr (a==0||b==1),true) else if op=9∨op=10 then(tr (a==b),true) else if op=11 then(tr (a !=b),true)
   else if op=12 then(tr (decide (a<b)),true) else if op=13 then(tr (decide (a≤b)),true)
   else if op=14 then(a+b,dy (a+b)) else if op=15 then(a-b,dy (a-b))
   else if op=16 then if dy (a*b) then(a*b,true) else(0,false)
   else((a.tmod b+b).tmod b,dy ((a.tmod b+b).tmod b)):=by
 unfold eN;rw [if_neg b9,if_neg e0]
theorem apw{t:Tm}{l:List Y}{nV:List Int}(aM:Valid t)(bI:5≤t.op)(aF:(fw t l).2=0)(bx:∀y∈l,y.jn)(hlen:l.length=t.kids.length)(jq:nV.length=l.length)
  (hw:∀(i:Nat) (y:Y) (v:Int),l[i]?=some y→nV[i]?=some v→within y v) (hm:t.op=17→∀k v,t.kids[1]?=some k→nV[1]?=some v→v=k.num):
  (eN t.op nV).2=true∧within (fw t l).1 (eN t.op nV).1:=by
 have dj:=aM.op
 have xU:=aM.len
 have IU:5≤t.op∧t.op≤9→(fw t l).1.b=true:=fun h=>by
  have:=IP aF h
  unfold fw;rw [if_pos h,if_pos this];rfl
 by_cases p4:t.op=6∨t.op=7
 ·have ak:=IU (by omega)
  unfold eN
  rcases p4 with h|h
  ·rw [if_pos h];exact ⟨rfl,sK ak⟩
  ·rw [if_neg (by omega),if_pos h];exact ⟨rfl,sK ak⟩
 by_cases rV:t.op=5
 ·have ak:=IU (by omega)
  have:e9 t.op=(1,1):=by rw [rV];rfl
  rw [this] at xU
  have p3:nV.length=1:=by simp only at xU;omega
  match nV,p3,jq,hw with
  |[a],_,jq,hw=>
   have aA:=apr (IP aF (by omega)) jq hw a (by simp)
   have ff:dy (1-a)=true:=(h4 _).2 (by omega)
   unfold eN
   rw [if_neg (by omega),if_neg (by omega)]
   refine ⟨ff,?_⟩
   unfold within
   rw [if_pos ak]
   simp only
   omega
 have b9:¬t.op=6:=by omega
 have e0:¬t.op=7:=by omega
 by_cases oF:t.op=18
 ·rw [xN oF] at xU
  obtain ⟨a,b,c,rfl⟩:=sG (l:=l) (by simp only at xU;omega)
  obtain ⟨x,y,z,rfl⟩:=sG (l:=nV) (by simpa using jq)
  have IV:¬(5≤t.op∧t.op≤9):=by omega
  obtain ⟨Oy,xS,Xo⟩:=Ow aF IV
  have oZ:=hw 0 a x rfl rfl
  have oa:=hw 1 b y rfl rfl
  have IW:=hw 2 c z rfl rfl
  have oC:=bx b (by simp)
  have gc:=bx c (by simp)
  unfold within at oZ oa IW
  rw [apu b9 e0]
  rw [aps IV] at aF⊢
  have vu:¬(!a.b||(b.b !=c.b))=true:=by rw [Oy,xS];simp
  rw [if_neg vu] at aF⊢
  by_cases ak:b.b=true
  ·rw [if_pos ak]
   rw [if_pos ak] at oa
   rw [←xS,if_pos ak] at IW
   by_cases ah:x=1
   ·rw [if_pos ah]
    have q:dy y=true:=(h4 _).2 (by omega)
    refine ⟨q,?_⟩
    unfold within;simp only [hx,if_true];exact oa
   ·rw [if_neg ah]
    have q:dy z=true:=(h4 _).2 (by omega)
    refine ⟨q,?_⟩
    unfold within;simp only [hx,if_true];exact IW
  ·rw [if_neg ak] at aF⊢
   rw [if_neg ak] at oa
   rw [←xS,if_neg ak] at IW
   obtain ⟨_,fk,g0,jg⟩:=oC
   obtain ⟨_,bc,bm,bB⟩:=gc
   have hz:jN b.lo c.lo≤b.lo∧jN b.lo c.lo≤c.lo:=by unfold jN;split<;>omega
   have QM:b.af≤eS b.af c.af∧c.af≤eS b.af c.af:=by unfold eS;split<;>omega
   by_cases ah:x=1
   ·rw [if_pos ah]
    have q:dy y=true:=(h4 _).2 (by omega)
    exact ⟨q,uE aF (by omega) (by omega)⟩
   ·rw [if_neg ah]
    have q:dy z=true:=(h4 _).2 (by omega)
    exact ⟨q,uE aF (by omega) (by omega)⟩
 rw [uC (show 8≤t.op∧t.op≤17 by omega)] at xU
 obtain ⟨a,b,rfl⟩:=oB (l:=l) (by simp only at xU;omega)
 obtain ⟨x,y,rfl⟩:=oB (l:=nV) (by simpa using jq)
 have oZ:=hw 0 a x rfl rfl
 have oa:=hw 1 b y rfl rfl
 have xO:=bx a (by simp)
 have oC:=bx b (by simp)
 rw [apv b9 e0]
 by_cases hR:t.op=8
 ·rw [if_pos hR];exact ⟨rfl,sK (IU (by omega))⟩
 rw [if_neg hR]
 by_cases iZ:t.op=9
 ·rw [if_pos (Or.inl iZ)];exact ⟨rfl,sK (IU (by omega))⟩
 have IV:¬(5≤t.op∧t.op≤9):=by omega
 rw [apt IV] at aF⊢
 by_cases OD:t.op=10∨t.op=11
 ·rw [if_pos OD] at aF⊢
  by_cases aj:(a.b !=b.b)=true
  ·rw [if_pos aj] at aF;cases aF
  rw [if_neg aj]
  rcases OD with h|h
  ·rw [if_pos (Or.inr h)];exact ⟨rfl,sK rfl⟩
  ·have aJ:¬(t.op=9∨t.op=10):=by omega
   rw [if_neg aJ,if_pos h];exact ⟨rfl,sK rfl⟩
 rw [if_neg OD] at aF⊢
 have apx:¬(t.op=9∨t.op=10):=by omega
 have p6:¬t.op=11:=by omega
 rw [if_neg apx,if_neg p6]
 by_cases aj:(a.b||b.b)=true
 ·rw [if_pos aj] at aF;cases aF
 rw [if_neg aj] at aF⊢
 have kc:a.b=false∧b.b=false:=by cases aA:a.b<;>cases ak:b.b<;>simp_all
 have EB:¬(false=true):=by simp
 unfold within at oZ oa
 rw [kc.1,if_neg EB] at oZ
 rw [kc.2,if_neg EB] at oa
 obtain ⟨_,ag,aS,bN⟩:=xO
 obtain ⟨_,fk,g0,jg⟩:=oC
 by_cases OE:t.op=12∨t.op=13
 ·rw [if_pos OE]
  rcases OE with h|h
  ·rw [if_pos h];exact ⟨rfl,sK rfl⟩
  ·have aJ:¬t.op=12:=by omega
   rw [if_neg aJ,if_pos h];exact ⟨rfl,sK rfl⟩
 rw [if_neg OE] at aF⊢
 have apy:¬t.op=12:=by omega
 have lA:¬t.op=13:=by omega
 rw [if_neg apy,if_neg lA]
 by_cases nU:t.op=17
 ·rw [if_pos nU] at aF⊢
  have oH:¬t.op=14:=by omega
  have EE:¬t.op=15:=by omega
  have ez:¬t.op=16:=by omega
  rw [if_neg oH,if_neg EE,if_neg ez]
  cases ai:t.kids[1]? with
  |none=>
   have:=List.getElem?_eq_none_iff.1 ai
   simp only at xU;omega
  |some k=>
   rw [ai] at aF
   simp only at aF⊢
   by_cases ay:k.op≠1∨k.num<1
   ·rw [if_pos ay] at aF;cases aF
   rw [if_neg ay] at aF⊢
   have Ks:=hm nU k y ai rfl
   subst Ks
   have avb:=(aM.dM (List.mem_of_getElem? ai)).num
   have eU:=Et (a:=x) (b:=k.num) (by omega)
   have iY:=Et (a:=x.tmod k.num+k.num) (b:=k.num) (by omega)
   have Eg:=Int.tmod_nonneg (a:=x.tmod k.num+k.num) k.num (by omega)
   have q:dy ((x.tmod k.num+k.num).tmod k.num)=true:=(h4 _).2 (by omega)
   exact ⟨q,uE aF Eg (by omega)⟩
 rw [if_neg nU] at aF⊢
 unfold mY at aF⊢
 by_cases EE:t.op=15
 ·have oH:¬t.op=14:=by omega
  simp only [if_pos EE,if_neg oH] at aF⊢
  have q:dy (x-y)=true:=(h4 _).2 (by omega)
  exact ⟨q,uE aF (by omega) (by omega)⟩
 by_cases oH:t.op=14
 ·simp only [if_neg EE,if_pos oH] at aF⊢
  have q:dy (x+y)=true:=(h4 _).2 (by omega)
  exact ⟨q,uE aF (by omega) (by omega)⟩
 have ez:t.op=16:=by omega
 simp only [if_neg oH,if_neg EE,if_pos ez] at aF⊢
 have XJ:=apn oZ oa
 have jX:=XH aF
 have ff:dy (x*y)=true:=(h4 _).2 (by omega)
 simp only [if_pos ff]
 exact ⟨trivial,uE aF XJ.1 XJ.2⟩
theorem XK{vs:List V}{s nn:List Int}:∀{l:List Tm},(∀k∈l,(dR vs s nn k).2=true)→fN vs s nn l=some (l.map fun k=>(dR vs s nn k).1)
 |[],_=>rfl
 |t::r,h=>by rw [fN,if_pos (h t (by simp)),XK fun k ai=>h k (by simp [ai])];rfl
theorem XL{vs:List V}{nx:Bool}:∀{l:List Tm},(ds vs nx l).2=0→(ds vs nx l).1=l.map fun k=>(df vs nx k).1
 |[],_=>rfl
 |t::r,h=>by
  rw [ds] at*
  by_cases ad:(df vs nx t).2=0
  case neg=>rw [if_pos ad] at h;exact absurd h ad
  have c3:¬(df vs nx t).2≠0:=by simpa using ad
  rw [if_neg c3] at h⊢
  by_cases ae:(ds vs nx r).2=0
  case neg=>rw [if_pos ae] at h;exact absurd h ae
  have fQ:¬(ds vs nx r).2≠0:=by simpa using ae
  rw [if_neg fQ]
  simp [XL ae]
theorem apz{vs:List V}{s nn:List Int}(aB:iQ vs s)(aJ:iQ vs nn)(t:Tm):Valid t→(df vs true t).2=0→(dR vs s nn t).2=true∧within (df vs true t).1 (dR vs s nn t).1:=by
 refine Tm.ind (P:=fun t=>Valid t→(df vs true t).2=0→(dR vs s nn t).2=true∧within (df vs true t).1 (dR vs s nn t).1) ?_ t
 intro t ih aM h
 have ai:∀k∈t.kids,(df vs true k).2=0:=fun k ai=>EC aM h ai
 rw [l3] at h⊢
 rw [oG]
 by_cases aZ:t.op≤4
 ·rw [if_pos aZ] at*
  rw [if_pos aZ]
  exact apq aB aJ aM h
 rw [if_neg aZ] at h⊢
 rw [if_neg aZ]
 by_cases aq:(ds vs true t.kids).2=0
 case neg=>rw [if_pos aq] at h;exact absurd h aq
 have ED:¬(ds vs true t.kids).2≠0:=by simpa using aq
 rw [if_neg ED] at h⊢
 have jq:fN vs s nn t.kids=_:=XK fun k kX=>(ih k kX (aM.dM kX) (ai k kX)).1
 rw [jq]
 simp only
 obtain ⟨a2,bb⟩:=Ac vs true t.kids aq
 have ll:=XL aq
 refine apw aM (by omega) h bb a2 (by rw [a2];simp) ?_ ?_
 ·intro i y v aT jr
  rw [ll] at aT
  simp only [List.getElem?_map,Option.map_eq_some_iff] at aT jr
  obtain ⟨k,cb,rfl⟩:=aT
  obtain ⟨bg,dx,rfl⟩:=jr
  rw [cb] at dx;cases dx
  exact (ih k (List.mem_of_getElem? cb) (aM.dM (List.mem_of_getElem? cb)) (ai k (List.mem_of_getElem? cb))).2
 ·intro nU k v pd p3
  simp only [List.getElem?_map,pd,Option.map_some,Option.some.injEq] at p3
  have na:=aM.len
  rw [uC (by omega)] at na
  obtain ⟨Ez,Ak,aT⟩:=oB (l:=(ds vs true t.kids).1) (by simp only at na;omega)
  rw [aT] at h
  have:=Xl h nU pd
  rw [←p3,oG,if_pos (by omega)]
  unfold iP
  rw [if_pos (by omega)]
end Go.Am
