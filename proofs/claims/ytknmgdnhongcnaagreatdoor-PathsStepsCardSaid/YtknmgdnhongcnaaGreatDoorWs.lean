/- Laws, on data. No condition. -/
import Derived.Test.YtknmgdnhongcnaaGreatDoorLaws
import Derived.Test.YtknmgdnhongcnaaGreatDoorEngS
import Derived.KernelRfl
set_option linter.all false
set_option linter.unnecessarySimpa false
namespace Go.Am
set_option linter.unusedVariables false
set_option linter.unusedSimpArgs false
structure cl where
 name:ByteArray
 f:Fm
def cl.cells(d:cl):List D:=[aJ d.name,J d.f.op,J d.f.e.op,J d.f.e.num,aJ d.f.e.name,b5 4 d.f.e.nl (Tm.rows d.f.e.kids),b5 6 d.f.nl (Fm.rows d.f.kids)]
def au(l:List Tm):D:= .aC 4 (Tm.rows l)
def bo(l:List cl):D:= .aC 7 (l.map cl.cells)
theorem q2{l:List Tm}{i:Nat}{t:Tm}(h:l[i]?=some t):a3 4 (au l) (J (i:Int))=some t.cells:=by simp [au,Tm.By h]
theorem g8(l:List Tm):lenP (au l)=some (J l.length):=by simp [au]
theorem kB{l:List cl}{i:Nat}{t:cl}(h:l[i]?=some t):a3 7 (bo l) (J (i:Int))=some t.cells:=by simp [bo,h]
theorem g9(l:List cl):lenP (bo l)=some (J l.length):=by simp [bo]
def cl.d(d:cl):D:= .agg d.cells
theorem cl.WK(d:cl):aW true 7 0 d.cells=some d.d:=rfl
theorem cl.gp(d:cl):aW true 6 1 d.cells=some d.f.d:=by rw [Fm.h5];rfl
theorem cl.fp(d:cl):aW false 1 0 d.cells=some (aJ d.name):=rfl
theorem cl.agg(d:cl):aK 7 d.d=true:=by unfold cl.d cl.cells;simp [SK]
theorem cl.aL(d:cl):aa d.d 0=aJ d.name:=rfl
theorem cl.bb(d:cl):aa d.d 1=J d.f.op:=rfl
theorem cl.bl(d:cl):aa d.d 2=J d.f.e.op:=rfl
theorem cl.bs(d:cl):aa d.d 3=J d.f.e.num:=rfl
theorem cl.cf(d:cl):aa d.d 4=aJ d.f.e.name:=rfl
theorem cl.cB(d:cl):aa d.d 5=b5 4 d.f.e.nl (Tm.rows d.f.e.kids):=rfl
theorem cl.cC(d:cl):aa d.d 6=b5 6 d.f.nl (Fm.rows d.f.kids):=rfl
structure al where
 vars:List V
 defs:List a5
 init:List Tm
 bh:List Tm
 next:List a5
 trans:List Tm
 fair:List Tm
 specs:List cl
def al.d(m:al):D:= .agg [a6 m.vars,aE m.defs,au m.init,au m.bh,aE m.next,au m.trans,au m.fair,bo m.specs]
section
variable(m:al)
theorem al.aL:aa m.d 0=a6 m.vars:=rfl
theorem al.bb:aa m.d 1=aE m.defs:=rfl
theorem al.bl:aa m.d 2=au m.init:=rfl
theorem al.bs:aa m.d 3=au m.bh:=rfl
theorem al.cf:aa m.d 4=aE m.next:=rfl
theorem al.cB:aa m.d 5=au m.trans:=rfl
theorem al.cC:aa m.d 6=au m.fair:=rfl
theorem al.cK:aa m.d 7=bo m.specs:=rfl
theorem al.agg:aK 8 m.d=true:=rfl
theorem al.eta:D.agg [a6 m.vars,aE m.defs,au m.init,au m.bh,aE m.next,au m.trans,au m.fair,bo m.specs]=m.d:=rfl
end
end Go.Am
namespace Go.Am
set_option linter.unusedVariables false
set_option linter.unusedSimpArgs false
theorem WL:∀l:List Tm,l2 l=l.map fq
 |[]=>rfl
 |k::r=>by rw [l2,WL r];rfl
theorem z2(t:Tm):fq t= .mk t.op t.num t.name false (t.kids.map fq):=by cases t;rw [fq,WL];rfl
theorem Ij(t:Tm):(fq t).bc=t.bc:=by
 refine Tm.ind (P:=fun t=>(fq t).bc=t.bc) ?_ t
 intro t ih
 have key:∀l:List Tm,(∀k∈l,(fq k).bc=k.bc)→Tm.dn (l.map fq)=Tm.dn l:=by
  intro l
  induction l with
  |nil=>intro _;rfl
  |cons a r j8=>intro h;simp only [List.map_cons,Tm.dn];rw [h a (by simp),j8 fun k ai=>h k (by simp [ai])]
 rw [Tm.ub,Tm.ub t,z2]
 show 2+Tm.dn (t.kids.map fq)=_
 rw [key _ ih]
theorem anP(t:Tm):t.b1→(fq t).b1:=by
 refine Tm.ind (P:=fun t=>t.b1→(fq t).b1) ?_ t
 intro t ih ba
 rw [z2]
 have hlen:=ba.len
 obtain ⟨eD,dM,gH⟩:(-9223372036854775808≤t.op∧t.op≤9223372036854775807)∧(-9223372036854775808≤t.num∧t.num≤9223372036854775807)∧t.name.size≤140737488355328:=by
  cases ba with|mk o n s b ks aD aI az an ai=>exact ⟨aD,aI,az⟩
 refine .mk _ _ _ _ _ eD dM gH (by simpa using hlen) ?_
 intro k ai
 obtain ⟨bf,eQ,rfl⟩:=List.mem_map.1 ai
 exact ih bf eQ (ba.ek eQ)
end Go.Am
namespace Go.Am
set_option linter.unusedVariables false
set_option linter.unusedSimpArgs false
def hP:Int:=9007199254740992
def du(n:Int):Bool:=decide (-9007199254740992≤n)&&decide (n≤9007199254740992)
def m0(n:Int)(ok:Bool):D:=if ok&&du n then .aQ [J n,ar true] else .aQ [J 0,ar false]
theorem anQ(n:Nat)(a:Int)(ok:Bool):CX n [J a,ar ok]=some (m0 a ok):=by
 unfold m0 du
 cases ok<;>simp [CX,TC,-Ls,-Lb]
 grind
theorem Ik(n:Nat)(a b:Int)(aB:-9223372036854775808≤a∧a≤9223372036854775807)(ak:-9223372036854775808≤b∧b≤9223372036854775807):qM n [J a,J b]=some (m0 (a+b) true):=by
 have bw:=anQ n
 by_cases ad:(a<0)=(b<0)
 case neg=>
  have e:IntKind.i64.wrap (a+b)=a+b:=by
   refine wrap64 _ ?_ ?_
   ·by_cases c:a<0<;>by_cases d:b<0<;>simp [c,d] at ad<;>omega
   ·by_cases c:a<0<;>by_cases d:b<0<;>simp [c,d] at ad<;>omega
  have b9:(decide (a<0) !=decide (b<0))=true:=by by_cases c:a<0<;>by_cases d:b<0<;>simp [c,d] at ad⊢
  simp [qM,Hf,Gi,e,b9,bw]
  unfold m0;split<;>simp
 have b9:(decide (a<0) !=decide (b<0))=false:=by by_cases c:a<0<;>by_cases d:b<0<;>simp [c,d] at ad⊢
 by_cases av:-9223372036854775808≤a+b∧a+b≤9223372036854775807
 ·have e:IntKind.i64.wrap (a+b)=a+b:=wrap64 _ av.1 av.2
  have az:(decide (a<0)==decide (a+b<0))=true:=by
   by_cases c:a<0<;>by_cases d:b<0<;>simp [c,d] at ad⊢<;>omega
  simp [qM,Hf,Gi,e,b9,az,bw]
  unfold m0;split<;>simp
 ·have e:IntKind.i64.wrap (a+b)=if a<0 then a+b+18446744073709551616 else a+b-18446744073709551616:=by
   simp only [IntKind.wrap_i64]
   split<;>omega
  have az:(decide (a<0)==decide (IntKind.i64.wrap (a+b)<0))=false:=by
   rw [e]
   by_cases c:a<0<;>by_cases d:b<0<;>simp [c,d] at ad⊢<;>omega
  simp [qM,Hf,Gi,b9,az,bw]
  have:du (a+b)=false:=by unfold du;simp;omega
  simp [m0,this]
def eB(n:Int):D:= .val (.int .u64 n)
section
variable{bt:Bool}{a b:Int}
theorem Il(h:0≤a+b)(bj:a+b<18446744073709551616):binP bt .add (eB a) (eB b)=some (eB (a+b)):=by
 have e:binP bt .add (eB a) (eB b)=some (eB (IntKind.u64.wrap (a+b))):=rfl
 rw [e,IntKind.wrap_u64,Int.emod_eq_of_lt h bj]
theorem WM:binP bt .mul (eB a) (eB b)=some (eB (IntKind.u64.wrap (a*b))):=rfl
theorem Im(h:0≤a*b)(bj:a*b<18446744073709551616):binP bt .mul (eB a) (eB b)=some (eB (a*b)):=by
 rw [WM,IntKind.wrap_u64,Int.emod_eq_of_lt h bj]
theorem anR(h:0≤a):binP bt .shr (eB a) (eB 32)=some (eB (a/4294967296)):=by
 have e:binP bt .shr (eB a) (eB 32)=some (eB (a.fdiv (2^(min (32:Int).toNat IntKind.u64.bits)))):=rfl
 rw [e]
 have:(2:Int)^(min (32:Int).toNat IntKind.u64.bits)=4294967296:=by decide
 rw [this,Int.fdiv_eq_ediv_of_nonneg _ (by omega)]
theorem anS(h:0≤a)(bj:a<18446744073709551616):binP bt .and (eB a) (eB 4294967295)=some (eB (a%4294967296)):=by
 have e:binP bt .and (eB a) (eB 4294967295)=some (eB (IntKind.u64.wrap ((BitVec.ofInt IntKind.u64.bits a&&&BitVec.ofInt IntKind.u64.bits 4294967295).toNat:Int))):=rfl
 rw [e]
 have ak:IntKind.u64.bits=64:=rfl
 obtain ⟨m,rfl⟩:∃m:Nat,a=m:=⟨a.toNat,by omega⟩
 have aS:(BitVec.ofInt 64 (m:Int)&&&BitVec.ofInt 64 4294967295).toNat=m%4294967296:=by
  have aV:BitVec.ofInt 64 (m:Int)=BitVec.ofNat 64 m:=by simp
  have bz:BitVec.ofInt 64 4294967295=BitVec.ofNat 64 4294967295:=by decide
  rw [aV,bz,BitVec.toNat_and,BitVec.toNat_ofNat,BitVec.toNat_ofNat,Nat.mod_eq_of_lt (by omega)]
  have:=Nat.and_two_pow_sub_one_eq_mod m 32
  simpa using this
 rw [ak,aS,IntKind.wrap_u64]
 congr 2
 omega
theorem Io:binP bt .neq (eB a) (eB b)=some (ar (a !=b)):=rfl
theorem Ip:binP bt .gtr (eB a) (eB b)=some (ar (decide (a>b))):=rfl
end
theorem Iq{x y:Int}(af:0≤x∧x≤4294967295)(aN:0≤y∧y≤4294967295):0≤x*y∧x*y≤18446744065119617025:=by
 refine ⟨Int.mul_nonneg af.1 aN.1,?_⟩
 have:=Int.mul_le_mul af.2 aN.2 aN.1 (by omega)
 simpa using this
theorem anT(n:Nat)(x y:Int)(af:0≤x∧x<18446744073709551616)(aN:0≤y∧y<18446744073709551616):
  Hg n [eB x,eB y]=some (.aQ [eB (x*y/18446744073709551616),eB (x*y%18446744073709551616)]):=by
 have ah:0≤x%4294967296∧x%4294967296≤4294967295:=by omega
 have aT:0≤x/4294967296∧x/4294967296≤4294967295:=by omega
 have fo:0≤y%4294967296∧y%4294967296≤4294967295:=by omega
 have g4:0≤y/4294967296∧y/4294967296≤4294967295:=by omega
 have anU:=Iq ah fo
 have anV:=Iq aT fo
 have anW:=Iq ah g4
 have anX:=Iq aT g4
 have anY:x*y=(x/4294967296*(y/4294967296))*18446744073709551616+(x/4294967296*(y%4294967296)+x%4294967296*(y/4294967296))*4294967296+x%4294967296*(y%4294967296):=by
  have ex:x=x/4294967296*4294967296+x%4294967296:=by omega
  have p9:y=y/4294967296*4294967296+y%4294967296:=by omega
  generalize x/4294967296=u at*
  generalize x%4294967296=v at*
  generalize y/4294967296=w at*
  generalize y%4294967296=z at*
  subst ex;subst p9
  simp only [Int.add_mul,Int.mul_add]
  have aS:u*4294967296*(w*4294967296)=u*w*18446744073709551616:=by
   rw [Int.mul_assoc,Int.mul_left_comm 4294967296 w,←Int.mul_assoc,Int.mul_comm 4294967296 4294967296];rfl
  have aV:u*4294967296*z=u*z*4294967296:=by rw [Int.mul_assoc,Int.mul_comm 4294967296 z,←Int.mul_assoc]
  have bz:v*(w*4294967296)=v*w*4294967296:=by rw [←Int.mul_assoc]
  omega
 show Md n (eB x) (eB y)=_
 have anZ:(D.val (.int .u64 32))=eB 32:=rfl
 have em:(D.val (.int .u64 4294967295))=eB 4294967295:=rfl
 have qs:∀q:Int,0≤q→binP false .shr (eB q) (eB 32)=some (eB (q/4294967296)):=fun q h=>anR h
 have N4:∀q:Int,0≤q→q<18446744073709551616→binP false .and (eB q) (eB 4294967295)=some (eB (q%4294967296)):=fun q h bj=>anS h bj
 simp only [Md,anZ,em]
 rw [N4 x af.1 af.2,c8,qs x af.1,c8,N4 y aN.1 aN.2,c8,qs y aN.1,c8,Im anU.1 (by omega),c8,Im anV.1 (by omega),c8]
 generalize x%4294967296*(y%4294967296)=an0 at*
 generalize x/4294967296*(y%4294967296)=atY at*
 rw [qs an0 (by omega),c8,Il (by omega) (by omega),c8,N4 _ (by omega) (by omega),c8,qs _ (by omega),c8,Im anW.1 (by omega),c8]
 generalize x%4294967296*(y/4294967296)=atZ at*
 rw [Il (by omega) (by omega),c8,Im anX.1 (by omega),c8]
 generalize x/4294967296*(y/4294967296)=at0 at*
 rw [Il (by omega) (by omega),c8,qs _ (by omega),c8,Il (by omega) (by omega),c8,WM,c8,IntKind.wrap_u64,anY]
 congr 3
 ·congr 1;omega
theorem WN(n:Nat)(a:Int)(aB:-9223372036854775808≤a∧a≤9223372036854775807):wq n [J a]=some (eB a.natAbs):=by
 have aS:∀v:Int,unP .neg (.val (.int .u64 v))=some (eB (IntKind.u64.wrap (0-v))):=fun _=>rfl
 have aV:∀v:Int,cvP .u64 (J v)=some (.val (.int .u64 (IntKind.u64.wrap v))):=fun _=>rfl
 by_cases h:a<0
 ·simp [wq,Mc,h,aV,aS]
  simp only [IntKind.wrap_u64,eB,D.val.injEq,Value.int.injEq,true_and]
  omega
 ·simp [wq,Mc,h,aV]
  simp only [IntKind.wrap_u64,eB,D.val.injEq,Value.int.injEq,true_and]
  omega
end Go.Am
namespace Go.Am
set_option linter.unusedVariables false
set_option linter.unusedSimpArgs false
theorem h8(n:Int):du n=true↔n.natAbs≤9007199254740992:=by unfold du;simp;omega
theorem WO{a b:Int}{A B:Nat}(h:a.natAbs≤A)(bj:b.natAbs≤B):(a*b).natAbs≤A*B:=by
 rw [Int.natAbs_mul];exact Nat.mul_le_mul h bj
theorem sign_mul(a b:Int)(h:a*b≠0):((a<0)≠(b<0))↔a*b<0:=by
 have aB:a≠0:=by rintro rfl;simp at h
 have ak:b≠0:=by rintro rfl;simp at h
 rcases Int.lt_or_gt_of_ne aB with ad|ad<;>rcases Int.lt_or_gt_of_ne ak with ae|ae
 ·have:=Int.mul_pos_of_neg_of_neg ad ae
  simp [ad,ae];omega
 ·have:=Int.mul_neg_of_neg_of_pos ad ae
  simp [ad,this];omega
 ·have:=Int.mul_neg_of_pos_of_neg ad ae
  simp [ae,this];omega
 ·have:=Int.mul_pos ad ae
  simp;omega
theorem an1(n:Nat)(a b:Int)(aB:du a=true)(ak:du b=true):tE n [J a,J b]=some (m0 (a*b) true):=by
 rw [h8] at aB ak
 have ad:=WN n a (by omega)
 have ae:=WN n b (by omega)
 have hm:=WO aB ak
 have ay:=anT n a.natAbs b.natAbs (by omega) (by omega)
 have e:((a.natAbs:Int)*b.natAbs)=((a*b).natAbs:Int):=by rw [Int.natAbs_mul];simp
 rw [e] at ay
 have az:=sign_mul a b
 generalize a*b=p at*
 have aL:(D.val (.int .u64 0))=eB 0:=rfl
 have bb:(D.val (.int .u64 9007199254740992))=eB 9007199254740992:=rfl
 have aS:∀v:Int,cvP .i64 (eB v)=some (J (IntKind.i64.wrap v)):=fun _=>rfl
 by_cases av:du p=true
 ·have lN:=(h8 p).1 av
  have bq:((p.natAbs:Int)/18446744073709551616)=0:=by omega
  have bk:((p.natAbs:Int)%18446744073709551616)=p.natAbs:=by omega
  have bT:IntKind.i64.wrap (p.natAbs:Int)=p.natAbs:=wrap64 _ (by omega) (by omega)
  have db:IntKind.i64.wrap (-(p.natAbs:Int))=-(p.natAbs:Int):=wrap64 _ (by omega) (by omega)
  have dB:¬(9007199254740992<(p.natAbs:Int)):=by omega
  rw [bq,bk] at ay
  by_cases bM:p=0
  ·subst bM
   simp [tE,CY,ad,ae,ay,aL,bb,Io,Ip,aS,m0,av]
   by_cases x1:a<0<;>by_cases h6:b<0<;>simp [x1,h6,show IntKind.i64.wrap 0=0 from rfl]
  ·have az:=az bM
   by_cases x1:a<0<;>by_cases h6:b<0<;>simp [x1,h6] at az<;>simp [tE,CY,ad,ae,ay,aL,bb,Io,Ip,aS,m0,av,dB,bT,db,x1,h6]<;>omega
 ·have lN:¬(p.natAbs≤9007199254740992):=fun h=>av ((h8 p).2 h)
  have a4:du p=false:=by simpa using av
  by_cases bq:((p.natAbs:Int)/18446744073709551616)=0
  ·have bk:((p.natAbs:Int)%18446744073709551616)=p.natAbs:=by omega
   have dB:9007199254740992<(p.natAbs:Int):=by omega
   rw [bq,bk] at ay
   simp [tE,CY,ad,ae,ay,aL,bb,Io,Ip,aS,m0,a4,dB]
  ·have ei:((p.natAbs:Int)/18446744073709551616 !=0)=true:=by simpa using bq
   simp [tE,CY,ad,ae,ay,aL,bb,Io,Ip,aS,m0,a4,ei]
def tr(b:Bool):Int:=if b then 1 else 0
theorem WQ(n:Nat)(b:Bool):nC n [ar b]=some (.aQ [J (tr b),ar true]):=by
 cases b<;>simp [nC,TB,tr]
theorem WR(n:Nat)(b:Bool):nK n [ar b]=some (J (tr b)):=by
 cases b<;>simp [nK,Uo,tr]
theorem WS(n:Nat)(v:Int):tS n [J v]=some (ar (!du v)):=by
 by_cases ad:v< -9007199254740992
 ·have:du v=false:=by unfold du;simp;omega
  simp [tS,HE,this,ad]
 ·by_cases ae:9007199254740992<v
  ·have:du v=false:=by unfold du;simp;omega
   simp [tS,HE,this,ad,ae]
  ·have:du v=true:=by unfold du;simp;omega
   simp [tS,HE,this,ad,ae]
theorem WT(n:Nat)(v:Int)(h:-9223372036854775807≤v∧v≤9223372036854775807):zC n [J v]=some (J (v.natAbs:Int)):=by
 have:IntKind.i64.wrap (-v)=-v:=wrap64 _ (by omega) (by omega)
 simp [zC,Up,this,Ic,eU]
 split<;>omega
def eP(op:Int)(l:List Int):Int×Bool:=
 if op=6 then(tr (decide (l.sum=l.length)),true)
 else if op=7 then(tr (decide (l.sum>0)),true)
 else match l with
  |[a]=>(1-a,du (1-a))
  |[a,b]=>if op=8 then(tr (a==0||b==1),true) else if op=9∨op=10 then(tr (a==b),true) else if op=11 then(tr (a !=b),true)
   else if op=12 then(tr (decide (a<b)),true) else if op=13 then(tr (decide (a≤b)),true)
   else if op=14 then(a+b,du (a+b)) else if op=15 then(a-b,du (a-b))
   else if op=16 then if du (a*b) then(a*b,true) else(0,false)
   else((a.tmod b+b).tmod b,du ((a.tmod b+b).tmod b))
  |[a,b,c]=>(if a=1 then b else c,du (if a=1 then b else c))
  |_=>(0,false)
def e5(p:Int×Bool):D:=if p.2 then .aQ [J p.1,ar true] else .aQ [J 0,ar false]
theorem WU(v:Int):m0 v true=e5 (v,du v):=by simp [m0,e5]
theorem q3{l:List Int}{i:Nat}{y:Int}(h:l[i]?=some y):a3 1 (cb l) (J (i:Int))=some [J y]:=by simp [cb,h]
theorem xz{y:Int}{l:List Int}:a3 1 (cb (y::l)) (J 0)=some [J y]:=q3 (i:=0) rfl
theorem z3{x y:Int}{l:List Int}:a3 1 (cb (x::y::l)) (J 1)=some [J y]:=q3 (i:=1) rfl
theorem an2{x y z:Int}{l:List Int}:a3 1 (cb (x::y::z::l)) (J 2)=some [J z]:=q3 (i:=2) rfl
theorem oy(l:List Int):lenP (cb l)=some (J l.length):=by simp [cb]
theorem N5:∀(l:List Int),(∀v∈l,du v=true)→-(9007199254740992*(l.length:Int))≤l.sum∧l.sum≤9007199254740992*(l.length:Int)
 |[],_=>by simp
 |a::r,h=>by
  have:=N5 r fun v aM=>h v (by simp [aM])
  have:=(h8 a).1 (h a (by simp))
  simp only [List.sum_cons,List.length_cons]
  omega
theorem an3{l:List Int}(h:∀v∈l,du v=true)(an:l.length≤64)(i:Nat):-576460752303423488≤(l.take i).sum∧(l.take i).sum≤576460752303423488:=by
 have:=N5 (l.take i) fun v aM=>h v (List.mem_of_mem_take aM)
 have hle:(l.take i).length≤64:=by rw [List.length_take];omega
 omega
theorem an4(n:Nat)(z4 d1 d2 d3 d4:D)(l:List Int)(h:∀v∈l,du v=true)(an:l.length≤64)(aI:64<n):
  bm (CZ n) n [z4,J 0,cb l,J l.length,J 0,d1,d2,d3,d4]=some (.inl [z4,J l.sum,d1,d2,d3,d4]):=by
 have ag:=dq (f:=CZ n) l (fun i (s:Int)=>[z4,J s,cb l,J l.length,J (i:Int),d1,d2,d3,d4]) (fun r s=>(Sum.inl [z4,J (s+r.sum),d1,d2,d3,d4]:List D⊕D)) (fun i s=>s=(l.take i).sum)
  (fun s _=>by simp [CZ]) ?_ n 0 0 (by simp) (by omega) (Nat.zero_le _)
 ·have bF:(J ((0:Nat):Int))=J 0:=rfl
  rw [bF] at ag
  simpa using ag
 ·intro i a s aB ag az
  left
  have ak:=an3 h an i
  have RC:=(h8 a).1 (h a (List.mem_of_getElem? aB))
  have fc:binP false .add (J s) (J a)=some (J (s+a)):=dY (by omega) (by omega)
  refine ⟨s+a,by simp [CZ,ag,q3 aB,fc,cj (bt:=false) (i:=i) (by omega)],by simp [Int.add_assoc],?_⟩
  rw [List.take_add_one,aB,az]
  simp
theorem Eg{a b:Int}(ak:1≤b):-b<a.tmod b∧a.tmod b<b:=by
 have ad:=Int.tmod_lt_of_pos a (show 0<b by omega)
 have ae:=Int.lt_tmod_of_pos a (show 0<b by omega)
 exact ⟨ae,ad⟩
set_option maxHeartbeats 1000000 in
theorem an5(n:Nat)(t:Tm)(l:List Int)(aM:Valid t)(bW:l.length=t.kids.length)(di:5≤t.op)(av:∀v∈l,du v=true)(aI:100<n)
  (ak:(t.op≤9→∀v∈l,v=0∨v=1)∧(t.op=18→∀v,l[0]?=some v→v=0∨v=1)) (hm:t.op=17→∀v,l[1]?=some v→1≤v∧v≤255):
  iv n [t.d,cb l]=some (e5 (eP t.op l)):=by
 have pS:=aM.op
 have hlen:=aM.len
 have aL:=Tm.ly t
 have cZ:=Tm.lx t
 have ai:=uh (op:=t.op)
 have sn:=xx (op:=t.op)
 have Ef:=aM.z1
 have WV:=oy l
 have gC:=WQ n
 have Eh:=fun z4 d1 d2 d3 d4=>an4 n z4 d1 d2 d3 d4 l av (by omega) (by omega)
 by_cases pT:t.op=6∨t.op=7
 ·have gK:1≤l.length:=by
   have:fb t.op=(1,64):=by unfold fb;rw [if_neg (by omega),if_neg (by omega),if_pos pT]
   rw [this] at hlen
   simp only at hlen;omega
  generalize t.op=op at*
  rcases pT with rfl|rfl
  ·simp [iv,jI,cZ,aL,WV,Eh,eP,e5,gC,-Sb]
   by_cases aj:l.sum=(l.length:Int)<;>simp [aj,gC]
  ·simp [iv,jI,cZ,aL,WV,Eh,eP,e5,gC,-Sb]
   by_cases aj:l.sum=(l.length:Int)
   ·have:0<l.sum:=by omega
    have aX:0<l.length:=by omega
    simp [aj,gC,aX]
   ·by_cases aq:0<l.sum<;>simp [aj,aq,gC]
 have lJ:t.op=5→l.length=1:=fun h=>by
  have:fb t.op=(1,1):=by rw [h];rfl
  rw [this] at hlen;simp only at hlen;omega
 by_cases bL:t.op=5
 ·have:=lJ bL
  match l,this with
  |[a],_=>
   have aB:=ak.1 (by omega) a (by simp)
   have e8:=xz (y:=a) (l:=[])
   generalize t.op=op at*
   subst bL
   rcases aB with rfl|rfl
   ·simp [iv,jI,cZ,aL,e8,eP,e5,gC,tr,du]
   ·simp [iv,jI,cZ,aL,e8,eP,e5,gC,tr,du]
 by_cases oz:t.op=18
 ·rw [sn oz] at hlen
  obtain ⟨a,b,c,rfl⟩:=sm (l:=l) (by simp only at hlen;omega)
  have aB:=ak.2 oz a rfl
  have e8:=xz (y:=a) (l:=[b,c])
  have a1:=z3 (x:=a) (y:=b) (l:=[c])
  have a9:=an2 (x:=a) (y:=b) (z:=c) (l:=[])
  have an6:=av b (by simp)
  have an7:=av c (by simp)
  generalize t.op=op at*
  subst oz
  rcases aB with rfl|rfl
  ·simp [iv,jI,cZ,aL,e8,a1,a9,eP,e5,an7]
  ·simp [iv,jI,cZ,aL,e8,a1,a9,eP,e5,an6]
 rw [ai (by omega)] at hlen
 obtain ⟨a,b,rfl⟩:=ov (l:=l) (by simp only at hlen;omega)
 have e8:=xz (y:=a) (l:=[b])
 have a1:=z3 (x:=a) (y:=b) (l:=[])
 have WW:=av a (by simp)
 have uB:=av b (by simp)
 have N6:=(h8 a).1 WW
 have WX:=(h8 b).1 uB
 have dN:=Ik n a b (by omega) (by omega)
 have cz:=Ik n a (-b) (by omega) (by omega)
 have cR:=an1 n a b WW uB
 have N7:IntKind.i64.wrap (-b)=-b:=wrap64 _ (by omega) (by omega)
 have kY:a+-b=a-b:=by omega
 have af:∀p:Int×Bool,(extP 0 (e5 p))=some (J (if p.2 then p.1 else 0))∧(extP 1 (e5 p))=some (ar p.2):=by
  intro p;obtain ⟨v,o⟩:=p;cases o<;>simp [e5]
 have aN:∀p:Int×Bool,D.aQ [J (if p.2 then p.1 else 0),ar p.2]=e5 p:=by
  intro p;obtain ⟨v,o⟩:=p;cases o<;>simp [e5]
 rw [kY] at cz
 rw [WU] at dN cz cR
 by_cases nN:t.op=17
 ·obtain ⟨bq,bk⟩:=hm nN b rfl
  have e9:=Eg (a:=a) bq
  have Ei:b≠0:=by omega
  have ku:binP false .add (J (a.tmod b)) (J b)=some (J (a.tmod b+b)):=dY (by omega) (by omega)
  have jP:=Eg (a:=a.tmod b+b) bq
  have eR:du ((a.tmod b+b).tmod b)=true:=(h8 _).2 (by omega)
  have aS:binP false .rem (J a) (J b)=some (J (a.tmod b)):=Bq Ei
  have aV:binP false .rem (J (a.tmod b+b)) (J b)=some (J ((a.tmod b+b).tmod b)):=Bq Ei
  generalize t.op=op at*
  subst nN
  simp [iv,jI,cZ,aL,e8,a1,eP,e5,aS,aV,ku,eR]
 have aj:t.op=8∨t.op=9∨t.op=10∨t.op=11∨t.op=12∨t.op=13∨t.op=14∨t.op=15∨t.op=16:=by omega
 have an8:t.op=8→(b=0∨b=1):=fun h=>ak.1 (by omega) b (by simp)
 generalize t.op=op at*
 rcases aj with rfl|rfl|rfl|rfl|rfl|rfl|rfl|rfl|rfl
 ·rcases an8 rfl with rfl|rfl
  ·by_cases pU:a=0
   ·simp [iv,jI,cZ,aL,e8,a1,eP,e5,gC,pU,xz,z3]
   ·have Ej:(a==0)=false:=by simpa using pU
    simp [iv,jI,cZ,aL,e8,a1,eP,e5,gC,pU,Ej,xz,z3]
  ·by_cases pU:a=0
   ·simp [iv,jI,cZ,aL,e8,a1,eP,e5,gC,pU,xz,z3]
   ·have Ej:(a==0)=false:=by simpa using pU
    simp [iv,jI,cZ,aL,e8,a1,eP,e5,gC,pU,Ej,xz,z3]
 ·simp [iv,jI,cZ,aL,e8,a1,eP,e5,gC]
 ·simp [iv,jI,cZ,aL,e8,a1,eP,e5,gC]
 ·simp [iv,jI,cZ,aL,e8,a1,eP,e5,gC]
 ·simp [iv,jI,cZ,aL,e8,a1,eP,e5,gC]
 ·simp [iv,jI,cZ,aL,e8,a1,eP,e5,gC]
 ·simp [iv,jI,cZ,aL,e8,a1,eP,dN,af]
  rw [←aN]
 ·simp [iv,jI,cZ,aL,e8,a1,eP,N7,cz,af]
  rw [←aN]
 ·simp [iv,jI,cZ,aL,e8,a1,eP,cR,af]
  cases bK:du (a*b)<;>simp [e5]
def k2(vs:List V)(s nn:List Int)(t:Tm):Option Nat:=if(if t.op=4 then nn else s).length=vs.length then dz vs t.name else none
theorem an9{vs:List V}{s nn:List Int}{t:Tm}{i:Nat}(h:k2 vs s nn t=some i):dz vs t.name=some i∧(if t.op=4 then nn else s).length=vs.length:=by
 unfold k2 at h
 by_cases aj:(if t.op=4 then nn else s).length=vs.length
 ·rw [if_pos aj] at h;exact ⟨h,aj⟩
 ·rw [if_neg aj] at h;cases h
def iU(vs:List V)(s nn:List Int)(t:Tm):Int×Bool:=
 if t.op≤2 then(t.num,true)
 else match k2 vs s nn t with
  |none=>(0,false)
  |some i=>match vs[i]?,(if t.op=4 then nn else s)[i]? with
   |some v,some x=>if v.bool then(tr (x !=0),true) else(x,du x)
   |_,_=>(0,false)
mutual
def dK(vs:List V)(s nn:List Int):Tm→Int×Bool
 | .mk o n a b ks=>if o≤4 then iU vs s nn (.mk o n a b ks) else match fR vs s nn ks with
  |some l=>eP o l
  |none=>(0,false)
def fR(vs:List V)(s nn:List Int):List Tm→Option (List Int)
 |[]=>some []
 |t::r=>if(dK vs s nn t).2 then match fR vs s nn r with
   |some l=>some ((dK vs s nn t).1::l)
   |none=>none
  else none
end
theorem oA(vs:List V)(s nn:List Int)(t:Tm):dK vs s nn t=if t.op≤4 then iU vs s nn t else match fR vs s nn t.kids with
  |some l=>eP t.op l
  |none=>(0,false):=by cases t;rw [dK];rfl
mutual
def steps:Tm→Bool
 | .mk o _ _ _ ks=>o==4||m1 ks
def m1:List Tm→Bool
 |[]=>false
 |t::r=>steps t||m1 r
end
theorem Ir(t:Tm):steps t=(t.op==4||m1 t.kids):=by cases t;rw [steps];rfl
theorem WY:∀{l:List Tm} {t:Tm},t∈l→m1 l=false→steps t=false
 |a::r,t,h,az=>by
  rw [m1,Bool.or_eq_false_iff] at az
  rcases List.mem_cons.1 h with rfl|h
  ·exact az.1
  ·exact WY h az.2
theorem N8(b:Bool):du (tr b)=true:=by cases b<;>rfl
def z5(p:Int×Bool):Prop:=p.2=true→du p.1=true
theorem q4{c:Prop}[Decidable c]{p q:Int×Bool}(aX:z5 p)(bK:c∨z5 q):z5 (if c then p else q):=by
 split
 ·exact aX
 ·exact bK.resolve_left (by assumption)
theorem xA(b:Bool):z5 (tr b,true):=fun _=>N8 b
theorem Ek(v:Int):z5 (v,du v):=fun h=>h
theorem aoa{op:Int}{l:List Int}:z5 (eP op l):=by
 unfold eP
 refine q4 (xA _) (.inr (q4 (xA _) (.inr ?_)))
 match l with
 |[]=>intro h;cases h
 |[a]=>exact Ek _
 |[a,b,c]=>exact Ek _
 |a::b::c::d::r=>intro h;cases h
 |[a,b]=>
  refine q4 (xA _) (.inr (q4 (xA _) (.inr (q4 (xA _) (.inr (q4 (xA _) (.inr (q4 (xA _) (.inr (q4 (Ek _) (.inr (q4 (Ek _) (.inr (q4 ?_ (.inr (Ek _))))))))))))))))
  by_cases h:du (a*b)=true
  ·rw [if_pos h];exact fun _=>h
  ·rw [if_neg h];intro h;cases h
theorem aob{vs:List V}{s nn:List Int}{t:Tm}(aM:Valid t)(h:(iU vs s nn t).2=true):du (iU vs s nn t).1=true:=by
 have aI:=aM.num
 unfold iU at*
 by_cases ae:t.op≤2
 ·rw [if_pos ae];exact (h8 _).2 (by simp only;omega)
 rw [if_neg ae] at*
 cases ag:k2 vs s nn t with
 |none=>simp [ag] at h
 |some i=>
  rw [ag] at h
  simp only at h⊢
  cases hw:vs[i]? with
  |none=>rw [hw] at h;cases h
  |some v=>
   cases af:((if t.op=4 then nn else s)[i]?) with
   |none=>rw [hw,af] at h;cases h
   |some x=>
    rw [hw,af] at h
    simp only at h⊢
    by_cases ak:v.bool=true
    ·rw [if_pos ak];exact N8 _
    ·rw [if_neg ak] at*;exact h
theorem WZ{vs:List V}{s nn:List Int}{t:Tm}(aM:Valid t)(h:(dK vs s nn t).2=true):du (dK vs s nn t).1=true:=by
 rw [oA] at*
 by_cases aZ:t.op≤4
 ·rw [if_pos aZ] at*;exact aob aM h
 ·rw [if_neg aZ] at*
  split at h
  ·rename_i l an;exact aoa h
  ·cases h
end Go.Am
namespace Go.Am
set_option linter.unusedVariables false
set_option linter.unusedSimpArgs false
def uj(v:Int):Prop:=v=0∨v=1
theorem El(b:Bool):uj (tr b):=by cases b<;>simp [tr,uj]
theorem z6(lo ag:Int):(fQ lo ag).1.b=false:=by unfold fQ;split<;>rfl
theorem aoc(op:Int)(a b:Y):(mZ op a b).1.b=false:=by unfold mZ;split<;>(try split)<;>exact z6 _ _
theorem N9(vs:List V)(nx:Bool)(s nn:List Int):∀{ks:List Tm} {l:List Int},(dm vs nx ks).2=0→fR vs s nn ks=some l→l.length=ks.length∧∀(i:Nat) (y:Y) (v:Int),(dm vs nx ks).1[i]?=some y→l[i]?=some v→
  ∃k,ks[i]?=some k∧(de vs nx k).2=0∧y=(de vs nx k).1∧(dK vs s nn k).2=true∧v=(dK vs s nn k).1
 |[],l,_,aM=>by cases aM;exact ⟨rfl,by intro i y v _ h;simp at h⟩
 |k::r,l,h,aM=>by
  rw [dm] at*
  rw [fR] at aM
  by_cases ad:(de vs nx k).2=0
  case neg=>rw [if_pos ad] at h;exact absurd h ad
  have dv:¬(de vs nx k).2≠0:=by simpa using ad
  rw [if_neg dv] at h⊢
  by_cases ae:(dm vs nx r).2=0
  case neg=>rw [if_pos ae] at h;exact absurd h ae
  have fU:¬(dm vs nx r).2≠0:=by simpa using ae
  rw [if_neg fU] at h⊢
  by_cases ay:(dK vs s nn k).2=true
  case neg=>rw [if_neg ay] at aM;cases aM
  rw [if_pos ay] at aM
  cases aZ:fR vs s nn r with
  |none=>rw [aZ] at aM;cases aM
  |some oI=>
   rw [aZ] at aM
   cases aM
   obtain ⟨a1,a9⟩:=N9 vs nx s nn ae aZ
   refine ⟨by simp [a1],?_⟩
   intro i y v aN hw
   cases i with
   |zero=>simp at aN hw;exact ⟨k,rfl,ad,aN.symm,ay,hw.symm⟩
   |succ i=>simpa using a9 i y v (by simpa using aN) (by simpa using hw)
theorem Is{t:Tm}{l:List Y}(h:(fA t l).2=0)(ad:5≤t.op∧t.op≤9):l.all Y.b=true:=by
 unfold fA at h
 rw [if_pos ad] at h
 by_cases aj:l.all Y.b=true
 ·exact aj
 ·rw [if_neg aj] at h;cases h
theorem Oa{t:Tm}{a b c:Y}(h:(fA t [a,b,c]).2=0)(ad:¬(5≤t.op∧t.op≤9)):a.b=true∧b.b=c.b∧((fA t [a,b,c]).1.b=true→b.b=true):=by
 unfold fA at*
 rw [if_neg ad] at*
 simp only at h⊢
 by_cases aj:(!a.b||(b.b !=c.b))=true
 ·rw [if_pos aj] at h;cases h
 rw [if_neg aj] at*
 refine ⟨by cases aB:a.b<;>simp_all,by cases ak:b.b<;>cases Fk:c.b<;>simp_all,?_⟩
 by_cases ak:b.b=true
 ·exact fun _=>ak
 ·rw [if_neg ak,z6];intro h;cases h
theorem W0{t:Tm}{a b:Y}(h:(fA t [a,b]).2=0)(ad:t.op=17){k:Tm}(ai:t.kids[1]?=some k):k.op=1∧1≤k.num:=by
 unfold fA at h
 rw [if_neg (by omega)] at h
 simp only at h
 rw [if_neg (by omega)] at h
 by_cases aj:(a.b||b.b)=true
 ·rw [if_pos aj] at h;cases h
 rw [if_neg aj,if_neg (by omega),if_pos ad,ai] at h
 simp only at h
 by_cases ax:k.op≠1∨k.num<1
 ·rw [if_pos ax] at h;cases h
 ·omega
theorem aod{t:Tm}{a b:Y}(ad:14≤t.op∧t.op≤17):(fA t [a,b]).1.b=false:=by
 unfold fA
 rw [if_neg (by omega)]
 simp only
 rw [if_neg (by omega)]
 split
 ·rfl
 rw [if_neg (by omega)]
 split
 ·split
  ·split
   ·rfl
   ·exact z6 _ _
  ·rfl
 ·exact aoc _ _ _
theorem aoe{vs:List V}{nx:Bool}{s nn:List Int}{t:Tm}(aM:Valid t)(h:(iT vs nx t).1.b=true)(av:(iU vs s nn t).2=true):uj (iU vs s nn t).1:=by
 have aI:=aM.num
 unfold iT at h
 unfold iU at*
 by_cases ad:t.op=1
 ·rw [if_pos ad,z6] at h;cases h
 rw [if_neg ad] at h
 by_cases ae:t.op=2
 ·rw [if_pos (by omega)];unfold uj;simp only;omega
 rw [if_neg ae] at h
 have di:=aM.op
 rw [if_neg (by omega)] at*
 cases ag:k2 vs s nn t with
 |none=>rw [ag] at av;cases av
 |some i=>
  rw [(an9 ag).1] at h
  rw [ag] at av
  simp only at h av⊢
  by_cases ay:t.op=4∧nx=false
  ·rw [if_pos ay] at h;cases h
  rw [if_neg ay] at h
  cases hw:vs[i]? with
  |none=>rw [hw] at av;cases av
  |some v=>
   rw [hw] at h av
   simp only at h
   by_cases ak:v.bool=true
   ·cases af:((if t.op=4 then nn else s)[i]?) with
    |none=>rw [af] at av;cases av
    |some x=>simp only;rw [if_pos ak];exact El _
   ·rw [if_neg ak,z6] at h;cases h
theorem W1(vs:List V)(nx:Bool)(s nn:List Int)(t:Tm):Valid t→(de vs nx t).2=0→(de vs nx t).1.b=true→(dK vs s nn t).2=true→uj (dK vs s nn t).1:=by
 refine Tm.ind (P:=fun t=>Valid t→(de vs nx t).2=0→(de vs nx t).1.b=true→(dK vs s nn t).2=true→uj (dK vs s nn t).1) ?_ t
 intro t ih aM h ak av
 rw [l4] at h ak
 rw [oA] at av⊢
 by_cases aZ:t.op≤4
 ·rw [if_pos aZ] at*;exact aoe aM ak av
 rw [if_neg aZ] at*
 by_cases aq:(dm vs nx t.kids).2=0
 case neg=>rw [if_pos aq] at h;exact absurd h aq
 rw [if_neg (by simpa using aq)] at h ak
 cases an:fR vs s nn t.kids with
 |none=>rw [an] at av;cases av
 |some l=>
  rw [an] at av
  simp only at av⊢
  obtain ⟨a1,a9⟩:=N9 vs nx s nn aq an
  obtain ⟨bH,_⟩:=z0 vs nx t.kids aq
  have di:=aM.op
  have hlen:=aM.len
  have ai:=uh (op:=t.op)
  have sn:=xx (op:=t.op)
  unfold eP
  by_cases ch:t.op=6
  ·rw [if_pos ch];exact El _
  rw [if_neg ch]
  by_cases fj:t.op=7
  ·rw [if_pos fj];exact El _
  rw [if_neg fj]
  by_cases bL:t.op=5
  ·have:fb t.op=(1,1):=by rw [bL];rfl
   rw [this] at hlen
   match l,a1,a9 with
   |[a],a1,a9=>
    have ft:=Is h (by omega)
    have:0<(dm vs nx t.kids).1.length:=by simp at a1;omega
    obtain ⟨k,bq,bk,bT,db,dB⟩:=a9 0 _ a (List.getElem?_eq_getElem this) rfl
    have W2:=List.all_eq_true.1 ft _ (List.getElem_mem this)
    rw [bT] at W2
    have:=ih k (List.mem_of_getElem? bq) (aM.ek (List.mem_of_getElem? bq)) bk W2 db
    rw [←dB] at this
    simp only
    rcases this with h|h<;>subst h<;>simp [uj]
   |[],a1,_=>simp at a1;simp only at hlen;omega
   |_::_::_,a1,_=>simp at a1;simp only at hlen;omega
  by_cases oz:t.op=18
  ·rw [sn oz] at hlen
   have aof:l.length=3:=by simp only at hlen;omega
   obtain ⟨a,b,c,rfl⟩:=sm aof
   obtain ⟨Em,z7,Ob,aN⟩:=sm (l:=(dm vs nx t.kids).1) (by simp only at hlen;omega)
   rw [aN] at h ak a9
   obtain ⟨Oc,xB,W3⟩:=Oa h (by omega)
   have W4:=W3 ak
   have get:∀(i:Nat) (y:Y) (v:Int),[Em,z7,Ob][i]?=some y→[a,b,c][i]?=some v→y.b=true→uj v:=by
    intro i y v aN hw aog
    obtain ⟨k,bq,bk,bT,db,dB⟩:=a9 i y v aN hw
    rw [dB]
    exact ih k (List.mem_of_getElem? bq) (aM.ek (List.mem_of_getElem? bq)) bk (by rw [←bT];exact aog) db
   simp only
   by_cases aB:a=1
   ·rw [if_pos aB];exact get 1 z7 b rfl rfl W4
   ·rw [if_neg aB];exact get 2 Ob c rfl rfl (by rw [←xB];exact W4)
  rw [ai (by omega)] at hlen
  obtain ⟨a,b,rfl⟩:=ov (l:=l) (by simp only at hlen;omega)
  obtain ⟨Em,z7,aN⟩:=ov (l:=(dm vs nx t.kids).1) (by simp only at hlen;omega)
  rw [aN] at h ak
  have oB:t.op≤13:=by
   refine Classical.byContradiction fun aj=>?_
   rw [aod (by omega)] at ak
   cases ak
  simp only
  have aj:t.op=8∨t.op=9∨t.op=10∨t.op=11∨t.op=12∨t.op=13:=by omega
  rcases aj with e|e|e|e|e|e<;>simp only [e]<;>exact El _
theorem W5{vs:List V}{nx:Bool}{s nn:List Int}{t:Tm}{l:List Int}(aM:Valid t)(h:(de vs nx t).2=0)(bL:5≤t.op)(an:fR vs s nn t.kids=some l):
  l.length=t.kids.length∧(∀v∈l,du v=true)∧((t.op≤9→∀v∈l,v=0∨v=1)∧(t.op=18→∀v,l[0]?=some v→v=0∨v=1))∧(t.op=17→∀v,l[1]?=some v→1≤v∧v≤255):=by
 rw [l4,if_neg (by omega)] at h
 by_cases aq:(dm vs nx t.kids).2=0
 case neg=>rw [if_pos aq] at h;exact absurd h aq
 rw [if_neg (by simpa using aq)] at h
 obtain ⟨a1,a9⟩:=N9 vs nx s nn aq an
 obtain ⟨bH,_⟩:=z0 vs nx t.kids aq
 have di:=aM.op
 have hlen:=aM.len
 have at_:∀(i:Nat) (v:Int),l[i]?=some v→∃k y,t.kids[i]?=some k∧(dm vs nx t.kids).1[i]?=some y∧(de vs nx k).2=0∧y=(de vs nx k).1∧(dK vs s nn k).2=true∧v=(dK vs s nn k).1:=by
  intro i v ag
  have bW:i<(dm vs nx t.kids).1.length:=by have:=(List.getElem?_eq_some_iff.1 ag).1;omega
  obtain ⟨k,bq,bk,bT,db,dB⟩:=a9 i _ v (List.getElem?_eq_getElem bW) ag
  exact ⟨k,_,bq,List.getElem?_eq_getElem bW,bk,bT,db,dB⟩
 refine ⟨a1,?_,⟨?_,?_⟩,?_⟩
 ·intro v hm
  obtain ⟨i,ag⟩:=List.mem_iff_getElem?.1 hm
  obtain ⟨k,y,bq,bk,bT,db,dB,ei⟩:=at_ i v ag
  rw [ei]
  exact WZ (aM.ek (List.mem_of_getElem? bq)) dB
 ·intro jb v hm
  obtain ⟨i,ag⟩:=List.mem_iff_getElem?.1 hm
  obtain ⟨k,y,bq,bk,bT,db,dB,ei⟩:=at_ i v ag
  have ft:=List.all_eq_true.1 (Is h ⟨bL,jb⟩) y (List.mem_of_getElem? bk)
  rw [ei]
  exact W1 vs nx s nn k (aM.ek (List.mem_of_getElem? bq)) bT (by rw [←db];exact ft) dB
 ·intro oz v ag
  obtain ⟨k,y,bq,bk,bT,db,dB,ei⟩:=at_ 0 v ag
  rw [xx oz] at hlen
  obtain ⟨Em,z7,Ob,aN⟩:=sm (l:=(dm vs nx t.kids).1) (by simp only at hlen;omega)
  rw [aN] at h bk
  have aH:=(Oa h (by omega)).1
  cases bk
  rw [ei]
  exact W1 vs nx s nn k (aM.ek (List.mem_of_getElem? bq)) bT (by rw [←db];exact aH) dB
 ·intro nN v ag
  obtain ⟨k,y,bq,bk,bT,db,dB,ei⟩:=at_ 1 v ag
  rw [uh (by omega)] at hlen
  obtain ⟨Em,z7,aN⟩:=ov (l:=(dm vs nx t.kids).1) (by simp only at hlen;omega)
  rw [aN] at h
  obtain ⟨Oc,xB⟩:=W0 h nN bq
  have Aw:=(aM.ek (List.mem_of_getElem? bq)).num
  have:dK vs s nn k=(k.num,true):=by rw [oA,if_pos (by omega)];unfold iU;rw [if_pos (by omega)]
  rw [ei,this]
  exact ⟨xB,by simp only;omega⟩
end Go.Am
namespace Go.Am
set_option linter.unusedVariables false
set_option linter.unusedSimpArgs false
def fB(b:Bool)(l:List Int):D:=b5 1 b (l.map fun x=>[J x])
@[simp] theorem at1 (b:Bool) (l:List Int):lenP (fB b l)=some (J l.length):=by simp [fB]
@[simp] theorem aoh (b:Bool) (l:List Int):bA (fB b l)=true:=by unfold fB b5;split<;>rfl
theorem W6{b:Bool}{l:List Int}{i:Nat}{x:Int}(h:l[i]?=some x):a3 1 (fB b l) (J (i:Int))=some [J x]:=by
 have b9:l≠[]:=by rintro rfl;simp at h
 have:fB b l= .aC 1 (l.map fun x=>[J x]):=by unfold fB b5;rw [if_neg (by simp [b9])]
 rw [this];simp [h]
theorem W7(l:List Int):fB false l=cb l:=by simp [fB,b5,cb]
theorem z8:fB true []=c7:=rfl
variable{bn:Bool}
theorem Od{k:Nat}:cG (k+1) (J 0)=some 0:=by rw [Lf (by omega) (by omega)];rfl
theorem W8{k:Nat}:cG (k+2) (J 1)=some 1:=by rw [Lf (by omega) (by omega)];rfl
theorem aoi{k:Nat}:cG (k+3) (J 2)=some 2:=by rw [Lf (by omega) (by omega)];rfl
theorem aoj{x:Int}(ad:x≠0)(ae:x.natAbs≤9007199254740992):binP false .quo (J 9007199254740992) (J (x.natAbs:Int))=some (J ((9007199254740992/x.natAbs:Nat):Int)):=by
 have af:(x.natAbs:Int)≠0:=by omega
 rw [Se af]
 have e:(9007199254740992:Int).tdiv (x.natAbs:Int)=((9007199254740992/x.natAbs:Nat):Int):=by
  rw [Int.tdiv_eq_ediv_of_nonneg (by omega)];rfl
 have ay:=Nat.div_le_self 9007199254740992 x.natAbs
 rw [e]
 generalize 9007199254740992/x.natAbs=q at*
 rw [wrap64 _ (by omega) (by omega)]
theorem aok(a b:Int)(h:a≠0):(b.natAbs:Int)>((9007199254740992/a.natAbs:Nat):Int)↔du (a*b)=false:=by
 have aX:0<a.natAbs:=by omega
 have ad:du (a*b)=false↔9007199254740992<a.natAbs*b.natAbs:=by
  rw [←Int.natAbs_mul]
  have:=h8 (a*b)
  constructor
  ·intro h;refine Classical.byContradiction fun aj=>?_
   rw [this.2 (by omega)] at h;cases h
  ·intro h;cases bK:du (a*b) with
   |false=>rfl
   |true=>exact absurd (this.1 bK) (by omega)
 rw [ad,Nat.mul_comm,←Nat.div_lt_iff_lt_mul aX]
 omega
set_option maxHeartbeats 2000000 in
theorem aol(s6:List D→Option D)(n:Nat)(vs:List V)(s nn:List Int)(t:Tm)(l:List Int)(aM:Valid t)(bW:l.length=t.kids.length)(di:5≤t.op)(av:∀v∈l,du v=true)
  (ak:(t.op≤9→∀v∈l,v=0∨v=1)∧(t.op=18→∀v,l[0]?=some v→v=0∨v=1)) (hm:t.op=17→∀v,l[1]?=some v→1≤v∧v≤255)
  (hl:bm (tT s6 n) n [a6 vs,cb s,fB bn nn,J 0,J 0,J t.op,J t.num,aJ t.name,b5 4 t.nl (Tm.rows t.kids),.aC 1 []]=
   some (.inl [J (if t.op=6∨t.op=7 then l.sum else 0),J t.op,J t.num,aJ t.name,b5 4 t.nl (Tm.rows t.kids),cb l])):
  j7 s6 n (a6 vs) t.d (cb s) (fB bn nn)=some (.aQ [J (eP t.op l).1,ar (eP t.op l).2]):=by
 have pS:=aM.op
 have hlen:=aM.len
 have aL:=Tm.ly t
 have bb:=Tm.nv t
 have bl:=Tm.qu t
 have bs:=Tm.o9 t
 have cZ:=Tm.lx t
 have ai:=uh (op:=t.op)
 have sn:=xx (op:=t.op)
 have Ef:=aM.z1
 have gC:=WR n
 have m2:=WS n
 have es:∀l:List Int,esD (cb l)=l.map fun v=>[J v]:=fun _=>rfl
 have En:∀b:Bool,du (tr b)=true:=N8
 by_cases pT:t.op=6∨t.op=7
 ·generalize t.op=op at*
  rcases pT with rfl|rfl
  ·simp [j7,cZ,aL,bb,bl,bs,hl,es,gC,m2,eP,En]
   rfl
  ·simp [j7,cZ,aL,bb,bl,bs,hl,es,gC,m2,eP,En]
 by_cases bL:t.op=5
 ·have:fb t.op=(1,1):=by rw [bL];rfl
  rw [this] at hlen
  have lJ:l.length=1:=by simp only at hlen;omega
  match l,lJ with
  |[a],_=>
   have aB:=ak.1 (by omega) a (by simp)
   have aS:binP false .sub (J 1) (J a)=some (J (1-a)):=mP (by omega) (by omega)
   generalize t.op=op at*
   subst bL
   simp [j7,cZ,aL,bb,bl,bs,hl,es,m2,eP,Od,aS]
 by_cases oz:t.op=18
 ·rw [sn oz] at hlen
  obtain ⟨a,b,c,rfl⟩:=sm (l:=l) (by simp only at hlen;omega)
  generalize t.op=op at*
  subst oz
  by_cases aB:a=1<;>simp [j7,cZ,aL,bb,bl,bs,hl,es,m2,eP,Od,W8,aoi,aB]
 rw [ai (by omega)] at hlen
 obtain ⟨a,b,rfl⟩:=ov (l:=l) (by simp only at hlen;omega)
 have N6:=(h8 a).1 (av a (by simp))
 have WX:=(h8 b).1 (av b (by simp))
 have kr:cG 2 (J 0)=some 0:=Od
 have lj:cG 2 (J 1)=some 1:=W8
 by_cases nN:t.op=17
 ·obtain ⟨bq,bk⟩:=hm nN b rfl
  have e9:=Eg (a:=a) bq
  have Ei:b≠0:=by omega
  have ku:binP false .add (J (a.tmod b)) (J b)=some (J (a.tmod b+b)):=dY (by omega) (by omega)
  have aS:binP false .rem (J a) (J b)=some (J (a.tmod b)):=Bq Ei
  have aV:binP false .rem (J (a.tmod b+b)) (J b)=some (J ((a.tmod b+b).tmod b)):=Bq Ei
  generalize t.op=op at*
  subst nN
  simp [j7,cZ,aL,bb,bl,bs,hl,es,m2,eP,kr,lj,aS,aV,ku]
 by_cases ey:t.op=16
 ·have W9:=WT n a (by omega)
  have Xa:=WT n b (by omega)
  have It:=aok a b
  have at2:=WO N6 WX
  generalize t.op=op at*
  subst ey
  by_cases aB:a=0
  ·subst aB
   have aS:binP false .mul (J 0) (J b)=some (J 0):=by rw [Gj (by omega) (by omega),Int.zero_mul]
   simp [j7,cZ,aL,bb,bl,bs,hl,es,m2,eP,kr,lj,aS,show du 0=true from rfl]
  ·have bK:=aoj aB N6
   have It:=It aB
   have A1:(a==0)=false:=by simpa using aB
   generalize 9007199254740992/a.natAbs=q at*
   by_cases a4:du (a*b)=true
   ·have ad:¬((b.natAbs:Int)>(q:Int)):=fun h=>by rw [It.1 h] at a4;cases a4
    have dv:decide ((b.natAbs:Int)>(q:Int))=false:=decide_eq_false ad
    have at3:=(h8 _).1 a4
    have aS:binP false .mul (J a) (J b)=some (J (a*b)):=Gj (by omega) (by omega)
    have aV:binP false .gtr (J (b.natAbs:Int)) (J (q:Int))=some (ar false):=by rw [lW,dv]
    simp [j7,cZ,aL,bb,bl,bs,hl,es,m2,eP,kr,lj,W9,Xa,bK,aV,aS,a4,aB]
   ·have Eo:du (a*b)=false:=by simpa using a4
    have dv:decide ((b.natAbs:Int)>(q:Int))=true:=decide_eq_true (It.2 Eo)
    have aV:binP false .gtr (J (b.natAbs:Int)) (J (q:Int))=some (ar true):=by rw [lW,dv]
    simp [j7,cZ,aL,bb,bl,bs,hl,es,m2,eP,kr,lj,W9,Xa,bK,aV,Eo,aB]
 have aj:t.op=8∨t.op=9∨t.op=10∨t.op=11∨t.op=12∨t.op=13∨t.op=14∨t.op=15:=by omega
 have jN:binP false .add (J a) (J b)=some (J (a+b)):=dY (by omega) (by omega)
 have aom:binP false .sub (J a) (J b)=some (J (a-b)):=mP (by omega) (by omega)
 have at4:∀x y:Int,nK n [ar (x==y)]=some (J (tr (x==y))):=fun _ _=>gC _
 generalize t.op=op at*
 rcases aj with rfl|rfl|rfl|rfl|rfl|rfl|rfl|rfl
 ·by_cases pU:a=0
  ·simp [j7,cZ,aL,bb,bl,bs,hl,es,gC,m2,eP,En,kr,lj,pU]
  ·have Ej:(a==0)=false:=by simpa using pU
   simp [j7,cZ,aL,bb,bl,bs,hl,es,gC,m2,eP,En,kr,lj,pU,Ej]
 all_goals simp [j7,cZ,aL,bb,bl,bs,hl,es,gC,m2,eP,En,kr,lj,jN,aom]
end Go.Am
namespace Go.Am
set_option linter.unusedVariables false
set_option linter.unusedSimpArgs false
variable{bn:Bool}
theorem Xb{a b:Nat}(h:a+b≤1000):cY (a+b) 8=true:=gB (by omega) (by omega)
theorem Xc{vs:List V}{nx:Bool}{t:Tm}(h:(iT vs nx t).2=0)(ay:3≤t.op):∃i,dz vs t.name=some i:=by
 unfold iT at h
 rw [if_neg (by omega),if_neg (by omega)] at h
 cases ag:dz vs t.name with
 |none=>rw [ag] at h;cases h
 |some i=>exact ⟨i,rfl⟩
theorem Oe{vs:List V}{nx:Bool}:∀{l:List Tm},(dm vs nx l).2=0→∀k∈l,(de vs nx k).2=0
 |[],_,k,ai=>by cases ai
 |t::r,h,k,ai=>by
  rw [dm] at h
  by_cases ad:(de vs nx t).2=0
  case neg=>rw [if_pos ad] at h;exact absurd h ad
  rw [if_neg (by simpa using ad)] at h
  by_cases ae:(dm vs nx r).2=0
  case neg=>rw [if_pos ae] at h;exact absurd h ae
  rcases List.mem_cons.1 ai with rfl|ai
  ·exact ad
  ·exact Oe ae k ai
theorem Ep{vs:List V}{nx:Bool}{t k:Tm}(aM:Valid t)(h:(de vs nx t).2=0)(ai:k∈t.kids):(de vs nx k).2=0:=by
 rw [l4] at h
 by_cases aZ:t.op≤4
 ·rw [aM.leaf aZ] at ai;cases ai
 rw [if_neg aZ] at h
 by_cases aq:(dm vs nx t.kids).2=0
 ·exact Oe aq k ai
 ·rw [if_pos aq] at h;exact absurd h aq
theorem Of{vs:List V}{i:Nat}{l:List Int}(h:i<vs.length)(an:l.length=vs.length):∃x,l[i]?=some x:=⟨_,List.getElem?_eq_getElem (by omega)⟩
@[simp] theorem at5 (p:List Int) (x:Int):D.aC 1 (esD (cb p)++[[J x]])=cb (p++[x]):=by simp [cb]
@[simp] theorem at6 (p:List Int):(esD (cb p)).length=p.length:=by simp [cb]
@[simp] theorem at7 (p:List Int):D.aC 1 (esD (cb p))=cb p:=rfl
theorem Xd(vs:List V)(nx:Bool)(s nn:List Int)(kA:vs.length<1000000000000)(az:s.length=vs.length):∀(n:Nat) (t:Tm),t.bc+200+vs.length<n→t.b1→Valid t→(de vs nx t).2=0→(steps t=true→nn.length=vs.length)→
  pM n [a6 vs,t.d,cb s,fB bn nn]=some (.aQ [J (dK vs s nn t).1,ar (dK vs s nn t).2])
 |0,t,h,_,_,_,_=>absurd h (Nat.not_lt_zero _)
 |n+1,t,aI,ba,aM,aG,jO=>by
  have di:=aM.op
  have Ef:=aM.z1
  rw [oA]
  show j7 (pM n) n (a6 vs) t.d (cb s) (fB bn nn)=_
  by_cases aZ:t.op≤4
  ·rw [if_pos aZ]
   rw [l4,if_pos aZ] at aG
   have aL:=Tm.ly t
   have bb:=Tm.nv t
   have bl:=Tm.qu t
   have bs:=Tm.o9 t
   have cZ:=Tm.lx t
   have gC:=WR n
   have m2:=WS n
   by_cases ae:t.op≤2
   ·unfold iU
    rw [if_pos ae]
    have aj:t.op=1∨t.op=2:=by omega
    generalize t.op=op at*
    rcases aj with rfl|rfl<;>simp [j7,cZ,aL,bb,bl,bs]
   obtain ⟨i,ag⟩:=Xc aG (by omega)
   obtain ⟨v,v1,v2,o3⟩:=ui ag
   have af:=N0 n vs t.name (by omega) kA
   rw [ag] at af
   have hlen:(if t.op=4 then nn else s).length=vs.length:=by
    by_cases h:t.op=4
    ·rw [if_pos h];exact jO (by rw [Ir,h];rfl)
    ·rw [if_neg h];exact az
   have bQ:k2 vs s nn t=some i:=by unfold k2;rw [if_pos hlen,ag]
   obtain ⟨x,oC⟩:=Of o3 hlen
   unfold iU
   rw [if_neg ae,bQ]
   simp only [v1,oC]
   have aj:t.op=3∨t.op=4:=by omega
   generalize t.op=op at*
   rcases aj with rfl|rfl
   ·simp only [show¬((3:Int)=4) by omega,if_false] at oC
    cases ak:v.bool<;>simp [j7,cZ,aL,bb,bl,bs,af,h7 v1,v.so,q3 oC,gC,m2,ak]
   ·simp only [if_true] at oC
    cases ak:v.bool<;>simp [j7,cZ,aL,bb,bl,bs,af,h7 v1,v.so,W6 oC,gC,m2,ak]
  rw [if_neg aZ]
  have aon:∀k∈t.kids,steps k=true→nn.length=vs.length:=fun k ai h=>by
   refine jO ?_
   cases bK:m1 t.kids with
   |true=>rw [Ir,bK,Bool.or_true]
   |false=>rw [WY ai bK] at h;cases h
  have an:=dq (f:=tT (pM n) n) t.kids (fun i (p:List Int)=>[a6 vs,cb s,fB bn nn,J (if t.op=6∨t.op=7 then p.sum else 0),J (i:Int),J t.op,J t.num,aJ t.name,b5 4 t.nl (Tm.rows t.kids),cb p])
   (fun r p=>match fR vs s nn r with
    |some l=>(Sum.inl [J (if t.op=6∨t.op=7 then(p++l).sum else 0),J t.op,J t.num,aJ t.name,b5 4 t.nl (Tm.rows t.kids),cb (p++l)]:List D⊕D)
    |none=> .inr (.aQ [J 0,ar false]))
   (fun i p=>p.length=i∧∀v∈p,du v=true) ?_ ?_ n 0 [] ⟨rfl,by simp⟩ (by omega) (Nat.zero_le _)
  ·have bF:(J ((0:Nat):Int))=J 0:=rfl
   have aS:cb []= .aC 1 []:=rfl
   rw [bF,aS] at an
   simp only [List.sum_nil,ite_self,List.drop_zero,List.nil_append] at an
   cases iz:fR vs s nn t.kids with
   |none=>
    rw [iz] at an
    have fo:(t.op==1)=false:=by simp;omega
    have g4:(t.op==2)=false:=by simp;omega
    have jh:(t.op==3)=false:=by simp;omega
    have ox:(t.op==4)=false:=by simp;omega
    simp [j7,fo,g4,jh,ox,an]
   |some l=>
    rw [iz] at an
    obtain ⟨a1,a9,bH,ee⟩:=W5 (nx:=nx) aM aG (by omega) iz
    exact aol (pM n) n vs s nn t l aM a1 (by omega) a9 bH ee an
  ·intro p aX
   simp [tT,fR]
  ·intro i a p aB ag aX
   have hm:=List.mem_of_getElem? aB
   have bM:=Tm.hK hm
   have av:=Xd vs nx s nn kA az n a (by omega) (ba.ek hm) (aM.ek hm) (Ep aM aG hm) (aon a hm)
   have dS:cY (p.length+1) 8=true:=Xb (by omega)
   by_cases aq:(dK vs s nn a).2=true
   ·left
    have eR:=WZ (aM.ek hm) aq
    refine ⟨p++[(dK vs s nn a).1],?_,?_,by simp [aX.1],?_⟩
    ·have qb:=N5 p aX.2
     have oK:=(h8 _).1 eR
     have fc:binP false .add (J p.sum) (J (dK vs s nn a).1)=some (J (p.sum+(dK vs s nn a).1)):=dY (by omega) (by omega)
     by_cases pT:t.op=6∨t.op=7
     ·have aua:(if t.op=6 then true else decide (t.op=7))=true:=by rcases pT with h|h<;>simp [h]
      rcases pT with h|h
      ·simp [tT,ag,Tm.fY aB,av,aq,cj (bt:=false) (i:=i) (by omega),dS,h,fc]
      ·simp [tT,ag,Tm.fY aB,av,aq,cj (bt:=false) (i:=i) (by omega),dS,h,fc]
     ·have ch:¬t.op=6:=fun h=>pT (.inl h)
      have fj:¬t.op=7:=fun h=>pT (.inr h)
      simp [tT,ag,Tm.fY aB,av,aq,cj (bt:=false) (i:=i) (by omega),dS,ch,fj]
    ·rw [fR,if_pos aq]
     cases fR vs s nn (t.kids.drop (i+1)) with
     |none=>rfl
     |some l=>simp
    ·intro v kC
     rcases List.mem_append.1 kC with h|h
     ·exact aX.2 v h
     ·simp at h;rw [h];exact eR
   ·right
    rw [fR,if_neg aq]
    have Er:(dK vs s nn a).2=false:=by simpa using aq
    simp [tT,ag,Tm.fY aB,av,Er]
theorem aoo{M:List (Value×D)}(h:jY M){z:Value}{x:ByteArray}:lookP .string z false M (aJ x)=some (match getS M x with|some d=>d|none=>zeroD z):=by
 simp only [lookP,aJ,SC h]
 cases getS M x<;>rfl
theorem z9(p:Int×Bool):extP 0 (e5 p)=some (J (if p.2=true then p.1 else 0)):=by obtain ⟨v,o⟩:=p;cases o<;>simp [e5]
theorem Aa(p:Int×Bool):extP 1 (e5 p)=some (ar p.2):=by obtain ⟨v,o⟩:=p;cases o<;>simp [e5]
theorem Ab(p:Int×Bool):D.aQ [J (if p.2=true then p.1 else 0),ar p.2]=e5 p:=by obtain ⟨v,o⟩:=p;cases o<;>simp [e5]
theorem aop(p:Int×Bool):(e5 p).flat=true:=by obtain ⟨v,o⟩:=p;cases o<;>rfl
theorem Xe(vs:List V)(nx:Bool)(s nn:List Int)(M:List (Value×D))(cR:Ii M vs)(kA:vs.length<1000000000000)(az:s.length=vs.length)(eR:∀v,v∈s∨v∈nn→-9223372036854775808≤v∧v≤9223372036854775807):∀(n:Nat) (t:Tm),t.bc+200<n→t.b1→Valid t→(de vs nx t).2=0→
  r6 n [t.d,cb s,.mp M,fB bn nn,a6 vs]=some [e5 (dK vs s nn t),cb s,.mp M,fB bn nn,a6 vs]
 |0,t,h,_,_,_=>absurd h (Nat.not_lt_zero _)
 |n+1,t,aI,ba,aM,aG=>by
  have di:=aM.op
  have Ef:=aM.z1
  rw [oA]
  show r5 (r6 n) n [t.d,cb s,.mp M,fB bn nn,a6 vs]=_
  have an:=dq (f:=C5 (r6 n) n) t.kids (fun i (p:List Int)=>[b5 4 t.nl (Tm.rows t.kids),J t.kids.length,J (i:Int),cb s,.mp M,fB bn nn,a6 vs,J t.op,J t.num,aJ t.name,b5 4 t.nl (Tm.rows t.kids),cb p])
   (fun r p=>match fR vs s nn r with
    |some l=>(Sum.inl [cb s,.mp M,fB bn nn,a6 vs,J t.op,J t.num,aJ t.name,b5 4 t.nl (Tm.rows t.kids),cb (p++l)]:List D⊕List D)
    |none=> .inr [.aQ [J 0,ar false],cb s,.mp M,fB bn nn,a6 vs])
   (fun i p=>p.length=i) ?_ ?_ n 0 [] rfl (by omega) (Nat.zero_le _)
  ·have bF:(J ((0:Nat):Int))=J 0:=rfl
   have aS:cb []= .aC 1 []:=rfl
   have Ac:D.aQ [J 0,ar false]=e5 (0,false):=rfl
   rw [bF,aS] at an
   simp only [List.drop_zero,List.nil_append] at an
   have aL:=Tm.ly t
   have bb:=Tm.nv t
   have bl:=Tm.qu t
   have bs:=Tm.o9 t
   have cZ:=Tm.lx t
   by_cases aZ:t.op≤4
   ·rw [if_pos aZ]
    rw [l4,if_pos aZ] at aG
    have ai:=aM.leaf aZ
    rw [ai] at an
    have aoq:((([]:List Tm).length:Nat):Int)=0:=rfl
    simp only [fR,List.append_nil,aoq] at an
    have aub:D.aC 1 []=cb []:=rfl
    have gC:=WQ n
    by_cases ae:t.op≤2
    ·unfold iU
     rw [if_pos ae]
     have aj:t.op=1∨t.op=2:=by omega
     generalize t.op=op at*
     rcases aj with rfl|rfl<;>simp [r5,cZ,aL,bb,bl,bs,ai,an,e5]
    obtain ⟨i,ag⟩:=Xc aG (by omega)
    obtain ⟨v,v1,v2,o3⟩:=ui ag
    have qZ:=aoo cR.1 (z:= .int .i64 0) (x:=t.name)
    rw [cR.2,ag] at qZ
    simp only [Option.map_some] at qZ
    have qq:kN (.mp M)=some M:=rfl
    unfold iU
    rw [if_neg ae]
    have aj:t.op=3∨t.op=4:=by omega
    have auc:(t.op==3||t.op==4)=true:=by rcases aj with h|h<;>simp [h]
    by_cases hlen:(if t.op=4 then nn else s).length=vs.length
    ·have bQ:k2 vs s nn t=some i:=by unfold k2;rw [if_pos hlen,ag]
     obtain ⟨x,oC⟩:=Of o3 hlen
     have zV:=List.mem_of_getElem? oC
     rw [bQ]
     simp only [v1,oC]
     have Eh:m0 (x+0) true=e5 (x,du x):=by rw [WU,Int.add_zero]
     generalize t.op=op at*
     rcases aj with rfl|rfl
     ·simp only [show¬((3:Int)=4) by omega,if_false] at oC zV hlen
      have dN:=Ik n x 0 (eR x (.inl zV)) (by omega)
      rw [Eh] at dN
      cases ak:v.bool<;>simp [r5,cZ,aL,bb,bl,bs,ai,an,qq,qZ,oy,fw,hlen,h7 v1,v.so,q3 oC,gC,ak,dN,z9,Aa,Ab]<;>(try exact Ab (x,du x))<;>(try rfl)
     ·simp only [if_true] at oC zV hlen
      have dN:=Ik n x 0 (eR x (.inr zV)) (by omega)
      rw [Eh] at dN
      cases ak:v.bool<;>simp [r5,cZ,aL,bb,bl,bs,ai,an,qq,qZ,oy,fw,hlen,h7 v1,v.so,W6 oC,gC,ak,dN,z9,Aa,Ab]<;>(try exact Ab (x,du x))<;>(try rfl)
    ·have bQ:k2 vs s nn t=none:=by unfold k2;rw [if_neg hlen]
     rw [bQ]
     have kS:t.op=4:=by
      refine aj.resolve_left fun h=>hlen ?_
      rw [if_neg (by omega)];exact az
     rw [if_pos kS] at hlen
     generalize t.op=op at*
     subst kS
     have b9:¬((nn.length:Int)=(vs.length:Int)):=by omega
     simp [r5,cZ,aL,bb,bl,bs,ai,an,qq,qZ,oy,fw,hlen,b9]<;>(try rfl)
   ·rw [if_neg aZ]
    have fo:(t.op==1)=false:=by simp;omega
    have g4:(t.op==2)=false:=by simp;omega
    have jh:(t.op==3)=false:=by simp;omega
    have ox:(t.op==4)=false:=by simp;omega
    cases iz:fR vs s nn t.kids with
    |none=>
     rw [iz] at an
     simp [r5,cZ,aL,bb,bl,bs,an]<;>(try rfl)
    |some l=>
     rw [iz] at an
     obtain ⟨a1,a9,bH,ee⟩:=W5 (nx:=nx) aM aG (by omega) iz
     have aH:=an5 n t l aM a1 (by omega) a9 (by omega) bH ee
     simp [r5,cZ,aL,bb,bl,bs,an,fo,g4,jh,ox,aH,aop,z9,Aa,Ab]
  ·intro p aX
   simp [C5,fR]
  ·intro i a p aB ag aX
   have hm:=List.mem_of_getElem? aB
   have bM:=Tm.hK hm
   have av:=Xe vs nx s nn M cR kA az eR n a (by omega) (ba.ek hm) (aM.ek hm) (Ep aM aG hm)
   have dS:cY (p.length+1) 8=true:=Xb (by omega)
   by_cases aq:(dK vs s nn a).2=true
   ·left
    refine ⟨p++[(dK vs s nn a).1],?_,?_,by simp [aX]⟩
    ·simp [C5,ag,Tm.fY aB,av,aq,cj (bt:=false) (i:=i) (by omega),dS,z9,Aa]
    ·rw [fR,if_pos aq]
     cases fR vs s nn (t.kids.drop (i+1)) with
     |none=>rfl
     |some l=>simp
   ·right
    rw [fR,if_neg aq]
    have Er:(dK vs s nn a).2=false:=by simpa using aq
    simp [C5,ag,Tm.fY aB,av,Er,z9,Aa]
theorem Xf:∀(n:Nat) (t:Tm),t.bc<n→t.b1→pL n [t.d]=some (ar (steps t))
 |0,t,h,_=>absurd h (Nat.not_lt_zero _)
 |n+1,t,aI,ba=>by
  have hlen:=ba.len
  rw [Ir]
  have an:=dq (f:=DS (pL n) n) t.kids (fun i (_:Unit)=>[J (i:Int),J t.op,J t.num,aJ t.name,b5 4 t.nl (Tm.rows t.kids)])
   (fun r _=>if m1 r=true then(Sum.inr (ar true):List D⊕D) else .inl []) (fun _ _=>True)
   (fun _ _=>by simp [DS,m1]) ?_ n 0 () trivial (by have:=t.jk;omega) (Nat.zero_le _)
  ·have bF:(J ((0:Nat):Int))=J 0:=rfl
   rw [bF] at an
   simp only [List.drop_zero] at an
   by_cases aZ:t.op=4
   ·simp [pL,HD,aZ]
   ·have ox:(t.op==4)=false:=by simpa using aZ
    cases az:m1 t.kids<;>simp [pL,HD,aZ,an,az]
  ·intro i a _ aB ag _
   have hm:=List.mem_of_getElem? aB
   have bM:=Tm.hK hm
   have av:=Xf n a (by omega) (ba.ek hm)
   cases az:steps a
   ·left
    exact ⟨(),by simp [DS,ag,Tm.fY aB,av,az,cj (bt:=false) (i:=i) (by omega)],by simp [m1,az],trivial⟩
   ·right
    simp [DS,ag,Tm.fY aB,av,az,m1]
theorem Xg{vs:List V}{s nn:List Int}:∀{l:List Tm} {r:List Int},fR vs s nn l=some r→∀k∈l,(dK vs s nn k).2=true
 |[],_,_,k,ai=>by cases ai
 |t::q,r,h,k,ai=>by
  rw [fR] at h
  by_cases ad:(dK vs s nn t).2=true
  case neg=>rw [if_neg ad] at h;cases h
  rw [if_pos ad] at h
  cases ae:fR vs s nn q with
  |none=>rw [ae] at h;cases h
  |some l=>
   rcases List.mem_cons.1 ai with rfl|ai
   ·exact ad
   ·exact Xg ae k ai
theorem Xh:∀{l:List Tm},m1 l=true→∃k∈l,steps k=true
 |a::r,h=>by
  rw [m1] at h
  cases aB:steps a with
  |true=>exact ⟨a,by simp,aB⟩
  |false=>
   rw [aB,Bool.false_or] at h
   obtain ⟨k,ad,ae⟩:=Xh h
   exact ⟨k,by simp [ad],ae⟩
theorem aor{vs:List V}{s nn:List Int}(b9:nn.length≠vs.length)(t:Tm):Valid t→steps t=true→(dK vs s nn t).2=false:=by
 refine Tm.ind (P:=fun t=>Valid t→steps t=true→(dK vs s nn t).2=false) ?_ t
 intro t ih aM h
 rw [oA]
 rw [Ir] at h
 by_cases aZ:t.op≤4
 ·rw [if_pos aZ]
  have kS:t.op=4:=by
   rw [aM.leaf aZ] at h
   simpa [m1] using h
  unfold iU
  rw [if_neg (by omega)]
  have:k2 vs s nn t=none:=by unfold k2;rw [if_pos kS,if_neg b9]
  rw [this]
 ·rw [if_neg aZ]
  have ak:(t.op==4)=false:=by simp;omega
  rw [ak,Bool.false_or] at h
  obtain ⟨k,ad,ae⟩:=Xh h
  cases an:fR vs s nn t.kids with
  |none=>rfl
  |some l=>
   have:=Xg an k ad
   rw [ih k ad (aM.ek ad) ae] at this
   cases this
def hp(vs:List V)(t:Tm)(s nn:List Int):Int×Bool:=
 if(hW vs true t).2≠0∨s.length≠vs.length then(0,false) else dK vs s nn t
theorem Es{vs:List V}{nx:Bool}{t:Tm}(h:(hW vs nx t).2=0):Valid t∧(de vs nx t).2=0:=by
 unfold hW at h
 by_cases aj:(cL t 1 0).1=0
 ·rw [if_neg (by simpa using aj)] at h;exact ⟨⟨1,0,aj⟩,h⟩
 ·rw [if_pos aj] at h;exact absurd h aj
theorem Xi(n:Nat)(vs:List V)(t:Tm)(s nn:List Int)(aI:t.bc+200+vs.length<n)(ba:t.b1)(kA:vs.length<1000000000000)(eR:∀v,v∈s∨v∈nn→-9223372036854775808≤v∧v≤9223372036854775807):
  pz n [a6 vs,t.d,cb s,fB bn nn]=some (e5 (hp vs t s nn)):=by
 have ad:=WH n vs t true aI ba kA
 obtain ⟨M,e9,jP⟩:=WC n vs (by omega) kA
 have fM:bA (a6 vs)=true:=rfl
 have ll:∀l,bA (cb l)=true:=fun _=>rfl
 have Ac:D.aQ [J 0,ar false]=e5 (0,false):=rfl
 unfold hp
 by_cases aG:(hW vs true t).2=0
 ·by_cases az:s.length=vs.length
  ·obtain ⟨aM,ej⟩:=Es aG
   have ax:=Xe (bn:=bn) vs true s nn M jP kA az eR n t (by omega) ba aM ej
   have Iu:((s.length:Int) !=(vs.length:Int))=false:=by simp [az]
   simp [pz,Hh,fM,ll,ad,aG,az,oy,fw,e9,ax,z9,Aa,Ab]
  ·have Iu:¬((s.length:Int)=(vs.length:Int)):=by omega
   simp [pz,Hh,fM,ll,ad,aG,az,oy,fw,Iu]
   exact Ac
 ·simp [pz,Hh,fM,ll,ad,aG]
  exact Ac
theorem Xj(n:Nat)(vs:List V)(t:Tm)(s nn:List Int)(aI:t.bc+200+vs.length<n)(ba:t.b1)(kA:vs.length<1000000000000):
  nL n [a6 vs,t.d,cb s,fB bn nn]=some (e5 (hp vs t s nn)):=by
 have ad:=WI n vs t true aI ba kA
 have ae:=Xf n t (by omega) ba
 have Ac:D.aQ [J 0,ar false]=e5 (0,false):=rfl
 unfold hp
 by_cases aG:(hW vs true t).2=0
 ·by_cases az:s.length=vs.length
  ·obtain ⟨aM,ej⟩:=Es aG
   by_cases jO:steps t=true∧nn.length≠vs.length
   ·have aos:=aor (s:=s) jO.2 t aM jO.1
    have aot:¬((nn.length:Int)=(vs.length:Int)):=by have:=jO.2;omega
    have av:e5 (dK vs s nn t)= .aQ [J 0,ar false]:=by unfold e5;rw [if_neg (by simp [aos])]
    simp [nL,zD,ad,ae,aG,az,oy,fw,jO.1,aot,av]
   ·have ax:=Xd (bn:=bn) vs true s nn kA az n t aI ba aM ej (fun h=>by
     refine Classical.byContradiction fun aj=>jO ⟨h,aj⟩)
    have av:e5 (dK vs s nn t)=if(dK vs s nn t).2=true then .aQ [J (dK vs s nn t).1,ar true] else .aQ [J 0,ar false]:=rfl
    by_cases Og:steps t=true
    ·have qv:nn.length=vs.length:=Classical.byContradiction fun aj=>jO ⟨Og,aj⟩
     cases ak:(dK vs s nn t).2<;>simp [nL,zD,ad,ae,aG,az,oy,fw,Og,qv,ax,ak,av]
    ·have aou:steps t=false:=by simpa using Og
     cases ak:(dK vs s nn t).2<;>simp [nL,zD,ad,ae,aG,az,oy,fw,aou,ax,ak,av]
  ·have Iu:¬((s.length:Int)=(vs.length:Int)):=by omega
   simp [nL,zD,ad,ae,aG,az,oy,fw,Iu]
   exact Ac
 ·simp [nL,zD,ad,ae,aG]
  exact Ac
end Go.Am
namespace Go.Am
set_option linter.unusedVariables false
set_option linter.unusedSimpArgs false
theorem Xk{lo ag x y:Int}(ad:lo≤x)(ae:x≤ag):jL (lo*y) (ag*y)≤x*y∧x*y≤eU (lo*y) (ag*y):=by
 by_cases aN:0≤y
 ·have a:=Int.mul_le_mul_of_nonneg_right ad aN
  have b:=Int.mul_le_mul_of_nonneg_right ae aN
  unfold jL eU
  constructor<;>split<;>omega
 ·have a:=Int.mul_le_mul_of_nonpos_right ad (show y≤0 by omega)
  have b:=Int.mul_le_mul_of_nonpos_right ae (show y≤0 by omega)
  unfold jL eU
  constructor<;>split<;>omega
theorem Xl{lo ag x y:Int}(ad:lo≤x)(ae:x≤ag):jL (y*lo) (y*ag)≤y*x∧y*x≤eU (y*lo) (y*ag):=by
 have:=Xk (y:=y) ad ae
 rw [Int.mul_comm lo y,Int.mul_comm ag y,Int.mul_comm x y] at this
 exact this
theorem aov{a b:Y}{x y:Int}(af:a.lo≤x∧x≤a.ag)(aN:b.lo≤y∧y≤b.ag):zY a b≤x*y∧x*y≤zZ a b:=by
 have ad:=Xk (y:=y) af.1 af.2
 have ae:=Xl (y:=a.lo) aN.1 aN.2
 have ay:=Xl (y:=a.ag) aN.1 aN.2
 unfold zY zZ
 generalize x*y=p at*
 generalize a.lo*y=q at*
 generalize a.ag*y=r at*
 generalize a.lo*b.lo=s at*
 generalize a.lo*b.ag=t at*
 generalize a.ag*b.lo=u at*
 generalize a.ag*b.ag=v at*
 unfold jL eU at*
 omega
theorem aow{lo ag v:Int}(h:(fQ lo ag).2=0)(ad:lo≤v)(ae:v≤ag):(fQ lo ag).1.lo≤v∧v≤(fQ lo ag).1.ag:=by
 unfold fQ at*
 split at h
 ·cases h
 ·rename_i aj;rw [if_neg aj];exact ⟨ad,ae⟩
def ha(vs:List V)(s:List Int):Prop:=s.length=vs.length∧∀(i:Nat) (v:V) (x:Int),vs[i]?=some v→s[i]?=some x→if v.bool then x=0∨x=1 else v.lo≤x∧x≤v.ag
def within(y:Y)(v:Int):Prop:=if y.b then v=0∨v=1 else y.lo≤v∧v≤y.ag
theorem uk{lo ag v:Int}(h:(fQ lo ag).2=0)(ad:lo≤v)(ae:v≤ag):within (fQ lo ag).1 v:=by
 unfold within
 rw [z6]
 exact aow h ad ae
theorem sq{y:Y}{b:Bool}(h:y.b=true):within y (tr b):=by
 unfold within;rw [if_pos h];exact El b
theorem Xm{lo ag:Int}(h:(fQ lo ag).2=0):-1048576≤lo∧ag≤1048576∧lo≤ag:=by
 unfold fQ at h
 split at h
 ·cases h
 ·omega
theorem aox{vs:List V}{s nn:List Int}{t:Tm}(az:ha vs s)(aI:ha vs nn)(aM:Valid t)(h:(iT vs true t).2=0):(iU vs s nn t).2=true∧within (iT vs true t).1 (iU vs s nn t).1:=by
 have qW:=aM.num
 unfold iT at*
 unfold iU
 by_cases ad:t.op=1
 ·rw [if_pos ad] at*
  rw [if_pos (by omega)]
  exact ⟨rfl,uk h (Int.le_refl _) (Int.le_refl _)⟩
 rw [if_neg ad] at*
 by_cases ae:t.op=2
 ·rw [if_pos ae] at*
  rw [if_pos (by omega)]
  refine ⟨rfl,?_⟩
  unfold within;simp only [hC,if_true];omega
 rw [if_neg ae] at*
 have di:=aM.op
 rw [if_neg (show¬t.op≤2 by omega)]
 cases ag:dz vs t.name with
 |none=>rw [ag] at h;cases h
 |some i=>
  rw [ag] at h
  simp only at h⊢
  obtain ⟨v,v1,v2,o3⟩:=ui ag
  have Xn:¬(t.op=4∧true=false):=by simp
  rw [if_neg Xn,v1] at h
  rw [if_neg Xn,v1]
  simp only at h⊢
  have ud:ha vs (if t.op=4 then nn else s):=by split<;>assumption
  have bQ:k2 vs s nn t=some i:=by unfold k2;rw [if_pos ud.1,ag]
  obtain ⟨x,af⟩:=Of o3 ud.1
  rw [bQ]
  simp only [af,v1]
  have av:=ud.2 i v x v1 af
  by_cases ak:v.bool=true
  ·rw [if_pos ak] at*
   rw [if_pos ak]
   exact ⟨rfl,sq rfl⟩
  ·rw [if_neg ak] at*
   rw [if_neg ak]
   have jV:=Xm h
   exact ⟨(h8 _).2 (by omega),uk h av.1 av.2⟩
theorem aoy{l:List Y}{nO:List Int}(an:l.all Y.b=true)(hlen:nO.length=l.length)(h:∀(i:Nat) (y:Y) (v:Int),l[i]?=some y→nO[i]?=some v→within y v):∀v∈nO,v=0∨v=1:=by
 intro v aM
 obtain ⟨i,ag⟩:=List.mem_iff_getElem?.1 aM
 have bW:i<l.length:=by have:=(List.getElem?_eq_some_iff.1 ag).1;omega
 have aN:=List.getElem?_eq_getElem bW
 have ak:=List.all_eq_true.1 an _ (List.getElem_mem bW)
 have hw:=h i _ v aN ag
 unfold within at hw
 rwa [if_pos ak] at hw
theorem aoz{t:Tm}{a b c:Y}(h:¬(5≤t.op∧t.op≤9)):fA t [a,b,c]=if(!a.b||(b.b !=c.b)) then(et,13) else if b.b then(hC,0) else fQ (jL b.lo c.lo) (eU b.ag c.ag):=by
 unfold fA;rw [if_neg h]
theorem aoA{t:Tm}{a b:Y}(h:¬(5≤t.op∧t.op≤9)):fA t [a,b]=if t.op=10∨t.op=11 then if a.b !=b.b then(et,13) else(hC,0)
   else if(a.b||b.b) then(et,13)
   else if t.op=12∨t.op=13 then(hC,0)
   else if t.op=17 then(match t.kids[1]? with
    |some k=>if k.op≠1∨k.num<1 then(et,2) else fQ 0 (k.num-1)
    |none=>(et,0))
   else mZ t.op a b:=by
 unfold fA;rw [if_neg h]<;>rfl
theorem aoB{op a b c:Int}(ch:¬op=6)(fj:¬op=7):eP op [a,b,c]=(if a=1 then b else c,du (if a=1 then b else c)):=by
 unfold eP;rw [if_neg ch,if_neg fj]
theorem aoC{op a b:Int}(ch:¬op=6)(fj:¬op=7):eP op [a,b]=if op=8 then(tr (a==0||b==1),true) else if op=9∨op=10 then(tr (a==b),true) else if op=11 then(tr (a !=b),true)
   else if op=12 then(tr (decide (a<b)),true) else if op=13 then(tr (decide (a≤b)),true)
   else if op=14 then(a+b,du (a+b)) else if op=15 then(a-b,du (a-b))
   else if op=16 then if du (a*b) then(a*b,true) else(0,false)
   else((a.tmod b+b).tmod b,du ((a.tmod b+b).tmod b)):=by
 unfold eP;rw [if_neg ch,if_neg fj]
theorem aoD{t:Tm}{l:List Y}{nO:List Int}(aM:Valid t)(bL:5≤t.op)(aH:(fA t l).2=0)(bD:∀y∈l,y.jo)(hlen:l.length=t.kids.length)(iz:nO.length=l.length)
  (hw:∀(i:Nat) (y:Y) (v:Int),l[i]?=some y→nO[i]?=some v→within y v) (hm:t.op=17→∀k v,t.kids[1]?=some k→nO[1]?=some v→v=k.num):
  (eP t.op nO).2=true∧within (fA t l).1 (eP t.op nO).1:=by
 have di:=aM.op
 have xC:=aM.len
 have Iv:5≤t.op∧t.op≤9→(fA t l).1.b=true:=fun h=>by
  have:=Is aH h
  unfold fA;rw [if_pos h,if_pos this];rfl
 by_cases pT:t.op=6∨t.op=7
 ·have ak:=Iv (by omega)
  unfold eP
  rcases pT with h|h
  ·rw [if_pos h];exact ⟨rfl,sq ak⟩
  ·rw [if_neg (by omega),if_pos h];exact ⟨rfl,sq ak⟩
 by_cases rI:t.op=5
 ·have ak:=Iv (by omega)
  have:fb t.op=(1,1):=by rw [rI];rfl
  rw [this] at xC
  have pS:nO.length=1:=by simp only at xC;omega
  match nO,pS,iz,hw with
  |[a],_,iz,hw=>
   have aB:=aoy (Is aH (by omega)) iz hw a (by simp)
   have eR:du (1-a)=true:=(h8 _).2 (by omega)
   unfold eP
   rw [if_neg (by omega),if_neg (by omega)]
   refine ⟨eR,?_⟩
   unfold within
   rw [if_pos ak]
   simp only
   omega
 have ch:¬t.op=6:=by omega
 have fj:¬t.op=7:=by omega
 by_cases oz:t.op=18
 ·rw [xx oz] at xC
  obtain ⟨a,b,c,rfl⟩:=sm (l:=l) (by simp only at xC;omega)
  obtain ⟨x,y,z,rfl⟩:=sm (l:=nO) (by simpa using iz)
  have Iw:¬(5≤t.op∧t.op≤9):=by omega
  obtain ⟨Oc,xB,W3⟩:=Oa aH Iw
  have oR:=hw 0 a x rfl rfl
  have n4:=hw 1 b y rfl rfl
  have Ix:=hw 2 c z rfl rfl
  have ow:=bD b (by simp)
  have gc:=bD c (by simp)
  unfold within at oR n4 Ix
  rw [aoB ch fj]
  rw [aoz Iw] at aH⊢
  have ve:¬(!a.b||(b.b !=c.b))=true:=by rw [Oc,xB];simp
  rw [if_neg ve] at aH⊢
  by_cases ak:b.b=true
  ·rw [if_pos ak]
   rw [if_pos ak] at n4
   rw [←xB,if_pos ak] at Ix
   by_cases af:x=1
   ·rw [if_pos af]
    have q:du y=true:=(h8 _).2 (by omega)
    refine ⟨q,?_⟩
    unfold within;simp only [hC,if_true];exact n4
   ·rw [if_neg af]
    have q:du z=true:=(h8 _).2 (by omega)
    refine ⟨q,?_⟩
    unfold within;simp only [hC,if_true];exact Ix
  ·rw [if_neg ak] at aH⊢
   rw [if_neg ak] at n4
   rw [←xB,if_neg ak] at Ix
   obtain ⟨_,fo,g4,jh⟩:=ow
   obtain ⟨_,bb,bl,bs⟩:=gc
   have hD:jL b.lo c.lo≤b.lo∧jL b.lo c.lo≤c.lo:=by unfold jL;split<;>omega
   have Qo:b.ag≤eU b.ag c.ag∧c.ag≤eU b.ag c.ag:=by unfold eU;split<;>omega
   by_cases af:x=1
   ·rw [if_pos af]
    have q:du y=true:=(h8 _).2 (by omega)
    exact ⟨q,uk aH (by omega) (by omega)⟩
   ·rw [if_neg af]
    have q:du z=true:=(h8 _).2 (by omega)
    exact ⟨q,uk aH (by omega) (by omega)⟩
 rw [uh (show 8≤t.op∧t.op≤17 by omega)] at xC
 obtain ⟨a,b,rfl⟩:=ov (l:=l) (by simp only at xC;omega)
 obtain ⟨x,y,rfl⟩:=ov (l:=nO) (by simpa using iz)
 have oR:=hw 0 a x rfl rfl
 have n4:=hw 1 b y rfl rfl
 have xy:=bD a (by simp)
 have ow:=bD b (by simp)
 rw [aoC ch fj]
 by_cases hT:t.op=8
 ·rw [if_pos hT];exact ⟨rfl,sq (Iv (by omega))⟩
 rw [if_neg hT]
 by_cases jb:t.op=9
 ·rw [if_pos (Or.inl jb)];exact ⟨rfl,sq (Iv (by omega))⟩
 have Iw:¬(5≤t.op∧t.op≤9):=by omega
 rw [aoA Iw] at aH⊢
 by_cases Oh:t.op=10∨t.op=11
 ·rw [if_pos Oh] at aH⊢
  by_cases aj:(a.b !=b.b)=true
  ·rw [if_pos aj] at aH;cases aH
  rw [if_neg aj]
  rcases Oh with h|h
  ·rw [if_pos (Or.inr h)];exact ⟨rfl,sq rfl⟩
  ·have aI:¬(t.op=9∨t.op=10):=by omega
   rw [if_neg aI,if_pos h];exact ⟨rfl,sq rfl⟩
 rw [if_neg Oh] at aH⊢
 have aoE:¬(t.op=9∨t.op=10):=by omega
 have pV:¬t.op=11:=by omega
 rw [if_neg aoE,if_neg pV]
 by_cases aj:(a.b||b.b)=true
 ·rw [if_pos aj] at aH;cases aH
 rw [if_neg aj] at aH⊢
 have j9:a.b=false∧b.b=false:=by cases aB:a.b<;>cases ak:b.b<;>simp_all
 have Eo:¬(false=true):=by simp
 unfold within at oR n4
 rw [j9.1,if_neg Eo] at oR
 rw [j9.2,if_neg Eo] at n4
 obtain ⟨_,ah,aT,bP⟩:=xy
 obtain ⟨_,fo,g4,jh⟩:=ow
 by_cases Oi:t.op=12∨t.op=13
 ·rw [if_pos Oi]
  rcases Oi with h|h
  ·rw [if_pos h];exact ⟨rfl,sq rfl⟩
  ·have aI:¬t.op=12:=by omega
   rw [if_neg aI,if_pos h];exact ⟨rfl,sq rfl⟩
 rw [if_neg Oi] at aH⊢
 have aoF:¬t.op=12:=by omega
 have nP:¬t.op=13:=by omega
 rw [if_neg aoF,if_neg nP]
 by_cases nN:t.op=17
 ·rw [if_pos nN] at aH⊢
  have oB:¬t.op=14:=by omega
  have Et:¬t.op=15:=by omega
  have ey:¬t.op=16:=by omega
  rw [if_neg oB,if_neg Et,if_neg ey]
  cases ai:t.kids[1]? with
  |none=>
   have:=List.getElem?_eq_none_iff.1 ai
   simp only at xC;omega
  |some k=>
   rw [ai] at aH
   simp only at aH⊢
   by_cases ax:k.op≠1∨k.num<1
   ·rw [if_pos ax] at aH;cases aH
   rw [if_neg ax] at aH⊢
   have J8:=hm nN k y ai rfl
   subst J8
   have aud:=(aM.ek (List.mem_of_getElem? ai)).num
   have e9:=Eg (a:=x) (b:=k.num) (by omega)
   have jP:=Eg (a:=x.tmod k.num+k.num) (b:=k.num) (by omega)
   have D4:=Int.tmod_nonneg (a:=x.tmod k.num+k.num) k.num (by omega)
   have q:du ((x.tmod k.num+k.num).tmod k.num)=true:=(h8 _).2 (by omega)
   exact ⟨q,uk aH D4 (by omega)⟩
 rw [if_neg nN] at aH⊢
 unfold mZ at aH⊢
 by_cases Et:t.op=15
 ·have oB:¬t.op=14:=by omega
  simp only [if_pos Et,if_neg oB] at aH⊢
  have q:du (x-y)=true:=(h8 _).2 (by omega)
  exact ⟨q,uk aH (by omega) (by omega)⟩
 by_cases oB:t.op=14
 ·simp only [if_neg Et,if_pos oB] at aH⊢
  have q:du (x+y)=true:=(h8 _).2 (by omega)
  exact ⟨q,uk aH (by omega) (by omega)⟩
 have ey:t.op=16:=by omega
 simp only [if_neg oB,if_neg Et,if_pos ey] at aH⊢
 have Xo:=aov oR n4
 have jV:=Xm aH
 have eR:du (x*y)=true:=(h8 _).2 (by omega)
 simp only [if_pos eR]
 exact ⟨trivial,uk aH Xo.1 Xo.2⟩
theorem Xp{vs:List V}{s nn:List Int}:∀{l:List Tm},(∀k∈l,(dK vs s nn k).2=true)→fR vs s nn l=some (l.map fun k=>(dK vs s nn k).1)
 |[],_=>rfl
 |t::r,h=>by rw [fR,if_pos (h t (by simp)),Xp fun k ai=>h k (by simp [ai])];rfl
theorem Xq{vs:List V}{nx:Bool}:∀{l:List Tm},(dm vs nx l).2=0→(dm vs nx l).1=l.map fun k=>(de vs nx k).1
 |[],_=>rfl
 |t::r,h=>by
  rw [dm] at*
  by_cases ad:(de vs nx t).2=0
  case neg=>rw [if_pos ad] at h;exact absurd h ad
  have dv:¬(de vs nx t).2≠0:=by simpa using ad
  rw [if_neg dv] at h⊢
  by_cases ae:(dm vs nx r).2=0
  case neg=>rw [if_pos ae] at h;exact absurd h ae
  have fU:¬(dm vs nx r).2≠0:=by simpa using ae
  rw [if_neg fU]
  simp [Xq ae]
theorem Xr{vs:List V}{s nn:List Int}(az:ha vs s)(aI:ha vs nn)(t:Tm):Valid t→(de vs true t).2=0→(dK vs s nn t).2=true∧within (de vs true t).1 (dK vs s nn t).1:=by
 refine Tm.ind (P:=fun t=>Valid t→(de vs true t).2=0→(dK vs s nn t).2=true∧within (de vs true t).1 (dK vs s nn t).1) ?_ t
 intro t ih aM h
 have ai:∀k∈t.kids,(de vs true k).2=0:=fun k ai=>Ep aM h ai
 rw [l4] at h⊢
 rw [oA]
 by_cases aZ:t.op≤4
 ·rw [if_pos aZ] at*
  rw [if_pos aZ]
  exact aox az aI aM h
 rw [if_neg aZ] at h⊢
 rw [if_neg aZ]
 by_cases aq:(dm vs true t.kids).2=0
 case neg=>rw [if_pos aq] at h;exact absurd h aq
 have Er:¬(dm vs true t.kids).2≠0:=by simpa using aq
 rw [if_neg Er] at h⊢
 have iz:fR vs s nn t.kids=_:=Xp fun k lR=>(ih k lR (aM.ek lR) (ai k lR)).1
 rw [iz]
 simp only
 obtain ⟨a1,a9⟩:=z0 vs true t.kids aq
 have lq:=Xq aq
 refine aoD aM (by omega) h a9 a1 (by rw [a1];simp) ?_ ?_
 ·intro i y v aN kC
  rw [lq] at aN
  simp only [List.getElem?_map,Option.map_eq_some_iff] at aN kC
  obtain ⟨k,cc,rfl⟩:=aN
  obtain ⟨bf,c6,rfl⟩:=kC
  rw [cc] at c6;cases c6
  exact (ih k (List.mem_of_getElem? cc) (aM.ek (List.mem_of_getElem? cc)) (ai k (List.mem_of_getElem? cc))).2
 ·intro nN k v o5 pS
  simp only [List.getElem?_map,o5,Option.map_some,Option.some.injEq] at pS
  have m8:=aM.len
  rw [uh (by omega)] at m8
  obtain ⟨Em,z7,aN⟩:=ov (l:=(dm vs true t.kids).1) (by simp only at m8;omega)
  rw [aN] at h
  have:=W0 h nN o5
  rw [←pS,oA,if_pos (by omega)]
  unfold iU
  rw [if_pos (by omega)]
end Go.Am
