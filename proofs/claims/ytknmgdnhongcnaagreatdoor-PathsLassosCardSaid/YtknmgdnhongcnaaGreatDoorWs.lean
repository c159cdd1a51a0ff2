/- Laws, on data. No condition. -/
import Derived.Test.YtknmgdnhongcnaaGreatDoorLaws
import Derived.Test.YtknmgdnhongcnaaGreatDoorEngS
import Derived.KernelRfl
set_option linter.all false
set_option linter.unnecessarySimpa false
namespace Go.Am
set_option linter.unusedVariables false
set_option linter.unusedSimpArgs false
structure cm where
 name:ByteArray
 f:Fm
def cm.cells(d:cm):List D:=[aJ d.name,J d.f.op,J d.f.e.op,J d.f.e.num,aJ d.f.e.name,b3 4 d.f.e.nl (Tm.rows d.f.e.kids),b3 6 d.f.nl (Fm.rows d.f.kids)]
def an(l:List Tm):D:= .aD 4 (Tm.rows l)
def bj(l:List cm):D:= .aD 7 (l.map cm.cells)
theorem pW{l:List Tm}{i:Nat}{t:Tm}(h:l[i]?=some t):a2 4 (an l) (J (i:Int))=some t.cells:=by simp [an,Tm.BB h]
theorem gZ(l:List Tm):lenP (an l)=some (J l.length):=by simp [an]
theorem kH{l:List cm}{i:Nat}{t:cm}(h:l[i]?=some t):a2 7 (bj l) (J (i:Int))=some t.cells:=by simp [bj,h]
theorem hc(l:List cm):lenP (bj l)=some (J l.length):=by simp [bj]
def cm.d(d:cm):D:= .agg d.cells
theorem cm.WH(d:cm):aW true 7 0 d.cells=some d.d:=rfl
theorem cm.gq(d:cm):aW true 6 1 d.cells=some d.f.d:=by rw [Fm.ic];rfl
theorem cm.fq(d:cm):aW false 1 0 d.cells=some (aJ d.name):=rfl
theorem cm.agg(d:cm):aL 7 d.d=true:=by unfold cm.d cm.cells;simp [SJ]
theorem cm.aK(d:cm):aa d.d 0=aJ d.name:=rfl
theorem cm.bb(d:cm):aa d.d 1=J d.f.op:=rfl
theorem cm.bp(d:cm):aa d.d 2=J d.f.e.op:=rfl
theorem cm.bs(d:cm):aa d.d 3=J d.f.e.num:=rfl
theorem cm.cc(d:cm):aa d.d 4=aJ d.f.e.name:=rfl
theorem cm.cy(d:cm):aa d.d 5=b3 4 d.f.e.nl (Tm.rows d.f.e.kids):=rfl
theorem cm.cz(d:cm):aa d.d 6=b3 6 d.f.nl (Fm.rows d.f.kids):=rfl
structure al where
 vars:List V
 defs:List a5
 init:List Tm
 bc:List Tm
 next:List a5
 trans:List Tm
 fair:List Tm
 specs:List cm
def al.d(m:al):D:= .agg [a1 m.vars,aA m.defs,an m.init,an m.bc,aA m.next,an m.trans,an m.fair,bj m.specs]
section
variable(m:al)
theorem al.aK:aa m.d 0=a1 m.vars:=rfl
theorem al.bb:aa m.d 1=aA m.defs:=rfl
theorem al.bp:aa m.d 2=an m.init:=rfl
theorem al.bs:aa m.d 3=an m.bc:=rfl
theorem al.cc:aa m.d 4=aA m.next:=rfl
theorem al.cy:aa m.d 5=an m.trans:=rfl
theorem al.cz:aa m.d 6=an m.fair:=rfl
theorem al.cJ:aa m.d 7=bj m.specs:=rfl
theorem al.agg:aL 8 m.d=true:=rfl
theorem al.eta:D.agg [a1 m.vars,aA m.defs,an m.init,an m.bc,aA m.next,an m.trans,an m.fair,bj m.specs]=m.d:=rfl
end
end Go.Am
namespace Go.Am
set_option linter.unusedVariables false
set_option linter.unusedSimpArgs false
theorem WI:∀l:List Tm,ma l=l.map cG
 |[]=>rfl
 |k::r=>by rw [ma,WI r];rfl
theorem z3(t:Tm):cG t= .mk t.op t.num t.name false (t.kids.map cG):=by cases t;rw [cG,WI];rfl
theorem Ii(t:Tm):(cG t).bd=t.bd:=by
 refine Tm.ind (P:=fun t=>(cG t).bd=t.bd) ?_ t
 intro t ih
 have key:∀l:List Tm,(∀k∈l,(cG k).bd=k.bd)→Tm.dq (l.map cG)=Tm.dq l:=by
  intro l
  induction l with
  |nil=>intro _;rfl
  |cons a r kf=>intro h;simp only [List.map_cons,Tm.dq];rw [h a (by simp),kf fun k ai=>h k (by simp [ai])]
 rw [Tm.ui,Tm.ui t,z3]
 show 2+Tm.dq (t.kids.map cG)=_
 rw [key _ ih]
theorem anL(t:Tm):t.b2→(cG t).b2:=by
 refine Tm.ind (P:=fun t=>t.b2→(cG t).b2) ?_ t
 intro t ih ba
 rw [z3]
 have hlen:=ba.len
 obtain ⟨eG,dR,gH⟩:(-9223372036854775808≤t.op∧t.op≤9223372036854775807)∧(-9223372036854775808≤t.num∧t.num≤9223372036854775807)∧t.name.size≤140737488355328:=by
  cases ba with|mk o n s b ks aG aI az aq ai=>exact ⟨aG,aI,az⟩
 refine .mk _ _ _ _ _ eG dR gH (by simpa using hlen) ?_
 intro k ai
 obtain ⟨bg,eR,rfl⟩:=List.mem_map.1 ai
 exact ih bg eR (ba.er eR)
end Go.Am
namespace Go.Am
set_option linter.unusedVariables false
set_option linter.unusedSimpArgs false
def hW:Int:=9007199254740992
def dv(n:Int):Bool:=decide (-9007199254740992≤n)&&decide (n≤9007199254740992)
def m6(n:Int)(ok:Bool):D:=if ok&&dv n then .aO [J n,au true] else .aO [J 0,au false]
theorem anM(n:Nat)(a:Int)(ok:Bool):C1 n [J a,au ok]=some (m6 a ok):=by
 unfold m6 dv
 cases ok<;>simp [C1,TB,-Ls,-Lb]
 grind
theorem Ij(n:Nat)(a b:Int)(aB:-9223372036854775808≤a∧a≤9223372036854775807)(ak:-9223372036854775808≤b∧b≤9223372036854775807):qO n [J a,J b]=some (m6 (a+b) true):=by
 have bu:=anM n
 by_cases ad:(a<0)=(b<0)
 case neg=>
  have e:IntKind.i64.wrap (a+b)=a+b:=by
   refine wrap64 _ ?_ ?_
   ·by_cases c:a<0<;>by_cases d:b<0<;>simp [c,d] at ad<;>omega
   ·by_cases c:a<0<;>by_cases d:b<0<;>simp [c,d] at ad<;>omega
  have ca:(decide (a<0) !=decide (b<0))=true:=by by_cases c:a<0<;>by_cases d:b<0<;>simp [c,d] at ad⊢
  simp [qO,Hk,Gn,e,ca,bu]
  unfold m6;split<;>simp
 have ca:(decide (a<0) !=decide (b<0))=false:=by by_cases c:a<0<;>by_cases d:b<0<;>simp [c,d] at ad⊢
 by_cases av:-9223372036854775808≤a+b∧a+b≤9223372036854775807
 ·have e:IntKind.i64.wrap (a+b)=a+b:=wrap64 _ av.1 av.2
  have az:(decide (a<0)==decide (a+b<0))=true:=by
   by_cases c:a<0<;>by_cases d:b<0<;>simp [c,d] at ad⊢<;>omega
  simp [qO,Hk,Gn,e,ca,az,bu]
  unfold m6;split<;>simp
 ·have e:IntKind.i64.wrap (a+b)=if a<0 then a+b+18446744073709551616 else a+b-18446744073709551616:=by
   simp only [IntKind.wrap_i64]
   split<;>omega
  have az:(decide (a<0)==decide (IntKind.i64.wrap (a+b)<0))=false:=by
   rw [e]
   by_cases c:a<0<;>by_cases d:b<0<;>simp [c,d] at ad⊢<;>omega
  simp [qO,Hk,Gn,ca,az,bu]
  have:dv (a+b)=false:=by unfold dv;simp;omega
  simp [m6,this]
def eE(n:Int):D:= .val (.int .u64 n)
section
variable{bt:Bool}{a b:Int}
theorem Ik(h:0≤a+b)(bm:a+b<18446744073709551616):binP bt .add (eE a) (eE b)=some (eE (a+b)):=by
 have e:binP bt .add (eE a) (eE b)=some (eE (IntKind.u64.wrap (a+b))):=rfl
 rw [e,IntKind.wrap_u64,Int.emod_eq_of_lt h bm]
theorem WJ:binP bt .mul (eE a) (eE b)=some (eE (IntKind.u64.wrap (a*b))):=rfl
theorem Il(h:0≤a*b)(bm:a*b<18446744073709551616):binP bt .mul (eE a) (eE b)=some (eE (a*b)):=by
 rw [WJ,IntKind.wrap_u64,Int.emod_eq_of_lt h bm]
theorem anN(h:0≤a):binP bt .shr (eE a) (eE 32)=some (eE (a/4294967296)):=by
 have e:binP bt .shr (eE a) (eE 32)=some (eE (a.fdiv (2^(min (32:Int).toNat IntKind.u64.bits)))):=rfl
 rw [e]
 have:(2:Int)^(min (32:Int).toNat IntKind.u64.bits)=4294967296:=by decide
 rw [this,Int.fdiv_eq_ediv_of_nonneg _ (by omega)]
theorem anO(h:0≤a)(bm:a<18446744073709551616):binP bt .and (eE a) (eE 4294967295)=some (eE (a%4294967296)):=by
 have e:binP bt .and (eE a) (eE 4294967295)=some (eE (IntKind.u64.wrap ((BitVec.ofInt IntKind.u64.bits a&&&BitVec.ofInt IntKind.u64.bits 4294967295).toNat:Int))):=rfl
 rw [e]
 have ak:IntKind.u64.bits=64:=rfl
 obtain ⟨m,rfl⟩:∃m:Nat,a=m:=⟨a.toNat,by omega⟩
 have aS:(BitVec.ofInt 64 (m:Int)&&&BitVec.ofInt 64 4294967295).toNat=m%4294967296:=by
  have aV:BitVec.ofInt 64 (m:Int)=BitVec.ofNat 64 m:=by simp
  have bz:BitVec.ofInt 64 4294967295=BitVec.ofNat 64 4294967295:=by decide
  rw [aV,bz,BitVec.toNat_and,BitVec.toNat_ofNat,BitVec.toNat_ofNat,Nat.mod_eq_of_lt (by omega)]
  have:=Nat.and_two_pow_sub_one_eq_mod m 32
  simpa using this
 rw [ak,aS,IntKind.wrap_u64]
 congr 2
 omega
theorem Im:binP bt .neq (eE a) (eE b)=some (au (a !=b)):=rfl
theorem Io:binP bt .gtr (eE a) (eE b)=some (au (decide (a>b))):=rfl
end
theorem Ip{x y:Int}(ag:0≤x∧x≤4294967295)(aN:0≤y∧y≤4294967295):0≤x*y∧x*y≤18446744065119617025:=by
 refine ⟨Int.mul_nonneg ag.1 aN.1,?_⟩
 have:=Int.mul_le_mul ag.2 aN.2 aN.1 (by omega)
 simpa using this
theorem anP(n:Nat)(x y:Int)(ag:0≤x∧x<18446744073709551616)(aN:0≤y∧y<18446744073709551616):
  Hl n [eE x,eE y]=some (.aO [eE (x*y/18446744073709551616),eE (x*y%18446744073709551616)]):=by
 have ah:0≤x%4294967296∧x%4294967296≤4294967295:=by omega
 have aT:0≤x/4294967296∧x/4294967296≤4294967295:=by omega
 have fp:0≤y%4294967296∧y%4294967296≤4294967295:=by omega
 have g7:0≤y/4294967296∧y/4294967296≤4294967295:=by omega
 have anQ:=Ip ah fp
 have anR:=Ip aT fp
 have anS:=Ip ah g7
 have anT:=Ip aT g7
 have anU:x*y=(x/4294967296*(y/4294967296))*18446744073709551616+(x/4294967296*(y%4294967296)+x%4294967296*(y/4294967296))*4294967296+x%4294967296*(y%4294967296):=by
  have ex:x=x/4294967296*4294967296+x%4294967296:=by omega
  have sP:y=y/4294967296*4294967296+y%4294967296:=by omega
  generalize x/4294967296=u at*
  generalize x%4294967296=v at*
  generalize y/4294967296=w at*
  generalize y%4294967296=z at*
  subst ex;subst sP
  simp only [Int.add_mul,Int.mul_add]
  have aS:u*4294967296*(w*4294967296)=u*w*18446744073709551616:=by
   rw [Int.mul_assoc,Int.mul_left_comm 4294967296 w,←Int.mul_assoc,Int.mul_comm 4294967296 4294967296];rfl
  have aV:u*4294967296*z=u*z*4294967296:=by rw [Int.mul_assoc,Int.mul_comm 4294967296 z,←Int.mul_assoc]
  have bz:v*(w*4294967296)=v*w*4294967296:=by rw [←Int.mul_assoc]
  omega
 show Md n (eE x) (eE y)=_
 have anV:(D.val (.int .u64 32))=eE 32:=rfl
 have em:(D.val (.int .u64 4294967295))=eE 4294967295:=rfl
 have qu:∀q:Int,0≤q→binP false .shr (eE q) (eE 32)=some (eE (q/4294967296)):=fun q h=>anN h
 have N0:∀q:Int,0≤q→q<18446744073709551616→binP false .and (eE q) (eE 4294967295)=some (eE (q%4294967296)):=fun q h bm=>anO h bm
 simp only [Md,anV,em]
 rw [N0 x ag.1 ag.2,db,qu x ag.1,db,N0 y aN.1 aN.2,db,qu y aN.1,db,Il anQ.1 (by omega),db,Il anR.1 (by omega),db]
 generalize x%4294967296*(y%4294967296)=anW at*
 generalize x/4294967296*(y%4294967296)=atY at*
 rw [qu anW (by omega),db,Ik (by omega) (by omega),db,N0 _ (by omega) (by omega),db,qu _ (by omega),db,Il anS.1 (by omega),db]
 generalize x%4294967296*(y/4294967296)=atZ at*
 rw [Ik (by omega) (by omega),db,Il anT.1 (by omega),db]
 generalize x/4294967296*(y/4294967296)=at0 at*
 rw [Ik (by omega) (by omega),db,qu _ (by omega),db,Ik (by omega) (by omega),db,WJ,db,IntKind.wrap_u64,anU]
 congr 3
 ·congr 1;omega
theorem WK(n:Nat)(a:Int)(aB:-9223372036854775808≤a∧a≤9223372036854775807):wA n [J a]=some (eE a.natAbs):=by
 have aS:∀v:Int,unP .neg (.val (.int .u64 v))=some (eE (IntKind.u64.wrap (0-v))):=fun _=>rfl
 have aV:∀v:Int,cvP .u64 (J v)=some (.val (.int .u64 (IntKind.u64.wrap v))):=fun _=>rfl
 by_cases h:a<0
 ·simp [wA,Mc,h,aV,aS]
  simp only [IntKind.wrap_u64,eE,D.val.injEq,Value.int.injEq,true_and]
  omega
 ·simp [wA,Mc,h,aV]
  simp only [IntKind.wrap_u64,eE,D.val.injEq,Value.int.injEq,true_and]
  omega
end Go.Am
namespace Go.Am
set_option linter.unusedVariables false
set_option linter.unusedSimpArgs false
theorem ik(n:Int):dv n=true↔n.natAbs≤9007199254740992:=by unfold dv;simp;omega
theorem WL{a b:Int}{A B:Nat}(h:a.natAbs≤A)(bm:b.natAbs≤B):(a*b).natAbs≤A*B:=by
 rw [Int.natAbs_mul];exact Nat.mul_le_mul h bm
theorem sign_mul(a b:Int)(h:a*b≠0):((a<0)≠(b<0))↔a*b<0:=by
 have aB:a≠0:=by rintro rfl;simp at h
 have ak:b≠0:=by rintro rfl;simp at h
 rcases Int.lt_or_gt_of_ne aB with ad|ad<;>rcases Int.lt_or_gt_of_ne ak with ae|ae
 ·have:=Int.mul_pos_of_neg_of_neg ad ae
  simp [ad,ae];omega
 ·have:=Int.mul_neg_of_neg_of_pos ad ae
  simp [ad,this];omega
 ·have:=Int.mul_neg_of_pos_of_neg ad ae
  simp [ae,this];omega
 ·have:=Int.mul_pos ad ae
  simp;omega
theorem anX(n:Nat)(a b:Int)(aB:dv a=true)(ak:dv b=true):tJ n [J a,J b]=some (m6 (a*b) true):=by
 rw [ik] at aB ak
 have ad:=WK n a (by omega)
 have ae:=WK n b (by omega)
 have hm:=WL aB ak
 have ay:=anP n a.natAbs b.natAbs (by omega) (by omega)
 have e:((a.natAbs:Int)*b.natAbs)=((a*b).natAbs:Int):=by rw [Int.natAbs_mul];simp
 rw [e] at ay
 have az:=sign_mul a b
 generalize a*b=p at*
 have aK:(D.val (.int .u64 0))=eE 0:=rfl
 have bb:(D.val (.int .u64 9007199254740992))=eE 9007199254740992:=rfl
 have aS:∀v:Int,cvP .i64 (eE v)=some (J (IntKind.i64.wrap v)):=fun _=>rfl
 by_cases av:dv p=true
 ·have lU:=(ik p).1 av
  have br:((p.natAbs:Int)/18446744073709551616)=0:=by omega
  have bo:((p.natAbs:Int)%18446744073709551616)=p.natAbs:=by omega
  have bT:IntKind.i64.wrap (p.natAbs:Int)=p.natAbs:=wrap64 _ (by omega) (by omega)
  have dd:IntKind.i64.wrap (-(p.natAbs:Int))=-(p.natAbs:Int):=wrap64 _ (by omega) (by omega)
  have dE:¬(9007199254740992<(p.natAbs:Int)):=by omega
  rw [br,bo] at ay
  by_cases bN:p=0
  ·subst bN
   simp [tJ,C2,ad,ae,ay,aK,bb,Im,Io,aS,m6,av]
   by_cases x1:a<0<;>by_cases ig:b<0<;>simp [x1,ig,show IntKind.i64.wrap 0=0 from rfl]
  ·have az:=az bN
   by_cases x1:a<0<;>by_cases ig:b<0<;>simp [x1,ig] at az<;>simp [tJ,C2,ad,ae,ay,aK,bb,Im,Io,aS,m6,av,dE,bT,dd,x1,ig]<;>omega
 ·have lU:¬(p.natAbs≤9007199254740992):=fun h=>av ((ik p).2 h)
  have a6:dv p=false:=by simpa using av
  by_cases br:((p.natAbs:Int)/18446744073709551616)=0
  ·have bo:((p.natAbs:Int)%18446744073709551616)=p.natAbs:=by omega
   have dE:9007199254740992<(p.natAbs:Int):=by omega
   rw [br,bo] at ay
   simp [tJ,C2,ad,ae,ay,aK,bb,Im,Io,aS,m6,a6,dE]
  ·have eo:((p.natAbs:Int)/18446744073709551616 !=0)=true:=by simpa using br
   simp [tJ,C2,ad,ae,ay,aK,bb,Im,Io,aS,m6,a6,eo]
def tr(b:Bool):Int:=if b then 1 else 0
theorem WM(n:Nat)(b:Bool):nH n [au b]=some (.aO [J (tr b),au true]):=by
 cases b<;>simp [nH,TA,tr]
theorem WN(n:Nat)(b:Bool):nP n [au b]=some (J (tr b)):=by
 cases b<;>simp [nP,Un,tr]
theorem WO(n:Nat)(v:Int):tY n [J v]=some (au (!dv v)):=by
 by_cases ad:v< -9007199254740992
 ·have:dv v=false:=by unfold dv;simp;omega
  simp [tY,HJ,this,ad]
 ·by_cases ae:9007199254740992<v
  ·have:dv v=false:=by unfold dv;simp;omega
   simp [tY,HJ,this,ad,ae]
  ·have:dv v=true:=by unfold dv;simp;omega
   simp [tY,HJ,this,ad,ae]
theorem WQ(n:Nat)(v:Int)(h:-9223372036854775807≤v∧v≤9223372036854775807):zE n [J v]=some (J (v.natAbs:Int)):=by
 have:IntKind.i64.wrap (-v)=-v:=wrap64 _ (by omega) (by omega)
 simp [zE,Uo,this,Ib,eX]
 split<;>omega
def eQ(op:Int)(l:List Int):Int×Bool:=
 if op=6 then(tr (decide (l.sum=l.length)),true)
 else if op=7 then(tr (decide (l.sum>0)),true)
 else match l with
  |[a]=>(1-a,dv (1-a))
  |[a,b]=>if op=8 then(tr (a==0||b==1),true) else if op=9∨op=10 then(tr (a==b),true) else if op=11 then(tr (a !=b),true)
   else if op=12 then(tr (decide (a<b)),true) else if op=13 then(tr (decide (a≤b)),true)
   else if op=14 then(a+b,dv (a+b)) else if op=15 then(a-b,dv (a-b))
   else if op=16 then if dv (a*b) then(a*b,true) else(0,false)
   else((a.tmod b+b).tmod b,dv ((a.tmod b+b).tmod b))
  |[a,b,c]=>(if a=1 then b else c,dv (if a=1 then b else c))
  |_=>(0,false)
def e7(p:Int×Bool):D:=if p.2 then .aO [J p.1,au true] else .aO [J 0,au false]
theorem WR(v:Int):m6 v true=e7 (v,dv v):=by simp [m6,e7]
theorem q7{l:List Int}{i:Nat}{y:Int}(h:l[i]?=some y):a2 1 (ck l) (J (i:Int))=some [J y]:=by simp [ck,h]
theorem xA{y:Int}{l:List Int}:a2 1 (ck (y::l)) (J 0)=some [J y]:=q7 (i:=0) rfl
theorem z4{x y:Int}{l:List Int}:a2 1 (ck (x::y::l)) (J 1)=some [J y]:=q7 (i:=1) rfl
theorem anY{x y z:Int}{l:List Int}:a2 1 (ck (x::y::z::l)) (J 2)=some [J z]:=q7 (i:=2) rfl
theorem oF(l:List Int):lenP (ck l)=some (J l.length):=by simp [ck]
theorem N1:∀(l:List Int),(∀v∈l,dv v=true)→-(9007199254740992*(l.length:Int))≤l.sum∧l.sum≤9007199254740992*(l.length:Int)
 |[],_=>by simp
 |a::r,h=>by
  have:=N1 r fun v aM=>h v (by simp [aM])
  have:=(ik a).1 (h a (by simp))
  simp only [List.sum_cons,List.length_cons]
  omega
theorem anZ{l:List Int}(h:∀v∈l,dv v=true)(aq:l.length≤64)(i:Nat):-576460752303423488≤(l.take i).sum∧(l.take i).sum≤576460752303423488:=by
 have:=N1 (l.take i) fun v aM=>h v (List.mem_of_mem_take aM)
 have hle:(l.take i).length≤64:=by rw [List.length_take];omega
 omega
theorem an0(n:Nat)(z5 d1 d2 d3 d4:D)(l:List Int)(h:∀v∈l,dv v=true)(aq:l.length≤64)(aI:64<n):
  bk (C3 n) n [z5,J 0,ck l,J l.length,J 0,d1,d2,d3,d4]=some (.inl [z5,J l.sum,d1,d2,d3,d4]):=by
 have af:=dr (f:=C3 n) l (fun i (s:Int)=>[z5,J s,ck l,J l.length,J (i:Int),d1,d2,d3,d4]) (fun r s=>(Sum.inl [z5,J (s+r.sum),d1,d2,d3,d4]:List D⊕D)) (fun i s=>s=(l.take i).sum)
  (fun s _=>by simp [C3]) ?_ n 0 0 (by simp) (by omega) (Nat.zero_le _)
 ·have bB:(J ((0:Nat):Int))=J 0:=rfl
  rw [bB] at af
  simpa using af
 ·intro i a s aB af az
  left
  have ak:=anZ h aq i
  have RB:=(ik a).1 (h a (List.mem_of_getElem? aB))
  have fb:binP false .add (J s) (J a)=some (J (s+a)):=ec (by omega) (by omega)
  refine ⟨s+a,by simp [C3,af,q7 aB,fb,cf (bt:=false) (i:=i) (by omega)],by simp [Int.add_assoc],?_⟩
  rw [List.take_add_one,aB,az]
  simp
theorem Ek{a b:Int}(ak:1≤b):-b<a.tmod b∧a.tmod b<b:=by
 have ad:=Int.tmod_lt_of_pos a (show 0<b by omega)
 have ae:=Int.lt_tmod_of_pos a (show 0<b by omega)
 exact ⟨ae,ad⟩
set_option maxHeartbeats 1000000 in
theorem an1(n:Nat)(t:Tm)(l:List Int)(aM:Valid t)(bJ:l.length=t.kids.length)(dj:5≤t.op)(av:∀v∈l,dv v=true)(aI:100<n)
  (ak:(t.op≤9→∀v∈l,v=0∨v=1)∧(t.op=18→∀v,l[0]?=some v→v=0∨v=1)) (hm:t.op=17→∀v,l[1]?=some v→1≤v∧v≤255):
  iB n [t.d,ck l]=some (e7 (eQ t.op l)):=by
 have pV:=aM.op
 have hlen:=aM.len
 have aK:=Tm.mX t
 have c4:=Tm.lD t
 have ai:=ur (op:=t.op)
 have sx:=xy (op:=t.op)
 have Ej:=aM.z2
 have WS:=oF l
 have gC:=WM n
 have El:=fun z5 d1 d2 d3 d4=>an0 n z5 d1 d2 d3 d4 l av (by omega) (by omega)
 by_cases pX:t.op=6∨t.op=7
 ·have fF:1≤l.length:=by
   have:fa t.op=(1,64):=by unfold fa;rw [if_neg (by omega),if_neg (by omega),if_pos pX]
   rw [this] at hlen
   simp only at hlen;omega
  generalize t.op=op at*
  rcases pX with rfl|rfl
  ·simp [iB,jR,c4,aK,WS,El,eQ,e7,gC,-Sa]
   by_cases aj:l.sum=(l.length:Int)<;>simp [aj,gC]
  ·simp [iB,jR,c4,aK,WS,El,eQ,e7,gC,-Sa]
   by_cases aj:l.sum=(l.length:Int)
   ·have:0<l.sum:=by omega
    have aY:0<l.length:=by omega
    simp [aj,gC,aY]
   ·by_cases ar:0<l.sum<;>simp [aj,ar,gC]
 have lQ:t.op=5→l.length=1:=fun h=>by
  have:fa t.op=(1,1):=by rw [h];rfl
  rw [this] at hlen;simp only at hlen;omega
 by_cases bG:t.op=5
 ·have:=lQ bG
  match l,this with
  |[a],_=>
   have aB:=ak.1 (by omega) a (by simp)
   have e8:=xA (y:=a) (l:=[])
   generalize t.op=op at*
   subst bG
   rcases aB with rfl|rfl
   ·simp [iB,jR,c4,aK,e8,eQ,e7,gC,tr,dv]
   ·simp [iB,jR,c4,aK,e8,eQ,e7,gC,tr,dv]
 by_cases oG:t.op=18
 ·rw [sx oG] at hlen
  obtain ⟨a,b,c,rfl⟩:=sw (l:=l) (by simp only at hlen;omega)
  have aB:=ak.2 oG a rfl
  have e8:=xA (y:=a) (l:=[b,c])
  have a0:=z4 (x:=a) (y:=b) (l:=[c])
  have a9:=anY (x:=a) (y:=b) (z:=c) (l:=[])
  have an2:=av b (by simp)
  have an3:=av c (by simp)
  generalize t.op=op at*
  subst oG
  rcases aB with rfl|rfl
  ·simp [iB,jR,c4,aK,e8,a0,a9,eQ,e7,an3]
  ·simp [iB,jR,c4,aK,e8,a0,a9,eQ,e7,an2]
 rw [ai (by omega)] at hlen
 obtain ⟨a,b,rfl⟩:=oC (l:=l) (by simp only at hlen;omega)
 have e8:=xA (y:=a) (l:=[b])
 have a0:=z4 (x:=a) (y:=b) (l:=[])
 have WT:=av a (by simp)
 have uE:=av b (by simp)
 have N2:=(ik a).1 WT
 have WU:=(ik b).1 uE
 have dG:=Ij n a b (by omega) (by omega)
 have cx:=Ij n a (-b) (by omega) (by omega)
 have cY:=anX n a b WT uE
 have N3:IntKind.i64.wrap (-b)=-b:=wrap64 _ (by omega) (by omega)
 have hK:a+-b=a-b:=by omega
 have ag:∀p:Int×Bool,(extP 0 (e7 p))=some (J (if p.2 then p.1 else 0))∧(extP 1 (e7 p))=some (au p.2):=by
  intro p;obtain ⟨v,o⟩:=p;cases o<;>simp [e7]
 have aN:∀p:Int×Bool,D.aO [J (if p.2 then p.1 else 0),au p.2]=e7 p:=by
  intro p;obtain ⟨v,o⟩:=p;cases o<;>simp [e7]
 rw [hK] at cx
 rw [WR] at dG cx cY
 by_cases kI:t.op=17
 ·obtain ⟨br,bo⟩:=hm kI b rfl
  have e9:=Ek (a:=a) br
  have Em:b≠0:=by omega
  have kB:binP false .add (J (a.tmod b)) (J b)=some (J (a.tmod b+b)):=ec (by omega) (by omega)
  have jY:=Ek (a:=a.tmod b+b) br
  have eS:dv ((a.tmod b+b).tmod b)=true:=(ik _).2 (by omega)
  have aS:binP false .rem (J a) (J b)=some (J (a.tmod b)):=Bu Em
  have aV:binP false .rem (J (a.tmod b+b)) (J b)=some (J ((a.tmod b+b).tmod b)):=Bu Em
  generalize t.op=op at*
  subst kI
  simp [iB,jR,c4,aK,e8,a0,eQ,e7,aS,aV,kB,eS]
 have aj:t.op=8∨t.op=9∨t.op=10∨t.op=11∨t.op=12∨t.op=13∨t.op=14∨t.op=15∨t.op=16:=by omega
 have an4:t.op=8→(b=0∨b=1):=fun h=>ak.1 (by omega) b (by simp)
 generalize t.op=op at*
 rcases aj with rfl|rfl|rfl|rfl|rfl|rfl|rfl|rfl|rfl
 ·rcases an4 rfl with rfl|rfl
  ·by_cases pY:a=0
   ·simp [iB,jR,c4,aK,e8,a0,eQ,e7,gC,pY,xA,z4]
   ·have En:(a==0)=false:=by simpa using pY
    simp [iB,jR,c4,aK,e8,a0,eQ,e7,gC,pY,En,xA,z4]
  ·by_cases pY:a=0
   ·simp [iB,jR,c4,aK,e8,a0,eQ,e7,gC,pY,xA,z4]
   ·have En:(a==0)=false:=by simpa using pY
    simp [iB,jR,c4,aK,e8,a0,eQ,e7,gC,pY,En,xA,z4]
 ·simp [iB,jR,c4,aK,e8,a0,eQ,e7,gC]
 ·simp [iB,jR,c4,aK,e8,a0,eQ,e7,gC]
 ·simp [iB,jR,c4,aK,e8,a0,eQ,e7,gC]
 ·simp [iB,jR,c4,aK,e8,a0,eQ,e7,gC]
 ·simp [iB,jR,c4,aK,e8,a0,eQ,e7,gC]
 ·simp [iB,jR,c4,aK,e8,a0,eQ,dG,ag]
  rw [←aN]
 ·simp [iB,jR,c4,aK,e8,a0,eQ,N3,cx,ag]
  rw [←aN]
 ·simp [iB,jR,c4,aK,e8,a0,eQ,cY,ag]
  cases bL:dv (a*b)<;>simp [e7]
def k7(vs:List V)(s nn:List Int)(t:Tm):Option Nat:=if(if t.op=4 then nn else s).length=vs.length then dC vs t.name else none
theorem an5{vs:List V}{s nn:List Int}{t:Tm}{i:Nat}(h:k7 vs s nn t=some i):dC vs t.name=some i∧(if t.op=4 then nn else s).length=vs.length:=by
 unfold k7 at h
 by_cases aj:(if t.op=4 then nn else s).length=vs.length
 ·rw [if_pos aj] at h;exact ⟨h,aj⟩
 ·rw [if_neg aj] at h;cases h
def iZ(vs:List V)(s nn:List Int)(t:Tm):Int×Bool:=
 if t.op≤2 then(t.num,true)
 else match k7 vs s nn t with
  |none=>(0,false)
  |some i=>match vs[i]?,(if t.op=4 then nn else s)[i]? with
   |some v,some x=>if v.bool then(tr (x !=0),true) else(x,dv x)
   |_,_=>(0,false)
mutual
def dO(vs:List V)(s nn:List Int):Tm→Int×Bool
 | .mk o n a b ks=>if o≤4 then iZ vs s nn (.mk o n a b ks) else match fT vs s nn ks with
  |some l=>eQ o l
  |none=>(0,false)
def fT(vs:List V)(s nn:List Int):List Tm→Option (List Int)
 |[]=>some []
 |t::r=>if(dO vs s nn t).2 then match fT vs s nn r with
   |some l=>some ((dO vs s nn t).1::l)
   |none=>none
  else none
end
theorem oH(vs:List V)(s nn:List Int)(t:Tm):dO vs s nn t=if t.op≤4 then iZ vs s nn t else match fT vs s nn t.kids with
  |some l=>eQ t.op l
  |none=>(0,false):=by cases t;rw [dO];rfl
mutual
def steps:Tm→Bool
 | .mk o _ _ _ ks=>o==4||m7 ks
def m7:List Tm→Bool
 |[]=>false
 |t::r=>steps t||m7 r
end
theorem Iq(t:Tm):steps t=(t.op==4||m7 t.kids):=by cases t;rw [steps];rfl
theorem WV:∀{l:List Tm} {t:Tm},t∈l→m7 l=false→steps t=false
 |a::r,t,h,az=>by
  rw [m7,Bool.or_eq_false_iff] at az
  rcases List.mem_cons.1 h with rfl|h
  ·exact az.1
  ·exact WV h az.2
theorem N4(b:Bool):dv (tr b)=true:=by cases b<;>rfl
def z6(p:Int×Bool):Prop:=p.2=true→dv p.1=true
theorem q8{c:Prop}[Decidable c]{p q:Int×Bool}(aY:z6 p)(bL:c∨z6 q):z6 (if c then p else q):=by
 split
 ·exact aY
 ·exact bL.resolve_left (by assumption)
theorem xB(b:Bool):z6 (tr b,true):=fun _=>N4 b
theorem Eo(v:Int):z6 (v,dv v):=fun h=>h
theorem an6{op:Int}{l:List Int}:z6 (eQ op l):=by
 unfold eQ
 refine q8 (xB _) (.inr (q8 (xB _) (.inr ?_)))
 match l with
 |[]=>intro h;cases h
 |[a]=>exact Eo _
 |[a,b,c]=>exact Eo _
 |a::b::c::d::r=>intro h;cases h
 |[a,b]=>
  refine q8 (xB _) (.inr (q8 (xB _) (.inr (q8 (xB _) (.inr (q8 (xB _) (.inr (q8 (xB _) (.inr (q8 (Eo _) (.inr (q8 (Eo _) (.inr (q8 ?_ (.inr (Eo _))))))))))))))))
  by_cases h:dv (a*b)=true
  ·rw [if_pos h];exact fun _=>h
  ·rw [if_neg h];intro h;cases h
theorem an7{vs:List V}{s nn:List Int}{t:Tm}(aM:Valid t)(h:(iZ vs s nn t).2=true):dv (iZ vs s nn t).1=true:=by
 have aI:=aM.num
 unfold iZ at*
 by_cases ae:t.op≤2
 ·rw [if_pos ae];exact (ik _).2 (by simp only;omega)
 rw [if_neg ae] at*
 cases af:k7 vs s nn t with
 |none=>simp [af] at h
 |some i=>
  rw [af] at h
  simp only at h⊢
  cases hw:vs[i]? with
  |none=>rw [hw] at h;cases h
  |some v=>
   cases ag:((if t.op=4 then nn else s)[i]?) with
   |none=>rw [hw,ag] at h;cases h
   |some x=>
    rw [hw,ag] at h
    simp only at h⊢
    by_cases ak:v.bool=true
    ·rw [if_pos ak];exact N4 _
    ·rw [if_neg ak] at*;exact h
theorem WW{vs:List V}{s nn:List Int}{t:Tm}(aM:Valid t)(h:(dO vs s nn t).2=true):dv (dO vs s nn t).1=true:=by
 rw [oH] at*
 by_cases aZ:t.op≤4
 ·rw [if_pos aZ] at*;exact an7 aM h
 ·rw [if_neg aZ] at*
  split at h
  ·rename_i l aq;exact an6 h
  ·cases h
end Go.Am
namespace Go.Am
set_option linter.unusedVariables false
set_option linter.unusedSimpArgs false
def uv(v:Int):Prop:=v=0∨v=1
theorem Ep(b:Bool):uv (tr b):=by cases b<;>simp [tr,uv]
theorem z7(lo af:Int):(fS lo af).1.b=false:=by unfold fS;split<;>rfl
theorem an8(op:Int)(a b:Y):(m5 op a b).1.b=false:=by unfold m5;split<;>(try split)<;>exact z7 _ _
theorem N5(vs:List V)(nx:Bool)(s nn:List Int):∀{ks:List Tm} {l:List Int},(dn vs nx ks).2=0→fT vs s nn ks=some l→l.length=ks.length∧∀(i:Nat) (y:Y) (v:Int),(dn vs nx ks).1[i]?=some y→l[i]?=some v→
  ∃k,ks[i]?=some k∧(dg vs nx k).2=0∧y=(dg vs nx k).1∧(dO vs s nn k).2=true∧v=(dO vs s nn k).1
 |[],l,_,aM=>by cases aM;exact ⟨rfl,by intro i y v _ h;simp at h⟩
 |k::r,l,h,aM=>by
  rw [dn] at*
  rw [fT] at aM
  by_cases ad:(dg vs nx k).2=0
  case neg=>rw [if_pos ad] at h;exact absurd h ad
  have dw:¬(dg vs nx k).2≠0:=by simpa using ad
  rw [if_neg dw] at h⊢
  by_cases ae:(dn vs nx r).2=0
  case neg=>rw [if_pos ae] at h;exact absurd h ae
  have fW:¬(dn vs nx r).2≠0:=by simpa using ae
  rw [if_neg fW] at h⊢
  by_cases ay:(dO vs s nn k).2=true
  case neg=>rw [if_neg ay] at aM;cases aM
  rw [if_pos ay] at aM
  cases aZ:fT vs s nn r with
  |none=>rw [aZ] at aM;cases aM
  |some oO=>
   rw [aZ] at aM
   cases aM
   obtain ⟨a0,a9⟩:=N5 vs nx s nn ae aZ
   refine ⟨by simp [a0],?_⟩
   intro i y v aN hw
   cases i with
   |zero=>simp at aN hw;exact ⟨k,rfl,ad,aN.symm,ay,hw.symm⟩
   |succ i=>simpa using a9 i y v (by simpa using aN) (by simpa using hw)
theorem Ir{t:Tm}{l:List Y}(h:(fC t l).2=0)(ad:5≤t.op∧t.op≤9):l.all Y.b=true:=by
 unfold fC at h
 rw [if_pos ad] at h
 by_cases aj:l.all Y.b=true
 ·exact aj
 ·rw [if_neg aj] at h;cases h
theorem N6{t:Tm}{a b c:Y}(h:(fC t [a,b,c]).2=0)(ad:¬(5≤t.op∧t.op≤9)):a.b=true∧b.b=c.b∧((fC t [a,b,c]).1.b=true→b.b=true):=by
 unfold fC at*
 rw [if_neg ad] at*
 simp only at h⊢
 by_cases aj:(!a.b||(b.b !=c.b))=true
 ·rw [if_pos aj] at h;cases h
 rw [if_neg aj] at*
 refine ⟨by cases aB:a.b<;>simp_all,by cases ak:b.b<;>cases Ft:c.b<;>simp_all,?_⟩
 by_cases ak:b.b=true
 ·exact fun _=>ak
 ·rw [if_neg ak,z7];intro h;cases h
theorem WX{t:Tm}{a b:Y}(h:(fC t [a,b]).2=0)(ad:t.op=17){k:Tm}(ai:t.kids[1]?=some k):k.op=1∧1≤k.num:=by
 unfold fC at h
 rw [if_neg (by omega)] at h
 simp only at h
 rw [if_neg (by omega)] at h
 by_cases aj:(a.b||b.b)=true
 ·rw [if_pos aj] at h;cases h
 rw [if_neg aj,if_neg (by omega),if_pos ad,ai] at h
 simp only at h
 by_cases ax:k.op≠1∨k.num<1
 ·rw [if_pos ax] at h;cases h
 ·omega
theorem an9{t:Tm}{a b:Y}(ad:14≤t.op∧t.op≤17):(fC t [a,b]).1.b=false:=by
 unfold fC
 rw [if_neg (by omega)]
 simp only
 rw [if_neg (by omega)]
 split
 ·rfl
 rw [if_neg (by omega)]
 split
 ·split
  ·split
   ·rfl
   ·exact z7 _ _
  ·rfl
 ·exact an8 _ _ _
theorem aoa{vs:List V}{nx:Bool}{s nn:List Int}{t:Tm}(aM:Valid t)(h:(iY vs nx t).1.b=true)(av:(iZ vs s nn t).2=true):uv (iZ vs s nn t).1:=by
 have aI:=aM.num
 unfold iY at h
 unfold iZ at*
 by_cases ad:t.op=1
 ·rw [if_pos ad,z7] at h;cases h
 rw [if_neg ad] at h
 by_cases ae:t.op=2
 ·rw [if_pos (by omega)];unfold uv;simp only;omega
 rw [if_neg ae] at h
 have dj:=aM.op
 rw [if_neg (by omega)] at*
 cases af:k7 vs s nn t with
 |none=>rw [af] at av;cases av
 |some i=>
  rw [(an5 af).1] at h
  rw [af] at av
  simp only at h av⊢
  by_cases ay:t.op=4∧nx=false
  ·rw [if_pos ay] at h;cases h
  rw [if_neg ay] at h
  cases hw:vs[i]? with
  |none=>rw [hw] at av;cases av
  |some v=>
   rw [hw] at h av
   simp only at h
   by_cases ak:v.bool=true
   ·cases ag:((if t.op=4 then nn else s)[i]?) with
    |none=>rw [ag] at av;cases av
    |some x=>simp only;rw [if_pos ak];exact Ep _
   ·rw [if_neg ak,z7] at h;cases h
theorem WY(vs:List V)(nx:Bool)(s nn:List Int)(t:Tm):Valid t→(dg vs nx t).2=0→(dg vs nx t).1.b=true→(dO vs s nn t).2=true→uv (dO vs s nn t).1:=by
 refine Tm.ind (P:=fun t=>Valid t→(dg vs nx t).2=0→(dg vs nx t).1.b=true→(dO vs s nn t).2=true→uv (dO vs s nn t).1) ?_ t
 intro t ih aM h ak av
 rw [mc] at h ak
 rw [oH] at av⊢
 by_cases aZ:t.op≤4
 ·rw [if_pos aZ] at*;exact aoa aM ak av
 rw [if_neg aZ] at*
 by_cases ar:(dn vs nx t.kids).2=0
 case neg=>rw [if_pos ar] at h;exact absurd h ar
 rw [if_neg (by simpa using ar)] at h ak
 cases aq:fT vs s nn t.kids with
 |none=>rw [aq] at av;cases av
 |some l=>
  rw [aq] at av
  simp only at av⊢
  obtain ⟨a0,a9⟩:=N5 vs nx s nn ar aq
  obtain ⟨bH,_⟩:=z1 vs nx t.kids ar
  have dj:=aM.op
  have hlen:=aM.len
  have ai:=ur (op:=t.op)
  have sx:=xy (op:=t.op)
  unfold eQ
  by_cases ch:t.op=6
  ·rw [if_pos ch];exact Ep _
  rw [if_neg ch]
  by_cases fi:t.op=7
  ·rw [if_pos fi];exact Ep _
  rw [if_neg fi]
  by_cases bG:t.op=5
  ·have:fa t.op=(1,1):=by rw [bG];rfl
   rw [this] at hlen
   match l,a0,a9 with
   |[a],a0,a9=>
    have ft:=Ir h (by omega)
    have:0<(dn vs nx t.kids).1.length:=by simp at a0;omega
    obtain ⟨k,br,bo,bT,dd,dE⟩:=a9 0 _ a (List.getElem?_eq_getElem this) rfl
    have WZ:=List.all_eq_true.1 ft _ (List.getElem_mem this)
    rw [bT] at WZ
    have:=ih k (List.mem_of_getElem? br) (aM.er (List.mem_of_getElem? br)) bo WZ dd
    rw [←dE] at this
    simp only
    rcases this with h|h<;>subst h<;>simp [uv]
   |[],a0,_=>simp at a0;simp only at hlen;omega
   |_::_::_,a0,_=>simp at a0;simp only at hlen;omega
  by_cases oG:t.op=18
  ·rw [sx oG] at hlen
   have aob:l.length=3:=by simp only at hlen;omega
   obtain ⟨a,b,c,rfl⟩:=sw aob
   obtain ⟨Er,z8,N7,aN⟩:=sw (l:=(dn vs nx t.kids).1) (by simp only at hlen;omega)
   rw [aN] at h ak a9
   obtain ⟨N8,xC,W0⟩:=N6 h (by omega)
   have W1:=W0 ak
   have get:∀(i:Nat) (y:Y) (v:Int),[Er,z8,N7][i]?=some y→[a,b,c][i]?=some v→y.b=true→uv v:=by
    intro i y v aN hw aoc
    obtain ⟨k,br,bo,bT,dd,dE⟩:=a9 i y v aN hw
    rw [dE]
    exact ih k (List.mem_of_getElem? br) (aM.er (List.mem_of_getElem? br)) bo (by rw [←bT];exact aoc) dd
   simp only
   by_cases aB:a=1
   ·rw [if_pos aB];exact get 1 z8 b rfl rfl W1
   ·rw [if_neg aB];exact get 2 N7 c rfl rfl (by rw [←xC];exact W1)
  rw [ai (by omega)] at hlen
  obtain ⟨a,b,rfl⟩:=oC (l:=l) (by simp only at hlen;omega)
  obtain ⟨Er,z8,aN⟩:=oC (l:=(dn vs nx t.kids).1) (by simp only at hlen;omega)
  rw [aN] at h ak
  have k8:t.op≤13:=by
   refine Classical.byContradiction fun aj=>?_
   rw [an9 (by omega)] at ak
   cases ak
  simp only
  have aj:t.op=8∨t.op=9∨t.op=10∨t.op=11∨t.op=12∨t.op=13:=by omega
  rcases aj with e|e|e|e|e|e<;>simp only [e]<;>exact Ep _
theorem W2{vs:List V}{nx:Bool}{s nn:List Int}{t:Tm}{l:List Int}(aM:Valid t)(h:(dg vs nx t).2=0)(bG:5≤t.op)(aq:fT vs s nn t.kids=some l):
  l.length=t.kids.length∧(∀v∈l,dv v=true)∧((t.op≤9→∀v∈l,v=0∨v=1)∧(t.op=18→∀v,l[0]?=some v→v=0∨v=1))∧(t.op=17→∀v,l[1]?=some v→1≤v∧v≤255):=by
 rw [mc,if_neg (by omega)] at h
 by_cases ar:(dn vs nx t.kids).2=0
 case neg=>rw [if_pos ar] at h;exact absurd h ar
 rw [if_neg (by simpa using ar)] at h
 obtain ⟨a0,a9⟩:=N5 vs nx s nn ar aq
 obtain ⟨bH,_⟩:=z1 vs nx t.kids ar
 have dj:=aM.op
 have hlen:=aM.len
 have at_:∀(i:Nat) (v:Int),l[i]?=some v→∃k y,t.kids[i]?=some k∧(dn vs nx t.kids).1[i]?=some y∧(dg vs nx k).2=0∧y=(dg vs nx k).1∧(dO vs s nn k).2=true∧v=(dO vs s nn k).1:=by
  intro i v af
  have bJ:i<(dn vs nx t.kids).1.length:=by have:=(List.getElem?_eq_some_iff.1 af).1;omega
  obtain ⟨k,br,bo,bT,dd,dE⟩:=a9 i _ v (List.getElem?_eq_getElem bJ) af
  exact ⟨k,_,br,List.getElem?_eq_getElem bJ,bo,bT,dd,dE⟩
 refine ⟨a0,?_,⟨?_,?_⟩,?_⟩
 ·intro v hm
  obtain ⟨i,af⟩:=List.mem_iff_getElem?.1 hm
  obtain ⟨k,y,br,bo,bT,dd,dE,eo⟩:=at_ i v af
  rw [eo]
  exact WW (aM.er (List.mem_of_getElem? br)) dE
 ·intro jg v hm
  obtain ⟨i,af⟩:=List.mem_iff_getElem?.1 hm
  obtain ⟨k,y,br,bo,bT,dd,dE,eo⟩:=at_ i v af
  have ft:=List.all_eq_true.1 (Ir h ⟨bG,jg⟩) y (List.mem_of_getElem? bo)
  rw [eo]
  exact WY vs nx s nn k (aM.er (List.mem_of_getElem? br)) bT (by rw [←dd];exact ft) dE
 ·intro oG v af
  obtain ⟨k,y,br,bo,bT,dd,dE,eo⟩:=at_ 0 v af
  rw [xy oG] at hlen
  obtain ⟨Er,z8,N7,aN⟩:=sw (l:=(dn vs nx t.kids).1) (by simp only at hlen;omega)
  rw [aN] at h bo
  have aH:=(N6 h (by omega)).1
  cases bo
  rw [eo]
  exact WY vs nx s nn k (aM.er (List.mem_of_getElem? br)) bT (by rw [←dd];exact aH) dE
 ·intro kI v af
  obtain ⟨k,y,br,bo,bT,dd,dE,eo⟩:=at_ 1 v af
  rw [ur (by omega)] at hlen
  obtain ⟨Er,z8,aN⟩:=oC (l:=(dn vs nx t.kids).1) (by simp only at hlen;omega)
  rw [aN] at h
  obtain ⟨N8,xC⟩:=WX h kI br
  have Az:=(aM.er (List.mem_of_getElem? br)).num
  have:dO vs s nn k=(k.num,true):=by rw [oH,if_pos (by omega)];unfold iZ;rw [if_pos (by omega)]
  rw [eo,this]
  exact ⟨xC,by simp only;omega⟩
end Go.Am
namespace Go.Am
set_option linter.unusedVariables false
set_option linter.unusedSimpArgs false
def fD(b:Bool)(l:List Int):D:=b3 1 b (l.map fun x=>[J x])
@[simp] theorem at1 (b:Bool) (l:List Int):lenP (fD b l)=some (J l.length):=by simp [fD]
@[simp] theorem aod (b:Bool) (l:List Int):bC (fD b l)=true:=by unfold fD b3;split<;>rfl
theorem W3{b:Bool}{l:List Int}{i:Nat}{x:Int}(h:l[i]?=some x):a2 1 (fD b l) (J (i:Int))=some [J x]:=by
 have ca:l≠[]:=by rintro rfl;simp at h
 have:fD b l= .aD 1 (l.map fun x=>[J x]):=by unfold fD b3;rw [if_neg (by simp [ca])]
 rw [this];simp [h]
theorem W4(l:List Int):fD false l=ck l:=by simp [fD,b3,ck]
theorem Is:fD true []=cI:=rfl
variable{bn:Bool}
theorem N9{k:Nat}:cH (k+1) (J 0)=some 0:=by rw [Lf (by omega) (by omega)];rfl
theorem W5{k:Nat}:cH (k+2) (J 1)=some 1:=by rw [Lf (by omega) (by omega)];rfl
theorem aoe{k:Nat}:cH (k+3) (J 2)=some 2:=by rw [Lf (by omega) (by omega)];rfl
theorem aof{x:Int}(ad:x≠0)(ae:x.natAbs≤9007199254740992):binP false .quo (J 9007199254740992) (J (x.natAbs:Int))=some (J ((9007199254740992/x.natAbs:Nat):Int)):=by
 have ag:(x.natAbs:Int)≠0:=by omega
 rw [Sd ag]
 have e:(9007199254740992:Int).tdiv (x.natAbs:Int)=((9007199254740992/x.natAbs:Nat):Int):=by
  rw [Int.tdiv_eq_ediv_of_nonneg (by omega)];rfl
 have ay:=Nat.div_le_self 9007199254740992 x.natAbs
 rw [e]
 generalize 9007199254740992/x.natAbs=q at*
 rw [wrap64 _ (by omega) (by omega)]
theorem aog(a b:Int)(h:a≠0):(b.natAbs:Int)>((9007199254740992/a.natAbs:Nat):Int)↔dv (a*b)=false:=by
 have aY:0<a.natAbs:=by omega
 have ad:dv (a*b)=false↔9007199254740992<a.natAbs*b.natAbs:=by
  rw [←Int.natAbs_mul]
  have:=ik (a*b)
  constructor
  ·intro h;refine Classical.byContradiction fun aj=>?_
   rw [this.2 (by omega)] at h;cases h
  ·intro h;cases bL:dv (a*b) with
   |false=>rfl
   |true=>exact absurd (this.1 bL) (by omega)
 rw [ad,Nat.mul_comm,←Nat.div_lt_iff_lt_mul aY]
 omega
set_option maxHeartbeats 2000000 in
theorem aoh(tc:List D→Option D)(n:Nat)(vs:List V)(s nn:List Int)(t:Tm)(l:List Int)(aM:Valid t)(bJ:l.length=t.kids.length)(dj:5≤t.op)(av:∀v∈l,dv v=true)
  (ak:(t.op≤9→∀v∈l,v=0∨v=1)∧(t.op=18→∀v,l[0]?=some v→v=0∨v=1)) (hm:t.op=17→∀v,l[1]?=some v→1≤v∧v≤255)
  (hq:bk (tZ tc n) n [a1 vs,ck s,fD bn nn,J 0,J 0,J t.op,J t.num,aJ t.name,b3 4 t.nl (Tm.rows t.kids),.aD 1 []]=
   some (.inl [J (if t.op=6∨t.op=7 then l.sum else 0),J t.op,J t.num,aJ t.name,b3 4 t.nl (Tm.rows t.kids),ck l])):
  ke tc n (a1 vs) t.d (ck s) (fD bn nn)=some (.aO [J (eQ t.op l).1,au (eQ t.op l).2]):=by
 have pV:=aM.op
 have hlen:=aM.len
 have aK:=Tm.mX t
 have bb:=Tm.pf t
 have bp:=Tm.qw t
 have bs:=Tm.pg t
 have c4:=Tm.lD t
 have ai:=ur (op:=t.op)
 have sx:=xy (op:=t.op)
 have Ej:=aM.z2
 have gC:=WN n
 have m8:=WO n
 have es:∀l:List Int,esD (ck l)=l.map fun v=>[J v]:=fun _=>rfl
 have Es:∀b:Bool,dv (tr b)=true:=N4
 by_cases pX:t.op=6∨t.op=7
 ·generalize t.op=op at*
  rcases pX with rfl|rfl
  ·simp [ke,c4,aK,bb,bp,bs,hq,es,gC,m8,eQ,Es]
   rfl
  ·simp [ke,c4,aK,bb,bp,bs,hq,es,gC,m8,eQ,Es]
 by_cases bG:t.op=5
 ·have:fa t.op=(1,1):=by rw [bG];rfl
  rw [this] at hlen
  have lQ:l.length=1:=by simp only at hlen;omega
  match l,lQ with
  |[a],_=>
   have aB:=ak.1 (by omega) a (by simp)
   have aS:binP false .sub (J 1) (J a)=some (J (1-a)):=lC (by omega) (by omega)
   generalize t.op=op at*
   subst bG
   simp [ke,c4,aK,bb,bp,bs,hq,es,m8,eQ,N9,aS]
 by_cases oG:t.op=18
 ·rw [sx oG] at hlen
  obtain ⟨a,b,c,rfl⟩:=sw (l:=l) (by simp only at hlen;omega)
  generalize t.op=op at*
  subst oG
  by_cases aB:a=1<;>simp [ke,c4,aK,bb,bp,bs,hq,es,m8,eQ,N9,W5,aoe,aB]
 rw [ai (by omega)] at hlen
 obtain ⟨a,b,rfl⟩:=oC (l:=l) (by simp only at hlen;omega)
 have N2:=(ik a).1 (av a (by simp))
 have WU:=(ik b).1 (av b (by simp))
 have kz:cH 2 (J 0)=some 0:=N9
 have lu:cH 2 (J 1)=some 1:=W5
 by_cases kI:t.op=17
 ·obtain ⟨br,bo⟩:=hm kI b rfl
  have e9:=Ek (a:=a) br
  have Em:b≠0:=by omega
  have kB:binP false .add (J (a.tmod b)) (J b)=some (J (a.tmod b+b)):=ec (by omega) (by omega)
  have aS:binP false .rem (J a) (J b)=some (J (a.tmod b)):=Bu Em
  have aV:binP false .rem (J (a.tmod b+b)) (J b)=some (J ((a.tmod b+b).tmod b)):=Bu Em
  generalize t.op=op at*
  subst kI
  simp [ke,c4,aK,bb,bp,bs,hq,es,m8,eQ,kz,lu,aS,aV,kB]
 by_cases eC:t.op=16
 ·have W6:=WQ n a (by omega)
  have W7:=WQ n b (by omega)
  have It:=aog a b
  have at2:=WL N2 WU
  generalize t.op=op at*
  subst eC
  by_cases aB:a=0
  ·subst aB
   have aS:binP false .mul (J 0) (J b)=some (J 0):=by rw [Gp (by omega) (by omega),Int.zero_mul]
   simp [ke,c4,aK,bb,bp,bs,hq,es,m8,eQ,kz,lu,aS,show dv 0=true from rfl]
  ·have bL:=aof aB N2
   have It:=It aB
   have A4:(a==0)=false:=by simpa using aB
   generalize 9007199254740992/a.natAbs=q at*
   by_cases a6:dv (a*b)=true
   ·have ad:¬((b.natAbs:Int)>(q:Int)):=fun h=>by rw [It.1 h] at a6;cases a6
    have dw:decide ((b.natAbs:Int)>(q:Int))=false:=decide_eq_false ad
    have at3:=(ik _).1 a6
    have aS:binP false .mul (J a) (J b)=some (J (a*b)):=Gp (by omega) (by omega)
    have aV:binP false .gtr (J (b.natAbs:Int)) (J (q:Int))=some (au false):=by rw [l3,dw]
    simp [ke,c4,aK,bb,bp,bs,hq,es,m8,eQ,kz,lu,W6,W7,bL,aV,aS,a6,aB]
   ·have Et:dv (a*b)=false:=by simpa using a6
    have dw:decide ((b.natAbs:Int)>(q:Int))=true:=decide_eq_true (It.2 Et)
    have aV:binP false .gtr (J (b.natAbs:Int)) (J (q:Int))=some (au true):=by rw [l3,dw]
    simp [ke,c4,aK,bb,bp,bs,hq,es,m8,eQ,kz,lu,W6,W7,bL,aV,Et,aB]
 have aj:t.op=8∨t.op=9∨t.op=10∨t.op=11∨t.op=12∨t.op=13∨t.op=14∨t.op=15:=by omega
 have jW:binP false .add (J a) (J b)=some (J (a+b)):=ec (by omega) (by omega)
 have aoi:binP false .sub (J a) (J b)=some (J (a-b)):=lC (by omega) (by omega)
 have at4:∀x y:Int,nP n [au (x==y)]=some (J (tr (x==y))):=fun _ _=>gC _
 generalize t.op=op at*
 rcases aj with rfl|rfl|rfl|rfl|rfl|rfl|rfl|rfl
 ·by_cases pY:a=0
  ·simp [ke,c4,aK,bb,bp,bs,hq,es,gC,m8,eQ,Es,kz,lu,pY]
  ·have En:(a==0)=false:=by simpa using pY
   simp [ke,c4,aK,bb,bp,bs,hq,es,gC,m8,eQ,Es,kz,lu,pY,En]
 all_goals simp [ke,c4,aK,bb,bp,bs,hq,es,gC,m8,eQ,Es,kz,lu,jW,aoi]
end Go.Am
namespace Go.Am
set_option linter.unusedVariables false
set_option linter.unusedSimpArgs false
variable{bn:Bool}
theorem W8{a b:Nat}(h:a+b≤1000):c7 (a+b) 8=true:=gO (by omega) (by omega)
theorem W9{vs:List V}{nx:Bool}{t:Tm}(h:(iY vs nx t).2=0)(ay:3≤t.op):∃i,dC vs t.name=some i:=by
 unfold iY at h
 rw [if_neg (by omega),if_neg (by omega)] at h
 cases af:dC vs t.name with
 |none=>rw [af] at h;cases h
 |some i=>exact ⟨i,rfl⟩
theorem Oa{vs:List V}{nx:Bool}:∀{l:List Tm},(dn vs nx l).2=0→∀k∈l,(dg vs nx k).2=0
 |[],_,k,ai=>by cases ai
 |t::r,h,k,ai=>by
  rw [dn] at h
  by_cases ad:(dg vs nx t).2=0
  case neg=>rw [if_pos ad] at h;exact absurd h ad
  rw [if_neg (by simpa using ad)] at h
  by_cases ae:(dn vs nx r).2=0
  case neg=>rw [if_pos ae] at h;exact absurd h ae
  rcases List.mem_cons.1 ai with rfl|ai
  ·exact ad
  ·exact Oa ae k ai
theorem Eu{vs:List V}{nx:Bool}{t k:Tm}(aM:Valid t)(h:(dg vs nx t).2=0)(ai:k∈t.kids):(dg vs nx k).2=0:=by
 rw [mc] at h
 by_cases aZ:t.op≤4
 ·rw [aM.leaf aZ] at ai;cases ai
 rw [if_neg aZ] at h
 by_cases ar:(dn vs nx t.kids).2=0
 ·exact Oa ar k ai
 ·rw [if_pos ar] at h;exact absurd h ar
theorem Ob{vs:List V}{i:Nat}{l:List Int}(h:i<vs.length)(aq:l.length=vs.length):∃x,l[i]?=some x:=⟨_,List.getElem?_eq_getElem (by omega)⟩
@[simp] theorem at5 (p:List Int) (x:Int):D.aD 1 (esD (ck p)++[[J x]])=ck (p++[x]):=by simp [ck]
@[simp] theorem at6 (p:List Int):(esD (ck p)).length=p.length:=by simp [ck]
@[simp] theorem at7 (p:List Int):D.aD 1 (esD (ck p))=ck p:=rfl
theorem Xa(vs:List V)(nx:Bool)(s nn:List Int)(kG:vs.length<1000000000000)(az:s.length=vs.length):∀(n:Nat) (t:Tm),t.bd+200+vs.length<n→t.b2→Valid t→(dg vs nx t).2=0→(steps t=true→nn.length=vs.length)→
  pQ n [a1 vs,t.d,ck s,fD bn nn]=some (.aO [J (dO vs s nn t).1,au (dO vs s nn t).2])
 |0,t,h,_,_,_,_=>absurd h (Nat.not_lt_zero _)
 |n+1,t,aI,ba,aM,aE,gK=>by
  have dj:=aM.op
  have Ej:=aM.z2
  rw [oH]
  show ke (pQ n) n (a1 vs) t.d (ck s) (fD bn nn)=_
  by_cases aZ:t.op≤4
  ·rw [if_pos aZ]
   rw [mc,if_pos aZ] at aE
   have aK:=Tm.mX t
   have bb:=Tm.pf t
   have bp:=Tm.qw t
   have bs:=Tm.pg t
   have c4:=Tm.lD t
   have gC:=WN n
   have m8:=WO n
   by_cases ae:t.op≤2
   ·unfold iZ
    rw [if_pos ae]
    have aj:t.op=1∨t.op=2:=by omega
    generalize t.op=op at*
    rcases aj with rfl|rfl<;>simp [ke,c4,aK,bb,bp,bs]
   obtain ⟨i,af⟩:=W9 aE (by omega)
   obtain ⟨v,v1,v2,o8⟩:=uu af
   have ag:=NW n vs t.name (by omega) kG
   rw [af] at ag
   have hlen:(if t.op=4 then nn else s).length=vs.length:=by
    by_cases h:t.op=4
    ·rw [if_pos h];exact gK (by rw [Iq,h];rfl)
    ·rw [if_neg h];exact az
   have bS:k7 vs s nn t=some i:=by unfold k7;rw [if_pos hlen,af]
   obtain ⟨x,oI⟩:=Ob o8 hlen
   unfold iZ
   rw [if_neg ae,bS]
   simp only [v1,oI]
   have aj:t.op=3∨t.op=4:=by omega
   generalize t.op=op at*
   rcases aj with rfl|rfl
   ·simp only [show¬((3:Int)=4) by omega,if_false] at oI
    cases ak:v.bool<;>simp [ke,c4,aK,bb,bp,bs,ag,ij v1,v.sy,q7 oI,gC,m8,ak]
   ·simp only [if_true] at oI
    cases ak:v.bool<;>simp [ke,c4,aK,bb,bp,bs,ag,ij v1,v.sy,W3 oI,gC,m8,ak]
  rw [if_neg aZ]
  have aoj:∀k∈t.kids,steps k=true→nn.length=vs.length:=fun k ai h=>by
   refine gK ?_
   cases bL:m7 t.kids with
   |true=>rw [Iq,bL,Bool.or_true]
   |false=>rw [WV ai bL] at h;cases h
  have aq:=dr (f:=tZ (pQ n) n) t.kids (fun i (p:List Int)=>[a1 vs,ck s,fD bn nn,J (if t.op=6∨t.op=7 then p.sum else 0),J (i:Int),J t.op,J t.num,aJ t.name,b3 4 t.nl (Tm.rows t.kids),ck p])
   (fun r p=>match fT vs s nn r with
    |some l=>(Sum.inl [J (if t.op=6∨t.op=7 then(p++l).sum else 0),J t.op,J t.num,aJ t.name,b3 4 t.nl (Tm.rows t.kids),ck (p++l)]:List D⊕D)
    |none=> .inr (.aO [J 0,au false]))
   (fun i p=>p.length=i∧∀v∈p,dv v=true) ?_ ?_ n 0 [] ⟨rfl,by simp⟩ (by omega) (Nat.zero_le _)
  ·have bB:(J ((0:Nat):Int))=J 0:=rfl
   have aS:ck []= .aD 1 []:=rfl
   rw [bB,aS] at aq
   simp only [List.sum_nil,ite_self,List.drop_zero,List.nil_append] at aq
   cases iF:fT vs s nn t.kids with
   |none=>
    rw [iF] at aq
    have fp:(t.op==1)=false:=by simp;omega
    have g7:(t.op==2)=false:=by simp;omega
    have jq:(t.op==3)=false:=by simp;omega
    have oE:(t.op==4)=false:=by simp;omega
    simp [ke,fp,g7,jq,oE,aq]
   |some l=>
    rw [iF] at aq
    obtain ⟨a0,a9,bH,ei⟩:=W2 (nx:=nx) aM aE (by omega) iF
    exact aoh (pQ n) n vs s nn t l aM a0 (by omega) a9 bH ei aq
  ·intro p aY
   simp [tZ,fT]
  ·intro i a p aB af aY
   have hm:=List.mem_of_getElem? aB
   have bN:=Tm.hS hm
   have av:=Xa vs nx s nn kG az n a (by omega) (ba.er hm) (aM.er hm) (Eu aM aE hm) (aoj a hm)
   have eb:c7 (p.length+1) 8=true:=W8 (by omega)
   by_cases ar:(dO vs s nn a).2=true
   ·left
    have eS:=WW (aM.er hm) ar
    refine ⟨p++[(dO vs s nn a).1],?_,?_,by simp [aY.1],?_⟩
    ·have qd:=N1 p aY.2
     have oQ:=(ik _).1 eS
     have fb:binP false .add (J p.sum) (J (dO vs s nn a).1)=some (J (p.sum+(dO vs s nn a).1)):=ec (by omega) (by omega)
     by_cases pX:t.op=6∨t.op=7
     ·have aua:(if t.op=6 then true else decide (t.op=7))=true:=by rcases pX with h|h<;>simp [h]
      rcases pX with h|h
      ·simp [tZ,af,Tm.gb aB,av,ar,cf (bt:=false) (i:=i) (by omega),eb,h,fb]
      ·simp [tZ,af,Tm.gb aB,av,ar,cf (bt:=false) (i:=i) (by omega),eb,h,fb]
     ·have ch:¬t.op=6:=fun h=>pX (.inl h)
      have fi:¬t.op=7:=fun h=>pX (.inr h)
      simp [tZ,af,Tm.gb aB,av,ar,cf (bt:=false) (i:=i) (by omega),eb,ch,fi]
    ·rw [fT,if_pos ar]
     cases fT vs s nn (t.kids.drop (i+1)) with
     |none=>rfl
     |some l=>simp
    ·intro v kJ
     rcases List.mem_append.1 kJ with h|h
     ·exact aY.2 v h
     ·simp at h;rw [h];exact eS
   ·right
    rw [fT,if_neg ar]
    have Ev:(dO vs s nn a).2=false:=by simpa using ar
    simp [tZ,af,Tm.gb aB,av,Ev]
theorem aok{M:List (Value×D)}(h:j7 M){z:Value}{x:ByteArray}:lookP .string z false M (aJ x)=some (match getS M x with|some d=>d|none=>zeroD z):=by
 simp only [lookP,aJ,SB h]
 cases getS M x<;>rfl
theorem z9(p:Int×Bool):extP 0 (e7 p)=some (J (if p.2=true then p.1 else 0)):=by obtain ⟨v,o⟩:=p;cases o<;>simp [e7]
theorem Aa(p:Int×Bool):extP 1 (e7 p)=some (au p.2):=by obtain ⟨v,o⟩:=p;cases o<;>simp [e7]
theorem Ab(p:Int×Bool):D.aO [J (if p.2=true then p.1 else 0),au p.2]=e7 p:=by obtain ⟨v,o⟩:=p;cases o<;>simp [e7]
theorem aol(p:Int×Bool):(e7 p).flat=true:=by obtain ⟨v,o⟩:=p;cases o<;>rfl
theorem Xb(vs:List V)(nx:Bool)(s nn:List Int)(M:List (Value×D))(cY:Ih M vs)(kG:vs.length<1000000000000)(az:s.length=vs.length)(eS:∀v,v∈s∨v∈nn→-9223372036854775808≤v∧v≤9223372036854775807):∀(n:Nat) (t:Tm),t.bd+200<n→t.b2→Valid t→(dg vs nx t).2=0→
  sc n [t.d,ck s,.mp M,fD bn nn,a1 vs]=some [e7 (dO vs s nn t),ck s,.mp M,fD bn nn,a1 vs]
 |0,t,h,_,_,_=>absurd h (Nat.not_lt_zero _)
 |n+1,t,aI,ba,aM,aE=>by
  have dj:=aM.op
  have Ej:=aM.z2
  rw [oH]
  show sb (sc n) n [t.d,ck s,.mp M,fD bn nn,a1 vs]=_
  have aq:=dr (f:=Da (sc n) n) t.kids (fun i (p:List Int)=>[b3 4 t.nl (Tm.rows t.kids),J t.kids.length,J (i:Int),ck s,.mp M,fD bn nn,a1 vs,J t.op,J t.num,aJ t.name,b3 4 t.nl (Tm.rows t.kids),ck p])
   (fun r p=>match fT vs s nn r with
    |some l=>(Sum.inl [ck s,.mp M,fD bn nn,a1 vs,J t.op,J t.num,aJ t.name,b3 4 t.nl (Tm.rows t.kids),ck (p++l)]:List D⊕List D)
    |none=> .inr [.aO [J 0,au false],ck s,.mp M,fD bn nn,a1 vs])
   (fun i p=>p.length=i) ?_ ?_ n 0 [] rfl (by omega) (Nat.zero_le _)
  ·have bB:(J ((0:Nat):Int))=J 0:=rfl
   have aS:ck []= .aD 1 []:=rfl
   have Ac:D.aO [J 0,au false]=e7 (0,false):=rfl
   rw [bB,aS] at aq
   simp only [List.drop_zero,List.nil_append] at aq
   have aK:=Tm.mX t
   have bb:=Tm.pf t
   have bp:=Tm.qw t
   have bs:=Tm.pg t
   have c4:=Tm.lD t
   by_cases aZ:t.op≤4
   ·rw [if_pos aZ]
    rw [mc,if_pos aZ] at aE
    have ai:=aM.leaf aZ
    rw [ai] at aq
    have aom:((([]:List Tm).length:Nat):Int)=0:=rfl
    simp only [fT,List.append_nil,aom] at aq
    have aub:D.aD 1 []=ck []:=rfl
    have gC:=WM n
    by_cases ae:t.op≤2
    ·unfold iZ
     rw [if_pos ae]
     have aj:t.op=1∨t.op=2:=by omega
     generalize t.op=op at*
     rcases aj with rfl|rfl<;>simp [sb,c4,aK,bb,bp,bs,ai,aq,e7]
    obtain ⟨i,af⟩:=W9 aE (by omega)
    obtain ⟨v,v1,v2,o8⟩:=uu af
    have q4:=aok cY.1 (z:= .int .i64 0) (x:=t.name)
    rw [cY.2,af] at q4
    simp only [Option.map_some] at q4
    have qt:kU (.mp M)=some M:=rfl
    unfold iZ
    rw [if_neg ae]
    have aj:t.op=3∨t.op=4:=by omega
    have auc:(t.op==3||t.op==4)=true:=by rcases aj with h|h<;>simp [h]
    by_cases hlen:(if t.op=4 then nn else s).length=vs.length
    ·have bS:k7 vs s nn t=some i:=by unfold k7;rw [if_pos hlen,af]
     obtain ⟨x,oI⟩:=Ob o8 hlen
     have zW:=List.mem_of_getElem? oI
     rw [bS]
     simp only [v1,oI]
     have El:m6 (x+0) true=e7 (x,dv x):=by rw [WR,Int.add_zero]
     generalize t.op=op at*
     rcases aj with rfl|rfl
     ·simp only [show¬((3:Int)=4) by omega,if_false] at oI zW hlen
      have dG:=Ij n x 0 (eS x (.inl zW)) (by omega)
      rw [El] at dG
      cases ak:v.bool<;>simp [sb,c4,aK,bb,bp,bs,ai,aq,qt,q4,oF,fw,hlen,ij v1,v.sy,q7 oI,gC,ak,dG,z9,Aa,Ab]<;>(try exact Ab (x,dv x))<;>(try rfl)
     ·simp only [if_true] at oI zW hlen
      have dG:=Ij n x 0 (eS x (.inr zW)) (by omega)
      rw [El] at dG
      cases ak:v.bool<;>simp [sb,c4,aK,bb,bp,bs,ai,aq,qt,q4,oF,fw,hlen,ij v1,v.sy,W3 oI,gC,ak,dG,z9,Aa,Ab]<;>(try exact Ab (x,dv x))<;>(try rfl)
    ·have bS:k7 vs s nn t=none:=by unfold k7;rw [if_neg hlen]
     rw [bS]
     have kZ:t.op=4:=by
      refine aj.resolve_left fun h=>hlen ?_
      rw [if_neg (by omega)];exact az
     rw [if_pos kZ] at hlen
     generalize t.op=op at*
     subst kZ
     have ca:¬((nn.length:Int)=(vs.length:Int)):=by omega
     simp [sb,c4,aK,bb,bp,bs,ai,aq,qt,q4,oF,fw,hlen,ca]<;>(try rfl)
   ·rw [if_neg aZ]
    have fp:(t.op==1)=false:=by simp;omega
    have g7:(t.op==2)=false:=by simp;omega
    have jq:(t.op==3)=false:=by simp;omega
    have oE:(t.op==4)=false:=by simp;omega
    cases iF:fT vs s nn t.kids with
    |none=>
     rw [iF] at aq
     simp [sb,c4,aK,bb,bp,bs,aq]<;>(try rfl)
    |some l=>
     rw [iF] at aq
     obtain ⟨a0,a9,bH,ei⟩:=W2 (nx:=nx) aM aE (by omega) iF
     have aH:=an1 n t l aM a0 (by omega) a9 (by omega) bH ei
     simp [sb,c4,aK,bb,bp,bs,aq,fp,g7,jq,oE,aH,aol,z9,Aa,Ab]
  ·intro p aY
   simp [Da,fT]
  ·intro i a p aB af aY
   have hm:=List.mem_of_getElem? aB
   have bN:=Tm.hS hm
   have av:=Xb vs nx s nn M cY kG az eS n a (by omega) (ba.er hm) (aM.er hm) (Eu aM aE hm)
   have eb:c7 (p.length+1) 8=true:=W8 (by omega)
   by_cases ar:(dO vs s nn a).2=true
   ·left
    refine ⟨p++[(dO vs s nn a).1],?_,?_,by simp [aY]⟩
    ·simp [Da,af,Tm.gb aB,av,ar,cf (bt:=false) (i:=i) (by omega),eb,z9,Aa]
    ·rw [fT,if_pos ar]
     cases fT vs s nn (t.kids.drop (i+1)) with
     |none=>rfl
     |some l=>simp
   ·right
    rw [fT,if_neg ar]
    have Ev:(dO vs s nn a).2=false:=by simpa using ar
    simp [Da,af,Tm.gb aB,av,Ev,z9,Aa]
theorem Xc:∀(n:Nat) (t:Tm),t.bd<n→t.b2→pP n [t.d]=some (au (steps t))
 |0,t,h,_=>absurd h (Nat.not_lt_zero _)
 |n+1,t,aI,ba=>by
  have hlen:=ba.len
  rw [Iq]
  have aq:=dr (f:=DY (pP n) n) t.kids (fun i (_:Unit)=>[J (i:Int),J t.op,J t.num,aJ t.name,b3 4 t.nl (Tm.rows t.kids)])
   (fun r _=>if m7 r=true then(Sum.inr (au true):List D⊕D) else .inl []) (fun _ _=>True)
   (fun _ _=>by simp [DY,m7]) ?_ n 0 () trivial (by have:=t.jt;omega) (Nat.zero_le _)
  ·have bB:(J ((0:Nat):Int))=J 0:=rfl
   rw [bB] at aq
   simp only [List.drop_zero] at aq
   by_cases aZ:t.op=4
   ·simp [pP,HI,aZ]
   ·have oE:(t.op==4)=false:=by simpa using aZ
    cases az:m7 t.kids<;>simp [pP,HI,aZ,aq,az]
  ·intro i a _ aB af _
   have hm:=List.mem_of_getElem? aB
   have bN:=Tm.hS hm
   have av:=Xc n a (by omega) (ba.er hm)
   cases az:steps a
   ·left
    exact ⟨(),by simp [DY,af,Tm.gb aB,av,az,cf (bt:=false) (i:=i) (by omega)],by simp [m7,az],trivial⟩
   ·right
    simp [DY,af,Tm.gb aB,av,az,m7]
theorem Xd{vs:List V}{s nn:List Int}:∀{l:List Tm} {r:List Int},fT vs s nn l=some r→∀k∈l,(dO vs s nn k).2=true
 |[],_,_,k,ai=>by cases ai
 |t::q,r,h,k,ai=>by
  rw [fT] at h
  by_cases ad:(dO vs s nn t).2=true
  case neg=>rw [if_neg ad] at h;cases h
  rw [if_pos ad] at h
  cases ae:fT vs s nn q with
  |none=>rw [ae] at h;cases h
  |some l=>
   rcases List.mem_cons.1 ai with rfl|ai
   ·exact ad
   ·exact Xd ae k ai
theorem Xe:∀{l:List Tm},m7 l=true→∃k∈l,steps k=true
 |a::r,h=>by
  rw [m7] at h
  cases aB:steps a with
  |true=>exact ⟨a,by simp,aB⟩
  |false=>
   rw [aB,Bool.false_or] at h
   obtain ⟨k,ad,ae⟩:=Xe h
   exact ⟨k,by simp [ad],ae⟩
theorem aon{vs:List V}{s nn:List Int}(ca:nn.length≠vs.length)(t:Tm):Valid t→steps t=true→(dO vs s nn t).2=false:=by
 refine Tm.ind (P:=fun t=>Valid t→steps t=true→(dO vs s nn t).2=false) ?_ t
 intro t ih aM h
 rw [oH]
 rw [Iq] at h
 by_cases aZ:t.op≤4
 ·rw [if_pos aZ]
  have kZ:t.op=4:=by
   rw [aM.leaf aZ] at h
   simpa [m7] using h
  unfold iZ
  rw [if_neg (by omega)]
  have:k7 vs s nn t=none:=by unfold k7;rw [if_pos kZ,if_neg ca]
  rw [this]
 ·rw [if_neg aZ]
  have ak:(t.op==4)=false:=by simp;omega
  rw [ak,Bool.false_or] at h
  obtain ⟨k,ad,ae⟩:=Xe h
  cases aq:fT vs s nn t.kids with
  |none=>rfl
  |some l=>
   have:=Xd aq k ad
   rw [ih k ad (aM.er ad) ae] at this
   cases this
def ht(vs:List V)(t:Tm)(s nn:List Int):Int×Bool:=
 if(h2 vs true t).2≠0∨s.length≠vs.length then(0,false) else dO vs s nn t
theorem Ew{vs:List V}{nx:Bool}{t:Tm}(h:(h2 vs nx t).2=0):Valid t∧(dg vs nx t).2=0:=by
 unfold h2 at h
 by_cases aj:(cN t 1 0).1=0
 ·rw [if_neg (by simpa using aj)] at h;exact ⟨⟨1,0,aj⟩,h⟩
 ·rw [if_pos aj] at h;exact absurd h aj
theorem Xf(n:Nat)(vs:List V)(t:Tm)(s nn:List Int)(aI:t.bd+200+vs.length<n)(ba:t.b2)(kG:vs.length<1000000000000)(eS:∀v,v∈s∨v∈nn→-9223372036854775808≤v∧v≤9223372036854775807):
  pF n [a1 vs,t.d,ck s,fD bn nn]=some (e7 (ht vs t s nn)):=by
 have ad:=WD n vs t true aI ba kG
 obtain ⟨M,e9,jY⟩:=Wz n vs (by omega) kG
 have fP:bC (a1 vs)=true:=rfl
 have lx:∀l,bC (ck l)=true:=fun _=>rfl
 have Ac:D.aO [J 0,au false]=e7 (0,false):=rfl
 unfold ht
 by_cases aE:(h2 vs true t).2=0
 ·by_cases az:s.length=vs.length
  ·obtain ⟨aM,ep⟩:=Ew aE
   have ax:=Xb (bn:=bn) vs true s nn M jY kG az eS n t (by omega) ba aM ep
   have Iu:((s.length:Int) !=(vs.length:Int))=false:=by simp [az]
   simp [pF,Hm,fP,lx,ad,aE,az,oF,fw,e9,ax,z9,Aa,Ab]
  ·have Iu:¬((s.length:Int)=(vs.length:Int)):=by omega
   simp [pF,Hm,fP,lx,ad,aE,az,oF,fw,Iu]
   exact Ac
 ·simp [pF,Hm,fP,lx,ad,aE]
  exact Ac
theorem Xg(n:Nat)(vs:List V)(t:Tm)(s nn:List Int)(aI:t.bd+200+vs.length<n)(ba:t.b2)(kG:vs.length<1000000000000):
  nQ n [a1 vs,t.d,ck s,fD bn nn]=some (e7 (ht vs t s nn)):=by
 have ad:=WE n vs t true aI ba kG
 have ae:=Xc n t (by omega) ba
 have Ac:D.aO [J 0,au false]=e7 (0,false):=rfl
 unfold ht
 by_cases aE:(h2 vs true t).2=0
 ·by_cases az:s.length=vs.length
  ·obtain ⟨aM,ep⟩:=Ew aE
   by_cases gK:steps t=true∧nn.length≠vs.length
   ·have aoo:=aon (s:=s) gK.2 t aM gK.1
    have aop:¬((nn.length:Int)=(vs.length:Int)):=by have:=gK.2;omega
    have av:e7 (dO vs s nn t)= .aO [J 0,au false]:=by unfold e7;rw [if_neg (by simp [aoo])]
    simp [nQ,zF,ad,ae,aE,az,oF,fw,gK.1,aop,av]
   ·have ax:=Xa (bn:=bn) vs true s nn kG az n t aI ba aM ep (fun h=>by
     refine Classical.byContradiction fun aj=>gK ⟨h,aj⟩)
    have av:e7 (dO vs s nn t)=if(dO vs s nn t).2=true then .aO [J (dO vs s nn t).1,au true] else .aO [J 0,au false]:=rfl
    by_cases Oc:steps t=true
    ·have qx:nn.length=vs.length:=Classical.byContradiction fun aj=>gK ⟨Oc,aj⟩
     cases ak:(dO vs s nn t).2<;>simp [nQ,zF,ad,ae,aE,az,oF,fw,Oc,qx,ax,ak,av]
    ·have aoq:steps t=false:=by simpa using Oc
     cases ak:(dO vs s nn t).2<;>simp [nQ,zF,ad,ae,aE,az,oF,fw,aoq,ax,ak,av]
  ·have Iu:¬((s.length:Int)=(vs.length:Int)):=by omega
   simp [nQ,zF,ad,ae,aE,az,oF,fw,Iu]
   exact Ac
 ·simp [nQ,zF,ad,ae,aE]
  exact Ac
end Go.Am
namespace Go.Am
set_option linter.unusedVariables false
set_option linter.unusedSimpArgs false
theorem Xh{lo af x y:Int}(ad:lo≤x)(ae:x≤af):jU (lo*y) (af*y)≤x*y∧x*y≤eX (lo*y) (af*y):=by
 by_cases aN:0≤y
 ·have a:=Int.mul_le_mul_of_nonneg_right ad aN
  have b:=Int.mul_le_mul_of_nonneg_right ae aN
  unfold jU eX
  constructor<;>split<;>omega
 ·have a:=Int.mul_le_mul_of_nonpos_right ad (show y≤0 by omega)
  have b:=Int.mul_le_mul_of_nonpos_right ae (show y≤0 by omega)
  unfold jU eX
  constructor<;>split<;>omega
theorem Xi{lo af x y:Int}(ad:lo≤x)(ae:x≤af):jU (y*lo) (y*af)≤y*x∧y*x≤eX (y*lo) (y*af):=by
 have:=Xh (y:=y) ad ae
 rw [Int.mul_comm lo y,Int.mul_comm af y,Int.mul_comm x y] at this
 exact this
theorem aor{a b:Y}{x y:Int}(ag:a.lo≤x∧x≤a.af)(aN:b.lo≤y∧y≤b.af):zZ a b≤x*y∧x*y≤z0 a b:=by
 have ad:=Xh (y:=y) ag.1 ag.2
 have ae:=Xi (y:=a.lo) aN.1 aN.2
 have ay:=Xi (y:=a.af) aN.1 aN.2
 unfold zZ z0
 generalize x*y=p at*
 generalize a.lo*y=q at*
 generalize a.af*y=r at*
 generalize a.lo*b.lo=s at*
 generalize a.lo*b.af=t at*
 generalize a.af*b.lo=u at*
 generalize a.af*b.af=v at*
 unfold jU eX at*
 omega
theorem aos{lo af v:Int}(h:(fS lo af).2=0)(ad:lo≤v)(ae:v≤af):(fS lo af).1.lo≤v∧v≤(fS lo af).1.af:=by
 unfold fS at*
 split at h
 ·cases h
 ·rename_i aj;rw [if_neg aj];exact ⟨ad,ae⟩
def hv(vs:List V)(s:List Int):Prop:=s.length=vs.length∧∀(i:Nat) (v:V) (x:Int),vs[i]?=some v→s[i]?=some x→if v.bool then x=0∨x=1 else v.lo≤x∧x≤v.af
def within(y:Y)(v:Int):Prop:=if y.b then v=0∨v=1 else y.lo≤v∧v≤y.af
theorem uw{lo af v:Int}(h:(fS lo af).2=0)(ad:lo≤v)(ae:v≤af):within (fS lo af).1 v:=by
 unfold within
 rw [z7]
 exact aos h ad ae
theorem sz{y:Y}{b:Bool}(h:y.b=true):within y (tr b):=by
 unfold within;rw [if_pos h];exact Ep b
theorem Xj{lo af:Int}(h:(fS lo af).2=0):-1048576≤lo∧af≤1048576∧lo≤af:=by
 unfold fS at h
 split at h
 ·cases h
 ·omega
theorem aot{vs:List V}{s nn:List Int}{t:Tm}(az:hv vs s)(aI:hv vs nn)(aM:Valid t)(h:(iY vs true t).2=0):(iZ vs s nn t).2=true∧within (iY vs true t).1 (iZ vs s nn t).1:=by
 have q1:=aM.num
 unfold iY at*
 unfold iZ
 by_cases ad:t.op=1
 ·rw [if_pos ad] at*
  rw [if_pos (by omega)]
  exact ⟨rfl,uw h (Int.le_refl _) (Int.le_refl _)⟩
 rw [if_neg ad] at*
 by_cases ae:t.op=2
 ·rw [if_pos ae] at*
  rw [if_pos (by omega)]
  refine ⟨rfl,?_⟩
  unfold within;simp only [hL,if_true];omega
 rw [if_neg ae] at*
 have dj:=aM.op
 rw [if_neg (show¬t.op≤2 by omega)]
 cases af:dC vs t.name with
 |none=>rw [af] at h;cases h
 |some i=>
  rw [af] at h
  simp only at h⊢
  obtain ⟨v,v1,v2,o8⟩:=uu af
  have Xk:¬(t.op=4∧true=false):=by simp
  rw [if_neg Xk,v1] at h
  rw [if_neg Xk,v1]
  simp only at h⊢
  have uk:hv vs (if t.op=4 then nn else s):=by split<;>assumption
  have bS:k7 vs s nn t=some i:=by unfold k7;rw [if_pos uk.1,af]
  obtain ⟨x,ag⟩:=Ob o8 uk.1
  rw [bS]
  simp only [ag,v1]
  have av:=uk.2 i v x v1 ag
  by_cases ak:v.bool=true
  ·rw [if_pos ak] at*
   rw [if_pos ak]
   exact ⟨rfl,sz rfl⟩
  ·rw [if_neg ak] at*
   rw [if_neg ak]
   have j4:=Xj h
   exact ⟨(ik _).2 (by omega),uw h av.1 av.2⟩
theorem aou{l:List Y}{nS:List Int}(aq:l.all Y.b=true)(hlen:nS.length=l.length)(h:∀(i:Nat) (y:Y) (v:Int),l[i]?=some y→nS[i]?=some v→within y v):∀v∈nS,v=0∨v=1:=by
 intro v aM
 obtain ⟨i,af⟩:=List.mem_iff_getElem?.1 aM
 have bJ:i<l.length:=by have:=(List.getElem?_eq_some_iff.1 af).1;omega
 have aN:=List.getElem?_eq_getElem bJ
 have ak:=List.all_eq_true.1 aq _ (List.getElem_mem bJ)
 have hw:=h i _ v aN af
 unfold within at hw
 rwa [if_pos ak] at hw
theorem aov{t:Tm}{a b c:Y}(h:¬(5≤t.op∧t.op≤9)):fC t [a,b,c]=if(!a.b||(b.b !=c.b)) then(ew,13) else if b.b then(hL,0) else fS (jU b.lo c.lo) (eX b.af c.af):=by
 unfold fC;rw [if_neg h]
theorem aow{t:Tm}{a b:Y}(h:¬(5≤t.op∧t.op≤9)):fC t [a,b]=if t.op=10∨t.op=11 then if a.b !=b.b then(ew,13) else(hL,0)
   else if(a.b||b.b) then(ew,13)
   else if t.op=12∨t.op=13 then(hL,0)
   else if t.op=17 then(match t.kids[1]? with
    |some k=>if k.op≠1∨k.num<1 then(ew,2) else fS 0 (k.num-1)
    |none=>(ew,0))
   else m5 t.op a b:=by
 unfold fC;rw [if_neg h]<;>rfl
theorem aox{op a b c:Int}(ch:¬op=6)(fi:¬op=7):eQ op [a,b,c]=(if a=1 then b else c,dv (if a=1 then b else c)):=by
 unfold eQ;rw [if_neg ch,if_neg fi]
theorem aoy{op a b:Int}(ch:¬op=6)(fi:¬op=7):eQ op [a,b]=if op=8 then(tr (a==0||b==1),true) else if op=9∨op=10 then(tr (a==b),true) else if op=11 then(tr (a !=b),true)
   else if op=12 then(tr (decide (a<b)),true) else if op=13 then(tr (decide (a≤b)),true)
   else if op=14 then(a+b,dv (a+b)) else if op=15 then(a-b,dv (a-b))
   else if op=16 then if dv (a*b) then(a*b,true) else(0,false)
   else((a.tmod b+b).tmod b,dv ((a.tmod b+b).tmod b)):=by
 unfold eQ;rw [if_neg ch,if_neg fi]
theorem aoz{t:Tm}{l:List Y}{nS:List Int}(aM:Valid t)(bG:5≤t.op)(aH:(fC t l).2=0)(bD:∀y∈l,y.jy)(hlen:l.length=t.kids.length)(iF:nS.length=l.length)
  (hw:∀(i:Nat) (y:Y) (v:Int),l[i]?=some y→nS[i]?=some v→within y v) (hm:t.op=17→∀k v,t.kids[1]?=some k→nS[1]?=some v→v=k.num):
  (eQ t.op nS).2=true∧within (fC t l).1 (eQ t.op nS).1:=by
 have dj:=aM.op
 have xD:=aM.len
 have Iv:5≤t.op∧t.op≤9→(fC t l).1.b=true:=fun h=>by
  have:=Ir aH h
  unfold fC;rw [if_pos h,if_pos this];rfl
 by_cases pX:t.op=6∨t.op=7
 ·have ak:=Iv (by omega)
  unfold eQ
  rcases pX with h|h
  ·rw [if_pos h];exact ⟨rfl,sz ak⟩
  ·rw [if_neg (by omega),if_pos h];exact ⟨rfl,sz ak⟩
 by_cases rO:t.op=5
 ·have ak:=Iv (by omega)
  have:fa t.op=(1,1):=by rw [rO];rfl
  rw [this] at xD
  have pV:nS.length=1:=by simp only at xD;omega
  match nS,pV,iF,hw with
  |[a],_,iF,hw=>
   have aB:=aou (Ir aH (by omega)) iF hw a (by simp)
   have eS:dv (1-a)=true:=(ik _).2 (by omega)
   unfold eQ
   rw [if_neg (by omega),if_neg (by omega)]
   refine ⟨eS,?_⟩
   unfold within
   rw [if_pos ak]
   simp only
   omega
 have ch:¬t.op=6:=by omega
 have fi:¬t.op=7:=by omega
 by_cases oG:t.op=18
 ·rw [xy oG] at xD
  obtain ⟨a,b,c,rfl⟩:=sw (l:=l) (by simp only at xD;omega)
  obtain ⟨x,y,z,rfl⟩:=sw (l:=nS) (by simpa using iF)
  have Iw:¬(5≤t.op∧t.op≤9):=by omega
  obtain ⟨N8,xC,W0⟩:=N6 aH Iw
  have oX:=hw 0 a x rfl rfl
  have oa:=hw 1 b y rfl rfl
  have Ix:=hw 2 c z rfl rfl
  have oD:=bD b (by simp)
  have gc:=bD c (by simp)
  unfold within at oX oa Ix
  rw [aox ch fi]
  rw [aov Iw] at aH⊢
  have vi:¬(!a.b||(b.b !=c.b))=true:=by rw [N8,xC];simp
  rw [if_neg vi] at aH⊢
  by_cases ak:b.b=true
  ·rw [if_pos ak]
   rw [if_pos ak] at oa
   rw [←xC,if_pos ak] at Ix
   by_cases ag:x=1
   ·rw [if_pos ag]
    have q:dv y=true:=(ik _).2 (by omega)
    refine ⟨q,?_⟩
    unfold within;simp only [hL,if_true];exact oa
   ·rw [if_neg ag]
    have q:dv z=true:=(ik _).2 (by omega)
    refine ⟨q,?_⟩
    unfold within;simp only [hL,if_true];exact Ix
  ·rw [if_neg ak] at aH⊢
   rw [if_neg ak] at oa
   rw [←xC,if_neg ak] at Ix
   obtain ⟨_,fp,g7,jq⟩:=oD
   obtain ⟨_,bb,bp,bs⟩:=gc
   have hM:jU b.lo c.lo≤b.lo∧jU b.lo c.lo≤c.lo:=by unfold jU;split<;>omega
   have Qn:b.af≤eX b.af c.af∧c.af≤eX b.af c.af:=by unfold eX;split<;>omega
   by_cases ag:x=1
   ·rw [if_pos ag]
    have q:dv y=true:=(ik _).2 (by omega)
    exact ⟨q,uw aH (by omega) (by omega)⟩
   ·rw [if_neg ag]
    have q:dv z=true:=(ik _).2 (by omega)
    exact ⟨q,uw aH (by omega) (by omega)⟩
 rw [ur (show 8≤t.op∧t.op≤17 by omega)] at xD
 obtain ⟨a,b,rfl⟩:=oC (l:=l) (by simp only at xD;omega)
 obtain ⟨x,y,rfl⟩:=oC (l:=nS) (by simpa using iF)
 have oX:=hw 0 a x rfl rfl
 have oa:=hw 1 b y rfl rfl
 have xz:=bD a (by simp)
 have oD:=bD b (by simp)
 rw [aoy ch fi]
 by_cases h0:t.op=8
 ·rw [if_pos h0];exact ⟨rfl,sz (Iv (by omega))⟩
 rw [if_neg h0]
 by_cases jg:t.op=9
 ·rw [if_pos (Or.inl jg)];exact ⟨rfl,sz (Iv (by omega))⟩
 have Iw:¬(5≤t.op∧t.op≤9):=by omega
 rw [aow Iw] at aH⊢
 by_cases Od:t.op=10∨t.op=11
 ·rw [if_pos Od] at aH⊢
  by_cases aj:(a.b !=b.b)=true
  ·rw [if_pos aj] at aH;cases aH
  rw [if_neg aj]
  rcases Od with h|h
  ·rw [if_pos (Or.inr h)];exact ⟨rfl,sz rfl⟩
  ·have aI:¬(t.op=9∨t.op=10):=by omega
   rw [if_neg aI,if_pos h];exact ⟨rfl,sz rfl⟩
 rw [if_neg Od] at aH⊢
 have aoA:¬(t.op=9∨t.op=10):=by omega
 have lJ:¬t.op=11:=by omega
 rw [if_neg aoA,if_neg lJ]
 by_cases aj:(a.b||b.b)=true
 ·rw [if_pos aj] at aH;cases aH
 rw [if_neg aj] at aH⊢
 have kg:a.b=false∧b.b=false:=by cases aB:a.b<;>cases ak:b.b<;>simp_all
 have Et:¬(false=true):=by simp
 unfold within at oX oa
 rw [kg.1,if_neg Et] at oX
 rw [kg.2,if_neg Et] at oa
 obtain ⟨_,ah,aT,bR⟩:=xz
 obtain ⟨_,fp,g7,jq⟩:=oD
 by_cases Oe:t.op=12∨t.op=13
 ·rw [if_pos Oe]
  rcases Oe with h|h
  ·rw [if_pos h];exact ⟨rfl,sz rfl⟩
  ·have aI:¬t.op=12:=by omega
   rw [if_neg aI,if_pos h];exact ⟨rfl,sz rfl⟩
 rw [if_neg Oe] at aH⊢
 have aoB:¬t.op=12:=by omega
 have kK:¬t.op=13:=by omega
 rw [if_neg aoB,if_neg kK]
 by_cases kI:t.op=17
 ·rw [if_pos kI] at aH⊢
  have k8:¬t.op=14:=by omega
  have Ex:¬t.op=15:=by omega
  have eC:¬t.op=16:=by omega
  rw [if_neg k8,if_neg Ex,if_neg eC]
  cases ai:t.kids[1]? with
  |none=>
   have:=List.getElem?_eq_none_iff.1 ai
   simp only at xD;omega
  |some k=>
   rw [ai] at aH
   simp only at aH⊢
   by_cases ax:k.op≠1∨k.num<1
   ·rw [if_pos ax] at aH;cases aH
   rw [if_neg ax] at aH⊢
   have J8:=hm kI k y ai rfl
   subst J8
   have aud:=(aM.er (List.mem_of_getElem? ai)).num
   have e9:=Ek (a:=x) (b:=k.num) (by omega)
   have jY:=Ek (a:=x.tmod k.num+k.num) (b:=k.num) (by omega)
   have D8:=Int.tmod_nonneg (a:=x.tmod k.num+k.num) k.num (by omega)
   have q:dv ((x.tmod k.num+k.num).tmod k.num)=true:=(ik _).2 (by omega)
   exact ⟨q,uw aH D8 (by omega)⟩
 rw [if_neg kI] at aH⊢
 unfold m5 at aH⊢
 by_cases Ex:t.op=15
 ·have k8:¬t.op=14:=by omega
  simp only [if_pos Ex,if_neg k8] at aH⊢
  have q:dv (x-y)=true:=(ik _).2 (by omega)
  exact ⟨q,uw aH (by omega) (by omega)⟩
 by_cases k8:t.op=14
 ·simp only [if_neg Ex,if_pos k8] at aH⊢
  have q:dv (x+y)=true:=(ik _).2 (by omega)
  exact ⟨q,uw aH (by omega) (by omega)⟩
 have eC:t.op=16:=by omega
 simp only [if_neg k8,if_neg Ex,if_pos eC] at aH⊢
 have Xl:=aor oX oa
 have j4:=Xj aH
 have eS:dv (x*y)=true:=(ik _).2 (by omega)
 simp only [if_pos eS]
 exact ⟨trivial,uw aH Xl.1 Xl.2⟩
theorem Xm{vs:List V}{s nn:List Int}:∀{l:List Tm},(∀k∈l,(dO vs s nn k).2=true)→fT vs s nn l=some (l.map fun k=>(dO vs s nn k).1)
 |[],_=>rfl
 |t::r,h=>by rw [fT,if_pos (h t (by simp)),Xm fun k ai=>h k (by simp [ai])];rfl
theorem Xn{vs:List V}{nx:Bool}:∀{l:List Tm},(dn vs nx l).2=0→(dn vs nx l).1=l.map fun k=>(dg vs nx k).1
 |[],_=>rfl
 |t::r,h=>by
  rw [dn] at*
  by_cases ad:(dg vs nx t).2=0
  case neg=>rw [if_pos ad] at h;exact absurd h ad
  have dw:¬(dg vs nx t).2≠0:=by simpa using ad
  rw [if_neg dw] at h⊢
  by_cases ae:(dn vs nx r).2=0
  case neg=>rw [if_pos ae] at h;exact absurd h ae
  have fW:¬(dn vs nx r).2≠0:=by simpa using ae
  rw [if_neg fW]
  simp [Xn ae]
theorem Xo{vs:List V}{s nn:List Int}(az:hv vs s)(aI:hv vs nn)(t:Tm):Valid t→(dg vs true t).2=0→(dO vs s nn t).2=true∧within (dg vs true t).1 (dO vs s nn t).1:=by
 refine Tm.ind (P:=fun t=>Valid t→(dg vs true t).2=0→(dO vs s nn t).2=true∧within (dg vs true t).1 (dO vs s nn t).1) ?_ t
 intro t ih aM h
 have ai:∀k∈t.kids,(dg vs true k).2=0:=fun k ai=>Eu aM h ai
 rw [mc] at h⊢
 rw [oH]
 by_cases aZ:t.op≤4
 ·rw [if_pos aZ] at*
  rw [if_pos aZ]
  exact aot az aI aM h
 rw [if_neg aZ] at h⊢
 rw [if_neg aZ]
 by_cases ar:(dn vs true t.kids).2=0
 case neg=>rw [if_pos ar] at h;exact absurd h ar
 have Ev:¬(dn vs true t.kids).2≠0:=by simpa using ar
 rw [if_neg Ev] at h⊢
 have iF:fT vs s nn t.kids=_:=Xm fun k lY=>(ih k lY (aM.er lY) (ai k lY)).1
 rw [iF]
 simp only
 obtain ⟨a0,a9⟩:=z1 vs true t.kids ar
 have lz:=Xn ar
 refine aoz aM (by omega) h a9 a0 (by rw [a0];simp) ?_ ?_
 ·intro i y v aN kJ
  rw [lz] at aN
  simp only [List.getElem?_map,Option.map_eq_some_iff] at aN kJ
  obtain ⟨k,cg,rfl⟩:=aN
  obtain ⟨bg,dK,rfl⟩:=kJ
  rw [cg] at dK;cases dK
  exact (ih k (List.mem_of_getElem? cg) (aM.er (List.mem_of_getElem? cg)) (ai k (List.mem_of_getElem? cg))).2
 ·intro kI k v pb pV
  simp only [List.getElem?_map,pb,Option.map_some,Option.some.injEq] at pV
  have nd:=aM.len
  rw [ur (by omega)] at nd
  obtain ⟨Er,z8,aN⟩:=oC (l:=(dn vs true t.kids).1) (by simp only at nd;omega)
  rw [aN] at h
  have:=WX h kI pb
  rw [←pV,oH,if_pos (by omega)]
  unfold iZ
  rw [if_pos (by omega)]
end Go.Am
