/- Laws, on data. No condition. -/
import Derived.Test.YtknmgdnhongcnaaGreatDoorLaws
import Derived.Test.YtknmgdnhongcnaaGreatDoorEngS
import Derived.KernelRfl
set_option linter.all false
set_option linter.unnecessarySimpa false
namespace Go.Am
structure cU where
 name:ByteArray
 f:Fm
def cU.cells(d:cU):List D:=[aI d.name,J d.f.op,J d.f.e.op,J d.f.e.num,aI d.f.e.name,bc 4 d.f.e.nl (Tm.rows d.f.e.al),bc 6 d.f.nl (Fm.rows d.f.al)]
def ar(l:List Tm):D:= .aE 4 (Tm.rows l)
def bQ(l:List cU):D:= .aE 7 (l.map cU.cells)
def uq{l:List Tm}{i:Nat}{t:Tm}(h:l[i]?=some t):bp 4 (ar l) (J (i:Int))=some t.cells:=by simp[ar,Tm.HZ h]
def iP(l:List Tm):bs (ar l)=some (J l.length):=by simp[ar]
def nt{l:List cU}{i:Nat}{t:cU}(h:l[i]?=some t):bp 7 (bQ l) (J (i:Int))=some t.cells:=by simp[bQ,h]
def jc(l:List cU):bs (bQ l)=some (J l.length):=by simp[bQ]
def cU.d(d:cU):D:= .agg d.cells
theorem cU.F5(d:cU):bh true 7 0 d.cells=some d.d:=rfl
theorem cU.hH(d:cU):bh true 6 1 d.cells=some d.f.d:=by rw[Fm.gI];rfl
theorem cU.gx(d:cU):bh false 1 0 d.cells=some (aI d.name):=rfl
def cU.agg(d:cU):aL 7 d.d=true:=by unfold cU.d cU.cells;simp[ab0]
theorem cU.aX(d:cU):aa d.d 0=aI d.name:=rfl
theorem cU.bl(d:cU):aa d.d 1=J d.f.op:=rfl
theorem cU.bu(d:cU):aa d.d 2=J d.f.e.op:=rfl
theorem cU.bT(d:cU):aa d.d 3=J d.f.e.num:=rfl
theorem cU.cM(d:cU):aa d.d 4=aI d.f.e.name:=rfl
theorem cU.cR(d:cU):aa d.d 5=bc 4 d.f.e.nl (Tm.rows d.f.e.al):=rfl
theorem cU.dc(d:cU):aa d.d 6=bc 6 d.f.nl (Fm.rows d.f.al):=rfl
structure av where
 vars:List V
 au:List bm
 bG:List Tm
 bE:List Tm
 next:List bm
 trans:List Tm
 br:List Tm
 bw:List cU
def av.d(m:av):D:= .agg [bg m.vars,aJ m.au,ar m.bG,ar m.bE,aJ m.next,ar m.trans,ar m.br,bQ m.bw]
section
variable(m:av)
theorem av.aX:aa m.d 0=bg m.vars:=rfl
theorem av.bl:aa m.d 1=aJ m.au:=rfl
theorem av.bu:aa m.d 2=ar m.bG:=rfl
theorem av.bT:aa m.d 3=ar m.bE:=rfl
theorem av.cM:aa m.d 4=aJ m.next:=rfl
theorem av.cR:aa m.d 5=ar m.trans:=rfl
theorem av.dc:aa m.d 6=ar m.br:=rfl
theorem av.du:aa m.d 7=bQ m.bw:=rfl
theorem av.agg:aL 8 m.d=true:=rfl
theorem av.eta:D.agg [bg m.vars,aJ m.au,ar m.bG,ar m.bE,aJ m.next,ar m.trans,ar m.br,bQ m.bw]=m.d:=rfl
end
def af9:∀l:List Tm,pn l=l.map dn
 |[]=>rfl|k::r=>by rw[pn,af9 r];rfl
theorem F6(t:Tm):dn t= .mk t.op t.num t.name false (t.al.map dn):=by cases t;rw[dn,af9];rfl
def P1(t:Tm):(dn t).a9=t.a9:=by
 refine Tm.ind (P:=λt=>(dn t).a9=t.a9) ?_ t;intro t ih;have key:∀l:List Tm,(∀k∈l,(dn k).a9=k.a9)->Tm.c7 (l.map dn)=Tm.c7 l:=by
  intro l
  induction l with
  |nil=>intro _;rfl
  |cons a r kN=>intro h;simp only[xaA,Tm.c7];rw[h a (by simp),kN λk ai=>h k (by simp[ai])]
 rw[Tm.rf,Tm.rf t,F6];show 2+Tm.c7 (t.al.map dn)=_;rw[key _ ih]
def ayL(t:Tm):t.bR->(dn t).bR:=by
 refine Tm.ind (P:=λt=>t.bR->(dn t).bR) ?_ t;intro t ih a4;rw[F6];have bz:=a4.len;obtain⟨fu,eQ,iv⟩:(-9223372036854775808<=t.op/\t.op<=9223372036854775807)/\(-9223372036854775808<=t.num/\t.num<=9223372036854775807)/\t.name.size<=140737488355328:=by cases a4 with|mk o n s b ks aC aH aD ak ai=>exact⟨aC,aH,aD⟩
 refine .mk _ _ _ _ _ fu eQ iv (by simpa using bz) ?_;intro k ai;obtain⟨bO,eF,rfl⟩:=xbc.1 ai;exact ih bO eF (a4.cL eF)
def jY:Int:=9007199254740992
def eM(n:Int):Bool:=decide (-9007199254740992<=n)&&decide (n<=9007199254740992)
def qp(n:Int)(ok:Bool):D:=if ok&&eM n then .aU [J n,ax true]else .aU [J 0,ax false]
def ayM(n:Nat)(a:Int)(ok:Bool):Jq n [J a,ax ok]=some (qp a ok):=by unfold qp eM;cases ok<;>simp[Jq,acT,-T6,-TN];grind
def P2(n:Nat)(a b:Int)(aB:-9223372036854775808<=a/\a<=9223372036854775807)(an:-9223372036854775808<=b/\b<=9223372036854775807):vv n [J a,J b]=some (qp (a+b) true):=by
 have bH:=ayM n;by_cases ad:(a<0)=(b<0)
 case neg=>
  have e:IntKind.i64.wrap (a+b)=a+b:=by
   refine wrap64 _ ?_ ?_;.by_cases c:a<0<;>by_cases d:b<0<;>simp[c,d]at ad<;>omega
   by_cases c:a<0<;>by_cases d:b<0<;>simp[c,d]at ad<;>omega
  have cm:(decide (a<0) !=decide (b<0))=true:=by by_cases c:a<0<;>by_cases d:b<0<;>simp[c,d]at ad⊢
  simp[vv,OL,NJ,e,cm,bH];unfold qp;split<;>simp
 have cm:(decide (a<0) !=decide (b<0))=false:=by by_cases c:a<0<;>by_cases d:b<0<;>simp[c,d]at ad⊢
 by_cases aw:-9223372036854775808<=a+b/\a+b<=9223372036854775807
 .have e:IntKind.i64.wrap (a+b)=a+b:=wrap64 _ aw.1 aw.2;have aD:(decide (a<0)==decide (a+b<0))=true:=by
   by_cases c:a<0<;>by_cases d:b<0<;>simp[c,d]at ad⊢<;>omega
  simp[vv,OL,NJ,e,cm,aD,bH];unfold qp;split<;>simp
 have e:IntKind.i64.wrap (a+b)=if a<0 then a+b+18446744073709551616 else a+b-18446744073709551616:=by simp only[IntKind.wrap_i64];split<;>omega
 have aD:(decide (a<0)==decide (IntKind.i64.wrap (a+b)<0))=false:=by rw[e];by_cases c:a<0<;>by_cases d:b<0<;>simp[c,d]at ad⊢<;>omega
 simp[vv,OL,NJ,cm,aD,bH];have:eM (a+b)=false:=by unfold eM;simp;omega
 simp[qp,this]
def fS(n:Int):D:= .val (.int .u64 n)
section
variable{bt:Bool}{a b:Int}
def P3(h:0<=a+b)(bL:a+b<18446744073709551616):b9 bt .add (fS a) (fS b)=some (fS (a+b)):=by have e:b9 bt .add (fS a) (fS b)=some (fS (IntKind.u64.wrap (a+b))):=rfl;rw[e,xcf,Int.emod_eq_of_lt h bL]
theorem aga:b9 bt .mul (fS a) (fS b)=some (fS (IntKind.u64.wrap (a*b))):=rfl
def P4(h:0<=a*b)(bL:a*b<18446744073709551616):b9 bt .mul (fS a) (fS b)=some (fS (a*b)):=by rw[aga,xcf,Int.emod_eq_of_lt h bL]
def ayN(h:0<=a):b9 bt .shr (fS a) (fS 32)=some (fS (a/4294967296)):=by
 have e:b9 bt .shr (fS a) (fS 32)=some (fS (a.fdiv (2^(min (32:Int).toNat IntKind.u64.bits)))):=rfl;rw[e];have:(2:Int)^(min (32:Int).toNat IntKind.u64.bits)=4294967296:=by decide
 rw[this,Int.fdiv_eq_ediv_of_nonneg _ (by omega)]
def ayO(h:0<=a)(bL:a<18446744073709551616):b9 bt .and (fS a) (fS 4294967295)=some (fS (a%4294967296)):=by
 have e:b9 bt .and (fS a) (fS 4294967295)=some (fS (IntKind.u64.wrap ((BitVec.ofInt IntKind.u64.bits a&&&BitVec.ofInt IntKind.u64.bits 4294967295).toNat:Int))):=rfl;rw[e];have an:IntKind.u64.bits=64:=rfl;obtain⟨m,rfl⟩:∃m:Nat,a=m:=⟨a.toNat,by omega⟩;have aZ:(BitVec.ofInt 64 (m:Int)&&&BitVec.ofInt 64 4294967295).toNat=m%4294967296:=by
  have a6:BitVec.ofInt 64 (m:Int)=BitVec.ofNat 64 m:=by simp
  have b2:BitVec.ofInt 64 4294967295=BitVec.ofNat 64 4294967295:=by decide
  rw[a6,b2,BitVec.toNat_and,BitVec.toNat_ofNat,BitVec.toNat_ofNat,Nat.mod_eq_of_lt (by omega)];have:=Nat.and_two_pow_sub_one_eq_mod m 32;simpa using this
 rw[an,aZ,xcf]
 congr 2
 omega
theorem P5:b9 bt .neq (fS a) (fS b)=some (ax (a !=b)):=rfl
theorem P6:b9 bt .gtr (fS a) (fS b)=some (ax (decide (a>b))):=rfl
end
def P7{x y:Int}(af:0<=x/\x<=4294967295)(aO:0<=y/\y<=4294967295):0<=x*y/\x*y<=18446744065119617025:=by refine⟨Int.mul_nonneg af.1 aO.1,?_⟩;have:=Int.mul_le_mul af.2 aO.2 aO.1 (by omega);simpa using this
def ayP(n:Nat)(x y:Int)(af:0<=x/\x<18446744073709551616)(aO:0<=y/\y<18446744073709551616):OM n [fS x,fS y]=some (.aU [fS (x*y/18446744073709551616),fS (x*y%18446744073709551616)]):=by
 have ah:0<=x%4294967296/\x%4294967296<=4294967295:=by omega
 have aT:0<=x/4294967296/\x/4294967296<=4294967295:=by omega
 have fv:0<=y%4294967296/\y%4294967296<=4294967295:=by omega
 have gS:0<=y/4294967296/\y/4294967296<=4294967295:=by omega
 have ayQ:=P7 ah fv;have ayR:=P7 aT fv;have ayS:=P7 ah gS;have ayT:=P7 aT gS;have ayU:x*y=(x/4294967296*(y/4294967296))*18446744073709551616+(x/4294967296*(y%4294967296)+x%4294967296*(y/4294967296))*4294967296+x%4294967296*(y%4294967296):=by
  have ex:x=x/4294967296*4294967296+x%4294967296:=by omega
  have yd:y=y/4294967296*4294967296+y%4294967296:=by omega
  generalize x/4294967296=u at*;generalize x%4294967296=v at*;generalize y/4294967296=w at*;generalize y%4294967296=z at*;subst ex;subst yd;simp only[Int.add_mul,Int.mul_add];have aZ:u*4294967296*(w*4294967296)=u*w*18446744073709551616:=by rw[Int.mul_assoc,Int.mul_left_comm 4294967296 w,<-Int.mul_assoc,Int.mul_comm 4294967296 4294967296];rfl
  have a6:u*4294967296*z=u*z*4294967296:=by rw[Int.mul_assoc,Int.mul_comm 4294967296 z,<-Int.mul_assoc]
  have b2:v*(w*4294967296)=v*w*4294967296:=by rw[<-Int.mul_assoc]
  omega
 show UO n (fS x) (fS y)=_;have ayV:(D.val (.int .u64 32))=fS 32:=rfl;have em:(D.val (.int .u64 4294967295))=fS 4294967295:=rfl;have u6:∀q:Int,0<=q->b9 false .shr (fS q) (fS 32)=some (fS (q/4294967296)):=λq h=>ayN h;have WK:∀q:Int,0<=q->q<18446744073709551616->b9 false .and (fS q) (fS 4294967295)=some (fS (q%4294967296)):=λq h bL=>ayO h bL;simp only[UO,ayV,em,bB,eh];rw[WK x af.1 af.2,et,u6 x af.1,et,WK y aO.1 aO.2,et,u6 y aO.1,et,P4 ayQ.1 (by omega),et,P4 ayR.1 (by omega),et];generalize x%4294967296*(y%4294967296)=ayW at*;generalize x/4294967296*(y%4294967296)=aFR at*;rw[u6 ayW (by omega),et,P3 (by omega) (by omega),et,WK _ (by omega) (by omega),et,u6 _ (by omega),et,P4 ayS.1 (by omega),et];generalize x%4294967296*(y/4294967296)=aFS at*;rw[P3 (by omega) (by omega),et,P4 ayT.1 (by omega),et];generalize x/4294967296*(y/4294967296)=aFT at*;rw[P3 (by omega) (by omega),et,u6 _ (by omega),et,P3 (by omega) (by omega),et,aga,et,xcf,ayU]
 congr 3
 congr 1;omega
def agb(n:Nat)(a:Int)(aB:-9223372036854775808<=a/\a<=9223372036854775807):B2 n [J a]=some (fS a.natAbs):=by
 have aZ:∀v:Int,cx .neg (.val (.int .u64 v))=some (fS (IntKind.u64.wrap (0-v))):=λ_=>rfl;have a6:∀v:Int,ox .u64 (J v)=some (.val (.int .u64 (IntKind.u64.wrap v))):=λ_=>rfl;by_cases h:a<0
 .simp[B2,UN,h,a6,aZ];simp only[xcf,fS,D.val.injEq,Value.int.injEq,true_and];omega
 simp[B2,UN,h,a6];simp only[xcf,fS,D.val.injEq,Value.int.injEq,true_and];omega
def kA(n:Int):eM n=true↔n.natAbs<=9007199254740992:=by unfold eM;simp;omega
def agc{a b:Int}{A B:Nat}(h:a.natAbs<=A)(bL:b.natAbs<=B):(a*b).natAbs<=A*B:=by rw[Int.natAbs_mul];exact Nat.mul_le_mul h bL
def sign_mul(a b:Int)(h:a*b≠0):((a<0)≠(b<0))↔a*b<0:=by
 have aB:a≠0:=by rintro rfl;simp at h
 have an:b≠0:=by rintro rfl;simp at h
 rcases Int.lt_or_gt_of_ne aB with ad|ad<;>rcases Int.lt_or_gt_of_ne an with ae|ae;.have:=Int.mul_pos_of_neg_of_neg ad ae;simp[ad,ae];omega
 .have:=Int.mul_neg_of_neg_of_pos ad ae;simp[ad,this];omega
 .have:=Int.mul_neg_of_pos_of_neg ad ae;simp[ae,this];omega
 have:=Int.mul_pos ad ae;simp;omega
def ayX(n:Nat)(a b:Int)(aB:eM a=true)(an:eM b=true):y9 n [J a,J b]=some (qp (a*b) true):=by
 rw[kA]at aB an;have ad:=agb n a (by omega);have ae:=agb n b (by omega);have hm:=agc aB an;have az:=ayP n a.natAbs b.natAbs (by omega) (by omega);have e:((a.natAbs:Int)*b.natAbs)=((a*b).natAbs:Int):=by rw[Int.natAbs_mul];simp
 rw[e]at az;have aD:=sign_mul a b;generalize a*b=p at*;have aX:(D.val (.int .u64 0))=fS 0:=rfl;have bl:(D.val (.int .u64 9007199254740992))=fS 9007199254740992:=rfl;have aZ:∀v:Int,ox .i64 (fS v)=some (J (IntKind.i64.wrap v)):=λ_=>rfl;by_cases aw:eM p=true
 .have o0:=(kA p).1 aw;have bS:((p.natAbs:Int)/18446744073709551616)=0:=by omega
  have bP:((p.natAbs:Int)%18446744073709551616)=p.natAbs:=by omega
  have ca:IntKind.i64.wrap (p.natAbs:Int)=p.natAbs:=wrap64 _ (by omega) (by omega);have ee:IntKind.i64.wrap (-(p.natAbs:Int))=-(p.natAbs:Int):=wrap64 _ (by omega) (by omega);have eJ:¬(9007199254740992<(p.natAbs:Int)):=by omega
  rw[bS,bP]at az;by_cases bF:p=0;.subst bF;simp[y9,Jr,ad,ae,az,aX,bl,P5,P6,aZ,qp,aw];by_cases x1:a<0<;>by_cases js:b<0<;>simp[x1,js,show IntKind.i64.wrap 0=0 from rfl]
  have aD:=aD bF;by_cases x1:a<0<;>by_cases js:b<0<;>simp[x1,js]at aD<;>simp[y9,Jr,ad,ae,az,aX,bl,P5,P6,aZ,qp,aw,eJ,ca,ee,x1,js]<;>omega
 have o0:¬(p.natAbs<=9007199254740992):=λh=>aw ((kA p).2 h);have ba:eM p=false:=by simpa using aw
 by_cases bS:((p.natAbs:Int)/18446744073709551616)=0
 .have bP:((p.natAbs:Int)%18446744073709551616)=p.natAbs:=by omega
  have eJ:9007199254740992<(p.natAbs:Int):=by omega
  rw[bS,bP]at az;simp[y9,Jr,ad,ae,az,aX,bl,P5,P6,aZ,qp,ba,eJ]
 have fB:((p.natAbs:Int)/18446744073709551616 !=0)=true:=by simpa using bS
 simp[y9,Jr,ad,ae,az,aX,bl,P5,P6,aZ,qp,ba,fB]
def tr(b:Bool):Int:=if b then 1 else 0
def agd(n:Nat)(b:Bool):q0 n [ax b]=some (.aU [J (tr b),ax true]):=by cases b<;>simp[q0,acS,tr]
def age(n:Nat)(b:Bool):q8 n [ax b]=some (J (tr b)):=by cases b<;>simp[q8,adr,tr]
def agf(n:Nat)(v:Int):zr n [J v]=some (ax (!eM v)):=by
 by_cases ad:v< -9007199254740992
 .have:eM v=false:=by unfold eM;simp;omega
  simp[zr,Ph,this,ad]
 by_cases ae:9007199254740992<v
 .have:eM v=false:=by unfold eM;simp;omega
  simp[zr,Ph,this,ad,ae]
 have:eM v=true:=by unfold eM;simp;omega
 simp[zr,Ph,this,ad,ae]
def agh(n:Nat)(v:Int)(h:-9223372036854775807<=v/\v<=9223372036854775807):Fv n [J v]=some (J (v.natAbs:Int)):=by have:IntKind.i64.wrap (-v)=-v:=wrap64 _ (by omega) (by omega);simp[Fv,ads,this,PV,gq];split<;>omega
def fY(op:Int)(l:List Int):Int×Bool:=if op=6 then(tr (decide (l.sum=l.length)),true)
 else if op=7 then(tr (decide (l.sum>0)),true)
 else match l with
  |[a]=>(1-a,eM (1-a))
  |[a,b]=>if op=8 then(tr (a==0||b==1),true)else if op=9\/op=10 then(tr (a==b),true)else if op=11 then(tr (a !=b),true)
   else if op=12 then(tr (decide (a<b)),true)else if op=13 then(tr (decide (a<=b)),true)
   else if op=14 then(a+b,eM (a+b))else if op=15 then(a-b,eM (a-b))
   else if op=16 then if eM (a*b)then(a*b,true)else(0,false)
   else((a.tmod b+b).tmod b,eM ((a.tmod b+b).tmod b))
  |[a,b,c]=>(if a=1 then b else c,eM (if a=1 then b else c))
  |_=>(0,false)
def gH(p:Int×Bool):D:=if p.2 then .aU [J p.1,ax true]else .aU [J 0,ax false]
def agi(v:Int):qp v true=gH (v,eM v):=by simp[qp,gH]
def nu{l:List Int}{i:Nat}{y:Int}(h:l[i]?=some y):bp 1 (bN l) (J (i:Int))=some [J y]:=by simp[bN,h]
theorem CX{y:Int}{l:List Int}:bp 1 (bN (y::l)) (J 0)=some [J y]:=nu (i:=0) rfl
theorem F7{x y:Int}{l:List Int}:bp 1 (bN (x::y::l)) (J 1)=some [J y]:=nu (i:=1) rfl
theorem ayY{x y z:Int}{l:List Int}:bp 1 (bN (x::y::z::l)) (J 2)=some [J z]:=nu (i:=2) rfl
def sq(l:List Int):bs (bN l)=some (J l.length):=by simp[bN]
def WL:∀(l:List Int),(∀v∈l,eM v=true)->-(9007199254740992*(l.length:Int))<=l.sum/\l.sum<=9007199254740992*(l.length:Int)
 |[],_=>by simp|a::r,h=>by have:=WL r λv aN=>h v (by simp[aN]);have:=(kA a).1 (h a (by simp));simp only[List.sum_cons,xax];omega
def ayZ{l:List Int}(h:∀v∈l,eM v=true)(ak:l.length<=64)(i:Nat):-576460752303423488<=(l.take i).sum/\(l.take i).sum<=576460752303423488:=by
 have:=WL (l.take i) λv aN=>h v (xbi aN);have hle:(l.take i).length<=64:=by rw[xbq];omega
 omega
def ay0(n:Nat)(ps d1 d2 d3 d4:D)(l:List Int)(h:∀v∈l,eM v=true)(ak:l.length<=64)(aH:64<n):bA (Js n) n [ps,J 0,bN l,J l.length,J 0,d1,d2,d3,d4]=some (.inl [ps,J l.sum,d1,d2,d3,d4]):=by
 have ag:=dp (f:=Js n) l (λi (s:Int)=>[ps,J s,bN l,J l.length,J (i:Int),d1,d2,d3,d4]) (λr s=>(Sum.inl [ps,J (s+r.sum),d1,d2,d3,d4]:List D⊕D)) (λi s=>s=(l.take i).sum) (λs _=>by simp[Js]) ?_ n 0 0 (by simp) (by omega) (xah _);.have bK:(J ((0:Nat):Int))=J 0:=rfl;rw[bK]at ag;simpa using ag
 intro i a s aB ag aD;left;have an:=ayZ h ak i;have aaU:=(kA a).1 (h a (xad aB));have gF:b9 false .add (J s) (J a)=some (J (s+a)):=fg (by omega) (by omega);refine⟨s+a,by simp[Js,ag,nu aB,gF,cl (bt:=false) (i:=i) (by omega)],by simp[Int.add_assoc],?_⟩;rw[List.take_add_one,aB,aD];simp
def K9{a b:Int}(an:1<=b):-b<a.tmod b/\a.tmod b<b:=by have ad:=Int.tmod_lt_of_pos a (show 0<b by omega);have ae:=Int.lt_tmod_of_pos a (show 0<b by omega);exact⟨ae,ad⟩
set_option maxHeartbeats 1000000 in
def ay1(n:Nat)(t:Tm)(l:List Int)(aN:Valid t)(bY:l.length=t.al.length)(eB:5<=t.op)(aw:∀v∈l,eM v=true)(aH:100<n) (an:(t.op<=9->∀v∈l,v=0\/v=1)/\(t.op=18->∀v,l[0]?=some v->v=0\/v=1)) (hm:t.op=17->∀v,l[1]?=some v->1<=v/\v<=255):kM n [t.d,bN l]=some (gH (fY t.op l)):=by
 have uo:=aN.op;have bz:=aN.len;have aX:=Tm.qc t;have dL:=Tm.jn t;have ai:=zM (op:=t.op);have xQ:=CV (op:=t.op);have K8:=aN.F4;have agj:=sq l;have ij:=agd n;have La:=λps d1 d2 d3 d4=>ay0 n ps d1 d2 d3 d4 l aw (by omega) (by omega);by_cases ur:t.op=6\/t.op=7
 .have hg:1<=l.length:=by
   have:gK t.op=(1,64):=by unfold gK;rw[xaa (by omega),xaa (by omega),xac ur]
   rw[this]at bz;simp only at bz;omega
  generalize t.op=op at*;rcases ur with rfl|rfl
  .simp[kM,l8,dL,aX,agj,La,fY,gH,ij,-abu];by_cases aj:l.sum=(l.length:Int)<;>simp[aj,ij]
  simp[kM,l8,dL,aX,agj,La,fY,gH,ij,-abu];by_cases aj:l.sum=(l.length:Int)
  .have:0<l.sum:=by omega
   have a1:0<l.length:=by omega
   simp[aj,ij,a1]
  by_cases ao:0<l.sum<;>simp[aj,ao,ij]
 have oU:t.op=5->l.length=1:=λh=>by
  have:gK t.op=(1,1):=by rw[h];rfl
  rw[this]at bz;simp only at bz;omega
 by_cases bx:t.op=5
 .have:=oU bx
  match l,this with
  |[a],_=>
   have aB:=an.1 (by omega) a (by simp);have fw:=CX (y:=a) (l:=[]);generalize t.op=op at*;subst bx;rcases aB with rfl|rfl
   .simp[kM,l8,dL,aX,fw,fY,gH,ij,tr,eM]
   simp[kM,l8,dL,aX,fw,fY,gH,ij,tr,eM]
 by_cases sr:t.op=18
 .rw[xQ sr]at bz;obtain⟨a,b,c,rfl⟩:=xP (l:=l) (by simp only at bz;omega);have aB:=an.2 sr a rfl;have fw:=CX (y:=a) (l:=[b,c]);have bb:=F7 (x:=a) (y:=b) (l:=[c]);have bo:=ayY (x:=a) (y:=b) (z:=c) (l:=[]);have ay2:=aw b (by simp);have ay3:=aw c (by simp);generalize t.op=op at*;subst sr;rcases aB with rfl|rfl
  .simp[kM,l8,dL,aX,fw,bb,bo,fY,gH,ay3]
  simp[kM,l8,dL,aX,fw,bb,bo,fY,gH,ay2]
 rw[ai (by omega)]at bz;obtain⟨a,b,rfl⟩:=sn (l:=l) (by simp only at bz;omega);have fw:=CX (y:=a) (l:=[b]);have bb:=F7 (x:=a) (y:=b) (l:=[]);have agk:=aw a (by simp);have Ac:=aw b (by simp);have WM:=(kA a).1 agk;have agl:=(kA b).1 Ac;have ef:=P2 n a b (by omega) (by omega);have c3:=P2 n a (-b) (by omega) (by omega);have c6:=ayX n a b agk Ac;have WN:IntKind.i64.wrap (-b)=-b:=wrap64 _ (by omega) (by omega);have jJ:a+-b=a-b:=by omega
 have af:∀p:Int×Bool,(bk 0 (gH p))=some (J (if p.2 then p.1 else 0))/\(bk 1 (gH p))=some (ax p.2):=by intro p;obtain⟨v,o⟩:=p;cases o<;>simp[gH]
 have aO:∀p:Int×Bool,D.aU [J (if p.2 then p.1 else 0),ax p.2]=gH p:=by intro p;obtain⟨v,o⟩:=p;cases o<;>simp[gH]
 rw[jJ]at c3;rw[agi]at ef c3 c6;by_cases nv:t.op=17
 .obtain⟨bS,bP⟩:=hm nv b rfl;have gu:=K9 (a:=a) bS;have Lb:b≠0:=by omega
  have jG:b9 false .add (J (a.tmod b)) (J b)=some (J (a.tmod b+b)):=fg (by omega) (by omega);have lr:=K9 (a:=a.tmod b+b) bS;have fU:eM ((a.tmod b+b).tmod b)=true:=(kA _).2 (by omega);have aZ:b9 false .rem (J a) (J b)=some (J (a.tmod b)):=HV Lb;have a6:b9 false .rem (J (a.tmod b+b)) (J b)=some (J ((a.tmod b+b).tmod b)):=HV Lb;generalize t.op=op at*;subst nv;simp[kM,l8,dL,aX,fw,bb,fY,gH,aZ,a6,jG,fU]
 have aj:t.op=8\/t.op=9\/t.op=10\/t.op=11\/t.op=12\/t.op=13\/t.op=14\/t.op=15\/t.op=16:=by omega
 have ay4:t.op=8->(b=0\/b=1):=λh=>an.1 (by omega) b (by simp);generalize t.op=op at*;rcases aj with rfl|rfl|rfl|rfl|rfl|rfl|rfl|rfl|rfl
 .rcases ay4 rfl with rfl|rfl
  .by_cases uu:a=0;.simp[kM,l8,dL,aX,fw,bb,fY,gH,ij,uu,CX,F7]
   have Lc:(a==0)=false:=by simpa using uu
   simp[kM,l8,dL,aX,fw,bb,fY,gH,ij,uu,Lc,CX,F7]
  by_cases uu:a=0;.simp[kM,l8,dL,aX,fw,bb,fY,gH,ij,uu,CX,F7]
  have Lc:(a==0)=false:=by simpa using uu
  simp[kM,l8,dL,aX,fw,bb,fY,gH,ij,uu,Lc,CX,F7]
 .simp[kM,l8,dL,aX,fw,bb,fY,gH,ij]
 .simp[kM,l8,dL,aX,fw,bb,fY,gH,ij]
 .simp[kM,l8,dL,aX,fw,bb,fY,gH,ij]
 .simp[kM,l8,dL,aX,fw,bb,fY,gH,ij]
 .simp[kM,l8,dL,aX,fw,bb,fY,gH,ij]
 .simp[kM,l8,dL,aX,fw,bb,fY,ef,af];rw[<-aO]
 .simp[kM,l8,dL,aX,fw,bb,fY,WN,c3,af];rw[<-aO]
 simp[kM,l8,dL,aX,fw,bb,fY,c6,af];cases b4:eM (a*b)<;>simp[gH]
def n4(vs:List V)(s nn:List Int)(t:Tm):Option Nat:=if(if t.op=4 then nn else s).length=vs.length then eU vs t.name else none
def ay5{vs:List V}{s nn:List Int}{t:Tm}{i:Nat}(h:n4 vs s nn t=some i):eU vs t.name=some i/\(if t.op=4 then nn else s).length=vs.length:=by
 unfold n4 at h;by_cases aj:(if t.op=4 then nn else s).length=vs.length;.rw[xac aj]at h;exact⟨h,aj⟩
 rw[xaa aj]at h;cases h
def ld(vs:List V)(s nn:List Int)(t:Tm):Int×Bool:=if t.op<=2 then(t.num,true)
 else match n4 vs s nn t with
  |none=>(0,false)
  |some i=>match vs[i]?,(if t.op=4 then nn else s)[i]? with
   |some v,some x=>if v.bool then(tr (x !=0),true)else(x,eM x)
   |_,_=>(0,false)
mutual
def e1(vs:List V)(s nn:List Int):Tm->Int×Bool
 | .mk o n a b ks=>if o<=4 then ld vs s nn (.mk o n a b ks)else match g4 vs s nn ks with|some l=>fY o l|none=>(0,false)
def g4(vs:List V)(s nn:List Int):List Tm->Option (List Int)
 |[]=>some []
 |t::r=>if(e1 vs s nn t).2 then match g4 vs s nn r with|some l=>some ((e1 vs s nn t).1::l)|none=>none
  else none
end
theorem rn(vs:List V)(s nn:List Int)(t:Tm):e1 vs s nn t=if t.op<=4 then ld vs s nn t else match g4 vs s nn t.al with|some l=>fY t.op l|none=>(0,false):=by cases t;rw[e1];rfl
mutual
def steps:Tm->Bool
 | .mk o _ _ _ ks=>o==4||qq ks
def qq:List Tm->Bool
 |[]=>false|t::r=>steps t||qq r
end
theorem P8(t:Tm):steps t=(t.op==4||qq t.al):=by cases t;rw[steps];rfl
def agm:∀{l:List Tm}{t:Tm},t∈l->qq l=false->steps t=false
 |a::r,t,h,aD=>by
  rw[qq,Bool.or_eq_false_iff]at aD;rcases xas.1 h with rfl|h
  .exact aD.1
  exact agm h aD.2
theorem WO(b:Bool):eM (tr b)=true:=by cases b<;>rfl
def F8(p:Int×Bool):Prop:=p.2=true->eM p.1=true
def vV{c:Prop}[Decidable c]{p q:Int×Bool}(a1:F8 p)(b4:c\/F8 q):F8 (if c then p else q):=by
 split;.exact a1
 exact b4.resolve_left (by assumption)
def CY(b:Bool):F8 (tr b,true):=λ_=>WO b
def Ld(v:Int):F8 (v,eM v):=λh=>h
def ay6{op:Int}{l:List Int}:F8 (fY op l):=by
 unfold fY;refine vV (CY _) (.inr (vV (CY _) (.inr ?_)))
 match l with
 |[]=>intro h;cases h
 |[a]=>exact Ld _|[a,b,c]=>exact Ld _|a::b::c::d::r=>intro h;cases h
 |[a,b]=>
  refine vV (CY _) (.inr (vV (CY _) (.inr (vV (CY _) (.inr (vV (CY _) (.inr (vV (CY _) (.inr (vV (Ld _) (.inr (vV (Ld _) (.inr (vV ?_ (.inr (Ld _))))))))))))))));by_cases h:eM (a*b)=true;.rw[xac h];exact λ_=>h
  rw[xaa h];intro h;cases h
def ay7{vs:List V}{s nn:List Int}{t:Tm}(aN:Valid t)(h:(ld vs s nn t).2=true):eM (ld vs s nn t).1=true:=by
 have aH:=aN.num;unfold ld at*;by_cases ae:t.op<=2;.rw[xac ae];exact(kA _).2 (by simp only;omega)
 rw[xaa ae]at*;cases ag:n4 vs s nn t with
 |none=>simp[ag]at h
 |some i=>
  rw[ag]at h;simp only at h⊢;cases hw:vs[i]? with
  |none=>rw[hw]at h;cases h
  |some v=>
   cases af:((if t.op=4 then nn else s)[i]?)with
   |none=>rw[hw,af]at h;cases h
   |some x=>
    rw[hw,af]at h;simp only at h⊢;by_cases an:v.bool=true;.rw[xac an];exact WO _
    rw[xaa an]at*;exact h
def agn{vs:List V}{s nn:List Int}{t:Tm}(aN:Valid t)(h:(e1 vs s nn t).2=true):eM (e1 vs s nn t).1=true:=by
 rw[rn]at*;by_cases a3:t.op<=4;.rw[xac a3]at*;exact ay7 aN h
 rw[xaa a3]at*;split at h;.rename_i l ak;exact ay6 h
 cases h
def zO(v:Int):Prop:=v=0\/v=1
def Le(b:Bool):zO (tr b):=by cases b<;>simp[tr,zO]
theorem F9(lo ag:Int):(hy lo ag).1.b=false:=by unfold hy;split<;>rfl
def ay8(op:Int)(a b:Y):(qo op a b).1.b=false:=by unfold qo;split<;>(try split)<;>exact F9 _ _
def WQ(vs:List V)(nx:Bool)(s nn:List Int):∀{ks:List Tm}{l:List Int},(er vs nx ks).2=0->g4 vs s nn ks=some l->l.length=ks.length/\∀(i:Nat)(y:Y)(v:Int),(er vs nx ks).1[i]?=some y->l[i]?=some v-> ∃k,ks[i]?=some k/\(dR vs nx k).2=0/\y=(dR vs nx k).1/\(e1 vs s nn k).2=true/\v=(e1 vs s nn k).1
 |[],l,_,aN=>by cases aN;exact⟨rfl,by intro i y v _ h;simp at h⟩
 |k::r,l,h,aN=>by
  rw[er]at*;rw[g4]at aN;by_cases ad:(dR vs nx k).2=0
  case neg=>rw[xac ad]at h;exact absurd h ad
  have dN:¬(dR vs nx k).2≠0:=by simpa using ad
  rw[xaa dN]at h⊢;by_cases ae:(er vs nx r).2=0
  case neg=>rw[xac ae]at h;exact absurd h ae
  have hA:¬(er vs nx r).2≠0:=by simpa using ae
  rw[xaa hA]at h⊢;by_cases az:(e1 vs s nn k).2=true
  case neg=>rw[xaa az]at aN;cases aN
  rw[xac az]at aN;cases a3:g4 vs s nn r with
  |none=>rw[a3]at aN;cases aN
  |some sF=>rw[a3]at aN;cases aN;obtain⟨bb,bo⟩:=WQ vs nx s nn ae a3;refine⟨by simp[bb],?_⟩;intro i y v aO hw;cases i with|zero=>simp at aO hw;exact⟨k,rfl,ad,aO.symm,az,hw.symm⟩|succ i=>simpa using bo i y v (by simpa using aO) (by simpa using hw)
def P9{t:Tm}{l:List Y}(h:(g2 t l).2=0)(ad:5<=t.op/\t.op<=9):l.all Y.b=true:=by
 unfold g2 at h;rw[xac ad]at h;by_cases aj:l.all Y.b=true;.exact aj
 rw[xaa aj]at h;cases h
def WR{t:Tm}{a b c:Y}(h:(g2 t [a,b,c]).2=0)(ad:¬(5<=t.op/\t.op<=9)):a.b=true/\b.b=c.b/\((g2 t [a,b,c]).1.b=true->b.b=true):=by
 unfold g2 at*;rw[xaa ad]at*;simp only at h⊢;by_cases aj:(!a.b||(b.b !=c.b))=true;.rw[xac aj]at h;cases h
 rw[xaa aj]at*;refine⟨by cases aB:a.b<;>simp_all,by cases an:b.b<;>cases yp:c.b<;>simp_all,?_⟩;by_cases an:b.b=true;.exact λ_=>an
 rw[xaa an,F9];intro h;cases h
def ago{t:Tm}{a b:Y}(h:(g2 t [a,b]).2=0)(ad:t.op=17){k:Tm}(ai:t.al[1]?=some k):k.op=1/\1<=k.num:=by
 unfold g2 at h;rw[xaa (by omega)]at h;simp only at h;rw[xaa (by omega)]at h;by_cases aj:(a.b||b.b)=true;.rw[xac aj]at h;cases h
 rw[xaa aj,xaa (by omega),xac ad,ai]at h;simp only at h;by_cases aF:k.op≠1\/k.num<1;.rw[xac aF]at h;cases h
 omega
def ay9{t:Tm}{a b:Y}(ad:14<=t.op/\t.op<=17):(g2 t [a,b]).1.b=false:=by
 unfold g2;rw[xaa (by omega)];simp only;rw[xaa (by omega)];split;.rfl
 rw[xaa (by omega)];split
 .split
  .split;.rfl
   exact F9 _ _
  rfl
 exact ay8 _ _ _
def aza{vs:List V}{nx:Bool}{s nn:List Int}{t:Tm}(aN:Valid t)(h:(lb vs nx t).1.b=true)(aw:(ld vs s nn t).2=true):zO (ld vs s nn t).1:=by
 have aH:=aN.num;unfold lb at h;unfold ld at*;by_cases ad:t.op=1;.rw[xac ad,F9]at h;cases h
 rw[xaa ad]at h;by_cases ae:t.op=2;.rw[xac (by omega)];unfold zO;simp only;omega
 rw[xaa ae]at h;have eB:=aN.op;rw[xaa (by omega)]at*;cases ag:n4 vs s nn t with
 |none=>rw[ag]at aw;cases aw
 |some i=>
  rw[(ay5 ag).1]at h;rw[ag]at aw;simp only at h aw⊢;by_cases az:t.op=4/\nx=false;.rw[xac az]at h;cases h
  rw[xaa az]at h;cases hw:vs[i]? with
  |none=>rw[hw]at aw;cases aw
  |some v=>
   rw[hw]at h aw;simp only at h;by_cases an:v.bool=true
   .cases af:((if t.op=4 then nn else s)[i]?)with
    |none=>rw[af]at aw;cases aw
    |some x=>simp only;rw[xac an];exact Le _
   rw[xaa an,F9]at h;cases h
def agp(vs:List V)(nx:Bool)(s nn:List Int)(t:Tm):Valid t->(dR vs nx t).2=0->(dR vs nx t).1.b=true->(e1 vs s nn t).2=true->zO (e1 vs s nn t).1:=by
 refine Tm.ind (P:=λt=>Valid t->(dR vs nx t).2=0->(dR vs nx t).1.b=true->(e1 vs s nn t).2=true->zO (e1 vs s nn t).1) ?_ t;intro t ih aN h an aw;rw[oJ]at h an;rw[rn]at aw⊢;by_cases a3:t.op<=4;.rw[xac a3]at*;exact aza aN an aw
 rw[xaa a3]at*;by_cases ao:(er vs nx t.al).2=0
 case neg=>rw[xac ao]at h;exact absurd h ao
 rw[xaa (by simpa using ao)]at h an;cases ak:g4 vs s nn t.al with
 |none=>rw[ak]at aw;cases aw
 |some l=>
  rw[ak]at aw;simp only at aw⊢;obtain⟨bb,bo⟩:=WQ vs nx s nn ao ak;obtain⟨b0,_⟩:=F3 vs nx t.al ao;have eB:=aN.op;have bz:=aN.len;have ai:=zM (op:=t.op);have xQ:=CV (op:=t.op);unfold fY;by_cases cq:t.op=6
  .rw[xac cq];exact Le _
  rw[xaa cq];by_cases fs:t.op=7;.rw[xac fs];exact Le _
  rw[xaa fs];by_cases bx:t.op=5
  .have:gK t.op=(1,1):=by rw[bx];rfl
   rw[this]at bz
   match l,bb,bo with
   |[a],bb,bo=>
    have gz:=P9 h (by omega);have:0<(er vs nx t.al).1.length:=by simp at bb;omega
    obtain⟨k,bS,bP,ca,ee,eJ⟩:=bo 0 _ a (xab this) rfl;have agq:=xat.1 gz _ (xbb this);rw[ca]at agq;have:=ih k (xad bS) (aN.cL (xad bS)) bP agq ee;rw[<-eJ]at this;simp only;rcases this with h|h<;>subst h<;>simp[zO]
   |[],bb,_=>simp at bb;simp only at bz;omega|_::_::_,bb,_=>simp at bb;simp only at bz;omega
  by_cases sr:t.op=18
  .rw[xQ sr]at bz;have azb:l.length=3:=by simp only at bz;omega
   obtain⟨a,b,c,rfl⟩:=xP azb;obtain⟨Lf,Ga,WS,aO⟩:=xP (l:=(er vs nx t.al).1) (by simp only at bz;omega);rw[aO]at h an bo;obtain⟨vW,CZ,agr⟩:=WR h (by omega);have ags:=agr an;have get:∀(i:Nat)(y:Y)(v:Int),[Lf,Ga,WS][i]?=some y->[a,b,c][i]?=some v->y.b=true->zO v:=by intro i y v aO hw azc;obtain⟨k,bS,bP,ca,ee,eJ⟩:=bo i y v aO hw;rw[eJ];exact ih k (xad bS) (aN.cL (xad bS)) bP (by rw[<-ca];exact azc) ee
   simp only;by_cases aB:a=1;.rw[xac aB];exact get 1 Ga b rfl rfl ags
   rw[xaa aB];exact get 2 WS c rfl rfl (by rw[<-CZ];exact ags)
  rw[ai (by omega)]at bz;obtain⟨a,b,rfl⟩:=sn (l:=l) (by simp only at bz;omega);obtain⟨Lf,Ga,aO⟩:=sn (l:=(er vs nx t.al).1) (by simp only at bz;omega);rw[aO]at h an;have n5:t.op<=13:=by refine xbf λaj=>?_;rw[ay9 (by omega)]at an;cases an
  simp only;have aj:t.op=8\/t.op=9\/t.op=10\/t.op=11\/t.op=12\/t.op=13:=by omega
  rcases aj with e|e|e|e|e|e<;>simp only[e]<;>exact Le _
def agt{vs:List V}{nx:Bool}{s nn:List Int}{t:Tm}{l:List Int}(aN:Valid t)(h:(dR vs nx t).2=0)(bx:5<=t.op)(ak:g4 vs s nn t.al=some l):l.length=t.al.length/\(∀v∈l,eM v=true)/\((t.op<=9->∀v∈l,v=0\/v=1)/\(t.op=18->∀v,l[0]?=some v->v=0\/v=1))/\(t.op=17->∀v,l[1]?=some v->1<=v/\v<=255):=by
 rw[oJ,xaa (by omega)]at h;by_cases ao:(er vs nx t.al).2=0
 case neg=>rw[xac ao]at h;exact absurd h ao
 rw[xaa (by simpa using ao)]at h;obtain⟨bb,bo⟩:=WQ vs nx s nn ao ak;obtain⟨b0,_⟩:=F3 vs nx t.al ao;have eB:=aN.op;have bz:=aN.len;have at_:∀(i:Nat)(v:Int),l[i]?=some v->∃k y,t.al[i]?=some k/\(er vs nx t.al).1[i]?=some y/\(dR vs nx k).2=0/\y=(dR vs nx k).1/\(e1 vs s nn k).2=true/\v=(e1 vs s nn k).1:=by
  intro i v ag;have bY:i<(er vs nx t.al).1.length:=by have:=(xae.1 ag).1;omega
  obtain⟨k,bS,bP,ca,ee,eJ⟩:=bo i _ v (xab bY) ag;exact⟨k,_,bS,xab bY,bP,ca,ee,eJ⟩
 refine⟨bb,?_,⟨?_,?_⟩,?_⟩;.intro v hm;obtain⟨i,ag⟩:=xaK.1 hm;obtain⟨k,y,bS,bP,ca,ee,eJ,fB⟩:=at_ i v ag;rw[fB];exact agn (aN.cL (xad bS)) eJ
 .intro ic v hm;obtain⟨i,ag⟩:=xaK.1 hm;obtain⟨k,y,bS,bP,ca,ee,eJ,fB⟩:=at_ i v ag;have gz:=xat.1 (P9 h ⟨bx,ic⟩) y (xad bP);rw[fB];exact agp vs nx s nn k (aN.cL (xad bS)) ca (by rw[<-ee];exact gz) eJ
 .intro sr v ag;obtain⟨k,y,bS,bP,ca,ee,eJ,fB⟩:=at_ 0 v ag;rw[CV sr]at bz;obtain⟨Lf,Ga,WS,aO⟩:=xP (l:=(er vs nx t.al).1) (by simp only at bz;omega);rw[aO]at h bP;have aR:=(WR h (by omega)).1;cases bP;rw[fB];exact agp vs nx s nn k (aN.cL (xad bS)) ca (by rw[<-ee];exact aR) eJ
 intro nv v ag;obtain⟨k,y,bS,bP,ca,ee,eJ,fB⟩:=at_ 1 v ag;rw[zM (by omega)]at bz;obtain⟨Lf,Ga,aO⟩:=sn (l:=(er vs nx t.al).1) (by simp only at bz;omega);rw[aO]at h;obtain⟨vW,CZ⟩:=ago h nv bS;have GX:=(aN.cL (xad bS)).num;have:e1 vs s nn k=(k.num,true):=by rw[rn,xac (by omega)];unfold ld;rw[xac (by omega)]
 rw[fB,this];exact⟨CZ,by simp only;omega⟩
def hd(b:Bool)(l:List Int):D:=bc 1 b (l.map λx=>[J x])
@[simp] theorem aFU (b:Bool) (l:List Int):bs (hd b l)=some (J l.length):=by simp[hd]
@[simp] theorem azd (b:Bool) (l:List Int):bZ (hd b l)=true:=by unfold hd bc;split<;>rfl
def agu{b:Bool}{l:List Int}{i:Nat}{x:Int}(h:l[i]?=some x):bp 1 (hd b l) (J (i:Int))=some [J x]:=by
 have cm:l≠[]:=by rintro rfl;simp at h
 have:hd b l= .aE 1 (l.map λx=>[J x]):=by unfold hd bc;rw[xaa (by simp[cm])]
 rw[this];simp[h]
def agv(l:List Int):hd false l=bN l:=by simp[hd,bc,bN]
theorem Qa:hd true []=cv:=rfl
variable{bn:Bool}
theorem WT{k:Nat}:c4 (k+1) (J 0)=some 0:=by rw[TR (by omega) (by omega)];rfl
theorem agw{k:Nat}:c4 (k+2) (J 1)=some 1:=by rw[TR (by omega) (by omega)];rfl
theorem aze{k:Nat}:c4 (k+3) (J 2)=some 2:=by rw[TR (by omega) (by omega)];rfl
def azf{x:Int}(ad:x≠0)(ae:x.natAbs<=9007199254740992):b9 false .quo (J 9007199254740992) (J (x.natAbs:Int))=some (J ((9007199254740992/x.natAbs:Nat):Int)):=by
 have af:(x.natAbs:Int)≠0:=by omega
 rw[abx af];have e:(9007199254740992:Int).tdiv (x.natAbs:Int)=((9007199254740992/x.natAbs:Nat):Int):=by rw[Int.tdiv_eq_ediv_of_nonneg (by omega)];rfl
 have az:=Nat.div_le_self 9007199254740992 x.natAbs;rw[e];generalize 9007199254740992/x.natAbs=q at*;rw[wrap64 _ (by omega) (by omega)]
def azg(a b:Int)(h:a≠0):(b.natAbs:Int)>((9007199254740992/a.natAbs:Nat):Int)↔eM (a*b)=false:=by
 have a1:0<a.natAbs:=by omega
 have ad:eM (a*b)=false↔9007199254740992<a.natAbs*b.natAbs:=by
  rw[<-Int.natAbs_mul];have:=kA (a*b);constructor
  .intro h;refine xbf λaj=>?_;rw[this.2 (by omega)]at h;cases h
  intro h;cases b4:eM (a*b)with|false=>rfl|true=>exact absurd (this.1 b4) (by omega)
 rw[ad,Nat.mul_comm,<-Nat.div_lt_iff_lt_mul a1];omega
set_option maxHeartbeats 2000000 in
def azh(yD:List D->Option D)(n:Nat)(vs:List V)(s nn:List Int)(t:Tm)(l:List Int)(aN:Valid t)(bY:l.length=t.al.length)(eB:5<=t.op)(aw:∀v∈l,eM v=true) (an:(t.op<=9->∀v∈l,v=0\/v=1)/\(t.op=18->∀v,l[0]?=some v->v=0\/v=1)) (hm:t.op=17->∀v,l[1]?=some v->1<=v/\v<=255) (jt:bA (zs yD n) n [bg vs,bN s,hd bn nn,J 0,J 0,J t.op,J t.num,aI t.name,bc 4 t.nl (Tm.rows t.al),.aE 1 []]=some (.inl [J (if t.op=6\/t.op=7 then l.sum else 0),J t.op,J t.num,aI t.name,bc 4 t.nl (Tm.rows t.al),bN l])):mN yD n (bg vs) t.d (bN s) (hd bn nn)=some (.aU [J (fY t.op l).1,ax (fY t.op l).2]):=by
 have uo:=aN.op;have bz:=aN.len;have aX:=Tm.qc t;have bl:=Tm.tk t;have bu:=Tm.ve t;have bT:=Tm.tl t;have dL:=Tm.jn t;have ai:=zM (op:=t.op);have xQ:=CV (op:=t.op);have K8:=aN.F4;have ij:=age n;have qs:=agf n;have es:∀l:List Int,aP (bN l)=l.map λv=>[J v]:=λ_=>rfl;have Lg:∀b:Bool,eM (tr b)=true:=WO;by_cases ur:t.op=6\/t.op=7
 .generalize t.op=op at*;rcases ur with rfl|rfl
  .simp[mN,dL,aX,bl,bu,bT,jt,es,ij,qs,fY,Lg];rfl
  simp[mN,dL,aX,bl,bu,bT,jt,es,ij,qs,fY,Lg]
 by_cases bx:t.op=5
 .have:gK t.op=(1,1):=by rw[bx];rfl
  rw[this]at bz;have oU:l.length=1:=by simp only at bz;omega
  match l,oU with|[a],_=>have aB:=an.1 (by omega) a (by simp);have aZ:b9 false .sub (J 1) (J a)=some (J (1-a)):=mA (by omega) (by omega);generalize t.op=op at*;subst bx;simp[mN,dL,aX,bl,bu,bT,jt,es,qs,fY,WT,aZ]
 by_cases sr:t.op=18;.rw[xQ sr]at bz;obtain⟨a,b,c,rfl⟩:=xP (l:=l) (by simp only at bz;omega);generalize t.op=op at*;subst sr;by_cases aB:a=1<;>simp[mN,dL,aX,bl,bu,bT,jt,es,qs,fY,WT,agw,aze,aB]
 rw[ai (by omega)]at bz;obtain⟨a,b,rfl⟩:=sn (l:=l) (by simp only at bz;omega);have WM:=(kA a).1 (aw a (by simp));have agl:=(kA b).1 (aw b (by simp));have nf:c4 2 (J 0)=some 0:=WT;have m8:c4 2 (J 1)=some 1:=agw;by_cases nv:t.op=17
 .obtain⟨bS,bP⟩:=hm nv b rfl;have gu:=K9 (a:=a) bS;have Lb:b≠0:=by omega
  have jG:b9 false .add (J (a.tmod b)) (J b)=some (J (a.tmod b+b)):=fg (by omega) (by omega);have aZ:b9 false .rem (J a) (J b)=some (J (a.tmod b)):=HV Lb;have a6:b9 false .rem (J (a.tmod b+b)) (J b)=some (J ((a.tmod b+b).tmod b)):=HV Lb;generalize t.op=op at*;subst nv;simp[mN,dL,aX,bl,bu,bT,jt,es,qs,fY,nf,m8,aZ,a6,jG]
 by_cases fO:t.op=16
 .have agx:=agh n a (by omega);have agy:=agh n b (by omega);have Qb:=azg a b;have Qc:=agc WM agl;generalize t.op=op at*;subst fO;by_cases aB:a=0
  .subst aB;have aZ:b9 false .mul (J 0) (J b)=some (J 0):=by rw[NK (by omega) (by omega),Int.zero_mul]
   simp[mN,dL,aX,bl,bu,bT,jt,es,qs,fY,nf,m8,aZ,show eM 0=true from rfl]
  have b4:=azf aB WM;have Qb:=Qb aB;have Ht:(a==0)=false:=by simpa using aB
  generalize 9007199254740992/a.natAbs=q at*;by_cases ba:eM (a*b)=true
  .have ad:¬((b.natAbs:Int)>(q:Int)):=λh=>by rw[Qb.1 h]at ba;cases ba
   have dN:decide ((b.natAbs:Int)>(q:Int))=false:=xao ad;have aFV:=(kA _).1 ba;have aZ:b9 false .mul (J a) (J b)=some (J (a*b)):=NK (by omega) (by omega);have a6:b9 false .gtr (J (b.natAbs:Int)) (J (q:Int))=some (ax false):=by rw[o8,dN]
   simp[mN,dL,aX,bl,bu,bT,jt,es,qs,fY,nf,m8,agx,agy,b4,a6,aZ,ba,aB]
  have Lh:eM (a*b)=false:=by simpa using ba
  have dN:decide ((b.natAbs:Int)>(q:Int))=true:=xag (Qb.2 Lh);have a6:b9 false .gtr (J (b.natAbs:Int)) (J (q:Int))=some (ax true):=by rw[o8,dN]
  simp[mN,dL,aX,bl,bu,bT,jt,es,qs,fY,nf,m8,agx,agy,b4,a6,Lh,aB]
 have aj:t.op=8\/t.op=9\/t.op=10\/t.op=11\/t.op=12\/t.op=13\/t.op=14\/t.op=15:=by omega
 have mn:b9 false .add (J a) (J b)=some (J (a+b)):=fg (by omega) (by omega);have azi:b9 false .sub (J a) (J b)=some (J (a-b)):=mA (by omega) (by omega);have aFW:∀x y:Int,q8 n [ax (x==y)]=some (J (tr (x==y))):=λ_ _=>ij _;generalize t.op=op at*;rcases aj with rfl|rfl|rfl|rfl|rfl|rfl|rfl|rfl
 .by_cases uu:a=0;.simp[mN,dL,aX,bl,bu,bT,jt,es,ij,qs,fY,Lg,nf,m8,uu]
  have Lc:(a==0)=false:=by simpa using uu
  simp[mN,dL,aX,bl,bu,bT,jt,es,ij,qs,fY,Lg,nf,m8,uu,Lc]
 all_goals simp[mN,dL,aX,bl,bu,bT,jt,es,ij,qs,fY,Lg,nf,m8,mn,azi]
variable{bn:Bool}
def agz{a b:Nat}(h:a+b<=1000):dd (a+b) 8=true:=gC (by omega) (by omega)
def agA{vs:List V}{nx:Bool}{t:Tm}(h:(lb vs nx t).2=0)(az:3<=t.op):∃i,eU vs t.name=some i:=by
 unfold lb at h;rw[xaa (by omega),xaa (by omega)]at h;cases ag:eU vs t.name with
 |none=>rw[ag]at h;cases h
 |some i=>exact⟨i,rfl⟩
def WU{vs:List V}{nx:Bool}:∀{l:List Tm},(er vs nx l).2=0->∀k∈l,(dR vs nx k).2=0
 |[],_,k,ai=>by cases ai
 |t::r,h,k,ai=>by
  rw[er]at h;by_cases ad:(dR vs nx t).2=0
  case neg=>rw[xac ad]at h;exact absurd h ad
  rw[xaa (by simpa using ad)]at h;by_cases ae:(er vs nx r).2=0
  case neg=>rw[xac ae]at h;exact absurd h ae
  rcases xas.1 ai with rfl|ai;.exact ad
  exact WU ae k ai
def Li{vs:List V}{nx:Bool}{t k:Tm}(aN:Valid t)(h:(dR vs nx t).2=0)(ai:k∈t.al):(dR vs nx k).2=0:=by
 rw[oJ]at h;by_cases a3:t.op<=4;.rw[aN.leaf a3]at ai;cases ai
 rw[xaa a3]at h;by_cases ao:(er vs nx t.al).2=0;.exact WU ao k ai
 rw[xac ao]at h;exact absurd h ao
def WV{vs:List V}{i:Nat}{l:List Int}(h:i<vs.length)(ak:l.length=vs.length):∃x,l[i]?=some x:=⟨_,xab (by omega)⟩
@[simp] theorem aFX (p:List Int) (x:Int):D.aE 1 (aP (bN p)++[[J x]])=bN (p++[x]):=by simp[bN]
@[simp] theorem aFY (p:List Int):(aP (bN p)).length=p.length:=by simp[bN]
@[simp] theorem aFZ (p:List Int):D.aE 1 (aP (bN p))=bN p:=rfl
def agB(vs:List V)(nx:Bool)(s nn:List Int)(ns:vs.length<1000000000000)(aD:s.length=vs.length):∀(n:Nat)(t:Tm),t.a9+200+vs.length<n->t.bR->Valid t->(dR vs nx t).2=0->(steps t=true->nn.length=vs.length)->ub n [bg vs,t.d,bN s,hd bn nn]=some (.aU [J (e1 vs s nn t).1,ax (e1 vs s nn t).2])
 |0,t,h,_,_,_,_=>absurd h (xar _)
 |n+1,t,aH,a4,aN,aQ,hB=>by
  have eB:=aN.op;have K8:=aN.F4;rw[rn];show mN (ub n) n (bg vs) t.d (bN s) (hd bn nn)=_;by_cases a3:t.op<=4
  .rw[xac a3];rw[oJ,xac a3]at aQ;have aX:=Tm.qc t;have bl:=Tm.tk t;have bu:=Tm.ve t;have bT:=Tm.tl t;have dL:=Tm.jn t;have ij:=age n;have qs:=agf n;by_cases ae:t.op<=2
   .unfold ld;rw[xac ae];have aj:t.op=1\/t.op=2:=by omega
    generalize t.op=op at*;rcases aj with rfl|rfl<;>simp[mN,dL,aX,bl,bu,bT]
   obtain⟨i,ag⟩:=agA aQ (by omega);obtain⟨v,v1,v2,tb⟩:=zN ag;have af:=WE n vs t.name (by omega) ns;rw[ag]at af;have bz:(if t.op=4 then nn else s).length=vs.length:=by
    by_cases h:t.op=4;.rw[xac h];exact hB (by rw[P8,h];rfl)
    rw[xaa h];exact aD
   have cb:n4 vs s nn t=some i:=by unfold n4;rw[xac bz,ag]
   obtain⟨x,ss⟩:=WV tb bz;unfold ld;rw[xaa ae,cb];simp only[v1,ss];have aj:t.op=3\/t.op=4:=by omega
   generalize t.op=op at*;rcases aj with rfl|rfl
   .simp only[show¬((3:Int)=4) by omega,xaB]at ss;cases an:v.bool<;>simp[mN,dL,aX,bl,bu,bT,af,kz v1,v.xR,nu ss,ij,qs,an]
   simp only[xay]at ss;cases an:v.bool<;>simp[mN,dL,aX,bl,bu,bT,af,kz v1,v.xR,agu ss,ij,qs,an]
  rw[xaa a3];have azj:∀k∈t.al,steps k=true->nn.length=vs.length:=λk ai h=>by refine hB ?_;cases b4:qq t.al with|true=>rw[P8,b4,Bool.or_true]|false=>rw[agm ai b4]at h;cases h
  have ak:=dp (f:=zs (ub n) n) t.al (λi (p:List Int)=>[bg vs,bN s,hd bn nn,J (if t.op=6\/t.op=7 then p.sum else 0),J (i:Int),J t.op,J t.num,aI t.name,bc 4 t.nl (Tm.rows t.al),bN p]) (λr p=>match g4 vs s nn r with
    |some l=>(Sum.inl [J (if t.op=6\/t.op=7 then(p++l).sum else 0),J t.op,J t.num,aI t.name,bc 4 t.nl (Tm.rows t.al),bN (p++l)]:List D⊕D)
    |none=> .inr (.aU [J 0,ax false]))
   (λi p=>p.length=i/\∀v∈p,eM v=true) ?_ ?_ n 0 [] ⟨rfl,by simp⟩ (by omega) (xah _)
  .have bK:(J ((0:Nat):Int))=J 0:=rfl;have aZ:bN []= .aE 1 []:=rfl;rw[bK,aZ]at ak;simp only[List.sum_nil,ite_self,xak,xaO]at ak;cases kS:g4 vs s nn t.al with
   |none=>
    rw[kS]at ak;have fv:(t.op==1)=false:=by simp;omega
    have gS:(t.op==2)=false:=by simp;omega
    have ig:(t.op==3)=false:=by simp;omega
    have mT:(t.op==4)=false:=by simp;omega
    simp[mN,fv,gS,ig,mT,ak]
   |some l=>rw[kS]at ak;obtain⟨bb,bo,b0,eR⟩:=agt (nx:=nx) aN aQ (by omega) kS;exact azh (ub n) n vs s nn t l aN bb (by omega) bo b0 eR ak
  .intro p a1;simp[zs,g4]
  intro i a p aB ag a1;have hm:=xad aB;have bF:=Tm.fb hm;have aw:=agB vs nx s nn ns aD n a (by omega) (a4.cL hm) (aN.cL hm) (Li aN aQ hm) (azj a hm);have eo:dd (p.length+1) 8=true:=agz (by omega);by_cases ao:(e1 vs s nn a).2=true
  .left;have fU:=agn (aN.cL hm) ao;refine⟨p++[(e1 vs s nn a).1],?_,?_,by simp[a1.1],?_⟩
   .have pR:=WL p a1.2;have sJ:=(kA _).1 fU;have gF:b9 false .add (J p.sum) (J (e1 vs s nn a).1)=some (J (p.sum+(e1 vs s nn a).1)):=fg (by omega) (by omega);by_cases ur:t.op=6\/t.op=7
    .have aF0:(if t.op=6 then true else decide (t.op=7))=true:=by rcases ur with h|h<;>simp[h]
     rcases ur with h|h;.simp[zs,ag,Tm.dz aB,aw,ao,cl (bt:=false) (i:=i) (by omega),eo,h,gF]
     simp[zs,ag,Tm.dz aB,aw,ao,cl (bt:=false) (i:=i) (by omega),eo,h,gF]
    have cq:¬t.op=6:=λh=>ur (.inl h);have fs:¬t.op=7:=λh=>ur (.inr h);simp[zs,ag,Tm.dz aB,aw,ao,cl (bt:=false) (i:=i) (by omega),eo,cq,fs]
   .rw[g4,xac ao];cases g4 vs s nn (t.al.drop (i+1))with|none=>rfl|some l=>simp
   intro v kT;rcases xaJ.1 kT with h|h
   .exact a1.2 v h
   simp at h;rw[h];exact fU
  right;rw[g4,xaa ao];have C0:(e1 vs s nn a).2=false:=by simpa using ao
  simp[zs,ag,Tm.dz aB,aw,C0]
theorem azk{M:List (Value×D)}(h:mE M){z:Value}{x:ByteArray}:k6 .string z false M (aI x)=some (match gV M x with|some d=>d|none=>sH z):=by simp only[k6,aI,abS h];cases gV M x<;>rfl
def Gb(p:Int×Bool):bk 0 (gH p)=some (J (if p.2=true then p.1 else 0)):=by obtain⟨v,o⟩:=p;cases o<;>simp[gH]
def Gc(p:Int×Bool):bk 1 (gH p)=some (ax p.2):=by obtain⟨v,o⟩:=p;cases o<;>simp[gH]
def Gd(p:Int×Bool):D.aU [J (if p.2=true then p.1 else 0),ax p.2]=gH p:=by obtain⟨v,o⟩:=p;cases o<;>simp[gH]
theorem azl(p:Int×Bool):(gH p).flat=true:=by obtain⟨v,o⟩:=p;cases o<;>rfl
def agC(vs:List V)(nx:Bool)(s nn:List Int)(M:List (Value×D))(c6:PZ M vs)(ns:vs.length<1000000000000)(aD:s.length=vs.length)(fU:∀v,v∈s\/v∈nn->-9223372036854775808<=v/\v<=9223372036854775807):∀(n:Nat)(t:Tm),t.a9+200<n->t.bR->Valid t->(dR vs nx t).2=0->xp n [t.d,bN s,.mp M,hd bn nn,bg vs]=some [gH (e1 vs s nn t),bN s,.mp M,hd bn nn,bg vs]
 |0,t,h,_,_,_=>absurd h (xar _)
 |n+1,t,aH,a4,aN,aQ=>by
  have eB:=aN.op;have K8:=aN.F4;rw[rn];show xo (xp n) n [t.d,bN s,.mp M,hd bn nn,bg vs]=_;have ak:=dp (f:=Jy (xp n) n) t.al (λi (p:List Int)=>[bc 4 t.nl (Tm.rows t.al),J t.al.length,J (i:Int),bN s,.mp M,hd bn nn,bg vs,J t.op,J t.num,aI t.name,bc 4 t.nl (Tm.rows t.al),bN p]) (λr p=>match g4 vs s nn r with|some l=>(Sum.inl [bN s,.mp M,hd bn nn,bg vs,J t.op,J t.num,aI t.name,bc 4 t.nl (Tm.rows t.al),bN (p++l)]:List D⊕List D)|none=> .inr [.aU [J 0,ax false],bN s,.mp M,hd bn nn,bg vs])
   (λi p=>p.length=i) ?_ ?_ n 0 [] rfl (by omega) (xah _)
  .have bK:(J ((0:Nat):Int))=J 0:=rfl;have aZ:bN []= .aE 1 []:=rfl;have Ge:D.aU [J 0,ax false]=gH (0,false):=rfl;rw[bK,aZ]at ak;simp only[xak,xaO]at ak;have aX:=Tm.qc t;have bl:=Tm.tk t;have bu:=Tm.ve t;have bT:=Tm.tl t;have dL:=Tm.jn t;by_cases a3:t.op<=4
   .rw[xac a3];rw[oJ,xac a3]at aQ;have ai:=aN.leaf a3;rw[ai]at ak;have vX:((([]:List Tm).length:Nat):Int)=0:=rfl;simp only[g4,xaD,vX]at ak;have aF1:D.aE 1 []=bN []:=rfl;have ij:=agd n;by_cases ae:t.op<=2
    .unfold ld;rw[xac ae];have aj:t.op=1\/t.op=2:=by omega
     generalize t.op=op at*;rcases aj with rfl|rfl<;>simp[xo,dL,aX,bl,bu,bT,ai,ak,gH]
    obtain⟨i,ag⟩:=agA aQ (by omega);obtain⟨v,v1,v2,tb⟩:=zN ag;have vP:=azk c6.1 (z:= .int .i64 0) (x:=t.name);rw[c6.2,ag]at vP;simp only[xaQ]at vP;have u4:nO (.mp M)=some M:=rfl;unfold ld;rw[xaa ae];have aj:t.op=3\/t.op=4:=by omega
    have aF2:(t.op==3||t.op==4)=true:=by rcases aj with h|h<;>simp[h]
    by_cases bz:(if t.op=4 then nn else s).length=vs.length
    .have cb:n4 vs s nn t=some i:=by unfold n4;rw[xac bz,ag]
     obtain⟨x,ss⟩:=WV tb bz;have FU:=xad ss;rw[cb];simp only[v1,ss];have La:qp (x+0) true=gH (x,eM x):=by rw[agi,Int.add_zero]
     generalize t.op=op at*;rcases aj with rfl|rfl
     .simp only[show¬((3:Int)=4) by omega,xaB]at ss FU bz;have ef:=P2 n x 0 (fU x (.inl FU)) (by omega);rw[La]at ef;cases an:v.bool<;>simp[xo,dL,aX,bl,bu,bT,ai,ak,u4,vP,sq,g3,bz,kz v1,v.xR,nu ss,ij,an,ef,Gb,Gc,Gd]<;>(try exact Gd (x,eM x))<;>(try rfl)
     simp only[xay]at ss FU bz;have ef:=P2 n x 0 (fU x (.inr FU)) (by omega);rw[La]at ef;cases an:v.bool<;>simp[xo,dL,aX,bl,bu,bT,ai,ak,u4,vP,sq,g3,bz,kz v1,v.xR,agu ss,ij,an,ef,Gb,Gc,Gd]<;>(try exact Gd (x,eM x))<;>(try rfl)
    have cb:n4 vs s nn t=none:=by unfold n4;rw[xaa bz]
    rw[cb];have lZ:t.op=4:=by refine aj.resolve_left λh=>bz ?_;rw[xaa (by omega)];exact aD
    rw[xac lZ]at bz;generalize t.op=op at*;subst lZ;have cm:¬((nn.length:Int)=(vs.length:Int)):=by omega
    simp[xo,dL,aX,bl,bu,bT,ai,ak,u4,vP,sq,g3,bz,cm]<;>(try rfl)
   rw[xaa a3];have fv:(t.op==1)=false:=by simp;omega
   have gS:(t.op==2)=false:=by simp;omega
   have ig:(t.op==3)=false:=by simp;omega
   have mT:(t.op==4)=false:=by simp;omega
   cases kS:g4 vs s nn t.al with
   |none=>rw[kS]at ak;simp[xo,dL,aX,bl,bu,bT,ak]<;>(try rfl)
   |some l=>rw[kS]at ak;obtain⟨bb,bo,b0,eR⟩:=agt (nx:=nx) aN aQ (by omega) kS;have aR:=ay1 n t l aN bb (by omega) bo (by omega) b0 eR;simp[xo,dL,aX,bl,bu,bT,ak,fv,gS,ig,mT,aR,azl,Gb,Gc,Gd]
  .intro p a1;simp[Jy,g4]
  intro i a p aB ag a1;have hm:=xad aB;have bF:=Tm.fb hm;have aw:=agC vs nx s nn M c6 ns aD fU n a (by omega) (a4.cL hm) (aN.cL hm) (Li aN aQ hm);have eo:dd (p.length+1) 8=true:=agz (by omega);by_cases ao:(e1 vs s nn a).2=true
  .left;refine⟨p++[(e1 vs s nn a).1],?_,?_,by simp[a1]⟩;.simp[Jy,ag,Tm.dz aB,aw,ao,cl (bt:=false) (i:=i) (by omega),eo,Gb,Gc]
   rw[g4,xac ao];cases g4 vs s nn (t.al.drop (i+1))with|none=>rfl|some l=>simp
  right;rw[g4,xaa ao];have C0:(e1 vs s nn a).2=false:=by simpa using ao
  simp[Jy,ag,Tm.dz aB,aw,C0,Gb,Gc]
def agD:∀(n:Nat)(t:Tm),t.a9<n->t.bR->ua n [t.d]=some (ax (steps t))
 |0,t,h,_=>absurd h (xar _)
 |n+1,t,aH,a4=>by
  have bz:=a4.len;rw[P8];have ak:=dp (f:=Kw (ua n) n) t.al (λi (_:Unit)=>[J (i:Int),J t.op,J t.num,aI t.name,bc 4 t.nl (Tm.rows t.al)]) (λr _=>if qq r=true then(Sum.inr (ax true):List D⊕D)else .inl []) (λ_ _=>True) (λ_ _=>by simp[Kw,qq]) ?_ n 0 () trivial (by have:=t.g9;omega) (xah _)
  .have bK:(J ((0:Nat):Int))=J 0:=rfl;rw[bK]at ak;simp only[xak]at ak;by_cases a3:t.op=4;.simp[ua,Pg,a3]
   have mT:(t.op==4)=false:=by simpa using a3
   cases aD:qq t.al<;>simp[ua,Pg,a3,ak,aD]
  intro i a _ aB ag _;have hm:=xad aB;have bF:=Tm.fb hm;have aw:=agD n a (by omega) (a4.cL hm);cases aD:steps a
  .left;exact⟨(),by simp[Kw,ag,Tm.dz aB,aw,aD,cl (bt:=false) (i:=i) (by omega)],by simp[qq,aD],trivial⟩
  right;simp[Kw,ag,Tm.dz aB,aw,aD,qq]
def agE{vs:List V}{s nn:List Int}:∀{l:List Tm}{r:List Int},g4 vs s nn l=some r->∀k∈l,(e1 vs s nn k).2=true
 |[],_,_,k,ai=>by cases ai
 |t::q,r,h,k,ai=>by
  rw[g4]at h;by_cases ad:(e1 vs s nn t).2=true
  case neg=>rw[xaa ad]at h;cases h
  rw[xac ad]at h;cases ae:g4 vs s nn q with
  |none=>rw[ae]at h;cases h
  |some l=>
   rcases xas.1 ai with rfl|ai;.exact ad
   exact agE ae k ai
def agF:∀{l:List Tm},qq l=true->∃k∈l,steps k=true
 |a::r,h=>by rw[qq]at h;cases aB:steps a with|true=>exact⟨a,by simp,aB⟩|false=>rw[aB,xbv]at h;obtain⟨k,ad,ae⟩:=agF h;exact⟨k,by simp[ad],ae⟩
def azm{vs:List V}{s nn:List Int}(cm:nn.length≠vs.length)(t:Tm):Valid t->steps t=true->(e1 vs s nn t).2=false:=by
 refine Tm.ind (P:=λt=>Valid t->steps t=true->(e1 vs s nn t).2=false) ?_ t;intro t ih aN h;rw[rn];rw[P8]at h;by_cases a3:t.op<=4
 .rw[xac a3];have lZ:t.op=4:=by
   rw[aN.leaf a3]at h;simpa[qq]using h
  unfold ld;rw[xaa (by omega)];have:n4 vs s nn t=none:=by unfold n4;rw[xac lZ,xaa cm]
  rw[this]
 rw[xaa a3];have an:(t.op==4)=false:=by simp;omega
 rw[an,xbv]at h;obtain⟨k,ad,ae⟩:=agF h;cases ak:g4 vs s nn t.al with|none=>rfl|some l=>have:=agE ak k ad;rw[ih k ad (aN.cL ad) ae]at this;cases this
def ir(vs:List V)(t:Tm)(s nn:List Int):Int×Bool:=if(gb vs true t).2≠0\/s.length≠vs.length then(0,false)else e1 vs s nn t
def Lj{vs:List V}{nx:Bool}{t:Tm}(h:(gb vs nx t).2=0):Valid t/\(dR vs nx t).2=0:=by
 unfold gb at h;by_cases aj:(cT t 1 0).1=0;.rw[xaa (by simpa using aj)]at h;exact⟨⟨1,0,aj⟩,h⟩
 rw[xac aj]at h;exact absurd h aj
def WW(n:Nat)(vs:List V)(t:Tm)(s nn:List Int)(aH:t.a9+200+vs.length<n)(a4:t.bR)(ns:vs.length<1000000000000)(fU:∀v,v∈s\/v∈nn->-9223372036854775808<=v/\v<=9223372036854775807):sa n [bg vs,t.d,bN s,hd bn nn]=some (gH (ir vs t s nn)):=by
 have ad:=WI n vs t true aH a4 ns;obtain⟨M,gu,lr⟩:=af4 n vs (by omega) ns;have gT:bZ (bg vs)=true:=rfl;have lV:∀l,bZ (bN l)=true:=λ_=>rfl;have Ge:D.aU [J 0,ax false]=gH (0,false):=rfl;unfold ir;by_cases aQ:(gb vs true t).2=0
 .by_cases aD:s.length=vs.length
  .obtain⟨aN,fI⟩:=Lj aQ;have aF:=agC (bn:=bn) vs true s nn M lr ns aD fU n t (by omega) a4 aN fI;have Qd:((s.length:Int) !=(vs.length:Int))=false:=by simp[aD]
   simp[sa,ON,gT,lV,ad,aQ,aD,sq,g3,gu,aF,Gb,Gc,Gd]
  have Qd:¬((s.length:Int)=(vs.length:Int)):=by omega
  simp[sa,ON,gT,lV,ad,aQ,aD,sq,g3,Qd];exact Ge
 simp[sa,ON,gT,lV,ad,aQ];exact Ge
def WX(n:Nat)(vs:List V)(t:Tm)(s nn:List Int)(aH:t.a9+200+vs.length<n)(a4:t.bR)(ns:vs.length<1000000000000):oG n [bg vs,t.d,bN s,hd bn nn]=some (gH (ir vs t s nn)):=by
 have ad:=P0 n vs t true aH a4 ns;have ae:=agD n t (by omega) a4;have Ge:D.aU [J 0,ax false]=gH (0,false):=rfl;unfold ir;by_cases aQ:(gb vs true t).2=0
 .by_cases aD:s.length=vs.length
  .obtain⟨aN,fI⟩:=Lj aQ;by_cases hB:steps t=true/\nn.length≠vs.length
   .have azn:=azm (s:=s) hB.2 t aN hB.1;have azo:¬((nn.length:Int)=(vs.length:Int)):=by have:=hB.2;omega
    have aw:gH (e1 vs s nn t)= .aU [J 0,ax false]:=by unfold gH;rw[xaa (by simp[azn])]
    simp[oG,Fw,ad,ae,aQ,aD,sq,g3,hB.1,azo,aw]
   have aF:=agB (bn:=bn) vs true s nn ns aD n t aH a4 aN fI (λh=>by refine xbf λaj=>hB ⟨h,aj⟩);have aw:gH (e1 vs s nn t)=if(e1 vs s nn t).2=true then .aU [J (e1 vs s nn t).1,ax true]else .aU [J 0,ax false]:=rfl
   by_cases WY:steps t=true;.have vf:nn.length=vs.length:=xbf λaj=>hB ⟨WY,aj⟩;cases an:(e1 vs s nn t).2<;>simp[oG,Fw,ad,ae,aQ,aD,sq,g3,WY,vf,aF,an,aw]
   have azp:steps t=false:=by simpa using WY
   cases an:(e1 vs s nn t).2<;>simp[oG,Fw,ad,ae,aQ,aD,sq,g3,azp,aF,an,aw]
  have Qd:¬((s.length:Int)=(vs.length:Int)):=by omega
  simp[oG,Fw,ad,ae,aQ,aD,sq,g3,Qd];exact Ge
 simp[oG,Fw,ad,ae,aQ];exact Ge
def agG{lo ag x y:Int}(ad:lo<=x)(ae:x<=ag):mb (lo*y) (ag*y)<=x*y/\x*y<=gq (lo*y) (ag*y):=by
 by_cases aO:0<=y;.have a:=Int.mul_le_mul_of_nonneg_right ad aO;have b:=Int.mul_le_mul_of_nonneg_right ae aO;unfold mb gq;constructor<;>split<;>omega
 have a:=Int.mul_le_mul_of_nonpos_right ad (show y<=0 by omega);have b:=Int.mul_le_mul_of_nonpos_right ae (show y<=0 by omega);unfold mb gq;constructor<;>split<;>omega
def agH{lo ag x y:Int}(ad:lo<=x)(ae:x<=ag):mb (y*lo) (y*ag)<=y*x/\y*x<=gq (y*lo) (y*ag):=by have:=agG (y:=y) ad ae;rw[Int.mul_comm lo y,Int.mul_comm ag y,Int.mul_comm x y]at this;exact this
def azq{a b:Y}{x y:Int}(af:a.lo<=x/\x<=a.ag)(aO:b.lo<=y/\y<=b.ag):F1 a b<=x*y/\x*y<=F2 a b:=by have ad:=agG (y:=y) af.1 af.2;have ae:=agH (y:=a.lo) aO.1 aO.2;have az:=agH (y:=a.ag) aO.1 aO.2;unfold F1 F2;generalize x*y=p at*;generalize a.lo*y=q at*;generalize a.ag*y=r at*;generalize a.lo*b.lo=s at*;generalize a.lo*b.ag=t at*;generalize a.ag*b.lo=u at*;generalize a.ag*b.ag=v at*;unfold mb gq at*;omega
def azr{lo ag v:Int}(h:(hy lo ag).2=0)(ad:lo<=v)(ae:v<=ag):(hy lo ag).1.lo<=v/\v<=(hy lo ag).1.ag:=by
 unfold hy at*;split at h;.cases h
 rename_i aj;rw[xaa aj];exact⟨ad,ae⟩
def iu(vs:List V)(s:List Int):Prop:=s.length=vs.length/\∀(i:Nat)(v:V)(x:Int),vs[i]?=some v->s[i]?=some x->if v.bool then x=0\/x=1 else v.lo<=x/\x<=v.ag
def within(y:Y)(v:Int):Prop:=if y.b then v=0\/v=1 else y.lo<=v/\v<=y.ag
def zP{lo ag v:Int}(h:(hy lo ag).2=0)(ad:lo<=v)(ae:v<=ag):within (hy lo ag).1 v:=by unfold within;rw[F9];exact azr h ad ae
def xS{y:Y}{b:Bool}(h:y.b=true):within y (tr b):=by unfold within;rw[xac h];exact Le b
def agI{lo ag:Int}(h:(hy lo ag).2=0):-1048576<=lo/\ag<=1048576/\lo<=ag:=by
 unfold hy at h;split at h;.cases h
 omega
def azs{vs:List V}{s nn:List Int}{t:Tm}(aD:iu vs s)(aH:iu vs nn)(aN:Valid t)(h:(lb vs true t).2=0):(ld vs s nn t).2=true/\within (lb vs true t).1 (ld vs s nn t).1:=by
 have vM:=aN.num;unfold lb at*;unfold ld;by_cases ad:t.op=1;.rw[xac ad]at*;rw[xac (by omega)];exact⟨rfl,zP h (Int.le_refl _) (Int.le_refl _)⟩
 rw[xaa ad]at*;by_cases ae:t.op=2;.rw[xac ae]at*;rw[xac (by omega)];refine⟨rfl,?_⟩;unfold within;simp only[jK,xay];omega
 rw[xaa ae]at*;have eB:=aN.op;rw[xaa (show¬t.op<=2 by omega)];cases ag:eU vs t.name with
 |none=>rw[ag]at h;cases h
 |some i=>
  rw[ag]at h;simp only at h⊢;obtain⟨v,v1,v2,tb⟩:=zN ag;have agJ:¬(t.op=4/\true=false):=by simp
  rw[xaa agJ,v1]at h;rw[xaa agJ,v1];simp only at h⊢;have zG:iu vs (if t.op=4 then nn else s):=by split<;>assumption
  have cb:n4 vs s nn t=some i:=by unfold n4;rw[xac zG.1,ag]
  obtain⟨x,af⟩:=WV tb zG.1;rw[cb];simp only[af,v1];have aw:=zG.2 i v x v1 af;by_cases an:v.bool=true
  .rw[xac an]at*;rw[xac an];exact⟨rfl,xS rfl⟩
  rw[xaa an]at*;rw[xaa an];have my:=agI h;exact⟨(kA _).2 (by omega),zP h aw.1 aw.2⟩
def azt{l:List Y}{rp:List Int}(ak:l.all Y.b=true)(bz:rp.length=l.length)(h:∀(i:Nat)(y:Y)(v:Int),l[i]?=some y->rp[i]?=some v->within y v):∀v∈rp,v=0\/v=1:=by
 intro v aN;obtain⟨i,ag⟩:=xaK.1 aN;have bY:i<l.length:=by have:=(xae.1 ag).1;omega
 have aO:=xab bY;have an:=xat.1 ak _ (xbb bY);have hw:=h i _ v aO ag;unfold within at hw
 rwa [xac an]at hw
def azu{t:Tm}{a b c:Y}(h:¬(5<=t.op/\t.op<=9)):g2 t [a,b,c]=if(!a.b||(b.b !=c.b))then(fK,13)else if b.b then(jK,0)else hy (mb b.lo c.lo) (gq b.ag c.ag):=by unfold g2;rw[xaa h]
def azv{t:Tm}{a b:Y}(h:¬(5<=t.op/\t.op<=9)):g2 t [a,b]=if t.op=10\/t.op=11 then if a.b !=b.b then(fK,13)else(jK,0)
   else if(a.b||b.b)then(fK,13)
   else if t.op=12\/t.op=13 then(jK,0)
   else if t.op=17 then(match t.al[1]? with
    |some k=>if k.op≠1\/k.num<1 then(fK,2)else hy 0 (k.num-1)
    |none=>(fK,0))
   else qo t.op a b:=by
 unfold g2;rw[xaa h]<;>rfl
def azw{op a b c:Int}(cq:¬op=6)(fs:¬op=7):fY op [a,b,c]=(if a=1 then b else c,eM (if a=1 then b else c)):=by unfold fY;rw[xaa cq,xaa fs]
def azx{op a b:Int}(cq:¬op=6)(fs:¬op=7):fY op [a,b]=if op=8 then(tr (a==0||b==1),true)else if op=9\/op=10 then(tr (a==b),true)else if op=11 then(tr (a !=b),true)
   else if op=12 then(tr (decide (a<b)),true)else if op=13 then(tr (decide (a<=b)),true)
   else if op=14 then(a+b,eM (a+b))else if op=15 then(a-b,eM (a-b))
   else if op=16 then if eM (a*b)then(a*b,true)else(0,false)
   else((a.tmod b+b).tmod b,eM ((a.tmod b+b).tmod b)):=by
 unfold fY;rw[xaa cq,xaa fs]
def azy{t:Tm}{l:List Y}{rp:List Int}(aN:Valid t)(bx:5<=t.op)(aR:(g2 t l).2=0)(bV:∀y∈l,y.lI)(bz:l.length=t.al.length)(kS:rp.length=l.length) (hw:∀(i:Nat)(y:Y)(v:Int),l[i]?=some y->rp[i]?=some v->within y v) (hm:t.op=17->∀k v,t.al[1]?=some k->rp[1]?=some v->v=k.num):(fY t.op rp).2=true/\within (g2 t l).1 (fY t.op rp).1:=by
 have eB:=aN.op;have C1:=aN.len;have Qe:5<=t.op/\t.op<=9->(g2 t l).1.b=true:=λh=>by have:=P9 aR h;unfold g2;rw[xac h,xac this];rfl
 by_cases ur:t.op=6\/t.op=7
 .have an:=Qe (by omega);unfold fY;rcases ur with h|h
  .rw[xac h];exact⟨rfl,xS an⟩
  rw[xaa (by omega),xac h];exact⟨rfl,xS an⟩
 by_cases kH:t.op=5
 .have an:=Qe (by omega);have:gK t.op=(1,1):=by rw[kH];rfl
  rw[this]at C1;have uo:rp.length=1:=by simp only at C1;omega
  match rp,uo,kS,hw with|[a],_,kS,hw=>have aB:=azt (P9 aR (by omega)) kS hw a (by simp);have fU:eM (1-a)=true:=(kA _).2 (by omega);unfold fY;rw[xaa (by omega),xaa (by omega)];refine⟨fU,?_⟩;unfold within;rw[xac an];simp only;omega
 have cq:¬t.op=6:=by omega
 have fs:¬t.op=7:=by omega
 by_cases sr:t.op=18
 .rw[CV sr]at C1;obtain⟨a,b,c,rfl⟩:=xP (l:=l) (by simp only at C1;omega);obtain⟨x,y,z,rfl⟩:=xP (l:=rp) (by simpa using kS);have Qf:¬(5<=t.op/\t.op<=9):=by omega
  obtain⟨vW,CZ,agr⟩:=WR aR Qf;have sR:=hw 0 a x rfl rfl;have rO:=hw 1 b y rfl rfl;have Qg:=hw 2 c z rfl rfl;have so:=bV b (by simp);have gc:=bV c (by simp);unfold within at sR rO Qg;rw[azw cq fs];rw[azu Qf]at aR⊢;have AX:¬(!a.b||(b.b !=c.b))=true:=by rw[vW,CZ];simp
  rw[xaa AX]at aR⊢;by_cases an:b.b=true
  .rw[xac an];rw[xac an]at rO;rw[<-CZ,xac an]at Qg;by_cases af:x=1;.rw[xac af];have q:eM y=true:=(kA _).2 (by omega);refine⟨q,?_⟩;unfold within;simp only[jK,xay];exact rO
   rw[xaa af];have q:eM z=true:=(kA _).2 (by omega);refine⟨q,?_⟩;unfold within;simp only[jK,xay];exact Qg
  rw[xaa an]at aR⊢;rw[xaa an]at rO;rw[<-CZ,xaa an]at Qg;obtain⟨_,fv,gS,ig⟩:=so;obtain⟨_,bl,bu,bT⟩:=gc;have jd:mb b.lo c.lo<=b.lo/\mb b.lo c.lo<=c.lo:=by unfold mb;split<;>omega
  have Zz:b.ag<=gq b.ag c.ag/\c.ag<=gq b.ag c.ag:=by unfold gq;split<;>omega
  by_cases af:x=1;.rw[xac af];have q:eM y=true:=(kA _).2 (by omega);exact⟨q,zP aR (by omega) (by omega)⟩
  rw[xaa af];have q:eM z=true:=(kA _).2 (by omega);exact⟨q,zP aR (by omega) (by omega)⟩
 rw[zM (show 8<=t.op/\t.op<=17 by omega)]at C1;obtain⟨a,b,rfl⟩:=sn (l:=l) (by simp only at C1;omega);obtain⟨x,y,rfl⟩:=sn (l:=rp) (by simpa using kS);have sR:=hw 0 a x rfl rfl;have rO:=hw 1 b y rfl rfl;have CW:=bV a (by simp);have so:=bV b (by simp);rw[azx cq fs];by_cases hE:t.op=8
 .rw[xac hE];exact⟨rfl,xS (Qe (by omega))⟩
 rw[xaa hE];by_cases ic:t.op=9;.rw[xac (Or.inl ic)];exact⟨rfl,xS (Qe (by omega))⟩
 have Qf:¬(5<=t.op/\t.op<=9):=by omega
 rw[azv Qf]at aR⊢;by_cases pt:t.op=10\/t.op=11
 .rw[xac pt]at aR⊢;by_cases aj:(a.b !=b.b)=true;.rw[xac aj]at aR;cases aR
  rw[xaa aj];rcases pt with h|h
  .rw[xac (Or.inr h)];exact⟨rfl,xS rfl⟩
  have aH:¬(t.op=9\/t.op=10):=by omega
  rw[xaa aH,xac h];exact⟨rfl,xS rfl⟩
 rw[xaa pt]at aR⊢;have azz:¬(t.op=9\/t.op=10):=by omega
 have kB:¬t.op=11:=by omega
 rw[xaa azz,xaa kB];by_cases aj:(a.b||b.b)=true;.rw[xac aj]at aR;cases aR
 rw[xaa aj]at aR⊢;have mP:a.b=false/\b.b=false:=by cases aB:a.b<;>cases an:b.b<;>simp_all
 have Lh:¬(false=true):=by simp
 unfold within at sR rO;rw[mP.1,xaa Lh]at sR;rw[mP.2,xaa Lh]at rO;obtain⟨_,ah,aT,bq⟩:=CW;obtain⟨_,fv,gS,ig⟩:=so;by_cases WZ:t.op=12\/t.op=13
 .rw[xac WZ];rcases WZ with h|h
  .rw[xac h];exact⟨rfl,xS rfl⟩
  have aH:¬t.op=12:=by omega
  rw[xaa aH,xac h];exact⟨rfl,xS rfl⟩
 rw[xaa WZ]at aR⊢;have xT:¬t.op=12:=by omega
 have je:¬t.op=13:=by omega
 rw[xaa xT,xaa je];by_cases nv:t.op=17
 .rw[xac nv]at aR⊢;have n5:¬t.op=14:=by omega
  have vY:¬t.op=15:=by omega
  have fO:¬t.op=16:=by omega
  rw[xaa n5,xaa vY,xaa fO];cases ai:t.al[1]? with
  |none=>have:=List.getElem?_eq_none_iff.1 ai;simp only at C1;omega
  |some k=>
   rw[ai]at aR;simp only at aR⊢;by_cases aF:k.op≠1\/k.num<1;.rw[xac aF]at aR;cases aR
   rw[xaa aF]at aR⊢;have Sf:=hm nv k y ai rfl;subst Sf;have aF3:=(aN.cL (xad ai)).num;have gu:=K9 (a:=x) (b:=k.num) (by omega);have lr:=K9 (a:=x.tmod k.num+k.num) (b:=k.num) (by omega);have KV:=Int.tmod_nonneg (a:=x.tmod k.num+k.num) k.num (by omega);have q:eM ((x.tmod k.num+k.num).tmod k.num)=true:=(kA _).2 (by omega);exact⟨q,zP aR KV (by omega)⟩
 rw[xaa nv]at aR⊢;unfold qo at aR⊢;by_cases vY:t.op=15
 .have n5:¬t.op=14:=by omega
  simp only[xac vY,xaa n5]at aR⊢;have q:eM (x-y)=true:=(kA _).2 (by omega);exact⟨q,zP aR (by omega) (by omega)⟩
 by_cases n5:t.op=14;.simp only[xaa vY,xac n5]at aR⊢;have q:eM (x+y)=true:=(kA _).2 (by omega);exact⟨q,zP aR (by omega) (by omega)⟩
 have fO:t.op=16:=by omega
 simp only[xaa n5,xaa vY,xac fO]at aR⊢;have agK:=azq sR rO;have my:=agI aR;have fU:eM (x*y)=true:=(kA _).2 (by omega);simp only[xac fU];exact⟨trivial,zP aR agK.1 agK.2⟩
def agL{vs:List V}{s nn:List Int}:∀{l:List Tm},(∀k∈l,(e1 vs s nn k).2=true)->g4 vs s nn l=some (l.map λk=>(e1 vs s nn k).1)
 |[],_=>rfl|t::r,h=>by rw[g4,xac (h t (by simp)),agL λk ai=>h k (by simp[ai])];rfl
def agM{vs:List V}{nx:Bool}:∀{l:List Tm},(er vs nx l).2=0->(er vs nx l).1=l.map λk=>(dR vs nx k).1
 |[],_=>rfl
 |t::r,h=>by
  rw[er]at*;by_cases ad:(dR vs nx t).2=0
  case neg=>rw[xac ad]at h;exact absurd h ad
  have dN:¬(dR vs nx t).2≠0:=by simpa using ad
  rw[xaa dN]at h⊢;by_cases ae:(er vs nx r).2=0
  case neg=>rw[xac ae]at h;exact absurd h ae
  have hA:¬(er vs nx r).2≠0:=by simpa using ae
  rw[xaa hA];simp[agM ae]
def agN{vs:List V}{s nn:List Int}(aD:iu vs s)(aH:iu vs nn)(t:Tm):Valid t->(dR vs true t).2=0->(e1 vs s nn t).2=true/\within (dR vs true t).1 (e1 vs s nn t).1:=by
 refine Tm.ind (P:=λt=>Valid t->(dR vs true t).2=0->(e1 vs s nn t).2=true/\within (dR vs true t).1 (e1 vs s nn t).1) ?_ t;intro t ih aN h;have ai:∀k∈t.al,(dR vs true k).2=0:=λk ai=>Li aN h ai;rw[oJ]at h⊢;rw[rn];by_cases a3:t.op<=4
 .rw[xac a3]at*;rw[xac a3];exact azs aD aH aN h
 rw[xaa a3]at h⊢;rw[xaa a3];by_cases ao:(er vs true t.al).2=0
 case neg=>rw[xac ao]at h;exact absurd h ao
 have C0:¬(er vs true t.al).2≠0:=by simpa using ao
 rw[xaa C0]at h⊢;have kS:g4 vs s nn t.al=_:=agL λk ku=>(ih k ku (aN.cL ku) (ai k ku)).1;rw[kS];simp only;obtain⟨bb,bo⟩:=F3 vs true t.al ao;have oA:=agM ao;refine azy aN (by omega) h bo bb (by rw[bb];simp) ?_ ?_
 .intro i y v aO kT;rw[oA]at aO;simp only[xaj,xan]at aO kT;obtain⟨k,cK,rfl⟩:=aO;obtain⟨bO,dV,rfl⟩:=kT;rw[cK]at dV;cases dV;exact(ih k (xad cK) (aN.cL (xad cK)) (ai k (xad cK))).2
 intro nv k v te uo;simp only[xaj,te,xaQ,xaN]at uo;have m1:=aN.len;rw[zM (by omega)]at m1;obtain⟨Lf,Ga,aO⟩:=sn (l:=(er vs true t.al).1) (by simp only at m1;omega);rw[aO]at h;have:=ago h nv te;rw[<-uo,rn,xac (by omega)];unfold ld;rw[xac (by omega)]
end Go.Am
