/- Laws, on data. No condition. -/
import Derived.Test.YtbninlabhgbhcaaGreatDoorLaws
import Derived.Test.YtbninlabhgbhcaaGreatDoorEngS
import Derived.KernelRfl
set_option linter.all false
set_option linter.unnecessarySimpa false
namespace Go.Am
structure cM where
 name:ByteArray
 f:Fm
def cM.cells(d:cM):List D:=[aT d.name,R d.f.op,R d.f.e.op,R d.f.e.num,aT d.f.e.name,cA 4 d.f.e.nl (Tm.rows d.f.e.a4),cA 6 d.f.nl (Fm.rows d.f.a4)]
def az(l:List Tm):D:= .ak 4 (Tm.rows l)
def bR(l:List cM):D:= .ak 7 (l.map cM.cells)
def xX{l:List Tm}{i:Nat}{t:Tm}(h:l[i]?=some t):bh 4 (az l) (R (i:Int))=some t.cells:=by simp[az,Tm.Lk h]
def hW(l:List Tm):bJ (az l)=some (R l.length):=by simp[az]
def mV{l:List cM}{i:Nat}{t:cM}(h:l[i]?=some t):bh 7 (bR l) (R (i:Int))=some t.cells:=by simp[bR,h]
def iT(l:List cM):bJ (bR l)=some (R l.length):=by simp[bR]
def cM.d(d:cM):D:= .agg d.cells
theorem cM.aeo(d:cM):aQ true 7 0 d.cells=some d.d:=rfl
theorem cM.iy(d:cM):aQ true 6 1 d.cells=some d.f.d:=by rw[Fm.jT];rfl
theorem cM.gI(d:cM):aQ false 1 0 d.cells=some (aT d.name):=rfl
def cM.agg(d:cM):a6 7 d.d=true:=by unfold cM.d cM.cells;simp[Z3]
theorem cM.aY(d:cM):ab d.d 0=aT d.name:=rfl
theorem cM.bw(d:cM):ab d.d 1=R d.f.op:=rfl
theorem cM.bO(d:cM):ab d.d 2=R d.f.e.op:=rfl
theorem cM.b0(d:cM):ab d.d 3=R d.f.e.num:=rfl
theorem cM.cZ(d:cM):ab d.d 4=aT d.f.e.name:=rfl
theorem cM.dd(d:cM):ab d.d 5=cA 4 d.f.e.nl (Tm.rows d.f.e.a4):=rfl
theorem cM.de(d:cM):ab d.d 6=cA 6 d.f.nl (Fm.rows d.f.a4):=rfl
structure av where
 vars:List V
 aB:List bl
 bK:List Tm
 bL:List Tm
 next:List bl
 trans:List Tm
 bH:List Tm
 bI:List cM
def av.d(m:av):D:= .agg [bd m.vars,aU m.aB,az m.bK,az m.bL,aU m.next,az m.trans,az m.bH,bR m.bI]
section
variable(m:av)
theorem av.aY:ab m.d 0=bd m.vars:=rfl
theorem av.bw:ab m.d 1=aU m.aB:=rfl
theorem av.bO:ab m.d 2=az m.bK:=rfl
theorem av.b0:ab m.d 3=az m.bL:=rfl
theorem av.cZ:ab m.d 4=aU m.next:=rfl
theorem av.dd:ab m.d 5=az m.trans:=rfl
theorem av.de:ab m.d 6=az m.bH:=rfl
theorem av.dp:ab m.d 7=bR m.bI:=rfl
theorem av.agg:a6 8 m.d=true:=rfl
theorem av.eta:D.agg [bd m.vars,aU m.aB,az m.bK,az m.bL,aU m.next,az m.trans,az m.bH,bR m.bI]=m.d:=rfl
end
def aep:∀l:List Tm,nY l=l.map gx
 |[]=>rfl|k::r=>by rw[nY,aep r];rfl
theorem DE(t:Tm):gx t= .mk t.op t.num t.name false (t.a4.map gx):=by cases t;rw[gx,aep];rfl
def Nj(t:Tm):(gx t).bp=t.bp:=by
 refine Tm.ind (P:=λt=>(gx t).bp=t.bp) ?_ t;intro t ih;have key:∀l:List Tm,(∀k∈l,(gx k).bp=k.bp)->Tm.eV (l.map gx)=Tm.eV l:=by
  intro l
  induction l with
  |nil=>intro _;rfl
  |cons a r lO=>intro h;simp only[xaA,Tm.eV];rw[h a (by simp),lO λk al=>h k (by simp[al])]
 rw[Tm.A4,Tm.A4 t,DE];show 2+Tm.eV (t.a4.map gx)=_;rw[key _ ih]
def axh(t:Tm):t.cB->(gx t).cB:=by
 refine Tm.ind (P:=λt=>t.cB->(gx t).cB) ?_ t;intro t ih bs;rw[DE];have bB:=bs.len;obtain⟨eQ,ez,ho⟩:(-9223372036854775808<=t.op/\t.op<=9223372036854775807)/\(-9223372036854775808<=t.num/\t.num<=9223372036854775807)/\t.name.size<=140737488355328:=by cases bs with|mk o n s b ks aL aM aE aq al=>exact⟨aL,aM,aE⟩
 refine .mk _ _ _ _ _ eQ ez ho (by simpa using bB) ?_;intro k al;obtain⟨br,fF,rfl⟩:=xaP.1 al;exact ih br fF (bs.fu fF)
def jx:Int:=9007199254740992
def ei(n:Int):Bool:=decide (-9007199254740992<=n)&&decide (n<=9007199254740992)
def o8(n:Int)(ok:Bool):D:=if ok&&ei n then .aR [R n,ax true]else .aR [R 0,ax false]
def axi(n:Nat)(a:Int)(ok:Bool):HK n [R a,ax ok]=some (o8 a ok):=by unfold o8 ei;cases ok<;>simp[HK,abg,-Rf,-QW];grind
def Nk(n:Nat)(a b:Int)(aG:-9223372036854775808<=a/\a<=9223372036854775807)(ao:-9223372036854775808<=b/\b<=9223372036854775807):tu n [R a,R b]=some (o8 (a+b) true):=by
 have bA:=axi n;by_cases aa:(a<0)=(b<0)
 case neg=>
  have e:IntKind.i64.wrap (a+b)=a+b:=by
   refine wrap64 _ ?_ ?_;.by_cases c:a<0<;>by_cases d:b<0<;>simp[c,d]at aa<;>omega
   by_cases c:a<0<;>by_cases d:b<0<;>simp[c,d]at aa<;>omega
  have cv:(decide (a<0) !=decide (b<0))=true:=by by_cases c:a<0<;>by_cases d:b<0<;>simp[c,d]at aa⊢
  simp[tu,Mf,Ld,e,cv,bA];unfold o8;split<;>simp
 have cv:(decide (a<0) !=decide (b<0))=false:=by by_cases c:a<0<;>by_cases d:b<0<;>simp[c,d]at aa⊢
 by_cases aw:-9223372036854775808<=a+b/\a+b<=9223372036854775807
 .have e:IntKind.i64.wrap (a+b)=a+b:=wrap64 _ aw.1 aw.2;have aE:(decide (a<0)==decide (a+b<0))=true:=by
   by_cases c:a<0<;>by_cases d:b<0<;>simp[c,d]at aa⊢<;>omega
  simp[tu,Mf,Ld,e,cv,aE,bA];unfold o8;split<;>simp
 have e:IntKind.i64.wrap (a+b)=if a<0 then a+b+18446744073709551616 else a+b-18446744073709551616:=by simp only[IntKind.wrap_i64];split<;>omega
 have aE:(decide (a<0)==decide (IntKind.i64.wrap (a+b)<0))=false:=by rw[e];by_cases c:a<0<;>by_cases d:b<0<;>simp[c,d]at aa⊢<;>omega
 simp[tu,Mf,Ld,cv,aE,bA];have:ei (a+b)=false:=by unfold ei;simp;omega
 simp[o8,this]
def fx(n:Int):D:= .val (.int .u64 n)
section
variable{bt:Bool}{a b:Int}
def Nl(h:0<=a+b)(bD:a+b<18446744073709551616):ag bt .add (fx a) (fx b)=some (fx (a+b)):=by have e:ag bt .add (fx a) (fx b)=some (fx (IntKind.u64.wrap (a+b))):=rfl;rw[e,xcc,Int.emod_eq_of_lt h bD]
theorem aeq:ag bt .mul (fx a) (fx b)=some (fx (IntKind.u64.wrap (a*b))):=rfl
def Nm(h:0<=a*b)(bD:a*b<18446744073709551616):ag bt .mul (fx a) (fx b)=some (fx (a*b)):=by rw[aeq,xcc,Int.emod_eq_of_lt h bD]
def axj(h:0<=a):ag bt .shr (fx a) (fx 32)=some (fx (a/4294967296)):=by
 have e:ag bt .shr (fx a) (fx 32)=some (fx (a.fdiv (2^(min (32:Int).toNat IntKind.u64.bits)))):=rfl;rw[e];have:(2:Int)^(min (32:Int).toNat IntKind.u64.bits)=4294967296:=by decide
 rw[this,Int.fdiv_eq_ediv_of_nonneg _ (by omega)]
def axk(h:0<=a)(bD:a<18446744073709551616):ag bt .and (fx a) (fx 4294967295)=some (fx (a%4294967296)):=by
 have e:ag bt .and (fx a) (fx 4294967295)=some (fx (IntKind.u64.wrap ((BitVec.ofInt IntKind.u64.bits a&&&BitVec.ofInt IntKind.u64.bits 4294967295).toNat:Int))):=rfl;rw[e];have ao:IntKind.u64.bits=64:=rfl;obtain⟨m,rfl⟩:∃m:Nat,a=m:=⟨a.toNat,by omega⟩;have aP:(BitVec.ofInt 64 (m:Int)&&&BitVec.ofInt 64 4294967295).toNat=m%4294967296:=by
  have a2:BitVec.ofInt 64 (m:Int)=BitVec.ofNat 64 m:=by simp
  have bS:BitVec.ofInt 64 4294967295=BitVec.ofNat 64 4294967295:=by decide
  rw[a2,bS,BitVec.toNat_and,BitVec.toNat_ofNat,BitVec.toNat_ofNat,Nat.mod_eq_of_lt (by omega)];have:=Nat.and_two_pow_sub_one_eq_mod m 32;simpa using this
 rw[ao,aP,xcc]
 congr 2
 omega
theorem Nn:ag bt .neq (fx a) (fx b)=some (ax (a !=b)):=rfl
theorem No:ag bt .gtr (fx a) (fx b)=some (ax (decide (a>b))):=rfl
end
def Np{x y:Int}(ah:0<=x/\x<=4294967295)(aK:0<=y/\y<=4294967295):0<=x*y/\x*y<=18446744065119617025:=by refine⟨Int.mul_nonneg ah.1 aK.1,?_⟩;have:=xbV ah.2 aK.2 aK.1 (by omega);simpa using this
def axl(n:Nat)(x y:Int)(ah:0<=x/\x<18446744073709551616)(aK:0<=y/\y<18446744073709551616):Mg n [fx x,fx y]=some (.aR [fx (x*y/18446744073709551616),fx (x*y%18446744073709551616)]):=by
 have au:0<=x%4294967296/\x%4294967296<=4294967295:=by omega
 have ba:0<=x/4294967296/\x/4294967296<=4294967295:=by omega
 have fO:0<=y%4294967296/\y%4294967296<=4294967295:=by omega
 have h5:0<=y/4294967296/\y/4294967296<=4294967295:=by omega
 have axm:=Np au fO;have axn:=Np ba fO;have axo:=Np au h5;have axp:=Np ba h5;have axq:x*y=(x/4294967296*(y/4294967296))*18446744073709551616+(x/4294967296*(y%4294967296)+x%4294967296*(y/4294967296))*4294967296+x%4294967296*(y%4294967296):=by
  have ex:x=x/4294967296*4294967296+x%4294967296:=by omega
  have nz:y=y/4294967296*4294967296+y%4294967296:=by omega
  generalize x/4294967296=u at*;generalize x%4294967296=v at*;generalize y/4294967296=w at*;generalize y%4294967296=z at*;subst ex;subst nz;simp only[Int.add_mul,Int.mul_add];have aP:u*4294967296*(w*4294967296)=u*w*18446744073709551616:=by rw[Int.mul_assoc,Int.mul_left_comm 4294967296 w,<-Int.mul_assoc,Int.mul_comm 4294967296 4294967296];rfl
  have a2:u*4294967296*z=u*z*4294967296:=by rw[Int.mul_assoc,Int.mul_comm 4294967296 z,<-Int.mul_assoc]
  have bS:v*(w*4294967296)=v*w*4294967296:=by rw[<-Int.mul_assoc]
  omega
 show Su n (fx x) (fx y)=_;have Tv:(D.val (.int .u64 32))=fx 32:=rfl;have em:(D.val (.int .u64 4294967295))=fx 4294967295:=rfl;have sU:∀q:Int,0<=q->ag false .shr (fx q) (fx 32)=some (fx (q/4294967296)):=λq h=>axj h;have US:∀q:Int,0<=q->q<18446744073709551616->ag false .and (fx q) (fx 4294967295)=some (fx (q%4294967296)):=λq h bD=>axk h bD;simp only[Su,Tv,em];rw[US x ah.1 ah.2,dS,sU x ah.1,dS,US y aK.1 aK.2,dS,sU y aK.1,dS,Nm axm.1 (by omega),dS,Nm axn.1 (by omega),dS];generalize x%4294967296*(y%4294967296)=axr at*;generalize x/4294967296*(y%4294967296)=aDv at*;rw[sU axr (by omega),dS,Nl (by omega) (by omega),dS,US _ (by omega) (by omega),dS,sU _ (by omega),dS,Nm axo.1 (by omega),dS];generalize x%4294967296*(y/4294967296)=aDw at*;rw[Nl (by omega) (by omega),dS,Nm axp.1 (by omega),dS];generalize x/4294967296*(y/4294967296)=aDx at*;rw[Nl (by omega) (by omega),dS,sU _ (by omega),dS,Nl (by omega) (by omega),dS,aeq,dS,xcc,axq]
 congr 3
 congr 1;omega
def aer(n:Nat)(a:Int)(aG:-9223372036854775808<=a/\a<=9223372036854775807):An n [R a]=some (fx a.natAbs):=by
 have aP:∀v:Int,c1 .neg (.val (.int .u64 v))=some (fx (IntKind.u64.wrap (0-v))):=λ_=>rfl;have a2:∀v:Int,ix .u64 (R v)=some (.val (.int .u64 (IntKind.u64.wrap v))):=λ_=>rfl;by_cases h:a<0
 .simp[An,St,h,a2,aP];simp only[xcc,fx,D.val.injEq,Value.int.injEq,true_and];omega
 simp[An,St,h,a2];simp only[xcc,fx,D.val.injEq,Value.int.injEq,true_and];omega
def jY(n:Int):ei n=true↔n.natAbs<=9007199254740992:=by unfold ei;simp;omega
def aes{a b:Int}{A B:Nat}(h:a.natAbs<=A)(bD:b.natAbs<=B):(a*b).natAbs<=A*B:=by rw[Int.natAbs_mul];exact Nat.mul_le_mul h bD
def sign_mul(a b:Int)(h:a*b≠0):((a<0)≠(b<0))↔a*b<0:=by
 have aG:a≠0:=by rintro rfl;simp at h
 have ao:b≠0:=by rintro rfl;simp at h
 rcases Int.lt_or_gt_of_ne aG with aa|aa<;>rcases Int.lt_or_gt_of_ne ao with ae|ae;.have:=Int.mul_pos_of_neg_of_neg aa ae;simp[aa,ae];omega
 .have:=Int.mul_neg_of_neg_of_pos aa ae;simp[aa,this];omega
 .have:=Int.mul_neg_of_pos_of_neg aa ae;simp[ae,this];omega
 have:=Int.mul_pos aa ae;simp;omega
def axs(n:Nat)(a b:Int)(aG:ei a=true)(ao:ei b=true):xw n [R a,R b]=some (o8 (a*b) true):=by
 rw[jY]at aG ao;have aa:=aer n a (by omega);have ae:=aer n b (by omega);have hm:=aes aG ao;have ay:=axl n a.natAbs b.natAbs (by omega) (by omega);have e:((a.natAbs:Int)*b.natAbs)=((a*b).natAbs:Int):=by rw[Int.natAbs_mul];simp
 rw[e]at ay;have aE:=sign_mul a b;generalize a*b=p at*;have aY:(D.val (.int .u64 0))=fx 0:=rfl;have bw:(D.val (.int .u64 9007199254740992))=fx 9007199254740992:=rfl;have aP:∀v:Int,ix .i64 (fx v)=some (R (IntKind.i64.wrap v)):=λ_=>rfl;by_cases aw:ei p=true
 .have mC:=(jY p).1 aw;have bV:((p.natAbs:Int)/18446744073709551616)=0:=by omega
  have bN:((p.natAbs:Int)%18446744073709551616)=p.natAbs:=by omega
  have cC:IntKind.i64.wrap (p.natAbs:Int)=p.natAbs:=wrap64 _ (by omega) (by omega);have dK:IntKind.i64.wrap (-(p.natAbs:Int))=-(p.natAbs:Int):=wrap64 _ (by omega) (by omega);have et:¬(9007199254740992<(p.natAbs:Int)):=by omega
  rw[bV,bN]at ay;by_cases bP:p=0;.subst bP;simp[xw,HL,aa,ae,ay,aY,bw,Nn,No,aP,o8,aw];by_cases x1:a<0<;>by_cases vQ:b<0<;>simp[x1,vQ,show IntKind.i64.wrap 0=0 from rfl]
  have aE:=aE bP;by_cases x1:a<0<;>by_cases vQ:b<0<;>simp[x1,vQ]at aE<;>simp[xw,HL,aa,ae,ay,aY,bw,Nn,No,aP,o8,aw,et,cC,dK,x1,vQ]<;>omega
 have mC:¬(p.natAbs<=9007199254740992):=λh=>aw ((jY p).2 h);have a8:ei p=false:=by simpa using aw
 by_cases bV:((p.natAbs:Int)/18446744073709551616)=0
 .have bN:((p.natAbs:Int)%18446744073709551616)=p.natAbs:=by omega
  have et:9007199254740992<(p.natAbs:Int):=by omega
  rw[bV,bN]at ay;simp[xw,HL,aa,ae,ay,aY,bw,Nn,No,aP,o8,a8,et]
 have fi:((p.natAbs:Int)/18446744073709551616 !=0)=true:=by simpa using bV
 simp[xw,HL,aa,ae,ay,aY,bw,Nn,No,aP,o8,a8,fi]
def tr(b:Bool):Int:=if b then 1 else 0
def aet(n:Nat)(b:Bool):pO n [ax b]=some (.aR [R (tr b),ax true]):=by cases b<;>simp[pO,abf,tr]
def aeu(n:Nat)(b:Bool):pU n [ax b]=some (R (tr b)):=by cases b<;>simp[pU,abE,tr]
def aev(n:Nat)(v:Int):xE n [R v]=some (ax (!ei v)):=by
 by_cases aa:v< -9007199254740992
 .have:ei v=false:=by unfold ei;simp;omega
  simp[xE,MK,this,aa]
 by_cases ae:9007199254740992<v
 .have:ei v=false:=by unfold ei;simp;omega
  simp[xE,MK,this,aa,ae]
 have:ei v=true:=by unfold ei;simp;omega
 simp[xE,MK,this,aa,ae]
def aew(n:Nat)(v:Int)(h:-9223372036854775807<=v/\v<=9223372036854775807):Df n [R v]=some (R (v.natAbs:Int)):=by have:IntKind.i64.wrap (-v)=-v:=wrap64 _ (by omega) (by omega);simp[Df,abF,this,Nd,fR];split<;>omega
def fN(op:Int)(l:List Int):Int×Bool:=if op=6 then(tr (decide (l.sum=l.length)),true)
 else if op=7 then(tr (decide (l.sum>0)),true)
 else match l with
  |[a]=>(1-a,ei (1-a))
  |[a,b]=>if op=8 then(tr (a==0||b==1),true)else if op=9\/op=10 then(tr (a==b),true)else if op=11 then(tr (a !=b),true)
   else if op=12 then(tr (decide (a<b)),true)else if op=13 then(tr (decide (a<=b)),true)
   else if op=14 then(a+b,ei (a+b))else if op=15 then(a-b,ei (a-b))
   else if op=16 then if ei (a*b)then(a*b,true)else(0,false)
   else((a.tmod b+b).tmod b,ei ((a.tmod b+b).tmod b))
  |[a,b,c]=>(if a=1 then b else c,ei (if a=1 then b else c))
  |_=>(0,false)
def gh(p:Int×Bool):D:=if p.2 then .aR [R p.1,ax true]else .aR [R 0,ax false]
def aex(v:Int):o8 v true=gh (v,ei v):=by simp[o8,gh]
def pW{l:List Int}{i:Nat}{y:Int}(h:l[i]?=some y):bh 1 (cJ l) (R (i:Int))=some [R y]:=by simp[cJ,h]
theorem A7{y:Int}{l:List Int}:bh 1 (cJ (y::l)) (R 0)=some [R y]:=pW (i:=0) rfl
theorem DF{x y:Int}{l:List Int}:bh 1 (cJ (x::y::l)) (R 1)=some [R y]:=pW (i:=1) rfl
theorem axt{x y z:Int}{l:List Int}:bh 1 (cJ (x::y::z::l)) (R 2)=some [R z]:=pW (i:=2) rfl
def nq(l:List Int):bJ (cJ l)=some (R l.length):=by simp[cJ]
def UT:∀(l:List Int),(∀v∈l,ei v=true)->-(9007199254740992*(l.length:Int))<=l.sum/\l.sum<=9007199254740992*(l.length:Int)
 |[],_=>by simp|a::r,h=>by have:=UT r λv aN=>h v (by simp[aN]);have:=(jY a).1 (h a (by simp));simp only[List.sum_cons,xat];omega
def axu{l:List Int}(h:∀v∈l,ei v=true)(aq:l.length<=64)(i:Nat):-576460752303423488<=(l.take i).sum/\(l.take i).sum<=576460752303423488:=by
 have:=UT (l.take i) λv aN=>h v (xbj aN);have hle:(l.take i).length<=64:=by rw[xbu];omega
 omega
def axv(n:Nat)(DG d1 d2 d3 d4:D)(l:List Int)(h:∀v∈l,ei v=true)(aq:l.length<=64)(aM:64<n):bq (HM n) n [DG,R 0,cJ l,R l.length,R 0,d1,d2,d3,d4]=some (.inl [DG,R l.sum,d1,d2,d3,d4]):=by
 have aj:=dm (f:=HM n) l (λi (s:Int)=>[DG,R s,cJ l,R l.length,R (i:Int),d1,d2,d3,d4]) (λr s=>(Sum.inl [DG,R (s+r.sum),d1,d2,d3,d4]:List D⊕D)) (λi s=>s=(l.take i).sum) (λs _=>by simp[HM]) ?_ n 0 0 (by simp) (by omega) (xaj _);.have bU:(R ((0:Nat):Int))=R 0:=rfl;rw[bU]at aj;simpa using aj
 intro i a s aG aj aE;left;have ao:=axu h aq i;have YX:=(jY a).1 (h a (xad aG));have fw:ag false .add (R s) (R a)=some (R (s+a)):=eZ (by omega) (by omega);refine⟨s+a,by simp[HM,aj,pW aG,fw,cr (bt:=false) (i:=i) (by omega)],by simp[Int.add_assoc],?_⟩;rw[List.take_add_one,aG,aE];simp
def IX{a b:Int}(ao:1<=b):-b<a.tmod b/\a.tmod b<b:=by have aa:=Int.tmod_lt_of_pos a (show 0<b by omega);have ae:=Int.lt_tmod_of_pos a (show 0<b by omega);exact⟨ae,aa⟩
set_option maxHeartbeats 1000000 in
def axw(n:Nat)(t:Tm)(l:List Int)(aN:Valid t)(b5:l.length=t.a4.length)(dW:5<=t.op)(aw:∀v∈l,ei v=true)(aM:100<n) (ao:(t.op<=9->∀v∈l,v=0\/v=1)/\(t.op=18->∀v,l[0]?=some v->v=0\/v=1)) (hm:t.op=17->∀v,l[1]?=some v->1<=v/\v<=255):j8 n [t.d,cJ l]=some (gh (fN t.op l)):=by
 have r7:=aN.op;have bB:=aN.len;have aY:=Tm.pF t;have dt:=Tm.nd t;have al:=xU (op:=t.op);have vO:=A5 (op:=t.op);have xW:=aN.DC;have aey:=nq l;have hL:=aet n;have A8:=λDG d1 d2 d3 d4=>axv n DG d1 d2 d3 d4 l aw (by omega) (by omega);by_cases r8:t.op=6\/t.op=7
 .have iv:1<=l.length:=by
   have:gm t.op=(1,64):=by unfold gm;rw[xac (by omega),xac (by omega),xaa r8]
   rw[this]at bB;simp only at bB;omega
  generalize t.op=op at*;rcases r8 with rfl|rfl
  .simp[j8,lf,dt,aY,aey,A8,fN,gh,hL,-Zw];by_cases an:l.sum=(l.length:Int)<;>simp[an,hL]
  simp[j8,lf,dt,aY,aey,A8,fN,gh,hL,-Zw];by_cases an:l.sum=(l.length:Int)
  .have:0<l.sum:=by omega
   have a1:0<l.length:=by omega
   simp[an,hL,a1]
  by_cases ar:0<l.sum<;>simp[an,ar,hL]
 have nv:t.op=5->l.length=1:=λh=>by
  have:gm t.op=(1,1):=by rw[h];rfl
  rw[this]at bB;simp only at bB;omega
 by_cases bZ:t.op=5
 .have:=nv bZ
  match l,this with
  |[a],_=>
   have aG:=ao.1 (by omega) a (by simp);have fJ:=A7 (y:=a) (l:=[]);generalize t.op=op at*;subst bZ;rcases aG with rfl|rfl
   .simp[j8,lf,dt,aY,fJ,fN,gh,hL,tr,ei]
   simp[j8,lf,dt,aY,fJ,fN,gh,hL,tr,ei]
 by_cases n2:t.op=18
 .rw[vO n2]at bB;obtain⟨a,b,c,rfl⟩:=vN (l:=l) (by simp only at bB;omega);have aG:=ao.2 n2 a rfl;have fJ:=A7 (y:=a) (l:=[b,c]);have a9:=DF (x:=a) (y:=b) (l:=[c]);have bk:=axt (x:=a) (y:=b) (z:=c) (l:=[]);have axx:=aw b (by simp);have axy:=aw c (by simp);generalize t.op=op at*;subst n2;rcases aG with rfl|rfl
  .simp[j8,lf,dt,aY,fJ,a9,bk,fN,gh,axy]
  simp[j8,lf,dt,aY,fJ,a9,bk,fN,gh,axx]
 rw[al (by omega)]at bB;obtain⟨a,b,rfl⟩:=qI (l:=l) (by simp only at bB;omega);have fJ:=A7 (y:=a) (l:=[b]);have a9:=DF (x:=a) (y:=b) (l:=[]);have aez:=aw a (by simp);have yl:=aw b (by simp);have UU:=(jY a).1 aez;have aeA:=(jY b).1 yl;have dB:=Nk n a b (by omega) (by omega);have cI:=Nk n a (-b) (by omega) (by omega);have dD:=axs n a b aez yl;have UW:IntKind.i64.wrap (-b)=-b:=wrap64 _ (by omega) (by omega);have lP:a+-b=a-b:=by omega
 have ah:∀p:Int×Bool,(bf 0 (gh p))=some (R (if p.2 then p.1 else 0))/\(bf 1 (gh p))=some (ax p.2):=by intro p;obtain⟨v,o⟩:=p;cases o<;>simp[gh]
 have aK:∀p:Int×Bool,D.aR [R (if p.2 then p.1 else 0),ax p.2]=gh p:=by intro p;obtain⟨v,o⟩:=p;cases o<;>simp[gh]
 rw[lP]at cI;rw[aex]at dB cI dD;by_cases nW:t.op=17
 .obtain⟨bV,bN⟩:=hm nW b rfl;have gO:=IX (a:=a) bV;have IY:b≠0:=by omega
  have eM:ag false .add (R (a.tmod b)) (R b)=some (R (a.tmod b+b)):=eZ (by omega) (by omega);have lu:=IX (a:=a.tmod b+b) bV;have fG:ei ((a.tmod b+b).tmod b)=true:=(jY _).2 (by omega);have aP:ag false .rem (R a) (R b)=some (R (a.tmod b)):=Fw IY;have a2:ag false .rem (R (a.tmod b+b)) (R b)=some (R ((a.tmod b+b).tmod b)):=Fw IY;generalize t.op=op at*;subst nW;simp[j8,lf,dt,aY,fJ,a9,fN,gh,aP,a2,eM,fG]
 have an:t.op=8\/t.op=9\/t.op=10\/t.op=11\/t.op=12\/t.op=13\/t.op=14\/t.op=15\/t.op=16:=by omega
 have axz:t.op=8->(b=0\/b=1):=λh=>ao.1 (by omega) b (by simp);generalize t.op=op at*;rcases an with rfl|rfl|rfl|rfl|rfl|rfl|rfl|rfl|rfl
 .rcases axz rfl with rfl|rfl
  .by_cases r9:a=0;.simp[j8,lf,dt,aY,fJ,a9,fN,gh,hL,r9,A7,DF]
   have IZ:(a==0)=false:=by simpa using r9
   simp[j8,lf,dt,aY,fJ,a9,fN,gh,hL,r9,IZ,A7,DF]
  by_cases r9:a=0;.simp[j8,lf,dt,aY,fJ,a9,fN,gh,hL,r9,A7,DF]
  have IZ:(a==0)=false:=by simpa using r9
  simp[j8,lf,dt,aY,fJ,a9,fN,gh,hL,r9,IZ,A7,DF]
 .simp[j8,lf,dt,aY,fJ,a9,fN,gh,hL]
 .simp[j8,lf,dt,aY,fJ,a9,fN,gh,hL]
 .simp[j8,lf,dt,aY,fJ,a9,fN,gh,hL]
 .simp[j8,lf,dt,aY,fJ,a9,fN,gh,hL]
 .simp[j8,lf,dt,aY,fJ,a9,fN,gh,hL]
 .simp[j8,lf,dt,aY,fJ,a9,fN,dB,ah];rw[<-aK]
 .simp[j8,lf,dt,aY,fJ,a9,fN,UW,cI,ah];rw[<-aK]
 simp[j8,lf,dt,aY,fJ,a9,fN,dD,ah];cases bQ:ei (a*b)<;>simp[gh]
def mW(vs:List V)(s nn:List Int)(t:Tm):Option Nat:=if(if t.op=4 then nn else s).length=vs.length then eh vs t.name else none
def axA{vs:List V}{s nn:List Int}{t:Tm}{i:Nat}(h:mW vs s nn t=some i):eh vs t.name=some i/\(if t.op=4 then nn else s).length=vs.length:=by
 unfold mW at h;by_cases an:(if t.op=4 then nn else s).length=vs.length;.rw[xaa an]at h;exact⟨h,an⟩
 rw[xac an]at h;cases h
def kd(vs:List V)(s nn:List Int)(t:Tm):Int×Bool:=if t.op<=2 then(t.num,true)
 else match mW vs s nn t with
  |none=>(0,false)
  |some i=>match vs[i]?,(if t.op=4 then nn else s)[i]? with
   |some v,some x=>if v.bool then(tr (x !=0),true)else(x,ei x)
   |_,_=>(0,false)
mutual
def eN(vs:List V)(s nn:List Int):Tm->Int×Bool
 | .mk o n a b ks=>if o<=4 then kd vs s nn (.mk o n a b ks)else match g9 vs s nn ks with|some l=>fN o l|none=>(0,false)
def g9(vs:List V)(s nn:List Int):List Tm->Option (List Int)
 |[]=>some []
 |t::r=>if(eN vs s nn t).2 then match g9 vs s nn r with|some l=>some ((eN vs s nn t).1::l)|none=>none
  else none
end
theorem pX(vs:List V)(s nn:List Int)(t:Tm):eN vs s nn t=if t.op<=4 then kd vs s nn t else match g9 vs s nn t.a4 with|some l=>fN t.op l|none=>(0,false):=by cases t;rw[eN];rfl
mutual
def steps:Tm->Bool
 | .mk o _ _ _ ks=>o==4||o9 ks
def o9:List Tm->Bool
 |[]=>false|t::r=>steps t||o9 r
end
theorem Nq(t:Tm):steps t=(t.op==4||o9 t.a4):=by cases t;rw[steps];rfl
def aeB:∀{l:List Tm}{t:Tm},t∈l->o9 l=false->steps t=false
 |a::r,t,h,aE=>by
  rw[o9,Bool.or_eq_false_iff]at aE;rcases xap.1 h with rfl|h
  .exact aE.1
  exact aeB h aE.2
theorem UX(b:Bool):ei (tr b)=true:=by cases b<;>rfl
def DH(p:Int×Bool):Prop:=p.2=true->ei p.1=true
def tI{c:Prop}[Decidable c]{p q:Int×Bool}(a1:DH p)(bQ:c\/DH q):DH (if c then p else q):=by
 split;.exact a1
 exact bQ.resolve_left (by assumption)
def A9(b:Bool):DH (tr b,true):=λ_=>UX b
def I0(v:Int):DH (v,ei v):=λh=>h
def axB{op:Int}{l:List Int}:DH (fN op l):=by
 unfold fN;refine tI (A9 _) (.inr (tI (A9 _) (.inr ?_)))
 match l with
 |[]=>intro h;cases h
 |[a]=>exact I0 _|[a,b,c]=>exact I0 _|a::b::c::d::r=>intro h;cases h
 |[a,b]=>
  refine tI (A9 _) (.inr (tI (A9 _) (.inr (tI (A9 _) (.inr (tI (A9 _) (.inr (tI (A9 _) (.inr (tI (I0 _) (.inr (tI (I0 _) (.inr (tI ?_ (.inr (I0 _))))))))))))))));by_cases h:ei (a*b)=true;.rw[xaa h];exact λ_=>h
  rw[xac h];intro h;cases h
def axC{vs:List V}{s nn:List Int}{t:Tm}(aN:Valid t)(h:(kd vs s nn t).2=true):ei (kd vs s nn t).1=true:=by
 have aM:=aN.num;unfold kd at*;by_cases ae:t.op<=2;.rw[xaa ae];exact(jY _).2 (by simp only;omega)
 rw[xac ae]at*;cases aj:mW vs s nn t with
 |none=>simp[aj]at h
 |some i=>
  rw[aj]at h;simp only at h⊢;cases hw:vs[i]? with
  |none=>rw[hw]at h;cases h
  |some v=>
   cases ah:((if t.op=4 then nn else s)[i]?)with
   |none=>rw[hw,ah]at h;cases h
   |some x=>
    rw[hw,ah]at h;simp only at h⊢;by_cases ao:v.bool=true;.rw[xaa ao];exact UX _
    rw[xac ao]at*;exact h
def aeC{vs:List V}{s nn:List Int}{t:Tm}(aN:Valid t)(h:(eN vs s nn t).2=true):ei (eN vs s nn t).1=true:=by
 rw[pX]at*;by_cases a7:t.op<=4;.rw[xaa a7]at*;exact axC aN h
 rw[xac a7]at*;split at h;.rename_i l aq;exact axB h
 cases h
def xY(v:Int):Prop:=v=0\/v=1
def I1(b:Bool):xY (tr b):=by cases b<;>simp[tr,xY]
theorem DI(lo aj:Int):(g8 lo aj).1.b=false:=by unfold g8;split<;>rfl
def axD(op:Int)(a b:Y):(o7 op a b).1.b=false:=by unfold o7;split<;>(try split)<;>exact DI _ _
def UY(vs:List V)(nx:Bool)(s nn:List Int):∀{ks:List Tm}{l:List Int},(ed vs nx ks).2=0->g9 vs s nn ks=some l->l.length=ks.length/\∀(i:Nat)(y:Y)(v:Int),(ed vs nx ks).1[i]?=some y->l[i]?=some v-> ∃k,ks[i]?=some k/\(dQ vs nx k).2=0/\y=(dQ vs nx k).1/\(eN vs s nn k).2=true/\v=(eN vs s nn k).1
 |[],l,_,aN=>by cases aN;exact⟨rfl,by intro i y v _ h;simp at h⟩
 |k::r,l,h,aN=>by
  rw[ed]at*;rw[g9]at aN;by_cases aa:(dQ vs nx k).2=0
  case neg=>rw[xaa aa]at h;exact absurd h aa
  have ej:¬(dQ vs nx k).2≠0:=by simpa using aa
  rw[xac ej]at h⊢;by_cases ae:(ed vs nx r).2=0
  case neg=>rw[xaa ae]at h;exact absurd h ae
  have ha:¬(ed vs nx r).2≠0:=by simpa using ae
  rw[xac ha]at h⊢;by_cases ay:(eN vs s nn k).2=true
  case neg=>rw[xac ay]at aN;cases aN
  rw[xaa ay]at aN;cases a7:g9 vs s nn r with
  |none=>rw[a7]at aN;cases aN
  |some qS=>rw[a7]at aN;cases aN;obtain⟨a9,bk⟩:=UY vs nx s nn ae a7;refine⟨by simp[a9],?_⟩;intro i y v aK hw;cases i with|zero=>simp at aK hw;exact⟨k,rfl,aa,aK.symm,ay,hw.symm⟩|succ i=>simpa using bk i y v (by simpa using aK) (by simpa using hw)
def Nr{t:Tm}{l:List Y}(h:(gR t l).2=0)(aa:5<=t.op/\t.op<=9):l.all Y.b=true:=by
 unfold gR at h;rw[xaa aa]at h;by_cases an:l.all Y.b=true;.exact an
 rw[xac an]at h;cases h
def UZ{t:Tm}{a b c:Y}(h:(gR t [a,b,c]).2=0)(aa:¬(5<=t.op/\t.op<=9)):a.b=true/\b.b=c.b/\((gR t [a,b,c]).1.b=true->b.b=true):=by
 unfold gR at*;rw[xac aa]at*;simp only at h⊢;by_cases an:(!a.b||(b.b !=c.b))=true;.rw[xaa an]at h;cases h
 rw[xac an]at*;refine⟨by cases aG:a.b<;>simp_all,by cases ao:b.b<;>cases J4:c.b<;>simp_all,?_⟩;by_cases ao:b.b=true;.exact λ_=>ao
 rw[xac ao,DI];intro h;cases h
def aeD{t:Tm}{a b:Y}(h:(gR t [a,b]).2=0)(aa:t.op=17){k:Tm}(al:t.a4[1]?=some k):k.op=1/\1<=k.num:=by
 unfold gR at h;rw[xac (by omega)]at h;simp only at h;rw[xac (by omega)]at h;by_cases an:(a.b||b.b)=true;.rw[xaa an]at h;cases h
 rw[xac an,xac (by omega),xaa aa,al]at h;simp only at h;by_cases aA:k.op≠1\/k.num<1;.rw[xaa aA]at h;cases h
 omega
def axE{t:Tm}{a b:Y}(aa:14<=t.op/\t.op<=17):(gR t [a,b]).1.b=false:=by
 unfold gR;rw[xac (by omega)];simp only;rw[xac (by omega)];split;.rfl
 rw[xac (by omega)];split
 .split
  .split;.rfl
   exact DI _ _
  rfl
 exact axD _ _ _
def axF{vs:List V}{nx:Bool}{s nn:List Int}{t:Tm}(aN:Valid t)(h:(kD vs nx t).1.b=true)(aw:(kd vs s nn t).2=true):xY (kd vs s nn t).1:=by
 have aM:=aN.num;unfold kD at h;unfold kd at*;by_cases aa:t.op=1;.rw[xaa aa,DI]at h;cases h
 rw[xac aa]at h;by_cases ae:t.op=2;.rw[xaa (by omega)];unfold xY;simp only;omega
 rw[xac ae]at h;have dW:=aN.op;rw[xac (by omega)]at*;cases aj:mW vs s nn t with
 |none=>rw[aj]at aw;cases aw
 |some i=>
  rw[(axA aj).1]at h;rw[aj]at aw;simp only at h aw⊢;by_cases ay:t.op=4/\nx=false;.rw[xaa ay]at h;cases h
  rw[xac ay]at h;cases hw:vs[i]? with
  |none=>rw[hw]at aw;cases aw
  |some v=>
   rw[hw]at h aw;simp only at h;by_cases ao:v.bool=true
   .cases ah:((if t.op=4 then nn else s)[i]?)with
    |none=>rw[ah]at aw;cases aw
    |some x=>simp only;rw[xaa ao];exact I1 _
   rw[xac ao,DI]at h;cases h
def aeE(vs:List V)(nx:Bool)(s nn:List Int)(t:Tm):Valid t->(dQ vs nx t).2=0->(dQ vs nx t).1.b=true->(eN vs s nn t).2=true->xY (eN vs s nn t).1:=by
 refine Tm.ind (P:=λt=>Valid t->(dQ vs nx t).2=0->(dQ vs nx t).1.b=true->(eN vs s nn t).2=true->xY (eN vs s nn t).1) ?_ t;intro t ih aN h ao aw;rw[n1]at h ao;rw[pX]at aw⊢;by_cases a7:t.op<=4;.rw[xaa a7]at*;exact axF aN ao aw
 rw[xac a7]at*;by_cases ar:(ed vs nx t.a4).2=0
 case neg=>rw[xaa ar]at h;exact absurd h ar
 rw[xac (by simpa using ar)]at h ao;cases aq:g9 vs s nn t.a4 with
 |none=>rw[aq]at aw;cases aw
 |some l=>
  rw[aq]at aw;simp only at aw⊢;obtain⟨a9,bk⟩:=UY vs nx s nn ar aq;obtain⟨b1,_⟩:=DB vs nx t.a4 ar;have dW:=aN.op;have bB:=aN.len;have al:=xU (op:=t.op);have vO:=A5 (op:=t.op);unfold fN;by_cases cG:t.op=6
  .rw[xaa cG];exact I1 _
  rw[xac cG];by_cases e7:t.op=7;.rw[xaa e7];exact I1 _
  rw[xac e7];by_cases bZ:t.op=5
  .have:gm t.op=(1,1):=by rw[bZ];rfl
   rw[this]at bB
   match l,a9,bk with
   |[a],a9,bk=>
    have gq:=Nr h (by omega);have:0<(ed vs nx t.a4).1.length:=by simp at a9;omega
    obtain⟨k,bV,bN,cC,dK,et⟩:=bk 0 _ a (xab this) rfl;have aeF:=xas.1 gq _ (xba this);rw[cC]at aeF;have:=ih k (xad bV) (aN.fu (xad bV)) bN aeF dK;rw[<-et]at this;simp only;rcases this with h|h<;>subst h<;>simp[xY]
   |[],a9,_=>simp at a9;simp only at bB;omega|_::_::_,a9,_=>simp at a9;simp only at bB;omega
  by_cases n2:t.op=18
  .rw[vO n2]at bB;have axG:l.length=3:=by simp only at bB;omega
   obtain⟨a,b,c,rfl⟩:=vN axG;obtain⟨I2,DJ,U0,aK⟩:=vN (l:=(ed vs nx t.a4).1) (by simp only at bB;omega);rw[aK]at h ao bk;obtain⟨U1,Ba,aeG⟩:=UZ h (by omega);have aeH:=aeG ao;have get:∀(i:Nat)(y:Y)(v:Int),[I2,DJ,U0][i]?=some y->[a,b,c][i]?=some v->y.b=true->xY v:=by intro i y v aK hw axH;obtain⟨k,bV,bN,cC,dK,et⟩:=bk i y v aK hw;rw[et];exact ih k (xad bV) (aN.fu (xad bV)) bN (by rw[<-cC];exact axH) dK
   simp only;by_cases aG:a=1;.rw[xaa aG];exact get 1 DJ b rfl rfl aeH
   rw[xac aG];exact get 2 U0 c rfl rfl (by rw[<-Ba];exact aeH)
  rw[al (by omega)]at bB;obtain⟨a,b,rfl⟩:=qI (l:=l) (by simp only at bB;omega);obtain⟨I2,DJ,aK⟩:=qI (l:=(ed vs nx t.a4).1) (by simp only at bB;omega);rw[aK]at h ao;have mr:t.op<=13:=by refine xaY λan=>?_;rw[axE (by omega)]at ao;cases ao
  simp only;have an:t.op=8\/t.op=9\/t.op=10\/t.op=11\/t.op=12\/t.op=13:=by omega
  rcases an with e|e|e|e|e|e<;>simp only[e]<;>exact I1 _
def aeI{vs:List V}{nx:Bool}{s nn:List Int}{t:Tm}{l:List Int}(aN:Valid t)(h:(dQ vs nx t).2=0)(bZ:5<=t.op)(aq:g9 vs s nn t.a4=some l):l.length=t.a4.length/\(∀v∈l,ei v=true)/\((t.op<=9->∀v∈l,v=0\/v=1)/\(t.op=18->∀v,l[0]?=some v->v=0\/v=1))/\(t.op=17->∀v,l[1]?=some v->1<=v/\v<=255):=by
 rw[n1,xac (by omega)]at h;by_cases ar:(ed vs nx t.a4).2=0
 case neg=>rw[xaa ar]at h;exact absurd h ar
 rw[xac (by simpa using ar)]at h;obtain⟨a9,bk⟩:=UY vs nx s nn ar aq;obtain⟨b1,_⟩:=DB vs nx t.a4 ar;have dW:=aN.op;have bB:=aN.len;have at_:∀(i:Nat)(v:Int),l[i]?=some v->∃k y,t.a4[i]?=some k/\(ed vs nx t.a4).1[i]?=some y/\(dQ vs nx k).2=0/\y=(dQ vs nx k).1/\(eN vs s nn k).2=true/\v=(eN vs s nn k).1:=by
  intro i v aj;have b5:i<(ed vs nx t.a4).1.length:=by have:=(xae.1 aj).1;omega
  obtain⟨k,bV,bN,cC,dK,et⟩:=bk i _ v (xab b5) aj;exact⟨k,_,bV,xab b5,bN,cC,dK,et⟩
 refine⟨a9,?_,⟨?_,?_⟩,?_⟩;.intro v hm;obtain⟨i,aj⟩:=xaK.1 hm;obtain⟨k,y,bV,bN,cC,dK,et,fi⟩:=at_ i v aj;rw[fi];exact aeC (aN.fu (xad bV)) et
 .intro h8 v hm;obtain⟨i,aj⟩:=xaK.1 hm;obtain⟨k,y,bV,bN,cC,dK,et,fi⟩:=at_ i v aj;have gq:=xas.1 (Nr h ⟨bZ,h8⟩) y (xad bN);rw[fi];exact aeE vs nx s nn k (aN.fu (xad bV)) cC (by rw[<-dK];exact gq) et
 .intro n2 v aj;obtain⟨k,y,bV,bN,cC,dK,et,fi⟩:=at_ 0 v aj;rw[A5 n2]at bB;obtain⟨I2,DJ,U0,aK⟩:=vN (l:=(ed vs nx t.a4).1) (by simp only at bB;omega);rw[aK]at h bN;have aI:=(UZ h (by omega)).1;cases bN;rw[fi];exact aeE vs nx s nn k (aN.fu (xad bV)) cC (by rw[<-dK];exact aI) et
 intro nW v aj;obtain⟨k,y,bV,bN,cC,dK,et,fi⟩:=at_ 1 v aj;rw[xU (by omega)]at bB;obtain⟨I2,DJ,aK⟩:=qI (l:=(ed vs nx t.a4).1) (by simp only at bB;omega);rw[aK]at h;obtain⟨U1,Ba⟩:=aeD h nW bV;have Eo:=(aN.fu (xad bV)).num;have:eN vs s nn k=(k.num,true):=by rw[pX,xaa (by omega)];unfold kd;rw[xaa (by omega)]
 rw[fi,this];exact⟨Ba,by simp only;omega⟩
def ie(b:Bool)(l:List Int):D:=cA 1 b (l.map λx=>[R x])
@[simp] theorem aDy (b:Bool) (l:List Int):bJ (ie b l)=some (R l.length):=by simp[ie]
@[simp] theorem aDz (b:Bool) (l:List Int):bm (ie b l)=true:=by unfold ie cA;split<;>rfl
def aeJ{b:Bool}{l:List Int}{i:Nat}{x:Int}(h:l[i]?=some x):bh 1 (ie b l) (R (i:Int))=some [R x]:=by
 have cv:l≠[]:=by rintro rfl;simp at h
 have:ie b l= .ak 1 (l.map λx=>[R x]):=by unfold ie cA;rw[xac (by simp[cv])]
 rw[this];simp[h]
def aeK(l:List Int):ie false l=cJ l:=by simp[ie,cA,cJ]
theorem DK:ie true []=cp:=rfl
variable{bn:Bool}
theorem U2{k:Nat}:bj (k+1) (R 0)=some 0:=by rw[Q0 (by omega) (by omega)];rfl
theorem aeL{k:Nat}:bj (k+2) (R 1)=some 1:=by rw[Q0 (by omega) (by omega)];rfl
theorem axI{k:Nat}:bj (k+3) (R 2)=some 2:=by rw[Q0 (by omega) (by omega)];rfl
def axJ{x:Int}(aa:x≠0)(ae:x.natAbs<=9007199254740992):ag false .quo (R 9007199254740992) (R (x.natAbs:Int))=some (R ((9007199254740992/x.natAbs:Nat):Int)):=by
 have ah:(x.natAbs:Int)≠0:=by omega
 rw[Zz ah];have e:(9007199254740992:Int).tdiv (x.natAbs:Int)=((9007199254740992/x.natAbs:Nat):Int):=by rw[Int.tdiv_eq_ediv_of_nonneg (by omega)];rfl
 have ay:=Nat.div_le_self 9007199254740992 x.natAbs;rw[e];generalize 9007199254740992/x.natAbs=q at*;rw[wrap64 _ (by omega) (by omega)]
def axK(a b:Int)(h:a≠0):(b.natAbs:Int)>((9007199254740992/a.natAbs:Nat):Int)↔ei (a*b)=false:=by
 have a1:0<a.natAbs:=by omega
 have aa:ei (a*b)=false↔9007199254740992<a.natAbs*b.natAbs:=by
  rw[<-Int.natAbs_mul];have:=jY (a*b);constructor
  .intro h;refine xaY λan=>?_;rw[this.2 (by omega)]at h;cases h
  intro h;cases bQ:ei (a*b)with|false=>rfl|true=>exact absurd (this.1 bQ) (by omega)
 rw[aa,Nat.mul_comm,<-Nat.div_lt_iff_lt_mul a1];omega
set_option maxHeartbeats 2000000 in
def axL(wM:List D->Option D)(n:Nat)(vs:List V)(s nn:List Int)(t:Tm)(l:List Int)(aN:Valid t)(b5:l.length=t.a4.length)(dW:5<=t.op)(aw:∀v∈l,ei v=true) (ao:(t.op<=9->∀v∈l,v=0\/v=1)/\(t.op=18->∀v,l[0]?=some v->v=0\/v=1)) (hm:t.op=17->∀v,l[1]?=some v->1<=v/\v<=255) (iQ:bq (xF wM n) n [bd vs,cJ s,ie bn nn,R 0,R 0,R t.op,R t.num,aT t.name,cA 4 t.nl (Tm.rows t.a4),.ak 1 []]=some (.inl [R (if t.op=6\/t.op=7 then l.sum else 0),R t.op,R t.num,aT t.name,cA 4 t.nl (Tm.rows t.a4),cJ l])):lN wM n (bd vs) t.d (cJ s) (ie bn nn)=some (.aR [R (fN t.op l).1,ax (fN t.op l).2]):=by
 have r7:=aN.op;have bB:=aN.len;have aY:=Tm.pF t;have bw:=Tm.sZ t;have bO:=Tm.s3 t;have b0:=Tm.rz t;have dt:=Tm.nd t;have al:=xU (op:=t.op);have vO:=A5 (op:=t.op);have xW:=aN.DC;have hL:=aeu n;have pb:=aev n;have es:∀l:List Int,af (cJ l)=l.map λv=>[R v]:=λ_=>rfl;have I3:∀b:Bool,ei (tr b)=true:=UX;by_cases r8:t.op=6\/t.op=7
 .generalize t.op=op at*;rcases r8 with rfl|rfl
  .simp[lN,dt,aY,bw,bO,b0,iQ,es,hL,pb,fN,I3];rfl
  simp[lN,dt,aY,bw,bO,b0,iQ,es,hL,pb,fN,I3]
 by_cases bZ:t.op=5
 .have:gm t.op=(1,1):=by rw[bZ];rfl
  rw[this]at bB;have nv:l.length=1:=by simp only at bB;omega
  match l,nv with|[a],_=>have aG:=ao.1 (by omega) a (by simp);have aP:ag false .sub (R 1) (R a)=some (R (1-a)):=qt (by omega) (by omega);generalize t.op=op at*;subst bZ;simp[lN,dt,aY,bw,bO,b0,iQ,es,pb,fN,U2,aP]
 by_cases n2:t.op=18;.rw[vO n2]at bB;obtain⟨a,b,c,rfl⟩:=vN (l:=l) (by simp only at bB;omega);generalize t.op=op at*;subst n2;by_cases aG:a=1<;>simp[lN,dt,aY,bw,bO,b0,iQ,es,pb,fN,U2,aeL,axI,aG]
 rw[al (by omega)]at bB;obtain⟨a,b,rfl⟩:=qI (l:=l) (by simp only at bB;omega);have UU:=(jY a).1 (aw a (by simp));have aeA:=(jY b).1 (aw b (by simp));have lD:bj 2 (R 0)=some 0:=U2;have nH:bj 2 (R 1)=some 1:=aeL;by_cases nW:t.op=17
 .obtain⟨bV,bN⟩:=hm nW b rfl;have gO:=IX (a:=a) bV;have IY:b≠0:=by omega
  have eM:ag false .add (R (a.tmod b)) (R b)=some (R (a.tmod b+b)):=eZ (by omega) (by omega);have aP:ag false .rem (R a) (R b)=some (R (a.tmod b)):=Fw IY;have a2:ag false .rem (R (a.tmod b+b)) (R b)=some (R ((a.tmod b+b).tmod b)):=Fw IY;generalize t.op=op at*;subst nW;simp[lN,dt,aY,bw,bO,b0,iQ,es,pb,fN,lD,nH,aP,a2,eM]
 by_cases e2:t.op=16
 .have aeM:=aew n a (by omega);have aeN:=aew n b (by omega);have Ns:=axK a b;have aDA:=aes UU aeA;generalize t.op=op at*;subst e2;by_cases aG:a=0
  .subst aG;have aP:ag false .mul (R 0) (R b)=some (R 0):=by rw[w6 (by omega) (by omega),Int.zero_mul]
   simp[lN,dt,aY,bw,bO,b0,iQ,es,pb,fN,lD,nH,aP,show ei 0=true from rfl]
  have bQ:=axJ aG UU;have Ns:=Ns aG;have EY:(a==0)=false:=by simpa using aG
  generalize 9007199254740992/a.natAbs=q at*;by_cases a8:ei (a*b)=true
  .have aa:¬((b.natAbs:Int)>(q:Int)):=λh=>by rw[Ns.1 h]at a8;cases a8
   have ej:decide ((b.natAbs:Int)>(q:Int))=false:=xaw aa;have aDB:=(jY _).1 a8;have aP:ag false .mul (R a) (R b)=some (R (a*b)):=w6 (by omega) (by omega);have a2:ag false .gtr (R (b.natAbs:Int)) (R (q:Int))=some (ax false):=by rw[oT,ej]
   simp[lN,dt,aY,bw,bO,b0,iQ,es,pb,fN,lD,nH,aeM,aeN,bQ,a2,aP,a8,aG]
  have I4:ei (a*b)=false:=by simpa using a8
  have ej:decide ((b.natAbs:Int)>(q:Int))=true:=xao (Ns.2 I4);have a2:ag false .gtr (R (b.natAbs:Int)) (R (q:Int))=some (ax true):=by rw[oT,ej]
  simp[lN,dt,aY,bw,bO,b0,iQ,es,pb,fN,lD,nH,aeM,aeN,bQ,a2,I4,aG]
 have an:t.op=8\/t.op=9\/t.op=10\/t.op=11\/t.op=12\/t.op=13\/t.op=14\/t.op=15:=by omega
 have jz:ag false .add (R a) (R b)=some (R (a+b)):=eZ (by omega) (by omega);have axM:ag false .sub (R a) (R b)=some (R (a-b)):=qt (by omega) (by omega);have aDC:∀x y:Int,pU n [ax (x==y)]=some (R (tr (x==y))):=λ_ _=>hL _;generalize t.op=op at*;rcases an with rfl|rfl|rfl|rfl|rfl|rfl|rfl|rfl
 .by_cases r9:a=0;.simp[lN,dt,aY,bw,bO,b0,iQ,es,hL,pb,fN,I3,lD,nH,r9]
  have IZ:(a==0)=false:=by simpa using r9
  simp[lN,dt,aY,bw,bO,b0,iQ,es,hL,pb,fN,I3,lD,nH,r9,IZ]
 all_goals simp[lN,dt,aY,bw,bO,b0,iQ,es,hL,pb,fN,I3,lD,nH,jz,axM]
variable{bn:Bool}
def aeO{a b:Nat}(h:a+b<=1000):cW (a+b) 8=true:=gd (by omega) (by omega)
def aeP{vs:List V}{nx:Bool}{t:Tm}(h:(kD vs nx t).2=0)(ay:3<=t.op):∃i,eh vs t.name=some i:=by
 unfold kD at h;rw[xac (by omega),xac (by omega)]at h;cases aj:eh vs t.name with
 |none=>rw[aj]at h;cases h
 |some i=>exact⟨i,rfl⟩
def U3{vs:List V}{nx:Bool}:∀{l:List Tm},(ed vs nx l).2=0->∀k∈l,(dQ vs nx k).2=0
 |[],_,k,al=>by cases al
 |t::r,h,k,al=>by
  rw[ed]at h;by_cases aa:(dQ vs nx t).2=0
  case neg=>rw[xaa aa]at h;exact absurd h aa
  rw[xac (by simpa using aa)]at h;by_cases ae:(ed vs nx r).2=0
  case neg=>rw[xaa ae]at h;exact absurd h ae
  rcases xap.1 al with rfl|al;.exact aa
  exact U3 ae k al
def I5{vs:List V}{nx:Bool}{t k:Tm}(aN:Valid t)(h:(dQ vs nx t).2=0)(al:k∈t.a4):(dQ vs nx k).2=0:=by
 rw[n1]at h;by_cases a7:t.op<=4;.rw[aN.leaf a7]at al;cases al
 rw[xac a7]at h;by_cases ar:(ed vs nx t.a4).2=0;.exact U3 ar k al
 rw[xaa ar]at h;exact absurd h ar
def U4{vs:List V}{i:Nat}{l:List Int}(h:i<vs.length)(aq:l.length=vs.length):∃x,l[i]?=some x:=⟨_,xab (by omega)⟩
@[simp] theorem aDD (p:List Int) (x:Int):D.ak 1 (af (cJ p)++[[R x]])=cJ (p++[x]):=by simp[cJ]
@[simp] theorem aDE (p:List Int):(af (cJ p)).length=p.length:=by simp[cJ]
@[simp] theorem aDF (p:List Int):D.ak 1 (af (cJ p))=cJ p:=rfl
def aeQ(vs:List V)(nx:Bool)(s nn:List Int)(mw:vs.length<1000000000000)(aE:s.length=vs.length):∀(n:Nat)(t:Tm),t.bp+200+vs.length<n->t.cB->Valid t->(dQ vs nx t).2=0->(steps t=true->nn.length=vs.length)->r1 n [bd vs,t.d,cJ s,ie bn nn]=some (.aR [R (eN vs s nn t).1,ax (eN vs s nn t).2])
 |0,t,h,_,_,_,_=>absurd h (xaI _)
 |n+1,t,aM,bs,aN,aJ,fB=>by
  have dW:=aN.op;have xW:=aN.DC;rw[pX];show lN (r1 n) n (bd vs) t.d (cJ s) (ie bn nn)=_;by_cases a7:t.op<=4
  .rw[xaa a7];rw[n1,xaa a7]at aJ;have aY:=Tm.pF t;have bw:=Tm.sZ t;have bO:=Tm.s3 t;have b0:=Tm.rz t;have dt:=Tm.nd t;have hL:=aeu n;have pb:=aev n;by_cases ae:t.op<=2
   .unfold kd;rw[xaa ae];have an:t.op=1\/t.op=2:=by omega
    generalize t.op=op at*;rcases an with rfl|rfl<;>simp[lN,dt,aY,bw,bO,b0]
   obtain⟨i,aj⟩:=aeP aJ (by omega);obtain⟨v,v1,v2,rn⟩:=xV aj;have ah:=UP n vs t.name (by omega) mw;rw[aj]at ah;have bB:(if t.op=4 then nn else s).length=vs.length:=by
    by_cases h:t.op=4;.rw[xaa h];exact fB (by rw[Nq,h];rfl)
    rw[xac h];exact aE
   have b2:mW vs s nn t=some i:=by unfold mW;rw[xaa bB,aj]
   obtain⟨x,qL⟩:=U4 rn bB;unfold kd;rw[xac ae,b2];simp only[v1,qL];have an:t.op=3\/t.op=4:=by omega
   generalize t.op=op at*;rcases an with rfl|rfl
   .simp only[show¬((3:Int)=4) by omega,xaz]at qL;cases ao:v.bool<;>simp[lN,dt,aY,bw,bO,b0,ah,gS v1,v.vP,pW qL,hL,pb,ao]
   simp only[xav]at qL;cases ao:v.bool<;>simp[lN,dt,aY,bw,bO,b0,ah,gS v1,v.vP,aeJ qL,hL,pb,ao]
  rw[xac a7];have axN:∀k∈t.a4,steps k=true->nn.length=vs.length:=λk al h=>by refine fB ?_;cases bQ:o9 t.a4 with|true=>rw[Nq,bQ,Bool.or_true]|false=>rw[aeB al bQ]at h;cases h
  have aq:=dm (f:=xF (r1 n) n) t.a4 (λi (p:List Int)=>[bd vs,cJ s,ie bn nn,R (if t.op=6\/t.op=7 then p.sum else 0),R (i:Int),R t.op,R t.num,aT t.name,cA 4 t.nl (Tm.rows t.a4),cJ p]) (λr p=>match g9 vs s nn r with
    |some l=>(Sum.inl [R (if t.op=6\/t.op=7 then(p++l).sum else 0),R t.op,R t.num,aT t.name,cA 4 t.nl (Tm.rows t.a4),cJ (p++l)]:List D⊕D)
    |none=> .inr (.aR [R 0,ax false]))
   (λi p=>p.length=i/\∀v∈p,ei v=true) ?_ ?_ n 0 [] ⟨rfl,by simp⟩ (by omega) (xaj _)
  .have bU:(R ((0:Nat):Int))=R 0:=rfl;have aP:cJ []= .ak 1 []:=rfl;rw[bU,aP]at aq;simp only[List.sum_nil,ite_self,xam,xaH]at aq;cases ke:g9 vs s nn t.a4 with
   |none=>
    rw[ke]at aq;have fO:(t.op==1)=false:=by simp;omega
    have h5:(t.op==2)=false:=by simp;omega
    have kN:(t.op==3)=false:=by simp;omega
    have qK:(t.op==4)=false:=by simp;omega
    simp[lN,fO,h5,kN,qK,aq]
   |some l=>rw[ke]at aq;obtain⟨a9,bk,b1,eU⟩:=aeI (nx:=nx) aN aJ (by omega) ke;exact axL (r1 n) n vs s nn t l aN a9 (by omega) bk b1 eU aq
  .intro p a1;simp[xF,g9]
  intro i a p aG aj a1;have hm:=xad aG;have bP:=Tm.jS hm;have aw:=aeQ vs nx s nn mw aE n a (by omega) (bs.fu hm) (aN.fu hm) (I5 aN aJ hm) (axN a hm);have eo:cW (p.length+1) 8=true:=aeO (by omega);by_cases ar:(eN vs s nn a).2=true
  .left;have fG:=aeC (aN.fu hm) ar;refine⟨p++[(eN vs s nn a).1],?_,?_,by simp[a1.1],?_⟩
   .have sx:=UT p a1.2;have wo:=(jY _).1 fG;have fw:ag false .add (R p.sum) (R (eN vs s nn a).1)=some (R (p.sum+(eN vs s nn a).1)):=eZ (by omega) (by omega);by_cases r8:t.op=6\/t.op=7
    .have aDG:(if t.op=6 then true else decide (t.op=7))=true:=by rcases r8 with h|h<;>simp[h]
     rcases r8 with h|h;.simp[xF,aj,Tm.hz aG,aw,ar,cr (bt:=false) (i:=i) (by omega),eo,h,fw]
     simp[xF,aj,Tm.hz aG,aw,ar,cr (bt:=false) (i:=i) (by omega),eo,h,fw]
    have cG:¬t.op=6:=λh=>r8 (.inl h);have e7:¬t.op=7:=λh=>r8 (.inr h);simp[xF,aj,Tm.hz aG,aw,ar,cr (bt:=false) (i:=i) (by omega),eo,cG,e7]
   .rw[g9,xaa ar];cases g9 vs s nn (t.a4.drop (i+1))with|none=>rfl|some l=>simp
   intro v gX;rcases xaM.1 gX with h|h
   .exact a1.2 v h
   simp at h;rw[h];exact fG
  right;rw[g9,xac ar];have I6:(eN vs s nn a).2=false:=by simpa using ar
  simp[xF,aj,Tm.hz aG,aw,I6]
theorem axO{M:List (Value×D)}(h:lK M){z:Value}{x:ByteArray}:kr .string z false M (aT x)=some (match gB M x with|some d=>d|none=>qV z):=by simp only[kr,aT,ZT h];cases gB M x<;>rfl
def DL(p:Int×Bool):bf 0 (gh p)=some (R (if p.2=true then p.1 else 0)):=by obtain⟨v,o⟩:=p;cases o<;>simp[gh]
def DM(p:Int×Bool):bf 1 (gh p)=some (ax p.2):=by obtain⟨v,o⟩:=p;cases o<;>simp[gh]
def DN(p:Int×Bool):D.aR [R (if p.2=true then p.1 else 0),ax p.2]=gh p:=by obtain⟨v,o⟩:=p;cases o<;>simp[gh]
theorem axP(p:Int×Bool):(gh p).flat=true:=by obtain⟨v,o⟩:=p;cases o<;>rfl
def aeR(vs:List V)(nx:Bool)(s nn:List Int)(M:List (Value×D))(dD:Ni M vs)(mw:vs.length<1000000000000)(aE:s.length=vs.length)(fG:∀v,v∈s\/v∈nn->-9223372036854775808<=v/\v<=9223372036854775807):∀(n:Nat)(t:Tm),t.bp+200<n->t.cB->Valid t->(dQ vs nx t).2=0->vp n [t.d,cJ s,.mp M,ie bn nn,bd vs]=some [gh (eN vs s nn t),cJ s,.mp M,ie bn nn,bd vs]
 |0,t,h,_,_,_=>absurd h (xaI _)
 |n+1,t,aM,bs,aN,aJ=>by
  have dW:=aN.op;have xW:=aN.DC;rw[pX];show vo (vp n) n [t.d,cJ s,.mp M,ie bn nn,bd vs]=_;have aq:=dm (f:=HP (vp n) n) t.a4 (λi (p:List Int)=>[cA 4 t.nl (Tm.rows t.a4),R t.a4.length,R (i:Int),cJ s,.mp M,ie bn nn,bd vs,R t.op,R t.num,aT t.name,cA 4 t.nl (Tm.rows t.a4),cJ p]) (λr p=>match g9 vs s nn r with|some l=>(Sum.inl [cJ s,.mp M,ie bn nn,bd vs,R t.op,R t.num,aT t.name,cA 4 t.nl (Tm.rows t.a4),cJ (p++l)]:List D⊕List D)|none=> .inr [.aR [R 0,ax false],cJ s,.mp M,ie bn nn,bd vs])
   (λi p=>p.length=i) ?_ ?_ n 0 [] rfl (by omega) (xaj _)
  .have bU:(R ((0:Nat):Int))=R 0:=rfl;have aP:cJ []= .ak 1 []:=rfl;have DO:D.aR [R 0,ax false]=gh (0,false):=rfl;rw[bU,aP]at aq;simp only[xam,xaH]at aq;have aY:=Tm.pF t;have bw:=Tm.sZ t;have bO:=Tm.s3 t;have b0:=Tm.rz t;have dt:=Tm.nd t;by_cases a7:t.op<=4
   .rw[xaa a7];rw[n1,xaa a7]at aJ;have al:=aN.leaf a7;rw[al]at aq;have axQ:((([]:List Tm).length:Nat):Int)=0:=rfl;simp only[g9,xar,axQ]at aq;have aDH:D.ak 1 []=cJ []:=rfl;have hL:=aet n;by_cases ae:t.op<=2
    .unfold kd;rw[xaa ae];have an:t.op=1\/t.op=2:=by omega
     generalize t.op=op at*;rcases an with rfl|rfl<;>simp[vo,dt,aY,bw,bO,b0,al,aq,gh]
    obtain⟨i,aj⟩:=aeP aJ (by omega);obtain⟨v,v1,v2,rn⟩:=xV aj;have tE:=axO dD.1 (z:= .int .i64 0) (x:=t.name);rw[dD.2,aj]at tE;simp only[xaC]at tE;have sR:mH (.mp M)=some M:=rfl;unfold kd;rw[xac ae];have an:t.op=3\/t.op=4:=by omega
    have aDI:(t.op==3||t.op==4)=true:=by rcases an with h|h<;>simp[h]
    by_cases bB:(if t.op=4 then nn else s).length=vs.length
    .have b2:mW vs s nn t=some i:=by unfold mW;rw[xaa bB,aj]
     obtain⟨x,qL⟩:=U4 rn bB;have Dw:=xad qL;rw[b2];simp only[v1,qL];have A8:o8 (x+0) true=gh (x,ei x):=by rw[aex,Int.add_zero]
     generalize t.op=op at*;rcases an with rfl|rfl
     .simp only[show¬((3:Int)=4) by omega,xaz]at qL Dw bB;have dB:=Nk n x 0 (fG x (.inl Dw)) (by omega);rw[A8]at dB;cases ao:v.bool<;>simp[vo,dt,aY,bw,bO,b0,al,aq,sR,tE,nq,eT,bB,gS v1,v.vP,pW qL,hL,ao,dB,DL,DM,DN]<;>(try exact DN (x,ei x))<;>(try rfl)
     simp only[xav]at qL Dw bB;have dB:=Nk n x 0 (fG x (.inr Dw)) (by omega);rw[A8]at dB;cases ao:v.bool<;>simp[vo,dt,aY,bw,bO,b0,al,aq,sR,tE,nq,eT,bB,gS v1,v.vP,aeJ qL,hL,ao,dB,DL,DM,DN]<;>(try exact DN (x,ei x))<;>(try rfl)
    have b2:mW vs s nn t=none:=by unfold mW;rw[xac bB]
    rw[b2];have mL:t.op=4:=by refine an.resolve_left λh=>bB ?_;rw[xac (by omega)];exact aE
    rw[xaa mL]at bB;generalize t.op=op at*;subst mL;have cv:¬((nn.length:Int)=(vs.length:Int)):=by omega
    simp[vo,dt,aY,bw,bO,b0,al,aq,sR,tE,nq,eT,bB,cv]<;>(try rfl)
   rw[xac a7];have fO:(t.op==1)=false:=by simp;omega
   have h5:(t.op==2)=false:=by simp;omega
   have kN:(t.op==3)=false:=by simp;omega
   have qK:(t.op==4)=false:=by simp;omega
   cases ke:g9 vs s nn t.a4 with
   |none=>rw[ke]at aq;simp[vo,dt,aY,bw,bO,b0,aq]<;>(try rfl)
   |some l=>rw[ke]at aq;obtain⟨a9,bk,b1,eU⟩:=aeI (nx:=nx) aN aJ (by omega) ke;have aI:=axw n t l aN a9 (by omega) bk (by omega) b1 eU;simp[vo,dt,aY,bw,bO,b0,aq,fO,h5,kN,qK,aI,axP,DL,DM,DN]
  .intro p a1;simp[HP,g9]
  intro i a p aG aj a1;have hm:=xad aG;have bP:=Tm.jS hm;have aw:=aeR vs nx s nn M dD mw aE fG n a (by omega) (bs.fu hm) (aN.fu hm) (I5 aN aJ hm);have eo:cW (p.length+1) 8=true:=aeO (by omega);by_cases ar:(eN vs s nn a).2=true
  .left;refine⟨p++[(eN vs s nn a).1],?_,?_,by simp[a1]⟩;.simp[HP,aj,Tm.hz aG,aw,ar,cr (bt:=false) (i:=i) (by omega),eo,DL,DM]
   rw[g9,xaa ar];cases g9 vs s nn (t.a4.drop (i+1))with|none=>rfl|some l=>simp
  right;rw[g9,xac ar];have I6:(eN vs s nn a).2=false:=by simpa using ar
  simp[HP,aj,Tm.hz aG,aw,I6,DL,DM]
def aeS:∀(n:Nat)(t:Tm),t.bp<n->t.cB->r0 n [t.d]=some (ax (steps t))
 |0,t,h,_=>absurd h (xaI _)
 |n+1,t,aM,bs=>by
  have bB:=bs.len;rw[Nq];have aq:=dm (f:=Ix (r0 n) n) t.a4 (λi (_:Unit)=>[R (i:Int),R t.op,R t.num,aT t.name,cA 4 t.nl (Tm.rows t.a4)]) (λr _=>if o9 r=true then(Sum.inr (ax true):List D⊕D)else .inl []) (λ_ _=>True) (λ_ _=>by simp[Ix,o9]) ?_ n 0 () trivial (by have:=t.lI;omega) (xaj _)
  .have bU:(R ((0:Nat):Int))=R 0:=rfl;rw[bU]at aq;simp only[xam]at aq;by_cases a7:t.op=4;.simp[r0,MJ,a7]
   have qK:(t.op==4)=false:=by simpa using a7
   cases aE:o9 t.a4<;>simp[r0,MJ,a7,aq,aE]
  intro i a _ aG aj _;have hm:=xad aG;have bP:=Tm.jS hm;have aw:=aeS n a (by omega) (bs.fu hm);cases aE:steps a
  .left;exact⟨(),by simp[Ix,aj,Tm.hz aG,aw,aE,cr (bt:=false) (i:=i) (by omega)],by simp[o9,aE],trivial⟩
  right;simp[Ix,aj,Tm.hz aG,aw,aE,o9]
def aeT{vs:List V}{s nn:List Int}:∀{l:List Tm}{r:List Int},g9 vs s nn l=some r->∀k∈l,(eN vs s nn k).2=true
 |[],_,_,k,al=>by cases al
 |t::q,r,h,k,al=>by
  rw[g9]at h;by_cases aa:(eN vs s nn t).2=true
  case neg=>rw[xac aa]at h;cases h
  rw[xaa aa]at h;cases ae:g9 vs s nn q with
  |none=>rw[ae]at h;cases h
  |some l=>
   rcases xap.1 al with rfl|al;.exact aa
   exact aeT ae k al
def aeU:∀{l:List Tm},o9 l=true->∃k∈l,steps k=true
 |a::r,h=>by rw[o9]at h;cases aG:steps a with|true=>exact⟨a,by simp,aG⟩|false=>rw[aG,xbz]at h;obtain⟨k,aa,ae⟩:=aeU h;exact⟨k,by simp[aa],ae⟩
def axR{vs:List V}{s nn:List Int}(cv:nn.length≠vs.length)(t:Tm):Valid t->steps t=true->(eN vs s nn t).2=false:=by
 refine Tm.ind (P:=λt=>Valid t->steps t=true->(eN vs s nn t).2=false) ?_ t;intro t ih aN h;rw[pX];rw[Nq]at h;by_cases a7:t.op<=4
 .rw[xaa a7];have mL:t.op=4:=by
   rw[aN.leaf a7]at h;simpa[o9]using h
  unfold kd;rw[xac (by omega)];have:mW vs s nn t=none:=by unfold mW;rw[xaa mL,xac cv]
  rw[this]
 rw[xac a7];have ao:(t.op==4)=false:=by simp;omega
 rw[ao,xbz]at h;obtain⟨k,aa,ae⟩:=aeU h;cases aq:g9 vs s nn t.a4 with|none=>rfl|some l=>have:=aeT aq k aa;rw[ih k aa (aN.fu aa) ae]at this;cases this
def hG(vs:List V)(t:Tm)(s nn:List Int):Int×Bool:=if(jI vs true t).2≠0\/s.length≠vs.length then(0,false)else eN vs s nn t
def I7{vs:List V}{nx:Bool}{t:Tm}(h:(jI vs nx t).2=0):Valid t/\(dQ vs nx t).2=0:=by
 unfold jI at h;by_cases an:(c9 t 1 0).1=0;.rw[xac (by simpa using an)]at h;exact⟨⟨1,0,an⟩,h⟩
 rw[xaa an]at h;exact absurd h an
def aeV(n:Nat)(vs:List V)(t:Tm)(s nn:List Int)(aM:t.bp+200+vs.length<n)(bs:t.cB)(mw:vs.length<1000000000000)(fG:∀v,v∈s\/v∈nn->-9223372036854775808<=v/\v<=9223372036854775807):rW n [bd vs,t.d,cJ s,ie bn nn]=some (gh (hG vs t s nn)):=by
 have aa:=aeg n vs t true aM bs mw;obtain⟨M,gO,lu⟩:=aec n vs (by omega) mw;have gk:bm (bd vs)=true:=rfl;have l9:∀l,bm (cJ l)=true:=λ_=>rfl;have DO:D.aR [R 0,ax false]=gh (0,false):=rfl;unfold hG;by_cases aJ:(jI vs true t).2=0
 .by_cases aE:s.length=vs.length
  .obtain⟨aN,fk⟩:=I7 aJ;have aA:=aeR (bn:=bn) vs true s nn M lu mw aE fG n t (by omega) bs aN fk;have Nt:((s.length:Int) !=(vs.length:Int))=false:=by simp[aE]
   simp[rW,Mi,gk,l9,aa,aJ,aE,nq,eT,gO,aA,DL,DM,DN]
  have Nt:¬((s.length:Int)=(vs.length:Int)):=by omega
  simp[rW,Mi,gk,l9,aa,aJ,aE,nq,eT,Nt];exact DO
 simp[rW,Mi,gk,l9,aa,aJ];exact DO
def aeW(n:Nat)(vs:List V)(t:Tm)(s nn:List Int)(aM:t.bp+200+vs.length<n)(bs:t.cB)(mw:vs.length<1000000000000):pV n [bd vs,t.d,cJ s,ie bn nn]=some (gh (hG vs t s nn)):=by
 have aa:=aeh n vs t true aM bs mw;have ae:=aeS n t (by omega) bs;have DO:D.aR [R 0,ax false]=gh (0,false):=rfl;unfold hG;by_cases aJ:(jI vs true t).2=0
 .by_cases aE:s.length=vs.length
  .obtain⟨aN,fk⟩:=I7 aJ;by_cases fB:steps t=true/\nn.length≠vs.length
   .have axS:=axR (s:=s) fB.2 t aN fB.1;have axT:¬((nn.length:Int)=(vs.length:Int)):=by have:=fB.2;omega
    have aw:gh (eN vs s nn t)= .aR [R 0,ax false]:=by unfold gh;rw[xac (by simp[axS])]
    simp[pV,Dg,aa,ae,aJ,aE,nq,eT,fB.1,axT,aw]
   have aA:=aeQ (bn:=bn) vs true s nn mw aE n t aM bs aN fk (λh=>by refine xaY λan=>fB ⟨h,an⟩);have aw:gh (eN vs s nn t)=if(eN vs s nn t).2=true then .aR [R (eN vs s nn t).1,ax true]else .aR [R 0,ax false]:=rfl
   by_cases U5:steps t=true;.have oU:nn.length=vs.length:=xaY λan=>fB ⟨U5,an⟩;cases ao:(eN vs s nn t).2<;>simp[pV,Dg,aa,ae,aJ,aE,nq,eT,U5,oU,aA,ao,aw]
   have axU:steps t=false:=by simpa using U5
   cases ao:(eN vs s nn t).2<;>simp[pV,Dg,aa,ae,aJ,aE,nq,eT,axU,aA,ao,aw]
  have Nt:¬((s.length:Int)=(vs.length:Int)):=by omega
  simp[pV,Dg,aa,ae,aJ,aE,nq,eT,Nt];exact DO
 simp[pV,Dg,aa,ae,aJ];exact DO
def aeX{lo aj x y:Int}(aa:lo<=x)(ae:x<=aj):lk (lo*y) (aj*y)<=x*y/\x*y<=fR (lo*y) (aj*y):=by
 by_cases aK:0<=y;.have a:=Int.mul_le_mul_of_nonneg_right aa aK;have b:=Int.mul_le_mul_of_nonneg_right ae aK;unfold lk fR;constructor<;>split<;>omega
 have a:=Int.mul_le_mul_of_nonpos_right aa (show y<=0 by omega);have b:=Int.mul_le_mul_of_nonpos_right ae (show y<=0 by omega);unfold lk fR;constructor<;>split<;>omega
def aeY{lo aj x y:Int}(aa:lo<=x)(ae:x<=aj):lk (y*lo) (y*aj)<=y*x/\y*x<=fR (y*lo) (y*aj):=by have:=aeX (y:=y) aa ae;rw[Int.mul_comm lo y,Int.mul_comm aj y,Int.mul_comm x y]at this;exact this
def axV{a b:Y}{x y:Int}(ah:a.lo<=x/\x<=a.aj)(aK:b.lo<=y/\y<=b.aj):Dz a b<=x*y/\x*y<=DA a b:=by have aa:=aeX (y:=y) ah.1 ah.2;have ae:=aeY (y:=a.lo) aK.1 aK.2;have ay:=aeY (y:=a.aj) aK.1 aK.2;unfold Dz DA;generalize x*y=p at*;generalize a.lo*y=q at*;generalize a.aj*y=r at*;generalize a.lo*b.lo=s at*;generalize a.lo*b.aj=t at*;generalize a.aj*b.lo=u at*;generalize a.aj*b.aj=v at*;unfold lk fR at*;omega
def axW{lo aj v:Int}(h:(g8 lo aj).2=0)(aa:lo<=v)(ae:v<=aj):(g8 lo aj).1.lo<=v/\v<=(g8 lo aj).1.aj:=by
 unfold g8 at*;split at h;.cases h
 rename_i an;rw[xac an];exact⟨aa,ae⟩
def gK(vs:List V)(s:List Int):Prop:=s.length=vs.length/\∀(i:Nat)(v:V)(x:Int),vs[i]?=some v->s[i]?=some x->if v.bool then x=0\/x=1 else v.lo<=x/\x<=v.aj
def within(y:Y)(v:Int):Prop:=if y.b then v=0\/v=1 else y.lo<=v/\v<=y.aj
def xZ{lo aj v:Int}(h:(g8 lo aj).2=0)(aa:lo<=v)(ae:v<=aj):within (g8 lo aj).1 v:=by unfold within;rw[DI];exact axW h aa ae
def vR{y:Y}{b:Bool}(h:y.b=true):within y (tr b):=by unfold within;rw[xaa h];exact I1 b
def aeZ{lo aj:Int}(h:(g8 lo aj).2=0):-1048576<=lo/\aj<=1048576/\lo<=aj:=by
 unfold g8 at h;split at h;.cases h
 omega
def axX{vs:List V}{s nn:List Int}{t:Tm}(aE:gK vs s)(aM:gK vs nn)(aN:Valid t)(h:(kD vs true t).2=0):(kd vs s nn t).2=true/\within (kD vs true t).1 (kd vs s nn t).1:=by
 have tB:=aN.num;unfold kD at*;unfold kd;by_cases aa:t.op=1;.rw[xaa aa]at*;rw[xaa (by omega)];exact⟨rfl,xZ h (Int.le_refl _) (Int.le_refl _)⟩
 rw[xac aa]at*;by_cases ae:t.op=2;.rw[xaa ae]at*;rw[xaa (by omega)];refine⟨rfl,?_⟩;unfold within;simp only[jf,xav];omega
 rw[xac ae]at*;have dW:=aN.op;rw[xac (show¬t.op<=2 by omega)];cases aj:eh vs t.name with
 |none=>rw[aj]at h;cases h
 |some i=>
  rw[aj]at h;simp only at h⊢;obtain⟨v,v1,v2,rn⟩:=xV aj;have Mt:¬(t.op=4/\true=false):=by simp
  rw[xac Mt,v1]at h;rw[xac Mt,v1];simp only at h⊢;have xQ:gK vs (if t.op=4 then nn else s):=by split<;>assumption
  have b2:mW vs s nn t=some i:=by unfold mW;rw[xaa xQ.1,aj]
  obtain⟨x,ah⟩:=U4 rn xQ.1;rw[b2];simp only[ah,v1];have aw:=xQ.2 i v x v1 ah;by_cases ao:v.bool=true
  .rw[xaa ao]at*;rw[xaa ao];exact⟨rfl,vR rfl⟩
  rw[xac ao]at*;rw[xac ao];have lE:=aeZ h;exact⟨(jY _).2 (by omega),xZ h aw.1 aw.2⟩
def axY{l:List Y}{pY:List Int}(aq:l.all Y.b=true)(bB:pY.length=l.length)(h:∀(i:Nat)(y:Y)(v:Int),l[i]?=some y->pY[i]?=some v->within y v):∀v∈pY,v=0\/v=1:=by
 intro v aN;obtain⟨i,aj⟩:=xaK.1 aN;have b5:i<l.length:=by have:=(xae.1 aj).1;omega
 have aK:=xab b5;have ao:=xas.1 aq _ (xba b5);have hw:=h i _ v aK aj;unfold within at hw
 rwa [xaa ao]at hw
def axZ{t:Tm}{a b c:Y}(h:¬(5<=t.op/\t.op<=9)):gR t [a,b,c]=if(!a.b||(b.b !=c.b))then(fo,13)else if b.b then(jf,0)else g8 (lk b.lo c.lo) (fR b.aj c.aj):=by unfold gR;rw[xac h]
def ax0{t:Tm}{a b:Y}(h:¬(5<=t.op/\t.op<=9)):gR t [a,b]=if t.op=10\/t.op=11 then if a.b !=b.b then(fo,13)else(jf,0)
   else if(a.b||b.b)then(fo,13)
   else if t.op=12\/t.op=13 then(jf,0)
   else if t.op=17 then(match t.a4[1]? with
    |some k=>if k.op≠1\/k.num<1 then(fo,2)else g8 0 (k.num-1)
    |none=>(fo,0))
   else o7 t.op a b:=by
 unfold gR;rw[xac h]<;>rfl
def ax1{op a b c:Int}(cG:¬op=6)(e7:¬op=7):fN op [a,b,c]=(if a=1 then b else c,ei (if a=1 then b else c)):=by unfold fN;rw[xac cG,xac e7]
def ax2{op a b:Int}(cG:¬op=6)(e7:¬op=7):fN op [a,b]=if op=8 then(tr (a==0||b==1),true)else if op=9\/op=10 then(tr (a==b),true)else if op=11 then(tr (a !=b),true)
   else if op=12 then(tr (decide (a<b)),true)else if op=13 then(tr (decide (a<=b)),true)
   else if op=14 then(a+b,ei (a+b))else if op=15 then(a-b,ei (a-b))
   else if op=16 then if ei (a*b)then(a*b,true)else(0,false)
   else((a.tmod b+b).tmod b,ei ((a.tmod b+b).tmod b)):=by
 unfold fN;rw[xac cG,xac e7]
def ax3{t:Tm}{l:List Y}{pY:List Int}(aN:Valid t)(bZ:5<=t.op)(aI:(gR t l).2=0)(bG:∀y∈l,y.kU)(bB:l.length=t.a4.length)(ke:pY.length=l.length) (hw:∀(i:Nat)(y:Y)(v:Int),l[i]?=some y->pY[i]?=some v->within y v) (hm:t.op=17->∀k v,t.a4[1]?=some k->pY[1]?=some v->v=k.num):(fN t.op pY).2=true/\within (gR t l).1 (fN t.op pY).1:=by
 have dW:=aN.op;have Bb:=aN.len;have Nu:5<=t.op/\t.op<=9->(gR t l).1.b=true:=λh=>by have:=Nr aI h;unfold gR;rw[xaa h,xaa this];rfl
 by_cases r8:t.op=6\/t.op=7
 .have ao:=Nu (by omega);unfold fN;rcases r8 with h|h
  .rw[xaa h];exact⟨rfl,vR ao⟩
  rw[xac (by omega),xaa h];exact⟨rfl,vR ao⟩
 by_cases uJ:t.op=5
 .have ao:=Nu (by omega);have:gm t.op=(1,1):=by rw[uJ];rfl
  rw[this]at Bb;have r7:pY.length=1:=by simp only at Bb;omega
  match pY,r7,ke,hw with|[a],_,ke,hw=>have aG:=axY (Nr aI (by omega)) ke hw a (by simp);have fG:ei (1-a)=true:=(jY _).2 (by omega);unfold fN;rw[xac (by omega),xac (by omega)];refine⟨fG,?_⟩;unfold within;rw[xaa ao];simp only;omega
 have cG:¬t.op=6:=by omega
 have e7:¬t.op=7:=by omega
 by_cases n2:t.op=18
 .rw[A5 n2]at Bb;obtain⟨a,b,c,rfl⟩:=vN (l:=l) (by simp only at Bb;omega);obtain⟨x,y,z,rfl⟩:=vN (l:=pY) (by simpa using ke);have Nv:¬(5<=t.op/\t.op<=9):=by omega
  obtain⟨U1,Ba,aeG⟩:=UZ aI Nv;have q8:=hw 0 a x rfl rfl;have qh:=hw 1 b y rfl rfl;have Nw:=hw 2 c z rfl rfl;have qJ:=bG b (by simp);have gc:=bG c (by simp);unfold within at q8 qh Nw;rw[ax1 cG e7];rw[axZ Nv]at aI⊢;have yZ:¬(!a.b||(b.b !=c.b))=true:=by rw[U1,Ba];simp
  rw[xac yZ]at aI⊢;by_cases ao:b.b=true
  .rw[xaa ao];rw[xaa ao]at qh;rw[<-Ba,xaa ao]at Nw;by_cases ah:x=1;.rw[xaa ah];have q:ei y=true:=(jY _).2 (by omega);refine⟨q,?_⟩;unfold within;simp only[jf,xav];exact qh
   rw[xac ah];have q:ei z=true:=(jY _).2 (by omega);refine⟨q,?_⟩;unfold within;simp only[jf,xav];exact Nw
  rw[xac ao]at aI⊢;rw[xac ao]at qh;rw[<-Ba,xac ao]at Nw;obtain⟨_,fO,h5,kN⟩:=qJ;obtain⟨_,bw,bO,b0⟩:=gc;have jg:lk b.lo c.lo<=b.lo/\lk b.lo c.lo<=c.lo:=by unfold lk;split<;>omega
  have BK:b.aj<=fR b.aj c.aj/\c.aj<=fR b.aj c.aj:=by unfold fR;split<;>omega
  by_cases ah:x=1;.rw[xaa ah];have q:ei y=true:=(jY _).2 (by omega);exact⟨q,xZ aI (by omega) (by omega)⟩
  rw[xac ah];have q:ei z=true:=(jY _).2 (by omega);exact⟨q,xZ aI (by omega) (by omega)⟩
 rw[xU (show 8<=t.op/\t.op<=17 by omega)]at Bb;obtain⟨a,b,rfl⟩:=qI (l:=l) (by simp only at Bb;omega);obtain⟨x,y,rfl⟩:=qI (l:=pY) (by simpa using ke);have q8:=hw 0 a x rfl rfl;have qh:=hw 1 b y rfl rfl;have A6:=bG a (by simp);have qJ:=bG b (by simp);rw[ax2 cG e7];by_cases hd:t.op=8
 .rw[xaa hd];exact⟨rfl,vR (Nu (by omega))⟩
 rw[xac hd];by_cases h8:t.op=9;.rw[xaa (Or.inl h8)];exact⟨rfl,vR (Nu (by omega))⟩
 have Nv:¬(5<=t.op/\t.op<=9):=by omega
 rw[ax0 Nv]at aI⊢;by_cases sa:t.op=10\/t.op=11
 .rw[xaa sa]at aI⊢;by_cases an:(a.b !=b.b)=true;.rw[xaa an]at aI;cases aI
  rw[xac an];rcases sa with h|h
  .rw[xaa (Or.inr h)];exact⟨rfl,vR rfl⟩
  have aM:¬(t.op=9\/t.op=10):=by omega
  rw[xac aM,xaa h];exact⟨rfl,vR rfl⟩
 rw[xac sa]at aI⊢;have ax4:¬(t.op=9\/t.op=10):=by omega
 have n3:¬t.op=11:=by omega
 rw[xac ax4,xac n3];by_cases an:(a.b||b.b)=true;.rw[xaa an]at aI;cases aI
 rw[xac an]at aI⊢;have ka:a.b=false/\b.b=false:=by cases aG:a.b<;>cases ao:b.b<;>simp_all
 have I4:¬(false=true):=by simp
 unfold within at q8 qh;rw[ka.1,xac I4]at q8;rw[ka.2,xac I4]at qh;obtain⟨_,au,ba,cx⟩:=A6;obtain⟨_,fO,h5,kN⟩:=qJ;by_cases U6:t.op=12\/t.op=13
 .rw[xaa U6];rcases U6 with h|h
  .rw[xaa h];exact⟨rfl,vR rfl⟩
  have aM:¬t.op=12:=by omega
  rw[xac aM,xaa h];exact⟨rfl,vR rfl⟩
 rw[xac U6]at aI⊢;have U7:¬t.op=12:=by omega
 have ll:¬t.op=13:=by omega
 rw[xac U7,xac ll];by_cases nW:t.op=17
 .rw[xaa nW]at aI⊢;have mr:¬t.op=14:=by omega
  have vE:¬t.op=15:=by omega
  have e2:¬t.op=16:=by omega
  rw[xac mr,xac vE,xac e2];cases al:t.a4[1]? with
  |none=>have:=List.getElem?_eq_none_iff.1 al;simp only at Bb;omega
  |some k=>
   rw[al]at aI;simp only at aI⊢;by_cases aA:k.op≠1\/k.num<1;.rw[xaa aA]at aI;cases aI
   rw[xac aA]at aI⊢;have Pp:=hm nW k y al rfl;subst Pp;have aDJ:=(aN.fu (xad al)).num;have gO:=IX (a:=x) (b:=k.num) (by omega);have lu:=IX (a:=x.tmod k.num+k.num) (b:=k.num) (by omega);have IK:=Int.tmod_nonneg (a:=x.tmod k.num+k.num) k.num (by omega);have q:ei ((x.tmod k.num+k.num).tmod k.num)=true:=(jY _).2 (by omega);exact⟨q,xZ aI IK (by omega)⟩
 rw[xac nW]at aI⊢;unfold o7 at aI⊢;by_cases vE:t.op=15
 .have mr:¬t.op=14:=by omega
  simp only[xaa vE,xac mr]at aI⊢;have q:ei (x-y)=true:=(jY _).2 (by omega);exact⟨q,xZ aI (by omega) (by omega)⟩
 by_cases mr:t.op=14;.simp only[xac vE,xaa mr]at aI⊢;have q:ei (x+y)=true:=(jY _).2 (by omega);exact⟨q,xZ aI (by omega) (by omega)⟩
 have e2:t.op=16:=by omega
 simp only[xac mr,xac vE,xaa e2]at aI⊢;have ae0:=axV q8 qh;have lE:=aeZ aI;have fG:ei (x*y)=true:=(jY _).2 (by omega);simp only[xaa fG];exact⟨trivial,xZ aI ae0.1 ae0.2⟩
def ae1{vs:List V}{s nn:List Int}:∀{l:List Tm},(∀k∈l,(eN vs s nn k).2=true)->g9 vs s nn l=some (l.map λk=>(eN vs s nn k).1)
 |[],_=>rfl|t::r,h=>by rw[g9,xaa (h t (by simp)),ae1 λk al=>h k (by simp[al])];rfl
def ae2{vs:List V}{nx:Bool}:∀{l:List Tm},(ed vs nx l).2=0->(ed vs nx l).1=l.map λk=>(dQ vs nx k).1
 |[],_=>rfl
 |t::r,h=>by
  rw[ed]at*;by_cases aa:(dQ vs nx t).2=0
  case neg=>rw[xaa aa]at h;exact absurd h aa
  have ej:¬(dQ vs nx t).2≠0:=by simpa using aa
  rw[xac ej]at h⊢;by_cases ae:(ed vs nx r).2=0
  case neg=>rw[xaa ae]at h;exact absurd h ae
  have ha:¬(ed vs nx r).2≠0:=by simpa using ae
  rw[xac ha];simp[ae2 ae]
def ae3{vs:List V}{s nn:List Int}(aE:gK vs s)(aM:gK vs nn)(t:Tm):Valid t->(dQ vs true t).2=0->(eN vs s nn t).2=true/\within (dQ vs true t).1 (eN vs s nn t).1:=by
 refine Tm.ind (P:=λt=>Valid t->(dQ vs true t).2=0->(eN vs s nn t).2=true/\within (dQ vs true t).1 (eN vs s nn t).1) ?_ t;intro t ih aN h;have al:∀k∈t.a4,(dQ vs true k).2=0:=λk al=>I5 aN h al;rw[n1]at h⊢;rw[pX];by_cases a7:t.op<=4
 .rw[xaa a7]at*;rw[xaa a7];exact axX aE aM aN h
 rw[xac a7]at h⊢;rw[xac a7];by_cases ar:(ed vs true t.a4).2=0
 case neg=>rw[xaa ar]at h;exact absurd h ar
 have I6:¬(ed vs true t.a4).2≠0:=by simpa using ar
 rw[xac I6]at h⊢;have ke:g9 vs s nn t.a4=_:=ae1 λk nN=>(ih k nN (aN.fu nN) (al k nN)).1;rw[ke];simp only;obtain⟨a9,bk⟩:=DB vs true t.a4 ar;have m8:=ae2 ar;refine ax3 aN (by omega) h bk a9 (by rw[a9];simp) ?_ ?_
 .intro i y v aK gX;rw[m8]at aK;simp only[xai,xag]at aK gX;obtain⟨k,cE,rfl⟩:=aK;obtain⟨br,eb,rfl⟩:=gX;rw[cE]at eb;cases eb;exact(ih k (xad cE) (aN.fu (xad cE)) (al k (xad cE))).2
 intro nW k v rp r7;simp only[xai,rp,xaC,xay]at r7;have nw:=aN.len;rw[xU (by omega)]at nw;obtain⟨I2,DJ,aK⟩:=qI (l:=(ed vs true t.a4).1) (by simp only at nw;omega);rw[aK]at h;have:=aeD h nW rp;rw[<-r7,pX,xaa (by omega)];unfold kd;rw[xaa (by omega)]
end Go.Am
