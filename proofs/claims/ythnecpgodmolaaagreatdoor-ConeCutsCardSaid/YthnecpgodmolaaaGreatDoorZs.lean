/- Laws, on data. No condition. -/
import Derived.Test.YthnecpgodmolaaaGreatDoorLaws
import Derived.Test.YthnecpgodmolaaaGreatDoorEngS
import Derived.Test.YthnecpgodmolaaaGreatDoorEngC
import Derived.Test.YthnecpgodmolaaaGreatDoorCode
import Derived.Test.YthnecpgodmolaaaGreatDoorEngD
set_option linter.all false
set_option linter.unnecessarySimpa false
namespace Go.Am
structure cA where
 name:ByteArray
 f:Fm
def cA.cells(d:cA):List D:=[aB d.name,J d.f.op,J d.f.e.op,J d.f.e.num,aB d.f.e.name,cp 4 d.f.e.nl (Tm.rows d.f.e.aW),cp 6 d.f.nl (Fm.rows d.f.aW)]
def az(l:List Tm):D:= .ax 4 (Tm.rows l)
def b1(l:List cA):D:= .ax 7 (l.map cA.cells)
def nZ{l:List Tm}{i:Nat}{t:Tm}(h:l[i]?=some t):bo 4 (az l) (J (i:Int))=some t.cells:=by simp[az,Tm.E7 h]
def hp(l:List Tm):bI (az l)=some (J l.length):=by simp[az]
def lY{l:List cA}{i:Nat}{t:cA}(h:l[i]?=some t):bo 7 (b1 l) (J (i:Int))=some t.cells:=by simp[b1,h]
def iC(l:List cA):bI (b1 l)=some (J l.length):=by simp[b1]
def cA.d(d:cA):D:= .agg d.cells
theorem cA.ac8(d:cA):a3 true 7 0 d.cells=some d.d:=rfl
theorem cA.hk(d:cA):a3 true 6 1 d.cells=some d.f.d:=by rw[Fm.jW];rfl
theorem cA.fV(d:cA):a3 false 1 0 d.cells=some (aB d.name):=rfl
def cA.agg(d:cA):a5 7 d.d=true:=by unfold cA.d cA.cells;simp[YV]
theorem cA.a8(d:cA):ad d.d 0=aB d.name:=rfl
theorem cA.bU(d:cA):ad d.d 1=J d.f.op:=rfl
theorem cA.b9(d:cA):ad d.d 2=J d.f.e.op:=rfl
theorem cA.cE(d:cA):ad d.d 3=J d.f.e.num:=rfl
theorem cA.dy(d:cA):ad d.d 4=aB d.f.e.name:=rfl
theorem cA.er(d:cA):ad d.d 5=cp 4 d.f.e.nl (Tm.rows d.f.e.aW):=rfl
theorem cA.et(d:cA):ad d.d 6=cp 6 d.f.nl (Fm.rows d.f.aW):=rfl
structure aC where
 vars:List V
 aR:List bb
 bQ:List Tm
 bR:List Tm
 next:List bb
 trans:List Tm
 bS:List Tm
 bK:List cA
def aC.d(m:aC):D:= .agg [bl m.vars,aQ m.aR,az m.bQ,az m.bR,aQ m.next,az m.trans,az m.bS,b1 m.bK]
section
variable(m:aC)
theorem aC.a8:ad m.d 0=bl m.vars:=rfl
theorem aC.bU:ad m.d 1=aQ m.aR:=rfl
theorem aC.b9:ad m.d 2=az m.bQ:=rfl
theorem aC.cE:ad m.d 3=az m.bR:=rfl
theorem aC.dy:ad m.d 4=aQ m.next:=rfl
theorem aC.er:ad m.d 5=az m.trans:=rfl
theorem aC.et:ad m.d 6=az m.bS:=rfl
theorem aC.fk:ad m.d 7=b1 m.bK:=rfl
theorem aC.agg:a5 8 m.d=true:=rfl
theorem aC.eta:D.agg [bl m.vars,aQ m.aR,az m.bQ,az m.bR,aQ m.next,az m.trans,az m.bS,b1 m.bK]=m.d:=rfl
end
def ac9:∀l:List Tm,nX l=l.map gL
 |[]=>rfl|k::r=>by rw[nX,ac9 r];rfl
theorem Dh(t:Tm):gL t= .mk t.op t.num t.name false (t.aW.map gL):=by cases t;rw[gL,ac9];rfl
def TZ(t:Tm):(gL t).bq=t.bq:=by
 refine Tm.ind (P:=λt=>(gL t).bq=t.bq) ?_ t;intro t ih;have key:∀l:List Tm,(∀k∈l,(gL k).bq=k.bq)->Tm.dJ (l.map gL)=Tm.dJ l:=by
  intro l
  induction l with
  |nil=>intro _;rfl
  |cons a r lW=>intro h;simp only[xaz,Tm.dJ];rw[h a (by simp),lW λk ak=>h k (by simp[ak])]
 rw[Tm.z0,Tm.z0 t,Dh];show 2+Tm.dJ (t.aW.map gL)=_;rw[key _ ih]
def atB(t:Tm):t.cq->(gL t).cq:=by
 refine Tm.ind (P:=λt=>t.cq->(gL t).cq) ?_ t;intro t ih bn;rw[Dh];have b5:=bn.len;obtain⟨dz,dh,eK⟩:(-9223372036854775808<=t.op/\t.op<=9223372036854775807)/\(-9223372036854775808<=t.num/\t.num<=9223372036854775807)/\t.name.size<=140737488355328:=by cases bn with|mk o n s b ks aF aL aH aq ak=>exact⟨aF,aL,aH⟩
 refine .mk _ _ _ _ _ dz dh eK (by simpa using b5) ?_;intro k ak;obtain⟨bs,fK,rfl⟩:=xax.1 ak;exact ih bs fK (bn.gJ fK)
end Go.Am
attribute [simp] Go.Am.akk
namespace Go.Am
section
variable{bt:Bool}{a b:Int}
@[simp] theorem aAe:ai bt .lss (o8 a) (.val (.int .u8 b))=some (ay (decide (a<b))):=rfl
@[simp] theorem MU:ai bt .leq (o8 a) (.val (.int .u8 b))=some (ay (decide (a<=b))):=rfl
@[simp] theorem aAf:ai bt .gtr (o8 a) (.val (.int .u8 b))=some (ay (decide (a>b))):=rfl
@[simp] theorem MV:ai bt .geq (o8 a) (.val (.int .u8 b))=some (ay (decide (a>=b))):=rfl
@[simp] theorem atC:ai bt .eql (o8 a) (.val (.int .u8 b))=some (ay (a==b)):=rfl
end
def MW{s:ByteArray}{i:Nat}{b:UInt8}(h:s[i]?=some b):nH (aB s) (J (i:Int))=some (o8 b.toNat):=by simp[nH,aB,J,Jj,h,nF,o8]
def ada{s:ByteArray}{b:UInt8}(h:s[0]?=some b):nH (aB s) (J 0)=some (o8 b.toNat):=MW (i:=0) h
theorem adb(n:Nat)(c:Int):yB n [o8 c]=some (ay (sr c)):=by simp only[yB,Y4,sr,MV,MU,eF];cases decide (c>=97)<;>cases decide (c<=122)<;>cases decide (c>=65)<;>cases decide (c<=90)<;>rfl
theorem atD(n:Nat)(c:Int):Fl n [o8 c]=some (ay (xW c)):=by simp only[Fl,Y5,xW,MV,MU,eF];cases decide (c>=48)<;>cases decide (c<=57)<;>rfl
theorem ade(n:Nat)(c:Int):Fo n [o8 c]=some (ay (mM c)):=by simp only[Fo,Y6,mM,adb,atD,atC,eF];cases sr c<;>cases xW c<;>cases(c==95)<;>rfl
theorem adf(n:Nat)(c:Int):zk n [o8 c]=some (ay (sr c)):=by simp only[zk,Z0,sr,MV,MU,eF];cases decide (c>=97)<;>cases decide (c<=122)<;>cases decide (c>=65)<;>cases decide (c<=90)<;>rfl
theorem atE(n:Nat)(c:Int):GX n [o8 c]=some (ay (xW c)):=by simp only[GX,Z1,xW,MV,MU,eF];cases decide (c>=48)<;>cases decide (c<=57)<;>rfl
def adg(p:Int->Bool)(s:ByteArray):(∀j:Nat,j<nE p s->oh p s j=true)/\oh p s (nE p s)=false/\nE p s<=s.size:=by
 unfold nE;cases h:(List.range (s.size+1)).find? (λi=>!oh p s i)with
 |none=>
  exfalso;have ab:=List.find?_eq_none.1 h s.size (by simp);have:oh p s s.size=true:=by simpa using ab
  exact absurd (ah4 this) (xbR _)
 |some m=>rw[List.find?_range_eq_some]at h;obtain⟨ab,af,aw⟩:=h;refine⟨λj aN=>by simpa using aw j aN,by simpa using ab,by show m<=s.size;simp at af;omega⟩
def adh{p:Int->Bool}{s:ByteArray}{i:Nat}(h:oh p s i=true):∃b:UInt8,s[i]?=some b/\p b.toNat=true:=by
 unfold oh at h;split at h;.exact⟨_,by assumption,h⟩
 cases h
def adi{p:Int->Bool}{s:ByteArray}{i:Nat}(h:oh p s i=false):(s[i]?=none/\s.size<=i)\/∃b:UInt8,s[i]?=some b/\i<s.size/\p b.toNat=false:=by
 unfold oh at h;split at h
 .rename_i b aj;refine .inr ⟨b,aj,?_,h⟩;rw[Kc]at aj;by_cases ab:i<s.size;.exact ab
  rw[dif_neg ab]at aj;cases aj
 rename_i aj;refine .inl ⟨aj,?_⟩;rw[Kc]at aj;by_cases ab:i<s.size;.rw[dif_pos ab]at aj;cases aj
 omega
def atF(n:Nat)(s:ByteArray)(aL:s.size<n)(aH:s.size<=9223372036854775807):BG n [aB s,.val (.func (.func Fc) #[] #[])]=some (J (nE mM s)):=by
 obtain⟨ab,af,aw⟩:=adg mM s;have key:bp (Fp n) n [aB s,J 0]=some (.inl [J (nE mM s)]):=by
  refine nf (λi=>[aB s,J i]) (nE mM s) rfl ?_ ?_ (by omega);.intro i ah;obtain⟨b,aj,aT⟩:=adh (ab i ah);simp(disch:=omega) [Fp,MW aj,ade,aT,gj,show i<s.size by omega]
  rcases adi af with⟨aj,aT⟩|⟨b,aj,cr,aT⟩;.simp[Fp,show¬(nE mM s<s.size) by omega]
  simp[Fp,MW aj,ade,aT,cr]
 simp[BG,Rd,key]
def atG(n:Nat)(s:ByteArray)(aL:s.size<n)(aH:s.size<=9223372036854775807):GZ n [aB s,J 0,ay false]=some (J (nE mM s)):=by
 obtain⟨ab,af,aw⟩:=adg mM s;have one:∀(i:Nat)(b:UInt8),s[i]?=some b->i<s.size->GY n [aB s,J i,ay false]=if mM b.toNat=true then some (.inl [aB s,J (i+1:Nat),ay false])else some (.inr (.inl [J i])):=by intro i b aj ah;simp(disch:=omega) [GY,MW aj,atE,adf,mM,gj,ah];by_cases atH:((b.toNat:Int)=95)<;>cases xW b.toNat<;>cases sr b.toNat<;>simp[atH]
 have key:bp (GY n) n [aB s,J 0,ay false]=some (.inl [J (nE mM s)]):=by
  refine nf (λi=>[aB s,J i,ay false]) (nE mM s) rfl ?_ ?_ (by omega);.intro i ah;obtain⟨b,aj,aT⟩:=adh (ab i ah);rw[one i b aj (by omega),xad aT]
  rcases adi af with⟨aj,aT⟩|⟨b,aj,cr,aT⟩;.simp[GY,show¬(nE mM s<s.size) by omega]
  rw[one _ b aj cr,xab (by simp[aT])]
 simp[GZ,Z2,key]
def xe(p:Nat->Prop)[DecidablePred p]:∀m:Nat,(∀j:Nat,j<m->¬p j)\/∃i,i<m/\p i/\∀j:Nat,j<i->¬p j
 |0=> .inl (by intro j aN;omega)
 |m+1=>by
  rcases xe p m with h|⟨i,ab,af,aw⟩
  .by_cases hm:p m;.exact .inr ⟨m,by omega,hm,h⟩
   refine .inl λj aN=>?_;by_cases T0:j=m;.subst T0;exact hm
   exact h j (by omega)
  exact .inr ⟨i,by omega,af,aw⟩
def atI(n:Nat)(l:List ByteArray)(x:ByteArray)(aL:l.length<n)(aq:l.length<4000000000000000000):wz n [bm l,aB x]=some (J (idxOf x l)):=by
 have step:∀(i:Nat)(y:ByteArray),l[i]?=some y->i<l.length->sJ n [bm l,aB x,J l.length,J i]=if x=y then some (.inr (.inr (J i)))else some (.inl [bm l,aB x,J l.length,J (i+1:Nat)]):=by intro i y aP ah;obtain⟨_,rfl⟩:=xae.1 aP;simp(disch:=omega) [sJ,bm,aP,ah,gj]
 rcases xe (λi=>l[i]?=some x) l.length with h|⟨i,ab,af,aw⟩
 .have key:bp (sJ n) n [bm l,aB x,J l.length,J 0]=some (.inl []):=by
   refine nf (λi=>[bm l,aB x,J l.length,J i]) l.length rfl ?_ ?_ aL;.intro i ah;have aP:=xaa ah;rw[step i _ aP ah,xab];intro he;exact h i ah (by rw[aP,he])
   simp[sJ]
  have e:(bm l)= .ax 1 (l.map λs=>[aB s]):=rfl;simp[wz,Fq,WY h];rw[e]at key⊢;simp[key]
 have key:bp (sJ n) n [bm l,aB x,J l.length,J 0]=some (.inr (J i)):=by
  refine nf (λi=>[bm l,aB x,J l.length,J i]) i rfl ?_ ?_ (by omega);.intro j aN;have aP:=xaa (show j<l.length by omega);rw[step j _ aP (by omega),xab];intro he;exact aw j aN (by rw[aP,he])
  rw[step i x af ab,xad rfl]
 simp[wz,Fq,WZ aw af];have e:(bm l)= .ax 1 (l.map λs=>[aB s]):=rfl;rw[e]at key⊢;simp[key]
def atJ(n:Nat)(l:List ByteArray)(x:ByteArray)(aL:l.length<n)(aq:l.length<4000000000000000000):sK n [bm l,aB x]=some (ay (has x l)):=by simp[sK,K7,atI n l x aL aq,W0]
def atK(n:Nat)(l:List ByteArray)(x:ByteArray)(aL:l.length<n)(aq:l.length<4000000000000000000):Cr n [bm l,aB x]=some (ay (has x l)):=by
 have step:∀(i:Nat)(y:ByteArray),l[i]?=some y->i<l.length->Cq n [bm l,aB x,J i]=if y=x then some (.inr (.inr (ay true)))else some (.inl [bm l,aB x,J (i+1:Nat)]):=by intro i y aP ah;obtain⟨_,rfl⟩:=xae.1 aP;simp(disch:=omega) [Cq,bm,aP,ah,gj]
 rcases xe (λi=>l[i]?=some x) l.length with h|⟨i,ab,af,aw⟩
 .have key:bp (Cq n) n [bm l,aB x,J 0]=some (.inl []):=by
   refine nf (λi=>[bm l,aB x,J i]) l.length rfl ?_ ?_ aL;.intro i ah;have aP:=xaa ah;rw[step i _ aP ah,xab];intro he;exact h i ah (by rw[aP,he])
   simp[Cq,bm]
  simp[Cr,Sl,key,W2 h]
 have key:bp (Cq n) n [bm l,aB x,J 0]=some (.inr (ay true)):=by
  refine nf (λi=>[bm l,aB x,J i]) i rfl ?_ ?_ (by omega);.intro j aN;have aP:=xaa (show j<l.length by omega);rw[step j _ aP (by omega),xab];intro he;exact aw j aN (by rw[aP,he])
  rw[step i x af ab,xad rfl]
 simp[Cr,Sl,key,W1 af]
theorem atL(n:Nat):L5 n []=some (bm words):=rfl
theorem atM:(D.ax 1 (Fb.map λc=>[c]))=bm words:=rfl
def T1(n:Nat)(s:ByteArray)(aL:s.size+24<n)(aH:s.size<=9223372036854775807):sL n [aB s]=some (ay (isName s)):=by
 have hw:words.length=24:=rfl;have ab:=atF n s (by omega) aH;have af:=atJ n words s (by omega) (by omega);rcases W3 s with⟨eT,bx⟩|⟨b,eT,bx,aj⟩
 .simp[sL,Re,eT,isName,bx]
 simp only[sL,Re,isName,oh,aj,ada aj,adb,ab,af,atM,Ys,eT,bx,QO,KK,Bn,Bp,eF];cases decide ((s.size:Int)<=24)<;>cases sr b.toNat<;>cases((nE mM s:Int)==(s.size:Int))<;>cases has s words<;>rfl
def T2(n:Nat)(s:ByteArray)(aL:s.size+24<n)(aH:s.size<=9223372036854775807):sY n [aB s]=some (ay (isName s)):=by
 have hw:words.length=24:=rfl;have ab:=atG n s (by omega) aH;have af:=atK n words s (by omega) (by omega);rcases W3 s with⟨eT,bx⟩|⟨b,eT,bx,aj⟩
 .simp only[sY,Sm,QO,Bm,eF,bx];simp[isName,bx]
 simp only[sY,Sm,isName,oh,aj,ada aj,adf,ab,af,atL,bx,QO,KK,Bm,Bn,Bp,eF];cases decide ((s.size:Int)<=24)<;>cases sr b.toNat<;>cases((nE mM s:Int)==(s.size:Int))<;>cases has s words<;>rfl
def atN(n:Nat)(w v:V):BH n [w.d,.ref v.cells 0]=some (ay (decide (w.name=v.name))):=by simp[BH,Rf,V.d,V.cells]
def atO(n:Nat)(l:List V)(v:V)(aL:l.length<n)(aq:l.length<4000000000000000000):yD n [bl l,.fn (.func sG) [] [.ref v.cells 0]]=some (J (idxOf v.name (l.map V.name))):=by
 have hle:(l.map V.name).length=l.length:=by simp
 have step:∀(i:Nat)(y:V),l[i]?=some y->i<l.length->yC n [bl l,.ref v.cells 0,J l.length,J i]=if y.name=v.name then some (.inr (.inr (J i)))else some (.inl [bl l,.ref v.cells 0,J l.length,J (i+1:Nat)]):=by intro i y aP ah;obtain⟨_,rfl⟩:=xae.1 aP;have ab:=atN n l[i] v;simp only[V.d,V.cells]at ab;simp(disch:=omega) [yC,bl,ah,gj,V.cells,ab]
 have bH:∀x,yD n [bl l,.fn (.func sG) [] [x]]=aa (bp (yC n) n [bl l,x,J l.length,J 0]) (a9 λls=>some (J (-1))):=by intro x;simp only[yD,qb,Rg];simp[bl]
 rw[bH];rcases xe (λi=>(l.map V.name)[i]?=some v.name) l.length with h|⟨i,ab,af,aw⟩
 .have key:bp (yC n) n [bl l,.ref v.cells 0,J l.length,J 0]=some (.inl []):=by
   refine nf (λi=>[bl l,.ref v.cells 0,J l.length,J i]) l.length rfl ?_ ?_ aL;.intro i ah;have aP:=xaa ah;rw[step i _ aP ah,xab];intro he;exact h i ah (by rw[xaj,aP,<-he];rfl)
   simp[yC]
  rw[key,WY (by rw[hle];exact h)];rfl
 have key:bp (yC n) n [bl l,.ref v.cells 0,J l.length,J 0]=some (.inr (J i)):=by
  refine nf (λi=>[bl l,.ref v.cells 0,J l.length,J i]) i rfl ?_ ?_ (by omega);.intro j aN;have aP:=xaa (show j<l.length by omega);rw[step j _ aP (by omega),xab];intro he;exact aw j aN (by rw[xaj,aP,<-he];rfl)
  have aP:=xaa ab;rw[step i _ aP ab,xad];rw[xaj,aP]at af;simpa using af
 rw[key,WZ aw af];rfl
def atP(n:Nat)(l:List V)(v:V)(aL:l.length<n)(aq:l.length<4000000000000000000):BI n [bl l,.fn (.func sG) [] [.ref v.cells 0]]=some (ay (has v.name (l.map V.name))):=by simp only[BI,qb,Rh,atO n l v aL aq];simp[W0]
def T3{k:Nat}{es:List (List D)}{i:Nat}(h:i<=es.length):qU k (.ax k es) none (some (J (i:Int)))=some (.ax k (es.take i)):=by simp[qU,qT,J,h]
def T4(v:V):Bool:=v.bool&&(v.lo !=0||v.ah !=0)
def T5(v:V):Bool:=!v.bool&&(decide (v.lo>v.ah)||vW v||decide (IntKind.i64.wrap (v.ah-v.lo)>=64))
theorem adj(seen:List V)(v:V):A2 seen v=if !isName v.name then 12 else if has v.name (seen.map V.name)then 6 else if T4 v then 3 else if T5 v then 2 else 0:=rfl
def z2(l:List V):Prop:=l.length<1000000000000/\∀v∈l,o9 v.lo/\o9 v.ah/\v.name.size<=9223372036854775807
def T6(n:Nat)(l:List V)(aq:z2 l)(aL:l.length<n)(kO:∀v∈l,v.name.size+24<n)(i:Nat)(ah:i<l.length):yE n [bl l,bl l,J l.length,J i]=if jj l i=0 then some (.inl [bl l,bl l,J l.length,J (i+1:Nat)])else some (.inr (.inr (.a1 [J i,J (jj l i)]))):=by
 have aP:=xaa ah;have a6:=aq.2 _ (xaX ah);have b5:=aq.1;have e:jj l i=A2 (l.take i) l[i]:=by simp only[jj,aP]
 rw[e];generalize hw:l[i]=v at*;have ab:=T1 n v.name (kO v (hw▸xaX ah)) (by omega);have af:=atP n (l.take i) v (by rw[xbG];omega) (by rw[xbG];omega);have aw:qU 4 (bl l) none (some (J (i:Int)))=some (bl (l.take i)):=by rw[bl,T3 (by simp;omega),List.map_take.symm];rfl
 have a4:bo 4 (bl l) (J (i:Int))=some v.cells:=by simp[bl,aP,hw]
 have b7:ai false .lss (J (i:Int)) (J (l.length:Int))=some (ay true):=by simp[ah]
 have cO:ai false .add (J (i:Int)) (J 1)=some (J (i+1:Nat)):=by rw[gj (by omega) (by omega)];rfl
 have gp:ai false .sub (J v.ah) (J v.lo)=some (J (IntKind.i64.wrap (v.ah-v.lo))):=rfl;have hT:a3 true 4 0 v.cells=some v.d:=rfl;have jE:a5 4 v.d=true:=rfl;have a8:ad v.d 0=aB v.name:=rfl;have bU:ad v.d 1=ay v.bool:=rfl;have b9:ad v.d 2=J v.lo:=rfl;have cE:ad v.d 3=J v.ah:=rfl;have dy:(D.ref [aB v.name,ay v.bool,J v.lo,J v.ah] 0)= .ref v.cells 0:=rfl;have aV:vW v=(decide ((if v.ah>v.lo then v.ah else v.lo)>255)||decide ((if v.ah<v.lo then v.ah else v.lo)< -255)):=rfl;rw[adj];simp only[yE,nO,pj,b7,eF,lR,xaD,a4,hT,jE,sB,a8,bU,b9,cE,dy,YF,YG,ab,af,aw,Bp,oy,EY,YH,Bo,cO,gp,Bm];rw[T4,T5,aV];cases isName v.name
 .cases decide ((if v.ah>v.lo then v.ah else v.lo)>255)<;>simp
 cases has v.name ((l.take i).map V.name)
 rotate_left
 .cases decide ((if v.ah>v.lo then v.ah else v.lo)>255)<;>simp
 generalize decide ((if v.ah>v.lo then v.ah else v.lo)>255)=dz;generalize decide ((if v.ah<v.lo then v.ah else v.lo)< -255)=dh;generalize decide (v.lo>v.ah)=eK;generalize decide (IntKind.i64.wrap (v.ah-v.lo)>=64)=ji;generalize (v.lo !=0)=lh;generalize (v.ah !=0)=o6;cases v.bool<;>cases dz<;>cases dh<;>cases eK<;>cases ji<;>cases lh<;>cases o6<;>rfl
def atQ(n:Nat)(l:List V)(aq:z2 l)(aL:l.length<n)(kO:∀v∈l,v.name.size+24<n):BJ n [bl l]=some (.a1 [J (j9 l).1,J (j9 l).2]):=by
 have bH:BJ n [bl l]=aa (bp (yE n) n [bl l,bl l,J l.length,J 0]) (a9 λls=>some (D.a1 [J 0,J 0])):=by simp[BJ,Y7,bl]
 rw[bH];rcases xe (λi=>jj l i≠0) l.length with h|⟨i,ab,af,aw⟩
 .have bz:∀j:Nat,j<l.length->jj l j=0:=λj aN=>by simpa using h j aN
  have key:bp (yE n) n [bl l,bl l,J l.length,J 0]=some (.inl []):=by
   refine nf (λi=>[bl l,bl l,J l.length,J i]) l.length rfl ?_ ?_ aL;.intro i ah;rw[T6 n l aq aL kO i ah,xad (bz i ah)]
   simp[yE]
  rw[key,W5 bz];rfl
 have bz:∀j:Nat,j<i->jj l j=0:=λj aN=>by simpa using aw j aN
 have key:bp (yE n) n [bl l,bl l,J l.length,J 0]=some (.inr (.a1 [J i,J (jj l i)])):=by
  refine nf (λi=>[bl l,bl l,J l.length,J i]) i rfl ?_ ?_ (by omega);.intro j aN;rw[T6 n l aq aL kO j (by omega),xad (bz j aN)]
  rw[T6 n l aq aL kO i ab,xab af]
 rw[key,W4 bz ab rfl af];rfl
@[simp] theorem adk {a:Int}:ka .u64 (J a)=some (.val (.int .u64 (IntKind.u64.wrap a))):=rfl
theorem MX{k:IntKind}{a:Int}:ka .i64 (.val (.int k a))=some (J (IntKind.i64.wrap a)):=rfl
def atS(n:Nat)(v:V)(ab:o9 v.lo)(af:o9 v.ah):Fu n [v.d]=some (J v.span):=by
 have bU:ad v.d 1=ay v.bool:=rfl;have b9:ad v.d 2=J v.lo:=rfl;have cE:ad v.d 3=J v.ah:=rfl;have jE:a5 4 v.d=true:=rfl;simp only[Fu,Y8,jE,sB,bU,b9,cE,lR,oy,eF,adk,MX];cases aj:v.bool with
 |true=>simp[V.WW aj]
 |false=>
  by_cases cr:v.lo>v.ah;.simp[V.WX aj cr,cr]
  have hle:v.lo<=v.ah:=by omega
  have aK:ai false .sub (.val (.int .u64 (IntKind.u64.wrap v.ah))) (.val (.int .u64 (IntKind.u64.wrap v.lo)))=some (.val (.int .u64 (v.ah-v.lo))):=by show some (D.val (.int .u64 (IntKind.u64.wrap (IntKind.u64.wrap v.ah-IntKind.u64.wrap v.lo))))=_;rw[WV ab af hle]
  have aY:ai false .lss (.val (.int .u64 (v.ah-v.lo))) (.val (.int .u64 1073741824))=some (ay (decide (v.ah-v.lo<1073741824))):=rfl;simp only[cr,xbQ,xat,xaG,aK,aY,eF,lR];by_cases hm:v.ah-v.lo<1073741824;.rw[V.Pu aj hle hm];simp only[hm,xbo,xaD,MX,eF,wrap64 _ (show-9223372036854775808<=v.ah-v.lo by omega) (by omega)];rw[gj (by omega) (by omega)];rfl
  rw[V.Pv aj hle (by omega)];simp[hm]
def adl(n:Nat)(v:V)(ab:o9 v.lo)(af:o9 v.ah):zl n [v.d]=some (J v.span):=by
 have bU:ad v.d 1=ay v.bool:=rfl;have b9:ad v.d 2=J v.lo:=rfl;have cE:ad v.d 3=J v.ah:=rfl;have jE:a5 4 v.d=true:=rfl;simp only[zl,Z4,jE,sB,bU,b9,cE,lR,oy,eF,adk];cases aj:v.bool with
 |true=>simp[V.WW aj]
 |false=>
  by_cases cr:v.lo>v.ah;.simp[V.WX aj cr,cr]
  have hle:v.lo<=v.ah:=by omega
  have aK:ai false .sub (.val (.int .u64 (IntKind.u64.wrap v.ah))) (.val (.int .u64 (IntKind.u64.wrap v.lo)))=some (.val (.int .u64 (v.ah-v.lo))):=by show some (D.val (.int .u64 (IntKind.u64.wrap (IntKind.u64.wrap v.ah-IntKind.u64.wrap v.lo))))=_;rw[WV ab af hle]
  have aY:ai false .gtr (.val (.int .u64 (v.ah-v.lo))) (.val (.int .u64 1073741824))=some (ay (decide (v.ah-v.lo>1073741824))):=rfl;simp only[cr,xbQ,xat,xaG,aK,aY,eF,lR];by_cases hm:v.ah-v.lo>1073741824;.rw[V.Pv aj hle (by omega)];simp only[hm,xbo,xaD,eF,p8,nO,MX];rfl
  simp only[hm,xbQ,xat,xaG,eF,p8,nO,MX,wrap64 _ (show-9223372036854775808<=v.ah-v.lo by omega) (by omega)];rw[gj (by omega) (by omega)];simp only[eF];by_cases he:v.ah-v.lo=1073741824;.rw[V.Pv aj hle (by omega),he];rfl
  rw[V.Pu aj hle (by omega)]
def V.H9(v:V):0<=v.span/\v.span<=1073741825:=by
 unfold V.span;split;.omega
 split;.omega
 split<;>omega
def atT{i:Nat}(h:i<=62):((2:Int)^i)<=4611686018427387904/\0<(2:Int)^i:=by
 have ab:(2:Nat)^i<=2^62:=Nat.pow_le_pow_right (by omega) h;have aw:((2^i:Nat):Int)=2^i:=by simp
 have af:(0:Int)<2^i:=Int.pow_pos (by omega);omega
def adm{bt:Bool}{i:Nat}(h:i<=62):ai bt .shl (J 1) (J (i:Int))=some (J ((2:Int)^i)):=by
 have atU:¬((i:Int)<0):=by omega
 have hm:min i IntKind.i64.bits=i:=by simp[IntKind.bits];omega
 obtain⟨ab,af⟩:=atT h;have e:IntKind.i64.wrap (1*2^(min i IntKind.i64.bits))=2^i:=by rw[hm,Int.one_mul];exact wrap64 _ (by omega) (by omega)
 simp only[ai,J,nF,atU,xaG,Int.toNat_natCast];rw[e]
def Di{n:Int}(h:n<=1073741825):bitsOf n<=62/\(∀j:Nat,j<bitsOf n->(2:Int)^j<n)/\n<=2^bitsOf n:=by
 rcases xe (λi=>n<=(2:Int)^i) 40 with ab|⟨i,ab,af,aw⟩;.exact absurd h (by have:=ab 39 (by omega);simp at this;omega)
 have iM:∀j:Nat,j<i->(2:Int)^j<n:=λj aN=>by have:=aw j aN;omega
 rw[ah3 iM af];exact⟨by omega,iM,af⟩
def atV(n:Nat)(k:Int)(ak:k<=1073741825)(aL:63<n):Fv n [J k]=some (J (bitsOf k)):=by
 obtain⟨ab,af,aw⟩:=Di ak;have key:bp (K8 n) n [J k,J 0]=some (.inr (J (bitsOf k))):=by
  refine nf (λi=>[J k,J i]) (bitsOf k) rfl ?_ ?_ (by omega);.intro i ah;have:=af i ah;simp(disch:=omega) [K8,adm,gj,show((i:Int)<63) by omega,show¬(k<=(2:Int)^i) by omega]
  simp(disch:=omega) [K8,adm,show((bitsOf k:Int)<63) by omega,aw]
 simp[Fv,Y9,key]
def atW(n:Nat)(k:Int)(au:-1000<=k)(ak:k<=1073741825)(aL:63<n):G3 n [J k]=some (J (bitsOf k)):=by
 have key:∀(m:Nat)(k:Int)(acc fO:Nat),bitsOf k=m->k<=1073741825->acc+m<=1000->m<fO->bp (L6 n) fO [J k,J acc]=some (.inl [J (acc+m:Nat)]):=by
  intro m
  induction m with
  |zero=>
   intro k acc fO hm ak aI OX;obtain⟨fO,rfl⟩:∃q,fO=q+1:=⟨fO-1,by omega⟩;have wi:¬k>1:=by intro an;have:=WU an;omega
   rw[jG];simp[L6,wi]
  |succ m ih=>
   intro k acc fO hm ak aI OX;obtain⟨fO,rfl⟩:∃q,fO=q+1:=⟨fO-1,by omega⟩;have wi:k>1:=by
    refine xbA λan=>?_;have:bitsOf k=0:=by unfold bitsOf;rw[xad (by omega)]
    omega
   have bJ:=WU wi;have aK:k.tdiv 2=k/2:=Int.tdiv_eq_ediv_of_nonneg (by omega);have aY:k.tmod 2=k%2:=Int.tmod_eq_emod_of_nonneg (by omega);have hle:=(Di ak).1;have xr:=ih (k/2+k%2) (acc+1) fO (by omega) (by omega) (by omega) (by omega);rw[jG];simp(disch:=omega) [L6,wi,Yr,aks,aK,aY,wrap64,gj];have bN:((acc:Int)+1)=((acc+1:Nat):Int):=by omega
   rw[bN,xr]
   congr 4
   omega
 have:=key (bitsOf k) k 0 n rfl ak (by have:=(Di ak).1;omega) (by have:=(Di ak).1;omega);simp only[xav]at this;have e:(J ((0:Nat):Int))=J 0:=rfl;rw[e]at this;simp[G3,Z5,this]
theorem adn(n:Nat)(k:Int):Cs n [J k]=some (ay (decide (k>=-255)&&decide (k<=255))):=by simp only[Cs,Z3,Bm,KK,eF];cases decide (k>=-255)<;>cases decide (k<=255)<;>rfl
def T7(n:Nat)(l:List V)(i k:Nat)(ah:i<l.length)(ak:k<i)(b5:l.length<1000000000000):G0 n [bl l,J i,J k]=if(l[k]'(by omega)).name=l[i].name then some (.inr (.inr (.inr (.inr (.inr (.a1 [J i,J 6]))))))else some (.inl [bl l,J i,J (k+1:Nat)]):=by
 have qQ:k<l.length:=by omega
 have ab:l[k]?=some l[k]:=xaa qQ;have af:l[i]?=some l[i]:=xaa ah;simp(disch:=omega) [G0,bl,ak,gj,qQ,ah,V.cells]
def atX(n:Nat)(l:List V)(i:Nat)(ah:i<l.length)(b5:l.length<1000000000000)(aL:l.length<n):bp (G0 n) n [bl l,J i,J 0]=if has l[i].name ((l.take i).map V.name)=true then some (.inr (.inr (.inr (.inr (.a1 [J i,J 6])))))else some (.inl [bl l,J i]):=by
 rcases xe (λk=>(l.map V.name)[k]?=some l[i].name) i with h|⟨k,ab,af,aw⟩
 .rw[ah6 h,xab (by simp)];refine nf (λk=>[bl l,J i,J k]) i rfl ?_ ?_ (by omega);.intro k ak;rw[T7 n l i k ah ak b5,xab];intro he;refine h k ak ?_;rw[xaj,xaa (show k<l.length by omega),<-he];rfl
  simp[G0]
 have p4:k<l.length:=by omega
 have hw:=xaa p4;have J1:(l[k]).name=l[i].name:=by rw[xaj,hw]at af;simpa using af
 rw[<-J1,ah7 ab hw,xad rfl];refine nf (λk=>[bl l,J i,J k]) k rfl ?_ ?_ (by omega);.intro j aN;rw[T7 n l i j ah (by omega) b5,xab];intro he;refine aw j aN ?_;rw[xaj,xaa (show j<l.length by omega),<-he];rfl
 rw[T7 n l i k ah ab b5,xad J1]
def T8(n:Nat)(l:List V)(aq:z2 l)(aL:l.length<n)(kO:∀v∈l,v.name.size+24<n)(i:Nat)(ah:i<l.length):zm n [bl l,J i]=if jj l i=0 then some (.inl [bl l,J (i+1:Nat)])else some (.inr (.inr (.a1 [J i,J (jj l i)]))):=by
 have aP:=xaa ah;have a6:=aq.2 _ (xaX ah);have b5:=aq.1;have gp:=atX n l i ah aq.1 aL;have e:jj l i=A2 (l.take i) l[i]:=by simp only[jj,aP]
 rw[e];generalize hw:l[i]=v at*;have ab:=T2 n v.name (kO v (hw▸xaX ah)) (by omega);have a4:bo 4 (bl l) (J (i:Int))=some v.cells:=by simp[bl,aP,hw]
 have b7:ai false .lss (J (i:Int)) (J (l.length:Int))=some (ay true):=by simp[ah]
 have atY:bI (bl l)=some (J l.length):=by simp[bl]
 have cO:ai false .add (J (i:Int)) (J 1)=some (J (i+1:Nat)):=by rw[gj (by omega) (by omega)];rfl
 have hT:a3 true 4 0 v.cells=some v.d:=rfl;have a8:a3 false 1 0 v.cells=some (aB v.name):=rfl;have bU:a3 false 1 1 v.cells=some (ay v.bool):=rfl;have b9:a3 false 1 2 v.cells=some (J v.lo):=rfl;have cE:a3 false 1 3 v.cells=some (J v.ah):=rfl;have jE:=adl n v a6.1 a6.2.1;rw[adj];rw[show T5 v=_ from ah5 ⟨a6.1,a6.2.1,by omega⟩];simp only[zm,nO,pj,atY,b7,eF,lR,xaD,a4,hT,a8,bU,b9,cE,ab,gp,Bp,oy,EY,Bo,cO,Bm,adn,jE];rw[T4];cases isName v.name
 .simp
 cases has v.name ((l.take i).map V.name)
 rotate_left
 .simp
 simp only[Bool.not_true,xat,xaG,eF,p8,nO,pj,a4,hT,a8,bU,b9,cE,oy,Bo,adn,jE,Bp];generalize (decide (v.lo>=-255)&&decide (v.lo<=255))=dz;generalize (decide (v.ah>=-255)&&decide (v.ah<=255))=dh;generalize decide (v.lo>v.ah)=eK;generalize decide (v.span>64)=ji;generalize (v.lo !=0)=lh;generalize (v.ah !=0)=o6;cases v.bool<;>cases dz<;>cases dh<;>cases eK<;>cases ji<;>cases lh<;>cases o6<;>simp[cO]
def atZ(n:Nat)(l:List V)(aq:z2 l)(aL:l.length<n)(kO:∀v∈l,v.name.size+24<n):G2 n [bl l]=some (.a1 [J (j9 l).1,J (j9 l).2]):=by
 have bH:G2 n [bl l]=aa (bp (zm n) n [bl l,J 0]) (a9 λls=>some (D.a1 [J 0,J 0])):=rfl;rw[bH];rcases xe (λi=>jj l i≠0) l.length with h|⟨i,ab,af,aw⟩
 .have bz:∀j:Nat,j<l.length->jj l j=0:=λj aN=>by simpa using h j aN
  have key:bp (zm n) n [bl l,J 0]=some (.inl []):=by
   refine nf (λi=>[bl l,J i]) l.length rfl ?_ ?_ aL;.intro i ah;rw[T8 n l aq aL kO i ah,xad (bz i ah)]
   simp[zm,bl]
  rw[key,W5 bz];rfl
 have bz:∀j:Nat,j<i->jj l j=0:=λj aN=>by simpa using aw j aN
 have key:bp (zm n) n [bl l,J 0]=some (.inr (.a1 [J i,J (jj l i)])):=by
  refine nf (λi=>[bl l,J i]) i rfl ?_ ?_ (by omega);.intro j aN;rw[T8 n l aq aL kO j (by omega),xad (bz j aN)]
  rw[T8 n l aq aL kO i ab,xab af]
 rw[key,W4 bz ab rfl af];rfl
def n0(l:List cA)(x:ByteArray):Option Nat:=l.findIdx? (λd=>decide (d.name=x))
def gC:Option Nat->Int
 |some i=>(i:Int)|none=>-1
def Dj(o:Option Nat):decide (gC o>=0)=o.isSome:=by cases o with|none=>rfl|some i=>simp[gC]
def ado(o:Option Nat):decide (gC o<0)=o.isNone:=by cases o with|none=>rfl|some i=>exact yF ((i:Int)<0)
def findIdx_cons{α:Type}(p:α->Bool)(a:α)(r:List α):(a::r).findIdx? p=if p a then some 0 else(r.findIdx? p).map (·+1):=by rw[xbU]
theorem V.p6(v:V):ad v.d 0=aB v.name:=rfl
theorem V.cJ(v:V):a3 true 4 0 v.cells=some v.d:=rfl
theorem V.cV(v:V):a5 4 v.d=true:=rfl
theorem bb.p6(v:bb):ad v.d 0=aB v.name:=rfl
theorem bb.c6(v:bb):a3 true 5 0 v.cells=some v.d:=rfl
def bb.hS(v:bb):a5 5 v.d=true:=by unfold bb.d bb.cells;simp
theorem cA.p6(v:cA):ad v.d 0=aB v.name:=rfl
theorem cA.du(v:cA):a3 true 7 0 v.cells=some v.d:=rfl
def cA.q2(v:cA):a5 7 v.d=true:=cA.agg v
def at0(n:Nat)(d:V)(x:ByteArray):Gj n [d.d,.ref [aB x] 0]=some (ay (decide (d.name=x))):=by show Lu n d.d [aB x]=_;simp only[Lu,go_sem,iP,V.cV,V.p6]
def at1(n:Nat)(l:List V)(x:ByteArray)(aL:l.length<n)(aj:l.length<1000000000):y1 n [bl l,D.fn (.func q8) [] [.ref [aB x] 0]]=some (J (gC (fh l x))):=by
 have bH:(J ((0:Nat):Int))=J 0:=rfl;have ah:=dF (f:=Gk n) l (λi (_:Unit)=>[bl l,.ref [aB x] 0,J l.length,J (i:Int)]) (λr _=>match fh r x with|some j=>(Sum.inr (J ((l.length-r.length+j:Nat):Int)):List D⊕D)|none=> .inl []) (λ_ _=>True) ?_ ?_ n 0 () trivial (by omega) (xai _)
 .rw[bH,xal,Nat.sub_self]at ah;have bJ:y1 n [bl l,D.fn (.func q8) [] [.ref [aB x] 0]]=Gl n (bl l) (.ref [aB x] 0):=by
   simp only[y1,qb]
  rw[bJ];cases bk:fh l x with|none=>rw[bk]at ah;simp only[Gl,go_sem,fS,ah,gC]|some j=>rw[bk]at ah;simp only[xav]at ah;simp only[Gl,go_sem,fS,ah,gC]
 .intro _ _;have:fh [] x=none:=rfl;simp only[Gk,go_sem,yF ((l.length:Int)<l.length),this]
 intro i a _ aI ah _;have cL:=yT ((i:Int)<(l.length:Int));have an:fh (a::l.drop (i+1)) x=if decide (a.name=x)=true then some 0 else(fh (l.drop (i+1)) x).map (·+1):=findIdx_cons _ a _
 have e:l.length-(a::l.drop (i+1)).length=i:=by simp;omega
 have dt:l.length-(l.drop (i+1)).length=i+1:=by simp;omega
 have ab:=at0 n a x;by_cases ag:a.name=x;.right;rw[xaw ag]at ab an;rw[an,xad rfl,e];simp only[Gk,go_sem,cL,h8 aI,V.cJ,ab,xbj]
 left;rw[xaF ag]at ab an;rw[an,xab (by simp),e,dt];refine⟨(),?_,?_,trivial⟩;.simp only[Gk,go_sem,cL,h8 aI,V.cJ,ab,b2 (bt:=false) (i:=i) (by omega)]
 cases fh (l.drop (i+1)) x with|none=>rfl|some j=>simp;omega
def at2(n:Nat)(l:List V)(x:ByteArray)(aL:l.length<n)(aj:l.length<1000000000):y2 n [bl l,D.fn (.func q8) [] [.ref [aB x] 0]]=some (ay (fh l x).isSome):=by
 have bJ:y2 n [bl l,D.fn (.func q8) [] [.ref [aB x] 0]]=Lv n (bl l) (.ref [aB x] 0):=by simp only[y2,qb]
 rw[bJ];simp only[Lv,go_sem,at1 n l x aL aj,Dj]
def at3(n:Nat)(d:bb)(x:ByteArray):Gm n [d.d,.ref [aB x] 0]=some (ay (decide (d.name=x))):=by show Lw n d.d [aB x]=_;simp only[Lw,go_sem,iP,bb.hS,bb.p6]
def at4(n:Nat)(l:List bb)(x:ByteArray)(aL:l.length<n)(aj:l.length<1000000000):y3 n [aQ l,D.fn (.func q9) [] [.ref [aB x] 0]]=some (J (gC (dq l x))):=by
 have bH:(J ((0:Nat):Int))=J 0:=rfl;have ah:=dF (f:=Gn n) l (λi (_:Unit)=>[aQ l,.ref [aB x] 0,J l.length,J (i:Int)]) (λr _=>match dq r x with|some j=>(Sum.inr (J ((l.length-r.length+j:Nat):Int)):List D⊕D)|none=> .inl []) (λ_ _=>True) ?_ ?_ n 0 () trivial (by omega) (xai _)
 .rw[bH,xal,Nat.sub_self]at ah;have bJ:y3 n [aQ l,D.fn (.func q9) [] [.ref [aB x] 0]]=Gp n (aQ l) (.ref [aB x] 0):=by
   simp only[y3,qb]
  rw[bJ];cases bk:dq l x with|none=>rw[bk]at ah;simp only[Gp,go_sem,dZ,ah,gC]|some j=>rw[bk]at ah;simp only[xav]at ah;simp only[Gp,go_sem,dZ,ah,gC]
 .intro _ _;have:dq [] x=none:=rfl;simp only[Gn,go_sem,yF ((l.length:Int)<l.length),this]
 intro i a _ aI ah _;have cL:=yT ((i:Int)<(l.length:Int));have an:dq (a::l.drop (i+1)) x=if decide (a.name=x)=true then some 0 else(dq (l.drop (i+1)) x).map (·+1):=findIdx_cons _ a _
 have e:l.length-(a::l.drop (i+1)).length=i:=by simp;omega
 have dt:l.length-(l.drop (i+1)).length=i+1:=by simp;omega
 have ab:=at3 n a x;by_cases ag:a.name=x;.right;rw[xaw ag]at ab an;rw[an,xad rfl,e];simp only[Gn,go_sem,cL,fi aI,bb.c6,ab,xbj]
 left;rw[xaF ag]at ab an;rw[an,xab (by simp),e,dt];refine⟨(),?_,?_,trivial⟩;.simp only[Gn,go_sem,cL,fi aI,bb.c6,ab,b2 (bt:=false) (i:=i) (by omega)]
 cases dq (l.drop (i+1)) x with|none=>rfl|some j=>simp;omega
def at5(n:Nat)(l:List bb)(x:ByteArray)(aL:l.length<n)(aj:l.length<1000000000):y4 n [aQ l,D.fn (.func q9) [] [.ref [aB x] 0]]=some (ay (dq l x).isSome):=by
 have bJ:y4 n [aQ l,D.fn (.func q9) [] [.ref [aB x] 0]]=Lx n (aQ l) (.ref [aB x] 0):=by simp only[y4,qb]
 rw[bJ];simp only[Lx,go_sem,at4 n l x aL aj,Dj]
def at6(n:Nat)(d:V)(x:ByteArray):F8 n [d.d,.ref [aB x] 0]=some (ay (decide (d.name=x))):=by show Ln n d.d [aB x]=_;simp only[Ln,go_sem,iP,V.cV,V.p6]
def at7(n:Nat)(l:List V)(x:ByteArray)(aL:l.length<n)(aj:l.length<1000000000):yV n [bl l,D.fn (.func Bz) [] [.ref [aB x] 0]]=some (J (gC (fh l x))):=by
 have bH:(J ((0:Nat):Int))=J 0:=rfl;have ah:=dF (f:=F9 n) l (λi (_:Unit)=>[bl l,.ref [aB x] 0,J l.length,J (i:Int)]) (λr _=>match fh r x with|some j=>(Sum.inr (J ((l.length-r.length+j:Nat):Int)):List D⊕D)|none=> .inl []) (λ_ _=>True) ?_ ?_ n 0 () trivial (by omega) (xai _)
 .rw[bH,xal,Nat.sub_self]at ah;have bJ:yV n [bl l,D.fn (.func Bz) [] [.ref [aB x] 0]]=Ga n (bl l) (.ref [aB x] 0):=by
   simp only[yV,qb]
  rw[bJ];cases bk:fh l x with|none=>rw[bk]at ah;simp only[Ga,go_sem,fS,ah,gC]|some j=>rw[bk]at ah;simp only[xav]at ah;simp only[Ga,go_sem,fS,ah,gC]
 .intro _ _;have:fh [] x=none:=rfl;simp only[F9,go_sem,yF ((l.length:Int)<l.length),this]
 intro i a _ aI ah _;have cL:=yT ((i:Int)<(l.length:Int));have an:fh (a::l.drop (i+1)) x=if decide (a.name=x)=true then some 0 else(fh (l.drop (i+1)) x).map (·+1):=findIdx_cons _ a _
 have e:l.length-(a::l.drop (i+1)).length=i:=by simp;omega
 have dt:l.length-(l.drop (i+1)).length=i+1:=by simp;omega
 have ab:=at6 n a x;by_cases ag:a.name=x;.right;rw[xaw ag]at ab an;rw[an,xad rfl,e];simp only[F9,go_sem,cL,h8 aI,V.cJ,ab,xbj]
 left;rw[xaF ag]at ab an;rw[an,xab (by simp),e,dt];refine⟨(),?_,?_,trivial⟩;.simp only[F9,go_sem,cL,h8 aI,V.cJ,ab,b2 (bt:=false) (i:=i) (by omega)]
 cases fh (l.drop (i+1)) x with|none=>rfl|some j=>simp;omega
def aua(n:Nat)(d:bb)(x:ByteArray):Gb n [d.d,.ref [aB x] 0]=some (ay (decide (d.name=x))):=by show Lo n d.d [aB x]=_;simp only[Lo,go_sem,iP,bb.hS,bb.p6]
def aub(n:Nat)(l:List bb)(x:ByteArray)(aL:l.length<n)(aj:l.length<1000000000):yW n [aQ l,D.fn (.func ra) [] [.ref [aB x] 0]]=some (J (gC (dq l x))):=by
 have bH:(J ((0:Nat):Int))=J 0:=rfl;have ah:=dF (f:=Gc n) l (λi (_:Unit)=>[aQ l,.ref [aB x] 0,J l.length,J (i:Int)]) (λr _=>match dq r x with|some j=>(Sum.inr (J ((l.length-r.length+j:Nat):Int)):List D⊕D)|none=> .inl []) (λ_ _=>True) ?_ ?_ n 0 () trivial (by omega) (xai _)
 .rw[bH,xal,Nat.sub_self]at ah;have bJ:yW n [aQ l,D.fn (.func ra) [] [.ref [aB x] 0]]=Gd n (aQ l) (.ref [aB x] 0):=by
   simp only[yW,qb]
  rw[bJ];cases bk:dq l x with|none=>rw[bk]at ah;simp only[Gd,go_sem,dZ,ah,gC]|some j=>rw[bk]at ah;simp only[xav]at ah;simp only[Gd,go_sem,dZ,ah,gC]
 .intro _ _;have:dq [] x=none:=rfl;simp only[Gc,go_sem,yF ((l.length:Int)<l.length),this]
 intro i a _ aI ah _;have cL:=yT ((i:Int)<(l.length:Int));have an:dq (a::l.drop (i+1)) x=if decide (a.name=x)=true then some 0 else(dq (l.drop (i+1)) x).map (·+1):=findIdx_cons _ a _
 have e:l.length-(a::l.drop (i+1)).length=i:=by simp;omega
 have dt:l.length-(l.drop (i+1)).length=i+1:=by simp;omega
 have ab:=aua n a x;by_cases ag:a.name=x;.right;rw[xaw ag]at ab an;rw[an,xad rfl,e];simp only[Gc,go_sem,cL,fi aI,bb.c6,ab,xbj]
 left;rw[xaF ag]at ab an;rw[an,xab (by simp),e,dt];refine⟨(),?_,?_,trivial⟩;.simp only[Gc,go_sem,cL,fi aI,bb.c6,ab,b2 (bt:=false) (i:=i) (by omega)]
 cases dq (l.drop (i+1)) x with|none=>rfl|some j=>simp;omega
def auc(n:Nat)(l:List bb)(x:ByteArray)(aL:l.length<n)(aj:l.length<1000000000):yX n [aQ l,D.fn (.func ra) [] [.ref [aB x] 0]]=some (ay (dq l x).isSome):=by
 have bJ:yX n [aQ l,D.fn (.func ra) [] [.ref [aB x] 0]]=Lp n (aQ l) (.ref [aB x] 0):=by simp only[yX,qb]
 rw[bJ];simp only[Lp,go_sem,aub n l x aL aj,Dj]
def aud(n:Nat)(d:bb)(x:ByteArray):Gg n [d.d,.ref [aB x] 0]=some (ay (decide (d.name=x))):=by show Lr n d.d [aB x]=_;simp only[Lr,go_sem,iP,bb.hS,bb.p6]
def aue(n:Nat)(l:List bb)(x:ByteArray)(aL:l.length<n)(aj:l.length<1000000000):yY n [aQ l,D.fn (.func By) [] [.ref [aB x] 0]]=some (J (gC (dq l x))):=by
 have bH:(J ((0:Nat):Int))=J 0:=rfl;have ah:=dF (f:=Gh n) l (λi (_:Unit)=>[aQ l,.ref [aB x] 0,J l.length,J (i:Int)]) (λr _=>match dq r x with|some j=>(Sum.inr (J ((l.length-r.length+j:Nat):Int)):List D⊕D)|none=> .inl []) (λ_ _=>True) ?_ ?_ n 0 () trivial (by omega) (xai _)
 .rw[bH,xal,Nat.sub_self]at ah;have bJ:yY n [aQ l,D.fn (.func By) [] [.ref [aB x] 0]]=Gi n (aQ l) (.ref [aB x] 0):=by
   simp only[yY,qb]
  rw[bJ];cases bk:dq l x with|none=>rw[bk]at ah;simp only[Gi,go_sem,dZ,ah,gC]|some j=>rw[bk]at ah;simp only[xav]at ah;simp only[Gi,go_sem,dZ,ah,gC]
 .intro _ _;have:dq [] x=none:=rfl;simp only[Gh,go_sem,yF ((l.length:Int)<l.length),this]
 intro i a _ aI ah _;have cL:=yT ((i:Int)<(l.length:Int));have an:dq (a::l.drop (i+1)) x=if decide (a.name=x)=true then some 0 else(dq (l.drop (i+1)) x).map (·+1):=findIdx_cons _ a _
 have e:l.length-(a::l.drop (i+1)).length=i:=by simp;omega
 have dt:l.length-(l.drop (i+1)).length=i+1:=by simp;omega
 have ab:=aud n a x;by_cases ag:a.name=x;.right;rw[xaw ag]at ab an;rw[an,xad rfl,e];simp only[Gh,go_sem,cL,fi aI,bb.c6,ab,xbj]
 left;rw[xaF ag]at ab an;rw[an,xab (by simp),e,dt];refine⟨(),?_,?_,trivial⟩;.simp only[Gh,go_sem,cL,fi aI,bb.c6,ab,b2 (bt:=false) (i:=i) (by omega)]
 cases dq (l.drop (i+1)) x with|none=>rfl|some j=>simp;omega
def auf(n:Nat)(d:cA)(x:ByteArray):FE n [d.d,.ref [aB x] 0]=some (ay (decide (d.name=x))):=by show La n d.d [aB x]=_;simp only[La,go_sem,iP,cA.q2,cA.p6]
def aug(n:Nat)(l:List cA)(x:ByteArray)(aL:l.length<n)(aj:l.length<1000000000):yG n [b1 l,D.fn (.func rb) [] [.ref [aB x] 0]]=some (J (gC (n0 l x))):=by
 have bH:(J ((0:Nat):Int))=J 0:=rfl;have ah:=dF (f:=FF n) l (λi (_:Unit)=>[b1 l,.ref [aB x] 0,J l.length,J (i:Int)]) (λr _=>match n0 r x with|some j=>(Sum.inr (J ((l.length-r.length+j:Nat):Int)):List D⊕D)|none=> .inl []) (λ_ _=>True) ?_ ?_ n 0 () trivial (by omega) (xai _)
 .rw[bH,xal,Nat.sub_self]at ah;have bJ:yG n [b1 l,D.fn (.func rb) [] [.ref [aB x] 0]]=FG n (b1 l) (.ref [aB x] 0):=by
   simp only[yG,qb]
  rw[bJ];cases bk:n0 l x with|none=>rw[bk]at ah;simp only[FG,go_sem,iC,ah,gC]|some j=>rw[bk]at ah;simp only[xav]at ah;simp only[FG,go_sem,iC,ah,gC]
 .intro _ _;have:n0 [] x=none:=rfl;simp only[FF,go_sem,yF ((l.length:Int)<l.length),this]
 intro i a _ aI ah _;have cL:=yT ((i:Int)<(l.length:Int));have an:n0 (a::l.drop (i+1)) x=if decide (a.name=x)=true then some 0 else(n0 (l.drop (i+1)) x).map (·+1):=findIdx_cons _ a _
 have e:l.length-(a::l.drop (i+1)).length=i:=by simp;omega
 have dt:l.length-(l.drop (i+1)).length=i+1:=by simp;omega
 have ab:=auf n a x;by_cases ag:a.name=x;.right;rw[xaw ag]at ab an;rw[an,xad rfl,e];simp only[FF,go_sem,cL,lY aI,cA.du,ab,xbj]
 left;rw[xaF ag]at ab an;rw[an,xab (by simp),e,dt];refine⟨(),?_,?_,trivial⟩;.simp only[FF,go_sem,cL,lY aI,cA.du,ab,b2 (bt:=false) (i:=i) (by omega)]
 cases n0 (l.drop (i+1)) x with|none=>rfl|some j=>simp;omega
def auh(n:Nat)(l:List cA)(x:ByteArray)(aL:l.length<n)(aj:l.length<1000000000):yH n [b1 l,D.fn (.func rb) [] [.ref [aB x] 0]]=some (ay (n0 l x).isSome):=by
 have bJ:yH n [b1 l,D.fn (.func rb) [] [.ref [aB x] 0]]=Lb n (b1 l) (.ref [aB x] 0):=by simp only[yH,qb]
 rw[bJ];simp only[Lb,go_sem,aug n l x aL aj,Dj]
structure qs(f:Tm->Tm):Prop where
 op:∀t,(f t).op=t.op
 num:∀t,(f t).num=t.num
 name:∀t,(f t).name=t.name
 aW:∀t,(f t).aW=t.aW.map f
theorem MY:qs kh:=⟨λt=>by rw[HY];rfl,λt=>by rw[HY];rfl,λt=>by rw[HY];rfl,λt=>by rw[HY];rfl⟩
theorem MZ:qs gL:=⟨λt=>by rw[Dh];rfl,λt=>by rw[Dh];rfl,λt=>by rw[Dh];rfl,λt=>by rw[Dh];rfl⟩
def adp(vs:List V)(nx:Bool)(f:Tm->Tm):∀(ks:List Tm),(∀k∈ks,ho vs nx (f k)=ho vs nx k)->g2 vs nx (ks.map f)=g2 vs nx ks
 |[],_=>rfl|k::r,h=>by rw[xaz,g2,g2,h k (by simp),adp vs nx f r λk ak=>h k (by simp[ak])]
def aui{f:Tm->Tm}(bd:qs f)(t:Tm)(l:List Y):k4 (f t) l=k4 t l:=by unfold k4;rw[bd.op,bd.aW,xaj];cases ak:t.aW[1]? with|none=>rfl|some k=>simp only[xaP,bd.op,bd.num]
def auj{f:Tm->Tm}(bd:qs f)(vs:List V)(nx:Bool)(t:Tm):ho vs nx (f t)=ho vs nx t:=by
 refine Tm.ind (P:=λt=>ho vs nx (f t)=ho vs nx t) ?_ t;intro t ih;have aw:pE vs nx (f t)=pE vs nx t:=by simp only[pE,bd.op,bd.num,bd.name]
 rw[Df,Df vs nx t,bd.op,bd.aW,aw,adp vs nx f t.aW ih,aui bd]
def auk{f:Tm->Tm}(bd:qs f)(t:Tm):im (f t)=im t:=by simp only[im,bd.op,bd.num,bd.name,bd.aW,xaY]
def adq(f:Tm->Tm):∀(ks:List Tm),(∀k∈ks,∀d n,de (f k) d n=de k d n)->∀d n,fy (ks.map f) d n=fy ks d n
 |[],_,_,_=>rfl|k::r,h,d,n=>by rw[xaz,fy,fy,h k (by simp),adq f r λk ak=>h k (by simp[ak])]
def aul{f:Tm->Tm}(bd:qs f)(t:Tm):∀d n,de (f t) d n=de t d n:=by refine Tm.ind (P:=λt=>∀d n,de (f t) d n=de t d n) ?_ t;intro t ih d n;rw[u0,u0 t,auk bd,bd.aW,adq f t.aW ih]
def adr{f:Tm->Tm}(bd:qs f)(vs:List V)(nx:Bool)(t:Tm):qq vs nx (f t)=qq vs nx t:=by unfold qq;rw[aul bd,auj bd]
structure vb(l:List bb)(t:Tm)(p:Tm×Int):Prop where
 a:∀n,301000000<n->mr n [t.d,aQ l]=some (.a1 [(if p.2=0 then kh p.1 else fI).d,J p.2])
 b:∀n,301000000<n->mx n [t.d,aQ l]=some (.a1 [(if p.2=0 then gL p.1 else fI).d,J p.2])
 x:p.2=0->p.1.cq/\p.1.bq<=12300/\(de p.1 1 0).1=0/\(kh p.1).cq/\(gL p.1).cq/\∃h,kG l h t p.1
def ads{l:List bb}(aq:h5 12300 l)(Dk:l.length<=100)(t:Tm)(bn:t.cq)(aM:t.bq<=12300):∃p,vb l t p:=by
 by_cases au:(de t 1 0).1=0
 case neg=>exact⟨(fI,(de t 1 0).1),λn aL=>by rw[xab au];exact(TF aq n t bn aM (by omega)).1 au,λn aL=>by rw[xab au];exact(TH aq n t bn aM (by omega)).1 au,λh=>absurd h au⟩
 cases av:rK l t with
 |false=>exact⟨(fI,14),λn aL=>(TF aq n t bn aM (by omega)).2.1 au av,λn aL=>(TH aq n t bn aM (by omega)).2.1 au av,λh=>by cases h⟩
 |true=>
  obtain⟨X,kF⟩:=asz aq aM ((asL l t).1 av);have gf:(l.length+1)*(12300+1)+12300<=1300000:=by omega
  generalize (l.length+1)*(12300+1)+12300=bJ at*;have A:∀n,301000000<n->_:=λn aL=>(TF aq n t bn aM (by omega)).2.2 _ X au av kF (by omega);have B:∀n,301000000<n->_:=λn aL=>(TH aq n t bn aM (by omega)).2.2 _ X au av kF (by omega);obtain⟨bU,b9⟩:=Tx X 1 0 (by omega);rw[bU]at A;by_cases aw:(de X 1 0).1=0
  case neg=>simp only[aw,xaG]at A B;exact⟨(fI,(de X 1 0).1),λn aL=>by rw[xab aw];exact A n aL,λn aL=>by rw[xab aw];exact B n aL,λh=>absurd h aw⟩
  simp only[aw,xaD]at A B;have bd:=acG X 1 0 (by omega) aw;have adt:=kF.ok aq bn aM;have gE:=asT X 1 0 aw;have aAg:=(C3 X 1 0).2 aw;have adu:=(acB aq kF bn aM).1;rw[bd]at A adu;exact⟨(X,0),A,B,λ_=>⟨adt.1,by simp only;omega,aw,adu,atB X adt.1,bJ,kF⟩⟩
open Classical in
noncomputable def hW(l:List bb)(t:Tm):Tm×Int:=if h:∃p,vb l t p then Classical.choose h else(fI,0)
def adv{l:List bb}{t:Tm}(h:∃p,vb l t p):vb l t (hW l t):=by unfold hW;rw[dif_pos h];exact Classical.choose_spec h
noncomputable def gM(m:aC)(nx:Bool)(t:Tm):Y×Int:=if(hW m.aR t).2≠0 then(fR,(hW m.aR t).2)else qq m.vars nx (hW m.aR t).1
noncomputable def pF(m:aC)(nx:Bool)(t:Tm):Int:=if((gM m nx t).2==0&&!(gM m nx t).1.b)=true then 13 else(gM m nx t).2
structure Dl(m:aC):Prop where
 d:h5 12300 m.aR
 dl:m.aR.length<=100
 qt:m.vars.length<=100
def Dl.M0{m:aC}(h:Dl m){t:Tm}(bn:t.cq)(aM:t.bq<=12300):vb m.aR t (hW m.aR t):=adv (ads h.d h.dl t bn aM)
theorem adw:D.agg [ay false,J 0,J 0]=fR.d:=rfl
theorem tl(y:Y):ad y.d 0=ay y.b:=rfl
theorem adx(y:Y):ad y.d 1=J y.lo:=rfl
theorem ady(y:Y):ad y.d 2=J y.ah:=rfl
theorem pG(y:Y):a5 3 y.d=true:=rfl
theorem adz(y:Y):D.agg [ay y.b,J y.lo,J y.ah]=y.d:=rfl
section
variable{m:aC}(hm:Dl m)(n:Nat)(aL:301000000<n)
include hm aL
theorem T9{t:Tm}(bn:t.cq)(aM:t.bq<=12300)(nx:Bool):sS n [m.d,t.d,ay nx]=some (.a1 [(gM m nx t).1.d,J (gM m nx t).2]):=by
 have mb:=hm.M0 bn aM;have Dm:=hm.qt;unfold gM;generalize hW m.aR t=p at*;have dI:=mb.a n aL;by_cases au:p.2=0
 .obtain⟨c0,nV,M1,z3,adA,_⟩:=mb.x au;have bx:(p.2 !=0)=false:=by simp[au]
  rw[xad au]at dI;have bf:=att n m.vars (kh p.1) nx (by rw[TJ];omega) z3 (by omega);rw[adr MY]at bf;rw[xab (by simpa using au)];simp only[sS,RB,go_sem,aC.agg,aC.a8,aC.bU,dI,bx,bf,pG,tl,adx,ady,adz]
 have bx:(p.2 !=0)=true:=by simpa using au
 rw[xab au]at dI;rw[xad au];simp only[sS,RB,go_sem,aC.agg,aC.a8,aC.bU,dI,bx,adw]
theorem Ua{t:Tm}(bn:t.cq)(aM:t.bq<=12300)(nx:Bool):s3 n [m.d,t.d,ay nx]=some (.a1 [(gM m nx t).1.d,J (gM m nx t).2]):=by
 have mb:=hm.M0 bn aM;have Dm:=hm.qt;unfold gM;generalize hW m.aR t=p at*;have dI:=mb.b n aL;by_cases au:p.2=0
 .obtain⟨c0,nV,M1,z3,adA,_⟩:=mb.x au;have bx:(p.2 !=0)=false:=by simp[au]
  rw[xad au]at dI;have bf:=atu n m.vars (gL p.1) nx (by rw[TZ];omega) adA (by omega);rw[adr MZ]at bf;rw[xab (by simpa using au)];simp only[s3,SE,go_sem,aC.agg,aC.a8,aC.bU,dI,bx,bf,pG,tl,adx,ady,adz]
 have bx:(p.2 !=0)=true:=by simpa using au
 rw[xab au]at dI;rw[xad au];simp only[s3,SE,go_sem,aC.agg,aC.a8,aC.bU,dI,bx,adw]
theorem adB{t:Tm}(bn:t.cq)(aM:t.bq<=12300)(nx:Bool):wF n [m.d,t.d,ay nx]=some (J (pF m nx t)):=by
 have bf:=T9 hm n aL bn aM nx;unfold pF;by_cases h:((gM m nx t).2==0&&!(gM m nx t).1.b)=true;.rw[xad h];simp only[wF,RC,go_sem,aC.agg,aC.a8,aC.bU,aC.b9,aC.cE,aC.dy,aC.er,aC.et,aC.fk,aC.eta,bf,pG,tl,h]
 have bz:((gM m nx t).2==0&&!(gM m nx t).1.b)=false:=by simpa using h
 rw[xab h];simp only[wF,RC,go_sem,aC.agg,aC.a8,aC.bU,aC.b9,aC.cE,aC.dy,aC.er,aC.et,aC.fk,aC.eta,bf,pG,tl,bz]
theorem adC{t:Tm}(bn:t.cq)(aM:t.bq<=12300)(nx:Bool):wS n [m.d,t.d,ay nx]=some (J (pF m nx t)):=by
 have bf:=Ua hm n aL bn aM nx;unfold pF;by_cases h:((gM m nx t).2==0&&!(gM m nx t).1.b)=true;.rw[xad h];simp only[wS,SF,go_sem,aC.agg,aC.a8,aC.bU,aC.b9,aC.cE,aC.dy,aC.er,aC.et,aC.fk,aC.eta,bf,pG,tl,h]
 have bz:((gM m nx t).2==0&&!(gM m nx t).1.b)=false:=by simpa using h
 rw[xab h];simp only[wS,SF,go_sem,aC.agg,aC.a8,aC.bU,aC.b9,aC.cE,aC.dy,aC.er,aC.et,aC.fk,aC.eta,bf,pG,tl,bz]
end
def vc(N:Nat)(S:List Nat):List (List D):=(List.range N).map λj=>[ay (decide (j∈S))]
def ki(N:Nat)(S:List Nat):D:= .ax 1 (vc N S)
def Ia(N:Nat)(S:List Nat):(vc N S).length=N:=by simp[vc]
def Ib{N:Nat}{S:List Nat}{k:Nat}(h:k<N):(vc N S)[k]?=some [ay (decide (k∈S))]:=by simp[vc,h]
def adD(N:Nat):List.replicate N [ay false]=vc N []:=by
 apply xbY;intro j;by_cases h:j<N;.rw[Ib h];simp[h]
 rw[xbl (by simp;omega),xbl (by rw[Ia];omega)]
def aum{N:Nat}{S:List Nat}{k:Nat}(h:k<N):(vc N S).set k [ay true]=vc N (S++[k]):=by
 apply xbY;intro j;by_cases aN:j<N
 .rw[Ib aN,List.getElem?_set];by_cases e:k=j;.subst e;simp[Ia,h]
  rw[xab e,Ib aN];have:(j∈S++[k])↔j∈S:=by simp;omega
  simp only[this]
 rw[xbl (by simp[Ia];omega),xbl (by rw[Ia];omega)]
def ir(S:List Nat)(ks:List Nat):List Nat:=ks.foldl (λS k=>if k∈S then S else S++[k]) S
theorem Ic(S:List Nat)(k:Nat)(r:List Nat):ir S (k::r)=ir (if k∈S then S else S++[k]) r:=rfl
structure aun(N:Nat)(S ks R:List Nat):Prop where
 inv:iS N R
 pre:∃T,R=S++T
 mem:∀k∈ks,k∈R
 of:∀x∈R,x∈S\/x∈ks
def M3{N:Nat}:∀(ks S:List Nat),iS N S->(∀k∈ks,k<N)->aun N S ks (ir S ks)
 |[],S,h,_=>⟨h,⟨[],by simp[ir]⟩,by simp,λx ag=> .inl ag⟩
 |k::r,S,h,ak=>by
  rw[Ic];by_cases eG:k∈S
  .rw[xad eG];have g:=M3 r S h λx ag=>ak x (by simp[ag]);obtain⟨T,bf⟩:=g.pre;refine⟨g.inv,g.pre,λx ag=>?_,λx ag=>(g.of x ag).elim .inl λh=> .inr (by simp[h])⟩;rcases xak.1 ag with rfl|ag
   .rw[bf];simp[eG]
   exact g.mem x ag
  rw[xab eG];have g:=M3 r (S++[k]) (h.snoc (ak k (by simp)) eG) λx ag=>ak x (by simp[ag]);obtain⟨T,bf⟩:=g.pre;refine⟨g.inv,⟨[k]++T,by rw[bf];simp⟩,λx ag=>?_,λx ag=>?_⟩
  .rcases xak.1 ag with rfl|ag;.rw[bf];simp
   exact g.mem x ag
  rcases g.of x ag with h|h
  .rcases xaq.1 h with h|h;.exact .inl h
   simp at h;subst h;exact .inr (by simp)
  exact .inr (by simp[h])
def vd(to:Nat->List Nat)(i:Nat):Nat->Nat->List Nat->List Nat
 |0,_,S=>S|m+1,k,S=>match(i::S)[k]? with|some x=>vd to i m (k+1) (ir S (to x))|none=>S
structure qu(to:Nat->List Nat)(N i k:Nat)(S:List Nat):Prop where
 inv:iS N S
 le:k<=S.length+1
 u3:∀j x,j<k->(i::S)[j]?=some x->∀y∈to x,y∈S
 rH:∀x∈S,∃j∈to i,kg to j x
def kg.snoc{to:Nat->List Nat}{i j k:Nat}(h:kg to i j)(bz:k∈to j):kg to i k:=h.trans (.step j k k bz (.refl k))
def qu.next{to:Nat->List Nat}{N i k:Nat}{S:List Nat}(h:qu to N i k S)(kU:∀i,∀k∈to i,k<N){x:Nat}(ag:(i::S)[k]?=some x):qu to N i (k+1) (ir S (to x)):=by
 have g:=M3 (to x) S h.inv (kU x);obtain⟨T,bf⟩:=g.pre;have ak:k<S.length+1:=by have:=(xae.1 ag).1;simpa using this
 have auo:∀j y,j<=k->(i::ir S (to x))[j]?=some y->(i::S)[j]?=some y:=by intro j y aN aP;rw[bf,<-xce,xaK (by simp;omega)]at aP;exact aP
 refine⟨g.inv,by rw[bf];simp;omega,?_,?_⟩
 .intro j y aN aP z bx;have tJ:=auo j y (by omega) aP;by_cases e:j=k
  .subst e;rw[ag]at tJ;cases tJ;exact g.mem z bx
  have:=h.u3 j y (by omega) tJ z bx;rw[bf];simp[this]
 intro y aP;rcases g.of y aP with ab|ab
 .exact h.rH y ab
 cases k with|zero=>simp at ag;subst ag;exact⟨y,ab,.refl y⟩|succ k=>have Tp:x∈S:=xac (by simpa using ag);obtain⟨j,aN,av⟩:=h.rH x Tp;exact⟨j,aN,av.snoc ab⟩
def Ub{to:Nat->List Nat}{N i:Nat}(kU:∀i,∀k∈to i,k<N):∀(m k:Nat)(S:List Nat),qu to N i k S->N+1-k<m->(i∈vd to i m k S↔∃j∈to i,kg to j i)
 |0,_,_,_,h=>absurd h (xaA _)
 |m+1,k,S,h,hm=>by
  rw[vd];have b5:=h.inv.len;cases ag:(i::S)[k]? with
  |some x=>
   have ak:k<S.length+1:=by have:=(xae.1 ag).1;simpa using this
   exact Ub kU m (k+1) _ (h.next kU ag) (by omega)
  |none=>
   have ak:S.length+1<=k:=by have:=List.getElem?_eq_none_iff.1 ag;simpa using this
   refine⟨λah=>h.rH i ah,?_⟩;have g4:∀a b,kg to a b->a∈S->b∈S:=by
    intro a b fv
    induction fv with|refl=>exact λh=>h|step p q r DS _ ih=>intro aT;obtain⟨j,aN⟩:=xaT.1 aT;have cL:=(xae.1 aN).1;exact ih (h.u3 (j+1) p (by omega) (by simpa using aN) q DS)
   rintro⟨j,aN,av⟩;exact g4 j i av (h.u3 0 i (by omega) (by simp) j aN)
def qu.start(to:Nat->List Nat)(N i:Nat):qu to N i 0 []:=⟨⟨by simp,by simp⟩,by simp,by intro j x h;omega,by simp⟩
theorem rO(x:List Nat):D.ax 1 (ar (c9 x))=c9 x:=rfl
def Ie(x:List Nat):(ar (c9 x)).length=x.length:=by simp[c9]
def adE(x:List Nat)(k:Nat):D.ax 1 (ar (c9 x)++[[J (k:Int)]])=c9 (x++[k]):=by simp[c9]
def adF{x:List Nat}{j k:Nat}(h:x[j]?=some k):(ar (c9 x))[j]?=some [J (k:Int)]:=by simp[c9,h]
theorem oO(N:Nat)(x:List Nat):D.ax 1 (ar (ki N x))=ki N x:=rfl
def Ig(N:Nat)(x:List Nat):(ar (ki N x)).length=N:=Ia N x
def Ih{N:Nat}{S:List Nat}{k:Nat}(h:k<N):(ar (ki N S))[k]?=some [ay (decide (k∈S))]:=Ib h
theorem adG{N:Nat}{S:List Nat}{k:Nat}(h:k<N){w:Bool}:D.ax 1 ((ar (ki N S)).set k (dD [ay w] 0 [ay true]))=ki N (S++[k]):=by show D.ax 1 ((vc N S).set k [ay true])=_;rw[aum h];rfl
theorem z4(b:Bool):a3 false 1 0 [ay b]=some (ay b):=rfl
theorem M4(i:Int):a3 false 1 0 [J i]=some (J i):=rfl
theorem Dn(s:ByteArray):a3 false 1 0 [aB s]=some (aB s):=rfl
theorem M5{p:Option D}:bL (ay true) true p=p:=rfl
theorem Ii{p:Option D}:bL (ay false) true p=some lk:=rfl
theorem M6{a b:D}:bW (ay true) a b=some a:=rfl
theorem Ij{a b:D}:bW (ay false) a b=some b:=rfl
def adH{l:List bb}{x:ByteArray}{k:Nat}(h:dq l x=some k):k<l.length:=by obtain⟨_,_,_,h⟩:=Q6 h;exact h
def aup(n:Nat)(l:List bb){B:Nat}(aq:h5 B l)(i k:Nat)(k7:List ByteArray)(S:List Nat)(ec:iS l.length S)(ak:k<=S.length+1)(gz:k7.length<=B)(aL:2*B+100<n):bp (yZ n) n [aQ l,J (i:Int),bm k7,J k7.length,J 0,ki l.length S,c9 ((i::S).drop k)]=some (.inl [aQ l,J (i:Int),ki l.length (ir S (k7.filterMap (dq l))),c9 ((i::ir S (k7.filterMap (dq l))).drop k)]):=by
 have b5:=aq.len;have aj:=aq.b;have ah:=dF (f:=yZ n) k7 (λj (s:List Nat)=>[aQ l,J (i:Int),bm k7,J k7.length,J (j:Int),ki l.length s,c9 ((i::s).drop k)]) (λr s=>(.inl [aQ l,J (i:Int),ki l.length (ir s (r.filterMap (dq l))),c9 ((i::ir s (r.filterMap (dq l))).drop k)]:List D⊕(List D⊕(List D⊕(List D⊕D))))) (λj s=>iS l.length s/\k<=s.length+1) (λs _=>by simp only[yZ,go_sem,yF ((k7.length:Int)<k7.length),oO,rO];rfl) ?_ n 0 S ⟨ec,ak⟩ (by omega) (xai _)
 .exact ah
 rintro j x s ag aN ⟨ab,af⟩;have iA:=aue n l x (by omega) (by omega);have gh:=ab.len;have cL:=yT ((j:Int)<(k7.length:Int));left;cases aA:dq l x with
 |none=>rw[aA]at iA;refine⟨s,?_,by simp[aA],ab,af⟩;have jz:decide (gC none>=0)=false:=rfl;simp only[yZ,go_sem,cL,j0 ag,Dn,iA,jz,Ii,Ij,oO,rO,b2 (bt:=false) (i:=j) (by omega)]
 |some y=>
  have aP:=adH aA;rw[aA]at iA;have jz:decide ((y:Int)>=0)=true:=xaw (by omega);have fQ:cd l.length (J (y:Int))=some y:=by rw[ox,xad aP]
  have Ik:gC (some y)=(y:Int):=rfl;by_cases nL:y∈s;.refine⟨s,?_,by simp[aA,Ic,nL],ab,af⟩;simp only[yZ,go_sem,cL,j0 ag,Dn,iA,Ik,jz,Ig,fQ,Ih aP,z4,xaw nL,M5,M6,oO,rO,b2 (bt:=false) (i:=j) (by omega)]
  have aw:=ab.snoc aP nL;refine⟨s++[y],?_,by simp only[xbK,aA,Ic,xab nL],aw,by simp;omega⟩;have aK:(i::(s++[y])).drop k=(i::s).drop k++[y]:=by rw[<-xce,List.drop_append_of_le_length (by simpa using af)]
  have dV:c1 (((i::s).drop k).length+1) 8=true:=fU (by simp;omega) (by simp;omega);rw[aK];simp only[yZ,go_sem,cL,j0 ag,Dn,iA,Ik,jz,Ig,fQ,Ih aP,z4,xaF nL,M5,M6,Ie,xap,xar,xav,dV,adG aP,adE,oO,rO,b2 (bt:=false) (i:=j) (by omega)]
def adI(n:Nat)(l:List bb){B:Nat}(aq:h5 B l)(i:Nat)(cj:i<l.length)(aL:4*B+200<n):∀(m k:Nat)(S:List Nat),qu (to l) l.length i k S->l.length+1-k<m->bp (Ls n) m [aQ l,J (i:Int),ki l.length S,c9 ((i::S).drop k)]=some (.inl [J (i:Int),ki l.length (vd (to l) i m k S)])
 |0,_,_,_,h=>absurd h (xaA _)
 |m+1,k,S,h,hm=>by
  have b5:=aq.len;have aj:=aq.b;rw[jG,vd];have auq:=h.inv.len;have hle:=h.le;cases ag:(i::S)[k]? with
  |none=>
   have ak:S.length+1<=k:=by have:=List.getElem?_eq_none_iff.1 ag;simpa using this
   have bH:(i::S).drop k=[]:=xcf (by simpa using ak);rw[bH];have aK:(ar (c9 [])).length=0:=rfl;have aY:decide (((0:Nat):Int)>0)=false:=rfl;simp only[Ls,go_sem,aK,aY,oO]
  |some x=>
   have ak:k<S.length+1:=by have:=(xae.1 ag).1;simpa using this
   have ld:x<l.length:=by cases k with|zero=>simp at ag;omega|succ k=>exact h.inv.2 x (xac (by simpa using ag))
   obtain⟨d,aA⟩:∃d,l[x]?=some d:=⟨l[x],xaa ld⟩;have h7:=aq.e d (xac aA);have mG:=h.next (λi k ak=>lx i k ak) ag
   have ih:=adI n l aq i cj aL m (k+1) _ mG (by omega);have b3:=My n d.e (by omega) h7.1 (by omega);have pH:=C5 d.e;have gp:=aup n l aq i k (dK 3 d.e []) S h.inv hle (by omega) (by omega);have kU:(dK 3 d.e []).filterMap (dq l)=to l x:=by rw[C6 aA];rfl
   rw[kU]at gp;obtain⟨T,bf⟩:=(M3 (N:=l.length) (to l x) S h.inv (lx x)).pre;have JA:((i::ir S (to l x)).drop k).length=(ir S (to l x)).length+1-k:=by simp
   have fs:=mG.le;have adJ:((i::S).drop k).length=S.length+1-k:=by simp
   have Jw:decide (((((i::S).drop k).length:Nat):Int)>0)=true:=xaw (by rw[adJ];omega);have aur:((i::S).drop k)[0]?=some x:=by rw[xaV];exact ag
   have fQ:cd ((i::S).drop k).length (J 0)=some 0:=by have:(J 0)=J ((0:Nat):Int):=rfl;rw[this,ox,xad (by rw[adJ];omega)]
   have aus:mg ((i::ir S (to l x)).drop k).length (some (J 1)) none=some (1,((i::ir S (to l x)).drop k).length-1):=by
    have ab:1<=((i::ir S (to l x)).drop k).length:=by rw[JA];omega
    generalize ((i::ir S (to l x)).drop k).length=q at*;have:(J 1)=J ((1:Nat):Int):=rfl;rw[this];simp[mg,qT,J,ab]
   have aut:decide (1+(((i::ir S (to l x)).drop k).length-1)<=((i::ir S (to l x)).drop k).length)=true:=xaw (by rw[JA];omega);have auu:D.ax 1 (((ar (c9 ((i::ir S (to l x)).drop k))).drop 1).take (((i::ir S (to l x)).drop k).length-1))=c9 ((i::ir S (to l x)).drop (k+1)):=by
    have bN:((((i::ir S (to l x)).drop k).drop 1).take (((i::ir S (to l x)).drop k).length-1))=(i::ir S (to l x)).drop (k+1):=by rw[List.drop_drop,xbz];simp;omega
    show D.ax 1 (((((i::ir S (to l x)).drop k).map λ(i:Nat)=>[J (i:Int)]).drop 1).take _)=c9 _;rw[<-bN];unfold c9;simp only[List.map_take,List.map_drop]
   simp only[Ls,go_sem,Ie,Jw,fQ,adF aur,M4,fi aA,bb.hk,b3,h6,oO,rO,gp,aus,aut,auu,ih]
def auv(n:Nat)(m:aC){l:List bb}{B:Nat}(aq:h5 B l)(i:Nat)(ah:i<l.length)(aL:4*B+200<n):BV n [aQ l,m.d,J (i:Int)]=some (J (if jq l i=true then 14 else 0)):=by
 have b5:=aq.len;have aj:=aq.b;have aw:=adI n l aq i ah aL n 0 [] (qu.start _ _ _) (by omega);have Dp:=Ub (λi k ak=>lx i k ak) n 0 [] (qu.start (to l) l.length i) (by omega);rw[<-Tr l i]at Dp;generalize vd (to l) i n 0 []=S at*;have HW:qV 1 (J (l.length:Int)) (J (l.length:Int))=some l.length:=by simp[qV,J];omega
 have aK:D.ax 1 (List.replicate l.length [ay false])=ki l.length []:=by rw[adD];rfl
 have aY:D.ax 1 [[J (i:Int)]]=c9 ((i::[]).drop 0):=rfl;have fQ:cd l.length (J (i:Int))=some i:=by rw[ox,xad ah]
 simp only[BV,Zx,go_sem,aC.agg,dZ,HW,aK,aY,aw,Ig,fQ,Ih ah,z4];by_cases h:jq l i=true;.rw[xad h,xad (xaw (Dp.2 h))]
 rw[xab h,xab (by simpa usingλbJ=>h (Dp.1 bJ))]
def adK(n:Nat)(m:aC)(x:ByteArray)(aL:m.aR.length<n)(aq:m.aR.length<1000000000):zp n [m.d,aB x]=some (J (gC (dq m.aR x))):=by
 have ah:=dF (f:=G6 n) m.aR (λi (_:Unit)=>[aB x,J (i:Int),bl m.vars,aQ m.aR,az m.bQ,az m.bR,aQ m.next,az m.trans,az m.bS,b1 m.bK]) (λr _=>match dq r x with|some j=>(Sum.inr (J ((m.aR.length-r.length+j:Nat):Int)):List D⊕D)|none=> .inl []) (λ_ _=>True) (λ_ _=>by simp[G6,dZ,dq]) ?_ n 0 () trivial (by omega) (xai _);.have bH:(J ((0:Nat):Int))=J 0:=rfl;rw[bH]at ah;simp only[zp,Z8,go_sem,aC.agg,aC.a8,aC.bU,aC.b9,aC.cE,aC.dy,aC.er,aC.et,aC.fk,ah,xal];cases dq m.aR x<;>simp[gC]
 intro i a _ aI ah _;have e:m.aR.length-(a::m.aR.drop (i+1)).length=i:=by simp;omega
 have dt:m.aR.length-(m.aR.drop (i+1)).length=i+1:=by simp;omega
 have nv:dq (a::m.aR.drop (i+1)) x=if a.name=x then some 0 else(dq (m.aR.drop (i+1)) x).map (·+1):=by simp[dq,xbU]
 have ae:a.cells[0]?=some (aB a.name):=rfl;by_cases ag:a.name=x;.right;rw[nv,xad ag,e];simp[G6,dZ,ah,fi aI,ae,ag]
 left;refine⟨(),by simp[G6,dZ,ah,fi aI,ae,ag,b2 (bt:=false) (i:=i) (by omega)],?_,trivial⟩;rw[nv,xab ag,e,dt];cases dq (m.aR.drop (i+1)) x with|none=>rfl|some j=>simp;omega
def adL(n:Nat)(m:aC)(x:ByteArray)(aL:m.vars.length<n)(aq:m.vars.length<1000000000):zo n [m.d,aB x]=some (J (gC (fh m.vars x))):=by
 have ah:=dF (f:=G5 n) m.vars (λi (_:Unit)=>[aB x,J (i:Int),bl m.vars,aQ m.aR,az m.bQ,az m.bR,aQ m.next,az m.trans,az m.bS,b1 m.bK]) (λr _=>match fh r x with|some j=>(Sum.inr (J ((m.vars.length-r.length+j:Nat):Int)):List D⊕D)|none=> .inl []) (λ_ _=>True) (λ_ _=>by simp[G5,fS,fh]) ?_ n 0 () trivial (by omega) (xai _);.have bH:(J ((0:Nat):Int))=J 0:=rfl;rw[bH]at ah;simp only[zo,Z7,go_sem,aC.agg,aC.a8,aC.bU,aC.b9,aC.cE,aC.dy,aC.er,aC.et,aC.fk,ah,xal];cases fh m.vars x<;>simp[gC]
 intro i a _ aI ah _;have e:m.vars.length-(a::m.vars.drop (i+1)).length=i:=by simp;omega
 have dt:m.vars.length-(m.vars.drop (i+1)).length=i+1:=by simp;omega
 have nv:fh (a::m.vars.drop (i+1)) x=if a.name=x then some 0 else(fh (m.vars.drop (i+1)) x).map (·+1):=by simp[fh,xbU]
 have ae:a.cells[0]?=some (aB a.name):=rfl;by_cases ag:a.name=x;.right;rw[nv,xad ag,e];simp[G5,fS,ah,h8 aI,ae,ag]
 left;refine⟨(),by simp[G5,fS,ah,h8 aI,ae,ag,b2 (bt:=false) (i:=i) (by omega)],?_,trivial⟩;rw[nv,xab ag,e,dt];cases fh (m.vars.drop (i+1)) x with|none=>rfl|some j=>simp;omega
def auw(n:Nat)(m:aC){B:Nat}(aq:h5 B m.aR)(i:Nat)(k:Int)(k7:List ByteArray)(S:List Nat)(ec:iS m.aR.length S)(gz:k7.length<=B)(aL:2*B+100<n):bp (zs n) n [J k,h4 true k7,J 0,bl m.vars,aQ m.aR,az m.bQ,az m.bR,aQ m.next,az m.trans,az m.bS,b1 m.bK,ki m.aR.length S,c9 (i::S)]=some (.inl [J k,bl m.vars,aQ m.aR,az m.bQ,az m.bR,aQ m.next,az m.trans,az m.bS,b1 m.bK,ki m.aR.length (ir S (k7.filterMap (dq m.aR))),c9 (i::ir S (k7.filterMap (dq m.aR)))]):=by
 have b5:=aq.len;have aj:=aq.b;have ah:=dF (f:=zs n) k7 (λj (s:List Nat)=>[J k,h4 true k7,J (j:Int),bl m.vars,aQ m.aR,az m.bQ,az m.bR,aQ m.next,az m.trans,az m.bS,b1 m.bK,ki m.aR.length s,c9 (i::s)]) (λr s=>(.inl [J k,bl m.vars,aQ m.aR,az m.bQ,az m.bR,aQ m.next,az m.trans,az m.bS,b1 m.bK,ki m.aR.length (ir s (r.filterMap (dq m.aR))),c9 (i::ir s (r.filterMap (dq m.aR)))]:List D⊕(List D⊕(List D⊕(List D⊕D))))) (λj s=>iS m.aR.length s) (λs _=>by simp only[zs,go_sem,kZ,yF ((k7.length:Int)<k7.length),oO,rO];rfl) ?_ n 0 S ec (by omega) (xai _)
 .exact ah
 rintro j x s ag aN ab;have iA:=adK n m x (by omega) (by omega);have gh:=ab.len;have fl:=tc (nl:=true) ag;have cL:=yT ((j:Int)<(k7.length:Int));left;cases aA:dq m.aR x with
 |none=>rw[aA]at iA;refine⟨s,?_,by simp[aA],ab⟩;have jz:decide (gC none>=0)=false:=rfl;simp only[zs,go_sem,kZ,cL,fl,Dn,aC.eta,iA,jz,Ii,Ij,oO,rO,b2 (bt:=false) (i:=j) (by omega)]
 |some y=>
  have aP:=adH aA;rw[aA]at iA;have jz:decide ((y:Int)>=0)=true:=xaw (by omega);have fQ:cd m.aR.length (J (y:Int))=some y:=by rw[ox,xad aP]
  have Ik:gC (some y)=(y:Int):=rfl;by_cases nL:y∈s;.refine⟨s,?_,by simp[aA,Ic,nL],ab⟩;simp only[zs,go_sem,kZ,cL,fl,Dn,aC.eta,iA,Ik,jz,Ig,fQ,Ih aP,z4,xaw nL,M5,M6,oO,rO,b2 (bt:=false) (i:=j) (by omega)]
  have aw:=ab.snoc aP nL;refine⟨s++[y],?_,by simp only[xbK,aA,Ic,xab nL],aw⟩;have aK:i::(s++[y])=(i::s)++[y]:=rfl;have dV:c1 ((i::s).length+1) 8=true:=fU (by simp;omega) (by simp;omega);rw[aK];simp only[zs,go_sem,kZ,cL,fl,Dn,aC.eta,iA,Ik,jz,Ig,fQ,Ih aP,z4,xaF nL,M5,M6,Ie,xap,xar,xav,adG aP,adE,oO,rO,b2 (bt:=false) (i:=j) (by omega)]at dV⊢;simp only[dV,sB,eF,p8,nO,pj,b2 (bt:=false) (i:=j) (by omega),oO,rO]
def adM(n:Nat)(kj:aC){B:Nat}(aq:h5 B kj.aR)(i:Nat)(cj:i<kj.aR.length)(aL:4*B+200<n):∀(m k:Nat)(S:List Nat),qu (to kj.aR) kj.aR.length i k S->kj.aR.length+1-k<m->bp (Ma n) m [J (k:Int),bl kj.vars,aQ kj.aR,az kj.bQ,az kj.bR,aQ kj.next,az kj.trans,az kj.bS,b1 kj.bK,ki kj.aR.length S,c9 (i::S)]=some (.inl [ki kj.aR.length (vd (to kj.aR) i m k S)])
 |0,_,_,_,h=>absurd h (xaA _)
 |m+1,k,S,h,hm=>by
  have b5:=aq.len;have aj:=aq.b;rw[jG,vd];have auq:=h.inv.len;have hle:=h.le;cases ag:(i::S)[k]? with
  |none=>
   have ak:S.length+1<=k:=by have:=List.getElem?_eq_none_iff.1 ag;simpa using this
   have aY:decide ((k:Int)<(((i::S).length:Nat):Int))=false:=xaF (by simp;omega);simp only[Ma,go_sem,Ie,aY,oO]
  |some x=>
   have ak:k<S.length+1:=by have:=(xae.1 ag).1;simpa using this
   have ld:x<kj.aR.length:=by cases k with|zero=>simp at ag;omega|succ k=>exact h.inv.2 x (xac (by simpa using ag))
   obtain⟨d,aA⟩:∃d,kj.aR[x]?=some d:=⟨kj.aR[x],xaa ld⟩;have h7:=aq.e d (xac aA);have mG:=h.next (λi k ak=>lx i k ak) ag
   have ih:=adM n kj aq i cj aL m (k+1) _ mG (by omega);have b3:=Mx n d.e (by omega) h7.1 (by omega);have pH:=C5 d.e;have gp:=auw n kj aq i k (dK 3 d.e []) S h.inv (by omega) (by omega);have kU:(dK 3 d.e []).filterMap (dq kj.aR)=to kj.aR x:=by rw[C6 aA];rfl
   rw[kU]at gp;have Jw:decide ((k:Int)<(((i::S).length:Nat):Int))=true:=xaw (by simp;omega);have fQ:cd (i::S).length (J (k:Int))=some k:=by rw[ox,xad (by simpa using ak)]
   have wi:((k:Int)+1)=((k+1:Nat):Int):=by omega
   simp only[Ma,go_sem,Ie,Jw,fQ,adF ag,M4,fi aA,bb.hk,b3,oO,rO,gp,b2 (bt:=false) (i:=k) (by omega),ih]
def auy(n:Nat)(m:aC){B:Nat}(aq:h5 B m.aR)(i:Nat)(ah:i<m.aR.length)(aL:4*B+200<n):∃S,Ha n [m.d,J (i:Int)]=some (ki m.aR.length S)/\(i∈S↔jq m.aR i=true):=by
 have b5:=aq.len;have aj:=aq.b;have aw:=adM n m aq i ah aL n 0 [] (qu.start _ _ _) (by omega);have Dp:=Ub (λi k ak=>lx i k ak) n 0 [] (qu.start (to m.aR) m.aR.length i) (by omega);rw[<-Tr m.aR i]at Dp;generalize vd (to m.aR) i n 0 []=S at*;refine⟨S,?_,Dp⟩;have HW:qV 1 (J (m.aR.length:Int)) (J (m.aR.length:Int))=some m.aR.length:=by simp[qV,J];omega
 have aK:D.ax 1 (List.replicate m.aR.length [ay false])=ki m.aR.length []:=by rw[adD];rfl
 have aY:D.ax 1 [[J (i:Int)]]=c9 (i::[]):=rfl;have bH:(J ((0:Nat):Int))=J 0:=rfl;rw[bH]at aw;simp only[Ha,aac,go_sem,aC.agg,aC.a8,aC.bU,aC.b9,aC.cE,aC.dy,aC.er,aC.et,aC.fk,dZ,HW,aK,aY,aw,oO]
def cG(e:Nat->Int):Nat->Nat->Int×Int
 |0,_=>(0,0)|m+1,i=>if e i=0 then cG e m (i+1)else((i:Int),e i)
def Il(e:Nat->Int):∀(m i:Nat),(cG e m i).2=0↔∀j,i<=j->j<i+m->e j=0
 |0,i=>by simp[cG];intro j ab af;omega
 |m+1,i=>by
  rw[cG];by_cases h:e i=0
  .rw[xad h,Il e m (i+1)];constructor
   .intro ab j af aw;by_cases aN:j=i;.subst aN;exact h
    exact ab j (by omega) (by omega)
   intro ab j af aw;exact ab j (by omega) (by omega)
  rw[xab h];exact⟨λab=>absurd ab h,λab=>absurd (ab i (xan _) (by omega)) h⟩
def rP(e:Nat->Int)(m i:Nat)(h:(cG e m i).2=0):cG e m i=(0,0):=by
 induction m generalizing i with
 |zero=>rfl
 |succ m ih=>
  rw[cG]at h⊢;by_cases au:e i=0;.rw[xad au]at h⊢;exact ih (i+1) h
  rw[xab au]at h;exact absurd h au
def n1{ee:Type}{f:List D->Option (List D⊕(List D⊕ee))}(eO:Nat->List D)(e:Nat->Int)(N:Nat)(L:List D)(W:Int×Int->ee) (aH:∀i,i<N->f (eO i)=some (if e i=0 then .inl (eO (i+1))else .inr (.inr (W ((i:Int),e i))))) (he:f (eO N)=some (.inr (.inl L))): ∀(m i n:Nat),i+m=N->m<n->bp f n (eO i)=some (if(cG e m i).2=0 then .inl L else .inr (W (cG e m i)))
 |0,i,n,h,aL=>by
  obtain⟨k,rfl⟩:∃k,n=k+1:=⟨n-1,by omega⟩;have:i=N:=by omega
  subst this;rw[jG,he];rfl
 |m+1,i,n,h,aL=>by
  obtain⟨k,rfl⟩:∃k,n=k+1:=⟨n-1,by omega⟩;rw[jG,aH i (by omega),cG];by_cases au:e i=0;.rw[xad au,xad au];exact n1 eO e N L W aH he m (i+1) k (by omega) (by omega)
  rw[xab au,xab au];simp only[eF,xab au]
structure Dq(m:aC)(n:Nat):Prop where
 bq:Dl m
 hX:302000000<n
 M7:z2 m.vars
 adN:∀v∈m.vars,v.name.size+24<n
 tn:∀d∈m.aR,d.name.size+24<n/\d.name.size<=9223372036854775807
 bQ:m.bQ.length<=100/\∀t∈m.bQ,t.cq/\t.bq<=12300
 bR:m.bR.length<=100/\∀t∈m.bR,t.cq/\t.bq<=12300
 next:m.next.length<=100/\∀d∈m.next,d.e.cq/\d.e.bq<=12300
 trans:m.trans.length<=100/\∀t∈m.trans,t.cq/\t.bq<=12300
 bS:m.bS.length<=100/\∀t∈m.bS,t.cq/\t.bq<=12300
 bK:m.bK.length<=100/\∀s∈m.bK,(s.f.cq/\s.f.bq<=12300)/\s.name.size+24<n/\s.name.size<=9223372036854775807
noncomputable section
mutual
def lZ(m:aC):Fm->Int
 | .mk o t b ks=>if o=1 then pF m false t else mX m ks
def mX(m:aC):List Fm->Int
 |[]=>0|k::r=>if lZ m k=0 then mX m r else lZ m k
end
theorem Uc(m:aC)(f:Fm):lZ m f=if f.op=1 then pF m false f.e else mX m f.aW:=by cases f;rw[lZ];rfl
def lA(m:aC)(i:Nat):Int:=match m.aR[i]? with
 |some d=>if isName d.name=true then(if((fh m.vars d.name).isSome||(dq (m.aR.take i) d.name).isSome)=true then 6 else 0)else 12
 |none=>0
def l0(m:aC)(i:Nat):Int:=if jq m.aR i=true then 14 else 0
def lB(m:aC)(i:Nat):Int:=match m.aR[i]? with|some d=>(gM m false d.e).2|none=>0
def fb(m:aC)(l:List Tm)(nx:Bool)(i:Nat):Int:=match l[i]? with|some t=>pF m nx t|none=>0
def jK(m:aC)(i:Nat):Int:=match m.next[i]? with
 |some d=>match fh m.vars d.name with|none=>12|some k=>if(dq (m.next.take i) d.name).isSome=true then 6 else if((gM m false d.e).2==0&&((gM m false d.e).1.b !=(m.vars[k]?.map V.bool).getD false))=true then 13 else(gM m false d.e).2
 |none=>0
def jL(m:aC)(i:Nat):Int:=match m.bK[i]? with
 |some s=>if isName s.name=true then(if(n0 (m.bK.take i) s.name).isSome=true then 6 else if ly s.f=0 then lZ m s.f else ly s.f)else 12
 |none=>0
end
def adO{l:List bb}{i:Nat}(h:i<=l.length):qU 5 (aQ l) none (some (J (i:Int)))=some (aQ (l.take i)):=by rw[aQ,T3 (by simpa using h)];simp[aQ,List.map_take]
def auz{l:List cA}{i:Nat}(h:i<=l.length):qU 7 (b1 l) none (some (J (i:Int)))=some (b1 (l.take i)):=by rw[b1,T3 (by simpa using h)];simp[b1,List.map_take]
def adP{m:aC}(hm:Dl m):∀(n:Nat)(f:Fm),301000000+f.bq<n->f.cq->f.bq<=12300->sT n [m.d,f.d]=some (J (lZ m f))
 |0,_,h,_,_=>absurd h (xaA _)
 |n+1,f,aL,bn,aH=>by
  have H0:=f.yt;have p4:=f.kx;rw[Uc];have bf:=adB hm n (by omega) bn.e (by omega) false;have b5:bI (cp 6 f.nl (Fm.rows f.aW))=some (J f.aW.length):=by simp
  have aq:=dF (f:=F6 (sT n) n) f.aW (λi (_:Unit)=>[cp 6 f.nl (Fm.rows f.aW),J f.aW.length,J (i:Int),bl m.vars,aQ m.aR,az m.bQ,az m.bR,aQ m.next,az m.trans,az m.bS,b1 m.bK]) (λr _=>if mX m r=0 then(.inl []:List D⊕D)else .inr (J (mX m r))) (λ_ _=>True) ?_ ?_ n 0 () trivial (by have:=f.kx;omega) (xai _)
  .have bH:(J ((0:Nat):Int))=J 0:=rfl;rw[bH,xal]at aq;show F7 (sT n) n m.d f.d=_;by_cases ab:f.op=1
   .have eS:(f.op==1)=true:=by simp[ab]
    simp only[F7,go_sem,aC.agg,eS,xad ab,aC.a8,aC.bU,aC.b9,aC.cE,aC.dy,aC.er,aC.et,aC.fk,aC.eta,bf]
   have eS:(f.op==1)=false:=by simpa using ab
   simp only[F7,go_sem,aC.agg,eS,xab ab,aC.a8,aC.bU,aC.b9,aC.cE,aC.dy,aC.er,aC.et,aC.fk,aC.eta,b5,aq];by_cases au:mX m f.aW=0;.rw[xad au,au,p8]
   rw[xab au,EW]
  .intro _ _;simp only[F6,go_sem,yF ((f.aW.length:Int)<f.aW.length),mX]
  intro i a _ aI ah _;have ig:=xac aI;have bx:=Fm.jH ig;have av:=adP hm n a (by omega) (bn.gJ ig) (by omega);have cL:=yT ((i:Int)<(f.aW.length:Int));by_cases au:lZ m a=0
  .left;rw[au]at av;refine⟨(),?_,by simp only[mX,au,xaD],trivial⟩;have bx:((0:Int) !=0)=false:=rfl;simp only[F6,go_sem,cL,Fm.ha aI,aC.eta,av,bx,b2 (bt:=false) (i:=i) (by omega)]
  right;have bx:(lZ m a !=0)=true:=by simpa using au
  simp only[F6,go_sem,cL,Fm.ha aI,aC.eta,av,bx,mX,xab au]
def adQ{m:aC}(hm:Dl m):∀(n:Nat)(f:Fm),301000000+f.bq<n->f.cq->f.bq<=12300->s5 n [m.d,f.d]=some (J (lZ m f))
 |0,_,h,_,_=>absurd h (xaA _)
 |n+1,f,aL,bn,aH=>by
  have H0:=f.yt;have p4:=f.kx;rw[Uc];have bf:=adC hm n (by omega) bn.e (by omega) false;have b5:bI (cp 6 f.nl (Fm.rows f.aW))=some (J f.aW.length):=by simp
  have aq:=dF (f:=Hx (s5 n) n) f.aW (λi (_:Unit)=>[J (i:Int),bl m.vars,aQ m.aR,az m.bQ,az m.bR,aQ m.next,az m.trans,az m.bS,b1 m.bK,J f.op,J f.e.op,J f.e.num,aB f.e.name,cp 4 f.e.nl (Tm.rows f.e.aW),cp 6 f.nl (Fm.rows f.aW)]) (λr _=>if mX m r=0 then(.inl []:List D⊕D)else .inr (J (mX m r))) (λ_ _=>True) ?_ ?_ n 0 () trivial (by have:=f.kx;omega) (xai _)
  .have bH:(J ((0:Nat):Int))=J 0:=rfl;rw[bH,xal]at aq;show Hy (s5 n) n m.d f.d=_;by_cases ab:f.op=1
   .have eS:(f.op==1)=true:=by simp[ab]
    simp only[Hy,go_sem,aC.agg,eS,xad ab,aC.a8,aC.bU,aC.b9,aC.cE,aC.dy,aC.er,aC.et,aC.fk,aC.eta,bf]
   have eS:(f.op==1)=false:=by simpa using ab
   simp only[Hy,go_sem,aC.agg,eS,xab ab,aC.a8,aC.bU,aC.b9,aC.cE,aC.dy,aC.er,aC.et,aC.fk,aC.eta,b5,aq];by_cases au:mX m f.aW=0;.rw[xad au,au,p8]
   rw[xab au,EW]
  .intro _ _;simp only[Hx,go_sem,b5,yF ((f.aW.length:Int)<f.aW.length),mX]
  intro i a _ aI ah _;have ig:=xac aI;have bx:=Fm.jH ig;have av:=adQ hm n a (by omega) (bn.gJ ig) (by omega);have cL:=yT ((i:Int)<(f.aW.length:Int));by_cases au:lZ m a=0
  .left;rw[au]at av;refine⟨(),?_,by simp only[mX,au,xaD],trivial⟩;have bx:((0:Int) !=0)=false:=rfl;simp only[Hx,go_sem,b5,cL,Fm.ha aI,aC.eta,av,bx,b2 (bt:=false) (i:=i) (by omega)]
  right;have bx:(lZ m a !=0)=true:=by simpa using au
  simp only[Hx,go_sem,b5,cL,Fm.ha aI,aC.eta,av,bx,mX,xab au]
section
variable{m:aC}{n:Nat}(hm:Dq m n)
include hm
theorem auA(i:Nat)(ah:i<m.aR.length):uF n [aQ m.aR,m.d,J (i:Int)]=some (J (lA m i)):=by have aj:=hm.hX;have AA:=hm.bq.dl;have Dm:=hm.bq.qt;obtain⟨d,aA⟩:∃d,m.aR[i]?=some d:=⟨m.aR[i],xaa ah⟩;have Im:=hm.tn d (xac aA);have b3:=T1 n d.name (by omega) Im.2;have hH:=at2 n m.vars d.name (by omega) (by omega);have cY:=at5 n (m.aR.take i) d.name (by simp;omega) (by simp;omega);have aH:=adO (l:=m.aR) (i:=i) (by omega);simp only[lA,aA];cases ab:isName d.name with|false=>simp only[uF,Gq,go_sem,aC.agg,fi aA,bb.fV,b3,ab]|true=>cases af:(fh m.vars d.name).isSome with|true=>simp only[uF,Gq,go_sem,aC.agg,aC.a8,fi aA,bb.fV,b3,ab,hH,af]|false=>cases aw:(dq (m.aR.take i) d.name).isSome with|true=>simp only[uF,Gq,go_sem,aC.agg,aC.a8,fi aA,bb.fV,b3,ab,hH,af,aH,cY,aw,Bool.or_false,xbM]|false=>simp only[uF,Gq,go_sem,aC.agg,aC.a8,fi aA,bb.fV,b3,ab,hH,af,aH,cY,aw,Bool.or_false,xbM]
theorem auB(i:Nat)(ah:i<m.aR.length):BU n [aQ m.aR,m.d,J (i:Int)]=some (J (lB m i)):=by have aj:=hm.hX;obtain⟨d,aA⟩:∃d,m.aR[i]?=some d:=⟨m.aR[i],xaa ah⟩;have h7:=hm.bq.d.e d (xac aA);have bf:=T9 hm.bq n (by omega) h7.1 h7.2 false;simp only[lB,aA];simp only[BU,Zv,go_sem,aC.agg,aC.a8,aC.bU,aC.b9,aC.cE,aC.dy,aC.er,aC.et,aC.fk,aC.eta,fi aA,bb.hk,bf,pG]
theorem auC(l:List Tm)(aq:∀t∈l,t.cq/\t.bq<=12300)(k:Int)(nx:Bool)(i:Nat)(ah:i<l.length):BT n [.agg [J k,az l,ay nx],m.d,J (i:Int)]=some (J (fb m l nx i)):=by have aj:=hm.hX;obtain⟨t,aM⟩:∃t,l[i]?=some t:=⟨l[i],xaa ah⟩;have Io:=aq t (xac aM);have bf:=adB hm.bq n (by omega) Io.1 Io.2 nx;have aI:a5 3 (.agg [J k,az l,ay nx])=true:=rfl;have bU:ad (.agg [J k,az l,ay nx]) 1=az l:=rfl;have b9:ad (.agg [J k,az l,ay nx]) 2=ay nx:=rfl;simp only[fb,aM];simp only[BT,Zu,go_sem,aI,bU,b9,aC.agg,aC.a8,aC.bU,aC.b9,aC.cE,aC.dy,aC.er,aC.et,aC.fk,aC.eta,nZ aM,bf]
theorem auD(i:Nat)(ah:i<m.next.length):wG n [aQ m.next,m.d,J (i:Int)]=some (J (jK m i)):=by
 have aj:=hm.hX;have wu:=hm.next.1
 have Dm:=hm.bq.qt;obtain⟨d,aA⟩:∃d,m.next[i]?=some d:=⟨m.next[i],xaa ah⟩
 have h7:=hm.next.2 d (xac aA)
 have bf:=T9 hm.bq n (by omega) h7.1 h7.2 false;have hH:=at7 n m.vars d.name (by omega) (by omega);have cY:=auc n (m.next.take i) d.name (by simp;omega) (by simp;omega);have aH:=adO (l:=m.next) (i:=i) (by omega);simp only[jK,aA];cases ab:fh m.vars d.name with
 |none=>have au:decide (gC none<0)=true:=rfl;simp only[wG,Lq,go_sem,aC.agg,aC.a8,fi aA,bb.fV,hH,ab,au]
 |some k=>
  have au:decide (gC (some k)<0)=false:=by rw[ado];rfl
  have p4:k<m.vars.length:=by have:=xbg.1 ab;exact this.1
  obtain⟨v,a6⟩:∃v,m.vars[k]?=some v:=⟨m.vars[k],xaa p4⟩;have lb:bo 4 (bl m.vars) (J (gC (some k)))=some v.cells:=h8 a6;have ym:a3 false 1 1 v.cells=some (ay v.bool):=rfl;simp only[a6,xaP,xbd];cases aw:(dq (m.next.take i) d.name).isSome with
  |true=>simp only[wG,Lq,go_sem,aC.agg,aC.a8,fi aA,bb.fV,hH,ab,au,aH,cY,aw]
  |false=>
   generalize gM m false d.e=y at*;have cP:ai true .neq (ay y.1.b) (ay v.bool)=some (ay (y.1.b !=v.bool)):=rfl;simp only[wG,Lq,go_sem,aC.agg,aC.a8,aC.bU,aC.b9,aC.cE,aC.dy,aC.er,aC.et,aC.fk,aC.eta,fi aA,bb.fV,bb.hk,hH,ab,au,aH,cY,aw,bf,pG,tl,lb,ym,cP];by_cases an:(y.2==0&&(y.1.b !=v.bool))=true
   .rw[xad an,xad an]
   rw[xab an,xab an]
theorem auE(i:Nat)(ah:i<m.bK.length):uY n [b1 m.bK,m.d,J (i:Int)]=some (J (jL m i)):=by
 have aj:=hm.hX;have gh:=hm.bK.1;obtain⟨s,aH⟩:∃s,m.bK[i]?=some s:=⟨m.bK[i],xaa ah⟩;obtain⟨⟨bd,KS⟩,auF,Ud⟩:=hm.bK.2 s (xac aH);have b3:=T1 n s.name (by omega) Ud;have cY:=auh n (m.bK.take i) s.name (by simp;omega) (by simp;omega);have oI:=auz (l:=m.bK) (i:=i) (by omega);have cf:=TM n s.f (by omega) bd (by omega);have gP:=adP hm.bq n s.f (by omega) bd KS;simp only[jL,aH];cases ab:isName s.name with
 |false=>simp only[uY,HL,go_sem,aC.agg,lY aH,cA.fV,b3,ab]
 |true=>
  cases aw:(n0 (m.bK.take i) s.name).isSome with
  |true=>simp only[uY,HL,go_sem,aC.agg,lY aH,cA.fV,b3,ab,oI,cY,aw]
  |false=>
   by_cases a4:ly s.f=0
   .have p5:(ly s.f !=0)=false:=by simp[a4]
    simp only[uY,HL,go_sem,aC.agg,aC.a8,aC.bU,aC.b9,aC.cE,aC.dy,aC.er,aC.et,aC.fk,aC.eta,lY aH,cA.fV,cA.hk,b3,ab,oI,cY,aw,cf,p5,xad a4,gP]
   have p5:(ly s.f !=0)=true:=by simpa using a4
   simp only[uY,HL,go_sem,aC.agg,aC.a8,aC.bU,aC.b9,aC.cE,aC.dy,aC.er,aC.et,aC.fk,aC.eta,lY aH,cA.fV,cA.hk,b3,ab,oI,cY,aw,cf,p5,xab a4]
end
def fY(p:Int×Int):D:= .a1 [J p.1,J p.2]
def ve(a b:Int×Int):Int×Int:=if a.2=0 then b else a
def findIdx_take{α:Type}{l:List α}{p:α->Bool}{i:Nat}{d:α}(aA:l[i]?=some d)(aT:p d=true):decide (gC (l.findIdx? p)<(i:Int))=((l.take i).findIdx? p).isSome:=by
 obtain⟨ah,auG⟩:=xae.1 aA;cases h:l.findIdx? p with
 |none=>have:=List.findIdx?_eq_none_iff.1 h d (xac aA);rw[aT]at this;cases this
 |some k=>
  obtain⟨ak,auH,AG⟩:=xbg.1 h;rw[List.findIdx?_isSome];have qQ:k<=i:=by
   rcases Nat.lt_or_ge i k with ab|ab;.have:=AG i ab;rw[auG]at this;exact absurd aT this
   exact ab
  by_cases he:k<i;.have ab:decide (gC (some k)<(i:Int))=true:=xaw (by show(k:Int)<(i:Int);omega);rw[ab];symm;rw[xbr];refine⟨l[k],xaT.2 ⟨k,?_⟩,auH⟩;rw[List.getElem?_take_of_lt he];exact xaa ak
  have ab:decide (gC (some k)<(i:Int))=false:=xaF (by show¬(k:Int)<(i:Int);omega);rw[ab];symm;rw[Bool.eq_false_iff,ne_eq,xbr];rintro⟨a,aI,Ue⟩;obtain⟨j,aN⟩:=xaT.1 aI;have cL:=(xae.1 aN).1;simp only[xbG]at cL;rw[List.getElem?_take_of_lt (by omega)]at aN;obtain⟨adR,Ip⟩:=xae.1 aN;have:=AG j (by omega);rw[Ip]at this;exact this Ue
noncomputable def rQ(m:aC):Int×Int:=ve (cG (lA m) m.aR.length 0) (ve (cG (l0 m) m.aR.length 0) (cG (lB m) m.aR.length 0))
section
variable{m:aC}{n:Nat}(hm:Dq m n)
include hm
theorem auI:bp (zy n) n [J 0,bl m.vars,aQ m.aR,az m.bQ,az m.bR,aQ m.next,az m.trans,az m.bS,b1 m.bK]=some (if(cG (lA m) m.aR.length 0).2=0 then .inl [bl m.vars,aQ m.aR,az m.bQ,az m.bR,aQ m.next,az m.trans,az m.bS,b1 m.bK]else .inr (fY (cG (lA m) m.aR.length 0))):=by
 have aj:=hm.hX;have AA:=hm.bq.dl;have Dm:=hm.bq.qt;refine n1 (λi=>[J (i:Int),bl m.vars,aQ m.aR,az m.bQ,az m.bR,aQ m.next,az m.trans,az m.bS,b1 m.bK]) (lA m) m.aR.length _ fY ?_ ?_ _ 0 n (by omega) (by omega)
 .intro i ah;obtain⟨d,aA⟩:∃d,m.aR[i]?=some d:=⟨m.aR[i],xaa ah⟩;have Im:=hm.tn d (xac aA);have b3:=T2 n d.name (by omega) Im.2;have hH:=adL n m d.name (by omega) (by omega);have cY:=adK n m d.name (by omega) (by omega);have cj:=yT ((i:Int)<(m.aR.length:Int));have Iq:=findIdx_take (p:=λe:bb=>decide (e.name=d.name)) aA (by simp);change decide (gC (dq m.aR d.name)<(i:Int))=(dq (m.aR.take i) d.name).isSome at Iq;simp only[lA,aA];cases ab:isName d.name with
  |false=>simp only[zy,go_sem,dZ,cj,fi aA,bb.fV,b3,ab,xab (show¬(12:Int)=0 by decide),fY]
  |true=>
   cases af:(fh m.vars d.name).isSome with
   |true=>have jz:=Dj (fh m.vars d.name);rw[af]at jz;simp only[zy,go_sem,dZ,cj,fi aA,bb.fV,b3,ab,aC.eta,hH,jz,ef,xab (show¬(true=false) by decide),dY,xab (show¬(6:Int)=0 by decide),fY]
   |false=>
    have jz:=Dj (fh m.vars d.name);rw[af]at jz;cases aw:(dq (m.aR.take i) d.name).isSome with
    |true=>rw[aw]at Iq;simp only[zy,go_sem,dZ,cj,fi aA,bb.fV,b3,ab,aC.eta,hH,jz,ef,cY,Iq,dY,xab (show¬(6:Int)=0 by decide),fY,Bool.or_true]
    |false=>rw[aw]at Iq;simp only[zy,go_sem,dZ,cj,fi aA,bb.fV,b3,ab,aC.eta,hH,jz,ef,cY,Iq,dY,Bool.or_false,b2 (bt:=false) (i:=i) (by omega)]
 simp only[zy,go_sem,dZ,yF ((m.aR.length:Int)<m.aR.length)]
theorem auJ:bp (Hs n) n [J 0,bl m.vars,aQ m.aR,az m.bQ,az m.bR,aQ m.next,az m.trans,az m.bS,b1 m.bK]=some (if(cG (l0 m) m.aR.length 0).2=0 then .inl [bl m.vars,aQ m.aR,az m.bQ,az m.bR,aQ m.next,az m.trans,az m.bS,b1 m.bK]else .inr (fY (cG (l0 m) m.aR.length 0))):=by
 have aj:=hm.hX;have AA:=hm.bq.dl;refine n1 (λi=>[J (i:Int),bl m.vars,aQ m.aR,az m.bQ,az m.bR,aQ m.next,az m.trans,az m.bS,b1 m.bK]) (l0 m) m.aR.length _ fY ?_ ?_ _ 0 n (by omega) (by omega)
 .intro i ah;obtain⟨S,ec,adS⟩:=auy n m hm.bq.d i ah (by omega);have cj:=yT ((i:Int)<(m.aR.length:Int));have ag:bo 1 (ki m.aR.length S) (J (i:Int))=some [ay (decide (i∈S))]:=by
   rw[ki,Yq,Ib ah]
  cases ab:jq m.aR i with
  |true=>have af:=xaw (adS.2 ab);simp only[Hs,go_sem,dZ,cj,aC.eta,ec,ag,z4,af,l0,ab,xab (show¬(14:Int)=0 by decide),fY]
  |false=>have af:=xaF (show¬i∈S fromλh=>by rw[adS.1 h]at ab;cases ab);simp only[Hs,go_sem,dZ,cj,aC.eta,ec,ag,z4,af,l0,ab,b2 (bt:=false) (i:=i) (by omega)]
 simp only[Hs,go_sem,dZ,yF ((m.aR.length:Int)<m.aR.length)]
theorem auK:bp (Ht n) n [J 0,bl m.vars,aQ m.aR,az m.bQ,az m.bR,aQ m.next,az m.trans,az m.bS,b1 m.bK]=some (if(cG (lB m) m.aR.length 0).2=0 then .inl []else .inr (fY (cG (lB m) m.aR.length 0))):=by
 have aj:=hm.hX;have AA:=hm.bq.dl;refine n1 (λi=>[J (i:Int),bl m.vars,aQ m.aR,az m.bQ,az m.bR,aQ m.next,az m.trans,az m.bS,b1 m.bK]) (lB m) m.aR.length _ fY ?_ ?_ _ 0 n (by omega) (by omega)
 .intro i ah;obtain⟨d,aA⟩:∃d,m.aR[i]?=some d:=⟨m.aR[i],xaa ah⟩;have h7:=hm.bq.d.e d (xac aA);have bf:=Ua hm.bq n (by omega) h7.1 h7.2 false;have cj:=yT ((i:Int)<(m.aR.length:Int));simp only[lB,aA];by_cases ab:(gM m false d.e).2=0
  .have eS:((gM m false d.e).2 !=0)=false:=by simp[ab]
   simp only[Ht,go_sem,dZ,cj,aC.eta,fi aA,bb.hk,bf,pG,eS,xad ab,b2 (bt:=false) (i:=i) (by omega)]
  have eS:((gM m false d.e).2 !=0)=true:=by simpa using ab
  simp only[Ht,go_sem,dZ,cj,aC.eta,fi aA,bb.hk,bf,pG,eS,xab ab,fY]
 simp only[Ht,go_sem,dZ,yF ((m.aR.length:Int)<m.aR.length)]
theorem auL:wR n [m.d]=some (fY (rQ m)):=by
 have af:=auI hm;have jE:=auJ hm;have M8:=auK hm;have bx:∀e k,(cG e k 0).2=0->cG e k 0=(0,0):=λe k=>rP e k 0;unfold rQ ve;by_cases bU:(cG (lA m) m.aR.length 0).2=0
 case neg=>rw[xab bU]at af⊢;simp only[wR,Hu,go_sem,aC.agg,aC.a8,aC.bU,aC.b9,aC.cE,aC.dy,aC.er,aC.et,aC.fk,af]
 rw[xad bU]at af⊢;by_cases b9:(cG (l0 m) m.aR.length 0).2=0
 case neg=>rw[xab b9]at jE⊢;simp only[wR,Hu,go_sem,aC.agg,aC.a8,aC.bU,aC.b9,aC.cE,aC.dy,aC.er,aC.et,aC.fk,af,jE]
 rw[xad b9]at jE⊢;by_cases cE:(cG (lB m) m.aR.length 0).2=0;.rw[xad cE]at M8;rw[bx _ _ cE];simp only[wR,Hu,go_sem,aC.agg,aC.a8,aC.bU,aC.b9,aC.cE,aC.dy,aC.er,aC.et,aC.fk,af,jE,M8,fY]
 rw[xab cE]at M8;simp only[wR,Hu,go_sem,aC.agg,aC.a8,aC.bU,aC.b9,aC.cE,aC.dy,aC.er,aC.et,aC.fk,af,jE,M8]
theorem M9(l:List Tm)(aq:l.length<=100/\∀t∈l,t.cq/\t.bq<=12300)(nx:Bool):uV n [m.d,az l,ay nx]=some (fY (cG (fb m l nx) l.length 0)):=by
 have aj:=hm.hX;have ah:=n1 (f:=Hv n) (λi=>[az l,ay nx,J (i:Int),bl m.vars,aQ m.aR,az m.bQ,az m.bR,aQ m.next,az m.trans,az m.bS,b1 m.bK]) (fb m l nx) l.length [] fY ?_ ?_ l.length 0 n (by omega) (by omega)
 .have bH:(J ((0:Nat):Int))=J 0:=rfl;rw[bH]at ah;by_cases c:(cG (fb m l nx) l.length 0).2=0;.rw[xad c]at ah;rw[rP _ _ _ c];simp only[uV,SG,go_sem,aC.agg,aC.a8,aC.bU,aC.b9,aC.cE,aC.dy,aC.er,aC.et,aC.fk,ah,fY]
  rw[xab c]at ah;simp only[uV,SG,go_sem,aC.agg,aC.a8,aC.bU,aC.b9,aC.cE,aC.dy,aC.er,aC.et,aC.fk,ah]
 .intro i ah;obtain⟨t,aM⟩:∃t,l[i]?=some t:=⟨l[i],xaa ah⟩;have Io:=aq.2 t (xac aM);have bf:=adC hm.bq n (by omega) Io.1 Io.2 nx;have cj:=yT ((i:Int)<(l.length:Int));simp only[fb,aM];by_cases ab:pF m nx t=0
  .have eS:(pF m nx t !=0)=false:=by simp[ab]
   simp only[Hv,go_sem,hp,cj,aC.eta,nZ aM,bf,eS,xad ab,b2 (bt:=false) (i:=i) (by have:=aq.1;omega)]
  have eS:(pF m nx t !=0)=true:=by simpa using ab
  simp only[Hv,go_sem,hp,cj,aC.eta,nZ aM,bf,eS,xab ab,fY]
 simp only[Hv,go_sem,hp,yF ((l.length:Int)<l.length)]
theorem auM(i:Nat)(k:Int){d:bb}(aA:m.next[i]?=some d):bp (CB n) n [J (i:Int),J k,J 0,bl m.vars,aQ m.aR,az m.bQ,az m.bR,aQ m.next,az m.trans,az m.bS,b1 m.bK]=some (if(dq (m.next.take i) d.name).isSome=true then .inr (.inr (.inr (.inr (.a1 [J (i:Int),J 6]))))else .inl [J (i:Int),J k,bl m.vars,aQ m.aR,az m.bQ,az m.bR,aQ m.next,az m.trans,az m.bS,b1 m.bK]):=by
 have aj:=hm.hX;have wu:=hm.next.1
 have cj:=(xae.1 aA).1;have cr:(m.next.take i).length=i:=by simp;omega
 have ah:=dF (f:=CB n) (m.next.take i) (λj (_:Unit)=>[J (i:Int),J k,J (j:Int),bl m.vars,aQ m.aR,az m.bQ,az m.bR,aQ m.next,az m.trans,az m.bS,b1 m.bK]) (λr _=>(if(dq r d.name).isSome=true then .inr (.inr (.inr (.inr (.a1 [J (i:Int),J 6]))))else .inl [J (i:Int),J k,bl m.vars,aQ m.aR,az m.bQ,az m.bR,aQ m.next,az m.trans,az m.bS,b1 m.bK]:List D⊕(List D⊕(List D⊕(List D⊕D))))) (λ_ _=>True) (λ_ _=>by rw[cr];simp only[CB,go_sem,yF ((i:Int)<i)];rfl) ?_ n 0 () trivial (by omega) (xai _);.exact ah
 intro j a _ aI aN _;rw[cr]at aN;rw[List.getElem?_take_of_lt aN]at aI;have cL:=yT ((j:Int)<(i:Int));have an:dq (a::(m.next.take i).drop (j+1)) d.name=if decide (a.name=d.name)=true then some 0 else(dq ((m.next.take i).drop (j+1)) d.name).map (·+1):=findIdx_cons _ a _
 rw[an];by_cases h:a.name=d.name;.right;rw[xad (xaw h)];simp only[CB,go_sem,cL,fi aI,fi aA,bb.fV,xaw h,Option.isSome_some]
 left;refine⟨(),?_,?_,trivial⟩;.simp only[CB,go_sem,cL,fi aI,fi aA,bb.fV,xaF h,b2 (bt:=false) (i:=j) (by omega)]
 have bz:¬(decide (a.name=d.name)=true):=by simpa using h
 rw[xab bz,Option.isSome_map]
theorem auN(i:Nat){d:cA}(aA:m.bK[i]?=some d):bp (CF n) n [J (i:Int),J 0,bl m.vars,aQ m.aR,az m.bQ,az m.bR,aQ m.next,az m.trans,az m.bS,b1 m.bK]=some (if(n0 (m.bK.take i) d.name).isSome=true then .inr (.inr (.inr (.inr (.a1 [J (i:Int),J 6]))))else .inl [J (i:Int),bl m.vars,aQ m.aR,az m.bQ,az m.bR,aQ m.next,az m.trans,az m.bS,b1 m.bK]):=by
 have aj:=hm.hX;have wu:=hm.bK.1;have cj:=(xae.1 aA).1;have cr:(m.bK.take i).length=i:=by simp;omega
 have ah:=dF (f:=CF n) (m.bK.take i) (λj (_:Unit)=>[J (i:Int),J (j:Int),bl m.vars,aQ m.aR,az m.bQ,az m.bR,aQ m.next,az m.trans,az m.bS,b1 m.bK]) (λr _=>(if(n0 r d.name).isSome=true then .inr (.inr (.inr (.inr (.a1 [J (i:Int),J 6]))))else .inl [J (i:Int),bl m.vars,aQ m.aR,az m.bQ,az m.bR,aQ m.next,az m.trans,az m.bS,b1 m.bK]:List D⊕(List D⊕(List D⊕(List D⊕D))))) (λ_ _=>True) (λ_ _=>by rw[cr];simp only[CF,go_sem,yF ((i:Int)<i)];rfl) ?_ n 0 () trivial (by omega) (xai _);.exact ah
 intro j a _ aI aN _;rw[cr]at aN;rw[List.getElem?_take_of_lt aN]at aI;have cL:=yT ((j:Int)<(i:Int));have an:n0 (a::(m.bK.take i).drop (j+1)) d.name=if decide (a.name=d.name)=true then some 0 else(n0 ((m.bK.take i).drop (j+1)) d.name).map (·+1):=findIdx_cons _ a _
 rw[an];by_cases h:a.name=d.name;.right;rw[xad (xaw h)];simp only[CF,go_sem,cL,lY aI,lY aA,cA.fV,xaw h,Option.isSome_some]
 left;refine⟨(),?_,?_,trivial⟩;.simp only[CF,go_sem,cL,lY aI,lY aA,cA.fV,xaF h,b2 (bt:=false) (i:=j) (by omega)]
 have bz:¬(decide (a.name=d.name)=true):=by simpa using h
 rw[xab bz,Option.isSome_map]
theorem auO:CC n [m.d]=some (fY (cG (jK m) m.next.length 0)):=by
 have aj:=hm.hX;have wu:=hm.next.1
 have Dm:=hm.bq.qt;have ah:=n1 (f:=wT n) (λi=>[J (i:Int),bl m.vars,aQ m.aR,az m.bQ,az m.bR,aQ m.next,az m.trans,az m.bS,b1 m.bK]) (jK m) m.next.length [] fY ?_ ?_ m.next.length 0 n (by omega) (by omega)
 .have bH:(J ((0:Nat):Int))=J 0:=rfl;rw[bH]at ah;by_cases c:(cG (jK m) m.next.length 0).2=0;.rw[xad c]at ah;rw[rP _ _ _ c];simp only[CC,SI,go_sem,aC.agg,aC.a8,aC.bU,aC.b9,aC.cE,aC.dy,aC.er,aC.et,aC.fk,ah,fY]
  rw[xab c]at ah;simp only[CC,SI,go_sem,aC.agg,aC.a8,aC.bU,aC.b9,aC.cE,aC.dy,aC.er,aC.et,aC.fk,ah]
 .intro i ah;obtain⟨d,aA⟩:∃d,m.next[i]?=some d:=⟨m.next[i],xaa ah⟩
  have h7:=hm.next.2 d (xac aA)
  have bf:=Ua hm.bq n (by omega) h7.1 h7.2 false;have hH:=adL n m d.name (by omega) (by omega);have cj:=yT ((i:Int)<(m.next.length:Int));simp only[jK,aA];cases ab:fh m.vars d.name with
  |none=>rw[ab]at hH;have au:decide (gC none<0)=true:=rfl;simp only[wT,go_sem,dZ,cj,aC.eta,fi aA,bb.fV,hH,au,xab (show¬(12:Int)=0 by decide),fY]
  |some k=>
   rw[ab]at hH;have hT:=auM hm i (gC (some k)) aA;have au:decide (gC (some k)<0)=false:=by rw[ado];rfl
   have p4:k<m.vars.length:=by have:=xbg.1 ab;exact this.1
   obtain⟨v,a6⟩:∃v,m.vars[k]?=some v:=⟨m.vars[k],xaa p4⟩;have lb:bo 4 (bl m.vars) (J (gC (some k)))=some v.cells:=h8 a6;have ym:a3 false 1 1 v.cells=some (ay v.bool):=rfl;simp only[a6,xaP,xbd];cases aw:(dq (m.next.take i) d.name).isSome with
   |true=>rw[aw,xad rfl]at hT;simp only[wT,go_sem,dZ,cj,aC.eta,fi aA,bb.fV,hH,au,hT,xab (show¬(6:Int)=0 by decide),fY]
   |false=>
    rw[aw,xab (by decide)]at hT;generalize gM m false d.e=y at*;have cP:ai true .neq (ay y.1.b) (ay v.bool)=some (ay (y.1.b !=v.bool)):=rfl;have pI:((13:Int) !=0)=true:=rfl;by_cases an:(y.2==0&&(y.1.b !=v.bool))=true
    .simp only[wT,go_sem,dZ,cj,aC.eta,fi aA,bb.fV,bb.hk,hH,au,hT,bf,pG,tl,lb,ym,cP,an,pI,xab (show¬(13:Int)=0 by decide),fY]
    have dT:(y.2==0&&(y.1.b !=v.bool))=false:=by simpa using an
    by_cases aP:y.2=0
    .have tJ:(y.2 !=0)=false:=by simp[aP]
     simp only[wT,go_sem,dZ,cj,aC.eta,fi aA,bb.fV,bb.hk,hH,au,hT,bf,pG,tl,lb,ym,cP,dT,tJ,xad aP,b2 (bt:=false) (i:=i) (by omega)]
    have tJ:(y.2 !=0)=true:=by simpa using aP
    simp only[wT,go_sem,dZ,cj,aC.eta,fi aA,bb.fV,bb.hk,hH,au,hT,bf,pG,tl,lb,ym,cP,dT,tJ,xab aP,fY]
 simp only[wT,go_sem,dZ,yF ((m.next.length:Int)<m.next.length)]
theorem auP:CG n [m.d]=some (fY (cG (jL m) m.bK.length 0)):=by
 have aj:=hm.hX;have gh:=hm.bK.1;have ah:=n1 (f:=wU n) (λi=>[J (i:Int),bl m.vars,aQ m.aR,az m.bQ,az m.bR,aQ m.next,az m.trans,az m.bS,b1 m.bK]) (jL m) m.bK.length [] fY ?_ ?_ m.bK.length 0 n (by omega) (by omega)
 .have bH:(J ((0:Nat):Int))=J 0:=rfl;rw[bH]at ah;by_cases c:(cG (jL m) m.bK.length 0).2=0;.rw[xad c]at ah;rw[rP _ _ _ c];simp only[CG,SL,go_sem,aC.agg,aC.a8,aC.bU,aC.b9,aC.cE,aC.dy,aC.er,aC.et,aC.fk,ah,fY]
  rw[xab c]at ah;simp only[CG,SL,go_sem,aC.agg,aC.a8,aC.bU,aC.b9,aC.cE,aC.dy,aC.er,aC.et,aC.fk,ah]
 .intro i ah;obtain⟨s,aH⟩:∃s,m.bK[i]?=some s:=⟨m.bK[i],xaa ah⟩;obtain⟨⟨bd,KS⟩,auF,Ud⟩:=hm.bK.2 s (xac aH);have b3:=T2 n s.name (by omega) Ud;have gp:=auN hm i aH;have cf:=TL n s.f (by omega) bd (by omega);have gP:=adQ hm.bq n s.f (by omega) bd KS;have cj:=yT ((i:Int)<(m.bK.length:Int));simp only[jL,aH];cases ab:isName s.name with
  |false=>simp only[wU,go_sem,iC,cj,lY aH,cA.fV,b3,ab,xab (show¬(12:Int)=0 by decide),fY]
  |true=>
   cases aw:(n0 (m.bK.take i) s.name).isSome with
   |true=>rw[aw,xad rfl]at gp;simp only[wU,go_sem,iC,cj,lY aH,cA.fV,b3,ab,gp,xab (show¬(6:Int)=0 by decide),fY]
   |false=>
    rw[aw,xab (by decide)]at gp;by_cases a4:ly s.f=0
    .have p5:(ly s.f==0)=true:=by simp[a4]
     by_cases b7:lZ m s.f=0
     .have yb:(lZ m s.f !=0)=false:=by simp[b7]
      simp only[wU,go_sem,iC,cj,aC.eta,lY aH,cA.fV,cA.hk,b3,ab,gp,cf,p5,xad a4,gP,yb,xad b7,b2 (bt:=false) (i:=i) (by omega)]
     have yb:(lZ m s.f !=0)=true:=by simpa using b7
     simp only[wU,go_sem,iC,cj,aC.eta,lY aH,cA.fV,cA.hk,b3,ab,gp,cf,p5,xad a4,gP,yb,xab b7,fY]
    have p5:(ly s.f==0)=false:=by simpa using a4
    have auQ:(ly s.f !=0)=true:=by simpa using a4
    simp only[wU,go_sem,iC,cj,aC.eta,lY aH,cA.fV,cA.hk,b3,ab,gp,cf,p5,auQ,xab a4,fY]
 simp only[wU,go_sem,iC,yF ((m.bK.length:Int)<m.bK.length)]
end
def mz:List V->Nat
 |[]=>0|v::r=>bitsOf v.span+mz r
theorem V.oP(v:V):D.agg [ad v.d 0,ad v.d 1,ad v.d 2,ad v.d 3]=v.d:=rfl
def auR(n:Nat)(m:aC)(a6:z2 m.vars)(aq:m.vars.length<=100)(aL:200<n):Fx n [m.d]=some (J (mz m.vars:Nat)):=by
 have ah:=dF (f:=K9 n) m.vars (λi (s:Nat)=>[J (s:Int),bl m.vars,J m.vars.length,J (i:Int)]) (λr s=>(.inl [J ((s+mz r:Nat):Int)]:List D⊕D)) (λi s=>s<=62*i) ?_ ?_ n 0 0 (by simp) (by omega) (xai _);.have bH:(J ((0:Nat):Int))=J 0:=rfl;rw[bH,xal,xav]at ah;simp only[Fx,Za,go_sem,aC.agg,aC.a8,fS,ah]
 .intro s aH;simp only[K9,go_sem,yF ((m.vars.length:Int)<m.vars.length),mz,xbj]
 intro i v s Ir ah aH;obtain⟨ab,af,_⟩:=a6.2 v (xac Ir);have ln:=atS n v ab af;have aj:=atV n v.span (V.H9 v).2 (by omega);have tN:=(Di (V.H9 v).2).1;have cj:=yT ((i:Int)<(m.vars.length:Int));have g1:ai false .add (J (s:Int)) (J (bitsOf v.span:Nat))=some (J ((s+bitsOf v.span:Nat):Int)):=by rw[gj (by omega) (by omega)];rfl
 left;refine⟨s+bitsOf v.span,?_,by rw[mz,xbe],by omega⟩;simp only[K9,go_sem,cj,h8 Ir,V.cJ,V.cV,V.oP,ln,aj,g1,b2 (bt:=false) (i:=i) (by omega)]
def auS(n:Nat)(m:aC)(a6:z2 m.vars)(aq:m.vars.length<=100)(aL:200<n):G4 n [m.d]=some (J (mz m.vars:Nat)):=by
 have ah:=dF (f:=L7 n) m.vars (λi (s:Nat)=>[J (s:Int),J (i:Int),bl m.vars,aQ m.aR,az m.bQ,az m.bR,aQ m.next,az m.trans,az m.bS,b1 m.bK]) (λr s=>(.inl [J ((s+mz r:Nat):Int)]:List D⊕D)) (λi s=>s<=62*i) ?_ ?_ n 0 0 (by simp) (by omega) (xai _);.have bH:(J ((0:Nat):Int))=J 0:=rfl;rw[bH,xal,xav]at ah;simp only[G4,Z6,go_sem,aC.agg,aC.a8,aC.bU,aC.b9,aC.cE,aC.dy,aC.er,aC.et,aC.fk,ah]
 .intro s aH;simp only[L7,go_sem,fS,yF ((m.vars.length:Int)<m.vars.length),mz,xbj]
 intro i v s Ir ah aH;obtain⟨ab,af,_⟩:=a6.2 v (xac Ir);have ln:=adl n v ab af;have aj:=atW n v.span (by have:=(V.H9 v).1;omega) (V.H9 v).2 (by omega);have tN:=(Di (V.H9 v).2).1;have cj:=yT ((i:Int)<(m.vars.length:Int));have g1:ai false .add (J (s:Int)) (J (bitsOf v.span:Nat))=some (J ((s+bitsOf v.span:Nat):Int)):=by rw[gj (by omega) (by omega)];rfl
 left;refine⟨s+bitsOf v.span,?_,by rw[mz,xbe],by omega⟩;simp only[L7,go_sem,fS,cj,h8 Ir,V.cJ,ln,aj,g1,b2 (bt:=false) (i:=i) (by omega)]
def h9:List (Int×(Int×Int))->Int×(Int×Int)
 |[]=>(0,(0,0))|a::r=>if a.2.2=0 then h9 r else a
def adT{ee:Type}{f:List D->Option (List D⊕(List D⊕ee))}(L:List (Int×(Int×Int)))(eO:Nat->List D)(E:List D)(W:Int×(Int×Int)->ee) (aH:∀i a,L[i]?=some a->f (eO i)=some (if a.2.2=0 then .inl (eO (i+1))else .inr (.inr (W a)))) (he:f (eO L.length)=some (.inr (.inl E))) (n:Nat) (aL:L.length<n):bp f n (eO 0)=some (if(h9 L).2.2=0 then .inl E else .inr (W (h9 L))):=by
 have h:=dF (f:=f) L (λi (_:Unit)=>eO i) (λr _=>(if(h9 r).2.2=0 then .inl E else .inr (W (h9 r)):List D⊕ee)) (λ_ _=>True) (λ_ _=>by rw[he];rfl) ?_ n 0 () trivial (by omega) (xai _);.exact h
 intro i a _ aI ah _;have ab:=aH i a aI;by_cases au:a.2.2=0
 .left;rw[xad au]at ab;exact⟨(),ab,by rw[h9,xad au],trivial⟩
 right;rw[xab au]at ab;rw[ab,h9,xab au,xab au]
def n2(m:aC):List Nat:=[m.vars.length,m.aR.length,m.bQ.length,m.bR.length,m.next.length,m.trans.length,m.bS.length,m.bK.length]
def mA(m:aC)(i:Nat):Int:=if 64<(n2 m)[i]?.getD 0 then 18 else 0
noncomputable def rR(m:aC):List (Int×(Int×Int)):=[(2,cG (lA m) m.aR.length 0),(2,cG (l0 m) m.aR.length 0),(2,cG (lB m) m.aR.length 0),(3,cG (fb m m.bQ false) m.bQ.length 0),(4,cG (fb m m.bR false) m.bR.length 0),(5,cG (jK m) m.next.length 0),(6,cG (fb m m.trans true) m.trans.length 0),(7,cG (fb m m.bS false) m.bS.length 0),(8,cG (jL m) m.bK.length 0)]
noncomputable def Uf(m:aC):List (Int×(Int×Int)):=[(2,rQ m),(3,cG (fb m m.bQ false) m.bQ.length 0),(4,cG (fb m m.bR false) m.bR.length 0),(5,cG (jK m) m.next.length 0),(6,cG (fb m m.trans true) m.trans.length 0),(7,cG (fb m m.bS false) m.bS.length 0),(8,cG (jL m) m.bK.length 0)]
def adU{a b:Int×Int}:(ve a b).2=0↔a.2=0/\b.2=0:=by unfold ve;by_cases h:a.2=0<;>simp[h]
def adV(k:Int)(a b:Int×Int)(r:List (Int×(Int×Int))):h9 ((k,ve a b)::r)=h9 ((k,a)::(k,b)::r):=by simp only[h9];unfold ve;by_cases h:a.2=0<;>simp[h]
def auT(a:Int×(Int×Int)){r r9:List (Int×(Int×Int))}(h:h9 r=h9 r9):h9 (a::r)=h9 (a::r9):=by rw[h9,h9,h]
def auU(m:aC):h9 (Uf m)=h9 (rR m):=by unfold Uf rQ;rw[adV];exact auT _ (adV _ _ _ _)
noncomputable def kH(m:aC):Int×(Int×Int):=if(cG (mA m) 8 0).2=0 then
  if(j9 m.vars).2=0 then
   if 30<mz m.vars then(1,(0,18))else h9 (rR m)
  else(1,j9 m.vars)
 else((cG (mA m) 8 0).1+1,(64,18))
def eH(q:Int×(Int×Int)):D:= .a1 [.agg [J q.1,J q.2.1],J q.2.2]
def auV{l:List V}(h:(j9 l).2=0):j9 l=(0,0):=by unfold j9 at h⊢;cases bd:(List.range l.length).find? (λi=>jj l i !=0)with|none=>rw[bd]at h|some i=>rw[bd]at h;have:=List.find?_some bd;simp only at h;rw[h]at this;cases this
def adW(L:List (Int×(Int×Int)))(h:(h9 L).2.2=0):h9 L=(0,(0,0)):=by
 induction L with
 |nil=>rfl
 |cons a r ih=>
  rw[h9]at h⊢;by_cases au:a.2.2=0;.rw[xad au]at h⊢;exact ih h
  rw[xab au]at h;exact absurd h au
theorem iu{t:Nat}{x:D}:Bh (.dW t x)=some (t,x):=rfl
def Is(m:aC):D:= .agg ((n2 m).map λ(k:Nat)=>J (k:Int))
def gD(m:aC):D:= .agg [.dW 114 (aQ m.aR),.dW 115 (aQ m.aR),.dW 116 (aQ m.aR),.dW 118 (.agg [J 3,az m.bQ,ay false]),.dW 118 (.agg [J 4,az m.bR,ay false]),.dW 119 (aQ m.next),.dW 118 (.agg [J 6,az m.trans,ay true]),.dW 118 (.agg [J 7,az m.bS,ay false]),.dW 120 (b1 m.bK)]
theorem Na{ee:Type}{a b:Option ee}:gq 114 114 a b=a:=rfl
theorem Nb{ee:Type}{a b:Option ee}:gq 115 114 a b=b:=rfl
theorem Nc{ee:Type}{a b:Option ee}:gq 115 115 a b=a:=rfl
theorem Nd{ee:Type}{a b:Option ee}:gq 116 114 a b=b:=rfl
theorem Nf{ee:Type}{a b:Option ee}:gq 116 115 a b=b:=rfl
theorem Ng{ee:Type}{a b:Option ee}:gq 116 116 a b=a:=rfl
theorem tp{ee:Type}{a b:Option ee}:gq 118 114 a b=b:=rfl
theorem tq{ee:Type}{a b:Option ee}:gq 118 115 a b=b:=rfl
theorem tu{ee:Type}{a b:Option ee}:gq 118 116 a b=b:=rfl
theorem tw{ee:Type}{a b:Option ee}:gq 118 118 a b=a:=rfl
theorem Nh{ee:Type}{a b:Option ee}:gq 119 114 a b=b:=rfl
theorem Ni{ee:Type}{a b:Option ee}:gq 119 115 a b=b:=rfl
theorem Nj{ee:Type}{a b:Option ee}:gq 119 116 a b=b:=rfl
theorem Nk{ee:Type}{a b:Option ee}:gq 119 118 a b=b:=rfl
theorem Nl{ee:Type}{a b:Option ee}:gq 119 119 a b=a:=rfl
theorem Nm{ee:Type}{a b:Option ee}:gq 120 114 a b=b:=rfl
theorem Nn{ee:Type}{a b:Option ee}:gq 120 115 a b=b:=rfl
theorem No{ee:Type}{a b:Option ee}:gq 120 116 a b=b:=rfl
theorem Np{ee:Type}{a b:Option ee}:gq 120 118 a b=b:=rfl
theorem Nq{ee:Type}{a b:Option ee}:gq 120 119 a b=b:=rfl
theorem Nr{ee:Type}{a b:Option ee}:gq 120 120 a b=a:=rfl
section
variable{m:aC}{n:Nat}(hm:Dq m n)
include hm
theorem auW:bp (CZ n) n [Is m,J 0,bl m.vars,aQ m.aR,az m.bQ,az m.bR,aQ m.next,az m.trans,az m.bS,b1 m.bK,J 0,J 0]=some (if(cG (mA m) 8 0).2=0 then .inl [bl m.vars,aQ m.aR,az m.bQ,az m.bR,aQ m.next,az m.trans,az m.bS,b1 m.bK,J 0,J 0]else .inr (eH ((cG (mA m) 8 0).1+1,(64,18)))):=by
 have aj:=hm.hX;refine n1 (f:=CZ n) (λi=>[Is m,J (i:Int),bl m.vars,aQ m.aR,az m.bQ,az m.bR,aQ m.next,az m.trans,az m.bS,b1 m.bK,J 0,J 0]) (mA m) 8 _ (λp=>eH (p.1+1,(64,18))) ?_ ?_ 8 0 n (by omega) (by omega)
 .intro i ah;obtain⟨k,ak⟩:∃k,(n2 m)[i]?=some k:=⟨_,xaa ah⟩;have cj:=yT ((i:Int)<8);have fQ:cd 8 (J (i:Int))=some i:=by rw[ox,xad ah]
  have bd:lI false 1 (i*1) (Is m)=some (J (k:Int)):=by unfold Is;rw[Nat.mul_one,akl,iP,xaj,ak];rfl
  have Ug:ai false .add (J 1) (J (i:Int))=some (J ((i:Int)+1)):=by rw[gj (by omega) (by omega)];congr 2;omega
  have bP:mA m i=if 64<k then 18 else 0:=by unfold mA;rw[ak];rfl
  by_cases an:64<k;.rw[bP,xad an,xab (by decide)];simp only[CZ,go_sem,cj,fQ,bd,yT ((k:Int)>64),Ug,eH]
  rw[bP,xab an,xad rfl];simp only[CZ,go_sem,cj,fQ,bd,yF ((k:Int)>64),b2 (bt:=false) (i:=i) (by omega)]
 simp only[CZ,go_sem,show decide (((8:Nat):Int)<8)=false from rfl]
theorem auX:bp (CH n) n [J 0,bl m.vars,aQ m.aR,az m.bQ,az m.bR,aQ m.next,az m.trans,az m.bS,b1 m.bK,J 0,J 0,D.ax 1 ((n2 m).map λ(k:Nat)=>[J (k:Int)])]=some (if(cG (mA m) 8 0).2=0 then .inl [bl m.vars,aQ m.aR,az m.bQ,az m.bR,aQ m.next,az m.trans,az m.bS,b1 m.bK,J 0,J 0]else .inr (eH ((cG (mA m) 8 0).1+1,(64,18)))):=by
 have aj:=hm.hX;refine n1 (f:=CH n) (λi=>[J (i:Int),bl m.vars,aQ m.aR,az m.bQ,az m.bR,aQ m.next,az m.trans,az m.bS,b1 m.bK,J 0,J 0,D.ax 1 ((n2 m).map λ(k:Nat)=>[J (k:Int)])]) (mA m) 8 _ (λp=>eH (p.1+1,(64,18))) ?_ ?_ 8 0 n (by omega) (by omega)
 .intro i ah;obtain⟨k,ak⟩:∃k,(n2 m)[i]?=some k:=⟨_,xaa ah⟩;have b5:((n2 m).map λ(k:Nat)=>[J (k:Int)]).length=8:=rfl;have cj:=yT ((i:Int)<((8:Nat):Int));have fQ:cd 8 (J (i:Int))=some i:=by rw[ox,xad ah]
  have bd:((n2 m).map λ(k:Nat)=>[J (k:Int)])[i]?=some [J (k:Int)]:=by rw[xaj,ak];rfl
  have Ug:ai false .add (J (i:Int)) (J 1)=some (J ((i:Int)+1)):=by rw[gj (by omega) (by omega)]
  have bP:mA m i=if 64<k then 18 else 0:=by unfold mA;rw[ak];rfl
  generalize ((n2 m).map λ(k:Nat)=>[J (k:Int)])=aAh at*;by_cases an:64<k;.rw[bP,xad an,xab (by decide)];simp only[CH,go_sem,b5,cj,fQ,bd,M4,yT ((k:Int)>64),Ug,eH]
  rw[bP,xab an,xad rfl];simp only[CH,go_sem,b5,cj,fQ,bd,M4,yF ((k:Int)>64),b2 (bt:=false) (i:=i) (by omega)]
 have b5:((n2 m).map λ(k:Nat)=>[J (k:Int)]).length=8:=rfl;simp only[CH,go_sem,b5,show decide (((8:Nat):Int)<((8:Nat):Int))=false from rfl]
theorem auY(A kk:D):bp (h3 n) n [D.dW 114 (aQ m.aR),A,kk,J m.aR.length,J 0,bl m.vars,aQ m.aR,az m.bQ,az m.bR,aQ m.next,az m.trans,az m.bS,b1 m.bK,J 0,J 0]=some (if(cG (lA m) m.aR.length 0).2=0 then .inl [A,kk,bl m.vars,aQ m.aR,az m.bQ,az m.bR,aQ m.next,az m.trans,az m.bS,b1 m.bK,J 0,J 0]else .inr (.inr (.inr (.inr (eH (2,cG (lA m) m.aR.length 0)))))):=by
 have aj:=hm.hX;have b3:=hm.bq.dl;refine n1 (f:=h3 n) (λi=>[D.dW 114 (aQ m.aR),A,kk,J m.aR.length,J (i:Int),bl m.vars,aQ m.aR,az m.bQ,az m.bR,aQ m.next,az m.trans,az m.bS,b1 m.bK,J 0,J 0]) (lA m) (m.aR.length) _ (λp=> .inr (.inr (.inr (eH (2,p))))) ?_ ?_ _ 0 n (by omega) (by omega)
 .intro i ah;have cj:=yT ((i:Int)<((m.aR.length:Nat):Int));have hw:=auA hm i ah;change uF n [_,m.d,J (i:Int)]=some (J (lA m i))at hw;by_cases an:lA m i=0
  .have dT:(lA m i !=0)=false:=by simp[an]
   rw[xad an];simp only[h3,go_sem,cj,iu,Na,aC.eta,hw,dT,b2 (bt:=false) (i:=i) (by omega)]
  have dT:(lA m i !=0)=true:=by simpa using an
  rw[xab an];simp only[h3,go_sem,cj,iu,Na,aC.eta,hw,dT,LD,ZD,eH]
 simp only[h3,go_sem,yF (((m.aR.length:Nat):Int)<((m.aR.length:Nat):Int))]
theorem auZ(A kk:D):bp (h3 n) n [D.dW 115 (aQ m.aR),A,kk,J m.aR.length,J 0,bl m.vars,aQ m.aR,az m.bQ,az m.bR,aQ m.next,az m.trans,az m.bS,b1 m.bK,J 0,J 0]=some (if(cG (l0 m) m.aR.length 0).2=0 then .inl [A,kk,bl m.vars,aQ m.aR,az m.bQ,az m.bR,aQ m.next,az m.trans,az m.bS,b1 m.bK,J 0,J 0]else .inr (.inr (.inr (.inr (eH (2,cG (l0 m) m.aR.length 0)))))):=by
 have aj:=hm.hX;have b3:=hm.bq.dl;refine n1 (f:=h3 n) (λi=>[D.dW 115 (aQ m.aR),A,kk,J m.aR.length,J (i:Int),bl m.vars,aQ m.aR,az m.bQ,az m.bR,aQ m.next,az m.trans,az m.bS,b1 m.bK,J 0,J 0]) (l0 m) (m.aR.length) _ (λp=> .inr (.inr (.inr (eH (2,p))))) ?_ ?_ _ 0 n (by omega) (by omega)
 .intro i ah;have cj:=yT ((i:Int)<((m.aR.length:Nat):Int));have hw:=auv n m hm.bq.d i ah (by omega);change BV n [_,m.d,J (i:Int)]=some (J (l0 m i))at hw;by_cases an:l0 m i=0
  .have dT:(l0 m i !=0)=false:=by simp[an]
   rw[xad an];simp only[h3,go_sem,cj,iu,Nb,Nc,aC.eta,hw,dT,b2 (bt:=false) (i:=i) (by omega)]
  have dT:(l0 m i !=0)=true:=by simpa using an
  rw[xab an];simp only[h3,go_sem,cj,iu,Nb,Nc,aC.eta,hw,dT,LC,ZC,eH]
 simp only[h3,go_sem,yF (((m.aR.length:Nat):Int)<((m.aR.length:Nat):Int))]
theorem au0(A kk:D):bp (h3 n) n [D.dW 116 (aQ m.aR),A,kk,J m.aR.length,J 0,bl m.vars,aQ m.aR,az m.bQ,az m.bR,aQ m.next,az m.trans,az m.bS,b1 m.bK,J 0,J 0]=some (if(cG (lB m) m.aR.length 0).2=0 then .inl [A,kk,bl m.vars,aQ m.aR,az m.bQ,az m.bR,aQ m.next,az m.trans,az m.bS,b1 m.bK,J 0,J 0]else .inr (.inr (.inr (.inr (eH (2,cG (lB m) m.aR.length 0)))))):=by
 have aj:=hm.hX;have b3:=hm.bq.dl;refine n1 (f:=h3 n) (λi=>[D.dW 116 (aQ m.aR),A,kk,J m.aR.length,J (i:Int),bl m.vars,aQ m.aR,az m.bQ,az m.bR,aQ m.next,az m.trans,az m.bS,b1 m.bK,J 0,J 0]) (lB m) (m.aR.length) _ (λp=> .inr (.inr (.inr (eH (2,p))))) ?_ ?_ _ 0 n (by omega) (by omega)
 .intro i ah;have cj:=yT ((i:Int)<((m.aR.length:Nat):Int));have hw:=auB hm i ah;change BU n [_,m.d,J (i:Int)]=some (J (lB m i))at hw;by_cases an:lB m i=0
  .have dT:(lB m i !=0)=false:=by simp[an]
   rw[xad an];simp only[h3,go_sem,cj,iu,Nd,Nf,Ng,aC.eta,hw,dT,b2 (bt:=false) (i:=i) (by omega)]
  have dT:(lB m i !=0)=true:=by simpa using an
  rw[xab an];simp only[h3,go_sem,cj,iu,Nd,Nf,Ng,aC.eta,hw,dT,LB,ZB,eH]
 simp only[h3,go_sem,yF (((m.aR.length:Nat):Int)<((m.aR.length:Nat):Int))]
theorem Ns(l:List Tm)(aq:l.length<=100/\∀t∈l,t.cq/\t.bq<=12300)(k:Int)(nx:Bool)(A kk:D):bp (h3 n) n [D.dW 118 (D.agg [J k,az l,ay nx]),A,kk,J l.length,J 0,bl m.vars,aQ m.aR,az m.bQ,az m.bR,aQ m.next,az m.trans,az m.bS,b1 m.bK,J 0,J 0]=some (if(cG (fb m l nx) l.length 0).2=0 then .inl [A,kk,bl m.vars,aQ m.aR,az m.bQ,az m.bR,aQ m.next,az m.trans,az m.bS,b1 m.bK,J 0,J 0]else .inr (.inr (.inr (.inr (eH (k,cG (fb m l nx) l.length 0)))))):=by
 have aj:=hm.hX;have b3:=aq.1;have au1:ad (D.agg [J k,az l,ay nx]) 0=J k:=rfl;have z5:a5 3 (D.agg [J k,az l,ay nx])=true:=rfl;refine n1 (f:=h3 n) (λi=>[D.dW 118 (D.agg [J k,az l,ay nx]),A,kk,J l.length,J (i:Int),bl m.vars,aQ m.aR,az m.bQ,az m.bR,aQ m.next,az m.trans,az m.bS,b1 m.bK,J 0,J 0]) (fb m l nx) (l.length) _ (λp=> .inr (.inr (.inr (eH (k,p))))) ?_ ?_ _ 0 n (by omega) (by omega)
 .intro i ah;have cj:=yT ((i:Int)<((l.length:Nat):Int));have hw:=auC hm l aq.2 k nx i ah;change BT n [_,m.d,J (i:Int)]=some (J (fb m l nx i))at hw;by_cases an:fb m l nx i=0
  .have dT:(fb m l nx i !=0)=false:=by simp[an]
   rw[xad an];simp only[h3,go_sem,cj,iu,tp,tq,tu,tw,aC.eta,hw,dT,b2 (bt:=false) (i:=i) (by omega)]
  have dT:(fb m l nx i !=0)=true:=by simpa using an
  rw[xab an];simp only[h3,go_sem,cj,iu,tp,tq,tu,tw,aC.eta,hw,dT,LA,ZA,au1,z5,eH]
 simp only[h3,go_sem,yF (((l.length:Nat):Int)<((l.length:Nat):Int))]
theorem au2(A kk:D):bp (h3 n) n [D.dW 119 (aQ m.next),A,kk,J m.next.length,J 0,bl m.vars,aQ m.aR,az m.bQ,az m.bR,aQ m.next,az m.trans,az m.bS,b1 m.bK,J 0,J 0]=some (if(cG (jK m) m.next.length 0).2=0 then .inl [A,kk,bl m.vars,aQ m.aR,az m.bQ,az m.bR,aQ m.next,az m.trans,az m.bS,b1 m.bK,J 0,J 0]else .inr (.inr (.inr (.inr (eH (5,cG (jK m) m.next.length 0)))))):=by
 have aj:=hm.hX;have b3:=hm.next.1
 refine n1 (f:=h3 n) (λi=>[D.dW 119 (aQ m.next),A,kk,J m.next.length,J (i:Int),bl m.vars,aQ m.aR,az m.bQ,az m.bR,aQ m.next,az m.trans,az m.bS,b1 m.bK,J 0,J 0]) (jK m) (m.next.length) _ (λp=> .inr (.inr (.inr (eH (5,p))))) ?_ ?_ _ 0 n (by omega) (by omega)
 .intro i ah;have cj:=yT ((i:Int)<((m.next.length:Nat):Int));have hw:=auD hm i ah;change wG n [_,m.d,J (i:Int)]=some (J (jK m i))at hw;by_cases an:jK m i=0
  .have dT:(jK m i !=0)=false:=by simp[an]
   rw[xad an];simp only[h3,go_sem,cj,iu,Nh,Ni,Nj,Nk,Nl,aC.eta,hw,dT,b2 (bt:=false) (i:=i) (by omega)]
  have dT:(jK m i !=0)=true:=by simpa using an
  rw[xab an];simp only[h3,go_sem,cj,iu,Nh,Ni,Nj,Nk,Nl,aC.eta,hw,dT,Lz,Zz,eH]
 simp only[h3,go_sem,yF (((m.next.length:Nat):Int)<((m.next.length:Nat):Int))]
theorem au3(A kk:D):bp (h3 n) n [D.dW 120 (b1 m.bK),A,kk,J m.bK.length,J 0,bl m.vars,aQ m.aR,az m.bQ,az m.bR,aQ m.next,az m.trans,az m.bS,b1 m.bK,J 0,J 0]=some (if(cG (jL m) m.bK.length 0).2=0 then .inl [A,kk,bl m.vars,aQ m.aR,az m.bQ,az m.bR,aQ m.next,az m.trans,az m.bS,b1 m.bK,J 0,J 0]else .inr (.inr (.inr (.inr (eH (8,cG (jL m) m.bK.length 0)))))):=by
 have aj:=hm.hX;have b3:=hm.bK.1;refine n1 (f:=h3 n) (λi=>[D.dW 120 (b1 m.bK),A,kk,J m.bK.length,J (i:Int),bl m.vars,aQ m.aR,az m.bQ,az m.bR,aQ m.next,az m.trans,az m.bS,b1 m.bK,J 0,J 0]) (jL m) (m.bK.length) _ (λp=> .inr (.inr (.inr (eH (8,p))))) ?_ ?_ _ 0 n (by omega) (by omega)
 .intro i ah;have cj:=yT ((i:Int)<((m.bK.length:Nat):Int));have hw:=auE hm i ah;change uY n [_,m.d,J (i:Int)]=some (J (jL m i))at hw;by_cases an:jL m i=0
  .have dT:(jL m i !=0)=false:=by simp[an]
   rw[xad an];simp only[h3,go_sem,cj,iu,Nm,Nn,No,Np,Nq,Nr,aC.eta,hw,dT,b2 (bt:=false) (i:=i) (by omega)]
  have dT:(jL m i !=0)=true:=by simpa using an
  rw[xab an];simp only[h3,go_sem,cj,iu,Nm,Nn,No,Np,Nq,Nr,aC.eta,hw,dT,Ly,Zy,eH]
 simp only[h3,go_sem,yF (((m.bK.length:Nat):Int)<((m.bK.length:Nat):Int))]
theorem au4:hV n [gD m,J 0,bl m.vars,aQ m.aR,az m.bQ,az m.bR,aQ m.next,az m.trans,az m.bS,b1 m.bK,J 0,J 0]=some (if(cG (lA m) m.aR.length 0).2=0 then .inl [gD m,J 1,bl m.vars,aQ m.aR,az m.bQ,az m.bR,aQ m.next,az m.trans,az m.bS,b1 m.bK,J 0,J 0]else .inr (.inr (eH (2,cG (lA m) m.aR.length 0)))):=by
 have fz:=auY hm (gD m) (J 0);have cj:decide ((0:Int)<9)=true:=rfl;have fQ:cd 9 (J 0)=some 0:=rfl;have bd:lI false 1 (0*1) (gD m)=some (D.dW 114 (aQ m.aR)):=rfl;have jr:FD n [aQ m.aR]=some (J m.aR.length):=by simp only[FD,Zf,go_sem,dZ]
 have g1:ai false .add (J 0) (J 1)=some (J 1):=gj (by decide) (by decide);by_cases an:(cG (lA m) m.aR.length 0).2=0;.rw[xad an]at fz⊢;simp only[hV,go_sem,cj,fQ,bd,iu,Na,jr,fz,g1]
 rw[xab an]at fz⊢;simp only[hV,go_sem,cj,fQ,bd,iu,Na,jr,fz]
theorem au5:hV n [gD m,J 1,bl m.vars,aQ m.aR,az m.bQ,az m.bR,aQ m.next,az m.trans,az m.bS,b1 m.bK,J 0,J 0]=some (if(cG (l0 m) m.aR.length 0).2=0 then .inl [gD m,J 2,bl m.vars,aQ m.aR,az m.bQ,az m.bR,aQ m.next,az m.trans,az m.bS,b1 m.bK,J 0,J 0]else .inr (.inr (eH (2,cG (l0 m) m.aR.length 0)))):=by
 have fz:=auZ hm (gD m) (J 1);have cj:decide ((1:Int)<9)=true:=rfl;have fQ:cd 9 (J 1)=some 1:=rfl;have bd:lI false 1 (1*1) (gD m)=some (D.dW 115 (aQ m.aR)):=rfl;have jr:FC n [aQ m.aR]=some (J m.aR.length):=by simp only[FC,Ze,go_sem,dZ]
 have g1:ai false .add (J 1) (J 1)=some (J 2):=gj (by decide) (by decide);by_cases an:(cG (l0 m) m.aR.length 0).2=0;.rw[xad an]at fz⊢;simp only[hV,go_sem,cj,fQ,bd,iu,Nb,Nc,jr,fz,g1]
 rw[xab an]at fz⊢;simp only[hV,go_sem,cj,fQ,bd,iu,Nb,Nc,jr,fz]
theorem au6:hV n [gD m,J 2,bl m.vars,aQ m.aR,az m.bQ,az m.bR,aQ m.next,az m.trans,az m.bS,b1 m.bK,J 0,J 0]=some (if(cG (lB m) m.aR.length 0).2=0 then .inl [gD m,J 3,bl m.vars,aQ m.aR,az m.bQ,az m.bR,aQ m.next,az m.trans,az m.bS,b1 m.bK,J 0,J 0]else .inr (.inr (eH (2,cG (lB m) m.aR.length 0)))):=by
 have fz:=au0 hm (gD m) (J 2);have cj:decide ((2:Int)<9)=true:=rfl;have fQ:cd 9 (J 2)=some 2:=rfl;have bd:lI false 1 (2*1) (gD m)=some (D.dW 116 (aQ m.aR)):=rfl;have jr:FB n [aQ m.aR]=some (J m.aR.length):=by simp only[FB,Zd,go_sem,dZ]
 have g1:ai false .add (J 2) (J 1)=some (J 3):=gj (by decide) (by decide);by_cases an:(cG (lB m) m.aR.length 0).2=0;.rw[xad an]at fz⊢;simp only[hV,go_sem,cj,fQ,bd,iu,Nd,Nf,Ng,jr,fz,g1]
 rw[xab an]at fz⊢;simp only[hV,go_sem,cj,fQ,bd,iu,Nd,Nf,Ng,jr,fz]
theorem au7:hV n [gD m,J 3,bl m.vars,aQ m.aR,az m.bQ,az m.bR,aQ m.next,az m.trans,az m.bS,b1 m.bK,J 0,J 0]=some (if(cG (fb m m.bQ false) m.bQ.length 0).2=0 then .inl [gD m,J 4,bl m.vars,aQ m.aR,az m.bQ,az m.bR,aQ m.next,az m.trans,az m.bS,b1 m.bK,J 0,J 0]else .inr (.inr (eH (3,cG (fb m m.bQ false) m.bQ.length 0)))):=by
 have fz:=Ns hm m.bQ hm.bQ 3 false (gD m) (J 3);have cj:decide ((3:Int)<9)=true:=rfl;have fQ:cd 9 (J 3)=some 3:=rfl;have bd:lI false 1 (3*1) (gD m)=some (D.dW 118 (D.agg [J 3,az m.bQ,ay false])):=rfl;have jr:ri n [D.agg [J 3,az m.bQ,ay false]]=some (J m.bQ.length):=by have aw:a5 3 (D.agg [J 3,az m.bQ,ay false])=true:=rfl;have a4:ad (D.agg [J 3,az m.bQ,ay false]) 1=az m.bQ:=rfl;simp only[ri,FA,go_sem,aw,a4,hp]
 have g1:ai false .add (J 3) (J 1)=some (J 4):=gj (by decide) (by decide);by_cases an:(cG (fb m m.bQ false) m.bQ.length 0).2=0;.rw[xad an]at fz⊢;simp only[hV,go_sem,cj,fQ,bd,iu,tp,tq,tu,tw,jr,fz,g1]
 rw[xab an]at fz⊢;simp only[hV,go_sem,cj,fQ,bd,iu,tp,tq,tu,tw,jr,fz]
theorem au8:hV n [gD m,J 4,bl m.vars,aQ m.aR,az m.bQ,az m.bR,aQ m.next,az m.trans,az m.bS,b1 m.bK,J 0,J 0]=some (if(cG (fb m m.bR false) m.bR.length 0).2=0 then .inl [gD m,J 5,bl m.vars,aQ m.aR,az m.bQ,az m.bR,aQ m.next,az m.trans,az m.bS,b1 m.bK,J 0,J 0]else .inr (.inr (eH (4,cG (fb m m.bR false) m.bR.length 0)))):=by
 have fz:=Ns hm m.bR hm.bR 4 false (gD m) (J 4);have cj:decide ((4:Int)<9)=true:=rfl;have fQ:cd 9 (J 4)=some 4:=rfl;have bd:lI false 1 (4*1) (gD m)=some (D.dW 118 (D.agg [J 4,az m.bR,ay false])):=rfl;have jr:ri n [D.agg [J 4,az m.bR,ay false]]=some (J m.bR.length):=by have aw:a5 3 (D.agg [J 4,az m.bR,ay false])=true:=rfl;have a4:ad (D.agg [J 4,az m.bR,ay false]) 1=az m.bR:=rfl;simp only[ri,FA,go_sem,aw,a4,hp]
 have g1:ai false .add (J 4) (J 1)=some (J 5):=gj (by decide) (by decide);by_cases an:(cG (fb m m.bR false) m.bR.length 0).2=0;.rw[xad an]at fz⊢;simp only[hV,go_sem,cj,fQ,bd,iu,tp,tq,tu,tw,jr,fz,g1]
 rw[xab an]at fz⊢;simp only[hV,go_sem,cj,fQ,bd,iu,tp,tq,tu,tw,jr,fz]
theorem au9:hV n [gD m,J 5,bl m.vars,aQ m.aR,az m.bQ,az m.bR,aQ m.next,az m.trans,az m.bS,b1 m.bK,J 0,J 0]=some (if(cG (jK m) m.next.length 0).2=0 then .inl [gD m,J 6,bl m.vars,aQ m.aR,az m.bQ,az m.bR,aQ m.next,az m.trans,az m.bS,b1 m.bK,J 0,J 0]else .inr (.inr (eH (5,cG (jK m) m.next.length 0)))):=by
 have fz:=au2 hm (gD m) (J 5);have cj:decide ((5:Int)<9)=true:=rfl;have fQ:cd 9 (J 5)=some 5:=rfl;have bd:lI false 1 (5*1) (gD m)=some (D.dW 119 (aQ m.next)):=rfl;have jr:Fz n [aQ m.next]=some (J m.next.length):=by simp only[Fz,Zc,go_sem,dZ]
 have g1:ai false .add (J 5) (J 1)=some (J 6):=gj (by decide) (by decide);by_cases an:(cG (jK m) m.next.length 0).2=0;.rw[xad an]at fz⊢;simp only[hV,go_sem,cj,fQ,bd,iu,Nh,Ni,Nj,Nk,Nl,jr,fz,g1]
 rw[xab an]at fz⊢;simp only[hV,go_sem,cj,fQ,bd,iu,Nh,Ni,Nj,Nk,Nl,jr,fz]
theorem ava:hV n [gD m,J 6,bl m.vars,aQ m.aR,az m.bQ,az m.bR,aQ m.next,az m.trans,az m.bS,b1 m.bK,J 0,J 0]=some (if(cG (fb m m.trans true) m.trans.length 0).2=0 then .inl [gD m,J 7,bl m.vars,aQ m.aR,az m.bQ,az m.bR,aQ m.next,az m.trans,az m.bS,b1 m.bK,J 0,J 0]else .inr (.inr (eH (6,cG (fb m m.trans true) m.trans.length 0)))):=by
 have fz:=Ns hm m.trans hm.trans 6 true (gD m) (J 6);have cj:decide ((6:Int)<9)=true:=rfl;have fQ:cd 9 (J 6)=some 6:=rfl;have bd:lI false 1 (6*1) (gD m)=some (D.dW 118 (D.agg [J 6,az m.trans,ay true])):=rfl;have jr:ri n [D.agg [J 6,az m.trans,ay true]]=some (J m.trans.length):=by have aw:a5 3 (D.agg [J 6,az m.trans,ay true])=true:=rfl;have a4:ad (D.agg [J 6,az m.trans,ay true]) 1=az m.trans:=rfl;simp only[ri,FA,go_sem,aw,a4,hp]
 have g1:ai false .add (J 6) (J 1)=some (J 7):=gj (by decide) (by decide);by_cases an:(cG (fb m m.trans true) m.trans.length 0).2=0;.rw[xad an]at fz⊢;simp only[hV,go_sem,cj,fQ,bd,iu,tp,tq,tu,tw,jr,fz,g1]
 rw[xab an]at fz⊢;simp only[hV,go_sem,cj,fQ,bd,iu,tp,tq,tu,tw,jr,fz]
theorem avb:hV n [gD m,J 7,bl m.vars,aQ m.aR,az m.bQ,az m.bR,aQ m.next,az m.trans,az m.bS,b1 m.bK,J 0,J 0]=some (if(cG (fb m m.bS false) m.bS.length 0).2=0 then .inl [gD m,J 8,bl m.vars,aQ m.aR,az m.bQ,az m.bR,aQ m.next,az m.trans,az m.bS,b1 m.bK,J 0,J 0]else .inr (.inr (eH (7,cG (fb m m.bS false) m.bS.length 0)))):=by
 have fz:=Ns hm m.bS hm.bS 7 false (gD m) (J 7);have cj:decide ((7:Int)<9)=true:=rfl;have fQ:cd 9 (J 7)=some 7:=rfl;have bd:lI false 1 (7*1) (gD m)=some (D.dW 118 (D.agg [J 7,az m.bS,ay false])):=rfl;have jr:ri n [D.agg [J 7,az m.bS,ay false]]=some (J m.bS.length):=by have aw:a5 3 (D.agg [J 7,az m.bS,ay false])=true:=rfl;have a4:ad (D.agg [J 7,az m.bS,ay false]) 1=az m.bS:=rfl;simp only[ri,FA,go_sem,aw,a4,hp]
 have g1:ai false .add (J 7) (J 1)=some (J 8):=gj (by decide) (by decide);by_cases an:(cG (fb m m.bS false) m.bS.length 0).2=0;.rw[xad an]at fz⊢;simp only[hV,go_sem,cj,fQ,bd,iu,tp,tq,tu,tw,jr,fz,g1]
 rw[xab an]at fz⊢;simp only[hV,go_sem,cj,fQ,bd,iu,tp,tq,tu,tw,jr,fz]
theorem avc:hV n [gD m,J 8,bl m.vars,aQ m.aR,az m.bQ,az m.bR,aQ m.next,az m.trans,az m.bS,b1 m.bK,J 0,J 0]=some (if(cG (jL m) m.bK.length 0).2=0 then .inl [gD m,J 9,bl m.vars,aQ m.aR,az m.bQ,az m.bR,aQ m.next,az m.trans,az m.bS,b1 m.bK,J 0,J 0]else .inr (.inr (eH (8,cG (jL m) m.bK.length 0)))):=by
 have fz:=au3 hm (gD m) (J 8);have cj:decide ((8:Int)<9)=true:=rfl;have fQ:cd 9 (J 8)=some 8:=rfl;have bd:lI false 1 (8*1) (gD m)=some (D.dW 120 (b1 m.bK)):=rfl;have jr:Fy n [b1 m.bK]=some (J m.bK.length):=by simp only[Fy,Zb,go_sem,iC]
 have g1:ai false .add (J 8) (J 1)=some (J 9):=gj (by decide) (by decide);by_cases an:(cG (jL m) m.bK.length 0).2=0;.rw[xad an]at fz⊢;simp only[hV,go_sem,cj,fQ,bd,iu,Nm,Nn,No,Np,Nq,Nr,jr,fz,g1]
 rw[xab an]at fz⊢;simp only[hV,go_sem,cj,fQ,bd,iu,Nm,Nn,No,Np,Nq,Nr,jr,fz]
theorem avd:bp (hV n) n [gD m,J 0,bl m.vars,aQ m.aR,az m.bQ,az m.bR,aQ m.next,az m.trans,az m.bS,b1 m.bK,J 0,J 0]=some (if(h9 (rR m)).2.2=0 then .inl [J 0,J 0]else .inr (eH (h9 (rR m)))):=by
 have aj:=hm.hX;refine adT (f:=hV n) (rR m) (λi=>[gD m,J (i:Int),bl m.vars,aQ m.aR,az m.bQ,az m.bR,aQ m.next,az m.trans,az m.bS,b1 m.bK,J 0,J 0]) [J 0,J 0] eH ?_ ?_ n (by show 9<n;omega)
 .intro i a aI
  match i,aI with
  |0,aI=>cases aI;exact au4 hm
  |1,aI=>cases aI;exact au5 hm
  |2,aI=>cases aI;exact au6 hm
  |3,aI=>cases aI;exact au7 hm
  |4,aI=>cases aI;exact au8 hm
  |5,aI=>cases aI;exact au9 hm
  |6,aI=>cases aI;exact ava hm
  |7,aI=>cases aI;exact avb hm
  |8,aI=>cases aI;exact avc hm
  |j+9,aI=>cases aI
 show hV n [gD m,J 9,bl m.vars,aQ m.aR,az m.bQ,az m.bR,aQ m.next,az m.trans,az m.bS,b1 m.bK,J 0,J 0]=_;simp only[hV,go_sem,show decide ((9:Int)<9)=false from rfl]
theorem ave:rG n [m.d]=some (eH (kH m)):=by
 have aj:=hm.hX;have af:=auW hm;have pI:=avd hm;have hH:=atQ n m.vars hm.M7 (by have:=hm.bq.qt;omega) hm.adN;have gz:=auR n m hm.M7 hm.bq.qt (by omega);have jA:D.agg [J (m.vars.length:Int),J (m.aR.length:Int),J (m.bQ.length:Int),J (m.bR.length:Int),J (m.next.length:Int),J (m.trans.length:Int),J (m.bS.length:Int),J (m.bK.length:Int)]=Is m:=rfl;have adX:D.agg [.dW 114 (aQ m.aR),.dW 115 (aQ m.aR),.dW 116 (aQ m.aR),.dW 118 (.agg [J 3,az m.bQ,ay false]),.dW 118 (.agg [J 4,az m.bR,ay false]),.dW 119 (aQ m.next),.dW 118 (.agg [J 6,az m.trans,ay true]),.dW 118 (.agg [J 7,az m.bS,ay false]),.dW 120 (b1 m.bK)]=gD m:=rfl;have Nt:∀l,bE (az l)=true:=λ_=>rfl;have fo:∀t x,bE (D.dW t x)=true:=λ_ _=>rfl;unfold kH;by_cases bU:(cG (mA m) 8 0).2=0
 case neg=>rw[xab bU]at af⊢;simp only[rG,C0,go_sem,aC.agg,aC.a8,aC.bU,aC.b9,aC.cE,aC.dy,aC.er,aC.et,aC.fk,aC.eta,fS,dZ,hp,iC,jA,af]
 rw[xad bU]at af⊢;by_cases b9:(j9 m.vars).2=0
 case neg=>
  have rS:((j9 m.vars).2 !=0)=true:=by simpa using b9
  rw[xab b9];simp only[rG,C0,go_sem,aC.agg,aC.a8,aC.bU,aC.b9,aC.cE,aC.dy,aC.er,aC.et,aC.fk,aC.eta,fS,dZ,hp,iC,jA,af,hH,rS,eH]
 have rS:((j9 m.vars).2 !=0)=false:=by simp[b9]
 rw[xad b9];by_cases cE:30<mz m.vars;.have rM:=yT (((mz m.vars:Nat):Int)>30);rw[xad cE];simp only[rG,C0,go_sem,aC.agg,aC.a8,aC.bU,aC.b9,aC.cE,aC.dy,aC.er,aC.et,aC.fk,aC.eta,fS,dZ,hp,iC,jA,af,hH,rS,gz,rM,eH]
 have rM:=yF (((mz m.vars:Nat):Int)>30);rw[xab cE];by_cases dy:(h9 (rR m)).2.2=0;.rw[xad dy]at pI;rw[adW _ dy];simp only[rG,C0,go_sem,aC.agg,aC.a8,aC.bU,aC.b9,aC.cE,aC.dy,aC.er,aC.et,aC.fk,aC.eta,fS,dZ,hp,iC,jA,af,hH,rS,gz,rM,Nt,fo,adX,pI,eH]
 rw[xab dy]at pI;simp only[rG,C0,go_sem,aC.agg,aC.a8,aC.bU,aC.b9,aC.cE,aC.dy,aC.er,aC.et,aC.fk,aC.eta,fS,dZ,hp,iC,jA,af,hH,rS,gz,rM,Nt,fo,adX,pI]
theorem avf(h:(rQ m).2=0):rQ m=(0,0):=by unfold rQ at h⊢;obtain⟨ab,af⟩:=adU.1 h;obtain⟨aw,a4⟩:=adU.1 af;rw[ve,xad ab,ve,xad aw,rP _ _ _ a4]
theorem avg:jo n [J 0,J 0,J 2,bl m.vars,aQ m.aR,az m.bQ,az m.bR,aQ m.next,az m.trans,az m.bS,b1 m.bK,J 0,J 0]=some (if(rQ m).2=0 then .inl [J 0,J 0,J 3,bl m.vars,aQ m.aR,az m.bQ,az m.bR,aQ m.next,az m.trans,az m.bS,b1 m.bK,J 0,J 0]else .inr (.inr (eH (2,rQ m)))):=by
 have fa:=auL hm;have cj:decide ((2:Int)<=8)=true:=rfl;have bD:((2:Int)==2)=true:=rfl;have g1:ai false .add (J 2) (J 1)=some (J 3):=gj (by decide) (by decide);by_cases an:(rQ m).2=0
 .have bx:=avf hm an;rw[bx]at fa⊢;have hz:((0:Int) !=0)=false:=rfl;simp only[jo,go_sem,cj,bD,aC.eta,fa,fY,hz,g1]
 rw[xab an];generalize rQ m=p at*;have dT:(p.2 !=0)=true:=by simpa using an
 simp only[jo,go_sem,cj,bD,aC.eta,fa,fY,dT,eH]
theorem avh:jo n [J 0,J 0,J 3,bl m.vars,aQ m.aR,az m.bQ,az m.bR,aQ m.next,az m.trans,az m.bS,b1 m.bK,J 0,J 0]=some (if(cG (fb m m.bQ false) m.bQ.length 0).2=0 then .inl [J 0,J 0,J 4,bl m.vars,aQ m.aR,az m.bQ,az m.bR,aQ m.next,az m.trans,az m.bS,b1 m.bK,J 0,J 0]else .inr (.inr (eH (3,cG (fb m m.bQ false) m.bQ.length 0)))):=by
 have fa:=M9 hm m.bQ hm.bQ false;have cj:decide ((3:Int)<=8)=true:=rfl;have bD:((3:Int)==2)=false:=rfl;have cy:((3:Int)==3)=true:=rfl;have g1:ai false .add (J 3) (J 1)=some (J 4):=gj (by decide) (by decide);by_cases an:(cG (fb m m.bQ false) m.bQ.length 0).2=0
 .have bx:=rP _ _ _ an;rw[bx]at fa⊢;have hz:((0:Int) !=0)=false:=rfl;simp only[jo,go_sem,cj,bD,cy,aC.eta,fa,fY,hz,g1]
 rw[xab an];generalize cG (fb m m.bQ false) m.bQ.length 0=p at*;have dT:(p.2 !=0)=true:=by simpa using an
 simp only[jo,go_sem,cj,bD,cy,aC.eta,fa,fY,dT,eH]
theorem avi:jo n [J 0,J 0,J 4,bl m.vars,aQ m.aR,az m.bQ,az m.bR,aQ m.next,az m.trans,az m.bS,b1 m.bK,J 0,J 0]=some (if(cG (fb m m.bR false) m.bR.length 0).2=0 then .inl [J 0,J 0,J 5,bl m.vars,aQ m.aR,az m.bQ,az m.bR,aQ m.next,az m.trans,az m.bS,b1 m.bK,J 0,J 0]else .inr (.inr (eH (4,cG (fb m m.bR false) m.bR.length 0)))):=by
 have fa:=M9 hm m.bR hm.bR false;have cj:decide ((4:Int)<=8)=true:=rfl;have bD:((4:Int)==2)=false:=rfl;have cy:((4:Int)==3)=false:=rfl;have ey:((4:Int)==4)=true:=rfl;have g1:ai false .add (J 4) (J 1)=some (J 5):=gj (by decide) (by decide);by_cases an:(cG (fb m m.bR false) m.bR.length 0).2=0
 .have bx:=rP _ _ _ an;rw[bx]at fa⊢;have hz:((0:Int) !=0)=false:=rfl;simp only[jo,go_sem,cj,bD,cy,ey,aC.eta,fa,fY,hz,g1]
 rw[xab an];generalize cG (fb m m.bR false) m.bR.length 0=p at*;have dT:(p.2 !=0)=true:=by simpa using an
 simp only[jo,go_sem,cj,bD,cy,ey,aC.eta,fa,fY,dT,eH]
theorem avj:jo n [J 0,J 0,J 5,bl m.vars,aQ m.aR,az m.bQ,az m.bR,aQ m.next,az m.trans,az m.bS,b1 m.bK,J 0,J 0]=some (if(cG (jK m) m.next.length 0).2=0 then .inl [J 0,J 0,J 6,bl m.vars,aQ m.aR,az m.bQ,az m.bR,aQ m.next,az m.trans,az m.bS,b1 m.bK,J 0,J 0]else .inr (.inr (eH (5,cG (jK m) m.next.length 0)))):=by
 have fa:=auO hm;have cj:decide ((5:Int)<=8)=true:=rfl;have bD:((5:Int)==2)=false:=rfl;have cy:((5:Int)==3)=false:=rfl;have ey:((5:Int)==4)=false:=rfl;have fm:((5:Int)==5)=true:=rfl;have g1:ai false .add (J 5) (J 1)=some (J 6):=gj (by decide) (by decide);by_cases an:(cG (jK m) m.next.length 0).2=0
 .have bx:=rP _ _ _ an;rw[bx]at fa⊢;have hz:((0:Int) !=0)=false:=rfl;simp only[jo,go_sem,cj,bD,cy,ey,fm,aC.eta,fa,fY,hz,g1]
 rw[xab an];generalize cG (jK m) m.next.length 0=p at*
 have dT:(p.2 !=0)=true:=by simpa using an
 simp only[jo,go_sem,cj,bD,cy,ey,fm,aC.eta,fa,fY,dT,eH]
theorem avk:jo n [J 0,J 0,J 6,bl m.vars,aQ m.aR,az m.bQ,az m.bR,aQ m.next,az m.trans,az m.bS,b1 m.bK,J 0,J 0]=some (if(cG (fb m m.trans true) m.trans.length 0).2=0 then .inl [J 0,J 0,J 7,bl m.vars,aQ m.aR,az m.bQ,az m.bR,aQ m.next,az m.trans,az m.bS,b1 m.bK,J 0,J 0]else .inr (.inr (eH (6,cG (fb m m.trans true) m.trans.length 0)))):=by
 have fa:=M9 hm m.trans hm.trans true;have cj:decide ((6:Int)<=8)=true:=rfl;have bD:((6:Int)==2)=false:=rfl;have cy:((6:Int)==3)=false:=rfl;have ey:((6:Int)==4)=false:=rfl;have fm:((6:Int)==5)=false:=rfl;have g8:((6:Int)==6)=true:=rfl;have g1:ai false .add (J 6) (J 1)=some (J 7):=gj (by decide) (by decide);by_cases an:(cG (fb m m.trans true) m.trans.length 0).2=0
 .have bx:=rP _ _ _ an;rw[bx]at fa⊢;have hz:((0:Int) !=0)=false:=rfl;simp only[jo,go_sem,cj,bD,cy,ey,fm,g8,aC.eta,fa,fY,hz,g1]
 rw[xab an];generalize cG (fb m m.trans true) m.trans.length 0=p at*;have dT:(p.2 !=0)=true:=by simpa using an
 simp only[jo,go_sem,cj,bD,cy,ey,fm,g8,aC.eta,fa,fY,dT,eH]
theorem avl:jo n [J 0,J 0,J 7,bl m.vars,aQ m.aR,az m.bQ,az m.bR,aQ m.next,az m.trans,az m.bS,b1 m.bK,J 0,J 0]=some (if(cG (fb m m.bS false) m.bS.length 0).2=0 then .inl [J 0,J 0,J 8,bl m.vars,aQ m.aR,az m.bQ,az m.bR,aQ m.next,az m.trans,az m.bS,b1 m.bK,J 0,J 0]else .inr (.inr (eH (7,cG (fb m m.bS false) m.bS.length 0)))):=by
 have fa:=M9 hm m.bS hm.bS false;have cj:decide ((7:Int)<=8)=true:=rfl;have bD:((7:Int)==2)=false:=rfl;have cy:((7:Int)==3)=false:=rfl;have ey:((7:Int)==4)=false:=rfl;have fm:((7:Int)==5)=false:=rfl;have g8:((7:Int)==6)=false:=rfl;have rT:((7:Int)==7)=true:=rfl;have g1:ai false .add (J 7) (J 1)=some (J 8):=gj (by decide) (by decide);by_cases an:(cG (fb m m.bS false) m.bS.length 0).2=0
 .have bx:=rP _ _ _ an;rw[bx]at fa⊢;have hz:((0:Int) !=0)=false:=rfl;simp only[jo,go_sem,cj,bD,cy,ey,fm,g8,rT,aC.eta,fa,fY,hz,g1]
 rw[xab an];generalize cG (fb m m.bS false) m.bS.length 0=p at*;have dT:(p.2 !=0)=true:=by simpa using an
 simp only[jo,go_sem,cj,bD,cy,ey,fm,g8,rT,aC.eta,fa,fY,dT,eH]
theorem avm:jo n [J 0,J 0,J 8,bl m.vars,aQ m.aR,az m.bQ,az m.bR,aQ m.next,az m.trans,az m.bS,b1 m.bK,J 0,J 0]=some (if(cG (jL m) m.bK.length 0).2=0 then .inl [J 0,J 0,J 9,bl m.vars,aQ m.aR,az m.bQ,az m.bR,aQ m.next,az m.trans,az m.bS,b1 m.bK,J 0,J 0]else .inr (.inr (eH (8,cG (jL m) m.bK.length 0)))):=by
 have fa:=auP hm;have cj:decide ((8:Int)<=8)=true:=rfl;have bD:((8:Int)==2)=false:=rfl;have cy:((8:Int)==3)=false:=rfl;have ey:((8:Int)==4)=false:=rfl;have fm:((8:Int)==5)=false:=rfl;have g8:((8:Int)==6)=false:=rfl;have rT:((8:Int)==7)=false:=rfl;have Nu:((8:Int)==8)=true:=rfl;have g1:ai false .add (J 8) (J 1)=some (J 9):=gj (by decide) (by decide);by_cases an:(cG (jL m) m.bK.length 0).2=0
 .have bx:=rP _ _ _ an;rw[bx]at fa⊢;have hz:((0:Int) !=0)=false:=rfl;simp only[jo,go_sem,cj,bD,cy,ey,fm,g8,rT,Nu,aC.eta,fa,fY,hz,g1]
 rw[xab an];generalize cG (jL m) m.bK.length 0=p at*;have dT:(p.2 !=0)=true:=by simpa using an
 simp only[jo,go_sem,cj,bD,cy,ey,fm,g8,rT,Nu,aC.eta,fa,fY,dT,eH]
theorem avn:bp (jo n) n [J 0,J 0,J 2,bl m.vars,aQ m.aR,az m.bQ,az m.bR,aQ m.next,az m.trans,az m.bS,b1 m.bK,J 0,J 0]=some (if(h9 (rR m)).2.2=0 then .inl [J 0,J 0]else .inr (eH (h9 (rR m)))):=by
 have aj:=hm.hX;rw[<-auU];refine adT (f:=jo n) (Uf m) (λi=>[J 0,J 0,J ((i+2:Nat):Int),bl m.vars,aQ m.aR,az m.bQ,az m.bR,aQ m.next,az m.trans,az m.bS,b1 m.bK,J 0,J 0]) [J 0,J 0] eH ?_ ?_ n (by show 7<n;omega)
 .intro i a aI
  match i,aI with
  |0,aI=>cases aI;exact avg hm
  |1,aI=>cases aI;exact avh hm
  |2,aI=>cases aI;exact avi hm
  |3,aI=>cases aI;exact avj hm
  |4,aI=>cases aI;exact avk hm
  |5,aI=>cases aI;exact avl hm
  |6,aI=>cases aI;exact avm hm
  |j+7,aI=>cases aI
 show jo n [J 0,J 0,J 9,bl m.vars,aQ m.aR,az m.bQ,az m.bR,aQ m.next,az m.trans,az m.bS,b1 m.bK,J 0,J 0]=_;simp only[jo,go_sem,show decide ((9:Int)<=8)=false from rfl]
theorem Nv:rD n [m.d]=some (eH (kH m)):=by
 have aj:=hm.hX;have af:=auX hm;have pI:=avn hm;have hH:=atZ n m.vars hm.M7 (by have:=hm.bq.qt;omega) hm.adN;have gz:=auS n m hm.M7 hm.bq.qt (by omega);have jA:D.ax 1 [[J (m.vars.length:Int)],[J (m.aR.length:Int)],[J (m.bQ.length:Int)],[J (m.bR.length:Int)],[J (m.next.length:Int)],[J (m.trans.length:Int)],[J (m.bS.length:Int)],[J (m.bK.length:Int)]]=D.ax 1 ((n2 m).map λ(k:Nat)=>[J (k:Int)]):=rfl;unfold kH;by_cases bU:(cG (mA m) 8 0).2=0
 case neg=>rw[xab bU]at af⊢;simp only[rD,CI,go_sem,aC.agg,aC.a8,aC.bU,aC.b9,aC.cE,aC.dy,aC.er,aC.et,aC.fk,aC.eta,fS,dZ,hp,iC,jA,af]
 rw[xad bU]at af⊢;by_cases b9:(j9 m.vars).2=0
 case neg=>
  have rS:((j9 m.vars).2 !=0)=true:=by simpa using b9
  rw[xab b9];simp only[rD,CI,go_sem,aC.agg,aC.a8,aC.bU,aC.b9,aC.cE,aC.dy,aC.er,aC.et,aC.fk,aC.eta,fS,dZ,hp,iC,jA,af,hH,rS,eH]
 rw[auV b9]at hH;have rS:((0:Int) !=0)=false:=rfl;rw[xad b9];by_cases cE:30<mz m.vars
 .have rM:=yT (((mz m.vars:Nat):Int)>30);rw[xad cE];simp only[rD,CI,go_sem,aC.agg,aC.a8,aC.bU,aC.b9,aC.cE,aC.dy,aC.er,aC.et,aC.fk,aC.eta,fS,dZ,hp,iC,jA,af,hH,rS,gz,rM,eH]
 have rM:=yF (((mz m.vars:Nat):Int)>30);rw[xab cE];by_cases dy:(h9 (rR m)).2.2=0;.rw[xad dy]at pI;rw[adW _ dy];simp only[rD,CI,go_sem,aC.agg,aC.a8,aC.bU,aC.b9,aC.cE,aC.dy,aC.er,aC.et,aC.fk,aC.eta,fS,dZ,hp,iC,jA,af,hH,rS,gz,rM,pI,eH]
 rw[xab dy]at pI;simp only[rD,CI,go_sem,aC.agg,aC.a8,aC.bU,aC.b9,aC.cE,aC.dy,aC.er,aC.et,aC.fk,aC.eta,fS,dZ,hp,iC,jA,af,hH,rS,gz,rM,pI]
end
def z6(n:Nat):e4:= .slice 4 56 (pk n)
def It(n:Nat):e4:= .slice 7 104 (.struct [.str,q7 n])
def z7(n:Nat):e4:= .struct [KT,wv n,z6 n,z6 n,wv n,z6 n,z6 n,It n]
def avo(n:Nat):∀m,m<=n->(z6 n).ft m=true
 |0,_=>rfl|m+1,h=>by have:=Bx n m (by omega);simp only[z6,e4.ft,this]
def avp(n:Nat):∀m,m<=n->(It n).ft m=true
 |0,_=>rfl|1,_=>by simp[It,e4.ft]|m+2,h=>by have ab:=Q5 n m (by omega);have af:e4.ft m .str=true:=wo m .str rfl;simp only[It,e4.ft,p9,ab,af,xbq]
def avq(n:Nat):∀m,m<=n->(z7 n).ft m=true
 |0,_=>rfl|m+1,h=>by have au:e4.ft m KT=true:=wo m KT rfl;simp only[z7,e4.ft,p9,au,YY n m (by omega),avo n m (by omega),avp n m (by omega),xbq]
theorem avr{P:Program}{t tv td tt ts tm tf:TypeId}(h:∀a b c d e f g i,eu P (.struct [a,b,c,d,e,f,g,i]) t=(eu P a tv&&(eu P b td&&(eu P c tt&&(eu P d tt&&(eu P e td&&(eu P f tt&&(eu P g tt&&(eu P i ts&&true))))))))) (a6:eu P KT tv=true) (aA:sD P wv td) (aM:∀y,eu P (.slice 4 56 y) tt=eu P y tm) (hm:sD P pk tm) (aH:∀y,eu P (.slice 7 104 (.struct [.str,y])) ts=(eu P y tf&&true)) (bd:sD P q7 tf) (aq:decide (t<P.types.size)=true):sD P z7 t:=⟨λn=>avq n n (xan _),λn=>by rw[z7,h,a6,aA.ok n,z6,aM,hm.ok n,It,aH,bd.ok n];rfl,xaW aq,λn=>rfl⟩
structure Dr(m:aC):Prop where
 v:∀x∈m.vars,V.ok x
 d:∀x∈m.aR,x.cq
 i:∀x∈m.bQ,x.cq
 bT:∀x∈m.bR,x.cq
 n:∀x∈m.next,x.cq
 t:∀x∈m.trans,x.cq
 f:∀x∈m.bS,x.cq
 s:∀x∈m.bK,x.name.size<=140737488351232/\x.f.cq
def avs{n:Nat}{x:List D}(h:mn (.struct [.str,q7 n]) x):∃d:cA,x=d.cells/\d.name.size<=140737488351232/\d.f.cq:=by obtain⟨a,b,rfl,aI,c,e,rfl,an,rfl⟩:=h;obtain⟨s,rfl,aH⟩:=E4 aI;obtain⟨t,rfl,aM⟩:=YX n an;exact⟨⟨s,t⟩,by simp[cA.cells,Fm.ng],aH,aM⟩
def avt{n:Nat}{d:D}(h:Bq (z7 n) d):∃m:aC,d=m.d/\Dr m:=by obtain⟨aO,rfl,ae,fF,rfl,au,ao,eT,rfl,ab,ba,hs,rfl,af,b6,kW,rfl,aw,cJ,oN,rfl,a4,c6,rU,rfl,b7,c5,vf,rfl,cO,du,Uh,rfl,gp,rfl⟩:=h;obtain⟨bH,rfl,_,_,w0⟩:=au;obtain⟨aK,rfl,_,_,ga⟩:=ab;obtain⟨aY,rfl,_,_,hK⟩:=af;obtain⟨bN,rfl,_,_,kY⟩:=aw;obtain⟨cN,rfl,_,_,qh⟩:=a4;obtain⟨eb,rfl,_,_,uM⟩:=b7;obtain⟨fB,rfl,_,_,GI⟩:=cO;obtain⟨oY,rfl,_,_,GM⟩:=gp;obtain⟨w1,rfl,w2⟩:=qa V.cells V.ok bH λx ag=>akK (w0 x ag).2;obtain⟨lH,rfl,bC⟩:=qa bb.cells bb.cq aK λx ag=>YZ (ga x ag).2;obtain⟨mH,rfl,bD⟩:=qa Tm.cells Tm.cq aY λx ag=>ys n (hK x ag).2;obtain⟨Ui,rfl,cy⟩:=qa Tm.cells Tm.cq bN λx ag=>ys n (kY x ag).2;obtain⟨vg,rfl,ey⟩:=qa bb.cells bb.cq cN λx ag=>YZ (qh x ag).2;obtain⟨Uj,rfl,fm⟩:=qa Tm.cells Tm.cq eb λx ag=>ys n (uM x ag).2;obtain⟨avu,rfl,g8⟩:=qa Tm.cells Tm.cq fB λx ag=>ys n (GI x ag).2;obtain⟨avv,rfl,rT⟩:=qa cA.cells (λs=>s.name.size<=140737488351232/\s.f.cq) oY λx ag=>avs (GM x ag).2;exact⟨⟨w1,lH,mH,Ui,vg,Uj,avu,avv⟩,by simp only[aC.d,bl,aQ,az,b1,Tm.mo];rfl,⟨w2,bC,bD,cy,ey,fm,g8,rT⟩⟩
end Go.Am
