/- Laws, on data. No condition. -/
import Derived.Test.YthnecpgodmolaaaGreatDoorLaws
import Derived.Test.YthnecpgodmolaaaGreatDoorEngS
import Derived.Test.YthnecpgodmolaaaGreatDoorEngC
import Derived.Test.YthnecpgodmolaaaGreatDoorCode
import Derived.Test.YthnecpgodmolaaaGreatDoorEngD
set_option linter.all false
set_option linter.unnecessarySimpa false
namespace Go.Am
structure cw where
 name:ByteArray
 f:Fm
def cw.cells(d:cw):List D:=[aC d.name,J d.f.op,J d.f.e.op,J d.f.e.num,aC d.f.e.name,cl 4 d.f.e.nl (Tm.rows d.f.e.aT),cl 6 d.f.nl (Fm.rows d.f.aT)]
def az(l:List Tm):D:= .ax 4 (Tm.rows l)
def b3(l:List cw):D:= .ax 7 (l.map cw.cells)
def ob{l:List Tm}{i:Nat}{t:Tm}(h:l[i]?=some t):bn 4 (az l) (J (i:Int))=some t.cells:=by simp[az,Tm.FC h]
def hy(l:List Tm):bK (az l)=some (J l.length):=by simp[az]
def l8{l:List cw}{i:Nat}{t:cw}(h:l[i]?=some t):bn 7 (b3 l) (J (i:Int))=some t.cells:=by simp[b3,h]
def iH(l:List cw):bK (b3 l)=some (J l.length):=by simp[b3]
def cw.d(d:cw):D:= .agg d.cells
theorem cw.NG(d:cw):a3 true 7 0 d.cells=some d.d:=rfl
theorem cw.g6(d:cw):a3 true 6 1 d.cells=some d.f.d:=by rw[Fm.j7];rfl
theorem cw.gd(d:cw):a3 false 1 0 d.cells=some (aC d.name):=rfl
def cw.agg(d:cw):a4 7 d.d=true:=by unfold cw.d cw.cells;simp[ZY]
theorem cw.a8(d:cw):ad d.d 0=aC d.name:=rfl
theorem cw.bP(d:cw):ad d.d 1=J d.f.op:=rfl
theorem cw.b6(d:cw):ad d.d 2=J d.f.e.op:=rfl
theorem cw.cA(d:cw):ad d.d 3=J d.f.e.num:=rfl
theorem cw.dC(d:cw):ad d.d 4=aC d.f.e.name:=rfl
theorem cw.eC(d:cw):ad d.d 5=cl 4 d.f.e.nl (Tm.rows d.f.e.aT):=rfl
theorem cw.eD(d:cw):ad d.d 6=cl 6 d.f.nl (Fm.rows d.f.aT):=rfl
structure aD where
 vars:List V
 aR:List bc
 bR:List Tm
 bT:List Tm
 next:List bc
 trans:List Tm
 bW:List Tm
 bG:List cw
def aD.d(m:aD):D:= .agg [bl m.vars,aQ m.aR,az m.bR,az m.bT,aQ m.next,az m.trans,az m.bW,b3 m.bG]
section
variable(m:aD)
theorem aD.a8:ad m.d 0=bl m.vars:=rfl
theorem aD.bP:ad m.d 1=aQ m.aR:=rfl
theorem aD.b6:ad m.d 2=az m.bR:=rfl
theorem aD.cA:ad m.d 3=az m.bT:=rfl
theorem aD.dC:ad m.d 4=aQ m.next:=rfl
theorem aD.eC:ad m.d 5=az m.trans:=rfl
theorem aD.eD:ad m.d 6=az m.bW:=rfl
theorem aD.eX:ad m.d 7=b3 m.bG:=rfl
theorem aD.agg:a4 8 m.d=true:=rfl
theorem aD.eta:D.agg [bl m.vars,aQ m.aR,az m.bR,az m.bT,aQ m.next,az m.trans,az m.bW,b3 m.bG]=m.d:=rfl
end
def aeh:∀l:List Tm,n9 l=l.map gI
 |[]=>rfl|k::r=>by rw[n9,aeh r];rfl
theorem DM(t:Tm):gI t= .mk t.op t.num t.name false (t.aT.map gI):=by cases t;rw[gI,aeh];rfl
def UN(t:Tm):(gI t).bm=t.bm:=by
 refine Tm.ind (P:=λt=>(gI t).bm=t.bm) ?_ t;intro t ih;have key:∀l:List Tm,(∀k∈l,(gI k).bm=k.bm)->Tm.ds (l.map gI)=Tm.ds l:=by
  intro l
  induction l with
  |nil=>intro _;rfl
  |cons a r l4=>intro h;simp only[xaA,Tm.ds];rw[h a (by simp),l4 λk ak=>h k (by simp[ak])]
 rw[Tm.At,Tm.At t,DM];show 2+Tm.ds (t.aT.map gI)=_;rw[key _ ih]
def ava(t:Tm):t.cm->(gI t).cm:=by
 refine Tm.ind (P:=λt=>t.cm->(gI t).cm) ?_ t;intro t ih bk;rw[DM];have b5:=bk.len;obtain⟨dE,di,eY⟩:(-9223372036854775808<=t.op/\t.op<=9223372036854775807)/\(-9223372036854775808<=t.num/\t.num<=9223372036854775807)/\t.name.size<=140737488355328:=by cases bk with|mk o n s b ks aG aL aH ar ak=>exact⟨aG,aL,aH⟩
 refine .mk _ _ _ _ _ dE di eY (by simpa using b5) ?_;intro k ak;obtain⟨bs,fO,rfl⟩:=xax.1 ak;exact ih bs fO (bk.gz fO)
end Go.Am
attribute [simp] Go.Am.alF
namespace Go.Am
section
variable{bt:Bool}{a b:Int}
@[simp] theorem aBx:ai bt .lss (pt a) (.val (.int .u8 b))=some (ay (decide (a<b))):=rfl
@[simp] theorem NH:ai bt .leq (pt a) (.val (.int .u8 b))=some (ay (decide (a<=b))):=rfl
@[simp] theorem aBy:ai bt .gtr (pt a) (.val (.int .u8 b))=some (ay (decide (a>b))):=rfl
@[simp] theorem NI:ai bt .geq (pt a) (.val (.int .u8 b))=some (ay (decide (a>=b))):=rfl
@[simp] theorem avb:ai bt .eql (pt a) (.val (.int .u8 b))=some (ay (a==b)):=rfl
end
def NJ{s:ByteArray}{i:Nat}{b:UInt8}(h:s[i]?=some b):nU (aC s) (J (i:Int))=some (pt b.toNat):=by simp[nU,aC,J,JZ,h,nS,pt]
def aei{s:ByteArray}{b:UInt8}(h:s[0]?=some b):nU (aC s) (J 0)=some (pt b.toNat):=NJ (i:=0) h
theorem aej(n:Nat)(c:Int):y4 n [pt c]=some (ay (sU c)):=by simp only[y4,Z8,sU,NI,NH,eL];cases decide (c>=97)<;>cases decide (c<=122)<;>cases decide (c>=65)<;>cases decide (c<=90)<;>rfl
theorem avc(n:Nat)(c:Int):FP n [pt c]=some (ay (yp c)):=by simp only[FP,Z9,yp,NI,NH,eL];cases decide (c>=48)<;>cases decide (c<=57)<;>rfl
theorem aek(n:Nat)(c:Int):FQ n [pt c]=some (ay (mU c)):=by simp only[FQ,aaa,mU,aej,avc,avb,eL];cases sU c<;>cases yp c<;>cases(c==95)<;>rfl
theorem ael(n:Nat)(c:Int):zN n [pt c]=some (ay (sU c)):=by simp only[zN,aa3,sU,NI,NH,eL];cases decide (c>=97)<;>cases decide (c<=122)<;>cases decide (c>=65)<;>cases decide (c<=90)<;>rfl
theorem avd(n:Nat)(c:Int):Hp n [pt c]=some (ay (yp c)):=by simp only[Hp,aa4,yp,NI,NH,eL];cases decide (c>=48)<;>cases decide (c<=57)<;>rfl
def aem(p:Int->Bool)(s:ByteArray):(∀j:Nat,j<nR p s->oz p s j=true)/\oz p s (nR p s)=false/\nR p s<=s.size:=by
 unfold nR;cases h:(List.range (s.size+1)).find? (λi=>!oz p s i)with
 |none=>
  exfalso;have ab:=List.find?_eq_none.1 h s.size (by simp);have:oz p s s.size=true:=by simpa using ab
  exact absurd (ajp this) (xbV _)
 |some m=>rw[List.find?_range_eq_some]at h;obtain⟨ab,af,aw⟩:=h;refine⟨λj aN=>by simpa using aw j aN,by simpa using ab,by show m<=s.size;simp at af;omega⟩
def aen{p:Int->Bool}{s:ByteArray}{i:Nat}(h:oz p s i=true):∃b:UInt8,s[i]?=some b/\p b.toNat=true:=by
 unfold oz at h;split at h;.exact⟨_,by assumption,h⟩
 cases h
def aeo{p:Int->Bool}{s:ByteArray}{i:Nat}(h:oz p s i=false):(s[i]?=none/\s.size<=i)\/∃b:UInt8,s[i]?=some b/\i<s.size/\p b.toNat=false:=by
 unfold oz at h;split at h
 .rename_i b aj;refine .inr ⟨b,aj,?_,h⟩;rw[KS]at aj;by_cases ab:i<s.size;.exact ab
  rw[dif_neg ab]at aj;cases aj
 rename_i aj;refine .inl ⟨aj,?_⟩;rw[KS]at aj;by_cases ab:i<s.size;.rw[dif_pos ab]at aj;cases aj
 omega
def ave(n:Nat)(s:ByteArray)(aL:s.size<n)(aH:s.size<=9223372036854775807):Cc n [aC s,.val (.func (.func FG) #[] #[])]=some (J (nR mU s)):=by
 obtain⟨ab,af,aw⟩:=aem mU s;have key:bp (FR n) n [aC s,J 0]=some (.inl [J (nR mU s)]):=by
  refine nu (λi=>[aC s,J i]) (nR mU s) rfl ?_ ?_ (by omega);.intro i ah;obtain⟨b,aj,aU⟩:=aen (ab i ah);simp(disch:=omega) [FR,NJ aj,aek,aU,gy,show i<s.size by omega]
  rcases aeo af with⟨aj,aU⟩|⟨b,aj,cu,aU⟩;.simp[FR,show¬(nR mU s<s.size) by omega]
  simp[FR,NJ aj,aek,aU,cu]
 simp[Cc,RY,key]
def avf(n:Nat)(s:ByteArray)(aL:s.size<n)(aH:s.size<=9223372036854775807):Hr n [aC s,J 0,ay false]=some (J (nR mU s)):=by
 obtain⟨ab,af,aw⟩:=aem mU s;have one:∀(i:Nat)(b:UInt8),s[i]?=some b->i<s.size->Hq n [aC s,J i,ay false]=if mU b.toNat=true then some (.inl [aC s,J (i+1:Nat),ay false])else some (.inr (.inl [J i])):=by intro i b aj ah;simp(disch:=omega) [Hq,NJ aj,avd,ael,mU,gy,ah];by_cases avg:((b.toNat:Int)=95)<;>cases yp b.toNat<;>cases sU b.toNat<;>simp[avg]
 have key:bp (Hq n) n [aC s,J 0,ay false]=some (.inl [J (nR mU s)]):=by
  refine nu (λi=>[aC s,J i,ay false]) (nR mU s) rfl ?_ ?_ (by omega);.intro i ah;obtain⟨b,aj,aU⟩:=aen (ab i ah);rw[one i b aj (by omega),xad aU]
  rcases aeo af with⟨aj,aU⟩|⟨b,aj,cu,aU⟩;.simp[Hq,show¬(nR mU s<s.size) by omega]
  rw[one _ b aj cu,xaa (by simp[aU])]
 simp[Hr,aa5,key]
def xI(p:Nat->Prop)[DecidablePred p]:∀m:Nat,(∀j:Nat,j<m->¬p j)\/∃i,i<m/\p i/\∀j:Nat,j<i->¬p j
 |0=> .inl (by intro j aN;omega)
 |m+1=>by
  rcases xI p m with h|⟨i,ab,af,aw⟩
  .by_cases hm:p m;.exact .inr ⟨m,by omega,hm,h⟩
   refine .inl λj aN=>?_;by_cases UO:j=m;.subst UO;exact hm
   exact h j (by omega)
  exact .inr ⟨i,by omega,af,aw⟩
def avh(n:Nat)(l:List ByteArray)(x:ByteArray)(aL:l.length<n)(ar:l.length<4000000000000000000):w6 n [bx l,aC x]=some (J (idxOf x l)):=by
 have step:∀(i:Nat)(y:ByteArray),l[i]?=some y->i<l.length->tg n [bx l,aC x,J l.length,J i]=if x=y then some (.inr (.inr (J i)))else some (.inl [bx l,aC x,J l.length,J (i+1:Nat)]):=by intro i y aP ah;obtain⟨_,rfl⟩:=xae.1 aP;simp(disch:=omega) [tg,bx,aP,ah,gy]
 rcases xI (λi=>l[i]?=some x) l.length with h|⟨i,ab,af,aw⟩
 .have key:bp (tg n) n [bx l,aC x,J l.length,J 0]=some (.inl []):=by
   refine nu (λi=>[bx l,aC x,J l.length,J i]) l.length rfl ?_ ?_ aL;.intro i ah;have aP:=xab ah;rw[step i _ aP ah,xaa];intro he;exact h i ah (by rw[aP,he])
   simp[tg]
  have e:(bx l)= .ax 1 (l.map λs=>[aC s]):=rfl;simp[w6,FT,X0 h];rw[e]at key⊢;simp[key]
 have key:bp (tg n) n [bx l,aC x,J l.length,J 0]=some (.inr (J i)):=by
  refine nu (λi=>[bx l,aC x,J l.length,J i]) i rfl ?_ ?_ (by omega);.intro j aN;have aP:=xab (show j<l.length by omega);rw[step j _ aP (by omega),xaa];intro he;exact aw j aN (by rw[aP,he])
  rw[step i x af ab,xad rfl]
 simp[w6,FT,X1 aw af];have e:(bx l)= .ax 1 (l.map λs=>[aC s]):=rfl;rw[e]at key⊢;simp[key]
def avi(n:Nat)(l:List ByteArray)(x:ByteArray)(aL:l.length<n)(ar:l.length<4000000000000000000):th n [bx l,aC x]=some (ay (has x l)):=by simp[th,LO,avh n l x aL ar,X2]
def avj(n:Nat)(l:List ByteArray)(x:ByteArray)(aL:l.length<n)(ar:l.length<4000000000000000000):CV n [bx l,aC x]=some (ay (has x l)):=by
 have step:∀(i:Nat)(y:ByteArray),l[i]?=some y->i<l.length->CU n [bx l,aC x,J i]=if y=x then some (.inr (.inr (ay true)))else some (.inl [bx l,aC x,J (i+1:Nat)]):=by intro i y aP ah;obtain⟨_,rfl⟩:=xae.1 aP;simp(disch:=omega) [CU,bx,aP,ah,gy]
 rcases xI (λi=>l[i]?=some x) l.length with h|⟨i,ab,af,aw⟩
 .have key:bp (CU n) n [bx l,aC x,J 0]=some (.inl []):=by
   refine nu (λi=>[bx l,aC x,J i]) l.length rfl ?_ ?_ aL;.intro i ah;have aP:=xab ah;rw[step i _ aP ah,xaa];intro he;exact h i ah (by rw[aP,he])
   simp[CU,bx]
  simp[CV,S6,key,X4 h]
 have key:bp (CU n) n [bx l,aC x,J 0]=some (.inr (ay true)):=by
  refine nu (λi=>[bx l,aC x,J i]) i rfl ?_ ?_ (by omega);.intro j aN;have aP:=xab (show j<l.length by omega);rw[step j _ aP (by omega),xaa];intro he;exact aw j aN (by rw[aP,he])
  rw[step i x af ab,xad rfl]
 simp[CV,S6,key,X3 af]
theorem avk(n:Nat):MK n []=some (bx words):=rfl
theorem avl:(D.ax 1 (FF.map λc=>[c]))=bx words:=rfl
def UP(n:Nat)(s:ByteArray)(aL:s.size+24<n)(aH:s.size<=9223372036854775807):ti n [aC s]=some (ay (isName s)):=by
 have hw:words.length=24:=rfl;have ab:=ave n s (by omega) aH;have af:=avi n words s (by omega) (by omega);rcases X5 s with⟨dP,bC⟩|⟨b,dP,bC,aj⟩
 .simp[ti,RZ,dP,isName,bC]
 simp only[ti,RZ,isName,oz,aj,aei aj,aej,ab,af,avl,Zv,dP,bC,RB,Lq,BS,BU,eL];cases decide ((s.size:Int)<=24)<;>cases sU b.toNat<;>cases((nR mU s:Int)==(s.size:Int))<;>cases has s words<;>rfl
def UQ(n:Nat)(s:ByteArray)(aL:s.size+24<n)(aH:s.size<=9223372036854775807):tE n [aC s]=some (ay (isName s)):=by
 have hw:words.length=24:=rfl;have ab:=avf n s (by omega) aH;have af:=avj n words s (by omega) (by omega);rcases X5 s with⟨dP,bC⟩|⟨b,dP,bC,aj⟩
 .simp only[tE,S7,RB,BR,eL,bC];simp[isName,bC]
 simp only[tE,S7,isName,oz,aj,aei aj,ael,ab,af,avk,bC,RB,Lq,BR,BS,BU,eL];cases decide ((s.size:Int)<=24)<;>cases sU b.toNat<;>cases((nR mU s:Int)==(s.size:Int))<;>cases has s words<;>rfl
def avm(n:Nat)(w v:V):Cd n [w.d,.ref v.cells 0]=some (ay (decide (w.name=v.name))):=by simp[Cd,R0,V.d,V.cells]
def avn(n:Nat)(l:List V)(v:V)(aL:l.length<n)(ar:l.length<4000000000000000000):y6 n [bl l,.fn (.func tb) [] [.ref v.cells 0]]=some (J (idxOf v.name (l.map V.name))):=by
 have hle:(l.map V.name).length=l.length:=by simp
 have step:∀(i:Nat)(y:V),l[i]?=some y->i<l.length->y5 n [bl l,.ref v.cells 0,J l.length,J i]=if y.name=v.name then some (.inr (.inr (J i)))else some (.inl [bl l,.ref v.cells 0,J l.length,J (i+1:Nat)]):=by intro i y aP ah;obtain⟨_,rfl⟩:=xae.1 aP;have ab:=avm n l[i] v;simp only[V.d,V.cells]at ab;simp(disch:=omega) [y5,bl,ah,gy,V.cells,ab]
 have bJ:∀x,y6 n [bl l,.fn (.func tb) [] [x]]=aa (bp (y5 n) n [bl l,x,J l.length,J 0]) (a9 λls=>some (J (-1))):=by intro x;simp only[y6,qu,R1];simp[bl]
 rw[bJ];rcases xI (λi=>(l.map V.name)[i]?=some v.name) l.length with h|⟨i,ab,af,aw⟩
 .have key:bp (y5 n) n [bl l,.ref v.cells 0,J l.length,J 0]=some (.inl []):=by
   refine nu (λi=>[bl l,.ref v.cells 0,J l.length,J i]) l.length rfl ?_ ?_ aL;.intro i ah;have aP:=xab ah;rw[step i _ aP ah,xaa];intro he;exact h i ah (by rw[xaj,aP,<-he];rfl)
   simp[y5]
  rw[key,X0 (by rw[hle];exact h)];rfl
 have key:bp (y5 n) n [bl l,.ref v.cells 0,J l.length,J 0]=some (.inr (J i)):=by
  refine nu (λi=>[bl l,.ref v.cells 0,J l.length,J i]) i rfl ?_ ?_ (by omega);.intro j aN;have aP:=xab (show j<l.length by omega);rw[step j _ aP (by omega),xaa];intro he;exact aw j aN (by rw[xaj,aP,<-he];rfl)
  have aP:=xab ab;rw[step i _ aP ab,xad];rw[xaj,aP]at af;simpa using af
 rw[key,X1 aw af];rfl
def avo(n:Nat)(l:List V)(v:V)(aL:l.length<n)(ar:l.length<4000000000000000000):Ce n [bl l,.fn (.func tb) [] [.ref v.cells 0]]=some (ay (has v.name (l.map V.name))):=by simp only[Ce,qu,R2,avn n l v aL ar];simp[X2]
def UR{k:Nat}{es:List (List D)}{i:Nat}(h:i<=es.length):rk k (.ax k es) none (some (J (i:Int)))=some (.ax k (es.take i)):=by simp[rk,rj,J,h]
def US(v:V):Bool:=v.bool&&(v.lo !=0||v.ah !=0)
def UT(v:V):Bool:=!v.bool&&(decide (v.lo>v.ah)||wD v||decide (IntKind.i64.wrap (v.ah-v.lo)>=64))
theorem aep(seen:List V)(v:V):Bz seen v=if !isName v.name then 12 else if has v.name (seen.map V.name)then 6 else if US v then 3 else if UT v then 2 else 0:=rfl
def Av(l:List V):Prop:=l.length<1000000000000/\∀v∈l,oy v.lo/\oy v.ah/\v.name.size<=9223372036854775807
def UU(n:Nat)(l:List V)(ar:Av l)(aL:l.length<n)(kZ:∀v∈l,v.name.size+24<n)(i:Nat)(ah:i<l.length):y7 n [bl l,bl l,J l.length,J i]=if jo l i=0 then some (.inl [bl l,bl l,J l.length,J (i+1:Nat)])else some (.inr (.inr (.a1 [J i,J (jo l i)]))):=by
 have aP:=xab ah;have a6:=ar.2 _ (xaY ah);have b5:=ar.1;have e:jo l i=Bz (l.take i) l[i]:=by simp only[jo,aP]
 rw[e];generalize hw:l[i]=v at*;have ab:=UP n v.name (kZ v (hw▸xaY ah)) (by omega);have af:=avo n (l.take i) v (by rw[xbp];omega) (by rw[xbp];omega);have aw:rk 4 (bl l) none (some (J (i:Int)))=some (bl (l.take i)):=by rw[bl,UR (by simp;omega),List.map_take.symm];rfl
 have a5:bn 4 (bl l) (J (i:Int))=some v.cells:=by simp[bl,aP,hw]
 have ca:ai false .lss (J (i:Int)) (J (l.length:Int))=some (ay true):=by simp[ah]
 have cP:ai false .add (J (i:Int)) (J 1)=some (J (i+1:Nat)):=by rw[gy (by omega) (by omega)];rfl
 have gE:ai false .sub (J v.ah) (J v.lo)=some (J (IntKind.i64.wrap (v.ah-v.lo))):=rfl;have hZ:a3 true 4 0 v.cells=some v.d:=rfl;have jL:a4 4 v.d=true:=rfl;have a8:ad v.d 0=aC v.name:=rfl;have bP:ad v.d 1=ay v.bool:=rfl;have b6:ad v.d 2=J v.lo:=rfl;have cA:ad v.d 3=J v.ah:=rfl;have dC:(D.ref [aC v.name,ay v.bool,J v.lo,J v.ah] 0)= .ref v.cells 0:=rfl;have aV:wD v=(decide ((if v.ah>v.lo then v.ah else v.lo)>255)||decide ((if v.ah<v.lo then v.ah else v.lo)< -255)):=rfl;rw[aep];simp only[y7,n1,pE,ca,eL,l0,xaH,a5,hZ,jL,s6,a8,bP,b6,cA,dC,ZI,ZJ,ab,af,aw,BU,oL,Fw,ZK,BT,cP,gE,BR];rw[US,UT,aV];cases isName v.name
 .cases decide ((if v.ah>v.lo then v.ah else v.lo)>255)<;>simp
 cases has v.name ((l.take i).map V.name)
 rotate_left
 .cases decide ((if v.ah>v.lo then v.ah else v.lo)>255)<;>simp
 generalize decide ((if v.ah>v.lo then v.ah else v.lo)>255)=dE;generalize decide ((if v.ah<v.lo then v.ah else v.lo)< -255)=di;generalize decide (v.lo>v.ah)=eY;generalize decide (IntKind.i64.wrap (v.ah-v.lo)>=64)=jn;generalize (v.lo !=0)=lu;generalize (v.ah !=0)=pr;cases v.bool<;>cases dE<;>cases di<;>cases eY<;>cases jn<;>cases lu<;>cases pr<;>rfl
def avp(n:Nat)(l:List V)(ar:Av l)(aL:l.length<n)(kZ:∀v∈l,v.name.size+24<n):Cf n [bl l]=some (.a1 [J (kl l).1,J (kl l).2]):=by
 have bJ:Cf n [bl l]=aa (bp (y7 n) n [bl l,bl l,J l.length,J 0]) (a9 λls=>some (D.a1 [J 0,J 0])):=by simp[Cf,aab,bl]
 rw[bJ];rcases xI (λi=>jo l i≠0) l.length with h|⟨i,ab,af,aw⟩
 .have bD:∀j:Nat,j<l.length->jo l j=0:=λj aN=>by simpa using h j aN
  have key:bp (y7 n) n [bl l,bl l,J l.length,J 0]=some (.inl []):=by
   refine nu (λi=>[bl l,bl l,J l.length,J i]) l.length rfl ?_ ?_ aL;.intro i ah;rw[UU n l ar aL kZ i ah,xad (bD i ah)]
   simp[y7]
  rw[key,X7 bD];rfl
 have bD:∀j:Nat,j<i->jo l j=0:=λj aN=>by simpa using aw j aN
 have key:bp (y7 n) n [bl l,bl l,J l.length,J 0]=some (.inr (.a1 [J i,J (jo l i)])):=by
  refine nu (λi=>[bl l,bl l,J l.length,J i]) i rfl ?_ ?_ (by omega);.intro j aN;rw[UU n l ar aL kZ j (by omega),xad (bD j aN)]
  rw[UU n l ar aL kZ i ab,xaa af]
 rw[key,X6 bD ab rfl af];rfl
@[simp] theorem aeq {a:Int}:km .u64 (J a)=some (.val (.int .u64 (IntKind.u64.wrap a))):=rfl
theorem NK{k:IntKind}{a:Int}:km .i64 (.val (.int k a))=some (J (IntKind.i64.wrap a)):=rfl
def avq(n:Nat)(v:V)(ab:oy v.lo)(af:oy v.ah):FV n [v.d]=some (J v.span):=by
 have bP:ad v.d 1=ay v.bool:=rfl;have b6:ad v.d 2=J v.lo:=rfl;have cA:ad v.d 3=J v.ah:=rfl;have jL:a4 4 v.d=true:=rfl;simp only[FV,aac,jL,s6,bP,b6,cA,l0,oL,eL,aeq,NK];cases aj:v.bool with
 |true=>simp[V.XY aj]
 |false=>
  by_cases cu:v.lo>v.ah;.simp[V.XZ aj cu,cu]
  have hle:v.lo<=v.ah:=by omega
  have aJ:ai false .sub (.val (.int .u64 (IntKind.u64.wrap v.ah))) (.val (.int .u64 (IntKind.u64.wrap v.lo)))=some (.val (.int .u64 (v.ah-v.lo))):=by show some (D.val (.int .u64 (IntKind.u64.wrap (IntKind.u64.wrap v.ah-IntKind.u64.wrap v.lo))))=_;rw[XX ab af hle]
  have aZ:ai false .lss (.val (.int .u64 (v.ah-v.lo))) (.val (.int .u64 1073741824))=some (ay (decide (v.ah-v.lo<1073741824))):=rfl;simp only[cu,xbU,xav,xaI,aJ,aZ,eL,l0];by_cases hm:v.ah-v.lo<1073741824;.rw[V.Qh aj hle hm];simp only[hm,xbi,xaH,NK,eL,wrap64 _ (show-9223372036854775808<=v.ah-v.lo by omega) (by omega)];rw[gy (by omega) (by omega)];rfl
  rw[V.Qi aj hle (by omega)];simp[hm]
def aer(n:Nat)(v:V)(ab:oy v.lo)(af:oy v.ah):zO n [v.d]=some (J v.span):=by
 have bP:ad v.d 1=ay v.bool:=rfl;have b6:ad v.d 2=J v.lo:=rfl;have cA:ad v.d 3=J v.ah:=rfl;have jL:a4 4 v.d=true:=rfl;simp only[zO,aa7,jL,s6,bP,b6,cA,l0,oL,eL,aeq];cases aj:v.bool with
 |true=>simp[V.XY aj]
 |false=>
  by_cases cu:v.lo>v.ah;.simp[V.XZ aj cu,cu]
  have hle:v.lo<=v.ah:=by omega
  have aJ:ai false .sub (.val (.int .u64 (IntKind.u64.wrap v.ah))) (.val (.int .u64 (IntKind.u64.wrap v.lo)))=some (.val (.int .u64 (v.ah-v.lo))):=by show some (D.val (.int .u64 (IntKind.u64.wrap (IntKind.u64.wrap v.ah-IntKind.u64.wrap v.lo))))=_;rw[XX ab af hle]
  have aZ:ai false .gtr (.val (.int .u64 (v.ah-v.lo))) (.val (.int .u64 1073741824))=some (ay (decide (v.ah-v.lo>1073741824))):=rfl;simp only[cu,xbU,xav,xaI,aJ,aZ,eL,l0];by_cases hm:v.ah-v.lo>1073741824;.rw[V.Qi aj hle (by omega)];simp only[hm,xbi,xaH,eL,qs,n1,NK];rfl
  simp only[hm,xbU,xav,xaI,eL,qs,n1,NK,wrap64 _ (show-9223372036854775808<=v.ah-v.lo by omega) (by omega)];rw[gy (by omega) (by omega)];simp only[eL];by_cases he:v.ah-v.lo=1073741824;.rw[V.Qi aj hle (by omega),he];rfl
  rw[V.Qh aj hle (by omega)]
def V.IQ(v:V):0<=v.span/\v.span<=1073741825:=by
 unfold V.span;split;.omega
 split;.omega
 split<;>omega
def avr{i:Nat}(h:i<=62):((2:Int)^i)<=4611686018427387904/\0<(2:Int)^i:=by
 have ab:(2:Nat)^i<=2^62:=Nat.pow_le_pow_right (by omega) h;have aw:((2^i:Nat):Int)=2^i:=by simp
 have af:(0:Int)<2^i:=Int.pow_pos (by omega);omega
def aes{bt:Bool}{i:Nat}(h:i<=62):ai bt .shl (J 1) (J (i:Int))=some (J ((2:Int)^i)):=by
 have avs:¬((i:Int)<0):=by omega
 have hm:min i IntKind.i64.bits=i:=by simp[IntKind.bits];omega
 obtain⟨ab,af⟩:=avr h;have e:IntKind.i64.wrap (1*2^(min i IntKind.i64.bits))=2^i:=by rw[hm,Int.one_mul];exact wrap64 _ (by omega) (by omega)
 simp only[ai,J,nS,avs,xaI,Int.toNat_natCast];rw[e]
def DN{n:Int}(h:n<=1073741825):bitsOf n<=62/\(∀j:Nat,j<bitsOf n->(2:Int)^j<n)/\n<=2^bitsOf n:=by
 rcases xI (λi=>n<=(2:Int)^i) 40 with ab|⟨i,ab,af,aw⟩;.exact absurd h (by have:=ab 39 (by omega);simp at this;omega)
 have iS:∀j:Nat,j<i->(2:Int)^j<n:=λj aN=>by have:=aw j aN;omega
 rw[ajo iS af];exact⟨by omega,iS,af⟩
def avt(n:Nat)(k:Int)(ak:k<=1073741825)(aL:63<n):FW n [J k]=some (J (bitsOf k)):=by
 obtain⟨ab,af,aw⟩:=DN ak;have key:bp (LP n) n [J k,J 0]=some (.inr (J (bitsOf k))):=by
  refine nu (λi=>[J k,J i]) (bitsOf k) rfl ?_ ?_ (by omega);.intro i ah;have:=af i ah;simp(disch:=omega) [LP,aes,gy,show((i:Int)<63) by omega,show¬(k<=(2:Int)^i) by omega]
  simp(disch:=omega) [LP,aes,show((bitsOf k:Int)<63) by omega,aw]
 simp[FW,aad,key]
def avu(n:Nat)(k:Int)(au:-1000<=k)(ak:k<=1073741825)(aL:63<n):Hv n [J k]=some (J (bitsOf k)):=by
 have key:∀(m:Nat)(k:Int)(acc fS:Nat),bitsOf k=m->k<=1073741825->acc+m<=1000->m<fS->bp (ML n) fS [J k,J acc]=some (.inl [J (acc+m:Nat)]):=by
  intro m
  induction m with
  |zero=>
   intro k acc fS hm ak aF PK;obtain⟨fS,rfl⟩:∃q,fS=q+1:=⟨fS-1,by omega⟩;have wS:¬k>1:=by intro ao;have:=XW ao;omega
   rw[jN];simp[ML,wS]
  |succ m ih=>
   intro k acc fS hm ak aF PK;obtain⟨fS,rfl⟩:∃q,fS=q+1:=⟨fS-1,by omega⟩;have wS:k>1:=by
    refine xbC λao=>?_;have:bitsOf k=0:=by unfold bitsOf;rw[xad (by omega)]
    omega
   have bI:=XW wS;have aJ:k.tdiv 2=k/2:=Int.tdiv_eq_ediv_of_nonneg (by omega);have aZ:k.tmod 2=k%2:=Int.tmod_eq_emod_of_nonneg (by omega);have hle:=(DN ak).1;have xV:=ih (k/2+k%2) (acc+1) fS (by omega) (by omega) (by omega) (by omega);rw[jN];simp(disch:=omega) [ML,wS,Zu,alN,aJ,aZ,wrap64,gy];have bN:((acc:Int)+1)=((acc+1:Nat):Int):=by omega
   rw[bN,xV]
   congr 4
   omega
 have:=key (bitsOf k) k 0 n rfl ak (by have:=(DN ak).1;omega) (by have:=(DN ak).1;omega);simp only[xaw]at this;have e:(J ((0:Nat):Int))=J 0:=rfl;rw[e]at this;simp[Hv,aa8,this]
theorem aet(n:Nat)(k:Int):CW n [J k]=some (ay (decide (k>=-255)&&decide (k<=255))):=by simp only[CW,aa6,BR,Lq,eL];cases decide (k>=-255)<;>cases decide (k<=255)<;>rfl
def UW(n:Nat)(l:List V)(i k:Nat)(ah:i<l.length)(ak:k<i)(b5:l.length<1000000000000):Hs n [bl l,J i,J k]=if(l[k]'(by omega)).name=l[i].name then some (.inr (.inr (.inr (.inr (.inr (.a1 [J i,J 6]))))))else some (.inl [bl l,J i,J (k+1:Nat)]):=by
 have rf:k<l.length:=by omega
 have ab:l[k]?=some l[k]:=xab rf;have af:l[i]?=some l[i]:=xab ah;simp(disch:=omega) [Hs,bl,ak,gy,rf,ah,V.cells]
def avv(n:Nat)(l:List V)(i:Nat)(ah:i<l.length)(b5:l.length<1000000000000)(aL:l.length<n):bp (Hs n) n [bl l,J i,J 0]=if has l[i].name ((l.take i).map V.name)=true then some (.inr (.inr (.inr (.inr (.a1 [J i,J 6])))))else some (.inl [bl l,J i]):=by
 rcases xI (λk=>(l.map V.name)[k]?=some l[i].name) i with h|⟨k,ab,af,aw⟩
 .rw[ajr h,xaa (by simp)];refine nu (λk=>[bl l,J i,J k]) i rfl ?_ ?_ (by omega);.intro k ak;rw[UW n l i k ah ak b5,xaa];intro he;refine h k ak ?_;rw[xaj,xab (show k<l.length by omega),<-he];rfl
  simp[Hs]
 have oH:k<l.length:=by omega
 have hw:=xab oH;have KH:(l[k]).name=l[i].name:=by rw[xaj,hw]at af;simpa using af
 rw[<-KH,ajs ab hw,xad rfl];refine nu (λk=>[bl l,J i,J k]) k rfl ?_ ?_ (by omega);.intro j aN;rw[UW n l i j ah (by omega) b5,xaa];intro he;refine aw j aN ?_;rw[xaj,xab (show j<l.length by omega),<-he];rfl
 rw[UW n l i k ah ab b5,xad KH]
def UX(n:Nat)(l:List V)(ar:Av l)(aL:l.length<n)(kZ:∀v∈l,v.name.size+24<n)(i:Nat)(ah:i<l.length):zP n [bl l,J i]=if jo l i=0 then some (.inl [bl l,J (i+1:Nat)])else some (.inr (.inr (.a1 [J i,J (jo l i)]))):=by
 have aP:=xab ah;have a6:=ar.2 _ (xaY ah);have b5:=ar.1;have gE:=avv n l i ah ar.1 aL;have e:jo l i=Bz (l.take i) l[i]:=by simp only[jo,aP]
 rw[e];generalize hw:l[i]=v at*;have ab:=UQ n v.name (kZ v (hw▸xaY ah)) (by omega);have a5:bn 4 (bl l) (J (i:Int))=some v.cells:=by simp[bl,aP,hw]
 have ca:ai false .lss (J (i:Int)) (J (l.length:Int))=some (ay true):=by simp[ah]
 have avw:bK (bl l)=some (J l.length):=by simp[bl]
 have cP:ai false .add (J (i:Int)) (J 1)=some (J (i+1:Nat)):=by rw[gy (by omega) (by omega)];rfl
 have hZ:a3 true 4 0 v.cells=some v.d:=rfl;have a8:a3 false 1 0 v.cells=some (aC v.name):=rfl;have bP:a3 false 1 1 v.cells=some (ay v.bool):=rfl;have b6:a3 false 1 2 v.cells=some (J v.lo):=rfl;have cA:a3 false 1 3 v.cells=some (J v.ah):=rfl;have jL:=aer n v a6.1 a6.2.1;rw[aep];rw[show UT v=_ from ajq ⟨a6.1,a6.2.1,by omega⟩];simp only[zP,n1,pE,avw,ca,eL,l0,xaH,a5,hZ,a8,bP,b6,cA,ab,gE,BU,oL,Fw,BT,cP,BR,aet,jL];rw[US];cases isName v.name
 .simp
 cases has v.name ((l.take i).map V.name)
 rotate_left
 .simp
 simp only[Bool.not_true,xav,xaI,eL,qs,n1,pE,a5,hZ,a8,bP,b6,cA,oL,BT,aet,jL,BU];generalize (decide (v.lo>=-255)&&decide (v.lo<=255))=dE;generalize (decide (v.ah>=-255)&&decide (v.ah<=255))=di;generalize decide (v.lo>v.ah)=eY;generalize decide (v.span>64)=jn;generalize (v.lo !=0)=lu;generalize (v.ah !=0)=pr;cases v.bool<;>cases dE<;>cases di<;>cases eY<;>cases jn<;>cases lu<;>cases pr<;>simp[cP]
def avx(n:Nat)(l:List V)(ar:Av l)(aL:l.length<n)(kZ:∀v∈l,v.name.size+24<n):Hu n [bl l]=some (.a1 [J (kl l).1,J (kl l).2]):=by
 have bJ:Hu n [bl l]=aa (bp (zP n) n [bl l,J 0]) (a9 λls=>some (D.a1 [J 0,J 0])):=rfl;rw[bJ];rcases xI (λi=>jo l i≠0) l.length with h|⟨i,ab,af,aw⟩
 .have bD:∀j:Nat,j<l.length->jo l j=0:=λj aN=>by simpa using h j aN
  have key:bp (zP n) n [bl l,J 0]=some (.inl []):=by
   refine nu (λi=>[bl l,J i]) l.length rfl ?_ ?_ aL;.intro i ah;rw[UX n l ar aL kZ i ah,xad (bD i ah)]
   simp[zP,bl]
  rw[key,X7 bD];rfl
 have bD:∀j:Nat,j<i->jo l j=0:=λj aN=>by simpa using aw j aN
 have key:bp (zP n) n [bl l,J 0]=some (.inr (.a1 [J i,J (jo l i)])):=by
  refine nu (λi=>[bl l,J i]) i rfl ?_ ?_ (by omega);.intro j aN;rw[UX n l ar aL kZ j (by omega),xad (bD j aN)]
  rw[UX n l ar aL kZ i ab,xaa af]
 rw[key,X6 bD ab rfl af];rfl
def oc(l:List cw)(x:ByteArray):Option Nat:=l.findIdx? (λd=>decide (d.name=x))
def gO:Option Nat->Int
 |some i=>(i:Int)|none=>-1
def DO(o:Option Nat):decide (gO o>=0)=o.isSome:=by cases o with|none=>rfl|some i=>simp[gO]
def aeu(o:Option Nat):decide (gO o<0)=o.isNone:=by cases o with|none=>rfl|some i=>exact yF ((i:Int)<0)
def findIdx_cons{α:Type}(p:α->Bool)(a:α)(r:List α):(a::r).findIdx? p=if p a then some 0 else(r.findIdx? p).map (·+1):=by rw[xbY]
theorem V.nW(v:V):ad v.d 0=aC v.name:=rfl
theorem V.cK(v:V):a3 true 4 0 v.cells=some v.d:=rfl
theorem V.cS(v:V):a4 4 v.d=true:=rfl
theorem bc.nW(v:bc):ad v.d 0=aC v.name:=rfl
theorem bc.c9(v:bc):a3 true 5 0 v.cells=some v.d:=rfl
def bc.hr(v:bc):a4 5 v.d=true:=by unfold bc.d bc.cells;simp
theorem cw.nW(v:cw):ad v.d 0=aC v.name:=rfl
theorem cw.dy(v:cw):a3 true 7 0 v.cells=some v.d:=rfl
def cw.rv(v:cw):a4 7 v.d=true:=cw.agg v
def avy(n:Nat)(d:V)(x:ByteArray):GL n [d.d,.ref [aC x] 0]=some (ay (decide (d.name=x))):=by show Mc n d.d [aC x]=_;simp only[Mc,go_sem,iV,V.cS,V.nW]
def avz(n:Nat)(l:List V)(x:ByteArray)(aL:l.length<n)(aj:l.length<1000000000):zu n [bl l,D.fn (.func rE) [] [.ref [aC x] 0]]=some (J (gO (fq l x))):=by
 have bJ:(J ((0:Nat):Int))=J 0:=rfl;have ah:=dD (f:=GM n) l (λi (_:Unit)=>[bl l,.ref [aC x] 0,J l.length,J (i:Int)]) (λr _=>match fq r x with|some j=>(Sum.inr (J ((l.length-r.length+j:Nat):Int)):List D⊕D)|none=> .inl []) (λ_ _=>True) ?_ ?_ n 0 () trivial (by omega) (xai _)
 .rw[bJ,xam,Nat.sub_self]at ah;have bI:zu n [bl l,D.fn (.func rE) [] [.ref [aC x] 0]]=GN n (bl l) (.ref [aC x] 0):=by
   simp only[zu,qu]
  rw[bI];cases bj:fq l x with|none=>rw[bj]at ah;simp only[GN,go_sem,fX,ah,gO]|some j=>rw[bj]at ah;simp only[xaw]at ah;simp only[GN,go_sem,fX,ah,gO]
 .intro _ _;have:fq [] x=none:=rfl;simp only[GM,go_sem,yF ((l.length:Int)<l.length),this]
 intro i a _ aF ah _;have cN:=yT ((i:Int)<(l.length:Int));have ao:fq (a::l.drop (i+1)) x=if decide (a.name=x)=true then some 0 else(fq (l.drop (i+1)) x).map (·+1):=findIdx_cons _ a _
 have e:l.length-(a::l.drop (i+1)).length=i:=by simp;omega
 have dw:l.length-(l.drop (i+1)).length=i+1:=by simp;omega
 have ab:=avy n a x;by_cases ag:a.name=x;.right;rw[xat ag]at ab ao;rw[ao,xad rfl,e];simp only[GM,go_sem,cN,ij aF,V.cK,ab,xbl]
 left;rw[xaE ag]at ab ao;rw[ao,xaa (by simp),e,dw];refine⟨(),?_,?_,trivial⟩;.simp only[GM,go_sem,cN,ij aF,V.cK,ab,b1 (bt:=false) (i:=i) (by omega)]
 cases fq (l.drop (i+1)) x with|none=>rfl|some j=>simp;omega
def avA(n:Nat)(l:List V)(x:ByteArray)(aL:l.length<n)(aj:l.length<1000000000):zv n [bl l,D.fn (.func rE) [] [.ref [aC x] 0]]=some (ay (fq l x).isSome):=by
 have bI:zv n [bl l,D.fn (.func rE) [] [.ref [aC x] 0]]=Md n (bl l) (.ref [aC x] 0):=by simp only[zv,qu]
 rw[bI];simp only[Md,go_sem,avz n l x aL aj,DO]
def avB(n:Nat)(d:bc)(x:ByteArray):GO n [d.d,.ref [aC x] 0]=some (ay (decide (d.name=x))):=by show Me n d.d [aC x]=_;simp only[Me,go_sem,iV,bc.hr,bc.nW]
def avC(n:Nat)(l:List bc)(x:ByteArray)(aL:l.length<n)(aj:l.length<1000000000):zw n [aQ l,D.fn (.func rF) [] [.ref [aC x] 0]]=some (J (gO (dt l x))):=by
 have bJ:(J ((0:Nat):Int))=J 0:=rfl;have ah:=dD (f:=GP n) l (λi (_:Unit)=>[aQ l,.ref [aC x] 0,J l.length,J (i:Int)]) (λr _=>match dt r x with|some j=>(Sum.inr (J ((l.length-r.length+j:Nat):Int)):List D⊕D)|none=> .inl []) (λ_ _=>True) ?_ ?_ n 0 () trivial (by omega) (xai _)
 .rw[bJ,xam,Nat.sub_self]at ah;have bI:zw n [aQ l,D.fn (.func rF) [] [.ref [aC x] 0]]=GQ n (aQ l) (.ref [aC x] 0):=by
   simp only[zw,qu]
  rw[bI];cases bj:dt l x with|none=>rw[bj]at ah;simp only[GQ,go_sem,ec,ah,gO]|some j=>rw[bj]at ah;simp only[xaw]at ah;simp only[GQ,go_sem,ec,ah,gO]
 .intro _ _;have:dt [] x=none:=rfl;simp only[GP,go_sem,yF ((l.length:Int)<l.length),this]
 intro i a _ aF ah _;have cN:=yT ((i:Int)<(l.length:Int));have ao:dt (a::l.drop (i+1)) x=if decide (a.name=x)=true then some 0 else(dt (l.drop (i+1)) x).map (·+1):=findIdx_cons _ a _
 have e:l.length-(a::l.drop (i+1)).length=i:=by simp;omega
 have dw:l.length-(l.drop (i+1)).length=i+1:=by simp;omega
 have ab:=avB n a x;by_cases ag:a.name=x;.right;rw[xat ag]at ab ao;rw[ao,xad rfl,e];simp only[GP,go_sem,cN,fs aF,bc.c9,ab,xbl]
 left;rw[xaE ag]at ab ao;rw[ao,xaa (by simp),e,dw];refine⟨(),?_,?_,trivial⟩;.simp only[GP,go_sem,cN,fs aF,bc.c9,ab,b1 (bt:=false) (i:=i) (by omega)]
 cases dt (l.drop (i+1)) x with|none=>rfl|some j=>simp;omega
def avD(n:Nat)(l:List bc)(x:ByteArray)(aL:l.length<n)(aj:l.length<1000000000):zx n [aQ l,D.fn (.func rF) [] [.ref [aC x] 0]]=some (ay (dt l x).isSome):=by
 have bI:zx n [aQ l,D.fn (.func rF) [] [.ref [aC x] 0]]=Mf n (aQ l) (.ref [aC x] 0):=by simp only[zx,qu]
 rw[bI];simp only[Mf,go_sem,avC n l x aL aj,DO]
def avE(n:Nat)(d:V)(x:ByteArray):Gz n [d.d,.ref [aC x] 0]=some (ay (decide (d.name=x))):=by show L5 n d.d [aC x]=_;simp only[L5,go_sem,iV,V.cS,V.nW]
def avF(n:Nat)(l:List V)(x:ByteArray)(aL:l.length<n)(aj:l.length<1000000000):zn n [bl l,D.fn (.func B7) [] [.ref [aC x] 0]]=some (J (gO (fq l x))):=by
 have bJ:(J ((0:Nat):Int))=J 0:=rfl;have ah:=dD (f:=GA n) l (λi (_:Unit)=>[bl l,.ref [aC x] 0,J l.length,J (i:Int)]) (λr _=>match fq r x with|some j=>(Sum.inr (J ((l.length-r.length+j:Nat):Int)):List D⊕D)|none=> .inl []) (λ_ _=>True) ?_ ?_ n 0 () trivial (by omega) (xai _)
 .rw[bJ,xam,Nat.sub_self]at ah;have bI:zn n [bl l,D.fn (.func B7) [] [.ref [aC x] 0]]=GB n (bl l) (.ref [aC x] 0):=by
   simp only[zn,qu]
  rw[bI];cases bj:fq l x with|none=>rw[bj]at ah;simp only[GB,go_sem,fX,ah,gO]|some j=>rw[bj]at ah;simp only[xaw]at ah;simp only[GB,go_sem,fX,ah,gO]
 .intro _ _;have:fq [] x=none:=rfl;simp only[GA,go_sem,yF ((l.length:Int)<l.length),this]
 intro i a _ aF ah _;have cN:=yT ((i:Int)<(l.length:Int));have ao:fq (a::l.drop (i+1)) x=if decide (a.name=x)=true then some 0 else(fq (l.drop (i+1)) x).map (·+1):=findIdx_cons _ a _
 have e:l.length-(a::l.drop (i+1)).length=i:=by simp;omega
 have dw:l.length-(l.drop (i+1)).length=i+1:=by simp;omega
 have ab:=avE n a x;by_cases ag:a.name=x;.right;rw[xat ag]at ab ao;rw[ao,xad rfl,e];simp only[GA,go_sem,cN,ij aF,V.cK,ab,xbl]
 left;rw[xaE ag]at ab ao;rw[ao,xaa (by simp),e,dw];refine⟨(),?_,?_,trivial⟩;.simp only[GA,go_sem,cN,ij aF,V.cK,ab,b1 (bt:=false) (i:=i) (by omega)]
 cases fq (l.drop (i+1)) x with|none=>rfl|some j=>simp;omega
def avG(n:Nat)(d:bc)(x:ByteArray):GC n [d.d,.ref [aC x] 0]=some (ay (decide (d.name=x))):=by show L6 n d.d [aC x]=_;simp only[L6,go_sem,iV,bc.hr,bc.nW]
def avH(n:Nat)(l:List bc)(x:ByteArray)(aL:l.length<n)(aj:l.length<1000000000):zo n [aQ l,D.fn (.func rG) [] [.ref [aC x] 0]]=some (J (gO (dt l x))):=by
 have bJ:(J ((0:Nat):Int))=J 0:=rfl;have ah:=dD (f:=GD n) l (λi (_:Unit)=>[aQ l,.ref [aC x] 0,J l.length,J (i:Int)]) (λr _=>match dt r x with|some j=>(Sum.inr (J ((l.length-r.length+j:Nat):Int)):List D⊕D)|none=> .inl []) (λ_ _=>True) ?_ ?_ n 0 () trivial (by omega) (xai _)
 .rw[bJ,xam,Nat.sub_self]at ah;have bI:zo n [aQ l,D.fn (.func rG) [] [.ref [aC x] 0]]=GF n (aQ l) (.ref [aC x] 0):=by
   simp only[zo,qu]
  rw[bI];cases bj:dt l x with|none=>rw[bj]at ah;simp only[GF,go_sem,ec,ah,gO]|some j=>rw[bj]at ah;simp only[xaw]at ah;simp only[GF,go_sem,ec,ah,gO]
 .intro _ _;have:dt [] x=none:=rfl;simp only[GD,go_sem,yF ((l.length:Int)<l.length),this]
 intro i a _ aF ah _;have cN:=yT ((i:Int)<(l.length:Int));have ao:dt (a::l.drop (i+1)) x=if decide (a.name=x)=true then some 0 else(dt (l.drop (i+1)) x).map (·+1):=findIdx_cons _ a _
 have e:l.length-(a::l.drop (i+1)).length=i:=by simp;omega
 have dw:l.length-(l.drop (i+1)).length=i+1:=by simp;omega
 have ab:=avG n a x;by_cases ag:a.name=x;.right;rw[xat ag]at ab ao;rw[ao,xad rfl,e];simp only[GD,go_sem,cN,fs aF,bc.c9,ab,xbl]
 left;rw[xaE ag]at ab ao;rw[ao,xaa (by simp),e,dw];refine⟨(),?_,?_,trivial⟩;.simp only[GD,go_sem,cN,fs aF,bc.c9,ab,b1 (bt:=false) (i:=i) (by omega)]
 cases dt (l.drop (i+1)) x with|none=>rfl|some j=>simp;omega
def avI(n:Nat)(l:List bc)(x:ByteArray)(aL:l.length<n)(aj:l.length<1000000000):zp n [aQ l,D.fn (.func rG) [] [.ref [aC x] 0]]=some (ay (dt l x).isSome):=by
 have bI:zp n [aQ l,D.fn (.func rG) [] [.ref [aC x] 0]]=L7 n (aQ l) (.ref [aC x] 0):=by simp only[zp,qu]
 rw[bI];simp only[L7,go_sem,avH n l x aL aj,DO]
def avJ(n:Nat)(d:bc)(x:ByteArray):GH n [d.d,.ref [aC x] 0]=some (ay (decide (d.name=x))):=by show L9 n d.d [aC x]=_;simp only[L9,go_sem,iV,bc.hr,bc.nW]
def avK(n:Nat)(l:List bc)(x:ByteArray)(aL:l.length<n)(aj:l.length<1000000000):zr n [aQ l,D.fn (.func B6) [] [.ref [aC x] 0]]=some (J (gO (dt l x))):=by
 have bJ:(J ((0:Nat):Int))=J 0:=rfl;have ah:=dD (f:=GI n) l (λi (_:Unit)=>[aQ l,.ref [aC x] 0,J l.length,J (i:Int)]) (λr _=>match dt r x with|some j=>(Sum.inr (J ((l.length-r.length+j:Nat):Int)):List D⊕D)|none=> .inl []) (λ_ _=>True) ?_ ?_ n 0 () trivial (by omega) (xai _)
 .rw[bJ,xam,Nat.sub_self]at ah;have bI:zr n [aQ l,D.fn (.func B6) [] [.ref [aC x] 0]]=GJ n (aQ l) (.ref [aC x] 0):=by
   simp only[zr,qu]
  rw[bI];cases bj:dt l x with|none=>rw[bj]at ah;simp only[GJ,go_sem,ec,ah,gO]|some j=>rw[bj]at ah;simp only[xaw]at ah;simp only[GJ,go_sem,ec,ah,gO]
 .intro _ _;have:dt [] x=none:=rfl;simp only[GI,go_sem,yF ((l.length:Int)<l.length),this]
 intro i a _ aF ah _;have cN:=yT ((i:Int)<(l.length:Int));have ao:dt (a::l.drop (i+1)) x=if decide (a.name=x)=true then some 0 else(dt (l.drop (i+1)) x).map (·+1):=findIdx_cons _ a _
 have e:l.length-(a::l.drop (i+1)).length=i:=by simp;omega
 have dw:l.length-(l.drop (i+1)).length=i+1:=by simp;omega
 have ab:=avJ n a x;by_cases ag:a.name=x;.right;rw[xat ag]at ab ao;rw[ao,xad rfl,e];simp only[GI,go_sem,cN,fs aF,bc.c9,ab,xbl]
 left;rw[xaE ag]at ab ao;rw[ao,xaa (by simp),e,dw];refine⟨(),?_,?_,trivial⟩;.simp only[GI,go_sem,cN,fs aF,bc.c9,ab,b1 (bt:=false) (i:=i) (by omega)]
 cases dt (l.drop (i+1)) x with|none=>rfl|some j=>simp;omega
def avL(n:Nat)(d:cw)(x:ByteArray):F5 n [d.d,.ref [aC x] 0]=some (ay (decide (d.name=x))):=by show LR n d.d [aC x]=_;simp only[LR,go_sem,iV,cw.rv,cw.nW]
def avM(n:Nat)(l:List cw)(x:ByteArray)(aL:l.length<n)(aj:l.length<1000000000):y8 n [b3 l,D.fn (.func rH) [] [.ref [aC x] 0]]=some (J (gO (oc l x))):=by
 have bJ:(J ((0:Nat):Int))=J 0:=rfl;have ah:=dD (f:=F6 n) l (λi (_:Unit)=>[b3 l,.ref [aC x] 0,J l.length,J (i:Int)]) (λr _=>match oc r x with|some j=>(Sum.inr (J ((l.length-r.length+j:Nat):Int)):List D⊕D)|none=> .inl []) (λ_ _=>True) ?_ ?_ n 0 () trivial (by omega) (xai _)
 .rw[bJ,xam,Nat.sub_self]at ah;have bI:y8 n [b3 l,D.fn (.func rH) [] [.ref [aC x] 0]]=F7 n (b3 l) (.ref [aC x] 0):=by
   simp only[y8,qu]
  rw[bI];cases bj:oc l x with|none=>rw[bj]at ah;simp only[F7,go_sem,iH,ah,gO]|some j=>rw[bj]at ah;simp only[xaw]at ah;simp only[F7,go_sem,iH,ah,gO]
 .intro _ _;have:oc [] x=none:=rfl;simp only[F6,go_sem,yF ((l.length:Int)<l.length),this]
 intro i a _ aF ah _;have cN:=yT ((i:Int)<(l.length:Int));have ao:oc (a::l.drop (i+1)) x=if decide (a.name=x)=true then some 0 else(oc (l.drop (i+1)) x).map (·+1):=findIdx_cons _ a _
 have e:l.length-(a::l.drop (i+1)).length=i:=by simp;omega
 have dw:l.length-(l.drop (i+1)).length=i+1:=by simp;omega
 have ab:=avL n a x;by_cases ag:a.name=x;.right;rw[xat ag]at ab ao;rw[ao,xad rfl,e];simp only[F6,go_sem,cN,l8 aF,cw.dy,ab,xbl]
 left;rw[xaE ag]at ab ao;rw[ao,xaa (by simp),e,dw];refine⟨(),?_,?_,trivial⟩;.simp only[F6,go_sem,cN,l8 aF,cw.dy,ab,b1 (bt:=false) (i:=i) (by omega)]
 cases oc (l.drop (i+1)) x with|none=>rfl|some j=>simp;omega
def avN(n:Nat)(l:List cw)(x:ByteArray)(aL:l.length<n)(aj:l.length<1000000000):y9 n [b3 l,D.fn (.func rH) [] [.ref [aC x] 0]]=some (ay (oc l x).isSome):=by
 have bI:y9 n [b3 l,D.fn (.func rH) [] [.ref [aC x] 0]]=LS n (b3 l) (.ref [aC x] 0):=by simp only[y9,qu]
 rw[bI];simp only[LS,go_sem,avM n l x aL aj,DO]
structure pW(f:Tm->Tm):Prop where
 op:∀t,(f t).op=t.op
 num:∀t,(f t).num=t.num
 name:∀t,(f t).name=t.name
 aT:∀t,(f t).aT=t.aT.map f
theorem Aw:pW jP:=⟨λt=>by rw[IG];rfl,λt=>by rw[IG];rfl,λt=>by rw[IG];rfl,λt=>by rw[IG];rfl⟩
theorem Ax:pW gI:=⟨λt=>by rw[DM];rfl,λt=>by rw[DM];rfl,λt=>by rw[DM];rfl,λt=>by rw[DM];rfl⟩
def aev(vs:List V)(nx:Bool)(f:Tm->Tm):∀(ks:List Tm),(∀k∈ks,hx vs nx (f k)=hx vs nx k)->g9 vs nx (ks.map f)=g9 vs nx ks
 |[],_=>rfl|k::r,h=>by rw[xaA,g9,g9,h k (by simp),aev vs nx f r λk ak=>h k (by simp[ak])]
def avO{f:Tm->Tm}(bd:pW f)(t:Tm)(l:List Y):ld (f t) l=ld t l:=by unfold ld;rw[bd.op,bd.aT,xaj];cases ak:t.aT[1]? with|none=>rfl|some k=>simp only[xaQ,bd.op,bd.num]
def avP{f:Tm->Tm}(bd:pW f)(vs:List V)(nx:Bool)(t:Tm):hx vs nx (f t)=hx vs nx t:=by
 refine Tm.ind (P:=λt=>hx vs nx (f t)=hx vs nx t) ?_ t;intro t ih;have aw:pV vs nx (f t)=pV vs nx t:=by simp only[pV,bd.op,bd.num,bd.name]
 rw[DK,DK vs nx t,bd.op,bd.aT,aw,aev vs nx f t.aT ih,avO bd]
def avQ{f:Tm->Tm}(bd:pW f)(t:Tm):iz (f t)=iz t:=by simp only[iz,bd.op,bd.num,bd.name,bd.aT,xaS]
def aew(f:Tm->Tm):∀(ks:List Tm),(∀k∈ks,∀d n,df (f k) d n=df k d n)->∀d n,fD (ks.map f) d n=fD ks d n
 |[],_,_,_=>rfl|k::r,h,d,n=>by rw[xaA,fD,fD,h k (by simp),aew f r λk ak=>h k (by simp[ak])]
def aex{f:Tm->Tm}(bd:pW f)(t:Tm):∀d n,df (f t) d n=df t d n:=by refine Tm.ind (P:=λt=>∀d n,df (f t) d n=df t d n) ?_ t;intro t ih d n;rw[vx,vx t,avQ bd,bd.aT,aew f t.aT ih]
def aey{f:Tm->Tm}(bd:pW f)(vs:List V)(nx:Bool)(t:Tm):qJ vs nx (f t)=qJ vs nx t:=by unfold qJ;rw[aex bd,avP bd]
structure vH(l:List bc)(t:Tm)(p:Tm×Int):Prop where
 a:∀n,301000000<n->mB n [t.d,aQ l]=some (.a1 [(if p.2=0 then jP p.1 else fM).d,J p.2])
 b:∀n,301000000<n->mE n [t.d,aQ l]=some (.a1 [(if p.2=0 then gI p.1 else fM).d,J p.2])
 x:p.2=0->p.1.cm/\p.1.bm<=12300/\(df p.1 1 0).1=0/\(jP p.1).cm/\(gI p.1).cm/\∃h,kT l h t p.1
def aez{l:List bc}(ar:ie 12300 l)(DP:l.length<=100)(t:Tm)(bk:t.cm)(aM:t.bm<=12300):∃p,vH l t p:=by
 by_cases au:(df t 1 0).1=0
 case neg=>exact⟨(fM,(df t 1 0).1),λn aL=>by rw[xaa au];exact(Uv ar n t bk aM (by omega)).1 au,λn aL=>by rw[xaa au];exact(Ux ar n t bk aM (by omega)).1 au,λh=>absurd h au⟩
 cases av:r9 l t with
 |false=>exact⟨(fM,14),λn aL=>(Uv ar n t bk aM (by omega)).2.1 au av,λn aL=>(Ux ar n t bk aM (by omega)).2.1 au av,λh=>by cases h⟩
 |true=>
  obtain⟨X,kS⟩:=at5 ar aM ((auj l t).1 av);have gn:(l.length+1)*(12300+1)+12300<=1300000:=by omega
  generalize (l.length+1)*(12300+1)+12300=bI at*;have A:∀n,301000000<n->_:=λn aL=>(Uv ar n t bk aM (by omega)).2.2 _ X au av kS (by omega);have B:∀n,301000000<n->_:=λn aL=>(Ux ar n t bk aM (by omega)).2.2 _ X au av kS (by omega);obtain⟨bP,b6⟩:=Un X 1 0 (by omega);rw[bP]at A;by_cases aw:(df X 1 0).1=0
  case neg=>simp only[aw,xaI]at A B;exact⟨(fM,(df X 1 0).1),λn aL=>by rw[xaa aw];exact A n aL,λn aL=>by rw[xaa aw];exact B n aL,λh=>absurd h aw⟩
  simp only[aw,xaH]at A B;have bd:=adQ X 1 0 (by omega) aw;have aeA:=kS.ok ar bk aM;have gQ:=aur X 1 0 aw;have aBz:=(Dy X 1 0).2 aw;have aeB:=(adL ar kS bk aM).1;rw[bd]at A aeB;exact⟨(X,0),A,B,λ_=>⟨aeA.1,by simp only;omega,aw,aeB,ava X aeA.1,bI,kS⟩⟩
open Classical in
noncomputable def h4(l:List bc)(t:Tm):Tm×Int:=if h:∃p,vH l t p then Classical.choose h else(fM,0)
def aeC{l:List bc}{t:Tm}(h:∃p,vH l t p):vH l t (h4 l t):=by unfold h4;rw[dif_pos h];exact Classical.choose_spec h
noncomputable def gU(m:aD)(nx:Bool)(t:Tm):Y×Int:=if(h4 m.aR t).2≠0 then(fW,(h4 m.aR t).2)else qJ m.vars nx (h4 m.aR t).1
noncomputable def pX(m:aD)(nx:Bool)(t:Tm):Int:=if((gU m nx t).2==0&&!(gU m nx t).1.b)=true then 13 else(gU m nx t).2
structure DQ(m:aD):Prop where
 d:ie 12300 m.aR
 dl:m.aR.length<=100
 qK:m.vars.length<=100
def DQ.NL{m:aD}(h:DQ m){t:Tm}(bk:t.cm)(aM:t.bm<=12300):vH m.aR t (h4 m.aR t):=aeC (aez h.d h.dl t bk aM)
theorem aeD:D.agg [ay false,J 0,J 0]=fW.d:=rfl
theorem tX(y:Y):ad y.d 0=ay y.b:=rfl
theorem aeE(y:Y):ad y.d 1=J y.lo:=rfl
theorem aeF(y:Y):ad y.d 2=J y.ah:=rfl
theorem pY(y:Y):a4 3 y.d=true:=rfl
theorem aeG(y:Y):D.agg [ay y.b,J y.lo,J y.ah]=y.d:=rfl
section
variable{m:aD}(hm:DQ m)(n:Nat)(aL:301000000<n)
include hm aL
theorem UY{t:Tm}(bk:t.cm)(aM:t.bm<=12300)(nx:Bool):tu n [m.d,t.d,ay nx]=some (.a1 [(gU m nx t).1.d,J (gU m nx t).2]):=by
 have mo:=hm.NL bk aM;have DR:=hm.qK;unfold gU;generalize h4 m.aR t=p at*;have eh:=mo.a n aL;by_cases au:p.2=0
 .obtain⟨cW,kR,vI,qL,Ay,_⟩:=mo.x au;have bC:(p.2 !=0)=false:=by simp[au]
  rw[xad au]at eh;have bf:=au2 n m.vars (jP p.1) nx (by rw[Uz];omega) qL (by omega);rw[aey Aw]at bf;rw[xaa (by simpa using au)];simp only[tu,Sn,go_sem,aD.agg,aD.a8,aD.bP,eh,bC,bf,pY,tX,aeE,aeF,aeG]
 have bC:(p.2 !=0)=true:=by simpa using au
 rw[xaa au]at eh;rw[xad au];simp only[tu,Sn,go_sem,aD.agg,aD.a8,aD.bP,eh,bC,aeD]
theorem UZ{t:Tm}(bk:t.cm)(aM:t.bm<=12300)(nx:Bool):tG n [m.d,t.d,ay nx]=some (.a1 [(gU m nx t).1.d,J (gU m nx t).2]):=by
 have mo:=hm.NL bk aM;have DR:=hm.qK;unfold gU;generalize h4 m.aR t=p at*;have eh:=mo.b n aL;by_cases au:p.2=0
 .obtain⟨cW,kR,vI,qL,Ay,_⟩:=mo.x au;have bC:(p.2 !=0)=false:=by simp[au]
  rw[xad au]at eh;have bf:=au3 n m.vars (gI p.1) nx (by rw[UN];omega) Ay (by omega);rw[aey Ax]at bf;rw[xaa (by simpa using au)];simp only[tG,Tr,go_sem,aD.agg,aD.a8,aD.bP,eh,bC,bf,pY,tX,aeE,aeF,aeG]
 have bC:(p.2 !=0)=true:=by simpa using au
 rw[xaa au]at eh;rw[xad au];simp only[tG,Tr,go_sem,aD.agg,aD.a8,aD.bP,eh,bC,aeD]
theorem aeH{t:Tm}(bk:t.cm)(aM:t.bm<=12300)(nx:Bool):xc n [m.d,t.d,ay nx]=some (J (pX m nx t)):=by
 have bf:=UY hm n aL bk aM nx;unfold pX;by_cases h:((gU m nx t).2==0&&!(gU m nx t).1.b)=true;.rw[xad h];simp only[xc,So,go_sem,aD.agg,aD.a8,aD.bP,aD.b6,aD.cA,aD.dC,aD.eC,aD.eD,aD.eX,aD.eta,bf,pY,tX,h]
 have bD:((gU m nx t).2==0&&!(gU m nx t).1.b)=false:=by simpa using h
 rw[xaa h];simp only[xc,So,go_sem,aD.agg,aD.a8,aD.bP,aD.b6,aD.cA,aD.dC,aD.eC,aD.eD,aD.eX,aD.eta,bf,pY,tX,bD]
theorem aeI{t:Tm}(bk:t.cm)(aM:t.bm<=12300)(nx:Bool):xp n [m.d,t.d,ay nx]=some (J (pX m nx t)):=by
 have bf:=UZ hm n aL bk aM nx;unfold pX;by_cases h:((gU m nx t).2==0&&!(gU m nx t).1.b)=true;.rw[xad h];simp only[xp,Ts,go_sem,aD.agg,aD.a8,aD.bP,aD.b6,aD.cA,aD.dC,aD.eC,aD.eD,aD.eX,aD.eta,bf,pY,tX,h]
 have bD:((gU m nx t).2==0&&!(gU m nx t).1.b)=false:=by simpa using h
 rw[xaa h];simp only[xp,Ts,go_sem,aD.agg,aD.a8,aD.bP,aD.b6,aD.cA,aD.dC,aD.eC,aD.eD,aD.eX,aD.eta,bf,pY,tX,bD]
end
def vJ(N:Nat)(S:List Nat):List (List D):=(List.range N).map λj=>[ay (decide (j∈S))]
def ku(N:Nat)(S:List Nat):D:= .ax 1 (vJ N S)
def IS(N:Nat)(S:List Nat):(vJ N S).length=N:=by simp[vJ]
def IT{N:Nat}{S:List Nat}{k:Nat}(h:k<N):(vJ N S)[k]?=some [ay (decide (k∈S))]:=by simp[vJ,h]
def aeJ(N:Nat):List.replicate N [ay false]=vJ N []:=by
 apply xca;intro j;by_cases h:j<N;.rw[IT h];simp[h]
 rw[xbn (by simp;omega),xbn (by rw[IS];omega)]
def avR{N:Nat}{S:List Nat}{k:Nat}(h:k<N):(vJ N S).set k [ay true]=vJ N (S++[k]):=by
 apply xca;intro j;by_cases aN:j<N
 .rw[IT aN,List.getElem?_set];by_cases e:k=j;.subst e;simp[IS,h]
  rw[xaa e,IT aN];have:(j∈S++[k])↔j∈S:=by simp;omega
  simp only[this]
 rw[xbn (by simp[IS];omega),xbn (by rw[IS];omega)]
def iA(S:List Nat)(ks:List Nat):List Nat:=ks.foldl (λS k=>if k∈S then S else S++[k]) S
theorem IU(S:List Nat)(k:Nat)(r:List Nat):iA S (k::r)=iA (if k∈S then S else S++[k]) r:=rfl
structure avS(N:Nat)(S ks R:List Nat):Prop where
 inv:iW N R
 pre:∃T,R=S++T
 mem:∀k∈ks,k∈R
 of:∀x∈R,x∈S\/x∈ks
def NM{N:Nat}:∀(ks S:List Nat),iW N S->(∀k∈ks,k<N)->avS N S ks (iA S ks)
 |[],S,h,_=>⟨h,⟨[],by simp[iA]⟩,by simp,λx ag=> .inl ag⟩
 |k::r,S,h,ak=>by
  rw[IU];by_cases eO:k∈S
  .rw[xad eO];have g:=NM r S h λx ag=>ak x (by simp[ag]);obtain⟨T,bf⟩:=g.pre;refine⟨g.inv,g.pre,λx ag=>?_,λx ag=>(g.of x ag).elim .inl λh=> .inr (by simp[h])⟩;rcases xak.1 ag with rfl|ag
   .rw[bf];simp[eO]
   exact g.mem x ag
  rw[xaa eO];have g:=NM r (S++[k]) (h.snoc (ak k (by simp)) eO) λx ag=>ak x (by simp[ag]);obtain⟨T,bf⟩:=g.pre;refine⟨g.inv,⟨[k]++T,by rw[bf];simp⟩,λx ag=>?_,λx ag=>?_⟩
  .rcases xak.1 ag with rfl|ag;.rw[bf];simp
   exact g.mem x ag
  rcases g.of x ag with h|h
  .rcases xar.1 h with h|h;.exact .inl h
   simp at h;subst h;exact .inr (by simp)
  exact .inr (by simp[h])
def vK(to:Nat->List Nat)(i:Nat):Nat->Nat->List Nat->List Nat
 |0,_,S=>S|m+1,k,S=>match(i::S)[k]? with|some x=>vK to i m (k+1) (iA S (to x))|none=>S
structure qM(to:Nat->List Nat)(N i k:Nat)(S:List Nat):Prop where
 inv:iW N S
 le:k<=S.length+1
 vz:∀j x,j<k->(i::S)[j]?=some x->∀y∈to x,y∈S
 r5:∀x∈S,∃j∈to i,kt to j x
def kt.snoc{to:Nat->List Nat}{i j k:Nat}(h:kt to i j)(bD:k∈to j):kt to i k:=h.trans (.step j k k bD (.refl k))
def qM.next{to:Nat->List Nat}{N i k:Nat}{S:List Nat}(h:qM to N i k S)(k4:∀i,∀k∈to i,k<N){x:Nat}(ag:(i::S)[k]?=some x):qM to N i (k+1) (iA S (to x)):=by
 have g:=NM (to x) S h.inv (k4 x);obtain⟨T,bf⟩:=g.pre;have ak:k<S.length+1:=by have:=(xae.1 ag).1;simpa using this
 have avT:∀j y,j<=k->(i::iA S (to x))[j]?=some y->(i::S)[j]?=some y:=by intro j y aN aP;rw[bf,<-xbN,xaL (by simp;omega)]at aP;exact aP
 refine⟨g.inv,by rw[bf];simp;omega,?_,?_⟩
 .intro j y aN aP z bC;have um:=avT j y (by omega) aP;by_cases e:j=k
  .subst e;rw[ag]at um;cases um;exact g.mem z bC
  have:=h.vz j y (by omega) um z bC;rw[bf];simp[this]
 intro y aP;rcases g.of y aP with ab|ab
 .exact h.r5 y ab
 cases k with|zero=>simp at ag;subst ag;exact⟨y,ab,.refl y⟩|succ k=>have Uf:x∈S:=xac (by simpa using ag);obtain⟨j,aN,av⟩:=h.r5 x Uf;exact⟨j,aN,av.snoc ab⟩
def U0{to:Nat->List Nat}{N i:Nat}(k4:∀i,∀k∈to i,k<N):∀(m k:Nat)(S:List Nat),qM to N i k S->N+1-k<m->(i∈vK to i m k S↔∃j∈to i,kt to j i)
 |0,_,_,_,h=>absurd h (xay _)
 |m+1,k,S,h,hm=>by
  rw[vK];have b5:=h.inv.len;cases ag:(i::S)[k]? with
  |some x=>
   have ak:k<S.length+1:=by have:=(xae.1 ag).1;simpa using this
   exact U0 k4 m (k+1) _ (h.next k4 ag) (by omega)
  |none=>
   have ak:S.length+1<=k:=by have:=List.getElem?_eq_none_iff.1 ag;simpa using this
   refine⟨λah=>h.r5 i ah,?_⟩;have hb:∀a b,kt to a b->a∈S->b∈S:=by
    intro a b fp
    induction fp with|refl=>exact λh=>h|step p q r Em _ ih=>intro aU;obtain⟨j,aN⟩:=xaU.1 aU;have cN:=(xae.1 aN).1;exact ih (h.vz (j+1) p (by omega) (by simpa using aN) q Em)
   rintro⟨j,aN,av⟩;exact hb j i av (h.vz 0 i (by omega) (by simp) j aN)
def qM.start(to:Nat->List Nat)(N i:Nat):qM to N i 0 []:=⟨⟨by simp,by simp⟩,by simp,by intro j x h;omega,by simp⟩
theorem se(x:List Nat):D.ax 1 (aq (da x))=da x:=rfl
def IV(x:List Nat):(aq (da x)).length=x.length:=by simp[da]
def aeK(x:List Nat)(k:Nat):D.ax 1 (aq (da x)++[[J (k:Int)]])=da (x++[k]):=by simp[da]
def aeL{x:List Nat}{j k:Nat}(h:x[j]?=some k):(aq (da x))[j]?=some [J (k:Int)]:=by simp[da,h]
theorem o1(N:Nat)(x:List Nat):D.ax 1 (aq (ku N x))=ku N x:=rfl
def IW(N:Nat)(x:List Nat):(aq (ku N x)).length=N:=IS N x
def IX{N:Nat}{S:List Nat}{k:Nat}(h:k<N):(aq (ku N S))[k]?=some [ay (decide (k∈S))]:=IT h
theorem aeM{N:Nat}{S:List Nat}{k:Nat}(h:k<N){w:Bool}:D.ax 1 ((aq (ku N S)).set k (dF [ay w] 0 [ay true]))=ku N (S++[k]):=by show D.ax 1 ((vJ N S).set k [ay true])=_;rw[avR h];rfl
theorem Az(b:Bool):a3 false 1 0 [ay b]=some (ay b):=rfl
theorem NN(i:Int):a3 false 1 0 [J i]=some (J i):=rfl
theorem DS(s:ByteArray):a3 false 1 0 [aC s]=some (aC s):=rfl
theorem NO{p:Option D}:bL (ay true) true p=p:=rfl
theorem IY{p:Option D}:bL (ay false) true p=some lx:=rfl
theorem NP{a b:D}:bZ (ay true) a b=some a:=rfl
theorem IZ{a b:D}:bZ (ay false) a b=some b:=rfl
def aeN{l:List bc}{x:ByteArray}{k:Nat}(h:dt l x=some k):k<l.length:=by obtain⟨_,_,_,h⟩:=RS h;exact h
def avU(n:Nat)(l:List bc){B:Nat}(ar:ie B l)(i k:Nat)(lh:List ByteArray)(S:List Nat)(ei:iW l.length S)(ak:k<=S.length+1)(gL:lh.length<=B)(aL:2*B+100<n):bp (zs n) n [aQ l,J (i:Int),bx lh,J lh.length,J 0,ku l.length S,da ((i::S).drop k)]=some (.inl [aQ l,J (i:Int),ku l.length (iA S (lh.filterMap (dt l))),da ((i::iA S (lh.filterMap (dt l))).drop k)]):=by
 have b5:=ar.len;have aj:=ar.b;have ah:=dD (f:=zs n) lh (λj (s:List Nat)=>[aQ l,J (i:Int),bx lh,J lh.length,J (j:Int),ku l.length s,da ((i::s).drop k)]) (λr s=>(.inl [aQ l,J (i:Int),ku l.length (iA s (r.filterMap (dt l))),da ((i::iA s (r.filterMap (dt l))).drop k)]:List D⊕(List D⊕(List D⊕(List D⊕D))))) (λj s=>iW l.length s/\k<=s.length+1) (λs _=>by simp only[zs,go_sem,yF ((lh.length:Int)<lh.length),o1,se];rfl) ?_ n 0 S ⟨ei,ak⟩ (by omega) (xai _)
 .exact ah
 rintro j x s ag aN ⟨ab,af⟩;have iG:=avK n l x (by omega) (by omega);have gu:=ab.len;have cN:=yT ((j:Int)<(lh.length:Int));left;cases aA:dt l x with
 |none=>rw[aA]at iG;refine⟨s,?_,by simp[aA],ab,af⟩;have jF:decide (gO none>=0)=false:=rfl;simp only[zs,go_sem,cN,n8 ag,DS,iG,jF,IY,IZ,o1,se,b1 (bt:=false) (i:=j) (by omega)]
 |some y=>
  have aP:=aeN aA;rw[aA]at iG;have jF:decide ((y:Int)>=0)=true:=xat (by omega);have fV:b9 l.length (J (y:Int))=some y:=by rw[oK,xad aP]
  have I0:gO (some y)=(y:Int):=rfl;by_cases nY:y∈s;.refine⟨s,?_,by simp[aA,IU,nY],ab,af⟩;simp only[zs,go_sem,cN,n8 ag,DS,iG,I0,jF,IW,fV,IX aP,Az,xat nY,NO,NP,o1,se,b1 (bt:=false) (i:=j) (by omega)]
  have aw:=ab.snoc aP nY;refine⟨s++[y],?_,by simp only[xbL,aA,IU,xaa nY],aw,by simp;omega⟩;have aJ:(i::(s++[y])).drop k=(i::s).drop k++[y]:=by rw[<-xbN,List.drop_append_of_le_length (by simpa using af)]
  have dB:c1 (((i::s).drop k).length+1) 8=true:=fU (by simp;omega) (by simp;omega);rw[aJ];simp only[zs,go_sem,cN,n8 ag,DS,iG,I0,jF,IW,fV,IX aP,Az,xaE nY,NO,NP,IV,xao,xaq,xaw,dB,aeM aP,aeK,o1,se,b1 (bt:=false) (i:=j) (by omega)]
def aeO(n:Nat)(l:List bc){B:Nat}(ar:ie B l)(i:Nat)(cd:i<l.length)(aL:4*B+200<n):∀(m k:Nat)(S:List Nat),qM (to l) l.length i k S->l.length+1-k<m->bp (Ma n) m [aQ l,J (i:Int),ku l.length S,da ((i::S).drop k)]=some (.inl [J (i:Int),ku l.length (vK (to l) i m k S)])
 |0,_,_,_,h=>absurd h (xay _)
 |m+1,k,S,h,hm=>by
  have b5:=ar.len;have aj:=ar.b;rw[jN,vK];have avV:=h.inv.len;have hle:=h.le;cases ag:(i::S)[k]? with
  |none=>
   have ak:S.length+1<=k:=by have:=List.getElem?_eq_none_iff.1 ag;simpa using this
   have bJ:(i::S).drop k=[]:=xci (by simpa using ak);rw[bJ];have aJ:(aq (da [])).length=0:=rfl;have aZ:decide (((0:Nat):Int)>0)=false:=rfl;simp only[Ma,go_sem,aJ,aZ,o1]
  |some x=>
   have ak:k<S.length+1:=by have:=(xae.1 ag).1;simpa using this
   have lp:x<l.length:=by cases k with|zero=>simp at ag;omega|succ k=>exact h.inv.2 x (xac (by simpa using ag))
   obtain⟨d,aA⟩:∃d,l[x]?=some d:=⟨l[x],xab lp⟩;have ig:=ar.e d (xac aA);have mP:=h.next (λi k ak=>lH i k ak) ag
   have ih:=aeO n l ar i cd aL m (k+1) _ mP (by omega);have cc:=Ix n d.e (by omega) ig.1 (by omega);have m7:=DC d.e;have gE:=avU n l ar i k (db 3 d.e []) S h.inv hle (by omega) (by omega);have k4:(db 3 d.e []).filterMap (dt l)=to l x:=by rw[DD aA];rfl
   rw[k4]at gE;obtain⟨T,bf⟩:=(NM (N:=l.length) (to l x) S h.inv (lH x)).pre;have Kg:((i::iA S (to l x)).drop k).length=(iA S (to l x)).length+1-k:=by simp
   have fy:=mP.le;have aeP:((i::S).drop k).length=S.length+1-k:=by simp
   have Kc:decide (((((i::S).drop k).length:Nat):Int)>0)=true:=xat (by rw[aeP];omega);have avW:((i::S).drop k)[0]?=some x:=by rw[xaX];exact ag
   have fV:b9 ((i::S).drop k).length (J 0)=some 0:=by have:(J 0)=J ((0:Nat):Int):=rfl;rw[this,oK,xad (by rw[aeP];omega)]
   have U1:ly ((i::iA S (to l x)).drop k).length (some (J 1)) none=some (1,((i::iA S (to l x)).drop k).length-1):=by
    have ab:1<=((i::iA S (to l x)).drop k).length:=by rw[Kg];omega
    generalize ((i::iA S (to l x)).drop k).length=q at*;have:(J 1)=J ((1:Nat):Int):=rfl;rw[this];simp[ly,rj,J,ab]
   have avX:decide (1+(((i::iA S (to l x)).drop k).length-1)<=((i::iA S (to l x)).drop k).length)=true:=xat (by rw[Kg];omega);have avY:D.ax 1 (((aq (da ((i::iA S (to l x)).drop k))).drop 1).take (((i::iA S (to l x)).drop k).length-1))=da ((i::iA S (to l x)).drop (k+1)):=by
    have bN:((((i::iA S (to l x)).drop k).drop 1).take (((i::iA S (to l x)).drop k).length-1))=(i::iA S (to l x)).drop (k+1):=by rw[List.drop_drop,xbJ];simp;omega
    show D.ax 1 (((((i::iA S (to l x)).drop k).map λ(i:Nat)=>[J (i:Int)]).drop 1).take _)=da _;rw[<-bN];unfold da;simp only[List.map_take,List.map_drop]
   simp only[Ma,go_sem,IV,Kc,fV,aeL avW,NN,fs aA,bc.g6,cc,l5,o1,se,gE,U1,avX,avY,ih]
def avZ(n:Nat)(m:aD){l:List bc}{B:Nat}(ar:ie B l)(i:Nat)(ah:i<l.length)(aL:4*B+200<n):Cr n [aQ l,m.d,J (i:Int)]=some (J (if jw l i=true then 14 else 0)):=by
 have b5:=ar.len;have aj:=ar.b;have aw:=aeO n l ar i ah aL n 0 [] (qM.start _ _ _) (by omega);have DT:=U0 (λi k ak=>lH i k ak) n 0 [] (qM.start (to l) l.length i) (by omega);rw[<-Uh l i]at DT;generalize vK (to l) i n 0 []=S at*;have IE:rl 1 (J (l.length:Int)) (J (l.length:Int))=some l.length:=by simp[rl,J];omega
 have aJ:D.ax 1 (List.replicate l.length [ay false])=ku l.length []:=by rw[aeJ];rfl
 have aZ:D.ax 1 [[J (i:Int)]]=da ((i::[]).drop 0):=rfl;have fV:b9 l.length (J (i:Int))=some i:=by rw[oK,xad ah]
 simp only[Cr,aaB,go_sem,aD.agg,ec,IE,aJ,aZ,aw,IW,fV,IX ah,Az];by_cases h:jw l i=true;.rw[xad h,xad (xat (DT.2 h))]
 rw[xaa h,xaa (by simpa usingλbI=>h (DT.1 bI))]
def aeQ(n:Nat)(m:aD)(x:ByteArray)(aL:m.aR.length<n)(ar:m.aR.length<1000000000):zS n [m.d,aC x]=some (J (gO (dt m.aR x))):=by
 have ah:=dD (f:=Hy n) m.aR (λi (_:Unit)=>[aC x,J (i:Int),bl m.vars,aQ m.aR,az m.bR,az m.bT,aQ m.next,az m.trans,az m.bW,b3 m.bG]) (λr _=>match dt r x with|some j=>(Sum.inr (J ((m.aR.length-r.length+j:Nat):Int)):List D⊕D)|none=> .inl []) (λ_ _=>True) (λ_ _=>by simp[Hy,ec,dt]) ?_ n 0 () trivial (by omega) (xai _);.have bJ:(J ((0:Nat):Int))=J 0:=rfl;rw[bJ]at ah;simp only[zS,abb,go_sem,aD.agg,aD.a8,aD.bP,aD.b6,aD.cA,aD.dC,aD.eC,aD.eD,aD.eX,ah,xam];cases dt m.aR x<;>simp[gO]
 intro i a _ aF ah _;have e:m.aR.length-(a::m.aR.drop (i+1)).length=i:=by simp;omega
 have dw:m.aR.length-(m.aR.drop (i+1)).length=i+1:=by simp;omega
 have nK:dt (a::m.aR.drop (i+1)) x=if a.name=x then some 0 else(dt (m.aR.drop (i+1)) x).map (·+1):=by simp[dt,xbY]
 have ae:a.cells[0]?=some (aC a.name):=rfl;by_cases ag:a.name=x;.right;rw[nK,xad ag,e];simp[Hy,ec,ah,fs aF,ae,ag]
 left;refine⟨(),by simp[Hy,ec,ah,fs aF,ae,ag,b1 (bt:=false) (i:=i) (by omega)],?_,trivial⟩;rw[nK,xaa ag,e,dw];cases dt (m.aR.drop (i+1)) x with|none=>rfl|some j=>simp;omega
def aeR(n:Nat)(m:aD)(x:ByteArray)(aL:m.vars.length<n)(ar:m.vars.length<1000000000):zR n [m.d,aC x]=some (J (gO (fq m.vars x))):=by
 have ah:=dD (f:=Hx n) m.vars (λi (_:Unit)=>[aC x,J (i:Int),bl m.vars,aQ m.aR,az m.bR,az m.bT,aQ m.next,az m.trans,az m.bW,b3 m.bG]) (λr _=>match fq r x with|some j=>(Sum.inr (J ((m.vars.length-r.length+j:Nat):Int)):List D⊕D)|none=> .inl []) (λ_ _=>True) (λ_ _=>by simp[Hx,fX,fq]) ?_ n 0 () trivial (by omega) (xai _);.have bJ:(J ((0:Nat):Int))=J 0:=rfl;rw[bJ]at ah;simp only[zR,aba,go_sem,aD.agg,aD.a8,aD.bP,aD.b6,aD.cA,aD.dC,aD.eC,aD.eD,aD.eX,ah,xam];cases fq m.vars x<;>simp[gO]
 intro i a _ aF ah _;have e:m.vars.length-(a::m.vars.drop (i+1)).length=i:=by simp;omega
 have dw:m.vars.length-(m.vars.drop (i+1)).length=i+1:=by simp;omega
 have nK:fq (a::m.vars.drop (i+1)) x=if a.name=x then some 0 else(fq (m.vars.drop (i+1)) x).map (·+1):=by simp[fq,xbY]
 have ae:a.cells[0]?=some (aC a.name):=rfl;by_cases ag:a.name=x;.right;rw[nK,xad ag,e];simp[Hx,fX,ah,ij aF,ae,ag]
 left;refine⟨(),by simp[Hx,fX,ah,ij aF,ae,ag,b1 (bt:=false) (i:=i) (by omega)],?_,trivial⟩;rw[nK,xaa ag,e,dw];cases fq (m.vars.drop (i+1)) x with|none=>rfl|some j=>simp;omega
def av0(n:Nat)(m:aD){B:Nat}(ar:ie B m.aR)(i:Nat)(k:Int)(lh:List ByteArray)(S:List Nat)(ei:iW m.aR.length S)(gL:lh.length<=B)(aL:2*B+100<n):bp (zV n) n [J k,eG true lh,J 0,bl m.vars,aQ m.aR,az m.bR,az m.bT,aQ m.next,az m.trans,az m.bW,b3 m.bG,ku m.aR.length S,da (i::S)]=some (.inl [J k,bl m.vars,aQ m.aR,az m.bR,az m.bT,aQ m.next,az m.trans,az m.bW,b3 m.bG,ku m.aR.length (iA S (lh.filterMap (dt m.aR))),da (i::iA S (lh.filterMap (dt m.aR)))]):=by
 have b5:=ar.len;have aj:=ar.b;have ah:=dD (f:=zV n) lh (λj (s:List Nat)=>[J k,eG true lh,J (j:Int),bl m.vars,aQ m.aR,az m.bR,az m.bT,aQ m.next,az m.trans,az m.bW,b3 m.bG,ku m.aR.length s,da (i::s)]) (λr s=>(.inl [J k,bl m.vars,aQ m.aR,az m.bR,az m.bT,aQ m.next,az m.trans,az m.bW,b3 m.bG,ku m.aR.length (iA s (r.filterMap (dt m.aR))),da (i::iA s (r.filterMap (dt m.aR)))]:List D⊕(List D⊕(List D⊕(List D⊕D))))) (λj s=>iW m.aR.length s) (λs _=>by simp only[zV,go_sem,ic,yF ((lh.length:Int)<lh.length),o1,se];rfl) ?_ n 0 S ei (by omega) (xai _)
 .exact ah
 rintro j x s ag aN ab;have iG:=aeQ n m x (by omega) (by omega);have gu:=ab.len;have fu:=mF (nl:=true) ag;have cN:=yT ((j:Int)<(lh.length:Int));left;cases aA:dt m.aR x with
 |none=>rw[aA]at iG;refine⟨s,?_,by simp[aA],ab⟩;have jF:decide (gO none>=0)=false:=rfl;simp only[zV,go_sem,ic,cN,fu,DS,aD.eta,iG,jF,IY,IZ,o1,se,b1 (bt:=false) (i:=j) (by omega)]
 |some y=>
  have aP:=aeN aA;rw[aA]at iG;have jF:decide ((y:Int)>=0)=true:=xat (by omega);have fV:b9 m.aR.length (J (y:Int))=some y:=by rw[oK,xad aP]
  have I0:gO (some y)=(y:Int):=rfl;by_cases nY:y∈s;.refine⟨s,?_,by simp[aA,IU,nY],ab⟩;simp only[zV,go_sem,ic,cN,fu,DS,aD.eta,iG,I0,jF,IW,fV,IX aP,Az,xat nY,NO,NP,o1,se,b1 (bt:=false) (i:=j) (by omega)]
  have aw:=ab.snoc aP nY;refine⟨s++[y],?_,by simp only[xbL,aA,IU,xaa nY],aw⟩;have aJ:i::(s++[y])=(i::s)++[y]:=rfl;have dB:c1 ((i::s).length+1) 8=true:=fU (by simp;omega) (by simp;omega);rw[aJ];simp only[zV,go_sem,ic,cN,fu,DS,aD.eta,iG,I0,jF,IW,fV,IX aP,Az,xaE nY,NO,NP,IV,xao,xaq,xaw,aeM aP,aeK,o1,se,b1 (bt:=false) (i:=j) (by omega)]at dB⊢;simp only[dB,s6,eL,qs,n1,pE,b1 (bt:=false) (i:=j) (by omega),o1,se]
def aeS(n:Nat)(kv:aD){B:Nat}(ar:ie B kv.aR)(i:Nat)(cd:i<kv.aR.length)(aL:4*B+200<n):∀(m k:Nat)(S:List Nat),qM (to kv.aR) kv.aR.length i k S->kv.aR.length+1-k<m->bp (MP n) m [J (k:Int),bl kv.vars,aQ kv.aR,az kv.bR,az kv.bT,aQ kv.next,az kv.trans,az kv.bW,b3 kv.bG,ku kv.aR.length S,da (i::S)]=some (.inl [ku kv.aR.length (vK (to kv.aR) i m k S)])
 |0,_,_,_,h=>absurd h (xay _)
 |m+1,k,S,h,hm=>by
  have b5:=ar.len;have aj:=ar.b;rw[jN,vK];have avV:=h.inv.len;have hle:=h.le;cases ag:(i::S)[k]? with
  |none=>
   have ak:S.length+1<=k:=by have:=List.getElem?_eq_none_iff.1 ag;simpa using this
   have aZ:decide ((k:Int)<(((i::S).length:Nat):Int))=false:=xaE (by simp;omega);simp only[MP,go_sem,IV,aZ,o1]
  |some x=>
   have ak:k<S.length+1:=by have:=(xae.1 ag).1;simpa using this
   have lp:x<kv.aR.length:=by cases k with|zero=>simp at ag;omega|succ k=>exact h.inv.2 x (xac (by simpa using ag))
   obtain⟨d,aA⟩:∃d,kv.aR[x]?=some d:=⟨kv.aR[x],xab lp⟩;have ig:=ar.e d (xac aA);have mP:=h.next (λi k ak=>lH i k ak) ag
   have ih:=aeS n kv ar i cd aL m (k+1) _ mP (by omega);have cc:=Iw n d.e (by omega) ig.1 (by omega);have m7:=DC d.e;have gE:=av0 n kv ar i k (db 3 d.e []) S h.inv (by omega) (by omega);have k4:(db 3 d.e []).filterMap (dt kv.aR)=to kv.aR x:=by rw[DD aA];rfl
   rw[k4]at gE;have Kc:decide ((k:Int)<(((i::S).length:Nat):Int))=true:=xat (by simp;omega);have fV:b9 (i::S).length (J (k:Int))=some k:=by rw[oK,xad (by simpa using ak)]
   have wS:((k:Int)+1)=((k+1:Nat):Int):=by omega
   simp only[MP,go_sem,IV,Kc,fV,aeL ag,NN,fs aA,bc.g6,cc,o1,se,gE,b1 (bt:=false) (i:=k) (by omega),ih]
def av1(n:Nat)(m:aD){B:Nat}(ar:ie B m.aR)(i:Nat)(ah:i<m.aR.length)(aL:4*B+200<n):∃S,HC n [m.d,J (i:Int)]=some (ku m.aR.length S)/\(i∈S↔jw m.aR i=true):=by
 have b5:=ar.len;have aj:=ar.b;have aw:=aeS n m ar i ah aL n 0 [] (qM.start _ _ _) (by omega);have DT:=U0 (λi k ak=>lH i k ak) n 0 [] (qM.start (to m.aR) m.aR.length i) (by omega);rw[<-Uh m.aR i]at DT;generalize vK (to m.aR) i n 0 []=S at*;refine⟨S,?_,DT⟩;have IE:rl 1 (J (m.aR.length:Int)) (J (m.aR.length:Int))=some m.aR.length:=by simp[rl,J];omega
 have aJ:D.ax 1 (List.replicate m.aR.length [ay false])=ku m.aR.length []:=by rw[aeJ];rfl
 have aZ:D.ax 1 [[J (i:Int)]]=da (i::[]):=rfl;have bJ:(J ((0:Nat):Int))=J 0:=rfl;rw[bJ]at aw;simp only[HC,abf,go_sem,aD.agg,aD.a8,aD.bP,aD.b6,aD.cA,aD.dC,aD.eC,aD.eD,aD.eX,ec,IE,aJ,aZ,aw,o1]
def cH(e:Nat->Int):Nat->Nat->Int×Int
 |0,_=>(0,0)|m+1,i=>if e i=0 then cH e m (i+1)else((i:Int),e i)
def I1(e:Nat->Int):∀(m i:Nat),(cH e m i).2=0↔∀j,i<=j->j<i+m->e j=0
 |0,i=>by simp[cH];intro j ab af;omega
 |m+1,i=>by
  rw[cH];by_cases h:e i=0
  .rw[xad h,I1 e m (i+1)];constructor
   .intro ab j af aw;by_cases aN:j=i;.subst aN;exact h
    exact ab j (by omega) (by omega)
   intro ab j af aw;exact ab j (by omega) (by omega)
  rw[xaa h];exact⟨λab=>absurd ab h,λab=>absurd (ab i (xan _) (by omega)) h⟩
def sf(e:Nat->Int)(m i:Nat)(h:(cH e m i).2=0):cH e m i=(0,0):=by
 induction m generalizing i with
 |zero=>rfl
 |succ m ih=>
  rw[cH]at h⊢;by_cases au:e i=0;.rw[xad au]at h⊢;exact ih (i+1) h
  rw[xaa au]at h;exact absurd h au
def od{ek:Type}{f:List D->Option (List D⊕(List D⊕ek))}(e3:Nat->List D)(e:Nat->Int)(N:Nat)(L:List D)(W:Int×Int->ek) (aH:∀i,i<N->f (e3 i)=some (if e i=0 then .inl (e3 (i+1))else .inr (.inr (W ((i:Int),e i))))) (he:f (e3 N)=some (.inr (.inl L))): ∀(m i n:Nat),i+m=N->m<n->bp f n (e3 i)=some (if(cH e m i).2=0 then .inl L else .inr (W (cH e m i)))
 |0,i,n,h,aL=>by
  obtain⟨k,rfl⟩:∃k,n=k+1:=⟨n-1,by omega⟩;have:i=N:=by omega
  subst this;rw[jN,he];rfl
 |m+1,i,n,h,aL=>by
  obtain⟨k,rfl⟩:∃k,n=k+1:=⟨n-1,by omega⟩;rw[jN,aH i (by omega),cH];by_cases au:e i=0;.rw[xad au,xad au];exact od e3 e N L W aH he m (i+1) k (by omega) (by omega)
  rw[xaa au,xaa au];simp only[eL,xaa au]
structure DU(m:aD)(n:Nat):Prop where
 bm:DQ m
 ik:302000000<n
 NQ:Av m.vars
 aeT:∀v∈m.vars,v.name.size+24<n
 qN:∀d∈m.aR,d.name.size+24<n/\d.name.size<=9223372036854775807
 bR:m.bR.length<=100/\∀t∈m.bR,t.cm/\t.bm<=12300
 bT:m.bT.length<=100/\∀t∈m.bT,t.cm/\t.bm<=12300
 next:m.next.length<=100/\∀d∈m.next,d.e.cm/\d.e.bm<=12300
 trans:m.trans.length<=100/\∀t∈m.trans,t.cm/\t.bm<=12300
 bW:m.bW.length<=100/\∀t∈m.bW,t.cm/\t.bm<=12300
 bG:m.bG.length<=100/\∀s∈m.bG,(s.f.cm/\s.f.bm<=12300)/\s.name.size+24<n/\s.name.size<=9223372036854775807
noncomputable section
mutual
def l9(m:aD):Fm->Int
 | .mk o t b ks=>if o=1 then pX m false t else m8 m ks
def m8(m:aD):List Fm->Int
 |[]=>0|k::r=>if l9 m k=0 then m8 m r else l9 m k
end
theorem U2(m:aD)(f:Fm):l9 m f=if f.op=1 then pX m false f.e else m8 m f.aT:=by cases f;rw[l9];rfl
def lJ(m:aD)(i:Nat):Int:=match m.aR[i]? with
 |some d=>if isName d.name=true then(if((fq m.vars d.name).isSome||(dt (m.aR.take i) d.name).isSome)=true then 6 else 0)else 12
 |none=>0
def ma(m:aD)(i:Nat):Int:=if jw m.aR i=true then 14 else 0
def lK(m:aD)(i:Nat):Int:=match m.aR[i]? with|some d=>(gU m false d.e).2|none=>0
def fg(m:aD)(l:List Tm)(nx:Bool)(i:Nat):Int:=match l[i]? with|some t=>pX m nx t|none=>0
def jS(m:aD)(i:Nat):Int:=match m.next[i]? with
 |some d=>match fq m.vars d.name with|none=>12|some k=>if(dt (m.next.take i) d.name).isSome=true then 6 else if((gU m false d.e).2==0&&((gU m false d.e).1.b !=(m.vars[k]?.map V.bool).getD false))=true then 13 else(gU m false d.e).2
 |none=>0
def jT(m:aD)(i:Nat):Int:=match m.bG[i]? with
 |some s=>if isName s.name=true then(if(oc (m.bG.take i) s.name).isSome=true then 6 else if hT s.f=0 then l9 m s.f else hT s.f)else 12
 |none=>0
end
def aeU{l:List bc}{i:Nat}(h:i<=l.length):rk 5 (aQ l) none (some (J (i:Int)))=some (aQ (l.take i)):=by rw[aQ,UR (by simpa using h)];simp[aQ,List.map_take]
def av2{l:List cw}{i:Nat}(h:i<=l.length):rk 7 (b3 l) none (some (J (i:Int)))=some (b3 (l.take i)):=by rw[b3,UR (by simpa using h)];simp[b3,List.map_take]
def aeV{m:aD}(hm:DQ m):∀(n:Nat)(f:Fm),301000000+f.bm<n->f.cm->f.bm<=12300->tw n [m.d,f.d]=some (J (l9 m f))
 |0,_,h,_,_=>absurd h (xay _)
 |n+1,f,aL,bk,aH=>by
  have IH:=f.yX;have oH:=f.j6;rw[U2];have bf:=aeH hm n (by omega) bk.e (by omega) false;have b5:bK (cl 6 f.nl (Fm.rows f.aT))=some (J f.aT.length):=by simp
  have ar:=dD (f:=Gx (tw n) n) f.aT (λi (_:Unit)=>[cl 6 f.nl (Fm.rows f.aT),J f.aT.length,J (i:Int),bl m.vars,aQ m.aR,az m.bR,az m.bT,aQ m.next,az m.trans,az m.bW,b3 m.bG]) (λr _=>if m8 m r=0 then(.inl []:List D⊕D)else .inr (J (m8 m r))) (λ_ _=>True) ?_ ?_ n 0 () trivial (by have:=f.j6;omega) (xai _)
  .have bJ:(J ((0:Nat):Int))=J 0:=rfl;rw[bJ,xam]at ar;show Gy (tw n) n m.d f.d=_;by_cases ab:f.op=1
   .have e7:(f.op==1)=true:=by simp[ab]
    simp only[Gy,go_sem,aD.agg,e7,xad ab,aD.a8,aD.bP,aD.b6,aD.cA,aD.dC,aD.eC,aD.eD,aD.eX,aD.eta,bf]
   have e7:(f.op==1)=false:=by simpa using ab
   simp only[Gy,go_sem,aD.agg,e7,xaa ab,aD.a8,aD.bP,aD.b6,aD.cA,aD.dC,aD.eC,aD.eD,aD.eX,aD.eta,b5,ar];by_cases au:m8 m f.aT=0;.rw[xad au,au,qs]
   rw[xaa au,Fv]
  .intro _ _;simp only[Gx,go_sem,yF ((f.aT.length:Int)<f.aT.length),m8]
  intro i a _ aF ah _;have iu:=xac aF;have bC:=Fm.je iu;have av:=aeV hm n a (by omega) (bk.gz iu) (by omega);have cN:=yT ((i:Int)<(f.aT.length:Int));by_cases au:l9 m a=0
  .left;rw[au]at av;refine⟨(),?_,by simp only[m8,au,xaH],trivial⟩;have bC:((0:Int) !=0)=false:=rfl;simp only[Gx,go_sem,cN,Fm.gX aF,aD.eta,av,bC,b1 (bt:=false) (i:=i) (by omega)]
  right;have bC:(l9 m a !=0)=true:=by simpa using au
  simp only[Gx,go_sem,cN,Fm.gX aF,aD.eta,av,bC,m8,xaa au]
def aeW{m:aD}(hm:DQ m):∀(n:Nat)(f:Fm),301000000+f.bm<n->f.cm->f.bm<=12300->tI n [m.d,f.d]=some (J (l9 m f))
 |0,_,h,_,_=>absurd h (xay _)
 |n+1,f,aL,bk,aH=>by
  have IH:=f.yX;have oH:=f.j6;rw[U2];have bf:=aeI hm n (by omega) bk.e (by omega) false;have b5:bK (cl 6 f.nl (Fm.rows f.aT))=some (J f.aT.length):=by simp
  have ar:=dD (f:=HZ (tI n) n) f.aT (λi (_:Unit)=>[J (i:Int),bl m.vars,aQ m.aR,az m.bR,az m.bT,aQ m.next,az m.trans,az m.bW,b3 m.bG,J f.op,J f.e.op,J f.e.num,aC f.e.name,cl 4 f.e.nl (Tm.rows f.e.aT),cl 6 f.nl (Fm.rows f.aT)]) (λr _=>if m8 m r=0 then(.inl []:List D⊕D)else .inr (J (m8 m r))) (λ_ _=>True) ?_ ?_ n 0 () trivial (by have:=f.j6;omega) (xai _)
  .have bJ:(J ((0:Nat):Int))=J 0:=rfl;rw[bJ,xam]at ar;show H0 (tI n) n m.d f.d=_;by_cases ab:f.op=1
   .have e7:(f.op==1)=true:=by simp[ab]
    simp only[H0,go_sem,aD.agg,e7,xad ab,aD.a8,aD.bP,aD.b6,aD.cA,aD.dC,aD.eC,aD.eD,aD.eX,aD.eta,bf]
   have e7:(f.op==1)=false:=by simpa using ab
   simp only[H0,go_sem,aD.agg,e7,xaa ab,aD.a8,aD.bP,aD.b6,aD.cA,aD.dC,aD.eC,aD.eD,aD.eX,aD.eta,b5,ar];by_cases au:m8 m f.aT=0;.rw[xad au,au,qs]
   rw[xaa au,Fv]
  .intro _ _;simp only[HZ,go_sem,b5,yF ((f.aT.length:Int)<f.aT.length),m8]
  intro i a _ aF ah _;have iu:=xac aF;have bC:=Fm.je iu;have av:=aeW hm n a (by omega) (bk.gz iu) (by omega);have cN:=yT ((i:Int)<(f.aT.length:Int));by_cases au:l9 m a=0
  .left;rw[au]at av;refine⟨(),?_,by simp only[m8,au,xaH],trivial⟩;have bC:((0:Int) !=0)=false:=rfl;simp only[HZ,go_sem,b5,cN,Fm.gX aF,aD.eta,av,bC,b1 (bt:=false) (i:=i) (by omega)]
  right;have bC:(l9 m a !=0)=true:=by simpa using au
  simp only[HZ,go_sem,b5,cN,Fm.gX aF,aD.eta,av,bC,m8,xaa au]
section
variable{m:aD}{n:Nat}(hm:DU m n)
include hm
theorem av3(i:Nat)(ah:i<m.aR.length):u6 n [aQ m.aR,m.d,J (i:Int)]=some (J (lJ m i)):=by have aj:=hm.ik;have A9:=hm.bm.dl;have DR:=hm.bm.qK;obtain⟨d,aA⟩:∃d,m.aR[i]?=some d:=⟨m.aR[i],xab ah⟩;have I2:=hm.qN d (xac aA);have cc:=UP n d.name (by omega) I2.2;have hP:=avA n m.vars d.name (by omega) (by omega);have c2:=avD n (m.aR.take i) d.name (by simp;omega) (by simp;omega);have aH:=aeU (l:=m.aR) (i:=i) (by omega);simp only[lJ,aA];cases ab:isName d.name with|false=>simp only[u6,GR,go_sem,aD.agg,fs aA,bc.gd,cc,ab]|true=>cases af:(fq m.vars d.name).isSome with|true=>simp only[u6,GR,go_sem,aD.agg,aD.a8,fs aA,bc.gd,cc,ab,hP,af]|false=>cases aw:(dt (m.aR.take i) d.name).isSome with|true=>simp only[u6,GR,go_sem,aD.agg,aD.a8,fs aA,bc.gd,cc,ab,hP,af,aH,c2,aw,Bool.or_false,xbO]|false=>simp only[u6,GR,go_sem,aD.agg,aD.a8,fs aA,bc.gd,cc,ab,hP,af,aH,c2,aw,Bool.or_false,xbO]
theorem av4(i:Nat)(ah:i<m.aR.length):Cq n [aQ m.aR,m.d,J (i:Int)]=some (J (lK m i)):=by have aj:=hm.ik;obtain⟨d,aA⟩:∃d,m.aR[i]?=some d:=⟨m.aR[i],xab ah⟩;have ig:=hm.bm.d.e d (xac aA);have bf:=UY hm.bm n (by omega) ig.1 ig.2 false;simp only[lK,aA];simp only[Cq,aaz,go_sem,aD.agg,aD.a8,aD.bP,aD.b6,aD.cA,aD.dC,aD.eC,aD.eD,aD.eX,aD.eta,fs aA,bc.g6,bf,pY]
theorem av5(l:List Tm)(ar:∀t∈l,t.cm/\t.bm<=12300)(k:Int)(nx:Bool)(i:Nat)(ah:i<l.length):Cp n [.agg [J k,az l,ay nx],m.d,J (i:Int)]=some (J (fg m l nx i)):=by have aj:=hm.ik;obtain⟨t,aM⟩:∃t,l[i]?=some t:=⟨l[i],xab ah⟩;have I3:=ar t (xac aM);have bf:=aeH hm.bm n (by omega) I3.1 I3.2 nx;have aF:a4 3 (.agg [J k,az l,ay nx])=true:=rfl;have bP:ad (.agg [J k,az l,ay nx]) 1=az l:=rfl;have b6:ad (.agg [J k,az l,ay nx]) 2=ay nx:=rfl;simp only[fg,aM];simp only[Cp,aay,go_sem,aF,bP,b6,aD.agg,aD.a8,aD.bP,aD.b6,aD.cA,aD.dC,aD.eC,aD.eD,aD.eX,aD.eta,ob aM,bf]
theorem av6(i:Nat)(ah:i<m.next.length):xd n [aQ m.next,m.d,J (i:Int)]=some (J (jS m i)):=by
 have aj:=hm.ik;have w2:=hm.next.1
 have DR:=hm.bm.qK;obtain⟨d,aA⟩:∃d,m.next[i]?=some d:=⟨m.next[i],xab ah⟩
 have ig:=hm.next.2 d (xac aA)
 have bf:=UY hm.bm n (by omega) ig.1 ig.2 false;have hP:=avF n m.vars d.name (by omega) (by omega);have c2:=avI n (m.next.take i) d.name (by simp;omega) (by simp;omega);have aH:=aeU (l:=m.next) (i:=i) (by omega);simp only[jS,aA];cases ab:fq m.vars d.name with
 |none=>have au:decide (gO none<0)=true:=rfl;simp only[xd,L8,go_sem,aD.agg,aD.a8,fs aA,bc.gd,hP,ab,au]
 |some k=>
  have au:decide (gO (some k)<0)=false:=by rw[aeu];rfl
  have oH:k<m.vars.length:=by have:=xbh.1 ab;exact this.1
  obtain⟨v,a6⟩:∃v,m.vars[k]?=some v:=⟨m.vars[k],xab oH⟩;have ln:bn 4 (bl m.vars) (J (gO (some k)))=some v.cells:=ij a6;have yO:a3 false 1 1 v.cells=some (ay v.bool):=rfl;simp only[a6,xaQ,xbe];cases aw:(dt (m.next.take i) d.name).isSome with
  |true=>simp only[xd,L8,go_sem,aD.agg,aD.a8,fs aA,bc.gd,hP,ab,au,aH,c2,aw]
  |false=>
   generalize gU m false d.e=y at*;have cR:ai true .neq (ay y.1.b) (ay v.bool)=some (ay (y.1.b !=v.bool)):=rfl;simp only[xd,L8,go_sem,aD.agg,aD.a8,aD.bP,aD.b6,aD.cA,aD.dC,aD.eC,aD.eD,aD.eX,aD.eta,fs aA,bc.gd,bc.g6,hP,ab,au,aH,c2,aw,bf,pY,tX,ln,yO,cR];by_cases ao:(y.2==0&&(y.1.b !=v.bool))=true
   .rw[xad ao,xad ao]
   rw[xaa ao,xaa ao]
theorem av7(i:Nat)(ah:i<m.bG.length):vu n [b3 m.bG,m.d,J (i:Int)]=some (J (jT m i)):=by
 have aj:=hm.ik;have gu:=hm.bG.1;obtain⟨s,aH⟩:∃s,m.bG[i]?=some s:=⟨m.bG[i],xab ah⟩;obtain⟨⟨bd,Ly⟩,av8,U3⟩:=hm.bG.2 s (xac aH);have cc:=UP n s.name (by omega) U3;have c2:=avN n (m.bG.take i) s.name (by simp;omega) (by simp;omega);have oW:=av2 (l:=m.bG) (i:=i) (by omega);have cf:=Nw n s.f (by omega) bd (by omega);have hi:=aeV hm.bm n s.f (by omega) bd Ly;simp only[jT,aH];cases ab:isName s.name with
 |false=>simp only[vu,Ig,go_sem,aD.agg,l8 aH,cw.gd,cc,ab]
 |true=>
  cases aw:(oc (m.bG.take i) s.name).isSome with
  |true=>simp only[vu,Ig,go_sem,aD.agg,l8 aH,cw.gd,cc,ab,oW,c2,aw]
  |false=>
   by_cases a5:hT s.f=0
   .have qp:(hT s.f !=0)=false:=by simp[a5]
    simp only[vu,Ig,go_sem,aD.agg,aD.a8,aD.bP,aD.b6,aD.cA,aD.dC,aD.eC,aD.eD,aD.eX,aD.eta,l8 aH,cw.gd,cw.g6,cc,ab,oW,c2,aw,cf,qp,xad a5,hi]
   have qp:(hT s.f !=0)=true:=by simpa using a5
   simp only[vu,Ig,go_sem,aD.agg,aD.a8,aD.bP,aD.b6,aD.cA,aD.dC,aD.eC,aD.eD,aD.eX,aD.eta,l8 aH,cw.gd,cw.g6,cc,ab,oW,c2,aw,cf,qp,xaa a5]
end
def gi(p:Int×Int):D:= .a1 [J p.1,J p.2]
def vL(a b:Int×Int):Int×Int:=if a.2=0 then b else a
def findIdx_take{α:Type}{l:List α}{p:α->Bool}{i:Nat}{d:α}(aA:l[i]?=some d)(aU:p d=true):decide (gO (l.findIdx? p)<(i:Int))=((l.take i).findIdx? p).isSome:=by
 obtain⟨ah,av9⟩:=xae.1 aA;cases h:l.findIdx? p with
 |none=>have:=List.findIdx?_eq_none_iff.1 h d (xac aA);rw[aU]at this;cases this
 |some k=>
  obtain⟨ak,awa,Be⟩:=xbh.1 h;rw[List.findIdx?_isSome];have rf:k<=i:=by
   rcases Nat.lt_or_ge i k with ab|ab;.have:=Be i ab;rw[av9]at this;exact absurd aU this
   exact ab
  by_cases he:k<i;.have ab:decide (gO (some k)<(i:Int))=true:=xat (by show(k:Int)<(i:Int);omega);rw[ab];symm;rw[xbs];refine⟨l[k],xaU.2 ⟨k,?_⟩,awa⟩;rw[List.getElem?_take_of_lt he];exact xab ak
  have ab:decide (gO (some k)<(i:Int))=false:=xaE (by show¬(k:Int)<(i:Int);omega);rw[ab];symm;rw[Bool.eq_false_iff,ne_eq,xbs];rintro⟨a,aF,U4⟩;obtain⟨j,aN⟩:=xaU.1 aF;have cN:=(xae.1 aN).1;simp only[xbp]at cN;rw[List.getElem?_take_of_lt (by omega)]at aN;obtain⟨aeX,I4⟩:=xae.1 aN;have:=Be j (by omega);rw[I4]at this;exact this U4
noncomputable def sg(m:aD):Int×Int:=vL (cH (lJ m) m.aR.length 0) (vL (cH (ma m) m.aR.length 0) (cH (lK m) m.aR.length 0))
section
variable{m:aD}{n:Nat}(hm:DU m n)
include hm
theorem awb:bp (z1 n) n [J 0,bl m.vars,aQ m.aR,az m.bR,az m.bT,aQ m.next,az m.trans,az m.bW,b3 m.bG]=some (if(cH (lJ m) m.aR.length 0).2=0 then .inl [bl m.vars,aQ m.aR,az m.bR,az m.bT,aQ m.next,az m.trans,az m.bW,b3 m.bG]else .inr (gi (cH (lJ m) m.aR.length 0))):=by
 have aj:=hm.ik;have A9:=hm.bm.dl;have DR:=hm.bm.qK;refine od (λi=>[J (i:Int),bl m.vars,aQ m.aR,az m.bR,az m.bT,aQ m.next,az m.trans,az m.bW,b3 m.bG]) (lJ m) m.aR.length _ gi ?_ ?_ _ 0 n (by omega) (by omega)
 .intro i ah;obtain⟨d,aA⟩:∃d,m.aR[i]?=some d:=⟨m.aR[i],xab ah⟩;have I2:=hm.qN d (xac aA);have cc:=UQ n d.name (by omega) I2.2;have hP:=aeR n m d.name (by omega) (by omega);have c2:=aeQ n m d.name (by omega) (by omega);have cd:=yT ((i:Int)<(m.aR.length:Int));have I5:=findIdx_take (p:=λe:bc=>decide (e.name=d.name)) aA (by simp);change decide (gO (dt m.aR d.name)<(i:Int))=(dt (m.aR.take i) d.name).isSome at I5;simp only[lJ,aA];cases ab:isName d.name with
  |false=>simp only[z1,go_sem,ec,cd,fs aA,bc.gd,cc,ab,xaa (show¬(12:Int)=0 by decide),gi]
  |true=>
   cases af:(fq m.vars d.name).isSome with
   |true=>have jF:=DO (fq m.vars d.name);rw[af]at jF;simp only[z1,go_sem,ec,cd,fs aA,bc.gd,cc,ab,aD.eta,hP,jF,eb,xaa (show¬(true=false) by decide),dQ,xaa (show¬(6:Int)=0 by decide),gi]
   |false=>
    have jF:=DO (fq m.vars d.name);rw[af]at jF;cases aw:(dt (m.aR.take i) d.name).isSome with
    |true=>rw[aw]at I5;simp only[z1,go_sem,ec,cd,fs aA,bc.gd,cc,ab,aD.eta,hP,jF,eb,c2,I5,dQ,xaa (show¬(6:Int)=0 by decide),gi,Bool.or_true]
    |false=>rw[aw]at I5;simp only[z1,go_sem,ec,cd,fs aA,bc.gd,cc,ab,aD.eta,hP,jF,eb,c2,I5,dQ,Bool.or_false,b1 (bt:=false) (i:=i) (by omega)]
 simp only[z1,go_sem,ec,yF ((m.aR.length:Int)<m.aR.length)]
theorem awc:bp (HU n) n [J 0,bl m.vars,aQ m.aR,az m.bR,az m.bT,aQ m.next,az m.trans,az m.bW,b3 m.bG]=some (if(cH (ma m) m.aR.length 0).2=0 then .inl [bl m.vars,aQ m.aR,az m.bR,az m.bT,aQ m.next,az m.trans,az m.bW,b3 m.bG]else .inr (gi (cH (ma m) m.aR.length 0))):=by
 have aj:=hm.ik;have A9:=hm.bm.dl;refine od (λi=>[J (i:Int),bl m.vars,aQ m.aR,az m.bR,az m.bT,aQ m.next,az m.trans,az m.bW,b3 m.bG]) (ma m) m.aR.length _ gi ?_ ?_ _ 0 n (by omega) (by omega)
 .intro i ah;obtain⟨S,ei,aeY⟩:=av1 n m hm.bm.d i ah (by omega);have cd:=yT ((i:Int)<(m.aR.length:Int));have ag:bn 1 (ku m.aR.length S) (J (i:Int))=some [ay (decide (i∈S))]:=by
   rw[ku,Zt,IT ah]
  cases ab:jw m.aR i with
  |true=>have af:=xat (aeY.2 ab);simp only[HU,go_sem,ec,cd,aD.eta,ei,ag,Az,af,ma,ab,xaa (show¬(14:Int)=0 by decide),gi]
  |false=>have af:=xaE (show¬i∈S fromλh=>by rw[aeY.1 h]at ab;cases ab);simp only[HU,go_sem,ec,cd,aD.eta,ei,ag,Az,af,ma,ab,b1 (bt:=false) (i:=i) (by omega)]
 simp only[HU,go_sem,ec,yF ((m.aR.length:Int)<m.aR.length)]
theorem awd:bp (HV n) n [J 0,bl m.vars,aQ m.aR,az m.bR,az m.bT,aQ m.next,az m.trans,az m.bW,b3 m.bG]=some (if(cH (lK m) m.aR.length 0).2=0 then .inl []else .inr (gi (cH (lK m) m.aR.length 0))):=by
 have aj:=hm.ik;have A9:=hm.bm.dl;refine od (λi=>[J (i:Int),bl m.vars,aQ m.aR,az m.bR,az m.bT,aQ m.next,az m.trans,az m.bW,b3 m.bG]) (lK m) m.aR.length _ gi ?_ ?_ _ 0 n (by omega) (by omega)
 .intro i ah;obtain⟨d,aA⟩:∃d,m.aR[i]?=some d:=⟨m.aR[i],xab ah⟩;have ig:=hm.bm.d.e d (xac aA);have bf:=UZ hm.bm n (by omega) ig.1 ig.2 false;have cd:=yT ((i:Int)<(m.aR.length:Int));simp only[lK,aA];by_cases ab:(gU m false d.e).2=0
  .have e7:((gU m false d.e).2 !=0)=false:=by simp[ab]
   simp only[HV,go_sem,ec,cd,aD.eta,fs aA,bc.g6,bf,pY,e7,xad ab,b1 (bt:=false) (i:=i) (by omega)]
  have e7:((gU m false d.e).2 !=0)=true:=by simpa using ab
  simp only[HV,go_sem,ec,cd,aD.eta,fs aA,bc.g6,bf,pY,e7,xaa ab,gi]
 simp only[HV,go_sem,ec,yF ((m.aR.length:Int)<m.aR.length)]
theorem awe:xo n [m.d]=some (gi (sg m)):=by
 have af:=awb hm;have jL:=awc hm;have NR:=awd hm;have bC:∀e k,(cH e k 0).2=0->cH e k 0=(0,0):=λe k=>sf e k 0;unfold sg vL;by_cases bP:(cH (lJ m) m.aR.length 0).2=0
 case neg=>rw[xaa bP]at af⊢;simp only[xo,HW,go_sem,aD.agg,aD.a8,aD.bP,aD.b6,aD.cA,aD.dC,aD.eC,aD.eD,aD.eX,af]
 rw[xad bP]at af⊢;by_cases b6:(cH (ma m) m.aR.length 0).2=0
 case neg=>rw[xaa b6]at jL⊢;simp only[xo,HW,go_sem,aD.agg,aD.a8,aD.bP,aD.b6,aD.cA,aD.dC,aD.eC,aD.eD,aD.eX,af,jL]
 rw[xad b6]at jL⊢;by_cases cA:(cH (lK m) m.aR.length 0).2=0;.rw[xad cA]at NR;rw[bC _ _ cA];simp only[xo,HW,go_sem,aD.agg,aD.a8,aD.bP,aD.b6,aD.cA,aD.dC,aD.eC,aD.eD,aD.eX,af,jL,NR,gi]
 rw[xaa cA]at NR;simp only[xo,HW,go_sem,aD.agg,aD.a8,aD.bP,aD.b6,aD.cA,aD.dC,aD.eC,aD.eD,aD.eX,af,jL,NR]
theorem NS(l:List Tm)(ar:l.length<=100/\∀t∈l,t.cm/\t.bm<=12300)(nx:Bool):vo n [m.d,az l,ay nx]=some (gi (cH (fg m l nx) l.length 0)):=by
 have aj:=hm.ik;have ah:=od (f:=HX n) (λi=>[az l,ay nx,J (i:Int),bl m.vars,aQ m.aR,az m.bR,az m.bT,aQ m.next,az m.trans,az m.bW,b3 m.bG]) (fg m l nx) l.length [] gi ?_ ?_ l.length 0 n (by omega) (by omega)
 .have bJ:(J ((0:Nat):Int))=J 0:=rfl;rw[bJ]at ah;by_cases c:(cH (fg m l nx) l.length 0).2=0;.rw[xad c]at ah;rw[sf _ _ _ c];simp only[vo,Tt,go_sem,aD.agg,aD.a8,aD.bP,aD.b6,aD.cA,aD.dC,aD.eC,aD.eD,aD.eX,ah,gi]
  rw[xaa c]at ah;simp only[vo,Tt,go_sem,aD.agg,aD.a8,aD.bP,aD.b6,aD.cA,aD.dC,aD.eC,aD.eD,aD.eX,ah]
 .intro i ah;obtain⟨t,aM⟩:∃t,l[i]?=some t:=⟨l[i],xab ah⟩;have I3:=ar.2 t (xac aM);have bf:=aeI hm.bm n (by omega) I3.1 I3.2 nx;have cd:=yT ((i:Int)<(l.length:Int));simp only[fg,aM];by_cases ab:pX m nx t=0
  .have e7:(pX m nx t !=0)=false:=by simp[ab]
   simp only[HX,go_sem,hy,cd,aD.eta,ob aM,bf,e7,xad ab,b1 (bt:=false) (i:=i) (by have:=ar.1;omega)]
  have e7:(pX m nx t !=0)=true:=by simpa using ab
  simp only[HX,go_sem,hy,cd,aD.eta,ob aM,bf,e7,xaa ab,gi]
 simp only[HX,go_sem,hy,yF ((l.length:Int)<l.length)]
theorem awf(i:Nat)(k:Int){d:bc}(aA:m.next[i]?=some d):bp (C5 n) n [J (i:Int),J k,J 0,bl m.vars,aQ m.aR,az m.bR,az m.bT,aQ m.next,az m.trans,az m.bW,b3 m.bG]=some (if(dt (m.next.take i) d.name).isSome=true then .inr (.inr (.inr (.inr (.a1 [J (i:Int),J 6]))))else .inl [J (i:Int),J k,bl m.vars,aQ m.aR,az m.bR,az m.bT,aQ m.next,az m.trans,az m.bW,b3 m.bG]):=by
 have aj:=hm.ik;have w2:=hm.next.1
 have cd:=(xae.1 aA).1;have cu:(m.next.take i).length=i:=by simp;omega
 have ah:=dD (f:=C5 n) (m.next.take i) (λj (_:Unit)=>[J (i:Int),J k,J (j:Int),bl m.vars,aQ m.aR,az m.bR,az m.bT,aQ m.next,az m.trans,az m.bW,b3 m.bG]) (λr _=>(if(dt r d.name).isSome=true then .inr (.inr (.inr (.inr (.a1 [J (i:Int),J 6]))))else .inl [J (i:Int),J k,bl m.vars,aQ m.aR,az m.bR,az m.bT,aQ m.next,az m.trans,az m.bW,b3 m.bG]:List D⊕(List D⊕(List D⊕(List D⊕D))))) (λ_ _=>True) (λ_ _=>by rw[cu];simp only[C5,go_sem,yF ((i:Int)<i)];rfl) ?_ n 0 () trivial (by omega) (xai _);.exact ah
 intro j a _ aF aN _;rw[cu]at aN;rw[List.getElem?_take_of_lt aN]at aF;have cN:=yT ((j:Int)<(i:Int));have ao:dt (a::(m.next.take i).drop (j+1)) d.name=if decide (a.name=d.name)=true then some 0 else(dt ((m.next.take i).drop (j+1)) d.name).map (·+1):=findIdx_cons _ a _
 rw[ao];by_cases h:a.name=d.name;.right;rw[xad (xat h)];simp only[C5,go_sem,cN,fs aF,fs aA,bc.gd,xat h,Option.isSome_some]
 left;refine⟨(),?_,?_,trivial⟩;.simp only[C5,go_sem,cN,fs aF,fs aA,bc.gd,xaE h,b1 (bt:=false) (i:=j) (by omega)]
 have bD:¬(decide (a.name=d.name)=true):=by simpa using h
 rw[xaa bD,Option.isSome_map]
theorem awg(i:Nat){d:cw}(aA:m.bG[i]?=some d):bp (C9 n) n [J (i:Int),J 0,bl m.vars,aQ m.aR,az m.bR,az m.bT,aQ m.next,az m.trans,az m.bW,b3 m.bG]=some (if(oc (m.bG.take i) d.name).isSome=true then .inr (.inr (.inr (.inr (.a1 [J (i:Int),J 6]))))else .inl [J (i:Int),bl m.vars,aQ m.aR,az m.bR,az m.bT,aQ m.next,az m.trans,az m.bW,b3 m.bG]):=by
 have aj:=hm.ik;have w2:=hm.bG.1;have cd:=(xae.1 aA).1;have cu:(m.bG.take i).length=i:=by simp;omega
 have ah:=dD (f:=C9 n) (m.bG.take i) (λj (_:Unit)=>[J (i:Int),J (j:Int),bl m.vars,aQ m.aR,az m.bR,az m.bT,aQ m.next,az m.trans,az m.bW,b3 m.bG]) (λr _=>(if(oc r d.name).isSome=true then .inr (.inr (.inr (.inr (.a1 [J (i:Int),J 6]))))else .inl [J (i:Int),bl m.vars,aQ m.aR,az m.bR,az m.bT,aQ m.next,az m.trans,az m.bW,b3 m.bG]:List D⊕(List D⊕(List D⊕(List D⊕D))))) (λ_ _=>True) (λ_ _=>by rw[cu];simp only[C9,go_sem,yF ((i:Int)<i)];rfl) ?_ n 0 () trivial (by omega) (xai _);.exact ah
 intro j a _ aF aN _;rw[cu]at aN;rw[List.getElem?_take_of_lt aN]at aF;have cN:=yT ((j:Int)<(i:Int));have ao:oc (a::(m.bG.take i).drop (j+1)) d.name=if decide (a.name=d.name)=true then some 0 else(oc ((m.bG.take i).drop (j+1)) d.name).map (·+1):=findIdx_cons _ a _
 rw[ao];by_cases h:a.name=d.name;.right;rw[xad (xat h)];simp only[C9,go_sem,cN,l8 aF,l8 aA,cw.gd,xat h,Option.isSome_some]
 left;refine⟨(),?_,?_,trivial⟩;.simp only[C9,go_sem,cN,l8 aF,l8 aA,cw.gd,xaE h,b1 (bt:=false) (i:=j) (by omega)]
 have bD:¬(decide (a.name=d.name)=true):=by simpa using h
 rw[xaa bD,Option.isSome_map]
theorem awh:C6 n [m.d]=some (gi (cH (jS m) m.next.length 0)):=by
 have aj:=hm.ik;have w2:=hm.next.1
 have DR:=hm.bm.qK;have ah:=od (f:=xq n) (λi=>[J (i:Int),bl m.vars,aQ m.aR,az m.bR,az m.bT,aQ m.next,az m.trans,az m.bW,b3 m.bG]) (jS m) m.next.length [] gi ?_ ?_ m.next.length 0 n (by omega) (by omega)
 .have bJ:(J ((0:Nat):Int))=J 0:=rfl;rw[bJ]at ah;by_cases c:(cH (jS m) m.next.length 0).2=0;.rw[xad c]at ah;rw[sf _ _ _ c];simp only[C6,Tv,go_sem,aD.agg,aD.a8,aD.bP,aD.b6,aD.cA,aD.dC,aD.eC,aD.eD,aD.eX,ah,gi]
  rw[xaa c]at ah;simp only[C6,Tv,go_sem,aD.agg,aD.a8,aD.bP,aD.b6,aD.cA,aD.dC,aD.eC,aD.eD,aD.eX,ah]
 .intro i ah;obtain⟨d,aA⟩:∃d,m.next[i]?=some d:=⟨m.next[i],xab ah⟩
  have ig:=hm.next.2 d (xac aA)
  have bf:=UZ hm.bm n (by omega) ig.1 ig.2 false;have hP:=aeR n m d.name (by omega) (by omega);have cd:=yT ((i:Int)<(m.next.length:Int));simp only[jS,aA];cases ab:fq m.vars d.name with
  |none=>rw[ab]at hP;have au:decide (gO none<0)=true:=rfl;simp only[xq,go_sem,ec,cd,aD.eta,fs aA,bc.gd,hP,au,xaa (show¬(12:Int)=0 by decide),gi]
  |some k=>
   rw[ab]at hP;have hZ:=awf hm i (gO (some k)) aA;have au:decide (gO (some k)<0)=false:=by rw[aeu];rfl
   have oH:k<m.vars.length:=by have:=xbh.1 ab;exact this.1
   obtain⟨v,a6⟩:∃v,m.vars[k]?=some v:=⟨m.vars[k],xab oH⟩;have ln:bn 4 (bl m.vars) (J (gO (some k)))=some v.cells:=ij a6;have yO:a3 false 1 1 v.cells=some (ay v.bool):=rfl;simp only[a6,xaQ,xbe];cases aw:(dt (m.next.take i) d.name).isSome with
   |true=>rw[aw,xad rfl]at hZ;simp only[xq,go_sem,ec,cd,aD.eta,fs aA,bc.gd,hP,au,hZ,xaa (show¬(6:Int)=0 by decide),gi]
   |false=>
    rw[aw,xaa (by decide)]at hZ;generalize gU m false d.e=y at*;have cR:ai true .neq (ay y.1.b) (ay v.bool)=some (ay (y.1.b !=v.bool)):=rfl;have pZ:((13:Int) !=0)=true:=rfl;by_cases ao:(y.2==0&&(y.1.b !=v.bool))=true
    .simp only[xq,go_sem,ec,cd,aD.eta,fs aA,bc.gd,bc.g6,hP,au,hZ,bf,pY,tX,ln,yO,cR,ao,pZ,xaa (show¬(13:Int)=0 by decide),gi]
    have dU:(y.2==0&&(y.1.b !=v.bool))=false:=by simpa using ao
    by_cases aP:y.2=0
    .have um:(y.2 !=0)=false:=by simp[aP]
     simp only[xq,go_sem,ec,cd,aD.eta,fs aA,bc.gd,bc.g6,hP,au,hZ,bf,pY,tX,ln,yO,cR,dU,um,xad aP,b1 (bt:=false) (i:=i) (by omega)]
    have um:(y.2 !=0)=true:=by simpa using aP
    simp only[xq,go_sem,ec,cd,aD.eta,fs aA,bc.gd,bc.g6,hP,au,hZ,bf,pY,tX,ln,yO,cR,dU,um,xaa aP,gi]
 simp only[xq,go_sem,ec,yF ((m.next.length:Int)<m.next.length)]
theorem awi:Da n [m.d]=some (gi (cH (jT m) m.bG.length 0)):=by
 have aj:=hm.ik;have gu:=hm.bG.1;have ah:=od (f:=xr n) (λi=>[J (i:Int),bl m.vars,aQ m.aR,az m.bR,az m.bT,aQ m.next,az m.trans,az m.bW,b3 m.bG]) (jT m) m.bG.length [] gi ?_ ?_ m.bG.length 0 n (by omega) (by omega)
 .have bJ:(J ((0:Nat):Int))=J 0:=rfl;rw[bJ]at ah;by_cases c:(cH (jT m) m.bG.length 0).2=0;.rw[xad c]at ah;rw[sf _ _ _ c];simp only[Da,Ty,go_sem,aD.agg,aD.a8,aD.bP,aD.b6,aD.cA,aD.dC,aD.eC,aD.eD,aD.eX,ah,gi]
  rw[xaa c]at ah;simp only[Da,Ty,go_sem,aD.agg,aD.a8,aD.bP,aD.b6,aD.cA,aD.dC,aD.eC,aD.eD,aD.eX,ah]
 .intro i ah;obtain⟨s,aH⟩:∃s,m.bG[i]?=some s:=⟨m.bG[i],xab ah⟩;obtain⟨⟨bd,Ly⟩,av8,U3⟩:=hm.bG.2 s (xac aH);have cc:=UQ n s.name (by omega) U3;have gE:=awg hm i aH;have cf:=Nv n s.f (by omega) bd (by omega);have hi:=aeW hm.bm n s.f (by omega) bd Ly;have cd:=yT ((i:Int)<(m.bG.length:Int));simp only[jT,aH];cases ab:isName s.name with
  |false=>simp only[xr,go_sem,iH,cd,l8 aH,cw.gd,cc,ab,xaa (show¬(12:Int)=0 by decide),gi]
  |true=>
   cases aw:(oc (m.bG.take i) s.name).isSome with
   |true=>rw[aw,xad rfl]at gE;simp only[xr,go_sem,iH,cd,l8 aH,cw.gd,cc,ab,gE,xaa (show¬(6:Int)=0 by decide),gi]
   |false=>
    rw[aw,xaa (by decide)]at gE;by_cases a5:hT s.f=0
    .have qp:(hT s.f==0)=true:=by simp[a5]
     by_cases ca:l9 m s.f=0
     .have yE:(l9 m s.f !=0)=false:=by simp[ca]
      simp only[xr,go_sem,iH,cd,aD.eta,l8 aH,cw.gd,cw.g6,cc,ab,gE,cf,qp,xad a5,hi,yE,xad ca,b1 (bt:=false) (i:=i) (by omega)]
     have yE:(l9 m s.f !=0)=true:=by simpa using ca
     simp only[xr,go_sem,iH,cd,aD.eta,l8 aH,cw.gd,cw.g6,cc,ab,gE,cf,qp,xad a5,hi,yE,xaa ca,gi]
    have qp:(hT s.f==0)=false:=by simpa using a5
    have awj:(hT s.f !=0)=true:=by simpa using a5
    simp only[xr,go_sem,iH,cd,aD.eta,l8 aH,cw.gd,cw.g6,cc,ab,gE,cf,qp,awj,xaa a5,gi]
 simp only[xr,go_sem,iH,yF ((m.bG.length:Int)<m.bG.length)]
end
def mG:List V->Nat
 |[]=>0|v::r=>bitsOf v.span+mG r
theorem V.o2(v:V):D.agg [ad v.d 0,ad v.d 1,ad v.d 2,ad v.d 3]=v.d:=rfl
def awk(n:Nat)(m:aD)(a6:Av m.vars)(ar:m.vars.length<=100)(aL:200<n):FY n [m.d]=some (J (mG m.vars:Nat)):=by
 have ah:=dD (f:=LQ n) m.vars (λi (s:Nat)=>[J (s:Int),bl m.vars,J m.vars.length,J (i:Int)]) (λr s=>(.inl [J ((s+mG r:Nat):Int)]:List D⊕D)) (λi s=>s<=62*i) ?_ ?_ n 0 0 (by simp) (by omega) (xai _);.have bJ:(J ((0:Nat):Int))=J 0:=rfl;rw[bJ,xam,xaw]at ah;simp only[FY,aae,go_sem,aD.agg,aD.a8,fX,ah]
 .intro s aH;simp only[LQ,go_sem,yF ((m.vars.length:Int)<m.vars.length),mG,xbl]
 intro i v s I6 ah aH;obtain⟨ab,af,_⟩:=a6.2 v (xac I6);have lA:=avq n v ab af;have aj:=avt n v.span (V.IQ v).2 (by omega);have pg:=(DN (V.IQ v).2).1;have cd:=yT ((i:Int)<(m.vars.length:Int));have g8:ai false .add (J (s:Int)) (J (bitsOf v.span:Nat))=some (J ((s+bitsOf v.span:Nat):Int)):=by rw[gy (by omega) (by omega)];rfl
 left;refine⟨s+bitsOf v.span,?_,by rw[mG,xbc],by omega⟩;simp only[LQ,go_sem,cd,ij I6,V.cK,V.cS,V.o2,lA,aj,g8,b1 (bt:=false) (i:=i) (by omega)]
def awl(n:Nat)(m:aD)(a6:Av m.vars)(ar:m.vars.length<=100)(aL:200<n):Hw n [m.d]=some (J (mG m.vars:Nat)):=by
 have ah:=dD (f:=MM n) m.vars (λi (s:Nat)=>[J (s:Int),J (i:Int),bl m.vars,aQ m.aR,az m.bR,az m.bT,aQ m.next,az m.trans,az m.bW,b3 m.bG]) (λr s=>(.inl [J ((s+mG r:Nat):Int)]:List D⊕D)) (λi s=>s<=62*i) ?_ ?_ n 0 0 (by simp) (by omega) (xai _);.have bJ:(J ((0:Nat):Int))=J 0:=rfl;rw[bJ,xam,xaw]at ah;simp only[Hw,aa9,go_sem,aD.agg,aD.a8,aD.bP,aD.b6,aD.cA,aD.dC,aD.eC,aD.eD,aD.eX,ah]
 .intro s aH;simp only[MM,go_sem,fX,yF ((m.vars.length:Int)<m.vars.length),mG,xbl]
 intro i v s I6 ah aH;obtain⟨ab,af,_⟩:=a6.2 v (xac I6);have lA:=aer n v ab af;have aj:=avu n v.span (by have:=(V.IQ v).1;omega) (V.IQ v).2 (by omega);have pg:=(DN (V.IQ v).2).1;have cd:=yT ((i:Int)<(m.vars.length:Int));have g8:ai false .add (J (s:Int)) (J (bitsOf v.span:Nat))=some (J ((s+bitsOf v.span:Nat):Int)):=by rw[gy (by omega) (by omega)];rfl
 left;refine⟨s+bitsOf v.span,?_,by rw[mG,xbc],by omega⟩;simp only[MM,go_sem,fX,cd,ij I6,V.cK,lA,aj,g8,b1 (bt:=false) (i:=i) (by omega)]
def il:List (Int×(Int×Int))->Int×(Int×Int)
 |[]=>(0,(0,0))|a::r=>if a.2.2=0 then il r else a
def aeZ{ek:Type}{f:List D->Option (List D⊕(List D⊕ek))}(L:List (Int×(Int×Int)))(e3:Nat->List D)(E:List D)(W:Int×(Int×Int)->ek) (aH:∀i a,L[i]?=some a->f (e3 i)=some (if a.2.2=0 then .inl (e3 (i+1))else .inr (.inr (W a)))) (he:f (e3 L.length)=some (.inr (.inl E))) (n:Nat) (aL:L.length<n):bp f n (e3 0)=some (if(il L).2.2=0 then .inl E else .inr (W (il L))):=by
 have h:=dD (f:=f) L (λi (_:Unit)=>e3 i) (λr _=>(if(il r).2.2=0 then .inl E else .inr (W (il r)):List D⊕ek)) (λ_ _=>True) (λ_ _=>by rw[he];rfl) ?_ n 0 () trivial (by omega) (xai _);.exact h
 intro i a _ aF ah _;have ab:=aH i a aF;by_cases au:a.2.2=0
 .left;rw[xad au]at ab;exact⟨(),ab,by rw[il,xad au],trivial⟩
 right;rw[xaa au]at ab;rw[ab,il,xaa au,xaa au]
def oe(m:aD):List Nat:=[m.vars.length,m.aR.length,m.bR.length,m.bT.length,m.next.length,m.trans.length,m.bW.length,m.bG.length]
def mH(m:aD)(i:Nat):Int:=if 64<(oe m)[i]?.getD 0 then 18 else 0
noncomputable def sh(m:aD):List (Int×(Int×Int)):=[(2,cH (lJ m) m.aR.length 0),(2,cH (ma m) m.aR.length 0),(2,cH (lK m) m.aR.length 0),(3,cH (fg m m.bR false) m.bR.length 0),(4,cH (fg m m.bT false) m.bT.length 0),(5,cH (jS m) m.next.length 0),(6,cH (fg m m.trans true) m.trans.length 0),(7,cH (fg m m.bW false) m.bW.length 0),(8,cH (jT m) m.bG.length 0)]
noncomputable def U5(m:aD):List (Int×(Int×Int)):=[(2,sg m),(3,cH (fg m m.bR false) m.bR.length 0),(4,cH (fg m m.bT false) m.bT.length 0),(5,cH (jS m) m.next.length 0),(6,cH (fg m m.trans true) m.trans.length 0),(7,cH (fg m m.bW false) m.bW.length 0),(8,cH (jT m) m.bG.length 0)]
def ae0{a b:Int×Int}:(vL a b).2=0↔a.2=0/\b.2=0:=by unfold vL;by_cases h:a.2=0<;>simp[h]
def ae1(k:Int)(a b:Int×Int)(r:List (Int×(Int×Int))):il ((k,vL a b)::r)=il ((k,a)::(k,b)::r):=by simp only[il];unfold vL;by_cases h:a.2=0<;>simp[h]
def awm(a:Int×(Int×Int)){r sD:List (Int×(Int×Int))}(h:il r=il sD):il (a::r)=il (a::sD):=by rw[il,il,h]
def awn(m:aD):il (U5 m)=il (sh m):=by unfold U5 sg;rw[ae1];exact awm _ (ae1 _ _ _ _)
noncomputable def m9(m:aD):Int×(Int×Int):=if(cH (mH m) 8 0).2=0 then
  if(kl m.vars).2=0 then
   if 30<mG m.vars then(1,(0,18))else il (sh m)
  else(1,kl m.vars)
 else((cH (mH m) 8 0).1+1,(64,18))
def eS(q:Int×(Int×Int)):D:= .a1 [.agg [J q.1,J q.2.1],J q.2.2]
def awo{l:List V}(h:(kl l).2=0):kl l=(0,0):=by unfold kl at h⊢;cases bd:(List.range l.length).find? (λi=>jo l i !=0)with|none=>rw[bd]at h|some i=>rw[bd]at h;have:=List.find?_some bd;simp only at h;rw[h]at this;cases this
def ae2(L:List (Int×(Int×Int)))(h:(il L).2.2=0):il L=(0,(0,0)):=by
 induction L with
 |nil=>rfl
 |cons a r ih=>
  rw[il]at h⊢;by_cases au:a.2.2=0;.rw[xad au]at h⊢;exact ih h
  rw[xaa au]at h;exact absurd h au
theorem iB{t:Nat}{x:D}:BM (.dX t x)=some (t,x):=rfl
def I7(m:aD):D:= .agg ((oe m).map λ(k:Nat)=>J (k:Int))
def gP(m:aD):D:= .agg [.dX 114 (aQ m.aR),.dX 115 (aQ m.aR),.dX 116 (aQ m.aR),.dX 118 (.agg [J 3,az m.bR,ay false]),.dX 118 (.agg [J 4,az m.bT,ay false]),.dX 119 (aQ m.next),.dX 118 (.agg [J 6,az m.trans,ay true]),.dX 118 (.agg [J 7,az m.bW,ay false]),.dX 120 (b3 m.bG)]
theorem NT{ek:Type}{a b:Option ek}:gG 114 114 a b=a:=rfl
theorem NU{ek:Type}{a b:Option ek}:gG 115 114 a b=b:=rfl
theorem NV{ek:Type}{a b:Option ek}:gG 115 115 a b=a:=rfl
theorem NW{ek:Type}{a b:Option ek}:gG 116 114 a b=b:=rfl
theorem NX{ek:Type}{a b:Option ek}:gG 116 115 a b=b:=rfl
theorem NY{ek:Type}{a b:Option ek}:gG 116 116 a b=a:=rfl
theorem tY{ek:Type}{a b:Option ek}:gG 118 114 a b=b:=rfl
theorem tZ{ek:Type}{a b:Option ek}:gG 118 115 a b=b:=rfl
theorem ua{ek:Type}{a b:Option ek}:gG 118 116 a b=b:=rfl
theorem ub{ek:Type}{a b:Option ek}:gG 118 118 a b=a:=rfl
theorem NZ{ek:Type}{a b:Option ek}:gG 119 114 a b=b:=rfl
theorem N0{ek:Type}{a b:Option ek}:gG 119 115 a b=b:=rfl
theorem N1{ek:Type}{a b:Option ek}:gG 119 116 a b=b:=rfl
theorem N2{ek:Type}{a b:Option ek}:gG 119 118 a b=b:=rfl
theorem N3{ek:Type}{a b:Option ek}:gG 119 119 a b=a:=rfl
theorem N4{ek:Type}{a b:Option ek}:gG 120 114 a b=b:=rfl
theorem N5{ek:Type}{a b:Option ek}:gG 120 115 a b=b:=rfl
theorem N6{ek:Type}{a b:Option ek}:gG 120 116 a b=b:=rfl
theorem N7{ek:Type}{a b:Option ek}:gG 120 118 a b=b:=rfl
theorem N8{ek:Type}{a b:Option ek}:gG 120 119 a b=b:=rfl
theorem N9{ek:Type}{a b:Option ek}:gG 120 120 a b=a:=rfl
section
variable{m:aD}{n:Nat}(hm:DU m n)
include hm
theorem awp:bp (Dt n) n [I7 m,J 0,bl m.vars,aQ m.aR,az m.bR,az m.bT,aQ m.next,az m.trans,az m.bW,b3 m.bG,J 0,J 0]=some (if(cH (mH m) 8 0).2=0 then .inl [bl m.vars,aQ m.aR,az m.bR,az m.bT,aQ m.next,az m.trans,az m.bW,b3 m.bG,J 0,J 0]else .inr (eS ((cH (mH m) 8 0).1+1,(64,18)))):=by
 have aj:=hm.ik;refine od (f:=Dt n) (λi=>[I7 m,J (i:Int),bl m.vars,aQ m.aR,az m.bR,az m.bT,aQ m.next,az m.trans,az m.bW,b3 m.bG,J 0,J 0]) (mH m) 8 _ (λp=>eS (p.1+1,(64,18))) ?_ ?_ 8 0 n (by omega) (by omega)
 .intro i ah;obtain⟨k,ak⟩:∃k,(oe m)[i]?=some k:=⟨_,xab ah⟩;have cd:=yT ((i:Int)<8);have fV:b9 8 (J (i:Int))=some i:=by rw[oK,xad ah]
  have bd:lS false 1 (i*1) (I7 m)=some (J (k:Int)):=by unfold I7;rw[Nat.mul_one,alG,iV,xaj,ak];rfl
  have U6:ai false .add (J 1) (J (i:Int))=some (J ((i:Int)+1)):=by rw[gy (by omega) (by omega)];congr 2;omega
  have bO:mH m i=if 64<k then 18 else 0:=by unfold mH;rw[ak];rfl
  by_cases ao:64<k;.rw[bO,xad ao,xaa (by decide)];simp only[Dt,go_sem,cd,fV,bd,yT ((k:Int)>64),U6,eS]
  rw[bO,xaa ao,xad rfl];simp only[Dt,go_sem,cd,fV,bd,yF ((k:Int)>64),b1 (bt:=false) (i:=i) (by omega)]
 simp only[Dt,go_sem,show decide (((8:Nat):Int)<8)=false from rfl]
theorem awq:bp (Db n) n [J 0,bl m.vars,aQ m.aR,az m.bR,az m.bT,aQ m.next,az m.trans,az m.bW,b3 m.bG,J 0,J 0,D.ax 1 ((oe m).map λ(k:Nat)=>[J (k:Int)])]=some (if(cH (mH m) 8 0).2=0 then .inl [bl m.vars,aQ m.aR,az m.bR,az m.bT,aQ m.next,az m.trans,az m.bW,b3 m.bG,J 0,J 0]else .inr (eS ((cH (mH m) 8 0).1+1,(64,18)))):=by
 have aj:=hm.ik;refine od (f:=Db n) (λi=>[J (i:Int),bl m.vars,aQ m.aR,az m.bR,az m.bT,aQ m.next,az m.trans,az m.bW,b3 m.bG,J 0,J 0,D.ax 1 ((oe m).map λ(k:Nat)=>[J (k:Int)])]) (mH m) 8 _ (λp=>eS (p.1+1,(64,18))) ?_ ?_ 8 0 n (by omega) (by omega)
 .intro i ah;obtain⟨k,ak⟩:∃k,(oe m)[i]?=some k:=⟨_,xab ah⟩;have b5:((oe m).map λ(k:Nat)=>[J (k:Int)]).length=8:=rfl;have cd:=yT ((i:Int)<((8:Nat):Int));have fV:b9 8 (J (i:Int))=some i:=by rw[oK,xad ah]
  have bd:((oe m).map λ(k:Nat)=>[J (k:Int)])[i]?=some [J (k:Int)]:=by rw[xaj,ak];rfl
  have U6:ai false .add (J (i:Int)) (J 1)=some (J ((i:Int)+1)):=by rw[gy (by omega) (by omega)]
  have bO:mH m i=if 64<k then 18 else 0:=by unfold mH;rw[ak];rfl
  generalize ((oe m).map λ(k:Nat)=>[J (k:Int)])=aBA at*;by_cases ao:64<k;.rw[bO,xad ao,xaa (by decide)];simp only[Db,go_sem,b5,cd,fV,bd,NN,yT ((k:Int)>64),U6,eS]
  rw[bO,xaa ao,xad rfl];simp only[Db,go_sem,b5,cd,fV,bd,NN,yF ((k:Int)>64),b1 (bt:=false) (i:=i) (by omega)]
 have b5:((oe m).map λ(k:Nat)=>[J (k:Int)]).length=8:=rfl;simp only[Db,go_sem,b5,show decide (((8:Nat):Int)<((8:Nat):Int))=false from rfl]
theorem awr(A kx:D):bp (ia n) n [D.dX 114 (aQ m.aR),A,kx,J m.aR.length,J 0,bl m.vars,aQ m.aR,az m.bR,az m.bT,aQ m.next,az m.trans,az m.bW,b3 m.bG,J 0,J 0]=some (if(cH (lJ m) m.aR.length 0).2=0 then .inl [A,kx,bl m.vars,aQ m.aR,az m.bR,az m.bT,aQ m.next,az m.trans,az m.bW,b3 m.bG,J 0,J 0]else .inr (.inr (.inr (.inr (eS (2,cH (lJ m) m.aR.length 0)))))):=by
 have aj:=hm.ik;have cc:=hm.bm.dl;refine od (f:=ia n) (λi=>[D.dX 114 (aQ m.aR),A,kx,J m.aR.length,J (i:Int),bl m.vars,aQ m.aR,az m.bR,az m.bT,aQ m.next,az m.trans,az m.bW,b3 m.bG,J 0,J 0]) (lJ m) (m.aR.length) _ (λp=> .inr (.inr (.inr (eS (2,p))))) ?_ ?_ _ 0 n (by omega) (by omega)
 .intro i ah;have cd:=yT ((i:Int)<((m.aR.length:Nat):Int));have hw:=av3 hm i ah;change u6 n [_,m.d,J (i:Int)]=some (J (lJ m i))at hw;by_cases ao:lJ m i=0
  .have dU:(lJ m i !=0)=false:=by simp[ao]
   rw[xad ao];simp only[ia,go_sem,cd,iB,NT,aD.eta,hw,dU,b1 (bt:=false) (i:=i) (by omega)]
  have dU:(lJ m i !=0)=true:=by simpa using ao
  rw[xaa ao];simp only[ia,go_sem,cd,iB,NT,aD.eta,hw,dU,Ml,aaH,eS]
 simp only[ia,go_sem,yF (((m.aR.length:Nat):Int)<((m.aR.length:Nat):Int))]
theorem aws(A kx:D):bp (ia n) n [D.dX 115 (aQ m.aR),A,kx,J m.aR.length,J 0,bl m.vars,aQ m.aR,az m.bR,az m.bT,aQ m.next,az m.trans,az m.bW,b3 m.bG,J 0,J 0]=some (if(cH (ma m) m.aR.length 0).2=0 then .inl [A,kx,bl m.vars,aQ m.aR,az m.bR,az m.bT,aQ m.next,az m.trans,az m.bW,b3 m.bG,J 0,J 0]else .inr (.inr (.inr (.inr (eS (2,cH (ma m) m.aR.length 0)))))):=by
 have aj:=hm.ik;have cc:=hm.bm.dl;refine od (f:=ia n) (λi=>[D.dX 115 (aQ m.aR),A,kx,J m.aR.length,J (i:Int),bl m.vars,aQ m.aR,az m.bR,az m.bT,aQ m.next,az m.trans,az m.bW,b3 m.bG,J 0,J 0]) (ma m) (m.aR.length) _ (λp=> .inr (.inr (.inr (eS (2,p))))) ?_ ?_ _ 0 n (by omega) (by omega)
 .intro i ah;have cd:=yT ((i:Int)<((m.aR.length:Nat):Int));have hw:=avZ n m hm.bm.d i ah (by omega);change Cr n [_,m.d,J (i:Int)]=some (J (ma m i))at hw;by_cases ao:ma m i=0
  .have dU:(ma m i !=0)=false:=by simp[ao]
   rw[xad ao];simp only[ia,go_sem,cd,iB,NU,NV,aD.eta,hw,dU,b1 (bt:=false) (i:=i) (by omega)]
  have dU:(ma m i !=0)=true:=by simpa using ao
  rw[xaa ao];simp only[ia,go_sem,cd,iB,NU,NV,aD.eta,hw,dU,Mk,aaG,eS]
 simp only[ia,go_sem,yF (((m.aR.length:Nat):Int)<((m.aR.length:Nat):Int))]
theorem awt(A kx:D):bp (ia n) n [D.dX 116 (aQ m.aR),A,kx,J m.aR.length,J 0,bl m.vars,aQ m.aR,az m.bR,az m.bT,aQ m.next,az m.trans,az m.bW,b3 m.bG,J 0,J 0]=some (if(cH (lK m) m.aR.length 0).2=0 then .inl [A,kx,bl m.vars,aQ m.aR,az m.bR,az m.bT,aQ m.next,az m.trans,az m.bW,b3 m.bG,J 0,J 0]else .inr (.inr (.inr (.inr (eS (2,cH (lK m) m.aR.length 0)))))):=by
 have aj:=hm.ik;have cc:=hm.bm.dl;refine od (f:=ia n) (λi=>[D.dX 116 (aQ m.aR),A,kx,J m.aR.length,J (i:Int),bl m.vars,aQ m.aR,az m.bR,az m.bT,aQ m.next,az m.trans,az m.bW,b3 m.bG,J 0,J 0]) (lK m) (m.aR.length) _ (λp=> .inr (.inr (.inr (eS (2,p))))) ?_ ?_ _ 0 n (by omega) (by omega)
 .intro i ah;have cd:=yT ((i:Int)<((m.aR.length:Nat):Int));have hw:=av4 hm i ah;change Cq n [_,m.d,J (i:Int)]=some (J (lK m i))at hw;by_cases ao:lK m i=0
  .have dU:(lK m i !=0)=false:=by simp[ao]
   rw[xad ao];simp only[ia,go_sem,cd,iB,NW,NX,NY,aD.eta,hw,dU,b1 (bt:=false) (i:=i) (by omega)]
  have dU:(lK m i !=0)=true:=by simpa using ao
  rw[xaa ao];simp only[ia,go_sem,cd,iB,NW,NX,NY,aD.eta,hw,dU,Mj,aaF,eS]
 simp only[ia,go_sem,yF (((m.aR.length:Nat):Int)<((m.aR.length:Nat):Int))]
theorem Oa(l:List Tm)(ar:l.length<=100/\∀t∈l,t.cm/\t.bm<=12300)(k:Int)(nx:Bool)(A kx:D):bp (ia n) n [D.dX 118 (D.agg [J k,az l,ay nx]),A,kx,J l.length,J 0,bl m.vars,aQ m.aR,az m.bR,az m.bT,aQ m.next,az m.trans,az m.bW,b3 m.bG,J 0,J 0]=some (if(cH (fg m l nx) l.length 0).2=0 then .inl [A,kx,bl m.vars,aQ m.aR,az m.bR,az m.bT,aQ m.next,az m.trans,az m.bW,b3 m.bG,J 0,J 0]else .inr (.inr (.inr (.inr (eS (k,cH (fg m l nx) l.length 0)))))):=by
 have aj:=hm.ik;have cc:=ar.1;have awu:ad (D.agg [J k,az l,ay nx]) 0=J k:=rfl;have AA:a4 3 (D.agg [J k,az l,ay nx])=true:=rfl;refine od (f:=ia n) (λi=>[D.dX 118 (D.agg [J k,az l,ay nx]),A,kx,J l.length,J (i:Int),bl m.vars,aQ m.aR,az m.bR,az m.bT,aQ m.next,az m.trans,az m.bW,b3 m.bG,J 0,J 0]) (fg m l nx) (l.length) _ (λp=> .inr (.inr (.inr (eS (k,p))))) ?_ ?_ _ 0 n (by omega) (by omega)
 .intro i ah;have cd:=yT ((i:Int)<((l.length:Nat):Int));have hw:=av5 hm l ar.2 k nx i ah;change Cp n [_,m.d,J (i:Int)]=some (J (fg m l nx i))at hw;by_cases ao:fg m l nx i=0
  .have dU:(fg m l nx i !=0)=false:=by simp[ao]
   rw[xad ao];simp only[ia,go_sem,cd,iB,tY,tZ,ua,ub,aD.eta,hw,dU,b1 (bt:=false) (i:=i) (by omega)]
  have dU:(fg m l nx i !=0)=true:=by simpa using ao
  rw[xaa ao];simp only[ia,go_sem,cd,iB,tY,tZ,ua,ub,aD.eta,hw,dU,Mi,aaE,awu,AA,eS]
 simp only[ia,go_sem,yF (((l.length:Nat):Int)<((l.length:Nat):Int))]
theorem awv(A kx:D):bp (ia n) n [D.dX 119 (aQ m.next),A,kx,J m.next.length,J 0,bl m.vars,aQ m.aR,az m.bR,az m.bT,aQ m.next,az m.trans,az m.bW,b3 m.bG,J 0,J 0]=some (if(cH (jS m) m.next.length 0).2=0 then .inl [A,kx,bl m.vars,aQ m.aR,az m.bR,az m.bT,aQ m.next,az m.trans,az m.bW,b3 m.bG,J 0,J 0]else .inr (.inr (.inr (.inr (eS (5,cH (jS m) m.next.length 0)))))):=by
 have aj:=hm.ik;have cc:=hm.next.1
 refine od (f:=ia n) (λi=>[D.dX 119 (aQ m.next),A,kx,J m.next.length,J (i:Int),bl m.vars,aQ m.aR,az m.bR,az m.bT,aQ m.next,az m.trans,az m.bW,b3 m.bG,J 0,J 0]) (jS m) (m.next.length) _ (λp=> .inr (.inr (.inr (eS (5,p))))) ?_ ?_ _ 0 n (by omega) (by omega)
 .intro i ah;have cd:=yT ((i:Int)<((m.next.length:Nat):Int));have hw:=av6 hm i ah;change xd n [_,m.d,J (i:Int)]=some (J (jS m i))at hw;by_cases ao:jS m i=0
  .have dU:(jS m i !=0)=false:=by simp[ao]
   rw[xad ao];simp only[ia,go_sem,cd,iB,NZ,N0,N1,N2,N3,aD.eta,hw,dU,b1 (bt:=false) (i:=i) (by omega)]
  have dU:(jS m i !=0)=true:=by simpa using ao
  rw[xaa ao];simp only[ia,go_sem,cd,iB,NZ,N0,N1,N2,N3,aD.eta,hw,dU,Mh,aaD,eS]
 simp only[ia,go_sem,yF (((m.next.length:Nat):Int)<((m.next.length:Nat):Int))]
theorem aww(A kx:D):bp (ia n) n [D.dX 120 (b3 m.bG),A,kx,J m.bG.length,J 0,bl m.vars,aQ m.aR,az m.bR,az m.bT,aQ m.next,az m.trans,az m.bW,b3 m.bG,J 0,J 0]=some (if(cH (jT m) m.bG.length 0).2=0 then .inl [A,kx,bl m.vars,aQ m.aR,az m.bR,az m.bT,aQ m.next,az m.trans,az m.bW,b3 m.bG,J 0,J 0]else .inr (.inr (.inr (.inr (eS (8,cH (jT m) m.bG.length 0)))))):=by
 have aj:=hm.ik;have cc:=hm.bG.1;refine od (f:=ia n) (λi=>[D.dX 120 (b3 m.bG),A,kx,J m.bG.length,J (i:Int),bl m.vars,aQ m.aR,az m.bR,az m.bT,aQ m.next,az m.trans,az m.bW,b3 m.bG,J 0,J 0]) (jT m) (m.bG.length) _ (λp=> .inr (.inr (.inr (eS (8,p))))) ?_ ?_ _ 0 n (by omega) (by omega)
 .intro i ah;have cd:=yT ((i:Int)<((m.bG.length:Nat):Int));have hw:=av7 hm i ah;change vu n [_,m.d,J (i:Int)]=some (J (jT m i))at hw;by_cases ao:jT m i=0
  .have dU:(jT m i !=0)=false:=by simp[ao]
   rw[xad ao];simp only[ia,go_sem,cd,iB,N4,N5,N6,N7,N8,N9,aD.eta,hw,dU,b1 (bt:=false) (i:=i) (by omega)]
  have dU:(jT m i !=0)=true:=by simpa using ao
  rw[xaa ao];simp only[ia,go_sem,cd,iB,N4,N5,N6,N7,N8,N9,aD.eta,hw,dU,Mg,aaC,eS]
 simp only[ia,go_sem,yF (((m.bG.length:Nat):Int)<((m.bG.length:Nat):Int))]
theorem awx:h2 n [gP m,J 0,bl m.vars,aQ m.aR,az m.bR,az m.bT,aQ m.next,az m.trans,az m.bW,b3 m.bG,J 0,J 0]=some (if(cH (lJ m) m.aR.length 0).2=0 then .inl [gP m,J 1,bl m.vars,aQ m.aR,az m.bR,az m.bT,aQ m.next,az m.trans,az m.bW,b3 m.bG,J 0,J 0]else .inr (.inr (eS (2,cH (lJ m) m.aR.length 0)))):=by
 have fE:=awr hm (gP m) (J 0);have cd:decide ((0:Int)<9)=true:=rfl;have fV:b9 9 (J 0)=some 0:=rfl;have bd:lS false 1 (0*1) (gP m)=some (D.dX 114 (aQ m.aR)):=rfl;have jx:F4 n [aQ m.aR]=some (J m.aR.length):=by simp only[F4,aaj,go_sem,ec]
 have g8:ai false .add (J 0) (J 1)=some (J 1):=gy (by decide) (by decide);by_cases ao:(cH (lJ m) m.aR.length 0).2=0;.rw[xad ao]at fE⊢;simp only[h2,go_sem,cd,fV,bd,iB,NT,jx,fE,g8]
 rw[xaa ao]at fE⊢;simp only[h2,go_sem,cd,fV,bd,iB,NT,jx,fE]
theorem awy:h2 n [gP m,J 1,bl m.vars,aQ m.aR,az m.bR,az m.bT,aQ m.next,az m.trans,az m.bW,b3 m.bG,J 0,J 0]=some (if(cH (ma m) m.aR.length 0).2=0 then .inl [gP m,J 2,bl m.vars,aQ m.aR,az m.bR,az m.bT,aQ m.next,az m.trans,az m.bW,b3 m.bG,J 0,J 0]else .inr (.inr (eS (2,cH (ma m) m.aR.length 0)))):=by
 have fE:=aws hm (gP m) (J 1);have cd:decide ((1:Int)<9)=true:=rfl;have fV:b9 9 (J 1)=some 1:=rfl;have bd:lS false 1 (1*1) (gP m)=some (D.dX 115 (aQ m.aR)):=rfl;have jx:F3 n [aQ m.aR]=some (J m.aR.length):=by simp only[F3,aai,go_sem,ec]
 have g8:ai false .add (J 1) (J 1)=some (J 2):=gy (by decide) (by decide);by_cases ao:(cH (ma m) m.aR.length 0).2=0;.rw[xad ao]at fE⊢;simp only[h2,go_sem,cd,fV,bd,iB,NU,NV,jx,fE,g8]
 rw[xaa ao]at fE⊢;simp only[h2,go_sem,cd,fV,bd,iB,NU,NV,jx,fE]
theorem awz:h2 n [gP m,J 2,bl m.vars,aQ m.aR,az m.bR,az m.bT,aQ m.next,az m.trans,az m.bW,b3 m.bG,J 0,J 0]=some (if(cH (lK m) m.aR.length 0).2=0 then .inl [gP m,J 3,bl m.vars,aQ m.aR,az m.bR,az m.bT,aQ m.next,az m.trans,az m.bW,b3 m.bG,J 0,J 0]else .inr (.inr (eS (2,cH (lK m) m.aR.length 0)))):=by
 have fE:=awt hm (gP m) (J 2);have cd:decide ((2:Int)<9)=true:=rfl;have fV:b9 9 (J 2)=some 2:=rfl;have bd:lS false 1 (2*1) (gP m)=some (D.dX 116 (aQ m.aR)):=rfl;have jx:F2 n [aQ m.aR]=some (J m.aR.length):=by simp only[F2,aah,go_sem,ec]
 have g8:ai false .add (J 2) (J 1)=some (J 3):=gy (by decide) (by decide);by_cases ao:(cH (lK m) m.aR.length 0).2=0;.rw[xad ao]at fE⊢;simp only[h2,go_sem,cd,fV,bd,iB,NW,NX,NY,jx,fE,g8]
 rw[xaa ao]at fE⊢;simp only[h2,go_sem,cd,fV,bd,iB,NW,NX,NY,jx,fE]
theorem awA:h2 n [gP m,J 3,bl m.vars,aQ m.aR,az m.bR,az m.bT,aQ m.next,az m.trans,az m.bW,b3 m.bG,J 0,J 0]=some (if(cH (fg m m.bR false) m.bR.length 0).2=0 then .inl [gP m,J 4,bl m.vars,aQ m.aR,az m.bR,az m.bT,aQ m.next,az m.trans,az m.bW,b3 m.bG,J 0,J 0]else .inr (.inr (eS (3,cH (fg m m.bR false) m.bR.length 0)))):=by
 have fE:=Oa hm m.bR hm.bR 3 false (gP m) (J 3);have cd:decide ((3:Int)<9)=true:=rfl;have fV:b9 9 (J 3)=some 3:=rfl;have bd:lS false 1 (3*1) (gP m)=some (D.dX 118 (D.agg [J 3,az m.bR,ay false])):=rfl;have jx:rL n [D.agg [J 3,az m.bR,ay false]]=some (J m.bR.length):=by have aw:a4 3 (D.agg [J 3,az m.bR,ay false])=true:=rfl;have a5:ad (D.agg [J 3,az m.bR,ay false]) 1=az m.bR:=rfl;simp only[rL,F1,go_sem,aw,a5,hy]
 have g8:ai false .add (J 3) (J 1)=some (J 4):=gy (by decide) (by decide);by_cases ao:(cH (fg m m.bR false) m.bR.length 0).2=0;.rw[xad ao]at fE⊢;simp only[h2,go_sem,cd,fV,bd,iB,tY,tZ,ua,ub,jx,fE,g8]
 rw[xaa ao]at fE⊢;simp only[h2,go_sem,cd,fV,bd,iB,tY,tZ,ua,ub,jx,fE]
theorem awB:h2 n [gP m,J 4,bl m.vars,aQ m.aR,az m.bR,az m.bT,aQ m.next,az m.trans,az m.bW,b3 m.bG,J 0,J 0]=some (if(cH (fg m m.bT false) m.bT.length 0).2=0 then .inl [gP m,J 5,bl m.vars,aQ m.aR,az m.bR,az m.bT,aQ m.next,az m.trans,az m.bW,b3 m.bG,J 0,J 0]else .inr (.inr (eS (4,cH (fg m m.bT false) m.bT.length 0)))):=by
 have fE:=Oa hm m.bT hm.bT 4 false (gP m) (J 4);have cd:decide ((4:Int)<9)=true:=rfl;have fV:b9 9 (J 4)=some 4:=rfl;have bd:lS false 1 (4*1) (gP m)=some (D.dX 118 (D.agg [J 4,az m.bT,ay false])):=rfl;have jx:rL n [D.agg [J 4,az m.bT,ay false]]=some (J m.bT.length):=by have aw:a4 3 (D.agg [J 4,az m.bT,ay false])=true:=rfl;have a5:ad (D.agg [J 4,az m.bT,ay false]) 1=az m.bT:=rfl;simp only[rL,F1,go_sem,aw,a5,hy]
 have g8:ai false .add (J 4) (J 1)=some (J 5):=gy (by decide) (by decide);by_cases ao:(cH (fg m m.bT false) m.bT.length 0).2=0;.rw[xad ao]at fE⊢;simp only[h2,go_sem,cd,fV,bd,iB,tY,tZ,ua,ub,jx,fE,g8]
 rw[xaa ao]at fE⊢;simp only[h2,go_sem,cd,fV,bd,iB,tY,tZ,ua,ub,jx,fE]
theorem awC:h2 n [gP m,J 5,bl m.vars,aQ m.aR,az m.bR,az m.bT,aQ m.next,az m.trans,az m.bW,b3 m.bG,J 0,J 0]=some (if(cH (jS m) m.next.length 0).2=0 then .inl [gP m,J 6,bl m.vars,aQ m.aR,az m.bR,az m.bT,aQ m.next,az m.trans,az m.bW,b3 m.bG,J 0,J 0]else .inr (.inr (eS (5,cH (jS m) m.next.length 0)))):=by
 have fE:=awv hm (gP m) (J 5);have cd:decide ((5:Int)<9)=true:=rfl;have fV:b9 9 (J 5)=some 5:=rfl;have bd:lS false 1 (5*1) (gP m)=some (D.dX 119 (aQ m.next)):=rfl;have jx:F0 n [aQ m.next]=some (J m.next.length):=by simp only[F0,aag,go_sem,ec]
 have g8:ai false .add (J 5) (J 1)=some (J 6):=gy (by decide) (by decide);by_cases ao:(cH (jS m) m.next.length 0).2=0;.rw[xad ao]at fE⊢;simp only[h2,go_sem,cd,fV,bd,iB,NZ,N0,N1,N2,N3,jx,fE,g8]
 rw[xaa ao]at fE⊢;simp only[h2,go_sem,cd,fV,bd,iB,NZ,N0,N1,N2,N3,jx,fE]
theorem awD:h2 n [gP m,J 6,bl m.vars,aQ m.aR,az m.bR,az m.bT,aQ m.next,az m.trans,az m.bW,b3 m.bG,J 0,J 0]=some (if(cH (fg m m.trans true) m.trans.length 0).2=0 then .inl [gP m,J 7,bl m.vars,aQ m.aR,az m.bR,az m.bT,aQ m.next,az m.trans,az m.bW,b3 m.bG,J 0,J 0]else .inr (.inr (eS (6,cH (fg m m.trans true) m.trans.length 0)))):=by
 have fE:=Oa hm m.trans hm.trans 6 true (gP m) (J 6);have cd:decide ((6:Int)<9)=true:=rfl;have fV:b9 9 (J 6)=some 6:=rfl;have bd:lS false 1 (6*1) (gP m)=some (D.dX 118 (D.agg [J 6,az m.trans,ay true])):=rfl;have jx:rL n [D.agg [J 6,az m.trans,ay true]]=some (J m.trans.length):=by have aw:a4 3 (D.agg [J 6,az m.trans,ay true])=true:=rfl;have a5:ad (D.agg [J 6,az m.trans,ay true]) 1=az m.trans:=rfl;simp only[rL,F1,go_sem,aw,a5,hy]
 have g8:ai false .add (J 6) (J 1)=some (J 7):=gy (by decide) (by decide);by_cases ao:(cH (fg m m.trans true) m.trans.length 0).2=0;.rw[xad ao]at fE⊢;simp only[h2,go_sem,cd,fV,bd,iB,tY,tZ,ua,ub,jx,fE,g8]
 rw[xaa ao]at fE⊢;simp only[h2,go_sem,cd,fV,bd,iB,tY,tZ,ua,ub,jx,fE]
theorem awE:h2 n [gP m,J 7,bl m.vars,aQ m.aR,az m.bR,az m.bT,aQ m.next,az m.trans,az m.bW,b3 m.bG,J 0,J 0]=some (if(cH (fg m m.bW false) m.bW.length 0).2=0 then .inl [gP m,J 8,bl m.vars,aQ m.aR,az m.bR,az m.bT,aQ m.next,az m.trans,az m.bW,b3 m.bG,J 0,J 0]else .inr (.inr (eS (7,cH (fg m m.bW false) m.bW.length 0)))):=by
 have fE:=Oa hm m.bW hm.bW 7 false (gP m) (J 7);have cd:decide ((7:Int)<9)=true:=rfl;have fV:b9 9 (J 7)=some 7:=rfl;have bd:lS false 1 (7*1) (gP m)=some (D.dX 118 (D.agg [J 7,az m.bW,ay false])):=rfl;have jx:rL n [D.agg [J 7,az m.bW,ay false]]=some (J m.bW.length):=by have aw:a4 3 (D.agg [J 7,az m.bW,ay false])=true:=rfl;have a5:ad (D.agg [J 7,az m.bW,ay false]) 1=az m.bW:=rfl;simp only[rL,F1,go_sem,aw,a5,hy]
 have g8:ai false .add (J 7) (J 1)=some (J 8):=gy (by decide) (by decide);by_cases ao:(cH (fg m m.bW false) m.bW.length 0).2=0;.rw[xad ao]at fE⊢;simp only[h2,go_sem,cd,fV,bd,iB,tY,tZ,ua,ub,jx,fE,g8]
 rw[xaa ao]at fE⊢;simp only[h2,go_sem,cd,fV,bd,iB,tY,tZ,ua,ub,jx,fE]
theorem awF:h2 n [gP m,J 8,bl m.vars,aQ m.aR,az m.bR,az m.bT,aQ m.next,az m.trans,az m.bW,b3 m.bG,J 0,J 0]=some (if(cH (jT m) m.bG.length 0).2=0 then .inl [gP m,J 9,bl m.vars,aQ m.aR,az m.bR,az m.bT,aQ m.next,az m.trans,az m.bW,b3 m.bG,J 0,J 0]else .inr (.inr (eS (8,cH (jT m) m.bG.length 0)))):=by
 have fE:=aww hm (gP m) (J 8);have cd:decide ((8:Int)<9)=true:=rfl;have fV:b9 9 (J 8)=some 8:=rfl;have bd:lS false 1 (8*1) (gP m)=some (D.dX 120 (b3 m.bG)):=rfl;have jx:FZ n [b3 m.bG]=some (J m.bG.length):=by simp only[FZ,aaf,go_sem,iH]
 have g8:ai false .add (J 8) (J 1)=some (J 9):=gy (by decide) (by decide);by_cases ao:(cH (jT m) m.bG.length 0).2=0;.rw[xad ao]at fE⊢;simp only[h2,go_sem,cd,fV,bd,iB,N4,N5,N6,N7,N8,N9,jx,fE,g8]
 rw[xaa ao]at fE⊢;simp only[h2,go_sem,cd,fV,bd,iB,N4,N5,N6,N7,N8,N9,jx,fE]
theorem awG:bp (h2 n) n [gP m,J 0,bl m.vars,aQ m.aR,az m.bR,az m.bT,aQ m.next,az m.trans,az m.bW,b3 m.bG,J 0,J 0]=some (if(il (sh m)).2.2=0 then .inl [J 0,J 0]else .inr (eS (il (sh m)))):=by
 have aj:=hm.ik;refine aeZ (f:=h2 n) (sh m) (λi=>[gP m,J (i:Int),bl m.vars,aQ m.aR,az m.bR,az m.bT,aQ m.next,az m.trans,az m.bW,b3 m.bG,J 0,J 0]) [J 0,J 0] eS ?_ ?_ n (by show 9<n;omega)
 .intro i a aF
  match i,aF with
  |0,aF=>cases aF;exact awx hm
  |1,aF=>cases aF;exact awy hm
  |2,aF=>cases aF;exact awz hm
  |3,aF=>cases aF;exact awA hm
  |4,aF=>cases aF;exact awB hm
  |5,aF=>cases aF;exact awC hm
  |6,aF=>cases aF;exact awD hm
  |7,aF=>cases aF;exact awE hm
  |8,aF=>cases aF;exact awF hm
  |j+9,aF=>cases aF
 show h2 n [gP m,J 9,bl m.vars,aQ m.aR,az m.bR,az m.bT,aQ m.next,az m.trans,az m.bW,b3 m.bG,J 0,J 0]=_;simp only[h2,go_sem,show decide ((9:Int)<9)=false from rfl]
theorem awH:r2 n [m.d]=some (eS (m9 m)):=by
 have aj:=hm.ik;have af:=awp hm;have pZ:=awG hm;have hP:=avp n m.vars hm.NQ (by have:=hm.bm.qK;omega) hm.aeT;have gL:=awk n m hm.NQ hm.bm.qK (by omega);have jG:D.agg [J (m.vars.length:Int),J (m.aR.length:Int),J (m.bR.length:Int),J (m.bT.length:Int),J (m.next.length:Int),J (m.trans.length:Int),J (m.bW.length:Int),J (m.bG.length:Int)]=I7 m:=rfl;have ae3:D.agg [.dX 114 (aQ m.aR),.dX 115 (aQ m.aR),.dX 116 (aQ m.aR),.dX 118 (.agg [J 3,az m.bR,ay false]),.dX 118 (.agg [J 4,az m.bT,ay false]),.dX 119 (aQ m.next),.dX 118 (.agg [J 6,az m.trans,ay true]),.dX 118 (.agg [J 7,az m.bW,ay false]),.dX 120 (b3 m.bG)]=gP m:=rfl;have xJ:∀l,bu (az l)=true:=λ_=>rfl;have fv:∀t x,bu (D.dX t x)=true:=λ_ _=>rfl;unfold m9;by_cases bP:(cH (mH m) 8 0).2=0
 case neg=>rw[xaa bP]at af⊢;simp only[r2,Du,go_sem,aD.agg,aD.a8,aD.bP,aD.b6,aD.cA,aD.dC,aD.eC,aD.eD,aD.eX,aD.eta,fX,ec,hy,iH,jG,af]
 rw[xad bP]at af⊢;by_cases b6:(kl m.vars).2=0
 case neg=>
  have si:((kl m.vars).2 !=0)=true:=by simpa using b6
  rw[xaa b6];simp only[r2,Du,go_sem,aD.agg,aD.a8,aD.bP,aD.b6,aD.cA,aD.dC,aD.eC,aD.eD,aD.eX,aD.eta,fX,ec,hy,iH,jG,af,hP,si,eS]
 have si:((kl m.vars).2 !=0)=false:=by simp[b6]
 rw[xad b6];by_cases cA:30<mG m.vars;.have sc:=yT (((mG m.vars:Nat):Int)>30);rw[xad cA];simp only[r2,Du,go_sem,aD.agg,aD.a8,aD.bP,aD.b6,aD.cA,aD.dC,aD.eC,aD.eD,aD.eX,aD.eta,fX,ec,hy,iH,jG,af,hP,si,gL,sc,eS]
 have sc:=yF (((mG m.vars:Nat):Int)>30);rw[xaa cA];by_cases dC:(il (sh m)).2.2=0;.rw[xad dC]at pZ;rw[ae2 _ dC];simp only[r2,Du,go_sem,aD.agg,aD.a8,aD.bP,aD.b6,aD.cA,aD.dC,aD.eC,aD.eD,aD.eX,aD.eta,fX,ec,hy,iH,jG,af,hP,si,gL,sc,xJ,fv,ae3,pZ,eS]
 rw[xaa dC]at pZ;simp only[r2,Du,go_sem,aD.agg,aD.a8,aD.bP,aD.b6,aD.cA,aD.dC,aD.eC,aD.eD,aD.eX,aD.eta,fX,ec,hy,iH,jG,af,hP,si,gL,sc,xJ,fv,ae3,pZ]
theorem awI(h:(sg m).2=0):sg m=(0,0):=by unfold sg at h⊢;obtain⟨ab,af⟩:=ae0.1 h;obtain⟨aw,a5⟩:=ae0.1 af;rw[vL,xad ab,vL,xad aw,sf _ _ _ a5]
theorem awJ:jv n [J 0,J 0,J 2,bl m.vars,aQ m.aR,az m.bR,az m.bT,aQ m.next,az m.trans,az m.bW,b3 m.bG,J 0,J 0]=some (if(sg m).2=0 then .inl [J 0,J 0,J 3,bl m.vars,aQ m.aR,az m.bR,az m.bT,aQ m.next,az m.trans,az m.bW,b3 m.bG,J 0,J 0]else .inr (.inr (eS (2,sg m)))):=by
 have ff:=awe hm;have cd:decide ((2:Int)<=8)=true:=rfl;have bB:((2:Int)==2)=true:=rfl;have g8:ai false .add (J 2) (J 1)=some (J 3):=gy (by decide) (by decide);by_cases ao:(sg m).2=0
 .have bC:=awI hm ao;rw[bC]at ff⊢;have hG:((0:Int) !=0)=false:=rfl;simp only[jv,go_sem,cd,bB,aD.eta,ff,gi,hG,g8]
 rw[xaa ao];generalize sg m=p at*;have dU:(p.2 !=0)=true:=by simpa using ao
 simp only[jv,go_sem,cd,bB,aD.eta,ff,gi,dU,eS]
theorem awK:jv n [J 0,J 0,J 3,bl m.vars,aQ m.aR,az m.bR,az m.bT,aQ m.next,az m.trans,az m.bW,b3 m.bG,J 0,J 0]=some (if(cH (fg m m.bR false) m.bR.length 0).2=0 then .inl [J 0,J 0,J 4,bl m.vars,aQ m.aR,az m.bR,az m.bT,aQ m.next,az m.trans,az m.bW,b3 m.bG,J 0,J 0]else .inr (.inr (eS (3,cH (fg m m.bR false) m.bR.length 0)))):=by
 have ff:=NS hm m.bR hm.bR false;have cd:decide ((3:Int)<=8)=true:=rfl;have bB:((3:Int)==2)=false:=rfl;have cz:((3:Int)==3)=true:=rfl;have g8:ai false .add (J 3) (J 1)=some (J 4):=gy (by decide) (by decide);by_cases ao:(cH (fg m m.bR false) m.bR.length 0).2=0
 .have bC:=sf _ _ _ ao;rw[bC]at ff⊢;have hG:((0:Int) !=0)=false:=rfl;simp only[jv,go_sem,cd,bB,cz,aD.eta,ff,gi,hG,g8]
 rw[xaa ao];generalize cH (fg m m.bR false) m.bR.length 0=p at*;have dU:(p.2 !=0)=true:=by simpa using ao
 simp only[jv,go_sem,cd,bB,cz,aD.eta,ff,gi,dU,eS]
theorem awL:jv n [J 0,J 0,J 4,bl m.vars,aQ m.aR,az m.bR,az m.bT,aQ m.next,az m.trans,az m.bW,b3 m.bG,J 0,J 0]=some (if(cH (fg m m.bT false) m.bT.length 0).2=0 then .inl [J 0,J 0,J 5,bl m.vars,aQ m.aR,az m.bR,az m.bT,aQ m.next,az m.trans,az m.bW,b3 m.bG,J 0,J 0]else .inr (.inr (eS (4,cH (fg m m.bT false) m.bT.length 0)))):=by
 have ff:=NS hm m.bT hm.bT false;have cd:decide ((4:Int)<=8)=true:=rfl;have bB:((4:Int)==2)=false:=rfl;have cz:((4:Int)==3)=false:=rfl;have ey:((4:Int)==4)=true:=rfl;have g8:ai false .add (J 4) (J 1)=some (J 5):=gy (by decide) (by decide);by_cases ao:(cH (fg m m.bT false) m.bT.length 0).2=0
 .have bC:=sf _ _ _ ao;rw[bC]at ff⊢;have hG:((0:Int) !=0)=false:=rfl;simp only[jv,go_sem,cd,bB,cz,ey,aD.eta,ff,gi,hG,g8]
 rw[xaa ao];generalize cH (fg m m.bT false) m.bT.length 0=p at*;have dU:(p.2 !=0)=true:=by simpa using ao
 simp only[jv,go_sem,cd,bB,cz,ey,aD.eta,ff,gi,dU,eS]
theorem awM:jv n [J 0,J 0,J 5,bl m.vars,aQ m.aR,az m.bR,az m.bT,aQ m.next,az m.trans,az m.bW,b3 m.bG,J 0,J 0]=some (if(cH (jS m) m.next.length 0).2=0 then .inl [J 0,J 0,J 6,bl m.vars,aQ m.aR,az m.bR,az m.bT,aQ m.next,az m.trans,az m.bW,b3 m.bG,J 0,J 0]else .inr (.inr (eS (5,cH (jS m) m.next.length 0)))):=by
 have ff:=awh hm;have cd:decide ((5:Int)<=8)=true:=rfl;have bB:((5:Int)==2)=false:=rfl;have cz:((5:Int)==3)=false:=rfl;have ey:((5:Int)==4)=false:=rfl;have fk:((5:Int)==5)=true:=rfl;have g8:ai false .add (J 5) (J 1)=some (J 6):=gy (by decide) (by decide);by_cases ao:(cH (jS m) m.next.length 0).2=0
 .have bC:=sf _ _ _ ao;rw[bC]at ff⊢;have hG:((0:Int) !=0)=false:=rfl;simp only[jv,go_sem,cd,bB,cz,ey,fk,aD.eta,ff,gi,hG,g8]
 rw[xaa ao];generalize cH (jS m) m.next.length 0=p at*
 have dU:(p.2 !=0)=true:=by simpa using ao
 simp only[jv,go_sem,cd,bB,cz,ey,fk,aD.eta,ff,gi,dU,eS]
theorem awN:jv n [J 0,J 0,J 6,bl m.vars,aQ m.aR,az m.bR,az m.bT,aQ m.next,az m.trans,az m.bW,b3 m.bG,J 0,J 0]=some (if(cH (fg m m.trans true) m.trans.length 0).2=0 then .inl [J 0,J 0,J 7,bl m.vars,aQ m.aR,az m.bR,az m.bT,aQ m.next,az m.trans,az m.bW,b3 m.bG,J 0,J 0]else .inr (.inr (eS (6,cH (fg m m.trans true) m.trans.length 0)))):=by
 have ff:=NS hm m.trans hm.trans true;have cd:decide ((6:Int)<=8)=true:=rfl;have bB:((6:Int)==2)=false:=rfl;have cz:((6:Int)==3)=false:=rfl;have ey:((6:Int)==4)=false:=rfl;have fk:((6:Int)==5)=false:=rfl;have hh:((6:Int)==6)=true:=rfl;have g8:ai false .add (J 6) (J 1)=some (J 7):=gy (by decide) (by decide);by_cases ao:(cH (fg m m.trans true) m.trans.length 0).2=0
 .have bC:=sf _ _ _ ao;rw[bC]at ff⊢;have hG:((0:Int) !=0)=false:=rfl;simp only[jv,go_sem,cd,bB,cz,ey,fk,hh,aD.eta,ff,gi,hG,g8]
 rw[xaa ao];generalize cH (fg m m.trans true) m.trans.length 0=p at*;have dU:(p.2 !=0)=true:=by simpa using ao
 simp only[jv,go_sem,cd,bB,cz,ey,fk,hh,aD.eta,ff,gi,dU,eS]
theorem awO:jv n [J 0,J 0,J 7,bl m.vars,aQ m.aR,az m.bR,az m.bT,aQ m.next,az m.trans,az m.bW,b3 m.bG,J 0,J 0]=some (if(cH (fg m m.bW false) m.bW.length 0).2=0 then .inl [J 0,J 0,J 8,bl m.vars,aQ m.aR,az m.bR,az m.bT,aQ m.next,az m.trans,az m.bW,b3 m.bG,J 0,J 0]else .inr (.inr (eS (7,cH (fg m m.bW false) m.bW.length 0)))):=by
 have ff:=NS hm m.bW hm.bW false;have cd:decide ((7:Int)<=8)=true:=rfl;have bB:((7:Int)==2)=false:=rfl;have cz:((7:Int)==3)=false:=rfl;have ey:((7:Int)==4)=false:=rfl;have fk:((7:Int)==5)=false:=rfl;have hh:((7:Int)==6)=false:=rfl;have sj:((7:Int)==7)=true:=rfl;have g8:ai false .add (J 7) (J 1)=some (J 8):=gy (by decide) (by decide);by_cases ao:(cH (fg m m.bW false) m.bW.length 0).2=0
 .have bC:=sf _ _ _ ao;rw[bC]at ff⊢;have hG:((0:Int) !=0)=false:=rfl;simp only[jv,go_sem,cd,bB,cz,ey,fk,hh,sj,aD.eta,ff,gi,hG,g8]
 rw[xaa ao];generalize cH (fg m m.bW false) m.bW.length 0=p at*;have dU:(p.2 !=0)=true:=by simpa using ao
 simp only[jv,go_sem,cd,bB,cz,ey,fk,hh,sj,aD.eta,ff,gi,dU,eS]
theorem awP:jv n [J 0,J 0,J 8,bl m.vars,aQ m.aR,az m.bR,az m.bT,aQ m.next,az m.trans,az m.bW,b3 m.bG,J 0,J 0]=some (if(cH (jT m) m.bG.length 0).2=0 then .inl [J 0,J 0,J 9,bl m.vars,aQ m.aR,az m.bR,az m.bT,aQ m.next,az m.trans,az m.bW,b3 m.bG,J 0,J 0]else .inr (.inr (eS (8,cH (jT m) m.bG.length 0)))):=by
 have ff:=awi hm;have cd:decide ((8:Int)<=8)=true:=rfl;have bB:((8:Int)==2)=false:=rfl;have cz:((8:Int)==3)=false:=rfl;have ey:((8:Int)==4)=false:=rfl;have fk:((8:Int)==5)=false:=rfl;have hh:((8:Int)==6)=false:=rfl;have sj:((8:Int)==7)=false:=rfl;have Ob:((8:Int)==8)=true:=rfl;have g8:ai false .add (J 8) (J 1)=some (J 9):=gy (by decide) (by decide);by_cases ao:(cH (jT m) m.bG.length 0).2=0
 .have bC:=sf _ _ _ ao;rw[bC]at ff⊢;have hG:((0:Int) !=0)=false:=rfl;simp only[jv,go_sem,cd,bB,cz,ey,fk,hh,sj,Ob,aD.eta,ff,gi,hG,g8]
 rw[xaa ao];generalize cH (jT m) m.bG.length 0=p at*;have dU:(p.2 !=0)=true:=by simpa using ao
 simp only[jv,go_sem,cd,bB,cz,ey,fk,hh,sj,Ob,aD.eta,ff,gi,dU,eS]
theorem awQ:bp (jv n) n [J 0,J 0,J 2,bl m.vars,aQ m.aR,az m.bR,az m.bT,aQ m.next,az m.trans,az m.bW,b3 m.bG,J 0,J 0]=some (if(il (sh m)).2.2=0 then .inl [J 0,J 0]else .inr (eS (il (sh m)))):=by
 have aj:=hm.ik;rw[<-awn];refine aeZ (f:=jv n) (U5 m) (λi=>[J 0,J 0,J ((i+2:Nat):Int),bl m.vars,aQ m.aR,az m.bR,az m.bT,aQ m.next,az m.trans,az m.bW,b3 m.bG,J 0,J 0]) [J 0,J 0] eS ?_ ?_ n (by show 7<n;omega)
 .intro i a aF
  match i,aF with
  |0,aF=>cases aF;exact awJ hm
  |1,aF=>cases aF;exact awK hm
  |2,aF=>cases aF;exact awL hm
  |3,aF=>cases aF;exact awM hm
  |4,aF=>cases aF;exact awN hm
  |5,aF=>cases aF;exact awO hm
  |6,aF=>cases aF;exact awP hm
  |j+7,aF=>cases aF
 show jv n [J 0,J 0,J 9,bl m.vars,aQ m.aR,az m.bR,az m.bT,aQ m.next,az m.trans,az m.bW,b3 m.bG,J 0,J 0]=_;simp only[jv,go_sem,show decide ((9:Int)<=8)=false from rfl]
theorem Oc:rZ n [m.d]=some (eS (m9 m)):=by
 have aj:=hm.ik;have af:=awq hm;have pZ:=awQ hm;have hP:=avx n m.vars hm.NQ (by have:=hm.bm.qK;omega) hm.aeT;have gL:=awl n m hm.NQ hm.bm.qK (by omega);have jG:D.ax 1 [[J (m.vars.length:Int)],[J (m.aR.length:Int)],[J (m.bR.length:Int)],[J (m.bT.length:Int)],[J (m.next.length:Int)],[J (m.trans.length:Int)],[J (m.bW.length:Int)],[J (m.bG.length:Int)]]=D.ax 1 ((oe m).map λ(k:Nat)=>[J (k:Int)]):=rfl;unfold m9;by_cases bP:(cH (mH m) 8 0).2=0
 case neg=>rw[xaa bP]at af⊢;simp only[rZ,Dc,go_sem,aD.agg,aD.a8,aD.bP,aD.b6,aD.cA,aD.dC,aD.eC,aD.eD,aD.eX,aD.eta,fX,ec,hy,iH,jG,af]
 rw[xad bP]at af⊢;by_cases b6:(kl m.vars).2=0
 case neg=>
  have si:((kl m.vars).2 !=0)=true:=by simpa using b6
  rw[xaa b6];simp only[rZ,Dc,go_sem,aD.agg,aD.a8,aD.bP,aD.b6,aD.cA,aD.dC,aD.eC,aD.eD,aD.eX,aD.eta,fX,ec,hy,iH,jG,af,hP,si,eS]
 rw[awo b6]at hP;have si:((0:Int) !=0)=false:=rfl;rw[xad b6];by_cases cA:30<mG m.vars
 .have sc:=yT (((mG m.vars:Nat):Int)>30);rw[xad cA];simp only[rZ,Dc,go_sem,aD.agg,aD.a8,aD.bP,aD.b6,aD.cA,aD.dC,aD.eC,aD.eD,aD.eX,aD.eta,fX,ec,hy,iH,jG,af,hP,si,gL,sc,eS]
 have sc:=yF (((mG m.vars:Nat):Int)>30);rw[xaa cA];by_cases dC:(il (sh m)).2.2=0;.rw[xad dC]at pZ;rw[ae2 _ dC];simp only[rZ,Dc,go_sem,aD.agg,aD.a8,aD.bP,aD.b6,aD.cA,aD.dC,aD.eC,aD.eD,aD.eX,aD.eta,fX,ec,hy,iH,jG,af,hP,si,gL,sc,pZ,eS]
 rw[xaa dC]at pZ;simp only[rZ,Dc,go_sem,aD.agg,aD.a8,aD.bP,aD.b6,aD.cA,aD.dC,aD.eC,aD.eD,aD.eX,aD.eta,fX,ec,hy,iH,jG,af,hP,si,gL,sc,pZ]
end
def AB(n:Nat):fl:= .slice 4 56 (pF n)
def I8(n:Nat):fl:= .slice 7 104 (.struct [.str,rD n])
def AD(n:Nat):fl:= .struct [Lz,w3 n,AB n,AB n,w3 n,AB n,AB n,I8 n]
def awR(n:Nat):∀m,m<=n->(AB n).fz m=true
 |0,_=>rfl|m+1,h=>by have:=B4 n m (by omega);simp only[AB,fl.fz,this]
def awS(n:Nat):∀m,m<=n->(I8 n).fz m=true
 |0,_=>rfl|1,_=>by simp[I8,fl.fz]|m+2,h=>by have ab:=RR n m (by omega);have af:fl.fz m .str=true:=wY m .str rfl;simp only[I8,fl.fz,qt,ab,af,xbo]
def awT(n:Nat):∀m,m<=n->(AD n).fz m=true
 |0,_=>rfl|m+1,h=>by have au:fl.fz m Lz=true:=wY m Lz rfl;simp only[AD,fl.fz,qt,au,Z1 n m (by omega),awR n m (by omega),awS n m (by omega),xbo]
theorem awU{P:Program}{t tv td tt ts tm tf:TypeId}(h:∀a b c d e f g i,eE P (.struct [a,b,c,d,e,f,g,i]) t=(eE P a tv&&(eE P b td&&(eE P c tt&&(eE P d tt&&(eE P e td&&(eE P f tt&&(eE P g tt&&(eE P i ts&&true))))))))) (a6:eE P Lz tv=true) (aA:s8 P w3 td) (aM:∀y,eE P (.slice 4 56 y) tt=eE P y tm) (hm:s8 P pF tm) (aH:∀y,eE P (.slice 7 104 (.struct [.str,y])) ts=(eE P y tf&&true)) (bd:s8 P rD tf) (ar:decide (t<P.types.size)=true):s8 P AD t:=⟨λn=>awT n n (xan _),λn=>by rw[AD,h,a6,aA.ok n,AB,aM,hm.ok n,I8,aH,bd.ok n];rfl,xba ar,λn=>rfl⟩
structure DV(m:aD):Prop where
 v:∀x∈m.vars,V.ok x
 d:∀x∈m.aR,x.cm
 i:∀x∈m.bR,x.cm
 bS:∀x∈m.bT,x.cm
 n:∀x∈m.next,x.cm
 t:∀x∈m.trans,x.cm
 f:∀x∈m.bW,x.cm
 s:∀x∈m.bG,x.name.size<=140737488351232/\x.f.cm
def awV{n:Nat}{x:List D}(h:nv (.struct [.str,rD n]) x):∃d:cw,x=d.cells/\d.name.size<=140737488351232/\d.f.cm:=by obtain⟨a,b,rfl,aF,c,e,rfl,ao,rfl⟩:=h;obtain⟨s,rfl,aH⟩:=LA aF;obtain⟨t,rfl,aM⟩:=Z0 n ao;exact⟨⟨s,t⟩,by simp[cw.cells,Fm.nw],aH,aM⟩
def awW{n:Nat}{d:D}(h:BW (AD n) d):∃m:aD,d=m.d/\DV m:=by obtain⟨aO,rfl,ae,fI,rfl,au,an,dP,rfl,ab,ba,gw,rfl,af,b2,h7,rfl,aw,cK,l7,rfl,a5,c9,o3,rfl,ca,c4,o4,rfl,cP,dy,U7,rfl,gE,rfl⟩:=h;obtain⟨bJ,rfl,_,_,w0⟩:=au;obtain⟨aJ,rfl,_,_,gk⟩:=ab;obtain⟨aZ,rfl,_,_,hv⟩:=af;obtain⟨bN,rfl,_,_,k8⟩:=aw;obtain⟨cO,rfl,_,_,qA⟩:=a5;obtain⟨eg,rfl,_,_,vf⟩:=ca;obtain⟨fG,rfl,_,_,Hb⟩:=cP;obtain⟨pe,rfl,_,_,Hf⟩:=gE;obtain⟨kr,rfl,xz⟩:=rB V.cells V.ok bJ λx ag=>al5 (w0 x ag).2;obtain⟨j0,rfl,bA⟩:=rB bc.cells bc.cm aJ λx ag=>Z2 (gk x ag).2;obtain⟨kF,rfl,bB⟩:=rB Tm.cells Tm.cm aZ λx ag=>yW n (hv x ag).2;obtain⟨U8,rfl,cz⟩:=rB Tm.cells Tm.cm bN λx ag=>yW n (k8 x ag).2;obtain⟨vM,rfl,ey⟩:=rB bc.cells bc.cm cO λx ag=>Z2 (qA x ag).2;obtain⟨U9,rfl,fk⟩:=rB Tm.cells Tm.cm eg λx ag=>yW n (vf x ag).2;obtain⟨awX,rfl,hh⟩:=rB Tm.cells Tm.cm fG λx ag=>yW n (Hb x ag).2;obtain⟨awY,rfl,sj⟩:=rB cw.cells (λs=>s.name.size<=140737488351232/\s.f.cm) pe λx ag=>awV (Hf x ag).2;exact⟨⟨kr,j0,kF,U8,vM,U9,awX,awY⟩,by simp only[aD.d,bl,aQ,az,b3,Tm.mz];rfl,⟨xz,bA,bB,cz,ey,fk,hh,sj⟩⟩
end Go.Am
