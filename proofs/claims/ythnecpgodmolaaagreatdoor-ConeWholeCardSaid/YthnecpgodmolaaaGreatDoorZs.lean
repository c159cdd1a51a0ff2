/- Laws, on data. No condition. -/
import Derived.Test.YthnecpgodmolaaaGreatDoorLaws
import Derived.Test.YthnecpgodmolaaaGreatDoorEngS
import Derived.Test.YthnecpgodmolaaaGreatDoorEngC
import Derived.Test.YthnecpgodmolaaaGreatDoorCode
import Derived.Test.YthnecpgodmolaaaGreatDoorEngD
set_option linter.all false
set_option linter.unnecessarySimpa false
namespace Go.Am
structure cz where
 name:ByteArray
 f:Fm
def cz.cells(d:cz):List D:=[aC d.name,J d.f.op,J d.f.e.op,J d.f.e.num,aC d.f.e.name,cr 4 d.f.e.nl (Tm.rows d.f.e.aU),cr 6 d.f.nl (Fm.rows d.f.aU)]
def aA(l:List Tm):D:= .az 4 (Tm.rows l)
def b1(l:List cz):D:= .az 7 (l.map cz.cells)
def nF{l:List Tm}{i:Nat}{t:Tm}(h:l[i]?=some t):bo 4 (aA l) (J (i:Int))=some t.cells:=by simp[aA,Tm.FT h]
def hT(l:List Tm):bD (aA l)=some (J l.length):=by simp[aA]
def me{l:List cz}{i:Nat}{t:cz}(h:l[i]?=some t):bo 7 (b1 l) (J (i:Int))=some t.cells:=by simp[b1,h]
def iF(l:List cz):bD (b1 l)=some (J l.length):=by simp[b1]
def cz.d(d:cz):D:= .agg d.cells
theorem cz.adV(d:cz):a5 true 7 0 d.cells=some d.d:=rfl
theorem cz.hx(d:cz):a5 true 6 1 d.cells=some d.f.d:=by rw[Fm.j7];rfl
theorem cz.gn(d:cz):a5 false 1 0 d.cells=some (aC d.name):=rfl
def cz.agg(d:cz):a6 7 d.d=true:=by unfold cz.d cz.cells;simp[ZK]
theorem cz.a7(d:cz):ad d.d 0=aC d.name:=rfl
theorem cz.bU(d:cz):ad d.d 1=J d.f.op:=rfl
theorem cz.bY(d:cz):ad d.d 2=J d.f.e.op:=rfl
theorem cz.cv(d:cz):ad d.d 3=J d.f.e.num:=rfl
theorem cz.dm(d:cz):ad d.d 4=aC d.f.e.name:=rfl
theorem cz.eu(d:cz):ad d.d 5=cr 4 d.f.e.nl (Tm.rows d.f.e.aU):=rfl
theorem cz.ew(d:cz):ad d.d 6=cr 6 d.f.nl (Fm.rows d.f.aU):=rfl
structure aB where
 vars:List V
 aH:List a8
 bG:List Tm
 bI:List Tm
 next:List a8
 trans:List Tm
 bM:List Tm
 bH:List cz
def aB.d(m:aB):D:= .agg [bp m.vars,aR m.aH,aA m.bG,aA m.bI,aR m.next,aA m.trans,aA m.bM,b1 m.bH]
section
variable(m:aB)
theorem aB.a7:ad m.d 0=bp m.vars:=rfl
theorem aB.bU:ad m.d 1=aR m.aH:=rfl
theorem aB.bY:ad m.d 2=aA m.bG:=rfl
theorem aB.cv:ad m.d 3=aA m.bI:=rfl
theorem aB.dm:ad m.d 4=aR m.next:=rfl
theorem aB.eu:ad m.d 5=aA m.trans:=rfl
theorem aB.ew:ad m.d 6=aA m.bM:=rfl
theorem aB.fD:ad m.d 7=b1 m.bH:=rfl
theorem aB.agg:a6 8 m.d=true:=rfl
theorem aB.eta:D.agg [bp m.vars,aR m.aH,aA m.bG,aA m.bI,aR m.next,aA m.trans,aA m.bM,b1 m.bH]=m.d:=rfl
end
def adW:∀l:List Tm,og l=l.map gW
 |[]=>rfl|k::r=>by rw[og,adW r];rfl
theorem DR(t:Tm):gW t= .mk t.op t.num t.name false (t.aU.map gW):=by cases t;rw[gW,adW];rfl
def UH(t:Tm):(gW t).bl=t.bl:=by
 refine Tm.ind (P:=λt=>(gW t).bl=t.bl) ?_ t;intro t ih;have key:∀l:List Tm,(∀k∈l,(gW k).bl=k.bl)->Tm.dP (l.map gW)=Tm.dP l:=by
  intro l
  induction l with
  |nil=>intro _;rfl
  |cons a r mb=>intro h;simp only[xaz,Tm.dP];rw[h a (by simp),mb λk ak=>h k (by simp[ak])]
 rw[Tm.Ar,Tm.Ar t,DR];show 2+Tm.dP (t.aU.map gW)=_;rw[key _ ih]
def auB(t:Tm):t.cc->(gW t).cc:=by
 refine Tm.ind (P:=λt=>t.cc->(gW t).cc) ?_ t;intro t ih bm;rw[DR];have b2:=bm.len;obtain⟨dy,dg,eW⟩:(-9223372036854775808<=t.op/\t.op<=9223372036854775807)/\(-9223372036854775808<=t.num/\t.num<=9223372036854775807)/\t.name.size<=140737488355328:=by cases bm with|mk o n s b ks aF aN aG aq ak=>exact⟨aF,aN,aG⟩
 refine .mk _ _ _ _ _ dy dg eW (by simpa using b2) ?_;intro k ak;obtain⟨br,fU,rfl⟩:=xap.1 ak;exact ih br fU (bm.gl fU)
end Go.Am
attribute [simp] Go.Am.alu
namespace Go.Am
section
variable{bt:Bool}{a b:Int}
@[simp] theorem aBl:ai bt .lss (pB a) (.val (.int .u8 b))=some (ax (decide (a<b))):=rfl
@[simp] theorem NH:ai bt .leq (pB a) (.val (.int .u8 b))=some (ax (decide (a<=b))):=rfl
@[simp] theorem aBm:ai bt .gtr (pB a) (.val (.int .u8 b))=some (ax (decide (a>b))):=rfl
@[simp] theorem NI:ai bt .geq (pB a) (.val (.int .u8 b))=some (ax (decide (a>=b))):=rfl
@[simp] theorem auC:ai bt .eql (pB a) (.val (.int .u8 b))=some (ax (a==b)):=rfl
end
def NJ{s:ByteArray}{i:Nat}{b:UInt8}(h:s[i]?=some b):nY (aC s) (J (i:Int))=some (pB b.toNat):=by simp[nY,aC,J,J7,h,nX,pB]
def adX{s:ByteArray}{b:UInt8}(h:s[0]?=some b):nY (aC s) (J 0)=some (pB b.toNat):=NJ (i:=0) h
theorem adY(n:Nat)(c:Int):y2 n [pB c]=some (ax (sR c)):=by simp only[y2,ZT,sR,NI,NH,eN];cases decide (c>=97)<;>cases decide (c<=122)<;>cases decide (c>=65)<;>cases decide (c<=90)<;>rfl
theorem auD(n:Nat)(c:Int):F7 n [pB c]=some (ax (ym c)):=by simp only[F7,ZU,ym,NI,NH,eN];cases decide (c>=48)<;>cases decide (c<=57)<;>rfl
theorem adZ(n:Nat)(c:Int):F8 n [pB c]=some (ax (mX c)):=by simp only[F8,ZV,mX,adY,auD,auC,eN];cases sR c<;>cases ym c<;>cases(c==95)<;>rfl
theorem ad0(n:Nat)(c:Int):zL n [pB c]=some (ax (sR c)):=by simp only[zL,aaN,sR,NI,NH,eN];cases decide (c>=97)<;>cases decide (c<=122)<;>cases decide (c>=65)<;>cases decide (c<=90)<;>rfl
theorem auE(n:Nat)(c:Int):HJ n [pB c]=some (ax (ym c)):=by simp only[HJ,aaO,ym,NI,NH,eN];cases decide (c>=48)<;>cases decide (c<=57)<;>rfl
def ad1(p:Int->Bool)(s:ByteArray):(∀j:Nat,j<nW p s->oL p s j=true)/\oL p s (nW p s)=false/\nW p s<=s.size:=by
 unfold nW;cases h:(List.range (s.size+1)).find? (λi=>!oL p s i)with
 |none=>
  exfalso;have ab:=xci.1 h s.size (by simp);have:oL p s s.size=true:=by simpa using ab
  exact absurd (ajc this) (xbT _)
 |some m=>rw[List.find?_range_eq_some]at h;obtain⟨ab,af,aw⟩:=h;refine⟨λj aP=>by simpa using aw j aP,by simpa using ab,by show m<=s.size;simp at af;omega⟩
def ad2{p:Int->Bool}{s:ByteArray}{i:Nat}(h:oL p s i=true):∃b:UInt8,s[i]?=some b/\p b.toNat=true:=by
 unfold oL at h;split at h;.exact⟨_,by assumption,h⟩
 cases h
def ad3{p:Int->Bool}{s:ByteArray}{i:Nat}(h:oL p s i=false):(s[i]?=none/\s.size<=i)\/∃b:UInt8,s[i]?=some b/\i<s.size/\p b.toNat=false:=by
 unfold oL at h;split at h
 .rename_i b aj;refine .inr ⟨b,aj,?_,h⟩;rw[K0]at aj;by_cases ab:i<s.size;.exact ab
  rw[dif_neg ab]at aj;cases aj
 rename_i aj;refine .inl ⟨aj,?_⟩;rw[K0]at aj;by_cases ab:i<s.size;.rw[dif_pos ab]at aj;cases aj
 omega
def auF(n:Nat)(s:ByteArray)(aN:s.size<n)(aG:s.size<=9223372036854775807):B8 n [aC s,.val (.func (.func FY) #[] #[])]=some (J (nW mX s)):=by
 obtain⟨ab,af,aw⟩:=ad1 mX s;have key:bq (F9 n) n [aC s,J 0]=some (.inl [J (nW mX s)]):=by
  refine nt (λi=>[aC s,J i]) (nW mX s) rfl ?_ ?_ (by omega);.intro i ah;obtain⟨b,aj,aT⟩:=ad2 (ab i ah);simp(disch:=omega) [F9,NJ aj,adZ,aT,gx,show i<s.size by omega]
  rcases ad3 af with⟨aj,aT⟩|⟨b,aj,cu,aT⟩;.simp[F9,show¬(nW mX s<s.size) by omega]
  simp[F9,NJ aj,adZ,aT,cu]
 simp[B8,R2,key]
def auG(n:Nat)(s:ByteArray)(aN:s.size<n)(aG:s.size<=9223372036854775807):HL n [aC s,J 0,ax false]=some (J (nW mX s)):=by
 obtain⟨ab,af,aw⟩:=ad1 mX s;have one:∀(i:Nat)(b:UInt8),s[i]?=some b->i<s.size->HK n [aC s,J i,ax false]=if mX b.toNat=true then some (.inl [aC s,J (i+1:Nat),ax false])else some (.inr (.inl [J i])):=by intro i b aj ah;simp(disch:=omega) [HK,NJ aj,auE,ad0,mX,gx,ah];by_cases auH:((b.toNat:Int)=95)<;>cases ym b.toNat<;>cases sR b.toNat<;>simp[auH]
 have key:bq (HK n) n [aC s,J 0,ax false]=some (.inl [J (nW mX s)]):=by
  refine nt (λi=>[aC s,J i,ax false]) (nW mX s) rfl ?_ ?_ (by omega);.intro i ah;obtain⟨b,aj,aT⟩:=ad2 (ab i ah);rw[one i b aj (by omega),xad aT]
  rcases ad3 af with⟨aj,aT⟩|⟨b,aj,cu,aT⟩;.simp[HK,show¬(nW mX s<s.size) by omega]
  rw[one _ b aj cu,xac (by simp[aT])]
 simp[HL,aaP,key]
def xA(p:Nat->Prop)[DecidablePred p]:∀m:Nat,(∀j:Nat,j<m->¬p j)\/∃i,i<m/\p i/\∀j:Nat,j<i->¬p j
 |0=> .inl (by intro j aP;omega)
 |m+1=>by
  rcases xA p m with h|⟨i,ab,af,aw⟩
  .by_cases hm:p m;.exact .inr ⟨m,by omega,hm,h⟩
   refine .inl λj aP=>?_;by_cases UI:j=m;.subst UI;exact hm
   exact h j (by omega)
  exact .inr ⟨i,by omega,af,aw⟩
def auI(n:Nat)(l:List ByteArray)(x:ByteArray)(aN:l.length<n)(aq:l.length<4000000000000000000):w1 n [bu l,aC x]=some (J (idxOf x l)):=by
 have step:∀(i:Nat)(y:ByteArray),l[i]?=some y->i<l.length->tc n [bu l,aC x,J l.length,J i]=if x=y then some (.inr (.inr (J i)))else some (.inl [bu l,aC x,J l.length,J (i+1:Nat)]):=by intro i y aJ ah;obtain⟨_,rfl⟩:=xae.1 aJ;simp(disch:=omega) [tc,bu,aJ,ah,gx]
 rcases xA (λi=>l[i]?=some x) l.length with h|⟨i,ab,af,aw⟩
 .have key:bq (tc n) n [bu l,aC x,J l.length,J 0]=some (.inl []):=by
   refine nt (λi=>[bu l,aC x,J l.length,J i]) l.length rfl ?_ ?_ aN;.intro i ah;have aJ:=xaa ah;rw[step i _ aJ ah,xac];intro he;exact h i ah (by rw[aJ,he])
   simp[tc]
  have e:(bu l)= .az 1 (l.map λs=>[aC s]):=rfl;simp[w1,Ga,XN h];rw[e]at key⊢;simp[key]
 have key:bq (tc n) n [bu l,aC x,J l.length,J 0]=some (.inr (J i)):=by
  refine nt (λi=>[bu l,aC x,J l.length,J i]) i rfl ?_ ?_ (by omega);.intro j aP;have aJ:=xaa (show j<l.length by omega);rw[step j _ aJ (by omega),xac];intro he;exact aw j aP (by rw[aJ,he])
  rw[step i x af ab,xad rfl]
 simp[w1,Ga,XO aw af];have e:(bu l)= .az 1 (l.map λs=>[aC s]):=rfl;rw[e]at key⊢;simp[key]
def auJ(n:Nat)(l:List ByteArray)(x:ByteArray)(aN:l.length<n)(aq:l.length<4000000000000000000):te n [bu l,aC x]=some (ax (has x l)):=by simp[te,LS,auI n l x aN aq,XP]
def auK(n:Nat)(l:List ByteArray)(x:ByteArray)(aN:l.length<n)(aq:l.length<4000000000000000000):CV n [bu l,aC x]=some (ax (has x l)):=by
 have step:∀(i:Nat)(y:ByteArray),l[i]?=some y->i<l.length->CU n [bu l,aC x,J i]=if y=x then some (.inr (.inr (ax true)))else some (.inl [bu l,aC x,J (i+1:Nat)]):=by intro i y aJ ah;obtain⟨_,rfl⟩:=xae.1 aJ;simp(disch:=omega) [CU,bu,aJ,ah,gx]
 rcases xA (λi=>l[i]?=some x) l.length with h|⟨i,ab,af,aw⟩
 .have key:bq (CU n) n [bu l,aC x,J 0]=some (.inl []):=by
   refine nt (λi=>[bu l,aC x,J i]) l.length rfl ?_ ?_ aN;.intro i ah;have aJ:=xaa ah;rw[step i _ aJ ah,xac];intro he;exact h i ah (by rw[aJ,he])
   simp[CU,bu]
  simp[CV,S7,key,XR h]
 have key:bq (CU n) n [bu l,aC x,J 0]=some (.inr (ax true)):=by
  refine nt (λi=>[bu l,aC x,J i]) i rfl ?_ ?_ (by omega);.intro j aP;have aJ:=xaa (show j<l.length by omega);rw[step j _ aJ (by omega),xac];intro he;exact aw j aP (by rw[aJ,he])
  rw[step i x af ab,xad rfl]
 simp[CV,S7,key,XQ af]
theorem auL(n:Nat):MP n []=some (bu words):=rfl
theorem auM:(D.az 1 (FX.map λc=>[c]))=bu words:=rfl
def UJ(n:Nat)(s:ByteArray)(aN:s.size+24<n)(aG:s.size<=9223372036854775807):tg n [aC s]=some (ax (isName s)):=by
 have hw:words.length=24:=rfl;have ab:=auF n s (by omega) aG;have af:=auJ n words s (by omega) (by omega);rcases XS s with⟨eO,bn⟩|⟨b,eO,bn,aj⟩
 .simp[tg,R3,eO,isName,bn]
 simp only[tg,R3,isName,oL,aj,adX aj,adY,ab,af,auM,Zg,eO,bn,RE,Ly,BN,BO,eN];cases decide ((s.size:Int)<=24)<;>cases sR b.toNat<;>cases((nW mX s:Int)==(s.size:Int))<;>cases has s words<;>rfl
def UK(n:Nat)(s:ByteArray)(aN:s.size+24<n)(aG:s.size<=9223372036854775807):tB n [aC s]=some (ax (isName s)):=by
 have hw:words.length=24:=rfl;have ab:=auG n s (by omega) aG;have af:=auK n words s (by omega) (by omega);rcases XS s with⟨eO,bn⟩|⟨b,eO,bn,aj⟩
 .simp only[tB,S8,RE,BM,eN,bn];simp[isName,bn]
 simp only[tB,S8,isName,oL,aj,adX aj,ad0,ab,af,auL,bn,RE,Ly,BM,BN,BO,eN];cases decide ((s.size:Int)<=24)<;>cases sR b.toNat<;>cases((nW mX s:Int)==(s.size:Int))<;>cases has s words<;>rfl
def auN(n:Nat)(w v:V):B9 n [w.d,.ref v.cells 0]=some (ax (decide (w.name=v.name))):=by simp[B9,R4,V.d,V.cells]
def auO(n:Nat)(l:List V)(v:V)(aN:l.length<n)(aq:l.length<4000000000000000000):y4 n [bp l,.fn (.func s9) [] [.ref v.cells 0]]=some (J (idxOf v.name (l.map V.name))):=by
 have hle:(l.map V.name).length=l.length:=by simp
 have step:∀(i:Nat)(y:V),l[i]?=some y->i<l.length->y3 n [bp l,.ref v.cells 0,J l.length,J i]=if y.name=v.name then some (.inr (.inr (J i)))else some (.inl [bp l,.ref v.cells 0,J l.length,J (i+1:Nat)]):=by intro i y aJ ah;obtain⟨_,rfl⟩:=xae.1 aJ;have ab:=auN n l[i] v;simp only[V.d,V.cells]at ab;simp(disch:=omega) [y3,bp,ah,gx,V.cells,ab]
 have bE:∀x,y4 n [bp l,.fn (.func s9) [] [x]]=aa (bq (y3 n) n [bp l,x,J l.length,J 0]) (a9 λls=>some (J (-1))):=by intro x;simp only[y4,qz,R5];simp[bp]
 rw[bE];rcases xA (λi=>(l.map V.name)[i]?=some v.name) l.length with h|⟨i,ab,af,aw⟩
 .have key:bq (y3 n) n [bp l,.ref v.cells 0,J l.length,J 0]=some (.inl []):=by
   refine nt (λi=>[bp l,.ref v.cells 0,J l.length,J i]) l.length rfl ?_ ?_ aN;.intro i ah;have aJ:=xaa ah;rw[step i _ aJ ah,xac];intro he;exact h i ah (by rw[xaj,aJ,<-he];rfl)
   simp[y3]
  rw[key,XN (by rw[hle];exact h)];rfl
 have key:bq (y3 n) n [bp l,.ref v.cells 0,J l.length,J 0]=some (.inr (J i)):=by
  refine nt (λi=>[bp l,.ref v.cells 0,J l.length,J i]) i rfl ?_ ?_ (by omega);.intro j aP;have aJ:=xaa (show j<l.length by omega);rw[step j _ aJ (by omega),xac];intro he;exact aw j aP (by rw[xaj,aJ,<-he];rfl)
  have aJ:=xaa ab;rw[step i _ aJ ab,xad];rw[xaj,aJ]at af;simpa using af
 rw[key,XO aw af];rfl
def auP(n:Nat)(l:List V)(v:V)(aN:l.length<n)(aq:l.length<4000000000000000000):Ca n [bp l,.fn (.func s9) [] [.ref v.cells 0]]=some (ax (has v.name (l.map V.name))):=by simp only[Ca,qz,R6,auO n l v aN aq];simp[XP]
def UL{k:Nat}{es:List (List D)}{i:Nat}(h:i<=es.length):rk k (.az k es) none (some (J (i:Int)))=some (.az k (es.take i)):=by simp[rk,sS,J,h]
def UM(v:V):Bool:=v.bool&&(v.lo !=0||v.ah !=0)
def UN(v:V):Bool:=!v.bool&&(decide (v.lo>v.ah)||wz v||decide (IntKind.i64.wrap (v.ah-v.lo)>=64))
theorem UO(seen:List V)(v:V):wA seen v=if !isName v.name then 12 else if has v.name (seen.map V.name)then 6 else if UM v then 3 else if UN v then 2 else 0:=rfl
def At(l:List V):Prop:=l.length<1000000000000/\∀v∈l,pC v.lo/\pC v.ah/\v.name.size<=9223372036854775807
def UP(n:Nat)(l:List V)(aq:At l)(aN:l.length<n)(k0:∀v∈l,v.name.size+24<n)(i:Nat)(ah:i<l.length):y5 n [bp l,bp l,J l.length,J i]=if iZ l i=0 then some (.inl [bp l,bp l,J l.length,J (i+1:Nat)])else some (.inr (.inr (.aZ [J i,J (iZ l i)]))):=by
 have aJ:=xaa ah;have a3:=aq.2 _ (xaX ah);have b2:=aq.1;have e:iZ l i=wA (l.take i) l[i]:=by simp only[iZ,aJ]
 rw[e];generalize hw:l[i]=v at*;have ab:=UJ n v.name (k0 v (hw▸xaX ah)) (by omega);have af:=auP n (l.take i) v (by rw[xbG];omega) (by rw[xbG];omega);have aw:rk 4 (bp l) none (some (J (i:Int)))=some (bp (l.take i)):=by rw[bp,UL (by simp;omega),List.map_take.symm];rfl
 have a4:bo 4 (bp l) (J (i:Int))=some v.cells:=by simp[bp,aJ,hw]
 have b6:ai false .lss (J (i:Int)) (J (l.length:Int))=some (ax true):=by simp[ah]
 have cP:ai false .add (J (i:Int)) (J 1)=some (J (i+1:Nat)):=by rw[gx (by omega) (by omega)];rfl
 have gE:ai false .sub (J v.ah) (J v.lo)=some (J (IntKind.i64.wrap (v.ah-v.lo))):=rfl;have h1:a5 true 4 0 v.cells=some v.d:=rfl;have jM:a6 4 v.d=true:=rfl;have a7:ad v.d 0=aC v.name:=rfl;have bU:ad v.d 1=ax v.bool:=rfl;have bY:ad v.d 2=J v.lo:=rfl;have cv:ad v.d 3=J v.ah:=rfl;have dm:(D.ref [aC v.name,ax v.bool,J v.lo,J v.ah] 0)= .ref v.cells 0:=rfl;have aW:wz v=(decide ((if v.ah>v.lo then v.ah else v.lo)>255)||decide ((if v.ah<v.lo then v.ah else v.lo)< -255)):=rfl;rw[UO];simp only[y5,n5,pM,b6,eN,l8,xaC,a4,h1,jM,s3,a7,bU,bY,cv,dm,Zt,Zu,ab,af,aw,BO,oW,FK,Zv,yK,cP,gE,BM];rw[UM,UN,aW];cases isName v.name
 .cases decide ((if v.ah>v.lo then v.ah else v.lo)>255)<;>simp
 cases has v.name ((l.take i).map V.name)
 rotate_left
 .cases decide ((if v.ah>v.lo then v.ah else v.lo)>255)<;>simp
 generalize decide ((if v.ah>v.lo then v.ah else v.lo)>255)=dy;generalize decide ((if v.ah<v.lo then v.ah else v.lo)< -255)=dg;generalize decide (v.lo>v.ah)=eW;generalize decide (IntKind.i64.wrap (v.ah-v.lo)>=64)=jj;generalize (v.lo !=0)=lD;generalize (v.ah !=0)=pz;cases v.bool<;>cases dy<;>cases dg<;>cases eW<;>cases jj<;>cases lD<;>cases pz<;>rfl
def auQ(n:Nat)(l:List V)(aq:At l)(aN:l.length<n)(k0:∀v∈l,v.name.size+24<n):Cb n [bp l]=some (.aZ [J (jO l).1,J (jO l).2]):=by
 have bE:Cb n [bp l]=aa (bq (y5 n) n [bp l,bp l,J l.length,J 0]) (a9 λls=>some (D.aZ [J 0,J 0])):=by simp[Cb,ZW,bp]
 rw[bE];rcases xA (λi=>iZ l i≠0) l.length with h|⟨i,ab,af,aw⟩
 .have bx:∀j:Nat,j<l.length->iZ l j=0:=λj aP=>by simpa using h j aP
  have key:bq (y5 n) n [bp l,bp l,J l.length,J 0]=some (.inl []):=by
   refine nt (λi=>[bp l,bp l,J l.length,J i]) l.length rfl ?_ ?_ aN;.intro i ah;rw[UP n l aq aN k0 i ah,xad (bx i ah)]
   simp[y5]
  rw[key,Qm bx];rfl
 have bx:∀j:Nat,j<i->iZ l j=0:=λj aP=>by simpa using aw j aP
 have key:bq (y5 n) n [bp l,bp l,J l.length,J 0]=some (.inr (.aZ [J i,J (iZ l i)])):=by
  refine nt (λi=>[bp l,bp l,J l.length,J i]) i rfl ?_ ?_ (by omega);.intro j aP;rw[UP n l aq aN k0 j (by omega),xad (bx j aP)]
  rw[UP n l aq aN k0 i ab,xac af]
 rw[key,XT bx ab rfl af];rfl
@[simp] theorem ad4 {a:Int}:kn .u64 (J a)=some (.val (.int .u64 (IntKind.u64.wrap a))):=rfl
theorem NK{k:IntKind}{a:Int}:kn .i64 (.val (.int k a))=some (J (IntKind.i64.wrap a)):=rfl
def auR(n:Nat)(v:V)(ab:pC v.lo)(af:pC v.ah):Gb n [v.d]=some (J v.span):=by
 have bU:ad v.d 1=ax v.bool:=rfl;have bY:ad v.d 2=J v.lo:=rfl;have cv:ad v.d 3=J v.ah:=rfl;have jM:a6 4 v.d=true:=rfl;simp only[Gb,ZX,jM,s3,bU,bY,cv,l8,oW,eN,ad4,NK];cases aj:v.bool with
 |true=>simp[V.XL aj]
 |false=>
  by_cases cu:v.lo>v.ah;.simp[V.XM aj cu,cu]
  have hle:v.lo<=v.ah:=by omega
  have aO:ai false .sub (.val (.int .u64 (IntKind.u64.wrap v.ah))) (.val (.int .u64 (IntKind.u64.wrap v.lo)))=some (.val (.int .u64 (v.ah-v.lo))):=by show some (D.val (.int .u64 (IntKind.u64.wrap (IntKind.u64.wrap v.ah-IntKind.u64.wrap v.lo))))=_;rw[XK ab af hle]
  have aX:ai false .lss (.val (.int .u64 (v.ah-v.lo))) (.val (.int .u64 1073741824))=some (ax (decide (v.ah-v.lo<1073741824))):=rfl;simp only[cu,xbF,xas,xaD,aO,aX,eN,l8];by_cases hm:v.ah-v.lo<1073741824;.rw[V.Qk aj hle hm];simp only[hm,xbg,xaC,NK,eN,wrap64 _ (show-9223372036854775808<=v.ah-v.lo by omega) (by omega)];rw[gx (by omega) (by omega)];rfl
  rw[V.Ql aj hle (by omega)];simp[hm]
def ad5(n:Nat)(v:V)(ab:pC v.lo)(af:pC v.ah):zM n [v.d]=some (J v.span):=by
 have bU:ad v.d 1=ax v.bool:=rfl;have bY:ad v.d 2=J v.lo:=rfl;have cv:ad v.d 3=J v.ah:=rfl;have jM:a6 4 v.d=true:=rfl;simp only[zM,aaR,jM,s3,bU,bY,cv,l8,oW,eN,ad4];cases aj:v.bool with
 |true=>simp[V.XL aj]
 |false=>
  by_cases cu:v.lo>v.ah;.simp[V.XM aj cu,cu]
  have hle:v.lo<=v.ah:=by omega
  have aO:ai false .sub (.val (.int .u64 (IntKind.u64.wrap v.ah))) (.val (.int .u64 (IntKind.u64.wrap v.lo)))=some (.val (.int .u64 (v.ah-v.lo))):=by show some (D.val (.int .u64 (IntKind.u64.wrap (IntKind.u64.wrap v.ah-IntKind.u64.wrap v.lo))))=_;rw[XK ab af hle]
  have aX:ai false .gtr (.val (.int .u64 (v.ah-v.lo))) (.val (.int .u64 1073741824))=some (ax (decide (v.ah-v.lo>1073741824))):=rfl;simp only[cu,xbF,xas,xaD,aO,aX,eN,l8];by_cases hm:v.ah-v.lo>1073741824;.rw[V.Ql aj hle (by omega)];simp only[hm,xbg,xaC,eN,qw,n5,NK];rfl
  simp only[hm,xbF,xas,xaD,eN,qw,n5,NK,wrap64 _ (show-9223372036854775808<=v.ah-v.lo by omega) (by omega)];rw[gx (by omega) (by omega)];simp only[eN];by_cases he:v.ah-v.lo=1073741824;.rw[V.Ql aj hle (by omega),he];rfl
  rw[V.Qk aj hle (by omega)]
def V.IZ(v:V):0<=v.span/\v.span<=1073741825:=by
 unfold V.span;split;.omega
 split;.omega
 split<;>omega
def auS{i:Nat}(h:i<=62):((2:Int)^i)<=4611686018427387904/\0<(2:Int)^i:=by
 have ab:(2:Nat)^i<=2^62:=Nat.pow_le_pow_right (by omega) h;have aw:((2^i:Nat):Int)=2^i:=by simp
 have af:(0:Int)<2^i:=Int.pow_pos (by omega);omega
def ad6{bt:Bool}{i:Nat}(h:i<=62):ai bt .shl (J 1) (J (i:Int))=some (J ((2:Int)^i)):=by
 have auT:¬((i:Int)<0):=by omega
 have hm:min i IntKind.i64.bits=i:=by simp[IntKind.bits];omega
 obtain⟨ab,af⟩:=auS h;have e:IntKind.i64.wrap (1*2^(min i IntKind.i64.bits))=2^i:=by rw[hm,Int.one_mul];exact wrap64 _ (by omega) (by omega)
 simp only[ai,J,nX,auT,xaD,Int.toNat_natCast];rw[e]
def DS{n:Int}(h:n<=1073741825):bitsOf n<=62/\(∀j:Nat,j<bitsOf n->(2:Int)^j<n)/\n<=2^bitsOf n:=by
 rcases xA (λi=>n<=(2:Int)^i) 40 with ab|⟨i,ab,af,aw⟩;.exact absurd h (by have:=ab 39 (by omega);simp at this;omega)
 have iK:∀j:Nat,j<i->(2:Int)^j<n:=λj aP=>by have:=aw j aP;omega
 rw[ajb iK af];exact⟨by omega,iK,af⟩
def auU(n:Nat)(k:Int)(ak:k<=1073741825)(aN:63<n):Gc n [J k]=some (J (bitsOf k)):=by
 obtain⟨ab,af,aw⟩:=DS ak;have key:bq (LU n) n [J k,J 0]=some (.inr (J (bitsOf k))):=by
  refine nt (λi=>[J k,J i]) (bitsOf k) rfl ?_ ?_ (by omega);.intro i ah;have:=af i ah;simp(disch:=omega) [LU,ad6,gx,show((i:Int)<63) by omega,show¬(k<=(2:Int)^i) by omega]
  simp(disch:=omega) [LU,ad6,show((bitsOf k:Int)<63) by omega,aw]
 simp[Gc,ZY,key]
def auV(n:Nat)(k:Int)(ar:-1000<=k)(ak:k<=1073741825)(aN:63<n):HQ n [J k]=some (J (bitsOf k)):=by
 have key:∀(m:Nat)(k:Int)(acc fX:Nat),bitsOf k=m->k<=1073741825->acc+m<=1000->m<fX->bq (MQ n) fX [J k,J acc]=some (.inl [J (acc+m:Nat)]):=by
  intro m
  induction m with
  |zero=>
   intro k acc fX hm ak aE PN;obtain⟨fX,rfl⟩:∃q,fX=q+1:=⟨fX-1,by omega⟩;have wP:¬k>1:=by intro an;have:=XJ an;omega
   rw[jP];simp[MQ,wP]
  |succ m ih=>
   intro k acc fX hm ak aE PN;obtain⟨fX,rfl⟩:∃q,fX=q+1:=⟨fX-1,by omega⟩;have wP:k>1:=by
    refine xbz λan=>?_;have:bitsOf k=0:=by unfold bitsOf;rw[xad (by omega)]
    omega
   have bO:=XJ wP;have aO:k.tdiv 2=k/2:=Int.tdiv_eq_ediv_of_nonneg (by omega);have aX:k.tmod 2=k%2:=Int.tmod_eq_emod_of_nonneg (by omega);have hle:=(DS ak).1;have xR:=ih (k/2+k%2) (acc+1) fX (by omega) (by omega) (by omega) (by omega);rw[jP];simp(disch:=omega) [MQ,wP,Zf,alC,aO,aX,wrap64,gx];have bQ:((acc:Int)+1)=((acc+1:Nat):Int):=by omega
   rw[bQ,xR]
   congr 4
   omega
 have:=key (bitsOf k) k 0 n rfl ak (by have:=(DS ak).1;omega) (by have:=(DS ak).1;omega);simp only[xax]at this;have e:(J ((0:Nat):Int))=J 0:=rfl;rw[e]at this;simp[HQ,aaS,this]
theorem ad7(n:Nat)(k:Int):CW n [J k]=some (ax (decide (k>=-255)&&decide (k<=255))):=by simp only[CW,aaQ,BM,Ly,eN];cases decide (k>=-255)<;>cases decide (k<=255)<;>rfl
def UQ(n:Nat)(l:List V)(i k:Nat)(ah:i<l.length)(ak:k<i)(b2:l.length<1000000000000):HM n [bp l,J i,J k]=if(l[k]'(by omega)).name=l[i].name then some (.inr (.inr (.inr (.inr (.inr (.aZ [J i,J 6]))))))else some (.inl [bp l,J i,J (k+1:Nat)]):=by
 have rh:k<l.length:=by omega
 have ab:l[k]?=some l[k]:=xaa rh;have af:l[i]?=some l[i]:=xaa ah;simp(disch:=omega) [HM,bp,ak,gx,rh,ah,V.cells]
def auW(n:Nat)(l:List V)(i:Nat)(ah:i<l.length)(b2:l.length<1000000000000)(aN:l.length<n):bq (HM n) n [bp l,J i,J 0]=if has l[i].name ((l.take i).map V.name)=true then some (.inr (.inr (.inr (.inr (.aZ [J i,J 6])))))else some (.inl [bp l,J i]):=by
 rcases xA (λk=>(l.map V.name)[k]?=some l[i].name) i with h|⟨k,ab,af,aw⟩
 .rw[aje h,xac (by simp)];refine nt (λk=>[bp l,J i,J k]) i rfl ?_ ?_ (by omega);.intro k ak;rw[UQ n l i k ah ak b2,xac];intro he;refine h k ak ?_;rw[xaj,xaa (show k<l.length by omega),<-he];rfl
  simp[HM]
 have pJ:k<l.length:=by omega
 have hw:=xaa pJ;have KP:(l[k]).name=l[i].name:=by rw[xaj,hw]at af;simpa using af
 rw[<-KP,ajf ab hw,xad rfl];refine nt (λk=>[bp l,J i,J k]) k rfl ?_ ?_ (by omega);.intro j aP;rw[UQ n l i j ah (by omega) b2,xac];intro he;refine aw j aP ?_;rw[xaj,xaa (show j<l.length by omega),<-he];rfl
 rw[UQ n l i k ah ab b2,xad KP]
def UR(n:Nat)(l:List V)(aq:At l)(aN:l.length<n)(k0:∀v∈l,v.name.size+24<n)(i:Nat)(ah:i<l.length):zN n [bp l,J i]=if iZ l i=0 then some (.inl [bp l,J (i+1:Nat)])else some (.inr (.inr (.aZ [J i,J (iZ l i)]))):=by
 have aJ:=xaa ah;have a3:=aq.2 _ (xaX ah);have b2:=aq.1;have gE:=auW n l i ah aq.1 aN;have e:iZ l i=wA (l.take i) l[i]:=by simp only[iZ,aJ]
 rw[e];generalize hw:l[i]=v at*;have ab:=UK n v.name (k0 v (hw▸xaX ah)) (by omega);have a4:bo 4 (bp l) (J (i:Int))=some v.cells:=by simp[bp,aJ,hw]
 have b6:ai false .lss (J (i:Int)) (J (l.length:Int))=some (ax true):=by simp[ah]
 have auX:bD (bp l)=some (J l.length):=by simp[bp]
 have cP:ai false .add (J (i:Int)) (J 1)=some (J (i+1:Nat)):=by rw[gx (by omega) (by omega)];rfl
 have h1:a5 true 4 0 v.cells=some v.d:=rfl;have a7:a5 false 1 0 v.cells=some (aC v.name):=rfl;have bU:a5 false 1 1 v.cells=some (ax v.bool):=rfl;have bY:a5 false 1 2 v.cells=some (J v.lo):=rfl;have cv:a5 false 1 3 v.cells=some (J v.ah):=rfl;have jM:=ad5 n v a3.1 a3.2.1;rw[UO];rw[show UN v=_ from ajd ⟨a3.1,a3.2.1,by omega⟩];simp only[zN,n5,pM,auX,b6,eN,l8,xaC,a4,h1,a7,bU,bY,cv,ab,gE,BO,oW,FK,yK,cP,BM,ad7,jM];rw[UM];cases isName v.name
 .simp
 cases has v.name ((l.take i).map V.name)
 rotate_left
 .simp
 simp only[Bool.not_true,xas,xaD,eN,qw,n5,pM,a4,h1,a7,bU,bY,cv,oW,yK,ad7,jM,BO];generalize (decide (v.lo>=-255)&&decide (v.lo<=255))=dy;generalize (decide (v.ah>=-255)&&decide (v.ah<=255))=dg;generalize decide (v.lo>v.ah)=eW;generalize decide (v.span>64)=jj;generalize (v.lo !=0)=lD;generalize (v.ah !=0)=pz;cases v.bool<;>cases dy<;>cases dg<;>cases eW<;>cases jj<;>cases lD<;>cases pz<;>simp[cP]
def auY(n:Nat)(l:List V)(aq:At l)(aN:l.length<n)(k0:∀v∈l,v.name.size+24<n):HP n [bp l]=some (.aZ [J (jO l).1,J (jO l).2]):=by
 have bE:HP n [bp l]=aa (bq (zN n) n [bp l,J 0]) (a9 λls=>some (D.aZ [J 0,J 0])):=rfl;rw[bE];rcases xA (λi=>iZ l i≠0) l.length with h|⟨i,ab,af,aw⟩
 .have bx:∀j:Nat,j<l.length->iZ l j=0:=λj aP=>by simpa using h j aP
  have key:bq (zN n) n [bp l,J 0]=some (.inl []):=by
   refine nt (λi=>[bp l,J i]) l.length rfl ?_ ?_ aN;.intro i ah;rw[UR n l aq aN k0 i ah,xad (bx i ah)]
   simp[zN,bp]
  rw[key,Qm bx];rfl
 have bx:∀j:Nat,j<i->iZ l j=0:=λj aP=>by simpa using aw j aP
 have key:bq (zN n) n [bp l,J 0]=some (.inr (.aZ [J i,J (iZ l i)])):=by
  refine nt (λi=>[bp l,J i]) i rfl ?_ ?_ (by omega);.intro j aP;rw[UR n l aq aN k0 j (by omega),xad (bx j aP)]
  rw[UR n l aq aN k0 i ab,xac af]
 rw[key,XT bx ab rfl af];rfl
def om(l:List cz)(x:ByteArray):Option Nat:=l.findIdx? (λd=>decide (d.name=x))
def gO:Option Nat->Int
 |some i=>(i:Int)|none=>-1
def DT(o:Option Nat):decide (gO o>=0)=o.isSome:=by cases o with|none=>rfl|some i=>simp[gO]
def ad8(o:Option Nat):decide (gO o<0)=o.isNone:=by cases o with|none=>rfl|some i=>exact yF ((i:Int)<0)
def findIdx_cons{α:Type}(p:α->Bool)(a:α)(r:List α):(a::r).findIdx? p=if p a then some 0 else(r.findIdx? p).map (·+1):=by rw[xbX]
theorem V.qu(v:V):ad v.d 0=aC v.name:=rfl
theorem V.cL(v:V):a5 true 4 0 v.cells=some v.d:=rfl
theorem V.cX(v:V):a6 4 v.d=true:=rfl
theorem a8.qu(v:a8):ad v.d 0=aC v.name:=rfl
theorem a8.c9(v:a8):a5 true 5 0 v.cells=some v.d:=rfl
def a8.iD(v:a8):a6 5 v.d=true:=by unfold a8.d a8.cells;simp
theorem cz.qu(v:cz):ad v.d 0=aC v.name:=rfl
theorem cz.dD(v:cz):a5 true 7 0 v.cells=some v.d:=rfl
def cz.ry(v:cz):a6 7 v.d=true:=cz.agg v
def auZ(n:Nat)(d:V)(x:ByteArray):G3 n [d.d,.ref [aC x] 0]=some (ax (decide (d.name=x))):=by show Mg n d.d [aC x]=_;simp only[Mg,go_sem,iN,V.cX,V.qu]
def au0(n:Nat)(l:List V)(x:ByteArray)(aN:l.length<n)(aj:l.length<1000000000):zr n [bp l,D.fn (.func rF) [] [.ref [aC x] 0]]=some (J (gO (fg l x))):=by
 have bE:(J ((0:Nat):Int))=J 0:=rfl;have ah:=dJ (f:=G4 n) l (λi (_:Unit)=>[bp l,.ref [aC x] 0,J l.length,J (i:Int)]) (λr _=>match fg r x with|some j=>(Sum.inr (J ((l.length-r.length+j:Nat):Int)):List D⊕D)|none=> .inl []) (λ_ _=>True) ?_ ?_ n 0 () trivial (by omega) (xai _)
 .rw[bE,xao,xbZ]at ah;have bO:zr n [bp l,D.fn (.func rF) [] [.ref [aC x] 0]]=G5 n (bp l) (.ref [aC x] 0):=by
   simp only[zr,qz]
  rw[bO];cases bj:fg l x with|none=>rw[bj]at ah;simp only[G5,go_sem,fO,ah,gO]|some j=>rw[bj]at ah;simp only[xax]at ah;simp only[G5,go_sem,fO,ah,gO]
 .intro _ _;have:fg [] x=none:=rfl;simp only[G4,go_sem,yF ((l.length:Int)<l.length),this]
 intro i a _ aE ah _;have cJ:=yT ((i:Int)<(l.length:Int));have an:fg (a::l.drop (i+1)) x=if decide (a.name=x)=true then some 0 else(fg (l.drop (i+1)) x).map (·+1):=findIdx_cons _ a _
 have e:l.length-(a::l.drop (i+1)).length=i:=by simp;omega
 have dv:l.length-(l.drop (i+1)).length=i+1:=by simp;omega
 have ab:=auZ n a x;by_cases ag:a.name=x;.right;rw[xaw ag]at ab an;rw[an,xad rfl,e];simp only[G4,go_sem,cJ,hz aE,V.cL,ab,xbm]
 left;rw[xaF ag]at ab an;rw[an,xac (by simp),e,dv];refine⟨(),?_,?_,trivial⟩;.simp only[G4,go_sem,cJ,hz aE,V.cL,ab,b0 (bt:=false) (i:=i) (by omega)]
 cases fg (l.drop (i+1)) x with|none=>rfl|some j=>simp;omega
def au1(n:Nat)(l:List V)(x:ByteArray)(aN:l.length<n)(aj:l.length<1000000000):zs n [bp l,D.fn (.func rF) [] [.ref [aC x] 0]]=some (ax (fg l x).isSome):=by
 have bO:zs n [bp l,D.fn (.func rF) [] [.ref [aC x] 0]]=Mh n (bp l) (.ref [aC x] 0):=by simp only[zs,qz]
 rw[bO];simp only[Mh,go_sem,au0 n l x aN aj,DT]
def au2(n:Nat)(d:a8)(x:ByteArray):G6 n [d.d,.ref [aC x] 0]=some (ax (decide (d.name=x))):=by show Mi n d.d [aC x]=_;simp only[Mi,go_sem,iN,a8.iD,a8.qu]
def au3(n:Nat)(l:List a8)(x:ByteArray)(aN:l.length<n)(aj:l.length<1000000000):zt n [aR l,D.fn (.func rG) [] [.ref [aC x] 0]]=some (J (gO (da l x))):=by
 have bE:(J ((0:Nat):Int))=J 0:=rfl;have ah:=dJ (f:=G7 n) l (λi (_:Unit)=>[aR l,.ref [aC x] 0,J l.length,J (i:Int)]) (λr _=>match da r x with|some j=>(Sum.inr (J ((l.length-r.length+j:Nat):Int)):List D⊕D)|none=> .inl []) (λ_ _=>True) ?_ ?_ n 0 () trivial (by omega) (xai _)
 .rw[bE,xao,xbZ]at ah;have bO:zt n [aR l,D.fn (.func rG) [] [.ref [aC x] 0]]=G8 n (aR l) (.ref [aC x] 0):=by
   simp only[zt,qz]
  rw[bO];cases bj:da l x with|none=>rw[bj]at ah;simp only[G8,go_sem,ef,ah,gO]|some j=>rw[bj]at ah;simp only[xax]at ah;simp only[G8,go_sem,ef,ah,gO]
 .intro _ _;have:da [] x=none:=rfl;simp only[G7,go_sem,yF ((l.length:Int)<l.length),this]
 intro i a _ aE ah _;have cJ:=yT ((i:Int)<(l.length:Int));have an:da (a::l.drop (i+1)) x=if decide (a.name=x)=true then some 0 else(da (l.drop (i+1)) x).map (·+1):=findIdx_cons _ a _
 have e:l.length-(a::l.drop (i+1)).length=i:=by simp;omega
 have dv:l.length-(l.drop (i+1)).length=i+1:=by simp;omega
 have ab:=au2 n a x;by_cases ag:a.name=x;.right;rw[xaw ag]at ab an;rw[an,xad rfl,e];simp only[G7,go_sem,cJ,fo aE,a8.c9,ab,xbm]
 left;rw[xaF ag]at ab an;rw[an,xac (by simp),e,dv];refine⟨(),?_,?_,trivial⟩;.simp only[G7,go_sem,cJ,fo aE,a8.c9,ab,b0 (bt:=false) (i:=i) (by omega)]
 cases da (l.drop (i+1)) x with|none=>rfl|some j=>simp;omega
def au4(n:Nat)(l:List a8)(x:ByteArray)(aN:l.length<n)(aj:l.length<1000000000):zu n [aR l,D.fn (.func rG) [] [.ref [aC x] 0]]=some (ax (da l x).isSome):=by
 have bO:zu n [aR l,D.fn (.func rG) [] [.ref [aC x] 0]]=Mj n (aR l) (.ref [aC x] 0):=by simp only[zu,qz]
 rw[bO];simp only[Mj,go_sem,au3 n l x aN aj,DT]
def au5(n:Nat)(d:V)(x:ByteArray):GR n [d.d,.ref [aC x] 0]=some (ax (decide (d.name=x))):=by show L9 n d.d [aC x]=_;simp only[L9,go_sem,iN,V.cX,V.qu]
def au6(n:Nat)(l:List V)(x:ByteArray)(aN:l.length<n)(aj:l.length<1000000000):zm n [bp l,D.fn (.func B2) [] [.ref [aC x] 0]]=some (J (gO (fg l x))):=by
 have bE:(J ((0:Nat):Int))=J 0:=rfl;have ah:=dJ (f:=GS n) l (λi (_:Unit)=>[bp l,.ref [aC x] 0,J l.length,J (i:Int)]) (λr _=>match fg r x with|some j=>(Sum.inr (J ((l.length-r.length+j:Nat):Int)):List D⊕D)|none=> .inl []) (λ_ _=>True) ?_ ?_ n 0 () trivial (by omega) (xai _)
 .rw[bE,xao,xbZ]at ah;have bO:zm n [bp l,D.fn (.func B2) [] [.ref [aC x] 0]]=GU n (bp l) (.ref [aC x] 0):=by
   simp only[zm,qz]
  rw[bO];cases bj:fg l x with|none=>rw[bj]at ah;simp only[GU,go_sem,fO,ah,gO]|some j=>rw[bj]at ah;simp only[xax]at ah;simp only[GU,go_sem,fO,ah,gO]
 .intro _ _;have:fg [] x=none:=rfl;simp only[GS,go_sem,yF ((l.length:Int)<l.length),this]
 intro i a _ aE ah _;have cJ:=yT ((i:Int)<(l.length:Int));have an:fg (a::l.drop (i+1)) x=if decide (a.name=x)=true then some 0 else(fg (l.drop (i+1)) x).map (·+1):=findIdx_cons _ a _
 have e:l.length-(a::l.drop (i+1)).length=i:=by simp;omega
 have dv:l.length-(l.drop (i+1)).length=i+1:=by simp;omega
 have ab:=au5 n a x;by_cases ag:a.name=x;.right;rw[xaw ag]at ab an;rw[an,xad rfl,e];simp only[GS,go_sem,cJ,hz aE,V.cL,ab,xbm]
 left;rw[xaF ag]at ab an;rw[an,xac (by simp),e,dv];refine⟨(),?_,?_,trivial⟩;.simp only[GS,go_sem,cJ,hz aE,V.cL,ab,b0 (bt:=false) (i:=i) (by omega)]
 cases fg (l.drop (i+1)) x with|none=>rfl|some j=>simp;omega
def au7(n:Nat)(d:a8)(x:ByteArray):GV n [d.d,.ref [aC x] 0]=some (ax (decide (d.name=x))):=by show Ma n d.d [aC x]=_;simp only[Ma,go_sem,iN,a8.iD,a8.qu]
def au8(n:Nat)(l:List a8)(x:ByteArray)(aN:l.length<n)(aj:l.length<1000000000):zn n [aR l,D.fn (.func rH) [] [.ref [aC x] 0]]=some (J (gO (da l x))):=by
 have bE:(J ((0:Nat):Int))=J 0:=rfl;have ah:=dJ (f:=GW n) l (λi (_:Unit)=>[aR l,.ref [aC x] 0,J l.length,J (i:Int)]) (λr _=>match da r x with|some j=>(Sum.inr (J ((l.length-r.length+j:Nat):Int)):List D⊕D)|none=> .inl []) (λ_ _=>True) ?_ ?_ n 0 () trivial (by omega) (xai _)
 .rw[bE,xao,xbZ]at ah;have bO:zn n [aR l,D.fn (.func rH) [] [.ref [aC x] 0]]=GX n (aR l) (.ref [aC x] 0):=by
   simp only[zn,qz]
  rw[bO];cases bj:da l x with|none=>rw[bj]at ah;simp only[GX,go_sem,ef,ah,gO]|some j=>rw[bj]at ah;simp only[xax]at ah;simp only[GX,go_sem,ef,ah,gO]
 .intro _ _;have:da [] x=none:=rfl;simp only[GW,go_sem,yF ((l.length:Int)<l.length),this]
 intro i a _ aE ah _;have cJ:=yT ((i:Int)<(l.length:Int));have an:da (a::l.drop (i+1)) x=if decide (a.name=x)=true then some 0 else(da (l.drop (i+1)) x).map (·+1):=findIdx_cons _ a _
 have e:l.length-(a::l.drop (i+1)).length=i:=by simp;omega
 have dv:l.length-(l.drop (i+1)).length=i+1:=by simp;omega
 have ab:=au7 n a x;by_cases ag:a.name=x;.right;rw[xaw ag]at ab an;rw[an,xad rfl,e];simp only[GW,go_sem,cJ,fo aE,a8.c9,ab,xbm]
 left;rw[xaF ag]at ab an;rw[an,xac (by simp),e,dv];refine⟨(),?_,?_,trivial⟩;.simp only[GW,go_sem,cJ,fo aE,a8.c9,ab,b0 (bt:=false) (i:=i) (by omega)]
 cases da (l.drop (i+1)) x with|none=>rfl|some j=>simp;omega
def au9(n:Nat)(l:List a8)(x:ByteArray)(aN:l.length<n)(aj:l.length<1000000000):zo n [aR l,D.fn (.func rH) [] [.ref [aC x] 0]]=some (ax (da l x).isSome):=by
 have bO:zo n [aR l,D.fn (.func rH) [] [.ref [aC x] 0]]=Mb n (aR l) (.ref [aC x] 0):=by simp only[zo,qz]
 rw[bO];simp only[Mb,go_sem,au8 n l x aN aj,DT]
def ava(n:Nat)(d:a8)(x:ByteArray):G0 n [d.d,.ref [aC x] 0]=some (ax (decide (d.name=x))):=by show Md n d.d [aC x]=_;simp only[Md,go_sem,iN,a8.iD,a8.qu]
def avb(n:Nat)(l:List a8)(x:ByteArray)(aN:l.length<n)(aj:l.length<1000000000):zp n [aR l,D.fn (.func B1) [] [.ref [aC x] 0]]=some (J (gO (da l x))):=by
 have bE:(J ((0:Nat):Int))=J 0:=rfl;have ah:=dJ (f:=G1 n) l (λi (_:Unit)=>[aR l,.ref [aC x] 0,J l.length,J (i:Int)]) (λr _=>match da r x with|some j=>(Sum.inr (J ((l.length-r.length+j:Nat):Int)):List D⊕D)|none=> .inl []) (λ_ _=>True) ?_ ?_ n 0 () trivial (by omega) (xai _)
 .rw[bE,xao,xbZ]at ah;have bO:zp n [aR l,D.fn (.func B1) [] [.ref [aC x] 0]]=G2 n (aR l) (.ref [aC x] 0):=by
   simp only[zp,qz]
  rw[bO];cases bj:da l x with|none=>rw[bj]at ah;simp only[G2,go_sem,ef,ah,gO]|some j=>rw[bj]at ah;simp only[xax]at ah;simp only[G2,go_sem,ef,ah,gO]
 .intro _ _;have:da [] x=none:=rfl;simp only[G1,go_sem,yF ((l.length:Int)<l.length),this]
 intro i a _ aE ah _;have cJ:=yT ((i:Int)<(l.length:Int));have an:da (a::l.drop (i+1)) x=if decide (a.name=x)=true then some 0 else(da (l.drop (i+1)) x).map (·+1):=findIdx_cons _ a _
 have e:l.length-(a::l.drop (i+1)).length=i:=by simp;omega
 have dv:l.length-(l.drop (i+1)).length=i+1:=by simp;omega
 have ab:=ava n a x;by_cases ag:a.name=x;.right;rw[xaw ag]at ab an;rw[an,xad rfl,e];simp only[G1,go_sem,cJ,fo aE,a8.c9,ab,xbm]
 left;rw[xaF ag]at ab an;rw[an,xac (by simp),e,dv];refine⟨(),?_,?_,trivial⟩;.simp only[G1,go_sem,cJ,fo aE,a8.c9,ab,b0 (bt:=false) (i:=i) (by omega)]
 cases da (l.drop (i+1)) x with|none=>rfl|some j=>simp;omega
def avc(n:Nat)(d:cz)(x:ByteArray):Gl n [d.d,.ref [aC x] 0]=some (ax (decide (d.name=x))):=by show LW n d.d [aC x]=_;simp only[LW,go_sem,iN,cz.ry,cz.qu]
def avd(n:Nat)(l:List cz)(x:ByteArray)(aN:l.length<n)(aj:l.length<1000000000):y7 n [b1 l,D.fn (.func rI) [] [.ref [aC x] 0]]=some (J (gO (om l x))):=by
 have bE:(J ((0:Nat):Int))=J 0:=rfl;have ah:=dJ (f:=Gm n) l (λi (_:Unit)=>[b1 l,.ref [aC x] 0,J l.length,J (i:Int)]) (λr _=>match om r x with|some j=>(Sum.inr (J ((l.length-r.length+j:Nat):Int)):List D⊕D)|none=> .inl []) (λ_ _=>True) ?_ ?_ n 0 () trivial (by omega) (xai _)
 .rw[bE,xao,xbZ]at ah;have bO:y7 n [b1 l,D.fn (.func rI) [] [.ref [aC x] 0]]=Gn n (b1 l) (.ref [aC x] 0):=by
   simp only[y7,qz]
  rw[bO];cases bj:om l x with|none=>rw[bj]at ah;simp only[Gn,go_sem,iF,ah,gO]|some j=>rw[bj]at ah;simp only[xax]at ah;simp only[Gn,go_sem,iF,ah,gO]
 .intro _ _;have:om [] x=none:=rfl;simp only[Gm,go_sem,yF ((l.length:Int)<l.length),this]
 intro i a _ aE ah _;have cJ:=yT ((i:Int)<(l.length:Int));have an:om (a::l.drop (i+1)) x=if decide (a.name=x)=true then some 0 else(om (l.drop (i+1)) x).map (·+1):=findIdx_cons _ a _
 have e:l.length-(a::l.drop (i+1)).length=i:=by simp;omega
 have dv:l.length-(l.drop (i+1)).length=i+1:=by simp;omega
 have ab:=avc n a x;by_cases ag:a.name=x;.right;rw[xaw ag]at ab an;rw[an,xad rfl,e];simp only[Gm,go_sem,cJ,me aE,cz.dD,ab,xbm]
 left;rw[xaF ag]at ab an;rw[an,xac (by simp),e,dv];refine⟨(),?_,?_,trivial⟩;.simp only[Gm,go_sem,cJ,me aE,cz.dD,ab,b0 (bt:=false) (i:=i) (by omega)]
 cases om (l.drop (i+1)) x with|none=>rfl|some j=>simp;omega
def ave(n:Nat)(l:List cz)(x:ByteArray)(aN:l.length<n)(aj:l.length<1000000000):y8 n [b1 l,D.fn (.func rI) [] [.ref [aC x] 0]]=some (ax (om l x).isSome):=by
 have bO:y8 n [b1 l,D.fn (.func rI) [] [.ref [aC x] 0]]=LX n (b1 l) (.ref [aC x] 0):=by simp only[y8,qz]
 rw[bO];simp only[LX,go_sem,avd n l x aN aj,DT]
structure p4(f:Tm->Tm):Prop where
 op:∀t,(f t).op=t.op
 num:∀t,(f t).num=t.num
 name:∀t,(f t).name=t.name
 aU:∀t,(f t).aU=t.aU.map f
theorem qO:p4 jv:=⟨λt=>by rw[IN];rfl,λt=>by rw[IN];rfl,λt=>by rw[IN];rfl,λt=>by rw[IN];rfl⟩
theorem NL:p4 gW:=⟨λt=>by rw[DR];rfl,λt=>by rw[DR];rfl,λt=>by rw[DR];rfl,λt=>by rw[DR];rfl⟩
def ad9(vs:List V)(nx:Bool)(f:Tm->Tm):∀(ks:List Tm),(∀k∈ks,gA vs nx (f k)=gA vs nx k)->gJ vs nx (ks.map f)=gJ vs nx ks
 |[],_=>rfl|k::r,h=>by rw[xaz,gJ,gJ,h k (by simp),ad9 vs nx f r λk ak=>h k (by simp[ak])]
def avf{f:Tm->Tm}(ba:p4 f)(t:Tm)(l:List Y):ll (f t) l=ll t l:=by unfold ll;rw[ba.op,ba.aU,xaj];cases ak:t.aU[1]? with|none=>rfl|some k=>simp only[xaP,ba.op,ba.num]
def aea{f:Tm->Tm}(ba:p4 f)(vs:List V)(nx:Bool)(t:Tm):gA vs nx (f t)=gA vs nx t:=by
 refine Tm.ind (P:=λt=>gA vs nx (f t)=gA vs nx t) ?_ t;intro t ih;have aw:oi vs nx (f t)=oi vs nx t:=by simp only[oi,ba.op,ba.num,ba.name]
 rw[xz,xz vs nx t,ba.op,ba.aU,aw,ad9 vs nx f t.aU ih,avf ba]
def avg{f:Tm->Tm}(ba:p4 f)(t:Tm):iu (f t)=iu t:=by simp only[iu,ba.op,ba.num,ba.name,ba.aU,xaS]
def aeb(f:Tm->Tm):∀(ks:List Tm),(∀k∈ks,∀d n,db (f k) d n=db k d n)->∀d n,fH (ks.map f) d n=fH ks d n
 |[],_,_,_=>rfl|k::r,h,d,n=>by rw[xaz,fH,fH,h k (by simp),aeb f r λk ak=>h k (by simp[ak])]
def aec{f:Tm->Tm}(ba:p4 f)(t:Tm):∀d n,db (f t) d n=db t d n:=by refine Tm.ind (P:=λt=>∀d n,db (f t) d n=db t d n) ?_ t;intro t ih d n;rw[vu,vu t,avg ba,ba.aU,aeb f t.aU ih]
def aed{f:Tm->Tm}(ba:p4 f)(vs:List V)(nx:Bool)(t:Tm):oj vs nx (f t)=oj vs nx t:=by unfold oj;rw[aec ba,aea ba]
structure vD(l:List a8)(t:Tm)(p:Tm×Int):Prop where
 a:∀n,301000000<n->mG n [t.d,aR l]=some (.aZ [(if p.2=0 then jv p.1 else fQ).d,J p.2])
 b:∀n,301000000<n->mH n [t.d,aR l]=some (.aZ [(if p.2=0 then gW p.1 else fQ).d,J p.2])
 x:p.2=0->p.1.cc/\p.1.bl<=12300/\(db p.1 1 0).1=0/\(jv p.1).cc/\(gW p.1).cc/\∃h,ju l h t p.1
def US{l:List a8}(aq:h6 12300 l)(DU:l.length<=100)(t:Tm)(bm:t.cc)(aL:t.bl<=12300):∃p,vD l t p:=by
 by_cases ar:(db t 1 0).1=0
 case neg=>exact⟨(fQ,(db t 1 0).1),λn aN=>by rw[xac ar];exact(Ny aq n t bm aL (by omega)).1 ar,λn aN=>by rw[xac ar];exact(Uo aq n t bm aL (by omega)).1 ar,λh=>absurd h ar⟩
 cases av:p2 l t with
 |false=>exact⟨(fQ,14),λn aN=>(Ny aq n t bm aL (by omega)).2.1 ar av,λn aN=>(Uo aq n t bm aL (by omega)).2.1 ar av,λh=>by cases h⟩
 |true=>
  obtain⟨X,kd⟩:=att aq aL ((atF l t).1 av);have gk:(l.length+1)*(12300+1)+12300<=1300000:=by omega
  generalize (l.length+1)*(12300+1)+12300=bO at*;have A:∀n,301000000<n->_:=λn aN=>(Ny aq n t bm aL (by omega)).2.2 _ X ar av kd (by omega);have B:∀n,301000000<n->_:=λn aN=>(Uo aq n t bm aL (by omega)).2.2 _ X ar av kd (by omega);obtain⟨bU,bY⟩:=Nv X 1 0 (by omega);rw[bU]at A;by_cases aw:(db X 1 0).1=0
  case neg=>simp only[aw,xaD]at A B;exact⟨(fQ,(db X 1 0).1),λn aN=>by rw[xac aw];exact A n aN,λn aN=>by rw[xac aw];exact B n aN,λh=>absurd h aw⟩
  simp only[aw,xaC]at A B;have ba:=adt X 1 0 (by omega) aw;have aee:=kd.ok aq bm aL;have gR:=atP X 1 0 aw;have aBn:=(Dz X 1 0).2 aw;have aef:=(ado aq kd bm aL).1;rw[ba]at A aef;exact⟨(X,0),A,B,λ_=>⟨aee.1,by simp only;omega,aw,aef,auB X aee.1,bO,kd⟩⟩
open Classical in
noncomputable def gP(l:List a8)(t:Tm):Tm×Int:=if h:∃p,vD l t p then Classical.choose h else(fQ,0)
def UT{l:List a8}{t:Tm}(h:∃p,vD l t p):vD l t (gP l t):=by unfold gP;rw[dif_pos h];exact Classical.choose_spec h
noncomputable def fI(m:aB)(nx:Bool)(t:Tm):Y×Int:=if(gP m.aH t).2≠0 then(fT,(gP m.aH t).2)else oj m.vars nx (gP m.aH t).1
noncomputable def lq(m:aB)(nx:Bool)(t:Tm):Int:=if((fI m nx t).2==0&&!(fI m nx t).1.b)=true then 13 else(fI m nx t).2
structure DV(m:aB):Prop where
 d:h6 12300 m.aH
 dl:m.aH.length<=100
 nG:m.vars.length<=100
def DV.I0{m:aB}(h:DV m){t:Tm}(bm:t.cc)(aL:t.bl<=12300):vD m.aH t (gP m.aH t):=UT (US h.d h.dl t bm aL)
theorem aeg:D.agg [ax false,J 0,J 0]=fT.d:=rfl
theorem tO(y:Y):ad y.d 0=ax y.b:=rfl
theorem aeh(y:Y):ad y.d 1=J y.lo:=rfl
theorem aei(y:Y):ad y.d 2=J y.ah:=rfl
theorem p5(y:Y):a6 3 y.d=true:=rfl
theorem aej(y:Y):D.agg [ax y.b,J y.lo,J y.ah]=y.d:=rfl
section
variable{m:aB}(hm:DV m)(n:Nat)(aN:301000000<n)
include hm aN
theorem UU{t:Tm}(bm:t.cc)(aL:t.bl<=12300)(nx:Bool):tq n [m.d,t.d,ax nx]=some (.aZ [(fI m nx t).1.d,J (fI m nx t).2]):=by
 have k3:=hm.I0 bm aL;have vE:=hm.nG;unfold fI;generalize gP m.aH t=p at*;have ds:=k3.a n aN;by_cases ar:p.2=0
 .obtain⟨c2,m6,DW,Au,aek,_⟩:=k3.x ar;have bn:(p.2 !=0)=false:=by simp[ar]
  rw[xad ar]at ds;have bf:=aus n m.vars (jv p.1) nx (by rw[Uq];omega) Au (by omega);rw[aed qO]at bf;rw[xac (by simpa using ar)];simp only[tq,So,go_sem,aB.agg,aB.a7,aB.bU,ds,bn,bf,p5,tO,aeh,aei,aej]
 have bn:(p.2 !=0)=true:=by simpa using ar
 rw[xac ar]at ds;rw[xad ar];simp only[tq,So,go_sem,aB.agg,aB.a7,aB.bU,ds,bn,aeg]
theorem UW{t:Tm}(bm:t.cc)(aL:t.bl<=12300)(nx:Bool):tD n [m.d,t.d,ax nx]=some (.aZ [(fI m nx t).1.d,J (fI m nx t).2]):=by
 have k3:=hm.I0 bm aL;have vE:=hm.nG;unfold fI;generalize gP m.aH t=p at*;have ds:=k3.b n aN;by_cases ar:p.2=0
 .obtain⟨c2,m6,DW,Au,aek,_⟩:=k3.x ar;have bn:(p.2 !=0)=false:=by simp[ar]
  rw[xad ar]at ds;have bf:=aut n m.vars (gW p.1) nx (by rw[UH];omega) aek (by omega);rw[aed NL]at bf;rw[xac (by simpa using ar)];simp only[tD,Tq,go_sem,aB.agg,aB.a7,aB.bU,ds,bn,bf,p5,tO,aeh,aei,aej]
 have bn:(p.2 !=0)=true:=by simpa using ar
 rw[xac ar]at ds;rw[xad ar];simp only[tD,Tq,go_sem,aB.agg,aB.a7,aB.bU,ds,bn,aeg]
theorem ael{t:Tm}(bm:t.cc)(aL:t.bl<=12300)(nx:Bool):w5 n [m.d,t.d,ax nx]=some (J (lq m nx t)):=by
 have bf:=UU hm n aN bm aL nx;unfold lq;by_cases h:((fI m nx t).2==0&&!(fI m nx t).1.b)=true;.rw[xad h];simp only[w5,Sp,go_sem,aB.agg,aB.a7,aB.bU,aB.bY,aB.cv,aB.dm,aB.eu,aB.ew,aB.fD,aB.eta,bf,p5,tO,h]
 have bx:((fI m nx t).2==0&&!(fI m nx t).1.b)=false:=by simpa using h
 rw[xac h];simp only[w5,Sp,go_sem,aB.agg,aB.a7,aB.bU,aB.bY,aB.cv,aB.dm,aB.eu,aB.ew,aB.fD,aB.eta,bf,p5,tO,bx]
theorem aem{t:Tm}(bm:t.cc)(aL:t.bl<=12300)(nx:Bool):xh n [m.d,t.d,ax nx]=some (J (lq m nx t)):=by
 have bf:=UW hm n aN bm aL nx;unfold lq;by_cases h:((fI m nx t).2==0&&!(fI m nx t).1.b)=true;.rw[xad h];simp only[xh,Tr,go_sem,aB.agg,aB.a7,aB.bU,aB.bY,aB.cv,aB.dm,aB.eu,aB.ew,aB.fD,aB.eta,bf,p5,tO,h]
 have bx:((fI m nx t).2==0&&!(fI m nx t).1.b)=false:=by simpa using h
 rw[xac h];simp only[xh,Tr,go_sem,aB.agg,aB.a7,aB.bU,aB.bY,aB.cv,aB.dm,aB.eu,aB.ew,aB.fD,aB.eta,bf,p5,tO,bx]
end
def vF(N:Nat)(S:List Nat):List (List D):=(List.range N).map λj=>[ax (decide (j∈S))]
def kr(N:Nat)(S:List Nat):D:= .az 1 (vF N S)
def I1(N:Nat)(S:List Nat):(vF N S).length=N:=by simp[vF]
def I2{N:Nat}{S:List Nat}{k:Nat}(h:k<N):(vF N S)[k]?=some [ax (decide (k∈S))]:=by simp[vF,h]
def aen(N:Nat):List.replicate N [ax false]=vF N []:=by
 apply xbR;intro j;by_cases h:j<N;.rw[I2 h];simp[h]
 rw[xbi (by simp;omega),xbi (by rw[I1];omega)]
def avh{N:Nat}{S:List Nat}{k:Nat}(h:k<N):(vF N S).set k [ax true]=vF N (S++[k]):=by
 apply xbR;intro j;by_cases aP:j<N
 .rw[I2 aP,List.getElem?_set];by_cases e:k=j;.subst e;simp[I1,h]
  rw[xac e,I2 aP];have:(j∈S++[k])↔j∈S:=by simp;omega
  simp only[this]
 rw[xbi (by simp[I1];omega),xbi (by rw[I1];omega)]
def iw(S:List Nat)(ks:List Nat):List Nat:=ks.foldl (λS k=>if k∈S then S else S++[k]) S
theorem I3(S:List Nat)(k:Nat)(r:List Nat):iw S (k::r)=iw (if k∈S then S else S++[k]) r:=rfl
structure avi(N:Nat)(S ks R:List Nat):Prop where
 inv:iP N R
 pre:∃T,R=S++T
 mem:∀k∈ks,k∈R
 of:∀x∈R,x∈S\/x∈ks
def NM{N:Nat}:∀(ks S:List Nat),iP N S->(∀k∈ks,k<N)->avi N S ks (iw S ks)
 |[],S,h,_=>⟨h,⟨[],by simp[iw]⟩,by simp,λx ag=> .inl ag⟩
 |k::r,S,h,ak=>by
  rw[I3];by_cases eP:k∈S
  .rw[xad eP];have g:=NM r S h λx ag=>ak x (by simp[ag]);obtain⟨T,bf⟩:=g.pre;refine⟨g.inv,g.pre,λx ag=>?_,λx ag=>(g.of x ag).elim .inl λh=> .inr (by simp[h])⟩;rcases xal.1 ag with rfl|ag
   .rw[bf];simp[eP]
   exact g.mem x ag
  rw[xac eP];have g:=NM r (S++[k]) (h.snoc (ak k (by simp)) eP) λx ag=>ak x (by simp[ag]);obtain⟨T,bf⟩:=g.pre;refine⟨g.inv,⟨[k]++T,by rw[bf];simp⟩,λx ag=>?_,λx ag=>?_⟩
  .rcases xal.1 ag with rfl|ag;.rw[bf];simp
   exact g.mem x ag
  rcases g.of x ag with h|h
  .rcases xak.1 h with h|h;.exact .inl h
   simp at h;subst h;exact .inr (by simp)
  exact .inr (by simp[h])
def vG(to:Nat->List Nat)(i:Nat):Nat->Nat->List Nat->List Nat
 |0,_,S=>S|m+1,k,S=>match(i::S)[k]? with|some x=>vG to i m (k+1) (iw S (to x))|none=>S
structure qP(to:Nat->List Nat)(N i k:Nat)(S:List Nat):Prop where
 inv:iP N S
 le:k<=S.length+1
 vx:∀j x,j<k->(i::S)[j]?=some x->∀y∈to x,y∈S
 r4:∀x∈S,∃j∈to i,kp to j x
def kp.snoc{to:Nat->List Nat}{i j k:Nat}(h:kp to i j)(bx:k∈to j):kp to i k:=h.trans (.step j k k bx (.refl k))
def qP.next{to:Nat->List Nat}{N i k:Nat}{S:List Nat}(h:qP to N i k S)(k6:∀i,∀k∈to i,k<N){x:Nat}(ag:(i::S)[k]?=some x):qP to N i (k+1) (iw S (to x)):=by
 have g:=NM (to x) S h.inv (k6 x);obtain⟨T,bf⟩:=g.pre;have ak:k<S.length+1:=by have:=(xae.1 ag).1;simpa using this
 have avj:∀j y,j<=k->(i::iw S (to x))[j]?=some y->(i::S)[j]?=some y:=by intro j y aP aJ;rw[bf,<-xcg,xaJ (by simp;omega)]at aJ;exact aJ
 refine⟨g.inv,by rw[bf];simp;omega,?_,?_⟩
 .intro j y aP aJ z bn;have uh:=avj j y (by omega) aJ;by_cases e:j=k
  .subst e;rw[ag]at uh;cases uh;exact g.mem z bn
  have:=h.vx j y (by omega) uh z bn;rw[bf];simp[this]
 intro y aJ;rcases g.of y aJ with ab|ab
 .exact h.r4 y ab
 cases k with|zero=>simp at ag;subst ag;exact⟨y,ab,.refl y⟩|succ k=>have T7:x∈S:=xab (by simpa using ag);obtain⟨j,aP,av⟩:=h.r4 x T7;exact⟨j,aP,av.snoc ab⟩
def UX{to:Nat->List Nat}{N i:Nat}(k6:∀i,∀k∈to i,k<N):∀(m k:Nat)(S:List Nat),qP to N i k S->N+1-k<m->(i∈vG to i m k S↔∃j∈to i,kp to j i)
 |0,_,_,_,h=>absurd h (xay _)
 |m+1,k,S,h,hm=>by
  rw[vG];have b2:=h.inv.len;cases ag:(i::S)[k]? with
  |some x=>
   have ak:k<S.length+1:=by have:=(xae.1 ag).1;simpa using this
   exact UX k6 m (k+1) _ (h.next k6 ag) (by omega)
  |none=>
   have ak:S.length+1<=k:=by have:=List.getElem?_eq_none_iff.1 ag;simpa using this
   refine⟨λah=>h.r4 i ah,?_⟩;have gY:∀a b,kp to a b->a∈S->b∈S:=by
    intro a b fE
    induction fE with|refl=>exact λh=>h|step p q r EB _ ih=>intro aT;obtain⟨j,aP⟩:=xaL.1 aT;have cJ:=(xae.1 aP).1;exact ih (h.vx (j+1) p (by omega) (by simpa using aP) q EB)
   rintro⟨j,aP,av⟩;exact gY j i av (h.vx 0 i (by omega) (by simp) j aP)
def qP.start(to:Nat->List Nat)(N i:Nat):qP to N i 0 []:=⟨⟨by simp,by simp⟩,by simp,by intro j x h;omega,by simp⟩
theorem sb(x:List Nat):D.az 1 (au (de x))=de x:=rfl
def I4(x:List Nat):(au (de x)).length=x.length:=by simp[de]
def aeo(x:List Nat)(k:Nat):D.az 1 (au (de x)++[[J (k:Int)]])=de (x++[k]):=by simp[de]
def aep{x:List Nat}{j k:Nat}(h:x[j]?=some k):(au (de x))[j]?=some [J (k:Int)]:=by simp[de,h]
theorem pd(N:Nat)(x:List Nat):D.az 1 (au (kr N x))=kr N x:=rfl
def I5(N:Nat)(x:List Nat):(au (kr N x)).length=N:=I1 N x
def I6{N:Nat}{S:List Nat}{k:Nat}(h:k<N):(au (kr N S))[k]?=some [ax (decide (k∈S))]:=I2 h
theorem aeq{N:Nat}{S:List Nat}{k:Nat}(h:k<N){w:Bool}:D.az 1 ((au (kr N S)).set k (dH [ax w] 0 [ax true]))=kr N (S++[k]):=by show D.az 1 ((vF N S).set k [ax true])=_;rw[avh h];rfl
theorem Av(b:Bool):a5 false 1 0 [ax b]=some (ax b):=rfl
theorem NN(i:Int):a5 false 1 0 [J i]=some (J i):=rfl
theorem DX(s:ByteArray):a5 false 1 0 [aC s]=some (aC s):=rfl
theorem NO{p:Option D}:bL (ax true) true p=p:=rfl
theorem I7{p:Option D}:bL (ax false) true p=some lF:=rfl
theorem NP{a b:D}:bV (ax true) a b=some a:=rfl
theorem I8{a b:D}:bV (ax false) a b=some b:=rfl
def aer{l:List a8}{x:ByteArray}{k:Nat}(h:da l x=some k):k<l.length:=by obtain⟨_,_,_,h⟩:=RX h;exact h
def avk(n:Nat)(l:List a8){B:Nat}(aq:h6 B l)(i k:Nat)(lr:List ByteArray)(S:List Nat)(ec:iP l.length S)(ak:k<=S.length+1)(gL:lr.length<=B)(aN:2*B+100<n):bq (zq n) n [aR l,J (i:Int),bu lr,J lr.length,J 0,kr l.length S,de ((i::S).drop k)]=some (.inl [aR l,J (i:Int),kr l.length (iw S (lr.filterMap (da l))),de ((i::iw S (lr.filterMap (da l))).drop k)]):=by
 have b2:=aq.len;have aj:=aq.b;have ah:=dJ (f:=zq n) lr (λj (s:List Nat)=>[aR l,J (i:Int),bu lr,J lr.length,J (j:Int),kr l.length s,de ((i::s).drop k)]) (λr s=>(.inl [aR l,J (i:Int),kr l.length (iw s (r.filterMap (da l))),de ((i::iw s (r.filterMap (da l))).drop k)]:List D⊕(List D⊕(List D⊕(List D⊕D))))) (λj s=>iP l.length s/\k<=s.length+1) (λs _=>by simp only[zq,go_sem,yF ((lr.length:Int)<lr.length),pd,sb];rfl) ?_ n 0 S ⟨ec,ak⟩ (by omega) (xai _)
 .exact ah
 rintro j x s ag aP ⟨ab,af⟩;have iC:=avb n l x (by omega) (by omega);have gr:=ab.len;have cJ:=yT ((j:Int)<(lr.length:Int));left;cases ay:da l x with
 |none=>rw[ay]at iC;refine⟨s,?_,by simp[ay],ab,af⟩;have jG:decide (gO none>=0)=false:=rfl;simp only[zq,go_sem,cJ,lg ag,DX,iC,jG,I7,I8,pd,sb,b0 (bt:=false) (i:=j) (by omega)]
 |some y=>
  have aJ:=aer ay;rw[ay]at iC;have jG:decide ((y:Int)>=0)=true:=xaw (by omega);have ga:cj l.length (J (y:Int))=some y:=by rw[oV,xad aJ]
  have I9:gO (some y)=(y:Int):=rfl;by_cases n2:y∈s;.refine⟨s,?_,by simp[ay,I3,n2],ab,af⟩;simp only[zq,go_sem,cJ,lg ag,DX,iC,I9,jG,I5,ga,I6 aJ,Av,xaw n2,NO,NP,pd,sb,b0 (bt:=false) (i:=j) (by omega)]
  have aw:=ab.snoc aJ n2;refine⟨s++[y],?_,by simp only[xbM,ay,I3,xac n2],aw,by simp;omega⟩;have aO:(i::(s++[y])).drop k=(i::s).drop k++[y]:=by rw[<-xcg,List.drop_append_of_le_length (by simpa using af)]
  have ej:dc (((i::s).drop k).length+1) 8=true:=gG (by simp;omega) (by simp;omega);rw[aO];simp only[zq,go_sem,cJ,lg ag,DX,iC,I9,jG,I5,ga,I6 aJ,Av,xaF n2,NO,NP,I4,xar,xav,xax,ej,aeq aJ,aeo,pd,sb,b0 (bt:=false) (i:=j) (by omega)]
def aes(n:Nat)(l:List a8){B:Nat}(aq:h6 B l)(i:Nat)(ck:i<l.length)(aN:4*B+200<n):∀(m k:Nat)(S:List Nat),qP (to l) l.length i k S->l.length+1-k<m->bq (Me n) m [aR l,J (i:Int),kr l.length S,de ((i::S).drop k)]=some (.inl [J (i:Int),kr l.length (vG (to l) i m k S)])
 |0,_,_,_,h=>absurd h (xay _)
 |m+1,k,S,h,hm=>by
  have b2:=aq.len;have aj:=aq.b;rw[jP,vG];have avl:=h.inv.len;have hle:=h.le;cases ag:(i::S)[k]? with
  |none=>
   have ak:S.length+1<=k:=by have:=List.getElem?_eq_none_iff.1 ag;simpa using this
   have bE:(i::S).drop k=[]:=xch (by simpa using ak);rw[bE];have aO:(au (de [])).length=0:=rfl;have aX:decide (((0:Nat):Int)>0)=false:=rfl;simp only[Me,go_sem,aO,aX,pd]
  |some x=>
   have ak:k<S.length+1:=by have:=(xae.1 ag).1;simpa using this
   have lA:x<l.length:=by cases k with|zero=>simp at ag;omega|succ k=>exact h.inv.2 x (xab (by simpa using ag))
   obtain⟨d,ay⟩:∃d,l[x]?=some d:=⟨l[x],xaa lA⟩;have ig:=aq.e d (xab ay);have lW:=h.next (λi k ak=>lM i k ak) ag
   have ih:=aes n l aq i ck aN m (k+1) _ lW (by omega);have bX:=Nl n d.e (by omega) ig.1 (by omega);have lP:=DD d.e;have gE:=avk n l aq i k (dQ 3 d.e []) S h.inv hle (by omega) (by omega);have k6:(dQ 3 d.e []).filterMap (da l)=to l x:=by rw[DE ay];rfl
   rw[k6]at gE;obtain⟨T,bf⟩:=(NM (N:=l.length) (to l x) S h.inv (lM x)).pre;have Ko:((i::iw S (to l x)).drop k).length=(iw S (to l x)).length+1-k:=by simp
   have fz:=lW.le;have aet:((i::S).drop k).length=S.length+1-k:=by simp
   have Kk:decide (((((i::S).drop k).length:Nat):Int)>0)=true:=xaw (by rw[aet];omega);have avm:((i::S).drop k)[0]?=some x:=by rw[xaZ];exact ag
   have ga:cj ((i::S).drop k).length (J 0)=some 0:=by have:(J 0)=J ((0:Nat):Int):=rfl;rw[this,oV,xad (by rw[aet];omega)]
   have avn:pE ((i::iw S (to l x)).drop k).length (some (J 1)) none=some (1,((i::iw S (to l x)).drop k).length-1):=by
    have ab:1<=((i::iw S (to l x)).drop k).length:=by rw[Ko];omega
    generalize ((i::iw S (to l x)).drop k).length=q at*;have:(J 1)=J ((1:Nat):Int):=rfl;rw[this];simp[pE,sS,J,ab]
   have avo:decide (1+(((i::iw S (to l x)).drop k).length-1)<=((i::iw S (to l x)).drop k).length)=true:=xaw (by rw[Ko];omega);have avp:D.az 1 (((au (de ((i::iw S (to l x)).drop k))).drop 1).take (((i::iw S (to l x)).drop k).length-1))=de ((i::iw S (to l x)).drop (k+1)):=by
    have bQ:((((i::iw S (to l x)).drop k).drop 1).take (((i::iw S (to l x)).drop k).length-1))=(i::iw S (to l x)).drop (k+1):=by rw[List.drop_drop,xbK];simp;omega
    show D.az 1 (((((i::iw S (to l x)).drop k).map λ(i:Nat)=>[J (i:Int)]).drop 1).take _)=de _;rw[<-bQ];unfold de;simp only[List.map_take,List.map_drop]
   simp only[Me,go_sem,I4,Kk,ga,aep avm,NN,fo ay,a8.hx,bX,iO,pd,sb,gE,avn,avo,avp,ih]
def avq(n:Nat)(m:aB){l:List a8}{B:Nat}(aq:h6 B l)(i:Nat)(ah:i<l.length)(aN:4*B+200<n):Cn n [aR l,m.d,J (i:Int)]=some (J (if jt l i=true then 14 else 0)):=by
 have b2:=aq.len;have aj:=aq.b;have aw:=aes n l aq i ah aN n 0 [] (qP.start _ _ _) (by omega);have DY:=UX (λi k ak=>lM i k ak) n 0 [] (qP.start (to l) l.length i) (by omega);rw[<-T9 l i]at DY;generalize vG (to l) i n 0 []=S at*;have IL:rl 1 (J (l.length:Int)) (J (l.length:Int))=some l.length:=by simp[rl,J];omega
 have aO:D.az 1 (List.replicate l.length [ax false])=kr l.length []:=by rw[aen];rfl
 have aX:D.az 1 [[J (i:Int)]]=de ((i::[]).drop 0):=rfl;have ga:cj l.length (J (i:Int))=some i:=by rw[oV,xad ah]
 simp only[Cn,aam,go_sem,aB.agg,ef,IL,aO,aX,aw,I5,ga,I6 ah,Av];by_cases h:jt l i=true;.rw[xad h,xad (xaw (DY.2 h))]
 rw[xac h,xac (by simpa usingλbO=>h (DY.1 bO))]
def aeu(n:Nat)(m:aB)(x:ByteArray)(aN:m.aH.length<n)(aq:m.aH.length<1000000000):zP n [m.d,aC x]=some (J (gO (da m.aH x))):=by
 have ah:=dJ (f:=HT n) m.aH (λi (_:Unit)=>[aC x,J (i:Int),bp m.vars,aR m.aH,aA m.bG,aA m.bI,aR m.next,aA m.trans,aA m.bM,b1 m.bH]) (λr _=>match da r x with|some j=>(Sum.inr (J ((m.aH.length-r.length+j:Nat):Int)):List D⊕D)|none=> .inl []) (λ_ _=>True) (λ_ _=>by simp[HT,ef,da]) ?_ n 0 () trivial (by omega) (xai _);.have bE:(J ((0:Nat):Int))=J 0:=rfl;rw[bE]at ah;simp only[zP,aaV,go_sem,aB.agg,aB.a7,aB.bU,aB.bY,aB.cv,aB.dm,aB.eu,aB.ew,aB.fD,ah,xao];cases da m.aH x<;>simp[gO]
 intro i a _ aE ah _;have e:m.aH.length-(a::m.aH.drop (i+1)).length=i:=by simp;omega
 have dv:m.aH.length-(m.aH.drop (i+1)).length=i+1:=by simp;omega
 have nQ:da (a::m.aH.drop (i+1)) x=if a.name=x then some 0 else(da (m.aH.drop (i+1)) x).map (·+1):=by simp[da,xbX]
 have ae:a.cells[0]?=some (aC a.name):=rfl;by_cases ag:a.name=x;.right;rw[nQ,xad ag,e];simp[HT,ef,ah,fo aE,ae,ag]
 left;refine⟨(),by simp[HT,ef,ah,fo aE,ae,ag,b0 (bt:=false) (i:=i) (by omega)],?_,trivial⟩;rw[nQ,xac ag,e,dv];cases da (m.aH.drop (i+1)) x with|none=>rfl|some j=>simp;omega
def aev(n:Nat)(m:aB)(x:ByteArray)(aN:m.vars.length<n)(aq:m.vars.length<1000000000):zO n [m.d,aC x]=some (J (gO (fg m.vars x))):=by
 have ah:=dJ (f:=HS n) m.vars (λi (_:Unit)=>[aC x,J (i:Int),bp m.vars,aR m.aH,aA m.bG,aA m.bI,aR m.next,aA m.trans,aA m.bM,b1 m.bH]) (λr _=>match fg r x with|some j=>(Sum.inr (J ((m.vars.length-r.length+j:Nat):Int)):List D⊕D)|none=> .inl []) (λ_ _=>True) (λ_ _=>by simp[HS,fO,fg]) ?_ n 0 () trivial (by omega) (xai _);.have bE:(J ((0:Nat):Int))=J 0:=rfl;rw[bE]at ah;simp only[zO,aaU,go_sem,aB.agg,aB.a7,aB.bU,aB.bY,aB.cv,aB.dm,aB.eu,aB.ew,aB.fD,ah,xao];cases fg m.vars x<;>simp[gO]
 intro i a _ aE ah _;have e:m.vars.length-(a::m.vars.drop (i+1)).length=i:=by simp;omega
 have dv:m.vars.length-(m.vars.drop (i+1)).length=i+1:=by simp;omega
 have nQ:fg (a::m.vars.drop (i+1)) x=if a.name=x then some 0 else(fg (m.vars.drop (i+1)) x).map (·+1):=by simp[fg,xbX]
 have ae:a.cells[0]?=some (aC a.name):=rfl;by_cases ag:a.name=x;.right;rw[nQ,xad ag,e];simp[HS,fO,ah,hz aE,ae,ag]
 left;refine⟨(),by simp[HS,fO,ah,hz aE,ae,ag,b0 (bt:=false) (i:=i) (by omega)],?_,trivial⟩;rw[nQ,xac ag,e,dv];cases fg (m.vars.drop (i+1)) x with|none=>rfl|some j=>simp;omega
def avr(n:Nat)(m:aB){B:Nat}(aq:h6 B m.aH)(i:Nat)(k:Int)(lr:List ByteArray)(S:List Nat)(ec:iP m.aH.length S)(gL:lr.length<=B)(aN:2*B+100<n):bq (zS n) n [J k,gq true lr,J 0,bp m.vars,aR m.aH,aA m.bG,aA m.bI,aR m.next,aA m.trans,aA m.bM,b1 m.bH,kr m.aH.length S,de (i::S)]=some (.inl [J k,bp m.vars,aR m.aH,aA m.bG,aA m.bI,aR m.next,aA m.trans,aA m.bM,b1 m.bH,kr m.aH.length (iw S (lr.filterMap (da m.aH))),de (i::iw S (lr.filterMap (da m.aH)))]):=by
 have b2:=aq.len;have aj:=aq.b;have ah:=dJ (f:=zS n) lr (λj (s:List Nat)=>[J k,gq true lr,J (j:Int),bp m.vars,aR m.aH,aA m.bG,aA m.bI,aR m.next,aA m.trans,aA m.bM,b1 m.bH,kr m.aH.length s,de (i::s)]) (λr s=>(.inl [J k,bp m.vars,aR m.aH,aA m.bG,aA m.bI,aR m.next,aA m.trans,aA m.bM,b1 m.bH,kr m.aH.length (iw s (r.filterMap (da m.aH))),de (i::iw s (r.filterMap (da m.aH)))]:List D⊕(List D⊕(List D⊕(List D⊕D))))) (λj s=>iP m.aH.length s) (λs _=>by simp only[zS,go_sem,js,yF ((lr.length:Int)<lr.length),pd,sb];rfl) ?_ n 0 S ec (by omega) (xai _)
 .exact ah
 rintro j x s ag aP ab;have iC:=aeu n m x (by omega) (by omega);have gr:=ab.len;have fv:=o7 (nl:=true) ag;have cJ:=yT ((j:Int)<(lr.length:Int));left;cases ay:da m.aH x with
 |none=>rw[ay]at iC;refine⟨s,?_,by simp[ay],ab⟩;have jG:decide (gO none>=0)=false:=rfl;simp only[zS,go_sem,js,cJ,fv,DX,aB.eta,iC,jG,I7,I8,pd,sb,b0 (bt:=false) (i:=j) (by omega)]
 |some y=>
  have aJ:=aer ay;rw[ay]at iC;have jG:decide ((y:Int)>=0)=true:=xaw (by omega);have ga:cj m.aH.length (J (y:Int))=some y:=by rw[oV,xad aJ]
  have I9:gO (some y)=(y:Int):=rfl;by_cases n2:y∈s;.refine⟨s,?_,by simp[ay,I3,n2],ab⟩;simp only[zS,go_sem,js,cJ,fv,DX,aB.eta,iC,I9,jG,I5,ga,I6 aJ,Av,xaw n2,NO,NP,pd,sb,b0 (bt:=false) (i:=j) (by omega)]
  have aw:=ab.snoc aJ n2;refine⟨s++[y],?_,by simp only[xbM,ay,I3,xac n2],aw⟩;have aO:i::(s++[y])=(i::s)++[y]:=rfl;have ej:dc ((i::s).length+1) 8=true:=gG (by simp;omega) (by simp;omega);rw[aO];simp only[zS,go_sem,js,cJ,fv,DX,aB.eta,iC,I9,jG,I5,ga,I6 aJ,Av,xaF n2,NO,NP,I4,xar,xav,xax,aeq aJ,aeo,pd,sb,b0 (bt:=false) (i:=j) (by omega)]at ej⊢;simp only[ej,s3,eN,qw,n5,pM,b0 (bt:=false) (i:=j) (by omega),pd,sb]
def aew(n:Nat)(kt:aB){B:Nat}(aq:h6 B kt.aH)(i:Nat)(ck:i<kt.aH.length)(aN:4*B+200<n):∀(m k:Nat)(S:List Nat),qP (to kt.aH) kt.aH.length i k S->kt.aH.length+1-k<m->bq (MU n) m [J (k:Int),bp kt.vars,aR kt.aH,aA kt.bG,aA kt.bI,aR kt.next,aA kt.trans,aA kt.bM,b1 kt.bH,kr kt.aH.length S,de (i::S)]=some (.inl [kr kt.aH.length (vG (to kt.aH) i m k S)])
 |0,_,_,_,h=>absurd h (xay _)
 |m+1,k,S,h,hm=>by
  have b2:=aq.len;have aj:=aq.b;rw[jP,vG];have avl:=h.inv.len;have hle:=h.le;cases ag:(i::S)[k]? with
  |none=>
   have ak:S.length+1<=k:=by have:=List.getElem?_eq_none_iff.1 ag;simpa using this
   have aX:decide ((k:Int)<(((i::S).length:Nat):Int))=false:=xaF (by simp;omega);simp only[MU,go_sem,I4,aX,pd]
  |some x=>
   have ak:k<S.length+1:=by have:=(xae.1 ag).1;simpa using this
   have lA:x<kt.aH.length:=by cases k with|zero=>simp at ag;omega|succ k=>exact h.inv.2 x (xab (by simpa using ag))
   obtain⟨d,ay⟩:∃d,kt.aH[x]?=some d:=⟨kt.aH[x],xaa lA⟩;have ig:=aq.e d (xab ay);have lW:=h.next (λi k ak=>lM i k ak) ag
   have ih:=aew n kt aq i ck aN m (k+1) _ lW (by omega);have bX:=Ni n d.e (by omega) ig.1 (by omega);have lP:=DD d.e;have gE:=avr n kt aq i k (dQ 3 d.e []) S h.inv (by omega) (by omega);have k6:(dQ 3 d.e []).filterMap (da kt.aH)=to kt.aH x:=by rw[DE ay];rfl
   rw[k6]at gE;have Kk:decide ((k:Int)<(((i::S).length:Nat):Int))=true:=xaw (by simp;omega);have ga:cj (i::S).length (J (k:Int))=some k:=by rw[oV,xad (by simpa using ak)]
   have wP:((k:Int)+1)=((k+1:Nat):Int):=by omega
   simp only[MU,go_sem,I4,Kk,ga,aep ag,NN,fo ay,a8.hx,bX,pd,sb,gE,b0 (bt:=false) (i:=k) (by omega),ih]
def avs(n:Nat)(m:aB){B:Nat}(aq:h6 B m.aH)(i:Nat)(ah:i<m.aH.length)(aN:4*B+200<n):∃S,HX n [m.d,J (i:Int)]=some (kr m.aH.length S)/\(i∈S↔jt m.aH i=true):=by
 have b2:=aq.len;have aj:=aq.b;have aw:=aew n m aq i ah aN n 0 [] (qP.start _ _ _) (by omega);have DY:=UX (λi k ak=>lM i k ak) n 0 [] (qP.start (to m.aH) m.aH.length i) (by omega);rw[<-T9 m.aH i]at DY;generalize vG (to m.aH) i n 0 []=S at*;refine⟨S,?_,DY⟩;have IL:rl 1 (J (m.aH.length:Int)) (J (m.aH.length:Int))=some m.aH.length:=by simp[rl,J];omega
 have aO:D.az 1 (List.replicate m.aH.length [ax false])=kr m.aH.length []:=by rw[aen];rfl
 have aX:D.az 1 [[J (i:Int)]]=de (i::[]):=rfl;have bE:(J ((0:Nat):Int))=J 0:=rfl;rw[bE]at aw;simp only[HX,aaZ,go_sem,aB.agg,aB.a7,aB.bU,aB.bY,aB.cv,aB.dm,aB.eu,aB.ew,aB.fD,ef,IL,aO,aX,aw,pd]
def cE(e:Nat->Int):Nat->Nat->Int×Int
 |0,_=>(0,0)|m+1,i=>if e i=0 then cE e m (i+1)else((i:Int),e i)
def xB(e:Nat->Int):∀(m i:Nat),(cE e m i).2=0↔∀j,i<=j->j<i+m->e j=0
 |0,i=>by simp[cE];intro j ab af;omega
 |m+1,i=>by
  rw[cE];by_cases h:e i=0
  .rw[xad h,xB e m (i+1)];constructor
   .intro ab j af aw;by_cases aP:j=i;.subst aP;exact h
    exact ab j (by omega) (by omega)
   intro ab j af aw;exact ab j (by omega) (by omega)
  rw[xac h];exact⟨λab=>absurd ab h,λab=>absurd (ab i (xan _) (by omega)) h⟩
def sc(e:Nat->Int)(m i:Nat)(h:(cE e m i).2=0):cE e m i=(0,0):=by
 induction m generalizing i with
 |zero=>rfl
 |succ m ih=>
  rw[cE]at h⊢;by_cases ar:e i=0;.rw[xad ar]at h⊢;exact ih (i+1) h
  rw[xac ar]at h;exact absurd h ar
def oo{dY:Type}{f:List D->Option (List D⊕(List D⊕dY))}(e0:Nat->List D)(e:Nat->Int)(N:Nat)(L:List D)(W:Int×Int->dY) (aG:∀i,i<N->f (e0 i)=some (if e i=0 then .inl (e0 (i+1))else .inr (.inr (W ((i:Int),e i))))) (he:f (e0 N)=some (.inr (.inl L))): ∀(m i n:Nat),i+m=N->m<n->bq f n (e0 i)=some (if(cE e m i).2=0 then .inl L else .inr (W (cE e m i)))
 |0,i,n,h,aN=>by
  obtain⟨k,rfl⟩:∃k,n=k+1:=⟨n-1,by omega⟩;have:i=N:=by omega
  subst this;rw[jP,he];rfl
 |m+1,i,n,h,aN=>by
  obtain⟨k,rfl⟩:∃k,n=k+1:=⟨n-1,by omega⟩;rw[jP,aG i (by omega),cE];by_cases ar:e i=0;.rw[xad ar,xad ar];exact oo e0 e N L W aG he m (i+1) k (by omega) (by omega)
  rw[xac ar,xac ar];simp only[eN,xac ar]
structure Aw(m:aB)(n:Nat):Prop where
 bl:DV m
 hU:302000000<n
 DZ:At m.vars
 UY:∀v∈m.vars,v.name.size+24<n
 xC:∀d∈m.aH,d.name.size+24<n/\d.name.size<=9223372036854775807
 bG:m.bG.length<=100/\∀t∈m.bG,t.cc/\t.bl<=12300
 bI:m.bI.length<=100/\∀t∈m.bI,t.cc/\t.bl<=12300
 next:m.next.length<=100/\∀d∈m.next,d.e.cc/\d.e.bl<=12300
 trans:m.trans.length<=100/\∀t∈m.trans,t.cc/\t.bl<=12300
 bM:m.bM.length<=100/\∀t∈m.bM,t.cc/\t.bl<=12300
 bH:m.bH.length<=100/\∀s∈m.bH,(s.f.cc/\s.f.bl<=12300)/\s.name.size+24<n/\s.name.size<=9223372036854775807
noncomputable section
mutual
def mf(m:aB):Fm->Int
 | .mk o t b ks=>if o=1 then lq m false t else nb m ks
def nb(m:aB):List Fm->Int
 |[]=>0|k::r=>if mf m k=0 then nb m r else mf m k
end
theorem UZ(m:aB)(f:Fm):mf m f=if f.op=1 then lq m false f.e else nb m f.aU:=by cases f;rw[mf];rfl
def lQ(m:aB)(i:Nat):Int:=match m.aH[i]? with
 |some d=>if isName d.name=true then(if((fg m.vars d.name).isSome||(da (m.aH.take i) d.name).isSome)=true then 6 else 0)else 12
 |none=>0
def mg(m:aB)(i:Nat):Int:=if jt m.aH i=true then 14 else 0
def lR(m:aB)(i:Nat):Int:=match m.aH[i]? with|some d=>(fI m false d.e).2|none=>0
def e7(m:aB)(l:List Tm)(nx:Bool)(i:Nat):Int:=match l[i]? with|some t=>lq m nx t|none=>0
def iR(m:aB)(i:Nat):Int:=match m.next[i]? with
 |some d=>match fg m.vars d.name with|none=>12|some k=>if(da (m.next.take i) d.name).isSome=true then 6 else if((fI m false d.e).2==0&&((fI m false d.e).1.b !=(m.vars[k]?.map V.bool).getD false))=true then 13 else(fI m false d.e).2
 |none=>0
def jV(m:aB)(i:Nat):Int:=match m.bH[i]? with
 |some s=>if isName s.name=true then(if(om (m.bH.take i) s.name).isSome=true then 6 else if lN s.f=0 then mf m s.f else lN s.f)else 12
 |none=>0
end
def aex{l:List a8}{i:Nat}(h:i<=l.length):rk 5 (aR l) none (some (J (i:Int)))=some (aR (l.take i)):=by rw[aR,UL (by simpa using h)];simp[aR,List.map_take]
def avt{l:List cz}{i:Nat}(h:i<=l.length):rk 7 (b1 l) none (some (J (i:Int)))=some (b1 (l.take i)):=by rw[b1,UL (by simpa using h)];simp[b1,List.map_take]
def aey{m:aB}(hm:DV m):∀(n:Nat)(f:Fm),301000000+f.bl<n->f.cc->f.bl<=12300->tu n [m.d,f.d]=some (J (mf m f))
 |0,_,h,_,_=>absurd h (xay _)
 |n+1,f,aN,bm,aG=>by
  have IQ:=f.yS;have pJ:=f.j6;rw[UZ];have bf:=ael hm n (by omega) bm.e (by omega) false;have b2:bD (cr 6 f.nl (Fm.rows f.aU))=some (J f.aU.length):=by simp
  have aq:=dJ (f:=GP (tu n) n) f.aU (λi (_:Unit)=>[cr 6 f.nl (Fm.rows f.aU),J f.aU.length,J (i:Int),bp m.vars,aR m.aH,aA m.bG,aA m.bI,aR m.next,aA m.trans,aA m.bM,b1 m.bH]) (λr _=>if nb m r=0 then(.inl []:List D⊕D)else .inr (J (nb m r))) (λ_ _=>True) ?_ ?_ n 0 () trivial (by have:=f.j6;omega) (xai _)
  .have bE:(J ((0:Nat):Int))=J 0:=rfl;rw[bE,xao]at aq;show GQ (tu n) n m.d f.d=_;by_cases ab:f.op=1
   .have e3:(f.op==1)=true:=by simp[ab]
    simp only[GQ,go_sem,aB.agg,e3,xad ab,aB.a7,aB.bU,aB.bY,aB.cv,aB.dm,aB.eu,aB.ew,aB.fD,aB.eta,bf]
   have e3:(f.op==1)=false:=by simpa using ab
   simp only[GQ,go_sem,aB.agg,e3,xac ab,aB.a7,aB.bU,aB.bY,aB.cv,aB.dm,aB.eu,aB.ew,aB.fD,aB.eta,b2,aq];by_cases ar:nb m f.aU=0;.rw[xad ar,ar,qw]
   rw[xac ar,FJ]
  .intro _ _;simp only[GP,go_sem,yF ((f.aU.length:Int)<f.aU.length),nb]
  intro i a _ aE ah _;have im:=xab aE;have bn:=Fm.ja im;have av:=aey hm n a (by omega) (bm.gl im) (by omega);have cJ:=yT ((i:Int)<(f.aU.length:Int));by_cases ar:mf m a=0
  .left;rw[ar]at av;refine⟨(),?_,by simp only[nb,ar,xaC],trivial⟩;have bn:((0:Int) !=0)=false:=rfl;simp only[GP,go_sem,cJ,Fm.gN aE,aB.eta,av,bn,b0 (bt:=false) (i:=i) (by omega)]
  right;have bn:(mf m a !=0)=true:=by simpa using ar
  simp only[GP,go_sem,cJ,Fm.gN aE,aB.eta,av,bn,nb,xac ar]
def aez{m:aB}(hm:DV m):∀(n:Nat)(f:Fm),301000000+f.bl<n->f.cc->f.bl<=12300->tF n [m.d,f.d]=some (J (mf m f))
 |0,_,h,_,_=>absurd h (xay _)
 |n+1,f,aN,bm,aG=>by
  have IQ:=f.yS;have pJ:=f.j6;rw[UZ];have bf:=aem hm n (by omega) bm.e (by omega) false;have b2:bD (cr 6 f.nl (Fm.rows f.aU))=some (J f.aU.length):=by simp
  have aq:=dJ (f:=Iq (tF n) n) f.aU (λi (_:Unit)=>[J (i:Int),bp m.vars,aR m.aH,aA m.bG,aA m.bI,aR m.next,aA m.trans,aA m.bM,b1 m.bH,J f.op,J f.e.op,J f.e.num,aC f.e.name,cr 4 f.e.nl (Tm.rows f.e.aU),cr 6 f.nl (Fm.rows f.aU)]) (λr _=>if nb m r=0 then(.inl []:List D⊕D)else .inr (J (nb m r))) (λ_ _=>True) ?_ ?_ n 0 () trivial (by have:=f.j6;omega) (xai _)
  .have bE:(J ((0:Nat):Int))=J 0:=rfl;rw[bE,xao]at aq;show Ir (tF n) n m.d f.d=_;by_cases ab:f.op=1
   .have e3:(f.op==1)=true:=by simp[ab]
    simp only[Ir,go_sem,aB.agg,e3,xad ab,aB.a7,aB.bU,aB.bY,aB.cv,aB.dm,aB.eu,aB.ew,aB.fD,aB.eta,bf]
   have e3:(f.op==1)=false:=by simpa using ab
   simp only[Ir,go_sem,aB.agg,e3,xac ab,aB.a7,aB.bU,aB.bY,aB.cv,aB.dm,aB.eu,aB.ew,aB.fD,aB.eta,b2,aq];by_cases ar:nb m f.aU=0;.rw[xad ar,ar,qw]
   rw[xac ar,FJ]
  .intro _ _;simp only[Iq,go_sem,b2,yF ((f.aU.length:Int)<f.aU.length),nb]
  intro i a _ aE ah _;have im:=xab aE;have bn:=Fm.ja im;have av:=aez hm n a (by omega) (bm.gl im) (by omega);have cJ:=yT ((i:Int)<(f.aU.length:Int));by_cases ar:mf m a=0
  .left;rw[ar]at av;refine⟨(),?_,by simp only[nb,ar,xaC],trivial⟩;have bn:((0:Int) !=0)=false:=rfl;simp only[Iq,go_sem,b2,cJ,Fm.gN aE,aB.eta,av,bn,b0 (bt:=false) (i:=i) (by omega)]
  right;have bn:(mf m a !=0)=true:=by simpa using ar
  simp only[Iq,go_sem,b2,cJ,Fm.gN aE,aB.eta,av,bn,nb,xac ar]
section
variable{m:aB}{n:Nat}(hm:Aw m n)
include hm
theorem avu(i:Nat)(ah:i<m.aH.length):u4 n [aR m.aH,m.d,J (i:Int)]=some (J (lQ m i)):=by have aj:=hm.hU;have x4:=hm.bl.dl;have vE:=hm.bl.nG;obtain⟨d,ay⟩:∃d,m.aH[i]?=some d:=⟨m.aH[i],xaa ah⟩;have Ja:=hm.xC d (xab ay);have bX:=UJ n d.name (by omega) Ja.2;have hO:=au1 n m.vars d.name (by omega) (by omega);have c1:=au4 n (m.aH.take i) d.name (by simp;omega) (by simp;omega);have aG:=aex (l:=m.aH) (i:=i) (by omega);simp only[lQ,ay];cases ab:isName d.name with|false=>simp only[u4,G9,go_sem,aB.agg,fo ay,a8.gn,bX,ab]|true=>cases af:(fg m.vars d.name).isSome with|true=>simp only[u4,G9,go_sem,aB.agg,aB.a7,fo ay,a8.gn,bX,ab,hO,af]|false=>cases aw:(da (m.aH.take i) d.name).isSome with|true=>simp only[u4,G9,go_sem,aB.agg,aB.a7,fo ay,a8.gn,bX,ab,hO,af,aG,c1,aw,Bool.or_false,xbU]|false=>simp only[u4,G9,go_sem,aB.agg,aB.a7,fo ay,a8.gn,bX,ab,hO,af,aG,c1,aw,Bool.or_false,xbU]
theorem avv(i:Nat)(ah:i<m.aH.length):Cm n [aR m.aH,m.d,J (i:Int)]=some (J (lR m i)):=by have aj:=hm.hU;obtain⟨d,ay⟩:∃d,m.aH[i]?=some d:=⟨m.aH[i],xaa ah⟩;have ig:=hm.bl.d.e d (xab ay);have bf:=UU hm.bl n (by omega) ig.1 ig.2 false;simp only[lR,ay];simp only[Cm,aak,go_sem,aB.agg,aB.a7,aB.bU,aB.bY,aB.cv,aB.dm,aB.eu,aB.ew,aB.fD,aB.eta,fo ay,a8.hx,bf,p5]
theorem avw(l:List Tm)(aq:∀t∈l,t.cc/\t.bl<=12300)(k:Int)(nx:Bool)(i:Nat)(ah:i<l.length):Cl n [.agg [J k,aA l,ax nx],m.d,J (i:Int)]=some (J (e7 m l nx i)):=by have aj:=hm.hU;obtain⟨t,aL⟩:∃t,l[i]?=some t:=⟨l[i],xaa ah⟩;have Jb:=aq t (xab aL);have bf:=ael hm.bl n (by omega) Jb.1 Jb.2 nx;have aE:a6 3 (.agg [J k,aA l,ax nx])=true:=rfl;have bU:ad (.agg [J k,aA l,ax nx]) 1=aA l:=rfl;have bY:ad (.agg [J k,aA l,ax nx]) 2=ax nx:=rfl;simp only[e7,aL];simp only[Cl,aaj,go_sem,aE,bU,bY,aB.agg,aB.a7,aB.bU,aB.bY,aB.cv,aB.dm,aB.eu,aB.ew,aB.fD,aB.eta,nF aL,bf]
theorem avx(i:Nat)(ah:i<m.next.length):w6 n [aR m.next,m.d,J (i:Int)]=some (J (iR m i)):=by
 have aj:=hm.hU;have wV:=hm.next.1
 have vE:=hm.bl.nG;obtain⟨d,ay⟩:∃d,m.next[i]?=some d:=⟨m.next[i],xaa ah⟩
 have ig:=hm.next.2 d (xab ay)
 have bf:=UU hm.bl n (by omega) ig.1 ig.2 false;have hO:=au6 n m.vars d.name (by omega) (by omega);have c1:=au9 n (m.next.take i) d.name (by simp;omega) (by simp;omega);have aG:=aex (l:=m.next) (i:=i) (by omega);simp only[iR,ay];cases ab:fg m.vars d.name with
 |none=>have ar:decide (gO none<0)=true:=rfl;simp only[w6,Mc,go_sem,aB.agg,aB.a7,fo ay,a8.gn,hO,ab,ar]
 |some k=>
  have ar:decide (gO (some k)<0)=false:=by rw[ad8];rfl
  have pJ:k<m.vars.length:=by have:=xbd.1 ab;exact this.1
  obtain⟨v,a3⟩:∃v,m.vars[k]?=some v:=⟨m.vars[k],xaa pJ⟩;have lz:bo 4 (bp m.vars) (J (gO (some k)))=some v.cells:=hz a3;have yM:a5 false 1 1 v.cells=some (ax v.bool):=rfl;simp only[a3,xaP,xbe];cases aw:(da (m.next.take i) d.name).isSome with
  |true=>simp only[w6,Mc,go_sem,aB.agg,aB.a7,fo ay,a8.gn,hO,ab,ar,aG,c1,aw]
  |false=>
   generalize fI m false d.e=y at*;have cK:ai true .neq (ax y.1.b) (ax v.bool)=some (ax (y.1.b !=v.bool)):=rfl;simp only[w6,Mc,go_sem,aB.agg,aB.a7,aB.bU,aB.bY,aB.cv,aB.dm,aB.eu,aB.ew,aB.fD,aB.eta,fo ay,a8.gn,a8.hx,hO,ab,ar,aG,c1,aw,bf,p5,tO,lz,yM,cK];by_cases an:(y.2==0&&(y.1.b !=v.bool))=true
   .rw[xad an,xad an]
   rw[xac an,xac an]
theorem avy(i:Nat)(ah:i<m.bH.length):vt n [b1 m.bH,m.d,J (i:Int)]=some (J (jV m i)):=by
 have aj:=hm.hU;have gr:=hm.bH.1;obtain⟨s,aG⟩:∃s,m.bH[i]?=some s:=⟨m.bH[i],xaa ah⟩;obtain⟨⟨ba,LH⟩,avz,U0⟩:=hm.bH.2 s (xab aG);have bX:=UJ n s.name (by omega) U0;have c1:=ave n (m.bH.take i) s.name (by simp;omega) (by simp;omega);have m8:=avt (l:=m.bH) (i:=i) (by omega);have cf:=Ut n s.f (by omega) ba (by omega);have h2:=aey hm.bl n s.f (by omega) ba LH;simp only[jV,aG];cases ab:isName s.name with
 |false=>simp only[vt,IB,go_sem,aB.agg,me aG,cz.gn,bX,ab]
 |true=>
  cases aw:(om (m.bH.take i) s.name).isSome with
  |true=>simp only[vt,IB,go_sem,aB.agg,me aG,cz.gn,bX,ab,m8,c1,aw]
  |false=>
   by_cases a4:lN s.f=0
   .have qt:(lN s.f !=0)=false:=by simp[a4]
    simp only[vt,IB,go_sem,aB.agg,aB.a7,aB.bU,aB.bY,aB.cv,aB.dm,aB.eu,aB.ew,aB.fD,aB.eta,me aG,cz.gn,cz.hx,bX,ab,m8,c1,aw,cf,qt,xad a4,h2]
   have qt:(lN s.f !=0)=true:=by simpa using a4
   simp only[vt,IB,go_sem,aB.agg,aB.a7,aB.bU,aB.bY,aB.cv,aB.dm,aB.eu,aB.ew,aB.fD,aB.eta,me aG,cz.gn,cz.hx,bX,ab,m8,c1,aw,cf,qt,xac a4]
end
def gg(p:Int×Int):D:= .aZ [J p.1,J p.2]
def vH(a b:Int×Int):Int×Int:=if a.2=0 then b else a
def findIdx_take{α:Type}{l:List α}{p:α->Bool}{i:Nat}{d:α}(ay:l[i]?=some d)(aT:p d=true):decide (gO (l.findIdx? p)<(i:Int))=((l.take i).findIdx? p).isSome:=by
 obtain⟨ah,avA⟩:=xae.1 ay;cases h:l.findIdx? p with
 |none=>have:=xbY.1 h d (xab ay);rw[aT]at this;cases this
 |some k=>
  obtain⟨ak,avB,A8⟩:=xbd.1 h;rw[List.findIdx?_isSome];have rh:k<=i:=by
   rcases Nat.lt_or_ge i k with ab|ab;.have:=A8 i ab;rw[avA]at this;exact absurd aT this
   exact ab
  by_cases he:k<i;.have ab:decide (gO (some k)<(i:Int))=true:=xaw (by show(k:Int)<(i:Int);omega);rw[ab];symm;rw[xbr];refine⟨l[k],xaL.2 ⟨k,?_⟩,avB⟩;rw[List.getElem?_take_of_lt he];exact xaa ak
  have ab:decide (gO (some k)<(i:Int))=false:=xaF (by show¬(k:Int)<(i:Int);omega);rw[ab];symm;rw[Bool.eq_false_iff,ne_eq,xbr];rintro⟨a,aE,U1⟩;obtain⟨j,aP⟩:=xaL.1 aE;have cJ:=(xae.1 aP).1;simp only[xbG]at cJ;rw[List.getElem?_take_of_lt (by omega)]at aP;obtain⟨aeA,Jc⟩:=xae.1 aP;have:=A8 j (by omega);rw[Jc]at this;exact this U1
noncomputable def sd(m:aB):Int×Int:=vH (cE (lQ m) m.aH.length 0) (vH (cE (mg m) m.aH.length 0) (cE (lR m) m.aH.length 0))
section
variable{m:aB}{n:Nat}(hm:Aw m n)
include hm
theorem avC:bq (zY n) n [J 0,bp m.vars,aR m.aH,aA m.bG,aA m.bI,aR m.next,aA m.trans,aA m.bM,b1 m.bH]=some (if(cE (lQ m) m.aH.length 0).2=0 then .inl [bp m.vars,aR m.aH,aA m.bG,aA m.bI,aR m.next,aA m.trans,aA m.bM,b1 m.bH]else .inr (gg (cE (lQ m) m.aH.length 0))):=by
 have aj:=hm.hU;have x4:=hm.bl.dl;have vE:=hm.bl.nG;refine oo (λi=>[J (i:Int),bp m.vars,aR m.aH,aA m.bG,aA m.bI,aR m.next,aA m.trans,aA m.bM,b1 m.bH]) (lQ m) m.aH.length _ gg ?_ ?_ _ 0 n (by omega) (by omega)
 .intro i ah;obtain⟨d,ay⟩:∃d,m.aH[i]?=some d:=⟨m.aH[i],xaa ah⟩;have Ja:=hm.xC d (xab ay);have bX:=UK n d.name (by omega) Ja.2;have hO:=aev n m d.name (by omega) (by omega);have c1:=aeu n m d.name (by omega) (by omega);have ck:=yT ((i:Int)<(m.aH.length:Int));have Jd:=findIdx_take (p:=λe:a8=>decide (e.name=d.name)) ay (by simp);change decide (gO (da m.aH d.name)<(i:Int))=(da (m.aH.take i) d.name).isSome at Jd;simp only[lQ,ay];cases ab:isName d.name with
  |false=>simp only[zY,go_sem,ef,ck,fo ay,a8.gn,bX,ab,xac (show¬(12:Int)=0 by decide),gg]
  |true=>
   cases af:(fg m.vars d.name).isSome with
   |true=>have jG:=DT (fg m.vars d.name);rw[af]at jG;simp only[zY,go_sem,ef,ck,fo ay,a8.gn,bX,ab,aB.eta,hO,jG,en,xac (show¬(true=false) by decide),ee,xac (show¬(6:Int)=0 by decide),gg]
   |false=>
    have jG:=DT (fg m.vars d.name);rw[af]at jG;cases aw:(da (m.aH.take i) d.name).isSome with
    |true=>rw[aw]at Jd;simp only[zY,go_sem,ef,ck,fo ay,a8.gn,bX,ab,aB.eta,hO,jG,en,c1,Jd,ee,xac (show¬(6:Int)=0 by decide),gg,Bool.or_true]
    |false=>rw[aw]at Jd;simp only[zY,go_sem,ef,ck,fo ay,a8.gn,bX,ab,aB.eta,hO,jG,en,c1,Jd,ee,Bool.or_false,b0 (bt:=false) (i:=i) (by omega)]
 simp only[zY,go_sem,ef,yF ((m.aH.length:Int)<m.aH.length)]
theorem avD:bq (Ik n) n [J 0,bp m.vars,aR m.aH,aA m.bG,aA m.bI,aR m.next,aA m.trans,aA m.bM,b1 m.bH]=some (if(cE (mg m) m.aH.length 0).2=0 then .inl [bp m.vars,aR m.aH,aA m.bG,aA m.bI,aR m.next,aA m.trans,aA m.bM,b1 m.bH]else .inr (gg (cE (mg m) m.aH.length 0))):=by
 have aj:=hm.hU;have x4:=hm.bl.dl;refine oo (λi=>[J (i:Int),bp m.vars,aR m.aH,aA m.bG,aA m.bI,aR m.next,aA m.trans,aA m.bM,b1 m.bH]) (mg m) m.aH.length _ gg ?_ ?_ _ 0 n (by omega) (by omega)
 .intro i ah;obtain⟨S,ec,aeB⟩:=avs n m hm.bl.d i ah (by omega);have ck:=yT ((i:Int)<(m.aH.length:Int));have ag:bo 1 (kr m.aH.length S) (J (i:Int))=some [ax (decide (i∈S))]:=by
   rw[kr,Ze,I2 ah]
  cases ab:jt m.aH i with
  |true=>have af:=xaw (aeB.2 ab);simp only[Ik,go_sem,ef,ck,aB.eta,ec,ag,Av,af,mg,ab,xac (show¬(14:Int)=0 by decide),gg]
  |false=>have af:=xaF (show¬i∈S fromλh=>by rw[aeB.1 h]at ab;cases ab);simp only[Ik,go_sem,ef,ck,aB.eta,ec,ag,Av,af,mg,ab,b0 (bt:=false) (i:=i) (by omega)]
 simp only[Ik,go_sem,ef,yF ((m.aH.length:Int)<m.aH.length)]
theorem avE:bq (Il n) n [J 0,bp m.vars,aR m.aH,aA m.bG,aA m.bI,aR m.next,aA m.trans,aA m.bM,b1 m.bH]=some (if(cE (lR m) m.aH.length 0).2=0 then .inl []else .inr (gg (cE (lR m) m.aH.length 0))):=by
 have aj:=hm.hU;have x4:=hm.bl.dl;refine oo (λi=>[J (i:Int),bp m.vars,aR m.aH,aA m.bG,aA m.bI,aR m.next,aA m.trans,aA m.bM,b1 m.bH]) (lR m) m.aH.length _ gg ?_ ?_ _ 0 n (by omega) (by omega)
 .intro i ah;obtain⟨d,ay⟩:∃d,m.aH[i]?=some d:=⟨m.aH[i],xaa ah⟩;have ig:=hm.bl.d.e d (xab ay);have bf:=UW hm.bl n (by omega) ig.1 ig.2 false;have ck:=yT ((i:Int)<(m.aH.length:Int));simp only[lR,ay];by_cases ab:(fI m false d.e).2=0
  .have e3:((fI m false d.e).2 !=0)=false:=by simp[ab]
   simp only[Il,go_sem,ef,ck,aB.eta,fo ay,a8.hx,bf,p5,e3,xad ab,b0 (bt:=false) (i:=i) (by omega)]
  have e3:((fI m false d.e).2 !=0)=true:=by simpa using ab
  simp only[Il,go_sem,ef,ck,aB.eta,fo ay,a8.hx,bf,p5,e3,xac ab,gg]
 simp only[Il,go_sem,ef,yF ((m.aH.length:Int)<m.aH.length)]
theorem avF:xg n [m.d]=some (gg (sd m)):=by
 have af:=avC hm;have jM:=avD hm;have NQ:=avE hm;have bn:∀e k,(cE e k 0).2=0->cE e k 0=(0,0):=λe k=>sc e k 0;unfold sd vH;by_cases bU:(cE (lQ m) m.aH.length 0).2=0
 case neg=>rw[xac bU]at af⊢;simp only[xg,Im,go_sem,aB.agg,aB.a7,aB.bU,aB.bY,aB.cv,aB.dm,aB.eu,aB.ew,aB.fD,af]
 rw[xad bU]at af⊢;by_cases bY:(cE (mg m) m.aH.length 0).2=0
 case neg=>rw[xac bY]at jM⊢;simp only[xg,Im,go_sem,aB.agg,aB.a7,aB.bU,aB.bY,aB.cv,aB.dm,aB.eu,aB.ew,aB.fD,af,jM]
 rw[xad bY]at jM⊢;by_cases cv:(cE (lR m) m.aH.length 0).2=0;.rw[xad cv]at NQ;rw[bn _ _ cv];simp only[xg,Im,go_sem,aB.agg,aB.a7,aB.bU,aB.bY,aB.cv,aB.dm,aB.eu,aB.ew,aB.fD,af,jM,NQ,gg]
 rw[xac cv]at NQ;simp only[xg,Im,go_sem,aB.agg,aB.a7,aB.bU,aB.bY,aB.cv,aB.dm,aB.eu,aB.ew,aB.fD,af,jM,NQ]
theorem NR(l:List Tm)(aq:l.length<=100/\∀t∈l,t.cc/\t.bl<=12300)(nx:Bool):vp n [m.d,aA l,ax nx]=some (gg (cE (e7 m l nx) l.length 0)):=by
 have aj:=hm.hU;have ah:=oo (f:=Io n) (λi=>[aA l,ax nx,J (i:Int),bp m.vars,aR m.aH,aA m.bG,aA m.bI,aR m.next,aA m.trans,aA m.bM,b1 m.bH]) (e7 m l nx) l.length [] gg ?_ ?_ l.length 0 n (by omega) (by omega)
 .have bE:(J ((0:Nat):Int))=J 0:=rfl;rw[bE]at ah;by_cases c:(cE (e7 m l nx) l.length 0).2=0;.rw[xad c]at ah;rw[sc _ _ _ c];simp only[vp,Ts,go_sem,aB.agg,aB.a7,aB.bU,aB.bY,aB.cv,aB.dm,aB.eu,aB.ew,aB.fD,ah,gg]
  rw[xac c]at ah;simp only[vp,Ts,go_sem,aB.agg,aB.a7,aB.bU,aB.bY,aB.cv,aB.dm,aB.eu,aB.ew,aB.fD,ah]
 .intro i ah;obtain⟨t,aL⟩:∃t,l[i]?=some t:=⟨l[i],xaa ah⟩;have Jb:=aq.2 t (xab aL);have bf:=aem hm.bl n (by omega) Jb.1 Jb.2 nx;have ck:=yT ((i:Int)<(l.length:Int));simp only[e7,aL];by_cases ab:lq m nx t=0
  .have e3:(lq m nx t !=0)=false:=by simp[ab]
   simp only[Io,go_sem,hT,ck,aB.eta,nF aL,bf,e3,xad ab,b0 (bt:=false) (i:=i) (by have:=aq.1;omega)]
  have e3:(lq m nx t !=0)=true:=by simpa using ab
  simp only[Io,go_sem,hT,ck,aB.eta,nF aL,bf,e3,xac ab,gg]
 simp only[Io,go_sem,hT,yF ((l.length:Int)<l.length)]
theorem avG(i:Nat)(k:Int){d:a8}(ay:m.next[i]?=some d):bq (C5 n) n [J (i:Int),J k,J 0,bp m.vars,aR m.aH,aA m.bG,aA m.bI,aR m.next,aA m.trans,aA m.bM,b1 m.bH]=some (if(da (m.next.take i) d.name).isSome=true then .inr (.inr (.inr (.inr (.aZ [J (i:Int),J 6]))))else .inl [J (i:Int),J k,bp m.vars,aR m.aH,aA m.bG,aA m.bI,aR m.next,aA m.trans,aA m.bM,b1 m.bH]):=by
 have aj:=hm.hU;have wV:=hm.next.1
 have ck:=(xae.1 ay).1;have cu:(m.next.take i).length=i:=by simp;omega
 have ah:=dJ (f:=C5 n) (m.next.take i) (λj (_:Unit)=>[J (i:Int),J k,J (j:Int),bp m.vars,aR m.aH,aA m.bG,aA m.bI,aR m.next,aA m.trans,aA m.bM,b1 m.bH]) (λr _=>(if(da r d.name).isSome=true then .inr (.inr (.inr (.inr (.aZ [J (i:Int),J 6]))))else .inl [J (i:Int),J k,bp m.vars,aR m.aH,aA m.bG,aA m.bI,aR m.next,aA m.trans,aA m.bM,b1 m.bH]:List D⊕(List D⊕(List D⊕(List D⊕D))))) (λ_ _=>True) (λ_ _=>by rw[cu];simp only[C5,go_sem,yF ((i:Int)<i)];rfl) ?_ n 0 () trivial (by omega) (xai _);.exact ah
 intro j a _ aE aP _;rw[cu]at aP;rw[List.getElem?_take_of_lt aP]at aE;have cJ:=yT ((j:Int)<(i:Int));have an:da (a::(m.next.take i).drop (j+1)) d.name=if decide (a.name=d.name)=true then some 0 else(da ((m.next.take i).drop (j+1)) d.name).map (·+1):=findIdx_cons _ a _
 rw[an];by_cases h:a.name=d.name;.right;rw[xad (xaw h)];simp only[C5,go_sem,cJ,fo aE,fo ay,a8.gn,xaw h,Option.isSome_some]
 left;refine⟨(),?_,?_,trivial⟩;.simp only[C5,go_sem,cJ,fo aE,fo ay,a8.gn,xaF h,b0 (bt:=false) (i:=j) (by omega)]
 have bx:¬(decide (a.name=d.name)=true):=by simpa using h
 rw[xac bx,Option.isSome_map]
theorem avH(i:Nat){d:cz}(ay:m.bH[i]?=some d):bq (C9 n) n [J (i:Int),J 0,bp m.vars,aR m.aH,aA m.bG,aA m.bI,aR m.next,aA m.trans,aA m.bM,b1 m.bH]=some (if(om (m.bH.take i) d.name).isSome=true then .inr (.inr (.inr (.inr (.aZ [J (i:Int),J 6]))))else .inl [J (i:Int),bp m.vars,aR m.aH,aA m.bG,aA m.bI,aR m.next,aA m.trans,aA m.bM,b1 m.bH]):=by
 have aj:=hm.hU;have wV:=hm.bH.1;have ck:=(xae.1 ay).1;have cu:(m.bH.take i).length=i:=by simp;omega
 have ah:=dJ (f:=C9 n) (m.bH.take i) (λj (_:Unit)=>[J (i:Int),J (j:Int),bp m.vars,aR m.aH,aA m.bG,aA m.bI,aR m.next,aA m.trans,aA m.bM,b1 m.bH]) (λr _=>(if(om r d.name).isSome=true then .inr (.inr (.inr (.inr (.aZ [J (i:Int),J 6]))))else .inl [J (i:Int),bp m.vars,aR m.aH,aA m.bG,aA m.bI,aR m.next,aA m.trans,aA m.bM,b1 m.bH]:List D⊕(List D⊕(List D⊕(List D⊕D))))) (λ_ _=>True) (λ_ _=>by rw[cu];simp only[C9,go_sem,yF ((i:Int)<i)];rfl) ?_ n 0 () trivial (by omega) (xai _);.exact ah
 intro j a _ aE aP _;rw[cu]at aP;rw[List.getElem?_take_of_lt aP]at aE;have cJ:=yT ((j:Int)<(i:Int));have an:om (a::(m.bH.take i).drop (j+1)) d.name=if decide (a.name=d.name)=true then some 0 else(om ((m.bH.take i).drop (j+1)) d.name).map (·+1):=findIdx_cons _ a _
 rw[an];by_cases h:a.name=d.name;.right;rw[xad (xaw h)];simp only[C9,go_sem,cJ,me aE,me ay,cz.gn,xaw h,Option.isSome_some]
 left;refine⟨(),?_,?_,trivial⟩;.simp only[C9,go_sem,cJ,me aE,me ay,cz.gn,xaF h,b0 (bt:=false) (i:=j) (by omega)]
 have bx:¬(decide (a.name=d.name)=true):=by simpa using h
 rw[xac bx,Option.isSome_map]
theorem avI:C6 n [m.d]=some (gg (cE (iR m) m.next.length 0)):=by
 have aj:=hm.hU;have wV:=hm.next.1
 have vE:=hm.bl.nG;have ah:=oo (f:=xi n) (λi=>[J (i:Int),bp m.vars,aR m.aH,aA m.bG,aA m.bI,aR m.next,aA m.trans,aA m.bM,b1 m.bH]) (iR m) m.next.length [] gg ?_ ?_ m.next.length 0 n (by omega) (by omega)
 .have bE:(J ((0:Nat):Int))=J 0:=rfl;rw[bE]at ah;by_cases c:(cE (iR m) m.next.length 0).2=0;.rw[xad c]at ah;rw[sc _ _ _ c];simp only[C6,Tu,go_sem,aB.agg,aB.a7,aB.bU,aB.bY,aB.cv,aB.dm,aB.eu,aB.ew,aB.fD,ah,gg]
  rw[xac c]at ah;simp only[C6,Tu,go_sem,aB.agg,aB.a7,aB.bU,aB.bY,aB.cv,aB.dm,aB.eu,aB.ew,aB.fD,ah]
 .intro i ah;obtain⟨d,ay⟩:∃d,m.next[i]?=some d:=⟨m.next[i],xaa ah⟩
  have ig:=hm.next.2 d (xab ay)
  have bf:=UW hm.bl n (by omega) ig.1 ig.2 false;have hO:=aev n m d.name (by omega) (by omega);have ck:=yT ((i:Int)<(m.next.length:Int));simp only[iR,ay];cases ab:fg m.vars d.name with
  |none=>rw[ab]at hO;have ar:decide (gO none<0)=true:=rfl;simp only[xi,go_sem,ef,ck,aB.eta,fo ay,a8.gn,hO,ar,xac (show¬(12:Int)=0 by decide),gg]
  |some k=>
   rw[ab]at hO;have h1:=avG hm i (gO (some k)) ay;have ar:decide (gO (some k)<0)=false:=by rw[ad8];rfl
   have pJ:k<m.vars.length:=by have:=xbd.1 ab;exact this.1
   obtain⟨v,a3⟩:∃v,m.vars[k]?=some v:=⟨m.vars[k],xaa pJ⟩;have lz:bo 4 (bp m.vars) (J (gO (some k)))=some v.cells:=hz a3;have yM:a5 false 1 1 v.cells=some (ax v.bool):=rfl;simp only[a3,xaP,xbe];cases aw:(da (m.next.take i) d.name).isSome with
   |true=>rw[aw,xad rfl]at h1;simp only[xi,go_sem,ef,ck,aB.eta,fo ay,a8.gn,hO,ar,h1,xac (show¬(6:Int)=0 by decide),gg]
   |false=>
    rw[aw,xac (by decide)]at h1;generalize fI m false d.e=y at*;have cK:ai true .neq (ax y.1.b) (ax v.bool)=some (ax (y.1.b !=v.bool)):=rfl;have p6:((13:Int) !=0)=true:=rfl;by_cases an:(y.2==0&&(y.1.b !=v.bool))=true
    .simp only[xi,go_sem,ef,ck,aB.eta,fo ay,a8.gn,a8.hx,hO,ar,h1,bf,p5,tO,lz,yM,cK,an,p6,xac (show¬(13:Int)=0 by decide),gg]
    have dX:(y.2==0&&(y.1.b !=v.bool))=false:=by simpa using an
    by_cases aJ:y.2=0
    .have uh:(y.2 !=0)=false:=by simp[aJ]
     simp only[xi,go_sem,ef,ck,aB.eta,fo ay,a8.gn,a8.hx,hO,ar,h1,bf,p5,tO,lz,yM,cK,dX,uh,xad aJ,b0 (bt:=false) (i:=i) (by omega)]
    have uh:(y.2 !=0)=true:=by simpa using aJ
    simp only[xi,go_sem,ef,ck,aB.eta,fo ay,a8.gn,a8.hx,hO,ar,h1,bf,p5,tO,lz,yM,cK,dX,uh,xac aJ,gg]
 simp only[xi,go_sem,ef,yF ((m.next.length:Int)<m.next.length)]
theorem avJ:Da n [m.d]=some (gg (cE (jV m) m.bH.length 0)):=by
 have aj:=hm.hU;have gr:=hm.bH.1;have ah:=oo (f:=xj n) (λi=>[J (i:Int),bp m.vars,aR m.aH,aA m.bG,aA m.bI,aR m.next,aA m.trans,aA m.bM,b1 m.bH]) (jV m) m.bH.length [] gg ?_ ?_ m.bH.length 0 n (by omega) (by omega)
 .have bE:(J ((0:Nat):Int))=J 0:=rfl;rw[bE]at ah;by_cases c:(cE (jV m) m.bH.length 0).2=0;.rw[xad c]at ah;rw[sc _ _ _ c];simp only[Da,Tx,go_sem,aB.agg,aB.a7,aB.bU,aB.bY,aB.cv,aB.dm,aB.eu,aB.ew,aB.fD,ah,gg]
  rw[xac c]at ah;simp only[Da,Tx,go_sem,aB.agg,aB.a7,aB.bU,aB.bY,aB.cv,aB.dm,aB.eu,aB.ew,aB.fD,ah]
 .intro i ah;obtain⟨s,aG⟩:∃s,m.bH[i]?=some s:=⟨m.bH[i],xaa ah⟩;obtain⟨⟨ba,LH⟩,avz,U0⟩:=hm.bH.2 s (xab aG);have bX:=UK n s.name (by omega) U0;have gE:=avH hm i aG;have cf:=Us n s.f (by omega) ba (by omega);have h2:=aez hm.bl n s.f (by omega) ba LH;have ck:=yT ((i:Int)<(m.bH.length:Int));simp only[jV,aG];cases ab:isName s.name with
  |false=>simp only[xj,go_sem,iF,ck,me aG,cz.gn,bX,ab,xac (show¬(12:Int)=0 by decide),gg]
  |true=>
   cases aw:(om (m.bH.take i) s.name).isSome with
   |true=>rw[aw,xad rfl]at gE;simp only[xj,go_sem,iF,ck,me aG,cz.gn,bX,ab,gE,xac (show¬(6:Int)=0 by decide),gg]
   |false=>
    rw[aw,xac (by decide)]at gE;by_cases a4:lN s.f=0
    .have qt:(lN s.f==0)=true:=by simp[a4]
     by_cases b6:mf m s.f=0
     .have yB:(mf m s.f !=0)=false:=by simp[b6]
      simp only[xj,go_sem,iF,ck,aB.eta,me aG,cz.gn,cz.hx,bX,ab,gE,cf,qt,xad a4,h2,yB,xad b6,b0 (bt:=false) (i:=i) (by omega)]
     have yB:(mf m s.f !=0)=true:=by simpa using b6
     simp only[xj,go_sem,iF,ck,aB.eta,me aG,cz.gn,cz.hx,bX,ab,gE,cf,qt,xad a4,h2,yB,xac b6,gg]
    have qt:(lN s.f==0)=false:=by simpa using a4
    have avK:(lN s.f !=0)=true:=by simpa using a4
    simp only[xj,go_sem,iF,ck,aB.eta,me aG,cz.gn,cz.hx,bX,ab,gE,cf,qt,avK,xac a4,gg]
 simp only[xj,go_sem,iF,yF ((m.bH.length:Int)<m.bH.length)]
end
def ku:List V->Nat
 |[]=>0|v::r=>bitsOf v.span+ku r
theorem V.nH(v:V):D.agg [ad v.d 0,ad v.d 1,ad v.d 2,ad v.d 3]=v.d:=rfl
def avL(n:Nat)(m:aB)(a3:At m.vars)(aq:m.vars.length<=100)(aN:200<n):Ge n [m.d]=some (J (ku m.vars:Nat)):=by
 have ah:=dJ (f:=LV n) m.vars (λi (s:Nat)=>[J (s:Int),bp m.vars,J m.vars.length,J (i:Int)]) (λr s=>(.inl [J ((s+ku r:Nat):Int)]:List D⊕D)) (λi s=>s<=62*i) ?_ ?_ n 0 0 (by simp) (by omega) (xai _);.have bE:(J ((0:Nat):Int))=J 0:=rfl;rw[bE,xao,xax]at ah;simp only[Ge,ZZ,go_sem,aB.agg,aB.a7,fO,ah]
 .intro s aG;simp only[LV,go_sem,yF ((m.vars.length:Int)<m.vars.length),ku,xbm]
 intro i v s Je ah aG;obtain⟨ab,af,_⟩:=a3.2 v (xab Je);have lH:=auR n v ab af;have aj:=auU n v.span (V.IZ v).2 (by omega);have um:=(DS (V.IZ v).2).1;have ck:=yT ((i:Int)<(m.vars.length:Int));have ha:ai false .add (J (s:Int)) (J (bitsOf v.span:Nat))=some (J ((s+bitsOf v.span:Nat):Int)):=by rw[gx (by omega) (by omega)];rfl
 left;refine⟨s+bitsOf v.span,?_,by rw[ku,xbj],by omega⟩;simp only[LV,go_sem,ck,hz Je,V.cL,V.cX,V.nH,lH,aj,ha,b0 (bt:=false) (i:=i) (by omega)]
def avM(n:Nat)(m:aB)(a3:At m.vars)(aq:m.vars.length<=100)(aN:200<n):HR n [m.d]=some (J (ku m.vars:Nat)):=by
 have ah:=dJ (f:=MR n) m.vars (λi (s:Nat)=>[J (s:Int),J (i:Int),bp m.vars,aR m.aH,aA m.bG,aA m.bI,aR m.next,aA m.trans,aA m.bM,b1 m.bH]) (λr s=>(.inl [J ((s+ku r:Nat):Int)]:List D⊕D)) (λi s=>s<=62*i) ?_ ?_ n 0 0 (by simp) (by omega) (xai _);.have bE:(J ((0:Nat):Int))=J 0:=rfl;rw[bE,xao,xax]at ah;simp only[HR,aaT,go_sem,aB.agg,aB.a7,aB.bU,aB.bY,aB.cv,aB.dm,aB.eu,aB.ew,aB.fD,ah]
 .intro s aG;simp only[MR,go_sem,fO,yF ((m.vars.length:Int)<m.vars.length),ku,xbm]
 intro i v s Je ah aG;obtain⟨ab,af,_⟩:=a3.2 v (xab Je);have lH:=ad5 n v ab af;have aj:=auV n v.span (by have:=(V.IZ v).1;omega) (V.IZ v).2 (by omega);have um:=(DS (V.IZ v).2).1;have ck:=yT ((i:Int)<(m.vars.length:Int));have ha:ai false .add (J (s:Int)) (J (bitsOf v.span:Nat))=some (J ((s+bitsOf v.span:Nat):Int)):=by rw[gx (by omega) (by omega)];rfl
 left;refine⟨s+bitsOf v.span,?_,by rw[ku,xbj],by omega⟩;simp only[MR,go_sem,fO,ck,hz Je,V.cL,lH,aj,ha,b0 (bt:=false) (i:=i) (by omega)]
def ij:List (Int×(Int×Int))->Int×(Int×Int)
 |[]=>(0,(0,0))|a::r=>if a.2.2=0 then ij r else a
def aeC{dY:Type}{f:List D->Option (List D⊕(List D⊕dY))}(L:List (Int×(Int×Int)))(e0:Nat->List D)(E:List D)(W:Int×(Int×Int)->dY) (aG:∀i a,L[i]?=some a->f (e0 i)=some (if a.2.2=0 then .inl (e0 (i+1))else .inr (.inr (W a)))) (he:f (e0 L.length)=some (.inr (.inl E))) (n:Nat) (aN:L.length<n):bq f n (e0 0)=some (if(ij L).2.2=0 then .inl E else .inr (W (ij L))):=by
 have h:=dJ (f:=f) L (λi (_:Unit)=>e0 i) (λr _=>(if(ij r).2.2=0 then .inl E else .inr (W (ij r)):List D⊕dY)) (λ_ _=>True) (λ_ _=>by rw[he];rfl) ?_ n 0 () trivial (by omega) (xai _);.exact h
 intro i a _ aE ah _;have ab:=aG i a aE;by_cases ar:a.2.2=0
 .left;rw[xad ar]at ab;exact⟨(),ab,by rw[ij,xad ar],trivial⟩
 right;rw[xac ar]at ab;rw[ab,ij,xac ar,xac ar]
def nI(m:aB):List Nat:=[m.vars.length,m.aH.length,m.bG.length,m.bI.length,m.next.length,m.trans.length,m.bM.length,m.bH.length]
def mJ(m:aB)(i:Nat):Int:=if 64<(nI m)[i]?.getD 0 then 18 else 0
noncomputable def se(m:aB):List (Int×(Int×Int)):=[(2,cE (lQ m) m.aH.length 0),(2,cE (mg m) m.aH.length 0),(2,cE (lR m) m.aH.length 0),(3,cE (e7 m m.bG false) m.bG.length 0),(4,cE (e7 m m.bI false) m.bI.length 0),(5,cE (iR m) m.next.length 0),(6,cE (e7 m m.trans true) m.trans.length 0),(7,cE (e7 m m.bM false) m.bM.length 0),(8,cE (jV m) m.bH.length 0)]
noncomputable def U2(m:aB):List (Int×(Int×Int)):=[(2,sd m),(3,cE (e7 m m.bG false) m.bG.length 0),(4,cE (e7 m m.bI false) m.bI.length 0),(5,cE (iR m) m.next.length 0),(6,cE (e7 m m.trans true) m.trans.length 0),(7,cE (e7 m m.bM false) m.bM.length 0),(8,cE (jV m) m.bH.length 0)]
def aeD{a b:Int×Int}:(vH a b).2=0↔a.2=0/\b.2=0:=by unfold vH;by_cases h:a.2=0<;>simp[h]
def aeE(k:Int)(a b:Int×Int)(r:List (Int×(Int×Int))):ij ((k,vH a b)::r)=ij ((k,a)::(k,b)::r):=by simp only[ij];unfold vH;by_cases h:a.2=0<;>simp[h]
def avN(a:Int×(Int×Int)){r sA:List (Int×(Int×Int))}(h:ij r=ij sA):ij (a::r)=ij (a::sA):=by rw[ij,ij,h]
def avO(m:aB):ij (U2 m)=ij (se m):=by unfold U2 sd;rw[aeE];exact avN _ (aeE _ _ _ _)
noncomputable def kR(m:aB):Int×(Int×Int):=if(cE (mJ m) 8 0).2=0 then
  if(jO m.vars).2=0 then
   if 30<ku m.vars then(1,(0,18))else ij (se m)
  else(1,jO m.vars)
 else((cE (mJ m) 8 0).1+1,(64,18))
def eS(q:Int×(Int×Int)):D:= .aZ [.agg [J q.1,J q.2.1],J q.2.2]
def avP{l:List V}(h:(jO l).2=0):jO l=(0,0):=by unfold jO at h⊢;cases ba:(List.range l.length).find? (λi=>iZ l i !=0)with|none=>rw[ba]at h|some i=>rw[ba]at h;have:=List.find?_some ba;simp only at h;rw[h]at this;cases this
def aeF(L:List (Int×(Int×Int)))(h:(ij L).2.2=0):ij L=(0,(0,0)):=by
 induction L with
 |nil=>rfl
 |cons a r ih=>
  rw[ij]at h⊢;by_cases ar:a.2.2=0;.rw[xad ar]at h⊢;exact ih h
  rw[xac ar]at h;exact absurd h ar
theorem ix{t:Nat}{x:D}:BH (.ea t x)=some (t,x):=rfl
def Jf(m:aB):D:= .agg ((nI m).map λ(k:Nat)=>J (k:Int))
def gQ(m:aB):D:= .agg [.ea 114 (aR m.aH),.ea 115 (aR m.aH),.ea 116 (aR m.aH),.ea 118 (.agg [J 3,aA m.bG,ax false]),.ea 118 (.agg [J 4,aA m.bI,ax false]),.ea 119 (aR m.next),.ea 118 (.agg [J 6,aA m.trans,ax true]),.ea 118 (.agg [J 7,aA m.bM,ax false]),.ea 120 (b1 m.bH)]
theorem NS{dY:Type}{a b:Option dY}:gF 114 114 a b=a:=rfl
theorem NT{dY:Type}{a b:Option dY}:gF 115 114 a b=b:=rfl
theorem NU{dY:Type}{a b:Option dY}:gF 115 115 a b=a:=rfl
theorem NV{dY:Type}{a b:Option dY}:gF 116 114 a b=b:=rfl
theorem NW{dY:Type}{a b:Option dY}:gF 116 115 a b=b:=rfl
theorem NX{dY:Type}{a b:Option dY}:gF 116 116 a b=a:=rfl
theorem tP{dY:Type}{a b:Option dY}:gF 118 114 a b=b:=rfl
theorem tQ{dY:Type}{a b:Option dY}:gF 118 115 a b=b:=rfl
theorem tR{dY:Type}{a b:Option dY}:gF 118 116 a b=b:=rfl
theorem tS{dY:Type}{a b:Option dY}:gF 118 118 a b=a:=rfl
theorem NY{dY:Type}{a b:Option dY}:gF 119 114 a b=b:=rfl
theorem NZ{dY:Type}{a b:Option dY}:gF 119 115 a b=b:=rfl
theorem N0{dY:Type}{a b:Option dY}:gF 119 116 a b=b:=rfl
theorem N1{dY:Type}{a b:Option dY}:gF 119 118 a b=b:=rfl
theorem N2{dY:Type}{a b:Option dY}:gF 119 119 a b=a:=rfl
theorem N3{dY:Type}{a b:Option dY}:gF 120 114 a b=b:=rfl
theorem N4{dY:Type}{a b:Option dY}:gF 120 115 a b=b:=rfl
theorem N5{dY:Type}{a b:Option dY}:gF 120 116 a b=b:=rfl
theorem N6{dY:Type}{a b:Option dY}:gF 120 118 a b=b:=rfl
theorem N7{dY:Type}{a b:Option dY}:gF 120 119 a b=b:=rfl
theorem N8{dY:Type}{a b:Option dY}:gF 120 120 a b=a:=rfl
section
variable{m:aB}{n:Nat}(hm:Aw m n)
include hm
theorem avQ:bq (Dw n) n [Jf m,J 0,bp m.vars,aR m.aH,aA m.bG,aA m.bI,aR m.next,aA m.trans,aA m.bM,b1 m.bH,J 0,J 0]=some (if(cE (mJ m) 8 0).2=0 then .inl [bp m.vars,aR m.aH,aA m.bG,aA m.bI,aR m.next,aA m.trans,aA m.bM,b1 m.bH,J 0,J 0]else .inr (eS ((cE (mJ m) 8 0).1+1,(64,18)))):=by
 have aj:=hm.hU;refine oo (f:=Dw n) (λi=>[Jf m,J (i:Int),bp m.vars,aR m.aH,aA m.bG,aA m.bI,aR m.next,aA m.trans,aA m.bM,b1 m.bH,J 0,J 0]) (mJ m) 8 _ (λp=>eS (p.1+1,(64,18))) ?_ ?_ 8 0 n (by omega) (by omega)
 .intro i ah;obtain⟨k,ak⟩:∃k,(nI m)[i]?=some k:=⟨_,xaa ah⟩;have ck:=yT ((i:Int)<8);have ga:cj 8 (J (i:Int))=some i:=by rw[oV,xad ah]
  have ba:l0 false 1 (i*1) (Jf m)=some (J (k:Int)):=by unfold Jf;rw[Nat.mul_one,alv,iN,xaj,ak];rfl
  have U3:ai false .add (J 1) (J (i:Int))=some (J ((i:Int)+1)):=by rw[gx (by omega) (by omega)];congr 2;omega
  have bR:mJ m i=if 64<k then 18 else 0:=by unfold mJ;rw[ak];rfl
  by_cases an:64<k;.rw[bR,xad an,xac (by decide)];simp only[Dw,go_sem,ck,ga,ba,yT ((k:Int)>64),U3,eS]
  rw[bR,xac an,xad rfl];simp only[Dw,go_sem,ck,ga,ba,yF ((k:Int)>64),b0 (bt:=false) (i:=i) (by omega)]
 simp only[Dw,go_sem,show decide (((8:Nat):Int)<8)=false from rfl]
theorem avR:bq (Db n) n [J 0,bp m.vars,aR m.aH,aA m.bG,aA m.bI,aR m.next,aA m.trans,aA m.bM,b1 m.bH,J 0,J 0,D.az 1 ((nI m).map λ(k:Nat)=>[J (k:Int)])]=some (if(cE (mJ m) 8 0).2=0 then .inl [bp m.vars,aR m.aH,aA m.bG,aA m.bI,aR m.next,aA m.trans,aA m.bM,b1 m.bH,J 0,J 0]else .inr (eS ((cE (mJ m) 8 0).1+1,(64,18)))):=by
 have aj:=hm.hU;refine oo (f:=Db n) (λi=>[J (i:Int),bp m.vars,aR m.aH,aA m.bG,aA m.bI,aR m.next,aA m.trans,aA m.bM,b1 m.bH,J 0,J 0,D.az 1 ((nI m).map λ(k:Nat)=>[J (k:Int)])]) (mJ m) 8 _ (λp=>eS (p.1+1,(64,18))) ?_ ?_ 8 0 n (by omega) (by omega)
 .intro i ah;obtain⟨k,ak⟩:∃k,(nI m)[i]?=some k:=⟨_,xaa ah⟩;have b2:((nI m).map λ(k:Nat)=>[J (k:Int)]).length=8:=rfl;have ck:=yT ((i:Int)<((8:Nat):Int));have ga:cj 8 (J (i:Int))=some i:=by rw[oV,xad ah]
  have ba:((nI m).map λ(k:Nat)=>[J (k:Int)])[i]?=some [J (k:Int)]:=by rw[xaj,ak];rfl
  have U3:ai false .add (J (i:Int)) (J 1)=some (J ((i:Int)+1)):=by rw[gx (by omega) (by omega)]
  have bR:mJ m i=if 64<k then 18 else 0:=by unfold mJ;rw[ak];rfl
  generalize ((nI m).map λ(k:Nat)=>[J (k:Int)])=aBo at*;by_cases an:64<k;.rw[bR,xad an,xac (by decide)];simp only[Db,go_sem,b2,ck,ga,ba,NN,yT ((k:Int)>64),U3,eS]
  rw[bR,xac an,xad rfl];simp only[Db,go_sem,b2,ck,ga,ba,NN,yF ((k:Int)>64),b0 (bt:=false) (i:=i) (by omega)]
 have b2:((nI m).map λ(k:Nat)=>[J (k:Int)]).length=8:=rfl;simp only[Db,go_sem,b2,show decide (((8:Nat):Int)<((8:Nat):Int))=false from rfl]
theorem avS(A kv:D):bq (ie n) n [D.ea 114 (aR m.aH),A,kv,J m.aH.length,J 0,bp m.vars,aR m.aH,aA m.bG,aA m.bI,aR m.next,aA m.trans,aA m.bM,b1 m.bH,J 0,J 0]=some (if(cE (lQ m) m.aH.length 0).2=0 then .inl [A,kv,bp m.vars,aR m.aH,aA m.bG,aA m.bI,aR m.next,aA m.trans,aA m.bM,b1 m.bH,J 0,J 0]else .inr (.inr (.inr (.inr (eS (2,cE (lQ m) m.aH.length 0)))))):=by
 have aj:=hm.hU;have bX:=hm.bl.dl;refine oo (f:=ie n) (λi=>[D.ea 114 (aR m.aH),A,kv,J m.aH.length,J (i:Int),bp m.vars,aR m.aH,aA m.bG,aA m.bI,aR m.next,aA m.trans,aA m.bM,b1 m.bH,J 0,J 0]) (lQ m) (m.aH.length) _ (λp=> .inr (.inr (.inr (eS (2,p))))) ?_ ?_ _ 0 n (by omega) (by omega)
 .intro i ah;have ck:=yT ((i:Int)<((m.aH.length:Nat):Int));have hw:=avu hm i ah;change u4 n [_,m.d,J (i:Int)]=some (J (lQ m i))at hw;by_cases an:lQ m i=0
  .have dX:(lQ m i !=0)=false:=by simp[an]
   rw[xad an];simp only[ie,go_sem,ck,ix,NS,aB.eta,hw,dX,b0 (bt:=false) (i:=i) (by omega)]
  have dX:(lQ m i !=0)=true:=by simpa using an
  rw[xac an];simp only[ie,go_sem,ck,ix,NS,aB.eta,hw,dX,Mp,aas,eS]
 simp only[ie,go_sem,yF (((m.aH.length:Nat):Int)<((m.aH.length:Nat):Int))]
theorem avT(A kv:D):bq (ie n) n [D.ea 115 (aR m.aH),A,kv,J m.aH.length,J 0,bp m.vars,aR m.aH,aA m.bG,aA m.bI,aR m.next,aA m.trans,aA m.bM,b1 m.bH,J 0,J 0]=some (if(cE (mg m) m.aH.length 0).2=0 then .inl [A,kv,bp m.vars,aR m.aH,aA m.bG,aA m.bI,aR m.next,aA m.trans,aA m.bM,b1 m.bH,J 0,J 0]else .inr (.inr (.inr (.inr (eS (2,cE (mg m) m.aH.length 0)))))):=by
 have aj:=hm.hU;have bX:=hm.bl.dl;refine oo (f:=ie n) (λi=>[D.ea 115 (aR m.aH),A,kv,J m.aH.length,J (i:Int),bp m.vars,aR m.aH,aA m.bG,aA m.bI,aR m.next,aA m.trans,aA m.bM,b1 m.bH,J 0,J 0]) (mg m) (m.aH.length) _ (λp=> .inr (.inr (.inr (eS (2,p))))) ?_ ?_ _ 0 n (by omega) (by omega)
 .intro i ah;have ck:=yT ((i:Int)<((m.aH.length:Nat):Int));have hw:=avq n m hm.bl.d i ah (by omega);change Cn n [_,m.d,J (i:Int)]=some (J (mg m i))at hw;by_cases an:mg m i=0
  .have dX:(mg m i !=0)=false:=by simp[an]
   rw[xad an];simp only[ie,go_sem,ck,ix,NT,NU,aB.eta,hw,dX,b0 (bt:=false) (i:=i) (by omega)]
  have dX:(mg m i !=0)=true:=by simpa using an
  rw[xac an];simp only[ie,go_sem,ck,ix,NT,NU,aB.eta,hw,dX,Mo,aar,eS]
 simp only[ie,go_sem,yF (((m.aH.length:Nat):Int)<((m.aH.length:Nat):Int))]
theorem avU(A kv:D):bq (ie n) n [D.ea 116 (aR m.aH),A,kv,J m.aH.length,J 0,bp m.vars,aR m.aH,aA m.bG,aA m.bI,aR m.next,aA m.trans,aA m.bM,b1 m.bH,J 0,J 0]=some (if(cE (lR m) m.aH.length 0).2=0 then .inl [A,kv,bp m.vars,aR m.aH,aA m.bG,aA m.bI,aR m.next,aA m.trans,aA m.bM,b1 m.bH,J 0,J 0]else .inr (.inr (.inr (.inr (eS (2,cE (lR m) m.aH.length 0)))))):=by
 have aj:=hm.hU;have bX:=hm.bl.dl;refine oo (f:=ie n) (λi=>[D.ea 116 (aR m.aH),A,kv,J m.aH.length,J (i:Int),bp m.vars,aR m.aH,aA m.bG,aA m.bI,aR m.next,aA m.trans,aA m.bM,b1 m.bH,J 0,J 0]) (lR m) (m.aH.length) _ (λp=> .inr (.inr (.inr (eS (2,p))))) ?_ ?_ _ 0 n (by omega) (by omega)
 .intro i ah;have ck:=yT ((i:Int)<((m.aH.length:Nat):Int));have hw:=avv hm i ah;change Cm n [_,m.d,J (i:Int)]=some (J (lR m i))at hw;by_cases an:lR m i=0
  .have dX:(lR m i !=0)=false:=by simp[an]
   rw[xad an];simp only[ie,go_sem,ck,ix,NV,NW,NX,aB.eta,hw,dX,b0 (bt:=false) (i:=i) (by omega)]
  have dX:(lR m i !=0)=true:=by simpa using an
  rw[xac an];simp only[ie,go_sem,ck,ix,NV,NW,NX,aB.eta,hw,dX,Mn,aaq,eS]
 simp only[ie,go_sem,yF (((m.aH.length:Nat):Int)<((m.aH.length:Nat):Int))]
theorem N9(l:List Tm)(aq:l.length<=100/\∀t∈l,t.cc/\t.bl<=12300)(k:Int)(nx:Bool)(A kv:D):bq (ie n) n [D.ea 118 (D.agg [J k,aA l,ax nx]),A,kv,J l.length,J 0,bp m.vars,aR m.aH,aA m.bG,aA m.bI,aR m.next,aA m.trans,aA m.bM,b1 m.bH,J 0,J 0]=some (if(cE (e7 m l nx) l.length 0).2=0 then .inl [A,kv,bp m.vars,aR m.aH,aA m.bG,aA m.bI,aR m.next,aA m.trans,aA m.bM,b1 m.bH,J 0,J 0]else .inr (.inr (.inr (.inr (eS (k,cE (e7 m l nx) l.length 0)))))):=by
 have aj:=hm.hU;have bX:=aq.1;have avV:ad (D.agg [J k,aA l,ax nx]) 0=J k:=rfl;have Ax:a6 3 (D.agg [J k,aA l,ax nx])=true:=rfl;refine oo (f:=ie n) (λi=>[D.ea 118 (D.agg [J k,aA l,ax nx]),A,kv,J l.length,J (i:Int),bp m.vars,aR m.aH,aA m.bG,aA m.bI,aR m.next,aA m.trans,aA m.bM,b1 m.bH,J 0,J 0]) (e7 m l nx) (l.length) _ (λp=> .inr (.inr (.inr (eS (k,p))))) ?_ ?_ _ 0 n (by omega) (by omega)
 .intro i ah;have ck:=yT ((i:Int)<((l.length:Nat):Int));have hw:=avw hm l aq.2 k nx i ah;change Cl n [_,m.d,J (i:Int)]=some (J (e7 m l nx i))at hw;by_cases an:e7 m l nx i=0
  .have dX:(e7 m l nx i !=0)=false:=by simp[an]
   rw[xad an];simp only[ie,go_sem,ck,ix,tP,tQ,tR,tS,aB.eta,hw,dX,b0 (bt:=false) (i:=i) (by omega)]
  have dX:(e7 m l nx i !=0)=true:=by simpa using an
  rw[xac an];simp only[ie,go_sem,ck,ix,tP,tQ,tR,tS,aB.eta,hw,dX,Mm,aap,avV,Ax,eS]
 simp only[ie,go_sem,yF (((l.length:Nat):Int)<((l.length:Nat):Int))]
theorem avW(A kv:D):bq (ie n) n [D.ea 119 (aR m.next),A,kv,J m.next.length,J 0,bp m.vars,aR m.aH,aA m.bG,aA m.bI,aR m.next,aA m.trans,aA m.bM,b1 m.bH,J 0,J 0]=some (if(cE (iR m) m.next.length 0).2=0 then .inl [A,kv,bp m.vars,aR m.aH,aA m.bG,aA m.bI,aR m.next,aA m.trans,aA m.bM,b1 m.bH,J 0,J 0]else .inr (.inr (.inr (.inr (eS (5,cE (iR m) m.next.length 0)))))):=by
 have aj:=hm.hU;have bX:=hm.next.1
 refine oo (f:=ie n) (λi=>[D.ea 119 (aR m.next),A,kv,J m.next.length,J (i:Int),bp m.vars,aR m.aH,aA m.bG,aA m.bI,aR m.next,aA m.trans,aA m.bM,b1 m.bH,J 0,J 0]) (iR m) (m.next.length) _ (λp=> .inr (.inr (.inr (eS (5,p))))) ?_ ?_ _ 0 n (by omega) (by omega)
 .intro i ah;have ck:=yT ((i:Int)<((m.next.length:Nat):Int));have hw:=avx hm i ah;change w6 n [_,m.d,J (i:Int)]=some (J (iR m i))at hw;by_cases an:iR m i=0
  .have dX:(iR m i !=0)=false:=by simp[an]
   rw[xad an];simp only[ie,go_sem,ck,ix,NY,NZ,N0,N1,N2,aB.eta,hw,dX,b0 (bt:=false) (i:=i) (by omega)]
  have dX:(iR m i !=0)=true:=by simpa using an
  rw[xac an];simp only[ie,go_sem,ck,ix,NY,NZ,N0,N1,N2,aB.eta,hw,dX,Ml,aao,eS]
 simp only[ie,go_sem,yF (((m.next.length:Nat):Int)<((m.next.length:Nat):Int))]
theorem avX(A kv:D):bq (ie n) n [D.ea 120 (b1 m.bH),A,kv,J m.bH.length,J 0,bp m.vars,aR m.aH,aA m.bG,aA m.bI,aR m.next,aA m.trans,aA m.bM,b1 m.bH,J 0,J 0]=some (if(cE (jV m) m.bH.length 0).2=0 then .inl [A,kv,bp m.vars,aR m.aH,aA m.bG,aA m.bI,aR m.next,aA m.trans,aA m.bM,b1 m.bH,J 0,J 0]else .inr (.inr (.inr (.inr (eS (8,cE (jV m) m.bH.length 0)))))):=by
 have aj:=hm.hU;have bX:=hm.bH.1;refine oo (f:=ie n) (λi=>[D.ea 120 (b1 m.bH),A,kv,J m.bH.length,J (i:Int),bp m.vars,aR m.aH,aA m.bG,aA m.bI,aR m.next,aA m.trans,aA m.bM,b1 m.bH,J 0,J 0]) (jV m) (m.bH.length) _ (λp=> .inr (.inr (.inr (eS (8,p))))) ?_ ?_ _ 0 n (by omega) (by omega)
 .intro i ah;have ck:=yT ((i:Int)<((m.bH.length:Nat):Int));have hw:=avy hm i ah;change vt n [_,m.d,J (i:Int)]=some (J (jV m i))at hw;by_cases an:jV m i=0
  .have dX:(jV m i !=0)=false:=by simp[an]
   rw[xad an];simp only[ie,go_sem,ck,ix,N3,N4,N5,N6,N7,N8,aB.eta,hw,dX,b0 (bt:=false) (i:=i) (by omega)]
  have dX:(jV m i !=0)=true:=by simpa using an
  rw[xac an];simp only[ie,go_sem,ck,ix,N3,N4,N5,N6,N7,N8,aB.eta,hw,dX,Mk,aan,eS]
 simp only[ie,go_sem,yF (((m.bH.length:Nat):Int)<((m.bH.length:Nat):Int))]
theorem avY:h5 n [gQ m,J 0,bp m.vars,aR m.aH,aA m.bG,aA m.bI,aR m.next,aA m.trans,aA m.bM,b1 m.bH,J 0,J 0]=some (if(cE (lQ m) m.aH.length 0).2=0 then .inl [gQ m,J 1,bp m.vars,aR m.aH,aA m.bG,aA m.bI,aR m.next,aA m.trans,aA m.bM,b1 m.bH,J 0,J 0]else .inr (.inr (eS (2,cE (lQ m) m.aH.length 0)))):=by
 have fJ:=avS hm (gQ m) (J 0);have ck:decide ((0:Int)<9)=true:=rfl;have ga:cj 9 (J 0)=some 0:=rfl;have ba:l0 false 1 (0*1) (gQ m)=some (D.ea 114 (aR m.aH)):=rfl;have jx:Gk n [aR m.aH]=some (J m.aH.length):=by simp only[Gk,Z4,go_sem,ef]
 have ha:ai false .add (J 0) (J 1)=some (J 1):=gx (by decide) (by decide);by_cases an:(cE (lQ m) m.aH.length 0).2=0;.rw[xad an]at fJ⊢;simp only[h5,go_sem,ck,ga,ba,ix,NS,jx,fJ,ha]
 rw[xac an]at fJ⊢;simp only[h5,go_sem,ck,ga,ba,ix,NS,jx,fJ]
theorem avZ:h5 n [gQ m,J 1,bp m.vars,aR m.aH,aA m.bG,aA m.bI,aR m.next,aA m.trans,aA m.bM,b1 m.bH,J 0,J 0]=some (if(cE (mg m) m.aH.length 0).2=0 then .inl [gQ m,J 2,bp m.vars,aR m.aH,aA m.bG,aA m.bI,aR m.next,aA m.trans,aA m.bM,b1 m.bH,J 0,J 0]else .inr (.inr (eS (2,cE (mg m) m.aH.length 0)))):=by
 have fJ:=avT hm (gQ m) (J 1);have ck:decide ((1:Int)<9)=true:=rfl;have ga:cj 9 (J 1)=some 1:=rfl;have ba:l0 false 1 (1*1) (gQ m)=some (D.ea 115 (aR m.aH)):=rfl;have jx:Gj n [aR m.aH]=some (J m.aH.length):=by simp only[Gj,Z3,go_sem,ef]
 have ha:ai false .add (J 1) (J 1)=some (J 2):=gx (by decide) (by decide);by_cases an:(cE (mg m) m.aH.length 0).2=0;.rw[xad an]at fJ⊢;simp only[h5,go_sem,ck,ga,ba,ix,NT,NU,jx,fJ,ha]
 rw[xac an]at fJ⊢;simp only[h5,go_sem,ck,ga,ba,ix,NT,NU,jx,fJ]
theorem av0:h5 n [gQ m,J 2,bp m.vars,aR m.aH,aA m.bG,aA m.bI,aR m.next,aA m.trans,aA m.bM,b1 m.bH,J 0,J 0]=some (if(cE (lR m) m.aH.length 0).2=0 then .inl [gQ m,J 3,bp m.vars,aR m.aH,aA m.bG,aA m.bI,aR m.next,aA m.trans,aA m.bM,b1 m.bH,J 0,J 0]else .inr (.inr (eS (2,cE (lR m) m.aH.length 0)))):=by
 have fJ:=avU hm (gQ m) (J 2);have ck:decide ((2:Int)<9)=true:=rfl;have ga:cj 9 (J 2)=some 2:=rfl;have ba:l0 false 1 (2*1) (gQ m)=some (D.ea 116 (aR m.aH)):=rfl;have jx:Gi n [aR m.aH]=some (J m.aH.length):=by simp only[Gi,Z2,go_sem,ef]
 have ha:ai false .add (J 2) (J 1)=some (J 3):=gx (by decide) (by decide);by_cases an:(cE (lR m) m.aH.length 0).2=0;.rw[xad an]at fJ⊢;simp only[h5,go_sem,ck,ga,ba,ix,NV,NW,NX,jx,fJ,ha]
 rw[xac an]at fJ⊢;simp only[h5,go_sem,ck,ga,ba,ix,NV,NW,NX,jx,fJ]
theorem av1:h5 n [gQ m,J 3,bp m.vars,aR m.aH,aA m.bG,aA m.bI,aR m.next,aA m.trans,aA m.bM,b1 m.bH,J 0,J 0]=some (if(cE (e7 m m.bG false) m.bG.length 0).2=0 then .inl [gQ m,J 4,bp m.vars,aR m.aH,aA m.bG,aA m.bI,aR m.next,aA m.trans,aA m.bM,b1 m.bH,J 0,J 0]else .inr (.inr (eS (3,cE (e7 m m.bG false) m.bG.length 0)))):=by
 have fJ:=N9 hm m.bG hm.bG 3 false (gQ m) (J 3);have ck:decide ((3:Int)<9)=true:=rfl;have ga:cj 9 (J 3)=some 3:=rfl;have ba:l0 false 1 (3*1) (gQ m)=some (D.ea 118 (D.agg [J 3,aA m.bG,ax false])):=rfl;have jx:rM n [D.agg [J 3,aA m.bG,ax false]]=some (J m.bG.length):=by have aw:a6 3 (D.agg [J 3,aA m.bG,ax false])=true:=rfl;have a4:ad (D.agg [J 3,aA m.bG,ax false]) 1=aA m.bG:=rfl;simp only[rM,Gh,go_sem,aw,a4,hT]
 have ha:ai false .add (J 3) (J 1)=some (J 4):=gx (by decide) (by decide);by_cases an:(cE (e7 m m.bG false) m.bG.length 0).2=0;.rw[xad an]at fJ⊢;simp only[h5,go_sem,ck,ga,ba,ix,tP,tQ,tR,tS,jx,fJ,ha]
 rw[xac an]at fJ⊢;simp only[h5,go_sem,ck,ga,ba,ix,tP,tQ,tR,tS,jx,fJ]
theorem av2:h5 n [gQ m,J 4,bp m.vars,aR m.aH,aA m.bG,aA m.bI,aR m.next,aA m.trans,aA m.bM,b1 m.bH,J 0,J 0]=some (if(cE (e7 m m.bI false) m.bI.length 0).2=0 then .inl [gQ m,J 5,bp m.vars,aR m.aH,aA m.bG,aA m.bI,aR m.next,aA m.trans,aA m.bM,b1 m.bH,J 0,J 0]else .inr (.inr (eS (4,cE (e7 m m.bI false) m.bI.length 0)))):=by
 have fJ:=N9 hm m.bI hm.bI 4 false (gQ m) (J 4);have ck:decide ((4:Int)<9)=true:=rfl;have ga:cj 9 (J 4)=some 4:=rfl;have ba:l0 false 1 (4*1) (gQ m)=some (D.ea 118 (D.agg [J 4,aA m.bI,ax false])):=rfl;have jx:rM n [D.agg [J 4,aA m.bI,ax false]]=some (J m.bI.length):=by have aw:a6 3 (D.agg [J 4,aA m.bI,ax false])=true:=rfl;have a4:ad (D.agg [J 4,aA m.bI,ax false]) 1=aA m.bI:=rfl;simp only[rM,Gh,go_sem,aw,a4,hT]
 have ha:ai false .add (J 4) (J 1)=some (J 5):=gx (by decide) (by decide);by_cases an:(cE (e7 m m.bI false) m.bI.length 0).2=0;.rw[xad an]at fJ⊢;simp only[h5,go_sem,ck,ga,ba,ix,tP,tQ,tR,tS,jx,fJ,ha]
 rw[xac an]at fJ⊢;simp only[h5,go_sem,ck,ga,ba,ix,tP,tQ,tR,tS,jx,fJ]
theorem av3:h5 n [gQ m,J 5,bp m.vars,aR m.aH,aA m.bG,aA m.bI,aR m.next,aA m.trans,aA m.bM,b1 m.bH,J 0,J 0]=some (if(cE (iR m) m.next.length 0).2=0 then .inl [gQ m,J 6,bp m.vars,aR m.aH,aA m.bG,aA m.bI,aR m.next,aA m.trans,aA m.bM,b1 m.bH,J 0,J 0]else .inr (.inr (eS (5,cE (iR m) m.next.length 0)))):=by
 have fJ:=avW hm (gQ m) (J 5);have ck:decide ((5:Int)<9)=true:=rfl;have ga:cj 9 (J 5)=some 5:=rfl;have ba:l0 false 1 (5*1) (gQ m)=some (D.ea 119 (aR m.next)):=rfl;have jx:Gg n [aR m.next]=some (J m.next.length):=by simp only[Gg,Z1,go_sem,ef]
 have ha:ai false .add (J 5) (J 1)=some (J 6):=gx (by decide) (by decide);by_cases an:(cE (iR m) m.next.length 0).2=0;.rw[xad an]at fJ⊢;simp only[h5,go_sem,ck,ga,ba,ix,NY,NZ,N0,N1,N2,jx,fJ,ha]
 rw[xac an]at fJ⊢;simp only[h5,go_sem,ck,ga,ba,ix,NY,NZ,N0,N1,N2,jx,fJ]
theorem av4:h5 n [gQ m,J 6,bp m.vars,aR m.aH,aA m.bG,aA m.bI,aR m.next,aA m.trans,aA m.bM,b1 m.bH,J 0,J 0]=some (if(cE (e7 m m.trans true) m.trans.length 0).2=0 then .inl [gQ m,J 7,bp m.vars,aR m.aH,aA m.bG,aA m.bI,aR m.next,aA m.trans,aA m.bM,b1 m.bH,J 0,J 0]else .inr (.inr (eS (6,cE (e7 m m.trans true) m.trans.length 0)))):=by
 have fJ:=N9 hm m.trans hm.trans 6 true (gQ m) (J 6);have ck:decide ((6:Int)<9)=true:=rfl;have ga:cj 9 (J 6)=some 6:=rfl;have ba:l0 false 1 (6*1) (gQ m)=some (D.ea 118 (D.agg [J 6,aA m.trans,ax true])):=rfl;have jx:rM n [D.agg [J 6,aA m.trans,ax true]]=some (J m.trans.length):=by have aw:a6 3 (D.agg [J 6,aA m.trans,ax true])=true:=rfl;have a4:ad (D.agg [J 6,aA m.trans,ax true]) 1=aA m.trans:=rfl;simp only[rM,Gh,go_sem,aw,a4,hT]
 have ha:ai false .add (J 6) (J 1)=some (J 7):=gx (by decide) (by decide);by_cases an:(cE (e7 m m.trans true) m.trans.length 0).2=0;.rw[xad an]at fJ⊢;simp only[h5,go_sem,ck,ga,ba,ix,tP,tQ,tR,tS,jx,fJ,ha]
 rw[xac an]at fJ⊢;simp only[h5,go_sem,ck,ga,ba,ix,tP,tQ,tR,tS,jx,fJ]
theorem av5:h5 n [gQ m,J 7,bp m.vars,aR m.aH,aA m.bG,aA m.bI,aR m.next,aA m.trans,aA m.bM,b1 m.bH,J 0,J 0]=some (if(cE (e7 m m.bM false) m.bM.length 0).2=0 then .inl [gQ m,J 8,bp m.vars,aR m.aH,aA m.bG,aA m.bI,aR m.next,aA m.trans,aA m.bM,b1 m.bH,J 0,J 0]else .inr (.inr (eS (7,cE (e7 m m.bM false) m.bM.length 0)))):=by
 have fJ:=N9 hm m.bM hm.bM 7 false (gQ m) (J 7);have ck:decide ((7:Int)<9)=true:=rfl;have ga:cj 9 (J 7)=some 7:=rfl;have ba:l0 false 1 (7*1) (gQ m)=some (D.ea 118 (D.agg [J 7,aA m.bM,ax false])):=rfl;have jx:rM n [D.agg [J 7,aA m.bM,ax false]]=some (J m.bM.length):=by have aw:a6 3 (D.agg [J 7,aA m.bM,ax false])=true:=rfl;have a4:ad (D.agg [J 7,aA m.bM,ax false]) 1=aA m.bM:=rfl;simp only[rM,Gh,go_sem,aw,a4,hT]
 have ha:ai false .add (J 7) (J 1)=some (J 8):=gx (by decide) (by decide);by_cases an:(cE (e7 m m.bM false) m.bM.length 0).2=0;.rw[xad an]at fJ⊢;simp only[h5,go_sem,ck,ga,ba,ix,tP,tQ,tR,tS,jx,fJ,ha]
 rw[xac an]at fJ⊢;simp only[h5,go_sem,ck,ga,ba,ix,tP,tQ,tR,tS,jx,fJ]
theorem av6:h5 n [gQ m,J 8,bp m.vars,aR m.aH,aA m.bG,aA m.bI,aR m.next,aA m.trans,aA m.bM,b1 m.bH,J 0,J 0]=some (if(cE (jV m) m.bH.length 0).2=0 then .inl [gQ m,J 9,bp m.vars,aR m.aH,aA m.bG,aA m.bI,aR m.next,aA m.trans,aA m.bM,b1 m.bH,J 0,J 0]else .inr (.inr (eS (8,cE (jV m) m.bH.length 0)))):=by
 have fJ:=avX hm (gQ m) (J 8);have ck:decide ((8:Int)<9)=true:=rfl;have ga:cj 9 (J 8)=some 8:=rfl;have ba:l0 false 1 (8*1) (gQ m)=some (D.ea 120 (b1 m.bH)):=rfl;have jx:Gf n [b1 m.bH]=some (J m.bH.length):=by simp only[Gf,Z0,go_sem,iF]
 have ha:ai false .add (J 8) (J 1)=some (J 9):=gx (by decide) (by decide);by_cases an:(cE (jV m) m.bH.length 0).2=0;.rw[xad an]at fJ⊢;simp only[h5,go_sem,ck,ga,ba,ix,N3,N4,N5,N6,N7,N8,jx,fJ,ha]
 rw[xac an]at fJ⊢;simp only[h5,go_sem,ck,ga,ba,ix,N3,N4,N5,N6,N7,N8,jx,fJ]
theorem av7:bq (h5 n) n [gQ m,J 0,bp m.vars,aR m.aH,aA m.bG,aA m.bI,aR m.next,aA m.trans,aA m.bM,b1 m.bH,J 0,J 0]=some (if(ij (se m)).2.2=0 then .inl [J 0,J 0]else .inr (eS (ij (se m)))):=by
 have aj:=hm.hU;refine aeC (f:=h5 n) (se m) (λi=>[gQ m,J (i:Int),bp m.vars,aR m.aH,aA m.bG,aA m.bI,aR m.next,aA m.trans,aA m.bM,b1 m.bH,J 0,J 0]) [J 0,J 0] eS ?_ ?_ n (by show 9<n;omega)
 .intro i a aE
  match i,aE with
  |0,aE=>cases aE;exact avY hm
  |1,aE=>cases aE;exact avZ hm
  |2,aE=>cases aE;exact av0 hm
  |3,aE=>cases aE;exact av1 hm
  |4,aE=>cases aE;exact av2 hm
  |5,aE=>cases aE;exact av3 hm
  |6,aE=>cases aE;exact av4 hm
  |7,aE=>cases aE;exact av5 hm
  |8,aE=>cases aE;exact av6 hm
  |j+9,aE=>cases aE
 show h5 n [gQ m,J 9,bp m.vars,aR m.aH,aA m.bG,aA m.bI,aR m.next,aA m.trans,aA m.bM,b1 m.bH,J 0,J 0]=_;simp only[h5,go_sem,show decide ((9:Int)<9)=false from rfl]
theorem aeG:r3 n [m.d]=some (eS (kR m)):=by
 have aj:=hm.hU;have af:=avQ hm;have p6:=av7 hm;have hO:=auQ n m.vars hm.DZ (by have:=hm.bl.nG;omega) hm.UY;have gL:=avL n m hm.DZ hm.bl.nG (by omega);have jH:D.agg [J (m.vars.length:Int),J (m.aH.length:Int),J (m.bG.length:Int),J (m.bI.length:Int),J (m.next.length:Int),J (m.trans.length:Int),J (m.bM.length:Int),J (m.bH.length:Int)]=Jf m:=rfl;have Oa:D.agg [.ea 114 (aR m.aH),.ea 115 (aR m.aH),.ea 116 (aR m.aH),.ea 118 (.agg [J 3,aA m.bG,ax false]),.ea 118 (.agg [J 4,aA m.bI,ax false]),.ea 119 (aR m.next),.ea 118 (.agg [J 6,aA m.trans,ax true]),.ea 118 (.agg [J 7,aA m.bM,ax false]),.ea 120 (b1 m.bH)]=gQ m:=rfl;have Ob:∀l,bJ (aA l)=true:=λ_=>rfl;have fw:∀t x,bJ (D.ea t x)=true:=λ_ _=>rfl;unfold kR;by_cases bU:(cE (mJ m) 8 0).2=0
 case neg=>rw[xac bU]at af⊢;simp only[r3,Dx,go_sem,aB.agg,aB.a7,aB.bU,aB.bY,aB.cv,aB.dm,aB.eu,aB.ew,aB.fD,aB.eta,fO,ef,hT,iF,jH,af]
 rw[xad bU]at af⊢;by_cases bY:(jO m.vars).2=0
 case neg=>
  have sf:((jO m.vars).2 !=0)=true:=by simpa using bY
  rw[xac bY];simp only[r3,Dx,go_sem,aB.agg,aB.a7,aB.bU,aB.bY,aB.cv,aB.dm,aB.eu,aB.ew,aB.fD,aB.eta,fO,ef,hT,iF,jH,af,hO,sf,eS]
 have sf:((jO m.vars).2 !=0)=false:=by simp[bY]
 rw[xad bY];by_cases cv:30<ku m.vars;.have r9:=yT (((ku m.vars:Nat):Int)>30);rw[xad cv];simp only[r3,Dx,go_sem,aB.agg,aB.a7,aB.bU,aB.bY,aB.cv,aB.dm,aB.eu,aB.ew,aB.fD,aB.eta,fO,ef,hT,iF,jH,af,hO,sf,gL,r9,eS]
 have r9:=yF (((ku m.vars:Nat):Int)>30);rw[xac cv];by_cases dm:(ij (se m)).2.2=0;.rw[xad dm]at p6;rw[aeF _ dm];simp only[r3,Dx,go_sem,aB.agg,aB.a7,aB.bU,aB.bY,aB.cv,aB.dm,aB.eu,aB.ew,aB.fD,aB.eta,fO,ef,hT,iF,jH,af,hO,sf,gL,r9,Ob,fw,Oa,p6,eS]
 rw[xac dm]at p6;simp only[r3,Dx,go_sem,aB.agg,aB.a7,aB.bU,aB.bY,aB.cv,aB.dm,aB.eu,aB.ew,aB.fD,aB.eta,fO,ef,hT,iF,jH,af,hO,sf,gL,r9,Ob,fw,Oa,p6]
theorem av8(h:(sd m).2=0):sd m=(0,0):=by unfold sd at h⊢;obtain⟨ab,af⟩:=aeD.1 h;obtain⟨aw,a4⟩:=aeD.1 af;rw[vH,xad ab,vH,xad aw,sc _ _ _ a4]
theorem av9:jr n [J 0,J 0,J 2,bp m.vars,aR m.aH,aA m.bG,aA m.bI,aR m.next,aA m.trans,aA m.bM,b1 m.bH,J 0,J 0]=some (if(sd m).2=0 then .inl [J 0,J 0,J 3,bp m.vars,aR m.aH,aA m.bG,aA m.bI,aR m.next,aA m.trans,aA m.bM,b1 m.bH,J 0,J 0]else .inr (.inr (eS (2,sd m)))):=by
 have e5:=avF hm;have ck:decide ((2:Int)<=8)=true:=rfl;have bA:((2:Int)==2)=true:=rfl;have ha:ai false .add (J 2) (J 1)=some (J 3):=gx (by decide) (by decide);by_cases an:(sd m).2=0
 .have bn:=av8 hm an;rw[bn]at e5⊢;have hF:((0:Int) !=0)=false:=rfl;simp only[jr,go_sem,ck,bA,aB.eta,e5,gg,hF,ha]
 rw[xac an];generalize sd m=p at*;have dX:(p.2 !=0)=true:=by simpa using an
 simp only[jr,go_sem,ck,bA,aB.eta,e5,gg,dX,eS]
theorem awa:jr n [J 0,J 0,J 3,bp m.vars,aR m.aH,aA m.bG,aA m.bI,aR m.next,aA m.trans,aA m.bM,b1 m.bH,J 0,J 0]=some (if(cE (e7 m m.bG false) m.bG.length 0).2=0 then .inl [J 0,J 0,J 4,bp m.vars,aR m.aH,aA m.bG,aA m.bI,aR m.next,aA m.trans,aA m.bM,b1 m.bH,J 0,J 0]else .inr (.inr (eS (3,cE (e7 m m.bG false) m.bG.length 0)))):=by
 have e5:=NR hm m.bG hm.bG false;have ck:decide ((3:Int)<=8)=true:=rfl;have bA:((3:Int)==2)=false:=rfl;have cx:((3:Int)==3)=true:=rfl;have ha:ai false .add (J 3) (J 1)=some (J 4):=gx (by decide) (by decide);by_cases an:(cE (e7 m m.bG false) m.bG.length 0).2=0
 .have bn:=sc _ _ _ an;rw[bn]at e5⊢;have hF:((0:Int) !=0)=false:=rfl;simp only[jr,go_sem,ck,bA,cx,aB.eta,e5,gg,hF,ha]
 rw[xac an];generalize cE (e7 m m.bG false) m.bG.length 0=p at*;have dX:(p.2 !=0)=true:=by simpa using an
 simp only[jr,go_sem,ck,bA,cx,aB.eta,e5,gg,dX,eS]
theorem awb:jr n [J 0,J 0,J 4,bp m.vars,aR m.aH,aA m.bG,aA m.bI,aR m.next,aA m.trans,aA m.bM,b1 m.bH,J 0,J 0]=some (if(cE (e7 m m.bI false) m.bI.length 0).2=0 then .inl [J 0,J 0,J 5,bp m.vars,aR m.aH,aA m.bG,aA m.bI,aR m.next,aA m.trans,aA m.bM,b1 m.bH,J 0,J 0]else .inr (.inr (eS (4,cE (e7 m m.bI false) m.bI.length 0)))):=by
 have e5:=NR hm m.bI hm.bI false;have ck:decide ((4:Int)<=8)=true:=rfl;have bA:((4:Int)==2)=false:=rfl;have cx:((4:Int)==3)=false:=rfl;have eo:((4:Int)==4)=true:=rfl;have ha:ai false .add (J 4) (J 1)=some (J 5):=gx (by decide) (by decide);by_cases an:(cE (e7 m m.bI false) m.bI.length 0).2=0
 .have bn:=sc _ _ _ an;rw[bn]at e5⊢;have hF:((0:Int) !=0)=false:=rfl;simp only[jr,go_sem,ck,bA,cx,eo,aB.eta,e5,gg,hF,ha]
 rw[xac an];generalize cE (e7 m m.bI false) m.bI.length 0=p at*;have dX:(p.2 !=0)=true:=by simpa using an
 simp only[jr,go_sem,ck,bA,cx,eo,aB.eta,e5,gg,dX,eS]
theorem awc:jr n [J 0,J 0,J 5,bp m.vars,aR m.aH,aA m.bG,aA m.bI,aR m.next,aA m.trans,aA m.bM,b1 m.bH,J 0,J 0]=some (if(cE (iR m) m.next.length 0).2=0 then .inl [J 0,J 0,J 6,bp m.vars,aR m.aH,aA m.bG,aA m.bI,aR m.next,aA m.trans,aA m.bM,b1 m.bH,J 0,J 0]else .inr (.inr (eS (5,cE (iR m) m.next.length 0)))):=by
 have e5:=avI hm;have ck:decide ((5:Int)<=8)=true:=rfl;have bA:((5:Int)==2)=false:=rfl;have cx:((5:Int)==3)=false:=rfl;have eo:((5:Int)==4)=false:=rfl;have fi:((5:Int)==5)=true:=rfl;have ha:ai false .add (J 5) (J 1)=some (J 6):=gx (by decide) (by decide);by_cases an:(cE (iR m) m.next.length 0).2=0
 .have bn:=sc _ _ _ an;rw[bn]at e5⊢;have hF:((0:Int) !=0)=false:=rfl;simp only[jr,go_sem,ck,bA,cx,eo,fi,aB.eta,e5,gg,hF,ha]
 rw[xac an];generalize cE (iR m) m.next.length 0=p at*
 have dX:(p.2 !=0)=true:=by simpa using an
 simp only[jr,go_sem,ck,bA,cx,eo,fi,aB.eta,e5,gg,dX,eS]
theorem awd:jr n [J 0,J 0,J 6,bp m.vars,aR m.aH,aA m.bG,aA m.bI,aR m.next,aA m.trans,aA m.bM,b1 m.bH,J 0,J 0]=some (if(cE (e7 m m.trans true) m.trans.length 0).2=0 then .inl [J 0,J 0,J 7,bp m.vars,aR m.aH,aA m.bG,aA m.bI,aR m.next,aA m.trans,aA m.bM,b1 m.bH,J 0,J 0]else .inr (.inr (eS (6,cE (e7 m m.trans true) m.trans.length 0)))):=by
 have e5:=NR hm m.trans hm.trans true;have ck:decide ((6:Int)<=8)=true:=rfl;have bA:((6:Int)==2)=false:=rfl;have cx:((6:Int)==3)=false:=rfl;have eo:((6:Int)==4)=false:=rfl;have fi:((6:Int)==5)=false:=rfl;have hh:((6:Int)==6)=true:=rfl;have ha:ai false .add (J 6) (J 1)=some (J 7):=gx (by decide) (by decide);by_cases an:(cE (e7 m m.trans true) m.trans.length 0).2=0
 .have bn:=sc _ _ _ an;rw[bn]at e5⊢;have hF:((0:Int) !=0)=false:=rfl;simp only[jr,go_sem,ck,bA,cx,eo,fi,hh,aB.eta,e5,gg,hF,ha]
 rw[xac an];generalize cE (e7 m m.trans true) m.trans.length 0=p at*;have dX:(p.2 !=0)=true:=by simpa using an
 simp only[jr,go_sem,ck,bA,cx,eo,fi,hh,aB.eta,e5,gg,dX,eS]
theorem awe:jr n [J 0,J 0,J 7,bp m.vars,aR m.aH,aA m.bG,aA m.bI,aR m.next,aA m.trans,aA m.bM,b1 m.bH,J 0,J 0]=some (if(cE (e7 m m.bM false) m.bM.length 0).2=0 then .inl [J 0,J 0,J 8,bp m.vars,aR m.aH,aA m.bG,aA m.bI,aR m.next,aA m.trans,aA m.bM,b1 m.bH,J 0,J 0]else .inr (.inr (eS (7,cE (e7 m m.bM false) m.bM.length 0)))):=by
 have e5:=NR hm m.bM hm.bM false;have ck:decide ((7:Int)<=8)=true:=rfl;have bA:((7:Int)==2)=false:=rfl;have cx:((7:Int)==3)=false:=rfl;have eo:((7:Int)==4)=false:=rfl;have fi:((7:Int)==5)=false:=rfl;have hh:((7:Int)==6)=false:=rfl;have sg:((7:Int)==7)=true:=rfl;have ha:ai false .add (J 7) (J 1)=some (J 8):=gx (by decide) (by decide);by_cases an:(cE (e7 m m.bM false) m.bM.length 0).2=0
 .have bn:=sc _ _ _ an;rw[bn]at e5⊢;have hF:((0:Int) !=0)=false:=rfl;simp only[jr,go_sem,ck,bA,cx,eo,fi,hh,sg,aB.eta,e5,gg,hF,ha]
 rw[xac an];generalize cE (e7 m m.bM false) m.bM.length 0=p at*;have dX:(p.2 !=0)=true:=by simpa using an
 simp only[jr,go_sem,ck,bA,cx,eo,fi,hh,sg,aB.eta,e5,gg,dX,eS]
theorem awf:jr n [J 0,J 0,J 8,bp m.vars,aR m.aH,aA m.bG,aA m.bI,aR m.next,aA m.trans,aA m.bM,b1 m.bH,J 0,J 0]=some (if(cE (jV m) m.bH.length 0).2=0 then .inl [J 0,J 0,J 9,bp m.vars,aR m.aH,aA m.bG,aA m.bI,aR m.next,aA m.trans,aA m.bM,b1 m.bH,J 0,J 0]else .inr (.inr (eS (8,cE (jV m) m.bH.length 0)))):=by
 have e5:=avJ hm;have ck:decide ((8:Int)<=8)=true:=rfl;have bA:((8:Int)==2)=false:=rfl;have cx:((8:Int)==3)=false:=rfl;have eo:((8:Int)==4)=false:=rfl;have fi:((8:Int)==5)=false:=rfl;have hh:((8:Int)==6)=false:=rfl;have sg:((8:Int)==7)=false:=rfl;have Oc:((8:Int)==8)=true:=rfl;have ha:ai false .add (J 8) (J 1)=some (J 9):=gx (by decide) (by decide);by_cases an:(cE (jV m) m.bH.length 0).2=0
 .have bn:=sc _ _ _ an;rw[bn]at e5⊢;have hF:((0:Int) !=0)=false:=rfl;simp only[jr,go_sem,ck,bA,cx,eo,fi,hh,sg,Oc,aB.eta,e5,gg,hF,ha]
 rw[xac an];generalize cE (jV m) m.bH.length 0=p at*;have dX:(p.2 !=0)=true:=by simpa using an
 simp only[jr,go_sem,ck,bA,cx,eo,fi,hh,sg,Oc,aB.eta,e5,gg,dX,eS]
theorem awg:bq (jr n) n [J 0,J 0,J 2,bp m.vars,aR m.aH,aA m.bG,aA m.bI,aR m.next,aA m.trans,aA m.bM,b1 m.bH,J 0,J 0]=some (if(ij (se m)).2.2=0 then .inl [J 0,J 0]else .inr (eS (ij (se m)))):=by
 have aj:=hm.hU;rw[<-avO];refine aeC (f:=jr n) (U2 m) (λi=>[J 0,J 0,J ((i+2:Nat):Int),bp m.vars,aR m.aH,aA m.bG,aA m.bI,aR m.next,aA m.trans,aA m.bM,b1 m.bH,J 0,J 0]) [J 0,J 0] eS ?_ ?_ n (by show 7<n;omega)
 .intro i a aE
  match i,aE with
  |0,aE=>cases aE;exact av9 hm
  |1,aE=>cases aE;exact awa hm
  |2,aE=>cases aE;exact awb hm
  |3,aE=>cases aE;exact awc hm
  |4,aE=>cases aE;exact awd hm
  |5,aE=>cases aE;exact awe hm
  |6,aE=>cases aE;exact awf hm
  |j+7,aE=>cases aE
 show jr n [J 0,J 0,J 9,bp m.vars,aR m.aH,aA m.bG,aA m.bI,aR m.next,aA m.trans,aA m.bM,b1 m.bH,J 0,J 0]=_;simp only[jr,go_sem,show decide ((9:Int)<=8)=false from rfl]
theorem aeH:qH n [m.d]=some (eS (kR m)):=by
 have aj:=hm.hU;have af:=avR hm;have p6:=awg hm;have hO:=auY n m.vars hm.DZ (by have:=hm.bl.nG;omega) hm.UY;have gL:=avM n m hm.DZ hm.bl.nG (by omega);have jH:D.az 1 [[J (m.vars.length:Int)],[J (m.aH.length:Int)],[J (m.bG.length:Int)],[J (m.bI.length:Int)],[J (m.next.length:Int)],[J (m.trans.length:Int)],[J (m.bM.length:Int)],[J (m.bH.length:Int)]]=D.az 1 ((nI m).map λ(k:Nat)=>[J (k:Int)]):=rfl;unfold kR;by_cases bU:(cE (mJ m) 8 0).2=0
 case neg=>rw[xac bU]at af⊢;simp only[qH,Dc,go_sem,aB.agg,aB.a7,aB.bU,aB.bY,aB.cv,aB.dm,aB.eu,aB.ew,aB.fD,aB.eta,fO,ef,hT,iF,jH,af]
 rw[xad bU]at af⊢;by_cases bY:(jO m.vars).2=0
 case neg=>
  have sf:((jO m.vars).2 !=0)=true:=by simpa using bY
  rw[xac bY];simp only[qH,Dc,go_sem,aB.agg,aB.a7,aB.bU,aB.bY,aB.cv,aB.dm,aB.eu,aB.ew,aB.fD,aB.eta,fO,ef,hT,iF,jH,af,hO,sf,eS]
 rw[avP bY]at hO;have sf:((0:Int) !=0)=false:=rfl;rw[xad bY];by_cases cv:30<ku m.vars
 .have r9:=yT (((ku m.vars:Nat):Int)>30);rw[xad cv];simp only[qH,Dc,go_sem,aB.agg,aB.a7,aB.bU,aB.bY,aB.cv,aB.dm,aB.eu,aB.ew,aB.fD,aB.eta,fO,ef,hT,iF,jH,af,hO,sf,gL,r9,eS]
 have r9:=yF (((ku m.vars:Nat):Int)>30);rw[xac cv];by_cases dm:(ij (se m)).2.2=0;.rw[xad dm]at p6;rw[aeF _ dm];simp only[qH,Dc,go_sem,aB.agg,aB.a7,aB.bU,aB.bY,aB.cv,aB.dm,aB.eu,aB.ew,aB.fD,aB.eta,fO,ef,hT,iF,jH,af,hO,sf,gL,r9,p6,eS]
 rw[xac dm]at p6;simp only[qH,Dc,go_sem,aB.agg,aB.a7,aB.bU,aB.bY,aB.cv,aB.dm,aB.eu,aB.ew,aB.fD,aB.eta,fO,ef,hT,iF,jH,af,hO,sf,gL,r9,p6]
end
def Ay(n:Nat):fc:= .slice 4 56 (pN n)
def Jg(n:Nat):fc:= .slice 7 104 (.struct [.str,rE n])
def Az(n:Nat):fc:= .struct [LI,wW n,Ay n,Ay n,wW n,Ay n,Ay n,Jg n]
def awh(n:Nat):∀m,m<=n->(Ay n).fA m=true
 |0,_=>rfl|m+1,h=>by have:=BY n m (by omega);simp only[Ay,fc.fA,this]
def awi(n:Nat):∀m,m<=n->(Jg n).fA m=true
 |0,_=>rfl|1,_=>by simp[Jg,fc.fA]|m+2,h=>by have ab:=RW n m (by omega);have af:fc.fA m .str=true:=wT m .str rfl;simp only[Jg,fc.fA,qx,ab,af,xbu]
def awj(n:Nat):∀m,m<=n->(Az n).fA m=true
 |0,_=>rfl|m+1,h=>by have ar:fc.fA m LI=true:=wT m LI rfl;simp only[Az,fc.fA,qx,ar,ZN n m (by omega),awh n m (by omega),awi n m (by omega),xbu]
theorem awk{P:Program}{t tv td tt ts tm tf:TypeId}(h:∀a b c d e f g i,eD P (.struct [a,b,c,d,e,f,g,i]) t=(eD P a tv&&(eD P b td&&(eD P c tt&&(eD P d tt&&(eD P e td&&(eD P f tt&&(eD P g tt&&(eD P i ts&&true))))))))) (a3:eD P LI tv=true) (ay:s5 P wW td) (aL:∀y,eD P (.slice 4 56 y) tt=eD P y tm) (hm:s5 P pN tm) (aG:∀y,eD P (.slice 7 104 (.struct [.str,y])) ts=(eD P y tf&&true)) (ba:s5 P rE tf) (aq:decide (t<P.types.size)=true):s5 P Az t:=⟨λn=>awj n n (xan _),λn=>by rw[Az,h,a3,ay.ok n,Ay,aL,hm.ok n,Jg,aG,ba.ok n];rfl,xba aq,λn=>rfl⟩
structure vI(m:aB):Prop where
 v:∀x∈m.vars,V.ok x
 d:∀x∈m.aH,x.cc
 i:∀x∈m.bG,x.cc
 bS:∀x∈m.bI,x.cc
 n:∀x∈m.next,x.cc
 t:∀x∈m.trans,x.cc
 f:∀x∈m.bM,x.cc
 s:∀x∈m.bH,x.name.size<=140737488351232/\x.f.cc
def awl{n:Nat}{x:List D}(h:mE (.struct [.str,rE n]) x):∃d:cz,x=d.cells/\d.name.size<=140737488351232/\d.f.cc:=by obtain⟨a,b,rfl,aE,c,e,rfl,an,rfl⟩:=h;obtain⟨s,rfl,aG⟩:=FQ aE;obtain⟨t,rfl,aL⟩:=ZM n an;exact⟨⟨s,t⟩,by simp[cz.cells,Fm.nu],aG,aL⟩
def awm{n:Nat}{d:D}(h:BQ (Az n) d):∃m:aB,d=m.d/\vI m:=by obtain⟨aQ,rfl,ae,fM,rfl,ar,ao,eO,rfl,ab,bc,hf,rfl,af,b9,j5,rfl,aw,cL,na,rfl,a4,c9,pe,rfl,b6,di,qQ,rfl,cP,dD,D0,rfl,gE,rfl⟩:=h;obtain⟨bE,rfl,_,_,w0⟩:=ar;obtain⟨aO,rfl,_,_,fs⟩:=ab;obtain⟨aX,rfl,_,_,gp⟩:=af;obtain⟨bQ,rfl,_,_,kc⟩:=aw;obtain⟨cO,rfl,_,_,o5⟩:=a4;obtain⟨eb,rfl,_,_,vd⟩:=b6;obtain⟨fq,rfl,_,_,Hq⟩:=cP;obtain⟨nR,rfl,_,_,Hu⟩:=gE;obtain⟨xo,rfl,xp⟩:=qy V.cells V.ok bE λx ag=>alU (w0 x ag).2;obtain⟨jZ,rfl,bz⟩:=qy a8.cells a8.cc aO λx ag=>ZO (fs x ag).2;obtain⟨kF,rfl,bA⟩:=qy Tm.cells Tm.cc aX λx ag=>yR n (gp x ag).2;obtain⟨xD,rfl,cx⟩:=qy Tm.cells Tm.cc bQ λx ag=>yR n (kc x ag).2;obtain⟨qR,rfl,eo⟩:=qy a8.cells a8.cc cO λx ag=>ZO (o5 x ag).2;obtain⟨D1,rfl,fi⟩:=qy Tm.cells Tm.cc eb λx ag=>yR n (vd x ag).2;obtain⟨awn,rfl,hh⟩:=qy Tm.cells Tm.cc fq λx ag=>yR n (Hq x ag).2;obtain⟨xE,rfl,sg⟩:=qy cz.cells (λs=>s.name.size<=140737488351232/\s.f.cc) nR λx ag=>awl (Hu x ag).2;exact⟨⟨xo,jZ,kF,xD,qR,D1,awn,xE⟩,by simp only[aB.d,bp,aR,aA,b1,Tm.mF];rfl,⟨xp,bz,bA,cx,eo,fi,hh,sg⟩⟩
end Go.Am
