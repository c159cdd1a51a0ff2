/- Laws, on data. No condition. -/
import Derived.Test.YthnecpgodmolaaaGreatDoorLaws
import Derived.Test.YthnecpgodmolaaaGreatDoorEngS
import Derived.Test.YthnecpgodmolaaaGreatDoorEngC
import Derived.Test.YthnecpgodmolaaaGreatDoorCode
import Derived.Test.YthnecpgodmolaaaGreatDoorEngD
set_option linter.all false
set_option linter.unnecessarySimpa false
namespace Go.Am
structure cy where
 name:ByteArray
 f:Fm
def cy.cells(d:cy):List D:=[aC d.name,J d.f.op,J d.f.e.op,J d.f.e.num,aC d.f.e.name,cl 4 d.f.e.nl (Tm.rows d.f.e.aT),cl 6 d.f.nl (Fm.rows d.f.aT)]
def az(l:List Tm):D:= .ax 4 (Tm.rows l)
def bZ(l:List cy):D:= .ax 7 (l.map cy.cells)
def lZ{l:List Tm}{i:Nat}{t:Tm}(h:l[i]?=some t):bn 4 (az l) (J (i:Int))=some t.cells:=by simp[az,Tm.E6 h]
def g7(l:List Tm):bK (az l)=some (J l.length):=by simp[az]
def l0{l:List cy}{i:Nat}{t:cy}(h:l[i]?=some t):bn 7 (bZ l) (J (i:Int))=some t.cells:=by simp[bZ,h]
def iC(l:List cy):bK (bZ l)=some (J l.length):=by simp[bZ]
def cy.d(d:cy):D:= .agg d.cells
theorem cy.adk(d:cy):a3 true 7 0 d.cells=some d.d:=rfl
theorem cy.ho(d:cy):a3 true 6 1 d.cells=some d.f.d:=by rw[Fm.jX];rfl
theorem cy.fY(d:cy):a3 false 1 0 d.cells=some (aC d.name):=rfl
def cy.agg(d:cy):a5 7 d.d=true:=by unfold cy.d cy.cells;simp[Za]
theorem cy.a7(d:cy):ad d.d 0=aC d.name:=rfl
theorem cy.bR(d:cy):ad d.d 1=J d.f.op:=rfl
theorem cy.bY(d:cy):ad d.d 2=J d.f.e.op:=rfl
theorem cy.ct(d:cy):ad d.d 3=J d.f.e.num:=rfl
theorem cy.de(d:cy):ad d.d 4=aC d.f.e.name:=rfl
theorem cy.ee(d:cy):ad d.d 5=cl 4 d.f.e.nl (Tm.rows d.f.e.aT):=rfl
theorem cy.ef(d:cy):ad d.d 6=cl 6 d.f.nl (Fm.rows d.f.aT):=rfl
structure aA where
 vars:List V
 aR:List a8
 bP:List Tm
 bQ:List Tm
 next:List a8
 trans:List Tm
 bS:List Tm
 bI:List cy
def aA.d(m:aA):D:= .agg [bj m.vars,aP m.aR,az m.bP,az m.bQ,aP m.next,az m.trans,az m.bS,bZ m.bI]
section
variable(m:aA)
theorem aA.a7:ad m.d 0=bj m.vars:=rfl
theorem aA.bR:ad m.d 1=aP m.aR:=rfl
theorem aA.bY:ad m.d 2=az m.bP:=rfl
theorem aA.ct:ad m.d 3=az m.bQ:=rfl
theorem aA.de:ad m.d 4=aP m.next:=rfl
theorem aA.ee:ad m.d 5=az m.trans:=rfl
theorem aA.ef:ad m.d 6=az m.bS:=rfl
theorem aA.e2:ad m.d 7=bZ m.bI:=rfl
theorem aA.agg:a5 8 m.d=true:=rfl
theorem aA.eta:D.agg [bj m.vars,aP m.aR,az m.bP,az m.bQ,aP m.next,az m.trans,az m.bS,bZ m.bI]=m.d:=rfl
end
def adl:∀l:List Tm,n1 l=l.map gG
 |[]=>rfl|k::r=>by rw[n1,adl r];rfl
theorem De(t:Tm):gG t= .mk t.op t.num t.name false (t.aT.map gG):=by cases t;rw[gG,adl];rfl
def T6(t:Tm):(gG t).bo=t.bo:=by
 refine Tm.ind (P:=λt=>(gG t).bo=t.bo) ?_ t;intro t ih;have key:∀l:List Tm,(∀k∈l,(gG k).bo=k.bo)->Tm.dN (l.map gG)=Tm.dN l:=by
  intro l
  induction l with
  |nil=>intro _;rfl
  |cons a r lW=>intro h;simp only[xaB,Tm.dN];rw[h a (by simp),lW λk ak=>h k (by simp[ak])]
 rw[Tm.z1,Tm.z1 t,De];show 2+Tm.dN (t.aT.map gG)=_;rw[key _ ih]
def atN(t:Tm):t.cp->(gG t).cp:=by
 refine Tm.ind (P:=λt=>t.cp->(gG t).cp) ?_ t;intro t ih bm;rw[De];have b6:=bm.len;obtain⟨dw,da,eM⟩:(-9223372036854775808<=t.op/\t.op<=9223372036854775807)/\(-9223372036854775808<=t.num/\t.num<=9223372036854775807)/\t.name.size<=140737488355328:=by cases bm with|mk o n s b ks aF aM aG aq ak=>exact⟨aF,aM,aG⟩
 refine .mk _ _ _ _ _ dw da eM (by simpa using b6) ?_;intro k ak;obtain⟨bq,fQ,rfl⟩:=xax.1 ak;exact ih bq fQ (bm.gz fQ)
end Go.Am
attribute [simp] Go.Am.akC
namespace Go.Am
section
variable{bt:Bool}{a b:Int}
@[simp] theorem az9:ai bt .lss (pc a) (.val (.int .u8 b))=some (ay (decide (a<b))):=rfl
@[simp] theorem M3:ai bt .leq (pc a) (.val (.int .u8 b))=some (ay (decide (a<=b))):=rfl
@[simp] theorem aAa:ai bt .gtr (pc a) (.val (.int .u8 b))=some (ay (decide (a>b))):=rfl
@[simp] theorem M4:ai bt .geq (pc a) (.val (.int .u8 b))=some (ay (decide (a>=b))):=rfl
@[simp] theorem atO:ai bt .eql (pc a) (.val (.int .u8 b))=some (ay (a==b)):=rfl
end
def M5{s:ByteArray}{i:Nat}{b:UInt8}(h:s[i]?=some b):nM (aC s) (J (i:Int))=some (pc b.toNat):=by simp[nM,aC,J,Jt,h,nK,pc]
def adm{s:ByteArray}{b:UInt8}(h:s[0]?=some b):nM (aC s) (J 0)=some (pc b.toNat):=M5 (i:=0) h
theorem adn(n:Nat)(c:Int):yC n [pc c]=some (ay (sz c)):=by simp only[yC,Zl,sz,M4,M3,eH];cases decide (c>=97)<;>cases decide (c<=122)<;>cases decide (c>=65)<;>cases decide (c<=90)<;>rfl
theorem atP(n:Nat)(c:Int):Fl n [pc c]=some (ay (xZ c)):=by simp only[Fl,Zm,xZ,M4,M3,eH];cases decide (c>=48)<;>cases decide (c<=57)<;>rfl
theorem ado(n:Nat)(c:Int):Fo n [pc c]=some (ay (mP c)):=by simp only[Fo,Zn,mP,adn,atP,atO,eH];cases sz c<;>cases xZ c<;>cases(c==95)<;>rfl
theorem adp(n:Nat)(c:Int):zn n [pc c]=some (ay (sz c)):=by simp only[zn,aae,sz,M4,M3,eH];cases decide (c>=97)<;>cases decide (c<=122)<;>cases decide (c>=65)<;>cases decide (c<=90)<;>rfl
theorem atQ(n:Nat)(c:Int):G2 n [pc c]=some (ay (xZ c)):=by simp only[G2,aaf,xZ,M4,M3,eH];cases decide (c>=48)<;>cases decide (c<=57)<;>rfl
def adq(p:Int->Bool)(s:ByteArray):(∀j:Nat,j<nJ p s->oo p s j=true)/\oo p s (nJ p s)=false/\nJ p s<=s.size:=by
 unfold nJ;cases h:(List.range (s.size+1)).find? (λi=>!oo p s i)with
 |none=>
  exfalso;have ab:=List.find?_eq_none.1 h s.size (by simp);have:oo p s s.size=true:=by simpa using ab
  exact absurd (ain this) (xbR _)
 |some m=>rw[List.find?_range_eq_some]at h;obtain⟨ab,af,aw⟩:=h;refine⟨λj aN=>by simpa using aw j aN,by simpa using ab,by show m<=s.size;simp at af;omega⟩
def adr{p:Int->Bool}{s:ByteArray}{i:Nat}(h:oo p s i=true):∃b:UInt8,s[i]?=some b/\p b.toNat=true:=by
 unfold oo at h;split at h;.exact⟨_,by assumption,h⟩
 cases h
def ads{p:Int->Bool}{s:ByteArray}{i:Nat}(h:oo p s i=false):(s[i]?=none/\s.size<=i)\/∃b:UInt8,s[i]?=some b/\i<s.size/\p b.toNat=false:=by
 unfold oo at h;split at h
 .rename_i b aj;refine .inr ⟨b,aj,?_,h⟩;rw[Km]at aj;by_cases ab:i<s.size;.exact ab
  rw[dif_neg ab]at aj;cases aj
 rename_i aj;refine .inl ⟨aj,?_⟩;rw[Km]at aj;by_cases ab:i<s.size;.rw[dif_pos ab]at aj;cases aj
 omega
def atS(n:Nat)(s:ByteArray)(aM:s.size<n)(aG:s.size<=9223372036854775807):BC n [aC s,.val (.func (.func Fb) #[] #[])]=some (J (nJ mP s)):=by
 obtain⟨ab,af,aw⟩:=adq mP s;have key:bp (Fp n) n [aC s,J 0]=some (.inl [J (nJ mP s)]):=by
  refine nj (λi=>[aC s,J i]) (nJ mP s) rfl ?_ ?_ (by omega);.intro i ah;obtain⟨b,aj,aU⟩:=adr (ab i ah);simp(disch:=omega) [Fp,M5 aj,ado,aU,gr,show i<s.size by omega]
  rcases ads af with⟨aj,aU⟩|⟨b,aj,cv,aU⟩;.simp[Fp,show¬(nJ mP s<s.size) by omega]
  simp[Fp,M5 aj,ado,aU,cv]
 simp[BC,Ro,key]
def atT(n:Nat)(s:ByteArray)(aM:s.size<n)(aG:s.size<=9223372036854775807):G4 n [aC s,J 0,ay false]=some (J (nJ mP s)):=by
 obtain⟨ab,af,aw⟩:=adq mP s;have one:∀(i:Nat)(b:UInt8),s[i]?=some b->i<s.size->G3 n [aC s,J i,ay false]=if mP b.toNat=true then some (.inl [aC s,J (i+1:Nat),ay false])else some (.inr (.inl [J i])):=by intro i b aj ah;simp(disch:=omega) [G3,M5 aj,atQ,adp,mP,gr,ah];by_cases atU:((b.toNat:Int)=95)<;>cases xZ b.toNat<;>cases sz b.toNat<;>simp[atU]
 have key:bp (G3 n) n [aC s,J 0,ay false]=some (.inl [J (nJ mP s)]):=by
  refine nj (λi=>[aC s,J i,ay false]) (nJ mP s) rfl ?_ ?_ (by omega);.intro i ah;obtain⟨b,aj,aU⟩:=adr (ab i ah);rw[one i b aj (by omega),xad aU]
  rcases ads af with⟨aj,aU⟩|⟨b,aj,cv,aU⟩;.simp[G3,show¬(nJ mP s<s.size) by omega]
  rw[one _ b aj cv,xac (by simp[aU])]
 simp[G4,aag,key]
def xh(p:Nat->Prop)[DecidablePred p]:∀m:Nat,(∀j:Nat,j<m->¬p j)\/∃i,i<m/\p i/\∀j:Nat,j<i->¬p j
 |0=> .inl (by intro j aN;omega)
 |m+1=>by
  rcases xh p m with h|⟨i,ab,af,aw⟩
  .by_cases hm:p m;.exact .inr ⟨m,by omega,hm,h⟩
   refine .inl λj aN=>?_;by_cases T7:j=m;.subst T7;exact hm
   exact h j (by omega)
  exact .inr ⟨i,by omega,af,aw⟩
def atV(n:Nat)(l:List ByteArray)(x:ByteArray)(aM:l.length<n)(aq:l.length<4000000000000000000):wC n [bA l,aC x]=some (J (idxOf x l)):=by
 have step:∀(i:Nat)(y:ByteArray),l[i]?=some y->i<l.length->sP n [bA l,aC x,J l.length,J i]=if x=y then some (.inr (.inr (J i)))else some (.inl [bA l,aC x,J l.length,J (i+1:Nat)]):=by intro i y aQ ah;obtain⟨_,rfl⟩:=xae.1 aQ;simp(disch:=omega) [sP,bA,aQ,ah,gr]
 rcases xh (λi=>l[i]?=some x) l.length with h|⟨i,ab,af,aw⟩
 .have key:bp (sP n) n [bA l,aC x,J l.length,J 0]=some (.inl []):=by
   refine nj (λi=>[bA l,aC x,J l.length,J i]) l.length rfl ?_ ?_ aM;.intro i ah;have aQ:=xab ah;rw[step i _ aQ ah,xac];intro he;exact h i ah (by rw[aQ,he])
   simp[sP]
  have e:(bA l)= .ax 1 (l.map λs=>[aC s]):=rfl;simp[wC,Fq,Xc h];rw[e]at key⊢;simp[key]
 have key:bp (sP n) n [bA l,aC x,J l.length,J 0]=some (.inr (J i)):=by
  refine nj (λi=>[bA l,aC x,J l.length,J i]) i rfl ?_ ?_ (by omega);.intro j aN;have aQ:=xab (show j<l.length by omega);rw[step j _ aQ (by omega),xac];intro he;exact aw j aN (by rw[aQ,he])
  rw[step i x af ab,xad rfl]
 simp[wC,Fq,Xd aw af];have e:(bA l)= .ax 1 (l.map λs=>[aC s]):=rfl;rw[e]at key⊢;simp[key]
def atW(n:Nat)(l:List ByteArray)(x:ByteArray)(aM:l.length<n)(aq:l.length<4000000000000000000):sQ n [bA l,aC x]=some (ay (has x l)):=by simp[sQ,Le,atV n l x aM aq,Xe]
def atX(n:Nat)(l:List ByteArray)(x:ByteArray)(aM:l.length<n)(aq:l.length<4000000000000000000):Cp n [bA l,aC x]=some (ay (has x l)):=by
 have step:∀(i:Nat)(y:ByteArray),l[i]?=some y->i<l.length->Co n [bA l,aC x,J i]=if y=x then some (.inr (.inr (ay true)))else some (.inl [bA l,aC x,J (i+1:Nat)]):=by intro i y aQ ah;obtain⟨_,rfl⟩:=xae.1 aQ;simp(disch:=omega) [Co,bA,aQ,ah,gr]
 rcases xh (λi=>l[i]?=some x) l.length with h|⟨i,ab,af,aw⟩
 .have key:bp (Co n) n [bA l,aC x,J 0]=some (.inl []):=by
   refine nj (λi=>[bA l,aC x,J i]) l.length rfl ?_ ?_ aM;.intro i ah;have aQ:=xab ah;rw[step i _ aQ ah,xac];intro he;exact h i ah (by rw[aQ,he])
   simp[Co,bA]
  simp[Cp,Sv,key,Xg h]
 have key:bp (Co n) n [bA l,aC x,J 0]=some (.inr (ay true)):=by
  refine nj (λi=>[bA l,aC x,J i]) i rfl ?_ ?_ (by omega);.intro j aN;have aQ:=xab (show j<l.length by omega);rw[step j _ aQ (by omega),xac];intro he;exact aw j aN (by rw[aQ,he])
  rw[step i x af ab,xad rfl]
 simp[Cp,Sv,key,Xf af]
theorem atY(n:Nat):Mb n []=some (bA words):=rfl
theorem atZ:(D.ax 1 (Fa.map λc=>[c]))=bA words:=rfl
def T8(n:Nat)(s:ByteArray)(aM:s.size+24<n)(aG:s.size<=9223372036854775807):sR n [aC s]=some (ay (isName s)):=by
 have hw:words.length=24:=rfl;have ab:=atS n s (by omega) aG;have af:=atW n words s (by omega) (by omega);rcases Xh s with⟨eI,bD⟩|⟨b,eI,bD,aj⟩
 .simp[sR,Rp,eI,isName,bD]
 simp only[sR,Rp,isName,oo,aj,adm aj,adn,ab,af,atZ,YG,eI,bD,Q1,KU,Bk,Bm,eH];cases decide ((s.size:Int)<=24)<;>cases sz b.toNat<;>cases((nJ mP s:Int)==(s.size:Int))<;>cases has s words<;>rfl
def T9(n:Nat)(s:ByteArray)(aM:s.size+24<n)(aG:s.size<=9223372036854775807):s7 n [aC s]=some (ay (isName s)):=by
 have hw:words.length=24:=rfl;have ab:=atT n s (by omega) aG;have af:=atX n words s (by omega) (by omega);rcases Xh s with⟨eI,bD⟩|⟨b,eI,bD,aj⟩
 .simp only[s7,Sw,Q1,Bj,eH,bD];simp[isName,bD]
 simp only[s7,Sw,isName,oo,aj,adm aj,adp,ab,af,atY,bD,Q1,KU,Bj,Bk,Bm,eH];cases decide ((s.size:Int)<=24)<;>cases sz b.toNat<;>cases((nJ mP s:Int)==(s.size:Int))<;>cases has s words<;>rfl
def at0(n:Nat)(w v:V):BD n [w.d,.ref v.cells 0]=some (ay (decide (w.name=v.name))):=by simp[BD,Rq,V.d,V.cells]
def at1(n:Nat)(l:List V)(v:V)(aM:l.length<n)(aq:l.length<4000000000000000000):yE n [bj l,.fn (.func sM) [] [.ref v.cells 0]]=some (J (idxOf v.name (l.map V.name))):=by
 have hle:(l.map V.name).length=l.length:=by simp
 have step:∀(i:Nat)(y:V),l[i]?=some y->i<l.length->yD n [bj l,.ref v.cells 0,J l.length,J i]=if y.name=v.name then some (.inr (.inr (J i)))else some (.inl [bj l,.ref v.cells 0,J l.length,J (i+1:Nat)]):=by intro i y aQ ah;obtain⟨_,rfl⟩:=xae.1 aQ;have ab:=at0 n l[i] v;simp only[V.d,V.cells]at ab;simp(disch:=omega) [yD,bj,ah,gr,V.cells,ab]
 have bF:∀x,yE n [bj l,.fn (.func sM) [] [x]]=aa (bp (yD n) n [bj l,x,J l.length,J 0]) (ba λls=>some (J (-1))):=by intro x;simp only[yE,qf,Rr];simp[bj]
 rw[bF];rcases xh (λi=>(l.map V.name)[i]?=some v.name) l.length with h|⟨i,ab,af,aw⟩
 .have key:bp (yD n) n [bj l,.ref v.cells 0,J l.length,J 0]=some (.inl []):=by
   refine nj (λi=>[bj l,.ref v.cells 0,J l.length,J i]) l.length rfl ?_ ?_ aM;.intro i ah;have aQ:=xab ah;rw[step i _ aQ ah,xac];intro he;exact h i ah (by rw[xaj,aQ,<-he];rfl)
   simp[yD]
  rw[key,Xc (by rw[hle];exact h)];rfl
 have key:bp (yD n) n [bj l,.ref v.cells 0,J l.length,J 0]=some (.inr (J i)):=by
  refine nj (λi=>[bj l,.ref v.cells 0,J l.length,J i]) i rfl ?_ ?_ (by omega);.intro j aN;have aQ:=xab (show j<l.length by omega);rw[step j _ aQ (by omega),xac];intro he;exact aw j aN (by rw[xaj,aQ,<-he];rfl)
  have aQ:=xab ab;rw[step i _ aQ ab,xad];rw[xaj,aQ]at af;simpa using af
 rw[key,Xd aw af];rfl
def at2(n:Nat)(l:List V)(v:V)(aM:l.length<n)(aq:l.length<4000000000000000000):BE n [bj l,.fn (.func sM) [] [.ref v.cells 0]]=some (ay (has v.name (l.map V.name))):=by simp only[BE,qf,Rs,at1 n l v aM aq];simp[Xe]
def Ua{k:Nat}{es:List (List D)}{i:Nat}(h:i<=es.length):q0 k (.ax k es) none (some (J (i:Int)))=some (.ax k (es.take i)):=by simp[q0,sA,J,h]
def Ub(v:V):Bool:=v.bool&&(v.lo !=0||v.ah !=0)
def Uc(v:V):Bool:=!v.bool&&(decide (v.lo>v.ah)||vZ v||decide (IntKind.i64.wrap (v.ah-v.lo)>=64))
theorem adt(seen:List V)(v:V):A0 seen v=if !isName v.name then 12 else if has v.name (seen.map V.name)then 6 else if Ub v then 3 else if Uc v then 2 else 0:=rfl
def z3(l:List V):Prop:=l.length<1000000000000/\∀v∈l,pd v.lo/\pd v.ah/\v.name.size<=9223372036854775807
def Ud(n:Nat)(l:List V)(aq:z3 l)(aM:l.length<n)(kP:∀v∈l,v.name.size+24<n)(i:Nat)(ah:i<l.length):yG n [bj l,bj l,J l.length,J i]=if jg l i=0 then some (.inl [bj l,bj l,J l.length,J (i+1:Nat)])else some (.inr (.inr (.a1 [J i,J (jg l i)]))):=by
 have aQ:=xab ah;have a6:=aq.2 _ (xaX ah);have b6:=aq.1;have e:jg l i=A0 (l.take i) l[i]:=by simp only[jg,aQ]
 rw[e];generalize hw:l[i]=v at*;have ab:=T8 n v.name (kP v (hw▸xaX ah)) (by omega);have af:=at2 n (l.take i) v (by rw[xbH];omega) (by rw[xbH];omega);have aw:q0 4 (bj l) none (some (J (i:Int)))=some (bj (l.take i)):=by rw[bj,Ua (by simp;omega),List.map_take.symm];rfl
 have a4:bn 4 (bj l) (J (i:Int))=some v.cells:=by simp[bj,aQ,hw]
 have b7:ai false .lss (J (i:Int)) (J (l.length:Int))=some (ay true):=by simp[ah]
 have cO:ai false .add (J (i:Int)) (J 1)=some (J (i+1:Nat)):=by rw[gr (by omega) (by omega)];rfl
 have gx:ai false .sub (J v.ah) (J v.lo)=some (J (IntKind.i64.wrap (v.ah-v.lo))):=rfl;have hV:a3 true 4 0 v.cells=some v.d:=rfl;have jE:a5 4 v.d=true:=rfl;have a7:ad v.d 0=aC v.name:=rfl;have bR:ad v.d 1=ay v.bool:=rfl;have bY:ad v.d 2=J v.lo:=rfl;have ct:ad v.d 3=J v.ah:=rfl;have de:(D.ref [aC v.name,ay v.bool,J v.lo,J v.ah] 0)= .ref v.cells 0:=rfl;have aW:vZ v=(decide ((if v.ah>v.lo then v.ah else v.lo)>255)||decide ((if v.ah<v.lo then v.ah else v.lo)< -255)):=rfl;rw[adt];simp only[yG,nS,pr,b7,eH,lR,xaD,a4,hV,jE,sI,a7,bR,bY,ct,de,YS,YT,ab,af,aw,Bm,oC,EX,YU,Bl,cO,gx,Bj];rw[Ub,Uc,aW];cases isName v.name
 .cases decide ((if v.ah>v.lo then v.ah else v.lo)>255)<;>simp
 cases has v.name ((l.take i).map V.name)
 rotate_left
 .cases decide ((if v.ah>v.lo then v.ah else v.lo)>255)<;>simp
 generalize decide ((if v.ah>v.lo then v.ah else v.lo)>255)=dw;generalize decide ((if v.ah<v.lo then v.ah else v.lo)< -255)=da;generalize decide (v.lo>v.ah)=eM;generalize decide (IntKind.i64.wrap (v.ah-v.lo)>=64)=jf;generalize (v.lo !=0)=lk;generalize (v.ah !=0)=o9;cases v.bool<;>cases dw<;>cases da<;>cases eM<;>cases jf<;>cases lk<;>cases o9<;>rfl
def at3(n:Nat)(l:List V)(aq:z3 l)(aM:l.length<n)(kP:∀v∈l,v.name.size+24<n):BF n [bj l]=some (.a1 [J (j9 l).1,J (j9 l).2]):=by
 have bF:BF n [bj l]=aa (bp (yG n) n [bj l,bj l,J l.length,J 0]) (ba λls=>some (D.a1 [J 0,J 0])):=by simp[BF,Zo,bj]
 rw[bF];rcases xh (λi=>jg l i≠0) l.length with h|⟨i,ab,af,aw⟩
 .have bx:∀j:Nat,j<l.length->jg l j=0:=λj aN=>by simpa using h j aN
  have key:bp (yG n) n [bj l,bj l,J l.length,J 0]=some (.inl []):=by
   refine nj (λi=>[bj l,bj l,J l.length,J i]) l.length rfl ?_ ?_ aM;.intro i ah;rw[Ud n l aq aM kP i ah,xad (bx i ah)]
   simp[yG]
  rw[key,Xj bx];rfl
 have bx:∀j:Nat,j<i->jg l j=0:=λj aN=>by simpa using aw j aN
 have key:bp (yG n) n [bj l,bj l,J l.length,J 0]=some (.inr (.a1 [J i,J (jg l i)])):=by
  refine nj (λi=>[bj l,bj l,J l.length,J i]) i rfl ?_ ?_ (by omega);.intro j aN;rw[Ud n l aq aM kP j (by omega),xad (bx j aN)]
  rw[Ud n l aq aM kP i ab,xac af]
 rw[key,Xi bx ab rfl af];rfl
@[simp] theorem adu {a:Int}:ka .u64 (J a)=some (.val (.int .u64 (IntKind.u64.wrap a))):=rfl
theorem M6{k:IntKind}{a:Int}:ka .i64 (.val (.int k a))=some (J (IntKind.i64.wrap a)):=rfl
def at4(n:Nat)(v:V)(ab:pd v.lo)(af:pd v.ah):Fu n [v.d]=some (J v.span):=by
 have bR:ad v.d 1=ay v.bool:=rfl;have bY:ad v.d 2=J v.lo:=rfl;have ct:ad v.d 3=J v.ah:=rfl;have jE:a5 4 v.d=true:=rfl;simp only[Fu,Zp,jE,sI,bR,bY,ct,lR,oC,eH,adu,M6];cases aj:v.bool with
 |true=>simp[V.Xa aj]
 |false=>
  by_cases cv:v.lo>v.ah;.simp[V.Xb aj cv,cv]
  have hle:v.lo<=v.ah:=by omega
  have aL:ai false .sub (.val (.int .u64 (IntKind.u64.wrap v.ah))) (.val (.int .u64 (IntKind.u64.wrap v.lo)))=some (.val (.int .u64 (v.ah-v.lo))):=by show some (D.val (.int .u64 (IntKind.u64.wrap (IntKind.u64.wrap v.ah-IntKind.u64.wrap v.lo))))=_;rw[W9 ab af hle]
  have aX:ai false .lss (.val (.int .u64 (v.ah-v.lo))) (.val (.int .u64 1073741824))=some (ay (decide (v.ah-v.lo<1073741824))):=rfl;simp only[cv,xbG,xat,xaF,aL,aX,eH,lR];by_cases hm:v.ah-v.lo<1073741824;.rw[V.PF aj hle hm];simp only[hm,xbr,xaD,M6,eH,wrap64 _ (show-9223372036854775808<=v.ah-v.lo by omega) (by omega)];rw[gr (by omega) (by omega)];rfl
  rw[V.PG aj hle (by omega)];simp[hm]
def adv(n:Nat)(v:V)(ab:pd v.lo)(af:pd v.ah):zo n [v.d]=some (J v.span):=by
 have bR:ad v.d 1=ay v.bool:=rfl;have bY:ad v.d 2=J v.lo:=rfl;have ct:ad v.d 3=J v.ah:=rfl;have jE:a5 4 v.d=true:=rfl;simp only[zo,aai,jE,sI,bR,bY,ct,lR,oC,eH,adu];cases aj:v.bool with
 |true=>simp[V.Xa aj]
 |false=>
  by_cases cv:v.lo>v.ah;.simp[V.Xb aj cv,cv]
  have hle:v.lo<=v.ah:=by omega
  have aL:ai false .sub (.val (.int .u64 (IntKind.u64.wrap v.ah))) (.val (.int .u64 (IntKind.u64.wrap v.lo)))=some (.val (.int .u64 (v.ah-v.lo))):=by show some (D.val (.int .u64 (IntKind.u64.wrap (IntKind.u64.wrap v.ah-IntKind.u64.wrap v.lo))))=_;rw[W9 ab af hle]
  have aX:ai false .gtr (.val (.int .u64 (v.ah-v.lo))) (.val (.int .u64 1073741824))=some (ay (decide (v.ah-v.lo>1073741824))):=rfl;simp only[cv,xbG,xat,xaF,aL,aX,eH,lR];by_cases hm:v.ah-v.lo>1073741824;.rw[V.PG aj hle (by omega)];simp only[hm,xbr,xaD,eH,qd,nS,M6];rfl
  simp only[hm,xbG,xat,xaF,eH,qd,nS,M6,wrap64 _ (show-9223372036854775808<=v.ah-v.lo by omega) (by omega)];rw[gr (by omega) (by omega)];simp only[eH];by_cases he:v.ah-v.lo=1073741824;.rw[V.PG aj hle (by omega),he];rfl
  rw[V.PF aj hle (by omega)]
def V.Ij(v:V):0<=v.span/\v.span<=1073741825:=by
 unfold V.span;split;.omega
 split;.omega
 split<;>omega
def at5{i:Nat}(h:i<=62):((2:Int)^i)<=4611686018427387904/\0<(2:Int)^i:=by
 have ab:(2:Nat)^i<=2^62:=Nat.pow_le_pow_right (by omega) h;have aw:((2^i:Nat):Int)=2^i:=by simp
 have af:(0:Int)<2^i:=Int.pow_pos (by omega);omega
def adw{bt:Bool}{i:Nat}(h:i<=62):ai bt .shl (J 1) (J (i:Int))=some (J ((2:Int)^i)):=by
 have at6:¬((i:Int)<0):=by omega
 have hm:min i IntKind.i64.bits=i:=by simp[IntKind.bits];omega
 obtain⟨ab,af⟩:=at5 h;have e:IntKind.i64.wrap (1*2^(min i IntKind.i64.bits))=2^i:=by rw[hm,Int.one_mul];exact wrap64 _ (by omega) (by omega)
 simp only[ai,J,nK,at6,xaF,Int.toNat_natCast];rw[e]
def Df{n:Int}(h:n<=1073741825):bitsOf n<=62/\(∀j:Nat,j<bitsOf n->(2:Int)^j<n)/\n<=2^bitsOf n:=by
 rcases xh (λi=>n<=(2:Int)^i) 40 with ab|⟨i,ab,af,aw⟩;.exact absurd h (by have:=ab 39 (by omega);simp at this;omega)
 have iL:∀j:Nat,j<i->(2:Int)^j<n:=λj aN=>by have:=aw j aN;omega
 rw[aim iL af];exact⟨by omega,iL,af⟩
def at7(n:Nat)(k:Int)(ak:k<=1073741825)(aM:63<n):Fv n [J k]=some (J (bitsOf k)):=by
 obtain⟨ab,af,aw⟩:=Df ak;have key:bp (Lf n) n [J k,J 0]=some (.inr (J (bitsOf k))):=by
  refine nj (λi=>[J k,J i]) (bitsOf k) rfl ?_ ?_ (by omega);.intro i ah;have:=af i ah;simp(disch:=omega) [Lf,adw,gr,show((i:Int)<63) by omega,show¬(k<=(2:Int)^i) by omega]
  simp(disch:=omega) [Lf,adw,show((bitsOf k:Int)<63) by omega,aw]
 simp[Fv,Zq,key]
def aua(n:Nat)(k:Int)(au:-1000<=k)(ak:k<=1073741825)(aM:63<n):G8 n [J k]=some (J (bitsOf k)):=by
 have key:∀(m:Nat)(k:Int)(acc fU:Nat),bitsOf k=m->k<=1073741825->acc+m<=1000->m<fU->bp (Mc n) fU [J k,J acc]=some (.inl [J (acc+m:Nat)]):=by
  intro m
  induction m with
  |zero=>
   intro k acc fU hm ak aE O7;obtain⟨fU,rfl⟩:∃q,fU=q+1:=⟨fU-1,by omega⟩;have wm:¬k>1:=by intro ao;have:=W8 ao;omega
   rw[jH];simp[Mc,wm]
  |succ m ih=>
   intro k acc fU hm ak aE O7;obtain⟨fU,rfl⟩:∃q,fU=q+1:=⟨fU-1,by omega⟩;have wm:k>1:=by
    refine xbA λao=>?_;have:bitsOf k=0:=by unfold bitsOf;rw[xad (by omega)]
    omega
   have bJ:=W8 wm;have aL:k.tdiv 2=k/2:=Int.tdiv_eq_ediv_of_nonneg (by omega);have aX:k.tmod 2=k%2:=Int.tmod_eq_emod_of_nonneg (by omega);have hle:=(Df ak).1;have xv:=ih (k/2+k%2) (acc+1) fU (by omega) (by omega) (by omega) (by omega);rw[jH];simp(disch:=omega) [Mc,wm,YF,akK,aL,aX,wrap64,gr];have bL:((acc:Int)+1)=((acc+1:Nat):Int):=by omega
   rw[bL,xv]
   congr 4
   omega
 have:=key (bitsOf k) k 0 n rfl ak (by have:=(Df ak).1;omega) (by have:=(Df ak).1;omega);simp only[xau]at this;have e:(J ((0:Nat):Int))=J 0:=rfl;rw[e]at this;simp[G8,aaj,this]
theorem adx(n:Nat)(k:Int):Cq n [J k]=some (ay (decide (k>=-255)&&decide (k<=255))):=by simp only[Cq,aah,Bj,KU,eH];cases decide (k>=-255)<;>cases decide (k<=255)<;>rfl
def Ue(n:Nat)(l:List V)(i k:Nat)(ah:i<l.length)(ak:k<i)(b6:l.length<1000000000000):G5 n [bj l,J i,J k]=if(l[k]'(by omega)).name=l[i].name then some (.inr (.inr (.inr (.inr (.inr (.a1 [J i,J 6]))))))else some (.inl [bj l,J i,J (k+1:Nat)]):=by
 have qX:k<l.length:=by omega
 have ab:l[k]?=some l[k]:=xab qX;have af:l[i]?=some l[i]:=xab ah;simp(disch:=omega) [G5,bj,ak,gr,qX,ah,V.cells]
def aub(n:Nat)(l:List V)(i:Nat)(ah:i<l.length)(b6:l.length<1000000000000)(aM:l.length<n):bp (G5 n) n [bj l,J i,J 0]=if has l[i].name ((l.take i).map V.name)=true then some (.inr (.inr (.inr (.inr (.a1 [J i,J 6])))))else some (.inl [bj l,J i]):=by
 rcases xh (λk=>(l.map V.name)[k]?=some l[i].name) i with h|⟨k,ab,af,aw⟩
 .rw[aip h,xac (by simp)];refine nj (λk=>[bj l,J i,J k]) i rfl ?_ ?_ (by omega);.intro k ak;rw[Ue n l i k ah ak b6,xac];intro he;refine h k ak ?_;rw[xaj,xab (show k<l.length by omega),<-he];rfl
  simp[G5]
 have p9:k<l.length:=by omega
 have hw:=xab p9;have Kb:(l[k]).name=l[i].name:=by rw[xaj,hw]at af;simpa using af
 rw[<-Kb,aiq ab hw,xad rfl];refine nj (λk=>[bj l,J i,J k]) k rfl ?_ ?_ (by omega);.intro j aN;rw[Ue n l i j ah (by omega) b6,xac];intro he;refine aw j aN ?_;rw[xaj,xab (show j<l.length by omega),<-he];rfl
 rw[Ue n l i k ah ab b6,xad Kb]
def Uf(n:Nat)(l:List V)(aq:z3 l)(aM:l.length<n)(kP:∀v∈l,v.name.size+24<n)(i:Nat)(ah:i<l.length):zp n [bj l,J i]=if jg l i=0 then some (.inl [bj l,J (i+1:Nat)])else some (.inr (.inr (.a1 [J i,J (jg l i)]))):=by
 have aQ:=xab ah;have a6:=aq.2 _ (xaX ah);have b6:=aq.1;have gx:=aub n l i ah aq.1 aM;have e:jg l i=A0 (l.take i) l[i]:=by simp only[jg,aQ]
 rw[e];generalize hw:l[i]=v at*;have ab:=T9 n v.name (kP v (hw▸xaX ah)) (by omega);have a4:bn 4 (bj l) (J (i:Int))=some v.cells:=by simp[bj,aQ,hw]
 have b7:ai false .lss (J (i:Int)) (J (l.length:Int))=some (ay true):=by simp[ah]
 have auc:bK (bj l)=some (J l.length):=by simp[bj]
 have cO:ai false .add (J (i:Int)) (J 1)=some (J (i+1:Nat)):=by rw[gr (by omega) (by omega)];rfl
 have hV:a3 true 4 0 v.cells=some v.d:=rfl;have a7:a3 false 1 0 v.cells=some (aC v.name):=rfl;have bR:a3 false 1 1 v.cells=some (ay v.bool):=rfl;have bY:a3 false 1 2 v.cells=some (J v.lo):=rfl;have ct:a3 false 1 3 v.cells=some (J v.ah):=rfl;have jE:=adv n v a6.1 a6.2.1;rw[adt];rw[show Uc v=_ from aio ⟨a6.1,a6.2.1,by omega⟩];simp only[zp,nS,pr,auc,b7,eH,lR,xaD,a4,hV,a7,bR,bY,ct,ab,gx,Bm,oC,EX,Bl,cO,Bj,adx,jE];rw[Ub];cases isName v.name
 .simp
 cases has v.name ((l.take i).map V.name)
 rotate_left
 .simp
 simp only[Bool.not_true,xat,xaF,eH,qd,nS,pr,a4,hV,a7,bR,bY,ct,oC,Bl,adx,jE,Bm];generalize (decide (v.lo>=-255)&&decide (v.lo<=255))=dw;generalize (decide (v.ah>=-255)&&decide (v.ah<=255))=da;generalize decide (v.lo>v.ah)=eM;generalize decide (v.span>64)=jf;generalize (v.lo !=0)=lk;generalize (v.ah !=0)=o9;cases v.bool<;>cases dw<;>cases da<;>cases eM<;>cases jf<;>cases lk<;>cases o9<;>simp[cO]
def aud(n:Nat)(l:List V)(aq:z3 l)(aM:l.length<n)(kP:∀v∈l,v.name.size+24<n):G7 n [bj l]=some (.a1 [J (j9 l).1,J (j9 l).2]):=by
 have bF:G7 n [bj l]=aa (bp (zp n) n [bj l,J 0]) (ba λls=>some (D.a1 [J 0,J 0])):=rfl;rw[bF];rcases xh (λi=>jg l i≠0) l.length with h|⟨i,ab,af,aw⟩
 .have bx:∀j:Nat,j<l.length->jg l j=0:=λj aN=>by simpa using h j aN
  have key:bp (zp n) n [bj l,J 0]=some (.inl []):=by
   refine nj (λi=>[bj l,J i]) l.length rfl ?_ ?_ aM;.intro i ah;rw[Uf n l aq aM kP i ah,xad (bx i ah)]
   simp[zp,bj]
  rw[key,Xj bx];rfl
 have bx:∀j:Nat,j<i->jg l j=0:=λj aN=>by simpa using aw j aN
 have key:bp (zp n) n [bj l,J 0]=some (.inr (.a1 [J i,J (jg l i)])):=by
  refine nj (λi=>[bj l,J i]) i rfl ?_ ?_ (by omega);.intro j aN;rw[Uf n l aq aM kP j (by omega),xad (bx j aN)]
  rw[Uf n l aq aM kP i ab,xac af]
 rw[key,Xi bx ab rfl af];rfl
def n5(l:List cy)(x:ByteArray):Option Nat:=l.findIdx? (λd=>decide (d.name=x))
def gH:Option Nat->Int
 |some i=>(i:Int)|none=>-1
def Dg(o:Option Nat):decide (gH o>=0)=o.isSome:=by cases o with|none=>rfl|some i=>simp[gH]
def ady(o:Option Nat):decide (gH o<0)=o.isNone:=by cases o with|none=>rfl|some i=>exact yF ((i:Int)<0)
def findIdx_cons{α:Type}(p:α->Bool)(a:α)(r:List α):(a::r).findIdx? p=if p a then some 0 else(r.findIdx? p).map (·+1):=by rw[xbU]
theorem V.qb(v:V):ad v.d 0=aC v.name:=rfl
theorem V.cK(v:V):a3 true 4 0 v.cells=some v.d:=rfl
theorem V.cV(v:V):a5 4 v.d=true:=rfl
theorem a8.qb(v:a8):ad v.d 0=aC v.name:=rfl
theorem a8.c3(v:a8):a3 true 5 0 v.cells=some v.d:=rfl
def a8.iA(v:a8):a5 5 v.d=true:=by unfold a8.d a8.cells;simp
theorem cy.qb(v:cy):ad v.d 0=aC v.name:=rfl
theorem cy.dc(v:cy):a3 true 7 0 v.cells=some v.d:=rfl
def cy.q8(v:cy):a5 7 v.d=true:=cy.agg v
def aue(n:Nat)(d:V)(x:ByteArray):Gj n [d.d,.ref [aC x] 0]=some (ay (decide (d.name=x))):=by show LB n d.d [aC x]=_;simp only[LB,go_sem,iO,V.cV,V.qb]
def auf(n:Nat)(l:List V)(x:ByteArray)(aM:l.length<n)(aj:l.length<1000000000):y2 n [bj l,D.fn (.func rh) [] [.ref [aC x] 0]]=some (J (gH (fk l x))):=by
 have bF:(J ((0:Nat):Int))=J 0:=rfl;have ah:=dG (f:=Gk n) l (λi (_:Unit)=>[bj l,.ref [aC x] 0,J l.length,J (i:Int)]) (λr _=>match fk r x with|some j=>(Sum.inr (J ((l.length-r.length+j:Nat):Int)):List D⊕D)|none=> .inl []) (λ_ _=>True) ?_ ?_ n 0 () trivial (by omega) (xai _)
 .rw[bF,xak,xbW]at ah;have bJ:y2 n [bj l,D.fn (.func rh) [] [.ref [aC x] 0]]=Gl n (bj l) (.ref [aC x] 0):=by
   simp only[y2,qf]
  rw[bJ];cases bg:fk l x with|none=>rw[bg]at ah;simp only[Gl,go_sem,fB,ah,gH]|some j=>rw[bg]at ah;simp only[xau]at ah;simp only[Gl,go_sem,fB,ah,gH]
 .intro _ _;have:fk [] x=none:=rfl;simp only[Gk,go_sem,yF ((l.length:Int)<l.length),this]
 intro i a _ aE ah _;have cM:=yT ((i:Int)<(l.length:Int));have ao:fk (a::l.drop (i+1)) x=if decide (a.name=x)=true then some 0 else(fk (l.drop (i+1)) x).map (·+1):=findIdx_cons _ a _
 have e:l.length-(a::l.drop (i+1)).length=i:=by simp;omega
 have dp:l.length-(l.drop (i+1)).length=i+1:=by simp;omega
 have ab:=aue n a x;by_cases ag:a.name=x;.right;rw[xav ag]at ab ao;rw[ao,xad rfl,e];simp only[Gk,go_sem,cM,g5 aE,V.cK,ab,xbm]
 left;rw[xaE ag]at ab ao;rw[ao,xac (by simp),e,dp];refine⟨(),?_,?_,trivial⟩;.simp only[Gk,go_sem,cM,g5 aE,V.cK,ab,b1 (bt:=false) (i:=i) (by omega)]
 cases fk (l.drop (i+1)) x with|none=>rfl|some j=>simp;omega
def aug(n:Nat)(l:List V)(x:ByteArray)(aM:l.length<n)(aj:l.length<1000000000):y3 n [bj l,D.fn (.func rh) [] [.ref [aC x] 0]]=some (ay (fk l x).isSome):=by
 have bJ:y3 n [bj l,D.fn (.func rh) [] [.ref [aC x] 0]]=LC n (bj l) (.ref [aC x] 0):=by simp only[y3,qf]
 rw[bJ];simp only[LC,go_sem,auf n l x aM aj,Dg]
def auh(n:Nat)(d:a8)(x:ByteArray):Gm n [d.d,.ref [aC x] 0]=some (ay (decide (d.name=x))):=by show LD n d.d [aC x]=_;simp only[LD,go_sem,iO,a8.iA,a8.qb]
def aui(n:Nat)(l:List a8)(x:ByteArray)(aM:l.length<n)(aj:l.length<1000000000):y4 n [aP l,D.fn (.func ri) [] [.ref [aC x] 0]]=some (J (gH (ds l x))):=by
 have bF:(J ((0:Nat):Int))=J 0:=rfl;have ah:=dG (f:=Gn n) l (λi (_:Unit)=>[aP l,.ref [aC x] 0,J l.length,J (i:Int)]) (λr _=>match ds r x with|some j=>(Sum.inr (J ((l.length-r.length+j:Nat):Int)):List D⊕D)|none=> .inl []) (λ_ _=>True) ?_ ?_ n 0 () trivial (by omega) (xai _)
 .rw[bF,xak,xbW]at ah;have bJ:y4 n [aP l,D.fn (.func ri) [] [.ref [aC x] 0]]=Gp n (aP l) (.ref [aC x] 0):=by
   simp only[y4,qf]
  rw[bJ];cases bg:ds l x with|none=>rw[bg]at ah;simp only[Gp,go_sem,dT,ah,gH]|some j=>rw[bg]at ah;simp only[xau]at ah;simp only[Gp,go_sem,dT,ah,gH]
 .intro _ _;have:ds [] x=none:=rfl;simp only[Gn,go_sem,yF ((l.length:Int)<l.length),this]
 intro i a _ aE ah _;have cM:=yT ((i:Int)<(l.length:Int));have ao:ds (a::l.drop (i+1)) x=if decide (a.name=x)=true then some 0 else(ds (l.drop (i+1)) x).map (·+1):=findIdx_cons _ a _
 have e:l.length-(a::l.drop (i+1)).length=i:=by simp;omega
 have dp:l.length-(l.drop (i+1)).length=i+1:=by simp;omega
 have ab:=auh n a x;by_cases ag:a.name=x;.right;rw[xav ag]at ab ao;rw[ao,xad rfl,e];simp only[Gn,go_sem,cM,eZ aE,a8.c3,ab,xbm]
 left;rw[xaE ag]at ab ao;rw[ao,xac (by simp),e,dp];refine⟨(),?_,?_,trivial⟩;.simp only[Gn,go_sem,cM,eZ aE,a8.c3,ab,b1 (bt:=false) (i:=i) (by omega)]
 cases ds (l.drop (i+1)) x with|none=>rfl|some j=>simp;omega
def auj(n:Nat)(l:List a8)(x:ByteArray)(aM:l.length<n)(aj:l.length<1000000000):y5 n [aP l,D.fn (.func ri) [] [.ref [aC x] 0]]=some (ay (ds l x).isSome):=by
 have bJ:y5 n [aP l,D.fn (.func ri) [] [.ref [aC x] 0]]=LF n (aP l) (.ref [aC x] 0):=by simp only[y5,qf]
 rw[bJ];simp only[LF,go_sem,aui n l x aM aj,Dg]
def auk(n:Nat)(d:V)(x:ByteArray):F8 n [d.d,.ref [aC x] 0]=some (ay (decide (d.name=x))):=by show Lu n d.d [aC x]=_;simp only[Lu,go_sem,iO,V.cV,V.qb]
def aul(n:Nat)(l:List V)(x:ByteArray)(aM:l.length<n)(aj:l.length<1000000000):yW n [bj l,D.fn (.func Bx) [] [.ref [aC x] 0]]=some (J (gH (fk l x))):=by
 have bF:(J ((0:Nat):Int))=J 0:=rfl;have ah:=dG (f:=F9 n) l (λi (_:Unit)=>[bj l,.ref [aC x] 0,J l.length,J (i:Int)]) (λr _=>match fk r x with|some j=>(Sum.inr (J ((l.length-r.length+j:Nat):Int)):List D⊕D)|none=> .inl []) (λ_ _=>True) ?_ ?_ n 0 () trivial (by omega) (xai _)
 .rw[bF,xak,xbW]at ah;have bJ:yW n [bj l,D.fn (.func Bx) [] [.ref [aC x] 0]]=Ga n (bj l) (.ref [aC x] 0):=by
   simp only[yW,qf]
  rw[bJ];cases bg:fk l x with|none=>rw[bg]at ah;simp only[Ga,go_sem,fB,ah,gH]|some j=>rw[bg]at ah;simp only[xau]at ah;simp only[Ga,go_sem,fB,ah,gH]
 .intro _ _;have:fk [] x=none:=rfl;simp only[F9,go_sem,yF ((l.length:Int)<l.length),this]
 intro i a _ aE ah _;have cM:=yT ((i:Int)<(l.length:Int));have ao:fk (a::l.drop (i+1)) x=if decide (a.name=x)=true then some 0 else(fk (l.drop (i+1)) x).map (·+1):=findIdx_cons _ a _
 have e:l.length-(a::l.drop (i+1)).length=i:=by simp;omega
 have dp:l.length-(l.drop (i+1)).length=i+1:=by simp;omega
 have ab:=auk n a x;by_cases ag:a.name=x;.right;rw[xav ag]at ab ao;rw[ao,xad rfl,e];simp only[F9,go_sem,cM,g5 aE,V.cK,ab,xbm]
 left;rw[xaE ag]at ab ao;rw[ao,xac (by simp),e,dp];refine⟨(),?_,?_,trivial⟩;.simp only[F9,go_sem,cM,g5 aE,V.cK,ab,b1 (bt:=false) (i:=i) (by omega)]
 cases fk (l.drop (i+1)) x with|none=>rfl|some j=>simp;omega
def aum(n:Nat)(d:a8)(x:ByteArray):Gb n [d.d,.ref [aC x] 0]=some (ay (decide (d.name=x))):=by show Lv n d.d [aC x]=_;simp only[Lv,go_sem,iO,a8.iA,a8.qb]
def aun(n:Nat)(l:List a8)(x:ByteArray)(aM:l.length<n)(aj:l.length<1000000000):yX n [aP l,D.fn (.func rj) [] [.ref [aC x] 0]]=some (J (gH (ds l x))):=by
 have bF:(J ((0:Nat):Int))=J 0:=rfl;have ah:=dG (f:=Gc n) l (λi (_:Unit)=>[aP l,.ref [aC x] 0,J l.length,J (i:Int)]) (λr _=>match ds r x with|some j=>(Sum.inr (J ((l.length-r.length+j:Nat):Int)):List D⊕D)|none=> .inl []) (λ_ _=>True) ?_ ?_ n 0 () trivial (by omega) (xai _)
 .rw[bF,xak,xbW]at ah;have bJ:yX n [aP l,D.fn (.func rj) [] [.ref [aC x] 0]]=Gd n (aP l) (.ref [aC x] 0):=by
   simp only[yX,qf]
  rw[bJ];cases bg:ds l x with|none=>rw[bg]at ah;simp only[Gd,go_sem,dT,ah,gH]|some j=>rw[bg]at ah;simp only[xau]at ah;simp only[Gd,go_sem,dT,ah,gH]
 .intro _ _;have:ds [] x=none:=rfl;simp only[Gc,go_sem,yF ((l.length:Int)<l.length),this]
 intro i a _ aE ah _;have cM:=yT ((i:Int)<(l.length:Int));have ao:ds (a::l.drop (i+1)) x=if decide (a.name=x)=true then some 0 else(ds (l.drop (i+1)) x).map (·+1):=findIdx_cons _ a _
 have e:l.length-(a::l.drop (i+1)).length=i:=by simp;omega
 have dp:l.length-(l.drop (i+1)).length=i+1:=by simp;omega
 have ab:=aum n a x;by_cases ag:a.name=x;.right;rw[xav ag]at ab ao;rw[ao,xad rfl,e];simp only[Gc,go_sem,cM,eZ aE,a8.c3,ab,xbm]
 left;rw[xaE ag]at ab ao;rw[ao,xac (by simp),e,dp];refine⟨(),?_,?_,trivial⟩;.simp only[Gc,go_sem,cM,eZ aE,a8.c3,ab,b1 (bt:=false) (i:=i) (by omega)]
 cases ds (l.drop (i+1)) x with|none=>rfl|some j=>simp;omega
def auo(n:Nat)(l:List a8)(x:ByteArray)(aM:l.length<n)(aj:l.length<1000000000):yY n [aP l,D.fn (.func rj) [] [.ref [aC x] 0]]=some (ay (ds l x).isSome):=by
 have bJ:yY n [aP l,D.fn (.func rj) [] [.ref [aC x] 0]]=Lw n (aP l) (.ref [aC x] 0):=by simp only[yY,qf]
 rw[bJ];simp only[Lw,go_sem,aun n l x aM aj,Dg]
def aup(n:Nat)(d:a8)(x:ByteArray):Gg n [d.d,.ref [aC x] 0]=some (ay (decide (d.name=x))):=by show Ly n d.d [aC x]=_;simp only[Ly,go_sem,iO,a8.iA,a8.qb]
def auq(n:Nat)(l:List a8)(x:ByteArray)(aM:l.length<n)(aj:l.length<1000000000):yZ n [aP l,D.fn (.func Bw) [] [.ref [aC x] 0]]=some (J (gH (ds l x))):=by
 have bF:(J ((0:Nat):Int))=J 0:=rfl;have ah:=dG (f:=Gh n) l (λi (_:Unit)=>[aP l,.ref [aC x] 0,J l.length,J (i:Int)]) (λr _=>match ds r x with|some j=>(Sum.inr (J ((l.length-r.length+j:Nat):Int)):List D⊕D)|none=> .inl []) (λ_ _=>True) ?_ ?_ n 0 () trivial (by omega) (xai _)
 .rw[bF,xak,xbW]at ah;have bJ:yZ n [aP l,D.fn (.func Bw) [] [.ref [aC x] 0]]=Gi n (aP l) (.ref [aC x] 0):=by
   simp only[yZ,qf]
  rw[bJ];cases bg:ds l x with|none=>rw[bg]at ah;simp only[Gi,go_sem,dT,ah,gH]|some j=>rw[bg]at ah;simp only[xau]at ah;simp only[Gi,go_sem,dT,ah,gH]
 .intro _ _;have:ds [] x=none:=rfl;simp only[Gh,go_sem,yF ((l.length:Int)<l.length),this]
 intro i a _ aE ah _;have cM:=yT ((i:Int)<(l.length:Int));have ao:ds (a::l.drop (i+1)) x=if decide (a.name=x)=true then some 0 else(ds (l.drop (i+1)) x).map (·+1):=findIdx_cons _ a _
 have e:l.length-(a::l.drop (i+1)).length=i:=by simp;omega
 have dp:l.length-(l.drop (i+1)).length=i+1:=by simp;omega
 have ab:=aup n a x;by_cases ag:a.name=x;.right;rw[xav ag]at ab ao;rw[ao,xad rfl,e];simp only[Gh,go_sem,cM,eZ aE,a8.c3,ab,xbm]
 left;rw[xaE ag]at ab ao;rw[ao,xac (by simp),e,dp];refine⟨(),?_,?_,trivial⟩;.simp only[Gh,go_sem,cM,eZ aE,a8.c3,ab,b1 (bt:=false) (i:=i) (by omega)]
 cases ds (l.drop (i+1)) x with|none=>rfl|some j=>simp;omega
def aur(n:Nat)(d:cy)(x:ByteArray):FE n [d.d,.ref [aC x] 0]=some (ay (decide (d.name=x))):=by show Lh n d.d [aC x]=_;simp only[Lh,go_sem,iO,cy.q8,cy.qb]
def aus(n:Nat)(l:List cy)(x:ByteArray)(aM:l.length<n)(aj:l.length<1000000000):yH n [bZ l,D.fn (.func rk) [] [.ref [aC x] 0]]=some (J (gH (n5 l x))):=by
 have bF:(J ((0:Nat):Int))=J 0:=rfl;have ah:=dG (f:=FF n) l (λi (_:Unit)=>[bZ l,.ref [aC x] 0,J l.length,J (i:Int)]) (λr _=>match n5 r x with|some j=>(Sum.inr (J ((l.length-r.length+j:Nat):Int)):List D⊕D)|none=> .inl []) (λ_ _=>True) ?_ ?_ n 0 () trivial (by omega) (xai _)
 .rw[bF,xak,xbW]at ah;have bJ:yH n [bZ l,D.fn (.func rk) [] [.ref [aC x] 0]]=FG n (bZ l) (.ref [aC x] 0):=by
   simp only[yH,qf]
  rw[bJ];cases bg:n5 l x with|none=>rw[bg]at ah;simp only[FG,go_sem,iC,ah,gH]|some j=>rw[bg]at ah;simp only[xau]at ah;simp only[FG,go_sem,iC,ah,gH]
 .intro _ _;have:n5 [] x=none:=rfl;simp only[FF,go_sem,yF ((l.length:Int)<l.length),this]
 intro i a _ aE ah _;have cM:=yT ((i:Int)<(l.length:Int));have ao:n5 (a::l.drop (i+1)) x=if decide (a.name=x)=true then some 0 else(n5 (l.drop (i+1)) x).map (·+1):=findIdx_cons _ a _
 have e:l.length-(a::l.drop (i+1)).length=i:=by simp;omega
 have dp:l.length-(l.drop (i+1)).length=i+1:=by simp;omega
 have ab:=aur n a x;by_cases ag:a.name=x;.right;rw[xav ag]at ab ao;rw[ao,xad rfl,e];simp only[FF,go_sem,cM,l0 aE,cy.dc,ab,xbm]
 left;rw[xaE ag]at ab ao;rw[ao,xac (by simp),e,dp];refine⟨(),?_,?_,trivial⟩;.simp only[FF,go_sem,cM,l0 aE,cy.dc,ab,b1 (bt:=false) (i:=i) (by omega)]
 cases n5 (l.drop (i+1)) x with|none=>rfl|some j=>simp;omega
def aut(n:Nat)(l:List cy)(x:ByteArray)(aM:l.length<n)(aj:l.length<1000000000):yI n [bZ l,D.fn (.func rk) [] [.ref [aC x] 0]]=some (ay (n5 l x).isSome):=by
 have bJ:yI n [bZ l,D.fn (.func rk) [] [.ref [aC x] 0]]=Li n (bZ l) (.ref [aC x] 0):=by simp only[yI,qf]
 rw[bJ];simp only[Li,go_sem,aus n l x aM aj,Dg]
structure rU(f:Tm->Tm):Prop where
 op:∀t,(f t).op=t.op
 num:∀t,(f t).num=t.num
 name:∀t,(f t).name=t.name
 aT:∀t,(f t).aT=t.aT.map f
theorem M7:rU ki:=⟨λt=>by rw[H7];rfl,λt=>by rw[H7];rfl,λt=>by rw[H7];rfl,λt=>by rw[H7];rfl⟩
theorem M8:rU gG:=⟨λt=>by rw[De];rfl,λt=>by rw[De];rfl,λt=>by rw[De];rfl,λt=>by rw[De];rfl⟩
def adz(vs:List V)(nx:Bool)(f:Tm->Tm):∀(ks:List Tm),(∀k∈ks,hq vs nx (f k)=hq vs nx k)->g6 vs nx (ks.map f)=g6 vs nx ks
 |[],_=>rfl|k::r,h=>by rw[xaB,g6,g6,h k (by simp),adz vs nx f r λk ak=>h k (by simp[ak])]
def auu{f:Tm->Tm}(bd:rU f)(t:Tm)(l:List Y):k4 (f t) l=k4 t l:=by unfold k4;rw[bd.op,bd.aT,xaj];cases ak:t.aT[1]? with|none=>rfl|some k=>simp only[xaO,bd.op,bd.num]
def auv{f:Tm->Tm}(bd:rU f)(vs:List V)(nx:Bool)(t:Tm):hq vs nx (f t)=hq vs nx t:=by
 refine Tm.ind (P:=λt=>hq vs nx (f t)=hq vs nx t) ?_ t;intro t ih;have aw:pL vs nx (f t)=pL vs nx t:=by simp only[pL,bd.op,bd.num,bd.name]
 rw[Dc,Dc vs nx t,bd.op,bd.aT,aw,adz vs nx f t.aT ih,auu bd]
def auw{f:Tm->Tm}(bd:rU f)(t:Tm):il (f t)=il t:=by simp only[il,bd.op,bd.num,bd.name,bd.aT,xaV]
def adA(f:Tm->Tm):∀(ks:List Tm),(∀k∈ks,∀d n,dg (f k) d n=dg k d n)->∀d n,fA (ks.map f) d n=fA ks d n
 |[],_,_,_=>rfl|k::r,h,d,n=>by rw[xaB,fA,fA,h k (by simp),adA f r λk ak=>h k (by simp[ak])]
def auy{f:Tm->Tm}(bd:rU f)(t:Tm):∀d n,dg (f t) d n=dg t d n:=by refine Tm.ind (P:=λt=>∀d n,dg (f t) d n=dg t d n) ?_ t;intro t ih d n;rw[u3,u3 t,auw bd,bd.aT,adA f t.aT ih]
def adB{f:Tm->Tm}(bd:rU f)(vs:List V)(nx:Bool)(t:Tm):qx vs nx (f t)=qx vs nx t:=by unfold qx;rw[auy bd,auv bd]
structure vf(l:List a8)(t:Tm)(p:Tm×Int):Prop where
 a:∀n,301000000<n->mu n [t.d,aP l]=some (.a1 [(if p.2=0 then ki p.1 else fK).d,J p.2])
 b:∀n,301000000<n->my n [t.d,aP l]=some (.a1 [(if p.2=0 then gG p.1 else fK).d,J p.2])
 x:p.2=0->p.1.cp/\p.1.bo<=12300/\(dg p.1 1 0).1=0/\(ki p.1).cp/\(gG p.1).cp/\∃h,kI l h t p.1
def adC{l:List a8}(aq:h5 12300 l)(Dh:l.length<=100)(t:Tm)(bm:t.cp)(aK:t.bo<=12300):∃p,vf l t p:=by
 by_cases au:(dg t 1 0).1=0
 case neg=>exact⟨(fK,(dg t 1 0).1),λn aM=>by rw[xac au];exact(TL aq n t bm aK (by omega)).1 au,λn aM=>by rw[xac au];exact(TN aq n t bm aK (by omega)).1 au,λh=>absurd h au⟩
 cases av:rP l t with
 |false=>exact⟨(fK,14),λn aM=>(TL aq n t bm aK (by omega)).2.1 au av,λn aM=>(TN aq n t bm aK (by omega)).2.1 au av,λh=>by cases h⟩
 |true=>
  obtain⟨X,kH⟩:=asL aq aK ((asX l t).1 av);have gj:(l.length+1)*(12300+1)+12300<=1300000:=by omega
  generalize (l.length+1)*(12300+1)+12300=bJ at*;have A:∀n,301000000<n->_:=λn aM=>(TL aq n t bm aK (by omega)).2.2 _ X au av kH (by omega);have B:∀n,301000000<n->_:=λn aM=>(TN aq n t bm aK (by omega)).2.2 _ X au av kH (by omega);obtain⟨bR,bY⟩:=TD X 1 0 (by omega);rw[bR]at A;by_cases aw:(dg X 1 0).1=0
  case neg=>simp only[aw,xaF]at A B;exact⟨(fK,(dg X 1 0).1),λn aM=>by rw[xac aw];exact A n aM,λn aM=>by rw[xac aw];exact B n aM,λh=>absurd h aw⟩
  simp only[aw,xaD]at A B;have bd:=acQ X 1 0 (by omega) aw;have adD:=kH.ok aq bm aK;have gJ:=as5 X 1 0 aw;have aAb:=(CZ X 1 0).2 aw;have adE:=(acM aq kH bm aK).1;rw[bd]at A adE;exact⟨(X,0),A,B,λ_=>⟨adD.1,by simp only;omega,aw,adE,atN X adD.1,bJ,kH⟩⟩
open Classical in
noncomputable def hY(l:List a8)(t:Tm):Tm×Int:=if h:∃p,vf l t p then Classical.choose h else(fK,0)
def adF{l:List a8}{t:Tm}(h:∃p,vf l t p):vf l t (hY l t):=by unfold hY;rw[dif_pos h];exact Classical.choose_spec h
noncomputable def gQ(m:aA)(nx:Bool)(t:Tm):Y×Int:=if(hY m.aR t).2≠0 then(fX,(hY m.aR t).2)else qx m.vars nx (hY m.aR t).1
noncomputable def pM(m:aA)(nx:Bool)(t:Tm):Int:=if((gQ m nx t).2==0&&!(gQ m nx t).1.b)=true then 13 else(gQ m nx t).2
structure Di(m:aA):Prop where
 d:h5 12300 m.aR
 dl:m.aR.length<=100
 oR:m.vars.length<=100
def Di.M9{m:aA}(h:Di m){t:Tm}(bm:t.cp)(aK:t.bo<=12300):vf m.aR t (hY m.aR t):=adF (adC h.d h.dl t bm aK)
theorem adG:D.agg [ay false,J 0,J 0]=fX.d:=rfl
theorem tp(y:Y):ad y.d 0=ay y.b:=rfl
theorem adH(y:Y):ad y.d 1=J y.lo:=rfl
theorem adI(y:Y):ad y.d 2=J y.ah:=rfl
theorem pN(y:Y):a5 3 y.d=true:=rfl
theorem adJ(y:Y):D.agg [ay y.b,J y.lo,J y.ah]=y.d:=rfl
section
variable{m:aA}(hm:Di m)(n:Nat)(aM:301000000<n)
include hm aM
theorem Ug{t:Tm}(bm:t.cp)(aK:t.bo<=12300)(nx:Bool):sY n [m.d,t.d,ay nx]=some (.a1 [(gQ m nx t).1.d,J (gQ m nx t).2]):=by
 have mh:=hm.M9 bm aK;have Dj:=hm.oR;unfold gQ;generalize hY m.aR t=p at*;have dy:=mh.a n aM;by_cases au:p.2=0
 .obtain⟨c1,nY,Na,z4,adK,_⟩:=mh.x au;have bD:(p.2 !=0)=false:=by simp[au]
  rw[xad au]at dy;have bf:=atF n m.vars (ki p.1) nx (by rw[TP];omega) z4 (by omega);rw[adB M7]at bf;rw[xac (by simpa using au)];simp only[sY,RM,go_sem,aA.agg,aA.a7,aA.bR,dy,bD,bf,pN,tp,adH,adI,adJ]
 have bD:(p.2 !=0)=true:=by simpa using au
 rw[xac au]at dy;rw[xad au];simp only[sY,RM,go_sem,aA.agg,aA.a7,aA.bR,dy,bD,adG]
theorem Uh{t:Tm}(bm:t.cp)(aK:t.bo<=12300)(nx:Bool):s9 n [m.d,t.d,ay nx]=some (.a1 [(gQ m nx t).1.d,J (gQ m nx t).2]):=by
 have mh:=hm.M9 bm aK;have Dj:=hm.oR;unfold gQ;generalize hY m.aR t=p at*;have dy:=mh.b n aM;by_cases au:p.2=0
 .obtain⟨c1,nY,Na,z4,adK,_⟩:=mh.x au;have bD:(p.2 !=0)=false:=by simp[au]
  rw[xad au]at dy;have bf:=atG n m.vars (gG p.1) nx (by rw[T6];omega) adK (by omega);rw[adB M8]at bf;rw[xac (by simpa using au)];simp only[s9,SO,go_sem,aA.agg,aA.a7,aA.bR,dy,bD,bf,pN,tp,adH,adI,adJ]
 have bD:(p.2 !=0)=true:=by simpa using au
 rw[xac au]at dy;rw[xad au];simp only[s9,SO,go_sem,aA.agg,aA.a7,aA.bR,dy,bD,adG]
theorem adL{t:Tm}(bm:t.cp)(aK:t.bo<=12300)(nx:Bool):wI n [m.d,t.d,ay nx]=some (J (pM m nx t)):=by
 have bf:=Ug hm n aM bm aK nx;unfold pM;by_cases h:((gQ m nx t).2==0&&!(gQ m nx t).1.b)=true;.rw[xad h];simp only[wI,RN,go_sem,aA.agg,aA.a7,aA.bR,aA.bY,aA.ct,aA.de,aA.ee,aA.ef,aA.e2,aA.eta,bf,pN,tp,h]
 have bx:((gQ m nx t).2==0&&!(gQ m nx t).1.b)=false:=by simpa using h
 rw[xac h];simp only[wI,RN,go_sem,aA.agg,aA.a7,aA.bR,aA.bY,aA.ct,aA.de,aA.ee,aA.ef,aA.e2,aA.eta,bf,pN,tp,bx]
theorem adM{t:Tm}(bm:t.cp)(aK:t.bo<=12300)(nx:Bool):wV n [m.d,t.d,ay nx]=some (J (pM m nx t)):=by
 have bf:=Uh hm n aM bm aK nx;unfold pM;by_cases h:((gQ m nx t).2==0&&!(gQ m nx t).1.b)=true;.rw[xad h];simp only[wV,SP,go_sem,aA.agg,aA.a7,aA.bR,aA.bY,aA.ct,aA.de,aA.ee,aA.ef,aA.e2,aA.eta,bf,pN,tp,h]
 have bx:((gQ m nx t).2==0&&!(gQ m nx t).1.b)=false:=by simpa using h
 rw[xac h];simp only[wV,SP,go_sem,aA.agg,aA.a7,aA.bR,aA.bY,aA.ct,aA.de,aA.ee,aA.ef,aA.e2,aA.eta,bf,pN,tp,bx]
end
def vg(N:Nat)(S:List Nat):List (List D):=(List.range N).map λj=>[ay (decide (j∈S))]
def kj(N:Nat)(S:List Nat):D:= .ax 1 (vg N S)
def Ik(N:Nat)(S:List Nat):(vg N S).length=N:=by simp[vg]
def Il{N:Nat}{S:List Nat}{k:Nat}(h:k<N):(vg N S)[k]?=some [ay (decide (k∈S))]:=by simp[vg,h]
def adN(N:Nat):List.replicate N [ay false]=vg N []:=by
 apply xbY;intro j;by_cases h:j<N;.rw[Il h];simp[h]
 rw[xbo (by simp;omega),xbo (by rw[Ik];omega)]
def auz{N:Nat}{S:List Nat}{k:Nat}(h:k<N):(vg N S).set k [ay true]=vg N (S++[k]):=by
 apply xbY;intro j;by_cases aN:j<N
 .rw[Il aN,List.getElem?_set];by_cases e:k=j;.subst e;simp[Ik,h]
  rw[xac e,Il aN];have:(j∈S++[k])↔j∈S:=by simp;omega
  simp only[this]
 rw[xbo (by simp[Ik];omega),xbo (by rw[Ik];omega)]
def iq(S:List Nat)(ks:List Nat):List Nat:=ks.foldl (λS k=>if k∈S then S else S++[k]) S
theorem Im(S:List Nat)(k:Nat)(r:List Nat):iq S (k::r)=iq (if k∈S then S else S++[k]) r:=rfl
structure auA(N:Nat)(S ks R:List Nat):Prop where
 inv:iR N R
 pre:∃T,R=S++T
 mem:∀k∈ks,k∈R
 of:∀x∈R,x∈S\/x∈ks
def Nb{N:Nat}:∀(ks S:List Nat),iR N S->(∀k∈ks,k<N)->auA N S ks (iq S ks)
 |[],S,h,_=>⟨h,⟨[],by simp[iq]⟩,by simp,λx ag=> .inl ag⟩
 |k::r,S,h,ak=>by
  rw[Im];by_cases eJ:k∈S
  .rw[xad eJ];have g:=Nb r S h λx ag=>ak x (by simp[ag]);obtain⟨T,bf⟩:=g.pre;refine⟨g.inv,g.pre,λx ag=>?_,λx ag=>(g.of x ag).elim .inl λh=> .inr (by simp[h])⟩;rcases xao.1 ag with rfl|ag
   .rw[bf];simp[eJ]
   exact g.mem x ag
  rw[xac eJ];have g:=Nb r (S++[k]) (h.snoc (ak k (by simp)) eJ) λx ag=>ak x (by simp[ag]);obtain⟨T,bf⟩:=g.pre;refine⟨g.inv,⟨[k]++T,by rw[bf];simp⟩,λx ag=>?_,λx ag=>?_⟩
  .rcases xao.1 ag with rfl|ag;.rw[bf];simp
   exact g.mem x ag
  rcases g.of x ag with h|h
  .rcases xas.1 h with h|h;.exact .inl h
   simp at h;subst h;exact .inr (by simp)
  exact .inr (by simp[h])
def vh(to:Nat->List Nat)(i:Nat):Nat->Nat->List Nat->List Nat
 |0,_,S=>S|m+1,k,S=>match(i::S)[k]? with|some x=>vh to i m (k+1) (iq S (to x))|none=>S
structure qy(to:Nat->List Nat)(N i k:Nat)(S:List Nat):Prop where
 inv:iR N S
 le:k<=S.length+1
 u7:∀j x,j<k->(i::S)[j]?=some x->∀y∈to x,y∈S
 rN:∀x∈S,∃j∈to i,kh to j x
def kh.snoc{to:Nat->List Nat}{i j k:Nat}(h:kh to i j)(bx:k∈to j):kh to i k:=h.trans (.step j k k bx (.refl k))
def qy.next{to:Nat->List Nat}{N i k:Nat}{S:List Nat}(h:qy to N i k S)(kU:∀i,∀k∈to i,k<N){x:Nat}(ag:(i::S)[k]?=some x):qy to N i (k+1) (iq S (to x)):=by
 have g:=Nb (to x) S h.inv (kU x);obtain⟨T,bf⟩:=g.pre;have ak:k<S.length+1:=by have:=(xae.1 ag).1;simpa using this
 have auB:∀j y,j<=k->(i::iq S (to x))[j]?=some y->(i::S)[j]?=some y:=by intro j y aN aQ;rw[bf,<-xcf,xaK (by simp;omega)]at aQ;exact aQ
 refine⟨g.inv,by rw[bf];simp;omega,?_,?_⟩
 .intro j y aN aQ z bD;have tL:=auB j y (by omega) aQ;by_cases e:j=k
  .subst e;rw[ag]at tL;cases tL;exact g.mem z bD
  have:=h.u7 j y (by omega) tL z bD;rw[bf];simp[this]
 intro y aQ;rcases g.of y aQ with ab|ab
 .exact h.rN y ab
 cases k with|zero=>simp at ag;subst ag;exact⟨y,ab,.refl y⟩|succ k=>have Tv:x∈S:=xaa (by simpa using ag);obtain⟨j,aN,av⟩:=h.rN x Tv;exact⟨j,aN,av.snoc ab⟩
def Ui{to:Nat->List Nat}{N i:Nat}(kU:∀i,∀k∈to i,k<N):∀(m k:Nat)(S:List Nat),qy to N i k S->N+1-k<m->(i∈vh to i m k S↔∃j∈to i,kh to j i)
 |0,_,_,_,h=>absurd h (xay _)
 |m+1,k,S,h,hm=>by
  rw[vh];have b6:=h.inv.len;cases ag:(i::S)[k]? with
  |some x=>
   have ak:k<S.length+1:=by have:=(xae.1 ag).1;simpa using this
   exact Ui kU m (k+1) _ (h.next kU ag) (by omega)
  |none=>
   have ak:S.length+1<=k:=by have:=List.getElem?_eq_none_iff.1 ag;simpa using this
   refine⟨λah=>h.rN i ah,?_⟩;have g8:∀a b,kh to a b->a∈S->b∈S:=by
    intro a b fG
    induction fG with|refl=>exact λh=>h|step p q r DS _ ih=>intro aU;obtain⟨j,aN⟩:=xaT.1 aU;have cM:=(xae.1 aN).1;exact ih (h.u7 (j+1) p (by omega) (by simpa using aN) q DS)
   rintro⟨j,aN,av⟩;exact g8 j i av (h.u7 0 i (by omega) (by simp) j aN)
def qy.start(to:Nat->List Nat)(N i:Nat):qy to N i 0 []:=⟨⟨by simp,by simp⟩,by simp,by intro j x h;omega,by simp⟩
theorem rV(x:List Nat):D.ax 1 (ar (c9 x))=c9 x:=rfl
def Io(x:List Nat):(ar (c9 x)).length=x.length:=by simp[c9]
def adO(x:List Nat)(k:Nat):D.ax 1 (ar (c9 x)++[[J (k:Int)]])=c9 (x++[k]):=by simp[c9]
def adP{x:List Nat}{j k:Nat}(h:x[j]?=some k):(ar (c9 x))[j]?=some [J (k:Int)]:=by simp[c9,h]
theorem oS(N:Nat)(x:List Nat):D.ax 1 (ar (kj N x))=kj N x:=rfl
def Ip(N:Nat)(x:List Nat):(ar (kj N x)).length=N:=Ik N x
def Iq{N:Nat}{S:List Nat}{k:Nat}(h:k<N):(ar (kj N S))[k]?=some [ay (decide (k∈S))]:=Il h
theorem adQ{N:Nat}{S:List Nat}{k:Nat}(h:k<N){w:Bool}:D.ax 1 ((ar (kj N S)).set k (dE [ay w] 0 [ay true]))=kj N (S++[k]):=by show D.ax 1 ((vg N S).set k [ay true])=_;rw[auz h];rfl
theorem z5(b:Bool):a3 false 1 0 [ay b]=some (ay b):=rfl
theorem Nc(i:Int):a3 false 1 0 [J i]=some (J i):=rfl
theorem Dk(s:ByteArray):a3 false 1 0 [aC s]=some (aC s):=rfl
theorem Nd{p:Option D}:bM (ay true) true p=p:=rfl
theorem Ir{p:Option D}:bM (ay false) true p=some ln:=rfl
theorem Nf{a b:D}:bW (ay true) a b=some a:=rfl
theorem Is{a b:D}:bW (ay false) a b=some b:=rfl
def adR{l:List a8}{x:ByteArray}{k:Nat}(h:ds l x=some k):k<l.length:=by obtain⟨_,_,_,h⟩:=Ri h;exact h
def auC(n:Nat)(l:List a8){B:Nat}(aq:h5 B l)(i k:Nat)(k7:List ByteArray)(S:List Nat)(dR:iR l.length S)(ak:k<=S.length+1)(gC:k7.length<=B)(aM:2*B+100<n):bp (y0 n) n [aP l,J (i:Int),bA k7,J k7.length,J 0,kj l.length S,c9 ((i::S).drop k)]=some (.inl [aP l,J (i:Int),kj l.length (iq S (k7.filterMap (ds l))),c9 ((i::iq S (k7.filterMap (ds l))).drop k)]):=by
 have b6:=aq.len;have aj:=aq.b;have ah:=dG (f:=y0 n) k7 (λj (s:List Nat)=>[aP l,J (i:Int),bA k7,J k7.length,J (j:Int),kj l.length s,c9 ((i::s).drop k)]) (λr s=>(.inl [aP l,J (i:Int),kj l.length (iq s (r.filterMap (ds l))),c9 ((i::iq s (r.filterMap (ds l))).drop k)]:List D⊕(List D⊕(List D⊕(List D⊕D))))) (λj s=>iR l.length s/\k<=s.length+1) (λs _=>by simp only[y0,go_sem,yF ((k7.length:Int)<k7.length),oS,rV];rfl) ?_ n 0 S ⟨dR,ak⟩ (by omega) (xai _)
 .exact ah
 rintro j x s ag aN ⟨ab,af⟩;have iz:=auq n l x (by omega) (by omega);have gn:=ab.len;have cM:=yT ((j:Int)<(k7.length:Int));left;cases aB:ds l x with
 |none=>rw[aB]at iz;refine⟨s,?_,by simp[aB],ab,af⟩;have jy:decide (gH none>=0)=false:=rfl;simp only[y0,go_sem,cM,n0 ag,Dk,iz,jy,Ir,Is,oS,rV,b1 (bt:=false) (i:=j) (by omega)]
 |some y=>
  have aQ:=adR aB;rw[aB]at iz;have jy:decide ((y:Int)>=0)=true:=xav (by omega);have fW:cg l.length (J (y:Int))=some y:=by rw[oB,xad aQ]
  have It:gH (some y)=(y:Int):=rfl;by_cases nP:y∈s;.refine⟨s,?_,by simp[aB,Im,nP],ab,af⟩;simp only[y0,go_sem,cM,n0 ag,Dk,iz,It,jy,Ip,fW,Iq aQ,z5,xav nP,Nd,Nf,oS,rV,b1 (bt:=false) (i:=j) (by omega)]
  have aw:=ab.snoc aQ nP;refine⟨s++[y],?_,by simp only[xbL,aB,Im,xac nP],aw,by simp;omega⟩;have aL:(i::(s++[y])).drop k=(i::s).drop k++[y]:=by rw[<-xcf,List.drop_append_of_le_length (by simpa using af)]
  have dM:c5 (((i::s).drop k).length+1) 8=true:=gk (by simp;omega) (by simp;omega);rw[aL];simp only[y0,go_sem,cM,n0 ag,Dk,iz,It,jy,Ip,fW,Iq aQ,z5,xaE nP,Nd,Nf,Io,xap,xar,xau,dM,adQ aQ,adO,oS,rV,b1 (bt:=false) (i:=j) (by omega)]
def adS(n:Nat)(l:List a8){B:Nat}(aq:h5 B l)(i:Nat)(ch:i<l.length)(aM:4*B+200<n):∀(m k:Nat)(S:List Nat),qy (to l) l.length i k S->l.length+1-k<m->bp (Lz n) m [aP l,J (i:Int),kj l.length S,c9 ((i::S).drop k)]=some (.inl [J (i:Int),kj l.length (vh (to l) i m k S)])
 |0,_,_,_,h=>absurd h (xay _)
 |m+1,k,S,h,hm=>by
  have b6:=aq.len;have aj:=aq.b;rw[jH,vh];have auD:=h.inv.len;have hle:=h.le;cases ag:(i::S)[k]? with
  |none=>
   have ak:S.length+1<=k:=by have:=List.getElem?_eq_none_iff.1 ag;simpa using this
   have bF:(i::S).drop k=[]:=xcg (by simpa using ak);rw[bF];have aL:(ar (c9 [])).length=0:=rfl;have aX:decide (((0:Nat):Int)>0)=false:=rfl;simp only[Lz,go_sem,aL,aX,oS]
  |some x=>
   have ak:k<S.length+1:=by have:=(xae.1 ag).1;simpa using this
   have lg:x<l.length:=by cases k with|zero=>simp at ag;omega|succ k=>exact h.inv.2 x (xaa (by simpa using ag))
   obtain⟨d,aB⟩:∃d,l[x]?=some d:=⟨l[x],xab lg⟩;have h6:=aq.e d (xaa aB);have mH:=h.next (λi k ak=>lz i k ak) ag
   have ih:=adS n l aq i ch aM m (k+1) _ mH (by omega);have cj:=MH n d.e (by omega) h6.1 (by omega);have nt:=C2 d.e;have gx:=auC n l aq i k (dO 3 d.e []) S h.inv hle (by omega) (by omega);have kU:(dO 3 d.e []).filterMap (ds l)=to l x:=by rw[C3 aB];rfl
   rw[kU]at gx;obtain⟨T,bf⟩:=(Nb (N:=l.length) (to l x) S h.inv (lz x)).pre;have JK:((i::iq S (to l x)).drop k).length=(iq S (to l x)).length+1-k:=by simp
   have fv:=mH.le;have adT:((i::S).drop k).length=S.length+1-k:=by simp
   have JG:decide (((((i::S).drop k).length:Nat):Int)>0)=true:=xav (by rw[adT];omega);have auE:((i::S).drop k)[0]?=some x:=by rw[xaW];exact ag
   have fW:cg ((i::S).drop k).length (J 0)=some 0:=by have:(J 0)=J ((0:Nat):Int):=rfl;rw[this,oB,xad (by rw[adT];omega)]
   have auF:pe ((i::iq S (to l x)).drop k).length (some (J 1)) none=some (1,((i::iq S (to l x)).drop k).length-1):=by
    have ab:1<=((i::iq S (to l x)).drop k).length:=by rw[JK];omega
    generalize ((i::iq S (to l x)).drop k).length=q at*;have:(J 1)=J ((1:Nat):Int):=rfl;rw[this];simp[pe,sA,J,ab]
   have auG:decide (1+(((i::iq S (to l x)).drop k).length-1)<=((i::iq S (to l x)).drop k).length)=true:=xav (by rw[JK];omega);have auH:D.ax 1 (((ar (c9 ((i::iq S (to l x)).drop k))).drop 1).take (((i::iq S (to l x)).drop k).length-1))=c9 ((i::iq S (to l x)).drop (k+1)):=by
    have bL:((((i::iq S (to l x)).drop k).drop 1).take (((i::iq S (to l x)).drop k).length-1))=(i::iq S (to l x)).drop (k+1):=by rw[List.drop_drop,xbJ];simp;omega
    show D.ax 1 (((((i::iq S (to l x)).drop k).map λ(i:Nat)=>[J (i:Int)]).drop 1).take _)=c9 _;rw[<-bL];unfold c9;simp only[List.map_take,List.map_drop]
   simp only[Lz,go_sem,Io,JG,fW,adP auE,Nc,eZ aB,a8.ho,cj,lX,oS,rV,gx,auF,auG,auH,ih]
def auI(n:Nat)(m:aA){l:List a8}{B:Nat}(aq:h5 B l)(i:Nat)(ah:i<l.length)(aM:4*B+200<n):BR n [aP l,m.d,J (i:Int)]=some (J (if jo l i=true then 14 else 0)):=by
 have b6:=aq.len;have aj:=aq.b;have aw:=adS n l aq i ah aM n 0 [] (qy.start _ _ _) (by omega);have Dl:=Ui (λi k ak=>lz i k ak) n 0 [] (qy.start (to l) l.length i) (by omega);rw[<-Tx l i]at Dl;generalize vh (to l) i n 0 []=S at*;have H5:q1 1 (J (l.length:Int)) (J (l.length:Int))=some l.length:=by simp[q1,J];omega
 have aL:D.ax 1 (List.replicate l.length [ay false])=kj l.length []:=by rw[adN];rfl
 have aX:D.ax 1 [[J (i:Int)]]=c9 ((i::[]).drop 0):=rfl;have fW:cg l.length (J (i:Int))=some i:=by rw[oB,xad ah]
 simp only[BR,ZO,go_sem,aA.agg,dT,H5,aL,aX,aw,Ip,fW,Iq ah,z5];by_cases h:jo l i=true;.rw[xad h,xad (xav (Dl.2 h))]
 rw[xac h,xac (by simpa usingλbJ=>h (Dl.1 bJ))]
def adU(n:Nat)(m:aA)(x:ByteArray)(aM:m.aR.length<n)(aq:m.aR.length<1000000000):zs n [m.d,aC x]=some (J (gH (ds m.aR x))):=by
 have ah:=dG (f:=Hb n) m.aR (λi (_:Unit)=>[aC x,J (i:Int),bj m.vars,aP m.aR,az m.bP,az m.bQ,aP m.next,az m.trans,az m.bS,bZ m.bI]) (λr _=>match ds r x with|some j=>(Sum.inr (J ((m.aR.length-r.length+j:Nat):Int)):List D⊕D)|none=> .inl []) (λ_ _=>True) (λ_ _=>by simp[Hb,dT,ds]) ?_ n 0 () trivial (by omega) (xai _);.have bF:(J ((0:Nat):Int))=J 0:=rfl;rw[bF]at ah;simp only[zs,aam,go_sem,aA.agg,aA.a7,aA.bR,aA.bY,aA.ct,aA.de,aA.ee,aA.ef,aA.e2,ah,xak];cases ds m.aR x<;>simp[gH]
 intro i a _ aE ah _;have e:m.aR.length-(a::m.aR.drop (i+1)).length=i:=by simp;omega
 have dp:m.aR.length-(m.aR.drop (i+1)).length=i+1:=by simp;omega
 have nC:ds (a::m.aR.drop (i+1)) x=if a.name=x then some 0 else(ds (m.aR.drop (i+1)) x).map (·+1):=by simp[ds,xbU]
 have ae:a.cells[0]?=some (aC a.name):=rfl;by_cases ag:a.name=x;.right;rw[nC,xad ag,e];simp[Hb,dT,ah,eZ aE,ae,ag]
 left;refine⟨(),by simp[Hb,dT,ah,eZ aE,ae,ag,b1 (bt:=false) (i:=i) (by omega)],?_,trivial⟩;rw[nC,xac ag,e,dp];cases ds (m.aR.drop (i+1)) x with|none=>rfl|some j=>simp;omega
def adV(n:Nat)(m:aA)(x:ByteArray)(aM:m.vars.length<n)(aq:m.vars.length<1000000000):zr n [m.d,aC x]=some (J (gH (fk m.vars x))):=by
 have ah:=dG (f:=Ha n) m.vars (λi (_:Unit)=>[aC x,J (i:Int),bj m.vars,aP m.aR,az m.bP,az m.bQ,aP m.next,az m.trans,az m.bS,bZ m.bI]) (λr _=>match fk r x with|some j=>(Sum.inr (J ((m.vars.length-r.length+j:Nat):Int)):List D⊕D)|none=> .inl []) (λ_ _=>True) (λ_ _=>by simp[Ha,fB,fk]) ?_ n 0 () trivial (by omega) (xai _);.have bF:(J ((0:Nat):Int))=J 0:=rfl;rw[bF]at ah;simp only[zr,aal,go_sem,aA.agg,aA.a7,aA.bR,aA.bY,aA.ct,aA.de,aA.ee,aA.ef,aA.e2,ah,xak];cases fk m.vars x<;>simp[gH]
 intro i a _ aE ah _;have e:m.vars.length-(a::m.vars.drop (i+1)).length=i:=by simp;omega
 have dp:m.vars.length-(m.vars.drop (i+1)).length=i+1:=by simp;omega
 have nC:fk (a::m.vars.drop (i+1)) x=if a.name=x then some 0 else(fk (m.vars.drop (i+1)) x).map (·+1):=by simp[fk,xbU]
 have ae:a.cells[0]?=some (aC a.name):=rfl;by_cases ag:a.name=x;.right;rw[nC,xad ag,e];simp[Ha,fB,ah,g5 aE,ae,ag]
 left;refine⟨(),by simp[Ha,fB,ah,g5 aE,ae,ag,b1 (bt:=false) (i:=i) (by omega)],?_,trivial⟩;rw[nC,xac ag,e,dp];cases fk (m.vars.drop (i+1)) x with|none=>rfl|some j=>simp;omega
def auJ(n:Nat)(m:aA){B:Nat}(aq:h5 B m.aR)(i:Nat)(k:Int)(k7:List ByteArray)(S:List Nat)(dR:iR m.aR.length S)(gC:k7.length<=B)(aM:2*B+100<n):bp (zv n) n [J k,gP true k7,J 0,bj m.vars,aP m.aR,az m.bP,az m.bQ,aP m.next,az m.trans,az m.bS,bZ m.bI,kj m.aR.length S,c9 (i::S)]=some (.inl [J k,bj m.vars,aP m.aR,az m.bP,az m.bQ,aP m.next,az m.trans,az m.bS,bZ m.bI,kj m.aR.length (iq S (k7.filterMap (ds m.aR))),c9 (i::iq S (k7.filterMap (ds m.aR)))]):=by
 have b6:=aq.len;have aj:=aq.b;have ah:=dG (f:=zv n) k7 (λj (s:List Nat)=>[J k,gP true k7,J (j:Int),bj m.vars,aP m.aR,az m.bP,az m.bQ,aP m.next,az m.trans,az m.bS,bZ m.bI,kj m.aR.length s,c9 (i::s)]) (λr s=>(.inl [J k,bj m.vars,aP m.aR,az m.bP,az m.bQ,aP m.next,az m.trans,az m.bS,bZ m.bI,kj m.aR.length (iq s (r.filterMap (ds m.aR))),c9 (i::iq s (r.filterMap (ds m.aR)))]:List D⊕(List D⊕(List D⊕(List D⊕D))))) (λj s=>iR m.aR.length s) (λs _=>by simp only[zv,go_sem,kg,yF ((k7.length:Int)<k7.length),oS,rV];rfl) ?_ n 0 S dR (by omega) (xai _)
 .exact ah
 rintro j x s ag aN ab;have iz:=adU n m x (by omega) (by omega);have gn:=ab.len;have fo:=pG (nl:=true) ag;have cM:=yT ((j:Int)<(k7.length:Int));left;cases aB:ds m.aR x with
 |none=>rw[aB]at iz;refine⟨s,?_,by simp[aB],ab⟩;have jy:decide (gH none>=0)=false:=rfl;simp only[zv,go_sem,kg,cM,fo,Dk,aA.eta,iz,jy,Ir,Is,oS,rV,b1 (bt:=false) (i:=j) (by omega)]
 |some y=>
  have aQ:=adR aB;rw[aB]at iz;have jy:decide ((y:Int)>=0)=true:=xav (by omega);have fW:cg m.aR.length (J (y:Int))=some y:=by rw[oB,xad aQ]
  have It:gH (some y)=(y:Int):=rfl;by_cases nP:y∈s;.refine⟨s,?_,by simp[aB,Im,nP],ab⟩;simp only[zv,go_sem,kg,cM,fo,Dk,aA.eta,iz,It,jy,Ip,fW,Iq aQ,z5,xav nP,Nd,Nf,oS,rV,b1 (bt:=false) (i:=j) (by omega)]
  have aw:=ab.snoc aQ nP;refine⟨s++[y],?_,by simp only[xbL,aB,Im,xac nP],aw⟩;have aL:i::(s++[y])=(i::s)++[y]:=rfl;have dM:c5 ((i::s).length+1) 8=true:=gk (by simp;omega) (by simp;omega);rw[aL];simp only[zv,go_sem,kg,cM,fo,Dk,aA.eta,iz,It,jy,Ip,fW,Iq aQ,z5,xaE nP,Nd,Nf,Io,xap,xar,xau,adQ aQ,adO,oS,rV,b1 (bt:=false) (i:=j) (by omega)]at dM⊢;simp only[dM,sI,eH,qd,nS,pr,b1 (bt:=false) (i:=j) (by omega),oS,rV]
def adW(n:Nat)(kk:aA){B:Nat}(aq:h5 B kk.aR)(i:Nat)(ch:i<kk.aR.length)(aM:4*B+200<n):∀(m k:Nat)(S:List Nat),qy (to kk.aR) kk.aR.length i k S->kk.aR.length+1-k<m->bp (Mg n) m [J (k:Int),bj kk.vars,aP kk.aR,az kk.bP,az kk.bQ,aP kk.next,az kk.trans,az kk.bS,bZ kk.bI,kj kk.aR.length S,c9 (i::S)]=some (.inl [kj kk.aR.length (vh (to kk.aR) i m k S)])
 |0,_,_,_,h=>absurd h (xay _)
 |m+1,k,S,h,hm=>by
  have b6:=aq.len;have aj:=aq.b;rw[jH,vh];have auD:=h.inv.len;have hle:=h.le;cases ag:(i::S)[k]? with
  |none=>
   have ak:S.length+1<=k:=by have:=List.getElem?_eq_none_iff.1 ag;simpa using this
   have aX:decide ((k:Int)<(((i::S).length:Nat):Int))=false:=xaE (by simp;omega);simp only[Mg,go_sem,Io,aX,oS]
  |some x=>
   have ak:k<S.length+1:=by have:=(xae.1 ag).1;simpa using this
   have lg:x<kk.aR.length:=by cases k with|zero=>simp at ag;omega|succ k=>exact h.inv.2 x (xaa (by simpa using ag))
   obtain⟨d,aB⟩:∃d,kk.aR[x]?=some d:=⟨kk.aR[x],xab lg⟩;have h6:=aq.e d (xaa aB);have mH:=h.next (λi k ak=>lz i k ak) ag
   have ih:=adW n kk aq i ch aM m (k+1) _ mH (by omega);have cj:=ME n d.e (by omega) h6.1 (by omega);have nt:=C2 d.e;have gx:=auJ n kk aq i k (dO 3 d.e []) S h.inv (by omega) (by omega);have kU:(dO 3 d.e []).filterMap (ds kk.aR)=to kk.aR x:=by rw[C3 aB];rfl
   rw[kU]at gx;have JG:decide ((k:Int)<(((i::S).length:Nat):Int))=true:=xav (by simp;omega);have fW:cg (i::S).length (J (k:Int))=some k:=by rw[oB,xad (by simpa using ak)]
   have wm:((k:Int)+1)=((k+1:Nat):Int):=by omega
   simp only[Mg,go_sem,Io,JG,fW,adP ag,Nc,eZ aB,a8.ho,cj,oS,rV,gx,b1 (bt:=false) (i:=k) (by omega),ih]
def auK(n:Nat)(m:aA){B:Nat}(aq:h5 B m.aR)(i:Nat)(ah:i<m.aR.length)(aM:4*B+200<n):∃S,Hf n [m.d,J (i:Int)]=some (kj m.aR.length S)/\(i∈S↔jo m.aR i=true):=by
 have b6:=aq.len;have aj:=aq.b;have aw:=adW n m aq i ah aM n 0 [] (qy.start _ _ _) (by omega);have Dl:=Ui (λi k ak=>lz i k ak) n 0 [] (qy.start (to m.aR) m.aR.length i) (by omega);rw[<-Tx m.aR i]at Dl;generalize vh (to m.aR) i n 0 []=S at*;refine⟨S,?_,Dl⟩;have H5:q1 1 (J (m.aR.length:Int)) (J (m.aR.length:Int))=some m.aR.length:=by simp[q1,J];omega
 have aL:D.ax 1 (List.replicate m.aR.length [ay false])=kj m.aR.length []:=by rw[adN];rfl
 have aX:D.ax 1 [[J (i:Int)]]=c9 (i::[]):=rfl;have bF:(J ((0:Nat):Int))=J 0:=rfl;rw[bF]at aw;simp only[Hf,aaq,go_sem,aA.agg,aA.a7,aA.bR,aA.bY,aA.ct,aA.de,aA.ee,aA.ef,aA.e2,dT,H5,aL,aX,aw,oS]
def cH(e:Nat->Int):Nat->Nat->Int×Int
 |0,_=>(0,0)|m+1,i=>if e i=0 then cH e m (i+1)else((i:Int),e i)
def Iu(e:Nat->Int):∀(m i:Nat),(cH e m i).2=0↔∀j,i<=j->j<i+m->e j=0
 |0,i=>by simp[cH];intro j ab af;omega
 |m+1,i=>by
  rw[cH];by_cases h:e i=0
  .rw[xad h,Iu e m (i+1)];constructor
   .intro ab j af aw;by_cases aN:j=i;.subst aN;exact h
    exact ab j (by omega) (by omega)
   intro ab j af aw;exact ab j (by omega) (by omega)
  rw[xac h];exact⟨λab=>absurd ab h,λab=>absurd (ab i (xal _) (by omega)) h⟩
def rW(e:Nat->Int)(m i:Nat)(h:(cH e m i).2=0):cH e m i=(0,0):=by
 induction m generalizing i with
 |zero=>rfl
 |succ m ih=>
  rw[cH]at h⊢;by_cases au:e i=0;.rw[xad au]at h⊢;exact ih (i+1) h
  rw[xac au]at h;exact absurd h au
def n6{dY:Type}{f:List D->Option (List D⊕(List D⊕dY))}(eQ:Nat->List D)(e:Nat->Int)(N:Nat)(L:List D)(W:Int×Int->dY) (aG:∀i,i<N->f (eQ i)=some (if e i=0 then .inl (eQ (i+1))else .inr (.inr (W ((i:Int),e i))))) (he:f (eQ N)=some (.inr (.inl L))): ∀(m i n:Nat),i+m=N->m<n->bp f n (eQ i)=some (if(cH e m i).2=0 then .inl L else .inr (W (cH e m i)))
 |0,i,n,h,aM=>by
  obtain⟨k,rfl⟩:∃k,n=k+1:=⟨n-1,by omega⟩;have:i=N:=by omega
  subst this;rw[jH,he];rfl
 |m+1,i,n,h,aM=>by
  obtain⟨k,rfl⟩:∃k,n=k+1:=⟨n-1,by omega⟩;rw[jH,aG i (by omega),cH];by_cases au:e i=0;.rw[xad au,xad au];exact n6 eQ e N L W aG he m (i+1) k (by omega) (by omega)
  rw[xac au,xac au];simp only[eH,xac au]
structure Dm(m:aA)(n:Nat):Prop where
 bo:Di m
 ir:302000000<n
 Ng:z3 m.vars
 adX:∀v∈m.vars,v.name.size+24<n
 tq:∀d∈m.aR,d.name.size+24<n/\d.name.size<=9223372036854775807
 bP:m.bP.length<=100/\∀t∈m.bP,t.cp/\t.bo<=12300
 bQ:m.bQ.length<=100/\∀t∈m.bQ,t.cp/\t.bo<=12300
 next:m.next.length<=100/\∀d∈m.next,d.e.cp/\d.e.bo<=12300
 trans:m.trans.length<=100/\∀t∈m.trans,t.cp/\t.bo<=12300
 bS:m.bS.length<=100/\∀t∈m.bS,t.cp/\t.bo<=12300
 bI:m.bI.length<=100/\∀s∈m.bI,(s.f.cp/\s.f.bo<=12300)/\s.name.size+24<n/\s.name.size<=9223372036854775807
noncomputable section
mutual
def l1(m:aA):Fm->Int
 | .mk o t b ks=>if o=1 then pM m false t else m0 m ks
def m0(m:aA):List Fm->Int
 |[]=>0|k::r=>if l1 m k=0 then m0 m r else l1 m k
end
theorem Uj(m:aA)(f:Fm):l1 m f=if f.op=1 then pM m false f.e else m0 m f.aT:=by cases f;rw[l1];rfl
def lC(m:aA)(i:Nat):Int:=match m.aR[i]? with
 |some d=>if isName d.name=true then(if((fk m.vars d.name).isSome||(ds (m.aR.take i) d.name).isSome)=true then 6 else 0)else 12
 |none=>0
def l2(m:aA)(i:Nat):Int:=if jo m.aR i=true then 14 else 0
def lD(m:aA)(i:Nat):Int:=match m.aR[i]? with|some d=>(gQ m false d.e).2|none=>0
def fg(m:aA)(l:List Tm)(nx:Bool)(i:Nat):Int:=match l[i]? with|some t=>pM m nx t|none=>0
def jL(m:aA)(i:Nat):Int:=match m.next[i]? with
 |some d=>match fk m.vars d.name with|none=>12|some k=>if(ds (m.next.take i) d.name).isSome=true then 6 else if((gQ m false d.e).2==0&&((gQ m false d.e).1.b !=(m.vars[k]?.map V.bool).getD false))=true then 13 else(gQ m false d.e).2
 |none=>0
def jM(m:aA)(i:Nat):Int:=match m.bI[i]? with
 |some s=>if isName s.name=true then(if(n5 (m.bI.take i) s.name).isSome=true then 6 else if lA s.f=0 then l1 m s.f else lA s.f)else 12
 |none=>0
end
def adY{l:List a8}{i:Nat}(h:i<=l.length):q0 5 (aP l) none (some (J (i:Int)))=some (aP (l.take i)):=by rw[aP,Ua (by simpa using h)];simp[aP,List.map_take]
def auL{l:List cy}{i:Nat}(h:i<=l.length):q0 7 (bZ l) none (some (J (i:Int)))=some (bZ (l.take i)):=by rw[bZ,Ua (by simpa using h)];simp[bZ,List.map_take]
def adZ{m:aA}(hm:Di m):∀(n:Nat)(f:Fm),301000000+f.bo<n->f.cp->f.bo<=12300->sZ n [m.d,f.d]=some (J (l1 m f))
 |0,_,h,_,_=>absurd h (xay _)
 |n+1,f,aM,bm,aG=>by
  have H9:=f.yu;have p9:=f.kc;rw[Uj];have bf:=adL hm n (by omega) bm.e (by omega) false;have b6:bK (cl 6 f.nl (Fm.rows f.aT))=some (J f.aT.length):=by simp
  have aq:=dG (f:=F6 (sZ n) n) f.aT (λi (_:Unit)=>[cl 6 f.nl (Fm.rows f.aT),J f.aT.length,J (i:Int),bj m.vars,aP m.aR,az m.bP,az m.bQ,aP m.next,az m.trans,az m.bS,bZ m.bI]) (λr _=>if m0 m r=0 then(.inl []:List D⊕D)else .inr (J (m0 m r))) (λ_ _=>True) ?_ ?_ n 0 () trivial (by have:=f.kc;omega) (xai _)
  .have bF:(J ((0:Nat):Int))=J 0:=rfl;rw[bF,xak]at aq;show F7 (sZ n) n m.d f.d=_;by_cases ab:f.op=1
   .have eW:(f.op==1)=true:=by simp[ab]
    simp only[F7,go_sem,aA.agg,eW,xad ab,aA.a7,aA.bR,aA.bY,aA.ct,aA.de,aA.ee,aA.ef,aA.e2,aA.eta,bf]
   have eW:(f.op==1)=false:=by simpa using ab
   simp only[F7,go_sem,aA.agg,eW,xac ab,aA.a7,aA.bR,aA.bY,aA.ct,aA.de,aA.ee,aA.ef,aA.e2,aA.eta,b6,aq];by_cases au:m0 m f.aT=0;.rw[xad au,au,qd]
   rw[xac au,EW]
  .intro _ _;simp only[F6,go_sem,yF ((f.aT.length:Int)<f.aT.length),m0]
  intro i a _ aE ah _;have ic:=xaa aE;have bD:=Fm.jk ic;have av:=adZ hm n a (by omega) (bm.gz ic) (by omega);have cM:=yT ((i:Int)<(f.aT.length:Int));by_cases au:l1 m a=0
  .left;rw[au]at av;refine⟨(),?_,by simp only[m0,au,xaD],trivial⟩;have bD:((0:Int) !=0)=false:=rfl;simp only[F6,go_sem,cM,Fm.gE aE,aA.eta,av,bD,b1 (bt:=false) (i:=i) (by omega)]
  right;have bD:(l1 m a !=0)=true:=by simpa using au
  simp only[F6,go_sem,cM,Fm.gE aE,aA.eta,av,bD,m0,xac au]
def ad0{m:aA}(hm:Di m):∀(n:Nat)(f:Fm),301000000+f.bo<n->f.cp->f.bo<=12300->tb n [m.d,f.d]=some (J (l1 m f))
 |0,_,h,_,_=>absurd h (xay _)
 |n+1,f,aM,bm,aG=>by
  have H9:=f.yu;have p9:=f.kc;rw[Uj];have bf:=adM hm n (by omega) bm.e (by omega) false;have b6:bK (cl 6 f.nl (Fm.rows f.aT))=some (J f.aT.length):=by simp
  have aq:=dG (f:=HC (tb n) n) f.aT (λi (_:Unit)=>[J (i:Int),bj m.vars,aP m.aR,az m.bP,az m.bQ,aP m.next,az m.trans,az m.bS,bZ m.bI,J f.op,J f.e.op,J f.e.num,aC f.e.name,cl 4 f.e.nl (Tm.rows f.e.aT),cl 6 f.nl (Fm.rows f.aT)]) (λr _=>if m0 m r=0 then(.inl []:List D⊕D)else .inr (J (m0 m r))) (λ_ _=>True) ?_ ?_ n 0 () trivial (by have:=f.kc;omega) (xai _)
  .have bF:(J ((0:Nat):Int))=J 0:=rfl;rw[bF,xak]at aq;show HD (tb n) n m.d f.d=_;by_cases ab:f.op=1
   .have eW:(f.op==1)=true:=by simp[ab]
    simp only[HD,go_sem,aA.agg,eW,xad ab,aA.a7,aA.bR,aA.bY,aA.ct,aA.de,aA.ee,aA.ef,aA.e2,aA.eta,bf]
   have eW:(f.op==1)=false:=by simpa using ab
   simp only[HD,go_sem,aA.agg,eW,xac ab,aA.a7,aA.bR,aA.bY,aA.ct,aA.de,aA.ee,aA.ef,aA.e2,aA.eta,b6,aq];by_cases au:m0 m f.aT=0;.rw[xad au,au,qd]
   rw[xac au,EW]
  .intro _ _;simp only[HC,go_sem,b6,yF ((f.aT.length:Int)<f.aT.length),m0]
  intro i a _ aE ah _;have ic:=xaa aE;have bD:=Fm.jk ic;have av:=ad0 hm n a (by omega) (bm.gz ic) (by omega);have cM:=yT ((i:Int)<(f.aT.length:Int));by_cases au:l1 m a=0
  .left;rw[au]at av;refine⟨(),?_,by simp only[m0,au,xaD],trivial⟩;have bD:((0:Int) !=0)=false:=rfl;simp only[HC,go_sem,b6,cM,Fm.gE aE,aA.eta,av,bD,b1 (bt:=false) (i:=i) (by omega)]
  right;have bD:(l1 m a !=0)=true:=by simpa using au
  simp only[HC,go_sem,b6,cM,Fm.gE aE,aA.eta,av,bD,m0,xac au]
section
variable{m:aA}{n:Nat}(hm:Dm m n)
include hm
theorem auM(i:Nat)(ah:i<m.aR.length):uJ n [aP m.aR,m.d,J (i:Int)]=some (J (lC m i)):=by have aj:=hm.ir;have Az:=hm.bo.dl;have Dj:=hm.bo.oR;obtain⟨d,aB⟩:∃d,m.aR[i]?=some d:=⟨m.aR[i],xab ah⟩;have Iv:=hm.tq d (xaa aB);have cj:=T8 n d.name (by omega) Iv.2;have hJ:=aug n m.vars d.name (by omega) (by omega);have cZ:=auj n (m.aR.take i) d.name (by simp;omega) (by simp;omega);have aG:=adY (l:=m.aR) (i:=i) (by omega);simp only[lC,aB];cases ab:isName d.name with|false=>simp only[uJ,Gq,go_sem,aA.agg,eZ aB,a8.fY,cj,ab]|true=>cases af:(fk m.vars d.name).isSome with|true=>simp only[uJ,Gq,go_sem,aA.agg,aA.a7,eZ aB,a8.fY,cj,ab,hJ,af]|false=>cases aw:(ds (m.aR.take i) d.name).isSome with|true=>simp only[uJ,Gq,go_sem,aA.agg,aA.a7,eZ aB,a8.fY,cj,ab,hJ,af,aG,cZ,aw,Bool.or_false,xbN]|false=>simp only[uJ,Gq,go_sem,aA.agg,aA.a7,eZ aB,a8.fY,cj,ab,hJ,af,aG,cZ,aw,Bool.or_false,xbN]
theorem auN(i:Nat)(ah:i<m.aR.length):BQ n [aP m.aR,m.d,J (i:Int)]=some (J (lD m i)):=by have aj:=hm.ir;obtain⟨d,aB⟩:∃d,m.aR[i]?=some d:=⟨m.aR[i],xab ah⟩;have h6:=hm.bo.d.e d (xaa aB);have bf:=Ug hm.bo n (by omega) h6.1 h6.2 false;simp only[lD,aB];simp only[BQ,ZM,go_sem,aA.agg,aA.a7,aA.bR,aA.bY,aA.ct,aA.de,aA.ee,aA.ef,aA.e2,aA.eta,eZ aB,a8.ho,bf,pN]
theorem auO(l:List Tm)(aq:∀t∈l,t.cp/\t.bo<=12300)(k:Int)(nx:Bool)(i:Nat)(ah:i<l.length):BP n [.agg [J k,az l,ay nx],m.d,J (i:Int)]=some (J (fg m l nx i)):=by have aj:=hm.ir;obtain⟨t,aK⟩:∃t,l[i]?=some t:=⟨l[i],xab ah⟩;have Iw:=aq t (xaa aK);have bf:=adL hm.bo n (by omega) Iw.1 Iw.2 nx;have aE:a5 3 (.agg [J k,az l,ay nx])=true:=rfl;have bR:ad (.agg [J k,az l,ay nx]) 1=az l:=rfl;have bY:ad (.agg [J k,az l,ay nx]) 2=ay nx:=rfl;simp only[fg,aK];simp only[BP,ZL,go_sem,aE,bR,bY,aA.agg,aA.a7,aA.bR,aA.bY,aA.ct,aA.de,aA.ee,aA.ef,aA.e2,aA.eta,lZ aK,bf]
theorem auP(i:Nat)(ah:i<m.next.length):wJ n [aP m.next,m.d,J (i:Int)]=some (J (jL m i)):=by
 have aj:=hm.ir;have wx:=hm.next.1
 have Dj:=hm.bo.oR;obtain⟨d,aB⟩:∃d,m.next[i]?=some d:=⟨m.next[i],xab ah⟩
 have h6:=hm.next.2 d (xaa aB)
 have bf:=Ug hm.bo n (by omega) h6.1 h6.2 false;have hJ:=aul n m.vars d.name (by omega) (by omega);have cZ:=auo n (m.next.take i) d.name (by simp;omega) (by simp;omega);have aG:=adY (l:=m.next) (i:=i) (by omega);simp only[jL,aB];cases ab:fk m.vars d.name with
 |none=>have au:decide (gH none<0)=true:=rfl;simp only[wJ,Lx,go_sem,aA.agg,aA.a7,eZ aB,a8.fY,hJ,ab,au]
 |some k=>
  have au:decide (gH (some k)<0)=false:=by rw[ady];rfl
  have p9:k<m.vars.length:=by have:=xbh.1 ab;exact this.1
  obtain⟨v,a6⟩:∃v,m.vars[k]?=some v:=⟨m.vars[k],xab p9⟩;have lf:bn 4 (bj m.vars) (J (gH (some k)))=some v.cells:=g5 a6;have yo:a3 false 1 1 v.cells=some (ay v.bool):=rfl;simp only[a6,xaO,xbc];cases aw:(ds (m.next.take i) d.name).isSome with
  |true=>simp only[wJ,Lx,go_sem,aA.agg,aA.a7,eZ aB,a8.fY,hJ,ab,au,aG,cZ,aw]
  |false=>
   generalize gQ m false d.e=y at*;have cU:ai true .neq (ay y.1.b) (ay v.bool)=some (ay (y.1.b !=v.bool)):=rfl;simp only[wJ,Lx,go_sem,aA.agg,aA.a7,aA.bR,aA.bY,aA.ct,aA.de,aA.ee,aA.ef,aA.e2,aA.eta,eZ aB,a8.fY,a8.ho,hJ,ab,au,aG,cZ,aw,bf,pN,tp,lf,yo,cU];by_cases ao:(y.2==0&&(y.1.b !=v.bool))=true
   .rw[xad ao,xad ao]
   rw[xac ao,xac ao]
theorem auQ(i:Nat)(ah:i<m.bI.length):u2 n [bZ m.bI,m.d,J (i:Int)]=some (J (jM m i)):=by
 have aj:=hm.ir;have gn:=hm.bI.1;obtain⟨s,aG⟩:∃s,m.bI[i]?=some s:=⟨m.bI[i],xab ah⟩;obtain⟨⟨bd,K2⟩,Ix,Uk⟩:=hm.bI.2 s (xaa aG);have cj:=T8 n s.name (by omega) Uk;have cZ:=aut n (m.bI.take i) s.name (by simp;omega) (by simp;omega);have oN:=auL (l:=m.bI) (i:=i) (by omega);have b8:=TS n s.f (by omega) bd (by omega);have ig:=adZ hm.bo n s.f (by omega) bd K2;simp only[jM,aG];cases ab:isName s.name with
 |false=>simp only[u2,HR,go_sem,aA.agg,l0 aG,cy.fY,cj,ab]
 |true=>
  cases aw:(n5 (m.bI.take i) s.name).isSome with
  |true=>simp only[u2,HR,go_sem,aA.agg,l0 aG,cy.fY,cj,ab,oN,cZ,aw]
  |false=>
   by_cases a4:lA s.f=0
   .have qa:(lA s.f !=0)=false:=by simp[a4]
    simp only[u2,HR,go_sem,aA.agg,aA.a7,aA.bR,aA.bY,aA.ct,aA.de,aA.ee,aA.ef,aA.e2,aA.eta,l0 aG,cy.fY,cy.ho,cj,ab,oN,cZ,aw,b8,qa,xad a4,ig]
   have qa:(lA s.f !=0)=true:=by simpa using a4
   simp only[u2,HR,go_sem,aA.agg,aA.a7,aA.bR,aA.bY,aA.ct,aA.de,aA.ee,aA.ef,aA.e2,aA.eta,l0 aG,cy.fY,cy.ho,cj,ab,oN,cZ,aw,b8,qa,xac a4]
end
def gb(p:Int×Int):D:= .a1 [J p.1,J p.2]
def vi(a b:Int×Int):Int×Int:=if a.2=0 then b else a
def findIdx_take{α:Type}{l:List α}{p:α->Bool}{i:Nat}{d:α}(aB:l[i]?=some d)(aU:p d=true):decide (gH (l.findIdx? p)<(i:Int))=((l.take i).findIdx? p).isSome:=by
 obtain⟨ah,auR⟩:=xae.1 aB;cases h:l.findIdx? p with
 |none=>have:=List.findIdx?_eq_none_iff.1 h d (xaa aB);rw[aU]at this;cases this
 |some k=>
  obtain⟨ak,auS,AF⟩:=xbh.1 h;rw[List.findIdx?_isSome];have qX:k<=i:=by
   rcases Nat.lt_or_ge i k with ab|ab;.have:=AF i ab;rw[auR]at this;exact absurd aU this
   exact ab
  by_cases he:k<i;.have ab:decide (gH (some k)<(i:Int))=true:=xav (by show(k:Int)<(i:Int);omega);rw[ab];symm;rw[xbt];refine⟨l[k],xaT.2 ⟨k,?_⟩,auS⟩;rw[List.getElem?_take_of_lt he];exact xab ak
  have ab:decide (gH (some k)<(i:Int))=false:=xaE (by show¬(k:Int)<(i:Int);omega);rw[ab];symm;rw[Bool.eq_false_iff,ne_eq,xbt];rintro⟨a,aE,Ul⟩;obtain⟨j,aN⟩:=xaT.1 aE;have cM:=(xae.1 aN).1;simp only[xbH]at cM;rw[List.getElem?_take_of_lt (by omega)]at aN;obtain⟨ad1,Iy⟩:=xae.1 aN;have:=AF j (by omega);rw[Iy]at this;exact this Ul
noncomputable def rX(m:aA):Int×Int:=vi (cH (lC m) m.aR.length 0) (vi (cH (l2 m) m.aR.length 0) (cH (lD m) m.aR.length 0))
section
variable{m:aA}{n:Nat}(hm:Dm m n)
include hm
theorem auT:bp (zB n) n [J 0,bj m.vars,aP m.aR,az m.bP,az m.bQ,aP m.next,az m.trans,az m.bS,bZ m.bI]=some (if(cH (lC m) m.aR.length 0).2=0 then .inl [bj m.vars,aP m.aR,az m.bP,az m.bQ,aP m.next,az m.trans,az m.bS,bZ m.bI]else .inr (gb (cH (lC m) m.aR.length 0))):=by
 have aj:=hm.ir;have Az:=hm.bo.dl;have Dj:=hm.bo.oR;refine n6 (λi=>[J (i:Int),bj m.vars,aP m.aR,az m.bP,az m.bQ,aP m.next,az m.trans,az m.bS,bZ m.bI]) (lC m) m.aR.length _ gb ?_ ?_ _ 0 n (by omega) (by omega)
 .intro i ah;obtain⟨d,aB⟩:∃d,m.aR[i]?=some d:=⟨m.aR[i],xab ah⟩;have Iv:=hm.tq d (xaa aB);have cj:=T9 n d.name (by omega) Iv.2;have hJ:=adV n m d.name (by omega) (by omega);have cZ:=adU n m d.name (by omega) (by omega);have ch:=yT ((i:Int)<(m.aR.length:Int));have Iz:=findIdx_take (p:=λe:a8=>decide (e.name=d.name)) aB (by simp);change decide (gH (ds m.aR d.name)<(i:Int))=(ds (m.aR.take i) d.name).isSome at Iz;simp only[lC,aB];cases ab:isName d.name with
  |false=>simp only[zB,go_sem,dT,ch,eZ aB,a8.fY,cj,ab,xac (show¬(12:Int)=0 by decide),gb]
  |true=>
   cases af:(fk m.vars d.name).isSome with
   |true=>have jy:=Dg (fk m.vars d.name);rw[af]at jy;simp only[zB,go_sem,dT,ch,eZ aB,a8.fY,cj,ab,aA.eta,hJ,jy,ec,xac (show¬(true=false) by decide),dS,xac (show¬(6:Int)=0 by decide),gb]
   |false=>
    have jy:=Dg (fk m.vars d.name);rw[af]at jy;cases aw:(ds (m.aR.take i) d.name).isSome with
    |true=>rw[aw]at Iz;simp only[zB,go_sem,dT,ch,eZ aB,a8.fY,cj,ab,aA.eta,hJ,jy,ec,cZ,Iz,dS,xac (show¬(6:Int)=0 by decide),gb,Bool.or_true]
    |false=>rw[aw]at Iz;simp only[zB,go_sem,dT,ch,eZ aB,a8.fY,cj,ab,aA.eta,hJ,jy,ec,cZ,Iz,dS,Bool.or_false,b1 (bt:=false) (i:=i) (by omega)]
 simp only[zB,go_sem,dT,yF ((m.aR.length:Int)<m.aR.length)]
theorem auU:bp (Hx n) n [J 0,bj m.vars,aP m.aR,az m.bP,az m.bQ,aP m.next,az m.trans,az m.bS,bZ m.bI]=some (if(cH (l2 m) m.aR.length 0).2=0 then .inl [bj m.vars,aP m.aR,az m.bP,az m.bQ,aP m.next,az m.trans,az m.bS,bZ m.bI]else .inr (gb (cH (l2 m) m.aR.length 0))):=by
 have aj:=hm.ir;have Az:=hm.bo.dl;refine n6 (λi=>[J (i:Int),bj m.vars,aP m.aR,az m.bP,az m.bQ,aP m.next,az m.trans,az m.bS,bZ m.bI]) (l2 m) m.aR.length _ gb ?_ ?_ _ 0 n (by omega) (by omega)
 .intro i ah;obtain⟨S,dR,ad2⟩:=auK n m hm.bo.d i ah (by omega);have ch:=yT ((i:Int)<(m.aR.length:Int));have ag:bn 1 (kj m.aR.length S) (J (i:Int))=some [ay (decide (i∈S))]:=by
   rw[kj,YE,Il ah]
  cases ab:jo m.aR i with
  |true=>have af:=xav (ad2.2 ab);simp only[Hx,go_sem,dT,ch,aA.eta,dR,ag,z5,af,l2,ab,xac (show¬(14:Int)=0 by decide),gb]
  |false=>have af:=xaE (show¬i∈S fromλh=>by rw[ad2.1 h]at ab;cases ab);simp only[Hx,go_sem,dT,ch,aA.eta,dR,ag,z5,af,l2,ab,b1 (bt:=false) (i:=i) (by omega)]
 simp only[Hx,go_sem,dT,yF ((m.aR.length:Int)<m.aR.length)]
theorem auV:bp (Hy n) n [J 0,bj m.vars,aP m.aR,az m.bP,az m.bQ,aP m.next,az m.trans,az m.bS,bZ m.bI]=some (if(cH (lD m) m.aR.length 0).2=0 then .inl []else .inr (gb (cH (lD m) m.aR.length 0))):=by
 have aj:=hm.ir;have Az:=hm.bo.dl;refine n6 (λi=>[J (i:Int),bj m.vars,aP m.aR,az m.bP,az m.bQ,aP m.next,az m.trans,az m.bS,bZ m.bI]) (lD m) m.aR.length _ gb ?_ ?_ _ 0 n (by omega) (by omega)
 .intro i ah;obtain⟨d,aB⟩:∃d,m.aR[i]?=some d:=⟨m.aR[i],xab ah⟩;have h6:=hm.bo.d.e d (xaa aB);have bf:=Uh hm.bo n (by omega) h6.1 h6.2 false;have ch:=yT ((i:Int)<(m.aR.length:Int));simp only[lD,aB];by_cases ab:(gQ m false d.e).2=0
  .have eW:((gQ m false d.e).2 !=0)=false:=by simp[ab]
   simp only[Hy,go_sem,dT,ch,aA.eta,eZ aB,a8.ho,bf,pN,eW,xad ab,b1 (bt:=false) (i:=i) (by omega)]
  have eW:((gQ m false d.e).2 !=0)=true:=by simpa using ab
  simp only[Hy,go_sem,dT,ch,aA.eta,eZ aB,a8.ho,bf,pN,eW,xac ab,gb]
 simp only[Hy,go_sem,dT,yF ((m.aR.length:Int)<m.aR.length)]
theorem auW:wU n [m.d]=some (gb (rX m)):=by
 have af:=auT hm;have jE:=auU hm;have Nh:=auV hm;have bD:∀e k,(cH e k 0).2=0->cH e k 0=(0,0):=λe k=>rW e k 0;unfold rX vi;by_cases bR:(cH (lC m) m.aR.length 0).2=0
 case neg=>rw[xac bR]at af⊢;simp only[wU,Hz,go_sem,aA.agg,aA.a7,aA.bR,aA.bY,aA.ct,aA.de,aA.ee,aA.ef,aA.e2,af]
 rw[xad bR]at af⊢;by_cases bY:(cH (l2 m) m.aR.length 0).2=0
 case neg=>rw[xac bY]at jE⊢;simp only[wU,Hz,go_sem,aA.agg,aA.a7,aA.bR,aA.bY,aA.ct,aA.de,aA.ee,aA.ef,aA.e2,af,jE]
 rw[xad bY]at jE⊢;by_cases ct:(cH (lD m) m.aR.length 0).2=0;.rw[xad ct]at Nh;rw[bD _ _ ct];simp only[wU,Hz,go_sem,aA.agg,aA.a7,aA.bR,aA.bY,aA.ct,aA.de,aA.ee,aA.ef,aA.e2,af,jE,Nh,gb]
 rw[xac ct]at Nh;simp only[wU,Hz,go_sem,aA.agg,aA.a7,aA.bR,aA.bY,aA.ct,aA.de,aA.ee,aA.ef,aA.e2,af,jE,Nh]
theorem Ni(l:List Tm)(aq:l.length<=100/\∀t∈l,t.cp/\t.bo<=12300)(nx:Bool):uY n [m.d,az l,ay nx]=some (gb (cH (fg m l nx) l.length 0)):=by
 have aj:=hm.ir;have ah:=n6 (f:=HA n) (λi=>[az l,ay nx,J (i:Int),bj m.vars,aP m.aR,az m.bP,az m.bQ,aP m.next,az m.trans,az m.bS,bZ m.bI]) (fg m l nx) l.length [] gb ?_ ?_ l.length 0 n (by omega) (by omega)
 .have bF:(J ((0:Nat):Int))=J 0:=rfl;rw[bF]at ah;by_cases c:(cH (fg m l nx) l.length 0).2=0;.rw[xad c]at ah;rw[rW _ _ _ c];simp only[uY,SQ,go_sem,aA.agg,aA.a7,aA.bR,aA.bY,aA.ct,aA.de,aA.ee,aA.ef,aA.e2,ah,gb]
  rw[xac c]at ah;simp only[uY,SQ,go_sem,aA.agg,aA.a7,aA.bR,aA.bY,aA.ct,aA.de,aA.ee,aA.ef,aA.e2,ah]
 .intro i ah;obtain⟨t,aK⟩:∃t,l[i]?=some t:=⟨l[i],xab ah⟩;have Iw:=aq.2 t (xaa aK);have bf:=adM hm.bo n (by omega) Iw.1 Iw.2 nx;have ch:=yT ((i:Int)<(l.length:Int));simp only[fg,aK];by_cases ab:pM m nx t=0
  .have eW:(pM m nx t !=0)=false:=by simp[ab]
   simp only[HA,go_sem,g7,ch,aA.eta,lZ aK,bf,eW,xad ab,b1 (bt:=false) (i:=i) (by have:=aq.1;omega)]
  have eW:(pM m nx t !=0)=true:=by simpa using ab
  simp only[HA,go_sem,g7,ch,aA.eta,lZ aK,bf,eW,xac ab,gb]
 simp only[HA,go_sem,g7,yF ((l.length:Int)<l.length)]
theorem auX(i:Nat)(k:Int){d:a8}(aB:m.next[i]?=some d):bp (Cz n) n [J (i:Int),J k,J 0,bj m.vars,aP m.aR,az m.bP,az m.bQ,aP m.next,az m.trans,az m.bS,bZ m.bI]=some (if(ds (m.next.take i) d.name).isSome=true then .inr (.inr (.inr (.inr (.a1 [J (i:Int),J 6]))))else .inl [J (i:Int),J k,bj m.vars,aP m.aR,az m.bP,az m.bQ,aP m.next,az m.trans,az m.bS,bZ m.bI]):=by
 have aj:=hm.ir;have wx:=hm.next.1
 have ch:=(xae.1 aB).1;have cv:(m.next.take i).length=i:=by simp;omega
 have ah:=dG (f:=Cz n) (m.next.take i) (λj (_:Unit)=>[J (i:Int),J k,J (j:Int),bj m.vars,aP m.aR,az m.bP,az m.bQ,aP m.next,az m.trans,az m.bS,bZ m.bI]) (λr _=>(if(ds r d.name).isSome=true then .inr (.inr (.inr (.inr (.a1 [J (i:Int),J 6]))))else .inl [J (i:Int),J k,bj m.vars,aP m.aR,az m.bP,az m.bQ,aP m.next,az m.trans,az m.bS,bZ m.bI]:List D⊕(List D⊕(List D⊕(List D⊕D))))) (λ_ _=>True) (λ_ _=>by rw[cv];simp only[Cz,go_sem,yF ((i:Int)<i)];rfl) ?_ n 0 () trivial (by omega) (xai _);.exact ah
 intro j a _ aE aN _;rw[cv]at aN;rw[List.getElem?_take_of_lt aN]at aE;have cM:=yT ((j:Int)<(i:Int));have ao:ds (a::(m.next.take i).drop (j+1)) d.name=if decide (a.name=d.name)=true then some 0 else(ds ((m.next.take i).drop (j+1)) d.name).map (·+1):=findIdx_cons _ a _
 rw[ao];by_cases h:a.name=d.name;.right;rw[xad (xav h)];simp only[Cz,go_sem,cM,eZ aE,eZ aB,a8.fY,xav h,Option.isSome_some]
 left;refine⟨(),?_,?_,trivial⟩;.simp only[Cz,go_sem,cM,eZ aE,eZ aB,a8.fY,xaE h,b1 (bt:=false) (i:=j) (by omega)]
 have bx:¬(decide (a.name=d.name)=true):=by simpa using h
 rw[xac bx,Option.isSome_map]
theorem auY(i:Nat){d:cy}(aB:m.bI[i]?=some d):bp (CD n) n [J (i:Int),J 0,bj m.vars,aP m.aR,az m.bP,az m.bQ,aP m.next,az m.trans,az m.bS,bZ m.bI]=some (if(n5 (m.bI.take i) d.name).isSome=true then .inr (.inr (.inr (.inr (.a1 [J (i:Int),J 6]))))else .inl [J (i:Int),bj m.vars,aP m.aR,az m.bP,az m.bQ,aP m.next,az m.trans,az m.bS,bZ m.bI]):=by
 have aj:=hm.ir;have wx:=hm.bI.1;have ch:=(xae.1 aB).1;have cv:(m.bI.take i).length=i:=by simp;omega
 have ah:=dG (f:=CD n) (m.bI.take i) (λj (_:Unit)=>[J (i:Int),J (j:Int),bj m.vars,aP m.aR,az m.bP,az m.bQ,aP m.next,az m.trans,az m.bS,bZ m.bI]) (λr _=>(if(n5 r d.name).isSome=true then .inr (.inr (.inr (.inr (.a1 [J (i:Int),J 6]))))else .inl [J (i:Int),bj m.vars,aP m.aR,az m.bP,az m.bQ,aP m.next,az m.trans,az m.bS,bZ m.bI]:List D⊕(List D⊕(List D⊕(List D⊕D))))) (λ_ _=>True) (λ_ _=>by rw[cv];simp only[CD,go_sem,yF ((i:Int)<i)];rfl) ?_ n 0 () trivial (by omega) (xai _);.exact ah
 intro j a _ aE aN _;rw[cv]at aN;rw[List.getElem?_take_of_lt aN]at aE;have cM:=yT ((j:Int)<(i:Int));have ao:n5 (a::(m.bI.take i).drop (j+1)) d.name=if decide (a.name=d.name)=true then some 0 else(n5 ((m.bI.take i).drop (j+1)) d.name).map (·+1):=findIdx_cons _ a _
 rw[ao];by_cases h:a.name=d.name;.right;rw[xad (xav h)];simp only[CD,go_sem,cM,l0 aE,l0 aB,cy.fY,xav h,Option.isSome_some]
 left;refine⟨(),?_,?_,trivial⟩;.simp only[CD,go_sem,cM,l0 aE,l0 aB,cy.fY,xaE h,b1 (bt:=false) (i:=j) (by omega)]
 have bx:¬(decide (a.name=d.name)=true):=by simpa using h
 rw[xac bx,Option.isSome_map]
theorem auZ:CA n [m.d]=some (gb (cH (jL m) m.next.length 0)):=by
 have aj:=hm.ir;have wx:=hm.next.1
 have Dj:=hm.bo.oR;have ah:=n6 (f:=wW n) (λi=>[J (i:Int),bj m.vars,aP m.aR,az m.bP,az m.bQ,aP m.next,az m.trans,az m.bS,bZ m.bI]) (jL m) m.next.length [] gb ?_ ?_ m.next.length 0 n (by omega) (by omega)
 .have bF:(J ((0:Nat):Int))=J 0:=rfl;rw[bF]at ah;by_cases c:(cH (jL m) m.next.length 0).2=0;.rw[xad c]at ah;rw[rW _ _ _ c];simp only[CA,SS,go_sem,aA.agg,aA.a7,aA.bR,aA.bY,aA.ct,aA.de,aA.ee,aA.ef,aA.e2,ah,gb]
  rw[xac c]at ah;simp only[CA,SS,go_sem,aA.agg,aA.a7,aA.bR,aA.bY,aA.ct,aA.de,aA.ee,aA.ef,aA.e2,ah]
 .intro i ah;obtain⟨d,aB⟩:∃d,m.next[i]?=some d:=⟨m.next[i],xab ah⟩
  have h6:=hm.next.2 d (xaa aB)
  have bf:=Uh hm.bo n (by omega) h6.1 h6.2 false;have hJ:=adV n m d.name (by omega) (by omega);have ch:=yT ((i:Int)<(m.next.length:Int));simp only[jL,aB];cases ab:fk m.vars d.name with
  |none=>rw[ab]at hJ;have au:decide (gH none<0)=true:=rfl;simp only[wW,go_sem,dT,ch,aA.eta,eZ aB,a8.fY,hJ,au,xac (show¬(12:Int)=0 by decide),gb]
  |some k=>
   rw[ab]at hJ;have hV:=auX hm i (gH (some k)) aB;have au:decide (gH (some k)<0)=false:=by rw[ady];rfl
   have p9:k<m.vars.length:=by have:=xbh.1 ab;exact this.1
   obtain⟨v,a6⟩:∃v,m.vars[k]?=some v:=⟨m.vars[k],xab p9⟩;have lf:bn 4 (bj m.vars) (J (gH (some k)))=some v.cells:=g5 a6;have yo:a3 false 1 1 v.cells=some (ay v.bool):=rfl;simp only[a6,xaO,xbc];cases aw:(ds (m.next.take i) d.name).isSome with
   |true=>rw[aw,xad rfl]at hV;simp only[wW,go_sem,dT,ch,aA.eta,eZ aB,a8.fY,hJ,au,hV,xac (show¬(6:Int)=0 by decide),gb]
   |false=>
    rw[aw,xac (by decide)]at hV;generalize gQ m false d.e=y at*;have cU:ai true .neq (ay y.1.b) (ay v.bool)=some (ay (y.1.b !=v.bool)):=rfl;have pO:((13:Int) !=0)=true:=rfl;by_cases ao:(y.2==0&&(y.1.b !=v.bool))=true
    .simp only[wW,go_sem,dT,ch,aA.eta,eZ aB,a8.fY,a8.ho,hJ,au,hV,bf,pN,tp,lf,yo,cU,ao,pO,xac (show¬(13:Int)=0 by decide),gb]
    have dX:(y.2==0&&(y.1.b !=v.bool))=false:=by simpa using ao
    by_cases aQ:y.2=0
    .have tL:(y.2 !=0)=false:=by simp[aQ]
     simp only[wW,go_sem,dT,ch,aA.eta,eZ aB,a8.fY,a8.ho,hJ,au,hV,bf,pN,tp,lf,yo,cU,dX,tL,xad aQ,b1 (bt:=false) (i:=i) (by omega)]
    have tL:(y.2 !=0)=true:=by simpa using aQ
    simp only[wW,go_sem,dT,ch,aA.eta,eZ aB,a8.fY,a8.ho,hJ,au,hV,bf,pN,tp,lf,yo,cU,dX,tL,xac aQ,gb]
 simp only[wW,go_sem,dT,yF ((m.next.length:Int)<m.next.length)]
theorem au0:CE n [m.d]=some (gb (cH (jM m) m.bI.length 0)):=by
 have aj:=hm.ir;have gn:=hm.bI.1;have ah:=n6 (f:=wX n) (λi=>[J (i:Int),bj m.vars,aP m.aR,az m.bP,az m.bQ,aP m.next,az m.trans,az m.bS,bZ m.bI]) (jM m) m.bI.length [] gb ?_ ?_ m.bI.length 0 n (by omega) (by omega)
 .have bF:(J ((0:Nat):Int))=J 0:=rfl;rw[bF]at ah;by_cases c:(cH (jM m) m.bI.length 0).2=0;.rw[xad c]at ah;rw[rW _ _ _ c];simp only[CE,SW,go_sem,aA.agg,aA.a7,aA.bR,aA.bY,aA.ct,aA.de,aA.ee,aA.ef,aA.e2,ah,gb]
  rw[xac c]at ah;simp only[CE,SW,go_sem,aA.agg,aA.a7,aA.bR,aA.bY,aA.ct,aA.de,aA.ee,aA.ef,aA.e2,ah]
 .intro i ah;obtain⟨s,aG⟩:∃s,m.bI[i]?=some s:=⟨m.bI[i],xab ah⟩;obtain⟨⟨bd,K2⟩,Ix,Uk⟩:=hm.bI.2 s (xaa aG);have cj:=T9 n s.name (by omega) Uk;have gx:=auY hm i aG;have b8:=TR n s.f (by omega) bd (by omega);have ig:=ad0 hm.bo n s.f (by omega) bd K2;have ch:=yT ((i:Int)<(m.bI.length:Int));simp only[jM,aG];cases ab:isName s.name with
  |false=>simp only[wX,go_sem,iC,ch,l0 aG,cy.fY,cj,ab,xac (show¬(12:Int)=0 by decide),gb]
  |true=>
   cases aw:(n5 (m.bI.take i) s.name).isSome with
   |true=>rw[aw,xad rfl]at gx;simp only[wX,go_sem,iC,ch,l0 aG,cy.fY,cj,ab,gx,xac (show¬(6:Int)=0 by decide),gb]
   |false=>
    rw[aw,xac (by decide)]at gx;by_cases a4:lA s.f=0
    .have qa:(lA s.f==0)=true:=by simp[a4]
     by_cases b7:l1 m s.f=0
     .have ye:(l1 m s.f !=0)=false:=by simp[b7]
      simp only[wX,go_sem,iC,ch,aA.eta,l0 aG,cy.fY,cy.ho,cj,ab,gx,b8,qa,xad a4,ig,ye,xad b7,b1 (bt:=false) (i:=i) (by omega)]
     have ye:(l1 m s.f !=0)=true:=by simpa using b7
     simp only[wX,go_sem,iC,ch,aA.eta,l0 aG,cy.fY,cy.ho,cj,ab,gx,b8,qa,xad a4,ig,ye,xac b7,gb]
    have qa:(lA s.f==0)=false:=by simpa using a4
    have au1:(lA s.f !=0)=true:=by simpa using a4
    simp only[wX,go_sem,iC,ch,aA.eta,l0 aG,cy.fY,cy.ho,cj,ab,gx,b8,qa,au1,xac a4,gb]
 simp only[wX,go_sem,iC,yF ((m.bI.length:Int)<m.bI.length)]
end
def mA:List V->Nat
 |[]=>0|v::r=>bitsOf v.span+mA r
theorem V.oT(v:V):D.agg [ad v.d 0,ad v.d 1,ad v.d 2,ad v.d 3]=v.d:=rfl
def au2(n:Nat)(m:aA)(a6:z3 m.vars)(aq:m.vars.length<=100)(aM:200<n):Fx n [m.d]=some (J (mA m.vars:Nat)):=by
 have ah:=dG (f:=Lg n) m.vars (λi (s:Nat)=>[J (s:Int),bj m.vars,J m.vars.length,J (i:Int)]) (λr s=>(.inl [J ((s+mA r:Nat):Int)]:List D⊕D)) (λi s=>s<=62*i) ?_ ?_ n 0 0 (by simp) (by omega) (xai _);.have bF:(J ((0:Nat):Int))=J 0:=rfl;rw[bF,xak,xau]at ah;simp only[Fx,Zr,go_sem,aA.agg,aA.a7,fB,ah]
 .intro s aG;simp only[Lg,go_sem,yF ((m.vars.length:Int)<m.vars.length),mA,xbm]
 intro i v s IA ah aG;obtain⟨ab,af,_⟩:=a6.2 v (xaa IA);have lq:=at4 n v ab af;have aj:=at7 n v.span (V.Ij v).2 (by omega);have tP:=(Df (V.Ij v).2).1;have ch:=yT ((i:Int)<(m.vars.length:Int));have g4:ai false .add (J (s:Int)) (J (bitsOf v.span:Nat))=some (J ((s+bitsOf v.span:Nat):Int)):=by rw[gr (by omega) (by omega)];rfl
 left;refine⟨s+bitsOf v.span,?_,by rw[mA,xbf],by omega⟩;simp only[Lg,go_sem,ch,g5 IA,V.cK,V.cV,V.oT,lq,aj,g4,b1 (bt:=false) (i:=i) (by omega)]
def au3(n:Nat)(m:aA)(a6:z3 m.vars)(aq:m.vars.length<=100)(aM:200<n):G9 n [m.d]=some (J (mA m.vars:Nat)):=by
 have ah:=dG (f:=Md n) m.vars (λi (s:Nat)=>[J (s:Int),J (i:Int),bj m.vars,aP m.aR,az m.bP,az m.bQ,aP m.next,az m.trans,az m.bS,bZ m.bI]) (λr s=>(.inl [J ((s+mA r:Nat):Int)]:List D⊕D)) (λi s=>s<=62*i) ?_ ?_ n 0 0 (by simp) (by omega) (xai _);.have bF:(J ((0:Nat):Int))=J 0:=rfl;rw[bF,xak,xau]at ah;simp only[G9,aak,go_sem,aA.agg,aA.a7,aA.bR,aA.bY,aA.ct,aA.de,aA.ee,aA.ef,aA.e2,ah]
 .intro s aG;simp only[Md,go_sem,fB,yF ((m.vars.length:Int)<m.vars.length),mA,xbm]
 intro i v s IA ah aG;obtain⟨ab,af,_⟩:=a6.2 v (xaa IA);have lq:=adv n v ab af;have aj:=aua n v.span (by have:=(V.Ij v).1;omega) (V.Ij v).2 (by omega);have tP:=(Df (V.Ij v).2).1;have ch:=yT ((i:Int)<(m.vars.length:Int));have g4:ai false .add (J (s:Int)) (J (bitsOf v.span:Nat))=some (J ((s+bitsOf v.span:Nat):Int)):=by rw[gr (by omega) (by omega)];rfl
 left;refine⟨s+bitsOf v.span,?_,by rw[mA,xbf],by omega⟩;simp only[Md,go_sem,fB,ch,g5 IA,V.cK,lq,aj,g4,b1 (bt:=false) (i:=i) (by omega)]
def h7:List (Int×(Int×Int))->Int×(Int×Int)
 |[]=>(0,(0,0))|a::r=>if a.2.2=0 then h7 r else a
def ad3{dY:Type}{f:List D->Option (List D⊕(List D⊕dY))}(L:List (Int×(Int×Int)))(eQ:Nat->List D)(E:List D)(W:Int×(Int×Int)->dY) (aG:∀i a,L[i]?=some a->f (eQ i)=some (if a.2.2=0 then .inl (eQ (i+1))else .inr (.inr (W a)))) (he:f (eQ L.length)=some (.inr (.inl E))) (n:Nat) (aM:L.length<n):bp f n (eQ 0)=some (if(h7 L).2.2=0 then .inl E else .inr (W (h7 L))):=by
 have h:=dG (f:=f) L (λi (_:Unit)=>eQ i) (λr _=>(if(h7 r).2.2=0 then .inl E else .inr (W (h7 r)):List D⊕dY)) (λ_ _=>True) (λ_ _=>by rw[he];rfl) ?_ n 0 () trivial (by omega) (xai _);.exact h
 intro i a _ aE ah _;have ab:=aG i a aE;by_cases au:a.2.2=0
 .left;rw[xad au]at ab;exact⟨(),ab,by rw[h7,xad au],trivial⟩
 right;rw[xac au]at ab;rw[ab,h7,xac au,xac au]
def n7(m:aA):List Nat:=[m.vars.length,m.aR.length,m.bP.length,m.bQ.length,m.next.length,m.trans.length,m.bS.length,m.bI.length]
def mB(m:aA)(i:Nat):Int:=if 64<(n7 m)[i]?.getD 0 then 18 else 0
noncomputable def rY(m:aA):List (Int×(Int×Int)):=[(2,cH (lC m) m.aR.length 0),(2,cH (l2 m) m.aR.length 0),(2,cH (lD m) m.aR.length 0),(3,cH (fg m m.bP false) m.bP.length 0),(4,cH (fg m m.bQ false) m.bQ.length 0),(5,cH (jL m) m.next.length 0),(6,cH (fg m m.trans true) m.trans.length 0),(7,cH (fg m m.bS false) m.bS.length 0),(8,cH (jM m) m.bI.length 0)]
noncomputable def Um(m:aA):List (Int×(Int×Int)):=[(2,rX m),(3,cH (fg m m.bP false) m.bP.length 0),(4,cH (fg m m.bQ false) m.bQ.length 0),(5,cH (jL m) m.next.length 0),(6,cH (fg m m.trans true) m.trans.length 0),(7,cH (fg m m.bS false) m.bS.length 0),(8,cH (jM m) m.bI.length 0)]
def ad4{a b:Int×Int}:(vi a b).2=0↔a.2=0/\b.2=0:=by unfold vi;by_cases h:a.2=0<;>simp[h]
def ad5(k:Int)(a b:Int×Int)(r:List (Int×(Int×Int))):h7 ((k,vi a b)::r)=h7 ((k,a)::(k,b)::r):=by simp only[h7];unfold vi;by_cases h:a.2=0<;>simp[h]
def au4(a:Int×(Int×Int)){r sf:List (Int×(Int×Int))}(h:h7 r=h7 sf):h7 (a::r)=h7 (a::sf):=by rw[h7,h7,h]
def au5(m:aA):h7 (Um m)=h7 (rY m):=by unfold Um rX;rw[ad5];exact au4 _ (ad5 _ _ _ _)
noncomputable def kl(m:aA):Int×(Int×Int):=if(cH (mB m) 8 0).2=0 then
  if(j9 m.vars).2=0 then
   if 30<mA m.vars then(1,(0,18))else h7 (rY m)
  else(1,j9 m.vars)
 else((cH (mB m) 8 0).1+1,(64,18))
def eK(q:Int×(Int×Int)):D:= .a1 [.agg [J q.1,J q.2.1],J q.2.2]
def au6{l:List V}(h:(j9 l).2=0):j9 l=(0,0):=by unfold j9 at h⊢;cases bd:(List.range l.length).find? (λi=>jg l i !=0)with|none=>rw[bd]at h|some i=>rw[bd]at h;have:=List.find?_some bd;simp only at h;rw[h]at this;cases this
def ad6(L:List (Int×(Int×Int)))(h:(h7 L).2.2=0):h7 L=(0,(0,0)):=by
 induction L with
 |nil=>rfl
 |cons a r ih=>
  rw[h7]at h⊢;by_cases au:a.2.2=0;.rw[xad au]at h⊢;exact ih h
  rw[xac au]at h;exact absurd h au
theorem iu{t:Nat}{x:D}:Be (.dZ t x)=some (t,x):=rfl
def IB(m:aA):D:= .agg ((n7 m).map λ(k:Nat)=>J (k:Int))
def gI(m:aA):D:= .agg [.dZ 114 (aP m.aR),.dZ 115 (aP m.aR),.dZ 116 (aP m.aR),.dZ 118 (.agg [J 3,az m.bP,ay false]),.dZ 118 (.agg [J 4,az m.bQ,ay false]),.dZ 119 (aP m.next),.dZ 118 (.agg [J 6,az m.trans,ay true]),.dZ 118 (.agg [J 7,az m.bS,ay false]),.dZ 120 (bZ m.bI)]
theorem Nj{dY:Type}{a b:Option dY}:gy 114 114 a b=a:=rfl
theorem Nk{dY:Type}{a b:Option dY}:gy 115 114 a b=b:=rfl
theorem Nl{dY:Type}{a b:Option dY}:gy 115 115 a b=a:=rfl
theorem Nm{dY:Type}{a b:Option dY}:gy 116 114 a b=b:=rfl
theorem Nn{dY:Type}{a b:Option dY}:gy 116 115 a b=b:=rfl
theorem No{dY:Type}{a b:Option dY}:gy 116 116 a b=a:=rfl
theorem tu{dY:Type}{a b:Option dY}:gy 118 114 a b=b:=rfl
theorem tw{dY:Type}{a b:Option dY}:gy 118 115 a b=b:=rfl
theorem tx{dY:Type}{a b:Option dY}:gy 118 116 a b=b:=rfl
theorem tz{dY:Type}{a b:Option dY}:gy 118 118 a b=a:=rfl
theorem Np{dY:Type}{a b:Option dY}:gy 119 114 a b=b:=rfl
theorem Nq{dY:Type}{a b:Option dY}:gy 119 115 a b=b:=rfl
theorem Nr{dY:Type}{a b:Option dY}:gy 119 116 a b=b:=rfl
theorem Ns{dY:Type}{a b:Option dY}:gy 119 118 a b=b:=rfl
theorem Nt{dY:Type}{a b:Option dY}:gy 119 119 a b=a:=rfl
theorem Nu{dY:Type}{a b:Option dY}:gy 120 114 a b=b:=rfl
theorem Nv{dY:Type}{a b:Option dY}:gy 120 115 a b=b:=rfl
theorem Nw{dY:Type}{a b:Option dY}:gy 120 116 a b=b:=rfl
theorem Nx{dY:Type}{a b:Option dY}:gy 120 118 a b=b:=rfl
theorem Ny{dY:Type}{a b:Option dY}:gy 120 119 a b=b:=rfl
theorem Nz{dY:Type}{a b:Option dY}:gy 120 120 a b=a:=rfl
section
variable{m:aA}{n:Nat}(hm:Dm m n)
include hm
theorem au7:bp (CW n) n [IB m,J 0,bj m.vars,aP m.aR,az m.bP,az m.bQ,aP m.next,az m.trans,az m.bS,bZ m.bI,J 0,J 0]=some (if(cH (mB m) 8 0).2=0 then .inl [bj m.vars,aP m.aR,az m.bP,az m.bQ,aP m.next,az m.trans,az m.bS,bZ m.bI,J 0,J 0]else .inr (eK ((cH (mB m) 8 0).1+1,(64,18)))):=by
 have aj:=hm.ir;refine n6 (f:=CW n) (λi=>[IB m,J (i:Int),bj m.vars,aP m.aR,az m.bP,az m.bQ,aP m.next,az m.trans,az m.bS,bZ m.bI,J 0,J 0]) (mB m) 8 _ (λp=>eK (p.1+1,(64,18))) ?_ ?_ 8 0 n (by omega) (by omega)
 .intro i ah;obtain⟨k,ak⟩:∃k,(n7 m)[i]?=some k:=⟨_,xab ah⟩;have ch:=yT ((i:Int)<8);have fW:cg 8 (J (i:Int))=some i:=by rw[oB,xad ah]
  have bd:lJ false 1 (i*1) (IB m)=some (J (k:Int)):=by unfold IB;rw[Nat.mul_one,akD,iO,xaj,ak];rfl
  have Un:ai false .add (J 1) (J (i:Int))=some (J ((i:Int)+1)):=by rw[gr (by omega) (by omega)];congr 2;omega
  have bT:mB m i=if 64<k then 18 else 0:=by unfold mB;rw[ak];rfl
  by_cases ao:64<k;.rw[bT,xad ao,xac (by decide)];simp only[CW,go_sem,ch,fW,bd,yT ((k:Int)>64),Un,eK]
  rw[bT,xac ao,xad rfl];simp only[CW,go_sem,ch,fW,bd,yF ((k:Int)>64),b1 (bt:=false) (i:=i) (by omega)]
 simp only[CW,go_sem,show decide (((8:Nat):Int)<8)=false from rfl]
theorem au8:bp (CF n) n [J 0,bj m.vars,aP m.aR,az m.bP,az m.bQ,aP m.next,az m.trans,az m.bS,bZ m.bI,J 0,J 0,D.ax 1 ((n7 m).map λ(k:Nat)=>[J (k:Int)])]=some (if(cH (mB m) 8 0).2=0 then .inl [bj m.vars,aP m.aR,az m.bP,az m.bQ,aP m.next,az m.trans,az m.bS,bZ m.bI,J 0,J 0]else .inr (eK ((cH (mB m) 8 0).1+1,(64,18)))):=by
 have aj:=hm.ir;refine n6 (f:=CF n) (λi=>[J (i:Int),bj m.vars,aP m.aR,az m.bP,az m.bQ,aP m.next,az m.trans,az m.bS,bZ m.bI,J 0,J 0,D.ax 1 ((n7 m).map λ(k:Nat)=>[J (k:Int)])]) (mB m) 8 _ (λp=>eK (p.1+1,(64,18))) ?_ ?_ 8 0 n (by omega) (by omega)
 .intro i ah;obtain⟨k,ak⟩:∃k,(n7 m)[i]?=some k:=⟨_,xab ah⟩;have b6:((n7 m).map λ(k:Nat)=>[J (k:Int)]).length=8:=rfl;have ch:=yT ((i:Int)<((8:Nat):Int));have fW:cg 8 (J (i:Int))=some i:=by rw[oB,xad ah]
  have bd:((n7 m).map λ(k:Nat)=>[J (k:Int)])[i]?=some [J (k:Int)]:=by rw[xaj,ak];rfl
  have Un:ai false .add (J (i:Int)) (J 1)=some (J ((i:Int)+1)):=by rw[gr (by omega) (by omega)]
  have bT:mB m i=if 64<k then 18 else 0:=by unfold mB;rw[ak];rfl
  generalize ((n7 m).map λ(k:Nat)=>[J (k:Int)])=aAc at*;by_cases ao:64<k;.rw[bT,xad ao,xac (by decide)];simp only[CF,go_sem,b6,ch,fW,bd,Nc,yT ((k:Int)>64),Un,eK]
  rw[bT,xac ao,xad rfl];simp only[CF,go_sem,b6,ch,fW,bd,Nc,yF ((k:Int)>64),b1 (bt:=false) (i:=i) (by omega)]
 have b6:((n7 m).map λ(k:Nat)=>[J (k:Int)]).length=8:=rfl;simp only[CF,go_sem,b6,show decide (((8:Nat):Int)<((8:Nat):Int))=false from rfl]
theorem au9(A km:D):bp (h4 n) n [D.dZ 114 (aP m.aR),A,km,J m.aR.length,J 0,bj m.vars,aP m.aR,az m.bP,az m.bQ,aP m.next,az m.trans,az m.bS,bZ m.bI,J 0,J 0]=some (if(cH (lC m) m.aR.length 0).2=0 then .inl [A,km,bj m.vars,aP m.aR,az m.bP,az m.bQ,aP m.next,az m.trans,az m.bS,bZ m.bI,J 0,J 0]else .inr (.inr (.inr (.inr (eK (2,cH (lC m) m.aR.length 0)))))):=by
 have aj:=hm.ir;have cj:=hm.bo.dl;refine n6 (f:=h4 n) (λi=>[D.dZ 114 (aP m.aR),A,km,J m.aR.length,J (i:Int),bj m.vars,aP m.aR,az m.bP,az m.bQ,aP m.next,az m.trans,az m.bS,bZ m.bI,J 0,J 0]) (lC m) (m.aR.length) _ (λp=> .inr (.inr (.inr (eK (2,p))))) ?_ ?_ _ 0 n (by omega) (by omega)
 .intro i ah;have ch:=yT ((i:Int)<((m.aR.length:Nat):Int));have hw:=auM hm i ah;change uJ n [_,m.d,J (i:Int)]=some (J (lC m i))at hw;by_cases ao:lC m i=0
  .have dX:(lC m i !=0)=false:=by simp[ao]
   rw[xad ao];simp only[h4,go_sem,ch,iu,Nj,aA.eta,hw,dX,b1 (bt:=false) (i:=i) (by omega)]
  have dX:(lC m i !=0)=true:=by simpa using ao
  rw[xac ao];simp only[h4,go_sem,ch,iu,Nj,aA.eta,hw,dX,LL,ZU,eK]
 simp only[h4,go_sem,yF (((m.aR.length:Nat):Int)<((m.aR.length:Nat):Int))]
theorem ava(A km:D):bp (h4 n) n [D.dZ 115 (aP m.aR),A,km,J m.aR.length,J 0,bj m.vars,aP m.aR,az m.bP,az m.bQ,aP m.next,az m.trans,az m.bS,bZ m.bI,J 0,J 0]=some (if(cH (l2 m) m.aR.length 0).2=0 then .inl [A,km,bj m.vars,aP m.aR,az m.bP,az m.bQ,aP m.next,az m.trans,az m.bS,bZ m.bI,J 0,J 0]else .inr (.inr (.inr (.inr (eK (2,cH (l2 m) m.aR.length 0)))))):=by
 have aj:=hm.ir;have cj:=hm.bo.dl;refine n6 (f:=h4 n) (λi=>[D.dZ 115 (aP m.aR),A,km,J m.aR.length,J (i:Int),bj m.vars,aP m.aR,az m.bP,az m.bQ,aP m.next,az m.trans,az m.bS,bZ m.bI,J 0,J 0]) (l2 m) (m.aR.length) _ (λp=> .inr (.inr (.inr (eK (2,p))))) ?_ ?_ _ 0 n (by omega) (by omega)
 .intro i ah;have ch:=yT ((i:Int)<((m.aR.length:Nat):Int));have hw:=auI n m hm.bo.d i ah (by omega);change BR n [_,m.d,J (i:Int)]=some (J (l2 m i))at hw;by_cases ao:l2 m i=0
  .have dX:(l2 m i !=0)=false:=by simp[ao]
   rw[xad ao];simp only[h4,go_sem,ch,iu,Nk,Nl,aA.eta,hw,dX,b1 (bt:=false) (i:=i) (by omega)]
  have dX:(l2 m i !=0)=true:=by simpa using ao
  rw[xac ao];simp only[h4,go_sem,ch,iu,Nk,Nl,aA.eta,hw,dX,LK,ZT,eK]
 simp only[h4,go_sem,yF (((m.aR.length:Nat):Int)<((m.aR.length:Nat):Int))]
theorem avb(A km:D):bp (h4 n) n [D.dZ 116 (aP m.aR),A,km,J m.aR.length,J 0,bj m.vars,aP m.aR,az m.bP,az m.bQ,aP m.next,az m.trans,az m.bS,bZ m.bI,J 0,J 0]=some (if(cH (lD m) m.aR.length 0).2=0 then .inl [A,km,bj m.vars,aP m.aR,az m.bP,az m.bQ,aP m.next,az m.trans,az m.bS,bZ m.bI,J 0,J 0]else .inr (.inr (.inr (.inr (eK (2,cH (lD m) m.aR.length 0)))))):=by
 have aj:=hm.ir;have cj:=hm.bo.dl;refine n6 (f:=h4 n) (λi=>[D.dZ 116 (aP m.aR),A,km,J m.aR.length,J (i:Int),bj m.vars,aP m.aR,az m.bP,az m.bQ,aP m.next,az m.trans,az m.bS,bZ m.bI,J 0,J 0]) (lD m) (m.aR.length) _ (λp=> .inr (.inr (.inr (eK (2,p))))) ?_ ?_ _ 0 n (by omega) (by omega)
 .intro i ah;have ch:=yT ((i:Int)<((m.aR.length:Nat):Int));have hw:=auN hm i ah;change BQ n [_,m.d,J (i:Int)]=some (J (lD m i))at hw;by_cases ao:lD m i=0
  .have dX:(lD m i !=0)=false:=by simp[ao]
   rw[xad ao];simp only[h4,go_sem,ch,iu,Nm,Nn,No,aA.eta,hw,dX,b1 (bt:=false) (i:=i) (by omega)]
  have dX:(lD m i !=0)=true:=by simpa using ao
  rw[xac ao];simp only[h4,go_sem,ch,iu,Nm,Nn,No,aA.eta,hw,dX,LJ,ZS,eK]
 simp only[h4,go_sem,yF (((m.aR.length:Nat):Int)<((m.aR.length:Nat):Int))]
theorem NA(l:List Tm)(aq:l.length<=100/\∀t∈l,t.cp/\t.bo<=12300)(k:Int)(nx:Bool)(A km:D):bp (h4 n) n [D.dZ 118 (D.agg [J k,az l,ay nx]),A,km,J l.length,J 0,bj m.vars,aP m.aR,az m.bP,az m.bQ,aP m.next,az m.trans,az m.bS,bZ m.bI,J 0,J 0]=some (if(cH (fg m l nx) l.length 0).2=0 then .inl [A,km,bj m.vars,aP m.aR,az m.bP,az m.bQ,aP m.next,az m.trans,az m.bS,bZ m.bI,J 0,J 0]else .inr (.inr (.inr (.inr (eK (k,cH (fg m l nx) l.length 0)))))):=by
 have aj:=hm.ir;have cj:=aq.1;have avc:ad (D.agg [J k,az l,ay nx]) 0=J k:=rfl;have z6:a5 3 (D.agg [J k,az l,ay nx])=true:=rfl;refine n6 (f:=h4 n) (λi=>[D.dZ 118 (D.agg [J k,az l,ay nx]),A,km,J l.length,J (i:Int),bj m.vars,aP m.aR,az m.bP,az m.bQ,aP m.next,az m.trans,az m.bS,bZ m.bI,J 0,J 0]) (fg m l nx) (l.length) _ (λp=> .inr (.inr (.inr (eK (k,p))))) ?_ ?_ _ 0 n (by omega) (by omega)
 .intro i ah;have ch:=yT ((i:Int)<((l.length:Nat):Int));have hw:=auO hm l aq.2 k nx i ah;change BP n [_,m.d,J (i:Int)]=some (J (fg m l nx i))at hw;by_cases ao:fg m l nx i=0
  .have dX:(fg m l nx i !=0)=false:=by simp[ao]
   rw[xad ao];simp only[h4,go_sem,ch,iu,tu,tw,tx,tz,aA.eta,hw,dX,b1 (bt:=false) (i:=i) (by omega)]
  have dX:(fg m l nx i !=0)=true:=by simpa using ao
  rw[xac ao];simp only[h4,go_sem,ch,iu,tu,tw,tx,tz,aA.eta,hw,dX,LI,ZR,avc,z6,eK]
 simp only[h4,go_sem,yF (((l.length:Nat):Int)<((l.length:Nat):Int))]
theorem avd(A km:D):bp (h4 n) n [D.dZ 119 (aP m.next),A,km,J m.next.length,J 0,bj m.vars,aP m.aR,az m.bP,az m.bQ,aP m.next,az m.trans,az m.bS,bZ m.bI,J 0,J 0]=some (if(cH (jL m) m.next.length 0).2=0 then .inl [A,km,bj m.vars,aP m.aR,az m.bP,az m.bQ,aP m.next,az m.trans,az m.bS,bZ m.bI,J 0,J 0]else .inr (.inr (.inr (.inr (eK (5,cH (jL m) m.next.length 0)))))):=by
 have aj:=hm.ir;have cj:=hm.next.1
 refine n6 (f:=h4 n) (λi=>[D.dZ 119 (aP m.next),A,km,J m.next.length,J (i:Int),bj m.vars,aP m.aR,az m.bP,az m.bQ,aP m.next,az m.trans,az m.bS,bZ m.bI,J 0,J 0]) (jL m) (m.next.length) _ (λp=> .inr (.inr (.inr (eK (5,p))))) ?_ ?_ _ 0 n (by omega) (by omega)
 .intro i ah;have ch:=yT ((i:Int)<((m.next.length:Nat):Int));have hw:=auP hm i ah;change wJ n [_,m.d,J (i:Int)]=some (J (jL m i))at hw;by_cases ao:jL m i=0
  .have dX:(jL m i !=0)=false:=by simp[ao]
   rw[xad ao];simp only[h4,go_sem,ch,iu,Np,Nq,Nr,Ns,Nt,aA.eta,hw,dX,b1 (bt:=false) (i:=i) (by omega)]
  have dX:(jL m i !=0)=true:=by simpa using ao
  rw[xac ao];simp only[h4,go_sem,ch,iu,Np,Nq,Nr,Ns,Nt,aA.eta,hw,dX,LH,ZQ,eK]
 simp only[h4,go_sem,yF (((m.next.length:Nat):Int)<((m.next.length:Nat):Int))]
theorem ave(A km:D):bp (h4 n) n [D.dZ 120 (bZ m.bI),A,km,J m.bI.length,J 0,bj m.vars,aP m.aR,az m.bP,az m.bQ,aP m.next,az m.trans,az m.bS,bZ m.bI,J 0,J 0]=some (if(cH (jM m) m.bI.length 0).2=0 then .inl [A,km,bj m.vars,aP m.aR,az m.bP,az m.bQ,aP m.next,az m.trans,az m.bS,bZ m.bI,J 0,J 0]else .inr (.inr (.inr (.inr (eK (8,cH (jM m) m.bI.length 0)))))):=by
 have aj:=hm.ir;have cj:=hm.bI.1;refine n6 (f:=h4 n) (λi=>[D.dZ 120 (bZ m.bI),A,km,J m.bI.length,J (i:Int),bj m.vars,aP m.aR,az m.bP,az m.bQ,aP m.next,az m.trans,az m.bS,bZ m.bI,J 0,J 0]) (jM m) (m.bI.length) _ (λp=> .inr (.inr (.inr (eK (8,p))))) ?_ ?_ _ 0 n (by omega) (by omega)
 .intro i ah;have ch:=yT ((i:Int)<((m.bI.length:Nat):Int));have hw:=auQ hm i ah;change u2 n [_,m.d,J (i:Int)]=some (J (jM m i))at hw;by_cases ao:jM m i=0
  .have dX:(jM m i !=0)=false:=by simp[ao]
   rw[xad ao];simp only[h4,go_sem,ch,iu,Nu,Nv,Nw,Nx,Ny,Nz,aA.eta,hw,dX,b1 (bt:=false) (i:=i) (by omega)]
  have dX:(jM m i !=0)=true:=by simpa using ao
  rw[xac ao];simp only[h4,go_sem,ch,iu,Nu,Nv,Nw,Nx,Ny,Nz,aA.eta,hw,dX,LG,ZP,eK]
 simp only[h4,go_sem,yF (((m.bI.length:Nat):Int)<((m.bI.length:Nat):Int))]
theorem avf:hX n [gI m,J 0,bj m.vars,aP m.aR,az m.bP,az m.bQ,aP m.next,az m.trans,az m.bS,bZ m.bI,J 0,J 0]=some (if(cH (lC m) m.aR.length 0).2=0 then .inl [gI m,J 1,bj m.vars,aP m.aR,az m.bP,az m.bQ,aP m.next,az m.trans,az m.bS,bZ m.bI,J 0,J 0]else .inr (.inr (eK (2,cH (lC m) m.aR.length 0)))):=by
 have fC:=au9 hm (gI m) (J 0);have ch:decide ((0:Int)<9)=true:=rfl;have fW:cg 9 (J 0)=some 0:=rfl;have bd:lJ false 1 (0*1) (gI m)=some (D.dZ 114 (aP m.aR)):=rfl;have jq:FD n [aP m.aR]=some (J m.aR.length):=by simp only[FD,Zw,go_sem,dT]
 have g4:ai false .add (J 0) (J 1)=some (J 1):=gr (by decide) (by decide);by_cases ao:(cH (lC m) m.aR.length 0).2=0;.rw[xad ao]at fC⊢;simp only[hX,go_sem,ch,fW,bd,iu,Nj,jq,fC,g4]
 rw[xac ao]at fC⊢;simp only[hX,go_sem,ch,fW,bd,iu,Nj,jq,fC]
theorem avg:hX n [gI m,J 1,bj m.vars,aP m.aR,az m.bP,az m.bQ,aP m.next,az m.trans,az m.bS,bZ m.bI,J 0,J 0]=some (if(cH (l2 m) m.aR.length 0).2=0 then .inl [gI m,J 2,bj m.vars,aP m.aR,az m.bP,az m.bQ,aP m.next,az m.trans,az m.bS,bZ m.bI,J 0,J 0]else .inr (.inr (eK (2,cH (l2 m) m.aR.length 0)))):=by
 have fC:=ava hm (gI m) (J 1);have ch:decide ((1:Int)<9)=true:=rfl;have fW:cg 9 (J 1)=some 1:=rfl;have bd:lJ false 1 (1*1) (gI m)=some (D.dZ 115 (aP m.aR)):=rfl;have jq:FC n [aP m.aR]=some (J m.aR.length):=by simp only[FC,Zv,go_sem,dT]
 have g4:ai false .add (J 1) (J 1)=some (J 2):=gr (by decide) (by decide);by_cases ao:(cH (l2 m) m.aR.length 0).2=0;.rw[xad ao]at fC⊢;simp only[hX,go_sem,ch,fW,bd,iu,Nk,Nl,jq,fC,g4]
 rw[xac ao]at fC⊢;simp only[hX,go_sem,ch,fW,bd,iu,Nk,Nl,jq,fC]
theorem avh:hX n [gI m,J 2,bj m.vars,aP m.aR,az m.bP,az m.bQ,aP m.next,az m.trans,az m.bS,bZ m.bI,J 0,J 0]=some (if(cH (lD m) m.aR.length 0).2=0 then .inl [gI m,J 3,bj m.vars,aP m.aR,az m.bP,az m.bQ,aP m.next,az m.trans,az m.bS,bZ m.bI,J 0,J 0]else .inr (.inr (eK (2,cH (lD m) m.aR.length 0)))):=by
 have fC:=avb hm (gI m) (J 2);have ch:decide ((2:Int)<9)=true:=rfl;have fW:cg 9 (J 2)=some 2:=rfl;have bd:lJ false 1 (2*1) (gI m)=some (D.dZ 116 (aP m.aR)):=rfl;have jq:FB n [aP m.aR]=some (J m.aR.length):=by simp only[FB,Zu,go_sem,dT]
 have g4:ai false .add (J 2) (J 1)=some (J 3):=gr (by decide) (by decide);by_cases ao:(cH (lD m) m.aR.length 0).2=0;.rw[xad ao]at fC⊢;simp only[hX,go_sem,ch,fW,bd,iu,Nm,Nn,No,jq,fC,g4]
 rw[xac ao]at fC⊢;simp only[hX,go_sem,ch,fW,bd,iu,Nm,Nn,No,jq,fC]
theorem avi:hX n [gI m,J 3,bj m.vars,aP m.aR,az m.bP,az m.bQ,aP m.next,az m.trans,az m.bS,bZ m.bI,J 0,J 0]=some (if(cH (fg m m.bP false) m.bP.length 0).2=0 then .inl [gI m,J 4,bj m.vars,aP m.aR,az m.bP,az m.bQ,aP m.next,az m.trans,az m.bS,bZ m.bI,J 0,J 0]else .inr (.inr (eK (3,cH (fg m m.bP false) m.bP.length 0)))):=by
 have fC:=NA hm m.bP hm.bP 3 false (gI m) (J 3);have ch:decide ((3:Int)<9)=true:=rfl;have fW:cg 9 (J 3)=some 3:=rfl;have bd:lJ false 1 (3*1) (gI m)=some (D.dZ 118 (D.agg [J 3,az m.bP,ay false])):=rfl;have jq:rp n [D.agg [J 3,az m.bP,ay false]]=some (J m.bP.length):=by have aw:a5 3 (D.agg [J 3,az m.bP,ay false])=true:=rfl;have a4:ad (D.agg [J 3,az m.bP,ay false]) 1=az m.bP:=rfl;simp only[rp,FA,go_sem,aw,a4,g7]
 have g4:ai false .add (J 3) (J 1)=some (J 4):=gr (by decide) (by decide);by_cases ao:(cH (fg m m.bP false) m.bP.length 0).2=0;.rw[xad ao]at fC⊢;simp only[hX,go_sem,ch,fW,bd,iu,tu,tw,tx,tz,jq,fC,g4]
 rw[xac ao]at fC⊢;simp only[hX,go_sem,ch,fW,bd,iu,tu,tw,tx,tz,jq,fC]
theorem avj:hX n [gI m,J 4,bj m.vars,aP m.aR,az m.bP,az m.bQ,aP m.next,az m.trans,az m.bS,bZ m.bI,J 0,J 0]=some (if(cH (fg m m.bQ false) m.bQ.length 0).2=0 then .inl [gI m,J 5,bj m.vars,aP m.aR,az m.bP,az m.bQ,aP m.next,az m.trans,az m.bS,bZ m.bI,J 0,J 0]else .inr (.inr (eK (4,cH (fg m m.bQ false) m.bQ.length 0)))):=by
 have fC:=NA hm m.bQ hm.bQ 4 false (gI m) (J 4);have ch:decide ((4:Int)<9)=true:=rfl;have fW:cg 9 (J 4)=some 4:=rfl;have bd:lJ false 1 (4*1) (gI m)=some (D.dZ 118 (D.agg [J 4,az m.bQ,ay false])):=rfl;have jq:rp n [D.agg [J 4,az m.bQ,ay false]]=some (J m.bQ.length):=by have aw:a5 3 (D.agg [J 4,az m.bQ,ay false])=true:=rfl;have a4:ad (D.agg [J 4,az m.bQ,ay false]) 1=az m.bQ:=rfl;simp only[rp,FA,go_sem,aw,a4,g7]
 have g4:ai false .add (J 4) (J 1)=some (J 5):=gr (by decide) (by decide);by_cases ao:(cH (fg m m.bQ false) m.bQ.length 0).2=0;.rw[xad ao]at fC⊢;simp only[hX,go_sem,ch,fW,bd,iu,tu,tw,tx,tz,jq,fC,g4]
 rw[xac ao]at fC⊢;simp only[hX,go_sem,ch,fW,bd,iu,tu,tw,tx,tz,jq,fC]
theorem avk:hX n [gI m,J 5,bj m.vars,aP m.aR,az m.bP,az m.bQ,aP m.next,az m.trans,az m.bS,bZ m.bI,J 0,J 0]=some (if(cH (jL m) m.next.length 0).2=0 then .inl [gI m,J 6,bj m.vars,aP m.aR,az m.bP,az m.bQ,aP m.next,az m.trans,az m.bS,bZ m.bI,J 0,J 0]else .inr (.inr (eK (5,cH (jL m) m.next.length 0)))):=by
 have fC:=avd hm (gI m) (J 5);have ch:decide ((5:Int)<9)=true:=rfl;have fW:cg 9 (J 5)=some 5:=rfl;have bd:lJ false 1 (5*1) (gI m)=some (D.dZ 119 (aP m.next)):=rfl;have jq:Fz n [aP m.next]=some (J m.next.length):=by simp only[Fz,Zt,go_sem,dT]
 have g4:ai false .add (J 5) (J 1)=some (J 6):=gr (by decide) (by decide);by_cases ao:(cH (jL m) m.next.length 0).2=0;.rw[xad ao]at fC⊢;simp only[hX,go_sem,ch,fW,bd,iu,Np,Nq,Nr,Ns,Nt,jq,fC,g4]
 rw[xac ao]at fC⊢;simp only[hX,go_sem,ch,fW,bd,iu,Np,Nq,Nr,Ns,Nt,jq,fC]
theorem avl:hX n [gI m,J 6,bj m.vars,aP m.aR,az m.bP,az m.bQ,aP m.next,az m.trans,az m.bS,bZ m.bI,J 0,J 0]=some (if(cH (fg m m.trans true) m.trans.length 0).2=0 then .inl [gI m,J 7,bj m.vars,aP m.aR,az m.bP,az m.bQ,aP m.next,az m.trans,az m.bS,bZ m.bI,J 0,J 0]else .inr (.inr (eK (6,cH (fg m m.trans true) m.trans.length 0)))):=by
 have fC:=NA hm m.trans hm.trans 6 true (gI m) (J 6);have ch:decide ((6:Int)<9)=true:=rfl;have fW:cg 9 (J 6)=some 6:=rfl;have bd:lJ false 1 (6*1) (gI m)=some (D.dZ 118 (D.agg [J 6,az m.trans,ay true])):=rfl;have jq:rp n [D.agg [J 6,az m.trans,ay true]]=some (J m.trans.length):=by have aw:a5 3 (D.agg [J 6,az m.trans,ay true])=true:=rfl;have a4:ad (D.agg [J 6,az m.trans,ay true]) 1=az m.trans:=rfl;simp only[rp,FA,go_sem,aw,a4,g7]
 have g4:ai false .add (J 6) (J 1)=some (J 7):=gr (by decide) (by decide);by_cases ao:(cH (fg m m.trans true) m.trans.length 0).2=0;.rw[xad ao]at fC⊢;simp only[hX,go_sem,ch,fW,bd,iu,tu,tw,tx,tz,jq,fC,g4]
 rw[xac ao]at fC⊢;simp only[hX,go_sem,ch,fW,bd,iu,tu,tw,tx,tz,jq,fC]
theorem avm:hX n [gI m,J 7,bj m.vars,aP m.aR,az m.bP,az m.bQ,aP m.next,az m.trans,az m.bS,bZ m.bI,J 0,J 0]=some (if(cH (fg m m.bS false) m.bS.length 0).2=0 then .inl [gI m,J 8,bj m.vars,aP m.aR,az m.bP,az m.bQ,aP m.next,az m.trans,az m.bS,bZ m.bI,J 0,J 0]else .inr (.inr (eK (7,cH (fg m m.bS false) m.bS.length 0)))):=by
 have fC:=NA hm m.bS hm.bS 7 false (gI m) (J 7);have ch:decide ((7:Int)<9)=true:=rfl;have fW:cg 9 (J 7)=some 7:=rfl;have bd:lJ false 1 (7*1) (gI m)=some (D.dZ 118 (D.agg [J 7,az m.bS,ay false])):=rfl;have jq:rp n [D.agg [J 7,az m.bS,ay false]]=some (J m.bS.length):=by have aw:a5 3 (D.agg [J 7,az m.bS,ay false])=true:=rfl;have a4:ad (D.agg [J 7,az m.bS,ay false]) 1=az m.bS:=rfl;simp only[rp,FA,go_sem,aw,a4,g7]
 have g4:ai false .add (J 7) (J 1)=some (J 8):=gr (by decide) (by decide);by_cases ao:(cH (fg m m.bS false) m.bS.length 0).2=0;.rw[xad ao]at fC⊢;simp only[hX,go_sem,ch,fW,bd,iu,tu,tw,tx,tz,jq,fC,g4]
 rw[xac ao]at fC⊢;simp only[hX,go_sem,ch,fW,bd,iu,tu,tw,tx,tz,jq,fC]
theorem avn:hX n [gI m,J 8,bj m.vars,aP m.aR,az m.bP,az m.bQ,aP m.next,az m.trans,az m.bS,bZ m.bI,J 0,J 0]=some (if(cH (jM m) m.bI.length 0).2=0 then .inl [gI m,J 9,bj m.vars,aP m.aR,az m.bP,az m.bQ,aP m.next,az m.trans,az m.bS,bZ m.bI,J 0,J 0]else .inr (.inr (eK (8,cH (jM m) m.bI.length 0)))):=by
 have fC:=ave hm (gI m) (J 8);have ch:decide ((8:Int)<9)=true:=rfl;have fW:cg 9 (J 8)=some 8:=rfl;have bd:lJ false 1 (8*1) (gI m)=some (D.dZ 120 (bZ m.bI)):=rfl;have jq:Fy n [bZ m.bI]=some (J m.bI.length):=by simp only[Fy,Zs,go_sem,iC]
 have g4:ai false .add (J 8) (J 1)=some (J 9):=gr (by decide) (by decide);by_cases ao:(cH (jM m) m.bI.length 0).2=0;.rw[xad ao]at fC⊢;simp only[hX,go_sem,ch,fW,bd,iu,Nu,Nv,Nw,Nx,Ny,Nz,jq,fC,g4]
 rw[xac ao]at fC⊢;simp only[hX,go_sem,ch,fW,bd,iu,Nu,Nv,Nw,Nx,Ny,Nz,jq,fC]
theorem avo:bp (hX n) n [gI m,J 0,bj m.vars,aP m.aR,az m.bP,az m.bQ,aP m.next,az m.trans,az m.bS,bZ m.bI,J 0,J 0]=some (if(h7 (rY m)).2.2=0 then .inl [J 0,J 0]else .inr (eK (h7 (rY m)))):=by
 have aj:=hm.ir;refine ad3 (f:=hX n) (rY m) (λi=>[gI m,J (i:Int),bj m.vars,aP m.aR,az m.bP,az m.bQ,aP m.next,az m.trans,az m.bS,bZ m.bI,J 0,J 0]) [J 0,J 0] eK ?_ ?_ n (by show 9<n;omega)
 .intro i a aE
  match i,aE with
  |0,aE=>cases aE;exact avf hm
  |1,aE=>cases aE;exact avg hm
  |2,aE=>cases aE;exact avh hm
  |3,aE=>cases aE;exact avi hm
  |4,aE=>cases aE;exact avj hm
  |5,aE=>cases aE;exact avk hm
  |6,aE=>cases aE;exact avl hm
  |7,aE=>cases aE;exact avm hm
  |8,aE=>cases aE;exact avn hm
  |j+9,aE=>cases aE
 show hX n [gI m,J 9,bj m.vars,aP m.aR,az m.bP,az m.bQ,aP m.next,az m.trans,az m.bS,bZ m.bI,J 0,J 0]=_;simp only[hX,go_sem,show decide ((9:Int)<9)=false from rfl]
theorem ad7:rM n [m.d]=some (eK (kl m)):=by
 have aj:=hm.ir;have af:=au7 hm;have pO:=avo hm;have hJ:=at3 n m.vars hm.Ng (by have:=hm.bo.oR;omega) hm.adX;have gC:=au2 n m hm.Ng hm.bo.oR (by omega);have jz:D.agg [J (m.vars.length:Int),J (m.aR.length:Int),J (m.bP.length:Int),J (m.bQ.length:Int),J (m.next.length:Int),J (m.trans.length:Int),J (m.bS.length:Int),J (m.bI.length:Int)]=IB m:=rfl;have NB:D.agg [.dZ 114 (aP m.aR),.dZ 115 (aP m.aR),.dZ 116 (aP m.aR),.dZ 118 (.agg [J 3,az m.bP,ay false]),.dZ 118 (.agg [J 4,az m.bQ,ay false]),.dZ 119 (aP m.next),.dZ 118 (.agg [J 6,az m.trans,ay true]),.dZ 118 (.agg [J 7,az m.bS,ay false]),.dZ 120 (bZ m.bI)]=gI m:=rfl;have NC:∀l,bE (az l)=true:=λ_=>rfl;have fs:∀t x,bE (D.dZ t x)=true:=λ_ _=>rfl;unfold kl;by_cases bR:(cH (mB m) 8 0).2=0
 case neg=>rw[xac bR]at af⊢;simp only[rM,CX,go_sem,aA.agg,aA.a7,aA.bR,aA.bY,aA.ct,aA.de,aA.ee,aA.ef,aA.e2,aA.eta,fB,dT,g7,iC,jz,af]
 rw[xad bR]at af⊢;by_cases bY:(j9 m.vars).2=0
 case neg=>
  have rZ:((j9 m.vars).2 !=0)=true:=by simpa using bY
  rw[xac bY];simp only[rM,CX,go_sem,aA.agg,aA.a7,aA.bR,aA.bY,aA.ct,aA.de,aA.ee,aA.ef,aA.e2,aA.eta,fB,dT,g7,iC,jz,af,hJ,rZ,eK]
 have rZ:((j9 m.vars).2 !=0)=false:=by simp[bY]
 rw[xad bY];by_cases ct:30<mA m.vars;.have rS:=yT (((mA m.vars:Nat):Int)>30);rw[xad ct];simp only[rM,CX,go_sem,aA.agg,aA.a7,aA.bR,aA.bY,aA.ct,aA.de,aA.ee,aA.ef,aA.e2,aA.eta,fB,dT,g7,iC,jz,af,hJ,rZ,gC,rS,eK]
 have rS:=yF (((mA m.vars:Nat):Int)>30);rw[xac ct];by_cases de:(h7 (rY m)).2.2=0;.rw[xad de]at pO;rw[ad6 _ de];simp only[rM,CX,go_sem,aA.agg,aA.a7,aA.bR,aA.bY,aA.ct,aA.de,aA.ee,aA.ef,aA.e2,aA.eta,fB,dT,g7,iC,jz,af,hJ,rZ,gC,rS,NC,fs,NB,pO,eK]
 rw[xac de]at pO;simp only[rM,CX,go_sem,aA.agg,aA.a7,aA.bR,aA.bY,aA.ct,aA.de,aA.ee,aA.ef,aA.e2,aA.eta,fB,dT,g7,iC,jz,af,hJ,rZ,gC,rS,NC,fs,NB,pO]
theorem avp(h:(rX m).2=0):rX m=(0,0):=by unfold rX at h⊢;obtain⟨ab,af⟩:=ad4.1 h;obtain⟨aw,a4⟩:=ad4.1 af;rw[vi,xad ab,vi,xad aw,rW _ _ _ a4]
theorem avq:jn n [J 0,J 0,J 2,bj m.vars,aP m.aR,az m.bP,az m.bQ,aP m.next,az m.trans,az m.bS,bZ m.bI,J 0,J 0]=some (if(rX m).2=0 then .inl [J 0,J 0,J 3,bj m.vars,aP m.aR,az m.bP,az m.bQ,aP m.next,az m.trans,az m.bS,bZ m.bI,J 0,J 0]else .inr (.inr (eK (2,rX m)))):=by
 have fe:=auW hm;have ch:decide ((2:Int)<=8)=true:=rfl;have bz:((2:Int)==2)=true:=rfl;have g4:ai false .add (J 2) (J 1)=some (J 3):=gr (by decide) (by decide);by_cases ao:(rX m).2=0
 .have bD:=avp hm ao;rw[bD]at fe⊢;have hA:((0:Int) !=0)=false:=rfl;simp only[jn,go_sem,ch,bz,aA.eta,fe,gb,hA,g4]
 rw[xac ao];generalize rX m=p at*;have dX:(p.2 !=0)=true:=by simpa using ao
 simp only[jn,go_sem,ch,bz,aA.eta,fe,gb,dX,eK]
theorem avr:jn n [J 0,J 0,J 3,bj m.vars,aP m.aR,az m.bP,az m.bQ,aP m.next,az m.trans,az m.bS,bZ m.bI,J 0,J 0]=some (if(cH (fg m m.bP false) m.bP.length 0).2=0 then .inl [J 0,J 0,J 4,bj m.vars,aP m.aR,az m.bP,az m.bQ,aP m.next,az m.trans,az m.bS,bZ m.bI,J 0,J 0]else .inr (.inr (eK (3,cH (fg m m.bP false) m.bP.length 0)))):=by
 have fe:=Ni hm m.bP hm.bP false;have ch:decide ((3:Int)<=8)=true:=rfl;have bz:((3:Int)==2)=false:=rfl;have cz:((3:Int)==3)=true:=rfl;have g4:ai false .add (J 3) (J 1)=some (J 4):=gr (by decide) (by decide);by_cases ao:(cH (fg m m.bP false) m.bP.length 0).2=0
 .have bD:=rW _ _ _ ao;rw[bD]at fe⊢;have hA:((0:Int) !=0)=false:=rfl;simp only[jn,go_sem,ch,bz,cz,aA.eta,fe,gb,hA,g4]
 rw[xac ao];generalize cH (fg m m.bP false) m.bP.length 0=p at*;have dX:(p.2 !=0)=true:=by simpa using ao
 simp only[jn,go_sem,ch,bz,cz,aA.eta,fe,gb,dX,eK]
theorem avs:jn n [J 0,J 0,J 4,bj m.vars,aP m.aR,az m.bP,az m.bQ,aP m.next,az m.trans,az m.bS,bZ m.bI,J 0,J 0]=some (if(cH (fg m m.bQ false) m.bQ.length 0).2=0 then .inl [J 0,J 0,J 5,bj m.vars,aP m.aR,az m.bP,az m.bQ,aP m.next,az m.trans,az m.bS,bZ m.bI,J 0,J 0]else .inr (.inr (eK (4,cH (fg m m.bQ false) m.bQ.length 0)))):=by
 have fe:=Ni hm m.bQ hm.bQ false;have ch:decide ((4:Int)<=8)=true:=rfl;have bz:((4:Int)==2)=false:=rfl;have cz:((4:Int)==3)=false:=rfl;have eA:((4:Int)==4)=true:=rfl;have g4:ai false .add (J 4) (J 1)=some (J 5):=gr (by decide) (by decide);by_cases ao:(cH (fg m m.bQ false) m.bQ.length 0).2=0
 .have bD:=rW _ _ _ ao;rw[bD]at fe⊢;have hA:((0:Int) !=0)=false:=rfl;simp only[jn,go_sem,ch,bz,cz,eA,aA.eta,fe,gb,hA,g4]
 rw[xac ao];generalize cH (fg m m.bQ false) m.bQ.length 0=p at*;have dX:(p.2 !=0)=true:=by simpa using ao
 simp only[jn,go_sem,ch,bz,cz,eA,aA.eta,fe,gb,dX,eK]
theorem avt:jn n [J 0,J 0,J 5,bj m.vars,aP m.aR,az m.bP,az m.bQ,aP m.next,az m.trans,az m.bS,bZ m.bI,J 0,J 0]=some (if(cH (jL m) m.next.length 0).2=0 then .inl [J 0,J 0,J 6,bj m.vars,aP m.aR,az m.bP,az m.bQ,aP m.next,az m.trans,az m.bS,bZ m.bI,J 0,J 0]else .inr (.inr (eK (5,cH (jL m) m.next.length 0)))):=by
 have fe:=auZ hm;have ch:decide ((5:Int)<=8)=true:=rfl;have bz:((5:Int)==2)=false:=rfl;have cz:((5:Int)==3)=false:=rfl;have eA:((5:Int)==4)=false:=rfl;have fq:((5:Int)==5)=true:=rfl;have g4:ai false .add (J 5) (J 1)=some (J 6):=gr (by decide) (by decide);by_cases ao:(cH (jL m) m.next.length 0).2=0
 .have bD:=rW _ _ _ ao;rw[bD]at fe⊢;have hA:((0:Int) !=0)=false:=rfl;simp only[jn,go_sem,ch,bz,cz,eA,fq,aA.eta,fe,gb,hA,g4]
 rw[xac ao];generalize cH (jL m) m.next.length 0=p at*
 have dX:(p.2 !=0)=true:=by simpa using ao
 simp only[jn,go_sem,ch,bz,cz,eA,fq,aA.eta,fe,gb,dX,eK]
theorem avu:jn n [J 0,J 0,J 6,bj m.vars,aP m.aR,az m.bP,az m.bQ,aP m.next,az m.trans,az m.bS,bZ m.bI,J 0,J 0]=some (if(cH (fg m m.trans true) m.trans.length 0).2=0 then .inl [J 0,J 0,J 7,bj m.vars,aP m.aR,az m.bP,az m.bQ,aP m.next,az m.trans,az m.bS,bZ m.bI,J 0,J 0]else .inr (.inr (eK (6,cH (fg m m.trans true) m.trans.length 0)))):=by
 have fe:=Ni hm m.trans hm.trans true;have ch:decide ((6:Int)<=8)=true:=rfl;have bz:((6:Int)==2)=false:=rfl;have cz:((6:Int)==3)=false:=rfl;have eA:((6:Int)==4)=false:=rfl;have fq:((6:Int)==5)=false:=rfl;have hc:((6:Int)==6)=true:=rfl;have g4:ai false .add (J 6) (J 1)=some (J 7):=gr (by decide) (by decide);by_cases ao:(cH (fg m m.trans true) m.trans.length 0).2=0
 .have bD:=rW _ _ _ ao;rw[bD]at fe⊢;have hA:((0:Int) !=0)=false:=rfl;simp only[jn,go_sem,ch,bz,cz,eA,fq,hc,aA.eta,fe,gb,hA,g4]
 rw[xac ao];generalize cH (fg m m.trans true) m.trans.length 0=p at*;have dX:(p.2 !=0)=true:=by simpa using ao
 simp only[jn,go_sem,ch,bz,cz,eA,fq,hc,aA.eta,fe,gb,dX,eK]
theorem avv:jn n [J 0,J 0,J 7,bj m.vars,aP m.aR,az m.bP,az m.bQ,aP m.next,az m.trans,az m.bS,bZ m.bI,J 0,J 0]=some (if(cH (fg m m.bS false) m.bS.length 0).2=0 then .inl [J 0,J 0,J 8,bj m.vars,aP m.aR,az m.bP,az m.bQ,aP m.next,az m.trans,az m.bS,bZ m.bI,J 0,J 0]else .inr (.inr (eK (7,cH (fg m m.bS false) m.bS.length 0)))):=by
 have fe:=Ni hm m.bS hm.bS false;have ch:decide ((7:Int)<=8)=true:=rfl;have bz:((7:Int)==2)=false:=rfl;have cz:((7:Int)==3)=false:=rfl;have eA:((7:Int)==4)=false:=rfl;have fq:((7:Int)==5)=false:=rfl;have hc:((7:Int)==6)=false:=rfl;have r0:((7:Int)==7)=true:=rfl;have g4:ai false .add (J 7) (J 1)=some (J 8):=gr (by decide) (by decide);by_cases ao:(cH (fg m m.bS false) m.bS.length 0).2=0
 .have bD:=rW _ _ _ ao;rw[bD]at fe⊢;have hA:((0:Int) !=0)=false:=rfl;simp only[jn,go_sem,ch,bz,cz,eA,fq,hc,r0,aA.eta,fe,gb,hA,g4]
 rw[xac ao];generalize cH (fg m m.bS false) m.bS.length 0=p at*;have dX:(p.2 !=0)=true:=by simpa using ao
 simp only[jn,go_sem,ch,bz,cz,eA,fq,hc,r0,aA.eta,fe,gb,dX,eK]
theorem avw:jn n [J 0,J 0,J 8,bj m.vars,aP m.aR,az m.bP,az m.bQ,aP m.next,az m.trans,az m.bS,bZ m.bI,J 0,J 0]=some (if(cH (jM m) m.bI.length 0).2=0 then .inl [J 0,J 0,J 9,bj m.vars,aP m.aR,az m.bP,az m.bQ,aP m.next,az m.trans,az m.bS,bZ m.bI,J 0,J 0]else .inr (.inr (eK (8,cH (jM m) m.bI.length 0)))):=by
 have fe:=au0 hm;have ch:decide ((8:Int)<=8)=true:=rfl;have bz:((8:Int)==2)=false:=rfl;have cz:((8:Int)==3)=false:=rfl;have eA:((8:Int)==4)=false:=rfl;have fq:((8:Int)==5)=false:=rfl;have hc:((8:Int)==6)=false:=rfl;have r0:((8:Int)==7)=false:=rfl;have ND:((8:Int)==8)=true:=rfl;have g4:ai false .add (J 8) (J 1)=some (J 9):=gr (by decide) (by decide);by_cases ao:(cH (jM m) m.bI.length 0).2=0
 .have bD:=rW _ _ _ ao;rw[bD]at fe⊢;have hA:((0:Int) !=0)=false:=rfl;simp only[jn,go_sem,ch,bz,cz,eA,fq,hc,r0,ND,aA.eta,fe,gb,hA,g4]
 rw[xac ao];generalize cH (jM m) m.bI.length 0=p at*;have dX:(p.2 !=0)=true:=by simpa using ao
 simp only[jn,go_sem,ch,bz,cz,eA,fq,hc,r0,ND,aA.eta,fe,gb,dX,eK]
theorem avx:bp (jn n) n [J 0,J 0,J 2,bj m.vars,aP m.aR,az m.bP,az m.bQ,aP m.next,az m.trans,az m.bS,bZ m.bI,J 0,J 0]=some (if(h7 (rY m)).2.2=0 then .inl [J 0,J 0]else .inr (eK (h7 (rY m)))):=by
 have aj:=hm.ir;rw[<-au5];refine ad3 (f:=jn n) (Um m) (λi=>[J 0,J 0,J ((i+2:Nat):Int),bj m.vars,aP m.aR,az m.bP,az m.bQ,aP m.next,az m.trans,az m.bS,bZ m.bI,J 0,J 0]) [J 0,J 0] eK ?_ ?_ n (by show 7<n;omega)
 .intro i a aE
  match i,aE with
  |0,aE=>cases aE;exact avq hm
  |1,aE=>cases aE;exact avr hm
  |2,aE=>cases aE;exact avs hm
  |3,aE=>cases aE;exact avt hm
  |4,aE=>cases aE;exact avu hm
  |5,aE=>cases aE;exact avv hm
  |6,aE=>cases aE;exact avw hm
  |j+7,aE=>cases aE
 show jn n [J 0,J 0,J 9,bj m.vars,aP m.aR,az m.bP,az m.bQ,aP m.next,az m.trans,az m.bS,bZ m.bI,J 0,J 0]=_;simp only[jn,go_sem,show decide ((9:Int)<=8)=false from rfl]
theorem Uo:rJ n [m.d]=some (eK (kl m)):=by
 have aj:=hm.ir;have af:=au8 hm;have pO:=avx hm;have hJ:=aud n m.vars hm.Ng (by have:=hm.bo.oR;omega) hm.adX;have gC:=au3 n m hm.Ng hm.bo.oR (by omega);have jz:D.ax 1 [[J (m.vars.length:Int)],[J (m.aR.length:Int)],[J (m.bP.length:Int)],[J (m.bQ.length:Int)],[J (m.next.length:Int)],[J (m.trans.length:Int)],[J (m.bS.length:Int)],[J (m.bI.length:Int)]]=D.ax 1 ((n7 m).map λ(k:Nat)=>[J (k:Int)]):=rfl;unfold kl;by_cases bR:(cH (mB m) 8 0).2=0
 case neg=>rw[xac bR]at af⊢;simp only[rJ,CG,go_sem,aA.agg,aA.a7,aA.bR,aA.bY,aA.ct,aA.de,aA.ee,aA.ef,aA.e2,aA.eta,fB,dT,g7,iC,jz,af]
 rw[xad bR]at af⊢;by_cases bY:(j9 m.vars).2=0
 case neg=>
  have rZ:((j9 m.vars).2 !=0)=true:=by simpa using bY
  rw[xac bY];simp only[rJ,CG,go_sem,aA.agg,aA.a7,aA.bR,aA.bY,aA.ct,aA.de,aA.ee,aA.ef,aA.e2,aA.eta,fB,dT,g7,iC,jz,af,hJ,rZ,eK]
 rw[au6 bY]at hJ;have rZ:((0:Int) !=0)=false:=rfl;rw[xad bY];by_cases ct:30<mA m.vars
 .have rS:=yT (((mA m.vars:Nat):Int)>30);rw[xad ct];simp only[rJ,CG,go_sem,aA.agg,aA.a7,aA.bR,aA.bY,aA.ct,aA.de,aA.ee,aA.ef,aA.e2,aA.eta,fB,dT,g7,iC,jz,af,hJ,rZ,gC,rS,eK]
 have rS:=yF (((mA m.vars:Nat):Int)>30);rw[xac ct];by_cases de:(h7 (rY m)).2.2=0;.rw[xad de]at pO;rw[ad6 _ de];simp only[rJ,CG,go_sem,aA.agg,aA.a7,aA.bR,aA.bY,aA.ct,aA.de,aA.ee,aA.ef,aA.e2,aA.eta,fB,dT,g7,iC,jz,af,hJ,rZ,gC,rS,pO,eK]
 rw[xac de]at pO;simp only[rJ,CG,go_sem,aA.agg,aA.a7,aA.bR,aA.bY,aA.ct,aA.de,aA.ee,aA.ef,aA.e2,aA.eta,fB,dT,g7,iC,jz,af,hJ,rZ,gC,rS,pO]
end
def z7(n:Nat):fw:= .slice 4 56 (ps n)
def IC(n:Nat):fw:= .slice 7 104 (.struct [.str,rf n])
def vj(n:Nat):fw:= .struct [K3,wy n,z7 n,z7 n,wy n,z7 n,z7 n,IC n]
def avy(n:Nat):∀m,m<=n->(z7 n).fx m=true
 |0,_=>rfl|m+1,h=>by have:=Bu n m (by omega);simp only[z7,fw.fx,this]
def avz(n:Nat):∀m,m<=n->(IC n).fx m=true
 |0,_=>rfl|1,_=>by simp[IC,fw.fx]|m+2,h=>by have ab:=Rh n m (by omega);have af:fw.fx m .str=true:=yn m .str rfl;simp only[IC,fw.fx,qe,ab,af,xbs]
def avA(n:Nat):∀m,m<=n->(vj n).fx m=true
 |0,_=>rfl|m+1,h=>by have au:fw.fx m K3=true:=yn m K3 rfl;simp only[vj,fw.fx,qe,au,Ze n m (by omega),avy n m (by omega),avz n m (by omega),xbs]
theorem ad8{P:Program}{t tv td tt ts tm tf:TypeId}(h:∀a b c d e f g i,eC P (.struct [a,b,c,d,e,f,g,i]) t=(eC P a tv&&(eC P b td&&(eC P c tt&&(eC P d tt&&(eC P e td&&(eC P f tt&&(eC P g tt&&(eC P i ts&&true))))))))) (a6:eC P K3 tv=true) (aB:uv P wy td) (aK:∀y,eC P (.slice 4 56 y) tt=eC P y tm) (hm:uv P ps tm) (aG:∀y,eC P (.slice 7 104 (.struct [.str,y])) ts=(eC P y tf&&true)) (bd:uv P rf tf) (aq:decide (t<P.types.size)=true):uv P vj t:=⟨λn=>avA n n (xal _),λn=>by rw[vj,h,a6,aB.ok n,z7,aK,hm.ok n,IC,aG,bd.ok n];rfl,xba aq,λn=>rfl⟩
structure tA(m:aA):Prop where
 v:∀x∈m.vars,V.ok x
 d:∀x∈m.aR,x.cp
 i:∀x∈m.bP,x.cp
 bO:∀x∈m.bQ,x.cp
 n:∀x∈m.next,x.cp
 t:∀x∈m.trans,x.cp
 f:∀x∈m.bS,x.cp
 s:∀x∈m.bI,x.name.size<=140737488351232/\x.f.cp
def avB{n:Nat}{x:List D}(h:nk (.struct [.str,rf n]) x):∃d:cy,x=d.cells/\d.name.size<=140737488351232/\d.f.cp:=by obtain⟨a,b,rfl,aE,c,e,rfl,ao,rfl⟩:=h;obtain⟨s,rfl,aG⟩:=K4 aE;obtain⟨t,rfl,aK⟩:=Zd n ao;exact⟨⟨s,t⟩,by simp[cy.cells,Fm.nm],aG,aK⟩
def ad9{n:Nat}{d:D}(h:E2 (vj n) d):∃m:aA,d=m.d/\tA m:=by obtain⟨aO,rfl,ae,fI,rfl,au,an,eI,rfl,ab,bb,gW,rfl,af,b4,kz,rfl,aw,cK,n4,rfl,a4,c3,qz,rfl,b7,c4,tB,rfl,cO,dc,NF,rfl,gx,rfl⟩:=h;obtain⟨bF,rfl,_,_,w0⟩:=au;obtain⟨aL,rfl,_,_,gg⟩:=ab;obtain⟨aX,rfl,_,_,hN⟩:=af;obtain⟨bL,rfl,_,_,kZ⟩:=aw;obtain⟨cL,rfl,_,_,qm⟩:=a4;obtain⟨ea,rfl,_,_,uQ⟩:=b7;obtain⟨fp,rfl,_,_,GI⟩:=cO;obtain⟨nD,rfl,_,_,GM⟩:=gx;obtain⟨w4,rfl,w5⟩:=re V.cells V.ok bF λx ag=>ak2 (w0 x ag).2;obtain⟨mc,rfl,bw⟩:=re a8.cells a8.cp aL λx ag=>Zg (gg x ag).2;obtain⟨mK,rfl,bz⟩:=re Tm.cells Tm.cp aX λx ag=>yt n (hN x ag).2;obtain⟨Up,rfl,cz⟩:=re Tm.cells Tm.cp bL λx ag=>yt n (kZ x ag).2;obtain⟨vk,rfl,eA⟩:=re a8.cells a8.cp cL λx ag=>Zg (qm x ag).2;obtain⟨Uq,rfl,fq⟩:=re Tm.cells Tm.cp ea λx ag=>yt n (uQ x ag).2;obtain⟨avC,rfl,hc⟩:=re Tm.cells Tm.cp fp λx ag=>yt n (GI x ag).2;obtain⟨Ur,rfl,r0⟩:=re cy.cells (λs=>s.name.size<=140737488351232/\s.f.cp) nD λx ag=>avB (GM x ag).2;exact⟨⟨w4,mc,mK,Up,vk,Uq,avC,Ur⟩,by simp only[aA.d,bj,aP,az,bZ,Tm.mr];rfl,⟨w5,bw,bz,cz,eA,fq,hc,r0⟩⟩
end Go.Am
