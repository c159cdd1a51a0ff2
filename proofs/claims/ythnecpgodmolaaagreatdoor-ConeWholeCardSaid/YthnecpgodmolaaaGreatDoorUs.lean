/- Laws, on data. No condition. -/
import Derived.Test.YthnecpgodmolaaaGreatDoorSort
import Derived.Test.YthnecpgodmolaaaGreatDoorTs
import Derived.Test.YthnecpgodmolaaaGreatDoorEngD
import Derived.Test.YthnecpgodmolaaaGreatDoorLaws
import Derived.Test.YthnecpgodmolaaaGreatDoorTies
set_option linter.all false
set_option linter.unnecessarySimpa false
namespace Go.Am
abbrev bg:=ByteArray
structure Ed(ks:List bg)(par rep:bg->bg)(fA:bg->Nat)(d:Nat):Prop where
 afc:∀x,x∈ks->par x∈ks
 OJ:∀x,x∈ks->rep x∈ks
 eA:∀x,x∈ks->rep (par x)=rep x
 root:∀x,x∈ks->par x=x->rep x=x/\fA x=0
 down:∀x,x∈ks->par x≠x->fA (par x)<fA x
 afd:∀x,x∈ks->fA x<=d
 Kz:∀x,x∈ks->par (rep x)=rep x
def AO(R:List (List bg))(C:bg->Prop):Prop:=∀r∈R,∀x∈r,∀y∈r,C x->C y
def Sep(ks:List bg)(R:List (List bg))(rep:bg->bg):Prop:=∀C,AO R C->∀x y,x∈ks->y∈ks->rep x=rep y->C x->C y
def lv(rep:bg->bg)(rows:List (List bg)):Prop:=∀r∈rows,∀x∈r,∀y∈r,rep x=rep y
def xI(rep jY:bg->bg):Prop:=∀x y,rep x=rep y->jY x=jY y
def lv.fin{rep jY:bg->bg}{rows:List (List bg)}(h:lv rep rows)(ba:xI rep jY):lv jY rows:=λr av x ag y aJ=>ba _ _ (h r av x ag y aJ)
theorem axL(ks:List bg):Ed ks (λx=>x) (λx=>x) (λ_=>0) 0:=⟨λ_ h=>h,λ_ h=>h,λ_ _=>rfl,λ_ _ _=>⟨rfl,rfl⟩,λx _ h=>absurd rfl h,λ_ _=>xan _,λ_ _=>rfl⟩
def axM(ks:List bg)(R:List (List bg)):Sep ks R λx=>x:=λC _ x y _ _ e h=>by have e:x=y:=e;rw[<-e];exact h
open Classical in
def axN{ks:List bg}{par rep:bg->bg}{fA:bg->Nat}{d:Nat}(h:Ed ks par rep fA d){R:List (List bg)}(aG:Sep ks R rep){a b:bg}(aE:a∈ks)(aj:b∈ks){r:List bg}(av:r∈R)(OK:a∈r)(OL:b∈r): ∃Vt,Ed ks (λx=>if x=rep a then rep b else par x) (λx=>if rep x=rep a then rep b else rep x) Vt (d+1)/\Sep ks R (λx=>if rep x=rep a then rep b else rep x)/\xI rep (λx=>if rep x=rep a then rep b else rep x):=by
 have afe:=h.Kz a aE;have vW:=h.Kz b aj;have aff:=h.OJ a aE;have OM:=h.OJ b aj;have Vu:=(h.root _ aff afe).1;have afg:=(h.root _ OM vW).1;have axO:=(h.root _ aff afe).2;have axP:=(h.root _ OM vW).2;refine⟨λx=>if rep a≠rep b/\rep x=rep a then fA x+1 else fA x,⟨?_,?_,?_,?_,?_,?_,?_⟩,?_,?_⟩
 .intro x ag;try simp only
  split;.exact OM
  exact h.afc x ag
 .intro x ag;try simp only
  split;.exact OM
  exact h.OJ x ag
 .intro x ag
  try simp only
  by_cases lT:x=rep a
  .rw[xad lT];have:rep x=rep a:=by rw[lT,Vu]
   rw[xad this,afg];split;.rfl
   rfl
  rw[xac lT,h.eA x ag]
 .intro x ag
  try simp only
  by_cases lT:x=rep a
  .rw[xad lT];intro e;have ab:rep x=rep a:=by rw[lT,Vu]
   have fE:rep a=rep b:=by rw[<-lT,<-e]
   rw[xad ab,xac (λq=>q.1 fE)];exact⟨e,by rw[lT];exact axO⟩
  rw[xac lT];intro e;obtain⟨bz,bA⟩:=h.root x ag e;have ab:rep x≠rep a:=by rw[bz];exact lT
  rw[xac ab,xac (λq=>ab q.2)];exact⟨bz,bA⟩
 .intro x ag
  try simp only
  by_cases lT:x=rep a
  .rw[xad lT];intro e;have ab:rep x=rep a:=by rw[lT,Vu]
   have fE:rep a≠rep b:=by rw[<-lT];exact λq=>e q.symm
   have af:rep (rep b)≠rep a:=by rw[afg];exact λq=>fE q.symm
   rw[xac (λq=>af q.2),xad ⟨fE,ab⟩,axP];omega
  rw[xac lT];intro e;have ab:=h.down x ag e;rw[h.eA x ag];split
  .omega
  exact ab
 .intro x ag;have:=h.afd x ag
  try simp only
  split<;>omega
 .intro x ag
  try simp only
  by_cases ab:rep x=rep a
  .rw[xad ab];split;.rfl
   exact vW
  rw[xac ab,xac ab];exact h.Kz x ag
 .intro C cf x y ag aJ e ON
  try simp only at e
  by_cases ab:rep x=rep a
  .rw[xad ab]at e;by_cases af:rep y=rep a;.exact aG C cf x y ag aJ (ab.trans af.symm) ON
   rw[xac af]at e;exact aG C cf b y aj aJ e (cf r av a OK b OL (aG C cf x a ag aE ab ON))
  rw[xac ab]at e;by_cases af:rep y=rep a;.rw[xad af]at e;exact aG C cf a y aE aJ af.symm (cf r av b OL a OK (aG C cf x b ag aj e ON))
  rw[xac af]at e;exact aG C cf x y ag aJ e ON
 intro x y e;simp only[e]
def dC(o:List bg)(x:bg):Bool:=o.any λz=>decide (z=x)
def jy{o:List bg}{x:bg}:dC o x=true↔x∈o:=by simp[dC]
def axQ{o:List bg}{x:bg}:dC o x=false↔x∉o:=by rw[<-jy];cases dC o x<;>simp
def jz(o:List bg)(x:bg):List bg:=if dC o x=true then o else o++[x]
def sn(o r:List bg):Bool:=o.any λx=>dC r x
def nL(o r:List bg):List bg:=if sn o r=true then r.foldl jz o else o
def mM(R:List (List bg))(o:List bg):List bg:=R.foldl nL o
def ng(R:List (List bg)):Nat->List bg->List bg
 |0,o=>o|k+1,o=>ng R k (mM R o)
def axR(o:List bg)(x:bg):o<+:jz o x:=by unfold jz;split;exact List.prefix_rfl;exact List.prefix_append _ _
def afh{o:List bg}{x y:bg}:y∈jz o x↔y∈o\/y=x:=by
 unfold jz;split;.rename_i h;exact⟨.inl,λq=>q.elim id λe=>e▸jy.1 h⟩
 simp
def afi{o:List bg}{x:bg}(h:o.Nodup):(jz o x).Nodup:=by
 unfold jz;split;.exact h
 rename_i aN;rw[List.nodup_append];exact⟨h,by simp,λa aE b aj e=>by simp at aj;subst aj;subst e;exact aN (jy.2 aE)⟩
def afj:∀(r o:List bg),o<+:r.foldl jz o
 |[],o=>List.prefix_rfl|x::r,o=>(axR o x).trans (afj r _)
def OO{y:bg}:∀{r o:List bg},y∈r.foldl jz o↔y∈o\/y∈r
 |[],o=>by simp|x::r,o=>by rw[xbx,OO,afh,xal,or_assoc]
def afk:∀{r o:List bg},o.Nodup->(r.foldl jz o).Nodup
 |[],o,h=>h|x::r,o,h=>afk (r:=r) (afi h)
def afl{o r:List bg}:sn o r=true↔∃x∈o,x∈r:=by simp[sn,jy]
theorem afm(o r:List bg):o<+:nL o r:=by unfold nL;split;exact afj _ _;exact List.prefix_rfl
def axS{o r:List bg}(h:o.Nodup):(nL o r).Nodup:=by unfold nL;split;exact afk h;exact h
def axT{o r:List bg}{y:bg}(h:y∈nL o r):y∈o\/(y∈r/\∃x∈o,x∈r):=by
 unfold nL at h;split at h
 .rename_i hm;rcases OO.1 h with h|h
  .exact .inl h
  exact .inr ⟨h,afl.1 hm⟩
 exact .inl h
def OP:∀(R:List (List bg)) (o:List bg),o<+:mM R o
 |[],o=>List.prefix_rfl|r::R,o=>(afm o r).trans (OP R _)
def OQ:∀{R:List (List bg)} {o:List bg},o.Nodup->(mM R o).Nodup
 |[],o,h=>h|r::R,o,h=>OQ (R:=R) (axS h)
def OR{C:bg->Prop}:∀{R:List (List bg)} {o:List bg},AO R C->(∀x∈o,C x)->∀x∈mM R o,C x
 |[],o,_,h=>h
 |r::R,o,cf,h=>OR (R:=R) (λsA nU=>cf sA (xbI _ nU)) λx ag=>by
  rcases axT ag with ab|⟨ab,z,af,aw⟩;.exact h x ab
  exact cf r (by simp) z aw x ab (h z af)
def Vv:∀{R:List (List bg)} {o:List bg},mM R o=o->∀r∈R,(∃x∈o,x∈r)->∀y∈r,y∈o
 |[],o,_=>by simp
 |r::R,o,h=>by
  have ab:nL o r<+:o:=by
   have:=OP R (nL o r);have e:mM (r::R) o=mM R (nL o r):=rfl
   rwa [<-e,h]at this
  have af:nL o r=o:=ab.eq_of_length (Nat.le_antisymm ab.length_le (afm o r).length_le);have aw:mM R o=o:=by
   have e:mM (r::R) o=mM R (nL o r):=rfl
   rwa [e,af]at h
  intro q bj hm y aJ;rcases xal.1 bj with rfl|bj
  .rw[<-af];unfold nL;rw[xad (afl.2 hm)];exact OO.2 (.inr aJ)
  exact Vv aw q bj hm y aJ
def AP{α:Type}:∀{a b:List α},a.Nodup->(∀x∈a,x∈b)->a.length<=b.length
 |[],b,_,_=>xai _
 |x::a,b,aN,aG=>by
  obtain⟨p,q,rfl⟩:=List.append_of_mem (aG x (by simp));have ab:=AP (a:=a) (b:=p++q) (List.nodup_cons.1 aN).2 λy aJ=>by
   have iT:=aG y (by simp[aJ]);have cK:y≠x:=by rintro rfl;exact(List.nodup_cons.1 aN).1 aJ
   simp only[xak,xal]at iT⊢;rcases iT with h|h|h
   .exact .inl h
   .exact absurd h cK
   exact .inr h
  simp only[xaO,xar]at ab⊢;omega
def afn(R:List (List bg)):∀(k:Nat)(o:List bg),o<+:ng R k o
 |0,o=>List.prefix_rfl|k+1,o=>(OP R o).trans (afn R k _)
def afo{R:List (List bg)}:∀{k:Nat}{o:List bg},o.Nodup->(ng R k o).Nodup
 |0,o,h=>h|k+1,o,h=>afo (k:=k) (OQ h)
def Vw{C:bg->Prop}{R:List (List bg)}(cf:AO R C):∀{k:Nat}{o:List bg},(∀x∈o,C x)->∀x∈ng R k o,C x
 |0,o,h=>h|k+1,o,h=>Vw cf (k:=k) (OR cf h)
def afp{R:List (List bg)}{o:List bg}(h:mM R o=o):∀k,ng R k o=o
 |0=>rfl|k+1=>by rw[ng,h];exact afp h k
def Vx{R:List (List bg)}{ks:List bg}(e5:∀r∈R,∀x∈r,x∈ks):∀(k:Nat)(o:List bg),o.Nodup->(∀x∈o,x∈ks)->ks.length<k+o.length->mM R (ng R k o)=ng R k o
 |0,o,aN,aG,h=>by have:=AP aN aG;omega
 |k+1,o,aN,aG,h=>by
  have aT:=OP R o;by_cases aq:(mM R o).length=o.length;.have e:=(aT.eq_of_length aq.symm).symm;rw[afp e,e]
  have:=aT.length_le;rw[ng];refine Vx e5 k (mM R o) (OQ aN) (OR (λr av x _ y aJ _=>e5 r av y aJ) aG) (by omega)
def axU{R:List (List bg)}{ks:List bg}(e5:∀r∈R,∀x∈r,x∈ks){rep:bg->bg}(Vy:Sep ks R rep)(Ja:lv rep R){o:List bg}(aN:o.Nodup)(aG:∀x∈o,x∈ks){k:Nat}(ak:ks.length<k)(y:bg):y∈ng R k o↔y∈ks/\∃a∈o,rep a=rep y:=by
 constructor;.refine Vw (C:=λy=>y∈ks/\∃a∈o,rep a=rep y) ?_ (λx ag=>⟨aG x ag,x,ag,rfl⟩) y;rintro r av x ag z bn ⟨ab,a,af,aw⟩;exact⟨e5 r av z bn,a,af,aw.trans (Ja r av x ag z bn)⟩
 rintro⟨aJ,a,aE,e⟩;have axV:=Vx e5 k o aN aG (by omega);have cf:AO R λx=>x∈ng R k o:=λr av x ag z bn hm=>Vv axV r av ⟨x,hm,ag⟩ z bn;exact Vy _ cf a y (aG a aE) aJ e ((afn R k o).subset aE)
def axW{R:List (List bg)}{ks:List bg}(e5:∀r∈R,∀x∈r,x∈ks){o:List bg}(aN:o.Nodup)(aG:∀x∈o,x∈ks){k:Nat}(ak:ks.length<k):AO R λx=>x∈ng R k o:=λr av x ag z bn hm=>Vv (Vx e5 k o aN aG (by omega)) r av ⟨x,hm,ag⟩ z bn
def AQ{α σ β:Type}{f:List D->Option (List D⊕β)}(l:List α)(e0:Nat->σ->List D)(Inv:Nat->σ->Prop)(Fin:β->Prop) (afq:∀s,Inv l.length s->∃x,f (e0 l.length s)=some (.inr x)/\Fin x) (wh:∀(i:Nat)(a:α)(s:σ),l[i]?=some a->i<l.length->Inv i s->∃s',f (e0 i s)=some (.inl (e0 (i+1) s'))/\Inv (i+1) s'): ∀(n i:Nat)(s:σ),Inv i s->i<=l.length->l.length-i<n->∃x,bq f n (e0 i s)=some x/\Fin x
 |0,i,s,_,_,h=>absurd h (xay _)
 |n+1,i,s,ah,hle,aN=>by
  rw[jP];by_cases h:i<l.length;.obtain⟨s',ab,af⟩:=wh i _ s (xaa h) h ah;rw[ab];exact AQ l e0 Inv Fin afq wh n (i+1) s' af h (by omega)
  have:i=l.length:=by omega
  subst this;obtain⟨x,ab,af⟩:=afq s ah;rw[ab];exact⟨x,rfl,af⟩
def ez(t:Tm):List bg:=dQ 3 t []++dQ 4 t []
def Vz(t:Tm):(ez t).length<=2*t.bl:=by have ab:=(pZ 3 t [] trivial).2;have af:=(pZ 4 t [] trivial).2;simp only[xav]at ab af;simp only[ez,xaO];omega
def axX(a b:List bg):D.az 1 (au (bu a)++au (bu b))=bu (a++b):=by simp[bu]
def so(p:List bg):(au (bu p)).length=p.length:=by simp[bu]
def VA(n:Nat)(t:Tm)(aN:t.bl+t.bl+30<n)(bm:t.cc)(aj:t.bl<100000000):w8 n [t.d]=some (bu (ez t)):=by have h:=T3 n t 1 [] [] (by simp;omega) bm trivial trivial (by omega) (by omega) (by simp;omega);have e:bu []= .az 1 []:=rfl;have ab:=(pZ 3 t [] trivial).2;have af:=(pZ 4 t [] trivial).2;simp only[xav]at ab af;have ej:dc ((dQ 3 t []).length+(dQ 4 t []).length) 16=true:=gG (by omega) (by omega);have c5:∀l,D.az 1 (au (bu l))=bu l:=λ_=>rfl;rw[e]at h;simp only[w8,aav,go_sem,Ms,h,c5,so,ej,axX,ez]
structure JB(ks:List bg)(M:List (Value×D))(par:bg->bg):Prop where
 Ee:lJ M
 get:∀x,x∈ks->gH M x=some (aC (par x))
 no:∀x,x∉ks->gH M x=none
theorem axY{M:List (Value×D)}(h:lJ M){z:Value}{x:ByteArray}{d:D}(ay:gH M x=some d):j3 .string z false M (aC x)=some d:=by simp only[j3,aC,ZC h,ay];rfl
def afr{ks:List bg}{M:List (Value×D)}{par rep:bg->bg}{fA:bg->Nat}{d:Nat}(hm:JB ks M par)(h:Ed ks par rep fA d)(n:Nat): ∀(k:Nat)(x:bg),x∈ks->fA x<k->bq (Mt n) k [D.mp M,aC x]=some (.inl [aC (rep x)])
 |0,x,_,ak=>absurd ak (xay _)
 |k+1,x,ag,ak=>by
  rw[jP];have aq:=axY (z:= .string ⟨#[]⟩) hm.Ee (hm.get x ag);have JC:lG (D.mp M)=some M:=rfl;by_cases he:par x=x
  .have av:=(h.root x ag he).1;simp only[Mt,go_sem,JC,aq,he,xbg,av]
  have aj:=xaF he;simp only[Mt,go_sem,JC,aq,aj];rw[afr hm h n k (par x) (h.afc x ag) (by have:=h.down x ag he;omega),h.eA x ag]
def axZ{ks:List bg}{M:List (Value×D)}{par rep:bg->bg}{fA:bg->Nat}{d:Nat}(hm:JB ks M par)(h:Ed ks par rep fA d)(n:Nat)(aN:d<n)(x:bg)(ag:x∈ks):pS n [D.mp M,aC x]=some (aC (rep x)):=by have:=afr hm h n n x ag (by have:=h.afd x ag;omega);simp only[pS,aaw,go_sem,this]
def nM(ks:List bg)(R:List (List bg))(M:List (Value×D))(rep:bg->bg)(d:Nat):Prop:=∃par fA,JB ks M par/\Ed ks par rep fA d/\Sep ks R rep
def nM.find{ks:List bg}{R:List (List bg)}{M:List (Value×D)}{rep:bg->bg}{d:Nat}(h:nM ks R M rep d)(n:Nat)(aN:d<n)(x:bg)(ag:x∈ks):pS n [D.mp M,aC x]=some (aC (rep x)):=by obtain⟨par,fA,ab,af,_⟩:=h;exact axZ ab af n aN x ag
open Classical in
def nM.link{ks:List bg}{R:List (List bg)}{M:List (Value×D)}{rep:bg->bg}{d:Nat}(h:nM ks R M rep d){a b:bg}(aE:a∈ks)(aj:b∈ks){r:List bg}(av:r∈R)(OK:a∈r)(OL:b∈r): ∃cY,nr .string M (aC (rep a)) (aC (rep b))=some cY/\nM ks R cY (λx=>if rep x=rep a then rep b else rep x) (d+1)/\xI rep (λx=>if rep x=rep a then rep b else rep x):=by
 obtain⟨par,fA,ab,af,aw⟩:=h;obtain⟨Vt,aW,a2,bb⟩:=axN af aw aE aj av OK OL;obtain⟨cY,dy,dg,eW,_⟩:=BW ab.Ee (rep a) (aC (rep b));refine⟨cY,dy,⟨_,Vt,⟨dg,λx ag=>?_,λx ag=>?_⟩,aW,a2⟩,bb⟩
 .rw[eW x]
  try simp only
  by_cases lT:x=rep a;.rw[xad lT,xad lT]
  rw[xac lT,xac lT];exact ab.get x ag
 rw[eW x,xac (by rintro rfl;exact ag (af.OJ a aE))];exact ab.no x ag
def OS(ks:List bg)(R:List (List bg))(rep:bg->bg)(d:Nat)(xs:List bg)(cY:List (Value×D)):Prop:= ∃jY,nM ks R cY jY (d+xs.length)/\xI rep jY/\∀x∈xs,∀y∈xs,jY x=jY y
open Classical in
def afs{ks:List bg}{R:List (List bg)}{M:List (Value×D)}{rep aft:bg->bg}{d:Nat}(h:nM ks R M rep d){ia a:bg}{r pre:List bg}(av:r∈R)(ak:∀x∈r,x∈ks)(xJ:ia∈r)(aE:a∈r)(ba:xI aft rep)(aT:∀x∈pre,rep x=rep ia): ∃cY jY,nr .string M (aC (rep a)) (aC (rep ia))=some cY/\nM ks R cY jY (d+1)/\xI aft jY/\∀x∈pre++[a],jY x=jY ia:=by
 obtain⟨cY,aW,a2,bb⟩:=h.link (ak a aE) (ak ia xJ) av aE xJ;refine⟨cY,_,aW,a2,λx y e=>bb x y (ba x y e),?_⟩;intro x ag;rcases xak.1 ag with ag|ag;.exact bb x ia (aT x ag)
 simp at ag;subst ag;simp only;rw[xad trivial];split;.rfl
 rfl
structure sq where
 M:List (Value×D)
 rep:bg->bg
theorem ph(M:List (Value×D)):D.mp (ei (D.mp M))=D.mp M:=rfl
theorem afu(x:bg):(aC x).flat=true:=rfl
def ax0{ks:List bg}{R:List (List bg)}{M:List (Value×D)}{rep:bg->bg}{d:Nat}(h:nM ks R M rep d)(n:Nat){xs:List bg}(av:xs∈R)(ak:∀x∈xs,x∈ks)(aN:d+xs.length+5<n)(aj:xs.length<1000000000): ∃cY,Cp n [bu xs,D.mp M]=some [D.aZ [],D.mp cY]/\OS ks R rep d xs cY:=by
 have key:=AQ (f:=Mu n) xs (λi (s:sq)=>[bu xs,bu xs,J xs.length,J (i:Int),D.mp s.M]) (λi s=>nM ks R s.M s.rep (d+i)/\xI rep s.rep/\∀x∈xs.take i,s.rep x=s.rep (xs.headD ⟨#[]⟩)) (λb=>∃cY,b= .inl [D.mp cY]/\OS ks R rep d xs cY) ?_ ?_ n 0 ⟨M,rep⟩ ⟨h,λx y e=>e,by simp⟩ (xai _) (by omega);.obtain⟨x,ab,cY,rfl,af⟩:=key;have bE:(J ((0:Nat):Int))=J 0:=rfl;rw[bE]at ab;exact⟨cY,by simp only[Cp,go_sem,iO,ph,ab],af⟩
 .rintro⟨cY,jY⟩ ⟨aW,a2,bb⟩;refine⟨_,by simp only[Mu,go_sem,yF ((xs.length:Int)<xs.length),ph],cY,rfl,jY,aW,a2,?_⟩;rw[List.take_length]at bb;simp only at bb;intro x ag y aJ;rw[bb x ag,bb y aJ]
 rintro i a ⟨cY,jY⟩ aE ah ⟨aW,a2,bb⟩;simp only at aW a2 bb⊢;obtain⟨ia,rest,ag⟩:∃ia rest,xs=ia::rest:=by cases xs with|nil=>simp at ah|cons ia rest=>exact⟨ia,rest,rfl⟩
 have JD:xs.headD ⟨#[]⟩=ia:=by rw[ag];rfl
 have xJ:ia∈xs:=by rw[ag];simp
 have ar:xs[0]?=some ia:=by rw[ag];rfl
 have JE:=xab aE;rw[JD]at bb;obtain⟨M2,VB,bz,bA,cx,eo⟩:=afs aW av ak xJ JE a2 bb;have f1:=aW.find n (by omega) a (ak a JE);have f2:=aW.find n (by omega) ia (ak ia xJ);have i0:bo 1 (bu xs) (J 0)=some [aC ia]:=lg (i:=0) ar;refine⟨⟨M2,VB⟩,?_,bA,cx,?_⟩
 .simp only[Mu,go_sem,yT ((i:Int)<xs.length),lg aE,eK,ph,f1,f2,i0,afu,bz,b0 (bt:=false) (i:=i) (by omega)]
 rw[JD];intro x fv;refine eo x ?_
 rwa [List.take_succ,aE]at fv
def ax1{ks:List bg}{R:List (List bg)}{M:List (Value×D)}{rep:bg->bg}{d:Nat}(h:nM ks R M rep d)(n:Nat){xs:List bg}(av:xs∈R)(ak:∀x∈xs,x∈ks)(aN:d+xs.length+5<n)(aj:xs.length<1000000000): ∃cY,Cq n [D.mp M,bu xs]=some [D.aZ [],D.mp cY,bu xs]/\OS ks R rep d xs cY:=by
 have key:=AQ (f:=Mv n) xs (λi (s:sq)=>[J xs.length,J (i:Int),D.mp s.M,bu xs]) (λi s=>nM ks R s.M s.rep (d+i)/\xI rep s.rep/\∀x∈xs.take i,s.rep x=s.rep (xs.headD ⟨#[]⟩)) (λb=>∃cY,b= .inl [D.mp cY,bu xs]/\OS ks R rep d xs cY) ?_ ?_ n 0 ⟨M,rep⟩ ⟨h,λx y e=>e,by simp⟩ (xai _) (by omega);.obtain⟨x,ab,cY,rfl,af⟩:=key;have bE:(J ((0:Nat):Int))=J 0:=rfl;rw[bE]at ab;have c5:∀l,D.az 1 (au (bu l))=bu l:=λ_=>rfl;exact⟨cY,by simp only[Cq,go_sem,so,c5,ph,ab],af⟩
 .rintro⟨cY,jY⟩ ⟨aW,a2,bb⟩;have c5:∀l,D.az 1 (au (bu l))=bu l:=λ_=>rfl;refine⟨_,by simp only[Mv,go_sem,yF ((xs.length:Int)<xs.length),ph,c5],cY,rfl,jY,aW,a2,?_⟩;rw[List.take_length]at bb;simp only at bb;intro x ag y aJ;rw[bb x ag,bb y aJ]
 rintro i a ⟨cY,jY⟩ aE ah ⟨aW,a2,bb⟩;simp only at aW a2 bb⊢;obtain⟨ia,rest,ag⟩:∃ia rest,xs=ia::rest:=by cases xs with|nil=>simp at ah|cons ia rest=>exact⟨ia,rest,rfl⟩
 have JD:xs.headD ⟨#[]⟩=ia:=by rw[ag];rfl
 have xJ:ia∈xs:=by rw[ag];simp
 have ar:xs[0]?=some ia:=by rw[ag];rfl
 have JE:=xab aE;rw[JD]at bb;obtain⟨M2,VB,bz,bA,cx,eo⟩:=afs aW av ak xJ JE a2 bb;have f1:=aW.find n (by omega) a (ak a JE);have f2:=aW.find n (by omega) ia (ak ia xJ);have c5:∀l,D.az 1 (au (bu l))=bu l:=λ_=>rfl;have mu:cj xs.length (J (i:Int))=some i:=c8 ah;have qu:cj xs.length (J 0)=some 0:=c8 (i:=0) (by omega);have iD:∀{j:Nat}{s:bg},xs[j]?=some s->(au (bu xs))[j]?=some [aC s]:=λh=>by simp[bu,h]
 refine⟨⟨M2,VB⟩,?_,bA,cx,?_⟩;.simp only[Mv,go_sem,yT ((i:Int)<xs.length),so,mu,qu,iD aE,iD ar,eK,ph,f1,f2,afu,bz,c5,b0 (bt:=false) (i:=i) (by omega)]
 rw[JD];intro x fv;refine eo x ?_
 rwa [List.take_succ,aE]at fv
def kY(i bS:List Tm)(nx:List a8)(t f:List Tm):List (List bg):=(i++bS++t++f).map ez++nx.map λd=>d.name::ez d.e
def kg(l:List Tm):Prop:=l.length<=1000000/\∀t∈l,t.cc/\t.bl<=30000000
def qX(l:List a8):Prop:=l.length<=1000000/\∀d∈l,d.e.cc/\d.e.bl<=30000000
def lv.app{rep:bg->bg}{a b:List (List bg)}:lv rep (a++b)↔lv rep a/\lv rep b:=by
 unfold lv;constructor;.intro h;exact⟨λr av=>h r (xak.2 (.inl av)),λr av=>h r (xak.2 (.inr av))⟩
 rintro⟨ab,af⟩ r av;rcases xak.1 av with av|av;.exact ab r av
 exact af r av
def lv.one{rep:bg->bg}{r:List bg}:lv rep [r]↔∀x∈r,∀y∈r,rep x=rep y:=by simp[lv]
def Prog(ks:List bg)(R:List (List bg))(s:sq)(b:Nat)(done:List (List bg)):Prop:=∃d,nM ks R s.M s.rep d/\d<=b/\lv s.rep done
def ax2{a b c e ts:List Tm}{i:Nat}(h:([a,b,c,e]:List (List Tm))[i]?=some ts):l0 false 1 (i*1) (.agg [aA a,aA b,aA c,aA e])=some (aA ts):=by
 match i,h with
 |0,h=>cases h;rfl
 |1,h=>cases h;rfl
 |2,h=>cases h;rfl
 |3,h=>cases h;rfl
 |_+4,h=>cases h
section
variable{ks:List bg}{R:List (List bg)}{n:Nat}(aN:10000000000000000<n)(e5:∀r∈R,∀x∈r,x∈ks)
include aN e5
theorem ax3{s:sq}{b:Nat}{done:List (List bg)}(h:Prog ks R s b done)(aj:b<=5000000000000000){xs:List bg}(av:xs∈R)(ag:xs.length<=100000000): ∃s',Cp n [bu xs,D.mp s.M]=some [D.aZ [],D.mp s'.M]/\Prog ks R s' (b+100000000) (done++[xs]):=by obtain⟨d,ab,af,aw⟩:=h;obtain⟨cY,aW,jY,a2,bb,cX⟩:=ax0 ab n av (e5 xs av) (by omega) (by omega);exact⟨⟨cY,jY⟩,aW,_,a2,by omega,lv.app.2 ⟨aw.fin bb,lv.one.2 cX⟩⟩
theorem ax4{s:sq}{b:Nat}{done:List (List bg)}(h:Prog ks R s b done)(aj:b<=5000000000000000){xs:List bg}(av:xs∈R)(ag:xs.length<=100000000): ∃s',Cq n [D.mp s.M,bu xs]=some [D.aZ [],D.mp s'.M,bu xs]/\Prog ks R s' (b+100000000) (done++[xs]):=by obtain⟨d,ab,af,aw⟩:=h;obtain⟨cY,aW,jY,a2,bb,cX⟩:=ax1 ab n av (e5 xs av) (by omega) (by omega);exact⟨⟨cY,jY⟩,aW,_,a2,by omega,lv.app.2 ⟨aw.fin bb,lv.one.2 cX⟩⟩
theorem ax5{ts:List Tm}(oy:kg ts)(fK:∀t∈ts,ez t∈R){s:sq}{b:Nat}{done:List (List bg)}(h:Prog ks R s b done)(aj:b<=1000000000000000)(ae ao c9 di dD eJ et e8 gb gK:D): ∃s',bq (Hc n) n [ae,ao,aA ts,J ts.length,J 0,c9,di,dD,eJ,et,e8,gb,gK,D.mp s.M]=some (.inl [ae,ao,c9,di,dD,eJ,et,e8,gb,gK,D.mp s'.M])/\Prog ks R s' (b+100000000000000) (done++ts.map ez):=by
 obtain⟨aq,oy⟩:=oy;have key:=AQ (f:=Hc n) ts (λi (s:sq)=>[ae,ao,aA ts,J ts.length,J (i:Int),c9,di,dD,eJ,et,e8,gb,gK,D.mp s.M]) (λi s=>Prog ks R s (b+i*100000000) (done++(ts.take i).map ez)) (λx=>∃s',x= .inl [ae,ao,c9,di,dD,eJ,et,e8,gb,gK,D.mp s'.M]/\Prog ks R s' (b+100000000000000) (done++ts.map ez)) ?_ ?_ n 0 s (by simpa using h) (xai _) (by omega)
 .obtain⟨x,ab,s',rfl,af⟩:=key;exact⟨s',ab,af⟩
 .intro s' g;refine⟨_,by simp only[Hc,go_sem,yF ((ts.length:Int)<ts.length),ph],s',rfl,?_⟩;rw[List.take_length]at g;obtain⟨d,aW,a2,bb⟩:=g;exact⟨d,aW,by omega,bb⟩
 intro i t s' aL ah g;have hm:=xab aL;obtain⟨aF,bn⟩:=oy t hm;have jB:=VA n t (by omega) aF (by omega);have b2:=Vz t;obtain⟨s2,bz,bA⟩:=ax3 aN e5 g (by omega) (fK t hm) (by omega);refine⟨s2,?_,?_⟩
 .simp only[Hc,go_sem,yT ((i:Int)<ts.length),nF aL,jB,ph,bz,b0 (bt:=false) (i:=i) (by omega)]
 have e:(ts.take (i+1)).map ez=(ts.take i).map ez++[ez t]:=by rw[List.take_succ,aL];simp
 rw[e,<-xaT];obtain⟨d,aW,a2,bb⟩:=bA;exact⟨d,aW,by omega,bb⟩
theorem ax6{a b c e:List Tm}(bR:∀ts∈[a,b,c,e],kg ts)(fK:∀ts∈[a,b,c,e],∀t∈ts,ez t∈R){s:sq}(h:Prog ks R s 0 [])(bc b9 cL c9 di dD eJ et:D): ∃s',bq (Hd n) n [.agg [aA a,aA b,aA c,aA e],J 0,bc,b9,cL,c9,di,dD,eJ,et,D.mp s.M]=some (.inl [bc,b9,cL,c9,di,dD,eJ,et,D.mp s'.M])/\Prog ks R s' 500000000000000 ((a++b++c++e).map ez):=by
 have key:=AQ (f:=Hd n) [a,b,c,e] (λi (s:sq)=>[.agg [aA a,aA b,aA c,aA e],J (i:Int),bc,b9,cL,c9,di,dD,eJ,et,D.mp s.M]) (λi s=>Prog ks R s (i*100000000000000) ((([a,b,c,e]:List (List Tm)).take i).flatten.map ez)) (λx=>∃s',x= .inl [bc,b9,cL,c9,di,dD,eJ,et,D.mp s'.M]/\Prog ks R s' 500000000000000 ((a++b++c++e).map ez)) ?_ ?_ n 0 s (by simpa using h) (xai _) (by simp;omega);.obtain⟨x,ab,s',rfl,af⟩:=key;exact⟨s',ab,af⟩
 .intro s' g;refine⟨_,by simp only[Hd,go_sem,xar,xav,yF (((0+1+1+1+1:Nat):Int)<4),ph],s',rfl,?_⟩;have e:([a,b,c,e]:List (List Tm)).take ([a,b,c,e]:List (List Tm)).length=[a,b,c,e]:=List.take_length;rw[e]at g;obtain⟨d,aW,a2,bb⟩:=g;refine⟨d,aW,by simp only[xar,xav]at a2;omega,?_⟩;simpa[List.flatten]using bb
 intro i ts s' aL ah g;simp only[xar,xav]at ah;have hm:=xab aL;obtain⟨s2,bz,bA⟩:=ax5 aN e5 (bR ts hm) (fK ts hm) g (by omega) (.agg [aA a,aA b,aA c,aA e]) (J (i:Int)) bc b9 cL c9 di dD eJ et;have mu:cj 4 (J (i:Int))=some i:=c8 (by omega);refine⟨s2,?_,?_⟩
 .simp only[Hd,go_sem,yT ((i:Int)<4),mu,ax2 aL,hT,bz,ph,b0 (bt:=false) (i:=i) (by omega)]
 have e:(([a,b,c,e]:List (List Tm)).take (i+1)).flatten.map ez=(([a,b,c,e]:List (List Tm)).take i).flatten.map ez++ts.map ez:=by rw[List.take_succ,aL];simp
 rw[e];obtain⟨d,aW,a2,bb⟩:=bA;exact⟨d,aW,by omega,bb⟩
theorem ax7{nx:List a8}(oy:qX nx)(fK:∀d∈nx,(d.name::ez d.e)∈R){s:sq}{b:Nat}{done:List (List bg)}(h:Prog ks R s b done)(aj:b<=1000000000000000): ∃s',bq (He n) n [aR nx,J nx.length,J 0,D.mp s.M]=some (.inl [D.mp s'.M])/\Prog ks R s' (b+100000000000000) (done++nx.map λd=>d.name::ez d.e):=by
 obtain⟨aq,oy⟩:=oy;have key:=AQ (f:=He n) nx (λi (s:sq)=>[aR nx,J nx.length,J (i:Int),D.mp s.M]) (λi s=>Prog ks R s (b+i*100000000) (done++(nx.take i).map λd=>d.name::ez d.e)) (λx=>∃s',x= .inl [D.mp s'.M]/\Prog ks R s' (b+100000000000000) (done++nx.map λd=>d.name::ez d.e)) ?_ ?_ n 0 s (by simpa using h) (xai _) (by omega)
 .obtain⟨x,ab,s',rfl,af⟩:=key;exact⟨s',ab,af⟩
 .intro s' g;refine⟨_,by simp only[He,go_sem,yF ((nx.length:Int)<nx.length),ph],s',rfl,?_⟩;rw[List.take_length]at g;obtain⟨d,aW,a2,bb⟩:=g;exact⟨d,aW,by omega,bb⟩
 intro i t s' aL ah g;have hm:=xab aL;obtain⟨aF,bn⟩:=oy t hm;have jB:=VA n t.e (by omega) aF (by omega);have b2:=Vz t.e;obtain⟨s2,bz,bA⟩:=ax4 aN e5 g (by omega) (fK t hm) (by simp only[xar];omega);have e9:k4 (bu (ez t.e))=some (1,au (bu (ez t.e))):=rfl;have iX:D.az 1 ([[aC t.name]]++au (bu (ez t.e)))=bu (t.name::ez t.e):=rfl;have ej:dc (1+(ez t.e).length) 16=true:=gG (by omega) (by omega);refine⟨s2,?_,?_⟩
 .simp only[He,go_sem,yT ((i:Int)<nx.length),fo aL,a8.BZ,a8.agg,a8.a7,a8.bU,a8.bY,a8.cv,a8.dm,jB,e9,iX,so,xar,xav,xax,ej,true_or,xbg,Nat.lt_add_one,ph,bz,b0 (bt:=false) (i:=i) (by omega)]
 have e:((nx.take (i+1)).map λd=>d.name::ez d.e)=((nx.take i).map λd=>d.name::ez d.e)++[t.name::ez t.e]:=by rw[List.take_succ,aL];simp
 rw[e,<-xaT];obtain⟨d,aW,a2,bb⟩:=bA;exact⟨d,aW,by omega,bb⟩
end
def ax8{vs:List V}(R:List (List bg))(n:Nat)(aN:vs.length+5<n)(aj:vs.length<1000000000)(b9 cL c9 di dD eJ et e8:D): ∃s,bq (Hb n) n [bp vs,J vs.length,J 0,b9,cL,c9,di,dD,eJ,et,e8,D.mp []]=some (.inl [b9,cL,c9,di,dD,eJ,et,e8,D.mp s.M])/\Prog (vs.map V.name) R s 0 []:=by
 have key:=AQ (f:=Hb n) vs (λi (M:List (Value×D))=>[bp vs,J vs.length,J (i:Int),b9,cL,c9,di,dD,eJ,et,e8,D.mp M]) (λi M=>JB ((vs.take i).map V.name) M λx=>x) (λx=>∃M,x= .inl [b9,cL,c9,di,dD,eJ,et,e8,D.mp M]/\JB (vs.map V.name) M λx=>x) ?_ ?_ n 0 [] ⟨λe he=>by(cases he),by simp,λx _=>rfl⟩ (xai _) (by omega);.obtain⟨x,ab,M,rfl,af⟩:=key;exact⟨⟨M,λx=>x⟩,ab,0,⟨_,_,af,axL _,axM _ _⟩,xan _,by intro r av;cases av⟩
 .intro M g;refine⟨_,by simp only[Hb,go_sem,yF ((vs.length:Int)<vs.length),ph],M,rfl,?_⟩
  rwa [List.take_length]at g
 intro i v M a3 ah g;obtain⟨cY,dy,dg,eW,_⟩:=BW g.Ee v.name (aC v.name);have ay:=V.pc v;have ax9:ei (D.mp M)=M:=rfl;refine⟨cY,?_,dg,?_,?_⟩
 .simp only[Hb,go_sem,yT ((i:Int)<vs.length),hz a3,ay.1,ay.2.1,ay.2.2,ax9,dy,b0 (bt:=false) (i:=i) (by omega)]
 .intro x ag;rw[eW x];by_cases he:x=v.name;.rw[xad he,he]
  rw[xac he];refine g.get x ?_;rw[List.take_succ,a3]at ag;simp only[Option.toList,List.map_append,xaz,xbn,xak,xal,List.not_mem_nil,or_false]at ag;exact ag.resolve_right he
 intro x ag;rw[List.take_succ,a3]at ag;simp only[Option.toList,List.map_append,xaz,xbn,xak,xal,List.not_mem_nil,or_false,not_or]at ag;rw[eW x,xac ag.2];exact g.no x ag.1
structure AR(vs:List V)(i bS:List Tm)(nx:List a8)(t f:List Tm):Prop where
 a3:vs.length<=1000
 ah:kg i
 tZ:kg bS
 lW:qX nx
 aL:kg t
 ba:kg f
 known:∀r∈kY i bS nx t f,∀x∈r,x∈vs.map V.name
theorem JF{vs:List V}{i bS:List Tm}{nx:List a8}{t f:List Tm}{sp:List cz}{dd:D}(km:dd.one=true):a6 8 (dW vs dd i bS nx t f sp)=true:=by simp only[dW,LM,km];rfl
def aya{vs:List V}{i bS:List Tm}{nx:List a8}{t f:List Tm}(h:AR vs i bS nx t f){dd:D}(km:dd.one=true)(sp:List cz)(n:Nat)(aN:10000000000000000<n): ∃M rep d,Hf n [dW vs dd i bS nx t f sp]=some (D.mp M)/\nM (vs.map V.name) (kY i bS nx t f) M rep d/\d<=1000000000000000/\lv rep (kY i bS nx t f):=by
 have a3:=h.a3;obtain⟨s1,ao,bc⟩:=ax8 (vs:=vs) (kY i bS nx t f) n (by omega) (by omega) (bp vs) dd (aA i) (aA bS) (aR nx) (aA t) (aA f) (b1 sp);have fK:∀ts∈[i,bS,t,f],∀x∈ts,ez x∈kY i bS nx t f:=by
  intro ts oy x ag;refine xak.2 (.inl (xap.2 ⟨x,?_,rfl⟩));simp only[xal,List.not_mem_nil,or_false]at oy;simp only[xak];rcases oy with rfl|rfl|rfl|rfl
  .exact .inl (.inl (.inl ag))
  .exact .inl (.inl (.inr ag))
  .exact .inl (.inr ag)
  exact .inr ag
 have bm:∀ts∈[i,bS,t,f],kg ts:=by
  intro ts oy;simp only[xal,List.not_mem_nil,or_false]at oy;rcases oy with rfl|rfl|rfl|rfl
  .exact h.ah
  .exact h.tZ
  .exact h.aL
  exact h.ba
 obtain⟨s2,eO,hf⟩:=ax6 aN h.known bm fK bc (bp vs) dd (aA i) (aA bS) (aR nx) (aA t) (aA f) (b1 sp);obtain⟨gT,bU,bY⟩:=ax7 aN h.known (nx:=nx) h.lW (λd ay=>xak.2 (.inr (xap.2 ⟨d,ay,rfl⟩))) hf (by omega);obtain⟨d,d1,d2,d3⟩:=bY;refine⟨gT.M,gT.rep,d,?_,d1,by omega,d3⟩;have g7:∀l,bJ (aA l)=true:=λ_=>rfl;have nH:a6 8 (dW vs dd i bS nx t f sp)=true:=JF km;have a7:ad (dW vs dd i bS nx t f sp) 0=bp vs:=rfl;have VC:ad (dW vs dd i bS nx t f sp) 1=dd:=rfl;have bY:ad (dW vs dd i bS nx t f sp) 2=aA i:=rfl;have cv:ad (dW vs dd i bS nx t f sp) 3=aA bS:=rfl;have dm:ad (dW vs dd i bS nx t f sp) 4=aR nx:=rfl;have eu:ad (dW vs dd i bS nx t f sp) 5=aA t:=rfl;have ew:ad (dW vs dd i bS nx t f sp) 6=aA f:=rfl;have fD:ad (dW vs dd i bS nx t f sp) 7=b1 sp:=rfl;simp only[Hf,aax,nH,a7,VC,bY,cv,dm,eu,ew,fD,go_sem,fO,ao,g7,ph,eO,ef,bU]
def VD{α:Type}(l:List α)(q:α->Bool){f:List D->Option (List D⊕(List D⊕D))}(e0:Nat->List D) (aG:∀i a,l[i]?=some a->i<l.length->f (e0 i)=some (if q a=true then .inr (.inr (J (i:Int)))else .inl (e0 (i+1)))) (he:f (e0 l.length)=some (.inr (.inl []))) (n:Nat) (aN:l.length<n): ∃b,bq f n (e0 0)=some b/\((l.any q=false/\b= .inl [])\/(l.any q=true/\∃k:Nat,b= .inr (J (k:Int)))):=by
 have key:∀(m i:Nat),i<=l.length->l.length-i<m->∃b,bq f m (e0 i)=some b/\(((l.drop i).any q=false/\b= .inl [])\/((l.drop i).any q=true/\∃k:Nat,b= .inr (J (k:Int)))):=by
  intro m
  induction m with
  |zero=>intro i _ h;exact absurd h (xay _)
  |succ m ih=>
   intro i ah hm;rw[jP];by_cases h:i<l.length;.have aE:=xaa h;have e:l.drop i=l[i]::l.drop (i+1):=xbc h;rw[aG i _ aE h,e,List.any_cons];cases bj:q l[i]with|true=>exact⟨_,rfl,.inr ⟨rfl,i,rfl⟩⟩|false=>obtain⟨b,ab,af⟩:=ih (i+1) h (by omega);exact⟨b,ab,af⟩
   have:i=l.length:=by omega
   subst this;rw[he];exact⟨_,rfl,.inl ⟨by simp,rfl⟩⟩
 simpa using key n 0 (xai _) (by omega)
def ayb(ks:List bg)(x:bg):dC ks x=ks.any λz=>decide (x=z):=by
 unfold dC
 congr 1;funext z
 by_cases h:x=z;.simp[h]
 have af:¬z=x:=λe=>h e.symm;rw[xaF h,xaF af]
def ayc(n:Nat)(l:List bg)(x:bg)(aN:l.length+1<n)(aj:l.length<1000000000):te n [bu l,aC x]=some (ax (dC l x)):=by
 obtain⟨b,ab,af⟩:=VD l (λz=>decide (x=z)) (f:=tc n) (λi=>[bu l,aC x,J l.length,J (i:Int)]) (λi a aE ah=>by
  cases bj:decide (x=a);.simp only[tc,go_sem,yT ((i:Int)<l.length),lg aE,eK,bj,b0 (bt:=false) (i:=i) (by omega)]
  .simp only[tc,go_sem,yT ((i:Int)<l.length),lg aE,eK,bj]) (by
  simp only[tc,go_sem,yF ((l.length:Int)<l.length)]) n (by omega)
 have bE:(J ((0:Nat):Int))=J 0:=rfl;rw[bE]at ab;rw[ayb];rcases af with⟨aw,rfl⟩|⟨aw,k,rfl⟩
 .simp only[te,LS,w1,Ga,go_sem,iO,ab,aw,yF ((-1:Int)>=0)]
 simp only[te,LS,w1,Ga,go_sem,iO,ab,aw,yT ((k:Int)>=0)]
section
variable{ks:List bg}{R:List (List bg)}{M:List (Value×D)}{rep:bg->bg}{d:Nat}(h:nM ks R M rep d){n:Nat}(aN:d<n)
include h aN
theorem ayd(v:V)(a3:v.name∈ks)(a:bg):zx n [aC a,.ref [D.mp M] 0,.ref [aC v.name,ax v.bool,J v.lo,J v.ah] 0]=some (ax (dC ks a&&decide (rep a=rep v.name))):=by
 obtain⟨par,fA,ab,af,aw⟩:=id h;have JC:lG (D.mp M)=some M:=rfl;have ao:a5 false 1 0 [D.mp M]=some (D.mp M):=rfl;have bc:a5 false 1 0 [aC v.name,ax v.bool,J v.lo,J v.ah]=some (aC v.name):=rfl;have aq:=yQ (z:= .string ⟨#[]⟩) (x:=a) ab.Ee;have f2:=h.find n aN v.name a3;by_cases aE:a∈ks
 .rw[ab.get a aE]at aq;have f1:=h.find n aN a aE;have bO:dC ks a=true:=jy.2 aE;simp only[zx,Mx,go_sem,ao,bc,JC,aq,f1,f2,bO,en,ee,xbD]
 rw[ab.no a aE]at aq;have bO:dC ks a=false:=axQ.2 aE;simp only[zx,Mx,go_sem,ao,bc,JC,aq,bO,en,mC,ee,xbq]
theorem aye(v:V)(a3:v.name∈ks)(gZ:Bool)(l:List bg)(afv:l.length+1<n)(aj:l.length<1000000000):zy n [gq gZ l,D.fn (.func s8) [] [.ref [D.mp M] 0,.ref [aC v.name,ax v.bool,J v.lo,J v.ah] 0]]=some (ax (l.any λa=>dC ks a&&decide (rep a=rep v.name))):=by
 obtain⟨b,ab,af⟩:=VD l (λa=>dC ks a&&decide (rep a=rep v.name)) (f:=Hg n) (λi=>[gq gZ l,.ref [D.mp M] 0,.ref [aC v.name,ax v.bool,J v.lo,J v.ah] 0,J l.length,J (i:Int)]) (λi a aE ah=>by
  have ab:=ayd h aN v a3 a;cases bj:(dC ks a&&decide (rep a=rep v.name));.rw[bj]at ab;simp only[Hg,go_sem,yT ((i:Int)<l.length),o7 aE,eK,ab,b0 (bt:=false) (i:=i) (by omega)]
  .rw[bj]at ab;simp only[Hg,go_sem,yT ((i:Int)<l.length),o7 aE,eK,ab]) (by
  simp only[Hg,go_sem,yF ((l.length:Int)<l.length)]) n (by omega)
 have bE:(J ((0:Nat):Int))=J 0:=rfl;have ba:∀x y,hN s8 (D.fn (.func s8) [] [x,y])=some [x,y]:=λx y=>by simp[hN]
 rw[bE]at ab;rcases af with⟨aw,rfl⟩|⟨aw,k,rfl⟩
 .simp only[zy,Mz,Cr,My,ba,go_sem,js,ab,aw,yF ((-1:Int)>=0)]
 simp only[zy,Mz,Cr,My,ba,go_sem,js,ab,aw,yT ((k:Int)>=0)]
end
def xK(vs:List V)(rep:bg->bg)(l:List bg):List bg:=(vs.map V.name).filter λx=>l.any λa=>dC (vs.map V.name) a&&decide (rep a=rep x)
def ayf{vs:List V}{rep:bg->bg}{l:List bg}{x:bg}:x∈xK vs rep l↔x∈vs.map V.name/\∃a∈l,a∈vs.map V.name/\rep a=rep x:=by unfold xK;rw[xaN,xbr];simp only[xam,jy,xaE]
def ayg{vs:List V}{R:List (List bg)}{M:List (Value×D)}{rep:bg->bg}{d:Nat}(h:nM (vs.map V.name) R M rep d){n:Nat}(aN:d<n)(a3:vs.length<1000000)(aBw:vs.length<n)(gZ:Bool)(l:List bg)(afv:l.length+1<n)(aj:l.length<1000000000):bq (CJ n) n [gq gZ l,bp vs,J vs.length,J 0,D.mp M,D.az 1 []]=some (.inl [bu (xK vs rep l)]):=by
 have c5:∀l,D.az 1 (au (bu l))=bu l:=λ_=>rfl;have aq:=dJ (f:=CJ n) vs (λi (o:List bg)=>[gq gZ l,bp vs,J vs.length,J (i:Int),D.mp M,bu o]) (λr o=>(.inl [bu (o++(r.map V.name).filter λx=>l.any λa=>dC (vs.map V.name) a&&decide (rep a=rep x))]:List D⊕D)) (λi o=>o.length<=i) (λo _=>by simp only[CJ,go_sem,yF ((vs.length:Int)<vs.length),c5,xbn,List.filter_nil,xaG]) ?_ n 0 [] (xan _) (by omega) (xai _)
 .have bE:(J ((0:Nat):Int))=J 0:=rfl;have aO:bu []= .az 1 []:=rfl;rw[bE,aO]at aq;unfold xK;simpa only[xao,xaK]using aq
 intro i v o jB ah aF;left;have ay:=V.pc v;have bU:ad v.d 1=ax v.bool:=rfl;have bY:ad v.d 2=J v.lo:=rfl;have cv:ad v.d 3=J v.ah:=rfl;have ayh:v.name∈vs.map V.name:=xap.2 ⟨v,xab jB,rfl⟩;have ab:=aye h aN v ayh gZ l afv aj;have ej:dc (o.length+1) 16=true:=gG (by omega) (by omega);have fl:∀b,(ax b).flat=true:=λ_=>rfl;cases bj:(l.any λa=>dC (vs.map V.name) a&&decide (rep a=rep v.name))with
 |true=>
  rw[bj]at ab;refine⟨o++[v.name],?_,?_,by simp;omega⟩;.simp only[CJ,go_sem,yT ((i:Int)<vs.length),hz jB,ay.1,ay.2.1,ay.2.2,bU,bY,cv,ab,fl,c5,so,xar,xav,xax,ej,DA,b0 (bt:=false) (i:=i) (by omega)]
  rw[xaz,xaY,xad bj];simp
 |false=>
  rw[bj]at ab;refine⟨o,?_,?_,by omega⟩;.simp only[CJ,go_sem,yT ((i:Int)<vs.length),hz jB,ay.1,ay.2.1,ay.2.2,bU,bY,cv,ab,fl,c5,b0 (bt:=false) (i:=i) (by omega)]
  rw[xaz,xaY,xac (by rw[bj];decide)]
def ayi{l L:List bg}(aN:l.Nodup)(aT:Part 0 l.length l L)(aG:eE blt 0 l.length (gt L)):hP L:=by
 have hw:Ow L:=aw3 (by rw[aT.len];exact aG);have m8:∀x∈L,x∈l:=λx ag=>(aT.mem x).1 ag;have ay:nK L=L:=by
  have ab:l.length<=(nK L).length:=AP aN λx ag=>(Vi _ _).2 ((aT.mem x).2 ag);have af:∀(L:List bg),(nK L).length<=L.length/\((nK L).length=L.length->nK L=L):=by
   intro L
   induction L with
   |nil=>simp[nK]
   |cons a r ih=>
    cases r with
    |nil=>simp[nK]
    |cons b r=>
     simp only[nK]at ih⊢;split;.simp only[xar]at ih⊢;exact⟨by omega,λh=>by omega⟩
     simp only[xar]at ih⊢;exact⟨by omega,λh=>by rw[ih.2 (by omega)]⟩
  exact(af L).2 (Nat.le_antisymm (af L).1 (by rw[aT.len];exact ab))
 rw[<-ay];exact aeZ hw
def ayj{vs:List V}{i bS:List Tm}{nx:List a8}{t f:List Tm}(h:AR vs i bS nx t f)(k9:(vs.map V.name).Nodup){dd:D}(km:dd.one=true)(sp:List cz)(n:Nat)(aN:10000000000000000<n)(gZ:Bool)(l:List bg)(aj:l.length<1000000000): ∃rep OT,vg n [dW vs dd i bS nx t f sp,gq gZ l]=some (bu OT)/\Sep (vs.map V.name) (kY i bS nx t f) rep/\lv rep (kY i bS nx t f)/\hP OT/\OT.length<=vs.length/\∀x,x∈OT↔x∈vs.map V.name/\∃a∈l,a∈vs.map V.name/\rep a=rep x:=by
 have a3:=h.a3;obtain⟨M,rep,d,eO,hf,j5,na⟩:=aya h km sp n aN;have a4:=ayg hf (n:=n) (by omega) (by omega) (by omega) gZ l (by omega) aj;have ayk:(xK vs rep l).Nodup:=List.Pairwise.filter _ k9;have kD:(xK vs rep l).length<=vs.length:=by have:=List.length_filter_le (λx=>l.any λa=>dC (vs.map V.name) a&&decide (rep a=rep x)) (vs.map V.name);simpa[xK]using this
 obtain⟨L,s1,s2,gT⟩:=axK n (xK vs rep l) (by omega) (by omega);have Vy:Sep (vs.map V.name) (kY i bS nx t f) rep:=by obtain⟨_,_,_,_,q⟩:=hf;exact q
 refine⟨rep,L,?_,Vy,na,ayi ayk s2 gT,by rw[s2.len];exact kD,λx=>by rw[s2.mem,ayf]⟩;have nH:a6 8 (dW vs dd i bS nx t f sp)=true:=JF km;have a7:ad (dW vs dd i bS nx t f sp) 0=bp vs:=rfl;have hb:D.agg [bp vs,ad (dW vs dd i bS nx t f sp) 1,ad (dW vs dd i bS nx t f sp) 2,ad (dW vs dd i bS nx t f sp) 3,ad (dW vs dd i bS nx t f sp) 4,ad (dW vs dd i bS nx t f sp) 5,ad (dW vs dd i bS nx t f sp) 6,ad (dW vs dd i bS nx t f sp) 7]=dW vs dd i bS nx t f sp:=rfl;have c5:∀l,D.az 1 (au (bu l))=cw l:=λ_=>rfl;have aBx:cw L=bu L:=rfl;have JG:bJ (D.mp M)=true:=rfl;simp only[vg,aaJ,nH,hb,a7,go_sem,eO,JG,fO,a4,c5,s1];rfl
abbrev vN(K:List bg):D:= .fn (.func qA) [] [.ref [bu K] 0]
abbrev mN(K:List bg):D:= .ref [vN K] 0
section
variable{n:Nat}{K:List bg}(aN:1000000000<n)(ed:K.length<1000000)
include aN ed
theorem ayl(x:bg):rU n [aC x,.ref [bu K] 0]=some (ax (dC K x)):=by have h:=ayc n K x (by omega) (by omega);have ao:a5 false 1 0 [bu K]=some (bu K):=rfl;simp only[rU,SV,go_sem,ao,h]
theorem VE(x:bg):Bw [(qA,rU n)] (vN K) [aC x]=some (ax (dC K x)):=by have h:=ayl aN ed x;have ay:QE (vN K)=some (qA,[.ref [bu K] 0]):=rfl;simp only[Bw,ay,eN,Fc,xaC,xcg,xaK,h]
theorem aym(v:V):CK n [v.d,mN K]=some (ax (dC K v.name)):=by have h:=VE aN ed v.name;have ao:a5 false 1 0 [vN K]=some (vN K):=rfl;have ay:=V.pc v;simp only[CK,SW,go_sem,ao,ay.2.1,ay.2.2,h]
theorem ayn(d:a8):CP n [d.d,mN K]=some (ax (dC K d.name)):=by have h:=VE aN ed d.name;have ao:a5 false 1 0 [vN K]=some (vN K):=rfl;simp only[CP,S1,go_sem,ao,a8.agg,a8.a7,h]
theorem ayo(x:bg):CM n [aC x,mN K]=some (ax (!dC K x)):=by have h:=VE aN ed x;have ao:a5 false 1 0 [vN K]=some (vN K):=rfl;simp only[CM,SY,go_sem,ao,h]
theorem ayp(l:List bg)(aj:l.length<1000000000):zI n [bu l,D.fn (.func s7) [] [mN K]]=some (ax (l.any λa=>!dC K a)):=by
 obtain⟨b,ab,af⟩:=VD l (λa=>!dC K a) (f:=Hz n) (λi=>[bu l,mN K,J l.length,J (i:Int)]) (λi a aE ah=>by
  have ab:=ayo aN ed a;cases bj:(!dC K a);.rw[bj]at ab;simp only[Hz,go_sem,yT ((i:Int)<l.length),lg aE,eK,ab,b0 (bt:=false) (i:=i) (by omega)]
  .rw[bj]at ab;simp only[Hz,go_sem,yT ((i:Int)<l.length),lg aE,eK,ab]) (by
  simp only[Hz,go_sem,yF ((l.length:Int)<l.length)]) n (by omega)
 have bE:(J ((0:Nat):Int))=J 0:=rfl;have ba:∀x,hN s7 (D.fn (.func s7) [] [x])=some [x]:=λx=>by simp[hN]
 rw[bE]at ab;rcases af with⟨aw,rfl⟩|⟨aw,k,rfl⟩
 .simp only[zI,ML,CN,MK,ba,go_sem,iO,ab,aw,yF ((-1:Int)>=0)]
 simp only[zI,ML,CN,MK,ba,go_sem,iO,ab,aw,yT ((k:Int)>=0)]
def hW(K:List bg)(t:Tm):Bool:=!(ez t).any λa=>!dC K a
theorem ayq(t:Tm)(aF:t.cc)(bn:t.bl<=30000000):CO n [t.d,mN K]=some (ax (hW K t)):=by have ab:=VA n t (by omega) aF (by omega);have aq:=Vz t;have af:=ayp aN ed (ez t) (by omega);have fl:∀b,(ax b).flat=true:=λ_=>rfl;simp only[CO,SZ,go_sem,ab,af,hW]
theorem ayr(vs:List V)(aq:vs.length<=1000000):CL n [bp vs,D.fn (.func uT) [] [mN K]]=some (bp (vs.filter λv=>dC K v.name)):=by
 have c5:∀l,D.az 4 (au (bp l))=bp l:=λ_=>rfl;have el:∀l,(au (bp l)).length=l.length:=λl=>by simp[bp]
 have dE:=dJ (f:=Hy n) vs (λi (o:List V)=>[mN K,bp vs,J vs.length,J (i:Int),bp o]) (λr o=>(.inl [bp (o++r.filter λv=>dC K v.name)]:List D⊕D)) (λi o=>o.length<=i) (λo _=>by simp only[Hy,go_sem,yF ((vs.length:Int)<vs.length),c5,List.filter_nil,xaG]) ?_ n 0 [] (xan _) (by omega) (xai _)
 .have bE:(J ((0:Nat):Int))=J 0:=rfl;have aO:bp []= .az 4 []:=rfl;rw[bE,aO]at dE;simp only[xao,xaK]at dE;have ba:hN uT (D.fn (.func uT) [] [mN K])=some [mN K]:=by simp[hN]
  simp only[CL,SX,ba,go_sem,fO,dE,c5]
 intro i v o a3 ah aF;left;have ay:=V.pc v;have xL:D.agg [aC v.name,ax v.bool,J v.lo,J v.ah]=v.d:=rfl;have bU:ad v.d 1=ax v.bool:=rfl;have bY:ad v.d 2=J v.lo:=rfl;have cv:ad v.d 3=J v.ah:=rfl;have ab:=aym aN ed v;have ej:dc (o.length+1) 40=true:=gG (by omega) (by omega);have iX:D.az 4 (au (bp o)++[[aC v.name,ax v.bool,J v.lo,J v.ah]])=bp (o++[v]):=by simp[bp];rfl
 cases bj:dC K v.name with
 |true=>
  rw[bj]at ab;refine⟨o++[v],?_,?_,by simp;omega⟩;.simp only[Hy,go_sem,yT ((i:Int)<vs.length),hz a3,ay.1,ay.2.1,ay.2.2,bU,bY,cv,xL,ab,c5,el,xar,xav,xax,ej,iX,b0 (bt:=false) (i:=i) (by omega)]
  rw[xaY,xad bj];simp
 |false=>
  rw[bj]at ab;refine⟨o,?_,?_,by omega⟩;.simp only[Hy,go_sem,yT ((i:Int)<vs.length),hz a3,ay.1,ay.2.1,ay.2.2,bU,bY,cv,xL,ab,c5,b0 (bt:=false) (i:=i) (by omega)]
  rw[xaY,xac (by rw[bj];decide)]
theorem ays(nx:List a8)(aq:nx.length<=1000000):CQ n [aR nx,D.fn (.func uU) [] [mN K]]=some (aR (nx.filter λd=>dC K d.name)):=by
 have c5:∀l,D.az 5 (au (aR l))=aR l:=λ_=>rfl;have el:∀l,(au (aR l)).length=l.length:=λl=>by simp[aR]
 have dE:=dJ (f:=HB n) nx (λi (o:List a8)=>[mN K,aR nx,J nx.length,J (i:Int),aR o]) (λr o=>(.inl [aR (o++r.filter λv=>dC K v.name)]:List D⊕D)) (λi o=>o.length<=i) (λo _=>by simp only[HB,go_sem,yF ((nx.length:Int)<nx.length),c5,List.filter_nil,xaG]) ?_ n 0 [] (xan _) (by omega) (xai _)
 .have bE:(J ((0:Nat):Int))=J 0:=rfl;have aO:aR []= .az 5 []:=rfl;rw[bE,aO]at dE;simp only[xao,xaK]at dE;have ba:hN uU (D.fn (.func uU) [] [mN K])=some [mN K]:=by simp[hN]
  simp only[CQ,S2,ba,go_sem,ef,dE,c5]
 intro i v o a3 ah aF;left;have xL:D.agg [aC v.name,J v.e.op,J v.e.num,aC v.e.name,cr 4 v.e.nl (Tm.rows v.e.aU)]=v.d:=rfl;have ab:=ayn aN ed v;have ej:dc (o.length+1) 72=true:=gG (by omega) (by omega);have iX:D.az 5 (au (aR o)++[[aC v.name,J v.e.op,J v.e.num,aC v.e.name,cr 4 v.e.nl (Tm.rows v.e.aU)]])=aR (o++[v]):=by simp[aR];rfl
 cases bj:dC K v.name with
 |true=>
  rw[bj]at ab;refine⟨o++[v],?_,?_,by simp;omega⟩;.simp only[HB,go_sem,yT ((i:Int)<nx.length),fo a3,a8.BZ,a8.agg,a8.a7,a8.bU,a8.bY,a8.cv,a8.dm,xL,ab,c5,el,xar,xav,xax,ej,iX,b0 (bt:=false) (i:=i) (by omega)]
  rw[xaY,xad bj];simp
 |false=>
  rw[bj]at ab;refine⟨o,?_,?_,by omega⟩;.simp only[HB,go_sem,yT ((i:Int)<nx.length),fo a3,a8.BZ,a8.agg,a8.a7,a8.bU,a8.bY,a8.cv,a8.dm,xL,ab,c5,b0 (bt:=false) (i:=i) (by omega)]
  rw[xaY,xac (by rw[bj];decide)]
theorem ayt(ts:List Tm)(oy:kg ts):vh n [aA ts,D.fn (.func qB) [] [mN K]]=some (aA (ts.filter λt=>hW K t)):=by
 obtain⟨aq,bm⟩:=oy;have c5:∀l,D.az 4 (au (aA l))=aA l:=λ_=>rfl;have el:∀l,(au (aA l)).length=l.length:=λl=>by simp[aA]
 have dE:=dJ (f:=HA n) ts (λi (o:List Tm)=>[mN K,aA ts,J ts.length,J (i:Int),aA o]) (λr o=>(.inl [aA (o++r.filter λt=>hW K t)]:List D⊕D)) (λi o=>o.length<=i) (λo _=>by simp only[HA,go_sem,yF ((ts.length:Int)<ts.length),c5,List.filter_nil,xaG]) ?_ n 0 [] (xan _) (by omega) (xai _)
 .have bE:(J ((0:Nat):Int))=J 0:=rfl;have aO:aA []= .az 4 []:=rfl;rw[bE,aO]at dE;simp only[xao,xaK]at dE;have ba:hN qB (D.fn (.func qB) [] [mN K])=some [mN K]:=by simp[hN]
  simp only[vh,S0,ba,go_sem,hT,dE,c5]
 intro i t o aL ah aF;left;obtain⟨bz,bA⟩:=bm t (xab aL);have ab:=ayq aN ed t bz bA;have ej:dc (o.length+1) 56=true:=gG (by omega) (by omega);have iX:D.az 4 (au (aA o)++[t.cells])=aA (o++[t]):=by simp[aA,Tm.U4]
 cases bj:hW K t with
 |true=>
  rw[bj]at ab;refine⟨o++[t],?_,?_,by simp;omega⟩;.simp only[HA,go_sem,yT ((i:Int)<ts.length),nF aL,ab,c5,el,T.As,T.DO,xar,xav,xax,ej,iX,b0 (bt:=false) (i:=i) (by omega)]
  rw[xaY,xad bj];simp
 |false=>
  rw[bj]at ab;refine⟨o,?_,?_,by omega⟩;.simp only[HA,go_sem,yT ((i:Int)<ts.length),nF aL,ab,c5,b0 (bt:=false) (i:=i) (by omega)]
  rw[xaY,xac (by rw[bj];decide)]
end
def ayu(vs:List V)(i bS:List Tm)(nx:List a8)(t f:List Tm)(K:List bg):D:= .agg [bp (vs.filter λv=>dC K v.name),eU,aA (i.filter λt=>hW K t),aA (bS.filter λt=>hW K t),aR (nx.filter λd=>dC K d.name),aA (t.filter λt=>hW K t),aA (f.filter λt=>hW K t),eU]
theorem afw{vs:List V}{i bS:List Tm}{nx:List a8}{t f:List Tm}(h:AR vs i bS nx t f){dd:D}(km:dd.one=true)(sp:List cz)(n:Nat)(aN:10000000000000000<n)(l:D){K:List bg} (bX:vg n [dW vs dd i bS nx t f sp,l]=some (bu K)) (ed:K.length<1000000):vi n [dW vs dd i bS nx t f sp,l]=some (ayu vs i bS nx t f K):=by have nH:a6 8 (dW vs dd i bS nx t f sp)=true:=JF km;have a7:ad (dW vs dd i bS nx t f sp) 0=bp vs:=rfl;have bY:ad (dW vs dd i bS nx t f sp) 2=aA i:=rfl;have cv:ad (dW vs dd i bS nx t f sp) 3=aA bS:=rfl;have dm:ad (dW vs dd i bS nx t f sp) 4=aR nx:=rfl;have eu:ad (dW vs dd i bS nx t f sp) 5=aA t:=rfl;have ew:ad (dW vs dd i bS nx t f sp) 6=aA f:=rfl;have hb:D.agg [bp vs,ad (dW vs dd i bS nx t f sp) 1,aA i,aA bS,aR nx,aA t,aA f,ad (dW vs dd i bS nx t f sp) 7]=dW vs dd i bS nx t f sp:=rfl;have g7:∀l,bJ (aA l)=true:=λ_=>rfl;have my:∀l,bJ (bp l)=true:=λ_=>rfl;have ayv:∀l,bJ (aR l)=true:=λ_=>rfl;have Ob:∀l,bJ (bu l)=true:=λ_=>rfl;have a3:=h.a3;have cD:=ayr (n:=n) (K:=K) (by omega) ed vs (by omega);have dN:=ays (n:=n) (K:=K) (by omega) ed nx h.lW.1;have hv:=λts h=>ayt (n:=n) (K:=K) (by omega) ed ts h;simp only[vi,aaK,nH,a7,bY,cv,dm,eu,ew,hb,go_sem,bX,Ob,cD,dN,hv i h.ah,hv bS h.tZ,hv t h.aL,hv f h.ba,g7,my,ayv];rfl
def afx(n:Nat)(gZ:Bool)(l:List bg)(x:bg)(aN:l.length<n)(aj:l.length<1000000000):r0 n [gq gZ l,aC x]=some (ax (dC l x)):=by
 have aq:=dJ (f:=Is n) l (λi (_:Unit)=>[gq gZ l,aC x,J (i:Int)]) (λr _=>if dC r x=true then(.inr (ax true):List D⊕D)else .inl []) (λ_ _=>True) (λ_ _=>by simp only[Is,go_sem,js,yF ((l.length:Int)<l.length),dC,List.any_nil]) ?_ n 0 () trivial (by omega) (xai _);.have bE:(J ((0:Nat):Int))=J 0:=rfl;rw[bE]at aq;simp only[xao]at aq;cases h:dC l x<;>simp only[h,xaC,xaD,xas]at aq<;>simp only[r0,abi,go_sem,aq]
 intro i a _ aE ah _;have an:dC (a::l.drop (i+1)) x=(decide (a=x)||dC (l.drop (i+1)) x):=by simp[dC]
 cases bj:decide (a=x)with
 |true=>right;simp only[Is,go_sem,js,yT ((i:Int)<l.length),o7 aE,eK,bj,an,Bool.true_or]
 |false=>left;refine⟨(),?_,by rw[an,bj,xbU],trivial⟩;simp only[Is,go_sem,js,yT ((i:Int)<l.length),o7 aE,eK,bj,b0 (bt:=false) (i:=i) (by omega)]
def OU(n:Nat)(l:List bg)(x:bg)(aN:l.length<n)(aj:l.length<1000000000):r0 n [bu l,aC x]=some (ax (dC l x)):=by rw[<-Al];exact afx n false l x aN aj
def ayw(n:Nat)(o r:List bg)(aN:o.length<n)(aj:o.length<1000000000)(A7:r.length<n)(kk:r.length<1000000000):TA n [bu o,bu r]=some (ax (sn o r)):=by
 have aq:=dJ (f:=Iv n) o (λi (_:Unit)=>[bu o,bu r,J (i:Int)]) (λq _=>if sn q r=true then(.inr (ax true):List D⊕D)else .inl []) (λ_ _=>True) (λ_ _=>by simp only[Iv,go_sem,iO,yF ((o.length:Int)<o.length),sn,List.any_nil]) ?_ n 0 () trivial (by omega) (xai _);.have bE:(J ((0:Nat):Int))=J 0:=rfl;rw[bE]at aq;simp only[xao]at aq;cases h:sn o r<;>simp only[h,xaC,xaD,xas]at aq<;>simp only[TA,abl,go_sem,aq]
 intro i a _ aE ah _;have an:sn (a::o.drop (i+1)) r=(dC r a||sn (o.drop (i+1)) r):=by simp[sn]
 have hm:=OU n r a A7 kk;cases bj:dC r a with
 |true=>rw[bj]at hm;right;simp only[Iv,go_sem,iO,yT ((i:Int)<o.length),lg aE,eK,hm,bj,an,Bool.true_or]
 |false=>rw[bj]at hm;left;refine⟨(),?_,by rw[an,bj,xbU],trivial⟩;simp only[Iv,go_sem,iO,yT ((i:Int)<o.length),lg aE,eK,hm,b0 (bt:=false) (i:=i) (by omega)]
def mh(t:Tm):List bg:=(dQ 4 t []).foldl jz (dQ 3 t [])
def OV{t:Tm}{x:bg}:x∈mh t↔x∈ez t:=by unfold mh ez;rw[OO,xak]
def afy(o:List bg)(x:bg):(jz o x).length<=o.length+1:=by unfold jz;split<;>simp
def afz:∀(r o:List bg),(r.foldl jz o).length<=o.length+r.length
 |[],o=>by simp|x::r,o=>by have ab:=afz r (jz o x);have af:=afy o x;simp only[xbx,xar];omega
def JH(t:Tm):(mh t).length<=2*t.bl:=by have ab:=(pZ 3 t [] trivial).2;have af:=(pZ 4 t [] trivial).2;have aw:=afz (dQ 4 t []) (dQ 3 t []);simp only[xav]at ab af;unfold mh;omega
def afA(n:Nat)(t:Tm)(aN:t.bl+t.bl+30<n)(bm:t.cc)(aj:t.bl<100000000):Dh n [t.d]=some (bu (mh t)):=by
 have h:=Ni n t (by omega) bm (by omega);have ab:=(pZ 3 t [] trivial).2;have af:=(pZ 4 t [] trivial).2;simp only[xav]at ab af;have c5:∀l,D.az 1 (au (bu l))=bu l:=λ_=>rfl;obtain⟨q,bz,bA,_⟩:=alZ (k:=1) (nl:=true) (es:=(dQ 3 t []).map λs=>[aC s]) (by decide);have bz:k4 (gq true (dQ 3 t []))=some (q,(dQ 3 t []).map λs=>[aC s]):=bz;have ej:dc (0+(dQ 3 t []).length) 16=true:=gG (by omega) (by omega);have aq:=dJ (f:=It n) (dQ 4 t []) (λi (o:List bg)=>[gq true (dQ 4 t []),J (i:Int),bu o]) (λr o=>(.inl [bu (r.foldl jz o)]:List D⊕D)) (λi o=>o.length<=(dQ 3 t []).length+i) (λo _=>by simp only[It,go_sem,js,yF (((dQ 4 t []).length:Int)<(dQ 4 t []).length),c5,List.foldl_nil]) ?_ n 0 (dQ 3 t []) (by omega) (by omega) (xai _)
 .have bE:(J ((0:Nat):Int))=J 0:=rfl;have aO:D.az 1 ((dQ 3 t []).map λs=>[aC s])=bu (dQ 3 t []):=rfl;rw[bE]at aq;simp only[xao]at aq;simp only[Dh,abj,go_sem,h,bz,bA,xav,xaS,ej,xaK,aO,aq,c5];rfl
 intro i x o ag ah aF;left;have hm:=OU n o x (by omega) (by omega);have ej:dc (o.length+1) 16=true:=gG (by omega) (by omega);have fz:=afy o x;have fl:∀b,(ax b).flat=true:=λ_=>rfl;refine⟨jz o x,?_,rfl,by omega⟩;unfold jz;cases bj:dC o x with
 |true=>rw[bj]at hm;simp only[It,go_sem,js,yT ((i:Int)<(dQ 4 t []).length),o7 ag,eK,c5,hm,fl,b0 (bt:=false) (i:=i) (by omega)]
 |false=>rw[bj]at hm;simp only[It,go_sem,js,yT ((i:Int)<(dQ 4 t []).length),o7 ag,eK,c5,hm,fl,so,xar,xav,xax,ej,DA,b0 (bt:=false) (i:=i) (by omega)]
def hI(R:List (List bg)):D:= .az 1 (R.map λr=>[bu r])
def nN(i bS:List Tm)(nx:List a8)(t f:List Tm):List (List bg):=(i++bS++t++f).map mh++nx.map λd=>d.name::mh d.e
def afB(a:List (List bg))(r:List bg):D.az 1 (au (hI a)++[[bu r]])=hI (a++[r]):=by simp[hI]
def afC(a:List (List bg)):(au (hI a)).length=a.length:=by simp[hI]
def vO{a:List (List bg)}{i:Nat}{r:List bg}(h:a[i]?=some r):bo 1 (hI a) (J (i:Int))=some [bu r]:=by simp[hI,h]
def Ef(a:List (List bg)):bD (hI a)=some (J a.length):=by simp[hI]
def afD{i bS:List Tm}{nx:List a8}{t f:List Tm}{vs:List V}{dd:D}{sp:List cz}(km:dd.one=true)(ab:kg i)(af:kg bS)(aw:kg t)(a4:kg f)(b6:qX nx)(n:Nat)(aN:1000000000<n):z5 n [dW vs dd i bS nx t f sp]=some (hI (nN i bS nx t f)):=by
 have c5:∀l,D.az 1 (au (hI l))=hI l:=λ_=>rfl;have cO:∀l,D.az 4 (au (aA l))=aA l:=λ_=>rfl;have afE:∀l:List Tm,(au (aA l)).length=l.length:=λl=>by simp[aA]
 have jZ:=ab.1;have kF:=af.1;have xD:=aw.1;have qR:=a4.1;have D1:=b6.1
 have bE:(J ((0:Nat):Int))=J 0:=rfl;have bR:(i++bS++t++f).length<=4000000:=by simp only[xaO];omega
 have ds:=dJ (f:=M1 n) (i++bS++t++f) (λk (o:List (List bg))=>[J (k:Int),bp vs,dd,aA i,aA bS,aR nx,aA t,aA f,b1 sp,hI o,aA (i++bS++t++f)]) (λr o=>(.inl [bp vs,dd,aA i,aA bS,aR nx,aA t,aA f,b1 sp,hI (o++r.map mh)]:List D⊕D)) (λk o=>o.length=k) (λo _=>by simp only[M1,go_sem,afE,yF (((i++bS++t++f).length:Int)<(i++bS++t++f).length),c5,xbn,xaG]) ?_ n 0 [] rfl (by omega) (xai _)
 .have gL:=dJ (f:=M3 n) nx (λk (o:List (List bg))=>[J (k:Int),bp vs,dd,aA i,aA bS,aR nx,aA t,aA f,b1 sp,hI o]) (λr o=>(.inl [hI (o++r.map λd=>d.name::mh d.e)]:List D⊕D)) (λk o=>o.length=(i++bS++t++f).length+k) (λo _=>by simp only[M3,go_sem,ef,yF ((nx.length:Int)<nx.length),c5,xbn,xaG]) ?_ n 0 ((i++bS++t++f).map mh) (by simp) (by omega) (xai _)
  .rw[bE]at ds gL;have aO:hI []= .az 1 []:=rfl;rw[aO]at ds;simp only[xao,xaK]at ds gL;have e9:∀l:List Tm,k4 (aA l)=some (4,Tm.rows l):=λ_=>rfl;have ayx:D.az 4 (Tm.rows i++Tm.rows bS++Tm.rows t++Tm.rows f)=aA (i++bS++t++f):=by simp[aA,Tm.mF]
   have ayy:∀l:List Tm,(Tm.rows l).length=l.length:=λl=>Tm.BU;have e4:dc (0+i.length) 56=true:=gG (by omega) (by omega);have eh:dc (i.length+bS.length) 56=true:=gG (by omega) (by omega);have jL:dc (i.length+bS.length+t.length) 56=true:=gG (by omega) (by omega);have KO:dc (i.length+bS.length+t.length+f.length) 56=true:=gG (by omega) (by omega);have nH:a6 8 (dW vs dd i bS nx t f sp)=true:=JF km;have a7:ad (dW vs dd i bS nx t f sp) 0=bp vs:=rfl;have VC:ad (dW vs dd i bS nx t f sp) 1=dd:=rfl;have bY:ad (dW vs dd i bS nx t f sp) 2=aA i:=rfl;have cv:ad (dW vs dd i bS nx t f sp) 3=aA bS:=rfl;have dm:ad (dW vs dd i bS nx t f sp) 4=aR nx:=rfl;have eu:ad (dW vs dd i bS nx t f sp) 5=aA t:=rfl;have ew:ad (dW vs dd i bS nx t f sp) 6=aA f:=rfl;have fD:ad (dW vs dd i bS nx t f sp) 7=b1 sp:=rfl;simp only[z5,abk,nH,a7,VC,bY,cv,dm,eu,ew,fD,go_sem,e9,true_or,xbg,Nat.zero_lt_succ,xav,xaK,xaO,ayy,e4,eh,jL,KO,ayx,ds,c5,gL];rfl
  intro k d o ay ak aF;left;obtain⟨bz,bA⟩:=b6.2 d (xab ay);have aj:=afA n d.e (by omega) bz (by omega);have aBy:=JH d.e;have e9:k4 (bu (mh d.e))=some (1,au (bu (mh d.e))):=rfl;have iX:D.az 1 ([[aC d.name]]++au (bu (mh d.e)))=bu (d.name::mh d.e):=rfl;have ej:dc (1+(mh d.e).length) 16=true:=gG (by omega) (by omega);have IH:dc (o.length+1) 24=true:=gG (by omega) (by omega);have JG:∀l,bJ (bu l)=true:=λ_=>rfl;refine⟨o++[d.name::mh d.e],?_,by simp,by simp only[xaO,xar,xav]at aF⊢;omega⟩;simp only[M3,go_sem,ef,yT ((k:Int)<nx.length),fo ay,a8.gn,a8.hx,aj,e9,iX,so,afC,xar,xav,xax,ej,IH,JG,true_or,xbg,Nat.lt_add_one,afB,b0 (bt:=false) (i:=k) (by omega)]
 intro k x o ag ak aF;left;have hm:=xab ag;obtain⟨bz,bA⟩:x.cc/\x.bl<=30000000:=by
  simp only[xak]at hm;rcases hm with((hm|hm)|hm)|hm
  .exact ab.2 x hm
  .exact af.2 x hm
  .exact aw.2 x hm
  exact a4.2 x hm
 have aj:=afA n x (by omega) bz (by omega);have IH:dc (o.length+1) 24=true:=gG (by omega) (by omega);have JG:∀l,bJ (bu l)=true:=λ_=>rfl;have mu:cj (i++bS++t++f).length (J (k:Int))=some k:=c8 ak;have aW:(au (aA (i++bS++t++f)))[k]?=some x.cells:=Tm.FT ag;refine⟨o++[mh x],?_,by simp,by simp;omega⟩;simp only[M1,go_sem,afE,yT ((k:Int)<(i++bS++t++f).length),mu,aW,aj,afC,xar,xav,xax,IH,JG,c5,cO,afB,b0 (bt:=false) (i:=k) (by omega)]
section
variable{n:Nat}{vs:List V}(aN:1000000000<n)(a3:vs.length<=1000)
include aN a3
def nh(vs:List V)(o:List bg):Prop:=o.Nodup/\∀x∈o,x∈vs.map V.name
theorem nh.len{o:List bg}(h:nh vs o):o.length<=1000:=by have:=AP h.1 h.2;rw[xaS]at this;omega
theorem nh.add{o:List bg}{x:bg}(h:nh vs o)(ag:x∈vs.map V.name):nh vs (jz o x):=⟨afi h.1,λy aJ=>by rcases afh.1 aJ with ab|rfl;exact h.2 y ab;exact ag⟩
theorem ayz(gZ:Bool)(l:List bg)(aq:l.length<100000000)(k9:(vs.map V.name).Nodup)(b9 cL c9 di dD eJ et:D):bq (Dj n) n [gq gZ l,J 0,bp vs,b9,cL,c9,di,dD,eJ,et,D.az 1 []]=some (.inl [bp vs,b9,cL,c9,di,dD,eJ,et,bu ((vs.map V.name).filter λx=>dC l x)]):=by
 have c5:∀l,D.az 1 (au (bu l))=bu l:=λ_=>rfl;have ds:=dJ (f:=Dj n) vs (λi (o:List bg)=>[gq gZ l,J (i:Int),bp vs,b9,cL,c9,di,dD,eJ,et,bu o]) (λr o=>(.inl [bp vs,b9,cL,c9,di,dD,eJ,et,bu (o++(r.map V.name).filter λx=>dC l x)]:List D⊕D)) (λi o=>o.length<=i) (λo _=>by simp only[Dj,go_sem,fO,yF ((vs.length:Int)<vs.length),c5,xbn,List.filter_nil,xaG]) ?_ n 0 [] (xan _) (by omega) (xai _)
 .have bE:(J ((0:Nat):Int))=J 0:=rfl;have aO:bu []= .az 1 []:=rfl;rw[bE,aO]at ds;simpa only[xao,xaK]using ds
 intro i v o ag ah aF;left;have ae:a5 false 1 0 v.cells=some (aC v.name):=rfl;have hm:=afx n gZ l v.name (by omega) (by omega);have ej:dc (o.length+1) 16=true:=gG (by omega) (by omega);cases bj:dC l v.name with
 |true=>
  rw[bj]at hm;refine⟨o++[v.name],?_,?_,by simp;omega⟩;.simp only[Dj,go_sem,fO,yT ((i:Int)<vs.length),hz ag,ae,hm,so,xar,xav,xax,ej,DA,c5,b0 (bt:=false) (i:=i) (by omega)]
  rw[xaz,xaY,xad bj];simp
 |false=>
  rw[bj]at hm;refine⟨o,?_,?_,by omega⟩;.simp only[Dj,go_sem,fO,yT ((i:Int)<vs.length),hz ag,ae,hm,c5,b0 (bt:=false) (i:=i) (by omega)]
  rw[xaz,xaY,xac (by rw[bj];decide)]
variable{R:List (List bg)}(xM:R.length<=10000000)(e5:∀r∈R,∀x∈r,x∈vs.map V.name)(sr:∀r∈R,r.length<=100000000)
include xM e5 sr
theorem ayA(i:Nat)(r:List bg)(av:R[i]?=some r)(ao cL c9 di dD eJ et e8 gb:D)(o:List bg)(aF:nh vs o):bq (Dk n) n [hI R,ao,J (i:Int),J 0,cL,c9,di,dD,eJ,et,e8,gb,bu o]=some (.inl [hI R,ao,J (i:Int),cL,c9,di,dD,eJ,et,e8,gb,bu (r.foldl jz o)])/\nh vs (r.foldl jz o):=by
 have c5:∀l,D.az 1 (au (bu l))=bu l:=λ_=>rfl;have hm:=xab av;have afF:=sr r hm;have ae:∀x:List bg,a5 false 1 0 [bu x]=some (bu x):=λ_=>rfl;have fl:∀b,(ax b).flat=true:=λ_=>rfl;have ayB:∀(q o:List bg),(∀x∈q,x∈vs.map V.name)->nh vs o->nh vs (q.foldl jz o):=by
  intro q
  induction q with
  |nil=>intro o _ h;exact h
  |cons x q ih=>intro o h af;exact ih _ (λy aJ=>h y (by simp[aJ])) (af.add aN a3 (h x (by simp)))
 refine⟨?_,ayB r o (e5 r hm) aF⟩;have ds:=dJ (f:=Dk n) r (λk (o:List bg)=>[hI R,ao,J (i:Int),J (k:Int),cL,c9,di,dD,eJ,et,e8,gb,bu o]) (λq o=>(.inl [hI R,ao,J (i:Int),cL,c9,di,dD,eJ,et,e8,gb,bu (q.foldl jz o)]:List D⊕(List D⊕(List D⊕(List D⊕(List D⊕(List D⊕(List D⊕D)))))))) (λk o=>nh vs o) (λo _=>by simp only[Dk,go_sem,vO av,ae,iO,yF ((r.length:Int)<r.length),c5,List.foldl_nil]) ?_ n 0 o aF (by omega) (xai _)
 .have bE:(J ((0:Nat):Int))=J 0:=rfl;rw[bE]at ds;simpa only[xao]using ds
 intro k x o ag ak aF;left;have sE:=aF.len aN a3;have vP:=OU n o x (by omega) (by omega);have ej:dc (o.length+1) 16=true:=gG (by omega) (by omega);refine⟨jz o x,?_,rfl,aF.add aN a3 (e5 r hm x (xab ag))⟩;unfold jz;cases bj:dC o x with
 |true=>rw[bj]at vP;simp only[Dk,go_sem,vO av,ae,iO,yT ((k:Int)<r.length),lg ag,eK,c5,vP,fl,b0 (bt:=false) (i:=k) (by omega)]
 |false=>rw[bj]at vP;simp only[Dk,go_sem,vO av,ae,iO,yT ((k:Int)<r.length),lg ag,eK,c5,vP,fl,so,xar,xav,xax,ej,DA,b0 (bt:=false) (i:=k) (by omega)]
theorem ayC(ao b9 cL c9 di dD eJ et e8:D)(o:List bg)(aF:nh vs o):bq (Dl n) n [hI R,ao,J 0,b9,cL,c9,di,dD,eJ,et,e8,bu o]=some (.inl [hI R,ao,b9,cL,c9,di,dD,eJ,et,e8,bu (mM R o)])/\nh vs (mM R o):=by
 have c5:∀l,D.az 1 (au (bu l))=bu l:=λ_=>rfl;have ae:∀x:List bg,a5 false 1 0 [bu x]=some (bu x):=λ_=>rfl;have fl:∀b,(ax b).flat=true:=λ_=>rfl;refine⟨?_,OQ aF.1,OR (λr av x _ y aJ _=>e5 r av y aJ) aF.2⟩;have ds:=dJ (f:=Dl n) R (λi (o:List bg)=>[hI R,ao,J (i:Int),b9,cL,c9,di,dD,eJ,et,e8,bu o]) (λq o=>(.inl [hI R,ao,b9,cL,c9,di,dD,eJ,et,e8,bu (q.foldl nL o)]:List D⊕(List D⊕(List D⊕(List D⊕D))))) (λk o=>nh vs o) (λo _=>by simp only[Dl,go_sem,Ef,yF ((R.length:Int)<R.length),c5,List.foldl_nil]) ?_ n 0 o aF (by omega) (xai _)
 .have bE:(J ((0:Nat):Int))=J 0:=rfl;rw[bE]at ds;unfold mM;simpa only[xao]using ds
 intro i r o av ah aF;left;have sE:=aF.len aN a3;have afF:=sr r (xab av);have sN:=ayw n o r (by omega) (by omega) (by omega) (by omega);obtain⟨fJ,ayD⟩:=ayA aN a3 xM e5 sr i r av ao b9 cL c9 di dD eJ et e8 o aF;cases bj:sn o r with
 |true=>rw[bj]at sN;refine⟨r.foldl jz o,?_,by rw[xbx,nL,xad bj],ayD⟩;simp only[Dl,go_sem,Ef,yT ((i:Int)<R.length),vO av,ae,c5,sN,fl,fJ,b0 (bt:=false) (i:=i) (by omega)]
 |false=>rw[bj]at sN;refine⟨o,?_,by rw[xbx,nL,xac (by rw[bj];decide)],aF⟩;simp only[Dl,go_sem,Ef,yT ((i:Int)<R.length),vO av,ae,c5,sN,fl,b0 (bt:=false) (i:=i) (by omega)]
theorem ayE(b9 cL c9 di dD eJ et:D)(o:List bg)(aF:nh vs o):bq (Iw n) n [hI R,J 0,bp vs,b9,cL,c9,di,dD,eJ,et,bu o]=some (.inl [bu (ng R (vs.length+1) o)]):=by
 have c5:∀l,D.az 1 (au (bu l))=bu l:=λ_=>rfl;have DI:(List.range (vs.length+1)).length=vs.length+1:=List.length_range;have ds:=dJ (f:=Iw n) (List.range (vs.length+1)) (λi (o:List bg)=>[hI R,J (i:Int),bp vs,b9,cL,c9,di,dD,eJ,et,bu o]) (λq o=>(.inl [bu (ng R q.length o)]:List D⊕D)) (λk o=>nh vs o) (λo _=>by rw[DI];simp only[Iw,go_sem,fO,yF (((vs.length+1:Nat):Int)<=vs.length),c5,xav,ng]) ?_ n 0 o aF (by omega) (xai _)
 .have bE:(J ((0:Nat):Int))=J 0:=rfl;rw[bE]at ds;simpa only[xao,DI]using ds
 intro i r o av ah aF;left;rw[DI]at ah;obtain⟨Jp,p6⟩:=ayC aN a3 xM e5 sr (J (i:Int)) (bp vs) b9 cL c9 di dD eJ et o aF;refine⟨mM R o,?_,?_,p6⟩;.simp only[Iw,go_sem,fO,yT ((i:Int)<=vs.length),c5,Jp,b0 (bt:=false) (i:=i) (by omega)]
 rw[xar,ng]
end
def JI{i bS:List Tm}{nx:List a8}{t f:List Tm}:(∀r∈kY i bS nx t f,∃q∈nN i bS nx t f,∀x,x∈r↔x∈q)/\(∀q∈nN i bS nx t f,∃r∈kY i bS nx t f,∀x,x∈r↔x∈q):=by
 constructor
 .intro r av;rcases xak.1 av with h|h
  .obtain⟨z,ab,rfl⟩:=xap.1 h;exact⟨mh z,xak.2 (.inl (xap.2 ⟨z,ab,rfl⟩)),λx=>OV.symm⟩
  obtain⟨z,ab,rfl⟩:=xap.1 h;exact⟨z.name::mh z.e,xak.2 (.inr (xap.2 ⟨z,ab,rfl⟩)),λx=>by rw[xal,xal,OV]⟩
 intro r av;rcases xak.1 av with h|h
 .obtain⟨z,ab,rfl⟩:=xap.1 h;exact⟨ez z,xak.2 (.inl (xap.2 ⟨z,ab,rfl⟩)),λx=>OV.symm⟩
 obtain⟨z,ab,rfl⟩:=xap.1 h;exact⟨z.name::ez z.e,xak.2 (.inr (xap.2 ⟨z,ab,rfl⟩)),λx=>by rw[xal,xal,OV]⟩
def Eg(vs:List V)(i bS:List Tm)(nx:List a8)(t f:List Tm)(l:List bg):List bg:=ng (nN i bS nx t f) (vs.length+1) ((vs.map V.name).filter λx=>dC l x)
section
variable{vs:List V}{i bS:List Tm}{nx:List a8}{t f:List Tm}(h:AR vs i bS nx t f)(k9:(vs.map V.name).Nodup)
include h k9
theorem OW(l:List bg):nh vs ((vs.map V.name).filter λx=>dC l x):=⟨List.Pairwise.filter _ k9,λx ag=>(xaN.1 ag).1⟩
theorem OX:∀r∈nN i bS nx t f,∀x∈r,x∈vs.map V.name:=λr av x ag=>by obtain⟨q,ab,af⟩:=JI.2 r av;exact h.known q ab x ((af x).2 ag)
theorem ayF(l:List bg):nh vs (Eg vs i bS nx t f l):=by have ar:=OW h k9 l;exact⟨afo ar.1,Vw (λr av x _ y aJ _=>OX h k9 r av y aJ) ar.2⟩
theorem ayG(l:List bg):AO (nN i bS nx t f) λx=>x∈Eg vs i bS nx t f l:=by have ar:=OW h k9 l;exact axW (OX h k9) ar.1 ar.2 (by rw[xaS];omega)
theorem ayH(l:List bg){rep:bg->bg}(aG:Sep (vs.map V.name) (kY i bS nx t f) rep)(ay:lv rep (kY i bS nx t f))(x:bg):x∈Eg vs i bS nx t f l↔x∈vs.map V.name/\∃a∈l,a∈vs.map V.name/\rep a=rep x:=by
 have ar:=OW h k9 l;have sj:Sep (vs.map V.name) (nN i bS nx t f) rep:=λC cf=>aG C λr av y aJ z bn=>by obtain⟨q,ab,af⟩:=JI.1 r av;exact cf q ab y ((af y).1 aJ) z ((af z).1 bn)
 have iB:lv rep (nN i bS nx t f):=λq bj y aJ z bn=>by obtain⟨r,ab,af⟩:=JI.2 q bj;exact ay r ab y ((af y).2 aJ) z ((af z).2 bn)
 unfold Eg;rw[axU (OX h k9) sj iB ar.1 ar.2 (by rw[xaS];omega)];constructor;.rintro⟨ab,a,af,aw⟩;obtain⟨a4,b6⟩:=xaN.1 af;exact⟨ab,a,jy.1 b6,a4,aw⟩
 rintro⟨ab,a,af,aw,a4⟩;exact⟨ab,a,xaN.2 ⟨aw,jy.2 af⟩,a4⟩
theorem ayI{dd:D}(km:dd.one=true)(sp:List cz)(n:Nat)(aN:1000000000<n)(gZ:Bool)(l:List bg)(aq:l.length<100000000):TB n [dW vs dd i bS nx t f sp,gq gZ l]=some (bu (Eg vs i bS nx t f l)):=by
 have nH:a6 8 (dW vs dd i bS nx t f sp)=true:=JF km;have a7:ad (dW vs dd i bS nx t f sp) 0=bp vs:=rfl;have aw:=ayz aN h.a3 gZ l aq k9 (ad (dW vs dd i bS nx t f sp) 1) (ad (dW vs dd i bS nx t f sp) 2) (ad (dW vs dd i bS nx t f sp) 3) (ad (dW vs dd i bS nx t f sp) 4) (ad (dW vs dd i bS nx t f sp) 5) (ad (dW vs dd i bS nx t f sp) 6) (ad (dW vs dd i bS nx t f sp) 7);have av:=afD (vs:=vs) (sp:=sp) km h.ah h.tZ h.aL h.ba h.lW n aN;have hb:D.agg [bp vs,ad (dW vs dd i bS nx t f sp) 1,ad (dW vs dd i bS nx t f sp) 2,ad (dW vs dd i bS nx t f sp) 3,ad (dW vs dd i bS nx t f sp) 4,ad (dW vs dd i bS nx t f sp) 5,ad (dW vs dd i bS nx t f sp) 6,ad (dW vs dd i bS nx t f sp) 7]=dW vs dd i bS nx t f sp:=rfl;have xM:(nN i bS nx t f).length<=10000000:=by
  have jZ:=h.ah.1;have kF:=h.tZ.1;have xD:=h.aL.1;have qR:=h.ba.1;have D1:=h.lW.1
  simp only[nN,xaO,xaS];omega
 have sr:∀r∈nN i bS nx t f,r.length<=100000000:=by
  intro r av;rcases xak.1 av with hm|hm
  .obtain⟨z,ab,rfl⟩:=xap.1 hm;have af:=JH z;have aw:z.bl<=30000000:=by
    simp only[xak]at ab;rcases ab with((ab|ab)|ab)|ab
    .exact(h.ah.2 z ab).2
    .exact(h.tZ.2 z ab).2
    .exact(h.aL.2 z ab).2
    exact(h.ba.2 z ab).2
   omega
  obtain⟨z,ab,rfl⟩:=xap.1 hm;have af:=JH z.e;have aw:=(h.lW.2 z ab).2;simp only[xar];omega
 have jM:=ayE aN h.a3 xM (OX h k9) sr (ad (dW vs dd i bS nx t f sp) 1) (ad (dW vs dd i bS nx t f sp) 2) (ad (dW vs dd i bS nx t f sp) 3) (ad (dW vs dd i bS nx t f sp) 4) (ad (dW vs dd i bS nx t f sp) 5) (ad (dW vs dd i bS nx t f sp) 6) (ad (dW vs dd i bS nx t f sp) 7) _ (OW h k9 l);have c5:∀l,D.az 1 (au (bu l))=bu l:=λ_=>rfl;simp only[TB,abm,nH,a7,go_sem,aw,hb,av,c5,jM];rfl
end
section
variable{n:Nat}{K:List bg}(aN:1000000000<n)(ed:K.length<1000000)
include aN ed
end
def afG{l:List V}(h:(jO l).2=0):∀i v,l[i]?=some v->wA (l.take i) v=0:=by intro i v a3;have ck:=(xae.1 a3).1;unfold jO at h;cases ba:(List.range l.length).find? (λi=>iZ l i !=0)with|none=>have:=xci.1 ba i (by simp;exact ck);unfold iZ at this;rw[a3]at this;simpa using this|some j=>rw[ba]at h;have:=List.find?_some ba;simp only at h;rw[h]at this;cases this
def afH{l:List V}(h:(jO l).2=0):(l.map V.name).Nodup:=by
 refine List.pairwise_iff_getElem.2 λi j ah aP gS e=>?_;rw[xaS]at ah aP;rw[List.getElem_map,List.getElem_map]at e;have ab:=afG h j l[j] (xaa aP);unfold wA at ab;split at ab
 .cases ab
 split at ab;.cases ab
 rename_i af;refine af ?_;unfold has;rw[xbr];refine⟨l[i].name,xap.2 ⟨l[i],?_,rfl⟩,by rw[e];simp⟩;rw[List.mem_take_iff_getElem];exact⟨i,by omega,rfl⟩
def afI{f:Tm->Tm}(ba:p4 f)(o:Int)(t:Tm):∀l,dQ o (f t) l=dQ o t l:=by
 refine Tm.ind (P:=λt=>∀l,dQ o (f t) l=dQ o t l) ?_ t;intro t ih l;have key:∀(ks:List Tm),(∀k∈ks,∀l,dQ o (f k) l=dQ o k l)->∀l,ke o (ks.map f) l=ke o ks l:=by
  intro ks
  induction ks with
  |nil=>intro _ l;rfl
  |cons k r AS=>intro h l;rw[xaz,ke,ke,h k (by simp),AS λx ag=>h x (by simp[ag])]
 rw[An,An o t,ba.op,ba.name,ba.aU,key t.aU ih]
def AT{f:Tm->Tm}(ba:p4 f)(t:Tm):ez (f t)=ez t:=by unfold ez;rw[afI ba,afI ba]
def VF{vs:List V}{x:bg}{k:Nat}(h:fg vs x=some k):x∈vs.map V.name:=by obtain⟨v,ab,af,_⟩:=IX h;exact xap.2 ⟨v,xab ab,af⟩
def afJ{vs:List V}{nx:Bool}{o:Int}(aF:o=3\/o=4)(t:Tm):Valid t->(gA vs nx t).2=0->∀l x,x∈dQ o t l->x∈l\/x∈vs.map V.name:=by
 refine Tm.ind (P:=λt=>Valid t->(gA vs nx t).2=0->∀l x,x∈dQ o t l->x∈l\/x∈vs.map V.name) ?_ t;intro t ih a3 h l x ag;rw[xz]at h;rw[An]at ag;by_cases a4:t.op<=4
 .rw[xad a4]at h;rw[a3.leaf a4,ke]at ag;by_cases afK:t.op=o
  .rw[xad afK]at ag;rcases RS ag with rfl|ag
   .right;unfold oi at h;rw[xac (by omega),xac (by omega)]at h;split at h;.cases h
    rename_i k ak;exact VF ak
   exact .inl ag
  rw[xac afK]at ag;exact .inl ag
 rw[xac a4]at h;rw[xac (by omega)]at ag;by_cases ak:(gJ vs nx t.aU).2=0
 case neg=>rw[xad ak]at h;exact absurd h ak
 have key:∀(ks:List Tm),(∀k∈ks,(gA vs nx k).2=0->∀l x,x∈dQ o k l->x∈l\/x∈vs.map V.name)->(gJ vs nx ks).2=0->∀l x,x∈ke o ks l->x∈l\/x∈vs.map V.name:=by
  intro ks
  induction ks with
  |nil=>intro _ _ l x ag;exact .inl ag
  |cons k r AS=>
   intro ab af l x ag;rw[gJ]at af;by_cases bU:(gA vs nx k).2=0
   case neg=>rw[xad bU]at af;exact absurd af bU
   rw[xac (λq=>q bU)]at af;by_cases bY:(gJ vs nx r).2=0
   case neg=>rw[xad bY]at af;exact absurd af bY
   rw[ke]at ag;rcases AS (λy aJ=>ab y (by simp[aJ])) bY _ x ag with aw|aw
   .exact ab k (by simp) bU l x aw
   exact .inr aw
 exact key t.aU (λk dj ab=>ih k dj (a3.gl dj) ab) ak l x ag
def ayJ{vs:List V}{nx:Bool}{t:Tm}(h:(oj vs nx t).2=0):∀x∈ez t,x∈vs.map V.name:=by
 unfold oj at h;by_cases an:(db t 1 0).1=0
 case neg=>rw[xad an]at h;exact absurd h an
 rw[xac (λq=>q an)]at h;have a3:Valid t:=⟨1,0,an⟩;intro x ag;rcases xak.1 ag with ag|ag
 .rcases afJ (.inl rfl) t a3 h [] x ag with ab|ab;.cases ab
  exact ab
 rcases afJ (.inr rfl) t a3 h [] x ag with ab|ab;.cases ab
 exact ab
def ayK{m:aB}{nx:Bool}{t:Tm}(h:(fI m nx t).2=0):(gP m.aH t).2=0/\∀x∈ez (gP m.aH t).1,x∈m.vars.map V.name:=by have ar:=Oq h;unfold fI at h;rw[xac (λq=>q ar)]at h;exact⟨ar,ayJ h⟩
structure VG(w:Tm->Tm):Prop where
 Ee:p4 w
 bl:∀t,(w t).bl=t.bl
def afL:VG jv:=⟨qO,Uq⟩
def ayL:VG gW:=⟨NL,UH⟩
noncomputable def pj(w:Tm->Tm)(l:List a8)(t:Tm):Tm:=w (gP l t).1
noncomputable def afM(w:Tm->Tm)(l:List a8)(d:a8):a8:=⟨d.name,pj w l d.e⟩
structure pk(m:aB)(n:Nat):Prop where
 ok:Aw m n
 fr:Vg m
section
variable{m:aB}{n:Nat}(h:pk m n){w:Tm->Tm}(hw:VG w)(bm:∀t,vD m.aH t (gP m.aH t)->(gP m.aH t).2=0->(w (gP m.aH t).1).cc)
include h hw bm
theorem Eh{t:Tm}{nx:Bool}(aF:t.cc)(aG:t.bl<=12300)(aL:(fI m nx t).2=0):(pj w m.aH t).cc/\(pj w m.aH t).bl<=12300/\∀x∈ez (pj w m.aH t),x∈m.vars.map V.name:=by obtain⟨ab,af⟩:=ayK aL;have aT:=h.ok.bl.I0 aF aG;have ag:=aT.x ab;refine⟨bm t aT ab,by unfold pj;rw[hw.bl];exact ag.2.1,?_⟩;unfold pj;rw[AT hw.Ee];exact af
theorem afN:AR m.vars (m.bG.map (pj w m.aH)) (m.bI.map (pj w m.aH)) (m.next.map (afM w m.aH)) (m.trans.map (pj w m.aH)) (m.bM.map (pj w m.aH)):=by
 have hm:=h.ok;have f:=h.fr;have cX:∀t∈m.bG,(fI m false t).2=0:=λt aL=>(sk (iS f.i t aL)).1;have iD:∀t∈m.bI,(fI m false t).2=0:=λt aL=>(sk (iS f.bS t aL)).1;have Nx:=Oo f.nx;have ry:∀t∈m.trans,(fI m true t).2=0:=λt aL=>(sk (iS f.t t aL)).1;have ayM:∀t∈m.bM,(fI m false t).2=0:=λt aL=>(sk (iS f.f t aL)).1;have cL:=λt aL=>Eh h hw bm (hm.bG.2 t aL).1 (hm.bG.2 t aL).2 (cX t aL);have c9:=λt aL=>Eh h hw bm (hm.bI.2 t aL).1 (hm.bI.2 t aL).2 (iD t aL);have di:=λt aL=>Eh h hw bm (hm.next.2 t aL).1 (hm.next.2 t aL).2 (Nx t aL).1;have dD:=λt aL=>Eh h hw bm (hm.trans.2 t aL).1 (hm.trans.2 t aL).2 (ry t aL);have eJ:=λt aL=>Eh h hw bm (hm.bM.2 t aL).1 (hm.bM.2 t aL).2 (ayM t aL);have T:∀(l:List Tm),l.length<=100->(∀t∈l,(pj w m.aH t).cc/\(pj w m.aH t).bl<=12300/\∀x∈ez (pj w m.aH t),x∈m.vars.map V.name)->kg (l.map (pj w m.aH)):=by intro l aq aE;refine⟨by rw[xaS];omega,λt aL=>?_⟩;obtain⟨z,ab,rfl⟩:=xap.1 aL;exact⟨(aE z ab).1,by have:=(aE z ab).2.1;omega⟩
 refine⟨by have:=hm.bl.nG;omega,T _ hm.bG.1 cL,T _ hm.bI.1 c9,?_,T _ hm.trans.1 dD,T _ hm.bM.1 eJ,?_⟩;.refine⟨by rw[xaS];have:=hm.next.1;omega,λd ay=>?_⟩;obtain⟨z,ab,rfl⟩:=xap.1 ay;exact⟨(di z ab).1,by have:=(di z ab).2.1;simp only[afM];omega⟩
 intro r av x ag;rcases xak.1 av with av|av
 .obtain⟨z,ab,rfl⟩:=xap.1 av;simp only[xak]at ab;rcases ab with((ab|ab)|ab)|ab;.obtain⟨t,af,rfl⟩:=xap.1 ab;exact(cL t af).2.2 x ag
  .obtain⟨t,af,rfl⟩:=xap.1 ab;exact(c9 t af).2.2 x ag
  .obtain⟨t,af,rfl⟩:=xap.1 ab;exact(dD t af).2.2 x ag
  obtain⟨t,af,rfl⟩:=xap.1 ab;exact(eJ t af).2.2 x ag
 obtain⟨z,ab,rfl⟩:=xap.1 av;obtain⟨d,af,rfl⟩:=xap.1 ab;rcases xal.1 ag with rfl|ag;.obtain⟨k,ak⟩:=(Nx d af).2;exact VF ak
 exact(di d af).2.2 x ag
end
def afO{m:aB}{t:Tm}(aT:vD m.aH t (gP m.aH t))(ar:(gP m.aH t).2=0):(jv (gP m.aH t).1).cc:=(aT.x ar).2.2.2.1
def ayN{m:aB}{t:Tm}(aT:vD m.aH t (gP m.aH t))(ar:(gP m.aH t).2=0):(gW (gP m.aH t).1).cc:=(aT.x ar).2.2.2.2.1
def OY{m:aB}{n:Nat}(h:pk m n):AR m.vars (m.bG.map (cU m.aH)) (m.bI.map (cU m.aH)) (m.next.map (g2 m.aH)) (m.trans.map (cU m.aH)) (m.bM.map (cU m.aH)):=afN h afL λ_ aT ar=>afO aT ar
def VH{m:aB}{n:Nat}(h:pk m n):AR m.vars (m.bG.map (ey m.aH)) (m.bI.map (ey m.aH)) (m.next.map (lS m.aH)) (m.trans.map (ey m.aH)) (m.bM.map (ey m.aH)):=afN h ayL λ_ aT ar=>ayN aT ar
def OZ{m:aB}{n:Nat}(h:pk m n)(gR:∀s∈m.bH,s.f.bl<=2000):Vd m:=by
 have hm:=h.ok;have f:=h.fr;have JJ:∀{t:Tm}{nx:Bool},t.cc->t.bl<=12300->(fI m nx t).2=0->pf m.aH t:=λaF aG aL=>⟨hm.bl.I0 aF aG,Oq aL⟩;have afP:=awQ f.s;refine⟨λt aL=>JJ (hm.bG.2 t aL).1 (hm.bG.2 t aL).2 (sk (iS f.i t aL)).1,λt aL=>JJ (hm.bI.2 t aL).1 (hm.bI.2 t aL).2 (sk (iS f.bS t aL)).1,λd ay=>JJ (hm.next.2 d ay).1 (hm.next.2 d ay).2 (Oo f.nx d ay).1,λt aL=>JJ (hm.trans.2 t aL).1 (hm.trans.2 t aL).2 (sk (iS f.t t aL)).1,λt aL=>JJ (hm.bM.2 t aL).1 (hm.bM.2 t aL).2 (sk (iS f.f t aL)).1,λs aG=>awC (awB hm.bl.d hm.bl.dl s.f (hm.bH.2 s aG).1.1 (gR s aG) (afP s aG).1 (awR s.f (afP s aG).2)),?_⟩;have b:=hm.bG.1;have hf:=hm.bI.1;have j5:=hm.next.1
 have na:=hm.trans.1;have pe:=hm.bM.1;have qQ:=hm.bH.1;exact⟨by omega,by omega,by omega,by omega,by omega,by omega⟩
def dS{α β:Type}(p:α->β->Bool):List α->List β->Bool
 |[],[]=>true|a::r,b::q=>p a b&&dS p r q|_,_=>false
def afQ{α β:Type}{p:α->β->Bool}:∀{a:List α}{b:List β},dS p a b=true->a.length=b.length
 |[],[],_=>rfl|x::a,y::b,h=>by simp only[dS,xam]at h;simp only[xar,afQ h.2]|[],_::_,h=>by cases h
 |_::_,[],h=>by cases h
def JK{α β:Type}{p:α->β->Bool}{a:List α}{b:List β}(h:a.length≠b.length):dS p a b=false:=by cases bn:dS p a b with|false=>rfl|true=>exact absurd (afQ bn) h
def AU{α β:Type}(p:α->β->Bool)(a:List α)(b:List β)(aq:a.length=b.length){f:List D->Option (List D⊕(List D⊕D))}(e0:Nat->List D)(E:List D) (aG:∀i x y,a[i]?=some x->b[i]?=some y->i<a.length->f (e0 i)=some (if p x y=true then .inl (e0 (i+1))else .inr (.inr (ax false)))) (he:f (e0 a.length)=some (.inr (.inl E))) (n:Nat) (aN:a.length<n):bq f n (e0 0)=some (if dS p a b=true then .inl E else .inr (ax false)):=by
 have key:∀(m i:Nat),i<=a.length->a.length-i<m->bq f m (e0 i)=some (if dS p (a.drop i) (b.drop i)=true then .inl E else .inr (ax false)):=by
  intro m
  induction m with
  |zero=>intro i _ h;exact absurd h (xay _)
  |succ m ih=>
   intro i ah hm;rw[jP];by_cases h:i<a.length
   .have aj:i<b.length:=by omega
    rw[aG i _ _ (xaa h) (xaa aj) h,xbc h,xbc aj,dS];cases aT:p a[i] b[i]with|true=>simp only[xaC,xbD,eN];exact ih (i+1) h (by omega)|false=>rfl
   have:i=a.length:=by omega
   subst this;rw[he,List.drop_length,aq,List.drop_length];rfl
 simpa using key n 0 (xai _) (by omega)
def oz(v w:V):Bool:=decide (v.name=w.name)&&((v.bool==w.bool)&&(v.lo==w.lo&&v.ah==w.ah))
def afR(v w:V):yo [.string,.bool,.int .i64,.int .i64] .neq v.d w.d=some (ax (!oz v w)):=by
 obtain⟨mu,eO,jZ,ly⟩:=v;obtain⟨rb,hf,kF,kZ⟩:=w;have aG:∀a b:ByteArray,Instr.sameNow .string (.string a) (.string b)=some (decide (a=b)):=λa b=>by simp[Instr.sameNow,J2]
 have gL:∀a b:Bool,Instr.sameNow .bool (.bool a) (.bool b)=some (a==b):=λa b=>rfl;have iC:∀a b:Int,Instr.sameNow (.int .i64) (.int .i64 a) (.int .i64 b)=some (a==b):=λa b=>rfl;simp only[yo,V.d,V.cells,J3,q0,aC,ax,J,aG,gL,iC,oz];cases decide (mu=rb)<;>cases(eO==hf)<;>cases(jZ==kF)<;>cases(ly==kZ)<;>rfl
structure gv where
 vs:List V
 xC:Bool
 aQ:List a8
 i:List Tm
 bS:List Tm
 nx:List a8
 t:List Tm
 f:List Tm
 JL:Bool
 fj:List cz
def oA(b:Bool)(l:List a8):D:=cr 5 b (l.map a8.cells)
def mi(b:Bool)(l:List cz):D:=cr 7 b (l.map cz.cells)
def gv.d(m:gv):D:= .agg [bp m.vs,oA m.xC m.aQ,aA m.i,aA m.bS,aR m.nx,aA m.t,aA m.f,mi m.JL m.fj]
def VI(l:List a8):oA false l=aR l:=by unfold oA aR;rw[BT]
def ayO(l:List cz):mi false l=b1 l:=by unfold mi b1;rw[BT]
def Ei(b:Bool)(l:List a8):bD (oA b l)=some (J l.length):=by simp[oA]
def xN(b:Bool)(l:List cz):bD (mi b l)=some (J l.length):=by simp[mi]
theorem Ej{b:Bool}{l:List a8}{i:Nat}{d:a8}(h:l[i]?=some d):bo 5 (oA b l) (J (i:Int))=some d.cells:=by rw[oA,FR,xaj,h];rfl
theorem Ek{b:Bool}{l:List cz}{i:Nat}{d:cz}(h:l[i]?=some d):bo 7 (mi b l) (J (i:Int))=some d.cells:=by rw[mi,FR,xaj,h];rfl
theorem VJ(b:Bool)(l:List a8):(oA b l).one=true:=by unfold oA cr;split<;>rfl
theorem VK(b:Bool)(l:List cz):(mi b l).one=true:=by unfold mi cr;split<;>rfl
def iH(a b:a8):Bool:=decide (a.name=b.name)&&eV a.e b.e
def ua(a b:cz):Bool:=decide (a.name=b.name)&&xv a.f b.f
def VL(l:List cz):Prop:=l.length<=1000000/\∀s∈l,s.f.cc/\s.f.bl<=30000000
structure ub(m:gv):Prop where
 v:m.vs.length<=1000
 d:qX m.aQ
 i:kg m.i
 bS:kg m.bS
 n:qX m.nx
 t:kg m.t
 f:kg m.f
 s:VL m.fj
def El(a b:gv):Bool:=decide (a.vs.length=b.vs.length)&&(decide (a.fj.length=b.fj.length)&&(dS oz a.vs b.vs&&(dS ua a.fj b.fj&&(dS iH a.aQ b.aQ&&(dS iH a.nx b.nx&&(dS eV a.i b.i&&(dS eV a.bS b.bS&&(dS eV a.t b.t&&dS eV a.f b.f))))))))
def ayP(a b:Tm):xv (.mk 0 a true []) (.mk 0 b true [])=eV a b:=by rw[adC];simp only[Fm.op,Fm.e,Fm.aU,xav,xw,xbg,xbD,xbu]
def oB(a b:Nat):((a:Int) !=(b:Int))=!decide (a=b):=by
 by_cases h:a=b;.simp[h]
 have af:¬(a:Int)=(b:Int):=by omega
 simp[h,af]
section
variable{n:Nat}(aN:1000000000<n)
include aN
theorem JM{a b:List Tm}(aE:kg a)(aj:kg b):r2 n [aA a,aA b]=some (ax (dS eV a b)):=by
 by_cases aq:a.length=b.length
 case neg=>simp only[r2,TD,go_sem,hT,oB,aq,xbF,JK aq]
 have k8:=aE.1;have h:=AU eV a b aq (f:=IA n) (λi=>[aA a,aA b,J (i:Int)]) [] (λi x y ag aJ ah=>by
  obtain⟨dy,dg⟩:=aE.2 x (xab ag);obtain⟨bz,bA⟩:=aj.2 y (xab aJ);have ar:(Fm.mk 0 x true []).cc:= .mk _ _ _ _ (by omega) dy (by simp) (by simp);have ab:(Fm.mk 0 y true []).cc:= .mk _ _ _ _ (by omega) bz (by simp) (by simp);have aG:=Uu n (.mk 0 x true []) (.mk 0 y true []) (by simp only[Fm.bl,Fm.dP];omega) ar ab;rw[ayP]at aG;have aO:D.agg [J 0,J x.op,J x.num,aC x.name,cr 4 x.nl (Tm.rows x.aU),D.val (.slice none 0 0)]=(Fm.mk 0 x true []).d:=rfl;have aX:D.agg [J 0,J y.op,J y.num,aC y.name,cr 4 y.nl (Tm.rows y.aU),D.val (.slice none 0 0)]=(Fm.mk 0 y true []).d:=rfl;cases bj:eV x y
  .rw[bj]at aG;simp only[IA,go_sem,hT,yT ((i:Int)<a.length),nF ag,nF aJ,aO,aX,aG]
  .rw[bj]at aG;simp only[IA,go_sem,hT,yT ((i:Int)<a.length),nF ag,nF aJ,aO,aX,aG,b0 (bt:=false) (i:=i) (by omega)]) (by
  simp only[IA,go_sem,hT,yF ((a.length:Int)<a.length)]) n (by omega)
 have bE:(J ((0:Nat):Int))=J 0:=rfl;rw[bE]at h;cases bn:dS eV a b<;>simp only[bn,xaC,xaD,xas]at h<;>simp only[r2,TD,go_sem,hT,oB,aq,xbg,h]
theorem afS{u w:Bool}{a b:List a8}(aE:qX a)(aj:qX b):z8 n [oA u a,oA w b]=some (ax (dS iH a b)):=by
 by_cases aq:a.length=b.length
 case neg=>simp only[z8,TE,go_sem,Ei,oB,aq,xbF,JK aq]
 have k8:=aE.1;have h:=AU iH a b aq (f:=Dn n) (λi=>[oA u a,oA w b,J (i:Int)]) [] (λi x y ag aJ ah=>by
  obtain⟨dy,dg⟩:=aE.2 x (xab ag);obtain⟨bz,bA⟩:=aj.2 y (xab aJ);have aG:=JM aN (a:=[x.e]) (b:=[y.e]) ⟨by simp,by simpa using⟨dy,dg⟩⟩ ⟨by simp,by simpa using⟨bz,bA⟩⟩;have aO:∀t:Tm,D.az 4 [[J t.op,J t.num,aC t.name,cr 4 t.nl (Tm.rows t.aU)]]=aA [t]:=λt=>by rw[T.As];rfl
  have bn:dS eV [x.e] [y.e]=eV x.e y.e:=by simp[dS]
  rw[bn]at aG;by_cases lP:x.name=y.name
  case neg=>
   have bj:iH x y=false:=by simp[iH,lP]
   simp only[Dn,go_sem,Ei,yT ((i:Int)<a.length),Ej ag,Ej aJ,a8.gn,xaF lP,RA,ee,xbO,bj]
  cases bj:eV x.e y.e
  .have sY:iH x y=false:=by simp[iH,bj]
   rw[bj]at aG;simp only[Dn,go_sem,Ei,yT ((i:Int)<a.length),Ej ag,Ej aJ,a8.gn,a8.hx,xaw lP,RA,ee,aO,aG,sY]
  .have sY:iH x y=true:=by simp[iH,bj,lP]
   rw[bj]at aG;simp only[Dn,go_sem,Ei,yT ((i:Int)<a.length),Ej ag,Ej aJ,a8.gn,a8.hx,xaw lP,RA,ee,aO,aG,sY,b0 (bt:=false) (i:=i) (by omega)]) (by
  simp only[Dn,go_sem,Ei,yF ((a.length:Int)<a.length)]) n (by omega)
 have bE:(J ((0:Nat):Int))=J 0:=rfl;rw[bE]at h;cases bn:dS iH a b<;>simp only[bn,xaC,xaD,xas]at h<;>simp only[z8,TE,go_sem,Ei,oB,aq,xbg,h]
theorem ayQ{vs ws:List V}(a3:vs.length<=1000)(aq:vs.length=ws.length)(bc b9 cL c9 di dD eJ e8 gb gK hl hn ho h7:D):bq (Dp n) n [J 0,bp vs,bc,b9,cL,c9,di,dD,eJ,bp ws,e8,gb,gK,hl,hn,ho,h7]=some (if dS oz vs ws=true then .inl [bp vs,bc,b9,cL,c9,di,dD,eJ,bp ws,e8,gb,gK,hl,hn,ho,h7]else .inr (ax false)):=by
 have h:=AU oz vs ws aq (f:=Dp n) (λi=>[J (i:Int),bp vs,bc,b9,cL,c9,di,dD,eJ,bp ws,e8,gb,gK,hl,hn,ho,h7]) [bp vs,bc,b9,cL,c9,di,dD,eJ,bp ws,e8,gb,gK,hl,hn,ho,h7] (λi x y ag aJ ah=>by
  have he:=afR x y;cases bj:oz x y;.rw[bj]at he;simp only[Dp,go_sem,fO,yT ((i:Int)<vs.length),hz ag,hz aJ,(V.pc x).1,(V.pc y).1,he]
  .rw[bj]at he;simp only[Dp,go_sem,fO,yT ((i:Int)<vs.length),hz ag,hz aJ,(V.pc x).1,(V.pc y).1,he,b0 (bt:=false) (i:=i) (by omega)]) (by
  simp only[Dp,go_sem,fO,yF ((vs.length:Int)<vs.length)]) n (by omega)
 exact h
theorem ayR{u w:Bool}{a b:List cz}(aE:VL a)(aj:VL b)(aq:a.length=b.length)(ao bc b9 cL c9 di dD et e8 gb gK hl hn ho:D):bq (z9 n) n [J 0,ao,bc,b9,cL,c9,di,dD,mi u a,et,e8,gb,gK,hl,hn,ho,mi w b]=some (if dS ua a b=true then .inl [ao,bc,b9,cL,c9,di,dD,mi u a,et,e8,gb,gK,hl,hn,ho,mi w b]else .inr (ax false)):=by
 have k8:=aE.1;have h:=AU ua a b aq (f:=z9 n) (λi=>[J (i:Int),ao,bc,b9,cL,c9,di,dD,mi u a,et,e8,gb,gK,hl,hn,ho,mi w b]) [ao,bc,b9,cL,c9,di,dD,mi u a,et,e8,gb,gK,hl,hn,ho,mi w b] (λi x y ag aJ ah=>by
  obtain⟨dy,dg⟩:=aE.2 x (xab ag);obtain⟨bz,bA⟩:=aj.2 y (xab aJ);have aG:=Uu n x.f y.f (by omega) dy bz;by_cases lP:x.name=y.name
  case neg=>
   have bj:ua x y=false:=by simp[ua,lP]
   simp only[z9,go_sem,xN,yT ((i:Int)<a.length),Ek ag,Ek aJ,cz.gn,xaF lP,en,mC,ee,xbO,bj]
  cases bj:xv x.f y.f
  .have sY:ua x y=false:=by simp[ua,bj]
   rw[bj]at aG;simp only[z9,go_sem,xN,yT ((i:Int)<a.length),Ek ag,Ek aJ,cz.gn,cz.hx,xaw lP,en,mC,ee,aG,sY]
  .have sY:ua x y=true:=by simp[ua,bj,lP]
   rw[bj]at aG;simp only[z9,go_sem,xN,yT ((i:Int)<a.length),Ek ag,Ek aJ,cz.gn,cz.hx,xaw lP,en,mC,ee,aG,sY,b0 (bt:=false) (i:=i) (by omega)]) (by
  simp only[z9,go_sem,xN,yF ((a.length:Int)<a.length)]) n (by omega)
 exact h
theorem gv.nH(m:gv):a6 8 m.d=true:=by simp only[gv.d,LM,VJ,VK];rfl
theorem afT{a b:gv}(aE:ub a)(aj:ub b):qI n [a.d,b.d]=some (ax (El a b)):=by
 have aW:=gv.nH aN a;have a2:=gv.nH aN b;have cs:∀m:gv,ad m.d 0=bp m.vs/\ad m.d 1=oA m.xC m.aQ/\ad m.d 2=aA m.i/\ad m.d 3=aA m.bS/\ad m.d 4=aR m.nx/\ad m.d 5=aA m.t/\ad m.d 6=aA m.f/\ad m.d 7=mi m.JL m.fj:=λm=>⟨rfl,rfl,rfl,rfl,rfl,rfl,rfl,rfl⟩;obtain⟨a7,bU,bY,cv,dm,eu,ew,fD⟩:=cs a;obtain⟨d0,d1,d2,d3,d4,d5,d6,d7⟩:=cs b;unfold El;by_cases a3:a.vs.length=b.vs.length
 case neg=>simp only[qI,Dq,aW,a2,a7,d0,go_sem,fO,oB,a3,xbF,en,mC,ee,xbO,Bool.not_false,xbq]
 by_cases aG:a.fj.length=b.fj.length
 case neg=>simp only[qI,Dq,aW,a2,a7,d0,fD,d7,go_sem,fO,xN,oB,a3,aG,xbF,xbg,en,mC,ee,xbO,Bool.not_false,xbq,Bool.and_false]
 have qR:=λbc b9 cL c9 di dD eJ e8 gb gK hl hn ho h7=>ayQ aN aE.v a3 bc b9 cL c9 di dD eJ e8 gb gK hl hn ho h7;have O0:=λao bc b9 cL c9 di dD et e8 gb gK hl hn ho=>ayR aN (u:=a.JL) (w:=b.JL) aE.s aj.s aG ao bc b9 cL c9 di dD et e8 gb gK hl hn ho;have t1:=afS aN (u:=a.xC) (w:=b.xC) aE.d aj.d;have t2:=afS aN (u:=false) (w:=false) aE.n aj.n;rw[VI,VI]at t2;have t3:=JM aN aE.i aj.i;have t4:=JM aN aE.bS aj.bS;have t5:=JM aN aE.t aj.t;have t6:=JM aN aE.f aj.f;cases ic:dS oz a.vs b.vs
 .simp only[ic,xaD,xas]at qR;simp only[qI,Dq,aW,a2,a7,bU,bY,cv,dm,eu,ew,fD,d0,d1,d2,d3,d4,d5,d6,d7,go_sem,fO,xN,oB,a3,aG,xbg,en,mC,ee,qR,xbq,Bool.and_false]
 simp only[ic,xaC]at qR;cases pq:dS ua a.fj b.fj;.simp only[pq,xaD,xas]at O0;simp only[qI,Dq,aW,a2,a7,bU,bY,cv,dm,eu,ew,fD,d0,d1,d2,d3,d4,d5,d6,d7,go_sem,fO,xN,oB,a3,aG,xbg,en,mC,ee,qR,O0,xbq,Bool.and_false]
 simp only[pq,xaC]at O0;cases Nj:dS iH a.aQ b.aQ<;>cases Nk:dS iH a.nx b.nx<;>cases VM:dS eV a.i b.i<;>cases VN:dS eV a.bS b.bS<;>cases VO:dS eV a.t b.t<;>cases VP:dS eV a.f b.f<;>
  simp only[Nj,Nk,VM,VN,VO,VP]at t1 t2 t3 t4 t5 t6<;>
  simp only[qI,Dq,aW,a2,a7,bU,bY,cv,dm,eu,ew,fD,d0,d1,d2,d3,d4,d5,d6,d7,go_sem,fO,xN,oB,a3,aG,xbg,en,mC,ee,qR,O0,t1,t2,t3,t4,t5,t6,xbq,Bool.and_false]
end
set_option maxHeartbeats 4000000 in
theorem ayS(n:Nat):Af (n+300) []=some (ax true):=by kernel_rfl
def ayT(n:Nat)(l:List bg)(aN:l.length<n):∃b,y1 n [bu l]=some (ax b)/\(b=true->l.length<=20):=by
 have key:=kx (f:=B7 n) (S:=Nat) (λi=>[bu l,J (i:Int)]) (λi=>l.length-i) (λi=>i<=l.length) (λr=>r= .inl [bu l]\/r= .inr (ax false)) ?_ n 0 (xai _) (by omega)
 .obtain⟨r,ab,af⟩:=key;have bE:(J ((0:Nat):Int))=J 0:=rfl;rw[bE]at ab;rcases af with rfl|rfl
  .exact⟨decide ((l.length:Int)<=20),by simp only[y1,R1,go_sem,ab,iO],λh=>by have:=xba h;omega⟩
  exact⟨false,by simp only[y1,R1,go_sem,ab],λh=>by cases h⟩
 intro i ah;by_cases ab:i<l.length
 .by_cases af:i<30
  .have ag:=xaa ab;have BC:∀s:ByteArray,nZ (aC s)=some (J s.size):=λ_=>rfl;by_cases aw:((l[i].size:Int)>60)
   .right;refine⟨_,?_,.inr rfl⟩;simp only[B7,go_sem,iO,yT ((i:Int)<l.length),yT ((i:Int)<30),en,ee,lg ag,eK,BC,xaw aw]
   left;refine⟨i+1,?_,ab,by omega⟩;simp only[B7,go_sem,iO,yT ((i:Int)<l.length),yT ((i:Int)<30),en,ee,lg ag,eK,BC,xaF aw,b0 (bt:=false) (i:=i) (by omega)]
  right;refine⟨_,?_,.inl rfl⟩;simp only[B7,go_sem,iO,yT ((i:Int)<l.length),yF ((i:Int)<30),en,ee]
 right;refine⟨_,?_,.inl rfl⟩;simp only[B7,go_sem,iO,yF ((i:Int)<l.length),en,mC,ee,xas]
def afU:D:= .agg [eU,eU,eU,eU,eU,eU,eU,eU]
noncomputable def ni(m:aB):gv:=⟨m.vars,true,[],m.bG.map (cU m.aH),m.bI.map (cU m.aH),m.next.map (g2 m.aH),m.trans.map (cU m.aH),m.bM.map (cU m.aH),false,m.bH.map (si m.aH)⟩
noncomputable def JN(m:aB):gv:=⟨m.vars,true,[],m.bG.map (ey m.aH),m.bI.map (ey m.aH),m.next.map (lS m.aH),m.trans.map (ey m.aH),m.bM.map (ey m.aH),false,m.bH.map (tU m.aH)⟩
theorem JO(m:aB):(ni m).d=Ok m:=rfl
theorem afV(m:aB):(JN m).d=hV m:=rfl
theorem gv.eta(m:gv):D.agg [ad m.d 0,ad m.d 1,ad m.d 2,ad m.d 3,ad m.d 4,ad m.d 5,ad m.d 6,ad m.d 7]=m.d:=rfl
theorem aB.xO(m:aB):D.agg [ad m.d 0,ad m.d 1,ad m.d 2,ad m.d 3,ad m.d 4,ad m.d 5,ad m.d 6,ad m.d 7]=m.d:=rfl
theorem gv.vQ(m:gv):a6 8 m.d=true:=by simp only[gv.d,LM,VJ,VK];rfl
theorem gv.ayU(m:gv):((ad m.d 0).one&&((ad m.d 1).one&&((ad m.d 2).one&&((ad m.d 3).one&&((ad m.d 4).one&&((ad m.d 5).one&&((ad m.d 6).one&&(ad m.d 7).one)))))))=true:=by show((bp m.vs).one&&((oA m.xC m.aQ).one&&((aA m.i).one&&((aA m.bS).one&&((aR m.nx).one&&((aA m.t).one&&((aA m.f).one&&(mi m.JL m.fj).one)))))))=true;rw[VJ,VK];rfl
theorem ayV:a6 8 afU=true:=rfl
def O1(a b:Int):a6 2 (.agg [J a,J b])=true:=by simp
structure qY(m:aB)(n:Nat):Prop where
 ok:Aw m n
 fj:∀s∈m.bH,s.f.bl<=2000
 hU:18446744073709551616<n
theorem O2(p:Int×(Int×Int)):eS p= .aZ [.agg [J p.1,J p.2.1],J p.2.2]:=rfl
def Ba{m:aB}{n:Nat}(h:qY m n):tI n [m.d]=some (.aZ (if(kR m).2.2=0 then[Ok m,ax true]else[afU,ax false])):=by
 have an:=aeG h.ok;rw[O2]at an;by_cases bn:(kR m).2.2=0;.have bm:pk m n:=⟨h.ok,nJ.1 bn⟩;have h2:=awH (OZ bm h.fj) n (by have:=h.hU;omega);rw[<-JO]at h2⊢;have g:=gv.vQ (ni m);have AK:((0:Int) !=0)=false:=rfl;have ic:((0:Int)==0)=true:=rfl;rw[xad bn];rw[bn]at an;simp only[tI,TI,aB.agg,aB.xO,go_sem,an,O1,AK,h2,gv.eta,g,ic,gv.ayU]
 have pn:((kR m).2.2 !=0)=true:=by simp[bn]
 rw[xac bn];simp only[tI,TI,aB.agg,aB.xO,go_sem,an,O1,pn];rfl
def afW(l:List a8)(t:Tm):ez (cU l t)=ez (ey l t):=by unfold cU ey;rw[AT qO,AT NL]
def VQ(m:aB):kY (m.bG.map (cU m.aH)) (m.bI.map (cU m.aH)) (m.next.map (g2 m.aH)) (m.trans.map (cU m.aH)) (m.bM.map (cU m.aH))=kY (m.bG.map (ey m.aH)) (m.bI.map (ey m.aH)) (m.next.map (lS m.aH)) (m.trans.map (ey m.aH)) (m.bM.map (ey m.aH)):=by
 have e:(ez∘cU m.aH)=(ez∘ey m.aH):=funext λt=>afW m.aH t;have aX:((λd:a8=>d.name::ez d.e)∘g2 m.aH)=((λd:a8=>d.name::ez d.e)∘lS m.aH):=funext λd=>by simp only[Function.comp,g2,lS,afW]
 simp only[kY,List.map_append,List.map_map,e,aX]
def ss(m:gv)(K:List bg):gv:=⟨m.vs.filter λv=>dC K v.name,true,[],m.i.filter λt=>hW K t,m.bS.filter λt=>hW K t,m.nx.filter λd=>dC K d.name,m.t.filter λt=>hW K t,m.f.filter λt=>hW K t,true,[]⟩
structure qf(m:aB)(n:Nat)(hJ kz:D)(l K K':List bg):Prop where
 a:vg n [Ok m,hJ]=some (bu K)
 b:TB n [hV m,kz]=some (bu K')
 k:K.length<=100
 br:K'.length<=100
 O3:hP K
 own:K'.Nodup
 mem:∀x,x∈K↔x∈K'
 vars:∀x,x∈K->x∈m.vars.map V.name
 row:∀r∈kY (m.bG.map (cU m.aH)) (m.bI.map (cU m.aH)) (m.next.map (g2 m.aH)) (m.trans.map (cU m.aH)) (m.bM.map (cU m.aH)),∀x∈r,∀y∈r,x∈K->y∈K
 ask:∀x,x∈l->x∈m.vars.map V.name->x∈K
 min:∀C:bg->Prop,AO (kY (m.bG.map (cU m.aH)) (m.bI.map (cU m.aH)) (m.next.map (g2 m.aH)) (m.trans.map (cU m.aH)) (m.bM.map (cU m.aH))) C->(∀x∈l,x∈m.vars.map V.name->C x)->∀x∈K,C x
def JP{m:aB}{n:Nat}(h:qY m n)(bn:(kR m).2.2=0)(Jx gZ:Bool)(l:List bg)(aq:l.length<100000000):∃K K',qf m n (gq Jx l) (gq gZ l) l K K':=by
 have bm:pk m n:=⟨h.ok,nJ.1 bn⟩;have k9:=afH bm.fr.v;have ayW:=OY bm;have O4:=VH bm;have afX:=h.hU;have vE:=h.ok.bl.nG;obtain⟨rep,K,ao,bc,b9,cL,c9,di⟩:=ayj ayW k9 (dd:=eU) rfl (m.bH.map (si m.aH)) n (by omega) Jx l (by omega);have eO:=ayI O4 k9 (dd:=eU) rfl (m.bH.map (tU m.aH)) n (by omega) gZ l aq;have mT:=bc;have afY:=b9
 rw[VQ]at mT afY;have im:=ayH O4 k9 l mT afY;have jE:=ayF O4 k9 l;have gY:=ayG O4 k9 l;have hm:∀x,x∈K↔x∈Eg m.vars (m.bG.map (ey m.aH)) (m.bI.map (ey m.aH)) (m.next.map (lS m.aH)) (m.trans.map (ey m.aH)) (m.bM.map (ey m.aH)) l:=λx=>by rw[di,im]
 have b2:=AP jE.1 jE.2;rw[xaS]at b2;refine⟨K,_,ao,eO,by omega,by omega,cL,jE.1,hm,λx ag=>((di x).1 ag).1,?_,?_,?_⟩;.intro r av x ag y aJ ed;rw[VQ]at av;obtain⟨q,bz,bA⟩:=JI.1 r av;exact(hm y).2 (gY q bz x ((bA x).1 ag) y ((bA y).1 aJ) ((hm x).1 ed))
 .intro x ag a3;exact(di x).2 ⟨a3,x,ag,a3,rfl⟩
 intro C cf ar x ag;obtain⟨ab,a,af,aw,a4⟩:=(di x).1 ag;exact bc C cf a x aw ab a4 (ar a af aw)
section
variable{m:aB}{n:Nat}{hJ kz:D}{l K K':List bg}(c:qf m n hJ kz l K K')
include c
end
def VR{f g:Tm->Tm}(ba:p4 f)(b5:p4 g)(t:Tm):eV (f t) (g t)=true:=by
 refine Tm.ind (P:=λt=>eV (f t) (g t)=true) ?_ t;intro t ih;have key:∀(l:List Tm),(∀x∈l,eV (f x) (g x)=true)->lf (l.map f) (l.map g)=true:=by
  intro l
  induction l with
  |nil=>intro _;rfl
  |cons a r AS=>intro h;rw[xaz,xaz,lf,h a (by simp),AS λx ag=>h x (by simp[ag])];rfl
 rw[DC,ba.op,b5.op,ba.num,b5.num,ba.name,b5.name,ba.aU,b5.aU,key t.aU ih];simp
def afZ(l:List a8)(t:Tm):eV (cU l t) (ey l t)=true:=VR qO NL _
def VS(v:V):oz v v=true:=by simp[oz]
def af0{α β dY:Type}{p:β->dY->Bool}{f:α->β}{g:α->dY}{u:β->Bool}{w:dY->Bool}:∀{l:List α},(∀x∈l,u (f x)=w (g x))->(∀x∈l,p (f x) (g x)=true)->dS p ((l.map f).filter u) ((l.map g).filter w)=true
 |[],_,_=>rfl
 |x::l,h,af=>by
  have ag:=h x (by simp);have ih:=af0 (l:=l) (u:=u) (w:=w) (λy aJ=>h y (xbI _ aJ)) λy aJ=>af y (xbI _ aJ);rw[xaz,xaz,xaY,xaY,<-ag];cases bj:u (f x)
  .exact ih
  simp only[xaC,dS,af x (by simp),ih,Bool.and_self]
def JQ{α:Type}(p:α->Bool)(l:List α):(l.filter p).length<=l.length:=List.length_filter_le p l
def kg.filter{l:List Tm}(h:kg l)(p:Tm->Bool):kg (l.filter p):=⟨xbh (JQ p l) h.1,λt aL=>h.2 t (xaN.1 aL).1⟩
def qX.filter{l:List a8}(h:qX l)(p:a8->Bool):qX (l.filter p):=⟨xbh (JQ p l) h.1,λt aL=>h.2 t (xaN.1 aL).1⟩
def ayX{m:gv}(h:ub m)(K:List bg):ub (ss m K):=⟨xbh (JQ _ _) h.v,⟨by simp[ss],by simp[ss]⟩,h.i.filter _,h.bS.filter _,h.n.filter _,h.t.filter _,h.f.filter _,⟨by simp[ss],by simp[ss]⟩⟩
section
variable{m:aB}{n:Nat}(h:qY m n)(bn:(kR m).2.2=0)
include h bn
theorem ayY:ub (ni m):=by have bm:pk m n:=⟨h.ok,nJ.1 bn⟩;have f:=OY bm;have aG:=(OZ bm h.fj).s;refine⟨f.a3,⟨by simp[ni],by simp[ni]⟩,f.ah,f.tZ,f.lW,f.aL,f.ba,?_⟩;refine⟨by have:=h.ok.bH.1;simp only[ni,xaS];omega,λs sj=>?_⟩;obtain⟨z,ic,rfl⟩:=xap.1 sj;have q:=aG z ic;exact⟨q.ao,by have:=q.s1;simp only[si];omega⟩
theorem ayZ:ub (JN m):=by have bm:pk m n:=⟨h.ok,nJ.1 bn⟩;have f:=VH bm;have aG:=(OZ bm h.fj).s;refine⟨f.a3,⟨by simp[JN],by simp[JN]⟩,f.ah,f.tZ,f.lW,f.aL,f.ba,?_⟩;refine⟨by have:=h.ok.bH.1;simp only[JN,xaS];omega,λs sj=>?_⟩;obtain⟨z,ic,rfl⟩:=xap.1 sj;have q:=aG z ic;exact⟨q.bc,by have:=q.s2;simp only[tU];omega⟩
end
section
variable{m:aB}{n:Nat}(h:qY m n)
include h
theorem ay0{hJ kz:D}{l K K':List bg}(bn:(kR m).2.2=0)(c:qf m n hJ kz l K K'):Ae n [m.d,hJ]=some (.aZ [(ss (ni m) K).d,J 0]):=by have bm:pk m n:=⟨h.ok,nJ.1 bn⟩;have h2:=Ba h;rw[xad bn,<-JO]at h2;have ak:=c.k;have an:vi n [(ni m).d,hJ]=some (ss (ni m) K).d:=afw (OY bm) (dd:=eU) rfl (m.bH.map (si m.aH)) n (by have:=h.hU;omega) hJ c.a (by omega);have aW:=gv.vQ (ni m);have a2:=gv.vQ (ss (ni m) K);simp only[Ae,abt,aB.agg,aB.xO,go_sem,h2,aW,gv.eta,an,a2]
theorem af1{hJ kz:D}{l K K':List bg}(bn:(kR m).2.2=0)(c:qf m n hJ kz l K K'):pY n [m.d,hJ]=some (bu K):=by have h2:=Ba h;rw[xad bn,<-JO]at h2;have an:=c.a;rw[<-JO]at an;have aW:=gv.vQ (ni m);simp only[pY,TJ,aB.agg,aB.xO,go_sem,h2,aW,gv.eta,an]
theorem ay1{L:D}(bn:¬(kR m).2.2=0):pY n [m.d,L]=some eU:=by have h2:=Ba h;rw[xac bn]at h2;simp only[pY,TJ,aB.agg,aB.xO,go_sem,h2,ayV]
end
def ay2(n:Nat)(a b:Bool)(l:List ByteArray)(aN:l.length+5<n)(aj:l.length<100000000):vj n [gq a l,gq b l]=some (ax true):=by
 have aq:=dJ (f:=MM n) l (λi (_:Unit)=>[gq a l,gq b l,J (i:Int)]) (λ_ _=>(.inl []:List D⊕D)) (λ_ _=>True) (λp _=>by simp only[MM,go_sem,js,yF ((l.length:Int)<(l.length:Int))]) ?_ n 0 () trivial (by omega) (xai _);.have bE:(J ((0:Nat):Int))=J 0:=rfl;rw[bE]at aq;simp only[vj,aaL,go_sem,js,bne_self_eq_false,aq]
 intro i x p ag ah _;left;refine⟨(),?_,rfl,trivial⟩;simp only[MM,go_sem,js,yT ((i:Int)<(l.length:Int)),o7 ag,eK,xbg,b0 (bt:=false) (i:=i) (by omega)]
def ay3(n:Nat)(l:List ByteArray)(aN:l.length+5<n)(aj:l.length<100000000):vj n [bu l,bu l]=some (ax true):=by rw[<-Al];exact ay2 n false false l aN aj
def ay4{m:aB}{n:Nat}(hw:vI m)(h:Ve m)(aN:18446744073709551616<n):qY m n:=⟨awP hw h aN,λs aG=>by have:=h.s s aG;omega,aN⟩
def ay5{d:D}(h:BQ RQ d):∃l:List bg,d=bu l/\l.length*16<=140737488351232:=by
 obtain⟨es,rfl,ab,af⟩:=alV h;obtain⟨l,rfl,aq⟩:=qy (λs=>[aC s]) (λ_=>True) es λx ag=>by obtain⟨b,aj,_⟩:=FQ (af x ag);exact⟨b,aj,trivial⟩
 exact⟨l,rfl,by simpa using ab⟩
def O5{α:Type}(f:α->Nat):∀l:List α,∃S,∀x∈l,f x<=S
 |[]=>⟨0,by simp⟩|a::r=>by obtain⟨S,h⟩:=O5 f r;exact⟨S+f a,λx ag=>by rcases xal.1 ag with rfl|ag;omega;have:=h x ag;omega⟩
def ay6(m:aB):∃N,∀n,N<=n->18446744073709551616<n/\Om m n:=by
 obtain⟨A,ds⟩:=O5 (λd:a8=>d.e.bl) m.aH;obtain⟨B,gL⟩:=O5 (λd:a8=>d.e.bl) m.next
 obtain⟨C,cf⟩:=O5 (λd:cz=>d.f.bl) m.bH;exact⟨18446744073709551617+30+A+B+C+Tm.dP m.bG+Tm.dP m.bI+Tm.dP m.trans+Tm.dP m.bM,λn aN=>⟨by omega,by omega,by omega,by omega,by omega,λd ay=>by have:=ds d ay;omega,λd ay=>by have:=gL d ay;omega,λd ay=>by have:=cf d ay;omega⟩⟩
section
variable{n:Nat}(aN:1000000000<n)
include aN
theorem ay7{vs ws:List V}(a3:vs.length<=1000):CR n [bp vs,bp ws]=some (ax (dS oz vs ws)):=by
 by_cases aq:vs.length=ws.length
 case neg=>simp only[CR,S4,go_sem,fO,oB,aq,xbF,JK aq]
 have h:=AU oz vs ws aq (f:=HC n) (λi=>[bp vs,bp ws,J vs.length,J (i:Int)]) [] (λi x y ag aJ ah=>by
  have he:=afR x y;cases bj:oz x y;.rw[bj]at he;simp only[HC,go_sem,yT ((i:Int)<vs.length),hz ag,hz aJ,(V.pc x).1,(V.pc y).1,he]
  .rw[bj]at he;simp only[HC,go_sem,yT ((i:Int)<vs.length),hz ag,hz aJ,(V.pc x).1,(V.pc y).1,he,b0 (bt:=false) (i:=i) (by omega)]) (by
  simp only[HC,go_sem,yF ((vs.length:Int)<vs.length)]) n (by omega)
 have bE:(J ((0:Nat):Int))=J 0:=rfl;rw[bE,aq]at h;cases bn:dS oz vs ws<;>simp only[bn,xaC,xaD,xas]at h<;>simp only[CR,S4,go_sem,fO,oB,aq,xbg,h]
theorem O6{a b:List Tm}(aE:kg a)(aj:kg b):vk n [aA a,aA b]=some (ax (dS eV a b)):=by
 have ba:rA B0 (D.val (.func (.func B0) #[] #[]))=true:=by simp[rA]
 by_cases aq:a.length=b.length
 case neg=>simp only[vk,S6,CT,MO,ba,go_sem,hT,oB,aq,xbF,JK aq]
 have k8:=aE.1;have h:=AU eV a b aq (f:=HH n) (λi=>[aA b,aA a,J a.length,J (i:Int)]) [] (λi x y ag aJ ah=>by
  obtain⟨dy,dg⟩:=aE.2 x (xab ag);obtain⟨bz,bA⟩:=aj.2 y (xab aJ);have aG:=Uw n x y (by omega) dy bz;cases bj:eV x y
  .rw[bj]at aG;simp only[HH,go_sem,yT ((i:Int)<a.length),nF ag,nF aJ,aG]
  .rw[bj]at aG;simp only[HH,go_sem,yT ((i:Int)<a.length),nF ag,nF aJ,aG,b0 (bt:=false) (i:=i) (by omega)]) (by
  simp only[HH,go_sem,yF ((a.length:Int)<a.length)]) n (by omega)
 have bE:(J ((0:Nat):Int))=J 0:=rfl;rw[bE,aq]at h;cases bn:dS eV a b<;>simp only[bn,xaC,xaD,xas]at h<;>simp only[vk,S6,CT,MO,ba,go_sem,hT,oB,aq,xbg,h]
theorem ay8{a b:List a8}(aE:qX a)(aj:qX b):zK n [aR a,aR b,D.val (.func (.func yU) #[] #[])]=some (ax (dS iH a b)):=by
 have ba:rA yU (D.val (.func (.func yU) #[] #[]))=true:=by simp[rA]
 by_cases aq:a.length=b.length
 case neg=>simp only[zK,MN,ba,go_sem,ef,oB,aq,xbF,JK aq]
 have k8:=aE.1;have h:=AU iH a b aq (f:=HG n) (λi=>[aR b,aR a,J a.length,J (i:Int)]) [] (λi x y ag aJ ah=>by
  obtain⟨dy,dg⟩:=aE.2 x (xab ag);obtain⟨bz,bA⟩:=aj.2 y (xab aJ);have aG:=Uw n x.e y.e (by omega) dy bz;have xL:∀v:a8,D.agg [aC v.name,J v.e.op,J v.e.num,aC v.e.name,cr 4 v.e.nl (Tm.rows v.e.aU)]=v.d:=λ_=>rfl;have ds:CS n [x.d,y.d]=some (ax (iH x y)):=by
   unfold iH;by_cases lP:x.name=y.name;.simp only[CS,S5,go_sem,a8.agg,a8.a7,a8.bU,a8.bY,a8.cv,a8.dm,xaw lP,en,ee,aG]
   simp only[CS,S5,go_sem,a8.agg,a8.a7,a8.bU,a8.bY,a8.cv,a8.dm,xaF lP,en,mC,ee,xbq]
  cases bj:iH x y;.rw[bj]at ds;simp only[HG,go_sem,yT ((i:Int)<a.length),fo ag,fo aJ,a8.BZ,a8.agg,a8.a7,a8.bU,a8.bY,a8.cv,a8.dm,xL,ds]
  .rw[bj]at ds;simp only[HG,go_sem,yT ((i:Int)<a.length),fo ag,fo aJ,a8.BZ,a8.agg,a8.a7,a8.bU,a8.bY,a8.cv,a8.dm,xL,ds,b0 (bt:=false) (i:=i) (by omega)]) (by
  simp only[HG,go_sem,yF ((a.length:Int)<a.length)]) n (by omega)
 have bE:(J ((0:Nat):Int))=J 0:=rfl;rw[bE,aq]at h;cases bn:dS iH a b<;>simp only[bn,xaC,xaD,xas]at h<;>simp only[zK,MN,ba,go_sem,ef,oB,aq,xbg,h]
def Em(a b:gv):Bool:=dS oz a.vs b.vs&&(dS iH a.nx b.nx&&(dS eV a.i b.i&&(dS eV a.bS b.bS&&(dS eV a.t b.t&&dS eV a.f b.f))))
theorem ay9{a b:gv}(aE:ub a)(aj:ub b):HI n [a.d,b.d]=some (ax (Em a b)):=by
 have aW:=gv.vQ a;have a2:=gv.vQ b;have cs:∀m:gv,ad m.d 0=bp m.vs/\ad m.d 2=aA m.i/\ad m.d 3=aA m.bS/\ad m.d 4=aR m.nx/\ad m.d 5=aA m.t/\ad m.d 6=aA m.f:=λm=>⟨rfl,rfl,rfl,rfl,rfl,rfl⟩;obtain⟨a7,bY,cv,dm,eu,ew⟩:=cs a;obtain⟨d0,d2,d3,d4,d5,d6⟩:=cs b;have t1:=ay7 aN (vs:=a.vs) (ws:=b.vs) aE.v;have t2:=ay8 aN aE.n aj.n;have t3:=O6 aN aE.i aj.i;have t4:=O6 aN aE.bS aj.bS;have t5:=O6 aN aE.t aj.t;have t6:=O6 aN aE.f aj.f;unfold Em;cases Nj:dS oz a.vs b.vs<;>cases Nk:dS iH a.nx b.nx<;>cases VM:dS eV a.i b.i<;>cases VN:dS eV a.bS b.bS<;>cases VO:dS eV a.t b.t<;>cases VP:dS eV a.f b.f<;>
  simp only[Nj,Nk,VM,VN,VO,VP]at t1 t2 t3 t4 t5 t6<;>
  simp only[HI,aaM,aW,a2,a7,bY,cv,dm,eu,ew,d0,d2,d3,d4,d5,d6,go_sem,en,mC,ee,t1,t2,t3,t4,t5,t6,xbq,Bool.and_false]
end
def lU(m:aB):gv:=⟨m.vars,false,m.aH,m.bG,m.bI,m.next,m.trans,m.bM,false,m.bH⟩
theorem O7(m:aB):(lU m).d=m.d:=by simp only[gv.d,lU,VI,ayO];rfl
def O8{m:aB}{n:Nat}(h:qY m n)(hw:vI m):ub (lU m):=by
 have k:=h.ok;have eO:=k.bG.1;have hf:=k.bI.1;have j5:=k.next.1;have na:=k.trans.1;have pe:=k.bM.1;have qQ:=k.bH.1;have D0:=k.bl.nG;have aza:=k.bl.dl
 refine⟨by simp only[lU];omega,⟨by simp only[lU];omega,λd ay=>⟨(hw.d d ay).2,?_⟩⟩,⟨by simp only[lU];omega,λt aL=>?_⟩,⟨by simp only[lU];omega,λt aL=>?_⟩,⟨by simp only[lU];omega,λt aL=>?_⟩,⟨by simp only[lU];omega,λt aL=>?_⟩,⟨by simp only[lU];omega,λt aL=>?_⟩,⟨by simp only[lU];omega,λt aL=>?_⟩⟩;.have:=(k.bl.d.e d ay).2;omega
 .have:=k.bG.2 t aL;exact⟨this.1,by omega⟩
 .have:=k.bI.2 t aL;exact⟨this.1,by omega⟩
 .have:=k.next.2 t aL;exact⟨this.1,by omega⟩
 .have:=k.trans.2 t aL;exact⟨this.1,by omega⟩
 .have:=k.bM.2 t aL;exact⟨this.1,by omega⟩
 have:=(k.bH.2 t aL).1;exact⟨this.1,by omega⟩
def azb(n:Nat)(aN:1000000000<n)(vs:List V)(a3:vs.length<=1000)(b9 cL c9 di dD eJ et e8 gb gK hl hn ho h7 kS kT:D):bq (ID n) n [bp vs,J vs.length,J 0,b9,cL,c9,di,dD,eJ,et,e8,gb,gK,hl,hn,ho,h7,kS,kT,D.az 1 []]=some (.inl [b9,cL,c9,di,dD,eJ,et,e8,gb,gK,hl,hn,ho,h7,kS,kT,bu (vs.map V.name)]):=by
 have c5:∀l,D.az 1 (au (bu l))=bu l:=λ_=>rfl;have ds:=dJ (f:=ID n) vs (λi (o:List bg)=>[bp vs,J vs.length,J (i:Int),b9,cL,c9,di,dD,eJ,et,e8,gb,gK,hl,hn,ho,h7,kS,kT,bu o]) (λr o=>(.inl [b9,cL,c9,di,dD,eJ,et,e8,gb,gK,hl,hn,ho,h7,kS,kT,bu (o++r.map V.name)]:List D⊕D)) (λi o=>o.length=i) (λo _=>by simp only[ID,go_sem,yF ((vs.length:Int)<vs.length),c5,xbn,xaG]) ?_ n 0 [] rfl (by omega) (xai _)
 .have bE:(J ((0:Nat):Int))=J 0:=rfl;have aO:bu []= .az 1 []:=rfl;rw[bE,aO]at ds;simpa only[xao,xaK]using ds
 intro i v o ag ah aF;left;have ay:=V.pc v;have ej:dc (o.length+1) 16=true:=gG (by omega) (by omega);refine⟨o++[v.name],?_,by simp,by simp[aF]⟩;simp only[ID,go_sem,yT ((i:Int)<vs.length),hz ag,ay.1,ay.2.1,ay.2.2,so,xar,xav,xax,ej,DA,b0 (bt:=false) (i:=i) (by omega)]
def azc(n:Nat)(aN:1000000000<n)(m:aB)(a3:m.vars.length<=1000):Dr n [m.d]=some (bu (m.vars.map V.name)):=by
 have c5:∀l,D.az 1 (au (bu l))=bu l:=λ_=>rfl;have ds:=dJ (f:=M5 n) m.vars (λi (o:List bg)=>[J (i:Int),bp m.vars,ad m.d 1,ad m.d 2,ad m.d 3,ad m.d 4,ad m.d 5,ad m.d 6,ad m.d 7,bu o]) (λr o=>(.inl [bu (o++r.map V.name)]:List D⊕D)) (λi o=>o.length=i) (λo _=>by simp only[M5,go_sem,fO,yF ((m.vars.length:Int)<m.vars.length),c5,xbn,xaG]) ?_ n 0 [] rfl (by omega) (xai _)
 .have bE:(J ((0:Nat):Int))=J 0:=rfl;have aO:bu []= .az 1 []:=rfl;rw[bE,aO]at ds;simp only[xao,xaK]at ds;simp only[Dr,abn,aB.agg,aB.a7,go_sem,ds,c5]
 intro i v o ag ah aF;left;have ae:a5 false 1 0 v.cells=some (aC v.name):=rfl;have ej:dc (o.length+1) 16=true:=gG (by omega) (by omega);refine⟨o++[v.name],?_,by simp,by simp[aF]⟩;simp only[M5,go_sem,fO,yT ((i:Int)<m.vars.length),hz ag,ae,so,xar,xav,xax,ej,DA,b0 (bt:=false) (i:=i) (by omega)]
def af2:∀{h:Nat}{t X:Tm},ju [] h t X->X=t
 |0,_,_,H=>H.elim
 |h+1,t,X,H=>by
  rcases H with⟨_,i,d,_,aw,_⟩|⟨_,ks,rfl,aw,a4⟩;.simp at aw
  have e:ks=t.aU:=by
   refine xbR λj=>?_;by_cases aP:j<ks.length;.have ab:=xaa aP;have af:=xaa (show j<t.aU.length by omega);rw[ab,af,af2 (a4 j _ _ af ab)]
   rw[xbi (by omega),xbi (by omega)]
  rw[e];cases t;rfl
def VT:h6 12300 []:=⟨by simp,by simp,by omega⟩
def azd{t:Tm}(bm:t.cc)(aL:t.bl<=12300)(an:(db t 1 0).1=0):gP [] t=(t,0):=by
 have k3:=UT (US VT (by simp) t bm aL);have ak:dB [] t=[]:=atO λx _=>rfl;have av:p2 [] t=true:=by unfold p2;rw[ak];rfl
 have kd:ju [] t.bl t t:=atN t λx _=>rfl;have A:=(Ny VT 400000000 t bm aL (by omega)).2.2 _ t an av kd (by omega);obtain⟨bU,bY⟩:=Nv t 1 0 (by omega);rw[bU,an]at A;have B:=k3.a 400000000 (by omega);rw[A]at B;have ar:(gP [] t).2=0:=by have:=xaV B;simp only[D.aZ.injEq,List.cons.injEq,and_true,J,D.val.injEq,Value.int.injEq,true_and]at this;exact this.2.symm
 obtain⟨_,_,_,_,_,h,ag⟩:=k3.x ar;have:=af2 ag;exact Prod.ext this ar
def af3(vs:List V)(nx:Bool)(t:Tm):oi vs nx t=if t.op=1 then jw t.num t.num else if t.op=2 then(kq,0)else match vs.find? (λv=>decide (v.name=t.name))with|none=>(fT,12)|some v=>if t.op=4/\nx=false then(fT,24)else if v.bool then(kq,0)else jw v.lo v.ah:=by
 unfold oi;by_cases ab:t.op=1;.rw[xad ab,xad ab]
 rw[xac ab,xac ab];by_cases af:t.op=2;.rw[xad af,xad af]
 rw[xac af,xac af];cases ah:fg vs t.name with
 |none=>
  have:vs.find? (λv=>decide (v.name=t.name))=none:=by rw[xci];exact λx ag=>by have:=xbY.1 ah x ag;simpa using this
  rw[this]
 |some i=>
  obtain⟨aW,a2,bb⟩:=xbd.1 ah;have:vs.find? (λv=>decide (v.name=t.name))=some vs[i]:=by rw[List.find?_eq_some_iff_getElem];exact⟨a2,i,aW,rfl,λj aP=>by have:=bb j aP;simpa using this⟩
  simp only[this,xaa aW]
def af4{vs:List V}{K:List bg}{x:bg}(ag:x∈K):(vs.filter λv=>dC K v.name).find? (λv=>decide (v.name=x))=vs.find? λv=>decide (v.name=x):=by
 rw[List.find?_filter]
 congr 1
 funext v
 by_cases h:v.name=x;.have:dC K x=true:=jy.2 ag;simp[this,h]
 simp[h]
def aze{vs:List V}{K:List bg}{nx:Bool}(t:Tm):Valid t->(∀o x,o=3\/o=4->oe o x t->x∈K)->gA (vs.filter λv=>dC K v.name) nx t=gA vs nx t:=by
 refine Tm.ind (P:=λt=>Valid t->(∀o x,o=3\/o=4->oe o x t->x∈K)->gA (vs.filter λv=>dC K v.name) nx t=gA vs nx t) ?_ t;intro t ih a3 h;rw[xz,xz vs];by_cases a4:t.op<=4
 .rw[xad a4,xad a4,af3,af3];by_cases ab:t.op=1;.rw[xad ab,xad ab]
  by_cases af:t.op=2;.rw[xac ab,xac ab,xad af,xad af]
  have aF:=a3.op;rw[af4 (h t.op t.name (by omega) (.here t rfl rfl))]
 have key:∀(ks:List Tm),(∀k∈ks,gA (vs.filter λv=>dC K v.name) nx k=gA vs nx k)->gJ (vs.filter λv=>dC K v.name) nx ks=gJ vs nx ks:=by
  intro ks
  induction ks with
  |nil=>intro _;rfl
  |cons k r AS=>intro bO;rw[gJ,gJ,bO k (by simp),AS λx ag=>bO x (by simp[ag])]
 rw[xac a4,xac a4,key t.aU λk ak=>ih k ak (a3.gl ak) λo x aF ag=>h o x aF (.gl t k ak ag)]
def azf{t:Tm}{x:bg}:x∈ez t↔oe 3 x t\/oe 4 x t:=by unfold ez;rw[xak,Nt,Nt];simp
noncomputable def c3(m:aB)(K:List bg):aB:=⟨m.vars.filter λv=>dC K v.name,[],(m.bG.map (cU m.aH)).filter λt=>hW K t,(m.bI.map (cU m.aH)).filter λt=>hW K t,(m.next.map (g2 m.aH)).filter λd=>dC K d.name,(m.trans.map (cU m.aH)).filter λt=>hW K t,(m.bM.map (cU m.aH)).filter λt=>hW K t,[]⟩
def En{K:List bg}{t:Tm}:hW K t=true↔∀x∈ez t,x∈K:=by unfold hW;rw[xca,List.any_eq_false];simp only[Bool.not_eq_true,Bool.not_eq_false',jy]
section
variable{m:aB}{n:Nat}(h:qY m n)(bn:(kR m).2.2=0)(K:List bg)
include h bn
theorem VU{t:Tm}{nx:Bool}(aF:t.cc)(aG:t.bl<=12300)(aL:(fI m nx t).2=0):(cU m.aH t).cc/\(cU m.aH t).bl<=12300/\(db (cU m.aH t) 1 0).1=0/\(∀x∈ez (cU m.aH t),x∈m.vars.map V.name)/\((∀x∈ez (cU m.aH t),x∈K)->fI (c3 m K) nx (cU m.aH t)=fI m nx t)/\gP [] (cU m.aH t)=(cU m.aH t,0):=by
 have bm:pk m n:=⟨h.ok,nJ.1 bn⟩;obtain⟨ao,bc,b9⟩:=Eh bm afL (λ_ aT ar=>afO aT ar) aF aG aL;have ar:=Oq aL;have an:=(((h.ok.bl.I0 aF aG)).x ar).2.2.1;have mQ:(db (cU m.aH t) 1 0).1=0:=by unfold cU;rw[aec qO];exact an
 have fK:=azd ao bc mQ;refine⟨ao,bc,mQ,b9,λed=>?_,fK⟩;have aO:fI (c3 m K) nx (cU m.aH t)=oj (c3 m K).vars nx (cU m.aH t):=by unfold fI;have azg:gP (c3 m K).aH (cU m.aH t)=(cU m.aH t,0):=fK;rw[azg,xac (by simp)]
 have aX:fI m nx t=oj m.vars nx (gP m.aH t).1:=by unfold fI;rw[xac (by simpa using ar)]
 rw[aO,aX];have ak:cU m.aH t=jv (gP m.aH t).1:=rfl;have a3:Valid (cU m.aH t):=⟨1,0,mQ⟩;unfold oj;rw[mQ,an,xac (by simp),xac (by simp)];have q:=aze (vs:=m.vars) (K:=K) (nx:=nx) (cU m.aH t) a3 λo x aF ag=>ed x (azf.2 (by rcases aF with rfl|rfl;exact .inl ag;exact .inr ag));show gA (m.vars.filter λv=>dC K v.name) nx (cU m.aH t)=_;rw[q,ak,aea qO]
end
def O9{α:Type}(p:α->Bool):∀(l:List α)(i:Nat)(d:α),(l.filter p)[i]?=some d->∃j,l[j]?=some d/\p d=true/\(l.filter p).take i=(l.take j).filter p
 |[],i,d,h=>by simp at h
 |a::l,i,d,h=>by
  rw[xaY]at h;by_cases aE:p a=true;.rw[xad aE]at h;cases i with|zero=>simp at h;subst h;exact⟨0,rfl,aE,by simp⟩|succ i=>obtain⟨j,ab,af,aw⟩:=O9 p l i d (by simpa using h);refine⟨j+1,by simpa using ab,af,?_⟩;rw[xaY,xad aE,List.take_succ_cons,List.take_succ_cons,xaY,xad aE,aw]
  rw[xac aE]at h;obtain⟨j,ab,af,aw⟩:=O9 p l i d h;refine⟨j+1,by simpa using ab,af,?_⟩;rw[xaY,xac aE,List.take_succ_cons,xaY,xac aE,aw]
def af5(p:V->Bool):∀l:List V,ku (l.filter p)<=ku l
 |[]=>xan _
 |v::l=>by
  have:=af5 p l;rw[xaY];split;.simp only[ku];omega
  simp only[ku];omega
def azh{s s':List V}{v:V}(aG:∀x∈s',x∈s)(h:wA s v=0):wA s' v=0:=by
 rw[UO]at h⊢;cases ab:isName v.name with
 |false=>rw[ab]at h;simp at h
 |true=>
  rw[ab]at h;simp only[Bool.not_true,xas,xaD]at h⊢;cases af:has v.name (s.map V.name)with
  |true=>rw[af]at h;simp at h
  |false=>
   rw[af]at h;have aw:has v.name (s'.map V.name)=false:=by unfold has at af⊢;rw[List.any_eq_false]at af⊢;intro x ag;obtain⟨y,aJ,rfl⟩:=xap.1 ag;exact af y.name (xap.2 ⟨y,aG y aJ,rfl⟩)
   rw[aw];exact h
def azi{l:List V}(p:V->Bool)(h:(jO l).2=0):(jO (l.filter p)).2=0:=by rw[Qm];intro i ah;have b5:=xaa ah;obtain⟨j,ab,af,aw⟩:=O9 p l i _ b5;unfold iZ;rw[b5];simp only;rw[aw];exact azh (λx ag=>(xaN.1 ag).1) (afG h j _ ab)
def Pa{m:aB}{l:List Tm}{nx:Bool}(h:∀t∈l,lq m nx t=0):(cE (e7 m l nx) l.length 0).2=0:=by refine(xB _ _ _).2 λj _ aP=>?_;have b5:=xaa (show j<l.length by omega);simp only[e7,b5];exact h _ (xaX _)
def azj(m:aB)(i:Nat):iR m i=match m.next[i]? with
  |some d=>match m.vars.find? (λv=>decide (v.name=d.name))with|none=>12|some v=>if(da (m.next.take i) d.name).isSome=true then 6 else if((fI m false d.e).2==0&&((fI m false d.e).1.b !=v.bool))=true then 13 else(fI m false d.e).2
  |none=>0:=by
 unfold iR;cases ay:m.next[i]? with
 |none=>rfl
 |some d=>
  simp only;cases ah:fg m.vars d.name with
  |none=>
   have:m.vars.find? (λv=>decide (v.name=d.name))=none:=by rw[xci];exact λx ag=>by have:=xbY.1 ah x ag;simpa using this
   simp only[this]
  |some k=>
   obtain⟨aW,a2,bb⟩:=xbd.1 ah;have:m.vars.find? (λv=>decide (v.name=d.name))=some m.vars[k]:=by rw[List.find?_eq_some_iff_getElem];exact⟨a2,k,aW,rfl,λj aP=>by have:=bb j aP;simpa using this⟩
   simp only[this,xaa aW,xaP,xbe]
def azk{a b:List a8}{x:ByteArray}(h:∀d∈b,∃e∈a,e.name=d.name)(aE:¬(da a x).isSome=true):¬(da b x).isSome=true:=by intro aj;apply aE;unfold da at aj⊢;rw[List.findIdx?_isSome,xbr]at aj⊢;obtain⟨d,ab,af⟩:=aj;obtain⟨e,aw,a4⟩:=h d ab;exact⟨e,aw,by rw[a4];exact af⟩
section
variable{m:aB}{n:Nat}(h:qY m n)(bn:(kR m).2.2=0){K:List bg}
 (mR:∀r∈kY (m.bG.map (cU m.aH)) (m.bI.map (cU m.aH)) (m.next.map (g2 m.aH)) (m.trans.map (cU m.aH)) (m.bM.map (cU m.aH)),∀x∈r,∀y∈r,x∈K->y∈K)
include h bn
theorem AV{l:List Tm}{nx:Bool}(aq:∀t∈l,t.cc/\t.bl<=12300)(aL:∀t∈l,lq m nx t=0)(K:List bg):∀t∈(l.map (cU m.aH)).filter λt=>hW K t,∃z∈l,t=cU m.aH z/\t.cc/\t.bl<=12300/\(∀x∈ez t,x∈K)/\lq (c3 m K) nx t=0/\gP [] t=(t,0):=by intro t ab;obtain⟨af,aw⟩:=xaN.1 ab;obtain⟨z,a4,rfl⟩:=xap.1 af;have ed:=En.1 aw;obtain⟨ao,bc,b9,cL,c9,di⟩:=VU (K:=K) h bn (aq z a4).1 (aq z a4).2 (sk (aL z a4)).1;refine⟨z,a4,rfl,ao,bc,ed,?_,di⟩;have:=aL z a4;unfold lq at this⊢;rw[c9 ed];exact this
include mR
theorem JR:∀(i:Nat)(d:a8),(c3 m K).next[i]?=some d->∃z∈m.next,d=g2 m.aH z/\d.e.cc/\d.e.bl<=12300/\(∀x∈ez d.e,x∈K)/\iR (c3 m K) i=0/\gP [] d.e=(d.e,0)/\d.name∈K:=by
 intro i d ay;have f:=nJ.1 bn;obtain⟨j,ab,af,aw⟩:=O9 _ _ _ _ ay;rw[xaj]at ab;obtain⟨z,pn,rfl⟩:=xah.1 ab;have JS:=xab pn;have cJ:=(xae.1 pn).1;have cK:=(xB _ _ _).1 f.nx j (by omega) (by omega);have fN:=(Oo f.nx z JS).1;have lP:z.name∈K:=jy.1 af;have av:(g2 m.aH z).name::ez (g2 m.aH z).e∈kY (m.bG.map (cU m.aH)) (m.bI.map (cU m.aH)) (m.next.map (g2 m.aH)) (m.trans.map (cU m.aH)) (m.bM.map (cU m.aH)):=xak.2 (.inr (xap.2 ⟨g2 m.aH z,xap.2 ⟨z,JS,rfl⟩,rfl⟩));have ed:∀x∈ez (cU m.aH z.e),x∈K:=λx ag=>mR _ av z.name (by simp[g2]) x (xbI _ ag) lP;obtain⟨ao,bc,b9,cL,c9,di⟩:=VU (K:=K) h bn (h.ok.next.2 z JS).1 (h.ok.next.2 z JS).2 fN;refine⟨z,JS,rfl,ao,bc,ed,?_,di,lP⟩;rw[azj]at cK⊢;rw[pn]at cK;rw[ay];simp only at cK⊢;have ba:(c3 m K).vars.find? (λv=>decide (v.name=(g2 m.aH z).name))=m.vars.find? λv=>decide (v.name=z.name):=af4 lP;rw[ba];cases a3:m.vars.find? (λv=>decide (v.name=z.name))with
 |none=>rw[a3]at cK;exact cK
 |some v=>
  rw[a3]at cK;simp only at cK⊢;have azl:fI (c3 m K) false (g2 m.aH z).e=fI m false z.e:=c9 ed;rw[azl];by_cases bU:(da (m.next.take j) z.name).isSome=true
  .rw[xad bU]at cK;exact absurd cK (by decide)
  rw[xac bU]at cK;rw[xac];.exact cK
  refine azk (λd ay=>?_) bU;have:(c3 m K).next.take i=((m.next.map (g2 m.aH)).take j).filter λd=>dC K d.name:=aw
  rw[this]at ay;have af6:=(xaN.1 ay).1;rw[<-List.map_take]at af6;obtain⟨e,he,rfl⟩:=xap.1 af6;exact⟨e,he,rfl⟩
theorem Pb:pk (c3 m K) n/\qY (c3 m K) n/\(kR (c3 m K)).2.2=0:=by
 have f:=nJ.1 bn;have hm:=h.ok;have bz:=AV h bn hm.bG.2 (iS f.i) K;have bA:=AV h bn hm.bI.2 (iS f.bS) K;have cx:=AV h bn hm.trans.2 (iS f.t) K;have eo:=AV h bn hm.bM.2 (iS f.f) K;have fi:=JR h bn mR;have L:∀{α β:Type}(p:β->Bool)(g:α->β)(l:List α),((l.map g).filter p).length<=l.length:=λp g l=>by
  have:=JQ p (l.map g)
  rwa [xaS]at this
 have vE:=hm.bl.nG;have VV:=JQ (λv:V=>dC K v.name) m.vars;have jZ:=L (λt=>hW K t) (cU m.aH) m.bG;have kF:=L (λt=>hW K t) (cU m.aH) m.bI;have xD:=L (λt=>hW K t) (cU m.aH) m.trans;have qR:=L (λt=>hW K t) (cU m.aH) m.bM;have D1:=L (λd=>dC K d.name) (g2 m.aH) m.next
 have fr:Vg (c3 m K):=by
  refine⟨?_,azi _ f.v,?_,rfl,rfl,rfl,Pa λt aL=>?_,Pa λt aL=>?_,?_,Pa λt aL=>?_,Pa λt aL=>?_,rfl⟩;.have:=f.l;unfold nI at this⊢;simp only[List.forall_mem_cons,List.not_mem_nil,false_imp_iff,implies_true,and_true]at this⊢;obtain⟨eO,hf,j5,na,pe,qQ,D0,aza⟩:=this;exact⟨xbh VV eO,by simp[c3],xbh jZ j5,xbh kF na,xbh D1 pe,xbh xD qQ,xbh qR D0,by simp[c3]⟩
  .have:=f.b;have af:=af5 (λv:V=>dC K v.name) m.vars;show¬30<ku (m.vars.filter λv=>dC K v.name);omega
  .obtain⟨_,_,_,_,_,_,w,_⟩:=bz t aL;exact w
  .obtain⟨_,_,_,_,_,_,w,_⟩:=bA t aL;exact w
  .refine(xB _ _ _).2 λj _ aP=>?_;obtain⟨_,_,_,_,_,_,w,_⟩:=fi j _ (xaa (by omega));exact w
  .obtain⟨_,_,_,_,_,_,w,_⟩:=cx t aL;exact w
  obtain⟨_,_,_,_,_,_,w,_⟩:=eo t aL;exact w
 have bm:Aw (c3 m K) n:=by
  refine⟨⟨VT,by simp[c3],xbh VV vE⟩,hm.hU,⟨Nat.lt_of_le_of_lt VV hm.DZ.1,λv a3=>hm.DZ.2 v (xaN.1 a3).1⟩,λv a3=>hm.UY v (xaN.1 a3).1,by simp[c3],⟨xbh jZ hm.bG.1,λt aL=>?_⟩,⟨xbh kF hm.bI.1,λt aL=>?_⟩,⟨xbh D1 hm.next.1,λd ay=>?_⟩,⟨xbh xD hm.trans.1,λt aL=>?_⟩,⟨xbh qR hm.bM.1,λt aL=>?_⟩,by simp[c3]⟩;.obtain⟨_,_,_,fs,gp,_⟩:=bz t aL;exact⟨fs,gp⟩
  .obtain⟨_,_,_,fs,gp,_⟩:=bA t aL;exact⟨fs,gp⟩
  .obtain⟨i,ah⟩:=xaL.1 ay;obtain⟨_,_,_,fs,gp,_⟩:=fi i d ah;exact⟨fs,gp⟩
  .obtain⟨_,_,_,fs,gp,_⟩:=cx t aL;exact⟨fs,gp⟩
  obtain⟨_,_,_,fs,gp,_⟩:=eo t aL;exact⟨fs,gp⟩
 exact⟨⟨bm,fr⟩,⟨bm,by simp[c3],h.hU⟩,nJ.2 fr⟩
end
open Go.Proofs
set_option maxRecDepth 100000
def er.le{P:Program}{G:dt}{f:FuncId}{aQ:List D}{q r:D}(h:er P G f aQ (·=q))(aq:q.le r):er P G f aQ (·=r):=⟨h.fn,λm fr w vs c4 dV c1=>(h.run m fr w vs c4 dV c1).mono λe w' ⟨v,cF,x,ab,af,aw,a4,b6⟩=>⟨v,cF,r,ab,rfl,aw,a4,aq cF v (af▸b6)⟩⟩
def Pc(k:Nat)(x:D):D:=match x with| .val (.slice none 0 0)=> .az k []|x=>x
def af7(k:Nat)(x:D):x.le (Pc k x):=by
 unfold Pc;split;.exact D.nil_le k
 exact D.le_refl _
def VW(x:D):D:=match x with| .aZ [.agg [ae,ao,bc,b9,cL,c9,di,dD],e]=> .aZ [.agg [ae,Pc 5 ao,bc,b9,cL,c9,di,Pc 7 dD],e]|x=>x
def azm(x:D):x.le (VW x):=by
 unfold VW;split
 .refine D.agl rfl λi x y ag aJ=>?_
  match i,ag,aJ with
  |0,ag,aJ=>
   simp only[xbs,xaM]at ag aJ;subst ag;subst aJ;refine D.agk rfl λi x y ag aJ=>?_
   match i,ag,aJ with|0,ag,aJ=>simp at ag aJ;subst ag;subst aJ;exact D.le_refl _|1,ag,aJ=>simp at ag aJ;subst ag;subst aJ;exact af7 5 _|2,ag,aJ=>simp at ag aJ;subst ag;subst aJ;exact D.le_refl _|3,ag,aJ=>simp at ag aJ;subst ag;subst aJ;exact D.le_refl _|4,ag,aJ=>simp at ag aJ;subst ag;subst aJ;exact D.le_refl _|5,ag,aJ=>simp at ag aJ;subst ag;subst aJ;exact D.le_refl _|6,ag,aJ=>simp at ag aJ;subst ag;subst aJ;exact D.le_refl _|7,ag,aJ=>simp at ag aJ;subst ag;subst aJ;exact af7 7 _|i+8,ag,aJ=>simp at ag
  |1,ag,aJ=>simp at ag aJ;subst ag;subst aJ;exact D.le_refl _|i+2,ag,aJ=>simp at ag
 exact D.le_refl _
def uc(n:Nat)(aQ:List D):Option D:=(Ae n aQ).map VW
def azn(n:Nat):bw a0 a1 10 (uc n):=by intro aQ r h;obtain⟨q,bj,rfl⟩:=xah.1 h;exact(acH n aQ q bj).le (azm q)
def Eo(n:Nat)(ae:D)(ao:D):Option D:=aD (a6 8 ae)<|aa (wZ n [(D.agg [(ad ae 0),(ad ae 1),(ad ae 2),(ad ae 3),(ad ae 4),(ad ae 5),(ad ae 6),(ad ae 7)])]) λv20=>
 aa (dk .not v20) λbT=>
 aa (bL bT false (
 aa (y1 n [ao]) λdf=>
 aa (dk .not df) λcT=>
 some cT
)) λcT=>
 aa (bV bT (ax true) cT) λcN=>
 aI cN (
 aa (Af n []) λdr=>
 some dr
) (
 aa (qH n [(D.agg [(ad ae 0),(ad ae 1),(ad ae 2),(ad ae 3),(ad ae 4),(ad ae 5),(ad ae 6),(ad ae 7)])]) λv30=>
 aa (bs 0 v30) λeI=>
 aa (bs 1 v30) λdL=>
 aD (a6 2 eI)<|
 aa (ai false .neq dL (J 0)) λeQ=>
 aI eQ (
 aa (pY n [(D.agg [(ad ae 0),(ad ae 1),(ad ae 2),(ad ae 3),(ad ae 4),(ad ae 5),(ad ae 6),(ad ae 7)]),ao]) λfB=>
 aa (bD fB) λeH=>
 aa (ai false .eql eH (J 0)) λfe=>
 aa (bL fe true (
 aa (Af n []) λgd=>
 some gd
)) λgd=>
 aa (bV fe gd (ax false)) λdA=>
 some dA
) (
 aa (pY n [(D.agg [(ad ae 0),(ad ae 1),(ad ae 2),(ad ae 3),(ad ae 4),(ad ae 5),(ad ae 6),(ad ae 7)]),ao]) λdM=>
 aa (uc n [(D.agg [(ad ae 0),(ad ae 1),(ad ae 2),(ad ae 3),(ad ae 4),(ad ae 5),(ad ae 6),(ad ae 7)]),ao]) λiE=>
 aa (bs 0 iE) λdn=>
 aa (bs 1 iE) λff=>
 aD (a6 8 dn)<|
 aa (uc n [(D.agg [(ad dn 0),(ad dn 1),(ad dn 2),(ad dn 3),(ad dn 4),(ad dn 5),(ad dn 6),(ad dn 7)]),ao]) λfZ=>
 aa (bs 0 fZ) λeR=>
 aa (bs 1 fZ) λj9=>
 aD (a6 8 eR)<|
 aa (Dr n [(D.agg [(ad ae 0),(ad ae 1),(ad ae 2),(ad ae 3),(ad ae 4),(ad ae 5),(ad ae 6),(ad ae 7)])]) λnA=>
 aa (uc n [(D.agg [(ad ae 0),(ad ae 1),(ad ae 2),(ad ae 3),(ad ae 4),(ad ae 5),(ad ae 6),(ad ae 7)]),nA]) λka=>
 aa (bs 0 ka) λgI=>
 aa (bs 1 ka) λhj=>
 aD (a6 8 gI)<|
 aa (Dg n [(D.agg [(ad ae 0),(ad ae 1),(ad ae 2),(ad ae 3),(ad ae 4),(ad ae 5),(ad ae 6),(ad ae 7)])]) λgy=>
 aa (bs 0 gy) λfR=>
 aa (bs 1 gy) λgz=>
 aa (bs 2 gy) λkN=>
 aD (a6 8 fR)<|
 aD (a6 2 gz)<|
 aa (qH n [(D.agg [(ad dn 0),(ad dn 1),(ad dn 2),(ad dn 3),(ad dn 4),(ad dn 5),(ad dn 6),(ad dn 7)])]) λkO=>
 aa (bs 0 kO) λh4=>
 aa (bs 1 kO) λkK=>
 aD (a6 2 h4)<|
 aa (ai false .neq ff (J 0)) λjR=>
 aa (bL jR false (
 aa (ai false .neq j9 (J 0)) λj8=>
 some j8
)) λj8=>
 aa (bV jR (ax true) j8) λjS=>
 aa (bL jS false (
 aa (ai false .neq hj (J 0)) λg9=>
 some g9
)) λg9=>
 aa (bV jS (ax true) g9) λlb=>
 aa (bL lb false (
 aa (ai false .neq kK (J 0)) λkP=>
 some kP
)) λkP=>
 aa (bV lb (ax true) kP) λIj=>
 aa (bL Ij false (
 aa (qI n [(D.agg [(ad dn 0),(ad dn 1),(ad dn 2),(ad dn 3),(ad dn 4),(ad dn 5),(ad dn 6),(ad dn 7)]),(D.agg [(ad eR 0),(ad eR 1),(ad eR 2),(ad eR 3),(ad eR 4),(ad eR 5),(ad eR 6),(ad eR 7)])]) λvl=>
 aa (dk .not vl) λkQ=>
 some kQ
)) λkQ=>
 aa (bV Ij (ax true) kQ) λjn=>
 aa (bL jn false (
 aa (xk n [(D.agg [(ad ae 0),(ad ae 1),(ad ae 2),(ad ae 3),(ad ae 4),(ad ae 5),(ad ae 6),(ad ae 7)]),(D.agg [(ad dn 0),(ad dn 1),(ad dn 2),(ad dn 3),(ad dn 4),(ad dn 5),(ad dn 6),(ad dn 7)])]) λHO=>
 aa (dk .not HO) λjd=>
 some jd
)) λjd=>
 aa (bV jn (ax true) jd) λjT=>
 aa (bL jT false (
 aa (Ds n [dM]) λny=>
 aa (dk .not ny) λld=>
 some ld
)) λld=>
 aa (bV jT (ax true) ld) λtA=>
 aa (bL tA false (
 aa (bD dM) λqD=>
 aa (bD (ad dn 0)) λo0=>
 aa (ai false .neq qD o0) λo3=>
 some o3
)) λo3=>
 aa (bV tA (ax true) o3) λpV=>
 aI pV (
 some (ax false)
) (
 aa (Dv n [(D.agg [(ad fR 0),(ad fR 1),(ad fR 2),(ad fR 3),(ad fR 4),(ad fR 5),(ad fR 6),(ad fR 7)]),dM]) λtn=>
 aa (dk .not tn) λB6=>
 aa (bL B6 false (
 aa (pY n [(D.agg [(ad ae 0),(ad ae 1),(ad ae 2),(ad ae 3),(ad ae 4),(ad ae 5),(ad ae 6),(ad ae 7)]),dM]) λtp=>
 aa (vj n [tp,dM]) λo1=>
 aa (dk .not o1) λy0=>
 some y0
)) λy0=>
 aa (bV B6 (ax true) y0) λnz=>
 aI nz (
 some (ax false)
) (
 aa (qI n [(D.agg [(ad gI 0),(ad gI 1),(ad gI 2),(ad gI 3),(ad gI 4),(ad gI 5),(ad gI 6),(ad gI 7)]),(D.agg [(ad fR 0),(ad fR 1),(ad fR 2),(ad fR 3),(ad fR 4),(ad fR 5),(ad fR 6),(D.val (.slice none 0 0))])]) λuV=>
 aa (bL uV true (
 aa (Af n []) λzi=>
 some zi
)) λzi=>
 aa (bV uV zi (ax false)) λTl=>
 some Tl
)
)
)
)
def JT(n:Nat):List D->Option D
 |[ae,ao]=>Eo n ae ao|_=>none
def azo(n:Nat):bw a0 a1 5 (JT n):=dN (ca n [(7,wZ n),(8,y1 n),(9,Af n),(18,qH n),(13,pY n),(10,uc n),(19,Dr n),(20,Dg n),(15,qI n),(16,xk n),(21,Ds n),(22,Dv n),(12,vj n)] [] [] []) bK (bk (ao4 n) (bk (ao5 n) (bk (asR n) (bk (asr n) (bk (acI n) (bk (azn n) (bk (asH n) (bk (asx n) (bk (asG n) (bk (acJ n) (bk (asI n) (bk (asJ n) (bk (aca n) a7))))))))))))) ar bC Tryz.func5
def VX(m:aB){K K':List bg}(he:∀x,x∈K↔x∈K'):c3 m K=c3 m K':=by
 have aO:(λx=>dC K x)=λx=>dC K' x:=funext λx=>by rw[Bool.eq_iff_iff,jy,jy];exact he x
 have aX:(λt=>hW K t)=λt=>hW K' t:=funext λt=>by rw[Bool.eq_iff_iff,En,En];exact⟨λh x ag=>(he x).1 (h x ag),λh x ag=>(he x).2 (h x ag)⟩
 have bQ:∀x,dC K x=dC K' x:=λx=>congrFun aO x;unfold c3;simp only[aX,bQ]
section
variable{m:aB}{n:Nat}(h:qY m n)(bn:(kR m).2.2=0)
include h bn
theorem VY{hJ kz:D}{l K K':List bg}(c:qf m n hJ kz l K K'):uc n [m.d,hJ]=some (.aZ [(c3 m K).d,J 0]):=by unfold uc;rw[ay0 h bn c];rfl
theorem af8{hJ kz:D}{l K K':List bg}(c:qf m n hJ kz l K K')(aq:∀x∈l,x∈m.vars.map V.name) (gY:∀r∈kY (m.bG.map (cU m.aH)) (m.bI.map (cU m.aH)) (m.next.map (g2 m.aH)) (m.trans.map (cU m.aH)) (m.bM.map (cU m.aH)),∀x∈r,∀y∈r,x∈l->y∈l):∀x,x∈K↔x∈l:=λx=>⟨λag=>c.min (λy=>y∈l) gY (λy aJ _=>aJ) x ag,λag=>c.ask x ag (aq x ag)⟩
section
variable{hJ kz:D}{l K K':List bg}(c:qf m n hJ kz l K K')
include c
theorem azp:∀r∈kY (m.bG.map (cU m.aH)) (m.bI.map (cU m.aH)) (m.next.map (g2 m.aH)) (m.trans.map (cU m.aH)) (m.bM.map (cU m.aH)),(∀x∈r,x∈K)->r∈kY ((c3 m K).bG.map (cU (c3 m K).aH)) ((c3 m K).bI.map (cU (c3 m K).aH)) ((c3 m K).next.map (g2 (c3 m K).aH)) ((c3 m K).trans.map (cU (c3 m K).aH)) ((c3 m K).bM.map (cU (c3 m K).aH))\/r=[]\/∃d∈m.next.map (g2 m.aH),r=d.name::ez d.e:=by
 intro r av ed;have f:=nJ.1 bn;have hm:=h.ok;have T:∀(ts:List Tm)(nx:Bool),(∀t∈ts,t.cc/\t.bl<=12300)->(∀t∈ts,lq m nx t=0)->∀z∈ts.map (cU m.aH),ez z=r->∃u∈(((ts.map (cU m.aH)).filter λt=>hW K t).map (cU [])),ez u=r:=by intro ts nx ab af z pn he;have fK:z∈(ts.map (cU m.aH)).filter λt=>hW K t:=xaN.2 ⟨pn,En.2 (by rw[he];exact ed)⟩;obtain⟨_,_,_,_,_,_,_,w⟩:=AV h bn ab af K z fK;refine⟨cU [] z,xap.2 ⟨z,fK,rfl⟩,?_⟩;unfold cU;rw[w,AT qO,he]
 rcases xak.1 av with ab|ab
 .left;obtain⟨z,af,he⟩:=xap.1 ab;refine xak.2 (.inl (xap.2 ?_));simp only[xak]at af;rcases af with((af|af)|af)|af
  .obtain⟨u,ly,kZ⟩:=T m.bG false hm.bG.2 (iS f.i) z af he;exact⟨u,xak.2 (.inl (xak.2 (.inl (xak.2 (.inl ly))))),kZ⟩
  .obtain⟨u,ly,kZ⟩:=T m.bI false hm.bI.2 (iS f.bS) z af he;exact⟨u,xak.2 (.inl (xak.2 (.inl (xak.2 (.inr ly))))),kZ⟩
  .obtain⟨u,ly,kZ⟩:=T m.trans true hm.trans.2 (iS f.t) z af he;exact⟨u,xak.2 (.inl (xak.2 (.inr ly))),kZ⟩
  obtain⟨u,ly,kZ⟩:=T m.bM false hm.bM.2 (iS f.f) z af he;exact⟨u,xak.2 (.inr ly),kZ⟩
 obtain⟨d,d1,rfl⟩:=xap.1 ab;left;have fK:d∈(c3 m K).next:=xaN.2 ⟨d1,jy.2 (ed _ (by simp))⟩
 obtain⟨i,ah⟩:=xaL.1 fK;obtain⟨_,_,_,_,_,_,_,w,_⟩:=JR h bn c.row i d ah;refine xak.2 (.inr (xap.2 ⟨g2 [] d,xap.2 ⟨d,fK,rfl⟩,?_⟩));unfold g2 cU;simp only[w,AT qO]
theorem azq{azr azs:D}{JU af9:List bg}(bY:qf (c3 m K) n azr azs l JU af9):∀x,x∈JU↔x∈K:=by
 have m8:∀x∈JU,x∈K:=λx ag=>by obtain⟨v,a3,rfl⟩:=xap.1 (bY.vars x ag);exact jy.1 (xaN.1 a3).2
 have fK:∀x∈K,x∈(c3 m K).vars.map V.name:=λx ag=>by obtain⟨v,a3,rfl⟩:=xap.1 (c.vars x ag);exact xap.2 ⟨v,xaN.2 ⟨a3,jy.2 ag⟩,rfl⟩
 refine λx=>⟨m8 x,λag=>?_⟩;refine c.min (λy=>y∈JU) ?_ (λy aJ a3=>bY.ask y aJ (fK y (c.ask y aJ a3))) x ag;intro r av y aJ z pn ab;have gw:∀w∈r,w∈K:=λw hw=>c.row r av y aJ w hw (m8 y ab);rcases azp h bn c r av gw with af|rfl|⟨d,ay,he⟩
 .exact bY.row r af y aJ z pn ab
 .cases aJ
 have aga:d∈(c3 m K).next:=xaN.2 ⟨ay,jy.2 (gw _ (by rw[he];simp))⟩
 obtain⟨i,ah⟩:=xaL.1 aga;obtain⟨_,_,_,_,_,_,_,w,_⟩:=JR h bn c.row i d ah;refine bY.row r (xak.2 (.inr (xap.2 ⟨g2 [] d,xap.2 ⟨d,aga,rfl⟩,?_⟩))) y aJ z pn ab;unfold g2 cU;simp only[w,AT qO,he]
end
end
theorem azt{bt:Bool}{x y:ByteArray}:ai bt .geq (aC x) (aC y)=some (ax (!blt x y)):=rfl
def agb:∀{l:List bg}{i:Nat}{a b:bg},hP l->l[i]?=some a->l[i+1]?=some b->blt a b=true
 |[],i,a,b,_,h,_=>by simp at h|x::l,0,a,b,aG,h,af=>by simp at h af;subst h;exact aG.1 b (xab af)|x::l,i+1,a,b,aG,h,af=>agb (i:=i) aG.2 (by simpa using h) (by simpa using af)
def azu(n:Nat)(K:List bg)(aG:hP K)(aN:K.length+5<n)(aj:K.length<1000000000):Ds n [bu K]=some (ax true):=by
 have key:=kx (f:=M6 n) (S:=Nat) (λi=>[bu K,J (i:Int)]) (λi=>K.length+1-i) (λi=>1<=i/\i<=K.length+1) (λr=>r= .inl []) ?_ n 1 ⟨xan _,by omega⟩ (by omega);.obtain⟨r,ab,rfl⟩:=key;have aO:J ((1:Nat):Int)=J 1:=rfl;rw[aO]at ab;simp only[Ds,abo,go_sem,ab]
 rintro i ⟨ah,A0⟩;by_cases ab:i<K.length;.left;have ag:=xaa ab;have aJ:=xaa (show i-1<K.length by omega);have cu:blt K[i-1] K[i]=true:=agb (i:=i-1) aG aJ (by rw[show i-1+1=i by omega];exact ag);have aO:ai false .sub (J (i:Int)) (J 1)=some (J ((i-1:Nat):Int)):=ky (by omega) (by omega);refine⟨i+1,?_,⟨by omega,by omega⟩,by omega⟩;simp only[M6,go_sem,iO,yT ((i:Int)<K.length),aO,lg aJ,lg ag,eK,azt,cu,b0 (bt:=false) (i:=i) (by omega)]
 right;refine⟨_,?_,rfl⟩;simp only[M6,go_sem,iO,yF ((i:Int)<K.length)]
def xP(K r:List bg):Nat:=(r.filter λx=>dC K x).length
def azv{K r:List bg}(h:∀x∈r,∀y∈r,x∈K->y∈K):xP K r=0\/xP K r=r.length:=by
 unfold xP;by_cases ag:∃x∈r,x∈K;.obtain⟨x,xq,DH⟩:=ag;right;rw[List.filter_eq_self.2 λy aJ=>jy.2 (h x xq y aJ DH)]
 left;rw[List.length_eq_zero_iff,List.filter_eq_nil_iff];intro y aJ ed;exact ag ⟨y,aJ,jy.1 ed⟩
section
variable{n:Nat}{R:List (List bg)}{K:List bg}(aN:1000000000<n)(xM:R.length<=10000000)(sr:∀r∈R,r.length<=100000000)(ed:K.length<=1000)
include aN xM sr ed
theorem azw(i:Nat)(r:List bg)(av:R[i]?=some r):bq (Dt n) n [bu K,hI R,J (i:Int),J 0,J 0]=some (.inl [bu K,hI R,J (i:Int),J ((xP K r:Nat):Int)]):=by
 have ae:∀x:List bg,a5 false 1 0 [bu x]=some (bu x):=λ_=>rfl;have afF:=sr r (xab av);have ds:=dJ (f:=Dt n) r (λk (c:Nat)=>[bu K,hI R,J (i:Int),J (c:Int),J (k:Int)]) (λq c=>(.inl [bu K,hI R,J (i:Int),J ((c+xP K q:Nat):Int)]:List D⊕(List D⊕(List D⊕(List D⊕D))))) (λk c=>c<=k) (λc _=>by simp only[Dt,go_sem,vO av,ae,iO,yF ((r.length:Int)<r.length),xP,List.filter_nil,xav,xbm]) ?_ n 0 0 (xan _) (by omega) (xai _)
 .have bE:(J ((0:Nat):Int))=J 0:=rfl;rw[bE]at ds;simpa only[xao,xax]using ds
 intro k x c ag ak an;left;have vP:=OU n K x (by omega) (by omega);cases bj:dC K x with
 |true=>
  rw[bj]at vP;refine⟨c+1,?_,?_,by omega⟩;.simp only[Dt,go_sem,vO av,ae,iO,yT ((k:Int)<r.length),lg ag,eK,vP,b0 (bt:=false) (i:=k) (by omega),b0 (bt:=false) (i:=c) (by omega)]
  simp only[xP,xaY,bj,xaC,xar];rw[show c+1+(List.filter (λx=>dC K x) (r.drop (k+1))).length=c+((List.filter (λx=>dC K x) (r.drop (k+1))).length+1) by omega]
 |false=>
  rw[bj]at vP;refine⟨c,?_,?_,by omega⟩;.simp only[Dt,go_sem,vO av,ae,iO,yT ((k:Int)<r.length),lg ag,eK,vP,b0 (bt:=false) (i:=k) (by omega)]
  simp only[xP,xaY,bj,xaD,xas]
theorem azx(hw:∀r∈R,∀x∈r,∀y∈r,x∈K->y∈K):bq (Du n) n [bu K,hI R,J 0]=some (.inl []):=by
 have ae:∀x:List bg,a5 false 1 0 [bu x]=some (bu x):=λ_=>rfl;have ds:=dJ (f:=Du n) R (λk (_:Unit)=>[bu K,hI R,J (k:Int)]) (λ_ _=>(.inl []:List D⊕D)) (λ_ _=>True) (λ_ _=>by simp only[Du,go_sem,Ef,yF ((R.length:Int)<R.length)]) ?_ n 0 () trivial (by omega) (xai _)
 .exact ds
 intro k r _ av ak _;left;have xE:=azw aN xM sr ed k r av;refine⟨(),?_,rfl,trivial⟩;rcases azv (hw r (xab av))with ar|ar
 .rw[ar]at xE;have AK:(((0:Nat):Int) !=0)=false:=rfl;simp only[Du,go_sem,Ef,yT ((k:Int)<R.length),xE,AK,en,mC,ee,b0 (bt:=false) (i:=k) (by omega)]
 rw[ar]at xE;have ic:((r.length:Int) !=(r.length:Int))=false:=by simp
 cases bn:((r.length:Int) !=0)<;>simp only[Du,go_sem,Ef,yT ((k:Int)<R.length),xE,bn,vO av,ae,iO,ic,en,mC,ee,b0 (bt:=false) (i:=k) (by omega)]
end
def Ep{α:Type}{p:α->α->Bool}(aT:∀x,p x x=true):∀l:List α,dS p l l=true
 |[]=>rfl|x::l=>by rw[dS,aT x,Ep aT l];rfl
def azy(d:a8):iH d d=true:=by simp[iH,T4]
def VZ{α:Type}{p:α->α->Bool}{g:α->α}{q:α->Bool}:∀(l:List α),(∀x∈l,p x (g x)=true/\q (g x)=true)->dS p l ((l.map g).filter q)=true
 |[],_=>rfl|x::l,h=>by obtain⟨ab,af⟩:=h x (by simp);rw[xaz,xaY,xad af,dS,ab,VZ l λy aJ=>h y (xbI _ aJ)];rfl
def agc:p4 id:=⟨λ_=>rfl,λ_=>rfl,λ_=>rfl,λ_=>by simp⟩
def agd{α β dY:Type}{p:β->dY->Bool}{f:α->β}{g:α->dY}{u:β->Bool}(l:List α)(h:∀x∈l,u (f x)=true)(af:∀x∈l,p (f x) (g x)=true):dS p ((l.map f).filter u) (l.map g)=true:=by
 have:=af0 (p:=p) (f:=f) (g:=g) (u:=u) (w:=λ_=>true) (l:=l) h af;have e:(l.map g).filter (λ_=>true)=l.map g:=List.filter_eq_self.2 λ_ _=>rfl
 rwa [e]at this
def age:∀{l:List bg},hP l->l.Nodup
 |[],_=>List.nodup_nil|a::r,h=>List.nodup_cons.2 ⟨λhm=>(by have:=h.1 a hm;rw[nv]at this;cases this),age h.2⟩
section
variable{m:aB}{n:Nat}(h:qY m n)(bn:(kR m).2.2=0)(hw:vI m)
include h bn hw
theorem Pd{hJ kz:D}{l K K':List bg}(c:qf m n hJ kz l K K'):vI (c3 m K):=by
 have f:=nJ.1 bn;have hm:=h.ok;have T:∀(ts:List Tm)(nx:Bool),(∀t∈ts,t.cc/\t.bl<=12300)->(∀t∈ts,lq m nx t=0)->∀x∈(ts.map (cU m.aH)).filter λt=>hW K t,x.cc:=λts nx ab af x ag=>by obtain⟨_,_,_,w,_⟩:=AV h bn ab af K x ag;exact w
 refine⟨λx ag=>hw.v x (xaN.1 ag).1,by simp[c3],T _ false hm.bG.2 (iS f.i),T _ false hm.bI.2 (iS f.bS),λd ay=>?_,T _ true hm.trans.2 (iS f.t),T _ false hm.bM.2 (iS f.f),by simp[c3]⟩;obtain⟨i,ah⟩:=xaL.1 ay;obtain⟨z,pn,rfl,w,_⟩:=JR h bn c.row i d ah;exact⟨(hw.n z pn).1,w⟩
omit hw in
theorem azz{hJ kz:D}{l K K':List bg}(c:qf m n hJ kz l K K'):El (lU (c3 m K)) (lU (c3 (c3 m K) K))=true:=by
 have f:=nJ.1 bn;have hm:=h.ok;have ev:(c3 m K).vars.filter (λv=>dC K v.name)=(c3 m K).vars:=List.filter_eq_self.2 λv a3=>(xaN.1 a3).2;have T:∀(ts:List Tm)(nx:Bool),(∀t∈ts,t.cc/\t.bl<=12300)->(∀t∈ts,lq m nx t=0)->dS eV ((ts.map (cU m.aH)).filter λt=>hW K t) ((((ts.map (cU m.aH)).filter λt=>hW K t).map (cU [])).filter λt=>hW K t)=true:=λts nx ab af=>
  VZ _ λt aL=>by
   obtain⟨_,_,_,_,_,kc,_,w⟩:=AV h bn ab af K t aL;have e:cU [] t=jv t:=by unfold cU;rw[w]
   rw[e];exact⟨VR agc qO t,En.2 (by rw[AT qO];exact kc)⟩
 have V0:dS iH (c3 m K).next (((c3 m K).next.map (g2 [])).filter λd=>dC K d.name)=true:=VZ _ λd ay=>by
   obtain⟨i,ah⟩:=xaL.1 ay;obtain⟨_,_,_,_,_,kc,_,w,o5⟩:=JR h bn c.row i d ah;have e:cU [] d.e=jv d.e:=by unfold cU;rw[w]
   refine⟨?_,jy.2 o5⟩;simp only[iH,g2,e,xbg,xbD];exact VR agc qO d.e
 have t1:=T m.bG false hm.bG.2 (iS f.i);have t2:=T m.bI false hm.bI.2 (iS f.bS);have t3:=T m.trans true hm.trans.2 (iS f.t);have t4:=T m.bM false hm.bM.2 (iS f.f);have azA:(c3 (c3 m K) K).vars=(c3 m K).vars:=ev;have aO:dS eV (c3 m K).bG (c3 (c3 m K) K).bG=true:=t1;have aX:dS eV (c3 m K).bI (c3 (c3 m K) K).bI=true:=t2;have bQ:dS eV (c3 m K).trans (c3 (c3 m K) K).trans=true:=t3;have cO:dS eV (c3 m K).bM (c3 (c3 m K) K).bM=true:=t4;have eb:dS iH (c3 m K).next (c3 (c3 m K) K).next=true:=V0
 have fq:(c3 m K).aH=[]:=rfl;have nR:(c3 (c3 m K) K).aH=[]:=rfl;have V1:(c3 m K).bH=[]:=rfl;have Oa:(c3 (c3 m K) K).bH=[]:=rfl;simp only[El,lU,azA,aO,aX,bQ,cO,eb,fq,nR,V1,Oa,Ep VS,dS,xbg,Bool.and_self]
theorem azB{hJ kz:D}{l K K':List bg}(c:qf m n hJ kz l K K'):xk n [m.d,(c3 m K).d]=some (ax true):=by
 obtain⟨aBz,aT,azC⟩:=Pb h bn c.row;have azD:=Pd h bn hw c;have afX:=h.hU;have h2:=Ba h;rw[xad bn,<-JO]at h2;have oE:=aeG aT.ok;rw[O2,azC]at oE;have D9:=aT.ok.bl.nG;have fK:∀x,x∈(c3 m K).vars.map V.name↔x∈K:=λx=>⟨λag=>by
   obtain⟨v,a3,rfl⟩:=xap.1 ag;exact jy.1 (xaN.1 a3).2,λag=>by
   obtain⟨v,a3,rfl⟩:=xap.1 (c.vars x ag);exact xap.2 ⟨v,xaN.2 ⟨a3,jy.2 ag⟩,rfl⟩⟩
 obtain⟨Er,aBA,Pe⟩:=JP h bn false false ((c3 m K).vars.map V.name) (by rw[xaS];omega);rw[Al]at Pe;have azE:∀x,x∈Er↔x∈K:=λx=>by rw[af8 h bn Pe (λx ag=>c.vars x ((fK x).1 ag)) (λr av x ag y aJ ab=>(fK y).2 (c.row r av x ag y aJ ((fK x).1 ab))),fK]
 have pJ:=Pe.k;have bm:pk m n:=⟨h.ok,nJ.1 bn⟩;have an:vi n [(ni m).d,bu ((c3 m K).vars.map V.name)]=some (ss (ni m) Er).d:=afw (OY bm) (dd:=eU) rfl (m.bH.map (si m.aH)) n (by omega) _ Pe.a (by omega);have ds:=ay9 (n:=n) (by omega) (O8 aT azD) (ayX (ayY h bn) Er);have jC:Em (lU (c3 m K)) (ss (ni m) Er)=true:=by have:Em (lU (c3 m K)) (ss (ni m) Er)=Em (lU (c3 m K)) (lU (c3 m Er)):=rfl;rw[this,VX m azE];simp only[Em,Ep VS,Ep azy,Ep T4,Bool.and_self]
 rw[O7,jC]at ds;have x4:(c3 m K).aH.length=0:=rfl;generalize c3 m K=p at*;have xE:=λb9 cL c9 di dD eJ et e8 gb gK hl hn ho h7 kS kT=>azb n (by omega) p.vars (by omega) b9 cL c9 di dD eJ et e8 gb gK hl hn ho h7 kS kT;have aW:=gv.vQ (ni m);have azF:((0:Int) !=0)=false:=rfl;simp only[xk,abu,aB.agg,go_sem,h2,aW,oE,O1,azF,en,mC,ee,xbO,aB.a7,aB.bU,aB.bY,aB.cv,aB.dm,aB.eu,aB.ew,aB.fD,aB.eta,ef,yF ((p.aH.length:Int)>0),fO,xE,gv.eta,an,ds];have aX:∀x,D.az 1 (au (bu x))=bu x:=λ_=>rfl;simp only[aX,an,ds,go_sem]
end
noncomputable def Es(m:aB):gv:=⟨m.vars,true,[],m.bG.map (ey m.aH),m.bI.map (ey m.aH),m.next.map (lS m.aH),m.trans.map (ey m.aH),m.bM.map (ey m.aH),true,[]⟩
section
variable{m:aB}{n:Nat}(h:qY m n)(bn:(kR m).2.2=0)
include h bn
theorem azG:ub (Es m):=by obtain⟨a,b,c,d,e,f,g,_⟩:=ayZ h bn;exact⟨a,b,c,d,e,f,g,by simp[Es],by simp[Es]⟩
theorem azH{hJ kz:D}{K K':List bg}(c:qf m n hJ kz (m.vars.map V.name) K K'):El (lU (c3 m K)) (Es m)=true:=by
 have f:=nJ.1 bn;have hm:=h.ok;have a3:∀v∈m.vars,dC K v.name=true:=λv a3=>jy.2 (c.ask _ (xap.2 ⟨v,a3,rfl⟩) (xap.2 ⟨v,a3,rfl⟩));have aN:∀x∈m.vars.map V.name,x∈K:=λx ag=>c.ask x ag ag;have ev:(c3 m K).vars=m.vars:=List.filter_eq_self.2 a3;have T:∀(ts:List Tm)(nx:Bool),(∀t∈ts,t.cc/\t.bl<=12300)->(∀t∈ts,lq m nx t=0)->dS eV ((ts.map (cU m.aH)).filter λt=>hW K t) (ts.map (ey m.aH))=true:=λts nx ab af=>agd ts (λt aL=>En.2 λx ag=>aN x ((VU (K:=K) h bn (ab t aL).1 (ab t aL).2 (sk (af t aL)).1).2.2.2.1 x ag)) λt _=>afZ m.aH t
 have V0:dS iH ((m.next.map (g2 m.aH)).filter λd=>dC K d.name) (m.next.map (lS m.aH))=true:=agd m.next (λd ay=>by obtain⟨k,ak⟩:=(Oo f.nx d ay).2;exact jy.2 (aN _ (VF ak))) λd _=>by simp only[iH,g2,lS,xbg,xbD];exact afZ m.aH d.e
 have aO:dS eV (c3 m K).bG (m.bG.map (ey m.aH))=true:=T m.bG false hm.bG.2 (iS f.i);have aX:dS eV (c3 m K).bI (m.bI.map (ey m.aH))=true:=T m.bI false hm.bI.2 (iS f.bS);have bQ:dS eV (c3 m K).trans (m.trans.map (ey m.aH))=true:=T m.trans true hm.trans.2 (iS f.t);have cO:dS eV (c3 m K).bM (m.bM.map (ey m.aH))=true:=T m.bM false hm.bM.2 (iS f.f);have eb:dS iH (c3 m K).next (m.next.map (lS m.aH))=true:=V0
 have fq:(c3 m K).aH=[]:=rfl;have V1:(c3 m K).bH=[]:=rfl;simp only[El,lU,Es,ev,aO,aX,bQ,cO,eb,fq,V1,Ep VS,dS,xbg,Bool.and_self]
theorem azI{hJ kz:D}{l K K':List bg}(c:qf m n hJ kz l K K'):Dv n [hV m,bu K]=some (ax true):=by
 have afX:=h.hU;have bm:pk m n:=⟨h.ok,nJ.1 bn⟩;have f:=VH bm;have ak:=c.k;have e5:=afD (vs:=m.vars) (dd:=eU) (sp:=m.bH.map (tU m.aH)) rfl f.ah f.tZ f.aL f.ba f.lW n (by omega);have hw:∀q∈nN (m.bG.map (ey m.aH)) (m.bI.map (ey m.aH)) (m.next.map (lS m.aH)) (m.trans.map (ey m.aH)) (m.bM.map (ey m.aH)),∀x∈q,∀y∈q,x∈K->y∈K:=by intro q bj x ag y aJ xq;obtain⟨r,ab,af⟩:=JI.2 q bj;rw[<-VQ]at ab;exact c.row r ab x ((af x).2 ag) y ((af y).2 aJ) xq
 have aq:(nN (m.bG.map (ey m.aH)) (m.bI.map (ey m.aH)) (m.next.map (lS m.aH)) (m.trans.map (ey m.aH)) (m.bM.map (ey m.aH))).length<=10000000:=by
  have ao:=f.ah.1;have bc:=f.tZ.1;have b9:=f.aL.1;have cL:=f.ba.1;have c9:=f.lW.1
  simp only[nN,xaO,xaS]at*;omega
 have aG:∀r∈nN (m.bG.map (ey m.aH)) (m.bI.map (ey m.aH)) (m.next.map (lS m.aH)) (m.trans.map (ey m.aH)) (m.bM.map (ey m.aH)),r.length<=100000000:=by
  intro r av;rcases xak.1 av with av|av
  .obtain⟨t,ab,rfl⟩:=xap.1 av;have aj:=JH t;simp only[xak]at ab;have:t.bl<=30000000:=by
    rcases ab with((ab|ab)|ab)|ab;.exact(f.ah.2 t ab).2
    .exact(f.tZ.2 t ab).2
    .exact(f.aL.2 t ab).2
    exact(f.ba.2 t ab).2
   omega
  obtain⟨d,ab,rfl⟩:=xap.1 av;have aj:=JH d.e;have:=(f.lW.2 d ab).2;simp only[xar];omega
 have xD:=azx (n:=n) (by omega) aq aG (show K.length<=1000 by omega) hw;have nH:a6 8 (hV m)=true:=by rw[<-afV];exact gv.vQ _
 have hb:D.agg [ad (hV m) 0,ad (hV m) 1,ad (hV m) 2,ad (hV m) 3,ad (hV m) 4,ad (hV m) 5,ad (hV m) 6,ad (hV m) 7]=hV m:=rfl;have azJ:z5 n [hV m]=some (hI (nN (m.bG.map (ey m.aH)) (m.bI.map (ey m.aH)) (m.next.map (lS m.aH)) (m.trans.map (ey m.aH)) (m.bM.map (ey m.aH)))):=e5;simp only[Dv,abp,nH,hb,azJ,go_sem,xD]
end
def ud{c:Bool}{x:Option D}{y:D}{f:D->Option D}{r:Option D}(h:x=some y)(af:f y=r):aa (bL (ax c) c x) f=r:=by rw[en,xad rfl,h];exact af
def azK{n:Nat}{md cd qd rd fl hJ agf xQ:D}{k c2 tY m6 OG DW Jz:Int}(ao:a6 8 md=true)(bc:a6 8 cd=true)(b9:a6 8 qd=true)(cL:a6 8 rd=true)(c9:a6 8 fl=true) (ec:wZ n [D.agg [ad md 0,ad md 1,ad md 2,ad md 3,ad md 4,ad md 5,ad md 6,ad md 7]]=some (ax true)) (aj:y1 n [hJ]=some (ax true)) (mQ:qH n [D.agg [ad md 0,ad md 1,ad md 2,ad md 3,ad md 4,ad md 5,ad md 6,ad md 7]]=some (.aZ [.agg [J c2,J tY],J 0])) (v1:pY n [D.agg [ad md 0,ad md 1,ad md 2,ad md 3,ad md 4,ad md 5,ad md 6,ad md 7],hJ]=some xQ) (v2:uc n [D.agg [ad md 0,ad md 1,ad md 2,ad md 3,ad md 4,ad md 5,ad md 6,ad md 7],hJ]=some (.aZ [cd,J 0])) (rv:uc n [D.agg [ad cd 0,ad cd 1,ad cd 2,ad cd 3,ad cd 4,ad cd 5,ad cd 6,ad cd 7],hJ]=some (.aZ [qd,J 0])) (v4:Dr n [D.agg [ad md 0,ad md 1,ad md 2,ad md 3,ad md 4,ad md 5,ad md 6,ad md 7]]=some agf) (jc:uc n [D.agg [ad md 0,ad md 1,ad md 2,ad md 3,ad md 4,ad md 5,ad md 6,ad md 7],agf]=some (.aZ [rd,J 0])) (v6:Dg n [D.agg [ad md 0,ad md 1,ad md 2,ad md 3,ad md 4,ad md 5,ad md 6,ad md 7]]=some (.aZ [fl,.agg [J m6,J OG],J 0])) (cp:qH n [D.agg [ad cd 0,ad cd 1,ad cd 2,ad cd 3,ad cd 4,ad cd 5,ad cd 6,ad cd 7]]=some (.aZ [.agg [J DW,J Jz],J 0])) (cW:qI n [D.agg [ad cd 0,ad cd 1,ad cd 2,ad cd 3,ad cd 4,ad cd 5,ad cd 6,ad cd 7],D.agg [ad qd 0,ad qd 1,ad qd 2,ad qd 3,ad qd 4,ad qd 5,ad qd 6,ad qd 7]]=some (ax true)) (cl:xk n [D.agg [ad md 0,ad md 1,ad md 2,ad md 3,ad md 4,ad md 5,ad md 6,ad md 7],D.agg [ad cd 0,ad cd 1,ad cd 2,ad cd 3,ad cd 4,ad cd 5,ad cd 6,ad cd 7]]=some (ax true)) (v10:Ds n [xQ]=some (ax true)) (jZ:bD xQ=some (J k)) (kF:bD (ad cd 0)=some (J k)) (v11:Dv n [D.agg [ad fl 0,ad fl 1,ad fl 2,ad fl 3,ad fl 4,ad fl 5,ad fl 6,ad fl 7],xQ]=some (ax true)) (c0:pY n [D.agg [ad md 0,ad md 1,ad md 2,ad md 3,ad md 4,ad md 5,ad md 6,ad md 7],xQ]=some xQ) (bP:vj n [xQ,xQ]=some (ax true)) (b8:qI n [D.agg [ad rd 0,ad rd 1,ad rd 2,ad rd 3,ad rd 4,ad rd 5,ad rd 6,ad rd 7],D.agg [ad fl 0,ad fl 1,ad fl 2,ad fl 3,ad fl 4,ad fl 5,ad fl 6,D.val (.slice none 0 0)]]=some (ax true)) (bR:Af n []=some (ax true)):Eo n md hJ=some (ax true):=by
 have dj:ai false .neq (J k) (J k)=some (ax false):=by rw[yK];simp
 unfold Eo;refine sh ao ?_;refine dZ ec ?_;refine dZ (x:=ax false) rfl ?_;refine ud (y:=ax false) (dZ aj rfl) ?_;refine dZ (x:=ax false) rfl ?_;refine D3 rfl ?_;refine dZ mQ ?_;refine dZ rfl ?_;refine dZ rfl ?_;refine sh rfl ?_;refine dZ (x:=ax false) rfl ?_;refine D3 rfl ?_;refine dZ v1 ?_;refine dZ v2 ?_;refine dZ rfl ?_;refine dZ rfl ?_;refine sh bc ?_;refine dZ rv ?_;refine dZ rfl ?_;refine dZ rfl ?_;refine sh b9 ?_;refine dZ v4 ?_;refine dZ jc ?_;refine dZ rfl ?_;refine dZ rfl ?_;refine sh cL ?_;refine dZ v6 ?_;refine dZ rfl ?_;refine dZ rfl ?_;refine dZ rfl ?_;refine sh c9 ?_;refine sh rfl ?_;refine dZ cp ?_;refine dZ rfl ?_;refine dZ rfl ?_;refine sh rfl ?_;refine dZ (x:=ax false) rfl ?_;refine ud (y:=ax false) (dZ (x:=ax false) rfl rfl) ?_;refine dZ (x:=ax false) rfl ?_;refine ud (y:=ax false) (dZ (x:=ax false) rfl rfl) ?_;refine dZ (x:=ax false) rfl ?_;refine ud (y:=ax false) (dZ (x:=ax false) rfl rfl) ?_;refine dZ (x:=ax false) rfl ?_;refine ud (y:=ax false) (dZ cW (dZ (x:=ax false) rfl rfl)) ?_;refine dZ (x:=ax false) rfl ?_;refine ud (y:=ax false) (dZ cl (dZ (x:=ax false) rfl rfl)) ?_;refine dZ (x:=ax false) rfl ?_;refine ud (y:=ax false) (dZ v10 (dZ (x:=ax false) rfl rfl)) ?_;refine dZ (x:=ax false) rfl ?_;refine ud (y:=ax false) (dZ jZ (dZ kF (dZ dj rfl))) ?_;refine dZ (x:=ax false) rfl ?_;refine D3 rfl ?_;refine dZ v11 ?_;refine dZ (x:=ax false) rfl ?_;refine ud (y:=ax false) (dZ c0 (dZ bP (dZ (x:=ax false) rfl rfl))) ?_;refine dZ (x:=ax false) rfl ?_;refine D3 rfl ?_
 refine dZ b8 ?_;refine ud (y:=ax true) (dZ bR rfl) ?_;refine dZ (x:=ax true) rfl ?_;rfl
def azL{m:aB}{n:Nat}{l:List bg}(hw:vI m)(ba:Om m n)(aN:18446744073709551616<n)(aq:l.length<n):JT n [m.d,bu l]=some (ax true):=by
 obtain⟨fX,rfl⟩:∃q,n=q+300:=⟨n-300,by omega⟩;have bR:=ayS fX;generalize fX+300=n at*;have ec:=awO hw ba (by omega);obtain⟨b,aj,kk⟩:=ayT n l aq;cases aG:AG m with
 |false=>rw[aG]at ec;simp only[JT,Eo,aB.agg,aB.xO,go_sem,ec,en,mC,ee,xbO,bR]
 |true=>
  rw[aG]at ec;cases b with
  |false=>simp only[JT,Eo,aB.agg,aB.xO,go_sem,ec,aj,en,mC,ee,xbO,bR]
  |true=>
   have DI:=kk rfl;have bX:=ay4 hw (awK aG) aN;have mQ:=aeH bX.ok;rw[O2]at mQ;have AK:((0:Int) !=0)=false:=rfl;by_cases bn:(kR m).2.2=0
   .rw[bn]at mQ;obtain⟨K,K',c⟩:=JP bX bn false false l (by omega);rw[Al]at c;have ak:=c.k;obtain⟨azM,Et,JV⟩:=Pb bX bn c.row;have agh:=Pd bX bn hw c;have v1:=af1 bX bn c;have v2:=VY bX bn c;obtain⟨JU,af9,bY⟩:=JP Et JV false false l (by omega);rw[Al]at bY;have OI:=azq bX bn c bY;have rv:=VY Et JV bY;rw[VX _ OI]at rv;have azN:=bY.row;obtain⟨aBB,agi,aBC⟩:=Pb Et JV azN;have agj:=Pd Et JV agh bY;rw[VX _ OI]at agi agj;have vE:=bX.ok.bl.nG;have v4:=azc n (by omega) m (by omega);obtain⟨azO,aBD,dm⟩:=JP bX bn false false (m.vars.map V.name) (by rw[xaS];omega);rw[Al]at dm;have jc:=VY bX bn dm;obtain⟨ro,azP,aBE⟩:=Pb bX bn dm.row;have azQ:=Pd bX bn hw dm;have bm:pk m n:=⟨bX.ok,nJ.1 bn⟩;have v6:=awI (OZ bm bX.fj) n (by omega);have cp:=aeH Et.ok;rw[O2,JV]at cp;have cW:=afT (n:=n) (by omega) (O8 Et agh) (O8 agi agj);rw[azz bX bn c,O7,O7]at cW;have cl:=azB bX bn hw c;have v10:=azu n K c.O3 (by omega) (by omega);have b2:(c3 m K).vars.length=K.length:=by
     have mu:((c3 m K).vars.map V.name).Nodup:=afH azM.fr.v;have rb:=age c.O3;have i1:∀x∈(c3 m K).vars.map V.name,x∈K:=λx ag=>by obtain⟨v,a3,rfl⟩:=xap.1 ag;exact jy.1 (xaN.1 a3).2
     have i2:∀x∈K,x∈(c3 m K).vars.map V.name:=λx ag=>by obtain⟨v,a3,rfl⟩:=xap.1 (c.vars x ag);exact xap.2 ⟨v,xaN.2 ⟨a3,jy.2 ag⟩,rfl⟩
     have ao:=AP mu i1;have bc:=AP rb i2;rw[xaS]at ao bc;omega
    have v11:=azI bX bn c;obtain⟨azR,aBF,cv⟩:=JP bX bn false false K (by omega);rw[Al]at cv;have azS:azR=K:=aeY cv.O3 c.O3 (af8 bX bn cv c.vars c.row);have c0:=af1 bX bn cv;rw[azS]at c0;have bP:=ay3 n K (by omega) (by omega);have b8:=afT (n:=n) (by omega) (O8 azP azQ) (azG bX bn);rw[azH bX bn dm,O7]at b8;have azT:a6 8 (hV m)=true:=by rw[<-afV];exact gv.vQ _
    have hb:D.agg [ad (hV m) 0,ad (hV m) 1,ad (hV m) 2,ad (hV m) 3,ad (hV m) 4,ad (hV m) 5,ad (hV m) 6,ad (hV m) 7]=hV m:=rfl;have Uj:D.agg [ad (hV m) 0,ad (hV m) 1,ad (hV m) 2,ad (hV m) 3,ad (hV m) 4,ad (hV m) 5,ad (hV m) 6,D.val (.slice none 0 0)]=(Es m).d:=rfl;have azU:ad (c3 m K).d 0=bp (c3 m K).vars:=rfl;have bj:((K.length:Int) !=(K.length:Int))=false:=by simp
    have lens:bD (ad (c3 m K).d 0)=some (J K.length):=by rw[azU,fO,b2]
    exact azK (md:=m.d) (cd:=(c3 m K).d) (qd:=(c3 (c3 m K) K).d) (rd:=(c3 m azO).d) (fl:=hV m) (aB.agg m) (aB.agg _) (aB.agg _) (aB.agg _) azT ec aj mQ v1 v2 rv v4 jc v6 cp cW cl v10 (iO K) lens v11 c0 bP b8 bR
   have pn:((kR m).2.2 !=0)=true:=by simp[bn]
   have v1:=ay1 bX (L:=bu l) bn;have azV:bD eU=some (J 0):=rfl;have ic:((0:Int)==0)=true:=rfl;simp only[JT,Eo,aB.agg,aB.xO,go_sem,ec,aj,en,mC,ee,xbO,mQ,O1,pn,v1,azV,ic,bR]
end Go.Am
