/- Laws, on data. No condition. -/
import Derived.Test.YthnecpgodmolaaaGreatDoorSort
import Derived.Test.YthnecpgodmolaaaGreatDoorTs
import Derived.Test.YthnecpgodmolaaaGreatDoorEngD
import Derived.Test.YthnecpgodmolaaaGreatDoorLaws
set_option linter.all false
set_option linter.unnecessarySimpa false
namespace Go.Am
abbrev bl:=ByteArray
structure DB(ks:List bl)(par rep:bl->bl)(fx:bl->Nat)(d:Nat):Prop where
 aeJ:∀x,x∈ks->par x∈ks
 N4:∀x,x∈ks->rep x∈ks
 et:∀x,x∈ks->rep (par x)=rep x
 root:∀x,x∈ks->par x=x->rep x=x/\fx x=0
 down:∀x,x∈ks->par x≠x->fx (par x)<fx x
 aeK:∀x,x∈ks->fx x<=d
 JV:∀x,x∈ks->par (rep x)=rep x
def Aj(R:List (List bl))(C:bl->Prop):Prop:=∀r∈R,∀x∈r,∀y∈r,C x->C y
def Sep(ks:List bl)(R:List (List bl))(rep:bl->bl):Prop:=∀C,Aj R C->∀x y,x∈ks->y∈ks->rep x=rep y->C x->C y
def la(rep:bl->bl)(rows:List (List bl)):Prop:=∀r∈rows,∀x∈r,∀y∈r,rep x=rep y
def xo(rep jQ:bl->bl):Prop:=∀x y,rep x=rep y->jQ x=jQ y
def la.fin{rep jQ:bl->bl}{rows:List (List bl)}(h:la rep rows)(bd:xo rep jQ):la jQ rows:=λr av x ag y aQ=>bd _ _ (h r av x ag y aQ)
theorem awZ(ks:List bl):DB ks (λx=>x) (λx=>x) (λ_=>0) 0:=⟨λ_ h=>h,λ_ h=>h,λ_ _=>rfl,λ_ _ _=>⟨rfl,rfl⟩,λx _ h=>absurd rfl h,λ_ _=>xal _,λ_ _=>rfl⟩
def aw0(ks:List bl)(R:List (List bl)):Sep ks R λx=>x:=λC _ x y _ _ e h=>by have e:x=y:=e;rw[<-e];exact h
open Classical in
def aw1{ks:List bl}{par rep:bl->bl}{fx:bl->Nat}{d:Nat}(h:DB ks par rep fx d){R:List (List bl)}(aG:Sep ks R rep){a b:bl}(aE:a∈ks)(aj:b∈ks){r:List bl}(av:r∈R)(N5:a∈r)(N6:b∈r): ∃UT,DB ks (λx=>if x=rep a then rep b else par x) (λx=>if rep x=rep a then rep b else rep x) UT (d+1)/\Sep ks R (λx=>if rep x=rep a then rep b else rep x)/\xo rep (λx=>if rep x=rep a then rep b else rep x):=by
 have aeL:=h.JV a aE;have vA:=h.JV b aj;have aeM:=h.N4 a aE;have N7:=h.N4 b aj;have UU:=(h.root _ aeM aeL).1;have aeN:=(h.root _ N7 vA).1;have aw2:=(h.root _ aeM aeL).2;have aw3:=(h.root _ N7 vA).2;refine⟨λx=>if rep a≠rep b/\rep x=rep a then fx x+1 else fx x,⟨?_,?_,?_,?_,?_,?_,?_⟩,?_,?_⟩
 .intro x ag;try simp only
  split;.exact N7
  exact h.aeJ x ag
 .intro x ag;try simp only
  split;.exact N7
  exact h.N4 x ag
 .intro x ag
  try simp only
  by_cases lE:x=rep a
  .rw[xad lE];have:rep x=rep a:=by rw[lE,UU]
   rw[xad this,aeN];split;.rfl
   rfl
  rw[xac lE,h.et x ag]
 .intro x ag
  try simp only
  by_cases lE:x=rep a
  .rw[xad lE];intro e;have ab:rep x=rep a:=by rw[lE,UU]
   have fG:rep a=rep b:=by rw[<-lE,<-e]
   rw[xad ab,xac (λq=>q.1 fG)];exact⟨e,by rw[lE];exact aw2⟩
  rw[xac lE];intro e;obtain⟨bw,bz⟩:=h.root x ag e;have ab:rep x≠rep a:=by rw[bw];exact lE
  rw[xac ab,xac (λq=>ab q.2)];exact⟨bw,bz⟩
 .intro x ag
  try simp only
  by_cases lE:x=rep a
  .rw[xad lE];intro e;have ab:rep x=rep a:=by rw[lE,UU]
   have fG:rep a≠rep b:=by rw[<-lE];exact λq=>e q.symm
   have af:rep (rep b)≠rep a:=by rw[aeN];exact λq=>fG q.symm
   rw[xac (λq=>af q.2),xad ⟨fG,ab⟩,aw3];omega
  rw[xac lE];intro e;have ab:=h.down x ag e;rw[h.et x ag];split
  .omega
  exact ab
 .intro x ag;have:=h.aeK x ag
  try simp only
  split<;>omega
 .intro x ag
  try simp only
  by_cases ab:rep x=rep a
  .rw[xad ab];split;.rfl
   exact vA
  rw[xac ab,xac ab];exact h.JV x ag
 .intro C b8 x y ag aQ e N8
  try simp only at e
  by_cases ab:rep x=rep a
  .rw[xad ab]at e;by_cases af:rep y=rep a;.exact aG C b8 x y ag aQ (ab.trans af.symm) N8
   rw[xac af]at e;exact aG C b8 b y aj aQ e (b8 r av a N5 b N6 (aG C b8 x a ag aE ab N8))
  rw[xac ab]at e;by_cases af:rep y=rep a;.rw[xad af]at e;exact aG C b8 a y aE aQ af.symm (b8 r av b N6 a N5 (aG C b8 x b ag aj e N8))
  rw[xac af]at e;exact aG C b8 x y ag aQ e N8
 intro x y e;simp only[e]
def dP(o:List bl)(x:bl):Bool:=o.any λz=>decide (z=x)
def r4{o:List bl}{x:bl}:dP o x=true↔x∈o:=by simp[dP]
def UW{o:List bl}{x:bl}:dP o x=false↔x∉o:=by rw[<-r4];cases dP o x<;>simp
def jr(o:List bl)(x:bl):List bl:=if dP o x=true then o else o++[x]
def qF(o r:List bl):Bool:=o.any λx=>dP r x
def nw(o r:List bl):List bl:=if qF o r=true then r.foldl jr o else o
def mD(R:List (List bl))(o:List bl):List bl:=R.foldl nw o
def m5(R:List (List bl)):Nat->List bl->List bl
 |0,o=>o|k+1,o=>m5 R k (mD R o)
def aw4(o:List bl)(x:bl):o<+:jr o x:=by unfold jr;split;exact List.prefix_rfl;exact List.prefix_append _ _
def aeO{o:List bl}{x y:bl}:y∈jr o x↔y∈o\/y=x:=by
 unfold jr;split;.rename_i h;exact⟨.inl,λq=>q.elim id λe=>e▸r4.1 h⟩
 simp
def aeP{o:List bl}{x:bl}(h:o.Nodup):(jr o x).Nodup:=by
 unfold jr;split;.exact h
 rename_i aM;rw[List.nodup_append];exact⟨h,by simp,λa aE b aj e=>by simp at aj;subst aj;subst e;exact aM (r4.2 aE)⟩
def aeQ:∀(r o:List bl),o<+:r.foldl jr o
 |[],o=>List.prefix_rfl|x::r,o=>(aw4 o x).trans (aeQ r _)
def N9{y:bl}:∀{r o:List bl},y∈r.foldl jr o↔y∈o\/y∈r
 |[],o=>by simp|x::r,o=>by rw[xbx,N9,aeO,xao,or_assoc]
def aeR:∀{r o:List bl},o.Nodup->(r.foldl jr o).Nodup
 |[],o,h=>h|x::r,o,h=>aeR (r:=r) (aeP h)
def UX{o r:List bl}:qF o r=true↔∃x∈o,x∈r:=by simp[qF,r4]
theorem aeS(o r:List bl):o<+:nw o r:=by unfold nw;split;exact aeQ _ _;exact List.prefix_rfl
def aw5{o r:List bl}(h:o.Nodup):(nw o r).Nodup:=by unfold nw;split;exact aeR h;exact h
def aw6{o r:List bl}{y:bl}(h:y∈nw o r):y∈o\/(y∈r/\∃x∈o,x∈r):=by
 unfold nw at h;split at h
 .rename_i hm;rcases N9.1 h with h|h
  .exact .inl h
  exact .inr ⟨h,UX.1 hm⟩
 exact .inl h
def Oa:∀(R:List (List bl)) (o:List bl),o<+:mD R o
 |[],o=>List.prefix_rfl|r::R,o=>(aeS o r).trans (Oa R _)
def Ob:∀{R:List (List bl)} {o:List bl},o.Nodup->(mD R o).Nodup
 |[],o,h=>h|r::R,o,h=>Ob (R:=R) (aw5 h)
def Oc{C:bl->Prop}:∀{R:List (List bl)} {o:List bl},Aj R C->(∀x∈o,C x)->∀x∈mD R o,C x
 |[],o,_,h=>h
 |r::R,o,b8,h=>Oc (R:=R) (λsf nH=>b8 sf (List.mem_cons_of_mem _ nH)) λx ag=>by
  rcases aw6 ag with ab|⟨ab,z,af,aw⟩;.exact h x ab
  exact b8 r (by simp) z aw x ab (h z af)
def UY:∀{R:List (List bl)} {o:List bl},mD R o=o->∀r∈R,(∃x∈o,x∈r)->∀y∈r,y∈o
 |[],o,_=>by simp
 |r::R,o,h=>by
  have ab:nw o r<+:o:=by
   have:=Oa R (nw o r);have e:mD (r::R) o=mD R (nw o r):=rfl
   rwa [<-e,h]at this
  have af:nw o r=o:=ab.eq_of_length (Nat.le_antisymm ab.length_le (aeS o r).length_le);have aw:mD R o=o:=by
   have e:mD (r::R) o=mD R (nw o r):=rfl
   rwa [e,af]at h
  intro q bg hm y aQ;rcases xao.1 bg with rfl|bg
  .rw[<-af];unfold nw;rw[xad (UX.2 hm)];exact N9.2 (.inr aQ)
  exact UY aw q bg hm y aQ
def IZ{α:Type}:∀{a b:List α},a.Nodup->(∀x∈a,x∈b)->a.length<=b.length
 |[],b,_,_=>xai _
 |x::a,b,aM,aG=>by
  obtain⟨p,q,rfl⟩:=List.append_of_mem (aG x (by simp));have ab:=IZ (a:=a) (b:=p++q) (List.nodup_cons.1 aM).2 λy aQ=>by
   have iU:=aG y (by simp[aQ]);have cU:y≠x:=by rintro rfl;exact(List.nodup_cons.1 aM).1 aQ
   simp only[xas,xao]at iU⊢;rcases iU with h|h|h
   .exact .inl h
   .exact absurd h cU
   exact .inr h
  simp only[xaN,xap]at ab⊢;omega
def aeT(R:List (List bl)):∀(k:Nat)(o:List bl),o<+:m5 R k o
 |0,o=>List.prefix_rfl|k+1,o=>(Oa R o).trans (aeT R k _)
def aeU{R:List (List bl)}:∀{k:Nat}{o:List bl},o.Nodup->(m5 R k o).Nodup
 |0,o,h=>h|k+1,o,h=>aeU (k:=k) (Ob h)
def UZ{C:bl->Prop}{R:List (List bl)}(b8:Aj R C):∀{k:Nat}{o:List bl},(∀x∈o,C x)->∀x∈m5 R k o,C x
 |0,o,h=>h|k+1,o,h=>UZ b8 (k:=k) (Oc b8 h)
def aeV{R:List (List bl)}{o:List bl}(h:mD R o=o):∀k,m5 R k o=o
 |0=>rfl|k+1=>by rw[m5,h];exact aeV h k
def U0{R:List (List bl)}{ks:List bl}(fe:∀r∈R,∀x∈r,x∈ks):∀(k:Nat)(o:List bl),o.Nodup->(∀x∈o,x∈ks)->ks.length<k+o.length->mD R (m5 R k o)=m5 R k o
 |0,o,aM,aG,h=>by have:=IZ aM aG;omega
 |k+1,o,aM,aG,h=>by
  have aU:=Oa R o;by_cases aq:(mD R o).length=o.length;.have e:=(aU.eq_of_length aq.symm).symm;rw[aeV e,e]
  have:=aU.length_le;rw[m5];refine U0 fe k (mD R o) (Ob aM) (Oc (λr av x _ y aQ _=>fe r av y aQ) aG) (by omega)
def aw7{R:List (List bl)}{ks:List bl}(fe:∀r∈R,∀x∈r,x∈ks){rep:bl->bl}(U1:Sep ks R rep)(Iv:la rep R){o:List bl}(aM:o.Nodup)(aG:∀x∈o,x∈ks){k:Nat}(ak:ks.length<k)(y:bl):y∈m5 R k o↔y∈ks/\∃a∈o,rep a=rep y:=by
 constructor;.refine UZ (C:=λy=>y∈ks/\∃a∈o,rep a=rep y) ?_ (λx ag=>⟨aG x ag,x,ag,rfl⟩) y;rintro r av x ag z bD ⟨ab,a,af,aw⟩;exact⟨fe r av z bD,a,af,aw.trans (Iv r av x ag z bD)⟩
 rintro⟨aQ,a,aE,e⟩;have aw8:=U0 fe k o aM aG (by omega);have b8:Aj R λx=>x∈m5 R k o:=λr av x ag z bD hm=>UY aw8 r av ⟨x,hm,ag⟩ z bD;exact U1 _ b8 a y (aG a aE) aQ e ((aeT R k o).subset aE)
def aw9{R:List (List bl)}{ks:List bl}(fe:∀r∈R,∀x∈r,x∈ks){o:List bl}(aM:o.Nodup)(aG:∀x∈o,x∈ks){k:Nat}(ak:ks.length<k):Aj R λx=>x∈m5 R k o:=λr av x ag z bD hm=>UY (U0 fe k o aM aG (by omega)) r av ⟨x,hm,ag⟩ z bD
def Ak{α σ β:Type}{f:List D->Option (List D⊕β)}(l:List α)(eQ:Nat->σ->List D)(Inv:Nat->σ->Prop)(Fin:β->Prop) (aeW:∀s,Inv l.length s->∃x,f (eQ l.length s)=some (.inr x)/\Fin x) (vO:∀(i:Nat)(a:α)(s:σ),l[i]?=some a->i<l.length->Inv i s->∃s',f (eQ i s)=some (.inl (eQ (i+1) s'))/\Inv (i+1) s'): ∀(n i:Nat)(s:σ),Inv i s->i<=l.length->l.length-i<n->∃x,bp f n (eQ i s)=some x/\Fin x
 |0,i,s,_,_,h=>absurd h (xay _)
 |n+1,i,s,ah,hle,aM=>by
  rw[jH];by_cases h:i<l.length;.obtain⟨s',ab,af⟩:=vO i _ s (xab h) h ah;rw[ab];exact Ak l eQ Inv Fin aeW vO n (i+1) s' af h (by omega)
  have:i=l.length:=by omega
  subst this;obtain⟨x,ab,af⟩:=aeW s ah;rw[ab];exact⟨x,rfl,af⟩
def fh(t:Tm):List bl:=dO 3 t []++dO 4 t []
def U2(t:Tm):(fh t).length<=2*t.bo:=by have ab:=(pH 3 t [] trivial).2;have af:=(pH 4 t [] trivial).2;simp only[xar]at ab af;simp only[fh,xaN];omega
def axa(a b:List bl):D.ax 1 (ar (bA a)++ar (bA b))=bA (a++b):=by simp[bA]
def r5(p:List bl):(ar (bA p)).length=p.length:=by simp[bA]
def U3(n:Nat)(t:Tm)(aM:t.bo+t.bo+30<n)(bm:t.cp)(aj:t.bo<100000000):wL n [t.d]=some (bA (fh t)):=by have h:=Ts n t 1 [] [] (by simp;omega) bm trivial trivial (by omega) (by omega) (by simp;omega);have e:bA []= .ax 1 []:=rfl;have ab:=(pH 3 t [] trivial).2;have af:=(pH 4 t [] trivial).2;simp only[xar]at ab af;have dM:c5 ((dO 3 t []).length+(dO 4 t []).length) 16=true:=gk (by omega) (by omega);have cN:∀l,D.ax 1 (ar (bA l))=bA l:=λ_=>rfl;rw[e]at h;simp only[wL,ZX,go_sem,LO,h,cN,r5,dM,axa,fh]
structure I0(ks:List bl)(M:List (Value×D))(par:bl->bl):Prop where
 DC:lu M
 get:∀x,x∈ks->gA M x=some (aC (par x))
 no:∀x,x∉ks->gA M x=none
theorem axb{M:List (Value×D)}(h:lu M){z:Value}{x:ByteArray}{d:D}(aB:gA M x=some d):jV .string z false M (aC x)=some d:=by simp only[jV,aC,Y1 h,aB];rfl
def aeX{ks:List bl}{M:List (Value×D)}{par rep:bl->bl}{fx:bl->Nat}{d:Nat}(hm:I0 ks M par)(h:DB ks par rep fx d)(n:Nat): ∀(k:Nat)(x:bl),x∈ks->fx x<k->bp (LP n) k [D.mp M,aC x]=some (.inl [aC (rep x)])
 |0,x,_,ak=>absurd ak (xay _)
 |k+1,x,ag,ak=>by
  rw[jH];have aq:=axb (z:= .string ⟨#[]⟩) hm.DC (hm.get x ag);have I1:lp (D.mp M)=some M:=rfl;by_cases he:par x=x
  .have av:=(h.root x ag he).1;simp only[LP,go_sem,I1,aq,he,xbr,av]
  have aj:=xaE he;simp only[LP,go_sem,I1,aq,aj];rw[aeX hm h n k (par x) (h.aeJ x ag) (by have:=h.down x ag he;omega),h.et x ag]
def axc{ks:List bl}{M:List (Value×D)}{par rep:bl->bl}{fx:bl->Nat}{d:Nat}(hm:I0 ks M par)(h:DB ks par rep fx d)(n:Nat)(aM:d<n)(x:bl)(ag:x∈ks):pB n [D.mp M,aC x]=some (aC (rep x)):=by have:=aeX hm h n n x ag (by have:=h.aeK x ag;omega);simp only[pB,ZY,go_sem,this]
def ny(ks:List bl)(R:List (List bl))(M:List (Value×D))(rep:bl->bl)(d:Nat):Prop:=∃par fx,I0 ks M par/\DB ks par rep fx d/\Sep ks R rep
def ny.find{ks:List bl}{R:List (List bl)}{M:List (Value×D)}{rep:bl->bl}{d:Nat}(h:ny ks R M rep d)(n:Nat)(aM:d<n)(x:bl)(ag:x∈ks):pB n [D.mp M,aC x]=some (aC (rep x)):=by obtain⟨par,fx,ab,af,_⟩:=h;exact axc ab af n aM x ag
open Classical in
def ny.link{ks:List bl}{R:List (List bl)}{M:List (Value×D)}{rep:bl->bl}{d:Nat}(h:ny ks R M rep d){a b:bl}(aE:a∈ks)(aj:b∈ks){r:List bl}(av:r∈R)(N5:a∈r)(N6:b∈r): ∃cW,nh .string M (aC (rep a)) (aC (rep b))=some cW/\ny ks R cW (λx=>if rep x=rep a then rep b else rep x) (d+1)/\xo rep (λx=>if rep x=rep a then rep b else rep x):=by
 obtain⟨par,fx,ab,af,aw⟩:=h;obtain⟨UT,aW,a2,bc⟩:=aw1 af aw aE aj av N5 N6;obtain⟨cW,dw,da,eM,_⟩:=Bs ab.DC (rep a) (aC (rep b));refine⟨cW,dw,⟨_,UT,⟨da,λx ag=>?_,λx ag=>?_⟩,aW,a2⟩,bc⟩
 .rw[eM x]
  try simp only
  by_cases lE:x=rep a;.rw[xad lE,xad lE]
  rw[xac lE,xac lE];exact ab.get x ag
 rw[eM x,xac (by rintro rfl;exact ag (af.N4 a aE))];exact ab.no x ag
def Od(ks:List bl)(R:List (List bl))(rep:bl->bl)(d:Nat)(xs:List bl)(cW:List (Value×D)):Prop:= ∃jQ,ny ks R cW jQ (d+xs.length)/\xo rep jQ/\∀x∈xs,∀y∈xs,jQ x=jQ y
open Classical in
def aeY{ks:List bl}{R:List (List bl)}{M:List (Value×D)}{rep aeZ:bl->bl}{d:Nat}(h:ny ks R M rep d){h1 a:bl}{r pre:List bl}(av:r∈R)(ak:∀x∈r,x∈ks)(xp:h1∈r)(aE:a∈r)(bd:xo aeZ rep)(aU:∀x∈pre,rep x=rep h1): ∃cW jQ,nh .string M (aC (rep a)) (aC (rep h1))=some cW/\ny ks R cW jQ (d+1)/\xo aeZ jQ/\∀x∈pre++[a],jQ x=jQ h1:=by
 obtain⟨cW,aW,a2,bc⟩:=h.link (ak a aE) (ak h1 xp) av aE xp;refine⟨cW,_,aW,a2,λx y e=>bc x y (bd x y e),?_⟩;intro x ag;rcases xas.1 ag with ag|ag;.exact bc x h1 (aU x ag)
 simp at ag;subst ag;simp only;rw[xad trivial];split;.rfl
 rfl
structure r6 where
 M:List (Value×D)
 rep:bl->bl
theorem oX(M:List (Value×D)):D.mp (ej (D.mp M))=D.mp M:=rfl
theorem ae0(x:bl):(aC x).flat=true:=rfl
def axd{ks:List bl}{R:List (List bl)}{M:List (Value×D)}{rep:bl->bl}{d:Nat}(h:ny ks R M rep d)(n:Nat){xs:List bl}(av:xs∈R)(ak:∀x∈xs,x∈ks)(aM:d+xs.length+5<n)(aj:xs.length<1000000000): ∃cW,BT n [bA xs,D.mp M]=some [D.a1 [],D.mp cW]/\Od ks R rep d xs cW:=by
 have key:=Ak (f:=LQ n) xs (λi (s:r6)=>[bA xs,bA xs,J xs.length,J (i:Int),D.mp s.M]) (λi s=>ny ks R s.M s.rep (d+i)/\xo rep s.rep/\∀x∈xs.take i,s.rep x=s.rep (xs.headD ⟨#[]⟩)) (λb=>∃cW,b= .inl [D.mp cW]/\Od ks R rep d xs cW) ?_ ?_ n 0 ⟨M,rep⟩ ⟨h,λx y e=>e,by simp⟩ (xai _) (by omega);.obtain⟨x,ab,cW,rfl,af⟩:=key;have bF:(J ((0:Nat):Int))=J 0:=rfl;rw[bF]at ab;exact⟨cW,by simp only[BT,go_sem,lX,oX,ab],af⟩
 .rintro⟨cW,jQ⟩ ⟨aW,a2,bc⟩;refine⟨_,by simp only[LQ,go_sem,yF ((xs.length:Int)<xs.length),oX],cW,rfl,jQ,aW,a2,?_⟩;rw[List.take_length]at bc;simp only at bc;intro x ag y aQ;rw[bc x ag,bc y aQ]
 rintro i a ⟨cW,jQ⟩ aE ah ⟨aW,a2,bc⟩;simp only at aW a2 bc⊢;obtain⟨h1,rest,ag⟩:∃h1 rest,xs=h1::rest:=by cases xs with|nil=>simp at ah|cons h1 rest=>exact⟨h1,rest,rfl⟩
 have I2:xs.headD ⟨#[]⟩=h1:=by rw[ag];rfl
 have xp:h1∈xs:=by rw[ag];simp
 have au:xs[0]?=some h1:=by rw[ag];rfl
 have I3:=xaa aE;rw[I2]at bc;obtain⟨M2,U4,bw,bz,cz,eA⟩:=aeY aW av ak xp I3 a2 bc;have f1:=aW.find n (by omega) a (ak a I3);have f2:=aW.find n (by omega) h1 (ak h1 xp);have i0:bn 1 (bA xs) (J 0)=some [aC h1]:=n0 (i:=0) au;refine⟨⟨M2,U4⟩,?_,bz,cz,?_⟩
 .simp only[LQ,go_sem,yT ((i:Int)<xs.length),n0 aE,fb,oX,f1,f2,i0,ae0,bw,b1 (bt:=false) (i:=i) (by omega)]
 rw[I2];intro x fo;refine eA x ?_
 rwa [List.take_succ,aE]at fo
def axe{ks:List bl}{R:List (List bl)}{M:List (Value×D)}{rep:bl->bl}{d:Nat}(h:ny ks R M rep d)(n:Nat){xs:List bl}(av:xs∈R)(ak:∀x∈xs,x∈ks)(aM:d+xs.length+5<n)(aj:xs.length<1000000000): ∃cW,BU n [D.mp M,bA xs]=some [D.a1 [],D.mp cW,bA xs]/\Od ks R rep d xs cW:=by
 have key:=Ak (f:=LR n) xs (λi (s:r6)=>[J xs.length,J (i:Int),D.mp s.M,bA xs]) (λi s=>ny ks R s.M s.rep (d+i)/\xo rep s.rep/\∀x∈xs.take i,s.rep x=s.rep (xs.headD ⟨#[]⟩)) (λb=>∃cW,b= .inl [D.mp cW,bA xs]/\Od ks R rep d xs cW) ?_ ?_ n 0 ⟨M,rep⟩ ⟨h,λx y e=>e,by simp⟩ (xai _) (by omega);.obtain⟨x,ab,cW,rfl,af⟩:=key;have bF:(J ((0:Nat):Int))=J 0:=rfl;rw[bF]at ab;have cN:∀l,D.ax 1 (ar (bA l))=bA l:=λ_=>rfl;exact⟨cW,by simp only[BU,go_sem,r5,cN,oX,ab],af⟩
 .rintro⟨cW,jQ⟩ ⟨aW,a2,bc⟩;have cN:∀l,D.ax 1 (ar (bA l))=bA l:=λ_=>rfl;refine⟨_,by simp only[LR,go_sem,yF ((xs.length:Int)<xs.length),oX,cN],cW,rfl,jQ,aW,a2,?_⟩;rw[List.take_length]at bc;simp only at bc;intro x ag y aQ;rw[bc x ag,bc y aQ]
 rintro i a ⟨cW,jQ⟩ aE ah ⟨aW,a2,bc⟩;simp only at aW a2 bc⊢;obtain⟨h1,rest,ag⟩:∃h1 rest,xs=h1::rest:=by cases xs with|nil=>simp at ah|cons h1 rest=>exact⟨h1,rest,rfl⟩
 have I2:xs.headD ⟨#[]⟩=h1:=by rw[ag];rfl
 have xp:h1∈xs:=by rw[ag];simp
 have au:xs[0]?=some h1:=by rw[ag];rfl
 have I3:=xaa aE;rw[I2]at bc;obtain⟨M2,U4,bw,bz,cz,eA⟩:=aeY aW av ak xp I3 a2 bc;have f1:=aW.find n (by omega) a (ak a I3);have f2:=aW.find n (by omega) h1 (ak h1 xp);have cN:∀l,D.ax 1 (ar (bA l))=bA l:=λ_=>rfl;have mg:cg xs.length (J (i:Int))=some i:=c7 ah;have qb:cg xs.length (J 0)=some 0:=c7 (i:=0) (by omega);have iA:∀{j:Nat}{s:bl},xs[j]?=some s->(ar (bA xs))[j]?=some [aC s]:=λh=>by simp[bA,h]
 refine⟨⟨M2,U4⟩,?_,bz,cz,?_⟩;.simp only[LR,go_sem,yT ((i:Int)<xs.length),r5,mg,qb,iA aE,iA au,fb,oX,f1,f2,ae0,bw,cN,b1 (bt:=false) (i:=i) (by omega)]
 rw[I2];intro x fo;refine eA x ?_
 rwa [List.take_succ,aE]at fo
def mE(i bO:List Tm)(nx:List a8)(t f:List Tm):List (List bl):=(i++bO++t++f).map fh++nx.map λd=>d.name::fh d.e
def jR(l:List Tm):Prop:=l.length<=1000000/\∀t∈l,t.cp/\t.bo<=30000000
def qG(l:List a8):Prop:=l.length<=1000000/\∀d∈l,d.e.cp/\d.e.bo<=30000000
def la.app{rep:bl->bl}{a b:List (List bl)}:la rep (a++b)↔la rep a/\la rep b:=by
 unfold la;constructor;.intro h;exact⟨λr av=>h r (xas.2 (.inl av)),λr av=>h r (xas.2 (.inr av))⟩
 rintro⟨ab,af⟩ r av;rcases xas.1 av with av|av;.exact ab r av
 exact af r av
def la.one{rep:bl->bl}{r:List bl}:la rep [r]↔∀x∈r,∀y∈r,rep x=rep y:=by simp[la]
def Prog(ks:List bl)(R:List (List bl))(s:r6)(b:Nat)(done:List (List bl)):Prop:=∃d,ny ks R s.M s.rep d/\d<=b/\la s.rep done
def axf{a b c e ts:List Tm}{i:Nat}(h:([a,b,c,e]:List (List Tm))[i]?=some ts):lJ false 1 (i*1) (.agg [az a,az b,az c,az e])=some (az ts):=by
 match i,h with
 |0,h=>cases h;rfl
 |1,h=>cases h;rfl
 |2,h=>cases h;rfl
 |3,h=>cases h;rfl
 |_+4,h=>cases h
section
variable{ks:List bl}{R:List (List bl)}{n:Nat}(aM:10000000000000000<n)(fe:∀r∈R,∀x∈r,x∈ks)
include aM fe
theorem axg{s:r6}{b:Nat}{done:List (List bl)}(h:Prog ks R s b done)(aj:b<=5000000000000000){xs:List bl}(av:xs∈R)(ag:xs.length<=100000000): ∃s',BT n [bA xs,D.mp s.M]=some [D.a1 [],D.mp s'.M]/\Prog ks R s' (b+100000000) (done++[xs]):=by obtain⟨d,ab,af,aw⟩:=h;obtain⟨cW,aW,jQ,a2,bc,cV⟩:=axd ab n av (fe xs av) (by omega) (by omega);exact⟨⟨cW,jQ⟩,aW,_,a2,by omega,la.app.2 ⟨aw.fin bc,la.one.2 cV⟩⟩
theorem axh{s:r6}{b:Nat}{done:List (List bl)}(h:Prog ks R s b done)(aj:b<=5000000000000000){xs:List bl}(av:xs∈R)(ag:xs.length<=100000000): ∃s',BU n [D.mp s.M,bA xs]=some [D.a1 [],D.mp s'.M,bA xs]/\Prog ks R s' (b+100000000) (done++[xs]):=by obtain⟨d,ab,af,aw⟩:=h;obtain⟨cW,aW,jQ,a2,bc,cV⟩:=axe ab n av (fe xs av) (by omega) (by omega);exact⟨⟨cW,jQ⟩,aW,_,a2,by omega,la.app.2 ⟨aw.fin bc,la.one.2 cV⟩⟩
theorem axi{ts:List Tm}(l3:jR ts)(ht:∀t∈ts,fh t∈R){s:r6}{b:Nat}{done:List (List bl)}(h:Prog ks R s b done)(aj:b<=1000000000000000)(ae an c3 c4 dc dL dH eD eU fm:D): ∃s',bp (Gt n) n [ae,an,az ts,J ts.length,J 0,c3,c4,dc,dL,dH,eD,eU,fm,D.mp s.M]=some (.inl [ae,an,c3,c4,dc,dL,dH,eD,eU,fm,D.mp s'.M])/\Prog ks R s' (b+100000000000000) (done++ts.map fh):=by
 obtain⟨aq,l3⟩:=l3;have key:=Ak (f:=Gt n) ts (λi (s:r6)=>[ae,an,az ts,J ts.length,J (i:Int),c3,c4,dc,dL,dH,eD,eU,fm,D.mp s.M]) (λi s=>Prog ks R s (b+i*100000000) (done++(ts.take i).map fh)) (λx=>∃s',x= .inl [ae,an,c3,c4,dc,dL,dH,eD,eU,fm,D.mp s'.M]/\Prog ks R s' (b+100000000000000) (done++ts.map fh)) ?_ ?_ n 0 s (by simpa using h) (xai _) (by omega)
 .obtain⟨x,ab,s',rfl,af⟩:=key;exact⟨s',ab,af⟩
 .intro s' g;refine⟨_,by simp only[Gt,go_sem,yF ((ts.length:Int)<ts.length),oX],s',rfl,?_⟩;rw[List.take_length]at g;obtain⟨d,aW,a2,bc⟩:=g;exact⟨d,aW,by omega,bc⟩
 intro i t s' aK ah g;have hm:=xaa aK;obtain⟨aF,bD⟩:=l3 t hm;have ju:=U3 n t (by omega) aF (by omega);have b6:=U2 t;obtain⟨s2,bw,bz⟩:=axg aM fe g (by omega) (ht t hm) (by omega);refine⟨s2,?_,?_⟩
 .simp only[Gt,go_sem,yT ((i:Int)<ts.length),lZ aK,ju,oX,bw,b1 (bt:=false) (i:=i) (by omega)]
 have e:(ts.take (i+1)).map fh=(ts.take i).map fh++[fh t]:=by rw[List.take_succ,aK];simp
 rw[e,<-xaQ];obtain⟨d,aW,a2,bc⟩:=bz;exact⟨d,aW,by omega,bc⟩
theorem axj{a b c e:List Tm}(bT:∀ts∈[a,b,c,e],jR ts)(ht:∀ts∈[a,b,c,e],∀t∈ts,fh t∈R){s:r6}(h:Prog ks R s 0 [])(bb b4 cK c3 c4 dc dL dH:D): ∃s',bp (Gu n) n [.agg [az a,az b,az c,az e],J 0,bb,b4,cK,c3,c4,dc,dL,dH,D.mp s.M]=some (.inl [bb,b4,cK,c3,c4,dc,dL,dH,D.mp s'.M])/\Prog ks R s' 500000000000000 ((a++b++c++e).map fh):=by
 have key:=Ak (f:=Gu n) [a,b,c,e] (λi (s:r6)=>[.agg [az a,az b,az c,az e],J (i:Int),bb,b4,cK,c3,c4,dc,dL,dH,D.mp s.M]) (λi s=>Prog ks R s (i*100000000000000) ((([a,b,c,e]:List (List Tm)).take i).flatten.map fh)) (λx=>∃s',x= .inl [bb,b4,cK,c3,c4,dc,dL,dH,D.mp s'.M]/\Prog ks R s' 500000000000000 ((a++b++c++e).map fh)) ?_ ?_ n 0 s (by simpa using h) (xai _) (by simp;omega);.obtain⟨x,ab,s',rfl,af⟩:=key;exact⟨s',ab,af⟩
 .intro s' g;refine⟨_,by simp only[Gu,go_sem,xap,xar,yF (((0+1+1+1+1:Nat):Int)<4),oX],s',rfl,?_⟩;have e:([a,b,c,e]:List (List Tm)).take ([a,b,c,e]:List (List Tm)).length=[a,b,c,e]:=List.take_length;rw[e]at g;obtain⟨d,aW,a2,bc⟩:=g;refine⟨d,aW,by simp only[xap,xar]at a2;omega,?_⟩;simpa[List.flatten]using bc
 intro i ts s' aK ah g;simp only[xap,xar]at ah;have hm:=xaa aK;obtain⟨s2,bw,bz⟩:=axi aM fe (bT ts hm) (ht ts hm) g (by omega) (.agg [az a,az b,az c,az e]) (J (i:Int)) bb b4 cK c3 c4 dc dL dH;have mg:cg 4 (J (i:Int))=some i:=c7 (by omega);refine⟨s2,?_,?_⟩
 .simp only[Gu,go_sem,yT ((i:Int)<4),mg,axf aK,g7,bw,oX,b1 (bt:=false) (i:=i) (by omega)]
 have e:(([a,b,c,e]:List (List Tm)).take (i+1)).flatten.map fh=(([a,b,c,e]:List (List Tm)).take i).flatten.map fh++ts.map fh:=by rw[List.take_succ,aK];simp
 rw[e];obtain⟨d,aW,a2,bc⟩:=bz;exact⟨d,aW,by omega,bc⟩
theorem axk{nx:List a8}(l3:qG nx)(ht:∀d∈nx,(d.name::fh d.e)∈R){s:r6}{b:Nat}{done:List (List bl)}(h:Prog ks R s b done)(aj:b<=1000000000000000): ∃s',bp (Gv n) n [aP nx,J nx.length,J 0,D.mp s.M]=some (.inl [D.mp s'.M])/\Prog ks R s' (b+100000000000000) (done++nx.map λd=>d.name::fh d.e):=by
 obtain⟨aq,l3⟩:=l3;have key:=Ak (f:=Gv n) nx (λi (s:r6)=>[aP nx,J nx.length,J (i:Int),D.mp s.M]) (λi s=>Prog ks R s (b+i*100000000) (done++(nx.take i).map λd=>d.name::fh d.e)) (λx=>∃s',x= .inl [D.mp s'.M]/\Prog ks R s' (b+100000000000000) (done++nx.map λd=>d.name::fh d.e)) ?_ ?_ n 0 s (by simpa using h) (xai _) (by omega)
 .obtain⟨x,ab,s',rfl,af⟩:=key;exact⟨s',ab,af⟩
 .intro s' g;refine⟨_,by simp only[Gv,go_sem,yF ((nx.length:Int)<nx.length),oX],s',rfl,?_⟩;rw[List.take_length]at g;obtain⟨d,aW,a2,bc⟩:=g;exact⟨d,aW,by omega,bc⟩
 intro i t s' aK ah g;have hm:=xaa aK;obtain⟨aF,bD⟩:=l3 t hm;have ju:=U3 n t.e (by omega) aF (by omega);have b6:=U2 t.e;obtain⟨s2,bw,bz⟩:=axh aM fe g (by omega) (ht t hm) (by simp only[xap];omega);have e3:kS (bA (fh t.e))=some (1,ar (bA (fh t.e))):=rfl;have hz:D.ax 1 ([[aC t.name]]++ar (bA (fh t.e)))=bA (t.name::fh t.e):=rfl;have dM:c5 (1+(fh t.e).length) 16=true:=gk (by omega) (by omega);refine⟨s2,?_,?_⟩
 .simp only[Gv,go_sem,yT ((i:Int)<nx.length),eZ aK,a8.yv,a8.agg,a8.a7,a8.bR,a8.bY,a8.ct,a8.de,ju,e3,hz,r5,xap,xar,xau,dM,true_or,xbr,Nat.lt_add_one,oX,bw,b1 (bt:=false) (i:=i) (by omega)]
 have e:((nx.take (i+1)).map λd=>d.name::fh d.e)=((nx.take i).map λd=>d.name::fh d.e)++[t.name::fh t.e]:=by rw[List.take_succ,aK];simp
 rw[e,<-xaQ];obtain⟨d,aW,a2,bc⟩:=bz;exact⟨d,aW,by omega,bc⟩
end
def axl{vs:List V}(R:List (List bl))(n:Nat)(aM:vs.length+5<n)(aj:vs.length<1000000000)(b4 cK c3 c4 dc dL dH eD:D): ∃s,bp (Gs n) n [bj vs,J vs.length,J 0,b4,cK,c3,c4,dc,dL,dH,eD,D.mp []]=some (.inl [b4,cK,c3,c4,dc,dL,dH,eD,D.mp s.M])/\Prog (vs.map V.name) R s 0 []:=by
 have key:=Ak (f:=Gs n) vs (λi (M:List (Value×D))=>[bj vs,J vs.length,J (i:Int),b4,cK,c3,c4,dc,dL,dH,eD,D.mp M]) (λi M=>I0 ((vs.take i).map V.name) M λx=>x) (λx=>∃M,x= .inl [b4,cK,c3,c4,dc,dL,dH,eD,D.mp M]/\I0 (vs.map V.name) M λx=>x) ?_ ?_ n 0 [] ⟨λe he=>by(cases he),by simp,λx _=>rfl⟩ (xai _) (by omega);.obtain⟨x,ab,M,rfl,af⟩:=key;exact⟨⟨M,λx=>x⟩,ab,0,⟨_,_,af,awZ _,aw0 _ _⟩,xal _,by intro r av;cases av⟩
 .intro M g;refine⟨_,by simp only[Gs,go_sem,yF ((vs.length:Int)<vs.length),oX],M,rfl,?_⟩
  rwa [List.take_length]at g
 intro i v M a6 ah g;obtain⟨cW,dw,da,eM,_⟩:=Bs g.DC v.name (aC v.name);have aB:=V.n3 v;have axm:ej (D.mp M)=M:=rfl;refine⟨cW,?_,da,?_,?_⟩
 .simp only[Gs,go_sem,yT ((i:Int)<vs.length),g5 a6,aB.1,aB.2.1,aB.2.2,axm,dw,b1 (bt:=false) (i:=i) (by omega)]
 .intro x ag;rw[eM x];by_cases he:x=v.name;.rw[xad he,he]
  rw[xac he];refine g.get x ?_;rw[List.take_succ,a6]at ag;simp only[Option.toList,List.map_append,xaB,xbj,xas,xao,List.not_mem_nil,or_false]at ag;exact ag.resolve_right he
 intro x ag;rw[List.take_succ,a6]at ag;simp only[Option.toList,List.map_append,xaB,xbj,xas,xao,List.not_mem_nil,or_false,not_or]at ag;rw[eM x,xac ag.2];exact g.no x ag.1
structure Al(vs:List V)(i bO:List Tm)(nx:List a8)(t f:List Tm):Prop where
 a6:vs.length<=1000
 ah:jR i
 xq:jR bO
 mH:qG nx
 aK:jR t
 bd:jR f
 known:∀r∈mE i bO nx t f,∀x∈r,x∈vs.map V.name
theorem I4{vs:List V}{i bO:List Tm}{nx:List a8}{t f:List Tm}{sp:List cy}{dd:D}(j8:dd.one=true):a5 8 (dW vs dd i bO nx t f sp)=true:=by simp only[dW,K8,j8];rfl
def axn{vs:List V}{i bO:List Tm}{nx:List a8}{t f:List Tm}(h:Al vs i bO nx t f){dd:D}(j8:dd.one=true)(sp:List cy)(n:Nat)(aM:10000000000000000<n): ∃M rep d,Gw n [dW vs dd i bO nx t f sp]=some (D.mp M)/\ny (vs.map V.name) (mE i bO nx t f) M rep d/\d<=1000000000000000/\la rep (mE i bO nx t f):=by
 have a6:=h.a6;obtain⟨s1,an,bb⟩:=axl (vs:=vs) (mE i bO nx t f) n (by omega) (by omega) (bj vs) dd (az i) (az bO) (aP nx) (az t) (az f) (bZ sp);have ht:∀ts∈[i,bO,t,f],∀x∈ts,fh x∈mE i bO nx t f:=by
  intro ts l3 x ag;refine xas.2 (.inl (xax.2 ⟨x,?_,rfl⟩));simp only[xao,List.not_mem_nil,or_false]at l3;simp only[xas];rcases l3 with rfl|rfl|rfl|rfl
  .exact .inl (.inl (.inl ag))
  .exact .inl (.inl (.inr ag))
  .exact .inl (.inr ag)
  exact .inr ag
 have bm:∀ts∈[i,bO,t,f],jR ts:=by
  intro ts l3;simp only[xao,List.not_mem_nil,or_false]at l3;rcases l3 with rfl|rfl|rfl|rfl
  .exact h.ah
  .exact h.xq
  .exact h.aK
  exact h.bd
 obtain⟨s2,eI,gW⟩:=axj aM h.known bm ht bb (bj vs) dd (az i) (az bO) (aP nx) (az t) (az f) (bZ sp);obtain⟨gM,bR,bY⟩:=axk aM h.known (nx:=nx) h.mH (λd aB=>xas.2 (.inr (xax.2 ⟨d,aB,rfl⟩))) gW (by omega);obtain⟨d,d1,d2,d3⟩:=bY;refine⟨gM.M,gM.rep,d,?_,d1,by omega,d3⟩;have gL:∀l,bE (az l)=true:=λ_=>rfl;have oT:a5 8 (dW vs dd i bO nx t f sp)=true:=I4 j8;have a7:ad (dW vs dd i bO nx t f sp) 0=bj vs:=rfl;have U5:ad (dW vs dd i bO nx t f sp) 1=dd:=rfl;have bY:ad (dW vs dd i bO nx t f sp) 2=az i:=rfl;have ct:ad (dW vs dd i bO nx t f sp) 3=az bO:=rfl;have de:ad (dW vs dd i bO nx t f sp) 4=aP nx:=rfl;have ee:ad (dW vs dd i bO nx t f sp) 5=az t:=rfl;have ef:ad (dW vs dd i bO nx t f sp) 6=az f:=rfl;have e2:ad (dW vs dd i bO nx t f sp) 7=bZ sp:=rfl;simp only[Gw,ZZ,oT,a7,U5,bY,ct,de,ee,ef,e2,go_sem,fB,an,gL,oX,eI,dT,bR]
def U6{α:Type}(l:List α)(q:α->Bool){f:List D->Option (List D⊕(List D⊕D))}(eQ:Nat->List D) (aG:∀i a,l[i]?=some a->i<l.length->f (eQ i)=some (if q a=true then .inr (.inr (J (i:Int)))else .inl (eQ (i+1)))) (he:f (eQ l.length)=some (.inr (.inl []))) (n:Nat) (aM:l.length<n): ∃b,bp f n (eQ 0)=some b/\((l.any q=false/\b= .inl [])\/(l.any q=true/\∃k:Nat,b= .inr (J (k:Int)))):=by
 have key:∀(m i:Nat),i<=l.length->l.length-i<m->∃b,bp f m (eQ i)=some b/\(((l.drop i).any q=false/\b= .inl [])\/((l.drop i).any q=true/\∃k:Nat,b= .inr (J (k:Int)))):=by
  intro m
  induction m with
  |zero=>intro i _ h;exact absurd h (xay _)
  |succ m ih=>
   intro i ah hm;rw[jH];by_cases h:i<l.length;.have aE:=xab h;have e:l.drop i=l[i]::l.drop (i+1):=xaZ h;rw[aG i _ aE h,e,List.any_cons];cases bg:q l[i]with|true=>exact⟨_,rfl,.inr ⟨rfl,i,rfl⟩⟩|false=>obtain⟨b,ab,af⟩:=ih (i+1) h (by omega);exact⟨b,ab,af⟩
   have:i=l.length:=by omega
   subst this;rw[he];exact⟨_,rfl,.inl ⟨by simp,rfl⟩⟩
 simpa using key n 0 (xai _) (by omega)
def axo(ks:List bl)(x:bl):dP ks x=ks.any λz=>decide (x=z):=by
 unfold dP
 congr 1;funext z
 by_cases h:x=z;.simp[h]
 have af:¬z=x:=λe=>h e.symm;rw[xaE h,xaE af]
def axp(n:Nat)(l:List bl)(x:bl)(aM:l.length+1<n)(aj:l.length<1000000000):sQ n [bA l,aC x]=some (ay (dP l x)):=by
 obtain⟨b,ab,af⟩:=U6 l (λz=>decide (x=z)) (f:=sP n) (λi=>[bA l,aC x,J l.length,J (i:Int)]) (λi a aE ah=>by
  cases bg:decide (x=a);.simp only[sP,go_sem,yT ((i:Int)<l.length),n0 aE,fb,bg,b1 (bt:=false) (i:=i) (by omega)]
  .simp only[sP,go_sem,yT ((i:Int)<l.length),n0 aE,fb,bg]) (by
  simp only[sP,go_sem,yF ((l.length:Int)<l.length)]) n (by omega)
 have bF:(J ((0:Nat):Int))=J 0:=rfl;rw[bF]at ab;rw[axo];rcases af with⟨aw,rfl⟩|⟨aw,k,rfl⟩
 .simp only[sQ,Le,wC,Fq,go_sem,lX,ab,aw,yF ((-1:Int)>=0)]
 simp only[sQ,Le,wC,Fq,go_sem,lX,ab,aw,yT ((k:Int)>=0)]
section
variable{ks:List bl}{R:List (List bl)}{M:List (Value×D)}{rep:bl->bl}{d:Nat}(h:ny ks R M rep d){n:Nat}(aM:d<n)
include h aM
theorem axq(v:V)(a6:v.name∈ks)(a:bl):y8 n [aC a,.ref [D.mp M] 0,.ref [aC v.name,ay v.bool,J v.lo,J v.ah] 0]=some (ay (dP ks a&&decide (rep a=rep v.name))):=by
 obtain⟨par,fx,ab,af,aw⟩:=id h;have I1:lp (D.mp M)=some M:=rfl;have an:a3 false 1 0 [D.mp M]=some (D.mp M):=rfl;have bb:a3 false 1 0 [aC v.name,ay v.bool,J v.lo,J v.ah]=some (aC v.name):=rfl;have aq:=ys (z:= .string ⟨#[]⟩) (x:=a) ab.DC;have f2:=h.find n aM v.name a6;by_cases aE:a∈ks
 .rw[ab.get a aE]at aq;have f1:=h.find n aM a aE;have bJ:dP ks a=true:=r4.2 aE;simp only[y8,LU,go_sem,an,bb,I1,aq,f1,f2,bJ,ec,dS,xbE]
 rw[ab.no a aE]at aq;have bJ:dP ks a=false:=UW.2 aE;simp only[y8,LU,go_sem,an,bb,I1,aq,bJ,ec,jG,dS,xbk]
theorem axr(v:V)(a6:v.name∈ks)(gS:Bool)(l:List bl)(ae1:l.length+1<n)(aj:l.length<1000000000):y9 n [gP gS l,D.fn (.func sL) [] [.ref [D.mp M] 0,.ref [aC v.name,ay v.bool,J v.lo,J v.ah] 0]]=some (ay (l.any λa=>dP ks a&&decide (rep a=rep v.name))):=by
 obtain⟨b,ab,af⟩:=U6 l (λa=>dP ks a&&decide (rep a=rep v.name)) (f:=Gx n) (λi=>[gP gS l,.ref [D.mp M] 0,.ref [aC v.name,ay v.bool,J v.lo,J v.ah] 0,J l.length,J (i:Int)]) (λi a aE ah=>by
  have ab:=axq h aM v a6 a;cases bg:(dP ks a&&decide (rep a=rep v.name));.rw[bg]at ab;simp only[Gx,go_sem,yT ((i:Int)<l.length),pG aE,fb,ab,b1 (bt:=false) (i:=i) (by omega)]
  .rw[bg]at ab;simp only[Gx,go_sem,yT ((i:Int)<l.length),pG aE,fb,ab]) (by
  simp only[Gx,go_sem,yF ((l.length:Int)<l.length)]) n (by omega)
 have bF:(J ((0:Nat):Int))=J 0:=rfl;have bd:∀x y,hI sL (D.fn (.func sL) [] [x,y])=some [x,y]:=λx y=>by simp[hI]
 rw[bF]at ab;rcases af with⟨aw,rfl⟩|⟨aw,k,rfl⟩
 .simp only[y9,LW,BV,LV,bd,go_sem,kg,ab,aw,yF ((-1:Int)>=0)]
 simp only[y9,LW,BV,LV,bd,go_sem,kg,ab,aw,yT ((k:Int)>=0)]
end
def xr(vs:List V)(rep:bl->bl)(l:List bl):List bl:=(vs.map V.name).filter λx=>l.any λa=>dP (vs.map V.name) a&&decide (rep a=rep x)
def axs{vs:List V}{rep:bl->bl}{l:List bl}{x:bl}:x∈xr vs rep l↔x∈vs.map V.name/\∃a∈l,a∈vs.map V.name/\rep a=rep x:=by unfold xr;rw[xby,xbt];simp only[xam,r4,xaG]
def axt{vs:List V}{R:List (List bl)}{M:List (Value×D)}{rep:bl->bl}{d:Nat}(h:ny (vs.map V.name) R M rep d){n:Nat}(aM:d<n)(a6:vs.length<1000000)(aAk:vs.length<n)(gS:Bool)(l:List bl)(ae1:l.length+1<n)(aj:l.length<1000000000):bp (Cd n) n [gP gS l,bj vs,J vs.length,J 0,D.mp M,D.ax 1 []]=some (.inl [bA (xr vs rep l)]):=by
 have cN:∀l,D.ax 1 (ar (bA l))=bA l:=λ_=>rfl;have aq:=dG (f:=Cd n) vs (λi (o:List bl)=>[gP gS l,bj vs,J vs.length,J (i:Int),D.mp M,bA o]) (λr o=>(.inl [bA (o++(r.map V.name).filter λx=>l.any λa=>dP (vs.map V.name) a&&decide (rep a=rep x))]:List D⊕D)) (λi o=>o.length<=i) (λo _=>by simp only[Cd,go_sem,yF ((vs.length:Int)<vs.length),cN,xbj,xbX,xaC]) ?_ n 0 [] (xal _) (by omega) (xai _)
 .have bF:(J ((0:Nat):Int))=J 0:=rfl;have aL:bA []= .ax 1 []:=rfl;rw[bF,aL]at aq;unfold xr;simpa only[xak,xaH]using aq
 intro i v o ju ah aF;left;have aB:=V.n3 v;have bR:ad v.d 1=ay v.bool:=rfl;have bY:ad v.d 2=J v.lo:=rfl;have ct:ad v.d 3=J v.ah:=rfl;have axu:v.name∈vs.map V.name:=xax.2 ⟨v,xaa ju,rfl⟩;have ab:=axr h aM v axu gS l ae1 aj;have dM:c5 (o.length+1) 16=true:=gk (by omega) (by omega);have n9:∀b,(ay b).flat=true:=λ_=>rfl;cases bg:(l.any λa=>dP (vs.map V.name) a&&decide (rep a=rep v.name))with
 |true=>
  rw[bg]at ab;refine⟨o++[v.name],?_,?_,by simp;omega⟩;.simp only[Cd,go_sem,yT ((i:Int)<vs.length),g5 ju,aB.1,aB.2.1,aB.2.2,bR,bY,ct,ab,n9,cN,r5,xap,xar,xau,dM,C0,b1 (bt:=false) (i:=i) (by omega)]
  rw[xaB,xbd,xad bg];simp
 |false=>
  rw[bg]at ab;refine⟨o,?_,?_,by omega⟩;.simp only[Cd,go_sem,yT ((i:Int)<vs.length),g5 ju,aB.1,aB.2.1,aB.2.2,bR,bY,ct,ab,n9,cN,b1 (bt:=false) (i:=i) (by omega)]
  rw[xaB,xbd,xac (by rw[bg];decide)]
def axv{l L:List bl}(aM:l.Nodup)(aU:Part 0 l.length l L)(aG:ez blt 0 l.length (gt L)):iP L:=by
 have hw:NT L:=awg (by rw[aU.len];exact aG);have oN:∀x∈L,x∈l:=λx ag=>(aU.mem x).1 ag;have aB:nv L=L:=by
  have ab:l.length<=(nv L).length:=IZ aM λx ag=>(UH _ _).2 ((aU.mem x).2 ag);have af:∀(L:List bl),(nv L).length<=L.length/\((nv L).length=L.length->nv L=L):=by
   intro L
   induction L with
   |nil=>simp[nv]
   |cons a r ih=>
    cases r with
    |nil=>simp[nv]
    |cons b r=>
     simp only[nv]at ih⊢;split;.simp only[xap]at ih⊢;exact⟨by omega,λh=>by omega⟩
     simp only[xap]at ih⊢;exact⟨by omega,λh=>by rw[ih.2 (by omega)]⟩
  exact(af L).2 (Nat.le_antisymm (af L).1 (by rw[aU.len];exact ab))
 rw[<-aB];exact aev hw
def axw{vs:List V}{i bO:List Tm}{nx:List a8}{t f:List Tm}(h:Al vs i bO nx t f)(kX:(vs.map V.name).Nodup){dd:D}(j8:dd.one=true)(sp:List cy)(n:Nat)(aM:10000000000000000<n)(gS:Bool)(l:List bl)(aj:l.length<1000000000): ∃rep Oe,uT n [dW vs dd i bO nx t f sp,gP gS l]=some (bA Oe)/\Sep (vs.map V.name) (mE i bO nx t f) rep/\la rep (mE i bO nx t f)/\iP Oe/\Oe.length<=vs.length/\∀x,x∈Oe↔x∈vs.map V.name/\∃a∈l,a∈vs.map V.name/\rep a=rep x:=by
 have a6:=h.a6;obtain⟨M,rep,d,eI,gW,kz,n4⟩:=axn h j8 sp n aM;have a4:=axt gW (n:=n) (by omega) (by omega) (by omega) gS l (by omega) aj;have axx:(xr vs rep l).Nodup:=List.Pairwise.filter _ kX;have kr:(xr vs rep l).length<=vs.length:=by have:=List.length_filter_le (λx=>l.any λa=>dP (vs.map V.name) a&&decide (rep a=rep x)) (vs.map V.name);simpa[xr]using this
 obtain⟨L,s1,s2,gM⟩:=awY n (xr vs rep l) (by omega) (by omega);have U1:Sep (vs.map V.name) (mE i bO nx t f) rep:=by obtain⟨_,_,_,_,q⟩:=gW;exact q
 refine⟨rep,L,?_,U1,n4,axv axx s2 gM,by rw[s2.len];exact kr,λx=>by rw[s2.mem,axs]⟩;have oT:a5 8 (dW vs dd i bO nx t f sp)=true:=I4 j8;have a7:ad (dW vs dd i bO nx t f sp) 0=bj vs:=rfl;have hi:D.agg [bj vs,ad (dW vs dd i bO nx t f sp) 1,ad (dW vs dd i bO nx t f sp) 2,ad (dW vs dd i bO nx t f sp) 3,ad (dW vs dd i bO nx t f sp) 4,ad (dW vs dd i bO nx t f sp) 5,ad (dW vs dd i bO nx t f sp) 6,ad (dW vs dd i bO nx t f sp) 7]=dW vs dd i bO nx t f sp:=rfl;have cN:∀l,D.ax 1 (ar (bA l))=cx l:=λ_=>rfl;have aAl:cx L=bA L:=rfl;have I5:bE (D.mp M)=true:=rfl;simp only[uT,aab,oT,hi,a7,go_sem,eI,I5,fB,a4,cN,s1];rfl
abbrev vr(K:List bl):D:= .fn (.func qh) [] [.ref [bA K] 0]
abbrev mF(K:List bl):D:= .ref [vr K] 0
section
variable{n:Nat}{K:List bl}(aM:1000000000<n)(fi:K.length<1000000)
include aM fi
theorem axy(x:bl):rC n [aC x,.ref [bA K] 0]=some (ay (dP K x)):=by have h:=axp n K x (by omega) (by omega);have an:a3 false 1 0 [bA K]=some (bA K):=rfl;simp only[rC,Si,go_sem,an,h]
theorem U7(x:bl):A3 [(qh,rC n)] (vr K) [aC x]=some (ay (dP K x)):=by have h:=axy aM fi x;have aB:PZ (vr K)=some (qh,[.ref [bA K] 0]):=rfl;simp only[A3,aB,eH,Et,xaD,xcf,xaH,h]
theorem axz(v:V):Ce n [v.d,mF K]=some (ay (dP K v.name)):=by have h:=U7 aM fi v.name;have an:a3 false 1 0 [vr K]=some (vr K):=rfl;have aB:=V.n3 v;simp only[Ce,Sj,go_sem,an,aB.2.1,aB.2.2,h]
theorem axA(d:a8):Cj n [d.d,mF K]=some (ay (dP K d.name)):=by have h:=U7 aM fi d.name;have an:a3 false 1 0 [vr K]=some (vr K):=rfl;simp only[Cj,So,go_sem,an,a8.agg,a8.a7,h]
theorem axB(x:bl):Cg n [aC x,mF K]=some (ay (!dP K x)):=by have h:=U7 aM fi x;have an:a3 false 1 0 [vr K]=some (vr K):=rfl;simp only[Cg,Sl,go_sem,an,h]
theorem axC(l:List bl)(aj:l.length<1000000000):zk n [bA l,D.fn (.func sK) [] [mF K]]=some (ay (l.any λa=>!dP K a)):=by
 obtain⟨b,ab,af⟩:=U6 l (λa=>!dP K a) (f:=GR n) (λi=>[bA l,mF K,J l.length,J (i:Int)]) (λi a aE ah=>by
  have ab:=axB aM fi a;cases bg:(!dP K a);.rw[bg]at ab;simp only[GR,go_sem,yT ((i:Int)<l.length),n0 aE,fb,ab,b1 (bt:=false) (i:=i) (by omega)]
  .rw[bg]at ab;simp only[GR,go_sem,yT ((i:Int)<l.length),n0 aE,fb,ab]) (by
  simp only[GR,go_sem,yF ((l.length:Int)<l.length)]) n (by omega)
 have bF:(J ((0:Nat):Int))=J 0:=rfl;have bd:∀x,hI sK (D.fn (.func sK) [] [x])=some [x]:=λx=>by simp[hI]
 rw[bF]at ab;rcases af with⟨aw,rfl⟩|⟨aw,k,rfl⟩
 .simp only[zk,L8,Ch,L7,bd,go_sem,lX,ab,aw,yF ((-1:Int)>=0)]
 simp only[zk,L8,Ch,L7,bd,go_sem,lX,ab,aw,yT ((k:Int)>=0)]
def l4(K:List bl)(t:Tm):Bool:=!(fh t).any λa=>!dP K a
theorem axD(t:Tm)(aF:t.cp)(bD:t.bo<=30000000):Ci n [t.d,mF K]=some (ay (l4 K t)):=by have ab:=U3 n t (by omega) aF (by omega);have aq:=U2 t;have af:=axC aM fi (fh t) (by omega);have n9:∀b,(ay b).flat=true:=λ_=>rfl;simp only[Ci,Sm,go_sem,ab,af,l4]
theorem axE(vs:List V)(aq:vs.length<=1000000):Cf n [bj vs,D.fn (.func uA) [] [mF K]]=some (bj (vs.filter λv=>dP K v.name)):=by
 have cN:∀l,D.ax 4 (ar (bj l))=bj l:=λ_=>rfl;have el:∀l,(ar (bj l)).length=l.length:=λl=>by simp[bj]
 have du:=dG (f:=GQ n) vs (λi (o:List V)=>[mF K,bj vs,J vs.length,J (i:Int),bj o]) (λr o=>(.inl [bj (o++r.filter λv=>dP K v.name)]:List D⊕D)) (λi o=>o.length<=i) (λo _=>by simp only[GQ,go_sem,yF ((vs.length:Int)<vs.length),cN,xbX,xaC]) ?_ n 0 [] (xal _) (by omega) (xai _)
 .have bF:(J ((0:Nat):Int))=J 0:=rfl;have aL:bj []= .ax 4 []:=rfl;rw[bF,aL]at du;simp only[xak,xaH]at du;have bd:hI uA (D.fn (.func uA) [] [mF K])=some [mF K]:=by simp[hI]
  simp only[Cf,Sk,bd,go_sem,fB,du,cN]
 intro i v o a6 ah aF;left;have aB:=V.n3 v;have vt:D.agg [aC v.name,ay v.bool,J v.lo,J v.ah]=v.d:=rfl;have bR:ad v.d 1=ay v.bool:=rfl;have bY:ad v.d 2=J v.lo:=rfl;have ct:ad v.d 3=J v.ah:=rfl;have ab:=axz aM fi v;have dM:c5 (o.length+1) 40=true:=gk (by omega) (by omega);have hz:D.ax 4 (ar (bj o)++[[aC v.name,ay v.bool,J v.lo,J v.ah]])=bj (o++[v]):=by simp[bj];rfl
 cases bg:dP K v.name with
 |true=>
  rw[bg]at ab;refine⟨o++[v],?_,?_,by simp;omega⟩;.simp only[GQ,go_sem,yT ((i:Int)<vs.length),g5 a6,aB.1,aB.2.1,aB.2.2,bR,bY,ct,vt,ab,cN,el,xap,xar,xau,dM,hz,b1 (bt:=false) (i:=i) (by omega)]
  rw[xbd,xad bg];simp
 |false=>
  rw[bg]at ab;refine⟨o,?_,?_,by omega⟩;.simp only[GQ,go_sem,yT ((i:Int)<vs.length),g5 a6,aB.1,aB.2.1,aB.2.2,bR,bY,ct,vt,ab,cN,b1 (bt:=false) (i:=i) (by omega)]
  rw[xbd,xac (by rw[bg];decide)]
theorem axF(nx:List a8)(aq:nx.length<=1000000):Ck n [aP nx,D.fn (.func uB) [] [mF K]]=some (aP (nx.filter λd=>dP K d.name)):=by
 have cN:∀l,D.ax 5 (ar (aP l))=aP l:=λ_=>rfl;have el:∀l,(ar (aP l)).length=l.length:=λl=>by simp[aP]
 have du:=dG (f:=GU n) nx (λi (o:List a8)=>[mF K,aP nx,J nx.length,J (i:Int),aP o]) (λr o=>(.inl [aP (o++r.filter λv=>dP K v.name)]:List D⊕D)) (λi o=>o.length<=i) (λo _=>by simp only[GU,go_sem,yF ((nx.length:Int)<nx.length),cN,xbX,xaC]) ?_ n 0 [] (xal _) (by omega) (xai _)
 .have bF:(J ((0:Nat):Int))=J 0:=rfl;have aL:aP []= .ax 5 []:=rfl;rw[bF,aL]at du;simp only[xak,xaH]at du;have bd:hI uB (D.fn (.func uB) [] [mF K])=some [mF K]:=by simp[hI]
  simp only[Ck,Sp,bd,go_sem,dT,du,cN]
 intro i v o a6 ah aF;left;have vt:D.agg [aC v.name,J v.e.op,J v.e.num,aC v.e.name,cl 4 v.e.nl (Tm.rows v.e.aT)]=v.d:=rfl;have ab:=axA aM fi v;have dM:c5 (o.length+1) 72=true:=gk (by omega) (by omega);have hz:D.ax 5 (ar (aP o)++[[aC v.name,J v.e.op,J v.e.num,aC v.e.name,cl 4 v.e.nl (Tm.rows v.e.aT)]])=aP (o++[v]):=by simp[aP];rfl
 cases bg:dP K v.name with
 |true=>
  rw[bg]at ab;refine⟨o++[v],?_,?_,by simp;omega⟩;.simp only[GU,go_sem,yT ((i:Int)<nx.length),eZ a6,a8.yv,a8.agg,a8.a7,a8.bR,a8.bY,a8.ct,a8.de,vt,ab,cN,el,xap,xar,xau,dM,hz,b1 (bt:=false) (i:=i) (by omega)]
  rw[xbd,xad bg];simp
 |false=>
  rw[bg]at ab;refine⟨o,?_,?_,by omega⟩;.simp only[GU,go_sem,yT ((i:Int)<nx.length),eZ a6,a8.yv,a8.agg,a8.a7,a8.bR,a8.bY,a8.ct,a8.de,vt,ab,cN,b1 (bt:=false) (i:=i) (by omega)]
  rw[xbd,xac (by rw[bg];decide)]
theorem axG(ts:List Tm)(l3:jR ts):uU n [az ts,D.fn (.func qi) [] [mF K]]=some (az (ts.filter λt=>l4 K t)):=by
 obtain⟨aq,bm⟩:=l3;have cN:∀l,D.ax 4 (ar (az l))=az l:=λ_=>rfl;have el:∀l,(ar (az l)).length=l.length:=λl=>by simp[az]
 have du:=dG (f:=GS n) ts (λi (o:List Tm)=>[mF K,az ts,J ts.length,J (i:Int),az o]) (λr o=>(.inl [az (o++r.filter λt=>l4 K t)]:List D⊕D)) (λi o=>o.length<=i) (λo _=>by simp only[GS,go_sem,yF ((ts.length:Int)<ts.length),cN,xbX,xaC]) ?_ n 0 [] (xal _) (by omega) (xai _)
 .have bF:(J ((0:Nat):Int))=J 0:=rfl;have aL:az []= .ax 4 []:=rfl;rw[bF,aL]at du;simp only[xak,xaH]at du;have bd:hI qi (D.fn (.func qi) [] [mF K])=some [mF K]:=by simp[hI]
  simp only[uU,Sn,bd,go_sem,g7,du,cN]
 intro i t o aK ah aF;left;obtain⟨bw,bz⟩:=bm t (xaa aK);have ab:=axD aM fi t bw bz;have dM:c5 (o.length+1) 56=true:=gk (by omega) (by omega);have hz:D.ax 4 (ar (az o)++[t.cells])=az (o++[t]):=by simp[az,Tm.NG]
 cases bg:l4 K t with
 |true=>
  rw[bg]at ab;refine⟨o++[t],?_,?_,by simp;omega⟩;.simp only[GS,go_sem,yT ((i:Int)<ts.length),lZ aK,ab,cN,el,T.vd,T.xe,xap,xar,xau,dM,hz,b1 (bt:=false) (i:=i) (by omega)]
  rw[xbd,xad bg];simp
 |false=>
  rw[bg]at ab;refine⟨o,?_,?_,by omega⟩;.simp only[GS,go_sem,yT ((i:Int)<ts.length),lZ aK,ab,cN,b1 (bt:=false) (i:=i) (by omega)]
  rw[xbd,xac (by rw[bg];decide)]
end
def axH(vs:List V)(i bO:List Tm)(nx:List a8)(t f:List Tm)(K:List bl):D:= .agg [bj (vs.filter λv=>dP K v.name),eR,az (i.filter λt=>l4 K t),az (bO.filter λt=>l4 K t),aP (nx.filter λd=>dP K d.name),az (t.filter λt=>l4 K t),az (f.filter λt=>l4 K t),eR]
theorem axI{vs:List V}{i bO:List Tm}{nx:List a8}{t f:List Tm}(h:Al vs i bO nx t f){dd:D}(j8:dd.one=true)(sp:List cy)(n:Nat)(aM:10000000000000000<n)(l:D){K:List bl} (cj:uT n [dW vs dd i bO nx t f sp,l]=some (bA K)) (fi:K.length<1000000):wQ n [dW vs dd i bO nx t f sp,l]=some (axH vs i bO nx t f K):=by have oT:a5 8 (dW vs dd i bO nx t f sp)=true:=I4 j8;have a7:ad (dW vs dd i bO nx t f sp) 0=bj vs:=rfl;have bY:ad (dW vs dd i bO nx t f sp) 2=az i:=rfl;have ct:ad (dW vs dd i bO nx t f sp) 3=az bO:=rfl;have de:ad (dW vs dd i bO nx t f sp) 4=aP nx:=rfl;have ee:ad (dW vs dd i bO nx t f sp) 5=az t:=rfl;have ef:ad (dW vs dd i bO nx t f sp) 6=az f:=rfl;have hi:D.agg [bj vs,ad (dW vs dd i bO nx t f sp) 1,az i,az bO,aP nx,az t,az f,ad (dW vs dd i bO nx t f sp) 7]=dW vs dd i bO nx t f sp:=rfl;have gL:∀l,bE (az l)=true:=λ_=>rfl;have ml:∀l,bE (bj l)=true:=λ_=>rfl;have axJ:∀l,bE (aP l)=true:=λ_=>rfl;have NC:∀l,bE (bA l)=true:=λ_=>rfl;have a6:=h.a6;have cE:=axE (n:=n) (K:=K) (by omega) fi vs (by omega);have dz:=axF (n:=n) (K:=K) (by omega) fi nx h.mH.1;have g2:=λts h=>axG (n:=n) (K:=K) (by omega) fi ts h;simp only[wQ,aac,oT,a7,bY,ct,de,ee,ef,hi,go_sem,cj,NC,cE,dz,g2 i h.ah,g2 bO h.xq,g2 t h.aK,g2 f h.bd,gL,ml,axJ];rfl
def ae2(n:Nat)(gS:Bool)(l:List bl)(x:bl)(aM:l.length<n)(aj:l.length<1000000000):oM n [gP gS l,aC x]=some (ay (dP l x)):=by
 have aq:=dG (f:=HF n) l (λi (_:Unit)=>[gP gS l,aC x,J (i:Int)]) (λr _=>if dP r x=true then(.inr (ay true):List D⊕D)else .inl []) (λ_ _=>True) (λ_ _=>by simp only[HF,go_sem,kg,yF ((l.length:Int)<l.length),dP,List.any_nil]) ?_ n 0 () trivial (by omega) (xai _);.have bF:(J ((0:Nat):Int))=J 0:=rfl;rw[bF]at aq;simp only[xak]at aq;cases h:dP l x<;>simp only[h,xaD,xaF,xat]at aq<;>simp only[oM,aaK,go_sem,aq]
 intro i a _ aE ah _;have ao:dP (a::l.drop (i+1)) x=(decide (a=x)||dP (l.drop (i+1)) x):=by simp[dP]
 cases bg:decide (a=x)with
 |true=>right;simp only[HF,go_sem,kg,yT ((i:Int)<l.length),pG aE,fb,bg,ao,Bool.true_or]
 |false=>left;refine⟨(),?_,by rw[ao,bg,xbN],trivial⟩;simp only[HF,go_sem,kg,yT ((i:Int)<l.length),pG aE,fb,bg,b1 (bt:=false) (i:=i) (by omega)]
def I6(n:Nat)(l:List bl)(x:bl)(aM:l.length<n)(aj:l.length<1000000000):oM n [bA l,aC x]=some (ay (dP l x)):=by rw[<-acb];exact ae2 n false l x aM aj
def ae3(n:Nat)(o r:List bl)(aM:o.length<n)(aj:o.length<1000000000)(AE:r.length<n)(kO:r.length<1000000000):zI n [bA o,bA r]=some (ay (qF o r)):=by
 have aq:=dG (f:=HJ n) o (λi (_:Unit)=>[bA o,bA r,J (i:Int)]) (λq _=>if qF q r=true then(.inr (ay true):List D⊕D)else .inl []) (λ_ _=>True) (λ_ _=>by simp only[HJ,go_sem,lX,yF ((o.length:Int)<o.length),qF,List.any_nil]) ?_ n 0 () trivial (by omega) (xai _);.have bF:(J ((0:Nat):Int))=J 0:=rfl;rw[bF]at aq;simp only[xak]at aq;cases h:qF o r<;>simp only[h,xaD,xaF,xat]at aq<;>simp only[zI,aaN,go_sem,aq]
 intro i a _ aE ah _;have ao:qF (a::o.drop (i+1)) r=(dP r a||qF (o.drop (i+1)) r):=by simp[qF]
 have hm:=I6 n r a AE kO;cases bg:dP r a with
 |true=>rw[bg]at hm;right;simp only[HJ,go_sem,lX,yT ((i:Int)<o.length),n0 aE,fb,hm,bg,ao,Bool.true_or]
 |false=>rw[bg]at hm;left;refine⟨(),?_,by rw[ao,bg,xbN],trivial⟩;simp only[HJ,go_sem,lX,yT ((i:Int)<o.length),n0 aE,fb,hm,b1 (bt:=false) (i:=i) (by omega)]
def h8(t:Tm):List bl:=(dO 4 t []).foldl jr (dO 3 t [])
def I7{t:Tm}{x:bl}:x∈h8 t↔x∈fh t:=by unfold h8 fh;rw[N9,xas]
def ae4(o:List bl)(x:bl):(jr o x).length<=o.length+1:=by unfold jr;split<;>simp
def ae5:∀(r o:List bl),(r.foldl jr o).length<=o.length+r.length
 |[],o=>by simp|x::r,o=>by have ab:=ae5 r (jr o x);have af:=ae4 o x;simp only[xbx,xap];omega
def Of(t:Tm):(h8 t).length<=2*t.bo:=by have ab:=(pH 3 t [] trivial).2;have af:=(pH 4 t [] trivial).2;have aw:=ae5 (dO 4 t []) (dO 3 t []);simp only[xar]at ab af;unfold h8;omega
def U8(n:Nat)(t:Tm)(aM:t.bo+t.bo+30<n)(bm:t.cp)(aj:t.bo<100000000):wY n [t.d]=some (bA (h8 t)):=by
 have h:=ME n t (by omega) bm (by omega);have ab:=(pH 3 t [] trivial).2;have af:=(pH 4 t [] trivial).2;simp only[xar]at ab af;have cN:∀l,D.ax 1 (ar (bA l))=bA l:=λ_=>rfl;obtain⟨q,bw,bz,_⟩:=ak6 (k:=1) (nl:=true) (es:=(dO 3 t []).map λs=>[aC s]) (by decide);have bw:kS (gP true (dO 3 t []))=some (q,(dO 3 t []).map λs=>[aC s]):=bw;have dM:c5 (0+(dO 3 t []).length) 16=true:=gk (by omega) (by omega);have aq:=dG (f:=HG n) (dO 4 t []) (λi (o:List bl)=>[gP true (dO 4 t []),J (i:Int),bA o]) (λr o=>(.inl [bA (r.foldl jr o)]:List D⊕D)) (λi o=>o.length<=(dO 3 t []).length+i) (λo _=>by simp only[HG,go_sem,kg,yF (((dO 4 t []).length:Int)<(dO 4 t []).length),cN,List.foldl_nil]) ?_ n 0 (dO 3 t []) (by omega) (by omega) (xai _)
 .have bF:(J ((0:Nat):Int))=J 0:=rfl;have aL:D.ax 1 ((dO 3 t []).map λs=>[aC s])=bA (dO 3 t []):=rfl;rw[bF]at aq;simp only[xak]at aq;simp only[wY,aaL,go_sem,h,bw,bz,xar,xaV,dM,xaH,aL,aq,cN];rfl
 intro i x o ag ah aF;left;have hm:=I6 n o x (by omega) (by omega);have dM:c5 (o.length+1) 16=true:=gk (by omega) (by omega);have fv:=ae4 o x;have n9:∀b,(ay b).flat=true:=λ_=>rfl;refine⟨jr o x,?_,rfl,by omega⟩;unfold jr;cases bg:dP o x with
 |true=>rw[bg]at hm;simp only[HG,go_sem,kg,yT ((i:Int)<(dO 4 t []).length),pG ag,fb,cN,hm,n9,b1 (bt:=false) (i:=i) (by omega)]
 |false=>rw[bg]at hm;simp only[HG,go_sem,kg,yT ((i:Int)<(dO 4 t []).length),pG ag,fb,cN,hm,n9,r5,xap,xar,xau,dM,C0,b1 (bt:=false) (i:=i) (by omega)]
def ja(R:List (List bl)):D:= .ax 1 (R.map λr=>[bA r])
def r7(i bO:List Tm)(nx:List a8)(t f:List Tm):List (List bl):=(i++bO++t++f).map h8++nx.map λd=>d.name::h8 d.e
def ae6(a:List (List bl))(r:List bl):D.ax 1 (ar (ja a)++[[bA r]])=ja (a++[r]):=by simp[ja]
def ae7(a:List (List bl)):(ar (ja a)).length=a.length:=by simp[ja]
def I8{a:List (List bl)}{i:Nat}{r:List bl}(h:a[i]?=some r):bn 1 (ja a) (J (i:Int))=some [bA r]:=by simp[ja,h]
def U9(a:List (List bl)):bK (ja a)=some (J a.length):=by simp[ja]
def axK{i bO:List Tm}{nx:List a8}{t f:List Tm}{vs:List V}{dd:D}{sp:List cy}(j8:dd.one=true)(ab:jR i)(af:jR bO)(aw:jR t)(a4:jR f)(b7:qG nx)(n:Nat)(aM:1000000000<n):HI n [dW vs dd i bO nx t f sp]=some (ja (r7 i bO nx t f)):=by
 have cN:∀l,D.ax 1 (ar (ja l))=ja l:=λ_=>rfl;have cL:∀l,D.ax 4 (ar (az l))=az l:=λ_=>rfl;have ae8:∀l:List Tm,(ar (az l)).length=l.length:=λl=>by simp[az]
 have mc:=ab.1;have mK:=af.1;have Up:=aw.1;have vk:=a4.1;have Uq:=b7.1
 have bF:(J ((0:Nat):Int))=J 0:=rfl;have bT:(i++bO++t++f).length<=4000000:=by simp only[xaN];omega
 have dy:=dG (f:=Mn n) (i++bO++t++f) (λk (o:List (List bl))=>[J (k:Int),bj vs,dd,az i,az bO,aP nx,az t,az f,bZ sp,ja o,az (i++bO++t++f)]) (λr o=>(.inl [bj vs,dd,az i,az bO,aP nx,az t,az f,bZ sp,ja (o++r.map h8)]:List D⊕D)) (λk o=>o.length=k) (λo _=>by simp only[Mn,go_sem,ae8,yF (((i++bO++t++f).length:Int)<(i++bO++t++f).length),cN,xbj,xaC]) ?_ n 0 [] rfl (by omega) (xai _)
 .have gC:=dG (f:=Mo n) nx (λk (o:List (List bl))=>[J (k:Int),bj vs,dd,az i,az bO,aP nx,az t,az f,bZ sp,ja o]) (λr o=>(.inl [ja (o++r.map λd=>d.name::h8 d.e)]:List D⊕D)) (λk o=>o.length=(i++bO++t++f).length+k) (λo _=>by simp only[Mo,go_sem,dT,yF ((nx.length:Int)<nx.length),cN,xbj,xaC]) ?_ n 0 ((i++bO++t++f).map h8) (by simp) (by omega) (xai _)
  .rw[bF]at dy gC;have aL:ja []= .ax 1 []:=rfl;rw[aL]at dy;simp only[xak,xaH]at dy gC;have e3:∀l:List Tm,kS (az l)=some (4,Tm.rows l):=λ_=>rfl;have axL:D.ax 4 (Tm.rows i++Tm.rows bO++Tm.rows t++Tm.rows f)=az (i++bO++t++f):=by simp[az,Tm.mr]
   have axM:∀l:List Tm,(Tm.rows l).length=l.length:=λl=>Tm.Bq;have eX:c5 (0+i.length) 56=true:=gk (by omega) (by omega);have ei:c5 (i.length+bO.length) 56=true:=gk (by omega) (by omega);have jD:c5 (i.length+bO.length+t.length) 56=true:=gk (by omega) (by omega);have Ka:c5 (i.length+bO.length+t.length+f.length) 56=true:=gk (by omega) (by omega);have oT:a5 8 (dW vs dd i bO nx t f sp)=true:=I4 j8;have a7:ad (dW vs dd i bO nx t f sp) 0=bj vs:=rfl;have U5:ad (dW vs dd i bO nx t f sp) 1=dd:=rfl;have bY:ad (dW vs dd i bO nx t f sp) 2=az i:=rfl;have ct:ad (dW vs dd i bO nx t f sp) 3=az bO:=rfl;have de:ad (dW vs dd i bO nx t f sp) 4=aP nx:=rfl;have ee:ad (dW vs dd i bO nx t f sp) 5=az t:=rfl;have ef:ad (dW vs dd i bO nx t f sp) 6=az f:=rfl;have e2:ad (dW vs dd i bO nx t f sp) 7=bZ sp:=rfl;simp only[HI,aaM,oT,a7,U5,bY,ct,de,ee,ef,e2,go_sem,e3,true_or,xbr,Nat.zero_lt_succ,xar,xaH,xaN,axM,eX,ei,jD,Ka,axL,dy,cN,gC];rfl
  intro k d o aB ak aF;left;obtain⟨bw,bz⟩:=b7.2 d (xaa aB);have aj:=U8 n d.e (by omega) bw (by omega);have axN:=Of d.e;have e3:kS (bA (h8 d.e))=some (1,ar (bA (h8 d.e))):=rfl;have hz:D.ax 1 ([[aC d.name]]++ar (bA (h8 d.e)))=bA (d.name::h8 d.e):=rfl;have dM:c5 (1+(h8 d.e).length) 16=true:=gk (by omega) (by omega);have H2:c5 (o.length+1) 24=true:=gk (by omega) (by omega);have I5:∀l,bE (bA l)=true:=λ_=>rfl;refine⟨o++[d.name::h8 d.e],?_,by simp,by simp only[xaN,xap,xar]at aF⊢;omega⟩;simp only[Mo,go_sem,dT,yT ((k:Int)<nx.length),eZ aB,a8.fY,a8.ho,aj,e3,hz,r5,ae7,xap,xar,xau,dM,H2,I5,true_or,xbr,Nat.lt_add_one,ae6,b1 (bt:=false) (i:=k) (by omega)]
 intro k x o ag ak aF;left;have hm:=xaa ag;obtain⟨bw,bz⟩:x.cp/\x.bo<=30000000:=by
  simp only[xas]at hm;rcases hm with((hm|hm)|hm)|hm
  .exact ab.2 x hm
  .exact af.2 x hm
  .exact aw.2 x hm
  exact a4.2 x hm
 have aj:=U8 n x (by omega) bw (by omega);have H2:c5 (o.length+1) 24=true:=gk (by omega) (by omega);have I5:∀l,bE (bA l)=true:=λ_=>rfl;have mg:cg (i++bO++t++f).length (J (k:Int))=some k:=c7 ak;have aW:(ar (az (i++bO++t++f)))[k]?=some x.cells:=Tm.E6 ag;refine⟨o++[h8 x],?_,by simp,by simp;omega⟩;simp only[Mn,go_sem,ae8,yT ((k:Int)<(i++bO++t++f).length),mg,aW,aj,ae7,xap,xar,xau,H2,I5,cN,cL,ae6,b1 (bt:=false) (i:=k) (by omega)]
section
variable{n:Nat}{vs:List V}(aM:1000000000<n)(a6:vs.length<=1000)
include aM a6
def m6(vs:List V)(o:List bl):Prop:=o.Nodup/\∀x∈o,x∈vs.map V.name
theorem m6.len{o:List bl}(h:m6 vs o):o.length<=1000:=by have:=IZ h.1 h.2;rw[xaV]at this;omega
theorem m6.add{o:List bl}{x:bl}(h:m6 vs o)(ag:x∈vs.map V.name):m6 vs (jr o x):=⟨aeP h.1,λy aQ=>by rcases aeO.1 aQ with ab|rfl;exact h.2 y ab;exact ag⟩
theorem axO(gS:Bool)(l:List bl)(aq:l.length<100000000)(kX:(vs.map V.name).Nodup)(b4 cK c3 c4 dc dL dH:D):bp (CL n) n [gP gS l,J 0,bj vs,b4,cK,c3,c4,dc,dL,dH,D.ax 1 []]=some (.inl [bj vs,b4,cK,c3,c4,dc,dL,dH,bA ((vs.map V.name).filter λx=>dP l x)]):=by
 have cN:∀l,D.ax 1 (ar (bA l))=bA l:=λ_=>rfl;have dy:=dG (f:=CL n) vs (λi (o:List bl)=>[gP gS l,J (i:Int),bj vs,b4,cK,c3,c4,dc,dL,dH,bA o]) (λr o=>(.inl [bj vs,b4,cK,c3,c4,dc,dL,dH,bA (o++(r.map V.name).filter λx=>dP l x)]:List D⊕D)) (λi o=>o.length<=i) (λo _=>by simp only[CL,go_sem,fB,yF ((vs.length:Int)<vs.length),cN,xbj,xbX,xaC]) ?_ n 0 [] (xal _) (by omega) (xai _)
 .have bF:(J ((0:Nat):Int))=J 0:=rfl;have aL:bA []= .ax 1 []:=rfl;rw[bF,aL]at dy;simpa only[xak,xaH]using dy
 intro i v o ag ah aF;left;have ae:a3 false 1 0 v.cells=some (aC v.name):=rfl;have hm:=ae2 n gS l v.name (by omega) (by omega);have dM:c5 (o.length+1) 16=true:=gk (by omega) (by omega);cases bg:dP l v.name with
 |true=>
  rw[bg]at hm;refine⟨o++[v.name],?_,?_,by simp;omega⟩;.simp only[CL,go_sem,fB,yT ((i:Int)<vs.length),g5 ag,ae,hm,r5,xap,xar,xau,dM,C0,cN,b1 (bt:=false) (i:=i) (by omega)]
  rw[xaB,xbd,xad bg];simp
 |false=>
  rw[bg]at hm;refine⟨o,?_,?_,by omega⟩;.simp only[CL,go_sem,fB,yT ((i:Int)<vs.length),g5 ag,ae,hm,cN,b1 (bt:=false) (i:=i) (by omega)]
  rw[xaB,xbd,xac (by rw[bg];decide)]
variable{R:List (List bl)}(I9:R.length<=10000000)(fe:∀r∈R,∀x∈r,x∈vs.map V.name)(An:∀r∈R,r.length<=100000000)
include I9 fe An
theorem axP(i:Nat)(r:List bl)(av:R[i]?=some r)(an cK c3 c4 dc dL dH eD eU:D)(o:List bl)(aF:m6 vs o):bp (CM n) n [ja R,an,J (i:Int),J 0,cK,c3,c4,dc,dL,dH,eD,eU,bA o]=some (.inl [ja R,an,J (i:Int),cK,c3,c4,dc,dL,dH,eD,eU,bA (r.foldl jr o)])/\m6 vs (r.foldl jr o):=by
 have cN:∀l,D.ax 1 (ar (bA l))=bA l:=λ_=>rfl;have hm:=xaa av;have axQ:=An r hm;have ae:∀x:List bl,a3 false 1 0 [bA x]=some (bA x):=λ_=>rfl;have n9:∀b,(ay b).flat=true:=λ_=>rfl;have axR:∀(q o:List bl),(∀x∈q,x∈vs.map V.name)->m6 vs o->m6 vs (q.foldl jr o):=by
  intro q
  induction q with
  |nil=>intro o _ h;exact h
  |cons x q ih=>intro o h af;exact ih _ (λy aQ=>h y (by simp[aQ])) (af.add aM a6 (h x (by simp)))
 refine⟨?_,axR r o (fe r hm) aF⟩;have dy:=dG (f:=CM n) r (λk (o:List bl)=>[ja R,an,J (i:Int),J (k:Int),cK,c3,c4,dc,dL,dH,eD,eU,bA o]) (λq o=>(.inl [ja R,an,J (i:Int),cK,c3,c4,dc,dL,dH,eD,eU,bA (q.foldl jr o)]:List D⊕(List D⊕(List D⊕(List D⊕(List D⊕(List D⊕(List D⊕D)))))))) (λk o=>m6 vs o) (λo _=>by simp only[CM,go_sem,I8 av,ae,lX,yF ((r.length:Int)<r.length),cN,List.foldl_nil]) ?_ n 0 o aF (by omega) (xai _)
 .have bF:(J ((0:Nat):Int))=J 0:=rfl;rw[bF]at dy;simpa only[xak]using dy
 intro k x o ag ak aF;left;have sj:=aF.len aM a6;have Og:=I6 n o x (by omega) (by omega);have dM:c5 (o.length+1) 16=true:=gk (by omega) (by omega);refine⟨jr o x,?_,rfl,aF.add aM a6 (fe r hm x (xaa ag))⟩;unfold jr;cases bg:dP o x with
 |true=>rw[bg]at Og;simp only[CM,go_sem,I8 av,ae,lX,yT ((k:Int)<r.length),n0 ag,fb,cN,Og,n9,b1 (bt:=false) (i:=k) (by omega)]
 |false=>rw[bg]at Og;simp only[CM,go_sem,I8 av,ae,lX,yT ((k:Int)<r.length),n0 ag,fb,cN,Og,n9,r5,xap,xar,xau,dM,C0,b1 (bt:=false) (i:=k) (by omega)]
theorem axS(an b4 cK c3 c4 dc dL dH eD:D)(o:List bl)(aF:m6 vs o):bp (CN n) n [ja R,an,J 0,b4,cK,c3,c4,dc,dL,dH,eD,bA o]=some (.inl [ja R,an,b4,cK,c3,c4,dc,dL,dH,eD,bA (mD R o)])/\m6 vs (mD R o):=by
 have cN:∀l,D.ax 1 (ar (bA l))=bA l:=λ_=>rfl;have ae:∀x:List bl,a3 false 1 0 [bA x]=some (bA x):=λ_=>rfl;have n9:∀b,(ay b).flat=true:=λ_=>rfl;refine⟨?_,Ob aF.1,Oc (λr av x _ y aQ _=>fe r av y aQ) aF.2⟩;have dy:=dG (f:=CN n) R (λi (o:List bl)=>[ja R,an,J (i:Int),b4,cK,c3,c4,dc,dL,dH,eD,bA o]) (λq o=>(.inl [ja R,an,b4,cK,c3,c4,dc,dL,dH,eD,bA (q.foldl nw o)]:List D⊕(List D⊕(List D⊕(List D⊕D))))) (λk o=>m6 vs o) (λo _=>by simp only[CN,go_sem,U9,yF ((R.length:Int)<R.length),cN,List.foldl_nil]) ?_ n 0 o aF (by omega) (xai _)
 .have bF:(J ((0:Nat):Int))=J 0:=rfl;rw[bF]at dy;unfold mD;simpa only[xak]using dy
 intro i r o av ah aF;left;have sj:=aF.len aM a6;have axQ:=An r (xaa av);have su:=ae3 n o r (by omega) (by omega) (by omega) (by omega);obtain⟨fC,axT⟩:=axP aM a6 I9 fe An i r av an b4 cK c3 c4 dc dL dH eD o aF;cases bg:qF o r with
 |true=>rw[bg]at su;refine⟨r.foldl jr o,?_,by rw[xbx,nw,xad bg],axT⟩;simp only[CN,go_sem,U9,yT ((i:Int)<R.length),I8 av,ae,cN,su,n9,fC,b1 (bt:=false) (i:=i) (by omega)]
 |false=>rw[bg]at su;refine⟨o,?_,by rw[xbx,nw,xac (by rw[bg];decide)],aF⟩;simp only[CN,go_sem,U9,yT ((i:Int)<R.length),I8 av,ae,cN,su,n9,b1 (bt:=false) (i:=i) (by omega)]
theorem axU(b4 cK c3 c4 dc dL dH:D)(o:List bl)(aF:m6 vs o):bp (HK n) n [ja R,J 0,bj vs,b4,cK,c3,c4,dc,dL,dH,bA o]=some (.inl [bA (m5 R (vs.length+1) o)]):=by
 have cN:∀l,D.ax 1 (ar (bA l))=bA l:=λ_=>rfl;have HY:(List.range (vs.length+1)).length=vs.length+1:=List.length_range;have dy:=dG (f:=HK n) (List.range (vs.length+1)) (λi (o:List bl)=>[ja R,J (i:Int),bj vs,b4,cK,c3,c4,dc,dL,dH,bA o]) (λq o=>(.inl [bA (m5 R q.length o)]:List D⊕D)) (λk o=>m6 vs o) (λo _=>by rw[HY];simp only[HK,go_sem,fB,yF (((vs.length+1:Nat):Int)<=vs.length),cN,xar,m5]) ?_ n 0 o aF (by omega) (xai _)
 .have bF:(J ((0:Nat):Int))=J 0:=rfl;rw[bF]at dy;simpa only[xak,HY]using dy
 intro i r o av ah aF;left;rw[HY]at ah;obtain⟨IM,pO⟩:=axS aM a6 I9 fe An (J (i:Int)) (bj vs) b4 cK c3 c4 dc dL dH o aF;refine⟨mD R o,?_,?_,pO⟩;.simp only[HK,go_sem,fB,yT ((i:Int)<=vs.length),cN,IM,b1 (bt:=false) (i:=i) (by omega)]
 rw[xap,m5]
end
def Oh{i bO:List Tm}{nx:List a8}{t f:List Tm}:(∀r∈mE i bO nx t f,∃q∈r7 i bO nx t f,∀x,x∈r↔x∈q)/\(∀q∈r7 i bO nx t f,∃r∈mE i bO nx t f,∀x,x∈r↔x∈q):=by
 constructor
 .intro r av;rcases xas.1 av with h|h
  .obtain⟨z,ab,rfl⟩:=xax.1 h;exact⟨h8 z,xas.2 (.inl (xax.2 ⟨z,ab,rfl⟩)),λx=>I7.symm⟩
  obtain⟨z,ab,rfl⟩:=xax.1 h;exact⟨z.name::h8 z.e,xas.2 (.inr (xax.2 ⟨z,ab,rfl⟩)),λx=>by rw[xao,xao,I7]⟩
 intro r av;rcases xas.1 av with h|h
 .obtain⟨z,ab,rfl⟩:=xax.1 h;exact⟨fh z,xas.2 (.inl (xax.2 ⟨z,ab,rfl⟩)),λx=>I7.symm⟩
 obtain⟨z,ab,rfl⟩:=xax.1 h;exact⟨z.name::fh z.e,xas.2 (.inr (xax.2 ⟨z,ab,rfl⟩)),λx=>by rw[xao,xao,I7]⟩
def DD(vs:List V)(i bO:List Tm)(nx:List a8)(t f:List Tm)(l:List bl):List bl:=m5 (r7 i bO nx t f) (vs.length+1) ((vs.map V.name).filter λx=>dP l x)
section
variable{vs:List V}{i bO:List Tm}{nx:List a8}{t f:List Tm}(h:Al vs i bO nx t f)(kX:(vs.map V.name).Nodup)
include h kX
theorem Oi(l:List bl):m6 vs ((vs.map V.name).filter λx=>dP l x):=⟨List.Pairwise.filter _ kX,λx ag=>(xby.1 ag).1⟩
theorem Oj:∀r∈r7 i bO nx t f,∀x∈r,x∈vs.map V.name:=λr av x ag=>by obtain⟨q,ab,af⟩:=Oh.2 r av;exact h.known q ab x ((af x).2 ag)
theorem axV(l:List bl):m6 vs (DD vs i bO nx t f l):=by have au:=Oi h kX l;exact⟨aeU au.1,UZ (λr av x _ y aQ _=>Oj h kX r av y aQ) au.2⟩
theorem axW(l:List bl):Aj (r7 i bO nx t f) λx=>x∈DD vs i bO nx t f l:=by have au:=Oi h kX l;exact aw9 (Oj h kX) au.1 au.2 (by rw[xaV];omega)
theorem axX(l:List bl){rep:bl->bl}(aG:Sep (vs.map V.name) (mE i bO nx t f) rep)(aB:la rep (mE i bO nx t f))(x:bl):x∈DD vs i bO nx t f l↔x∈vs.map V.name/\∃a∈l,a∈vs.map V.name/\rep a=rep x:=by
 have au:=Oi h kX l;have r1:Sep (vs.map V.name) (r7 i bO nx t f) rep:=λC b8=>aG C λr av y aQ z bD=>by obtain⟨q,ab,af⟩:=Oh.1 r av;exact b8 q ab y ((af y).1 aQ) z ((af z).1 bD)
 have iy:la rep (r7 i bO nx t f):=λq bg y aQ z bD=>by obtain⟨r,ab,af⟩:=Oh.2 q bg;exact aB r ab y ((af y).2 aQ) z ((af z).2 bD)
 unfold DD;rw[aw7 (Oj h kX) r1 iy au.1 au.2 (by rw[xaV];omega)];constructor;.rintro⟨ab,a,af,aw⟩;obtain⟨a4,b7⟩:=xby.1 af;exact⟨ab,a,r4.1 b7,a4,aw⟩
 rintro⟨ab,a,af,aw,a4⟩;exact⟨ab,a,xby.2 ⟨aw,r4.2 af⟩,a4⟩
theorem axY{dd:D}(j8:dd.one=true)(sp:List cy)(n:Nat)(aM:1000000000<n)(gS:Bool)(l:List bl)(aq:l.length<100000000):CO n [dW vs dd i bO nx t f sp,gP gS l]=some (bA (DD vs i bO nx t f l)):=by
 have oT:a5 8 (dW vs dd i bO nx t f sp)=true:=I4 j8;have a7:ad (dW vs dd i bO nx t f sp) 0=bj vs:=rfl;have aw:=axO aM h.a6 gS l aq kX (ad (dW vs dd i bO nx t f sp) 1) (ad (dW vs dd i bO nx t f sp) 2) (ad (dW vs dd i bO nx t f sp) 3) (ad (dW vs dd i bO nx t f sp) 4) (ad (dW vs dd i bO nx t f sp) 5) (ad (dW vs dd i bO nx t f sp) 6) (ad (dW vs dd i bO nx t f sp) 7);have av:=axK (vs:=vs) (sp:=sp) j8 h.ah h.xq h.aK h.bd h.mH n aM;have hi:D.agg [bj vs,ad (dW vs dd i bO nx t f sp) 1,ad (dW vs dd i bO nx t f sp) 2,ad (dW vs dd i bO nx t f sp) 3,ad (dW vs dd i bO nx t f sp) 4,ad (dW vs dd i bO nx t f sp) 5,ad (dW vs dd i bO nx t f sp) 6,ad (dW vs dd i bO nx t f sp) 7]=dW vs dd i bO nx t f sp:=rfl;have I9:(r7 i bO nx t f).length<=10000000:=by
  have mc:=h.ah.1;have mK:=h.xq.1;have Up:=h.aK.1;have vk:=h.bd.1;have Uq:=h.mH.1
  simp only[r7,xaN,xaV];omega
 have An:∀r∈r7 i bO nx t f,r.length<=100000000:=by
  intro r av;rcases xas.1 av with hm|hm
  .obtain⟨z,ab,rfl⟩:=xax.1 hm;have af:=Of z;have aw:z.bo<=30000000:=by
    simp only[xas]at ab;rcases ab with((ab|ab)|ab)|ab
    .exact(h.ah.2 z ab).2
    .exact(h.xq.2 z ab).2
    .exact(h.aK.2 z ab).2
    exact(h.bd.2 z ab).2
   omega
  obtain⟨z,ab,rfl⟩:=xax.1 hm;have af:=Of z.e;have aw:=(h.mH.2 z ab).2;simp only[xap];omega
 have jE:=axU aM h.a6 I9 (Oj h kX) An (ad (dW vs dd i bO nx t f sp) 1) (ad (dW vs dd i bO nx t f sp) 2) (ad (dW vs dd i bO nx t f sp) 3) (ad (dW vs dd i bO nx t f sp) 4) (ad (dW vs dd i bO nx t f sp) 5) (ad (dW vs dd i bO nx t f sp) 6) (ad (dW vs dd i bO nx t f sp) 7) _ (Oi h kX l);have cN:∀l,D.ax 1 (ar (bA l))=bA l:=λ_=>rfl;simp only[CO,aaO,oT,a7,go_sem,aw,hi,av,cN,jE];rfl
end
def js(K:List bl)(t:Tm):Bool:=decide ((h8 t).length=0)||qF (h8 t) K
def Ok{n:Nat}{K:List bl}(aM:1000000000<n)(fi:K.length<1000000)(ts:List Tm)(l3:jR ts):qq n [az ts,bA K]=some (az (ts.filter λt=>js K t)):=by
 obtain⟨aq,bm⟩:=l3;have cN:∀l,D.ax 4 (ar (az l))=az l:=λ_=>rfl;have el:∀l,(ar (az l)).length=l.length:=λl=>by simp[az]
 have du:=dG (f:=CP n) ts (λi (o:List Tm)=>[az ts,bA K,J (i:Int),az o]) (λr o=>(.inl [az (o++r.filter λt=>js K t)]:List D⊕D)) (λi o=>o.length<=i) (λo _=>by simp only[CP,go_sem,g7,yF ((ts.length:Int)<ts.length),cN,xbX,xaC]) ?_ n 0 [] (xal _) (by omega) (xai _);.have bF:(J ((0:Nat):Int))=J 0:=rfl;have aL:az []= .ax 4 []:=rfl;rw[bF,aL]at du;simp only[xak,xaH]at du;simp only[qq,aaP,go_sem,du,cN]
 intro i t o aK ah aF;left;obtain⟨bw,bz⟩:=bm t (xaa aK);have ab:=U8 n t (by omega) bw (by omega);have axN:=Of t;have af:=ae3 n (h8 t) K (by omega) (by omega) (by omega) (by omega);have dM:c5 (o.length+1) 56=true:=gk (by omega) (by omega);have hz:D.ax 4 (ar (az o)++[t.cells])=az (o++[t]):=by simp[az,Tm.NG]
 have bD:(((h8 t).length:Int)==0)=decide ((h8 t).length=0):=by by_cases bJ:(h8 t).length=0<;>simp[bJ]
 have ak:∀b,b=js K t->(if b=true then ts.filter (λt=>js K t)=ts.filter (λt=>js K t)else True):=λb _=>by split<;>trivial
 cases bg:js K t with
 |true=>
  refine⟨o++[t],?_,?_,by simp;omega⟩
  .unfold js at bg;cases au:decide ((h8 t).length=0)with
   |true=>simp only[CP,go_sem,g7,yT ((i:Int)<ts.length),lZ aK,ab,lX,bD,au,ec,jG,dS,xbe,cN,el,T.vd,T.xe,xap,xar,xau,dM,hz,b1 (bt:=false) (i:=i) (by omega)]
   |false=>rw[au,xbN]at bg;rw[bg]at af;simp only[CP,go_sem,g7,yT ((i:Int)<ts.length),lZ aK,ab,af,lX,bD,au,ec,jG,dS,xbe,cN,el,T.vd,T.xe,xap,xar,xau,dM,hz,b1 (bt:=false) (i:=i) (by omega)]
  rw[xbd,xad bg];simp
 |false=>
  refine⟨o,?_,?_,by omega⟩;.unfold js at bg;obtain⟨au,aw⟩:=Bool.or_eq_false_iff.1 bg;rw[aw]at af;simp only[CP,go_sem,g7,yT ((i:Int)<ts.length),lZ aK,ab,af,lX,bD,au,ec,jG,dS,xbe,cN,b1 (bt:=false) (i:=i) (by omega)]
  rw[xbd,xac (by rw[bg];decide)]
section
variable{n:Nat}{K:List bl}(aM:1000000000<n)(fi:K.length<1000000)
include aM fi
theorem axZ(vs:List V)(a6:vs.length<=1000)(bb b4 cK c3 c4 dc dL dH eU fm fO gq fP gl hF hg iD iE iF iG iH jN:D):bp (CQ n) n [bA K,J 0,bb,b4,cK,c3,c4,dc,dL,dH,bj vs,eU,fm,fO,gq,fP,gl,hF,hg,iD,iE,iF,iG,iH,jN,D.ax 4 []]=some (.inl [bA K,bb,b4,cK,c3,c4,dc,dL,dH,bj vs,eU,fm,fO,gq,fP,gl,hF,hg,iD,iE,iF,iG,iH,jN,bj (vs.filter λv=>dP K v.name)]):=by
 have cN:∀l,D.ax 4 (ar (bj l))=bj l:=λ_=>rfl;have el:∀l,(ar (bj l)).length=l.length:=λl=>by simp[bj]
 have du:=dG (f:=CQ n) vs (λi (o:List V)=>[bA K,J (i:Int),bb,b4,cK,c3,c4,dc,dL,dH,bj vs,eU,fm,fO,gq,fP,gl,hF,hg,iD,iE,iF,iG,iH,jN,bj o]) (λr o=>(.inl [bA K,bb,b4,cK,c3,c4,dc,dL,dH,bj vs,eU,fm,fO,gq,fP,gl,hF,hg,iD,iE,iF,iG,iH,jN,bj (o++r.filter λv=>dP K v.name)]:List D⊕D)) (λi o=>o.length<=i) (λo _=>by simp only[CQ,go_sem,fB,yF ((vs.length:Int)<vs.length),cN,xbX,xaC]) ?_ n 0 [] (xal _) (by omega) (xai _);.have bF:(J ((0:Nat):Int))=J 0:=rfl;have aL:bj []= .ax 4 []:=rfl;rw[bF,aL]at du;simpa only[xak,xaH]using du
 intro i v o ag ah aF;left;have aB:=V.n3 v;have vt:D.agg [aC v.name,ay v.bool,J v.lo,J v.ah]=v.d:=rfl;have bR:ad v.d 1=ay v.bool:=rfl;have bY:ad v.d 2=J v.lo:=rfl;have ct:ad v.d 3=J v.ah:=rfl;have ae:a3 false 1 0 v.cells=some (aC v.name):=rfl;have hm:=I6 n K v.name (by omega) (by omega);have dM:c5 (o.length+1) 40=true:=gk (by omega) (by omega);have hz:D.ax 4 (ar (bj o)++[[aC v.name,ay v.bool,J v.lo,J v.ah]])=bj (o++[v]):=by simp[bj];rfl
 cases bg:dP K v.name with
 |true=>
  rw[bg]at hm;refine⟨o++[v],?_,?_,by simp;omega⟩;.simp only[CQ,go_sem,fB,yT ((i:Int)<vs.length),g5 ag,ae,hm,aB.1,aB.2.1,aB.2.2,bR,bY,ct,cN,el,xap,xar,xau,dM,hz,b1 (bt:=false) (i:=i) (by omega)]
  rw[xbd,xad bg];simp
 |false=>
  rw[bg]at hm;refine⟨o,?_,?_,by omega⟩;.simp only[CQ,go_sem,fB,yT ((i:Int)<vs.length),g5 ag,ae,hm,cN,b1 (bt:=false) (i:=i) (by omega)]
  rw[xbd,xac (by rw[bg];decide)]
theorem ax0(nx:List a8)(a6:nx.length<=1000000)(bb b4 cK c3 c4 dc dL dH eD eU fm fO fP gl hF hg iD iE iF iG iH:D)(w:List V):bp (CR n) n [bA K,J 0,bb,b4,cK,c3,c4,dc,dL,dH,eD,eU,fm,fO,aP nx,fP,gl,hF,hg,iD,iE,iF,iG,iH,bj w,D.ax 5 []]=some (.inl [bb,b4,cK,c3,c4,dc,dL,dH,hg,iD,iE,iF,iG,iH,bj w,aP (nx.filter λd=>dP K d.name)]):=by
 have cN:∀l,D.ax 5 (ar (aP l))=aP l:=λ_=>rfl;have cL:∀l,D.ax 4 (ar (bj l))=bj l:=λ_=>rfl;have el:∀l,(ar (aP l)).length=l.length:=λl=>by simp[aP]
 have du:=dG (f:=CR n) nx (λi (o:List a8)=>[bA K,J (i:Int),bb,b4,cK,c3,c4,dc,dL,dH,eD,eU,fm,fO,aP nx,fP,gl,hF,hg,iD,iE,iF,iG,iH,bj w,aP o]) (λr o=>(.inl [bb,b4,cK,c3,c4,dc,dL,dH,hg,iD,iE,iF,iG,iH,bj w,aP (o++r.filter λv=>dP K v.name)]:List D⊕D)) (λi o=>o.length<=i) (λo _=>by simp only[CR,go_sem,dT,yF ((nx.length:Int)<nx.length),cN,cL,xbX,xaC]) ?_ n 0 [] (xal _) (by omega) (xai _);.have bF:(J ((0:Nat):Int))=J 0:=rfl;have aL:aP []= .ax 5 []:=rfl;rw[bF,aL]at du;simpa only[xak,xaH]using du
 intro i v o ag ah aF;left;have hm:=I6 n K v.name (by omega) (by omega);have dM:c5 (o.length+1) 72=true:=gk (by omega) (by omega);have hz:D.ax 5 (ar (aP o)++[[aC v.name,J v.e.op,J v.e.num,aC v.e.name,cl 4 v.e.nl (Tm.rows v.e.aT)]])=aP (o++[v]):=by simp[aP];rfl
 cases bg:dP K v.name with
 |true=>
  rw[bg]at hm;refine⟨o++[v],?_,?_,by simp;omega⟩;.simp only[CR,go_sem,dT,yT ((i:Int)<nx.length),eZ ag,a8.fY,hm,a8.yv,a8.agg,a8.a7,a8.bR,a8.bY,a8.ct,a8.de,cN,cL,el,xap,xar,xau,dM,hz,b1 (bt:=false) (i:=i) (by omega)]
  rw[xbd,xad bg];simp
 |false=>
  rw[bg]at hm;refine⟨o,?_,?_,by omega⟩;.simp only[CR,go_sem,dT,yT ((i:Int)<nx.length),eZ ag,a8.fY,hm,cN,cL,b1 (bt:=false) (i:=i) (by omega)]
  rw[xbd,xac (by rw[bg];decide)]
end
def ax1{l:List V}(h:(j9 l).2=0):∀i v,l[i]?=some v->A0 (l.take i) v=0:=by intro i v a6;have ch:=(xae.1 a6).1;unfold j9 at h;cases bd:(List.range l.length).find? (λi=>jg l i !=0)with|none=>have:=List.find?_eq_none.1 bd i (by simp;exact ch);unfold jg at this;rw[a6]at this;simpa using this|some j=>rw[bd]at h;have:=List.find?_some bd;simp only at h;rw[h]at this;cases this
def ax2{l:List V}(h:(j9 l).2=0):(l.map V.name).Nodup:=by
 refine List.pairwise_iff_getElem.2 λi j ah aN gK e=>?_;rw[xaV]at ah aN;rw[List.getElem_map,List.getElem_map]at e;have ab:=ax1 h j l[j] (xab aN);unfold A0 at ab;split at ab
 .cases ab
 split at ab;.cases ab
 rename_i af;refine af ?_;unfold has;rw[xbt];refine⟨l[i].name,xax.2 ⟨l[i],?_,rfl⟩,by rw[e];simp⟩;rw[List.mem_take_iff_getElem];exact⟨i,by omega,rfl⟩
def ae9{f:Tm->Tm}(bd:rU f)(o:Int)(t:Tm):∀l,dO o (f t) l=dO o t l:=by
 refine Tm.ind (P:=λt=>∀l,dO o (f t) l=dO o t l) ?_ t;intro t ih l;have key:∀(ks:List Tm),(∀k∈ks,∀l,dO o (f k) l=dO o k l)->∀l,j0 o (ks.map f) l=j0 o ks l:=by
  intro ks
  induction ks with
  |nil=>intro _ l;rfl
  |cons k r Ja=>intro h l;rw[xaB,j0,j0,h k (by simp),Ja λx ag=>h x (by simp[ag])]
 rw[zX,zX o t,bd.op,bd.name,bd.aT,key t.aT ih]
def Va{f:Tm->Tm}(bd:rU f)(t:Tm):fh (f t)=fh t:=by unfold fh;rw[ae9 bd,ae9 bd]
def afa{vs:List V}{x:bl}{k:Nat}(h:fk vs x=some k):x∈vs.map V.name:=by obtain⟨v,ab,af,_⟩:=Ih h;exact xax.2 ⟨v,xaa ab,af⟩
def afb{vs:List V}{nx:Bool}{o:Int}(aF:o=3\/o=4)(t:Tm):Valid t->(hq vs nx t).2=0->∀l x,x∈dO o t l->x∈l\/x∈vs.map V.name:=by
 refine Tm.ind (P:=λt=>Valid t->(hq vs nx t).2=0->∀l x,x∈dO o t l->x∈l\/x∈vs.map V.name) ?_ t;intro t ih a6 h l x ag;rw[Dc]at h;rw[zX]at ag;by_cases a4:t.op<=4
 .rw[xad a4]at h;rw[a6.leaf a4,j0]at ag;by_cases afc:t.op=o
  .rw[xad afc]at ag;rcases Rd ag with rfl|ag
   .right;unfold pL at h;rw[xac (by omega),xac (by omega)]at h;split at h;.cases h
    rename_i k ak;exact afa ak
   exact .inl ag
  rw[xac afc]at ag;exact .inl ag
 rw[xac a4]at h;rw[xac (by omega)]at ag;by_cases ak:(g6 vs nx t.aT).2=0
 case neg=>rw[xad ak]at h;exact absurd h ak
 have key:∀(ks:List Tm),(∀k∈ks,(hq vs nx k).2=0->∀l x,x∈dO o k l->x∈l\/x∈vs.map V.name)->(g6 vs nx ks).2=0->∀l x,x∈j0 o ks l->x∈l\/x∈vs.map V.name:=by
  intro ks
  induction ks with
  |nil=>intro _ _ l x ag;exact .inl ag
  |cons k r Ja=>
   intro ab af l x ag;rw[g6]at af;by_cases bR:(hq vs nx k).2=0
   case neg=>rw[xad bR]at af;exact absurd af bR
   rw[xac (λq=>q bR)]at af;by_cases bY:(g6 vs nx r).2=0
   case neg=>rw[xad bY]at af;exact absurd af bY
   rw[j0]at ag;rcases Ja (λy aQ=>ab y (by simp[aQ])) bY _ x ag with aw|aw
   .exact ab k (by simp) bR l x aw
   exact .inr aw
 exact key t.aT (λk dj ab=>ih k dj (a6.gz dj) ab) ak l x ag
def ax3{vs:List V}{nx:Bool}{t:Tm}(h:(qx vs nx t).2=0):∀x∈fh t,x∈vs.map V.name:=by
 unfold qx at h;by_cases ao:(dg t 1 0).1=0
 case neg=>rw[xad ao]at h;exact absurd h ao
 rw[xac (λq=>q ao)]at h;have a6:Valid t:=⟨1,0,ao⟩;intro x ag;rcases xas.1 ag with ag|ag
 .rcases afb (.inl rfl) t a6 h [] x ag with ab|ab;.cases ab
  exact ab
 rcases afb (.inr rfl) t a6 h [] x ag with ab|ab;.cases ab
 exact ab
def ax4{m:aA}{nx:Bool}{t:Tm}(h:(gQ m nx t).2=0):(hY m.aR t).2=0/\∀x∈fh (hY m.aR t).1,x∈m.vars.map V.name:=by have au:=UF h;unfold gQ at h;rw[xac (λq=>q au)]at h;exact⟨au,ax3 h⟩
structure Vb(w:Tm->Tm):Prop where
 DC:rU w
 bo:∀t,(w t).bo=t.bo
def ax5:Vb ki:=⟨M7,TP⟩
def ax6:Vb gG:=⟨M8,T6⟩
noncomputable def oY(w:Tm->Tm)(l:List a8)(t:Tm):Tm:=w (hY l t).1
noncomputable def afd(w:Tm->Tm)(l:List a8)(d:a8):a8:=⟨d.name,oY w l d.e⟩
structure tH(m:aA)(n:Nat):Prop where
 ok:Dm m n
 fr:aen m
section
variable{m:aA}{n:Nat}(h:tH m n){w:Tm->Tm}(hw:Vb w)(bm:∀t,vf m.aR t (hY m.aR t)->(hY m.aR t).2=0->(w (hY m.aR t).1).cp)
include h hw bm
theorem Jb{t:Tm}{nx:Bool}(aF:t.cp)(aG:t.bo<=12300)(aK:(gQ m nx t).2=0):(oY w m.aR t).cp/\(oY w m.aR t).bo<=12300/\∀x∈fh (oY w m.aR t),x∈m.vars.map V.name:=by obtain⟨ab,af⟩:=ax4 aK;have aU:=h.ok.bo.M9 aF aG;have ag:=aU.x ab;refine⟨bm t aU ab,by unfold oY;rw[hw.bo];exact ag.2.1,?_⟩;unfold oY;rw[Va hw.DC];exact af
theorem afe:Al m.vars (m.bP.map (oY w m.aR)) (m.bQ.map (oY w m.aR)) (m.next.map (afd w m.aR)) (m.trans.map (oY w m.aR)) (m.bS.map (oY w m.aR)):=by
 have hm:=h.ok;have f:=h.fr;have cV:∀t∈m.bP,(gQ m false t).2=0:=λt aK=>(vp (xk f.i t aK)).1;have iA:∀t∈m.bQ,(gQ m false t).2=0:=λt aK=>(vp (xk f.bO t aK)).1;have MU:=aep f.nx;have q8:∀t∈m.trans,(gQ m true t).2=0:=λt aK=>(vp (xk f.t t aK)).1;have ax7:∀t∈m.bS,(gQ m false t).2=0:=λt aK=>(vp (xk f.f t aK)).1;have cK:=λt aK=>Jb h hw bm (hm.bP.2 t aK).1 (hm.bP.2 t aK).2 (cV t aK);have c3:=λt aK=>Jb h hw bm (hm.bQ.2 t aK).1 (hm.bQ.2 t aK).2 (iA t aK);have c4:=λt aK=>Jb h hw bm (hm.next.2 t aK).1 (hm.next.2 t aK).2 (MU t aK).1;have dc:=λt aK=>Jb h hw bm (hm.trans.2 t aK).1 (hm.trans.2 t aK).2 (q8 t aK);have dL:=λt aK=>Jb h hw bm (hm.bS.2 t aK).1 (hm.bS.2 t aK).2 (ax7 t aK);have T:∀(l:List Tm),l.length<=100->(∀t∈l,(oY w m.aR t).cp/\(oY w m.aR t).bo<=12300/\∀x∈fh (oY w m.aR t),x∈m.vars.map V.name)->jR (l.map (oY w m.aR)):=by intro l aq aE;refine⟨by rw[xaV];omega,λt aK=>?_⟩;obtain⟨z,ab,rfl⟩:=xax.1 aK;exact⟨(aE z ab).1,by have:=(aE z ab).2.1;omega⟩
 refine⟨by have:=hm.bo.oR;omega,T _ hm.bP.1 cK,T _ hm.bQ.1 c3,?_,T _ hm.trans.1 dc,T _ hm.bS.1 dL,?_⟩;.refine⟨by rw[xaV];have:=hm.next.1;omega,λd aB=>?_⟩;obtain⟨z,ab,rfl⟩:=xax.1 aB;exact⟨(c4 z ab).1,by have:=(c4 z ab).2.1;simp only[afd];omega⟩
 intro r av x ag;rcases xas.1 av with av|av
 .obtain⟨z,ab,rfl⟩:=xax.1 av;simp only[xas]at ab;rcases ab with((ab|ab)|ab)|ab;.obtain⟨t,af,rfl⟩:=xax.1 ab;exact(cK t af).2.2 x ag
  .obtain⟨t,af,rfl⟩:=xax.1 ab;exact(c3 t af).2.2 x ag
  .obtain⟨t,af,rfl⟩:=xax.1 ab;exact(dc t af).2.2 x ag
  obtain⟨t,af,rfl⟩:=xax.1 ab;exact(dL t af).2.2 x ag
 obtain⟨z,ab,rfl⟩:=xax.1 av;obtain⟨d,af,rfl⟩:=xax.1 ab;rcases xao.1 ag with rfl|ag;.obtain⟨k,ak⟩:=(MU d af).2;exact afa ak
 exact(c4 d af).2.2 x ag
end
def ax8{m:aA}{t:Tm}(aU:vf m.aR t (hY m.aR t))(au:(hY m.aR t).2=0):(ki (hY m.aR t).1).cp:=(aU.x au).2.2.2.1
def ax9{m:aA}{t:Tm}(aU:vf m.aR t (hY m.aR t))(au:(hY m.aR t).2=0):(gG (hY m.aR t).1).cp:=(aU.x au).2.2.2.2.1
def Vc{m:aA}{n:Nat}(h:tH m n):Al m.vars (m.bP.map (eT m.aR)) (m.bQ.map (eT m.aR)) (m.next.map (m1 m.aR)) (m.trans.map (eT m.aR)) (m.bS.map (eT m.aR)):=afe h ax5 λ_ aU au=>ax8 aU au
def Vd{m:aA}{n:Nat}(h:tH m n):Al m.vars (m.bP.map (fH m.aR)) (m.bQ.map (fH m.aR)) (m.next.map (oV m.aR)) (m.trans.map (fH m.aR)) (m.bS.map (fH m.aR)):=afe h ax6 λ_ aU au=>ax9 aU au
def Ol{m:aA}{n:Nat}(h:tH m n)(gJ:∀s∈m.bI,s.f.bo<=2000):UB m:=by
 have hm:=h.ok;have f:=h.fr;have Jc:∀{t:Tm}{nx:Bool},t.cp->t.bo<=12300->(gQ m nx t).2=0->oU m.aR t:=λaF aG aK=>⟨hm.bo.M9 aF aG,UF aK⟩;have aff:=av3 f.s;refine⟨λt aK=>Jc (hm.bP.2 t aK).1 (hm.bP.2 t aK).2 (vp (xk f.i t aK)).1,λt aK=>Jc (hm.bQ.2 t aK).1 (hm.bQ.2 t aK).2 (vp (xk f.bO t aK)).1,λd aB=>Jc (hm.next.2 d aB).1 (hm.next.2 d aB).2 (aep f.nx d aB).1,λt aK=>Jc (hm.trans.2 t aK).1 (hm.trans.2 t aK).2 (vp (xk f.t t aK)).1,λt aK=>Jc (hm.bS.2 t aK).1 (hm.bS.2 t aK).2 (vp (xk f.f t aK)).1,λs aG=>avR (avQ hm.bo.d hm.bo.dl s.f (hm.bI.2 s aG).1.1 (gJ s aG) (aff s aG).1 (av4 s.f (aff s aG).2)),?_⟩;have b:=hm.bP.1;have gW:=hm.bQ.1;have kz:=hm.next.1
 have n4:=hm.trans.1;have qz:=hm.bS.1;have tB:=hm.bI.1;exact⟨by omega,by omega,by omega,by omega,by omega,by omega⟩
def dI{α β:Type}(p:α->β->Bool):List α->List β->Bool
 |[],[]=>true|a::r,b::q=>p a b&&dI p r q|_,_=>false
def Ve{α β:Type}{p:α->β->Bool}:∀{a:List α}{b:List β},dI p a b=true->a.length=b.length
 |[],[],_=>rfl|x::a,y::b,h=>by simp only[dI,xam]at h;simp only[xap,Ve h.2]|[],_::_,h=>by cases h
 |_::_,[],h=>by cases h
def Jd{α β:Type}{p:α->β->Bool}{a:List α}{b:List β}(h:a.length≠b.length):dI p a b=false:=by cases bD:dI p a b with|false=>rfl|true=>exact absurd (Ve bD) h
def Ao{α β:Type}(p:α->β->Bool)(a:List α)(b:List β)(aq:a.length=b.length){f:List D->Option (List D⊕(List D⊕D))}(eQ:Nat->List D)(E:List D) (aG:∀i x y,a[i]?=some x->b[i]?=some y->i<a.length->f (eQ i)=some (if p x y=true then .inl (eQ (i+1))else .inr (.inr (ay false)))) (he:f (eQ a.length)=some (.inr (.inl E))) (n:Nat) (aM:a.length<n):bp f n (eQ 0)=some (if dI p a b=true then .inl E else .inr (ay false)):=by
 have key:∀(m i:Nat),i<=a.length->a.length-i<m->bp f m (eQ i)=some (if dI p (a.drop i) (b.drop i)=true then .inl E else .inr (ay false)):=by
  intro m
  induction m with
  |zero=>intro i _ h;exact absurd h (xay _)
  |succ m ih=>
   intro i ah hm;rw[jH];by_cases h:i<a.length
   .have aj:i<b.length:=by omega
    rw[aG i _ _ (xab h) (xab aj) h,xaZ h,xaZ aj,dI];cases aU:p a[i] b[i]with|true=>simp only[xaD,xbE,eH];exact ih (i+1) h (by omega)|false=>rfl
   have:i=a.length:=by omega
   subst this;rw[he,List.drop_length,aq,List.drop_length];rfl
 simpa using key n 0 (xai _) (by omega)
def kn(v w:V):Bool:=decide (v.name=w.name)&&((v.bool==w.bool)&&(v.lo==w.lo&&v.ah==w.ah))
def afg(v w:V):x1 [.string,.bool,.int .i64,.int .i64] .neq v.d w.d=some (ay (!kn v w)):=by
 obtain⟨mg,eI,mc,pX⟩:=v;obtain⟨tW,gW,mK,o0⟩:=w;have aG:∀a b:ByteArray,Instr.sameNow .string (.string a) (.string b)=some (decide (a=b)):=λa b=>by simp[Instr.sameNow,Jo]
 have gC:∀a b:Bool,Instr.sameNow .bool (.bool a) (.bool b)=some (a==b):=λa b=>rfl;have iz:∀a b:Int,Instr.sameNow (.int .i64) (.int .i64 a) (.int .i64 b)=some (a==b):=λa b=>rfl;simp only[x1,V.d,V.cells,Jp,qK,aC,ay,J,aG,gC,iz,kn];cases decide (mg=tW)<;>cases(eI==gW)<;>cases(mc==mK)<;>cases(pX==o0)<;>rfl
structure gm where
 vs:List V
 tq:Bool
 aO:List a8
 i:List Tm
 bO:List Tm
 nx:List a8
 t:List Tm
 f:List Tm
 Ap:Bool
 eG:List cy
def m7(b:Bool)(l:List a8):D:=cl 5 b (l.map a8.cells)
def lb(b:Bool)(l:List cy):D:=cl 7 b (l.map cy.cells)
def gm.d(m:gm):D:= .agg [bj m.vs,m7 m.tq m.aO,az m.i,az m.bO,aP m.nx,az m.t,az m.f,lb m.Ap m.eG]
def Om(l:List a8):m7 false l=aP l:=by unfold m7 aP;rw[Bp]
def aya(l:List cy):lb false l=bZ l:=by unfold lb bZ;rw[Bp]
def DE(b:Bool)(l:List a8):bK (m7 b l)=some (J l.length):=by simp[m7]
def xt(b:Bool)(l:List cy):bK (lb b l)=some (J l.length):=by simp[lb]
theorem DF{b:Bool}{l:List a8}{i:Nat}{d:a8}(h:l[i]?=some d):bn 5 (m7 b l) (J (i:Int))=some d.cells:=by rw[m7,E5,xaj,h];rfl
theorem DG{b:Bool}{l:List cy}{i:Nat}{d:cy}(h:l[i]?=some d):bn 7 (lb b l) (J (i:Int))=some d.cells:=by rw[lb,E5,xaj,h];rfl
theorem Vf(b:Bool)(l:List a8):(m7 b l).one=true:=by unfold m7 cl;split<;>rfl
theorem Vg(b:Bool)(l:List cy):(lb b l).one=true:=by unfold lb cl;split<;>rfl
def iT(a b:a8):Bool:=decide (a.name=b.name)&&ek a.e b.e
def r8(a b:cy):Bool:=decide (a.name=b.name)&&xc a.f b.f
def Vh(l:List cy):Prop:=l.length<=1000000/\∀s∈l,s.f.cp/\s.f.bo<=30000000
structure qH(m:gm):Prop where
 v:m.vs.length<=1000
 d:qG m.aO
 i:jR m.i
 bO:jR m.bO
 n:qG m.nx
 t:jR m.t
 f:jR m.f
 s:Vh m.eG
def On(a b:gm):Bool:=decide (a.vs.length=b.vs.length)&&(decide (a.eG.length=b.eG.length)&&(dI kn a.vs b.vs&&(dI r8 a.eG b.eG&&(dI iT a.aO b.aO&&(dI iT a.nx b.nx&&(dI ek a.i b.i&&(dI ek a.bO b.bO&&(dI ek a.t b.t&&dI ek a.f b.f))))))))
def ayb(a b:Tm):xc (.mk 0 a true []) (.mk 0 b true [])=ek a b:=by rw[acZ];simp only[Fm.op,Fm.e,Fm.aT,xar,xd,xbr,xbE,xbs]
def oa(a b:Nat):((a:Int) !=(b:Int))=!decide (a=b):=by
 by_cases h:a=b;.simp[h]
 have af:¬(a:Int)=(b:Int):=by omega
 simp[h,af]
section
variable{n:Nat}(aM:1000000000<n)
include aM
theorem Je{a b:List Tm}(aE:jR a)(aj:jR b):rL n [az a,az b]=some (ay (dI ek a b)):=by
 by_cases aq:a.length=b.length
 case neg=>simp only[rL,S1,go_sem,g7,oa,aq,xbG,Jd aq]
 have kW:=aE.1;have h:=Ao ek a b aq (f:=HO n) (λi=>[az a,az b,J (i:Int)]) [] (λi x y ag aQ ah=>by
  obtain⟨dw,da⟩:=aE.2 x (xaa ag);obtain⟨bw,bz⟩:=aj.2 y (xaa aQ);have au:(Fm.mk 0 x true []).cp:= .mk _ _ _ _ (by omega) dw (by simp) (by simp);have ab:(Fm.mk 0 y true []).cp:= .mk _ _ _ _ (by omega) bw (by simp) (by simp);have aG:=TT n (.mk 0 x true []) (.mk 0 y true []) (by simp only[Fm.bo,Fm.dN];omega) au ab;rw[ayb]at aG;have aL:D.agg [J 0,J x.op,J x.num,aC x.name,cl 4 x.nl (Tm.rows x.aT),D.val (.slice none 0 0)]=(Fm.mk 0 x true []).d:=rfl;have aX:D.agg [J 0,J y.op,J y.num,aC y.name,cl 4 y.nl (Tm.rows y.aT),D.val (.slice none 0 0)]=(Fm.mk 0 y true []).d:=rfl;cases bg:ek x y
  .rw[bg]at aG;simp only[HO,go_sem,g7,yT ((i:Int)<a.length),lZ ag,lZ aQ,aL,aX,aG]
  .rw[bg]at aG;simp only[HO,go_sem,g7,yT ((i:Int)<a.length),lZ ag,lZ aQ,aL,aX,aG,b1 (bt:=false) (i:=i) (by omega)]) (by
  simp only[HO,go_sem,g7,yF ((a.length:Int)<a.length)]) n (by omega)
 have bF:(J ((0:Nat):Int))=J 0:=rfl;rw[bF]at h;cases bD:dI ek a b<;>simp only[bD,xaD,xaF,xat]at h<;>simp only[rL,S1,go_sem,g7,oa,aq,xbr,h]
theorem afh{u w:Bool}{a b:List a8}(aE:qG a)(aj:qG b):zM n [m7 u a,m7 w b]=some (ay (dI iT a b)):=by
 by_cases aq:a.length=b.length
 case neg=>simp only[zM,S2,go_sem,DE,oa,aq,xbG,Jd aq]
 have kW:=aE.1;have h:=Ao iT a b aq (f:=CT n) (λi=>[m7 u a,m7 w b,J (i:Int)]) [] (λi x y ag aQ ah=>by
  obtain⟨dw,da⟩:=aE.2 x (xaa ag);obtain⟨bw,bz⟩:=aj.2 y (xaa aQ);have aG:=Je aM (a:=[x.e]) (b:=[y.e]) ⟨by simp,by simpa using⟨dw,da⟩⟩ ⟨by simp,by simpa using⟨bw,bz⟩⟩;have aL:∀t:Tm,D.ax 4 [[J t.op,J t.num,aC t.name,cl 4 t.nl (Tm.rows t.aT)]]=az [t]:=λt=>by rw[T.vd];rfl
  have bD:dI ek [x.e] [y.e]=ek x.e y.e:=by simp[dI]
  rw[bD]at aG;by_cases nt:x.name=y.name
  case neg=>
   have bg:iT x y=false:=by simp[iT,nt]
   simp only[CT,go_sem,DE,yT ((i:Int)<a.length),DF ag,DF aQ,a8.fY,xaE nt,QX,dS,xbe,bg]
  cases bg:ek x.e y.e
  .have sG:iT x y=false:=by simp[iT,bg]
   rw[bg]at aG;simp only[CT,go_sem,DE,yT ((i:Int)<a.length),DF ag,DF aQ,a8.fY,a8.ho,xav nt,QX,dS,aL,aG,sG]
  .have sG:iT x y=true:=by simp[iT,bg,nt]
   rw[bg]at aG;simp only[CT,go_sem,DE,yT ((i:Int)<a.length),DF ag,DF aQ,a8.fY,a8.ho,xav nt,QX,dS,aL,aG,sG,b1 (bt:=false) (i:=i) (by omega)]) (by
  simp only[CT,go_sem,DE,yF ((a.length:Int)<a.length)]) n (by omega)
 have bF:(J ((0:Nat):Int))=J 0:=rfl;rw[bF]at h;cases bD:dI iT a b<;>simp only[bD,xaD,xaF,xat]at h<;>simp only[zM,S2,go_sem,DE,oa,aq,xbr,h]
theorem ayc{vs ws:List V}(a6:vs.length<=1000)(aq:vs.length=ws.length)(bb b4 cK c3 c4 dc dL eD eU fm fO gq fP gl:D):bp (CU n) n [J 0,bj vs,bb,b4,cK,c3,c4,dc,dL,bj ws,eD,eU,fm,fO,gq,fP,gl]=some (if dI kn vs ws=true then .inl [bj vs,bb,b4,cK,c3,c4,dc,dL,bj ws,eD,eU,fm,fO,gq,fP,gl]else .inr (ay false)):=by
 have h:=Ao kn vs ws aq (f:=CU n) (λi=>[J (i:Int),bj vs,bb,b4,cK,c3,c4,dc,dL,bj ws,eD,eU,fm,fO,gq,fP,gl]) [bj vs,bb,b4,cK,c3,c4,dc,dL,bj ws,eD,eU,fm,fO,gq,fP,gl] (λi x y ag aQ ah=>by
  have he:=afg x y;cases bg:kn x y;.rw[bg]at he;simp only[CU,go_sem,fB,yT ((i:Int)<vs.length),g5 ag,g5 aQ,(V.n3 x).1,(V.n3 y).1,he]
  .rw[bg]at he;simp only[CU,go_sem,fB,yT ((i:Int)<vs.length),g5 ag,g5 aQ,(V.n3 x).1,(V.n3 y).1,he,b1 (bt:=false) (i:=i) (by omega)]) (by
  simp only[CU,go_sem,fB,yF ((vs.length:Int)<vs.length)]) n (by omega)
 exact h
theorem ayd{u w:Bool}{a b:List cy}(aE:Vh a)(aj:Vh b)(aq:a.length=b.length)(an bb b4 cK c3 c4 dc dH eD eU fm fO gq fP:D):bp (zN n) n [J 0,an,bb,b4,cK,c3,c4,dc,lb u a,dH,eD,eU,fm,fO,gq,fP,lb w b]=some (if dI r8 a b=true then .inl [an,bb,b4,cK,c3,c4,dc,lb u a,dH,eD,eU,fm,fO,gq,fP,lb w b]else .inr (ay false)):=by
 have kW:=aE.1;have h:=Ao r8 a b aq (f:=zN n) (λi=>[J (i:Int),an,bb,b4,cK,c3,c4,dc,lb u a,dH,eD,eU,fm,fO,gq,fP,lb w b]) [an,bb,b4,cK,c3,c4,dc,lb u a,dH,eD,eU,fm,fO,gq,fP,lb w b] (λi x y ag aQ ah=>by
  obtain⟨dw,da⟩:=aE.2 x (xaa ag);obtain⟨bw,bz⟩:=aj.2 y (xaa aQ);have aG:=TT n x.f y.f (by omega) dw bw;by_cases nt:x.name=y.name
  case neg=>
   have bg:r8 x y=false:=by simp[r8,nt]
   simp only[zN,go_sem,xt,yT ((i:Int)<a.length),DG ag,DG aQ,cy.fY,xaE nt,ec,jG,dS,xbe,bg]
  cases bg:xc x.f y.f
  .have sG:r8 x y=false:=by simp[r8,bg]
   rw[bg]at aG;simp only[zN,go_sem,xt,yT ((i:Int)<a.length),DG ag,DG aQ,cy.fY,cy.ho,xav nt,ec,jG,dS,aG,sG]
  .have sG:r8 x y=true:=by simp[r8,bg,nt]
   rw[bg]at aG;simp only[zN,go_sem,xt,yT ((i:Int)<a.length),DG ag,DG aQ,cy.fY,cy.ho,xav nt,ec,jG,dS,aG,sG,b1 (bt:=false) (i:=i) (by omega)]) (by
  simp only[zN,go_sem,xt,yF ((a.length:Int)<a.length)]) n (by omega)
 exact h
theorem gm.oT(m:gm):a5 8 m.d=true:=by simp only[gm.d,K8,Vf,Vg];rfl
theorem aye{a b:gm}(aE:qH a)(aj:qH b):u0 n [a.d,b.d]=some (ay (On a b)):=by
 have aW:=gm.oT aM a;have a2:=gm.oT aM b;have cs:∀m:gm,ad m.d 0=bj m.vs/\ad m.d 1=m7 m.tq m.aO/\ad m.d 2=az m.i/\ad m.d 3=az m.bO/\ad m.d 4=aP m.nx/\ad m.d 5=az m.t/\ad m.d 6=az m.f/\ad m.d 7=lb m.Ap m.eG:=λm=>⟨rfl,rfl,rfl,rfl,rfl,rfl,rfl,rfl⟩;obtain⟨a7,bR,bY,ct,de,ee,ef,e2⟩:=cs a;obtain⟨d0,d1,d2,d3,d4,d5,d6,d7⟩:=cs b;unfold On;by_cases a6:a.vs.length=b.vs.length
 case neg=>simp only[u0,CV,aW,a2,a7,d0,go_sem,fB,oa,a6,xbG,ec,jG,dS,xbe,Bool.not_false,xbk]
 by_cases aG:a.eG.length=b.eG.length
 case neg=>simp only[u0,CV,aW,a2,a7,d0,e2,d7,go_sem,fB,xt,oa,a6,aG,xbG,xbr,ec,jG,dS,xbe,Bool.not_false,xbk,Bool.and_false]
 have vk:=λbb b4 cK c3 c4 dc dL eD eU fm fO gq fP gl=>ayc aM aE.v a6 bb b4 cK c3 c4 dc dL eD eU fm fO gq fP gl;have Oo:=λan bb b4 cK c3 c4 dc dH eD eU fm fO gq fP=>ayd aM (u:=a.Ap) (w:=b.Ap) aE.s aj.s aG an bb b4 cK c3 c4 dc dH eD eU fm fO gq fP;have t1:=afh aM (u:=a.tq) (w:=b.tq) aE.d aj.d;have t2:=afh aM (u:=false) (w:=false) aE.n aj.n;rw[Om,Om]at t2;have t3:=Je aM aE.i aj.i;have t4:=Je aM aE.bO aj.bO;have t5:=Je aM aE.t aj.t;have t6:=Je aM aE.f aj.f;cases hT:dI kn a.vs b.vs
 .simp only[hT,xaF,xat]at vk;simp only[u0,CV,aW,a2,a7,bR,bY,ct,de,ee,ef,e2,d0,d1,d2,d3,d4,d5,d6,d7,go_sem,fB,xt,oa,a6,aG,xbr,ec,jG,dS,vk,xbk,Bool.and_false]
 simp only[hT,xaD]at vk;cases o2:dI r8 a.eG b.eG;.simp only[o2,xaF,xat]at Oo;simp only[u0,CV,aW,a2,a7,bR,bY,ct,de,ee,ef,e2,d0,d1,d2,d3,d4,d5,d6,d7,go_sem,fB,xt,oa,a6,aG,xbr,ec,jG,dS,vk,Oo,xbk,Bool.and_false]
 simp only[o2,xaD]at Oo;cases MF:dI iT a.aO b.aO<;>cases MG:dI iT a.nx b.nx<;>cases Vi:dI ek a.i b.i<;>cases Vj:dI ek a.bO b.bO<;>cases Vk:dI ek a.t b.t<;>cases Vl:dI ek a.f b.f<;>
  simp only[MF,MG,Vi,Vj,Vk,Vl]at t1 t2 t3 t4 t5 t6<;>
  simp only[u0,CV,aW,a2,a7,bR,bY,ct,de,ee,ef,e2,d0,d1,d2,d3,d4,d5,d6,d7,go_sem,fB,xt,oa,a6,aG,xbr,ec,jG,dS,vk,Oo,t1,t2,t3,t4,t5,t6,xbk,Bool.and_false]
end
set_option maxHeartbeats 4000000 in
theorem ayf(n:Nat):HV (n+300) []=some (ay true):=by kernel_rfl
def Jf:D:= .agg [eR,eR,eR,eR,eR,eR,eR,eR]
noncomputable def m8(m:aA):gm:=⟨m.vars,true,[],m.bP.map (eT m.aR),m.bQ.map (eT m.aR),m.next.map (m1 m.aR),m.trans.map (eT m.aR),m.bS.map (eT m.aR),false,m.bI.map (tD m.aR)⟩
noncomputable def ep(m:aA):gm:=⟨m.vars,true,[],m.bP.map (fH m.aR),m.bQ.map (fH m.aR),m.next.map (oV m.aR),m.trans.map (fH m.aR),m.bS.map (fH m.aR),false,m.bI.map (vo m.aR)⟩
theorem afi(m:aA):(m8 m).d=Dq m:=rfl
theorem afj(m:aA):(ep m).d=UC m:=rfl
theorem gm.eta(m:gm):D.agg [ad m.d 0,ad m.d 1,ad m.d 2,ad m.d 3,ad m.d 4,ad m.d 5,ad m.d 6,ad m.d 7]=m.d:=rfl
theorem aA.r9(m:aA):D.agg [ad m.d 0,ad m.d 1,ad m.d 2,ad m.d 3,ad m.d 4,ad m.d 5,ad m.d 6,ad m.d 7]=m.d:=rfl
theorem gm.DH(m:gm):a5 8 m.d=true:=by simp only[gm.d,K8,Vf,Vg];rfl
theorem gm.ayg(m:gm):((ad m.d 0).one&&((ad m.d 1).one&&((ad m.d 2).one&&((ad m.d 3).one&&((ad m.d 4).one&&((ad m.d 5).one&&((ad m.d 6).one&&(ad m.d 7).one)))))))=true:=by show((bj m.vs).one&&((m7 m.tq m.aO).one&&((az m.i).one&&((az m.bO).one&&((aP m.nx).one&&((az m.t).one&&((az m.f).one&&(lb m.Ap m.eG).one)))))))=true;rw[Vf,Vg];rfl
theorem afk:a5 8 Jf=true:=rfl
def qI(a b:Int):a5 2 (.agg [J a,J b])=true:=by simp
structure vu(m:aA)(n:Nat):Prop where
 ok:Dm m n
 eG:∀s∈m.bI,s.f.bo<=2000
 ir:18446744073709551616<n
theorem Oq(p:Int×(Int×Int)):eK p= .a1 [.agg [J p.1,J p.2.1],J p.2.2]:=rfl
def O8{m:aA}{n:Nat}(h:vu m n):tg n [m.d]=some (.a1 (if(kl m).2.2=0 then[Dq m,ay true]else[Jf,ay false])):=by
 have ao:=ad7 h.ok;rw[Oq]at ao;by_cases bD:(kl m).2.2=0;.have bm:tH m n:=⟨h.ok,Ds.1 bD⟩;have ig:=avW (Ol bm h.eG) n (by have:=h.ir;omega);rw[<-afi]at ig⊢;have g:=gm.DH (m8 m);have Dy:((0:Int) !=0)=false:=rfl;have hT:((0:Int)==0)=true:=rfl;rw[xad bD];rw[bD]at ao;simp only[tg,S6,aA.agg,aA.r9,go_sem,ao,qI,Dy,ig,gm.eta,g,hT,gm.ayg]
 have Vm:((kl m).2.2 !=0)=true:=by simp[bD]
 rw[xac bD];simp only[tg,S6,aA.agg,aA.r9,go_sem,ao,qI,Vm];rfl
def Vn(l:List a8)(t:Tm):fh (eT l t)=fh (fH l t):=by unfold eT fH;rw[Va M7,Va M8]
def afl(m:aA):mE (m.bP.map (eT m.aR)) (m.bQ.map (eT m.aR)) (m.next.map (m1 m.aR)) (m.trans.map (eT m.aR)) (m.bS.map (eT m.aR))=mE (m.bP.map (fH m.aR)) (m.bQ.map (fH m.aR)) (m.next.map (oV m.aR)) (m.trans.map (fH m.aR)) (m.bS.map (fH m.aR)):=by
 have e:(fh∘eT m.aR)=(fh∘fH m.aR):=funext λt=>Vn m.aR t;have aX:((λd:a8=>d.name::fh d.e)∘m1 m.aR)=((λd:a8=>d.name::fh d.e)∘oV m.aR):=funext λd=>by simp only[Function.comp,m1,oV,Vn]
 simp only[mE,List.map_append,List.map_map,e,aX]
def oZ(m:gm)(K:List bl):gm:=⟨m.vs.filter λv=>dP K v.name,true,[],m.i.filter λt=>l4 K t,m.bO.filter λt=>l4 K t,m.nx.filter λd=>dP K d.name,m.t.filter λt=>l4 K t,m.f.filter λt=>l4 K t,true,[]⟩
def l5(m:gm)(K:List bl):gm:=⟨m.vs.filter λv=>dP K v.name,true,[],m.i.filter λt=>js K t,m.bO.filter λt=>js K t,m.nx.filter λd=>dP K d.name,m.t.filter λt=>js K t,m.f.filter λt=>js K t,true,[]⟩
structure Ot(m:aA)(n:Nat)(Aq xu:D)(l K K':List bl):Prop where
 a:uT n [Dq m,Aq]=some (bA K)
 b:CO n [UC m,xu]=some (bA K')
 k:K.length<=100
 bq:K'.length<=100
 aAm:iP K
 own:K'.Nodup
 mem:∀x,x∈K↔x∈K'
 vars:∀x,x∈K->x∈m.vars.map V.name
 row:∀r∈mE (m.bP.map (eT m.aR)) (m.bQ.map (eT m.aR)) (m.next.map (m1 m.aR)) (m.trans.map (eT m.aR)) (m.bS.map (eT m.aR)),∀x∈r,∀y∈r,x∈K->y∈K
 ask:∀x,x∈l->x∈m.vars.map V.name->x∈K
 min:∀C:bl->Prop,Aj (mE (m.bP.map (eT m.aR)) (m.bQ.map (eT m.aR)) (m.next.map (m1 m.aR)) (m.trans.map (eT m.aR)) (m.bS.map (eT m.aR))) C->(∀x∈l,x∈m.vars.map V.name->C x)->∀x∈K,C x
def ayh{m:aA}{n:Nat}(h:vu m n)(bD:(kl m).2.2=0)(IW gS:Bool)(l:List bl)(aq:l.length<100000000):∃K K',Ot m n (gP IW l) (gP gS l) l K K':=by
 have bm:tH m n:=⟨h.ok,Ds.1 bD⟩;have kX:=ax2 bm.fr.v;have ayi:=Vc bm;have Ou:=Vd bm;have afm:=h.ir;have Dj:=h.ok.bo.oR;obtain⟨rep,K,an,bb,b4,cK,c3,c4⟩:=axw ayi kX (dd:=eR) rfl (m.bI.map (tD m.aR)) n (by omega) IW l (by omega);have eI:=axY Ou kX (dd:=eR) rfl (m.bI.map (vo m.aR)) n (by omega) gS l aq;have mL:=bb;have afn:=b4
 rw[afl]at mL afn;have ic:=axX Ou kX l mL afn;have jw:=axV Ou kX l;have g8:=axW Ou kX l;have hm:∀x,x∈K↔x∈DD m.vars (m.bP.map (fH m.aR)) (m.bQ.map (fH m.aR)) (m.next.map (oV m.aR)) (m.trans.map (fH m.aR)) (m.bS.map (fH m.aR)) l:=λx=>by rw[c4,ic]
 have b6:=IZ jw.1 jw.2;rw[xaV]at b6;refine⟨K,_,an,eI,by omega,by omega,cK,jw.1,hm,λx ag=>((c4 x).1 ag).1,?_,?_,?_⟩;.intro r av x ag y aQ fi;rw[afl]at av;obtain⟨q,bw,bz⟩:=Oh.1 r av;exact(hm y).2 (g8 q bw x ((bz x).1 ag) y ((bz y).1 aQ) ((hm x).1 fi))
 .intro x ag a6;exact(c4 x).2 ⟨a6,x,ag,a6,rfl⟩
 intro C b8 au x ag;obtain⟨ab,a,af,aw,a4⟩:=(c4 x).1 ag;exact bb C b8 a x aw ab a4 (au a af aw)
section
variable{m:aA}{n:Nat}{Aq xu:D}{l K K':List bl}(c:Ot m n Aq xu l K K')
include c
theorem afo(x:bl):dP K x=dP K' x:=by cases h:dP K' x with|true=>exact r4.2 ((c.mem x).2 (r4.1 h))|false=>exact UW.2 λag=>UW.1 h ((c.mem x).1 ag)
theorem ayj{t:Tm}(aK:t∈m.bP\/t∈m.bQ\/t∈m.trans\/t∈m.bS):l4 K (eT m.aR t)=js K' (fH m.aR t):=by
 have av:fh (eT m.aR t)∈mE (m.bP.map (eT m.aR)) (m.bQ.map (eT m.aR)) (m.next.map (m1 m.aR)) (m.trans.map (eT m.aR)) (m.bS.map (eT m.aR)):=by
  refine xas.2 (.inl (xax.2 ⟨eT m.aR t,?_,rfl⟩));simp only[xas];rcases aK with h|h|h|h
  .exact .inl (.inl (.inl (xax.2 ⟨t,h,rfl⟩)))
  .exact .inl (.inl (.inr (xax.2 ⟨t,h,rfl⟩)))
  .exact .inl (.inr (xax.2 ⟨t,h,rfl⟩))
  exact .inr (xax.2 ⟨t,h,rfl⟩)
 have nE:=c.row _ av;have aj:∀x,x∈h8 (fH m.aR t)↔x∈fh (eT m.aR t):=λx=>by rw[I7,Vn]
 have gu:l4 K (eT m.aR t)=true↔∀x∈fh (eT m.aR t),x∈K:=by unfold l4;rw[xbZ,List.any_eq_false];simp only[Bool.not_eq_true,Bool.not_eq_false',r4]
 have Qq:js K' (fH m.aR t)=true↔(h8 (fH m.aR t)=[]\/∃x∈h8 (fH m.aR t),x∈K'):=by unfold js;rw[xbb,xaG,List.length_eq_zero_iff,UX]
 have key:l4 K (eT m.aR t)=true↔js K' (fH m.aR t)=true:=by
  rw[gu,Qq];constructor
  .intro h;cases Vo:h8 (fH m.aR t)with
   |nil=>exact .inl rfl
   |cons x r=>
    have ag:x∈h8 (fH m.aR t):=by rw[Vo];simp
    exact .inr ⟨x,by simp,(c.mem x).1 (h x ((aj x).1 ag))⟩
  rintro(h|⟨x,ab,af⟩);.intro x ag;have:=(aj x).2 ag;rw[h]at this;cases this
  intro y aQ;exact nE x ((aj x).1 ab) y aQ ((c.mem x).2 af)
 cases ab:l4 K (eT m.aR t)<;>cases af:js K' (fH m.aR t)<;>simp_all
end
def Ov{α:Type}(p:α->Bool)(l:List α):(l.filter p).length<=l.length:=List.length_filter_le p l
def jR.filter{l:List Tm}(h:jR l)(p:Tm->Bool):jR (l.filter p):=⟨xbV (Ov p l) h.1,λt aK=>h.2 t (xby.1 aK).1⟩
def qG.filter{l:List a8}(h:qG l)(p:a8->Bool):qG (l.filter p):=⟨xbV (Ov p l) h.1,λt aK=>h.2 t (xby.1 aK).1⟩
def ayk{m:gm}(h:qH m)(K:List bl):qH (oZ m K):=⟨xbV (Ov _ _) h.v,⟨by simp[oZ],by simp[oZ]⟩,h.i.filter _,h.bO.filter _,h.n.filter _,h.t.filter _,h.f.filter _,⟨by simp[oZ],by simp[oZ]⟩⟩
def ayl{m:gm}(h:qH m)(K:List bl):qH (l5 m K):=⟨xbV (Ov _ _) h.v,⟨by simp[l5],by simp[l5]⟩,h.i.filter _,h.bO.filter _,h.n.filter _,h.t.filter _,h.f.filter _,⟨by simp[l5],by simp[l5]⟩⟩
section
variable{m:aA}{n:Nat}(h:vu m n)(bD:(kl m).2.2=0)
include h bD
theorem aym:qH (m8 m):=by have bm:tH m n:=⟨h.ok,Ds.1 bD⟩;have f:=Vc bm;have aG:=(Ol bm h.eG).s;refine⟨f.a6,⟨by simp[m8],by simp[m8]⟩,f.ah,f.xq,f.mH,f.aK,f.bd,?_⟩;refine⟨by have:=h.ok.bI.1;simp only[m8,xaV];omega,λs r1=>?_⟩;obtain⟨z,hT,rfl⟩:=xax.1 r1;have q:=aG z hT;exact⟨q.an,by have:=q.s1;simp only[tD];omega⟩
theorem ayn:qH (ep m):=by have bm:tH m n:=⟨h.ok,Ds.1 bD⟩;have f:=Vd bm;have aG:=(Ol bm h.eG).s;refine⟨f.a6,⟨by simp[ep],by simp[ep]⟩,f.ah,f.xq,f.mH,f.aK,f.bd,?_⟩;refine⟨by have:=h.ok.bI.1;simp only[ep,xaV];omega,λs r1=>?_⟩;obtain⟨z,hT,rfl⟩:=xax.1 r1;have q:=aG z hT;exact⟨q.bb,by have:=q.s2;simp only[vo];omega⟩
end
section
variable{m:aA}{n:Nat}(h:vu m n)
include h
theorem ayo{Aq xu:D}{l K K':List bl}(bD:(kl m).2.2=0)(c:Ot m n Aq xu l K K'):zJ n [m.d,xu]=some (.a1 [(l5 (ep m) K').d,J 0]):=by
 have bm:tH m n:=⟨h.ok,Ds.1 bD⟩;have afm:=h.ir;have ao:=Uo h.ok;rw[Oq,bD]at ao;have ig:=avX (Ol bm h.eG) n (by omega);rw[<-afj]at ig;have f:=Vd bm;have ak:=c.bq;have aj:=c.b;rw[<-afj]at aj;have aW:=gm.DH (ep m);have Dy:((0:Int) !=0)=false:=rfl;have a7:ad (ep m).d 0=bj (ep m).vs:=rfl;have bR:ad (ep m).d 1=m7 (ep m).tq (ep m).aO:=rfl;have bY:ad (ep m).d 2=az (ep m).i:=rfl;have ct:ad (ep m).d 3=az (ep m).bO:=rfl;have de:ad (ep m).d 4=aP (ep m).nx:=rfl;have ee:ad (ep m).d 5=az (ep m).t:=rfl;have ef:ad (ep m).d 6=az (ep m).f:=rfl;have e2:ad (ep m).d 7=lb (ep m).Ap (ep m).eG:=rfl;have hi:D.agg [bj (ep m).vs,m7 (ep m).tq (ep m).aO,az (ep m).i,az (ep m).bO,aP (ep m).nx,az (ep m).t,az (ep m).f,lb (ep m).Ap (ep m).eG]=(ep m).d:=rfl;have gL:∀l,bE (az l)=true:=λ_=>rfl;have ayp:∀l,(az l).one=true:=λ_=>rfl;have ayq:∀l,(bj l).one=true:=λ_=>rfl;have ayr:∀l,(aP l).one=true:=λ_=>rfl;have mg:nL eR=true:=rfl;have cE:=Ok (n:=n) (K:=K') (by omega) (by omega) _ f.ah;have dz:=Ok (n:=n) (K:=K') (by omega) (by omega) _ f.xq;have g2:=Ok (n:=n) (K:=K') (by omega) (by omega) _ f.aK;have pq:=Ok (n:=n) (K:=K') (by omega) (by omega) _ f.bd;have ays:=λbb b4 cK c3 c4 dc dL dH eU fm fO gq fP gl hF hg iD iE iF iG iH jN=>axZ (n:=n) (K:=K') (by omega) (by omega) (ep m).vs f.a6 bb b4 cK c3 c4 dc dL dH eU fm fO gq fP gl hF hg iD iE iF iG iH jN;have ayt:=λbb b4 cK c3 c4 dc dL dH eD eU fm fO fP gl hF hg iD iE iF iG iH w=>ax0 (n:=n) (K:=K') (by omega) (by omega) (ep m).nx f.mH.1 bb b4 cK c3 c4 dc dL dH eD eU fm fO fP gl hF hg iD iE iF iG iH w
 have cL:∀l,D.ax 4 (ar (bj l))=bj l:=λ_=>rfl;have ea:∀l,D.ax 5 (ar (aP l))=aP l:=λ_=>rfl;have fin:D.a1 [D.agg [bj ((ep m).vs.filter λv=>dP K' v.name),eR,az ((ep m).i.filter λt=>js K' t),az ((ep m).bO.filter λt=>js K' t),aP ((ep m).nx.filter λd=>dP K' d.name),az ((ep m).t.filter λt=>js K' t),az ((ep m).f.filter λt=>js K' t),eR],J 0]= .a1 [(l5 (ep m) K').d,J 0]:=rfl;simp only[zJ,SZ,aA.agg,aA.r9,go_sem,ao,qI,Dy,ig,aW,a7,bR,bY,ct,de,ee,ef,e2,hi,aj];rw[show qq n [az (ep m).i,bA K']=some (az ((ep m).i.filter λt=>js K' t))from cE,show qq n [az (ep m).bO,bA K']=some (az ((ep m).bO.filter λt=>js K' t))from dz,show qq n [az (ep m).t,bA K']=some (az ((ep m).t.filter λt=>js K' t))from g2,show qq n [az (ep m).f,bA K']=some (az ((ep m).f.filter λt=>js K' t))from pq];simp only[go_sem,gL,ayp,ayq,ayr,ays,mg,ayt,cL,ea,fin]
theorem ayu{L:D}(bD:¬(kl m).2.2=0):zJ n [m.d,L]=some (.a1 [Jf,J 1]):=by
 have ao:=Uo h.ok;rw[Oq]at ao;have Vm:((kl m).2.2 !=0)=true:=by simp[bD]
 simp only[zJ,SZ,aA.agg,aA.r9,go_sem,ao,qI,Vm];rfl
end
def afp{m:aA}{n:Nat}(hw:tA m)(h:UD m)(aM:18446744073709551616<n):vu m n:=⟨av2 hw h aM,λs aG=>by have:=h.s s aG;omega,aM⟩
def Ow{α:Type}(f:α->Nat):∀l:List α,∃S,∀x∈l,f x<=S
 |[]=>⟨0,by simp⟩|a::r=>by obtain⟨S,h⟩:=Ow f r;exact⟨S+f a,λx ag=>by rcases xao.1 ag with rfl|ag;omega;have:=h x ag;omega⟩
def afq(m:aA):∃N,∀n,N<=n->18446744073709551616<n/\IL m n:=by
 obtain⟨A,dy⟩:=Ow (λd:a8=>d.e.bo) m.aR;obtain⟨B,gC⟩:=Ow (λd:a8=>d.e.bo) m.next
 obtain⟨C,b8⟩:=Ow (λd:cy=>d.f.bo) m.bI;exact⟨18446744073709551617+30+A+B+C+Tm.dN m.bP+Tm.dN m.bQ+Tm.dN m.trans+Tm.dN m.bS,λn aM=>⟨by omega,by omega,by omega,by omega,by omega,λd aB=>by have:=dy d aB;omega,λd aB=>by have:=gC d aB;omega,λd aB=>by have:=b8 d aB;omega⟩⟩
def afr{g:Tm->Tm}(cb:rU g)(t:Tm):∀u,ek t (g u)=ek t u:=by
 refine Tm.ind (P:=λt=>∀u,ek t (g u)=ek t u) ?_ t;intro t ih u;have key:∀(l m:List Tm),(∀x∈l,∀u,ek x (g u)=ek x u)->jJ l (m.map g)=jJ l m:=by
  intro l
  induction l with
  |nil=>intro m _;cases m<;>rfl
  |cons a r Ja=>intro m h;cases m with|nil=>rfl|cons b q=>rw[xaB,jJ,jJ,h a (by simp),Ja q λx ag=>h x (by simp[ag])]
 rw[u5,u5 t u,cb.op,cb.num,cb.name,cb.aT,key t.aT u.aT ih,xaV]
def afs:∀(l m:List Tm),l.length=m.length->(∀x∈l,∀u,ek x u=ek u x)->jJ l m=jJ m l
 |[],[],_,_=>rfl|a::l,b::m,h,aG=>by rw[jJ,jJ,aG a (by simp),afs l m (by simpa using h) λx ag=>aG x (by simp[ag])]|[],_::_,h,_=>by simp at h|_::_,[],h,_=>by simp at h
def ayv(t:Tm):∀u,ek t u=ek u t:=by
 refine Tm.ind (P:=λt=>∀u,ek t u=ek u t) ?_ t;intro t ih u;rw[u5,u5 u t];have aL:decide (t.op=u.op)=decide (u.op=t.op):=by by_cases h:t.op=u.op<;>simp[h,eq_comm]
 have aX:decide (t.num=u.num)=decide (u.num=t.num):=by by_cases h:t.num=u.num<;>simp[h,eq_comm]
 have bL:decide (t.name=u.name)=decide (u.name=t.name):=by by_cases h:t.name=u.name<;>simp[h,eq_comm]
 have cL:decide (t.aT.length=u.aT.length)=decide (u.aT.length=t.aT.length):=by by_cases h:t.aT.length=u.aT.length<;>simp[h,eq_comm]
 rw[aL,aX,bL,cL];by_cases aq:t.aT.length=u.aT.length;.rw[afs t.aT u.aT aq ih]
 have af:decide (u.aT.length=t.aT.length)=false:=xaE λh=>aq h.symm;rw[af];simp
def aft(l:List a8)(x t:Tm):ek x (eT l t)=ek (fH l t) x:=by unfold eT fH;rw[ayv (gG _),afr M7,afr M8]
def afu{α β dY:Type}{p:α->β->Bool}{q:dY->α->Bool}{Ar:Type}{f:Ar->β}{g:Ar->dY}(h:∀x t,p x (f t)=q (g t) x):∀(a:List α)(l:List Ar),dI p a (l.map f)=dI q (l.map g) a
 |[],[]=>rfl|x::a,[]=>rfl|[],t::l=>rfl|x::a,t::l=>by rw[xaB,xaB,dI,dI,h,afu h a l]
def Vp{α β dY:Type}{p:α->β->Bool}{q:dY->α->Bool}{Ar:Type}{f:Ar->β}{g:Ar->dY}(h:∀x t,p x (f t)=q (g t) x){u:β->Bool}{w:dY->Bool}{l:List Ar}(ayw:∀t∈l,u (f t)=w (g t))(a:List α):dI p a ((l.map f).filter u)=dI q ((l.map g).filter w) a:=by have e:l.filter (u∘f)=l.filter (w∘g):=List.filter_congr ayw;rw[List.filter_map,List.filter_map,e];exact afu h a _
section
variable{n:Nat}(aM:1000000000<n)
include aM
theorem ayx{vs ws:List V}(a6:vs.length<=1000):Cl n [bj vs,bj ws]=some (ay (dI kn vs ws)):=by
 by_cases aq:vs.length=ws.length
 case neg=>simp only[Cl,Ss,go_sem,fB,oa,aq,xbG,Jd aq]
 have h:=Ao kn vs ws aq (f:=GV n) (λi=>[bj vs,bj ws,J vs.length,J (i:Int)]) [] (λi x y ag aQ ah=>by
  have he:=afg x y;cases bg:kn x y;.rw[bg]at he;simp only[GV,go_sem,yT ((i:Int)<vs.length),g5 ag,g5 aQ,(V.n3 x).1,(V.n3 y).1,he]
  .rw[bg]at he;simp only[GV,go_sem,yT ((i:Int)<vs.length),g5 ag,g5 aQ,(V.n3 x).1,(V.n3 y).1,he,b1 (bt:=false) (i:=i) (by omega)]) (by
  simp only[GV,go_sem,yF ((vs.length:Int)<vs.length)]) n (by omega)
 have bF:(J ((0:Nat):Int))=J 0:=rfl;rw[bF,aq]at h;cases bD:dI kn vs ws<;>simp only[bD,xaD,xaF,xat]at h<;>simp only[Cl,Ss,go_sem,fB,oa,aq,xbr,h]
theorem Ox{a b:List Tm}(aE:jR a)(aj:jR b):uV n [az a,az b]=some (ay (dI ek a b)):=by
 have bd:ra Bv (D.val (.func (.func Bv) #[] #[]))=true:=by simp[ra]
 by_cases aq:a.length=b.length
 case neg=>simp only[uV,Su,Cn,Ma,bd,go_sem,g7,oa,aq,xbG,Jd aq]
 have kW:=aE.1;have h:=Ao ek a b aq (f:=G0 n) (λi=>[az b,az a,J a.length,J (i:Int)]) [] (λi x y ag aQ ah=>by
  obtain⟨dw,da⟩:=aE.2 x (xaa ag);obtain⟨bw,bz⟩:=aj.2 y (xaa aQ);have aG:=TV n x y (by omega) dw bw;cases bg:ek x y
  .rw[bg]at aG;simp only[G0,go_sem,yT ((i:Int)<a.length),lZ ag,lZ aQ,aG]
  .rw[bg]at aG;simp only[G0,go_sem,yT ((i:Int)<a.length),lZ ag,lZ aQ,aG,b1 (bt:=false) (i:=i) (by omega)]) (by
  simp only[G0,go_sem,yF ((a.length:Int)<a.length)]) n (by omega)
 have bF:(J ((0:Nat):Int))=J 0:=rfl;rw[bF,aq]at h;cases bD:dI ek a b<;>simp only[bD,xaD,xaF,xat]at h<;>simp only[uV,Su,Cn,Ma,bd,go_sem,g7,oa,aq,xbr,h]
theorem ayy{a b:List a8}(aE:qG a)(aj:qG b):zm n [aP a,aP b,D.val (.func (.func yw) #[] #[])]=some (ay (dI iT a b)):=by
 have bd:ra yw (D.val (.func (.func yw) #[] #[]))=true:=by simp[ra]
 by_cases aq:a.length=b.length
 case neg=>simp only[zm,L9,bd,go_sem,dT,oa,aq,xbG,Jd aq]
 have kW:=aE.1;have h:=Ao iT a b aq (f:=GZ n) (λi=>[aP b,aP a,J a.length,J (i:Int)]) [] (λi x y ag aQ ah=>by
  obtain⟨dw,da⟩:=aE.2 x (xaa ag);obtain⟨bw,bz⟩:=aj.2 y (xaa aQ);have aG:=TV n x.e y.e (by omega) dw bw;have vt:∀v:a8,D.agg [aC v.name,J v.e.op,J v.e.num,aC v.e.name,cl 4 v.e.nl (Tm.rows v.e.aT)]=v.d:=λ_=>rfl;have dy:Cm n [x.d,y.d]=some (ay (iT x y)):=by
   unfold iT;by_cases nt:x.name=y.name;.simp only[Cm,St,go_sem,a8.agg,a8.a7,a8.bR,a8.bY,a8.ct,a8.de,xav nt,ec,dS,aG]
   simp only[Cm,St,go_sem,a8.agg,a8.a7,a8.bR,a8.bY,a8.ct,a8.de,xaE nt,ec,jG,dS,xbk]
  cases bg:iT x y;.rw[bg]at dy;simp only[GZ,go_sem,yT ((i:Int)<a.length),eZ ag,eZ aQ,a8.yv,a8.agg,a8.a7,a8.bR,a8.bY,a8.ct,a8.de,vt,dy]
  .rw[bg]at dy;simp only[GZ,go_sem,yT ((i:Int)<a.length),eZ ag,eZ aQ,a8.yv,a8.agg,a8.a7,a8.bR,a8.bY,a8.ct,a8.de,vt,dy,b1 (bt:=false) (i:=i) (by omega)]) (by
  simp only[GZ,go_sem,yF ((a.length:Int)<a.length)]) n (by omega)
 have bF:(J ((0:Nat):Int))=J 0:=rfl;rw[bF,aq]at h;cases bD:dI iT a b<;>simp only[bD,xaD,xaF,xat]at h<;>simp only[zm,L9,bd,go_sem,dT,oa,aq,xbr,h]
def Jg(a b:gm):Bool:=dI kn a.vs b.vs&&(dI iT a.nx b.nx&&(dI ek a.i b.i&&(dI ek a.bO b.bO&&(dI ek a.t b.t&&dI ek a.f b.f))))
theorem ayz{a b:gm}(aE:qH a)(aj:qH b):G1 n [a.d,b.d]=some (ay (Jg a b)):=by
 have aW:=gm.DH a;have a2:=gm.DH b;have cs:∀m:gm,ad m.d 0=bj m.vs/\ad m.d 2=az m.i/\ad m.d 3=az m.bO/\ad m.d 4=aP m.nx/\ad m.d 5=az m.t/\ad m.d 6=az m.f:=λm=>⟨rfl,rfl,rfl,rfl,rfl,rfl⟩;obtain⟨a7,bY,ct,de,ee,ef⟩:=cs a;obtain⟨d0,d2,d3,d4,d5,d6⟩:=cs b;have t1:=ayx aM (vs:=a.vs) (ws:=b.vs) aE.v;have t2:=ayy aM aE.n aj.n;have t3:=Ox aM aE.i aj.i;have t4:=Ox aM aE.bO aj.bO;have t5:=Ox aM aE.t aj.t;have t6:=Ox aM aE.f aj.f;unfold Jg;cases MF:dI kn a.vs b.vs<;>cases MG:dI iT a.nx b.nx<;>cases Vi:dI ek a.i b.i<;>cases Vj:dI ek a.bO b.bO<;>cases Vk:dI ek a.t b.t<;>cases Vl:dI ek a.f b.f<;>
  simp only[MF,MG,Vi,Vj,Vk,Vl]at t1 t2 t3 t4 t5 t6<;>
  simp only[G1,aad,aW,a2,a7,bY,ct,de,ee,ef,d0,d2,d3,d4,d5,d6,go_sem,ec,jG,dS,t1,t2,t3,t4,t5,t6,xbk,Bool.and_false]
end
def l6(m:aA):gm:=⟨m.vars,false,m.aR,m.bP,m.bQ,m.next,m.trans,m.bS,false,m.bI⟩
def nz(m:aA):gm:=⟨m.vars,false,m.aR,m.bP,m.bQ,m.next,m.trans,m.bS,true,[]⟩
theorem ayA(m:aA):(l6 m).d=m.d:=by simp only[gm.d,l6,Om,aya];rfl
def afv{m:aA}{n:Nat}(h:vu m n)(hw:tA m):qH (l6 m):=by
 have k:=h.ok;have eI:=k.bP.1;have gW:=k.bQ.1;have kz:=k.next.1;have n4:=k.trans.1;have qz:=k.bS.1;have tB:=k.bI.1;have NF:=k.bo.oR;have aAn:=k.bo.dl
 refine⟨by simp only[l6];omega,⟨by simp only[l6];omega,λd aB=>⟨(hw.d d aB).2,?_⟩⟩,⟨by simp only[l6];omega,λt aK=>?_⟩,⟨by simp only[l6];omega,λt aK=>?_⟩,⟨by simp only[l6];omega,λt aK=>?_⟩,⟨by simp only[l6];omega,λt aK=>?_⟩,⟨by simp only[l6];omega,λt aK=>?_⟩,⟨by simp only[l6];omega,λt aK=>?_⟩⟩;.have:=(k.bo.d.e d aB).2;omega
 .have:=k.bP.2 t aK;exact⟨this.1,by omega⟩
 .have:=k.bQ.2 t aK;exact⟨this.1,by omega⟩
 .have:=k.next.2 t aK;exact⟨this.1,by omega⟩
 .have:=k.trans.2 t aK;exact⟨this.1,by omega⟩
 .have:=k.bS.2 t aK;exact⟨this.1,by omega⟩
 have:=(k.bI.2 t aK).1;exact⟨this.1,by omega⟩
def ayB{m:aA}{n:Nat}(h:vu m n)(hw:tA m):qH (nz m):=by obtain⟨a,b,c,d,e,f,g,_⟩:=afv h hw;exact⟨a,b,c,d,e,f,g,by simp[nz],by simp[nz]⟩
def ayC(n:Nat)(aM:1000000000<n)(vs:List V)(a6:vs.length<=1000)(b4 cK c3 c4 dc dL dH eD eU fm fO gq fP gl hF hg:D):bp (HT n) n [bj vs,J vs.length,J 0,b4,cK,c3,c4,dc,dL,dH,eD,eU,fm,fO,gq,fP,gl,hF,hg,D.ax 1 []]=some (.inl [b4,cK,c3,c4,dc,dL,dH,eD,eU,fm,fO,gq,fP,gl,hF,hg,bA (vs.map V.name)]):=by
 have cN:∀l,D.ax 1 (ar (bA l))=bA l:=λ_=>rfl;have dy:=dG (f:=HT n) vs (λi (o:List bl)=>[bj vs,J vs.length,J (i:Int),b4,cK,c3,c4,dc,dL,dH,eD,eU,fm,fO,gq,fP,gl,hF,hg,bA o]) (λr o=>(.inl [b4,cK,c3,c4,dc,dL,dH,eD,eU,fm,fO,gq,fP,gl,hF,hg,bA (o++r.map V.name)]:List D⊕D)) (λi o=>o.length=i) (λo _=>by simp only[HT,go_sem,yF ((vs.length:Int)<vs.length),cN,xbj,xaC]) ?_ n 0 [] rfl (by omega) (xai _)
 .have bF:(J ((0:Nat):Int))=J 0:=rfl;have aL:bA []= .ax 1 []:=rfl;rw[bF,aL]at dy;simpa only[xak,xaH]using dy
 intro i v o ag ah aF;left;have aB:=V.n3 v;have dM:c5 (o.length+1) 16=true:=gk (by omega) (by omega);refine⟨o++[v.name],?_,by simp,by simp[aF]⟩;simp only[HT,go_sem,yT ((i:Int)<vs.length),g5 ag,aB.1,aB.2.1,aB.2.2,r5,xap,xar,xau,dM,C0,b1 (bt:=false) (i:=i) (by omega)]
def ayD(n:Nat)(aM:1000000000<n)(m:aA)(a6:m.vars.length<=1000):HP n [m.d]=some (bA (m.vars.map V.name)):=by
 have cN:∀l,D.ax 1 (ar (bA l))=bA l:=λ_=>rfl;have dy:=dG (f:=Mq n) m.vars (λi (o:List bl)=>[J (i:Int),bj m.vars,ad m.d 1,ad m.d 2,ad m.d 3,ad m.d 4,ad m.d 5,ad m.d 6,ad m.d 7,bA o]) (λr o=>(.inl [bA (o++r.map V.name)]:List D⊕D)) (λi o=>o.length=i) (λo _=>by simp only[Mq,go_sem,fB,yF ((m.vars.length:Int)<m.vars.length),cN,xbj,xaC]) ?_ n 0 [] rfl (by omega) (xai _)
 .have bF:(J ((0:Nat):Int))=J 0:=rfl;have aL:bA []= .ax 1 []:=rfl;rw[bF,aL]at dy;simp only[xak,xaH]at dy;simp only[HP,aaQ,aA.agg,aA.a7,go_sem,dy,cN]
 intro i v o ag ah aF;left;have ae:a3 false 1 0 v.cells=some (aC v.name):=rfl;have dM:c5 (o.length+1) 16=true:=gk (by omega) (by omega);refine⟨o++[v.name],?_,by simp,by simp[aF]⟩;simp only[Mq,go_sem,fB,yT ((i:Int)<m.vars.length),g5 ag,ae,r5,xap,xar,xau,dM,C0,b1 (bt:=false) (i:=i) (by omega)]
theorem ayE{α β:Type}(p:α->β->Bool)(l:List β):dI p [] l=decide (l.length=0):=by cases l<;>rfl
def ayF{m p:aA}{n:Nat}{Aq xu:D}{l K K':List bl}(c:Ot m n Aq xu l K K'):On (l5 (ep m) K') (nz p)=(decide (p.aR.length=0)&&Jg (l6 p) (oZ (m8 m) K)):=by
 have T:∀ts:List Tm,(∀t∈ts,t∈m.bP\/t∈m.bQ\/t∈m.trans\/t∈m.bS)->∀a:List Tm,dI ek a ((ts.map (eT m.aR)).filter λt=>l4 K t)=dI ek ((ts.map (fH m.aR)).filter λt=>js K' t) a:=λts l3 a=>Vp (λx t=>aft m.aR x t) (λt aK=>ayj c (l3 t aK)) a;have a6:dI kn p.vars (m.vars.filter λv=>dP K v.name)=dI kn (m.vars.filter λv=>dP K' v.name) p.vars:=by
  have aG:∀x t:V,kn x (id t)=kn (id t) x:=λx t=>by
   simp only[kn,id];have aL:decide (x.name=t.name)=decide (t.name=x.name):=by by_cases h:x.name=t.name<;>simp[h,eq_comm]
   have aX:(x.bool==t.bool)=(t.bool==x.bool):=by cases x.bool<;>cases t.bool<;>rfl
   have bL:(x.lo==t.lo)=(t.lo==x.lo):=by rw[Bool.eq_iff_iff,xbq,xbq];exact eq_comm
   have cL:(x.ah==t.ah)=(t.ah==x.ah):=by rw[Bool.eq_iff_iff,xbq,xbq];exact eq_comm
   rw[aL,aX,bL,cL]
  have:=Vp (p:=kn) (q:=kn) (f:=id) (g:=id) aG (u:=λv=>dP K v.name) (w:=λv=>dP K' v.name) (l:=m.vars) (λv _=>afo c v.name) p.vars;simpa using this
 have aB:dI iT p.next ((m.next.map (m1 m.aR)).filter λd=>dP K d.name)=dI iT ((m.next.map (oV m.aR)).filter λd=>dP K' d.name) p.next:=by
  refine Vp (λx t=>?_) (λd _=>afo c d.name) p.next
  simp only[iT,m1,oV,aft];by_cases h:x.name=t.name;.simp[h]
  have af:¬t.name=x.name:=λe=>h e.symm;simp[h,af]
 have aL:dI kn (l6 p).vs (oZ (m8 m) K).vs=dI kn (l5 (ep m) K').vs (nz p).vs:=a6;have aX:dI iT (l6 p).nx (oZ (m8 m) K).nx=dI iT (l5 (ep m) K').nx (nz p).nx:=aB;have bL:dI ek (l6 p).i (oZ (m8 m) K).i=dI ek (l5 (ep m) K').i (nz p).i:=T m.bP (λt aK=> .inl aK) _;have cL:dI ek (l6 p).bO (oZ (m8 m) K).bO=dI ek (l5 (ep m) K').bO (nz p).bO:=T m.bQ (λt aK=> .inr (.inl aK)) _;have ea:dI ek (l6 p).t (oZ (m8 m) K).t=dI ek (l5 (ep m) K').t (nz p).t:=T m.trans (λt aK=> .inr (.inr (.inl aK))) _;have fp:dI ek (l6 p).f (oZ (m8 m) K).f=dI ek (l5 (ep m) K').f (nz p).f:=T m.bS (λt aK=> .inr (.inr (.inr aK))) _;have nD:dI r8 (l5 (ep m) K').eG (nz p).eG=true:=rfl;have ayG:decide ((l5 (ep m) K').eG.length=(nz p).eG.length)=true:=rfl;have NB:dI iT (l5 (ep m) K').aO (nz p).aO=decide (p.aR.length=0):=ayE iT p.aR;unfold On Jg;rw[aL,aX,bL,cL,ea,fp,nD,ayG,NB];cases bD:dI kn (l5 (ep m) K').vs (nz p).vs with|true=>rw[xav (Ve bD)];simp only[xbE]|false=>simp
def ayH{m p:aA}{n:Nat}(hm:vu m n)(aU:vu p n)(DI:tA p):∃b,th n [m.d,p.d]=some (ay b)/\wZ n [m.d,p.d]=some (ay b):=by
 have afm:=hm.ir;have ig:=O8 hm;have mJ:=ad7 aU.ok;have Jh:=Uo aU.ok;rw[Oq]at mJ Jh;have Dw:=aU.ok.bo.oR;have od:=ayD n (by omega) p (by omega);have hB:∀b,D.a1 (if(kl m).2.2=0 then[Dq m,ay true]else[Jf,ay false])=b->D.a1 (if(kl m).2.2=0 then[Dq m,ay true]else[Jf,ay false])=b:=λ_ h=>h;by_cases bD:(kl m).2.2=0
 case neg=>
  rw[xac bD]at ig;have b8:=ayu hm (L:=bA (p.vars.map V.name)) bD;have hT:((1:Int)==0)=false:=rfl;refine⟨false,?_,?_⟩
  .simp only[th,HU,aA.agg,aA.r9,go_sem,ig,afk,mJ,qI,ec,jG,dS,xbe]
  cases bg:((kl p).2.2==0)<;>simp only[wZ,HQ,aA.agg,aA.r9,go_sem,Jh,qI,od,b8,afk,bg,hT,ec,jG,dS]
 rw[xad bD,<-afi]at ig;obtain⟨K,K',c⟩:=ayh hm bD false false (p.vars.map V.name) (by rw[xaV];omega);rw[acb]at c;have b8:=ayo hm bD c;have hT:((0:Int)==0)=true:=rfl;have ak:=c.k;have bm:tH m n:=⟨hm.ok,Ds.1 bD⟩;have ao:wQ n [(m8 m).d,bA (p.vars.map V.name)]=some (oZ (m8 m) K).d:=axI (Vc bm) (dd:=eR) rfl (m.bI.map (tD m.aR)) n (by omega) _ c.a (by omega);have Ur:=λb4 cK c3 c4 dc dL dH eD eU fm fO gq fP gl hF hg=>ayC n (by omega) p.vars (by omega) b4 cK c3 c4 dc dL dH eD eU fm fO gq fP gl hF hg;have dy:=ayz (n:=n) (by omega) (afv aU DI) (ayk (aym hm bD) K);rw[ayA]at dy;have dR:=aye (n:=n) (by omega) (ayl (ayn hm bD) K') (ayB aU DI);rw[ayF c]at dR;have aW:=gm.DH (m8 m);have a2:=gm.DH (l5 (ep m) K');have gd:D.agg [bj p.vars,aP p.aR,az p.bP,az p.bQ,aP p.next,az p.trans,az p.bS,D.val (.slice none 0 0)]=(nz p).d:=by simp only[gm.d,nz,Om];rfl
 by_cases Oy:(kl p).2.2=0
 .have bg:((kl p).2.2==0)=true:=by simp[Oy]
  have Oz:((kl p).2.2 !=0)=false:=by simp[Oy]
  by_cases aB:p.aR.length=0
  .refine⟨Jg (l6 p) (oZ (m8 m) K),?_,?_⟩;.simp only[th,HU,aA.agg,go_sem,ig,aW,mJ,qI,Oz,ec,jG,dS,xbe,aA.a7,aA.bR,aA.bY,aA.ct,aA.de,aA.ee,aA.ef,aA.e2,aA.eta,dT,yF ((p.aR.length:Int)>0),fB,Ur,gm.eta,ao,dy];have aX:∀x,D.ax 1 (ar (bA x))=bA x:=λ_=>rfl;simp only[aX,ao,dy,go_sem]
   rw[xav aB,xbE]at dR;simp only[wZ,HQ,aA.agg,aA.a7,aA.bR,aA.bY,aA.ct,aA.de,aA.ee,aA.ef,aA.e2,aA.eta,go_sem,Jh,qI,od,b8,a2,bg,hT,ec,jG,dS,gm.eta,gd,dR]
  refine⟨false,?_,?_⟩;.simp only[th,HU,aA.agg,aA.a7,aA.bR,aA.bY,aA.ct,aA.de,aA.ee,aA.ef,aA.e2,aA.eta,go_sem,ig,aW,mJ,qI,Oz,ec,jG,dS,xbe,dT,yT ((p.aR.length:Int)>0)]
  rw[xaE aB,xbk]at dR;simp only[wZ,HQ,aA.agg,aA.a7,aA.bR,aA.bY,aA.ct,aA.de,aA.ee,aA.ef,aA.e2,aA.eta,go_sem,Jh,qI,od,b8,a2,bg,hT,ec,jG,dS,gm.eta,gd,dR]
 have bg:((kl p).2.2==0)=false:=by simp[Oy]
 have Oz:((kl p).2.2 !=0)=true:=by simp[Oy]
 refine⟨false,?_,?_⟩;.simp only[th,HU,aA.agg,aA.r9,go_sem,ig,aW,mJ,qI,Oz,ec,jG,dS,xbe]
 simp only[wZ,HQ,aA.agg,aA.r9,go_sem,Jh,qI,od,b8,a2,bg,ec,jG,dS]
def ayI{m p:aA}{n:Nat}(hw:tA m)(bd:IL m n)(DI:tA p)(ayJ:IL p n)(aM:18446744073709551616<n):HW n [m.d,p.d]=some (ay true):=by
 obtain⟨fU,rfl⟩:∃q,n=q+300:=⟨n-300,by omega⟩;have bT:=ayf fU;generalize fU+300=n at*;have dR:=aem hw bd (by omega);have z2:=aem DI ayJ (by omega);cases aG:xj m with
 |false=>rw[aG]at dR;simp only[HW,Mu,aA.agg,aA.r9,go_sem,dR,ec,jG,dS,xbe,bT]
 |true=>
  rw[aG]at dR;cases Ix:xj p with
  |false=>rw[Ix]at z2;simp only[HW,Mu,aA.agg,aA.r9,go_sem,dR,z2,ec,jG,dS,xbe,bT]
  |true=>
   rw[Ix]at z2;obtain⟨b,eI,gW⟩:=ayH (afp hw (ael aG) aM) (afp DI (ael Ix) aM) DI;have Vo:ai true .eql (ay b) (ay b)=some (ay true):=by cases b<;>rfl
   simp only[HW,Mu,aA.agg,aA.r9,go_sem,dR,z2,ec,jG,dS,xbe,eI,gW,Vo,bT]
end Go.Am
