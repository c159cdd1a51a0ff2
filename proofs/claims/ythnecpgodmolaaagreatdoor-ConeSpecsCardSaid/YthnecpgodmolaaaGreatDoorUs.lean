/- Laws, on data. No condition. -/
import Derived.Test.YthnecpgodmolaaaGreatDoorSort
import Derived.Test.YthnecpgodmolaaaGreatDoorTs
import Derived.Test.YthnecpgodmolaaaGreatDoorEngD
import Derived.Test.YthnecpgodmolaaaGreatDoorLaws
set_option linter.all false
set_option linter.unnecessarySimpa false
namespace Go.Am
abbrev bo:=ByteArray
structure D4(ks:List bo)(par rep:bo->bo)(fz:bo->Nat)(d:Nat):Prop where
 afG:∀x,x∈ks->par x∈ks
 OG:∀x,x∈ks->rep x∈ks
 ew:∀x,x∈ks->rep (par x)=rep x
 root:∀x,x∈ks->par x=x->rep x=x/\fz x=0
 down:∀x,x∈ks->par x≠x->fz (par x)<fz x
 afH:∀x,x∈ks->fz x<=d
 Kr:∀x,x∈ks->par (rep x)=rep x
def AT(R:List (List bo))(C:bo->Prop):Prop:=∀r∈R,∀x∈r,∀y∈r,C x->C y
def Sep(ks:List bo)(R:List (List bo))(rep:bo->bo):Prop:=∀C,AT R C->∀x y,x∈ks->y∈ks->rep x=rep y->C x->C y
def lk(rep:bo->bo)(rows:List (List bo)):Prop:=∀r∈rows,∀x∈r,∀y∈r,rep x=rep y
def xP(rep jY:bo->bo):Prop:=∀x y,rep x=rep y->jY x=jY y
def lk.fin{rep jY:bo->bo}{rows:List (List bo)}(h:lk rep rows)(bd:xP rep jY):lk jY rows:=λr av x ag y aP=>bd _ _ (h r av x ag y aP)
theorem ayl(ks:List bo):D4 ks (λx=>x) (λx=>x) (λ_=>0) 0:=⟨λ_ h=>h,λ_ h=>h,λ_ _=>rfl,λ_ _ _=>⟨rfl,rfl⟩,λx _ h=>absurd rfl h,λ_ _=>xan _,λ_ _=>rfl⟩
def aym(ks:List bo)(R:List (List bo)):Sep ks R λx=>x:=λC _ x y _ _ e h=>by have e:x=y:=e;rw[<-e];exact h
open Classical in
def ayn{ks:List bo}{par rep:bo->bo}{fz:bo->Nat}{d:Nat}(h:D4 ks par rep fz d){R:List (List bo)}(aH:Sep ks R rep){a b:bo}(aF:a∈ks)(aj:b∈ks){r:List bo}(av:r∈R)(OH:a∈r)(OI:b∈r): ∃VB,D4 ks (λx=>if x=rep a then rep b else par x) (λx=>if rep x=rep a then rep b else rep x) VB (d+1)/\Sep ks R (λx=>if rep x=rep a then rep b else rep x)/\xP rep (λx=>if rep x=rep a then rep b else rep x):=by
 have afI:=h.Kr a aF;have v3:=h.Kr b aj;have Js:=h.OG a aF;have AU:=h.OG b aj;have VC:=(h.root _ Js afI).1;have afJ:=(h.root _ AU v3).1;have ayo:=(h.root _ Js afI).2;have ayp:=(h.root _ AU v3).2;refine⟨λx=>if rep a≠rep b/\rep x=rep a then fz x+1 else fz x,⟨?_,?_,?_,?_,?_,?_,?_⟩,?_,?_⟩
 .intro x ag;try simp only
  split;.exact AU
  exact h.afG x ag
 .intro x ag;try simp only
  split;.exact AU
  exact h.OG x ag
 .intro x ag
  try simp only
  by_cases lN:x=rep a
  .rw[xad lN];have:rep x=rep a:=by rw[lN,VC]
   rw[xad this,afJ];split;.rfl
   rfl
  rw[xaa lN,h.ew x ag]
 .intro x ag
  try simp only
  by_cases lN:x=rep a
  .rw[xad lN];intro e;have ab:rep x=rep a:=by rw[lN,VC]
   have fp:rep a=rep b:=by rw[<-lN,<-e]
   rw[xad ab,xaa (λq=>q.1 fp)];exact⟨e,by rw[lN];exact ayo⟩
  rw[xaa lN];intro e;obtain⟨bA,bB⟩:=h.root x ag e;have ab:rep x≠rep a:=by rw[bA];exact lN
  rw[xaa ab,xaa (λq=>ab q.2)];exact⟨bA,bB⟩
 .intro x ag
  try simp only
  by_cases lN:x=rep a
  .rw[xad lN];intro e;have ab:rep x=rep a:=by rw[lN,VC]
   have fp:rep a≠rep b:=by rw[<-lN];exact λq=>e q.symm
   have af:rep (rep b)≠rep a:=by rw[afJ];exact λq=>fp q.symm
   rw[xaa (λq=>af q.2),xad ⟨fp,ab⟩,ayp];omega
  rw[xaa lN];intro e;have ab:=h.down x ag e;rw[h.ew x ag];split
  .omega
  exact ab
 .intro x ag;have:=h.afH x ag
  try simp only
  split<;>omega
 .intro x ag
  try simp only
  by_cases ab:rep x=rep a
  .rw[xad ab];split;.rfl
   exact v3
  rw[xaa ab,xaa ab];exact h.Kr x ag
 .intro C cf x y ag aP e OJ
  try simp only at e
  by_cases ab:rep x=rep a
  .rw[xad ab]at e;by_cases af:rep y=rep a;.exact aH C cf x y ag aP (ab.trans af.symm) OJ
   rw[xaa af]at e;exact aH C cf b y aj aP e (cf r av a OH b OI (aH C cf x a ag aF ab OJ))
  rw[xaa ab]at e;by_cases af:rep y=rep a;.rw[xad af]at e;exact aH C cf a y aF aP af.symm (cf r av b OI a OH (aH C cf x b ag aj e OJ))
  rw[xaa af]at e;exact aH C cf x y ag aP e OJ
 intro x y e;simp only[e]
def dM(o:List bo)(x:bo):Bool:=o.any λz=>decide (z=x)
def sq{o:List bo}{x:bo}:dM o x=true↔x∈o:=by simp[dM]
def VD{o:List bo}{x:bo}:dM o x=false↔x∉o:=by rw[<-sq];cases dM o x<;>simp
def jy(o:List bo)(x:bo):List bo:=if dM o x=true then o else o++[x]
def qT(o r:List bo):Bool:=o.any λx=>dM r x
def nF(o r:List bo):List bo:=if qT o r=true then r.foldl jy o else o
def mL(R:List (List bo))(o:List bo):List bo:=R.foldl nF o
def nd(R:List (List bo)):Nat->List bo->List bo
 |0,o=>o|k+1,o=>nd R k (mL R o)
def ayq(o:List bo)(x:bo):o<+:jy o x:=by unfold jy;split;exact List.prefix_rfl;exact List.prefix_append _ _
def afK{o:List bo}{x y:bo}:y∈jy o x↔y∈o\/y=x:=by
 unfold jy;split;.rename_i h;exact⟨.inl,λq=>q.elim id λe=>e▸sq.1 h⟩
 simp
def afL{o:List bo}{x:bo}(h:o.Nodup):(jy o x).Nodup:=by
 unfold jy;split;.exact h
 rename_i aL;rw[List.nodup_append];exact⟨h,by simp,λa aF b aj e=>by simp at aj;subst aj;subst e;exact aL (sq.2 aF)⟩
def afM:∀(r o:List bo),o<+:r.foldl jy o
 |[],o=>List.prefix_rfl|x::r,o=>(ayq o x).trans (afM r _)
def OK{y:bo}:∀{r o:List bo},y∈r.foldl jy o↔y∈o\/y∈r
 |[],o=>by simp|x::r,o=>by rw[xby,OK,afK,xak,or_assoc]
def afN:∀{r o:List bo},o.Nodup->(r.foldl jy o).Nodup
 |[],o,h=>h|x::r,o,h=>afN (r:=r) (afL h)
def VE{o r:List bo}:qT o r=true↔∃x∈o,x∈r:=by simp[qT,sq]
theorem afO(o r:List bo):o<+:nF o r:=by unfold nF;split;exact afM _ _;exact List.prefix_rfl
def ayr{o r:List bo}(h:o.Nodup):(nF o r).Nodup:=by unfold nF;split;exact afN h;exact h
def ays{o r:List bo}{y:bo}(h:y∈nF o r):y∈o\/(y∈r/\∃x∈o,x∈r):=by
 unfold nF at h;split at h
 .rename_i hm;rcases OK.1 h with h|h
  .exact .inl h
  exact .inr ⟨h,VE.1 hm⟩
 exact .inl h
def OL:∀(R:List (List bo)) (o:List bo),o<+:mL R o
 |[],o=>List.prefix_rfl|r::R,o=>(afO o r).trans (OL R _)
def OM:∀{R:List (List bo)} {o:List bo},o.Nodup->(mL R o).Nodup
 |[],o,h=>h|r::R,o,h=>OM (R:=R) (ayr h)
def ON{C:bo->Prop}:∀{R:List (List bo)} {o:List bo},AT R C->(∀x∈o,C x)->∀x∈mL R o,C x
 |[],o,_,h=>h
 |r::R,o,cf,h=>ON (R:=R) (λsD nP=>cf sD (xbR _ nP)) λx ag=>by
  rcases ays ag with ab|⟨ab,z,af,aw⟩;.exact h x ab
  exact cf r (by simp) z aw x ab (h z af)
def VF:∀{R:List (List bo)} {o:List bo},mL R o=o->∀r∈R,(∃x∈o,x∈r)->∀y∈r,y∈o
 |[],o,_=>by simp
 |r::R,o,h=>by
  have ab:nF o r<+:o:=by
   have:=OL R (nF o r);have e:mL (r::R) o=mL R (nF o r):=rfl
   rwa [<-e,h]at this
  have af:nF o r=o:=ab.eq_of_length (Nat.le_antisymm ab.length_le (afO o r).length_le);have aw:mL R o=o:=by
   have e:mL (r::R) o=mL R (nF o r):=rfl
   rwa [e,af]at h
  intro q bj hm y aP;rcases xak.1 bj with rfl|bj
  .rw[<-af];unfold nF;rw[xad (VE.2 hm)];exact OK.2 (.inr aP)
  exact VF aw q bj hm y aP
def Jt{α:Type}:∀{a b:List α},a.Nodup->(∀x∈a,x∈b)->a.length<=b.length
 |[],b,_,_=>xai _
 |x::a,b,aL,aH=>by
  obtain⟨p,q,rfl⟩:=List.append_of_mem (aH x (by simp));have ab:=Jt (a:=a) (b:=p++q) (List.nodup_cons.1 aL).2 λy aP=>by
   have iY:=aH y (by simp[aP]);have cR:y≠x:=by rintro rfl;exact(List.nodup_cons.1 aL).1 aP
   simp only[xar,xak]at iY⊢;rcases iY with h|h|h
   .exact .inl h
   .exact absurd h cR
   exact .inr h
  simp only[xaK,xao]at ab⊢;omega
def afP(R:List (List bo)):∀(k:Nat)(o:List bo),o<+:nd R k o
 |0,o=>List.prefix_rfl|k+1,o=>(OL R o).trans (afP R k _)
def afQ{R:List (List bo)}:∀{k:Nat}{o:List bo},o.Nodup->(nd R k o).Nodup
 |0,o,h=>h|k+1,o,h=>afQ (k:=k) (OM h)
def VG{C:bo->Prop}{R:List (List bo)}(cf:AT R C):∀{k:Nat}{o:List bo},(∀x∈o,C x)->∀x∈nd R k o,C x
 |0,o,h=>h|k+1,o,h=>VG cf (k:=k) (ON cf h)
def afR{R:List (List bo)}{o:List bo}(h:mL R o=o):∀k,nd R k o=o
 |0=>rfl|k+1=>by rw[nd,h];exact afR h k
def VH{R:List (List bo)}{ks:List bo}(ff:∀r∈R,∀x∈r,x∈ks):∀(k:Nat)(o:List bo),o.Nodup->(∀x∈o,x∈ks)->ks.length<k+o.length->mL R (nd R k o)=nd R k o
 |0,o,aL,aH,h=>by have:=Jt aL aH;omega
 |k+1,o,aL,aH,h=>by
  have aU:=OL R o;by_cases ar:(mL R o).length=o.length;.have e:=(aU.eq_of_length ar.symm).symm;rw[afR e,e]
  have:=aU.length_le;rw[nd];refine VH ff k (mL R o) (OM aL) (ON (λr av x _ y aP _=>ff r av y aP) aH) (by omega)
def ayt{R:List (List bo)}{ks:List bo}(ff:∀r∈R,∀x∈r,x∈ks){rep:bo->bo}(VI:Sep ks R rep)(I2:lk rep R){o:List bo}(aL:o.Nodup)(aH:∀x∈o,x∈ks){k:Nat}(ak:ks.length<k)(y:bo):y∈nd R k o↔y∈ks/\∃a∈o,rep a=rep y:=by
 constructor;.refine VG (C:=λy=>y∈ks/\∃a∈o,rep a=rep y) ?_ (λx ag=>⟨aH x ag,x,ag,rfl⟩) y;rintro r av x ag z bC ⟨ab,a,af,aw⟩;exact⟨ff r av z bC,a,af,aw.trans (I2 r av x ag z bC)⟩
 rintro⟨aP,a,aF,e⟩;have ayu:=VH ff k o aL aH (by omega);have cf:AT R λx=>x∈nd R k o:=λr av x ag z bC hm=>VF ayu r av ⟨x,hm,ag⟩ z bC;exact VI _ cf a y (aH a aF) aP e ((afP R k o).subset aF)
def ayv{R:List (List bo)}{ks:List bo}(ff:∀r∈R,∀x∈r,x∈ks){o:List bo}(aL:o.Nodup)(aH:∀x∈o,x∈ks){k:Nat}(ak:ks.length<k):AT R λx=>x∈nd R k o:=λr av x ag z bC hm=>VF (VH ff k o aL aH (by omega)) r av ⟨x,hm,ag⟩ z bC
def AV{α σ β:Type}{f:List D->Option (List D⊕β)}(l:List α)(e3:Nat->σ->List D)(Inv:Nat->σ->Prop)(Fin:β->Prop) (afS:∀s,Inv l.length s->∃x,f (e3 l.length s)=some (.inr x)/\Fin x) (wm:∀(i:Nat)(a:α)(s:σ),l[i]?=some a->i<l.length->Inv i s->∃s',f (e3 i s)=some (.inl (e3 (i+1) s'))/\Inv (i+1) s'): ∀(n i:Nat)(s:σ),Inv i s->i<=l.length->l.length-i<n->∃x,bp f n (e3 i s)=some x/\Fin x
 |0,i,s,_,_,h=>absurd h (xay _)
 |n+1,i,s,ah,hle,aL=>by
  rw[jN];by_cases h:i<l.length;.obtain⟨s',ab,af⟩:=wm i _ s (xab h) h ah;rw[ab];exact AV l e3 Inv Fin afS wm n (i+1) s' af h (by omega)
  have:i=l.length:=by omega
  subst this;obtain⟨x,ab,af⟩:=afS s ah;rw[ab];exact⟨x,rfl,af⟩
def fi(t:Tm):List bo:=db 3 t []++db 4 t []
def VJ(t:Tm):(fi t).length<=2*t.bm:=by have ab:=(m5 3 t [] trivial).2;have af:=(m5 4 t [] trivial).2;simp only[xaq]at ab af;simp only[fi,xaK];omega
def ayw(a b:List bo):D.ax 1 (aq (bx a)++aq (bx b))=bx (a++b):=by simp[bx]
def vR(p:List bo):(aq (bx p)).length=p.length:=by simp[bx]
def VK(n:Nat)(t:Tm)(aL:t.bm+t.bm+30<n)(bk:t.cm)(aj:t.bm<100000000):xe n [t.d]=some (bx (fi t)):=by have h:=Uc n t 1 [] [] (by simp;omega) bk trivial trivial (by omega) (by omega) (by simp;omega);have e:bx []= .ax 1 []:=rfl;have ab:=(m5 3 t [] trivial).2;have af:=(m5 4 t [] trivial).2;simp only[xaq]at ab af;have dB:c1 ((db 3 t []).length+(db 4 t []).length) 16=true:=fU (by omega) (by omega);have cJ:∀l,D.ax 1 (aq (bx l))=bx l:=λ_=>rfl;rw[e]at h;simp only[xe,aaK,go_sem,Mo,h,cJ,vR,dB,ayw,fi]
structure Ju(ks:List bo)(M:List (Value×D))(par:bo->bo):Prop where
 D5:lD M
 get:∀x,x∈ks->gH M x=some (aC (par x))
 no:∀x,x∉ks->gH M x=none
theorem ayx{M:List (Value×D)}(h:lD M){z:Value}{x:ByteArray}{d:D}(aA:gH M x=some d):j4 .string z false M (aC x)=some d:=by simp only[j4,aC,ZR h,aA];rfl
def afT{ks:List bo}{M:List (Value×D)}{par rep:bo->bo}{fz:bo->Nat}{d:Nat}(hm:Ju ks M par)(h:D4 ks par rep fz d)(n:Nat): ∀(k:Nat)(x:bo),x∈ks->fz x<k->bp (Mp n) k [D.mp M,aC x]=some (.inl [aC (rep x)])
 |0,x,_,ak=>absurd ak (xay _)
 |k+1,x,ag,ak=>by
  rw[jN];have ar:=ayx (z:= .string ⟨#[]⟩) hm.D5 (hm.get x ag);have Jv:lz (D.mp M)=some M:=rfl;by_cases he:par x=x
  .have av:=(h.root x ag he).1;simp only[Mp,go_sem,Jv,ar,he,xbi,av]
  have aj:=xaE he;simp only[Mp,go_sem,Jv,ar,aj];rw[afT hm h n k (par x) (h.afG x ag) (by have:=h.down x ag he;omega),h.ew x ag]
def ayy{ks:List bo}{M:List (Value×D)}{par rep:bo->bo}{fz:bo->Nat}{d:Nat}(hm:Ju ks M par)(h:D4 ks par rep fz d)(n:Nat)(aL:d<n)(x:bo)(ag:x∈ks):pN n [D.mp M,aC x]=some (aC (rep x)):=by have:=afT hm h n n x ag (by have:=h.afH x ag;omega);simp only[pN,aaL,go_sem,this]
def nG(ks:List bo)(R:List (List bo))(M:List (Value×D))(rep:bo->bo)(d:Nat):Prop:=∃par fz,Ju ks M par/\D4 ks par rep fz d/\Sep ks R rep
def nG.find{ks:List bo}{R:List (List bo)}{M:List (Value×D)}{rep:bo->bo}{d:Nat}(h:nG ks R M rep d)(n:Nat)(aL:d<n)(x:bo)(ag:x∈ks):pN n [D.mp M,aC x]=some (aC (rep x)):=by obtain⟨par,fz,ab,af,_⟩:=h;exact ayy ab af n aL x ag
open Classical in
def nG.link{ks:List bo}{R:List (List bo)}{M:List (Value×D)}{rep:bo->bo}{d:Nat}(h:nG ks R M rep d){a b:bo}(aF:a∈ks)(aj:b∈ks){r:List bo}(av:r∈R)(OH:a∈r)(OI:b∈r): ∃cY,nr .string M (aC (rep a)) (aC (rep b))=some cY/\nG ks R cY (λx=>if rep x=rep a then rep b else rep x) (d+1)/\xP rep (λx=>if rep x=rep a then rep b else rep x):=by
 obtain⟨par,fz,ab,af,aw⟩:=h;obtain⟨VB,aV,a2,bb⟩:=ayn af aw aF aj av OH OI;obtain⟨cY,dE,di,eY,_⟩:=B3 ab.D5 (rep a) (aC (rep b));refine⟨cY,dE,⟨_,VB,⟨di,λx ag=>?_,λx ag=>?_⟩,aV,a2⟩,bb⟩
 .rw[eY x]
  try simp only
  by_cases lN:x=rep a;.rw[xad lN,xad lN]
  rw[xaa lN,xaa lN];exact ab.get x ag
 rw[eY x,xaa (by rintro rfl;exact ag (af.OG a aF))];exact ab.no x ag
def OO(ks:List bo)(R:List (List bo))(rep:bo->bo)(d:Nat)(xs:List bo)(cY:List (Value×D)):Prop:= ∃jY,nG ks R cY jY (d+xs.length)/\xP rep jY/\∀x∈xs,∀y∈xs,jY x=jY y
open Classical in
def afU{ks:List bo}{R:List (List bo)}{M:List (Value×D)}{rep afV:bo->bo}{d:Nat}(h:nG ks R M rep d){hf a:bo}{r pre:List bo}(av:r∈R)(ak:∀x∈r,x∈ks)(xQ:hf∈r)(aF:a∈r)(bd:xP afV rep)(aU:∀x∈pre,rep x=rep hf): ∃cY jY,nr .string M (aC (rep a)) (aC (rep hf))=some cY/\nG ks R cY jY (d+1)/\xP afV jY/\∀x∈pre++[a],jY x=jY hf:=by
 obtain⟨cY,aV,a2,bb⟩:=h.link (ak a aF) (ak hf xQ) av aF xQ;refine⟨cY,_,aV,a2,λx y e=>bb x y (bd x y e),?_⟩;intro x ag;rcases xar.1 ag with ag|ag;.exact bb x hf (aU x ag)
 simp at ag;subst ag;simp only;rw[xad trivial];split;.rfl
 rfl
structure sr where
 M:List (Value×D)
 rep:bo->bo
theorem o8(M:List (Value×D)):D.mp (ej (D.mp M))=D.mp M:=rfl
theorem afW(x:bo):(aC x).flat=true:=rfl
def ayz{ks:List bo}{R:List (List bo)}{M:List (Value×D)}{rep:bo->bo}{d:Nat}(h:nG ks R M rep d)(n:Nat){xs:List bo}(av:xs∈R)(ak:∀x∈xs,x∈ks)(aL:d+xs.length+5<n)(aj:xs.length<1000000000): ∃cY,Ct n [bx xs,D.mp M]=some [D.a1 [],D.mp cY]/\OO ks R rep d xs cY:=by
 have key:=AV (f:=Mq n) xs (λi (s:sr)=>[bx xs,bx xs,J xs.length,J (i:Int),D.mp s.M]) (λi s=>nG ks R s.M s.rep (d+i)/\xP rep s.rep/\∀x∈xs.take i,s.rep x=s.rep (xs.headD ⟨#[]⟩)) (λb=>∃cY,b= .inl [D.mp cY]/\OO ks R rep d xs cY) ?_ ?_ n 0 ⟨M,rep⟩ ⟨h,λx y e=>e,by simp⟩ (xai _) (by omega);.obtain⟨x,ab,cY,rfl,af⟩:=key;have bJ:(J ((0:Nat):Int))=J 0:=rfl;rw[bJ]at ab;exact⟨cY,by simp only[Ct,go_sem,l5,o8,ab],af⟩
 .rintro⟨cY,jY⟩ ⟨aV,a2,bb⟩;refine⟨_,by simp only[Mq,go_sem,yF ((xs.length:Int)<xs.length),o8],cY,rfl,jY,aV,a2,?_⟩;rw[xbH]at bb;simp only at bb;intro x ag y aP;rw[bb x ag,bb y aP]
 rintro i a ⟨cY,jY⟩ aF ah ⟨aV,a2,bb⟩;simp only at aV a2 bb⊢;obtain⟨hf,rest,ag⟩:∃hf rest,xs=hf::rest:=by cases xs with|nil=>simp at ah|cons hf rest=>exact⟨hf,rest,rfl⟩
 have Jw:xs.headD ⟨#[]⟩=hf:=by rw[ag];rfl
 have xQ:hf∈xs:=by rw[ag];simp
 have au:xs[0]?=some hf:=by rw[ag];rfl
 have Jx:=xac aF;rw[Jw]at bb;obtain⟨M2,VL,bA,bB,cz,ey⟩:=afU aV av ak xQ Jx a2 bb;have f1:=aV.find n (by omega) a (ak a Jx);have f2:=aV.find n (by omega) hf (ak hf xQ);have i0:bn 1 (bx xs) (J 0)=some [aC hf]:=n8 (i:=0) au;refine⟨⟨M2,VL⟩,?_,bB,cz,?_⟩
 .simp only[Mq,go_sem,yT ((i:Int)<xs.length),n8 aF,eu,o8,f1,f2,i0,afW,bA,b1 (bt:=false) (i:=i) (by omega)]
 rw[Jw];intro x fu;refine ey x ?_
 rwa [xch,aF]at fu
def ayA{ks:List bo}{R:List (List bo)}{M:List (Value×D)}{rep:bo->bo}{d:Nat}(h:nG ks R M rep d)(n:Nat){xs:List bo}(av:xs∈R)(ak:∀x∈xs,x∈ks)(aL:d+xs.length+5<n)(aj:xs.length<1000000000): ∃cY,Cu n [D.mp M,bx xs]=some [D.a1 [],D.mp cY,bx xs]/\OO ks R rep d xs cY:=by
 have key:=AV (f:=Mr n) xs (λi (s:sr)=>[J xs.length,J (i:Int),D.mp s.M,bx xs]) (λi s=>nG ks R s.M s.rep (d+i)/\xP rep s.rep/\∀x∈xs.take i,s.rep x=s.rep (xs.headD ⟨#[]⟩)) (λb=>∃cY,b= .inl [D.mp cY,bx xs]/\OO ks R rep d xs cY) ?_ ?_ n 0 ⟨M,rep⟩ ⟨h,λx y e=>e,by simp⟩ (xai _) (by omega);.obtain⟨x,ab,cY,rfl,af⟩:=key;have bJ:(J ((0:Nat):Int))=J 0:=rfl;rw[bJ]at ab;have cJ:∀l,D.ax 1 (aq (bx l))=bx l:=λ_=>rfl;exact⟨cY,by simp only[Cu,go_sem,vR,cJ,o8,ab],af⟩
 .rintro⟨cY,jY⟩ ⟨aV,a2,bb⟩;have cJ:∀l,D.ax 1 (aq (bx l))=bx l:=λ_=>rfl;refine⟨_,by simp only[Mr,go_sem,yF ((xs.length:Int)<xs.length),o8,cJ],cY,rfl,jY,aV,a2,?_⟩;rw[xbH]at bb;simp only at bb;intro x ag y aP;rw[bb x ag,bb y aP]
 rintro i a ⟨cY,jY⟩ aF ah ⟨aV,a2,bb⟩;simp only at aV a2 bb⊢;obtain⟨hf,rest,ag⟩:∃hf rest,xs=hf::rest:=by cases xs with|nil=>simp at ah|cons hf rest=>exact⟨hf,rest,rfl⟩
 have Jw:xs.headD ⟨#[]⟩=hf:=by rw[ag];rfl
 have xQ:hf∈xs:=by rw[ag];simp
 have au:xs[0]?=some hf:=by rw[ag];rfl
 have Jx:=xac aF;rw[Jw]at bb;obtain⟨M2,VL,bA,bB,cz,ey⟩:=afU aV av ak xQ Jx a2 bb;have f1:=aV.find n (by omega) a (ak a Jx);have f2:=aV.find n (by omega) hf (ak hf xQ);have cJ:∀l,D.ax 1 (aq (bx l))=bx l:=λ_=>rfl;have k2:b9 xs.length (J (i:Int))=some i:=c3 ah;have nW:b9 xs.length (J 0)=some 0:=c3 (i:=0) (by omega);have hr:∀{j:Nat}{s:bo},xs[j]?=some s->(aq (bx xs))[j]?=some [aC s]:=λh=>by simp[bx,h]
 refine⟨⟨M2,VL⟩,?_,bB,cz,?_⟩;.simp only[Mr,go_sem,yT ((i:Int)<xs.length),vR,k2,nW,hr aF,hr au,eu,o8,f1,f2,afW,bA,cJ,b1 (bt:=false) (i:=i) (by omega)]
 rw[Jw];intro x fu;refine ey x ?_
 rwa [xch,aF]at fu
def mM(i bS:List Tm)(nx:List bc)(t f:List Tm):List (List bo):=(i++bS++t++f).map fi++nx.map λd=>d.name::fi d.e
def kz(l:List Tm):Prop:=l.length<=1000000/\∀t∈l,t.cm/\t.bm<=30000000
def ug(l:List bc):Prop:=l.length<=1000000/\∀d∈l,d.e.cm/\d.e.bm<=30000000
def lk.app{rep:bo->bo}{a b:List (List bo)}:lk rep (a++b)↔lk rep a/\lk rep b:=by
 unfold lk;constructor;.intro h;exact⟨λr av=>h r (xar.2 (.inl av)),λr av=>h r (xar.2 (.inr av))⟩
 rintro⟨ab,af⟩ r av;rcases xar.1 av with av|av;.exact ab r av
 exact af r av
def lk.one{rep:bo->bo}{r:List bo}:lk rep [r]↔∀x∈r,∀y∈r,rep x=rep y:=by simp[lk]
def Prog(ks:List bo)(R:List (List bo))(s:sr)(b:Nat)(done:List (List bo)):Prop:=∃d,nG ks R s.M s.rep d/\d<=b/\lk s.rep done
def ayB{a b c e ts:List Tm}{i:Nat}(h:([a,b,c,e]:List (List Tm))[i]?=some ts):lS false 1 (i*1) (.agg [az a,az b,az c,az e])=some (az ts):=by
 match i,h with
 |0,h=>cases h;rfl
 |1,h=>cases h;rfl
 |2,h=>cases h;rfl
 |3,h=>cases h;rfl
 |_+4,h=>cases h
section
variable{ks:List bo}{R:List (List bo)}{n:Nat}(aL:10000000000000000<n)(ff:∀r∈R,∀x∈r,x∈ks)
include aL ff
theorem ayC{s:sr}{b:Nat}{done:List (List bo)}(h:Prog ks R s b done)(aj:b<=5000000000000000){xs:List bo}(av:xs∈R)(ag:xs.length<=100000000): ∃s',Ct n [bx xs,D.mp s.M]=some [D.a1 [],D.mp s'.M]/\Prog ks R s' (b+100000000) (done++[xs]):=by obtain⟨d,ab,af,aw⟩:=h;obtain⟨cY,aV,jY,a2,bb,cS⟩:=ayz ab n av (ff xs av) (by omega) (by omega);exact⟨⟨cY,jY⟩,aV,_,a2,by omega,lk.app.2 ⟨aw.fin bb,lk.one.2 cS⟩⟩
theorem ayD{s:sr}{b:Nat}{done:List (List bo)}(h:Prog ks R s b done)(aj:b<=5000000000000000){xs:List bo}(av:xs∈R)(ag:xs.length<=100000000): ∃s',Cu n [D.mp s.M,bx xs]=some [D.a1 [],D.mp s'.M,bx xs]/\Prog ks R s' (b+100000000) (done++[xs]):=by obtain⟨d,ab,af,aw⟩:=h;obtain⟨cY,aV,jY,a2,bb,cS⟩:=ayA ab n av (ff xs av) (by omega) (by omega);exact⟨⟨cY,jY⟩,aV,_,a2,by omega,lk.app.2 ⟨aw.fin bb,lk.one.2 cS⟩⟩
theorem ayE{ts:List Tm}(me:kz ts)(hB:∀t∈ts,fi t∈R){s:sr}{b:Nat}{done:List (List bo)}(h:Prog ks R s b done)(aj:b<=1000000000000000)(ae an c9 c4 dy ee dS fh fF fY:D): ∃s',bp (GX n) n [ae,an,az ts,J ts.length,J 0,c9,c4,dy,ee,dS,fh,fF,fY,D.mp s.M]=some (.inl [ae,an,c9,c4,dy,ee,dS,fh,fF,fY,D.mp s'.M])/\Prog ks R s' (b+100000000000000) (done++ts.map fi):=by
 obtain⟨ar,me⟩:=me;have key:=AV (f:=GX n) ts (λi (s:sr)=>[ae,an,az ts,J ts.length,J (i:Int),c9,c4,dy,ee,dS,fh,fF,fY,D.mp s.M]) (λi s=>Prog ks R s (b+i*100000000) (done++(ts.take i).map fi)) (λx=>∃s',x= .inl [ae,an,c9,c4,dy,ee,dS,fh,fF,fY,D.mp s'.M]/\Prog ks R s' (b+100000000000000) (done++ts.map fi)) ?_ ?_ n 0 s (by simpa using h) (xai _) (by omega)
 .obtain⟨x,ab,s',rfl,af⟩:=key;exact⟨s',ab,af⟩
 .intro s' g;refine⟨_,by simp only[GX,go_sem,yF ((ts.length:Int)<ts.length),o8],s',rfl,?_⟩;rw[xbH]at g;obtain⟨d,aV,a2,bb⟩:=g;exact⟨d,aV,by omega,bb⟩
 intro i t s' aM ah g;have hm:=xac aM;obtain⟨aG,bC⟩:=me t hm;have jB:=VK n t (by omega) aG (by omega);have b5:=VJ t;obtain⟨s2,bA,bB⟩:=ayC aL ff g (by omega) (hB t hm) (by omega);refine⟨s2,?_,?_⟩
 .simp only[GX,go_sem,yT ((i:Int)<ts.length),ob aM,jB,o8,bA,b1 (bt:=false) (i:=i) (by omega)]
 have e:(ts.take (i+1)).map fi=(ts.take i).map fi++[fi t]:=by rw[xch,aM];simp
 rw[e,<-xaO];obtain⟨d,aV,a2,bb⟩:=bB;exact⟨d,aV,by omega,bb⟩
theorem ayF{a b c e:List Tm}(bO:∀ts∈[a,b,c,e],kz ts)(hB:∀ts∈[a,b,c,e],∀t∈ts,fi t∈R){s:sr}(h:Prog ks R s 0 [])(ba b2 cK c9 c4 dy ee dS:D): ∃s',bp (GY n) n [.agg [az a,az b,az c,az e],J 0,ba,b2,cK,c9,c4,dy,ee,dS,D.mp s.M]=some (.inl [ba,b2,cK,c9,c4,dy,ee,dS,D.mp s'.M])/\Prog ks R s' 500000000000000 ((a++b++c++e).map fi):=by
 have key:=AV (f:=GY n) [a,b,c,e] (λi (s:sr)=>[.agg [az a,az b,az c,az e],J (i:Int),ba,b2,cK,c9,c4,dy,ee,dS,D.mp s.M]) (λi s=>Prog ks R s (i*100000000000000) ((([a,b,c,e]:List (List Tm)).take i).flatten.map fi)) (λx=>∃s',x= .inl [ba,b2,cK,c9,c4,dy,ee,dS,D.mp s'.M]/\Prog ks R s' 500000000000000 ((a++b++c++e).map fi)) ?_ ?_ n 0 s (by simpa using h) (xai _) (by simp;omega);.obtain⟨x,ab,s',rfl,af⟩:=key;exact⟨s',ab,af⟩
 .intro s' g;refine⟨_,by simp only[GY,go_sem,xao,xaq,yF (((0+1+1+1+1:Nat):Int)<4),o8],s',rfl,?_⟩;have e:([a,b,c,e]:List (List Tm)).take ([a,b,c,e]:List (List Tm)).length=[a,b,c,e]:=xbH;rw[e]at g;obtain⟨d,aV,a2,bb⟩:=g;refine⟨d,aV,by simp only[xao,xaq]at a2;omega,?_⟩;simpa[List.flatten]using bb
 intro i ts s' aM ah g;simp only[xao,xaq]at ah;have hm:=xac aM;obtain⟨s2,bA,bB⟩:=ayE aL ff (bO ts hm) (hB ts hm) g (by omega) (.agg [az a,az b,az c,az e]) (J (i:Int)) ba b2 cK c9 c4 dy ee dS;have k2:b9 4 (J (i:Int))=some i:=c3 (by omega);refine⟨s2,?_,?_⟩
 .simp only[GY,go_sem,yT ((i:Int)<4),k2,ayB aM,hy,bA,o8,b1 (bt:=false) (i:=i) (by omega)]
 have e:(([a,b,c,e]:List (List Tm)).take (i+1)).flatten.map fi=(([a,b,c,e]:List (List Tm)).take i).flatten.map fi++ts.map fi:=by rw[xch,aM];simp
 rw[e];obtain⟨d,aV,a2,bb⟩:=bB;exact⟨d,aV,by omega,bb⟩
theorem ayG{nx:List bc}(me:ug nx)(hB:∀d∈nx,(d.name::fi d.e)∈R){s:sr}{b:Nat}{done:List (List bo)}(h:Prog ks R s b done)(aj:b<=1000000000000000): ∃s',bp (GZ n) n [aQ nx,J nx.length,J 0,D.mp s.M]=some (.inl [D.mp s'.M])/\Prog ks R s' (b+100000000000000) (done++nx.map λd=>d.name::fi d.e):=by
 obtain⟨ar,me⟩:=me;have key:=AV (f:=GZ n) nx (λi (s:sr)=>[aQ nx,J nx.length,J (i:Int),D.mp s.M]) (λi s=>Prog ks R s (b+i*100000000) (done++(nx.take i).map λd=>d.name::fi d.e)) (λx=>∃s',x= .inl [D.mp s'.M]/\Prog ks R s' (b+100000000000000) (done++nx.map λd=>d.name::fi d.e)) ?_ ?_ n 0 s (by simpa using h) (xai _) (by omega)
 .obtain⟨x,ab,s',rfl,af⟩:=key;exact⟨s',ab,af⟩
 .intro s' g;refine⟨_,by simp only[GZ,go_sem,yF ((nx.length:Int)<nx.length),o8],s',rfl,?_⟩;rw[xbH]at g;obtain⟨d,aV,a2,bb⟩:=g;exact⟨d,aV,by omega,bb⟩
 intro i t s' aM ah g;have hm:=xac aM;obtain⟨aG,bC⟩:=me t hm;have jB:=VK n t.e (by omega) aG (by omega);have b5:=VJ t.e;obtain⟨s2,bA,bB⟩:=ayD aL ff g (by omega) (hB t hm) (by simp only[xao];omega);have e0:kn (bx (fi t.e))=some (1,aq (bx (fi t.e))):=rfl;have hF:D.ax 1 ([[aC t.name]]++aq (bx (fi t.e)))=bx (t.name::fi t.e):=rfl;have dB:c1 (1+(fi t.e).length) 16=true:=fU (by omega) (by omega);refine⟨s2,?_,?_⟩
 .simp only[GZ,go_sem,yT ((i:Int)<nx.length),fs aM,bc.FE,bc.agg,bc.a8,bc.bP,bc.b6,bc.cA,bc.dC,jB,e0,hF,vR,xao,xaq,xaw,dB,true_or,xbi,Nat.lt_add_one,o8,bA,b1 (bt:=false) (i:=i) (by omega)]
 have e:((nx.take (i+1)).map λd=>d.name::fi d.e)=((nx.take i).map λd=>d.name::fi d.e)++[t.name::fi t.e]:=by rw[xch,aM];simp
 rw[e,<-xaO];obtain⟨d,aV,a2,bb⟩:=bB;exact⟨d,aV,by omega,bb⟩
end
def ayH{vs:List V}(R:List (List bo))(n:Nat)(aL:vs.length+5<n)(aj:vs.length<1000000000)(b2 cK c9 c4 dy ee dS fh:D): ∃s,bp (GW n) n [bl vs,J vs.length,J 0,b2,cK,c9,c4,dy,ee,dS,fh,D.mp []]=some (.inl [b2,cK,c9,c4,dy,ee,dS,fh,D.mp s.M])/\Prog (vs.map V.name) R s 0 []:=by
 have key:=AV (f:=GW n) vs (λi (M:List (Value×D))=>[bl vs,J vs.length,J (i:Int),b2,cK,c9,c4,dy,ee,dS,fh,D.mp M]) (λi M=>Ju ((vs.take i).map V.name) M λx=>x) (λx=>∃M,x= .inl [b2,cK,c9,c4,dy,ee,dS,fh,D.mp M]/\Ju (vs.map V.name) M λx=>x) ?_ ?_ n 0 [] ⟨λe he=>by(cases he),by simp,λx _=>rfl⟩ (xai _) (by omega);.obtain⟨x,ab,M,rfl,af⟩:=key;exact⟨⟨M,λx=>x⟩,ab,0,⟨_,_,af,ayl _,aym _ _⟩,xan _,by intro r av;cases av⟩
 .intro M g;refine⟨_,by simp only[GW,go_sem,yF ((vs.length:Int)<vs.length),o8],M,rfl,?_⟩
  rwa [xbH]at g
 intro i v M a6 ah g;obtain⟨cY,dE,di,eY,_⟩:=B3 g.D5 v.name (aC v.name);have aA:=V.tU v;have ayI:ej (D.mp M)=M:=rfl;refine⟨cY,?_,di,?_,?_⟩
 .simp only[GW,go_sem,yT ((i:Int)<vs.length),ij a6,aA.1,aA.2.1,aA.2.2,ayI,dE,b1 (bt:=false) (i:=i) (by omega)]
 .intro x ag;rw[eY x];by_cases he:x=v.name;.rw[xad he,he]
  rw[xaa he];refine g.get x ?_;rw[xch,a6]at ag;simp only[Option.toList,List.map_append,xaA,xbq,xar,xak,List.not_mem_nil,or_false]at ag;exact ag.resolve_right he
 intro x ag;rw[xch,a6]at ag;simp only[Option.toList,List.map_append,xaA,xbq,xar,xak,List.not_mem_nil,or_false,not_or]at ag;rw[eY x,xaa ag.2];exact g.no x ag.1
structure AW(vs:List V)(i bS:List Tm)(nx:List bc)(t f:List Tm):Prop where
 a6:vs.length<=1000
 ah:kz i
 xR:kz bS
 mP:ug nx
 aM:kz t
 bd:kz f
 known:∀r∈mM i bS nx t f,∀x∈r,x∈vs.map V.name
theorem Jy{vs:List V}{i bS:List Tm}{nx:List bc}{t f:List Tm}{sp:List cw}{dd:D}(kj:dd.one=true):a4 8 (dT vs dd i bS nx t f sp)=true:=by simp only[dT,LH,kj];rfl
def ayJ{vs:List V}{i bS:List Tm}{nx:List bc}{t f:List Tm}(h:AW vs i bS nx t f){dd:D}(kj:dd.one=true)(sp:List cw)(n:Nat)(aL:10000000000000000<n): ∃M rep d,G0 n [dT vs dd i bS nx t f sp]=some (D.mp M)/\nG (vs.map V.name) (mM i bS nx t f) M rep d/\d<=1000000000000000/\lk rep (mM i bS nx t f):=by
 have a6:=h.a6;obtain⟨s1,an,ba⟩:=ayH (vs:=vs) (mM i bS nx t f) n (by omega) (by omega) (bl vs) dd (az i) (az bS) (aQ nx) (az t) (az f) (b3 sp);have hB:∀ts∈[i,bS,t,f],∀x∈ts,fi x∈mM i bS nx t f:=by
  intro ts me x ag;refine xar.2 (.inl (xax.2 ⟨x,?_,rfl⟩));simp only[xak,List.not_mem_nil,or_false]at me;simp only[xar];rcases me with rfl|rfl|rfl|rfl
  .exact .inl (.inl (.inl ag))
  .exact .inl (.inl (.inr ag))
  .exact .inl (.inr ag)
  exact .inr ag
 have bk:∀ts∈[i,bS,t,f],kz ts:=by
  intro ts me;simp only[xak,List.not_mem_nil,or_false]at me;rcases me with rfl|rfl|rfl|rfl
  .exact h.ah
  .exact h.xR
  .exact h.aM
  exact h.bd
 obtain⟨s2,dP,gw⟩:=ayF aL h.known bk hB ba (bl vs) dd (az i) (az bS) (aQ nx) (az t) (az f) (b3 sp);obtain⟨gF,bP,b6⟩:=ayG aL h.known (nx:=nx) h.mP (λd aA=>xar.2 (.inr (xax.2 ⟨d,aA,rfl⟩))) gw (by omega);obtain⟨d,d1,d2,d3⟩:=b6;refine⟨gF.M,gF.rep,d,?_,d1,by omega,d3⟩;have gb:∀l,bu (az l)=true:=λ_=>rfl;have o2:a4 8 (dT vs dd i bS nx t f sp)=true:=Jy kj;have a8:ad (dT vs dd i bS nx t f sp) 0=bl vs:=rfl;have VM:ad (dT vs dd i bS nx t f sp) 1=dd:=rfl;have b6:ad (dT vs dd i bS nx t f sp) 2=az i:=rfl;have cA:ad (dT vs dd i bS nx t f sp) 3=az bS:=rfl;have dC:ad (dT vs dd i bS nx t f sp) 4=aQ nx:=rfl;have eC:ad (dT vs dd i bS nx t f sp) 5=az t:=rfl;have eD:ad (dT vs dd i bS nx t f sp) 6=az f:=rfl;have eX:ad (dT vs dd i bS nx t f sp) 7=b3 sp:=rfl;simp only[G0,aaM,o2,a8,VM,b6,cA,dC,eC,eD,eX,go_sem,fX,an,gb,o8,dP,ec,bP]
def VN{α:Type}(l:List α)(q:α->Bool){f:List D->Option (List D⊕(List D⊕D))}(e3:Nat->List D) (aH:∀i a,l[i]?=some a->i<l.length->f (e3 i)=some (if q a=true then .inr (.inr (J (i:Int)))else .inl (e3 (i+1)))) (he:f (e3 l.length)=some (.inr (.inl []))) (n:Nat) (aL:l.length<n): ∃b,bp f n (e3 0)=some b/\((l.any q=false/\b= .inl [])\/(l.any q=true/\∃k:Nat,b= .inr (J (k:Int)))):=by
 have key:∀(m i:Nat),i<=l.length->l.length-i<m->∃b,bp f m (e3 i)=some b/\(((l.drop i).any q=false/\b= .inl [])\/((l.drop i).any q=true/\∃k:Nat,b= .inr (J (k:Int)))):=by
  intro m
  induction m with
  |zero=>intro i _ h;exact absurd h (xay _)
  |succ m ih=>
   intro i ah hm;rw[jN];by_cases h:i<l.length;.have aF:=xab h;have e:l.drop i=l[i]::l.drop (i+1):=xaW h;rw[aH i _ aF h,e,List.any_cons];cases bj:q l[i]with|true=>exact⟨_,rfl,.inr ⟨rfl,i,rfl⟩⟩|false=>obtain⟨b,ab,af⟩:=ih (i+1) h (by omega);exact⟨b,ab,af⟩
   have:i=l.length:=by omega
   subst this;rw[he];exact⟨_,rfl,.inl ⟨by simp,rfl⟩⟩
 simpa using key n 0 (xai _) (by omega)
def ayK(ks:List bo)(x:bo):dM ks x=ks.any λz=>decide (x=z):=by
 unfold dM
 congr 1;funext z
 by_cases h:x=z;.simp[h]
 have af:¬z=x:=λe=>h e.symm;rw[xaE h,xaE af]
def ayL(n:Nat)(l:List bo)(x:bo)(aL:l.length+1<n)(aj:l.length<1000000000):th n [bx l,aC x]=some (ay (dM l x)):=by
 obtain⟨b,ab,af⟩:=VN l (λz=>decide (x=z)) (f:=tg n) (λi=>[bx l,aC x,J l.length,J (i:Int)]) (λi a aF ah=>by
  cases bj:decide (x=a);.simp only[tg,go_sem,yT ((i:Int)<l.length),n8 aF,eu,bj,b1 (bt:=false) (i:=i) (by omega)]
  .simp only[tg,go_sem,yT ((i:Int)<l.length),n8 aF,eu,bj]) (by
  simp only[tg,go_sem,yF ((l.length:Int)<l.length)]) n (by omega)
 have bJ:(J ((0:Nat):Int))=J 0:=rfl;rw[bJ]at ab;rw[ayK];rcases af with⟨aw,rfl⟩|⟨aw,k,rfl⟩
 .simp only[th,LO,w6,FT,go_sem,l5,ab,aw,yF ((-1:Int)>=0)]
 simp only[th,LO,w6,FT,go_sem,l5,ab,aw,yT ((k:Int)>=0)]
section
variable{ks:List bo}{R:List (List bo)}{M:List (Value×D)}{rep:bo->bo}{d:Nat}(h:nG ks R M rep d){n:Nat}(aL:d<n)
include h aL
theorem ayM(v:V)(a6:v.name∈ks)(a:bo):zA n [aC a,.ref [D.mp M] 0,.ref [aC v.name,ay v.bool,J v.lo,J v.ah] 0]=some (ay (dM ks a&&decide (rep a=rep v.name))):=by
 obtain⟨par,fz,ab,af,aw⟩:=id h;have Jv:lz (D.mp M)=some M:=rfl;have an:a3 false 1 0 [D.mp M]=some (D.mp M):=rfl;have ba:a3 false 1 0 [aC v.name,ay v.bool,J v.lo,J v.ah]=some (aC v.name):=rfl;have ar:=yS (z:= .string ⟨#[]⟩) (x:=a) ab.D5;have f2:=h.find n aL v.name a6;by_cases aF:a∈ks
 .rw[ab.get a aF]at ar;have f1:=h.find n aL a aF;have bI:dM ks a=true:=sq.2 aF;simp only[zA,Mt,go_sem,an,ba,Jv,ar,f1,f2,bI,eb,dQ,xbw]
 rw[ab.no a aF]at ar;have bI:dM ks a=false:=VD.2 aF;simp only[zA,Mt,go_sem,an,ba,Jv,ar,bI,eb,nt,dQ,xbx]
theorem ayN(v:V)(a6:v.name∈ks)(gq:Bool)(l:List bo)(afX:l.length+1<n)(aj:l.length<1000000000):zB n [eG gq l,D.fn (.func ta) [] [.ref [D.mp M] 0,.ref [aC v.name,ay v.bool,J v.lo,J v.ah] 0]]=some (ay (l.any λa=>dM ks a&&decide (rep a=rep v.name))):=by
 obtain⟨b,ab,af⟩:=VN l (λa=>dM ks a&&decide (rep a=rep v.name)) (f:=G1 n) (λi=>[eG gq l,.ref [D.mp M] 0,.ref [aC v.name,ay v.bool,J v.lo,J v.ah] 0,J l.length,J (i:Int)]) (λi a aF ah=>by
  have ab:=ayM h aL v a6 a;cases bj:(dM ks a&&decide (rep a=rep v.name));.rw[bj]at ab;simp only[G1,go_sem,yT ((i:Int)<l.length),mF aF,eu,ab,b1 (bt:=false) (i:=i) (by omega)]
  .rw[bj]at ab;simp only[G1,go_sem,yT ((i:Int)<l.length),mF aF,eu,ab]) (by
  simp only[G1,go_sem,yF ((l.length:Int)<l.length)]) n (by omega)
 have bJ:(J ((0:Nat):Int))=J 0:=rfl;have bd:∀x y,hO ta (D.fn (.func ta) [] [x,y])=some [x,y]:=λx y=>by simp[hO]
 rw[bJ]at ab;rcases af with⟨aw,rfl⟩|⟨aw,k,rfl⟩
 .simp only[zB,Mv,Cv,Mu,bd,go_sem,ic,ab,aw,yF ((-1:Int)>=0)]
 simp only[zB,Mv,Cv,Mu,bd,go_sem,ic,ab,aw,yT ((k:Int)>=0)]
end
def xS(vs:List V)(rep:bo->bo)(l:List bo):List bo:=(vs.map V.name).filter λx=>l.any λa=>dM (vs.map V.name) a&&decide (rep a=rep x)
def ayO{vs:List V}{rep:bo->bo}{l:List bo}{x:bo}:x∈xS vs rep l↔x∈vs.map V.name/\∃a∈l,a∈vs.map V.name/\rep a=rep x:=by unfold xS;rw[xbA,xbs];simp only[xal,sq,xaC]
def ayP{vs:List V}{R:List (List bo)}{M:List (Value×D)}{rep:bo->bo}{d:Nat}(h:nG (vs.map V.name) R M rep d){n:Nat}(aL:d<n)(a6:vs.length<1000000)(aBI:vs.length<n)(gq:Bool)(l:List bo)(afX:l.length+1<n)(aj:l.length<1000000000):bp (CL n) n [eG gq l,bl vs,J vs.length,J 0,D.mp M,D.ax 1 []]=some (.inl [bx (xS vs rep l)]):=by
 have cJ:∀l,D.ax 1 (aq (bx l))=bx l:=λ_=>rfl;have ar:=dD (f:=CL n) vs (λi (o:List bo)=>[eG gq l,bl vs,J vs.length,J (i:Int),D.mp M,bx o]) (λr o=>(.inl [bx (o++(r.map V.name).filter λx=>l.any λa=>dM (vs.map V.name) a&&decide (rep a=rep x))]:List D⊕D)) (λi o=>o.length<=i) (λo _=>by simp only[CL,go_sem,yF ((vs.length:Int)<vs.length),cJ,xbq,xbS,xaD]) ?_ n 0 [] (xan _) (by omega) (xai _)
 .have bJ:(J ((0:Nat):Int))=J 0:=rfl;have aJ:bx []= .ax 1 []:=rfl;rw[bJ,aJ]at ar;unfold xS;simpa only[xam,xaG]using ar
 intro i v o jB ah aG;left;have aA:=V.tU v;have bP:ad v.d 1=ay v.bool:=rfl;have b6:ad v.d 2=J v.lo:=rfl;have cA:ad v.d 3=J v.ah:=rfl;have ayQ:v.name∈vs.map V.name:=xax.2 ⟨v,xac jB,rfl⟩;have ab:=ayN h aL v ayQ gq l afX aj;have dB:c1 (o.length+1) 16=true:=fU (by omega) (by omega);have oh:∀b,(ay b).flat=true:=λ_=>rfl;cases bj:(l.any λa=>dM (vs.map V.name) a&&decide (rep a=rep v.name))with
 |true=>
  rw[bj]at ab;refine⟨o++[v.name],?_,?_,by simp;omega⟩;.simp only[CL,go_sem,yT ((i:Int)<vs.length),ij jB,aA.1,aA.2.1,aA.2.2,bP,b6,cA,ab,oh,cJ,vR,xao,xaq,xaw,dB,Ap,b1 (bt:=false) (i:=i) (by omega)]
  rw[xaA,xbb,xad bj];simp
 |false=>
  rw[bj]at ab;refine⟨o,?_,?_,by omega⟩;.simp only[CL,go_sem,yT ((i:Int)<vs.length),ij jB,aA.1,aA.2.1,aA.2.2,bP,b6,cA,ab,oh,cJ,b1 (bt:=false) (i:=i) (by omega)]
  rw[xaA,xbb,xaa (by rw[bj];decide)]
def ayR{l L:List bo}(aL:l.Nodup)(aU:Part 0 l.length l L)(aH:eF blt 0 l.length (gt L)):fN L:=by
 have hw:Jm L:=afp (by rw[aU.len];exact aH);have oW:∀x∈L,x∈l:=λx ag=>(aU.mem x).1 ag;have aA:dW L=L:=by
  have ab:l.length<=(dW L).length:=Jt aL λx ag=>(Ov _ _).2 ((aU.mem x).2 ag);have af:∀(L:List bo),(dW L).length<=L.length/\((dW L).length=L.length->dW L=L):=by
   intro L
   induction L with
   |nil=>simp[dW]
   |cons a r ih=>
    cases r with
    |nil=>simp[dW]
    |cons b r=>
     simp only[dW]at ih⊢;split;.simp only[xao]at ih⊢;exact⟨by omega,λh=>by omega⟩
     simp only[xao]at ih⊢;exact⟨by omega,λh=>by rw[ih.2 (by omega)]⟩
  exact(af L).2 (Nat.le_antisymm (af L).1 (by rw[aU.len];exact ab))
 rw[<-aA];exact Vp hw
def ayS{vs:List V}{i bS:List Tm}{nx:List bc}{t f:List Tm}(h:AW vs i bS nx t f)(k6:(vs.map V.name).Nodup){dd:D}(kj:dd.one=true)(sp:List cw)(n:Nat)(aL:10000000000000000<n)(gq:Bool)(l:List bo)(aj:l.length<1000000000): ∃rep OP,vi n [dT vs dd i bS nx t f sp,eG gq l]=some (bx OP)/\Sep (vs.map V.name) (mM i bS nx t f) rep/\lk rep (mM i bS nx t f)/\fN OP/\OP.length<=vs.length/\∀x,x∈OP↔x∈vs.map V.name/\∃a∈l,a∈vs.map V.name/\rep a=rep x:=by
 have a6:=h.a6;obtain⟨M,rep,d,dP,gw,h7,l7⟩:=ayJ h kj sp n aL;have a5:=ayP gw (n:=n) (by omega) (by omega) (by omega) gq l (by omega) aj;have ayT:(xS vs rep l).Nodup:=List.Pairwise.filter _ k6;have kD:(xS vs rep l).length<=vs.length:=by have:=List.length_filter_le (λx=>l.any λa=>dM (vs.map V.name) a&&decide (rep a=rep x)) (vs.map V.name);simpa[xS]using this
 obtain⟨L,s1,s2,gF⟩:=afD n (xS vs rep l) (by omega) (by omega);have VI:Sep (vs.map V.name) (mM i bS nx t f) rep:=by obtain⟨_,_,_,_,q⟩:=gw;exact q
 refine⟨rep,L,?_,VI,l7,ayR ayT s2 gF,by rw[s2.len];exact kD,λx=>by rw[s2.mem,ayO]⟩;have o2:a4 8 (dT vs dd i bS nx t f sp)=true:=Jy kj;have a8:ad (dT vs dd i bS nx t f sp) 0=bl vs:=rfl;have ga:D.agg [bl vs,ad (dT vs dd i bS nx t f sp) 1,ad (dT vs dd i bS nx t f sp) 2,ad (dT vs dd i bS nx t f sp) 3,ad (dT vs dd i bS nx t f sp) 4,ad (dT vs dd i bS nx t f sp) 5,ad (dT vs dd i bS nx t f sp) 6,ad (dT vs dd i bS nx t f sp) 7]=dT vs dd i bS nx t f sp:=rfl;have cJ:∀l,D.ax 1 (aq (bx l))=cq l:=λ_=>rfl;have aBJ:cq L=bx L:=rfl;have Jz:bu (D.mp M)=true:=rfl;simp only[vi,aaY,o2,ga,a8,go_sem,dP,Jz,fX,a5,cJ,s1];rfl
abbrev vS(K:List bo):D:= .fn (.func qv) [] [.ref [bx K] 0]
abbrev mN(K:List bo):D:= .ref [vS K] 0
section
variable{n:Nat}{K:List bo}(aL:1000000000<n)(fj:K.length<1000000)
include aL fj
theorem ayU(x:bo):rT n [aC x,.ref [bx K] 0]=some (ay (dM K x)):=by have h:=ayL n K x (by omega) (by omega);have an:a3 false 1 0 [bx K]=some (bx K):=rfl;simp only[rT,SU,go_sem,an,h]
theorem VO(x:bo):BC [(qv,rT n)] (vS K) [aC x]=some (ay (dM K x)):=by have h:=ayU aL fj x;have aA:QA (vS K)=some (qv,[.ref [bx K] 0]):=rfl;simp only[BC,aA,eL,EZ,xaH,xbN,xaG,h]
theorem ayV(v:V):CM n [v.d,mN K]=some (ay (dM K v.name)):=by have h:=VO aL fj v.name;have an:a3 false 1 0 [vS K]=some (vS K):=rfl;have aA:=V.tU v;simp only[CM,SV,go_sem,an,aA.2.1,aA.2.2,h]
theorem ayW(d:bc):CR n [d.d,mN K]=some (ay (dM K d.name)):=by have h:=VO aL fj d.name;have an:a3 false 1 0 [vS K]=some (vS K):=rfl;simp only[CR,S0,go_sem,an,bc.agg,bc.a8,h]
theorem ayX(x:bo):CO n [aC x,mN K]=some (ay (!dM K x)):=by have h:=VO aL fj x;have an:a3 false 1 0 [vS K]=some (vS K):=rfl;simp only[CO,SX,go_sem,an,h]
theorem ayY(l:List bo)(aj:l.length<1000000000):zL n [bx l,D.fn (.func s9) [] [mN K]]=some (ay (l.any λa=>!dM K a)):=by
 obtain⟨b,ab,af⟩:=VN l (λa=>!dM K a) (f:=Hl n) (λi=>[bx l,mN K,J l.length,J (i:Int)]) (λi a aF ah=>by
  have ab:=ayX aL fj a;cases bj:(!dM K a);.rw[bj]at ab;simp only[Hl,go_sem,yT ((i:Int)<l.length),n8 aF,eu,ab,b1 (bt:=false) (i:=i) (by omega)]
  .rw[bj]at ab;simp only[Hl,go_sem,yT ((i:Int)<l.length),n8 aF,eu,ab]) (by
  simp only[Hl,go_sem,yF ((l.length:Int)<l.length)]) n (by omega)
 have bJ:(J ((0:Nat):Int))=J 0:=rfl;have bd:∀x,hO s9 (D.fn (.func s9) [] [x])=some [x]:=λx=>by simp[hO]
 rw[bJ]at ab;rcases af with⟨aw,rfl⟩|⟨aw,k,rfl⟩
 .simp only[zL,MH,CP,MG,bd,go_sem,l5,ab,aw,yF ((-1:Int)>=0)]
 simp only[zL,MH,CP,MG,bd,go_sem,l5,ab,aw,yT ((k:Int)>=0)]
def mf(K:List bo)(t:Tm):Bool:=!(fi t).any λa=>!dM K a
theorem ayZ(t:Tm)(aG:t.cm)(bC:t.bm<=30000000):CQ n [t.d,mN K]=some (ay (mf K t)):=by have ab:=VK n t (by omega) aG (by omega);have ar:=VJ t;have af:=ayY aL fj (fi t) (by omega);have oh:∀b,(ay b).flat=true:=λ_=>rfl;simp only[CQ,SY,go_sem,ab,af,mf]
theorem ay0(vs:List V)(ar:vs.length<=1000000):CN n [bl vs,D.fn (.func uW) [] [mN K]]=some (bl (vs.filter λv=>dM K v.name)):=by
 have cJ:∀l,D.ax 4 (aq (bl l))=bl l:=λ_=>rfl;have el:∀l,(aq (bl l)).length=l.length:=λl=>by simp[bl]
 have dv:=dD (f:=Hk n) vs (λi (o:List V)=>[mN K,bl vs,J vs.length,J (i:Int),bl o]) (λr o=>(.inl [bl (o++r.filter λv=>dM K v.name)]:List D⊕D)) (λi o=>o.length<=i) (λo _=>by simp only[Hk,go_sem,yF ((vs.length:Int)<vs.length),cJ,xbS,xaD]) ?_ n 0 [] (xan _) (by omega) (xai _)
 .have bJ:(J ((0:Nat):Int))=J 0:=rfl;have aJ:bl []= .ax 4 []:=rfl;rw[bJ,aJ]at dv;simp only[xam,xaG]at dv;have bd:hO uW (D.fn (.func uW) [] [mN K])=some [mN K]:=by simp[hO]
  simp only[CN,SW,bd,go_sem,fX,dv,cJ]
 intro i v o a6 ah aG;left;have aA:=V.tU v;have D6:D.agg [aC v.name,ay v.bool,J v.lo,J v.ah]=v.d:=rfl;have bP:ad v.d 1=ay v.bool:=rfl;have b6:ad v.d 2=J v.lo:=rfl;have cA:ad v.d 3=J v.ah:=rfl;have ab:=ayV aL fj v;have dB:c1 (o.length+1) 40=true:=fU (by omega) (by omega);have hF:D.ax 4 (aq (bl o)++[[aC v.name,ay v.bool,J v.lo,J v.ah]])=bl (o++[v]):=by simp[bl];rfl
 cases bj:dM K v.name with
 |true=>
  rw[bj]at ab;refine⟨o++[v],?_,?_,by simp;omega⟩;.simp only[Hk,go_sem,yT ((i:Int)<vs.length),ij a6,aA.1,aA.2.1,aA.2.2,bP,b6,cA,D6,ab,cJ,el,xao,xaq,xaw,dB,hF,b1 (bt:=false) (i:=i) (by omega)]
  rw[xbb,xad bj];simp
 |false=>
  rw[bj]at ab;refine⟨o,?_,?_,by omega⟩;.simp only[Hk,go_sem,yT ((i:Int)<vs.length),ij a6,aA.1,aA.2.1,aA.2.2,bP,b6,cA,D6,ab,cJ,b1 (bt:=false) (i:=i) (by omega)]
  rw[xbb,xaa (by rw[bj];decide)]
theorem ay1(nx:List bc)(ar:nx.length<=1000000):CS n [aQ nx,D.fn (.func uX) [] [mN K]]=some (aQ (nx.filter λd=>dM K d.name)):=by
 have cJ:∀l,D.ax 5 (aq (aQ l))=aQ l:=λ_=>rfl;have el:∀l,(aq (aQ l)).length=l.length:=λl=>by simp[aQ]
 have dv:=dD (f:=Hn n) nx (λi (o:List bc)=>[mN K,aQ nx,J nx.length,J (i:Int),aQ o]) (λr o=>(.inl [aQ (o++r.filter λv=>dM K v.name)]:List D⊕D)) (λi o=>o.length<=i) (λo _=>by simp only[Hn,go_sem,yF ((nx.length:Int)<nx.length),cJ,xbS,xaD]) ?_ n 0 [] (xan _) (by omega) (xai _)
 .have bJ:(J ((0:Nat):Int))=J 0:=rfl;have aJ:aQ []= .ax 5 []:=rfl;rw[bJ,aJ]at dv;simp only[xam,xaG]at dv;have bd:hO uX (D.fn (.func uX) [] [mN K])=some [mN K]:=by simp[hO]
  simp only[CS,S1,bd,go_sem,ec,dv,cJ]
 intro i v o a6 ah aG;left;have D6:D.agg [aC v.name,J v.e.op,J v.e.num,aC v.e.name,cl 4 v.e.nl (Tm.rows v.e.aT)]=v.d:=rfl;have ab:=ayW aL fj v;have dB:c1 (o.length+1) 72=true:=fU (by omega) (by omega);have hF:D.ax 5 (aq (aQ o)++[[aC v.name,J v.e.op,J v.e.num,aC v.e.name,cl 4 v.e.nl (Tm.rows v.e.aT)]])=aQ (o++[v]):=by simp[aQ];rfl
 cases bj:dM K v.name with
 |true=>
  rw[bj]at ab;refine⟨o++[v],?_,?_,by simp;omega⟩;.simp only[Hn,go_sem,yT ((i:Int)<nx.length),fs a6,bc.FE,bc.agg,bc.a8,bc.bP,bc.b6,bc.cA,bc.dC,D6,ab,cJ,el,xao,xaq,xaw,dB,hF,b1 (bt:=false) (i:=i) (by omega)]
  rw[xbb,xad bj];simp
 |false=>
  rw[bj]at ab;refine⟨o,?_,?_,by omega⟩;.simp only[Hn,go_sem,yT ((i:Int)<nx.length),fs a6,bc.FE,bc.agg,bc.a8,bc.bP,bc.b6,bc.cA,bc.dC,D6,ab,cJ,b1 (bt:=false) (i:=i) (by omega)]
  rw[xbb,xaa (by rw[bj];decide)]
theorem ay2(ts:List Tm)(me:kz ts):vj n [az ts,D.fn (.func qw) [] [mN K]]=some (az (ts.filter λt=>mf K t)):=by
 obtain⟨ar,bk⟩:=me;have cJ:∀l,D.ax 4 (aq (az l))=az l:=λ_=>rfl;have el:∀l,(aq (az l)).length=l.length:=λl=>by simp[az]
 have dv:=dD (f:=Hm n) ts (λi (o:List Tm)=>[mN K,az ts,J ts.length,J (i:Int),az o]) (λr o=>(.inl [az (o++r.filter λt=>mf K t)]:List D⊕D)) (λi o=>o.length<=i) (λo _=>by simp only[Hm,go_sem,yF ((ts.length:Int)<ts.length),cJ,xbS,xaD]) ?_ n 0 [] (xan _) (by omega) (xai _)
 .have bJ:(J ((0:Nat):Int))=J 0:=rfl;have aJ:az []= .ax 4 []:=rfl;rw[bJ,aJ]at dv;simp only[xam,xaG]at dv;have bd:hO qw (D.fn (.func qw) [] [mN K])=some [mN K]:=by simp[hO]
  simp only[vj,SZ,bd,go_sem,hy,dv,cJ]
 intro i t o aM ah aG;left;obtain⟨bA,bB⟩:=bk t (xac aM);have ab:=ayZ aL fj t bA bB;have dB:c1 (o.length+1) 56=true:=fU (by omega) (by omega);have hF:D.ax 4 (aq (az o)++[t.cells])=az (o++[t]):=by simp[az,Tm.Od]
 cases bj:mf K t with
 |true=>
  rw[bj]at ab;refine⟨o++[t],?_,?_,by simp;omega⟩;.simp only[Hm,go_sem,yT ((i:Int)<ts.length),ob aM,ab,cJ,el,T.vF,T.xF,xao,xaq,xaw,dB,hF,b1 (bt:=false) (i:=i) (by omega)]
  rw[xbb,xad bj];simp
 |false=>
  rw[bj]at ab;refine⟨o,?_,?_,by omega⟩;.simp only[Hm,go_sem,yT ((i:Int)<ts.length),ob aM,ab,cJ,b1 (bt:=false) (i:=i) (by omega)]
  rw[xbb,xaa (by rw[bj];decide)]
end
def ay3(vs:List V)(i bS:List Tm)(nx:List bc)(t f:List Tm)(K:List bo):D:= .agg [bl (vs.filter λv=>dM K v.name),eM,az (i.filter λt=>mf K t),az (bS.filter λt=>mf K t),aQ (nx.filter λd=>dM K d.name),az (t.filter λt=>mf K t),az (f.filter λt=>mf K t),eM]
theorem ay4{vs:List V}{i bS:List Tm}{nx:List bc}{t f:List Tm}(h:AW vs i bS nx t f){dd:D}(kj:dd.one=true)(sp:List cw)(n:Nat)(aL:10000000000000000<n)(l:D){K:List bo} (cc:vi n [dT vs dd i bS nx t f sp,l]=some (bx K)) (fj:K.length<1000000):tD n [dT vs dd i bS nx t f sp,l]=some (ay3 vs i bS nx t f K):=by have o2:a4 8 (dT vs dd i bS nx t f sp)=true:=Jy kj;have a8:ad (dT vs dd i bS nx t f sp) 0=bl vs:=rfl;have b6:ad (dT vs dd i bS nx t f sp) 2=az i:=rfl;have cA:ad (dT vs dd i bS nx t f sp) 3=az bS:=rfl;have dC:ad (dT vs dd i bS nx t f sp) 4=aQ nx:=rfl;have eC:ad (dT vs dd i bS nx t f sp) 5=az t:=rfl;have eD:ad (dT vs dd i bS nx t f sp) 6=az f:=rfl;have ga:D.agg [bl vs,ad (dT vs dd i bS nx t f sp) 1,az i,az bS,aQ nx,az t,az f,ad (dT vs dd i bS nx t f sp) 7]=dT vs dd i bS nx t f sp:=rfl;have gb:∀l,bu (az l)=true:=λ_=>rfl;have kI:∀l,bu (bl l)=true:=λ_=>rfl;have JA:∀l,bu (aQ l)=true:=λ_=>rfl;have xJ:∀l,bu (bx l)=true:=λ_=>rfl;have a6:=h.a6;have cB:=ay0 (n:=n) (K:=K) (by omega) fj vs (by omega);have dx:=ay1 (n:=n) (K:=K) (by omega) fj nx h.mP.1;have g5:=λts h=>ay2 (n:=n) (K:=K) (by omega) fj ts h;simp only[tD,aaZ,o2,a8,b6,cA,dC,eC,eD,ga,go_sem,cc,xJ,cB,dx,g5 i h.ah,g5 bS h.xR,g5 t h.aM,g5 f h.bd,gb,kI,JA];rfl
def afY(n:Nat)(gq:Bool)(l:List bo)(x:bo)(aL:l.length<n)(aj:l.length<1000000000):oV n [eG gq l,aC x]=some (ay (dM l x)):=by
 have ar:=dD (f:=H2 n) l (λi (_:Unit)=>[eG gq l,aC x,J (i:Int)]) (λr _=>if dM r x=true then(.inr (ay true):List D⊕D)else .inl []) (λ_ _=>True) (λ_ _=>by simp only[H2,go_sem,ic,yF ((l.length:Int)<l.length),dM,List.any_nil]) ?_ n 0 () trivial (by omega) (xai _);.have bJ:(J ((0:Nat):Int))=J 0:=rfl;rw[bJ]at ar;simp only[xam]at ar;cases h:dM l x<;>simp only[h,xaH,xaI,xav]at ar<;>simp only[oV,abA,go_sem,ar]
 intro i a _ aF ah _;have ao:dM (a::l.drop (i+1)) x=(decide (a=x)||dM (l.drop (i+1)) x):=by simp[dM]
 cases bj:decide (a=x)with
 |true=>right;simp only[H2,go_sem,ic,yT ((i:Int)<l.length),mF aF,eu,bj,ao,Bool.true_or]
 |false=>left;refine⟨(),?_,by rw[ao,bj,xbO],trivial⟩;simp only[H2,go_sem,ic,yT ((i:Int)<l.length),mF aF,eu,bj,b1 (bt:=false) (i:=i) (by omega)]
def JB(n:Nat)(l:List bo)(x:bo)(aL:l.length<n)(aj:l.length<1000000000):oV n [bx l,aC x]=some (ay (dM l x)):=by rw[<-ac9];exact afY n false l x aL aj
def afZ(n:Nat)(o r:List bo)(aL:o.length<n)(aj:o.length<1000000000)(Bd:r.length<n)(kY:r.length<1000000000):z8 n [bx o,bx r]=some (ay (qT o r)):=by
 have ar:=dD (f:=H6 n) o (λi (_:Unit)=>[bx o,bx r,J (i:Int)]) (λq _=>if qT q r=true then(.inr (ay true):List D⊕D)else .inl []) (λ_ _=>True) (λ_ _=>by simp only[H6,go_sem,l5,yF ((o.length:Int)<o.length),qT,List.any_nil]) ?_ n 0 () trivial (by omega) (xai _);.have bJ:(J ((0:Nat):Int))=J 0:=rfl;rw[bJ]at ar;simp only[xam]at ar;cases h:qT o r<;>simp only[h,xaH,xaI,xav]at ar<;>simp only[z8,abD,go_sem,ar]
 intro i a _ aF ah _;have ao:qT (a::o.drop (i+1)) r=(dM r a||qT (o.drop (i+1)) r):=by simp[qT]
 have hm:=JB n r a Bd kY;cases bj:dM r a with
 |true=>rw[bj]at hm;right;simp only[H6,go_sem,l5,yT ((i:Int)<o.length),n8 aF,eu,hm,bj,ao,Bool.true_or]
 |false=>rw[bj]at hm;left;refine⟨(),?_,by rw[ao,bj,xbO],trivial⟩;simp only[H6,go_sem,l5,yT ((i:Int)<o.length),n8 aF,eu,hm,b1 (bt:=false) (i:=i) (by omega)]
def im(t:Tm):List bo:=(db 4 t []).foldl jy (db 3 t [])
def JC{t:Tm}{x:bo}:x∈im t↔x∈fi t:=by unfold im fi;rw[OK,xar]
def af0(o:List bo)(x:bo):(jy o x).length<=o.length+1:=by unfold jy;split<;>simp
def af1:∀(r o:List bo),(r.foldl jy o).length<=o.length+r.length
 |[],o=>by simp|x::r,o=>by have ab:=af1 r (jy o x);have af:=af0 o x;simp only[xby,xao];omega
def OQ(t:Tm):(im t).length<=2*t.bm:=by have ab:=(m5 3 t [] trivial).2;have af:=(m5 4 t [] trivial).2;have aw:=af1 (db 4 t []) (db 3 t []);simp only[xaq]at ab af;unfold im;omega
def VP(n:Nat)(t:Tm)(aL:t.bm+t.bm+30<n)(bk:t.cm)(aj:t.bm<100000000):xt n [t.d]=some (bx (im t)):=by
 have h:=Iw n t (by omega) bk (by omega);have ab:=(m5 3 t [] trivial).2;have af:=(m5 4 t [] trivial).2;simp only[xaq]at ab af;have cJ:∀l,D.ax 1 (aq (bx l))=bx l:=λ_=>rfl;obtain⟨q,bA,bB,_⟩:=ama (k:=1) (nl:=true) (es:=(db 3 t []).map λs=>[aC s]) (by decide);have bA:kn (eG true (db 3 t []))=some (q,(db 3 t []).map λs=>[aC s]):=bA;have dB:c1 (0+(db 3 t []).length) 16=true:=fU (by omega) (by omega);have ar:=dD (f:=H3 n) (db 4 t []) (λi (o:List bo)=>[eG true (db 4 t []),J (i:Int),bx o]) (λr o=>(.inl [bx (r.foldl jy o)]:List D⊕D)) (λi o=>o.length<=(db 3 t []).length+i) (λo _=>by simp only[H3,go_sem,ic,yF (((db 4 t []).length:Int)<(db 4 t []).length),cJ,List.foldl_nil]) ?_ n 0 (db 3 t []) (by omega) (by omega) (xai _)
 .have bJ:(J ((0:Nat):Int))=J 0:=rfl;have aJ:D.ax 1 ((db 3 t []).map λs=>[aC s])=bx (db 3 t []):=rfl;rw[bJ]at ar;simp only[xam]at ar;simp only[xt,abB,go_sem,h,bA,bB,xaq,xaS,dB,xaG,aJ,ar,cJ];rfl
 intro i x o ag ah aG;left;have hm:=JB n o x (by omega) (by omega);have dB:c1 (o.length+1) 16=true:=fU (by omega) (by omega);have fy:=af0 o x;have oh:∀b,(ay b).flat=true:=λ_=>rfl;refine⟨jy o x,?_,rfl,by omega⟩;unfold jy;cases bj:dM o x with
 |true=>rw[bj]at hm;simp only[H3,go_sem,ic,yT ((i:Int)<(db 4 t []).length),mF ag,eu,cJ,hm,oh,b1 (bt:=false) (i:=i) (by omega)]
 |false=>rw[bj]at hm;simp only[H3,go_sem,ic,yT ((i:Int)<(db 4 t []).length),mF ag,eu,cJ,hm,oh,vR,xao,xaq,xaw,dB,Ap,b1 (bt:=false) (i:=i) (by omega)]
def ji(R:List (List bo)):D:= .ax 1 (R.map λr=>[bx r])
def ss(i bS:List Tm)(nx:List bc)(t f:List Tm):List (List bo):=(i++bS++t++f).map im++nx.map λd=>d.name::im d.e
def af2(a:List (List bo))(r:List bo):D.ax 1 (aq (ji a)++[[bx r]])=ji (a++[r]):=by simp[ji]
def af3(a:List (List bo)):(aq (ji a)).length=a.length:=by simp[ji]
def JD{a:List (List bo)}{i:Nat}{r:List bo}(h:a[i]?=some r):bn 1 (ji a) (J (i:Int))=some [bx r]:=by simp[ji,h]
def VQ(a:List (List bo)):bK (ji a)=some (J a.length):=by simp[ji]
def ay5{i bS:List Tm}{nx:List bc}{t f:List Tm}{vs:List V}{dd:D}{sp:List cw}(kj:dd.one=true)(ab:kz i)(af:kz bS)(aw:kz t)(a5:kz f)(ca:ug nx)(n:Nat)(aL:1000000000<n):H5 n [dT vs dd i bS nx t f sp]=some (ji (ss i bS nx t f)):=by
 have cJ:∀l,D.ax 1 (aq (ji l))=ji l:=λ_=>rfl;have cO:∀l,D.ax 4 (aq (az l))=az l:=λ_=>rfl;have af4:∀l:List Tm,(aq (az l)).length=l.length:=λl=>by simp[az]
 have j0:=ab.1;have kF:=af.1;have U8:=aw.1;have vM:=a5.1;have U9:=ca.1
 have bJ:(J ((0:Nat):Int))=J 0:=rfl;have bO:(i++bS++t++f).length<=4000000:=by simp only[xaK];omega
 have eh:=dD (f:=MW n) (i++bS++t++f) (λk (o:List (List bo))=>[J (k:Int),bl vs,dd,az i,az bS,aQ nx,az t,az f,b3 sp,ji o,az (i++bS++t++f)]) (λr o=>(.inl [bl vs,dd,az i,az bS,aQ nx,az t,az f,b3 sp,ji (o++r.map im)]:List D⊕D)) (λk o=>o.length=k) (λo _=>by simp only[MW,go_sem,af4,yF (((i++bS++t++f).length:Int)<(i++bS++t++f).length),cJ,xbq,xaD]) ?_ n 0 [] rfl (by omega) (xai _)
 .have gL:=dD (f:=MX n) nx (λk (o:List (List bo))=>[J (k:Int),bl vs,dd,az i,az bS,aQ nx,az t,az f,b3 sp,ji o]) (λr o=>(.inl [ji (o++r.map λd=>d.name::im d.e)]:List D⊕D)) (λk o=>o.length=(i++bS++t++f).length+k) (λo _=>by simp only[MX,go_sem,ec,yF ((nx.length:Int)<nx.length),cJ,xbq,xaD]) ?_ n 0 ((i++bS++t++f).map im) (by simp) (by omega) (xai _)
  .rw[bJ]at eh gL;have aJ:ji []= .ax 1 []:=rfl;rw[aJ]at eh;simp only[xam,xaG]at eh gL;have e0:∀l:List Tm,kn (az l)=some (4,Tm.rows l):=λ_=>rfl;have VR:D.ax 4 (Tm.rows i++Tm.rows bS++Tm.rows t++Tm.rows f)=az (i++bS++t++f):=by simp[az,Tm.mz]
   have ay6:∀l:List Tm,(Tm.rows l).length=l.length:=λl=>Tm.B1;have e8:c1 (0+i.length) 56=true:=fU (by omega) (by omega);have ef:c1 (i.length+bS.length) 56=true:=fU (by omega) (by omega);have jK:c1 (i.length+bS.length+t.length) 56=true:=fU (by omega) (by omega);have KG:c1 (i.length+bS.length+t.length+f.length) 56=true:=fU (by omega) (by omega);have o2:a4 8 (dT vs dd i bS nx t f sp)=true:=Jy kj;have a8:ad (dT vs dd i bS nx t f sp) 0=bl vs:=rfl;have VM:ad (dT vs dd i bS nx t f sp) 1=dd:=rfl;have b6:ad (dT vs dd i bS nx t f sp) 2=az i:=rfl;have cA:ad (dT vs dd i bS nx t f sp) 3=az bS:=rfl;have dC:ad (dT vs dd i bS nx t f sp) 4=aQ nx:=rfl;have eC:ad (dT vs dd i bS nx t f sp) 5=az t:=rfl;have eD:ad (dT vs dd i bS nx t f sp) 6=az f:=rfl;have eX:ad (dT vs dd i bS nx t f sp) 7=b3 sp:=rfl;simp only[H5,abC,o2,a8,VM,b6,cA,dC,eC,eD,eX,go_sem,e0,true_or,xbi,Nat.zero_lt_succ,xaq,xaG,xaK,ay6,e8,ef,jK,KG,VR,eh,cJ,gL];rfl
  intro k d o aA ak aG;left;obtain⟨bA,bB⟩:=ca.2 d (xac aA);have aj:=VP n d.e (by omega) bA (by omega);have ay7:=OQ d.e;have e0:kn (bx (im d.e))=some (1,aq (bx (im d.e))):=rfl;have hF:D.ax 1 ([[aC d.name]]++aq (bx (im d.e)))=bx (d.name::im d.e):=rfl;have dB:c1 (1+(im d.e).length) 16=true:=fU (by omega) (by omega);have IB:c1 (o.length+1) 24=true:=fU (by omega) (by omega);have Jz:∀l,bu (bx l)=true:=λ_=>rfl;refine⟨o++[d.name::im d.e],?_,by simp,by simp only[xaK,xao,xaq]at aG⊢;omega⟩;simp only[MX,go_sem,ec,yT ((k:Int)<nx.length),fs aA,bc.gd,bc.g6,aj,e0,hF,vR,af3,xao,xaq,xaw,dB,IB,Jz,true_or,xbi,Nat.lt_add_one,af2,b1 (bt:=false) (i:=k) (by omega)]
 intro k x o ag ak aG;left;have hm:=xac ag;obtain⟨bA,bB⟩:x.cm/\x.bm<=30000000:=by
  simp only[xar]at hm;rcases hm with((hm|hm)|hm)|hm
  .exact ab.2 x hm
  .exact af.2 x hm
  .exact aw.2 x hm
  exact a5.2 x hm
 have aj:=VP n x (by omega) bA (by omega);have IB:c1 (o.length+1) 24=true:=fU (by omega) (by omega);have Jz:∀l,bu (bx l)=true:=λ_=>rfl;have k2:b9 (i++bS++t++f).length (J (k:Int))=some k:=c3 ak;have aV:(aq (az (i++bS++t++f)))[k]?=some x.cells:=Tm.FC ag;refine⟨o++[im x],?_,by simp,by simp;omega⟩;simp only[MW,go_sem,af4,yT ((k:Int)<(i++bS++t++f).length),k2,aV,aj,af3,xao,xaq,xaw,IB,Jz,cJ,cO,af2,b1 (bt:=false) (i:=k) (by omega)]
section
variable{n:Nat}{vs:List V}(aL:1000000000<n)(a6:vs.length<=1000)
include aL a6
def nf(vs:List V)(o:List bo):Prop:=o.Nodup/\∀x∈o,x∈vs.map V.name
theorem nf.len{o:List bo}(h:nf vs o):o.length<=1000:=by have:=Jt h.1 h.2;rw[xaS]at this;omega
theorem nf.add{o:List bo}{x:bo}(h:nf vs o)(ag:x∈vs.map V.name):nf vs (jy o x):=⟨afL h.1,λy aP=>by rcases afK.1 aP with ab|rfl;exact h.2 y ab;exact ag⟩
theorem ay8(gq:Bool)(l:List bo)(ar:l.length<100000000)(k6:(vs.map V.name).Nodup)(b2 cK c9 c4 dy ee dS:D):bp (Dh n) n [eG gq l,J 0,bl vs,b2,cK,c9,c4,dy,ee,dS,D.ax 1 []]=some (.inl [bl vs,b2,cK,c9,c4,dy,ee,dS,bx ((vs.map V.name).filter λx=>dM l x)]):=by
 have cJ:∀l,D.ax 1 (aq (bx l))=bx l:=λ_=>rfl;have eh:=dD (f:=Dh n) vs (λi (o:List bo)=>[eG gq l,J (i:Int),bl vs,b2,cK,c9,c4,dy,ee,dS,bx o]) (λr o=>(.inl [bl vs,b2,cK,c9,c4,dy,ee,dS,bx (o++(r.map V.name).filter λx=>dM l x)]:List D⊕D)) (λi o=>o.length<=i) (λo _=>by simp only[Dh,go_sem,fX,yF ((vs.length:Int)<vs.length),cJ,xbq,xbS,xaD]) ?_ n 0 [] (xan _) (by omega) (xai _)
 .have bJ:(J ((0:Nat):Int))=J 0:=rfl;have aJ:bx []= .ax 1 []:=rfl;rw[bJ,aJ]at eh;simpa only[xam,xaG]using eh
 intro i v o ag ah aG;left;have ae:a3 false 1 0 v.cells=some (aC v.name):=rfl;have hm:=afY n gq l v.name (by omega) (by omega);have dB:c1 (o.length+1) 16=true:=fU (by omega) (by omega);cases bj:dM l v.name with
 |true=>
  rw[bj]at hm;refine⟨o++[v.name],?_,?_,by simp;omega⟩;.simp only[Dh,go_sem,fX,yT ((i:Int)<vs.length),ij ag,ae,hm,vR,xao,xaq,xaw,dB,Ap,cJ,b1 (bt:=false) (i:=i) (by omega)]
  rw[xaA,xbb,xad bj];simp
 |false=>
  rw[bj]at hm;refine⟨o,?_,?_,by omega⟩;.simp only[Dh,go_sem,fX,yT ((i:Int)<vs.length),ij ag,ae,hm,cJ,b1 (bt:=false) (i:=i) (by omega)]
  rw[xaA,xbb,xaa (by rw[bj];decide)]
variable{R:List (List bo)}(JE:R.length<=10000000)(ff:∀r∈R,∀x∈r,x∈vs.map V.name)(AX:∀r∈R,r.length<=100000000)
include JE ff AX
theorem ay9(i:Nat)(r:List bo)(av:R[i]?=some r)(an cK c9 c4 dy ee dS fh fF:D)(o:List bo)(aG:nf vs o):bp (Di n) n [ji R,an,J (i:Int),J 0,cK,c9,c4,dy,ee,dS,fh,fF,bx o]=some (.inl [ji R,an,J (i:Int),cK,c9,c4,dy,ee,dS,fh,fF,bx (r.foldl jy o)])/\nf vs (r.foldl jy o):=by
 have cJ:∀l,D.ax 1 (aq (bx l))=bx l:=λ_=>rfl;have hm:=xac av;have aza:=AX r hm;have ae:∀x:List bo,a3 false 1 0 [bx x]=some (bx x):=λ_=>rfl;have oh:∀b,(ay b).flat=true:=λ_=>rfl;have azb:∀(q o:List bo),(∀x∈q,x∈vs.map V.name)->nf vs o->nf vs (q.foldl jy o):=by
  intro q
  induction q with
  |nil=>intro o _ h;exact h
  |cons x q ih=>intro o h af;exact ih _ (λy aP=>h y (by simp[aP])) (af.add aL a6 (h x (by simp)))
 refine⟨?_,azb r o (ff r hm) aG⟩;have eh:=dD (f:=Di n) r (λk (o:List bo)=>[ji R,an,J (i:Int),J (k:Int),cK,c9,c4,dy,ee,dS,fh,fF,bx o]) (λq o=>(.inl [ji R,an,J (i:Int),cK,c9,c4,dy,ee,dS,fh,fF,bx (q.foldl jy o)]:List D⊕(List D⊕(List D⊕(List D⊕(List D⊕(List D⊕(List D⊕D)))))))) (λk o=>nf vs o) (λo _=>by simp only[Di,go_sem,JD av,ae,l5,yF ((r.length:Int)<r.length),cJ,List.foldl_nil]) ?_ n 0 o aG (by omega) (xai _)
 .have bJ:(J ((0:Nat):Int))=J 0:=rfl;rw[bJ]at eh;simpa only[xam]using eh
 intro k x o ag ak aG;left;have sH:=aG.len aL a6;have OR:=JB n o x (by omega) (by omega);have dB:c1 (o.length+1) 16=true:=fU (by omega) (by omega);refine⟨jy o x,?_,rfl,aG.add aL a6 (ff r hm x (xac ag))⟩;unfold jy;cases bj:dM o x with
 |true=>rw[bj]at OR;simp only[Di,go_sem,JD av,ae,l5,yT ((k:Int)<r.length),n8 ag,eu,cJ,OR,oh,b1 (bt:=false) (i:=k) (by omega)]
 |false=>rw[bj]at OR;simp only[Di,go_sem,JD av,ae,l5,yT ((k:Int)<r.length),n8 ag,eu,cJ,OR,oh,vR,xao,xaq,xaw,dB,Ap,b1 (bt:=false) (i:=k) (by omega)]
theorem azc(an b2 cK c9 c4 dy ee dS fh:D)(o:List bo)(aG:nf vs o):bp (Dj n) n [ji R,an,J 0,b2,cK,c9,c4,dy,ee,dS,fh,bx o]=some (.inl [ji R,an,b2,cK,c9,c4,dy,ee,dS,fh,bx (mL R o)])/\nf vs (mL R o):=by
 have cJ:∀l,D.ax 1 (aq (bx l))=bx l:=λ_=>rfl;have ae:∀x:List bo,a3 false 1 0 [bx x]=some (bx x):=λ_=>rfl;have oh:∀b,(ay b).flat=true:=λ_=>rfl;refine⟨?_,OM aG.1,ON (λr av x _ y aP _=>ff r av y aP) aG.2⟩;have eh:=dD (f:=Dj n) R (λi (o:List bo)=>[ji R,an,J (i:Int),b2,cK,c9,c4,dy,ee,dS,fh,bx o]) (λq o=>(.inl [ji R,an,b2,cK,c9,c4,dy,ee,dS,fh,bx (q.foldl nF o)]:List D⊕(List D⊕(List D⊕(List D⊕D))))) (λk o=>nf vs o) (λo _=>by simp only[Dj,go_sem,VQ,yF ((R.length:Int)<R.length),cJ,List.foldl_nil]) ?_ n 0 o aG (by omega) (xai _)
 .have bJ:(J ((0:Nat):Int))=J 0:=rfl;rw[bJ]at eh;unfold mL;simpa only[xam]using eh
 intro i r o av ah aG;left;have sH:=aG.len aL a6;have aza:=AX r (xac av);have sQ:=afZ n o r (by omega) (by omega) (by omega) (by omega);obtain⟨fE,azd⟩:=ay9 aL a6 JE ff AX i r av an b2 cK c9 c4 dy ee dS fh o aG;cases bj:qT o r with
 |true=>rw[bj]at sQ;refine⟨r.foldl jy o,?_,by rw[xby,nF,xad bj],azd⟩;simp only[Dj,go_sem,VQ,yT ((i:Int)<R.length),JD av,ae,cJ,sQ,oh,fE,b1 (bt:=false) (i:=i) (by omega)]
 |false=>rw[bj]at sQ;refine⟨o,?_,by rw[xby,nF,xaa (by rw[bj];decide)],aG⟩;simp only[Dj,go_sem,VQ,yT ((i:Int)<R.length),JD av,ae,cJ,sQ,oh,b1 (bt:=false) (i:=i) (by omega)]
theorem aze(b2 cK c9 c4 dy ee dS:D)(o:List bo)(aG:nf vs o):bp (H7 n) n [ji R,J 0,bl vs,b2,cK,c9,c4,dy,ee,dS,bx o]=some (.inl [bx (nd R (vs.length+1) o)]):=by
 have cJ:∀l,D.ax 1 (aq (bx l))=bx l:=λ_=>rfl;have Iy:(List.range (vs.length+1)).length=vs.length+1:=List.length_range;have eh:=dD (f:=H7 n) (List.range (vs.length+1)) (λi (o:List bo)=>[ji R,J (i:Int),bl vs,b2,cK,c9,c4,dy,ee,dS,bx o]) (λq o=>(.inl [bx (nd R q.length o)]:List D⊕D)) (λk o=>nf vs o) (λo _=>by rw[Iy];simp only[H7,go_sem,fX,yF (((vs.length+1:Nat):Int)<=vs.length),cJ,xaq,nd]) ?_ n 0 o aG (by omega) (xai _)
 .have bJ:(J ((0:Nat):Int))=J 0:=rfl;rw[bJ]at eh;simpa only[xam,Iy]using eh
 intro i r o av ah aG;left;rw[Iy]at ah;obtain⟨Jh,pZ⟩:=azc aL a6 JE ff AX (J (i:Int)) (bl vs) b2 cK c9 c4 dy ee dS o aG;refine⟨mL R o,?_,?_,pZ⟩;.simp only[H7,go_sem,fX,yT ((i:Int)<=vs.length),cJ,Jh,b1 (bt:=false) (i:=i) (by omega)]
 rw[xao,nd]
end
def OS{i bS:List Tm}{nx:List bc}{t f:List Tm}:(∀r∈mM i bS nx t f,∃q∈ss i bS nx t f,∀x,x∈r↔x∈q)/\(∀q∈ss i bS nx t f,∃r∈mM i bS nx t f,∀x,x∈r↔x∈q):=by
 constructor
 .intro r av;rcases xar.1 av with h|h
  .obtain⟨z,ab,rfl⟩:=xax.1 h;exact⟨im z,xar.2 (.inl (xax.2 ⟨z,ab,rfl⟩)),λx=>JC.symm⟩
  obtain⟨z,ab,rfl⟩:=xax.1 h;exact⟨z.name::im z.e,xar.2 (.inr (xax.2 ⟨z,ab,rfl⟩)),λx=>by rw[xak,xak,JC]⟩
 intro r av;rcases xar.1 av with h|h
 .obtain⟨z,ab,rfl⟩:=xax.1 h;exact⟨fi z,xar.2 (.inl (xax.2 ⟨z,ab,rfl⟩)),λx=>JC.symm⟩
 obtain⟨z,ab,rfl⟩:=xax.1 h;exact⟨z.name::fi z.e,xar.2 (.inr (xax.2 ⟨z,ab,rfl⟩)),λx=>by rw[xak,xak,JC]⟩
def D7(vs:List V)(i bS:List Tm)(nx:List bc)(t f:List Tm)(l:List bo):List bo:=nd (ss i bS nx t f) (vs.length+1) ((vs.map V.name).filter λx=>dM l x)
section
variable{vs:List V}{i bS:List Tm}{nx:List bc}{t f:List Tm}(h:AW vs i bS nx t f)(k6:(vs.map V.name).Nodup)
include h k6
theorem OT(l:List bo):nf vs ((vs.map V.name).filter λx=>dM l x):=⟨List.Pairwise.filter _ k6,λx ag=>(xbA.1 ag).1⟩
theorem OU:∀r∈ss i bS nx t f,∀x∈r,x∈vs.map V.name:=λr av x ag=>by obtain⟨q,ab,af⟩:=OS.2 r av;exact h.known q ab x ((af x).2 ag)
theorem azf(l:List bo):nf vs (D7 vs i bS nx t f l):=by have au:=OT h k6 l;exact⟨afQ au.1,VG (λr av x _ y aP _=>OU h k6 r av y aP) au.2⟩
theorem azg(l:List bo):AT (ss i bS nx t f) λx=>x∈D7 vs i bS nx t f l:=by have au:=OT h k6 l;exact ayv (OU h k6) au.1 au.2 (by rw[xaS];omega)
theorem azh(l:List bo){rep:bo->bo}(aH:Sep (vs.map V.name) (mM i bS nx t f) rep)(aA:lk rep (mM i bS nx t f))(x:bo):x∈D7 vs i bS nx t f l↔x∈vs.map V.name/\∃a∈l,a∈vs.map V.name/\rep a=rep x:=by
 have au:=OT h k6 l;have sk:Sep (vs.map V.name) (ss i bS nx t f) rep:=λC cf=>aH C λr av y aP z bC=>by obtain⟨q,ab,af⟩:=OS.1 r av;exact cf q ab y ((af y).1 aP) z ((af z).1 bC)
 have iF:lk rep (ss i bS nx t f):=λq bj y aP z bC=>by obtain⟨r,ab,af⟩:=OS.2 q bj;exact aA r ab y ((af y).2 aP) z ((af z).2 bC)
 unfold D7;rw[ayt (OU h k6) sk iF au.1 au.2 (by rw[xaS];omega)];constructor;.rintro⟨ab,a,af,aw⟩;obtain⟨a5,ca⟩:=xbA.1 af;exact⟨ab,a,sq.1 ca,a5,aw⟩
 rintro⟨ab,a,af,aw,a5⟩;exact⟨ab,a,xbA.2 ⟨aw,sq.2 af⟩,a5⟩
theorem azi{dd:D}(kj:dd.one=true)(sp:List cw)(n:Nat)(aL:1000000000<n)(gq:Bool)(l:List bo)(ar:l.length<100000000):Dk n [dT vs dd i bS nx t f sp,eG gq l]=some (bx (D7 vs i bS nx t f l)):=by
 have o2:a4 8 (dT vs dd i bS nx t f sp)=true:=Jy kj;have a8:ad (dT vs dd i bS nx t f sp) 0=bl vs:=rfl;have aw:=ay8 aL h.a6 gq l ar k6 (ad (dT vs dd i bS nx t f sp) 1) (ad (dT vs dd i bS nx t f sp) 2) (ad (dT vs dd i bS nx t f sp) 3) (ad (dT vs dd i bS nx t f sp) 4) (ad (dT vs dd i bS nx t f sp) 5) (ad (dT vs dd i bS nx t f sp) 6) (ad (dT vs dd i bS nx t f sp) 7);have av:=ay5 (vs:=vs) (sp:=sp) kj h.ah h.xR h.aM h.bd h.mP n aL;have ga:D.agg [bl vs,ad (dT vs dd i bS nx t f sp) 1,ad (dT vs dd i bS nx t f sp) 2,ad (dT vs dd i bS nx t f sp) 3,ad (dT vs dd i bS nx t f sp) 4,ad (dT vs dd i bS nx t f sp) 5,ad (dT vs dd i bS nx t f sp) 6,ad (dT vs dd i bS nx t f sp) 7]=dT vs dd i bS nx t f sp:=rfl;have JE:(ss i bS nx t f).length<=10000000:=by
  have j0:=h.ah.1;have kF:=h.xR.1;have U8:=h.aM.1;have vM:=h.bd.1;have U9:=h.mP.1
  simp only[ss,xaK,xaS];omega
 have AX:∀r∈ss i bS nx t f,r.length<=100000000:=by
  intro r av;rcases xar.1 av with hm|hm
  .obtain⟨z,ab,rfl⟩:=xax.1 hm;have af:=OQ z;have aw:z.bm<=30000000:=by
    simp only[xar]at ab;rcases ab with((ab|ab)|ab)|ab
    .exact(h.ah.2 z ab).2
    .exact(h.xR.2 z ab).2
    .exact(h.aM.2 z ab).2
    exact(h.bd.2 z ab).2
   omega
  obtain⟨z,ab,rfl⟩:=xax.1 hm;have af:=OQ z.e;have aw:=(h.mP.2 z ab).2;simp only[xao];omega
 have jL:=aze aL h.a6 JE (OU h k6) AX (ad (dT vs dd i bS nx t f sp) 1) (ad (dT vs dd i bS nx t f sp) 2) (ad (dT vs dd i bS nx t f sp) 3) (ad (dT vs dd i bS nx t f sp) 4) (ad (dT vs dd i bS nx t f sp) 5) (ad (dT vs dd i bS nx t f sp) 6) (ad (dT vs dd i bS nx t f sp) 7) _ (OT h k6 l);have cJ:∀l,D.ax 1 (aq (bx l))=bx l:=λ_=>rfl;simp only[Dk,abE,o2,a8,go_sem,aw,ga,av,cJ,jL];rfl
end
def jz(K:List bo)(t:Tm):Bool:=decide ((im t).length=0)||qT (im t) K
def OV{n:Nat}{K:List bo}(aL:1000000000<n)(fj:K.length<1000000)(ts:List Tm)(me:kz ts):qD n [az ts,bx K]=some (az (ts.filter λt=>jz K t)):=by
 obtain⟨ar,bk⟩:=me;have cJ:∀l,D.ax 4 (aq (az l))=az l:=λ_=>rfl;have el:∀l,(aq (az l)).length=l.length:=λl=>by simp[az]
 have dv:=dD (f:=Dl n) ts (λi (o:List Tm)=>[az ts,bx K,J (i:Int),az o]) (λr o=>(.inl [az (o++r.filter λt=>jz K t)]:List D⊕D)) (λi o=>o.length<=i) (λo _=>by simp only[Dl,go_sem,hy,yF ((ts.length:Int)<ts.length),cJ,xbS,xaD]) ?_ n 0 [] (xan _) (by omega) (xai _);.have bJ:(J ((0:Nat):Int))=J 0:=rfl;have aJ:az []= .ax 4 []:=rfl;rw[bJ,aJ]at dv;simp only[xam,xaG]at dv;simp only[qD,abF,go_sem,dv,cJ]
 intro i t o aM ah aG;left;obtain⟨bA,bB⟩:=bk t (xac aM);have ab:=VP n t (by omega) bA (by omega);have ay7:=OQ t;have af:=afZ n (im t) K (by omega) (by omega) (by omega) (by omega);have dB:c1 (o.length+1) 56=true:=fU (by omega) (by omega);have hF:D.ax 4 (aq (az o)++[t.cells])=az (o++[t]):=by simp[az,Tm.Od]
 have bC:(((im t).length:Int)==0)=decide ((im t).length=0):=by by_cases bI:(im t).length=0<;>simp[bI]
 have ak:∀b,b=jz K t->(if b=true then ts.filter (λt=>jz K t)=ts.filter (λt=>jz K t)else True):=λb _=>by split<;>trivial
 cases bj:jz K t with
 |true=>
  refine⟨o++[t],?_,?_,by simp;omega⟩
  .unfold jz at bj;cases au:decide ((im t).length=0)with
   |true=>simp only[Dl,go_sem,hy,yT ((i:Int)<ts.length),ob aM,ab,l5,bC,au,eb,nt,dQ,xbg,cJ,el,T.vF,T.xF,xao,xaq,xaw,dB,hF,b1 (bt:=false) (i:=i) (by omega)]
   |false=>rw[au,xbO]at bj;rw[bj]at af;simp only[Dl,go_sem,hy,yT ((i:Int)<ts.length),ob aM,ab,af,l5,bC,au,eb,nt,dQ,xbg,cJ,el,T.vF,T.xF,xao,xaq,xaw,dB,hF,b1 (bt:=false) (i:=i) (by omega)]
  rw[xbb,xad bj];simp
 |false=>
  refine⟨o,?_,?_,by omega⟩;.unfold jz at bj;obtain⟨au,aw⟩:=Bool.or_eq_false_iff.1 bj;rw[aw]at af;simp only[Dl,go_sem,hy,yT ((i:Int)<ts.length),ob aM,ab,af,l5,bC,au,eb,nt,dQ,xbg,cJ,b1 (bt:=false) (i:=i) (by omega)]
  rw[xbb,xaa (by rw[bj];decide)]
section
variable{n:Nat}{K:List bo}(aL:1000000000<n)(fj:K.length<1000000)
include aL fj
theorem azj(vs:List V)(a6:vs.length<=1000)(ba b2 cK c9 c4 dy ee dS fF fY gJ hl gK ha jh iI iJ iK iL iM iN jU:D):bp (Dm n) n [bx K,J 0,ba,b2,cK,c9,c4,dy,ee,dS,bl vs,fF,fY,gJ,hl,gK,ha,jh,iI,iJ,iK,iL,iM,iN,jU,D.ax 4 []]=some (.inl [bx K,ba,b2,cK,c9,c4,dy,ee,dS,bl vs,fF,fY,gJ,hl,gK,ha,jh,iI,iJ,iK,iL,iM,iN,jU,bl (vs.filter λv=>dM K v.name)]):=by
 have cJ:∀l,D.ax 4 (aq (bl l))=bl l:=λ_=>rfl;have el:∀l,(aq (bl l)).length=l.length:=λl=>by simp[bl]
 have dv:=dD (f:=Dm n) vs (λi (o:List V)=>[bx K,J (i:Int),ba,b2,cK,c9,c4,dy,ee,dS,bl vs,fF,fY,gJ,hl,gK,ha,jh,iI,iJ,iK,iL,iM,iN,jU,bl o]) (λr o=>(.inl [bx K,ba,b2,cK,c9,c4,dy,ee,dS,bl vs,fF,fY,gJ,hl,gK,ha,jh,iI,iJ,iK,iL,iM,iN,jU,bl (o++r.filter λv=>dM K v.name)]:List D⊕D)) (λi o=>o.length<=i) (λo _=>by simp only[Dm,go_sem,fX,yF ((vs.length:Int)<vs.length),cJ,xbS,xaD]) ?_ n 0 [] (xan _) (by omega) (xai _);.have bJ:(J ((0:Nat):Int))=J 0:=rfl;have aJ:bl []= .ax 4 []:=rfl;rw[bJ,aJ]at dv;simpa only[xam,xaG]using dv
 intro i v o ag ah aG;left;have aA:=V.tU v;have D6:D.agg [aC v.name,ay v.bool,J v.lo,J v.ah]=v.d:=rfl;have bP:ad v.d 1=ay v.bool:=rfl;have b6:ad v.d 2=J v.lo:=rfl;have cA:ad v.d 3=J v.ah:=rfl;have ae:a3 false 1 0 v.cells=some (aC v.name):=rfl;have hm:=JB n K v.name (by omega) (by omega);have dB:c1 (o.length+1) 40=true:=fU (by omega) (by omega);have hF:D.ax 4 (aq (bl o)++[[aC v.name,ay v.bool,J v.lo,J v.ah]])=bl (o++[v]):=by simp[bl];rfl
 cases bj:dM K v.name with
 |true=>
  rw[bj]at hm;refine⟨o++[v],?_,?_,by simp;omega⟩;.simp only[Dm,go_sem,fX,yT ((i:Int)<vs.length),ij ag,ae,hm,aA.1,aA.2.1,aA.2.2,bP,b6,cA,cJ,el,xao,xaq,xaw,dB,hF,b1 (bt:=false) (i:=i) (by omega)]
  rw[xbb,xad bj];simp
 |false=>
  rw[bj]at hm;refine⟨o,?_,?_,by omega⟩;.simp only[Dm,go_sem,fX,yT ((i:Int)<vs.length),ij ag,ae,hm,cJ,b1 (bt:=false) (i:=i) (by omega)]
  rw[xbb,xaa (by rw[bj];decide)]
theorem azk(nx:List bc)(a6:nx.length<=1000000)(ba b2 cK c9 c4 dy ee dS fh fF fY gJ gK ha jh iI iJ iK iL iM iN:D)(w:List V):bp (Dn n) n [bx K,J 0,ba,b2,cK,c9,c4,dy,ee,dS,fh,fF,fY,gJ,aQ nx,gK,ha,jh,iI,iJ,iK,iL,iM,iN,bl w,D.ax 5 []]=some (.inl [ba,b2,cK,c9,c4,dy,ee,dS,iI,iJ,iK,iL,iM,iN,bl w,aQ (nx.filter λd=>dM K d.name)]):=by
 have cJ:∀l,D.ax 5 (aq (aQ l))=aQ l:=λ_=>rfl;have cO:∀l,D.ax 4 (aq (bl l))=bl l:=λ_=>rfl;have el:∀l,(aq (aQ l)).length=l.length:=λl=>by simp[aQ]
 have dv:=dD (f:=Dn n) nx (λi (o:List bc)=>[bx K,J (i:Int),ba,b2,cK,c9,c4,dy,ee,dS,fh,fF,fY,gJ,aQ nx,gK,ha,jh,iI,iJ,iK,iL,iM,iN,bl w,aQ o]) (λr o=>(.inl [ba,b2,cK,c9,c4,dy,ee,dS,iI,iJ,iK,iL,iM,iN,bl w,aQ (o++r.filter λv=>dM K v.name)]:List D⊕D)) (λi o=>o.length<=i) (λo _=>by simp only[Dn,go_sem,ec,yF ((nx.length:Int)<nx.length),cJ,cO,xbS,xaD]) ?_ n 0 [] (xan _) (by omega) (xai _);.have bJ:(J ((0:Nat):Int))=J 0:=rfl;have aJ:aQ []= .ax 5 []:=rfl;rw[bJ,aJ]at dv;simpa only[xam,xaG]using dv
 intro i v o ag ah aG;left;have hm:=JB n K v.name (by omega) (by omega);have dB:c1 (o.length+1) 72=true:=fU (by omega) (by omega);have hF:D.ax 5 (aq (aQ o)++[[aC v.name,J v.e.op,J v.e.num,aC v.e.name,cl 4 v.e.nl (Tm.rows v.e.aT)]])=aQ (o++[v]):=by simp[aQ];rfl
 cases bj:dM K v.name with
 |true=>
  rw[bj]at hm;refine⟨o++[v],?_,?_,by simp;omega⟩;.simp only[Dn,go_sem,ec,yT ((i:Int)<nx.length),fs ag,bc.gd,hm,bc.FE,bc.agg,bc.a8,bc.bP,bc.b6,bc.cA,bc.dC,cJ,cO,el,xao,xaq,xaw,dB,hF,b1 (bt:=false) (i:=i) (by omega)]
  rw[xbb,xad bj];simp
 |false=>
  rw[bj]at hm;refine⟨o,?_,?_,by omega⟩;.simp only[Dn,go_sem,ec,yT ((i:Int)<nx.length),fs ag,bc.gd,hm,cJ,cO,b1 (bt:=false) (i:=i) (by omega)]
  rw[xbb,xaa (by rw[bj];decide)]
end
def azl{l:List V}(h:(kl l).2=0):∀i v,l[i]?=some v->Bz (l.take i) v=0:=by intro i v a6;have cd:=(xae.1 a6).1;unfold kl at h;cases bd:(List.range l.length).find? (λi=>jo l i !=0)with|none=>have:=List.find?_eq_none.1 bd i (by simp;exact cd);unfold jo at this;rw[a6]at this;simpa using this|some j=>rw[bd]at h;have:=List.find?_some bd;simp only at h;rw[h]at this;cases this
def azm{l:List V}(h:(kl l).2=0):(l.map V.name).Nodup:=by
 refine List.pairwise_iff_getElem.2 λi j ah aN gR e=>?_;rw[xaS]at ah aN;rw[List.getElem_map,List.getElem_map]at e;have ab:=azl h j l[j] (xab aN);unfold Bz at ab;split at ab
 .cases ab
 split at ab;.cases ab
 rename_i af;refine af ?_;unfold has;rw[xbs];refine⟨l[i].name,xax.2 ⟨l[i],?_,rfl⟩,by rw[e];simp⟩;rw[List.mem_take_iff_getElem];exact⟨i,by omega,rfl⟩
def JF{f:Tm->Tm}(bd:pW f)(o:Int)(t:Tm):∀l,db o (f t) l=db o t l:=by
 refine Tm.ind (P:=λt=>∀l,db o (f t) l=db o t l) ?_ t;intro t ih l;have key:∀(ks:List Tm),(∀k∈ks,∀l,db o (f k) l=db o k l)->∀l,ka o (ks.map f) l=ka o ks l:=by
  intro ks
  induction ks with
  |nil=>intro _ l;rfl
  |cons k r JG=>intro h l;rw[xaA,ka,ka,h k (by simp),JG λx ag=>h x (by simp[ag])]
 rw[tP,tP o t,bd.op,bd.name,bd.aT,key t.aT ih]
def VS{f:Tm->Tm}(bd:pW f)(t:Tm):fi (f t)=fi t:=by unfold fi;rw[JF bd,JF bd]
def af5{vs:List V}{x:bo}{k:Nat}(h:fq vs x=some k):x∈vs.map V.name:=by obtain⟨v,ab,af,_⟩:=IN h;exact xax.2 ⟨v,xac ab,af⟩
def af6{vs:List V}{nx:Bool}{o:Int}(aG:o=3\/o=4)(t:Tm):Valid t->(hx vs nx t).2=0->∀l x,x∈db o t l->x∈l\/x∈vs.map V.name:=by
 refine Tm.ind (P:=λt=>Valid t->(hx vs nx t).2=0->∀l x,x∈db o t l->x∈l\/x∈vs.map V.name) ?_ t;intro t ih a6 h l x ag;rw[DK]at h;rw[tP]at ag;by_cases a5:t.op<=4
 .rw[xad a5]at h;rw[a6.leaf a5,ka]at ag;by_cases af7:t.op=o
  .rw[xad af7]at ag;rcases LD ag with rfl|ag
   .right;unfold pV at h;rw[xaa (by omega),xaa (by omega)]at h;split at h;.cases h
    rename_i k ak;exact af5 ak
   exact .inl ag
  rw[xaa af7]at ag;exact .inl ag
 rw[xaa a5]at h;rw[xaa (by omega)]at ag;by_cases ak:(g9 vs nx t.aT).2=0
 case neg=>rw[xad ak]at h;exact absurd h ak
 have key:∀(ks:List Tm),(∀k∈ks,(hx vs nx k).2=0->∀l x,x∈db o k l->x∈l\/x∈vs.map V.name)->(g9 vs nx ks).2=0->∀l x,x∈ka o ks l->x∈l\/x∈vs.map V.name:=by
  intro ks
  induction ks with
  |nil=>intro _ _ l x ag;exact .inl ag
  |cons k r JG=>
   intro ab af l x ag;rw[g9]at af;by_cases bP:(hx vs nx k).2=0
   case neg=>rw[xad bP]at af;exact absurd af bP
   rw[xaa (λq=>q bP)]at af;by_cases b6:(g9 vs nx r).2=0
   case neg=>rw[xad b6]at af;exact absurd af b6
   rw[ka]at ag;rcases JG (λy aP=>ab y (by simp[aP])) b6 _ x ag with aw|aw
   .exact ab k (by simp) bP l x aw
   exact .inr aw
 exact key t.aT (λk dk ab=>ih k dk (a6.gz dk) ab) ak l x ag
def azn{vs:List V}{nx:Bool}{t:Tm}(h:(qJ vs nx t).2=0):∀x∈fi t,x∈vs.map V.name:=by
 unfold qJ at h;by_cases ao:(df t 1 0).1=0
 case neg=>rw[xad ao]at h;exact absurd h ao
 rw[xaa (λq=>q ao)]at h;have a6:Valid t:=⟨1,0,ao⟩;intro x ag;rcases xar.1 ag with ag|ag
 .rcases af6 (.inl rfl) t a6 h [] x ag with ab|ab;.cases ab
  exact ab
 rcases af6 (.inr rfl) t a6 h [] x ag with ab|ab;.cases ab
 exact ab
def azo{m:aD}{nx:Bool}{t:Tm}(h:(gU m nx t).2=0):(h4 m.aR t).2=0/\∀x∈fi (h4 m.aR t).1,x∈m.vars.map V.name:=by have au:=Vn h;unfold gU at h;rw[xaa (λq=>q au)]at h;exact⟨au,azn h⟩
structure VT(w:Tm->Tm):Prop where
 D5:pW w
 bm:∀t,(w t).bm=t.bm
def azp:VT jP:=⟨Aw,Uz⟩
def azq:VT gI:=⟨Ax,UN⟩
noncomputable def o9(w:Tm->Tm)(l:List bc)(t:Tm):Tm:=w (h4 l t).1
noncomputable def af8(w:Tm->Tm)(l:List bc)(d:bc):bc:=⟨d.name,o9 w l d.e⟩
structure su(m:aD)(n:Nat):Prop where
 ok:DU m n
 fr:afg m
section
variable{m:aD}{n:Nat}(h:su m n){w:Tm->Tm}(hw:VT w)(bk:∀t,vH m.aR t (h4 m.aR t)->(h4 m.aR t).2=0->(w (h4 m.aR t).1).cm)
include h hw bk
theorem JH{t:Tm}{nx:Bool}(aG:t.cm)(aH:t.bm<=12300)(aM:(gU m nx t).2=0):(o9 w m.aR t).cm/\(o9 w m.aR t).bm<=12300/\∀x∈fi (o9 w m.aR t),x∈m.vars.map V.name:=by obtain⟨ab,af⟩:=azo aM;have aU:=h.ok.bm.NL aG aH;have ag:=aU.x ab;refine⟨bk t aU ab,by unfold o9;rw[hw.bm];exact ag.2.1,?_⟩;unfold o9;rw[VS hw.D5];exact af
theorem af9:AW m.vars (m.bR.map (o9 w m.aR)) (m.bT.map (o9 w m.aR)) (m.next.map (af8 w m.aR)) (m.trans.map (o9 w m.aR)) (m.bW.map (o9 w m.aR)):=by
 have hm:=h.ok;have f:=h.fr;have cS:∀t∈m.bR,(gU m false t).2=0:=λt aM=>(vP (xL f.i t aM)).1;have hr:∀t∈m.bT,(gU m false t).2=0:=λt aM=>(vP (xL f.bS t aM)).1;have r8:=afi f.nx;have rv:∀t∈m.trans,(gU m true t).2=0:=λt aM=>(vP (xL f.t t aM)).1;have azr:∀t∈m.bW,(gU m false t).2=0:=λt aM=>(vP (xL f.f t aM)).1;have cK:=λt aM=>JH h hw bk (hm.bR.2 t aM).1 (hm.bR.2 t aM).2 (cS t aM);have c9:=λt aM=>JH h hw bk (hm.bT.2 t aM).1 (hm.bT.2 t aM).2 (hr t aM);have c4:=λt aM=>JH h hw bk (hm.next.2 t aM).1 (hm.next.2 t aM).2 (r8 t aM).1;have dy:=λt aM=>JH h hw bk (hm.trans.2 t aM).1 (hm.trans.2 t aM).2 (rv t aM);have ee:=λt aM=>JH h hw bk (hm.bW.2 t aM).1 (hm.bW.2 t aM).2 (azr t aM);have T:∀(l:List Tm),l.length<=100->(∀t∈l,(o9 w m.aR t).cm/\(o9 w m.aR t).bm<=12300/\∀x∈fi (o9 w m.aR t),x∈m.vars.map V.name)->kz (l.map (o9 w m.aR)):=by intro l ar aF;refine⟨by rw[xaS];omega,λt aM=>?_⟩;obtain⟨z,ab,rfl⟩:=xax.1 aM;exact⟨(aF z ab).1,by have:=(aF z ab).2.1;omega⟩
 refine⟨by have:=hm.bm.qK;omega,T _ hm.bR.1 cK,T _ hm.bT.1 c9,?_,T _ hm.trans.1 dy,T _ hm.bW.1 ee,?_⟩;.refine⟨by rw[xaS];have:=hm.next.1;omega,λd aA=>?_⟩;obtain⟨z,ab,rfl⟩:=xax.1 aA;exact⟨(c4 z ab).1,by have:=(c4 z ab).2.1;simp only[af8];omega⟩
 intro r av x ag;rcases xar.1 av with av|av
 .obtain⟨z,ab,rfl⟩:=xax.1 av;simp only[xar]at ab;rcases ab with((ab|ab)|ab)|ab;.obtain⟨t,af,rfl⟩:=xax.1 ab;exact(cK t af).2.2 x ag
  .obtain⟨t,af,rfl⟩:=xax.1 ab;exact(c9 t af).2.2 x ag
  .obtain⟨t,af,rfl⟩:=xax.1 ab;exact(dy t af).2.2 x ag
  obtain⟨t,af,rfl⟩:=xax.1 ab;exact(ee t af).2.2 x ag
 obtain⟨z,ab,rfl⟩:=xax.1 av;obtain⟨d,af,rfl⟩:=xax.1 ab;rcases xak.1 ag with rfl|ag;.obtain⟨k,ak⟩:=(r8 d af).2;exact af5 ak
 exact(c4 d af).2.2 x ag
end
def azs{m:aD}{t:Tm}(aU:vH m.aR t (h4 m.aR t))(au:(h4 m.aR t).2=0):(jP (h4 m.aR t).1).cm:=(aU.x au).2.2.2.1
def azt{m:aD}{t:Tm}(aU:vH m.aR t (h4 m.aR t))(au:(h4 m.aR t).2=0):(gI (h4 m.aR t).1).cm:=(aU.x au).2.2.2.2.1
def VU{m:aD}{n:Nat}(h:su m n):AW m.vars (m.bR.map (fa m.aR)) (m.bT.map (fa m.aR)) (m.next.map (na m.aR)) (m.trans.map (fa m.aR)) (m.bW.map (fa m.aR)):=af9 h azp λ_ aU au=>azs aU au
def VV{m:aD}{n:Nat}(h:su m n):AW m.vars (m.bR.map (fK m.aR)) (m.bT.map (fK m.aR)) (m.next.map (o6 m.aR)) (m.trans.map (fK m.aR)) (m.bW.map (fK m.aR)):=af9 h azq λ_ aU au=>azt aU au
def D8{m:aD}{n:Nat}(h:su m n)(gQ:∀s∈m.bG,s.f.bm<=2000):Vj m:=by
 have hm:=h.ok;have f:=h.fr;have JI:∀{t:Tm}{nx:Bool},t.cm->t.bm<=12300->(gU m nx t).2=0->o5 m.aR t:=λaG aH aM=>⟨hm.bm.NL aG aH,Vn aM⟩;have aga:=axq f.s;refine⟨λt aM=>JI (hm.bR.2 t aM).1 (hm.bR.2 t aM).2 (vP (xL f.i t aM)).1,λt aM=>JI (hm.bT.2 t aM).1 (hm.bT.2 t aM).2 (vP (xL f.bS t aM)).1,λd aA=>JI (hm.next.2 d aA).1 (hm.next.2 d aA).2 (afi f.nx d aA).1,λt aM=>JI (hm.trans.2 t aM).1 (hm.trans.2 t aM).2 (vP (xL f.t t aM)).1,λt aM=>JI (hm.bW.2 t aM).1 (hm.bW.2 t aM).2 (vP (xL f.f t aM)).1,λs aH=>axd (axc hm.bm.d hm.bm.dl s.f (hm.bG.2 s aH).1.1 (gQ s aH) (aga s aH).1 (axr s.f (aga s aH).2)),?_⟩;have b:=hm.bR.1;have gw:=hm.bT.1;have h7:=hm.next.1
 have l7:=hm.trans.1;have o3:=hm.bW.1;have o4:=hm.bG.1;exact⟨by omega,by omega,by omega,by omega,by omega,by omega⟩
def gV{α β:Type}(p:α->β->Bool):List α->List β->Bool
 |[],[]=>true|a::r,b::q=>p a b&&gV p r q|_,_=>false
def VW{α β:Type}{p:α->β->Bool}:∀{a:List α}{b:List β},gV p a b=true->a.length=b.length
 |[],[],_=>rfl|x::a,y::b,h=>by simp only[gV,xal]at h;simp only[xao,VW h.2]|[],_::_,h=>by cases h
 |_::_,[],h=>by cases h
def agb{α β:Type}{p:α->β->Bool}{a:List α}{b:List β}(h:a.length≠b.length):gV p a b=false:=by cases bC:gV p a b with|false=>rfl|true=>exact absurd (VW bC) h
def OW{α β:Type}(p:α->β->Bool)(a:List α)(b:List β)(ar:a.length=b.length){f:List D->Option (List D⊕(List D⊕D))}(e3:Nat->List D)(E:List D) (aH:∀i x y,a[i]?=some x->b[i]?=some y->i<a.length->f (e3 i)=some (if p x y=true then .inl (e3 (i+1))else .inr (.inr (ay false)))) (he:f (e3 a.length)=some (.inr (.inl E))) (n:Nat) (aL:a.length<n):bp f n (e3 0)=some (if gV p a b=true then .inl E else .inr (ay false)):=by
 have key:∀(m i:Nat),i<=a.length->a.length-i<m->bp f m (e3 i)=some (if gV p (a.drop i) (b.drop i)=true then .inl E else .inr (ay false)):=by
  intro m
  induction m with
  |zero=>intro i _ h;exact absurd h (xay _)
  |succ m ih=>
   intro i ah hm;rw[jN];by_cases h:i<a.length
   .have aj:i<b.length:=by omega
    rw[aH i _ _ (xab h) (xab aj) h,xaW h,xaW aj,gV];cases aU:p a[i] b[i]with|true=>simp only[xaH,xbw,eL];exact ih (i+1) h (by omega)|false=>rfl
   have:i=a.length:=by omega
   subst this;rw[he,List.drop_length,ar,List.drop_length];rfl
 simpa using key n 0 (xai _) (by omega)
def sw(v w:V):Bool:=decide (v.name=w.name)&&((v.bool==w.bool)&&(v.lo==w.lo&&v.ah==w.ah))
def azu(v w:V):yr [.string,.bool,.int .i64,.int .i64] .neq v.d w.d=some (ay (!sw v w)):=by
 obtain⟨k2,dP,j0,qa⟩:=v;obtain⟨qh,gw,kF,pc⟩:=w;have aH:∀a b:ByteArray,Instr.sameNow .string (.string a) (.string b)=some (decide (a=b)):=λa b=>by simp[Instr.sameNow,JU]
 have gL:∀a b:Bool,Instr.sameNow .bool (.bool a) (.bool b)=some (a==b):=λa b=>rfl;have iG:∀a b:Int,Instr.sameNow (.int .i64) (.int .i64 a) (.int .i64 b)=some (a==b):=λa b=>rfl;simp only[yr,V.d,V.cells,JV,qZ,aC,ay,J,aH,gL,iG,sw];cases decide (k2=qh)<;>cases(dP==gw)<;>cases(j0==kF)<;>cases(qa==pc)<;>rfl
structure fZ where
 vs:List V
 qN:Bool
 aO:List bc
 i:List Tm
 bS:List Tm
 nx:List bc
 t:List Tm
 f:List Tm
 AY:Bool
 eV:List cw
def ng(b:Bool)(l:List bc):D:=cl 5 b (l.map bc.cells)
def iP(b:Bool)(l:List cw):D:=cl 7 b (l.map cw.cells)
def fZ.d(m:fZ):D:= .agg [bl m.vs,ng m.qN m.aO,az m.i,az m.bS,aQ m.nx,az m.t,az m.f,iP m.AY m.eV]
def agc(l:List bc):ng false l=aQ l:=by unfold ng aQ;rw[B0]
def OX(l:List cw):iP false l=b3 l:=by unfold iP b3;rw[B0]
def D9(b:Bool)(l:List bc):bK (ng b l)=some (J l.length):=by simp[ng]
def qU(b:Bool)(l:List cw):bK (iP b l)=some (J l.length):=by simp[iP]
theorem Ea{b:Bool}{l:List bc}{i:Nat}{d:bc}(h:l[i]?=some d):bn 5 (ng b l) (J (i:Int))=some d.cells:=by rw[ng,FB,xaj,h];rfl
theorem xT{b:Bool}{l:List cw}{i:Nat}{d:cw}(h:l[i]?=some d):bn 7 (iP b l) (J (i:Int))=some d.cells:=by rw[iP,FB,xaj,h];rfl
theorem OY(b:Bool)(l:List bc):(ng b l).one=true:=by unfold ng cl;split<;>rfl
theorem VX(b:Bool)(l:List cw):(iP b l).one=true:=by unfold iP cl;split<;>rfl
def oi(a b:bc):Bool:=decide (a.name=b.name)&&hK a.e b.e
def qV(a b:cw):Bool:=decide (a.name=b.name)&&vE a.f b.f
def VY(l:List cw):Prop:=l.length<=1000000/\∀s∈l,s.f.cm/\s.f.bm<=30000000
structure uh(m:fZ):Prop where
 v:m.vs.length<=1000
 d:ug m.aO
 i:kz m.i
 bS:kz m.bS
 n:ug m.nx
 t:kz m.t
 f:kz m.f
 s:VY m.eV
def Eb(a b:fZ):Bool:=decide (a.vs.length=b.vs.length)&&(decide (a.eV.length=b.eV.length)&&(gV sw a.vs b.vs&&(gV qV a.eV b.eV&&(gV oi a.aO b.aO&&(gV oi a.nx b.nx&&(gV hK a.i b.i&&(gV hK a.bS b.bS&&(gV hK a.t b.t&&gV hK a.f b.f))))))))
def azv(a b:Tm):vE (.mk 0 a true []) (.mk 0 b true [])=hK a b:=by rw[Ny];simp only[Fm.op,Fm.e,Fm.aT,xaq,tS,xbi,xbw,xbo]
def vT(a b:Nat):((a:Int) !=(b:Int))=!decide (a=b):=by
 by_cases h:a=b;.simp[h]
 have af:¬(a:Int)=(b:Int):=by omega
 simp[h,af]
section
variable{n:Nat}(aL:1000000000<n)
include aL
theorem JJ{a b:List Tm}(aF:kz a)(aj:kz b):r1 n [az a,az b]=some (ay (gV hK a b)):=by
 by_cases ar:a.length=b.length
 case neg=>simp only[r1,TE,go_sem,hy,vT,ar,xbU,agb ar]
 have iU:=aF.1;have h:=OW hK a b ar (f:=Ic n) (λi=>[az a,az b,J (i:Int)]) [] (λi x y ag aP ah=>by
  obtain⟨dE,di⟩:=aF.2 x (xac ag);obtain⟨bA,bB⟩:=aj.2 y (xac aP);have au:(Fm.mk 0 x true []).cm:= .mk _ _ _ _ (by omega) dE (by simp) (by simp);have ab:(Fm.mk 0 y true []).cm:= .mk _ _ _ _ (by omega) bA (by simp) (by simp);have aH:=UB n (.mk 0 x true []) (.mk 0 y true []) (by simp only[Fm.bm,Fm.ds];omega) au ab;rw[azv]at aH;have aJ:D.agg [J 0,J x.op,J x.num,aC x.name,cl 4 x.nl (Tm.rows x.aT),D.val (.slice none 0 0)]=(Fm.mk 0 x true []).d:=rfl;have aZ:D.agg [J 0,J y.op,J y.num,aC y.name,cl 4 y.nl (Tm.rows y.aT),D.val (.slice none 0 0)]=(Fm.mk 0 y true []).d:=rfl;cases bj:hK x y
  .rw[bj]at aH;simp only[Ic,go_sem,hy,yT ((i:Int)<a.length),ob ag,ob aP,aJ,aZ,aH]
  .rw[bj]at aH;simp only[Ic,go_sem,hy,yT ((i:Int)<a.length),ob ag,ob aP,aJ,aZ,aH,b1 (bt:=false) (i:=i) (by omega)]) (by
  simp only[Ic,go_sem,hy,yF ((a.length:Int)<a.length)]) n (by omega)
 have bJ:(J ((0:Nat):Int))=J 0:=rfl;rw[bJ]at h;cases bC:gV hK a b<;>simp only[bC,xaH,xaI,xav]at h<;>simp only[r1,TE,go_sem,hy,vT,ar,xbi,h]
theorem agd{u w:Bool}{a b:List bc}(aF:ug a)(aj:ug b):Ab n [ng u a,ng w b]=some (ay (gV oi a b)):=by
 by_cases ar:a.length=b.length
 case neg=>simp only[Ab,TF,go_sem,D9,vT,ar,xbU,agb ar]
 have iU:=aF.1;have h:=OW oi a b ar (f:=Dq n) (λi=>[ng u a,ng w b,J (i:Int)]) [] (λi x y ag aP ah=>by
  obtain⟨dE,di⟩:=aF.2 x (xac ag);obtain⟨bA,bB⟩:=aj.2 y (xac aP);have aH:=JJ aL (a:=[x.e]) (b:=[y.e]) ⟨by simp,by simpa using⟨dE,di⟩⟩ ⟨by simp,by simpa using⟨bA,bB⟩⟩;have aJ:∀t:Tm,D.ax 4 [[J t.op,J t.num,aC t.name,cl 4 t.nl (Tm.rows t.aT)]]=az [t]:=λt=>by rw[T.vF];rfl
  have bC:gV hK [x.e] [y.e]=hK x.e y.e:=by simp[gV]
  rw[bC]at aH;by_cases m7:x.name=y.name
  case neg=>
   have bj:oi x y=false:=by simp[oi,m7]
   simp only[Dq,go_sem,D9,yT ((i:Int)<a.length),Ea ag,Ea aP,bc.gd,xaE m7,Rx,dQ,xbg,bj]
  cases bj:hK x.e y.e
  .have s4:oi x y=false:=by simp[oi,bj]
   rw[bj]at aH;simp only[Dq,go_sem,D9,yT ((i:Int)<a.length),Ea ag,Ea aP,bc.gd,bc.g6,xat m7,Rx,dQ,aJ,aH,s4]
  .have s4:oi x y=true:=by simp[oi,bj,m7]
   rw[bj]at aH;simp only[Dq,go_sem,D9,yT ((i:Int)<a.length),Ea ag,Ea aP,bc.gd,bc.g6,xat m7,Rx,dQ,aJ,aH,s4,b1 (bt:=false) (i:=i) (by omega)]) (by
  simp only[Dq,go_sem,D9,yF ((a.length:Int)<a.length)]) n (by omega)
 have bJ:(J ((0:Nat):Int))=J 0:=rfl;rw[bJ]at h;cases bC:gV oi a b<;>simp only[bC,xaH,xaI,xav]at h<;>simp only[Ab,TF,go_sem,D9,vT,ar,xbi,h]
theorem azw{vs ws:List V}(a6:vs.length<=1000)(ar:vs.length=ws.length)(ba b2 cK c9 c4 dy ee fh fF fY gJ hl gK ha:D):bp (Dr n) n [J 0,bl vs,ba,b2,cK,c9,c4,dy,ee,bl ws,fh,fF,fY,gJ,hl,gK,ha]=some (if gV sw vs ws=true then .inl [bl vs,ba,b2,cK,c9,c4,dy,ee,bl ws,fh,fF,fY,gJ,hl,gK,ha]else .inr (ay false)):=by
 have h:=OW sw vs ws ar (f:=Dr n) (λi=>[J (i:Int),bl vs,ba,b2,cK,c9,c4,dy,ee,bl ws,fh,fF,fY,gJ,hl,gK,ha]) [bl vs,ba,b2,cK,c9,c4,dy,ee,bl ws,fh,fF,fY,gJ,hl,gK,ha] (λi x y ag aP ah=>by
  have he:=azu x y;cases bj:sw x y;.rw[bj]at he;simp only[Dr,go_sem,fX,yT ((i:Int)<vs.length),ij ag,ij aP,(V.tU x).1,(V.tU y).1,he]
  .rw[bj]at he;simp only[Dr,go_sem,fX,yT ((i:Int)<vs.length),ij ag,ij aP,(V.tU x).1,(V.tU y).1,he,b1 (bt:=false) (i:=i) (by omega)]) (by
  simp only[Dr,go_sem,fX,yF ((vs.length:Int)<vs.length)]) n (by omega)
 exact h
theorem azx{u w:Bool}{a b:List cw}(aF:VY a)(aj:VY b)(ar:a.length=b.length)(an ba b2 cK c9 c4 dy dS fh fF fY gJ hl gK:D):bp (Ac n) n [J 0,an,ba,b2,cK,c9,c4,dy,iP u a,dS,fh,fF,fY,gJ,hl,gK,iP w b]=some (if gV qV a b=true then .inl [an,ba,b2,cK,c9,c4,dy,iP u a,dS,fh,fF,fY,gJ,hl,gK,iP w b]else .inr (ay false)):=by
 have iU:=aF.1;have h:=OW qV a b ar (f:=Ac n) (λi=>[J (i:Int),an,ba,b2,cK,c9,c4,dy,iP u a,dS,fh,fF,fY,gJ,hl,gK,iP w b]) [an,ba,b2,cK,c9,c4,dy,iP u a,dS,fh,fF,fY,gJ,hl,gK,iP w b] (λi x y ag aP ah=>by
  obtain⟨dE,di⟩:=aF.2 x (xac ag);obtain⟨bA,bB⟩:=aj.2 y (xac aP);have aH:=UB n x.f y.f (by omega) dE bA;by_cases m7:x.name=y.name
  case neg=>
   have bj:qV x y=false:=by simp[qV,m7]
   simp only[Ac,go_sem,qU,yT ((i:Int)<a.length),xT ag,xT aP,cw.gd,xaE m7,eb,nt,dQ,xbg,bj]
  cases bj:vE x.f y.f
  .have s4:qV x y=false:=by simp[qV,bj]
   rw[bj]at aH;simp only[Ac,go_sem,qU,yT ((i:Int)<a.length),xT ag,xT aP,cw.gd,cw.g6,xat m7,eb,nt,dQ,aH,s4]
  .have s4:qV x y=true:=by simp[qV,bj,m7]
   rw[bj]at aH;simp only[Ac,go_sem,qU,yT ((i:Int)<a.length),xT ag,xT aP,cw.gd,cw.g6,xat m7,eb,nt,dQ,aH,s4,b1 (bt:=false) (i:=i) (by omega)]) (by
  simp only[Ac,go_sem,qU,yF ((a.length:Int)<a.length)]) n (by omega)
 exact h
theorem fZ.o2(m:fZ):a4 8 m.d=true:=by simp only[fZ.d,LH,OY,VX];rfl
theorem azy{a b:fZ}(aF:uh a)(aj:uh b):tL n [a.d,b.d]=some (ay (Eb a b)):=by
 have aV:=fZ.o2 aL a;have a2:=fZ.o2 aL b;have cs:∀m:fZ,ad m.d 0=bl m.vs/\ad m.d 1=ng m.qN m.aO/\ad m.d 2=az m.i/\ad m.d 3=az m.bS/\ad m.d 4=aQ m.nx/\ad m.d 5=az m.t/\ad m.d 6=az m.f/\ad m.d 7=iP m.AY m.eV:=λm=>⟨rfl,rfl,rfl,rfl,rfl,rfl,rfl,rfl⟩;obtain⟨a8,bP,b6,cA,dC,eC,eD,eX⟩:=cs a;obtain⟨d0,d1,d2,d3,d4,d5,d6,d7⟩:=cs b;unfold Eb;by_cases a6:a.vs.length=b.vs.length
 case neg=>simp only[tL,Ds,aV,a2,a8,d0,go_sem,fX,vT,a6,xbU,eb,nt,dQ,xbg,Bool.not_false,xbx]
 by_cases aH:a.eV.length=b.eV.length
 case neg=>simp only[tL,Ds,aV,a2,a8,d0,eX,d7,go_sem,fX,qU,vT,a6,aH,xbU,xbi,eb,nt,dQ,xbg,Bool.not_false,xbx,Bool.and_false]
 have vM:=λba b2 cK c9 c4 dy ee fh fF fY gJ hl gK ha=>azw aL aF.v a6 ba b2 cK c9 c4 dy ee fh fF fY gJ hl gK ha;have OZ:=λan ba b2 cK c9 c4 dy dS fh fF fY gJ hl gK=>azx aL (u:=a.AY) (w:=b.AY) aF.s aj.s aH an ba b2 cK c9 c4 dy dS fh fF fY gJ hl gK;have t1:=agd aL (u:=a.qN) (w:=b.qN) aF.d aj.d;have t2:=agd aL (u:=false) (w:=false) aF.n aj.n;rw[agc,agc]at t2;have t3:=JJ aL aF.i aj.i;have t4:=JJ aL aF.bS aj.bS;have t5:=JJ aL aF.t aj.t;have t6:=JJ aL aF.f aj.f;cases iZ:gV sw a.vs b.vs
 .simp only[iZ,xaI,xav]at vM;simp only[tL,Ds,aV,a2,a8,bP,b6,cA,dC,eC,eD,eX,d0,d1,d2,d3,d4,d5,d6,d7,go_sem,fX,qU,vT,a6,aH,xbi,eb,nt,dQ,vM,xbx,Bool.and_false]
 simp only[iZ,xaH]at vM;cases pf:gV qV a.eV b.eV;.simp only[pf,xaI,xav]at OZ;simp only[tL,Ds,aV,a2,a8,bP,b6,cA,dC,eC,eD,eX,d0,d1,d2,d3,d4,d5,d6,d7,go_sem,fX,qU,vT,a6,aH,xbi,eb,nt,dQ,vM,OZ,xbx,Bool.and_false]
 simp only[pf,xaH]at OZ;cases adk:gV oi a.aO b.aO<;>cases adl:gV oi a.nx b.nx<;>cases azz:gV hK a.i b.i<;>cases azA:gV hK a.bS b.bS<;>cases azB:gV hK a.t b.t<;>cases azC:gV hK a.f b.f<;>
  simp only[adk,adl,azz,azA,azB,azC]at t1 t2 t3 t4 t5 t6<;>
  simp only[tL,Ds,aV,a2,a8,bP,b6,cA,dC,eC,eD,eX,d0,d1,d2,d3,d4,d5,d6,d7,go_sem,fX,qU,vT,a6,aH,xbi,eb,nt,dQ,vM,OZ,t1,t2,t3,t4,t5,t6,xbx,Bool.and_false]
end
set_option maxHeartbeats 4000000 in
theorem azD(n:Nat):Ii (n+300) []=some (ay true):=by kernel_rfl
def nh:D:= .agg [eM,eM,eM,eM,eM,eM,eM,eM]
noncomputable def jZ(m:aD):fZ:=⟨m.vars,true,[],m.bR.map (fa m.aR),m.bT.map (fa m.aR),m.next.map (na m.aR),m.trans.map (fa m.aR),m.bW.map (fa m.aR),false,m.bG.map (lL m.aR)⟩
noncomputable def eU(m:aD):fZ:=⟨m.vars,true,[],m.bR.map (fK m.aR),m.bT.map (fK m.aR),m.next.map (o6 m.aR),m.trans.map (fK m.aR),m.bW.map (fK m.aR),false,m.bG.map (nb m.aR)⟩
theorem VZ(m:aD):(jZ m).d=Ol m:=rfl
theorem V0(m:aD):(eU m).d=Vk m:=rfl
theorem fZ.eta(m:fZ):D.agg [ad m.d 0,ad m.d 1,ad m.d 2,ad m.d 3,ad m.d 4,ad m.d 5,ad m.d 6,ad m.d 7]=m.d:=rfl
theorem aD.qW(m:aD):D.agg [ad m.d 0,ad m.d 1,ad m.d 2,ad m.d 3,ad m.d 4,ad m.d 5,ad m.d 6,ad m.d 7]=m.d:=rfl
theorem fZ.vU(m:fZ):a4 8 m.d=true:=by simp only[fZ.d,LH,OY,VX];rfl
theorem fZ.azE(m:fZ):((ad m.d 0).one&&((ad m.d 1).one&&((ad m.d 2).one&&((ad m.d 3).one&&((ad m.d 4).one&&((ad m.d 5).one&&((ad m.d 6).one&&(ad m.d 7).one)))))))=true:=by show((bl m.vs).one&&((ng m.qN m.aO).one&&((az m.i).one&&((az m.bS).one&&((aQ m.nx).one&&((az m.t).one&&((az m.f).one&&(iP m.AY m.eV).one)))))))=true;rw[OY,VX];rfl
theorem V1:a4 8 nh=true:=rfl
def AZ(a b:Int):a4 2 (.agg [J a,J b])=true:=by simp
structure Ec(m:aD)(n:Nat):Prop where
 ok:DU m n
 eV:∀s∈m.bG,s.f.bm<=2000
 ik:18446744073709551616<n
theorem JK(p:Int×(Int×Int)):eS p= .a1 [.agg [J p.1,J p.2.1],J p.2.2]:=rfl
def Ex{m:aD}{n:Nat}(h:Ec m n):qH n [m.d]=some (.a1 (if(m9 m).2.2=0 then[Ol m,ay true]else[nh,ay false])):=by
 have ao:=awH h.ok;rw[JK]at ao;by_cases bC:(m9 m).2.2=0;.have bk:su m n:=⟨h.ok,AL.1 bC⟩;have hi:=axi (D8 bk h.eV) n (by have:=h.ik;omega);rw[<-VZ]at hi⊢;have g:=fZ.vU (jZ m);have so:((0:Int) !=0)=false:=rfl;have iZ:((0:Int)==0)=true:=rfl;rw[xad bC];rw[bC]at ao;simp only[qH,TJ,aD.agg,aD.qW,go_sem,ao,AZ,so,hi,fZ.eta,g,iZ,fZ.azE]
 have V2:((m9 m).2.2 !=0)=true:=by simp[bC]
 rw[xaa bC];simp only[qH,TJ,aD.agg,aD.qW,go_sem,ao,AZ,V2];rfl
def V3(l:List bc)(t:Tm):fi (fa l t)=fi (fK l t):=by unfold fa fK;rw[VS Aw,VS Ax]
def age(m:aD):mM (m.bR.map (fa m.aR)) (m.bT.map (fa m.aR)) (m.next.map (na m.aR)) (m.trans.map (fa m.aR)) (m.bW.map (fa m.aR))=mM (m.bR.map (fK m.aR)) (m.bT.map (fK m.aR)) (m.next.map (o6 m.aR)) (m.trans.map (fK m.aR)) (m.bW.map (fK m.aR)):=by
 have e:(fi∘fa m.aR)=(fi∘fK m.aR):=funext λt=>V3 m.aR t;have aZ:((λd:bc=>d.name::fi d.e)∘na m.aR)=((λd:bc=>d.name::fi d.e)∘o6 m.aR):=funext λd=>by simp only[Function.comp,na,o6,V3]
 simp only[mM,List.map_append,List.map_map,e,aZ]
def sx(m:fZ)(K:List bo):fZ:=⟨m.vs.filter λv=>dM K v.name,true,[],m.i.filter λt=>mf K t,m.bS.filter λt=>mf K t,m.nx.filter λd=>dM K d.name,m.t.filter λt=>mf K t,m.f.filter λt=>mf K t,true,[]⟩
def qX(m:fZ)(K:List bo):fZ:=⟨m.vs.filter λv=>dM K v.name,true,[],m.i.filter λt=>jz K t,m.bS.filter λt=>jz K t,m.nx.filter λd=>dM K d.name,m.t.filter λt=>jz K t,m.f.filter λt=>jz K t,true,[]⟩
structure O0(m:aD)(n:Nat)(A0 xU:D)(l K K':List bo):Prop where
 a:vi n [Ol m,A0]=some (bx K)
 b:Dk n [Vk m,xU]=some (bx K')
 k:K.length<=100
 bs:K'.length<=100
 aBK:fN K
 own:K'.Nodup
 mem:∀x,x∈K↔x∈K'
 vars:∀x,x∈K->x∈m.vars.map V.name
 row:∀r∈mM (m.bR.map (fa m.aR)) (m.bT.map (fa m.aR)) (m.next.map (na m.aR)) (m.trans.map (fa m.aR)) (m.bW.map (fa m.aR)),∀x∈r,∀y∈r,x∈K->y∈K
 ask:∀x,x∈l->x∈m.vars.map V.name->x∈K
 min:∀C:bo->Prop,AT (mM (m.bR.map (fa m.aR)) (m.bT.map (fa m.aR)) (m.next.map (na m.aR)) (m.trans.map (fa m.aR)) (m.bW.map (fa m.aR))) C->(∀x∈l,x∈m.vars.map V.name->C x)->∀x∈K,C x
def azF{m:aD}{n:Nat}(h:Ec m n)(bC:(m9 m).2.2=0)(sn gq:Bool)(l:List bo)(ar:l.length<100000000):∃K K',O0 m n (eG sn l) (eG gq l) l K K':=by
 have bk:su m n:=⟨h.ok,AL.1 bC⟩;have k6:=azm bk.fr.v;have azG:=VU bk;have O1:=VV bk;have V4:=h.ik;have DR:=h.ok.bm.qK;obtain⟨rep,K,an,ba,b2,cK,c9,c4⟩:=ayS azG k6 (dd:=eM) rfl (m.bG.map (lL m.aR)) n (by omega) sn l (by omega);have dP:=azi O1 k6 (dd:=eM) rfl (m.bG.map (nb m.aR)) n (by omega) gq l ar;have mQ:=ba;have agf:=b2
 rw[age]at mQ agf;have iu:=azh O1 k6 l mQ agf;have jD:=azf O1 k6 l;have hb:=azg O1 k6 l;have hm:∀x,x∈K↔x∈D7 m.vars (m.bR.map (fK m.aR)) (m.bT.map (fK m.aR)) (m.next.map (o6 m.aR)) (m.trans.map (fK m.aR)) (m.bW.map (fK m.aR)) l:=λx=>by rw[c4,iu]
 have b5:=Jt jD.1 jD.2;rw[xaS]at b5;refine⟨K,_,an,dP,by omega,by omega,cK,jD.1,hm,λx ag=>((c4 x).1 ag).1,?_,?_,?_⟩;.intro r av x ag y aP fj;rw[age]at av;obtain⟨q,bA,bB⟩:=OS.1 r av;exact(hm y).2 (hb q bA x ((bB x).1 ag) y ((bB y).1 aP) ((hm x).1 fj))
 .intro x ag a6;exact(c4 x).2 ⟨a6,x,ag,a6,rfl⟩
 intro C cf au x ag;obtain⟨ab,a,af,aw,a5⟩:=(c4 x).1 ag;exact ba C cf a x aw ab a5 (au a af aw)
section
variable{m:aD}{n:Nat}{A0 xU:D}{l K K':List bo}(c:O0 m n A0 xU l K K')
include c
theorem V5(x:bo):dM K x=dM K' x:=by cases h:dM K' x with|true=>exact sq.2 ((c.mem x).2 (sq.1 h))|false=>exact VD.2 λag=>VD.1 h ((c.mem x).1 ag)
theorem azH{t:Tm}(aM:t∈m.bR\/t∈m.bT\/t∈m.trans\/t∈m.bW):mf K (fa m.aR t)=jz K' (fK m.aR t):=by
 have av:fi (fa m.aR t)∈mM (m.bR.map (fa m.aR)) (m.bT.map (fa m.aR)) (m.next.map (na m.aR)) (m.trans.map (fa m.aR)) (m.bW.map (fa m.aR)):=by
  refine xar.2 (.inl (xax.2 ⟨fa m.aR t,?_,rfl⟩));simp only[xar];rcases aM with h|h|h|h
  .exact .inl (.inl (.inl (xax.2 ⟨t,h,rfl⟩)))
  .exact .inl (.inl (.inr (xax.2 ⟨t,h,rfl⟩)))
  .exact .inl (.inr (xax.2 ⟨t,h,rfl⟩))
  exact .inr (xax.2 ⟨t,h,rfl⟩)
 have nL:=c.row _ av;have aj:∀x,x∈im (fK m.aR t)↔x∈fi (fa m.aR t):=λx=>by rw[JC,V3]
 have gB:mf K (fa m.aR t)=true↔∀x∈fi (fa m.aR t),x∈K:=by unfold mf;rw[xcb,List.any_eq_false];simp only[Bool.not_eq_true,Bool.not_eq_false',sq]
 have Q0:jz K' (fK m.aR t)=true↔(im (fK m.aR t)=[]\/∃x∈im (fK m.aR t),x∈K'):=by unfold jz;rw[xbd,xaC,List.length_eq_zero_iff,VE]
 have key:mf K (fa m.aR t)=true↔jz K' (fK m.aR t)=true:=by
  rw[gB,Q0];constructor
  .intro h;cases azI:im (fK m.aR t)with
   |nil=>exact .inl rfl
   |cons x r=>
    have ag:x∈im (fK m.aR t):=by rw[azI];simp
    exact .inr ⟨x,by simp,(c.mem x).1 (h x ((aj x).1 ag))⟩
  rintro(h|⟨x,ab,af⟩);.intro x ag;have:=(aj x).2 ag;rw[h]at this;cases this
  intro y aP;exact nL x ((aj x).1 ab) y aP ((c.mem x).2 af)
 cases ab:mf K (fa m.aR t)<;>cases af:jz K' (fK m.aR t)<;>simp_all
end
def agh{f g:Tm->Tm}(bd:pW f)(b8:pW g)(t:Tm):hK (f t) (g t)=true:=by
 refine Tm.ind (P:=λt=>hK (f t) (g t)=true) ?_ t;intro t ih;have key:∀(l:List Tm),(∀x∈l,hK (f x) (g x)=true)->n7 (l.map f) (l.map g)=true:=by
  intro l
  induction l with
  |nil=>intro _;rfl
  |cons a r JG=>intro h;rw[xaA,xaA,n7,h a (by simp),JG λx ag=>h x (by simp[ag])];rfl
 rw[DB,bd.op,b8.op,bd.num,b8.num,bd.name,b8.name,bd.aT,b8.aT,key t.aT ih];simp
def agi(l:List bc)(t:Tm):hK (fa l t) (fK l t)=true:=agh Aw Ax _
def azJ(v:V):sw v v=true:=by simp[sw]
def O2{α β ek:Type}{p:β->ek->Bool}{f:α->β}{g:α->ek}{u:β->Bool}{w:ek->Bool}:∀{l:List α},(∀x∈l,u (f x)=w (g x))->(∀x∈l,p (f x) (g x)=true)->gV p ((l.map f).filter u) ((l.map g).filter w)=true
 |[],_,_=>rfl
 |x::l,h,af=>by
  have ag:=h x (by simp);have ih:=O2 (l:=l) (u:=u) (w:=w) (λy aP=>h y (xbR _ aP)) λy aP=>af y (xbR _ aP);rw[xaA,xaA,xbb,xbb,<-ag];cases bj:u (f x)
  .exact ih
  simp only[xaH,gV,af x (by simp),ih,Bool.and_self]
def O3{α:Type}(p:α->Bool)(l:List α):(l.filter p).length<=l.length:=List.length_filter_le p l
def kz.filter{l:List Tm}(h:kz l)(p:Tm->Bool):kz (l.filter p):=⟨xbZ (O3 p l) h.1,λt aM=>h.2 t (xbA.1 aM).1⟩
def ug.filter{l:List bc}(h:ug l)(p:bc->Bool):ug (l.filter p):=⟨xbZ (O3 p l) h.1,λt aM=>h.2 t (xbA.1 aM).1⟩
def azK{m:fZ}(h:uh m)(K:List bo):uh (sx m K):=⟨xbZ (O3 _ _) h.v,⟨by simp[sx],by simp[sx]⟩,h.i.filter _,h.bS.filter _,h.n.filter _,h.t.filter _,h.f.filter _,⟨by simp[sx],by simp[sx]⟩⟩
def azL{m:fZ}(h:uh m)(K:List bo):uh (qX m K):=⟨xbZ (O3 _ _) h.v,⟨by simp[qX],by simp[qX]⟩,h.i.filter _,h.bS.filter _,h.n.filter _,h.t.filter _,h.f.filter _,⟨by simp[qX],by simp[qX]⟩⟩
section
variable{m:aD}{n:Nat}(h:Ec m n)(bC:(m9 m).2.2=0)
include h bC
theorem azM:uh (jZ m):=by have bk:su m n:=⟨h.ok,AL.1 bC⟩;have f:=VU bk;have aH:=(D8 bk h.eV).s;refine⟨f.a6,⟨by simp[jZ],by simp[jZ]⟩,f.ah,f.xR,f.mP,f.aM,f.bd,?_⟩;refine⟨by have:=h.ok.bG.1;simp only[jZ,xaS];omega,λs sk=>?_⟩;obtain⟨z,iZ,rfl⟩:=xax.1 sk;have q:=aH z iZ;exact⟨q.an,by have:=q.s1;simp only[lL];omega⟩
theorem azN:uh (eU m):=by have bk:su m n:=⟨h.ok,AL.1 bC⟩;have f:=VV bk;have aH:=(D8 bk h.eV).s;refine⟨f.a6,⟨by simp[eU],by simp[eU]⟩,f.ah,f.xR,f.mP,f.aM,f.bd,?_⟩;refine⟨by have:=h.ok.bG.1;simp only[eU,xaS];omega,λs sk=>?_⟩;obtain⟨z,iZ,rfl⟩:=xax.1 sk;have q:=aH z iZ;exact⟨q.ba,by have:=q.s2;simp only[nb];omega⟩
theorem azO{A0 xU:D}{l K K':List bo}(c:O0 m n A0 xU l K K'):Eb (sx (jZ m) K) (qX (eU m) K')=true:=by
 have aJ:(λv:V=>dM K v.name)=λv=>dM K' v.name:=funext λv=>V5 c v.name;have T:∀ts:List Tm,(∀t∈ts,t∈m.bR\/t∈m.bT\/t∈m.trans\/t∈m.bW)->gV hK ((ts.map (fa m.aR)).filter λt=>mf K t) ((ts.map (fK m.aR)).filter λt=>jz K' t)=true:=λts me=>O2 (λt aM=>azH c (me t aM)) λt _=>agi m.aR t;have a6:gV sw (m.vars.filter λv=>dM K v.name) (m.vars.filter λv=>dM K' v.name)=true:=by have:=O2 (p:=sw) (f:=id) (g:=id) (u:=λv=>dM K v.name) (w:=λv=>dM K' v.name) (l:=m.vars) (λv _=>V5 c v.name) λv _=>azJ v;simpa using this
 have aA:gV oi ((m.next.map (na m.aR)).filter λd=>dM K d.name) ((m.next.map (o6 m.aR)).filter λd=>dM K' d.name)=true:=O2 (λd _=>V5 c d.name) λd _=>by simp only[oi,na,o6,xbi,xbw];exact agi m.aR d.e
 simp only[Eb,sx,qX,jZ,eU,a6,VW a6,aA,T m.bR λt aM=> .inl aM,T m.bT λt aM=> .inr (.inl aM),T m.trans λt aM=> .inr (.inr (.inl aM)),T m.bW λt aM=> .inr (.inr (.inr aM)),xbi,xbw,gV]
end
section
variable{m:aD}{n:Nat}(h:Ec m n)
include h
theorem azP{A0 xU:D}{l K K':List bo}(bC:(m9 m).2.2=0)(c:O0 m n A0 xU l K K'):H8 n [m.d,xU]=some (.a1 [(qX (eU m) K').d,J 0]):=by
 have bk:su m n:=⟨h.ok,AL.1 bC⟩;have V4:=h.ik;have ao:=Oc h.ok;rw[JK,bC]at ao;have hi:=afd (D8 bk h.eV) n (by omega);rw[<-V0]at hi;have f:=VV bk;have ak:=c.bs;have aj:=c.b;rw[<-V0]at aj;have aV:=fZ.vU (eU m);have so:((0:Int) !=0)=false:=rfl;have a8:ad (eU m).d 0=bl (eU m).vs:=rfl;have bP:ad (eU m).d 1=ng (eU m).qN (eU m).aO:=rfl;have b6:ad (eU m).d 2=az (eU m).i:=rfl;have cA:ad (eU m).d 3=az (eU m).bS:=rfl;have dC:ad (eU m).d 4=aQ (eU m).nx:=rfl;have eC:ad (eU m).d 5=az (eU m).t:=rfl;have eD:ad (eU m).d 6=az (eU m).f:=rfl;have eX:ad (eU m).d 7=iP (eU m).AY (eU m).eV:=rfl;have ga:D.agg [bl (eU m).vs,ng (eU m).qN (eU m).aO,az (eU m).i,az (eU m).bS,aQ (eU m).nx,az (eU m).t,az (eU m).f,iP (eU m).AY (eU m).eV]=(eU m).d:=rfl;have gb:∀l,bu (az l)=true:=λ_=>rfl;have JL:∀l,(az l).one=true:=λ_=>rfl;have JM:∀l,(bl l).one=true:=λ_=>rfl;have azQ:∀l,(aQ l).one=true:=λ_=>rfl;have k2:nT eM=true:=rfl;have cB:=OV (n:=n) (K:=K') (by omega) (by omega) _ f.ah;have dx:=OV (n:=n) (K:=K') (by omega) (by omega) _ f.xR;have g5:=OV (n:=n) (K:=K') (by omega) (by omega) _ f.aM;have pD:=OV (n:=n) (K:=K') (by omega) (by omega) _ f.bd;have azR:=λba b2 cK c9 c4 dy ee dS fF fY gJ hl gK ha jh iI iJ iK iL iM iN jU=>azj (n:=n) (K:=K') (by omega) (by omega) (eU m).vs f.a6 ba b2 cK c9 c4 dy ee dS fF fY gJ hl gK ha jh iI iJ iK iL iM iN jU;have azS:=λba b2 cK c9 c4 dy ee dS fh fF fY gJ gK ha jh iI iJ iK iL iM iN w=>azk (n:=n) (K:=K') (by omega) (by omega) (eU m).nx f.mP.1 ba b2 cK c9 c4 dy ee dS fh fF fY gJ gK ha jh iI iJ iK iL iM iN w
 have cO:∀l,D.ax 4 (aq (bl l))=bl l:=λ_=>rfl;have eg:∀l,D.ax 5 (aq (aQ l))=aQ l:=λ_=>rfl;have fin:D.a1 [D.agg [bl ((eU m).vs.filter λv=>dM K' v.name),eM,az ((eU m).i.filter λt=>jz K' t),az ((eU m).bS.filter λt=>jz K' t),aQ ((eU m).nx.filter λd=>dM K' d.name),az ((eU m).t.filter λt=>jz K' t),az ((eU m).f.filter λt=>jz K' t),eM],J 0]= .a1 [(qX (eU m) K').d,J 0]:=rfl;simp only[H8,abG,aD.agg,aD.qW,go_sem,ao,AZ,so,hi,aV,a8,bP,b6,cA,dC,eC,eD,eX,ga,aj];rw[show qD n [az (eU m).i,bx K']=some (az ((eU m).i.filter λt=>jz K' t))from cB,show qD n [az (eU m).bS,bx K']=some (az ((eU m).bS.filter λt=>jz K' t))from dx,show qD n [az (eU m).t,bx K']=some (az ((eU m).t.filter λt=>jz K' t))from g5,show qD n [az (eU m).f,bx K']=some (az ((eU m).f.filter λt=>jz K' t))from pD];simp only[go_sem,gb,JL,JM,azQ,azR,k2,azS,cO,eg,fin]
end
def azT{m:aD}{n:Nat}(hw:DV m)(h:Vl m)(aL:18446744073709551616<n):Ec m n:=⟨axp hw h aL,λs aH=>by have:=h.s s aH;omega,aL⟩
def O4{α:Type}(f:α->Nat):∀l:List α,∃S,∀x∈l,f x<=S
 |[]=>⟨0,by simp⟩|a::r=>by obtain⟨S,h⟩:=O4 f r;exact⟨S+f a,λx ag=>by rcases xak.1 ag with rfl|ag;omega;have:=h x ag;omega⟩
def azU(m:aD):∃N,∀n,N<=n->18446744073709551616<n/\On m n:=by
 obtain⟨A,eh⟩:=O4 (λd:bc=>d.e.bm) m.aR;obtain⟨B,gL⟩:=O4 (λd:bc=>d.e.bm) m.next
 obtain⟨C,cf⟩:=O4 (λd:cw=>d.f.bm) m.bG;exact⟨18446744073709551617+30+A+B+C+Tm.ds m.bR+Tm.ds m.bT+Tm.ds m.trans+Tm.ds m.bW,λn aL=>⟨by omega,by omega,by omega,by omega,by omega,λd aA=>by have:=eh d aA;omega,λd aA=>by have:=gL d aA;omega,λd aA=>by have:=cf d aA;omega⟩⟩
theorem azV{e:Tm}(h:oZ e=true):db 3 e []=[]:=by simp only[oZ,xal,xbz,xaC]at h;obtain⟨ab,af,aw,a5⟩:=h;rw[tP,xaF a5,ab];rfl
mutual
def p7:Fm->List ByteArray
 | .mk _ e _ ks=>db 3 e []++nH ks
def nH:List Fm->List ByteArray
 |[]=>[]|t::r=>p7 t++nH r
end
theorem JN(t:Fm):p7 t=db 3 t.e []++nH t.aT:=by cases t;rw[p7];rfl
def oj(l:List ByteArray)(xs:List ByteArray):List ByteArray:=xs.foldl (λl s=>gr s l) l
mutual
def pb:Fm->List ByteArray->List ByteArray
 | .mk o e _ ks,l=>p8 ks (if o=1 then oj l (db 3 e [])else l)
def p8:List Fm->List ByteArray->List ByteArray
 |[],l=>l|t::r,l=>p8 r (pb t l)
end
theorem azW(t:Fm)(l:List ByteArray):pb t l=p8 t.aT (if t.op=1 then oj l (db 3 t.e [])else l):=by cases t;rw[pb];rfl
def O5:∀(xs:List ByteArray){l:List ByteArray},fN l->fN (oj l xs)
 |[],l,h=>h|x::xs,l,h=>O5 xs (w1 h)
def agj{y:ByteArray}:∀(xs:List ByteArray){l:List ByteArray},fN l->(y∈oj l xs↔y∈xs\/y∈l)
 |[],l,h=>by simp[oj]|x::xs,l,h=>by have:=agj (y:=y) xs (w1 (s:=x) h);have e:oj l (x::xs)=oj (gr x l) xs:=rfl;rw[e,this,axD h,xak];grind
def V6:∀(xs:List ByteArray)(l:List ByteArray),(oj l xs).length<=l.length+xs.length
 |[],l=>by simp[oj]|x::xs,l=>by have:=V6 xs (gr x l);have af:=yV (s:=x) l;have e:oj l (x::xs)=oj (gr x l) xs:=rfl;rw[e,xao];omega
mutual
def O6:∀(t:Fm){l:List ByteArray},fN l->fN (pb t l)
 | .mk o e b ks,l,h=>by
  rw[pb];refine agk ks ?_;split;.exact O5 _ h
  exact h
def agk:∀(ks:List Fm){l:List ByteArray},fN l->fN (p8 ks l)
 |[],l,h=>h|t::r,l,h=>by rw[p8];exact agk r (O6 t h)
end
mutual
def agl{y:ByteArray}:∀(t:Fm){l:List ByteArray},fN l->nD t->(y∈pb t l↔y∈p7 t\/y∈l)
 | .mk o e b ks,l,h,a6=>by
  rw[pb,p7];have ak:∀k∈ks,nD k:=λk ak=>a6.gz (t:= .mk o e b ks) ak;by_cases aG:o=1
  .rw[xad aG];have:=V7 (y:=y) ks (O5 (db 3 e []) h) ak;rw[this,agj _ h,xar];grind
  rw[xaa aG];have:=V7 (y:=y) ks h ak;have aj:=azV (nD.bare a6 aG);simp only[Fm.e]at aj;rw[this,aj];simp
def V7{y:ByteArray}:∀(ks:List Fm){l:List ByteArray},fN l->(∀k∈ks,nD k)->(y∈p8 ks l↔y∈nH ks\/y∈l)
 |[],l,h,_=>by simp[p8,nH]|t::r,l,h,a6=>by rw[p8,nH];have ab:=V7 (y:=y) r (O6 t h) (λk ak=>a6 k (xbR _ ak));have af:=agl (y:=y) t h (a6 t (by simp));rw[ab,af,xar];grind
end
def agm:∀(l:List ByteArray)(x y:ByteArray),dW (l++[x,y])=if x=y then dW (l++[x])else dW (l++[x])++[y]
 |[],x,y=>by simp only[xaG,dW];split<;>simp_all|[a],x,y=>by simp only[xbN,xaG,dW];by_cases ab:a=x<;>by_cases af:x=y<;>simp[ab,af]|a::b::r,x,y=>by have ih:=agm (b::r) x y;simp only[xbN,dW]at ih⊢;rw[ih];by_cases ab:a=b<;>by_cases af:x=y<;>simp[ab,af]
theorem O7{L:List ByteArray}{k:Nat}(h:k<L.length):L.take (k+1)=L.take k++[gt L k]:=by rw[xch,DY h];rfl
def V8{L:List ByteArray}{k:Nat}(h:1<=k)(ak:k<L.length):dW (L.take (k+1))=if gt L k=gt L (k-1)then dW (L.take k)else dW (L.take k)++[gt L k]:=by
 obtain⟨m,rfl⟩:∃m,k=m+1:=⟨k-1,by omega⟩;have aJ:=O7 ak;have aZ:=O7 (L:=L) (k:=m) (by omega);have bN:L.take m++[gt L m]++[gt L (m+1)]=L.take m++[gt L m,gt L (m+1)]:=by simp
 rw[aJ,aZ,bN,agm,Nat.add_sub_cancel];by_cases h:gt L m=gt L (m+1);.rw[xad h,xad h.symm]
 rw[xaa h,xaa (λg=>h g.symm)]
def O8:∀(l:List ByteArray),(dW l).length<=l.length
 |[]=>by simp[dW]|[a]=>by simp[dW]
 |a::b::r=>by
  have:=O8 (b::r);simp only[dW];split;.simp only[xao]at this⊢;omega
  simp only[xao]at this⊢;omega
theorem V9{l:List ByteArray}(h:l.length<2):dW l=l:=by match l,h with|[],_=>rfl|[a],_=>rfl
def O9(k:Nat):jq (J (k:Int))=k:=by simp[jq,J]
def agn{M:List ByteArray}{i q:Nat}{x:ByteArray}(ah:i<M.length):gt (M.set i x) q=if q=i then x else gt M q:=by
 simp only[gt,xaM,List.getElem?_set];by_cases h:i=q;.subst h;simp[ah]
 rw[xaa h,xaa (λg=>h g.symm)]
def azX(n:Nat)(L:List ByteArray)(k:Nat)(ab:1<=k)(ak:k<L.length)(bO:L.length<1000000000)(aL:L.length+1<n)(he:gt L k=gt L (k-1))(aA:dW (L.take k)=L.take k): ∃M,bp (Dv n) n [J (k:Int),J (k:Int),J ((L.length-k:Nat):Int),J 1,cq L]=some (.inl [J ((dW L).length:Int),cq M])/\M.length=L.length/\M.take (dW L).length=dW L:=by
 have key:=ky (f:=Dv n) (S:=Nat×Nat×List ByteArray) (λs=>[J (s.1:Int),J (k:Int),J ((L.length-k:Nat):Int),J (s.2.1:Int),cq s.2.2]) (λs=>L.length-s.2.1) (λs=>1<=s.2.1/\k+s.2.1<=L.length/\s.1+1<=k+s.2.1/\s.2.2.length=L.length/\(∀q,s.1<=q->gt s.2.2 q=gt L q)/\s.2.2.take s.1=dW (L.take (k+s.2.1))) (λr=>∃M,r= .inl [J ((dW L).length:Int),cq M]/\M.length=L.length/\M.take (dW L).length=dW L) ?_ n (k,1,L) ⟨xan _,by simp only;omega,by simp only;omega,rfl,λ_ _=>rfl,by simp only;rw[V8 ab ak,xad he,aA]⟩ (by simp only;omega);.obtain⟨r,aV,M,rfl,a2,bb⟩:=key;exact⟨M,aV,a2,bb⟩
 rintro⟨i,j,M⟩ ⟨aV,a2,bb,cS,hr,r8⟩;simp only at aV a2 bb cS hr r8⊢;by_cases aN:j<L.length-k
 .left;have ag:k+j<M.length:=by omega
  have aP:k+(j-1)<M.length:=by omega
  have ah:i<M.length:=by omega
  have k2:b9 (L.length-k) (J (j:Int))=some j:=c3 aN;have qh:b9 (L.length-k) (J ((j-1:Nat):Int))=some (j-1):=c3 (by omega);have aJ:ai false .sub (J (j:Int)) (J 1)=some (J ((j-1:Nat):Int)):=kd (by omega) (by omega);have aZ:ai false .add (J (j:Int)) (J 1)=some (J ((j+1:Nat):Int)):=b1 (by omega);have bN:ai false .add (J (i:Int)) (J 1)=some (J ((i+1:Nat):Int)):=b1 (by omega);have ago:gt M (k+j)=gt L (k+j):=hr _ (by omega);have agp:gt M (k+(j-1))=gt L (k+(j-1)):=hr _ (by omega);have Wa:=V8 (L:=L) (k:=k+j) (by omega) (by omega);have Fp:k+j-1=k+(j-1):=by omega
  rw[Fp]at Wa;by_cases aH:gt L (k+j)=gt L (k+(j-1))
  .refine⟨(i,j+1,M),?_,⟨by simp only;omega,by simp only;omega,by simp only;omega,cS,hr,?_⟩,by simp only;omega⟩
   .have aj:(!(decide (gt L (k+j)=gt L (k+(j-1)))))=false:=by simp[aH]
    simp only[Dv,go_sem,O9,yT ((j:Int)<((L.length-k:Nat):Int)),k2,qh,aJ,aZ,cM aC ag,cM aC aP,eu,ago,agp,aj,aH,xbi]
   rw[r8,<-xbc,Wa,xad aH]
  refine⟨(i+1,j+1,M.set i (gt L (k+j))),?_,⟨by simp only;omega,by simp only;omega,by simp only;omega,by simp only[xaZ];exact cS,?_,?_⟩,by simp only;omega⟩
  .have aj:(!(decide (gt L (k+j)=gt L (k+(j-1)))))=true:=by simp[aH]
   simp only[Dv,go_sem,O9,yT ((j:Int)<((L.length-k:Nat):Int)),k2,qh,aJ,aZ,bN,cM aC ag,cM aC aP,cM aC ah,c3 ah,fR,eu,ago,agp,aj,xaE aH,mJ,mI]
  .intro q bj;simp only at bj⊢;rw[agn ah,xaa (by omega)];exact hr q (by omega)
  simp only;rw[O7 (by simpa using ah),agn ah,xad rfl,List.take_set_of_le (xan i),r8,<-xbc,Wa,xaa aH]
 right;have Fp:k+j=L.length:=by omega
 rw[Fp,xbH]at r8;have cd:i=(dW L).length:=by rw[<-r8,xbp];omega
 refine⟨_,?_,M,rfl,cS,by rw[<-cd];exact r8⟩;simp only[Dv,go_sem,O9,yF ((j:Int)<((L.length-k:Nat):Int)),cd]
def azY(n:Nat)(L:List ByteArray)(bO:L.length<1000000000)(aL:L.length+2<n): ∃M,Ah n [cq L]=some [J 0,J ((dW L).length:Int),cq M]/\M.take (dW L).length=dW L/\(dW L).length<=M.length:=by
 by_cases af:L.length<2;.refine⟨L,?_,by rw[V9 af,xbH],O8 L⟩;simp only[Ah,go_sem,fR,yT ((L.length:Int)<2),V9 af];rfl
 have key:=ky (f:=Ij n) (S:=Nat) (λk=>[J (k:Int),cq L]) (λk=>L.length-k) (λk=>1<=k/\k<=L.length/\dW (L.take k)=L.take k) (λr=>∃M,(r= .inl [cq M]/\dW L=M\/r= .inr [J 0,J ((dW L).length:Int),cq M])/\M.take (dW L).length=dW L/\(dW L).length<=M.length) ?_ n 1 ⟨xan _,by omega,V9 (by simp only[xbp];omega)⟩ (by omega)
 .obtain⟨r,aV,M,av,a2,bb⟩:=key;refine⟨M,?_,a2,bb⟩;have aJ:(J ((1:Nat):Int))=J 1:=rfl;rw[aJ]at aV;rcases av with⟨rfl,rfl⟩|rfl
  .simp only[Ah,go_sem,fR,yF ((L.length:Int)<2),aV];rfl
  simp only[Ah,go_sem,fR,yF ((L.length:Int)<2),aV]
 rintro k ⟨aV,a2,bb⟩;by_cases ak:k<L.length
 .have ag:k-1<L.length:=by omega
  have aJ:ai false .sub (J (k:Int)) (J 1)=some (J ((k-1:Nat):Int)):=kd (by omega) (by omega);have aZ:ai false .add (J (k:Int)) (J 1)=some (J ((k+1:Nat):Int)):=b1 (by omega);by_cases aH:gt L k=gt L (k-1)
  .right;obtain⟨M,gx,kk,r4⟩:=azX n L k aV ak bO (by omega) aH bb;have ar:=O8 L;have bP:ly L.length (some (J (k:Int))) none=some (k,L.length-k):=Ng (by omega);have b6:ly M.length (some (J ((dW L).length:Int))) none=some ((dW L).length,M.length-(dW L).length):=Ng (by omega);obtain⟨Z,Wb⟩:∃Z:List ByteArray,Z=M.take (dW L).length++List.replicate (M.length-(dW L).length) (⟨#[]⟩:ByteArray)++M.drop ((dW L).length+(M.length-(dW L).length)):=⟨_,rfl⟩;have azZ:(dW L).length<=Z.length:=by
    rw[Wb];simp only[xaK,xbp,List.length_replicate,xcg];omega
   refine⟨_,?_,Z,.inr rfl,?_,azZ⟩
   .have VR:(lM aC M).take (dW L).length++List.replicate (M.length-(dW L).length) [aC ⟨#[]⟩]++(lM aC M).drop ((dW L).length+(M.length-(dW L).length))=lM aC Z:=by
     rw[Wb];simp only[lM,List.map_take,List.map_drop,List.map_append,List.map_replicate]
    have cA:ly Z.length none (some (J ((dW L).length:Int)))=some (0,(dW L).length):=by
     have q:(0:Int)<=((dW L).length:Int):=by omega
     simp only[ly,rj,J,xad q,Int.toNat_natCast];rw[xad ⟨by omega,by omega⟩];rfl
    simp only[Ij,go_sem,fR,yT ((k:Int)<(L.length:Int)),c3 ak,c3 ag,cM aC ak,cM aC ag,eu,aJ,aH,xbi,bP,gx,b6,yT ((dW L).length+(M.length-(dW L).length)<=M.length),VR,cA];rfl
   rw[Wb,xaO,r4,List.take_left' rfl]
  left;refine⟨k+1,?_,⟨by omega,ak,?_⟩,by omega⟩;.simp only[Ij,go_sem,fR,yT ((k:Int)<(L.length:Int)),c3 ak,c3 ag,cM aC ak,cM aC ag,eu,aJ,aZ,xaE aH]
  rw[V8 aV ak,xaa aH,bb,O7 ak]
 right;have oH:k=L.length:=by omega
 rw[oH,xbH]at bb;refine⟨_,?_,L,.inl ⟨rfl,bb⟩,by rw[bb,xbH],by rw[bb];omega⟩;simp only[Ij,go_sem,fR,yF ((k:Int)<(L.length:Int))]
mutual
def Wc:∀(t:Fm),(p7 t).length<=t.bm
 | .mk o e b ks=>by have ab:=(m5 3 e [] trivial).2;have af:=agq ks;simp only[xaq]at ab;simp only[p7,xaK,Fm.bm];omega
def agq:∀(l:List Fm),(nH l).length<=Fm.ds l
 |[]=>by simp[nH]|t::r=>by have ab:=Wc t;have af:=agq r;simp only[nH,xaK,Fm.ds];omega
end
mutual
def agr:∀(t:Fm)(l:List ByteArray),(pb t l).length<=l.length+t.bm
 | .mk o e b ks,l=>by
  have ab:=(m5 3 e [] trivial).2;simp only[xaq]at ab;have aw:=V6 (db 3 e []) l;simp only[pb,Fm.bm];split
  .have af:=Wd ks (oj l (db 3 e []));omega
  have af:=Wd ks l;omega
def Wd:∀(ks:List Fm)(l:List ByteArray),(p8 ks l).length<=l.length+Fm.ds ks
 |[],l=>by simp[p8]|t::r,l=>by have ab:=agr t l;have af:=Wd r (pb t l);simp only[p8,Fm.ds];omega
end
def ags:∀(n:Nat)(t:Fm)(deep:Int)(l:List ByteArray),2*t.bm+40<n->t.cm->l.length+t.bm<100000000->0<=deep->deep+t.bm<1000000000->vv n [t.d,J deep,bx l]=some [ay true,bx (l++p7 t)]
 |0,t,_,_,h,_,_,_,_=>absurd h (xay _)
 |n+1,t,deep,l,aL,bk,aj,ab,af=>by
  have b5:=bk.len;have Dz:=t.j6;have ak:=t.B5;have cJ:∀l,D.ax 1 (aq (bx l))=bx l:=λ_=>rfl;have m7:=(m5 3 t.e [] trivial).2;simp only[xaq]at m7;have ar:=dD (f:=M5 (vv n) n) t.aT (λi (s:List ByteArray)=>[J deep,cl 6 t.nl (Fm.rows t.aT),J t.aT.length,J (i:Int),bx s]) (λr s=>(.inl [bx (s++nH r)]:List D⊕List D)) (λi s=>s.length+Fm.ds (t.aT.drop i)<=l.length+t.e.bm+Fm.ds t.aT) (λs _=>by simp[M5,nH]) ?_ n 0 (l++db 3 t.e []) (by simp;omega) (by omega) (xai _)
  .have bJ:(J ((0:Nat):Int))=J 0:=rfl;rw[bJ]at ar;simp only[xam]at ar;have az0:Ie n [t.d,J deep,bx l]=some [ay true,bx (l++db 3 t.e [])]:=by
    have cc:=Ix n t.e (by omega) bk.e (by omega);have dB:c1 (l.length+(db 3 t.e []).length) 16=true:=fU (by omega) (by omega);have e0:kn (bx (db 3 t.e []))=some (1,(db 3 t.e []).map λs=>[aC s]):=rfl;simp[Ie,MZ,abH,cc,e0,bx,dB]
   rw[JN];simp only[vv,TM,go_sem,cJ,az0,ar,xaO]
  intro i a s aF ah aH;have hm:=xac aF;have bC:=Fm.je hm;have aA:Fm.ds (t.aT.drop i)=1+a.bm+Fm.ds (t.aT.drop (i+1)):=by obtain⟨bA,bB⟩:=xae.1 aF;rw[xaW bA,bB];rfl
  have av:=ags n a (deep+1) s (by omega) (bk.gz hm) (by omega) (by omega) (by omega);have bj:=Wc a;left;refine⟨s++p7 a,?_,by simp[nH],by simp;omega⟩;simp only[M5,go_sem,yT ((i:Int)<(t.aT.length:Int)),Fm.gX aF,lC (bt:=false) (i:=deep) (by omega) (by omega),cJ,av,b1 (bt:=false) (i:=i) (by omega)]
def az1(n:Nat)(f:Fm)(aL:4*f.bm+200<n)(bk:f.cm)(aj:f.bm<50000000):∃l,xu n [f.d]=some (if hT f=0 then bx l else eM)/\(hT f=0->fN l/\(∀y,y∈l↔y∈p7 f)/\l.length<=f.bm):=by
 have ao:=Nw n f (by omega) bk (by omega);have b8:=ags n f 1 [] (by omega) bk (by simp;omega) (by omega) (by omega);have bJ:bx []=D.ax 1 []:=rfl;have gb:bu (D.val (.func (.func uY) #[] #[]))=true:=rfl;have cJ:∀l,D.ax 1 (aq (bx l))=cq l:=λ_=>rfl;rw[bJ,xaG]at b8;have ar:=Wc f;obtain⟨L,s1,s2,gF⟩:=afD n (p7 f) (by omega) (by omega);have bO:=s2.len;obtain⟨M,bP,b6,cA⟩:=azY n L (by omega) (by omega);refine⟨dW L,?_,?_⟩
 .by_cases h:hT f=0
  .have bC:(hT f !=0)=false:=by simp[h]
   have nW:jq (J 0)=0:=rfl;have aA:(decide (jq (J 0)+(dW L).length<=M.length))=true:=by rw[nW];exact xat (by omega)
   have aM:(((lM aC M).drop 0).take (dW L).length)=lM aC (dW L):=by rw[xam,lM,<-List.map_take,b6];rfl
   simp only[xu,TN,go_sem,ao,bC,M6,gb,b8,cJ,s1,bP,O9,nW,fR,aM,xad h,yT (0+(dW L).length<=M.length)];rfl
  have bC:(hT f !=0)=true:=by simp[h]
  simp only[xu,TN,go_sem,ao,bC,xaa h]
 intro h;have hw:Jm L:=afp (by rw[bO];exact gF);refine⟨Vp hw,λy=>by rw[Ov,s2.mem],?_⟩;have:=O8 L;omega
def az2(n:Nat)(s:ByteArray)(l:List ByteArray)(aH:fN l)(aL:l.length+5<n)(aj:l.length<100000000):Io n [eG true l,aC s]=some (eG true (gr s l)):=by
 have fp:=congrArg List.length (afF s l);rw[xaK]at fp;have j0:=dD (f:=Il n) l (λi (o:List ByteArray)=>[eG true l,aC s,J (i:Int),bx o]) (λr o=>(.inl [eG true l,aC s,J ((l.length-(mc s r).length:Nat):Int),bx (o++mb s r)]:List D⊕D)) (λi o=>o.length=i) (λo _=>by simp only[Il,go_sem,ic,yF ((l.length:Int)<(l.length:Int)),eb,dQ,mc,mb,List.dropWhile_nil,List.takeWhile_nil,xaq,Nat.sub_zero,xaD];rfl) ?_ n 0 [] rfl (by omega) (xai _)
 .have kF:=dD (f:=Im n) l (λi (o:List ByteArray)=>[eG true l,aC s,J (i:Int),bx o]) (λr o=>(.inl [bx (o++r.filter λx=>!decide (x=s))]:List D⊕D)) (λi o=>o.length<=i+1) (λo _=>by simp only[Im,go_sem,ic,yF ((l.length:Int)<(l.length:Int)),xbS,xaD];rfl) ?_ n (l.length-(mc s l).length) (mb s l++[s]) (by simp;omega) (by omega) (by omega)
  .have bJ:(J ((0:Nat):Int))=J 0:=rfl;have aJ:bx []= .ax 1 []:=rfl;rw[bJ,aJ]at j0;simp only[xam,xaG]at j0;have aA:l.drop (l.length-(mc s l).length)=mc s l:=by
    have:l.length-(mc s l).length=(mb s l).length:=by omega
    rw[this];have q:=List.drop_left' (l₁:=mb s l) (l₂:=mc s l) rfl
    rwa [afF]at q
   rw[aA,afE aH]at kF;have dB:c1 ((mb s l).length+1) 16=true:=fU (by omega) (by omega);have es:D.ax 1 (aq (bx (mb s l))++[[aC s]])=bx (mb s l++[s]):=Ap _ _;have cJ:∀l,D.ax 1 (aq (bx l))=bx l:=λ_=>rfl;rw[adh];simp only[Io,abN,go_sem,j0,Ua,xao,xaq,dB,es,kF,cJ]
  intro i a o aF ah aG;left;have dB:c1 (o.length+1) 16=true:=fU (by omega) (by omega);have cJ:∀l,D.ax 1 (aq (bx l))=bx l:=λ_=>rfl;by_cases h:a=s
  .refine⟨o,?_,by simp[h],by omega⟩;have aj:(!decide (a=s))=false:=by simp[h]
   simp only[Im,go_sem,ic,yT ((i:Int)<(l.length:Int)),mF aF,eu,aj,cJ,b1 (bt:=false) (i:=i) (by omega),h,xbi]
  refine⟨o++[a],?_,by simp[h],by simp;omega⟩;simp only[Im,go_sem,ic,yT ((i:Int)<(l.length:Int)),mF aF,eu,xaE h,cJ,Ua,xao,xaq,dB,Ap,b1 (bt:=false) (i:=i) (by omega)]
 intro i a o aF ah aG;have dB:c1 (o.length+1) 16=true:=fU (by omega) (by omega);have cJ:∀l,D.ax 1 (aq (bx l))=bx l:=λ_=>rfl;cases aj:blt a s with
 |true=>left;refine⟨o++[a],?_,by simp[mb,mc,aj],by simp[aG]⟩;simp only[Il,go_sem,ic,yT ((i:Int)<(l.length:Int)),eb,dQ,mF aF,eu,aj,cJ,Ua,xao,xaq,dB,Ap,b1 (bt:=false) (i:=i) (by omega)]
 |false=>
  right;have aA:(a::l.drop (i+1)).length=l.length-i:=by simp;omega
  have aJ:l.length-(mc s (a::l.drop (i+1))).length=i:=by
   have:mc s (a::l.drop (i+1))=a::l.drop (i+1):=by simp[mc,aj]
   rw[this,aA];omega
  have aZ:mb s (a::l.drop (i+1))=[]:=by simp[mb,aj]
  rw[aJ,aZ,xaD];simp only[Il,go_sem,ic,yT ((i:Int)<(l.length:Int)),eb,dQ,mF aF,eu,aj,cJ]
def az3(n:Nat)(X:List D)(kr xs:List ByteArray)(iU:fN kr)(aL:kr.length+xs.length+10<n)(aj:kr.length+xs.length<100000000)(r:List D->Option D) (hf cW kR vI qL Ay:D):bp (Ip r n) n [eG true kr,eG true xs,J 0,hf,cW,kR,vI,qL,Ay]=some (.inl [eG true (oj kr xs),hf,cW,kR,vI,qL,Ay]):=by
 have ar:=dD (f:=Ip r n) xs (λi (p:List ByteArray)=>[eG true p,eG true xs,J (i:Int),hf,cW,kR,vI,qL,Ay]) (λr p=>(.inl [eG true (oj p r),hf,cW,kR,vI,qL,Ay]:List D⊕(List D⊕D))) (λi p=>fN p/\p.length<=kr.length+i) (λp _=>by simp only[Ip,go_sem,ic,yF ((xs.length:Int)<(xs.length:Int))];rfl) ?_ n 0 kr ⟨iU,by omega⟩ (by omega) (xai _);.have bJ:(J ((0:Nat):Int))=J 0:=rfl;rw[bJ]at ar;simpa only[xam]using ar
 intro i a p aF ah aU;left;have av:=az2 n a p aU.1 (by omega) (by omega);have bj:=yV (s:=a) p;refine⟨gr a p,?_,rfl,w1 aU.1,by omega⟩;simp only[Ip,go_sem,ic,yT ((i:Int)<(xs.length:Int)),mF aF,eu,av,b1 (bt:=false) (i:=i) (by omega)]
def agt:∀(n:Nat)(t:Fm)(l:List ByteArray),2*t.bm+l.length+40<n->t.cm->fN l->l.length+t.bm<100000000->r3 n [t.d,eG true l]=some (eG true (pb t l))
 |0,t,_,h,_,_,_=>absurd h (xay _)
 |n+1,t,l,aL,bk,aH,aj=>by
  have b5:=bk.len;have Dz:=t.j6;have ak:=t.B5;have m7:=(m5 3 t.e [] trivial).2;simp only[xaq]at m7;show Iq (r3 n) n t.d (eG true l)=_;rw[azW];generalize iU:(if t.op=1 then oj l (db 3 t.e [])else l)=kr;have ab:fN kr:=by rw[<-iU];split;exact O5 _ aH;exact aH
  have af:kr.length<=l.length+t.e.bm:=by rw[<-iU];split;have:=V6 (db 3 t.e []) l;omega;omega
  have ar:=dD (f:=M7 (r3 n) n) t.aT (λi (p:List ByteArray)=>[eG true p,J (i:Int),J t.op,J t.e.op,J t.e.num,aC t.e.name,cl 4 t.e.nl (Tm.rows t.e.aT),cl 6 t.nl (Fm.rows t.aT)]) (λr p=>(.inl [eG true (p8 r p)]:List D⊕D)) (λi p=>fN p/\p.length+Fm.ds (t.aT.drop i)<=kr.length+Fm.ds t.aT) (λp _=>by simp only[M7,go_sem,yF ((t.aT.length:Int)<(t.aT.length:Int))];rfl) ?_ n 0 kr ⟨ab,by simp⟩ (by omega) (xai _)
  .have bJ:(J ((0:Nat):Int))=J 0:=rfl;rw[bJ]at ar;simp only[xam]at ar;by_cases aG:t.op=1
   .rw[xad aG]at iU;have cc:=Iw n t.e (by omega) bk.e (by omega);have a5:=az3 n [] l (db 3 t.e []) aH (by omega) (by omega) (r3 n) (J t.op) (J t.e.op) (J t.e.num) (aC t.e.name) (cl 4 t.e.nl (Tm.rows t.e.aT)) (cl 6 t.nl (Fm.rows t.aT));rw[iU]at a5;have pg:(t.op==1)=true:=by simp[aG]
    simp only[Iq,go_sem,pg,cc,a5,ar]
   rw[xaa aG]at iU;subst iU;have pg:(t.op==1)=false:=by simp[aG]
   simp only[Iq,go_sem,pg,ar]
  intro i a p aF ah aU;have hm:=xac aF;have bC:=Fm.je hm;have aA:Fm.ds (t.aT.drop i)=1+a.bm+Fm.ds (t.aT.drop (i+1)):=by obtain⟨bA,bB⟩:=xae.1 aF;rw[xaW bA,bB];rfl
  have av:=agt n a p (by omega) (bk.gz hm) aU.1 (by omega);have Nh:=agr a p;left;refine⟨pb a p,?_,by rw[p8],O6 a aU.1,by omega⟩;simp only[M7,go_sem,yT ((i:Int)<(t.aT.length:Int)),Fm.gX aF,av,b1 (bt:=false) (i:=i) (by omega)]
def az4(n:Nat)(f:Fm)(aL:2*f.bm+60<n)(bk:f.cm)(aj:f.bm<100000000):xv n [f.d]=some (if hT f=0 then eG true (pb f [])else eM):=by
 have ao:=Nv n f (by omega) bk aj;have av:=agt n f [] (by simp;omega) bk trivial (by simp;omega);have bJ:eG true []=eM:=rfl;rw[bJ]at av;by_cases h:hT f=0
 .have bC:(hT f !=0)=false:=by simp[h]
  simp only[xv,TO,go_sem,ao,bC,xad h];exact(congrArg (λx=>aa x λcx=>some cx) av)
 have bC:(hT f !=0)=true:=by simp[h]
 simp only[xv,TO,go_sem,ao,bC,xaa h]
def agu{f:Tm->Tm}(bd:pW f)(t:Tm):sb (f t)=sb t:=by unfold sb;rw[aex bd,JF bd]
def az5{a b:Tm}(aF:oZ a=true)(aj:oZ b=true):hK a b=true/\∀o l,db o a l=db o b l:=by
 simp only[oZ,xal,xbz,xaC]at aF aj;obtain⟨an,ba,b2,cK⟩:=aF;obtain⟨dP,gw,h7,l7⟩:=aj;have Js:=xaF cK;have AU:=xaF l7;refine⟨?_,λo l=>?_⟩
 .rw[DB,an,ba,b2,dP,gw,h7,Js,AU];simp[n7]
 rw[tP,tP o b,an,b2,dP,h7,Js,AU]
structure We(g h:Fm):Prop where
 c:∀d k,h3 g d k=h3 h d k
 s:vE g h=true
 n:p7 g=p7 h
def agv:∀(A B:List Fm),A.length=B.length->(∀(j:Nat)(a b:Fm),A[j]?=some a->B[j]?=some b->We a b)->(∀d k,jQ A d k=jQ B d k)/\tS A B=true/\nH A=nH B
 |[],[],_,_=>⟨λ_ _=>rfl,rfl,rfl⟩|[],_::_,h,_=>by simp at h|_::_,[],h,_=>by simp at h
 |a::A,b::B,h,H=>by
  have au:=H 0 a b rfl rfl;obtain⟨i1,i2,i3⟩:=agv A B (by simpa using h) λj x y ag aP=>H (j+1) x y (by simpa using ag) (by simpa using aP);refine⟨λd k=>?_,?_,?_⟩;.rw[jQ,jQ,au.c,i1]
  .rw[tS,au.s,i2];rfl
  rw[nH,nH,au.n,i3]
def agw{l:List bc}(f:Fm):∀g h,p1 l jP f g->p1 l gI f h->We g h:=by
 refine Fm.ind (P:=λf=>∀g h,p1 l jP f g->p1 l gI f h->We g h) ?_ f;intro f ih g h b8 bI;cases b8 with
 |leaf _ _ an ba b2 cK c9 c4=>
  cases bI with
  |leaf _ _ dP gw h7 l7 o3 o4=>
   have he:kb g=kb h:=by
    unfold kb;rw[ba,gw,b2,h7,agu Aw,agu Ax,c4,o4];have cB:¬((1:Int)≠1):=by decide
    simp only[cB,false_and,or_false]
   refine⟨λd k=>?_,?_,?_⟩;.rw[vD,vD h,he,c4,o4]
   .rw[Ny,ba,gw,b2,h7,agh Aw Ax,c4,o4];rfl
   rw[JN,JN h,b2,h7,JF Aw,JF Ax,c4,o4]
  |node _ _ dP=>exact absurd an dP
 |node _ _ an ba b2 cK c9=>
  cases bI with
  |leaf _ _ dP=>exact absurd dP an
  |node _ _ dP gw h7 l7 o3=>
   have ar:g.aT.length=h.aT.length:=cK.trans l7.symm;obtain⟨i1,i2,i3⟩:=agv g.aT h.aT ar λj a b aF aj=>by have aN:=(xae.1 aF).1;have ao:f.aT[j]?=some (f.aT[j]'(by omega)):=xab (by omega);exact ih _ (xaY (by omega)) a b (c9 j _ a ao aF) (o3 j _ b ao aj)
   obtain⟨aJ,aZ⟩:=az5 b2 h7;have he:kb g=kb h:=by unfold kb;have aV:¬(f.op=1/\sb g.e≠0):=λh=>an h.1;have a2:¬(f.op=1/\sb h.e≠0):=λh=>an h.1;rw[ba,gw,b2,h7,ar,xaa aV,xaa a2]
   refine⟨λd k=>?_,?_,?_⟩;.rw[vD,vD h,he,i1]
   .rw[Ny,ba,gw,aJ,i2,ar];simp
   rw[JN,JN h,aZ,i3]
def az6{l:List bc}{f:Fm}{p:Fm×Fm}(h:AI l f p)(n:Nat)(aL:200000000<n):∃(sn gq:Bool)(L:List bo),L.length<100000000/\xu n [p.1.d]=some (eG sn L)/\xv n [p.2.d]=some (eG gq L):=by
 have Pa:=agw f _ _ h.cW h.kR;have s1:=h.s1;have s2:=h.s2;have ao:hT p.1=hT p.2:=by unfold hT;rw[Pa.c]
 obtain⟨L,an,ba⟩:=az1 n p.1 (by omega) h.an (by omega);have dP:=az4 n p.2 (by omega) h.ba (by omega);by_cases au:hT p.1=0
 .obtain⟨bP,b6,cA⟩:=ba au;rw[xad au]at an;rw[ao]at au;rw[xad au]at dP;have e:L=pb p.2 []:=afo bP (O6 p.2 trivial) λx=>by rw[b6,agl p.2 (l:=[]) trivial ⟨1,0,au⟩,Pa.n];simp
  rw[<-ac9]at an;rw[<-e]at dP;exact⟨false,true,L,by omega,an,dP⟩
 rw[xaa au]at an;rw[ao]at au;rw[xaa au]at dP;exact⟨true,true,[],by simp,an,dP⟩
def Ed(m:fZ)(s:cw):fZ:=⟨m.vs,m.qN,m.aO,m.i,m.bS,m.nx,m.t,m.f,false,[s]⟩
theorem agx(m:fZ)(s:cw):(Ed m s).d=D.agg [ad m.d 0,ad m.d 1,ad m.d 2,ad m.d 3,ad m.d 4,ad m.d 5,ad m.d 6,D.ax 7 [[ad s.d 0,ad s.d 1,ad s.d 2,ad s.d 3,ad s.d 4,ad s.d 5,ad s.d 6]]]:=rfl
theorem fZ.agy(m:fZ):bu (ad m.d 0)=true/\bu (ad m.d 1)=true/\bu (ad m.d 2)=true/\bu (ad m.d 3)=true/\bu (ad m.d 4)=true/\bu (ad m.d 5)=true/\bu (ad m.d 6)=true:=⟨rfl,OY m.qN m.aO,rfl,rfl,rfl,rfl,rfl⟩
section
variable{m:aD}{n:Nat}(h:Ec m n)
include h
theorem az7(bC:(m9 m).2.2=0){i:Nat}{s:cw}(ah:m.bG[i]?=some s):∃a b:fZ,uh a/\uh b/\Eb a b=true/\tN n [m.d,J (i:Int)]=some (.a1 [a.d,J 0])/\tO n [m.d,J (i:Int)]=some (.a1 [b.d,J 0]):=by
 have bk:su m n:=⟨h.ok,AL.1 bC⟩;have V4:=h.ik;have A1:=(D8 bk h.eV).s s (xac ah);obtain⟨sn,gq,L,kr,j0,kF⟩:=az6 A1 n (by omega);obtain⟨K,K',c⟩:=azF h bC sn gq L kr;have cd:=(xae.1 ah).1;have ak:=c.k;have yG:=azM h bC;have dB:=azN h bC;refine⟨Ed (sx (jZ m) K) (lL m.aR s),Ed (qX (eU m) K') (nb m.aR s),?_,?_,?_,?_,?_⟩
 .have q:=azK yG K;exact⟨q.v,q.d,q.i,q.bS,q.n,q.t,q.f,⟨by simp[Ed],λx ag=>by rw[List.mem_singleton.1 ag];exact⟨A1.an,by have:=A1.s1;simp only[lL];omega⟩⟩⟩
 .have q:=azL dB K';exact⟨q.v,q.d,q.i,q.bS,q.n,q.t,q.f,⟨by simp[Ed],λx ag=>by rw[List.mem_singleton.1 ag];exact⟨A1.ba,by have:=A1.s2;simp only[nb];omega⟩⟩⟩
 .have q:=azO h bC c;have Pa:=agw s.f _ _ A1.cW A1.kR;have YB:qV (lL m.aR s) (nb m.aR s)=true:=by simp only[qV,lL,nb,Pa.s,xbi,xbw]
  simp only[Eb,xal,xaC]at q⊢;obtain⟨bA,bB,cz,ey,fk⟩:=q;exact⟨bA,rfl,cz,⟨by simp only[Ed,gV,YB,xbo],fk⟩⟩
 .have hi:=Ex h;rw[xad bC,<-VZ]at hi;have ao:tD n [(jZ m).d,eG sn L]=some (sx (jZ m) K).d:=ay4 (VU bk) (dd:=eM) rfl (m.bG.map (lL m.aR)) n (by omega) _ c.a (by omega);have aV:=fZ.vU (jZ m);have a2:=fZ.vU (sx (jZ m) K);obtain⟨dL,gb,kI,JA,xJ,JL,JM⟩:=fZ.agy (sx (jZ m) K);have eX:ad (jZ m).d 7=iP false (m.bG.map (lL m.aR)):=rfl;have ga:D.agg [ad (jZ m).d 0,ad (jZ m).d 1,ad (jZ m).d 2,ad (jZ m).d 3,ad (jZ m).d 4,ad (jZ m).d 5,ad (jZ m).d 6,iP false (m.bG.map (lL m.aR))]=(jZ m).d:=rfl;have ag:(m.bG.map (lL m.aR))[i]?=some (lL m.aR s):=by rw[xaj,ah];rfl
  have s3:xu n [(lL m.aR s).f.d]=some (eG sn L):=j0;rw[agx];simp only[tN,Ik,aD.agg,aD.qW,go_sem,hi,aV,eX,qU,xaS,yF ((i:Int)<0),yF ((i:Int)>=(m.bG.length:Int)),eb,dQ,xT ag,cw.g6,cw.NG,cw.agg,s3,ga,ao,a2,dL,gb,kI,JA,xJ,JL,JM]
 have qd:=Oc h.ok;rw[JK,bC]at qd;have hi:=afd (D8 bk h.eV) n (by omega);rw[<-V0]at hi;have so:((0:Int) !=0)=false:=rfl;have U1:=azP h bC c;have aV:=fZ.vU (eU m);have a2:=fZ.vU (qX (eU m) K');obtain⟨dL,gb,kI,JA,xJ,JL,JM⟩:=fZ.agy (qX (eU m) K');have eX:ad (eU m).d 7=iP false (m.bG.map (nb m.aR)):=rfl;have Pb:ad m.d 7=iP false m.bG:=by rw[OX];rfl
 have ga:D.agg [ad m.d 0,ad m.d 1,ad m.d 2,ad m.d 3,ad m.d 4,ad m.d 5,ad m.d 6,iP false m.bG]=m.d:=by rw[OX];rfl
 have ag:(m.bG.map (nb m.aR))[i]?=some (nb m.aR s):=by rw[xaj,ah];rfl
 have s3:xv n [(nb m.aR s).f.d]=some (eG gq L):=kF;rw[agx];simp only[tO,Ir,aD.agg,Pb,ga,go_sem,qd,AZ,so,hi,aV,eX,qU,xaS,yF ((i:Int)<0),yF ((i:Int)>=(m.bG.length:Int)),eb,dQ,xT ag,cw.g6,cw.NG,cw.agg,s3,U1,a2,dL,gb,kI,JA,xJ,JL,JM]
theorem az8(bC:(m9 m).2.2=0){i:Int}(ah:i<0\/(m.bG.length:Int)<=i):tN n [m.d,J i]=some (.a1 [nh,J 2])/\tO n [m.d,J i]=some (.a1 [nh,J 2]):=by
 have bk:su m n:=⟨h.ok,AL.1 bC⟩;have V4:=h.ik;have hi:=Ex h;rw[xad bC,<-VZ]at hi;have qd:=Oc h.ok;rw[JK,bC]at qd;have so:((0:Int) !=0)=false:=rfl;have aV:=fZ.vU (jZ m);have eX:ad (jZ m).d 7=iP false (m.bG.map (lL m.aR)):=rfl;have Pb:ad m.d 7=iP false m.bG:=by rw[OX];rfl
 have ga:D.agg [ad m.d 0,ad m.d 1,ad m.d 2,ad m.d 3,ad m.d 4,ad m.d 5,ad m.d 6,iP false m.bG]=m.d:=by rw[OX];rfl
 by_cases au:i<0
 .constructor;.simp only[tN,Ik,aD.agg,aD.qW,go_sem,hi,aV,xat au,eb,dQ,xbg];rfl
  simp only[tO,Ir,aD.agg,Pb,ga,go_sem,qd,AZ,so,xat au,eb,dQ,xbg];rfl
 have ab:i>=(m.bG.length:Int):=by omega
 constructor;.simp only[tN,Ik,aD.agg,aD.qW,go_sem,hi,aV,eX,qU,xaS,xaE au,xat ab,eb,dQ];rfl
 simp only[tO,Ir,aD.agg,Pb,ga,go_sem,qd,AZ,so,qU,xaE au,xat ab,eb,dQ];rfl
theorem az9(bC:¬(m9 m).2.2=0)(i:Int):tN n [m.d,J i]=some (.a1 [nh,J 1])/\tO n [m.d,J i]=some (.a1 [nh,J 1]):=by
 constructor;.have hi:=Ex h;rw[xaa bC]at hi;simp only[tN,Ik,aD.agg,aD.qW,go_sem,hi,V1];rfl
 have ao:=Oc h.ok;rw[JK]at ao;have V2:((m9 m).2.2 !=0)=true:=by simp[bC]
 simp only[tO,Ir,aD.agg,aD.qW,go_sem,ao,AZ,V2];rfl
end
def aAa{m:aD}{n:Nat}(i:Int)(hw:DV m)(bd:On m n)(aL:18446744073709551616<n):Dw n [m.d,J i]=some (ay true):=by
 obtain⟨fS,rfl⟩:∃q,n=q+300:=⟨n-300,by omega⟩;have bO:=azD fS;generalize fS+300=n at*;have ei:=axo hw bd (by omega);have c4:tL n [nh,nh]=some (ay true):=by obtain⟨k,rfl⟩:∃k,n=k+10:=⟨n-10,by omega⟩;rfl
 have ga:D.agg [ad nh 0,ad nh 1,ad nh 2,ad nh 3,ad nh 4,ad nh 5,ad nh 6,ad nh 7]=nh:=rfl;cases aH:AK m with
 |false=>rw[aH]at ei;simp only[Dw,Is,aD.agg,aD.qW,go_sem,ei,eb,nt,dQ,xbg,bO]
 |true=>
  rw[aH]at ei;have cc:=azT hw (axk aH) aL;by_cases bC:(m9 m).2.2=0
  .by_cases ah:i<0\/(m.bG.length:Int)<=i;.obtain⟨an,ba⟩:=az8 cc bC ah;simp only[Dw,Is,aD.agg,aD.qW,go_sem,ei,eb,nt,dQ,xbg,an,ba,V1,ga,c4,bO,beq_self_eq_true]
   obtain⟨j,rfl⟩:∃j:Nat,i=j:=⟨i.toNat,by omega⟩;have aN:j<m.bG.length:=by omega
   obtain⟨a,b,bA,bB,cz,an,ba⟩:=az7 cc bC (xab aN);have q:=azy (n:=n) (by omega) bA bB;rw[cz]at q;have aV:=fZ.vU a;have a2:=fZ.vU b;simp only[Dw,Is,aD.agg,aD.qW,go_sem,ei,eb,nt,dQ,xbg,an,ba,aV,a2,fZ.eta,q,bO,beq_self_eq_true]
  obtain⟨an,ba⟩:=az9 cc bC i;simp only[Dw,Is,aD.agg,aD.qW,go_sem,ei,eb,nt,dQ,xbg,an,ba,V1,ga,c4,bO,beq_self_eq_true]
end Go.Am
