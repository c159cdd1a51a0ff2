/- Steps, joins, and nil slices that become rows of our own. No condition. -/
import Derived.Test.YtknmgdnhongcnaaGreatDoorEngB
set_option linter.all false
set_option linter.unnecessarySimpa false
namespace Go.Am
section
variable{P:Program}{T:cr}{G:dG}{N:Nat}{σ:aK}{Q:Exit->aK->Prop}{all:Array Oper}
def alv(l:List Oper):∀(k:Nat)(σ:aK)(K:aK->Prop),(∀j,l[j]?=all[k+j]?)->gf P T G all l K σ->DP P T G all (List.range' k l.length) K σ:=by
 induction l with
 |nil=>intro k σ K _ h;exact h
 |cons o l ih=>
  intro k σ K ak h;have ao:all[k]?=some o:=by simpa using(ak 0).symm
  simp only[xax,List.range'_succ,DP,ao];refine Hf (λa2 wF=>ih (k+1) a2 K (λj=>by have:=ak (j+1);simpa[xbl,Nat.add_comm 1 j]using this) wF) h
def alw(bd:eE P T)(hm:P.follows .mixedOrders=true){id:Nat}{ops:Array Oper}(cj:yz N ops=true)(DR:Ay T ops (List.range ops.size) (Array.replicate ops.size false)=true) (h:gf P T G ops ops.toList (Q .normal) σ):hD P T G N (.region id ops true) σ Q:=by refine ala bd hm cj (List.range ops.size) (by simp) DR ?_;rw[List.range_eq_range'];have:=alv (P:=P) (T:=T) (G:=G) (all:=ops) ops.toList 0 σ (Q .normal) (λj=>by simp) h;simpa using this
end
section
variable{P:Program}{T:cr}{G:dG}{N:Nat}{σ gO:aK}{Q:Exit->aK->Prop}{id:Nat}{ops:Array Oper}
end
def wrap64(x:Int)(ad:-9223372036854775808<=x)(ae:x<=9223372036854775807):IntKind.i64.wrap x=x:=by rw[IntKind.wrap_i64];omega
def Fin(T:cr)(rs:List ResultVar)(e8:D->Prop)(e:Exit)(a2:aK):Prop:=(e= .normal\/e= .ret)/\∃r d x,sX T a2 rs=some r/\toD a2.objs r=some d/\d.le x/\e8 x
theorem getD_cons_zero{α:Type}(x:α)(l:List α)(d:α):(x::l).getD 0 d=x:=rfl
theorem getD_cons_succ{α:Type}(x:α)(l:List α)(n:Nat)(d:α):(x::l).getD (n+1) d=l.getD n d:=rfl
def ZP{σ:aK}(K:Key)(n:Nat)(wI:Nat->aY)(objs':cH)(gA:σ.objs K=none) (aD:∀t,wI t=σ.aS t\/σ.aS t= .d (.val (.slice none 0 0))/\wI t= .row K) (aC:∀k o,objs' k=some o->k=K/\o= .row n []\/k≠K/\(σ.objs k=some o\/∃xs i,σ.objs k=some (.box xs)/\xs[i]?=some (.d (.val (.slice none 0 0)))/\o= .box (xs.set i (.row K)))) (pZ:∀k,σ.objs k≠none->objs' k≠none) (alx:objs' K=some (.row n [])) (aly:∀k,fa (σ.objs k)->fa (objs' k)):hC σ ⟨wI,objs'⟩:=by
 intro m fr ρ a w h;have cm:∀k,σ.used k->k≠K:=by rintro k ⟨o,ai⟩ rfl;rw[gA]at ai;cases ai
 have aw:∀k,σ.used k->aK.used ⟨wI,objs'⟩ k/\cz ρ K (.slice none 0 0) k=ρ k:=λk ai=>
  ⟨by
   cases bH:objs' k with
   |none=>exact absurd bH (pZ k (by obtain⟨o,e⟩:=ai;rw[e];simp))
   |some o=>exact⟨o,bH⟩,da _ _ (cm k ai)⟩
 have alz:aK.used ⟨wI,objs'⟩ K:=⟨_,alx⟩;have DX:cz ρ K (.slice none 0 0) K= .slice none 0 0:=by simp[cz]
 have qA:cf m (cz ρ K (.slice none 0 0)) (aK.used ⟨wI,objs'⟩) (.row K) (.slice none 0 0):=by have:=cf.row (m:=m) (ρ:=cz ρ K (.slice none 0 0)) (U:=aK.used ⟨wI,objs'⟩) K alz;rw[DX]at this;exact this
 refine⟨m,cz ρ K (.slice none 0 0),Mem.le_refl m,⟨h.mem,h.frame,h.apart,?_,?_,?_,?_,?_⟩,?_⟩
 .rintro k ⟨o,ai⟩;rcases aC k o ai with⟨rfl,rfl⟩|⟨ad,ae⟩;.rw[DX];rfl
  rw[da _ _ ad];rcases ae with ae|⟨xs,i,ae,_,_⟩
  .exact h.one k ⟨_,ae⟩
  exact h.one k ⟨_,ae⟩
 .intro t;rcases aD t with e|⟨aZ,a6⟩
  .show cf m _ _ (wI t) _;rw[e];exact(h.aS t).mono (Mem.le_refl m) aw
  show cf m _ _ (wI t) _;rw[a6];have:=h.aS t;rw[aZ]at this;rw[this.h8];exact qA
 .intro k o ai;rcases aC k o ai with⟨rfl,rfl⟩|⟨ad,ae⟩
  .rw[DX];exact .inl ⟨rfl,rfl⟩
  rw[da _ _ ad];rcases ae with ae|⟨xs,i,ae,az,rfl⟩
  .exact(h.objs k o ae).mono (Mem.le_refl m) aw (λ_ _ _=>rfl)
  obtain⟨b,vs,T,aZ,a6,b2,dh⟩:=(h.objs k _ ae).mono (Mem.le_refl m) aw (λ_ _ _=>rfl);refine⟨b,vs,T,aZ,a6,by simpa using b2,?_⟩;intro j c x aj af;rw[List.getElem?_set]at aj;split at aj
  .rename_i nK;subst nK;split at aj;.cases aj;have:=dh i _ x az af;rw[this.h8];exact qA
   cases aj
  exact dh j c x aj af
 .intro k o b ai sY an;rcases aC k o ai with⟨rfl,rfl⟩|⟨ad,ae⟩
  .have hn:blockOf (cz ρ k (.slice none 0 0) k)=some b:=an;rw[DX]at hn;cases hn
  have hn:blockOf (cz ρ K (.slice none 0 0) k)=some b:=an;rw[da _ _ ad]at hn;rcases ae with ae|⟨xs,i,ae,_,rfl⟩
  .exact h.own k o b ae sY hn
  exact h.own k _ b ae rfl hn
 .intro k bO o o' b c5 ai eF gT lV an;rcases aC k o ai with⟨rfl,rfl⟩|⟨ad,ae⟩
  .have hn:blockOf (cz ρ k (.slice none 0 0) k)=some b:=an;rw[DX]at hn;cases hn
  rw[da _ _ ad]at an;rcases aC bO o' eF with⟨rfl,rfl⟩|⟨dN,hA⟩
  .rw[DX];intro bH;cases bH
  rw[da _ _ dN];have hold:∃p,σ.objs k=some p/\p.owns=true:=by
   rcases ae with ae|⟨xs,i,ae,_,rfl⟩;.exact⟨_,ae,gT⟩
   exact⟨_,ae,rfl⟩
  have alA:∃p,σ.objs bO=some p/\p.owns=true:=by
   rcases hA with hA|⟨xs,i,hA,_,rfl⟩;.exact⟨_,hA,lV⟩
   exact⟨_,hA,rfl⟩
  obtain⟨p,bS,bP⟩:=hold;obtain⟨pT,alB,alC⟩:=alA;exact h.sep k bO p pT b c5 bS alB bP alC an
 intro k ai an;refine⟨aly k an,da _ _ ?_⟩;obtain⟨c,aj⟩:=DG an;exact cm k ⟨_,aj⟩
def alD{σ:aK}(t:Nat)(K:Key)(n:Nat)(aQ:σ.aS t= .d (.val (.slice none 0 0)))(gA:σ.objs K=none):hC σ ⟨cz σ.aS t (.row K),cz σ.objs K (some (.row n []))⟩:=by
 refine ZP K n _ _ gA ?_ ?_ ?_ (by simp[cz]) ?_
 .intro j;by_cases h:j=t;.subst h;exact .inr ⟨aQ,by simp[cz]⟩
  exact .inl (by simp[cz,h])
 .intro k o ai;by_cases h:k=K;.subst h;simp[cz]at ai;exact .inl ⟨rfl,ai.symm⟩
  rw[da _ _ h]at ai;exact .inr ⟨h,.inl ai⟩
 .intro k ai;by_cases h:k=K;.subst h;simp[cz]
  rw[da _ _ h];exact ai
 intro k an;have h:k≠K:=by rintro rfl;rw[gA]at an;exact wB an
 rw[da _ _ h];exact an
def alE{σ:aK}(k:Key)(i:Nat)(K:Key)(n:Nat){xs:List aY}(ai:σ.objs k=some (.box xs))(ag:xs[i]?=some (.d (.val (.slice none 0 0))))(gA:σ.objs K=none):hC σ ⟨σ.aS,cz (cz σ.objs k (some (.box (xs.set i (.row K))))) K (some (.row n []))⟩:=by
 have aEy:k≠K:=by rintro rfl;rw[gA]at ai;cases ai
 refine ZP K n _ _ gA (λ_=> .inl rfl) ?_ ?_ (by simp[cz]) ?_
 .intro j o aR;by_cases h:j=K;.subst h;simp[cz]at aR;exact .inl ⟨rfl,aR.symm⟩
  rw[da _ _ h]at aR;by_cases ae:j=k;.subst ae;simp[cz]at aR;exact .inr ⟨h,.inr ⟨xs,i,ai,ag,aR.symm⟩⟩
  rw[da _ _ ae]at aR;exact .inr ⟨h,.inl aR⟩
 .intro j aR;by_cases h:j=K;.subst h;simp[cz]
  rw[da _ _ h];by_cases ae:j=k;.subst ae;simp[cz]
  rw[da _ _ ae];exact aR
 intro j an;have h:j≠K:=by rintro rfl;rw[gA]at an;exact wB an
 rw[da _ _ h];by_cases ae:j=k;.subst ae;rw[fq];exact wz
 rw[da _ _ ae];exact an
def alF{T:cr}{ev:Operand->aY}{objs:cH}{d:Key}{o:Op}{r:aY}{cC:List (Key×c0)}(h:eW T ev objs d o=some (r,cC))(iN:∀t a x,o≠ .store t a x):∀j c,objs j=some (.box c)->dS objs cC j=some (.box c):=by
 have M4:∀{objs:cH}{k:Key}{o:c0},(∀c,objs k≠some (.box c))->∀j c,objs j=some (.box c)->cz objs k (some o) j=some (.box c):=by
  intro objs k o ai j c aR;have:j≠k:=by rintro rfl;exact ai c aR
  rw[da _ _ this];exact aR
 have new:∀{o:c0},objs d=none->∀j c,objs j=some (.box c)->dS objs [(d,o)] j=some (.box c):=by intro o aF;exact M4 (by intro c aj;rw[aF]at aj;cases aj)
 have same:∀{k:Key}{ez o:c0},objs k=some ez->(∀c,ez≠ .box c)->∀j c,objs j=some (.box c)->dS objs [(k,o)] j=some (.box c):=by intro k ez o ai cm;exact M4 (by intro c aj;rw[ai]at aj;cases aj;exact cm c rfl)
 cases o<;>simp only[eW,reduceCtorEq]at h
 case alloc=>split at h<;>cases h;exact new (by assumption)
 case box=>split at h<;>cases h;exact new (by assumption)
 case buildSlice=>
  split at h
  case h_2=>cases h
  split at h
  case h_2=>cases h
  split at h
  case h_2=>cases h
  split at h<;>cases h;exact new (by assumption)
 case makeSlice=>
  split at h
  case h_2=>cases h
  split at h
  case h_2=>cases h
  split at h
  case h_2=>cases h
  split at h<;>cases h;exact new (by assumption)
 case makeMap=>split at h<;>cases h;exact new (by assumption)
 case store=>exact absurd rfl (iN _ _ _)
 case mapUpdate=>
  split at h
  case h_2=>cases h
  split at h
  case h_2=>cases h
  split at h
  case isFalse=>cases h
  split at h
  case h_2=>cases h
  split at h
  case h_2=>cases h
  split at h<;>cases h;exact same (by assumption) (by intro c aj;cases aj)
 case insert=>
  split at h
  case h_2=>cases h
  split at h
  case h_2=>cases h
  split at h
  case isFalse=>cases h
  split at h
  case h_2=>cases h
  split at h
  case h_2=>cases h
  split at h<;>cases h;exact same (by assumption) (by intro c aj;cases aj)
 case call=>
  split at h
  .split at h
   case h_2=>cases h
   split at h
   case h_2=>cases h
   split at h
   case h_2=>cases h
   split at h
   case h_2=>cases h
   split at h
   case isFalse=>cases h
   split at h;.split at h<;>cases h;exact new (by assumption)
   .split at h
    case h_2=>cases h
    split at h<;>cases h;rename_i aF _ _ _ _ _ _ _ _ _ _ _ _ ai _ _;have hP:=same (o:= .dead) (by assumption) (by intro c aj;cases aj);intro j aX aR;have ad:=hP j aX aR;refine M4 ?_ j aX ad;intro c an;have cm:∀key x,objs key=some x->d≠key:=by
     rintro key x af rfl;have ao:objs d=none:=by assumption
     rw[ao]at af;cases af
    rw[da _ _ (cm _ _ (by assumption))]at an;clear M4 new same hP ad cm
    simp_all
   cases h
  .split at h
   case h_2=>cases h
   split at h
   case h_2=>cases h
   split at h
   case h_2=>cases h
   split at h
   case h_2=>cases h
   split at h
   case isFalse=>cases h
   split at h
   .split at h
    case h_2=>cases h
    split at h<;>cases h;exact same (by assumption) (by intro c aj;cases aj)
   .split at h
    case h_2=>cases h
    split at h<;>cases h;exact same (by assumption) (by intro c aj;cases aj)
   cases h
  cases h
def alG{T:cr}{ev:Operand->aY}{objs:cH}{d:Key}{o:Op}{r:aY}{cC:List (Key×c0)}(h:ho T ev objs d o=some (r,cC))(iN:∀t a x,o≠ .store t a x):∀j c,objs j=some (.box c)->dS objs cC j=some (.box c):=by
 obtain⟨⟨ja,uQ⟩,ao,an⟩:=ym h;have ad:=alF ao iN;intro j c aR;have ae:=ad j c aR;rcases Ar (T.born d) d ja uQ with e|⟨n,es,rfl,rfl,e⟩|⟨rG,n,es,rfl,rfl,e⟩|⟨off,cs,aM,rfl,rfl,fA,e⟩
 .rw[an]at e;cases e;exact ae
 .rw[an]at e;cases e;by_cases aF:j=d;.subst aF;simp only[dS,fq]at ae;cases ae
  simp only[dS,da _ _ aF]at ae⊢;exact ae
 .rw[an]at e;cases e;by_cases aF:j=d;.subst aF;simp only[dS,fq]at ae;cases ae
  simp only[dS,da _ _ aF]at ae⊢;exact ae
 rw[an]at e;cases e;have aH:objs d=none:=Zh ao;by_cases aF:j=d
 .subst aF;rw[aH]at aR;cases aR
 simp only[dS,da _ _ aF];exact aR
section
variable{P:Program}{T:cr}{G:dG}{all:Array Oper}
def alH{y:Oper}{σ:aK}{K K':aK->Prop}(iN:∀t a x,y.op≠ .store t a x)(ai:∀objs r,(∀j c,σ.objs j=some (.box c)->objs j=some (.box c))->K (aK.put ⟨σ.aS,objs⟩ y.dst r)->K' (aK.put ⟨σ.aS,objs⟩ y.dst r)) (h:ds P T G y K σ):ds P T G y K' σ:=by
 unfold ds at*;rw[yr]at*;cases aw:res T G σ y with
 |none=>simp only[aw,xbs]at h⊢;exact Ha h λr aw=>ai σ.objs r (λ_ _ h=>h) aw
 |some p=>
  simp only[aw,xaQ]at h⊢;refine ai _ _ ?_ h;intro j c aR;obtain⟨r,cC⟩:=p;unfold res at aw;split at aw;.cases aw;exact aR
  split at aw;.cases aw;exact aR
  exact alG aw iN j c aR
def ZQ{t a k off:Nat}{σ:aK}{x:Oper}(af:x.op= .load t (.tmp a))(aD:σ.aS a= .ptr k off){K:aK->Prop}(h:ds P T G x K σ): ∃r,K (σ.put x.dst r)/\∀objs,(∀j c,σ.objs j=some (.box c)->objs j=some (.box c))->res T G ⟨σ.aS,objs⟩ x=some (r,[]):=by
 unfold ds at h;rw[yr]at h;cases aw:res T G σ x with
 |none=>simp only[aw,xbs]at h;unfold j6 at h;rw[af]at h;exact h.elim
 |some p=>
  simp only[aw,xaQ]at h;obtain⟨r,cC⟩:=p;unfold res at aw;rw[af]at aw;simp only[ff,dU,ct,aD,ho,eW,xbs]at aw;cases bd:T t with
  |none=>simp[bd]at aw
  |some i=>
   simp only[bd]at aw;cases ai:σ.objs k with
   |none=>simp[ai]at aw
   |some o=>
    cases o with
    |box cells=>simp only[ai]at aw;cases a1:ya i cells off with|none=>simp[a1]at aw|some q=>simp only[a1,xaN,Prod.mk.injEq]at aw;obtain⟨rfl,rfl⟩:=aw;refine⟨q,h,λobjs aC=>?_⟩;unfold res;rw[af];simp only[ff,dU,ct,aD,bd,aC k cells ai,a1]
    |dead=>simp[ai]at aw|row=>simp[ai]at aw|map=>simp[ai]at aw
def ZR{x y:Oper}{σ:aK}{K:aK->Prop}{t a k off:Nat}(af:x.op= .load t (.tmp a))(nL:x.guard=none)(aD:σ.aS a= .ptr k off)(iN:∀t a x,y.op≠ .store t a x)(nI:x.apart all y=true) (h:eX P T G all x (λgO=>eX P T G all y K gO) σ):eX P T G all y (λgr=>eX P T G all x K gr) σ:=by
 obtain⟨ah,aT,bq⟩:=Oper.apart_spec nI;have pW:∀d,y.dst=some d->x.dst≠some d:=λd aF af=>aT d af aF;have lS:∀(K:aK->Prop) σ,eX P T G all x K σ=ds P T G x K σ:=λK σ=>by unfold eX;simp only[nL]
 simp only[lS]at h⊢;obtain⟨r,ad,ae⟩:=ZQ af aD h;have Hp:∀(K:aK->Prop) objs,(∀j c,σ.objs j=some (.box c)->objs j=some (.box c))->ds P T G x K ⟨σ.aS,objs⟩=K (aK.put ⟨σ.aS,objs⟩ x.dst r):=λK objs aC=>m7 (ae objs aC);rw[hY,pV ah]at ad;rw[hY];split at ad
 .rename_i hw
  try simp only[hw]
  rw[j7 ah aT]at ad;refine alH iN (λobjs q aC ai=>?_) ad;rw[j7 bq pW,Hp _ _ aC,put_comm aT];exact ai
 .rename_i hw
  try simp only[hw]
  show ds P T G x K (σ.put y.dst _);rw[j7 bq pW];have:=Hp (λa2=>K (a2.put y.dst (.d (.val (.tuple #[]))))) σ.objs (λ_ _ h=>h);have e:ds P T G x (λa2=>K (a2.put y.dst (.d (.val (.tuple #[]))))) σ=K ((σ.put x.dst r).put y.dst (.d (.val (.tuple #[])))):=this;rw[e];exact ad
 exact ad.elim
def alI{y:Oper}{σ:aK}{K:aK->Prop}{a:Nat}(aF:y.dst≠some a)(h:eX P T G all y K σ):eX P T G all y (λa2=>a2.aS a=σ.aS a/\K a2) σ:=by
 have a1:∀(objs:cH)(r:aY),(aK.put ⟨σ.aS,objs⟩ y.dst r).aS a=σ.aS a:=λobjs r=>by
  cases aO:y.dst with
  |none=>rfl
  |some d=>
   have:a≠d:=by rintro rfl;exact aF aO
   simp only[aK.put,da _ _ this]
 rw[hY]at h⊢;split at h
 .rename_i hw
  try simp only[hw]
  exact yv (λobjs r ai=>⟨a1 objs r,ai⟩) h
 .rename_i hw
  try simp only[hw]
  exact⟨a1 σ.objs _,h⟩
 exact h.elim
def alJ{K:aK->Prop}{i:Nat}{fD:Oper}{t a k off:Nat}(ag:all[i]?=some fD)(af:fD.op= .load t (.tmp a))(nL:fD.guard=none){B:List Nat}(fM:∀j dk,j∈B->all[j]?=some dk->∃e∈dk.after,Region.binds .any e=true/\(e.on=i\/e.on∈B)):∀(fuel:Nat)(listed:Array Bool)(σ:aK),σ.aS a= .ptr k off->(∀j,j∈B->listed.getD j true=false)->(∀j dk,all[j]?=some dk->j≠i->listed.getD j true=false->j∉B->fD.apart all dk=true/\∀t a x,dk.op≠ .store t a x)->i∈Region.ready .any all listed->ia P T G all i (jP P T G all K fuel (listed.setIfInBounds i true)) σ->jP P T G all K (fuel+1) listed σ:=by
 intro fuel
 induction fuel with
 |zero=>
  intro listed σ c3 sS pX aw H;refine⟨λh=>(by rw[h]at aw;cases aw),λj aR=>?_⟩;by_cases iM:j=i;.subst iM;exact H
  have hm:=ready_mono aR iM;exfalso;have key:Region.ready .any all (listed.setIfInBounds i true)=[]:=by unfold ia at H;simp only[ag]at H;unfold eX at H;simp only[nL]at H;obtain⟨r,ad,_⟩:=ZQ af c3 H;exact ad.1
  rw[key]at hm;cases hm
 |succ fuel ih=>
  intro listed σ c3 sS pX aw H;refine⟨λh=>(by rw[h]at aw;cases aw),λj aR=>?_⟩;by_cases iM:j=i;.subst iM;exact H
  obtain⟨yx,dk,jQ,gz⟩:=xbL.1 aR;have wv:∀k,listed.getD k true=false->listed[k]?.getD false=true->False:=λk ao ad=>by
   rcases Nat.lt_or_ge k listed.size with bL|bL;.simp[bL]at ao ad;rw[ao]at ad;cases ad
   simp[Array.getElem?_eq_none bL]at ad
  have yy:j∉B:=λHi=>by
   obtain⟨e,he,an,nJ⟩:=fM j dk Hi jQ;have ad:=gz e he an;rcases nJ with nJ|nJ
   .rw[nJ]at ad;exact wv i (xbL.1 aw).1 (by simpa using ad)
   exact wv _ (sS _ nJ) (by simpa using ad)
  obtain⟨fu,eQ⟩:=pX j dk jQ iM yx yy;have ad:ia P T G all i (λgO=>ia P T G all j (jP P T G all K fuel ((listed.setIfInBounds i true).setIfInBounds j true)) gO) σ:=yw (λgO wF=>wF.2 j (ready_mono aR iM)) H;have Sp:dk.dst≠some a:=λaF=>by obtain⟨_,_,bq⟩:=Oper.apart_spec fu;refine bq a aF ?_;unfold Oper.looksAt;rw[af];simp[Op.operands]
  have ae:ia P T G all j (λgr=>gr.aS a=σ.aS a/\ia P T G all i (jP P T G all K fuel ((listed.setIfInBounds i true).setIfInBounds j true)) gr) σ:=by unfold ia at ad⊢;simp only[ag,jQ]at ad⊢;exact alI Sp (ZR af nL c3 eQ fu ad)
  have Hj:∀k ok,all[k]?=some ok->k≠i->(listed.setIfInBounds j true).getD k true=false->k∉B->fD.apart all ok=true/\∀t a x,ok.op≠ .store t a x:=λk ok ai sT pY iN=>by
   refine pX k ok ai sT ?_ iN;by_cases gN:j=k;.subst gN;exact yx
   rw[getD_set_ne true gN]at pY;exact pY
  refine yw (λgr az=>ih (listed.setIfInBounds j true) gr (az.1.trans c3) (λk ai=>by
   have gN:j≠k:=by rintro rfl;exact yy ai
   rw[getD_set_ne true gN];exact sS k ai) Hj (ready_mono aw (Ne.symm iM)) ?_) ae
  rw[Array.setIfInBounds_comm _ _ iM];exact az.2
end
section
variable{P:Program}{T:cr}{G:dG}{all:Array Oper}
def DY:aY->Option Key
 | .ptr k _=>some k| .gL k _ _ _=>some k|_=>none
def keyOf(aS:Nat->aY):Operand->Option Key
 | .tmp a=>DY (aS a)|_=>none
theorem Sq{aS:Nat->aY}(x:Operand):DY (ct G aS x)=keyOf aS x:=by cases x with|tmp a=>rfl|const v=>rfl|func f=>rfl|global g=>simp only[ct,keyOf];split<;>rfl
def wJ(aS:Nat->aY):Operand->Bool
 | .tmp a=>match aS a with| .d _=>true|_=>false
 | .const _=>true|_=>false
def wK(aS:Nat->aY)(k:Key):Op->Bool
 | .store _ a _=>match keyOf aS a with|some bO=>bO !=k|none=>false
 |_=>false
def M5:Op->Bool
 | .store _ _ _=>true|_=>false
def Hq(aS:Nat->aY):Operand->Bool
 | .tmp a=>match aS a with| .ptr _ _=>true|_=>false
 |_=>false
def alK:aY->Bool
 | .d _=>true| .e6 _ _=>true|_=>false
def rR(aS:Nat->aY):Operand->Bool
 | .tmp a=>alK (aS a)|_=>false
def wL(aS:Nat->aY):Op->Bool
 | .load _ a=>rR aS a| .indexAddr _ x _=>rR aS x| .lookup _ m _ _=>rR aS m| .slice _ x _ _ none=>rR aS x| .call ⟨.builtin .len,args,_⟩=>args.toList.all (rR aS)|_=>false
def uV(aS:Nat->aY)(x y:Oper):Bool:=pass x y||wL aS x.op||match x.op with
 | .binOp _ _ a b _=>wJ aS a&&wJ aS b| .load _ a=>match keyOf aS a with|some k=>(Hq aS a&&!M5 y.op)||jj y.op||jO y.op||hO y.op||wK aS k y.op|none=>false
 | .indexAddr _ _ _=>jj y.op||jO y.op||hO y.op||M5 y.op| .store _ a _=>match keyOf aS a with|some k=>wK aS k y.op|none=>false
 |_=>false
def Sr(k:Key)(o o':cH):Prop:=o' k=o k
def DZ(o o':cH):Prop:=∀k n es,o k=some (.row n es)->∃iZ,o' k=some (.row n iZ)/\iZ.length=es.length
def alL{y:Oper}{σ:aK}{K K':aK->Prop}{e8:cH->Prop}(ao:e8 σ.objs)(hs:∀r cC,res T G σ y=some (r,cC)->e8 (dS σ.objs cC))(ai:∀objs r,e8 objs->K (aK.put ⟨σ.aS,objs⟩ y.dst r)->K' (aK.put ⟨σ.aS,objs⟩ y.dst r)) (h:ds P T G y K σ):ds P T G y K' σ:=by unfold ds at*;rw[yr]at*;cases aw:res T G σ y with|none=>simp only[aw,xbs]at h⊢;exact Ha h λr aw=>ai σ.objs r ao aw|some p=>simp only[aw,xaQ]at h⊢;obtain⟨r,cC⟩:=p;exact ai _ _ (hs r cC aw) h
def ZS{σ:aK}{y:Oper}(h:(jj y.op||jO y.op||hO y.op)=true){r:aY}{cC:List (Key×c0)}(aw:res T G σ y=some (r,cC)):cC=[]:=by
 unfold res at aw;split at aw;.cases aw;rfl
 split at aw;.cases aw;rfl
 simp only[xbh]at h;rcases h with(h|h)|h
 .rw[(DL h).2]at aw;cases aw
 .rw[DM h]at aw;cases aw
 rw[(R9 (T:=T) (ev:=ct G σ.aS) (objs:=σ.objs) (d:=y.dst.getD 9999) h).2.2]at aw;cases aw
def Ss{σ:aK}{y:Oper}{t:TypeId}{a x:Operand}(aO:y.op= .store t a x){r:aY}{cC:List (Key×c0)}(aw:res T G σ y=some (r,cC)): ∃k o o',keyOf σ.aS a=some k/\cC=[(k,o')]/\σ.objs k=some o/\((∃c iw,o= .box c/\o'= .box iw)\/∃n es iZ,o= .row n es/\o'= .row n iZ/\iZ.length=es.length):=by
 rw[<-Sq (G:=G)];unfold res at aw;rw[aO]at aw;simp only[ff,dU,Y7,eW]at aw;split at aw
 case h_2=>cases aw
 split at aw
 case isFalse=>cases aw
 split at aw
 .rename_i k off he;split at aw
  case h_2=>cases aw
  rename_i cells aC;split at aw<;>cases aw;exact⟨k,_,_,by rw[he];rfl,rfl,aC,.inl ⟨_,_,rfl,rfl⟩⟩
 .rename_i k dg e7 off he;split at aw
  case h_2=>cases aw
  rename_i bO es aM aC aF;split at aw
  case isFalse=>cases aw
  rename_i aj;split at aw<;>cases aw;exact⟨k,_,_,by rw[he];rfl,rfl,aC,.inr ⟨dg,es,_,by rw[aj.1],rfl,by simp⟩⟩
 cases aw
def Hr{objs:cH}{k:Key}{o:c0}(j:Key):dS objs [(k,o)] j=if j=k then some o else objs j:=by
 by_cases h:j=k;.subst h;simp[dS,fq]
 simp[dS,da _ _ h,h]
def alM{σ:aK}{y:Oper}{k:Key}(h:(jj y.op||jO y.op||hO y.op||wK σ.aS k y.op)=true){r:aY}{cC:List (Key×c0)}(aw:res T G σ y=some (r,cC)):Sr k σ.objs (dS σ.objs cC):=by
 rcases xbC.1 h with h|h;.rw[ZS h aw];rfl
 unfold wK at h;split at h
 case h_2=>cases h
 rename_i t a x aO;obtain⟨bO,o,o',ad,rfl,ae,_⟩:=Ss aO aw;rw[ad]at h;simp only[bne_iff_ne,ne_eq]at h;show dS σ.objs [(bO,o')] k=σ.objs k;rw[Hr,xaa (λe=>h e.symm)]
theorem DZ.refl(o:cH):DZ o o:=λk n es h=>⟨es,h,rfl⟩
def alN{σ:aK}{y:Oper}(h:(jj y.op||jO y.op||hO y.op||M5 y.op)=true){r:aY}{cC:List (Key×c0)}(aw:res T G σ y=some (r,cC)):DZ σ.objs (dS σ.objs cC):=by
 rcases xbC.1 h with h|h;.rw[ZS h aw];exact DZ.refl _
 unfold M5 at h;split at h
 case h_2=>cases h
 rename_i t a x aO;obtain⟨bO,o,o',ad,rfl,ae,az⟩:=Ss aO aw;intro k n es ai;rw[Hr];by_cases e:k=bO
 .subst e;rw[xac rfl];rw[ae]at ai;rcases az with⟨c,iw,rfl,rfl⟩|⟨m,aEz,alO,rfl,rfl,ak⟩
  .cases ai
  cases ai;exact⟨alO,rfl,ak⟩
 rw[xaa e];exact⟨es,ai,rfl⟩
def Looks(T:cr)(G:dG)(x:Oper)(aS:Nat->aY)(o:cH)(e8:cH->Prop):Prop:=∀r cC,res T G ⟨aS,o⟩ x=some (r,cC)->cC=[]/\∀o',e8 o'->res T G ⟨aS,o'⟩ x=some (r,[])
def M6{x y:Oper}{σ:aK}{K:aK->Prop}{e8:cH->Prop}(nL:x.guard=none)(Hc:hO x.op=false)(nI:x.apart all y=true)(ak:Looks T G x σ.aS σ.objs e8)(ao:e8 σ.objs)(hs:∀r cC,res T G σ y=some (r,cC)->e8 (dS σ.objs cC)) (h:eX P T G all x (λgO=>eX P T G all y K gO) σ):eX P T G all y (λgr=>eX P T G all x K gr) σ:=by
 obtain⟨ah,aT,bq⟩:=Oper.apart_spec nI;have pW:∀d,y.dst=some d->x.dst≠some d:=λd aF af=>aT d af aF;have lS:∀(K:aK->Prop) σ,eX P T G all x K σ=ds P T G x K σ:=λK σ=>by unfold eX;simp only[nL]
 simp only[lS]at h⊢;have RE:res T G σ x≠none:=by intro aH;rw[oZ aH]at h;have:=Au h;rw[Hc]at this;cases this
 obtain⟨p,a1⟩:=Option.ne_none_iff_exists'.1 RE;obtain⟨r,cC⟩:=p;obtain⟨rfl,ae⟩:=ak r cC a1;have ad:eX P T G all y K (σ.put x.dst r):=by rw[m7 a1]at h;exact h
 have Hp:∀(K:aK->Prop) objs,e8 objs->ds P T G x K ⟨σ.aS,objs⟩=K (aK.put ⟨σ.aS,objs⟩ x.dst r):=λK objs aC=>m7 (ae objs aC);rw[hY,pV ah]at ad;rw[hY];split at ad
 .rename_i hw
  try simp only[hw]
  rw[j7 ah aT]at ad;refine alL ao hs (λobjs q aC ai=>?_) ad;rw[j7 bq pW,Hp _ _ aC,put_comm aT];exact ai
 .rename_i hw
  try simp only[hw]
  show ds P T G x K (σ.put y.dst _);rw[j7 bq pW];have e:ds P T G x (λa2=>K (a2.put y.dst (.d (.val (.tuple #[]))))) σ=K ((σ.put x.dst r).put y.dst (.d (.val (.tuple #[])))):=Hp (λa2=>K (a2.put y.dst (.d (.val (.tuple #[]))))) σ.objs ao;rw[e];exact ad
 exact ad.elim
def ZT{aS:Nat->aY}{x:Operand}(h:wJ aS x=true):∃d,ct G aS x= .d d:=by
 unfold wJ at h;split at h
 .split at h;.rename_i d aF;exact⟨d,aF⟩
  cases h
 .exact⟨_,rfl⟩
 cases h
def alP(o o':cH)(x:D):nF o (.d x)=nF o' (.d x):=by
 unfold nF;split<;>first|rfl|(rename_i h;cases h)|skip
 all_goals rfl
def Hs{aS:Nat->aY}{x:Operand}(h:rR aS x=true):(∃d,ct G aS x= .d d)\/∃cs off,ct G aS x= .e6 cs off:=by
 cases x with
 |tmp a=>simp only[rR]at h;show(∃d,aS a= .d d)\/∃cs off,aS a= .e6 cs off;generalize aS a=v at h;cases v<;>first|exact .inl ⟨_,rfl⟩|exact .inr ⟨_,_,rfl⟩|cases h
 |_=>cases h
def ZU(o o':cH)(x:D):kD o (.d x)=kD o' (.d x):=by
 unfold kD;split<;>first|rfl|(rename_i h;cases h)|skip
 all_goals rfl
theorem alQ(o o':cH)(cs:List D)(off:Nat):kD o (.e6 cs off)=kD o' (.e6 cs off):=rfl
def alR{aS:Nat->aY}{op:Op}(h:wL aS op=true)(o o':cH):dU T (ct G aS) o op=dU T (ct G aS) o' op:=by
 cases op<;>simp only[wL,xaq]at h
 case load t a=>rcases Hs (G:=G) h with⟨d,e⟩|⟨cs,off,e⟩<;>simp only[dU,e]
 case indexAddr t x i=>
  rcases Hs (G:=G) h with⟨d,e⟩|⟨cs,off,e⟩;.simp only[dU,e];cases d<;>rfl
  simp only[dU,e]
 case lookup t m k ok=>
  rcases Hs (G:=G) h with⟨d,e⟩|⟨cs,off,e⟩
  .simp only[dU,e];split
   .cases d<;>first|rfl|skip
    rename_i v;cases v<;>first|rfl|skip
    rename_i q;cases q<;>rfl
   rfl
  simp only[dU,e]
 case slice t x lo ag gq=>
  cases gq with
  |some _=>cases h
  |none=>
   simp only at h;rcases Hs (G:=G) h with⟨d,e⟩|⟨cs,off,e⟩
   .simp only[dU,e,ZU o o' d];cases d<;>rfl
   simp only[dU,e,alQ o o' cs off]
 case call c=>
  obtain⟨callee,args,eA⟩:=c;cases callee with
  |value=>rfl|invoke=>rfl
  |builtin b=>
   cases b<;>first|rfl|skip
   simp only at h;simp only[dU];split
   .rename_i t x aZ a6;rw[a6]at h;simp only[xaH,xbx,xbt]at h;rcases Hs (G:=G) h with⟨d,e⟩|⟨cs,off,e⟩
    .simp only[e];cases bd:T t with
     |none=>rfl
     |some i=>
      obtain⟨aM,s,b,z⟩:=i;cases aM
      case map k q=>
       cases d
       case val v=>
        cases v
        case map r=>cases r<;>rfl
        all_goals rfl
       all_goals rfl
      case slice q=>simp only[ZU o o' d]
      case string=>
       cases d
       case val v=>cases v<;>rfl
       all_goals rfl
      all_goals rfl
    simp only[e];cases bd:T t with|none=>rfl|some i=>obtain⟨aM,s,b,z⟩:=i;cases aM<;>rfl
   rfl
def ZV{aS:Nat->aY}{op:Op}(h:wL aS op=true):jO op=true:=by
 cases op<;>simp only[wL,xaq]at h<;>first|rfl|skip
 case call c=>
  obtain⟨callee,args,eA⟩:=c;cases callee with
  |value=>cases h
  |invoke=>cases h
  |builtin b=>cases b<;>first|rfl|cases h
def alS{x:Oper}{aS:Nat->aY}{o:cH}(h:wL aS x.op=true):Looks T G x aS o (λ_=>True):=by
 intro r cC aw;have hm:=ZV h;unfold res at aw;split at aw
 .rename_i u hu;cases aw;refine⟨rfl,λo' _=>?_⟩;unfold res;simp only[hu]
 rename_i a1;split at aw;.rename_i u hu;cases aw;refine⟨rfl,λo' _=>?_⟩;unfold res;simp only at hu;simp only[a1,alR h o' o,hu]
 rw[DM hm]at aw;cases aw
def alT{x:Oper}{op:BinOp}{t:TypeId}{a b:Operand}{q:TypeId}(af:x.op= .binOp op t a b q){aS:Nat->aY}{o:cH}(aB:wJ aS a=true)(an:wJ aS b=true):Looks T G x aS o (λ_=>True):=by
 intro r cC aw;obtain⟨d1,aZ⟩:=ZT (G:=G) aB;obtain⟨d2,a6⟩:=ZT (G:=G) an;unfold res at aw;rw[af]at aw;cases a1:ff T (ct G aS) (.binOp op t a b q)with
 |some u=>rw[a1]at aw;cases aw;refine⟨rfl,λo' _=>?_⟩;unfold res;rw[af,a1]
 |none=>
  rw[a1]at aw;simp only at aw;have hm:∀o',dU T (ct G aS) o' (.binOp op t a b q)=dU T (ct G aS) o (.binOp op t a b q):=by intro o';simp only[dU,aZ,a6,alP o' o]
  cases hM:dU T (ct G aS) o (.binOp op t a b q)with
  |some u=>rw[hM]at aw;cases aw;refine⟨rfl,λo' _=>?_⟩;unfold res;rw[af,a1];simp only[hm o',hM]
  |none=>rw[hM]at aw;simp[ho,eW]at aw
def alU{x:Oper}{t:TypeId}{a:Operand}{k:Key}(af:x.op= .load t a){aS:Nat->aY}{o:cH}(aB:keyOf aS a=some k):Looks T G x aS o (Sr k o):=by
 intro r cC aw;have he:DY (ct G aS a)=some k:=by rw[Sq];exact aB
 unfold res at aw;rw[af]at aw;simp only[ff]at aw;have hm:∀o',o' k=o k->dU T (ct G aS) o' (.load t a)=dU T (ct G aS) o (.load t a):=by
  intro o' aC;simp only[dU];generalize ct G aS a=v at he⊢;cases v<;>simp only[DY,reduceCtorEq,xaN]at he;.subst he;simp only[aC]
  subst he;simp only[aC]
 cases hM:dU T (ct G aS) o (.load t a)with
 |some u=>rw[hM]at aw;cases aw;refine⟨rfl,λo' aC=>?_⟩;unfold res;rw[af];simp only[ff,hm o' aC,hM]
 |none=>rw[hM]at aw;simp[ho,eW]at aw
def alV{x:Oper}{t:TypeId}{a b:Operand}(af:x.op= .indexAddr t a b){aS:Nat->aY}{o:cH}:Looks T G x aS o (DZ o):=by
 intro r cC aw;unfold res at aw;rw[af]at aw;simp only[ff]at aw;cases hM:dU T (ct G aS) o (.indexAddr t a b)with
 |some u=>
  rw[hM]at aw;cases aw;refine⟨rfl,λo' aC=>?_⟩;have hm:dU T (ct G aS) o' (.indexAddr t a b)=some r:=by
   simp only[dU]at hM⊢;split at hM
   .split at hM
    .split at hM
     .rename_i aH;rw[xac aH];split at hM<;>first|exact hM|skip
      rename_i key aN;cases ai:o key with
      |none=>rw[ai]at hM;cases hM
      |some h9=>
       cases h9 with
       |row k es=>obtain⟨iZ,ad,ae⟩:=aC key k es ai;rw[ai]at hM;rw[ad];simp only[ae]at hM⊢;exact hM
       |dead=>rw[ai]at hM;cases hM
       |box=>rw[ai]at hM;cases hM
       |map=>rw[ai]at hM;cases hM
     cases hM
    cases hM
   .exact hM
   cases hM
  unfold res;rw[af];simp only[ff,hm]
 |none=>rw[hM]at aw;simp[ho,eW]at aw
def alW{o:cH}{k bO:Key}{a b:c0}(h:k≠bO):dS (dS o [(k,a)]) [(bO,b)]=dS (dS o [(bO,b)]) [(k,a)]:=by
 funext j
 simp only[Hr];by_cases ad:j=k<;>by_cases ae:j=bO<;>simp_all
def ZW{y:Oper}{t:TypeId}{a x:Operand}{k:Key}(aO:y.op= .store t a x){aS:Nat->aY}{o o':cH}(aB:keyOf aS a=some k)(aC:o' k=o k):res T G ⟨aS,o'⟩ y=res T G ⟨aS,o⟩ y:=by
 have he:DY (ct G aS a)=some k:=by rw[Sq];exact aB
 unfold res;rw[aO];simp only[ff,dU,Y7,eW];generalize ct G aS a=v at he⊢;cases v<;>simp only[DY,reduceCtorEq,xaN]at he;.subst he;simp only[aC]
 subst he;simp only[aC]
def alX{x y:Oper}{σ:aK}{K:aK->Prop}{t t':TypeId}{a db v k3:Operand}{k bO:Key}(af:x.op= .store t a v)(aO:y.op= .store t' db k3)(aB:keyOf σ.aS a=some k)(Ht:keyOf σ.aS db=some bO)(cm:bO≠k) (nL:x.guard=none) (nI:x.apart all y=true) (h:eX P T G all x (λgO=>eX P T G all y K gO) σ):eX P T G all y (λgr=>eX P T G all x K gr) σ:=by
 obtain⟨ah,aT,bq⟩:=Oper.apart_spec nI;have pW:∀d,y.dst=some d->x.dst≠some d:=λd aF af=>aT d af aF;have lS:∀(K:aK->Prop) σ,eX P T G all x K σ=ds P T G x K σ:=λK σ=>by unfold eX;simp only[nL]
 simp only[lS]at h⊢;have ZX:∀{z:Oper}{tt:TypeId}{p q:Operand}{τ:aK}{K':aK->Prop},z.op= .store tt p q->ds P T G z K' τ->∃r cK gT,res T G τ z=some (r,[(cK,gT)])/\keyOf τ.aS p=some cK/\K' (τ.step z.dst r [(cK,gT)]):=by
  intro z tt p q τ K' bF bH;cases aw:res T G τ z with
  |none=>rw[oZ aw]at bH;have:=Au bH;rw[bF]at this;cases this
  |some u=>obtain⟨r,cC⟩:=u;obtain⟨cK,o,gT,bS,rfl,_,_⟩:=Ss bF aw;exact⟨r,cK,gT,rfl,bS,by rw[m7 aw]at bH;exact bH⟩
 obtain⟨r,cK,gT,bS,bP,ca⟩:=ZX af h;rw[aB]at bP;cases bP;have AJ:eX P T G all y K (aK.put ⟨σ.aS,dS σ.objs [(k,gT)]⟩ x.dst r):=ca;have ZY:∀(lV:cH),lV k=σ.objs k->∀K':aK->Prop,ds P T G x K' ⟨σ.aS,lV⟩=K' (aK.put ⟨σ.aS,dS lV [(k,gT)]⟩ x.dst r):=by
  intro lV aC K';have:res T G ⟨σ.aS,lV⟩ x=some (r,[(k,gT)]):=by rw[ZW af aB aC];exact bS
  exact m7 this
 rw[hY,pV ah]at AJ;rw[hY];have alY:ko all ⟨σ.aS,dS σ.objs [(k,gT)]⟩ y=ko all σ y:=rfl;rw[alY]at AJ;split at AJ
 .rename_i hw
  try simp only[hw]
  rw[j7 ah aT]at AJ;obtain⟨r2,dV,lV,fu,eQ,iv⟩:=ZX aO AJ;have ZZ:keyOf σ.aS db=some dV:=eQ;rw[Ht]at ZZ;cases ZZ;have alZ:res T G σ y=some (r2,[(bO,lV)]):=by rw[<-fu];exact(ZW (T:=T) (G:=G) aO (o:=σ.objs) (o':=dS σ.objs [(k,gT)]) Ht (by rw[Hr,xaa cm])).symm
  rw[m7 alZ];show ds P T G x K (aK.put ⟨σ.aS,dS σ.objs [(bO,lV)]⟩ y.dst r2);rw[j7 bq pW,ZY _ (by rw[Hr,xaa (λe=>cm e.symm)]),put_comm aT,alW cm];exact iv
 .rename_i hw
  try simp only[hw]
  show ds P T G x K (σ.put y.dst _);rw[j7 bq pW];have e:=ZY σ.objs rfl (λa2=>K (a2.put y.dst (.d (.val (.tuple #[])))));have dj:ds P T G x (λa2=>K (a2.put y.dst (.d (.val (.tuple #[]))))) σ=_:=e;rw[dj];exact AJ
 exact AJ.elim
def al0{x y:Oper}{σ:aK}{K:aK->Prop}(nL:x.guard=none)(nI:x.apart all y=true)(h:uV σ.aS x y=true)(H:eX P T G all x (λgO=>eX P T G all y K gO) σ):eX P T G all y (λgr=>eX P T G all x K gr) σ:=by
 unfold uV at h;rcases xbC.1 h with h|h
 .rcases xbC.1 h with h|h;.exact swap nI h H
  refine M6 nL ?_ nI (alS h) trivial (λ_ _ _=>trivial) H;cases aj:hO x.op with|false=>rfl|true=>have:=G9 aj;rw[ZV h]at this;cases this.2.1
 split at h;.rename_i op t a b q af;rw[xai]at h;exact M6 nL (by rw[af];rfl) nI (alT af h.1 h.2) trivial (λ_ _ _=>trivial) H
 .rename_i t a af;split at h
  case h_2=>cases h
  rename_i k ai;simp only[xbh]at h;have other:(jj y.op||jO y.op||hO y.op||wK σ.aS k y.op)=true->eX P T G all y (λgr=>eX P T G all x K gr) σ:=λbL=>M6 nL (by rw[af];rfl) nI (alU af ai) (rfl:Sr k σ.objs σ.objs) (λ_ _ aw=>alM bL aw) H
  rcases h with(((h|h)|h)|h)|h
  .rw[xai]at h;obtain⟨ad,ae⟩:=h;unfold Hq at ad;split at ad
   case h_2=>cases ad
   rename_i ab;split at ad
   case h_2=>cases ad
   rename_i p0 off aD;refine ZR af nL aD ?_ nI H;intro t' db k3 he;rw[he]at ae;cases ae
  .exact other (by simp[h])
  .exact other (by simp[h])
  .exact other (by simp[h])
  exact other (by simp[h])
 .rename_i t a b af;exact M6 nL (by rw[af];rfl) nI (alV af) (DZ.refl _) (λ_ _ aw=>alN h aw) H
 .rename_i t a v af;split at h
  case h_2=>cases h
  rename_i k ai;unfold wK at h;split at h
  case h_2=>cases h
  rename_i t' db k3 aO;split at h
  case h_2=>cases h
  rename_i bO eF;exact alX af aO ai eF (by simpa using h) nL nI H
 cases h
def nM:Op->List Tmp
 | .binOp _ _ a b _=>(match a with| .tmp t=>[t]|_=>[])++(match b with| .tmp t=>[t]|_=>[])
 | .load _ (.tmp a)=>[a]| .store _ (.tmp a) _=>[a]| .indexAddr _ (.tmp a) _=>[a]| .lookup _ (.tmp a) _ _=>[a]| .slice _ (.tmp a) _ _ _=>[a]| .call ⟨.builtin .len,args,_⟩=>args.toList.filterMap λx=>match x with| .tmp t=>some t|_=>none
 |_=>[]
def wM:Op->List Tmp
 | .store _ (.tmp a) _=>[a]|_=>[]
theorem St{s s':Nat->aY}{x:Operand}(h:∀t,x= .tmp t->s t=s' t):keyOf s x=keyOf s' x:=by cases x with|tmp t=>simp only[keyOf,h t rfl]|_=>rfl
theorem Z0{s s':Nat->aY}{x:Operand}(h:∀t,x= .tmp t->s t=s' t):wJ s x=wJ s' x:=by cases x with|tmp t=>simp only[wJ,h t rfl]|_=>rfl
theorem al1{s s':Nat->aY}{x:Operand}(h:∀t,x= .tmp t->s t=s' t):Hq s x=Hq s' x:=by cases x with|tmp t=>simp only[Hq,h t rfl]|_=>rfl
def al2{s s':Nat->aY}{x y:Oper}(h:∀t,t∈nM x.op\/t∈wM y.op->s t=s' t):uV s x y=uV s' x y:=by
 have aO:∀k,wK s k y.op=wK s' k y.op:=by
  intro k;unfold wK;split;.rename_i t a v he;rw[St (s:=s) (s':=s') (x:=a) (λq b4=>h q (.inr (by rw[he,b4];simp[wM])))]
  rfl
 have aF:wL s x.op=wL s' x.op:=by
  have af:∀t,t∈nM x.op->s t=s' t:=λt aQ=>h t (.inl aQ);generalize x.op=op at af;have one:∀a:Operand,(∀t,a= .tmp t->t∈nM op)->rR s a=rR s' a:=by intro a aB;cases a with|tmp t=>simp only[rR,af t (aB t rfl)]|_=>rfl
  cases op<;>simp only[wL]
  case load t a=>exact one a (by rintro t rfl;simp[nM])
  case indexAddr t a i=>exact one a (by rintro t rfl;simp[nM])
  case lookup t a k ok=>exact one a (by rintro t rfl;simp[nM])
  case slice t a lo ag gq=>
   cases gq with
   |none=>exact one a (by rintro t rfl;simp[nM])
   |some _=>rfl
  case call c=>
   obtain⟨callee,args,eA⟩:=c;cases callee with
   |value=>rfl|invoke=>rfl
   |builtin b=>
    cases b<;>first|rfl|skip
    simp only;rw[Bool.eq_iff_iff,xat,xat];have aB:∀a∈args.toList,rR s a=rR s' a:=λa aB=>one a (by rintro t rfl;simp only[nM,List.mem_filterMap];exact⟨_,aB,rfl⟩);exact⟨λh a hm=>by rw[<-aB a hm];exact h a hm,λh a hm=>by rw[aB a hm];exact h a hm⟩
 unfold uV;rw[aF]
 congr 1
 split;.rename_i op t a b q af;have aB:∀t,a= .tmp t->s t=s' t:=λt aQ=>h t (.inl (by rw[af,aQ];simp[nM]));have an:∀t,b= .tmp t->s t=s' t:=λt aQ=>h t (.inl (by rw[af,aQ];simp[nM]));rw[Z0 aB,Z0 an]
 .rename_i t a af;have aB:∀t,a= .tmp t->s t=s' t:=λt aQ=>h t (.inl (by rw[af,aQ];simp[nM]));rw[St aB,al1 aB];split
  .rw[aO]
  rfl
 .rfl
 .rename_i t a v af;have aB:∀t,a= .tmp t->s t=s' t:=λt aQ=>h t (.inl (by rw[af,aQ];simp[nM]));rw[St aB];split
  .rw[aO]
  rfl
 rfl
def al3{y:Oper}{σ:aK}{K:aK->Prop}{L:List Tmp}(aF:∀a∈L,y.dst≠some a)(h:eX P T G all y K σ):eX P T G all y (λa2=>(∀a∈L,a2.aS a=σ.aS a)/\K a2) σ:=by
 have a1:∀(objs:cH)(r:aY),∀a∈L,(aK.put ⟨σ.aS,objs⟩ y.dst r).aS a=σ.aS a:=λobjs r a aB=>by
  cases aO:y.dst with
  |none=>rfl
  |some d=>
   have:a≠d:=by rintro rfl;exact aF a aB aO
   simp only[aK.put,da _ _ this]
 rw[hY]at h⊢;split at h
 .rename_i hw
  try simp only[hw]
  exact yv (λobjs r ai=>⟨a1 objs r,ai⟩) h
 .rename_i hw
  try simp only[hw]
  exact⟨a1 σ.objs _,h⟩
 exact h.elim
def al4{x:Oper}{σ:aK}{p:Prop}(h:eX P T G all x (λ_=>p) σ):p:=by
 rw[hY]at h;split at h
 .unfold ds at h;split at h;.exact h
  unfold j6 at h;split at h
  .split at h;.obtain⟨_,_,_,_,_,_,⟨r,o0⟩,_,q⟩:=h;exact q r (by rw[o0])
   exact h.elim
  exact h.elim
 .exact h
 exact h.elim
def al5{K:aK->Prop}{i:Nat}{fD:Oper}(ag:all[i]?=some fD)(nL:fD.guard=none){B:List Nat}(fM:∀j dk,j∈B->all[j]?=some dk->∃e∈dk.after,Region.binds .any e=true/\(e.on=i\/e.on∈B)){s0:Nat->aY}{L:List Tmp}(al6:∀t∈nM fD.op,t∈L): ∀(fuel:Nat)(listed:Array Bool)(σ:aK),(∀t∈L,σ.aS t=s0 t)->(∀j,j∈B->listed.getD j true=false)->(∀j dk,all[j]?=some dk->j≠i->listed.getD j true=false->j∉B->fD.apart all dk=true/\uV s0 fD dk=true/\(∀t∈L,dk.dst≠some t)/\∀t∈wM dk.op,t∈L)->i∈Region.ready .any all listed->ia P T G all i (jP P T G all K fuel (listed.setIfInBounds i true)) σ->jP P T G all K (fuel+1) listed σ:=by
 intro fuel
 induction fuel with
 |zero=>
  intro listed σ c3 sS pX aw H;refine⟨λh=>(by rw[h]at aw;cases aw),λj aR=>?_⟩;by_cases iM:j=i;.subst iM;exact H
  have hm:=ready_mono aR iM;exfalso;have key:Region.ready .any all (listed.setIfInBounds i true)=[]:=by have D0:=yw (K':=λ_=>Region.ready .any all (listed.setIfInBounds i true)=[]) (λa2 bL=>bL.1) H;unfold ia at D0;simp only[ag]at D0;exact al4 D0
  rw[key]at hm;cases hm
 |succ fuel ih=>
  intro listed σ c3 sS pX aw H;refine⟨λh=>(by rw[h]at aw;cases aw),λj aR=>?_⟩;by_cases iM:j=i;.subst iM;exact H
  obtain⟨yx,dk,jQ,gz⟩:=xbL.1 aR;have wv:∀k,listed.getD k true=false->listed[k]?.getD false=true->False:=λk ao ad=>by
   rcases Nat.lt_or_ge k listed.size with bL|bL;.simp[bL]at ao ad;rw[ao]at ad;cases ad
   simp[Array.getElem?_eq_none bL]at ad
  have yy:j∉B:=λHi=>by
   obtain⟨e,he,an,nJ⟩:=fM j dk Hi jQ;have ad:=gz e he an;rcases nJ with nJ|nJ
   .rw[nJ]at ad;exact wv i (xbL.1 aw).1 (by simpa using ad)
   exact wv _ (sS _ nJ) (by simpa using ad)
  obtain⟨fu,eQ,iv,sW⟩:=pX j dk jQ iM yx yy;have ad:ia P T G all i (λgO=>ia P T G all j (jP P T G all K fuel ((listed.setIfInBounds i true).setIfInBounds j true)) gO) σ:=yw (λgO wF=>wF.2 j (ready_mono aR iM)) H;have ae:ia P T G all j (λgr=>(∀a∈L,gr.aS a=σ.aS a)/\ia P T G all i (jP P T G all K fuel ((listed.setIfInBounds i true).setIfInBounds j true)) gr) σ:=by
   unfold ia at ad⊢;simp only[ag,jQ]at ad⊢;have a4:uV σ.aS fD dk=true:=by
    rw[<-eQ];refine al2 λt aQ=>c3 t ?_;rcases aQ with aQ|aQ
    .exact al6 t aQ
    exact sW t aQ
   exact al3 iv (al0 nL fu a4 ad)
  have Hj:∀k ok,all[k]?=some ok->k≠i->(listed.setIfInBounds j true).getD k true=false->k∉B->fD.apart all ok=true/\uV s0 fD ok=true/\(∀t∈L,ok.dst≠some t)/\∀t∈wM ok.op,t∈L:=λk ok ai sT pY iN=>by
   refine pX k ok ai sT ?_ iN;by_cases gN:j=k;.subst gN;exact yx
   rw[getD_set_ne true gN]at pY;exact pY
  refine yw (λgr az=>ih (listed.setIfInBounds j true) gr (λt aQ=>(az.1 t aQ).trans (c3 t aQ)) (λk ai=>by
   have gN:j≠k:=by rintro rfl;exact yy ai
   rw[getD_set_ne true gN];exact sS k ai) Hj (ready_mono aw (Ne.symm iM)) ?_) ae
  rw[Array.setIfInBounds_comm _ _ iM];exact az.2
end
structure V where
 name:ByteArray
 bool:Bool
 lo:Int
 ag:Int
def V.cells(v:V):List D:=[aI v.name,ax v.bool,J v.lo,J v.ag]
def V.d(v:V):D:= .agg v.cells
def bg(l:List V):D:= .aE 4 (l.map V.cells)
def qH(n:Int):D:= .val (.int .u8 n)
def ow(n:Int):Prop:=-9223372036854775808<=n/\n<=9223372036854775807
def V.ok(v:V):Prop:=ow v.lo/\ow v.ag/\v.name.size<=9223372036854775807
def V.span(v:V):Int:=if v.bool then 2 else if v.lo>v.ag then 0 else if v.ag-v.lo<1073741824 then v.ag-v.lo+1 else 1073741825
def bitsOf(n:Int):Nat:=if n<=1 then 0 else Nat.log2 (n-1).toNat+1
def al7{n:Int}{k:Nat}(ad:∀j:Nat,j<k->(2:Int)^j<n)(ae:n<=2^k):bitsOf n=k:=by
 unfold bitsOf;cases k with
 |zero=>simp at ae;simp[ae]
 |succ k=>
  have az:=ad k (by omega);have a1:(0:Int)<2^k:=Int.pow_pos (by omega);rw[xaa (by omega)];have e:Nat.log2 (n-1).toNat=k:=by
   have aB:(2:Nat)^k<=(n-1).toNat:=by
    have:((2^k:Nat):Int)=2^k:=by simp
    omega
   have an:(n-1).toNat<2^(k+1):=by
    have:((2^(k+1):Nat):Int)=2^(k+1):=by simp
    omega
   exact(Nat.log2_eq_iff (by have:=Nat.two_pow_pos k;omega)).2 ⟨aB,an⟩
  omega
def Z1{n:Int}(h:1<n):bitsOf n=bitsOf (n/2+n%2)+1:=by
 unfold bitsOf;rw[xaa (by omega)];by_cases ae:n=2;.subst ae;decide
 rw[xaa (by omega)];have e:(n/2+n%2-1).toNat=(n-1).toNat/2:=by omega
 rw[e];have az:(n-1).toNat≠0:=by omega
 have a3:(n-1).toNat/2≠0:=by omega
 obtain⟨a,b⟩:=(Nat.log2_eq_iff a3).1 rfl;have:Nat.log2 (n-1).toNat=Nat.log2 ((n-1).toNat/2)+1:=by
  refine(Nat.log2_eq_iff az).2 ⟨?_,?_⟩;.rw[Nat.pow_succ];omega
  rw[Nat.pow_succ];omega
 omega
def uW(c:Int):Bool:=(decide (c>=97)&&decide (c<=122))||(decide (c>=65)&&decide (c<=90))
def AK(c:Int):Bool:=decide (c>=48)&&decide (c<=57)
def nN(c:Int):Bool:=uW c||AK c||(c==95)
def Z2{lo ag:Int}(ad:ow lo)(ae:ow ag)(h:lo<=ag):IntKind.u64.wrap (IntKind.u64.wrap ag-IntKind.u64.wrap lo)=ag-lo:=by unfold ow at ad ae;simp only[xcf];omega
def V.Z3{v:V}(h:v.bool=true):v.span=2:=by simp[V.span,h]
def V.Z4{v:V}(h:v.bool=false)(ad:v.lo>v.ag):v.span=0:=by simp[V.span,h,ad]
def V.Su{v:V}(h:v.bool=false)(ad:v.lo<=v.ag)(ae:v.ag-v.lo<1073741824):v.span=v.ag-v.lo+1:=by simp[V.span,h,ae];omega
def V.Sv{v:V}(h:v.bool=false)(ad:v.lo<=v.ag)(ae:1073741824<=v.ag-v.lo):v.span=1073741825:=by simp[V.span,h,ae];omega
def has(x:ByteArray)(l:List ByteArray):Bool:=l.any λy=>decide (y=x)
def idxOf(x:ByteArray)(l:List ByteArray):Int:=match l.findIdx? (λy=>decide (y=x))with|some i=>(i:Nat)|none=>-1
def Z5{x:ByteArray}{l:List ByteArray}(h:∀j:Nat,j<l.length->l[j]?≠some x):idxOf x l=-1:=by
 unfold idxOf;have:l.findIdx? (λy=>decide (y=x))=none:=by rw[List.findIdx?_eq_none_iff];intro y aO;obtain⟨j,aR⟩:=xaK.1 aO;have ad:=h j (xae.1 aR).1;rw[aR]at ad;simpa using ad
 rw[this]
def Z6{x:ByteArray}{l:List ByteArray}{i:Nat}(h:∀j:Nat,j<i->l[j]?≠some x)(ag:l[i]?=some x):idxOf x l=i:=by
 unfold idxOf;obtain⟨bx,cq⟩:=xae.1 ag;have:l.findIdx? (λy=>decide (y=x))=some i:=by rw[xbp];refine⟨bx,by simpa using cq,λj aR=>?_⟩;have ad:=h j aR;rw[xab (by omega)]at ad;simpa using ad
 rw[this]
def Z7(x:ByteArray)(l:List ByteArray):decide (idxOf x l>=0)=has x l:=by
 unfold idxOf has;cases h:l.findIdx? (λy=>decide (y=x))with
 |none=>
  rw[List.findIdx?_eq_none_iff]at h;have:l.any (λy=>decide (y=x))=false:=by rw[List.any_eq_false];intro y aO;simpa using h y aO
  rw[this];rfl
 |some i=>obtain⟨ad,ae,_⟩:=xbp.1 h;have:l.any (λy=>decide (y=x))=true:=xbI.2 ⟨_,xbb ad,ae⟩;rw[this];simp
def Z8{x:ByteArray}{l:List ByteArray}{i:Nat}(h:l[i]?=some x):has x l=true:=xbI.2 ⟨x,xad h,by simp⟩
def Z9{x:ByteArray}{l:List ByteArray}(h:∀j:Nat,j<l.length->l[j]?≠some x):has x l=false:=by unfold has;rw[List.any_eq_false];intro y aO;obtain⟨j,aR⟩:=xaK.1 aO;have ad:=h j (xae.1 aR).1;rw[aR]at ad;simpa using ad
def p1(p:Int->Bool)(s:ByteArray)(i:Nat):Bool:=match s[i]? with|some b=>p b.toNat|none=>false
def o2(p:Int->Bool)(s:ByteArray):Nat:=((List.range (s.size+1)).find? λi=>!p1 p s i).getD 0
theorem M7{s:ByteArray}{i:Nat}:s[i]?=if h:i<s.size then some s[i]else none:=rfl
def al8{p:Int->Bool}{s:ByteArray}{i:Nat}(h:p1 p s i=true):i<s.size:=by
 unfold p1 at h;rw[M7]at h;by_cases ad:i<s.size;.exact ad
 rw[dif_neg ad]at h;cases h
def words:List ByteArray:=[⟨#[65]⟩,⟨#[65,70]⟩,⟨#[65,71]⟩,⟨#[65,88]⟩,⟨#[69]⟩,⟨#[69,70]⟩,⟨#[69,71]⟩,⟨#[69,88]⟩,⟨#[85]⟩,⟨#[98,111,111,108]⟩,⟨#[100,101,102]⟩,⟨#[101,108,115,101]⟩,⟨#[102,97,105,114]⟩,⟨#[102,97,108,115,101]⟩,⟨#[105,102]⟩,⟨#[105,110,105,116]⟩,⟨#[105,110,118,97,114]⟩,⟨#[109,111,100]⟩,⟨#[110,101,120,116]⟩,⟨#[115,112,101,99]⟩,⟨#[116,104,101,110]⟩,⟨#[116,114,97,110,115]⟩,⟨#[116,114,117,101]⟩,⟨#[118,97,114]⟩]
def isName(s:ByteArray):Bool:=decide ((s.size:Int)>=1)&&decide ((s.size:Int)<=24)&&p1 uW s 0&&((o2 nN s:Int)==(s.size:Int))&&!has s words
def aaa(s:ByteArray):(decide (s=⟨#[]⟩)=true/\decide ((s.size:Int)>=1)=false)\/∃b,decide (s=⟨#[]⟩)=false/\decide ((s.size:Int)>=1)=true/\s[0]?=some b:=by
 by_cases h:0<s.size
 .refine .inr ⟨s[0],?_,?_,?_⟩
  .have:s≠⟨#[]⟩:=by rintro rfl;exact absurd h (by decide)
   simpa using this
  .simp;omega
  rw[M7,dif_pos h]
 refine .inl ⟨?_,?_⟩
 .have ao:s.size=0:=by omega
  have:s=⟨#[]⟩:=by
   cases s with|mk d=>
   congr 1
   exact xbm ao
  simpa using this
 simp;omega
def yG(v:V):Bool:=decide ((if v.ag>v.lo then v.ag else v.lo)>255)||decide ((if v.ag<v.lo then v.ag else v.lo)< -255)
def M8(seen:List V)(v:V):Int:=if !isName v.name then 12 else if has v.name (seen.map V.name)then 6 else if v.bool&&(v.lo !=0||v.ag !=0)then 3
 else if !v.bool&&(decide (v.lo>v.ag)||yG v||decide (IntKind.i64.wrap (v.ag-v.lo)>=64))then 2 else 0
def kr(l:List V)(i:Nat):Int:=match l[i]? with|some v=>M8 (l.take i) v|none=>0
def mq(l:List V):Int×Int:=match(List.range l.length).find? (λi=>kr l i !=0)with|some i=>((i:Int),kr l i)|none=>(0,0)
def aab{l:List V}{i:Nat}{e:Int}(h:∀j:Nat,j<i->kr l j=0)(ag:i<l.length)(he:kr l i=e)(ao:e≠0):mq l=((i:Int),e):=by
 unfold mq;have:(List.range l.length).find? (λi=>kr l i !=0)=some i:=by rw[List.find?_range_eq_some];exact⟨by simpa[he]using ao,by simpa using ag,λj aR=>by simp[h j aR]⟩
 rw[this];simp[he]
def aac{l:List V}(h:∀j:Nat,j<l.length->kr l j=0):mq l=(0,0):=by
 unfold mq;have:(List.range l.length).find? (λi=>kr l i !=0)=none:=by rw[List.find?_eq_none];intro j aR;simp[h j (by simpa using aR)]
 rw[this]
def al9{v:V}(aN:v.ok):(!v.bool&&(decide (v.lo>v.ag)||yG v||decide (IntKind.i64.wrap (v.ag-v.lo)>=64)))=(!v.bool&&(decide (v.lo>v.ag)||!(decide (v.lo>=-255)&&decide (v.lo<=255))||!(decide (v.ag>=-255)&&decide (v.ag<=255))||decide (v.span>64))):=by
 cases an:v.bool with
 |true=>rfl
 |false=>
  by_cases ad:v.lo>v.ag;.simp[ad]
  have dN:v.lo<=v.ag:=by omega
  by_cases ae:-255<=v.lo/\v.ag<=255
  .have aZ:yG v=false:=by
    unfold yG;split<;>(try split)<;>simp<;>omega
   have a6:(decide (v.lo>=-255)&&decide (v.lo<=255))=true:=by simp;omega
   have b2:(decide (v.ag>=-255)&&decide (v.ag<=255))=true:=by simp;omega
   rw[V.Su an dN (by omega),aZ,a6,b2,wrap64 _ (by omega) (by omega)];have dh:decide (v.lo>v.ag)=false:=by simpa using dN
   have ey:decide (v.ag-v.lo>=64)=decide (v.ag-v.lo+1>64):=by rw[decide_eq_decide];omega
   rw[dh,ey];rfl
  have aZ:yG v=true:=by unfold yG;split<;>(try split)<;>simp<;>omega
  have a6:(!(decide (v.lo>=-255)&&decide (v.lo<=255))||!(decide (v.ag>=-255)&&decide (v.ag<=255)))=true:=by simp;omega
  rw[aZ];revert a6;generalize decide (v.lo>v.ag)=p;generalize (decide (v.lo>=-255)&&decide (v.lo<=255))=q;generalize (decide (v.ag>=-255)&&decide (v.ag<=255))=r;cases p<;>cases q<;>cases r<;>simp
def ama{l:List V}{x:ByteArray}{i:Nat}(h:∀j:Nat,j<i->(l.map V.name)[j]?≠some x):has x ((l.take i).map V.name)=false:=by refine Z9 λj aR=>?_;rw[xcb,xaY];simp at aR;rw[xac (by omega)];exact h j (by omega)
theorem amb{l:List V}{w:V}{k i:Nat}(ai:k<i)(hw:l[k]?=some w):has w.name ((l.take i).map V.name)=true:=by refine Z8 (i:=k) ?_;rw[xcb,xaY,xac ai,xaj,hw];rfl
end Go.Am
