/- Steps, joins, and nil slices that become rows of our own. No condition. -/
import Derived.Test.YtbninlabhgbhcaaGreatDoorEngB
set_option linter.all false
set_option linter.unnecessarySimpa false
namespace Go.Am
section
variable{P:Program}{T:cn}{G:ds}{N:Nat}{σ:aO}{Q:Exit->aO->Prop}{all:Array Oper}
def alh(l:List Oper):∀(k:Nat)(σ:aO)(K:aO->Prop),(∀j,l[j]?=all[k+j]?)->fU P T G all l K σ->CV P T G all (List.range' k l.length) K σ:=by
 induction l with
 |nil=>intro k σ K _ h;exact h
 |cons o l ih=>
  intro k σ K al h;have ar:all[k]?=some o:=by simpa using(al 0).symm
  simp only[xan,List.range'_succ,CV,ar];refine Gm (λa1 vw=>ih (k+1) a1 K (λj=>by have:=al (j+1);simpa[xbl,Nat.add_comm 1 j]using this) vw) h
def ali(bp:dU P T)(hm:P.follows .mixedOrders=true){id:Nat}{ops:Array Oper}(cj:xr N ops=true)(CX:zx T ops (List.range ops.size) (Array.replicate ops.size false)=true) (h:fU P T G ops ops.toList (Q .normal) σ):hJ P T G N (.region id ops true) σ Q:=by refine akZ bp hm cj (List.range ops.size) (by simp) CX ?_;rw[List.range_eq_range'];have:=alh (P:=P) (T:=T) (G:=G) (all:=ops) ops.toList 0 σ (Q .normal) (λj=>by simp) h;simpa using this
end
section
variable{P:Program}{T:cn}{G:ds}{N:Nat}{σ gL:aO}{Q:Exit->aO->Prop}{id:Nat}{ops:Array Oper}
end
def wrap64(x:Int)(J:-9223372036854775808<=x)(aa:x<=9223372036854775807):IntKind.i64.wrap x=x:=by rw[IntKind.wrap_i64];omega
def Fin(T:cn)(rs:List ResultVar)(R:D->Prop)(e:Exit)(a1:aO):Prop:=(e= .normal\/e= .ret)/\∃r d x,se T a1 rs=some r/\toD a1.objs r=some d/\d.le x/\R x
theorem getD_cons_zero{α:Type}(x:α)(l:List α)(d:α):(x::l).getD 0 d=x:=rfl
theorem getD_cons_succ{α:Type}(x:α)(l:List α)(n:Nat)(d:α):(x::l).getD (n+1) d=l.getD n d:=rfl
def Za{σ:aO}(K:Key)(n:Nat)(vA:Nat->aX)(objs':cD)(hz:σ.objs K=none) (az:∀t,vA t=σ.aQ t\/σ.aQ t= .d (.val (.slice none 0 0))/\vA t= .row K) (aT:∀k o,objs' k=some o->k=K/\o= .row n []\/k≠K/\(σ.objs k=some o\/∃xs i,σ.objs k=some (.box xs)/\xs[i]?=some (.d (.val (.slice none 0 0)))/\o= .box (xs.set i (.row K)))) (pK:∀k,σ.objs k≠none->objs' k≠none) (alj:objs' K=some (.row n [])) (alk:∀k,e3 (σ.objs k)->e3 (objs' k)):hn σ ⟨vA,objs'⟩:=by
 intro m fr ρ a w h;have cp:∀k,σ.used k->k≠K:=by rintro k ⟨o,ai⟩ rfl;rw[hz]at ai;cases ai
 have av:∀k,σ.used k->aO.used ⟨vA,objs'⟩ k/\cv ρ K (.slice none 0 0) k=ρ k:=λk ai=>
  ⟨by
   cases bQ:objs' k with
   |none=>exact absurd bQ (pK k (by obtain⟨o,e⟩:=ai;rw[e];simp))
   |some o=>exact⟨o,bQ⟩,c6 _ _ (cp k ai)⟩
 have alm:aO.used ⟨vA,objs'⟩ K:=⟨_,alj⟩;have C3:cv ρ K (.slice none 0 0) K= .slice none 0 0:=by simp[cv]
 have hG:cg m (cv ρ K (.slice none 0 0)) (aO.used ⟨vA,objs'⟩) (.row K) (.slice none 0 0):=by have:=cg.row (m:=m) (ρ:=cv ρ K (.slice none 0 0)) (U:=aO.used ⟨vA,objs'⟩) K alm;rw[C3]at this;exact this
 refine⟨m,cv ρ K (.slice none 0 0),Mem.le_refl m,⟨h.mem,h.frame,h.apart,?_,?_,?_,?_,?_⟩,?_⟩
 .rintro k ⟨o,ai⟩;rcases aT k o ai with⟨rfl,rfl⟩|⟨J,aa⟩;.rw[C3];rfl
  rw[c6 _ _ J];rcases aa with aa|⟨xs,i,aa,_,_⟩
  .exact h.one k ⟨_,aa⟩
  exact h.one k ⟨_,aa⟩
 .intro t;rcases az t with e|⟨aM,a8⟩
  .show cg m _ _ (vA t) _;rw[e];exact(h.aQ t).mono (Mem.le_refl m) av
  show cg m _ _ (vA t) _;rw[a8];have:=h.aQ t;rw[aM]at this;rw[this.hY];exact hG
 .intro k o ai;rcases aT k o ai with⟨rfl,rfl⟩|⟨J,aa⟩
  .rw[C3];exact .inl ⟨rfl,rfl⟩
  rw[c6 _ _ J];rcases aa with aa|⟨xs,i,aa,ax,rfl⟩
  .exact(h.objs k o aa).mono (Mem.le_refl m) av (λ_ _ _=>rfl)
  obtain⟨b,vs,T,aM,a8,b0,cK⟩:=(h.objs k _ aa).mono (Mem.le_refl m) av (λ_ _ _=>rfl);refine⟨b,vs,T,aM,a8,by simpa using b0,?_⟩;intro j c x ah ad;rw[List.getElem?_set]at ah;split at ah
  .rename_i j0;subst j0;split at ah;.cases ah;have:=cK i _ x ax ad;rw[this.hY];exact hG
   cases ah
  exact cK j c x ah ad
 .intro k o b ai aln aj;rcases aT k o ai with⟨rfl,rfl⟩|⟨J,aa⟩
  .have eT:blockOf (cv ρ k (.slice none 0 0) k)=some b:=aj;rw[C3]at eT;cases eT
  have eT:blockOf (cv ρ K (.slice none 0 0) k)=some b:=aj;rw[c6 _ _ J]at eT;rcases aa with aa|⟨xs,i,aa,_,rfl⟩
  .exact h.own k o b aa aln eT
  exact h.own k _ b aa rfl eT
 .intro k bG o o' b dA ai fs eK iW aj;rcases aT k o ai with⟨rfl,rfl⟩|⟨J,aa⟩
  .have eT:blockOf (cv ρ k (.slice none 0 0) k)=some b:=aj;rw[C3]at eT;cases eT
  rw[c6 _ _ J]at aj;rcases aT bG o' fs with⟨rfl,rfl⟩|⟨dS,gT⟩
  .rw[C3];intro bQ;cases bQ
  rw[c6 _ _ dS];have hold:∃p,σ.objs k=some p/\p.owns=true:=by
   rcases aa with aa|⟨xs,i,aa,_,rfl⟩;.exact⟨_,aa,eK⟩
   exact⟨_,aa,rfl⟩
  have alo:∃p,σ.objs bG=some p/\p.owns=true:=by
   rcases gT with gT|⟨xs,i,gT,_,rfl⟩;.exact⟨_,gT,iW⟩
   exact⟨_,gT,rfl⟩
  obtain⟨p,bN,bO⟩:=hold;obtain⟨pE,alp,alq⟩:=alo;exact h.sep k bG p pE b dA bN alp bO alq aj
 intro k ai aj;refine⟨alk k aj,c6 _ _ ?_⟩;obtain⟨c,ah⟩:=CN aj;exact cp k ⟨_,ah⟩
def alr{σ:aO}(t:Nat)(K:Key)(n:Nat)(aP:σ.aQ t= .d (.val (.slice none 0 0)))(hz:σ.objs K=none):hn σ ⟨cv σ.aQ t (.row K),cv σ.objs K (some (.row n []))⟩:=by
 refine Za K n _ _ hz ?_ ?_ ?_ (by simp[cv]) ?_
 .intro j;by_cases h:j=t;.subst h;exact .inr ⟨aP,by simp[cv]⟩
  exact .inl (by simp[cv,h])
 .intro k o ai;by_cases h:k=K;.subst h;simp[cv]at ai;exact .inl ⟨rfl,ai.symm⟩
  rw[c6 _ _ h]at ai;exact .inr ⟨h,.inl ai⟩
 .intro k ai;by_cases h:k=K;.subst h;simp[cv]
  rw[c6 _ _ h];exact ai
 intro k aj;have h:k≠K:=by rintro rfl;rw[hz]at aj;exact vr aj
 rw[c6 _ _ h];exact aj
def als{σ:aO}(k:Key)(i:Nat)(K:Key)(n:Nat){xs:List aX}(ai:σ.objs k=some (.box xs))(ag:xs[i]?=some (.d (.val (.slice none 0 0))))(hz:σ.objs K=none):hn σ ⟨σ.aQ,cv (cv σ.objs k (some (.box (xs.set i (.row K))))) K (some (.row n []))⟩:=by
 have aC8:k≠K:=by rintro rfl;rw[hz]at ai;cases ai
 refine Za K n _ _ hz (λ_=> .inl rfl) ?_ ?_ (by simp[cv]) ?_
 .intro j o aA;by_cases h:j=K;.subst h;simp[cv]at aA;exact .inl ⟨rfl,aA.symm⟩
  rw[c6 _ _ h]at aA;by_cases aa:j=k;.subst aa;simp[cv]at aA;exact .inr ⟨h,.inr ⟨xs,i,ai,ag,aA.symm⟩⟩
  rw[c6 _ _ aa]at aA;exact .inr ⟨h,.inl aA⟩
 .intro j aA;by_cases h:j=K;.subst h;simp[cv]
  rw[c6 _ _ h];by_cases aa:j=k;.subst aa;simp[cv]
  rw[c6 _ _ aa];exact aA
 intro j aj;have h:j≠K:=by rintro rfl;rw[hz]at aj;exact vr aj
 rw[c6 _ _ h];by_cases aa:j=k;.subst aa;rw[ff];exact vq
 rw[c6 _ _ aa];exact aj
def alu{σ:aO}(t:Nat)(K:Key)(n:Nat){es:List (List D)}(aP:σ.aQ t= .row K)(ai:σ.objs K=some (.row n es)):hn σ ⟨cv σ.aQ t (.sub K n 0 es.length),σ.objs⟩:=by
 intro m fr ρ a w h;refine⟨m,ρ,Mem.le_refl m,⟨h.mem,h.frame,h.apart,h.one,?_,h.objs,h.own,h.sep⟩,lp.refl _ _⟩;intro s;by_cases az:s=t
 .subst az;have J:=h.aQ s;rw[aP]at J;show cg m _ _ (cv σ.aQ s _ s) _;rw[ff];generalize a.tmps.getD s undef=v at*;cases J with|row _ hu=>
  rcases h.objs _ _ ai with⟨aM,a8⟩|⟨b,o,cap,vs,dY,aM,a8,b0,cK,dJ,eX⟩;.rw[aM,a8];exact .kb K n 0 hu aM
  rw[aM];exact cg.sub (m:=m) (ρ:=ρ) (U:=σ.used) K n 0 es.length b o es.length cap o hu aM (by omega) ⟨λ_=>by simp,by omega⟩
 show cg m _ _ (cv σ.aQ t _ s) _;rw[c6 _ _ az];exact h.aQ s
def alv{T:cn}{ev:Operand->aX}{objs:cD}{d:Key}{o:Op}{r:aX}{cF:List (Key×cX)}(h:eF T ev objs d o=some (r,cF))(gU:∀t a x,o≠ .store t a x):∀j c,objs j=some (.box c)->dM objs cF j=some (.box c):=by
 have Mf:∀{objs:cD}{k:Key}{o:cX},(∀c,objs k≠some (.box c))->∀j c,objs j=some (.box c)->cv objs k (some o) j=some (.box c):=by
  intro objs k o ai j c aA;have:j≠k:=by rintro rfl;exact ai c aA
  rw[c6 _ _ this];exact aA
 have new:∀{o:cX},objs d=none->∀j c,objs j=some (.box c)->dM objs [(d,o)] j=some (.box c):=by intro o ay;exact Mf (by intro c ah;rw[ay]at ah;cases ah)
 have same:∀{k:Key}{dZ o:cX},objs k=some dZ->(∀c,dZ≠ .box c)->∀j c,objs j=some (.box c)->dM objs [(k,o)] j=some (.box c):=by intro k dZ o ai cp;exact Mf (by intro c ah;rw[ai]at ah;cases ah;exact cp c rfl)
 cases o<;>simp only[eF,reduceCtorEq]at h
 case alloc=>split at h<;>cases h;exact new (by assumption)
 case box=>split at h<;>cases h;exact new (by assumption)
 case buildSlice=>
  split at h
  case h_2=>cases h
  split at h
  case h_2=>cases h
  split at h
  case h_2=>cases h
  split at h<;>cases h;exact new (by assumption)
 case makeSlice=>
  split at h
  case h_2=>cases h
  split at h
  case h_2=>cases h
  split at h
  case h_2=>cases h
  split at h<;>cases h;exact new (by assumption)
 case makeMap=>split at h<;>cases h;exact new (by assumption)
 case store=>exact absurd rfl (gU _ _ _)
 case mapUpdate=>
  split at h
  case h_2=>cases h
  split at h
  case h_2=>cases h
  split at h
  case isFalse=>cases h
  split at h
  case h_2=>cases h
  split at h
  case h_2=>cases h
  split at h<;>cases h;exact same (by assumption) (by intro c ah;cases ah)
 case insert=>
  split at h
  case h_2=>cases h
  split at h
  case h_2=>cases h
  split at h
  case isFalse=>cases h
  split at h
  case h_2=>cases h
  split at h
  case h_2=>cases h
  split at h<;>cases h;exact same (by assumption) (by intro c ah;cases ah)
 case call=>
  split at h
  .split at h
   case h_2=>cases h
   split at h
   case h_2=>cases h
   split at h
   case h_2=>cases h
   split at h
   case h_2=>cases h
   split at h
   case isFalse=>cases h
   split at h;.split at h<;>cases h;exact new (by assumption)
   .split at h
    case h_2=>cases h
    split at h<;>cases h;rename_i ay _ _ _ _ _ _ _ _ _ _ _ _ ai _ _;have hR:=same (o:= .dead) (by assumption) (by intro c ah;cases ah);intro j bc aA;have J:=hR j bc aA;refine Mf ?_ j bc J;intro c aj;have cp:∀key x,objs key=some x->d≠key:=by
     rintro key x ad rfl;have ar:objs d=none:=by assumption
     rw[ar]at ad;cases ad
    rw[c6 _ _ (cp _ _ (by assumption))]at aj;clear Mf new same hR J cp
    simp_all
   cases h
  .split at h
   case h_2=>cases h
   split at h
   case h_2=>cases h
   split at h
   case h_2=>cases h
   split at h
   case h_2=>cases h
   split at h
   case isFalse=>cases h
   split at h
   .split at h
    case h_2=>cases h
    split at h<;>cases h;exact same (by assumption) (by intro c ah;cases ah)
   .split at h
    case h_2=>cases h
    split at h<;>cases h;exact same (by assumption) (by intro c ah;cases ah)
   cases h
  .split at h
   case h_2=>cases h
   split at h
   case h_2=>cases h
   split at h
   case h_2=>cases h
   split at h
   case h_2=>cases h
   split at h
   case h_2=>cases h
   split at h<;>cases h;exact same (by assumption) (by intro c ah;cases ah)
  cases h
def alw{T:cn}{ev:Operand->aX}{objs:cD}{d:Key}{o:Op}{r:aX}{cF:List (Key×cX)}(h:hy T ev objs d o=some (r,cF))(gU:∀t a x,o≠ .store t a x):∀j c,objs j=some (.box c)->dM objs cF j=some (.box c):=by
 obtain⟨⟨jG,tJ⟩,ar,aj⟩:=xb h;have J:=alv ar gU;intro j c aA;have aa:=J j c aA;rcases zr (T.born d) d jG tJ with e|⟨n,es,rfl,rfl,e⟩|⟨q5,n,es,rfl,rfl,e⟩|⟨off,cs,aR,rfl,rfl,eS,e⟩
 .rw[aj]at e;cases e;exact aa
 .rw[aj]at e;cases e;by_cases ay:j=d;.subst ay;simp only[dM,ff]at aa;cases aa
  simp only[dM,c6 _ _ ay]at aa⊢;exact aa
 .rw[aj]at e;cases e;by_cases ay:j=d;.subst ay;simp only[dM,ff]at aa;cases aa
  simp only[dM,c6 _ _ ay]at aa⊢;exact aa
 rw[aj]at e;cases e;have aN:objs d=none:=Yz ar;by_cases ay:j=d
 .subst ay;rw[aN]at aA;cases aA
 simp only[dM,c6 _ _ ay];exact aA
section
variable{P:Program}{T:cn}{G:ds}{all:Array Oper}
def alx{y:Oper}{σ:aO}{K K':aO->Prop}(gU:∀t a x,y.op≠ .store t a x)(ai:∀objs r,(∀j c,σ.objs j=some (.box c)->objs j=some (.box c))->K (aO.put ⟨σ.aQ,objs⟩ y.dst r)->K' (aO.put ⟨σ.aQ,objs⟩ y.dst r)) (h:dh P T G y K σ):dh P T G y K' σ:=by
 unfold dh at*;rw[xh]at*;cases av:res T G σ y with
 |none=>simp only[av,xbz]at h⊢;exact Gh h λr av=>ai σ.objs r (λ_ _ h=>h) av
 |some p=>
  simp only[av,xaJ]at h⊢;refine ai _ _ ?_ h;intro j c aA;obtain⟨r,cF⟩:=p;unfold res at av;split at av;.cases av;exact aA
  split at av;.cases av;exact aA
  exact alw av gU j c aA
def Zb{t a k off:Nat}{σ:aO}{x:Oper}(ad:x.op= .load t (.tmp a))(az:σ.aQ a= .ptr k off){K:aO->Prop}(h:dh P T G x K σ): ∃r,K (σ.put x.dst r)/\∀objs,(∀j c,σ.objs j=some (.box c)->objs j=some (.box c))->res T G ⟨σ.aQ,objs⟩ x=some (r,[]):=by
 unfold dh at h;rw[xh]at h;cases av:res T G σ x with
 |none=>simp only[av,xbz]at h;unfold jX at h;rw[ad]at h;exact h.elim
 |some p=>
  simp only[av,xaJ]at h;obtain⟨r,cF⟩:=p;unfold res at av;rw[ad]at av;simp only[eM,dI,cm,az,hy,eF,xbz]at av;cases bp:T t with
  |none=>simp[bp]at av
  |some i=>
   simp only[bp]at av;cases ai:σ.objs k with
   |none=>simp[ai]at av
   |some o=>
    cases o with
    |box cells=>simp only[ai]at av;cases aU:w3 i cells off with|none=>simp[aU]at av|some q=>simp only[aU,xaE,Prod.mk.injEq]at av;obtain⟨rfl,rfl⟩:=av;refine⟨q,h,λobjs aT=>?_⟩;unfold res;rw[ad];simp only[eM,dI,cm,az,bp,aT k cells ai,aU]
    |dead=>simp[ai]at av|row=>simp[ai]at av|map=>simp[ai]at av
def Zc{x y:Oper}{σ:aO}{K:aO->Prop}{t a k off:Nat}(ad:x.op= .load t (.tmp a))(nD:x.guard=none)(az:σ.aQ a= .ptr k off)(gU:∀t a x,y.op≠ .store t a x)(nA:x.apart all y=true) (h:eN P T G all x (λgL=>eN P T G all y K gL) σ):eN P T G all y (λgm=>eN P T G all x K gm) σ:=by
 obtain⟨aI,a2,a3⟩:=Oper.apart_spec nA;have pH:∀d,y.dst=some d->x.dst≠some d:=λd ay ad=>a2 d ad ay;have lK:∀(K:aO->Prop) σ,eN P T G all x K σ=dh P T G x K σ:=λK σ=>by unfold eN;simp only[nD]
 simp only[lK]at h⊢;obtain⟨r,J,aa⟩:=Zb ad az h;have Gz:∀(K:aO->Prop) objs,(∀j c,σ.objs j=some (.box c)->objs j=some (.box c))->dh P T G x K ⟨σ.aQ,objs⟩=K (aO.put ⟨σ.aQ,objs⟩ x.dst r):=λK objs aT=>mV (aa objs aT);rw[h1,pG aI]at J;rw[h1];split at J
 .rename_i hw
  try simp only[hw]
  rw[jY aI a2]at J;refine alx gU (λobjs q aT ai=>?_) J;rw[jY a3 pH,Gz _ _ aT,put_comm a2];exact ai
 .rename_i hw
  try simp only[hw]
  show dh P T G x K (σ.put y.dst _);rw[jY a3 pH];have:=Gz (λa1=>K (a1.put y.dst (.d (.val (.tuple #[]))))) σ.objs (λ_ _ h=>h);have e:dh P T G x (λa1=>K (a1.put y.dst (.d (.val (.tuple #[]))))) σ=K ((σ.put x.dst r).put y.dst (.d (.val (.tuple #[])))):=this;rw[e];exact J
 exact J.elim
def aly{y:Oper}{σ:aO}{K:aO->Prop}{a:Nat}(ay:y.dst≠some a)(h:eN P T G all y K σ):eN P T G all y (λa1=>a1.aQ a=σ.aQ a/\K a1) σ:=by
 have aU:∀(objs:cD)(r:aX),(aO.put ⟨σ.aQ,objs⟩ y.dst r).aQ a=σ.aQ a:=λobjs r=>by
  cases aH:y.dst with
  |none=>rfl
  |some d=>
   have:a≠d:=by rintro rfl;exact ay aH
   simp only[aO.put,c6 _ _ this]
 rw[h1]at h⊢;split at h
 .rename_i hw
  try simp only[hw]
  exact xl (λobjs r ai=>⟨aU objs r,ai⟩) h
 .rename_i hw
  try simp only[hw]
  exact⟨aU σ.objs _,h⟩
 exact h.elim
def alz{K:aO->Prop}{i:Nat}{fw:Oper}{t a k off:Nat}(ag:all[i]?=some fw)(ad:fw.op= .load t (.tmp a))(nD:fw.guard=none){B:List Nat}(eU:∀j dd,j∈B->all[j]?=some dd->∃e∈dd.after,Region.binds .any e=true/\(e.on=i\/e.on∈B)):∀(fuel:Nat)(listed:Array Bool)(σ:aO),σ.aQ a= .ptr k off->(∀j,j∈B->listed.getD j true=false)->(∀j dd,all[j]?=some dd->j≠i->listed.getD j true=false->j∉B->fw.apart all dd=true/\∀t a x,dd.op≠ .store t a x)->i∈Region.ready .any all listed->ia P T G all i (jJ P T G all K fuel (listed.setIfInBounds i true)) σ->jJ P T G all K (fuel+1) listed σ:=by
 intro fuel
 induction fuel with
 |zero=>
  intro listed σ cL sb pI av H;refine⟨λh=>(by rw[h]at av;cases av),λj aA=>?_⟩;by_cases iU:j=i;.subst iU;exact H
  have hm:=ready_mono aA iU;exfalso;have key:Region.ready .any all (listed.setIfInBounds i true)=[]:=by unfold ia at H;simp only[ag]at H;unfold eN at H;simp only[nD]at H;obtain⟨r,J,_⟩:=Zb ad cL H;exact J.1
  rw[key]at hm;cases hm
 |succ fuel ih=>
  intro listed σ cL sb pI av H;refine⟨λh=>(by rw[h]at av;cases av),λj aA=>?_⟩;by_cases iU:j=i;.subst iU;exact H
  obtain⟨xn,dd,jK,fl⟩:=xbU.1 aA;have vo:∀k,listed.getD k true=false->listed[k]?.getD false=true->False:=λk ar J=>by
   rcases xaT k listed.size with bB|bB;.simp[bB]at ar J;rw[ar]at J;cases J
   simp[Array.getElem?_eq_none bB]at J
  have xo:j∉B:=λGq=>by
   obtain⟨e,he,aj,nC⟩:=eU j dd Gq jK;have J:=fl e he aj;rcases nC with nC|nC
   .rw[nC]at J;exact vo i (xbU.1 av).1 (by simpa using J)
   exact vo _ (sb _ nC) (by simpa using J)
  obtain⟨ei,eu⟩:=pI j dd jK iU xn xo;have J:ia P T G all i (λgL=>ia P T G all j (jJ P T G all K fuel ((listed.setIfInBounds i true).setIfInBounds j true)) gL) σ:=xm (λgL vw=>vw.2 j (ready_mono aA iU)) H;have RA:dd.dst≠some a:=λay=>by obtain⟨_,_,a3⟩:=Oper.apart_spec ei;refine a3 a ay ?_;unfold Oper.looksAt;rw[ad];simp[Op.operands]
  have aa:ia P T G all j (λgm=>gm.aQ a=σ.aQ a/\ia P T G all i (jJ P T G all K fuel ((listed.setIfInBounds i true).setIfInBounds j true)) gm) σ:=by unfold ia at J⊢;simp only[ag,jK]at J⊢;exact aly RA (Zc ad nD cL eu ei J)
  have Gr:∀k ok,all[k]?=some ok->k≠i->(listed.setIfInBounds j true).getD k true=false->k∉B->fw.apart all ok=true/\∀t a x,ok.op≠ .store t a x:=λk ok ai sc pJ gU=>by
   refine pI k ok ai sc ?_ gU;by_cases fA:j=k;.subst fA;exact xn
   rw[getD_set_ne true fA]at pJ;exact pJ
  refine xm (λgm ax=>ih (listed.setIfInBounds j true) gm (ax.1.trans cL) (λk ai=>by
   have fA:j≠k:=by rintro rfl;exact xo ai
   rw[getD_set_ne true fA];exact sb k ai) Gr (ready_mono av (xbY iU)) ?_) aa
  rw[Array.setIfInBounds_comm _ _ iU];exact ax.2
end
section
variable{P:Program}{T:cn}{G:ds}{all:Array Oper}
def C4:aX->Option Key
 | .ptr k _=>some k| .gJ k _ _ _=>some k|_=>none
def keyOf(aQ:Nat->aX):Operand->Option Key
 | .tmp a=>C4 (aQ a)|_=>none
theorem RB{aQ:Nat->aX}(x:Operand):C4 (cm G aQ x)=keyOf aQ x:=by cases x with|tmp a=>rfl|const v=>rfl|func f=>rfl|global g=>simp only[cm,keyOf];split<;>rfl
def vB(aQ:Nat->aX):Operand->Bool
 | .tmp a=>match aQ a with| .d _=>true|_=>false
 | .const _=>true|_=>false
def vC(aQ:Nat->aX)(k:Key):Op->Bool
 | .store _ a _=>match keyOf aQ a with|some bG=>bG !=k|none=>false
 |_=>false
def Mg:Op->Bool
 | .store _ _ _=>true|_=>false
def GA(aQ:Nat->aX):Operand->Bool
 | .tmp a=>match aQ a with| .ptr _ _=>true|_=>false
 |_=>false
def alA:aX->Bool
 | .d _=>true| .dV _ _=>true|_=>false
def rh(aQ:Nat->aX):Operand->Bool
 | .tmp a=>alA (aQ a)|_=>false
def vD(aQ:Nat->aX):Op->Bool
 | .load _ a=>rh aQ a| .indexAddr _ x _=>rh aQ x| .lookup _ m _ _=>rh aQ m| .slice _ x _ _ none=>rh aQ x| .call ⟨.builtin .len,args,_⟩=>args.toList.all (rh aQ)|_=>false
def tR(aQ:Nat->aX)(x y:Oper):Bool:=pass x y||vD aQ x.op||match x.op with
 | .binOp _ _ a b _=>vB aQ a&&vB aQ b| .load _ a=>match keyOf aQ a with|some k=>(GA aQ a&&!Mg y.op)||jg y.op||jI y.op||hP y.op||vC aQ k y.op|none=>false
 | .indexAddr _ _ _=>jg y.op||jI y.op||hP y.op||Mg y.op| .store _ a _=>match keyOf aQ a with|some k=>vC aQ k y.op|none=>false
 |_=>false
def RC(k:Key)(o o':cD):Prop:=o' k=o k
def C5(o o':cD):Prop:=∀k n es,o k=some (.row n es)->∃gl,o' k=some (.row n gl)/\gl.length=es.length
def alB{y:Oper}{σ:aO}{K K':aO->Prop}{R:cD->Prop}(ar:R σ.objs)(hS:∀r cF,res T G σ y=some (r,cF)->R (dM σ.objs cF))(ai:∀objs r,R objs->K (aO.put ⟨σ.aQ,objs⟩ y.dst r)->K' (aO.put ⟨σ.aQ,objs⟩ y.dst r)) (h:dh P T G y K σ):dh P T G y K' σ:=by unfold dh at*;rw[xh]at*;cases av:res T G σ y with|none=>simp only[av,xbz]at h⊢;exact Gh h λr av=>ai σ.objs r ar av|some p=>simp only[av,xaJ]at h⊢;obtain⟨r,cF⟩:=p;exact ai _ _ (hS r cF av) h
def Zd{σ:aO}{y:Oper}(h:(jg y.op||jI y.op||hP y.op)=true){r:aX}{cF:List (Key×cX)}(av:res T G σ y=some (r,cF)):cF=[]:=by
 unfold res at av;split at av;.cases av;rfl
 split at av;.cases av;rfl
 simp only[xbk]at h;rcases h with(h|h)|h
 .rw[(CQ h).2]at av;cases av
 .rw[CR h]at av;cases av
 rw[(Rm (T:=T) (ev:=cm G σ.aQ) (objs:=σ.objs) (d:=y.dst.getD 9999) h).2.2]at av;cases av
def RD{σ:aO}{y:Oper}{t:TypeId}{a x:Operand}(aH:y.op= .store t a x){r:aX}{cF:List (Key×cX)}(av:res T G σ y=some (r,cF)): ∃k o o',keyOf σ.aQ a=some k/\cF=[(k,o')]/\σ.objs k=some o/\((∃c iC,o= .box c/\o'= .box iC)\/∃n es gl,o= .row n es/\o'= .row n gl/\gl.length=es.length):=by
 rw[<-RB (G:=G)];unfold res at av;rw[aH]at av;simp only[eM,dI,Yq,eF]at av;split at av
 case h_2=>cases av
 split at av
 case isFalse=>cases av
 split at av
 .rename_i k off he;split at av
  case h_2=>cases av
  rename_i cells aT;split at av<;>cases av;exact⟨k,_,_,by rw[he];rfl,rfl,aT,.inl ⟨_,_,rfl,rfl⟩⟩
 .rename_i k cY e0 off he;split at av
  case h_2=>cases av
  rename_i bG es aR aT ay;split at av
  case isFalse=>cases av
  rename_i ah;split at av<;>cases av;exact⟨k,_,_,by rw[he];rfl,rfl,aT,.inr ⟨cY,es,_,by rw[ah.1],rfl,by simp⟩⟩
 cases av
def GB{objs:cD}{k:Key}{o:cX}(j:Key):dM objs [(k,o)] j=if j=k then some o else objs j:=by
 by_cases h:j=k;.subst h;simp[dM,ff]
 simp[dM,c6 _ _ h,h]
def alC{σ:aO}{y:Oper}{k:Key}(h:(jg y.op||jI y.op||hP y.op||vC σ.aQ k y.op)=true){r:aX}{cF:List (Key×cX)}(av:res T G σ y=some (r,cF)):RC k σ.objs (dM σ.objs cF):=by
 rcases xbM.1 h with h|h;.rw[Zd h av];rfl
 unfold vC at h;split at h
 case h_2=>cases h
 rename_i t a x aH;obtain⟨bG,o,o',J,rfl,aa,_⟩:=RD aH av;rw[J]at h;simp only[bne_iff_ne,ne_eq]at h;show dM σ.objs [(bG,o')] k=σ.objs k;rw[GB,xae (λe=>h e.symm)]
theorem C5.refl(o:cD):C5 o o:=λk n es h=>⟨es,h,rfl⟩
def alD{σ:aO}{y:Oper}(h:(jg y.op||jI y.op||hP y.op||Mg y.op)=true){r:aX}{cF:List (Key×cX)}(av:res T G σ y=some (r,cF)):C5 σ.objs (dM σ.objs cF):=by
 rcases xbM.1 h with h|h;.rw[Zd h av];exact C5.refl _
 unfold Mg at h;split at h
 case h_2=>cases h
 rename_i t a x aH;obtain⟨bG,o,o',J,rfl,aa,ax⟩:=RD aH av;intro k n es ai;rw[GB];by_cases e:k=bG
 .subst e;rw[xac rfl];rw[aa]at ai;rcases ax with⟨c,iC,rfl,rfl⟩|⟨m,aC9,alE,rfl,rfl,al⟩
  .cases ai
  cases ai;exact⟨alE,rfl,al⟩
 rw[xae e];exact⟨es,ai,rfl⟩
def Looks(T:cn)(G:ds)(x:Oper)(aQ:Nat->aX)(o:cD)(R:cD->Prop):Prop:=∀r cF,res T G ⟨aQ,o⟩ x=some (r,cF)->cF=[]/\∀o',R o'->res T G ⟨aQ,o'⟩ x=some (r,[])
def Mh{x y:Oper}{σ:aO}{K:aO->Prop}{R:cD->Prop}(nD:x.guard=none)(Gj:hP x.op=false)(nA:x.apart all y=true)(al:Looks T G x σ.aQ σ.objs R)(ar:R σ.objs)(hS:∀r cF,res T G σ y=some (r,cF)->R (dM σ.objs cF)) (h:eN P T G all x (λgL=>eN P T G all y K gL) σ):eN P T G all y (λgm=>eN P T G all x K gm) σ:=by
 obtain⟨aI,a2,a3⟩:=Oper.apart_spec nA;have pH:∀d,y.dst=some d->x.dst≠some d:=λd ay ad=>a2 d ad ay;have lK:∀(K:aO->Prop) σ,eN P T G all x K σ=dh P T G x K σ:=λK σ=>by unfold eN;simp only[nD]
 simp only[lK]at h⊢;have vk:res T G σ x≠none:=by intro aN;rw[oL aN]at h;have:=zt h;rw[Gj]at this;cases this
 obtain⟨p,aU⟩:=Option.ne_none_iff_exists'.1 vk;obtain⟨r,cF⟩:=p;obtain⟨rfl,aa⟩:=al r cF aU;have J:eN P T G all y K (σ.put x.dst r):=by rw[mV aU]at h;exact h
 have Gz:∀(K:aO->Prop) objs,R objs->dh P T G x K ⟨σ.aQ,objs⟩=K (aO.put ⟨σ.aQ,objs⟩ x.dst r):=λK objs aT=>mV (aa objs aT);rw[h1,pG aI]at J;rw[h1];split at J
 .rename_i hw
  try simp only[hw]
  rw[jY aI a2]at J;refine alB ar hS (λobjs q aT ai=>?_) J;rw[jY a3 pH,Gz _ _ aT,put_comm a2];exact ai
 .rename_i hw
  try simp only[hw]
  show dh P T G x K (σ.put y.dst _);rw[jY a3 pH];have e:dh P T G x (λa1=>K (a1.put y.dst (.d (.val (.tuple #[]))))) σ=K ((σ.put x.dst r).put y.dst (.d (.val (.tuple #[])))):=Gz (λa1=>K (a1.put y.dst (.d (.val (.tuple #[]))))) σ.objs ar;rw[e];exact J
 exact J.elim
def Ze{aQ:Nat->aX}{x:Operand}(h:vB aQ x=true):∃d,cm G aQ x= .d d:=by
 unfold vB at h;split at h
 .split at h;.rename_i d ay;exact⟨d,ay⟩
  cases h
 .exact⟨_,rfl⟩
 cases h
def alF(o o':cD)(x:D):nz o (.d x)=nz o' (.d x):=by
 unfold nz;split<;>first|rfl|(rename_i h;cases h)|skip
 all_goals rfl
def GC{aQ:Nat->aX}{x:Operand}(h:rh aQ x=true):(∃d,cm G aQ x= .d d)\/∃cs off,cm G aQ x= .dV cs off:=by
 cases x with
 |tmp a=>simp only[rh]at h;show(∃d,aQ a= .d d)\/∃cs off,aQ a= .dV cs off;generalize aQ a=v at h;cases v<;>first|exact .inl ⟨_,rfl⟩|exact .inr ⟨_,_,rfl⟩|cases h
 |_=>cases h
def Zf(o o':cD)(x:D):kA o (.d x)=kA o' (.d x):=by
 unfold kA;split<;>first|rfl|(rename_i h;cases h)|skip
 all_goals rfl
theorem alG(o o':cD)(cs:List D)(off:Nat):kA o (.dV cs off)=kA o' (.dV cs off):=rfl
def alH{aQ:Nat->aX}{op:Op}(h:vD aQ op=true)(o o':cD):dI T (cm G aQ) o op=dI T (cm G aQ) o' op:=by
 cases op<;>simp only[vD,xar]at h
 case load t a=>rcases GC (G:=G) h with⟨d,e⟩|⟨cs,off,e⟩<;>simp only[dI,e]
 case indexAddr t x i=>
  rcases GC (G:=G) h with⟨d,e⟩|⟨cs,off,e⟩;.simp only[dI,e];cases d<;>rfl
  simp only[dI,e]
 case lookup t m k ok=>
  rcases GC (G:=G) h with⟨d,e⟩|⟨cs,off,e⟩
  .simp only[dI,e];split
   .cases d<;>first|rfl|skip
    rename_i v;cases v<;>first|rfl|skip
    rename_i q;cases q<;>rfl
   rfl
  simp only[dI,e]
 case slice t x lo ag gj=>
  cases gj with
  |some _=>cases h
  |none=>
   simp only at h;rcases GC (G:=G) h with⟨d,e⟩|⟨cs,off,e⟩
   .simp only[dI,e,Zf o o' d];cases d<;>rfl
   simp only[dI,e,alG o o' cs off]
 case call c=>
  obtain⟨callee,args,dN⟩:=c;cases callee with
  |value=>rfl|invoke=>rfl
  |builtin b=>
   cases b<;>first|rfl|skip
   simp only at h;simp only[dI];split
   .rename_i t x aM a8;rw[a8]at h;simp only[xbg,xcn,xbw]at h;rcases GC (G:=G) h with⟨d,e⟩|⟨cs,off,e⟩
    .simp only[e];cases bp:T t with
     |none=>rfl
     |some i=>
      obtain⟨aR,s,b,z⟩:=i;cases aR
      case map k q=>
       cases d
       case val v=>
        cases v
        case map r=>cases r<;>rfl
        all_goals rfl
       all_goals rfl
      case slice q=>simp only[Zf o o' d]
      case string=>
       cases d
       case val v=>cases v<;>rfl
       all_goals rfl
      all_goals rfl
    simp only[e];cases bp:T t with|none=>rfl|some i=>obtain⟨aR,s,b,z⟩:=i;cases aR<;>rfl
   rfl
def Zg{aQ:Nat->aX}{op:Op}(h:vD aQ op=true):jI op=true:=by
 cases op<;>simp only[vD,xar]at h<;>first|rfl|skip
 case call c=>
  obtain⟨callee,args,dN⟩:=c;cases callee with
  |value=>cases h
  |invoke=>cases h
  |builtin b=>cases b<;>first|rfl|cases h
def alI{x:Oper}{aQ:Nat->aX}{o:cD}(h:vD aQ x.op=true):Looks T G x aQ o (λ_=>True):=by
 intro r cF av;have hm:=Zg h;unfold res at av;split at av
 .rename_i u hu;cases av;refine⟨rfl,λo' _=>?_⟩;unfold res;simp only[hu]
 rename_i aU;split at av;.rename_i u hu;cases av;refine⟨rfl,λo' _=>?_⟩;unfold res;simp only at hu;simp only[aU,alH h o' o,hu]
 rw[CR hm]at av;cases av
def alJ{x:Oper}{op:BinOp}{t:TypeId}{a b:Operand}{q:TypeId}(ad:x.op= .binOp op t a b q){aQ:Nat->aX}{o:cD}(aG:vB aQ a=true)(aj:vB aQ b=true):Looks T G x aQ o (λ_=>True):=by
 intro r cF av;obtain⟨d1,aM⟩:=Ze (G:=G) aG;obtain⟨d2,a8⟩:=Ze (G:=G) aj;unfold res at av;rw[ad]at av;cases aU:eM T (cm G aQ) (.binOp op t a b q)with
 |some u=>rw[aU]at av;cases av;refine⟨rfl,λo' _=>?_⟩;unfold res;rw[ad,aU]
 |none=>
  rw[aU]at av;simp only at av;have hm:∀o',dI T (cm G aQ) o' (.binOp op t a b q)=dI T (cm G aQ) o (.binOp op t a b q):=by intro o';simp only[dI,aM,a8,alF o' o]
  cases hL:dI T (cm G aQ) o (.binOp op t a b q)with
  |some u=>rw[hL]at av;cases av;refine⟨rfl,λo' _=>?_⟩;unfold res;rw[ad,aU];simp only[hm o',hL]
  |none=>rw[hL]at av;simp[hy,eF]at av
def alK{x:Oper}{t:TypeId}{a:Operand}{k:Key}(ad:x.op= .load t a){aQ:Nat->aX}{o:cD}(aG:keyOf aQ a=some k):Looks T G x aQ o (RC k o):=by
 intro r cF av;have he:C4 (cm G aQ a)=some k:=by rw[RB];exact aG
 unfold res at av;rw[ad]at av;simp only[eM]at av;have hm:∀o',o' k=o k->dI T (cm G aQ) o' (.load t a)=dI T (cm G aQ) o (.load t a):=by
  intro o' aT;simp only[dI];generalize cm G aQ a=v at he⊢;cases v<;>simp only[C4,reduceCtorEq,xaE]at he;.subst he;simp only[aT]
  subst he;simp only[aT]
 cases hL:dI T (cm G aQ) o (.load t a)with
 |some u=>rw[hL]at av;cases av;refine⟨rfl,λo' aT=>?_⟩;unfold res;rw[ad];simp only[eM,hm o' aT,hL]
 |none=>rw[hL]at av;simp[hy,eF]at av
def alL{x:Oper}{t:TypeId}{a b:Operand}(ad:x.op= .indexAddr t a b){aQ:Nat->aX}{o:cD}:Looks T G x aQ o (C5 o):=by
 intro r cF av;unfold res at av;rw[ad]at av;simp only[eM]at av;cases hL:dI T (cm G aQ) o (.indexAddr t a b)with
 |some u=>
  rw[hL]at av;cases av;refine⟨rfl,λo' aT=>?_⟩;have hm:dI T (cm G aQ) o' (.indexAddr t a b)=some r:=by
   simp only[dI]at hL⊢;split at hL
   .split at hL
    .split at hL
     .rename_i aN;rw[xac aN];split at hL<;>first|exact hL|skip
      rename_i key aS;cases ai:o key with
      |none=>rw[ai]at hL;cases hL
      |some fL=>
       cases fL with
       |row k es=>obtain⟨gl,J,aa⟩:=aT key k es ai;rw[ai]at hL;rw[J];simp only[aa]at hL⊢;exact hL
       |dead=>rw[ai]at hL;cases hL
       |box=>rw[ai]at hL;cases hL
       |map=>rw[ai]at hL;cases hL
     cases hL
    cases hL
   .exact hL
   cases hL
  unfold res;rw[ad];simp only[eM,hm]
 |none=>rw[hL]at av;simp[hy,eF]at av
def alM{o:cD}{k bG:Key}{a b:cX}(h:k≠bG):dM (dM o [(k,a)]) [(bG,b)]=dM (dM o [(bG,b)]) [(k,a)]:=by
 funext j
 simp only[GB];by_cases J:j=k<;>by_cases aa:j=bG<;>simp_all
def Zh{y:Oper}{t:TypeId}{a x:Operand}{k:Key}(aH:y.op= .store t a x){aQ:Nat->aX}{o o':cD}(aG:keyOf aQ a=some k)(aT:o' k=o k):res T G ⟨aQ,o'⟩ y=res T G ⟨aQ,o⟩ y:=by
 have he:C4 (cm G aQ a)=some k:=by rw[RB];exact aG
 unfold res;rw[aH];simp only[eM,dI,Yq,eF];generalize cm G aQ a=v at he⊢;cases v<;>simp only[C4,reduceCtorEq,xaE]at he;.subst he;simp only[aT]
 subst he;simp only[aT]
def alN{x y:Oper}{σ:aO}{K:aO->Prop}{t t':TypeId}{a cM v fK:Operand}{k bG:Key}(ad:x.op= .store t a v)(aH:y.op= .store t' cM fK)(aG:keyOf σ.aQ a=some k)(zF:keyOf σ.aQ cM=some bG)(cp:bG≠k) (nD:x.guard=none) (nA:x.apart all y=true) (h:eN P T G all x (λgL=>eN P T G all y K gL) σ):eN P T G all y (λgm=>eN P T G all x K gm) σ:=by
 obtain⟨aI,a2,a3⟩:=Oper.apart_spec nA;have pH:∀d,y.dst=some d->x.dst≠some d:=λd ay ad=>a2 d ad ay;have lK:∀(K:aO->Prop) σ,eN P T G all x K σ=dh P T G x K σ:=λK σ=>by unfold eN;simp only[nD]
 simp only[lK]at h⊢;have Zi:∀{z:Oper}{tt:TypeId}{p q:Operand}{τ:aO}{K':aO->Prop},z.op= .store tt p q->dh P T G z K' τ->∃r cN eK,res T G τ z=some (r,[(cN,eK)])/\keyOf τ.aQ p=some cN/\K' (τ.step z.dst r [(cN,eK)]):=by
  intro z tt p q τ K' bF bQ;cases av:res T G τ z with
  |none=>rw[oL av]at bQ;have:=zt bQ;rw[bF]at this;cases this
  |some u=>obtain⟨r,cF⟩:=u;obtain⟨cN,o,eK,bN,rfl,_,_⟩:=RD bF av;exact⟨r,cN,eK,rfl,bN,by rw[mV av]at bQ;exact bQ⟩
 obtain⟨r,cN,eK,bN,bO,cx⟩:=Zi ad h;rw[aG]at bO;cases bO;have zG:eN P T G all y K (aO.put ⟨σ.aQ,dM σ.objs [(k,eK)]⟩ x.dst r):=cx;have Zj:∀(iW:cD),iW k=σ.objs k->∀K':aO->Prop,dh P T G x K' ⟨σ.aQ,iW⟩=K' (aO.put ⟨σ.aQ,dM iW [(k,eK)]⟩ x.dst r):=by
  intro iW aT K';have:res T G ⟨σ.aQ,iW⟩ x=some (r,[(k,eK)]):=by rw[Zh ad aG aT];exact bN
  exact mV this
 rw[h1,pG aI]at zG;rw[h1];have alO:kd all ⟨σ.aQ,dM σ.objs [(k,eK)]⟩ y=kd all σ y:=rfl;rw[alO]at zG;split at zG
 .rename_i hw
  try simp only[hw]
  rw[jY aI a2]at zG;obtain⟨ez,ea,iW,ei,eu,gS⟩:=Zi aH zG;have Zk:keyOf σ.aQ cM=some ea:=eu;rw[zF]at Zk;cases Zk;have alP:res T G σ y=some (ez,[(bG,iW)]):=by rw[<-ei];exact(Zh (T:=T) (G:=G) aH (o:=σ.objs) (o':=dM σ.objs [(k,eK)]) zF (by rw[GB,xae cp])).symm
  rw[mV alP];show dh P T G x K (aO.put ⟨σ.aQ,dM σ.objs [(bG,iW)]⟩ y.dst ez);rw[jY a3 pH,Zj _ (by rw[GB,xae (λe=>cp e.symm)]),put_comm a2,alM cp];exact gS
 .rename_i hw
  try simp only[hw]
  show dh P T G x K (σ.put y.dst _);rw[jY a3 pH];have e:=Zj σ.objs rfl (λa1=>K (a1.put y.dst (.d (.val (.tuple #[])))));have dx:dh P T G x (λa1=>K (a1.put y.dst (.d (.val (.tuple #[]))))) σ=_:=e;rw[dx];exact zG
 exact zG.elim
def alQ{x y:Oper}{σ:aO}{K:aO->Prop}(nD:x.guard=none)(nA:x.apart all y=true)(h:tR σ.aQ x y=true)(H:eN P T G all x (λgL=>eN P T G all y K gL) σ):eN P T G all y (λgm=>eN P T G all x K gm) σ:=by
 unfold tR at h;rcases xbM.1 h with h|h
 .rcases xbM.1 h with h|h;.exact swap nA h H
  refine Mh nD ?_ nA (alI h) trivial (λ_ _ _=>trivial) H;cases ah:hP x.op with|false=>rfl|true=>have:=Gg ah;rw[Zg h]at this;cases this.2.1
 split at h;.rename_i op t a b q ad;rw[xap]at h;exact Mh nD (by rw[ad];rfl) nA (alJ ad h.1 h.2) trivial (λ_ _ _=>trivial) H
 .rename_i t a ad;split at h
  case h_2=>cases h
  rename_i k ai;simp only[xbk]at h;have other:(jg y.op||jI y.op||hP y.op||vC σ.aQ k y.op)=true->eN P T G all y (λgm=>eN P T G all x K gm) σ:=λbB=>Mh nD (by rw[ad];rfl) nA (alK ad ai) (rfl:RC k σ.objs σ.objs) (λ_ _ av=>alC bB av) H
  rcases h with(((h|h)|h)|h)|h
  .rw[xap]at h;obtain⟨J,aa⟩:=h;unfold GA at J;split at J
   case h_2=>cases J
   rename_i a0;split at J
   case h_2=>cases J
   rename_i C6 off az;refine Zc ad nD az ?_ nA H;intro t' cM fK he;rw[he]at aa;cases aa
  .exact other (by simp[h])
  .exact other (by simp[h])
  .exact other (by simp[h])
  exact other (by simp[h])
 .rename_i t a b ad;exact Mh nD (by rw[ad];rfl) nA (alL ad) (C5.refl _) (λ_ _ av=>alD h av) H
 .rename_i t a v ad;split at h
  case h_2=>cases h
  rename_i k ai;unfold vC at h;split at h
  case h_2=>cases h
  rename_i t' cM fK aH;split at h
  case h_2=>cases h
  rename_i bG fs;exact alN ad aH ai fs (by simpa using h) nD nA H
 cases h
def nE:Op->List Tmp
 | .binOp _ _ a b _=>(match a with| .tmp t=>[t]|_=>[])++(match b with| .tmp t=>[t]|_=>[])
 | .load _ (.tmp a)=>[a]| .store _ (.tmp a) _=>[a]| .indexAddr _ (.tmp a) _=>[a]| .lookup _ (.tmp a) _ _=>[a]| .slice _ (.tmp a) _ _ _=>[a]| .call ⟨.builtin .len,args,_⟩=>args.toList.filterMap λx=>match x with| .tmp t=>some t|_=>none
 |_=>[]
def vE:Op->List Tmp
 | .store _ (.tmp a) _=>[a]|_=>[]
theorem RE{s s':Nat->aX}{x:Operand}(h:∀t,x= .tmp t->s t=s' t):keyOf s x=keyOf s' x:=by cases x with|tmp t=>simp only[keyOf,h t rfl]|_=>rfl
theorem Zl{s s':Nat->aX}{x:Operand}(h:∀t,x= .tmp t->s t=s' t):vB s x=vB s' x:=by cases x with|tmp t=>simp only[vB,h t rfl]|_=>rfl
theorem alR{s s':Nat->aX}{x:Operand}(h:∀t,x= .tmp t->s t=s' t):GA s x=GA s' x:=by cases x with|tmp t=>simp only[GA,h t rfl]|_=>rfl
def alS{s s':Nat->aX}{x y:Oper}(h:∀t,t∈nE x.op\/t∈vE y.op->s t=s' t):tR s x y=tR s' x y:=by
 have aH:∀k,vC s k y.op=vC s' k y.op:=by
  intro k;unfold vC;split;.rename_i t a v he;rw[RE (s:=s) (s':=s') (x:=a) (λq bU=>h q (.inr (by rw[he,bU];simp[vE])))]
  rfl
 have ay:vD s x.op=vD s' x.op:=by
  have ad:∀t,t∈nE x.op->s t=s' t:=λt aP=>h t (.inl aP);generalize x.op=op at ad;have one:∀a:Operand,(∀t,a= .tmp t->t∈nE op)->rh s a=rh s' a:=by intro a aG;cases a with|tmp t=>simp only[rh,ad t (aG t rfl)]|_=>rfl
  cases op<;>simp only[vD]
  case load t a=>exact one a (by rintro t rfl;simp[nE])
  case indexAddr t a i=>exact one a (by rintro t rfl;simp[nE])
  case lookup t a k ok=>exact one a (by rintro t rfl;simp[nE])
  case slice t a lo ag gj=>
   cases gj with
   |none=>exact one a (by rintro t rfl;simp[nE])
   |some _=>rfl
  case call c=>
   obtain⟨callee,args,dN⟩:=c;cases callee with
   |value=>rfl|invoke=>rfl
   |builtin b=>
    cases b<;>first|rfl|skip
    simp only;rw[Bool.eq_iff_iff,xaB,xaB];have aG:∀a∈args.toList,rh s a=rh s' a:=λa aG=>one a (by rintro t rfl;simp only[nE,List.mem_filterMap];exact⟨_,aG,rfl⟩);exact⟨λh a hm=>by rw[<-aG a hm];exact h a hm,λh a hm=>by rw[aG a hm];exact h a hm⟩
 unfold tR;rw[ay]
 congr 1
 split;.rename_i op t a b q ad;have aG:∀t,a= .tmp t->s t=s' t:=λt aP=>h t (.inl (by rw[ad,aP];simp[nE]));have aj:∀t,b= .tmp t->s t=s' t:=λt aP=>h t (.inl (by rw[ad,aP];simp[nE]));rw[Zl aG,Zl aj]
 .rename_i t a ad;have aG:∀t,a= .tmp t->s t=s' t:=λt aP=>h t (.inl (by rw[ad,aP];simp[nE]));rw[RE aG,alR aG];split
  .rw[aH]
  rfl
 .rfl
 .rename_i t a v ad;have aG:∀t,a= .tmp t->s t=s' t:=λt aP=>h t (.inl (by rw[ad,aP];simp[nE]));rw[RE aG];split
  .rw[aH]
  rfl
 rfl
def alT{y:Oper}{σ:aO}{K:aO->Prop}{L:List Tmp}(ay:∀a∈L,y.dst≠some a)(h:eN P T G all y K σ):eN P T G all y (λa1=>(∀a∈L,a1.aQ a=σ.aQ a)/\K a1) σ:=by
 have aU:∀(objs:cD)(r:aX),∀a∈L,(aO.put ⟨σ.aQ,objs⟩ y.dst r).aQ a=σ.aQ a:=λobjs r a aG=>by
  cases aH:y.dst with
  |none=>rfl
  |some d=>
   have:a≠d:=by rintro rfl;exact ay a aG aH
   simp only[aO.put,c6 _ _ this]
 rw[h1]at h⊢;split at h
 .rename_i hw
  try simp only[hw]
  exact xl (λobjs r ai=>⟨aU objs r,ai⟩) h
 .rename_i hw
  try simp only[hw]
  exact⟨aU σ.objs _,h⟩
 exact h.elim
def alU{x:Oper}{σ:aO}{p:Prop}(h:eN P T G all x (λ_=>p) σ):p:=by
 rw[h1]at h;split at h
 .unfold dh at h;split at h;.exact h
  unfold jX at h;split at h
  .split at h;.obtain⟨_,_,_,_,_,_,⟨r,nB⟩,_,q⟩:=h;exact q r (by rw[nB])
   exact h.elim
  exact h.elim
 .exact h
 exact h.elim
def alV{K:aO->Prop}{i:Nat}{fw:Oper}(ag:all[i]?=some fw)(nD:fw.guard=none){B:List Nat}(eU:∀j dd,j∈B->all[j]?=some dd->∃e∈dd.after,Region.binds .any e=true/\(e.on=i\/e.on∈B)){s0:Nat->aX}{L:List Tmp}(alW:∀t∈nE fw.op,t∈L): ∀(fuel:Nat)(listed:Array Bool)(σ:aO),(∀t∈L,σ.aQ t=s0 t)->(∀j,j∈B->listed.getD j true=false)->(∀j dd,all[j]?=some dd->j≠i->listed.getD j true=false->j∉B->fw.apart all dd=true/\tR s0 fw dd=true/\(∀t∈L,dd.dst≠some t)/\∀t∈vE dd.op,t∈L)->i∈Region.ready .any all listed->ia P T G all i (jJ P T G all K fuel (listed.setIfInBounds i true)) σ->jJ P T G all K (fuel+1) listed σ:=by
 intro fuel
 induction fuel with
 |zero=>
  intro listed σ cL sb pI av H;refine⟨λh=>(by rw[h]at av;cases av),λj aA=>?_⟩;by_cases iU:j=i;.subst iU;exact H
  have hm:=ready_mono aA iU;exfalso;have key:Region.ready .any all (listed.setIfInBounds i true)=[]:=by have RF:=xm (K':=λ_=>Region.ready .any all (listed.setIfInBounds i true)=[]) (λa1 bB=>bB.1) H;unfold ia at RF;simp only[ag]at RF;exact alU RF
  rw[key]at hm;cases hm
 |succ fuel ih=>
  intro listed σ cL sb pI av H;refine⟨λh=>(by rw[h]at av;cases av),λj aA=>?_⟩;by_cases iU:j=i;.subst iU;exact H
  obtain⟨xn,dd,jK,fl⟩:=xbU.1 aA;have vo:∀k,listed.getD k true=false->listed[k]?.getD false=true->False:=λk ar J=>by
   rcases xaT k listed.size with bB|bB;.simp[bB]at ar J;rw[ar]at J;cases J
   simp[Array.getElem?_eq_none bB]at J
  have xo:j∉B:=λGq=>by
   obtain⟨e,he,aj,nC⟩:=eU j dd Gq jK;have J:=fl e he aj;rcases nC with nC|nC
   .rw[nC]at J;exact vo i (xbU.1 av).1 (by simpa using J)
   exact vo _ (sb _ nC) (by simpa using J)
  obtain⟨ei,eu,gS,tP⟩:=pI j dd jK iU xn xo;have J:ia P T G all i (λgL=>ia P T G all j (jJ P T G all K fuel ((listed.setIfInBounds i true).setIfInBounds j true)) gL) σ:=xm (λgL vw=>vw.2 j (ready_mono aA iU)) H;have aa:ia P T G all j (λgm=>(∀a∈L,gm.aQ a=σ.aQ a)/\ia P T G all i (jJ P T G all K fuel ((listed.setIfInBounds i true).setIfInBounds j true)) gm) σ:=by
   unfold ia at J⊢;simp only[ag,jK]at J⊢;have bE:tR σ.aQ fw dd=true:=by
    rw[<-eu];refine alS λt aP=>cL t ?_;rcases aP with aP|aP
    .exact alW t aP
    exact tP t aP
   exact alT gS (alQ nD ei bE J)
  have Gr:∀k ok,all[k]?=some ok->k≠i->(listed.setIfInBounds j true).getD k true=false->k∉B->fw.apart all ok=true/\tR s0 fw ok=true/\(∀t∈L,ok.dst≠some t)/\∀t∈vE ok.op,t∈L:=λk ok ai sc pJ gU=>by
   refine pI k ok ai sc ?_ gU;by_cases fA:j=k;.subst fA;exact xn
   rw[getD_set_ne true fA]at pJ;exact pJ
  refine xm (λgm ax=>ih (listed.setIfInBounds j true) gm (λt aP=>(ax.1 t aP).trans (cL t aP)) (λk ai=>by
   have fA:j≠k:=by rintro rfl;exact xo ai
   rw[getD_set_ne true fA];exact sb k ai) Gr (ready_mono av (xbY iU)) ?_) aa
  rw[Array.setIfInBounds_comm _ _ iU];exact ax.2
end
structure V where
 name:ByteArray
 bool:Bool
 lo:Int
 ag:Int
def V.cells(v:V):List D:=[a6 v.name,aK v.bool,I v.lo,I v.ag]
def V.d(v:V):D:= .agg v.cells
def bu(l:List V):D:= .aW 4 (l.map V.cells)
def qq(n:Int):D:= .val (.int .u8 n)
def mX(n:Int):Prop:=-9223372036854775808<=n/\n<=9223372036854775807
def V.ok(v:V):Prop:=mX v.lo/\mX v.ag/\v.name.size<=9223372036854775807
def V.span(v:V):Int:=if v.bool then 2 else if v.lo>v.ag then 0 else if v.ag-v.lo<1073741824 then v.ag-v.lo+1 else 1073741825
def bitsOf(n:Int):Nat:=if n<=1 then 0 else Nat.log2 (n-1).toNat+1
def alX{n:Int}{k:Nat}(J:∀j:Nat,j<k->(2:Int)^j<n)(aa:n<=2^k):bitsOf n=k:=by
 unfold bitsOf;cases k with
 |zero=>simp at aa;simp[aa]
 |succ k=>
  have ax:=J k (by omega);have aU:(0:Int)<2^k:=Int.pow_pos (by omega);rw[xae (by omega)];have e:Nat.log2 (n-1).toNat=k:=by
   have aG:(2:Nat)^k<=(n-1).toNat:=by
    have:((2^k:Nat):Int)=2^k:=by simp
    omega
   have aj:(n-1).toNat<2^(k+1):=by
    have:((2^(k+1):Nat):Int)=2^(k+1):=by simp
    omega
   exact(Nat.log2_eq_iff (by have:=Nat.two_pow_pos k;omega)).2 ⟨aG,aj⟩
  omega
def Zm{n:Int}(h:1<n):bitsOf n=bitsOf (n/2+n%2)+1:=by
 unfold bitsOf;rw[xae (by omega)];by_cases aa:n=2;.subst aa;decide
 rw[xae (by omega)];have e:(n/2+n%2-1).toNat=(n-1).toNat/2:=by omega
 rw[e];have ax:(n-1).toNat≠0:=by omega
 have bj:(n-1).toNat/2≠0:=by omega
 obtain⟨a,b⟩:=(Nat.log2_eq_iff bj).1 rfl;have:Nat.log2 (n-1).toNat=Nat.log2 ((n-1).toNat/2)+1:=by
  refine(Nat.log2_eq_iff ax).2 ⟨?_,?_⟩;.rw[Nat.pow_succ];omega
  rw[Nat.pow_succ];omega
 omega
def tS(c:Int):Bool:=(decide (c>=97)&&decide (c<=122))||(decide (c>=65)&&decide (c<=90))
def zH(c:Int):Bool:=decide (c>=48)&&decide (c<=57)
def nF(c:Int):Bool:=tS c||zH c||(c==95)
def Zn{lo ag:Int}(J:mX lo)(aa:mX ag)(h:lo<=ag):IntKind.u64.wrap (IntKind.u64.wrap ag-IntKind.u64.wrap lo)=ag-lo:=by unfold mX at J aa;simp only[xcs];omega
def V.Zo{v:V}(h:v.bool=true):v.span=2:=by simp[V.span,h]
def V.Zp{v:V}(h:v.bool=false)(J:v.lo>v.ag):v.span=0:=by simp[V.span,h,J]
def V.RG{v:V}(h:v.bool=false)(J:v.lo<=v.ag)(aa:v.ag-v.lo<1073741824):v.span=v.ag-v.lo+1:=by simp[V.span,h,aa];omega
def V.RH{v:V}(h:v.bool=false)(J:v.lo<=v.ag)(aa:1073741824<=v.ag-v.lo):v.span=1073741825:=by simp[V.span,h,aa];omega
def has(x:ByteArray)(l:List ByteArray):Bool:=l.any λy=>decide (y=x)
def idxOf(x:ByteArray)(l:List ByteArray):Int:=match l.findIdx? (λy=>decide (y=x))with|some i=>(i:Nat)|none=>-1
def Zq{x:ByteArray}{l:List ByteArray}(h:∀j:Nat,j<l.length->l[j]?≠some x):idxOf x l=-1:=by
 unfold idxOf;have:l.findIdx? (λy=>decide (y=x))=none:=by rw[List.findIdx?_eq_none_iff];intro y aH;obtain⟨j,aA⟩:=xaF.1 aH;have J:=h j (xaa.1 aA).1;rw[aA]at J;simpa using J
 rw[this]
def Zr{x:ByteArray}{l:List ByteArray}{i:Nat}(h:∀j:Nat,j<i->l[j]?≠some x)(ag:l[i]?=some x):idxOf x l=i:=by
 unfold idxOf;obtain⟨ca,cR⟩:=xaa.1 ag;have:l.findIdx? (λy=>decide (y=x))=some i:=by rw[xbv];refine⟨ca,by simpa using cR,λj aA=>?_⟩;have J:=h j aA;rw[xab (by omega)]at J;simpa using J
 rw[this]
def Zs(x:ByteArray)(l:List ByteArray):decide (idxOf x l>=0)=has x l:=by
 unfold idxOf has;cases h:l.findIdx? (λy=>decide (y=x))with
 |none=>
  rw[List.findIdx?_eq_none_iff]at h;have:l.any (λy=>decide (y=x))=false:=by rw[List.any_eq_false];intro y aH;simpa using h y aH
  rw[this];rfl
 |some i=>obtain⟨J,aa,_⟩:=xbv.1 h;have:l.any (λy=>decide (y=x))=true:=xbH.2 ⟨_,xbc J,aa⟩;rw[this];simp
def Zt{x:ByteArray}{l:List ByteArray}{i:Nat}(h:l[i]?=some x):has x l=true:=xbH.2 ⟨x,xad h,by simp⟩
def Zu{x:ByteArray}{l:List ByteArray}(h:∀j:Nat,j<l.length->l[j]?≠some x):has x l=false:=by unfold has;rw[List.any_eq_false];intro y aH;obtain⟨j,aA⟩:=xaF.1 aH;have J:=h j (xaa.1 aA).1;rw[aA]at J;simpa using J
def pL(p:Int->Bool)(s:ByteArray)(i:Nat):Bool:=match s[i]? with|some b=>p b.toNat|none=>false
def oN(p:Int->Bool)(s:ByteArray):Nat:=((List.range (s.size+1)).find? λi=>!pL p s i).getD 0
theorem Mi{s:ByteArray}{i:Nat}:s[i]?=if h:i<s.size then some s[i]else none:=rfl
def alY{p:Int->Bool}{s:ByteArray}{i:Nat}(h:pL p s i=true):i<s.size:=by
 unfold pL at h;rw[Mi]at h;by_cases J:i<s.size;.exact J
 rw[dif_neg J]at h;cases h
def words:List ByteArray:=[⟨#[65]⟩,⟨#[65,70]⟩,⟨#[65,71]⟩,⟨#[65,88]⟩,⟨#[69]⟩,⟨#[69,70]⟩,⟨#[69,71]⟩,⟨#[69,88]⟩,⟨#[85]⟩,⟨#[98,111,111,108]⟩,⟨#[100,101,102]⟩,⟨#[101,108,115,101]⟩,⟨#[102,97,105,114]⟩,⟨#[102,97,108,115,101]⟩,⟨#[105,102]⟩,⟨#[105,110,105,116]⟩,⟨#[105,110,118,97,114]⟩,⟨#[109,111,100]⟩,⟨#[110,101,120,116]⟩,⟨#[115,112,101,99]⟩,⟨#[116,104,101,110]⟩,⟨#[116,114,97,110,115]⟩,⟨#[116,114,117,101]⟩,⟨#[118,97,114]⟩]
def isName(s:ByteArray):Bool:=decide ((s.size:Int)>=1)&&decide ((s.size:Int)<=24)&&pL tS s 0&&((oN nF s:Int)==(s.size:Int))&&!has s words
def Zv(s:ByteArray):(decide (s=⟨#[]⟩)=true/\decide ((s.size:Int)>=1)=false)\/∃b,decide (s=⟨#[]⟩)=false/\decide ((s.size:Int)>=1)=true/\s[0]?=some b:=by
 by_cases h:0<s.size
 .refine .inr ⟨s[0],?_,?_,?_⟩
  .have:s≠⟨#[]⟩:=by rintro rfl;exact absurd h (by decide)
   simpa using this
  .simp;omega
  rw[Mi,dif_pos h]
 refine .inl ⟨?_,?_⟩
 .have ar:s.size=0:=by omega
  have:s=⟨#[]⟩:=by
   cases s with|mk d=>
   congr 1
   exact xbn ar
  simpa using this
 simp;omega
def vF(v:V):Bool:=decide ((if v.ag>v.lo then v.ag else v.lo)>255)||decide ((if v.ag<v.lo then v.ag else v.lo)< -255)
def C7(seen:List V)(v:V):Int:=if !isName v.name then 12 else if has v.name (seen.map V.name)then 6 else if v.bool&&(v.lo !=0||v.ag !=0)then 3
 else if !v.bool&&(decide (v.lo>v.ag)||vF v||decide (IntKind.i64.wrap (v.ag-v.lo)>=64))then 2 else 0
def jL(l:List V)(i:Nat):Int:=match l[i]? with|some v=>C7 (l.take i) v|none=>0
def k1(l:List V):Int×Int:=match(List.range l.length).find? (λi=>jL l i !=0)with|some i=>((i:Int),jL l i)|none=>(0,0)
def Zw{l:List V}{i:Nat}{e:Int}(h:∀j:Nat,j<i->jL l j=0)(ag:i<l.length)(he:jL l i=e)(ar:e≠0):k1 l=((i:Int),e):=by
 unfold k1;have:(List.range l.length).find? (λi=>jL l i !=0)=some i:=by rw[List.find?_range_eq_some];exact⟨by simpa[he]using ar,by simpa using ag,λj aA=>by simp[h j aA]⟩
 rw[this];simp[he]
def Zx{l:List V}(h:∀j:Nat,j<l.length->jL l j=0):k1 l=(0,0):=by
 unfold k1;have:(List.range l.length).find? (λi=>jL l i !=0)=none:=by rw[List.find?_eq_none];intro j aA;simp[h j (by simpa using aA)]
 rw[this]
def alZ{v:V}(aS:v.ok):(!v.bool&&(decide (v.lo>v.ag)||vF v||decide (IntKind.i64.wrap (v.ag-v.lo)>=64)))=(!v.bool&&(decide (v.lo>v.ag)||!(decide (v.lo>=-255)&&decide (v.lo<=255))||!(decide (v.ag>=-255)&&decide (v.ag<=255))||decide (v.span>64))):=by
 cases aj:v.bool with
 |true=>rfl
 |false=>
  by_cases J:v.lo>v.ag;.simp[J]
  have dS:v.lo<=v.ag:=by omega
  by_cases aa:-255<=v.lo/\v.ag<=255
  .have aM:vF v=false:=by
    unfold vF;split<;>(try split)<;>simp<;>omega
   have a8:(decide (v.lo>=-255)&&decide (v.lo<=255))=true:=by simp;omega
   have b0:(decide (v.ag>=-255)&&decide (v.ag<=255))=true:=by simp;omega
   rw[V.RG aj dS (by omega),aM,a8,b0,wrap64 _ (by omega) (by omega)];have cK:decide (v.lo>v.ag)=false:=by simpa using dS
   have dJ:decide (v.ag-v.lo>=64)=decide (v.ag-v.lo+1>64):=by rw[decide_eq_decide];omega
   rw[cK,dJ];rfl
  have aM:vF v=true:=by unfold vF;split<;>(try split)<;>simp<;>omega
  have a8:(!(decide (v.lo>=-255)&&decide (v.lo<=255))||!(decide (v.ag>=-255)&&decide (v.ag<=255)))=true:=by simp;omega
  rw[aM];revert a8;generalize decide (v.lo>v.ag)=p;generalize (decide (v.lo>=-255)&&decide (v.lo<=255))=q;generalize (decide (v.ag>=-255)&&decide (v.ag<=255))=r;cases p<;>cases q<;>cases r<;>simp
def al0{l:List V}{x:ByteArray}{i:Nat}(h:∀j:Nat,j<i->(l.map V.name)[j]?≠some x):has x ((l.take i).map V.name)=false:=by refine Zu λj aA=>?_;rw[List.map_take,xaR];simp at aA;rw[xac (by omega)];exact h j (by omega)
theorem al1{l:List V}{w:V}{k i:Nat}(ai:k<i)(hw:l[k]?=some w):has w.name ((l.take i).map V.name)=true:=by refine Zt (i:=k) ?_;rw[List.map_take,xaR,xac ai,xah,hw];rfl
end Go.Am
