/- Steps, joins, and nil slices that become rows of our own. No condition. -/
import Derived.Test.YtbninlabhgbhcaaGreatDoorEngB
set_option linter.all false
set_option linter.unnecessarySimpa false
namespace Go.Am
section
variable{P:Program}{T:ch}{G:dt}{N:Nat}{σ:aM}{Q:Exit->aM->Prop}{all:Array Oper}
def ajO(l:List Oper):∀(k:Nat)(σ:aM)(K:aM->Prop),(∀j,l[j]?=all[k+j]?)->fO P T G all l K σ->B7 P T G all (List.range' k l.length) K σ:=by
 induction l with
 |nil=>intro k σ K _ h;exact h
 |cons o l ih=>
  intro k σ K al h;have au:all[k]?=some o:=by simpa using(al 0).symm
  simp only[xan,List.range'_succ,B7,au];refine Ft (λaZ uZ=>ih (k+1) aZ K (λj=>by have:=al (j+1);simpa[xbi,Nat.add_comm 1 j]using this) uZ) h
def ajP(bl:ee P T)(hm:P.follows .mixedOrders=true){id:Nat}{ops:Array Oper}(cf:wZ N ops=true)(B9:yW T ops (List.range ops.size) (Array.replicate ops.size false)=true) (h:fO P T G ops ops.toList (Q .normal) σ):hD P T G N (.region id ops true) σ Q:=by refine ajw bl hm cf (List.range ops.size) (by simp) B9 ?_;rw[List.range_eq_range'];have:=ajO (P:=P) (T:=T) (G:=G) (all:=ops) ops.toList 0 σ (Q .normal) (λj=>by simp) h;simpa using this
end
section
variable{P:Program}{T:ch}{G:dt}{N:Nat}{σ gC:aM}{Q:Exit->aM->Prop}{id:Nat}{ops:Array Oper}
end
def wrap64(x:Int)(J:-9223372036854775808<=x)(aa:x<=9223372036854775807):IntKind.i64.wrap x=x:=by rw[IntKind.wrap_i64];omega
def Fin(T:ch)(rs:List ResultVar)(R:D->Prop)(e:Exit)(aZ:aM):Prop:=(e= .normal\/e= .ret)/\∃r d x,rE T aZ rs=some r/\toD aZ.objs r=some d/\d.le x/\R x
theorem getD_cons_zero{α:Type}(x:α)(l:List α)(d:α):(x::l).getD 0 d=x:=rfl
theorem getD_cons_succ{α:Type}(x:α)(l:List α)(n:Nat)(d:α):(x::l).getD (n+1) d=l.getD n d:=rfl
def Yb{σ:aM}(K:Key)(n:Nat)(u3:Nat->aX)(objs':cx)(hx:σ.objs K=none) (aC:∀t,u3 t=σ.aO t\/σ.aO t= .d (.val (.slice none 0 0))/\u3 t= .row K) (aT:∀k o,objs' k=some o->k=K/\o= .row n []\/k≠K/\(σ.objs k=some o\/∃xs i,σ.objs k=some (.box xs)/\xs[i]?=some (.d (.val (.slice none 0 0)))/\o= .box (xs.set i (.row K)))) (ph:∀k,σ.objs k≠none->objs' k≠none) (ajQ:objs' K=some (.row n [])) (ajR:∀k,eW (σ.objs k)->eW (objs' k)):hl σ ⟨u3,objs'⟩:=by
 intro m fr ρ a w h;have cp:∀k,σ.used k->k≠K:=by rintro k ⟨o,ah⟩ rfl;rw[hx]at ah;cases ah
 have av:∀k,σ.used k->aM.used ⟨u3,objs'⟩ k/\cq ρ K (.slice none 0 0) k=ρ k:=λk ah=>
  ⟨by
   cases bS:objs' k with
   |none=>exact absurd bS (ph k (by obtain⟨o,e⟩:=ah;rw[e];simp))
   |some o=>exact⟨o,bS⟩,c5 _ _ (cp k ah)⟩
 have ajS:aM.used ⟨u3,objs'⟩ K:=⟨_,ajQ⟩;have Ce:cq ρ K (.slice none 0 0) K= .slice none 0 0:=by simp[cq]
 have js:cb m (cq ρ K (.slice none 0 0)) (aM.used ⟨u3,objs'⟩) (.row K) (.slice none 0 0):=by have:=cb.row (m:=m) (ρ:=cq ρ K (.slice none 0 0)) (U:=aM.used ⟨u3,objs'⟩) K ajS;rw[Ce]at this;exact this
 refine⟨m,cq ρ K (.slice none 0 0),Mem.le_refl m,⟨h.mem,h.frame,h.apart,?_,?_,?_,?_,?_⟩,?_⟩
 .rintro k ⟨o,ah⟩;rcases aT k o ah with⟨rfl,rfl⟩|⟨J,aa⟩;.rw[Ce];rfl
  rw[c5 _ _ J];rcases aa with aa|⟨xs,i,aa,_,_⟩
  .exact h.one k ⟨_,aa⟩
  exact h.one k ⟨_,aa⟩
 .intro t;rcases aC t with e|⟨aL,a7⟩
  .show cb m _ _ (u3 t) _;rw[e];exact(h.aO t).mono (Mem.le_refl m) av
  show cb m _ _ (u3 t) _;rw[a7];have:=h.aO t;rw[aL]at this;rw[this.hS];exact js
 .intro k o ah;rcases aT k o ah with⟨rfl,rfl⟩|⟨J,aa⟩
  .rw[Ce];exact .inl ⟨rfl,rfl⟩
  rw[c5 _ _ J];rcases aa with aa|⟨xs,i,aa,ax,rfl⟩
  .exact(h.objs k o aa).mono (Mem.le_refl m) av (λ_ _ _=>rfl)
  obtain⟨b,vs,T,aL,a7,bV,cG⟩:=(h.objs k _ aa).mono (Mem.le_refl m) av (λ_ _ _=>rfl);refine⟨b,vs,T,aL,a7,by simpa using bV,?_⟩;intro j c x ai ad;rw[List.getElem?_set]at ai;split at ai
  .rename_i kj;subst kj;split at ai;.cases ai;have:=cG i _ x ax ad;rw[this.hS];exact js
   cases ai
  exact cG j c x ai ad
 .intro k o b ah ajT aj;rcases aT k o ah with⟨rfl,rfl⟩|⟨J,aa⟩
  .have fi:blockOf (cq ρ k (.slice none 0 0) k)=some b:=aj;rw[Ce]at fi;cases fi
  have fi:blockOf (cq ρ K (.slice none 0 0) k)=some b:=aj;rw[c5 _ _ J]at fi;rcases aa with aa|⟨xs,i,aa,_,rfl⟩
  .exact h.own k o b aa ajT fi
  exact h.own k _ b aa rfl fi
 .intro k bF o o' b dx ah fh e4 kk aj;rcases aT k o ah with⟨rfl,rfl⟩|⟨J,aa⟩
  .have fi:blockOf (cq ρ k (.slice none 0 0) k)=some b:=aj;rw[Ce]at fi;cases fi
  rw[c5 _ _ J]at aj;rcases aT bF o' fh with⟨rfl,rfl⟩|⟨dS,gO⟩
  .rw[Ce];intro bS;cases bS
  rw[c5 _ _ dS];have hold:∃p,σ.objs k=some p/\p.owns=true:=by
   rcases aa with aa|⟨xs,i,aa,_,rfl⟩;.exact⟨_,aa,e4⟩
   exact⟨_,aa,rfl⟩
  have ajU:∃p,σ.objs bF=some p/\p.owns=true:=by
   rcases gO with gO|⟨xs,i,gO,_,rfl⟩;.exact⟨_,gO,kk⟩
   exact⟨_,gO,rfl⟩
  obtain⟨p,b0,bR⟩:=hold;obtain⟨pb,ajV,ajW⟩:=ajU;exact h.sep k bF p pb b dx b0 ajV bR ajW aj
 intro k ah aj;refine⟨ajR k aj,c5 _ _ ?_⟩;obtain⟨c,ai⟩:=BZ aj;exact cp k ⟨_,ai⟩
def ajX{σ:aM}(t:Nat)(K:Key)(n:Nat)(aP:σ.aO t= .d (.val (.slice none 0 0)))(hx:σ.objs K=none):hl σ ⟨cq σ.aO t (.row K),cq σ.objs K (some (.row n []))⟩:=by
 refine Yb K n _ _ hx ?_ ?_ ?_ (by simp[cq]) ?_
 .intro j;by_cases h:j=t;.subst h;exact .inr ⟨aP,by simp[cq]⟩
  exact .inl (by simp[cq,h])
 .intro k o ah;by_cases h:k=K;.subst h;simp[cq]at ah;exact .inl ⟨rfl,ah.symm⟩
  rw[c5 _ _ h]at ah;exact .inr ⟨h,.inl ah⟩
 .intro k ah;by_cases h:k=K;.subst h;simp[cq]
  rw[c5 _ _ h];exact ah
 intro k aj;have h:k≠K:=by rintro rfl;rw[hx]at aj;exact uV aj
 rw[c5 _ _ h];exact aj
def ajY{σ:aM}(k:Key)(i:Nat)(K:Key)(n:Nat){xs:List aX}(ah:σ.objs k=some (.box xs))(af:xs[i]?=some (.d (.val (.slice none 0 0))))(hx:σ.objs K=none):hl σ ⟨σ.aO,cq (cq σ.objs k (some (.box (xs.set i (.row K))))) K (some (.row n []))⟩:=by
 have aBl:k≠K:=by rintro rfl;rw[hx]at ah;cases ah
 refine Yb K n _ _ hx (λ_=> .inl rfl) ?_ ?_ (by simp[cq]) ?_
 .intro j o aB;by_cases h:j=K;.subst h;simp[cq]at aB;exact .inl ⟨rfl,aB.symm⟩
  rw[c5 _ _ h]at aB;by_cases aa:j=k;.subst aa;simp[cq]at aB;exact .inr ⟨h,.inr ⟨xs,i,ah,af,aB.symm⟩⟩
  rw[c5 _ _ aa]at aB;exact .inr ⟨h,.inl aB⟩
 .intro j aB;by_cases h:j=K;.subst h;simp[cq]
  rw[c5 _ _ h];by_cases aa:j=k;.subst aa;simp[cq]
  rw[c5 _ _ aa];exact aB
 intro j aj;have h:j≠K:=by rintro rfl;rw[hx]at aj;exact uV aj
 rw[c5 _ _ h];by_cases aa:j=k;.subst aa;rw[e1];exact uU
 rw[c5 _ _ aa];exact aj
def ajZ{σ:aM}(t:Nat)(K:Key)(n:Nat){es:List (List D)}(aP:σ.aO t= .row K)(ah:σ.objs K=some (.row n es)):hl σ ⟨cq σ.aO t (.sub K n 0 es.length),σ.objs⟩:=by
 intro m fr ρ a w h;refine⟨m,ρ,Mem.le_refl m,⟨h.mem,h.frame,h.apart,h.one,?_,h.objs,h.own,h.sep⟩,k6.refl _ _⟩;intro s;by_cases aC:s=t
 .subst aC;have J:=h.aO s;rw[aP]at J;show cb m _ _ (cq σ.aO s _ s) _;rw[e1];generalize a.tmps.getD s undef=v at*;cases J with|row _ hu=>
  rcases h.objs _ _ ah with⟨aL,a7⟩|⟨b,o,cap,vs,dY,aL,a7,bV,cG,dI,eL⟩;.rw[aL,a7];exact .jS K n 0 hu aL
  rw[aL];exact cb.sub (m:=m) (ρ:=ρ) (U:=σ.used) K n 0 es.length b o es.length cap o hu aL (by omega) ⟨λ_=>by simp,by omega⟩
 show cb m _ _ (cq σ.aO t _ s) _;rw[c5 _ _ aC];exact h.aO s
def aj0{T:ch}{ev:Operand->aX}{objs:cx}{d:Key}{o:Op}{r:aX}{cA:List (Key×cU)}(h:eu T ev objs d o=some (r,cA))(gP:∀t a x,o≠ .store t a x):∀j c,objs j=some (.box c)->dJ objs cA j=some (.box c):=by
 have K7:∀{objs:cx}{k:Key}{o:cU},(∀c,objs k≠some (.box c))->∀j c,objs j=some (.box c)->cq objs k (some o) j=some (.box c):=by
  intro objs k o ah j c aB;have:j≠k:=by rintro rfl;exact ah c aB
  rw[c5 _ _ this];exact aB
 have new:∀{o:cU},objs d=none->∀j c,objs j=some (.box c)->dJ objs [(d,o)] j=some (.box c):=by intro o ay;exact K7 (by intro c ai;rw[ay]at ai;cases ai)
 have same:∀{k:Key}{dZ o:cU},objs k=some dZ->(∀c,dZ≠ .box c)->∀j c,objs j=some (.box c)->dJ objs [(k,o)] j=some (.box c):=by intro k dZ o ah cp;exact K7 (by intro c ai;rw[ah]at ai;cases ai;exact cp c rfl)
 cases o<;>simp only[eu,reduceCtorEq]at h
 case alloc=>split at h<;>cases h;exact new (by assumption)
 case box=>split at h<;>cases h;exact new (by assumption)
 case buildSlice=>
  split at h
  case h_2=>cases h
  split at h
  case h_2=>cases h
  split at h
  case h_2=>cases h
  split at h<;>cases h;exact new (by assumption)
 case makeSlice=>
  split at h
  case h_2=>cases h
  split at h
  case h_2=>cases h
  split at h
  case h_2=>cases h
  split at h<;>cases h;exact new (by assumption)
 case makeMap=>split at h<;>cases h;exact new (by assumption)
 case store=>exact absurd rfl (gP _ _ _)
 case mapUpdate=>
  split at h
  case h_2=>cases h
  split at h
  case h_2=>cases h
  split at h
  case isFalse=>cases h
  split at h
  case h_2=>cases h
  split at h
  case h_2=>cases h
  split at h<;>cases h;exact same (by assumption) (by intro c ai;cases ai)
 case insert=>
  split at h
  case h_2=>cases h
  split at h
  case h_2=>cases h
  split at h
  case isFalse=>cases h
  split at h
  case h_2=>cases h
  split at h
  case h_2=>cases h
  split at h<;>cases h;exact same (by assumption) (by intro c ai;cases ai)
 case call=>
  split at h
  .split at h
   case h_2=>cases h
   split at h
   case h_2=>cases h
   split at h
   case h_2=>cases h
   split at h
   case h_2=>cases h
   split at h
   case isFalse=>cases h
   split at h;.split at h<;>cases h;exact new (by assumption)
   .split at h
    case h_2=>cases h
    split at h<;>cases h;rename_i ay _ _ _ _ _ _ _ _ _ _ _ _ ah _ _;have hN:=same (o:= .dead) (by assumption) (by intro c ai;cases ai);intro j bf aB;have J:=hN j bf aB;refine K7 ?_ j bf J;intro c aj;have cp:∀key x,objs key=some x->d≠key:=by
     rintro key x ad rfl;have au:objs d=none:=by assumption
     rw[au]at ad;cases ad
    rw[c5 _ _ (cp _ _ (by assumption))]at aj;clear K7 new same hN J cp
    simp_all
   cases h
  .split at h
   case h_2=>cases h
   split at h
   case h_2=>cases h
   split at h
   case h_2=>cases h
   split at h
   case h_2=>cases h
   split at h
   case isFalse=>cases h
   split at h
   .split at h
    case h_2=>cases h
    split at h<;>cases h;exact same (by assumption) (by intro c ai;cases ai)
   .split at h
    case h_2=>cases h
    split at h<;>cases h;exact same (by assumption) (by intro c ai;cases ai)
   cases h
  .split at h
   case h_2=>cases h
   split at h
   case h_2=>cases h
   split at h
   case h_2=>cases h
   split at h
   case h_2=>cases h
   split at h
   case h_2=>cases h
   split at h<;>cases h;exact same (by assumption) (by intro c ai;cases ai)
  cases h
def aj1{T:ch}{ev:Operand->aX}{objs:cx}{d:Key}{o:Op}{r:aX}{cA:List (Key×cU)}(h:hv T ev objs d o=some (r,cA))(gP:∀t a x,o≠ .store t a x):∀j c,objs j=some (.box c)->dJ objs cA j=some (.box c):=by
 obtain⟨⟨ju,s5⟩,au,aj⟩:=wK h;have J:=aj0 au gP;intro j c aB;have aa:=J j c aB;rcases yP (T.born d) d ju s5 with e|⟨n,es,rfl,rfl,e⟩|⟨qv,n,es,rfl,rfl,e⟩|⟨off,cs,aR,rfl,rfl,eH,e⟩
 .rw[aj]at e;cases e;exact aa
 .rw[aj]at e;cases e;by_cases ay:j=d;.subst ay;simp only[dJ,e1]at aa;cases aa
  simp only[dJ,c5 _ _ ay]at aa⊢;exact aa
 .rw[aj]at e;cases e;by_cases ay:j=d;.subst ay;simp only[dJ,e1]at aa;cases aa
  simp only[dJ,c5 _ _ ay]at aa⊢;exact aa
 rw[aj]at e;cases e;have aN:objs d=none:=XB au;by_cases ay:j=d
 .subst ay;rw[aN]at aB;cases aB
 simp only[dJ,c5 _ _ ay];exact aB
section
variable{P:Program}{T:ch}{G:dt}{all:Array Oper}
def aj2{y:Oper}{σ:aM}{K K':aM->Prop}(gP:∀t a x,y.op≠ .store t a x)(ah:∀objs r,(∀j c,σ.objs j=some (.box c)->objs j=some (.box c))->K (aM.put ⟨σ.aO,objs⟩ y.dst r)->K' (aM.put ⟨σ.aO,objs⟩ y.dst r)) (h:df P T G y K σ):df P T G y K' σ:=by
 unfold df at*;rw[wQ]at*;cases av:res T G σ y with
 |none=>simp only[av,xby]at h⊢;exact Fk h λr av=>ah σ.objs r (λ_ _ h=>h) av
 |some p=>
  simp only[av,xaI]at h⊢;refine ah _ _ ?_ h;intro j c aB;obtain⟨r,cA⟩:=p;unfold res at av;split at av;.cases av;exact aB
  split at av;.cases av;exact aB
  exact aj1 av gP j c aB
def Yc{t a k off:Nat}{σ:aM}{x:Oper}(ad:x.op= .load t (.tmp a))(aC:σ.aO a= .ptr k off){K:aM->Prop}(h:df P T G x K σ): ∃r,K (σ.put x.dst r)/\∀objs,(∀j c,σ.objs j=some (.box c)->objs j=some (.box c))->res T G ⟨σ.aO,objs⟩ x=some (r,[]):=by
 unfold df at h;rw[wQ]at h;cases av:res T G σ x with
 |none=>simp only[av,xby]at h;unfold jK at h;rw[ad]at h;exact h.elim
 |some p=>
  simp only[av,xaI]at h;obtain⟨r,cA⟩:=p;unfold res at av;rw[ad]at av;simp only[ez,dH,cg,aC,hv,eu,xby]at av;cases bl:T t with
  |none=>simp[bl]at av
  |some i=>
   simp only[bl]at av;cases ah:σ.objs k with
   |none=>simp[ah]at av
   |some o=>
    cases o with
    |box cells=>simp only[ah]at av;cases aU:wA i cells off with|none=>simp[aU]at av|some q=>simp only[aU,xaE,Prod.mk.injEq]at av;obtain⟨rfl,rfl⟩:=av;refine⟨q,h,λobjs aT=>?_⟩;unfold res;rw[ad];simp only[ez,dH,cg,aC,bl,aT k cells ah,aU]
    |dead=>simp[ah]at av|row=>simp[ah]at av|map=>simp[ah]at av
def Yd{x y:Oper}{σ:aM}{K:aM->Prop}{t a k off:Nat}(ad:x.op= .load t (.tmp a))(nb:x.guard=none)(aC:σ.aO a= .ptr k off)(gP:∀t a x,y.op≠ .store t a x)(mZ:x.apart all y=true) (h:eA P T G all x (λgC=>eA P T G all y K gC) σ):eA P T G all y (λga=>eA P T G all x K ga) σ:=by
 obtain⟨aK,a2,a3⟩:=Oper.apart_spec mZ;have pe:∀d,y.dst=some d->x.dst≠some d:=λd ay ad=>a2 d ad ay;have lu:∀(K:aM->Prop) σ,eA P T G all x K σ=df P T G x K σ:=λK σ=>by unfold eA;simp only[nb]
 simp only[lu]at h⊢;obtain⟨r,J,aa⟩:=Yc ad aC h;have FF:∀(K:aM->Prop) objs,(∀j c,σ.objs j=some (.box c)->objs j=some (.box c))->df P T G x K ⟨σ.aO,objs⟩=K (aM.put ⟨σ.aO,objs⟩ x.dst r):=λK objs aT=>my (aa objs aT);rw[hW,pd aK]at J;rw[hW];split at J
 .rename_i hw
  try simp only[hw]
  rw[jL aK a2]at J;refine aj2 gP (λobjs q aT ah=>?_) J;rw[jL a3 pe,FF _ _ aT,put_comm a2];exact ah
 .rename_i hw
  try simp only[hw]
  show df P T G x K (σ.put y.dst _);rw[jL a3 pe];have:=FF (λaZ=>K (aZ.put y.dst (.d (.val (.tuple #[]))))) σ.objs (λ_ _ h=>h);have e:df P T G x (λaZ=>K (aZ.put y.dst (.d (.val (.tuple #[]))))) σ=K ((σ.put x.dst r).put y.dst (.d (.val (.tuple #[])))):=this;rw[e];exact J
 exact J.elim
def aj3{y:Oper}{σ:aM}{K:aM->Prop}{a:Nat}(ay:y.dst≠some a)(h:eA P T G all y K σ):eA P T G all y (λaZ=>aZ.aO a=σ.aO a/\K aZ) σ:=by
 have aU:∀(objs:cx)(r:aX),(aM.put ⟨σ.aO,objs⟩ y.dst r).aO a=σ.aO a:=λobjs r=>by
  cases aE:y.dst with
  |none=>rfl
  |some d=>
   have:a≠d:=by rintro rfl;exact ay aE
   simp only[aM.put,c5 _ _ this]
 rw[hW]at h⊢;split at h
 .rename_i hw
  try simp only[hw]
  exact wU (λobjs r ah=>⟨aU objs r,ah⟩) h
 .rename_i hw
  try simp only[hw]
  exact⟨aU σ.objs _,h⟩
 exact h.elim
def aj4{K:aM->Prop}{i:Nat}{fk:Oper}{t a k off:Nat}(af:all[i]?=some fk)(ad:fk.op= .load t (.tmp a))(nb:fk.guard=none){B:List Nat}(e3:∀j db,j∈B->all[j]?=some db->∃e∈db.after,Region.binds .any e=true/\(e.on=i\/e.on∈B)):∀(fuel:Nat)(listed:Array Bool)(σ:aM),σ.aO a= .ptr k off->(∀j,j∈B->listed.getD j true=false)->(∀j db,all[j]?=some db->j≠i->listed.getD j true=false->j∉B->fk.apart all db=true/\∀t a x,db.op≠ .store t a x)->i∈Region.ready .any all listed->h6 P T G all i (jw P T G all K fuel (listed.setIfInBounds i true)) σ->jw P T G all K (fuel+1) listed σ:=by
 intro fuel
 induction fuel with
 |zero=>
  intro listed σ cK rB pf av H;refine⟨λh=>(by rw[h]at av;cases av),λj aB=>?_⟩;by_cases jx:j=i;.subst jx;exact H
  have hm:=ready_mono aB jx;exfalso;have key:Region.ready .any all (listed.setIfInBounds i true)=[]:=by unfold h6 at H;simp only[af]at H;unfold eA at H;simp only[nb]at H;obtain⟨r,J,_⟩:=Yc ad cK H;exact J.1
  rw[key]at hm;cases hm
 |succ fuel ih=>
  intro listed σ cK rB pf av H;refine⟨λh=>(by rw[h]at av;cases av),λj aB=>?_⟩;by_cases jx:j=i;.subst jx;exact H
  obtain⟨wW,db,jy,ft⟩:=xbR.1 aB;have uS:∀k,listed.getD k true=false->listed[k]?.getD false=true->False:=λk au J=>by
   rcases xbe k listed.size with bC|bC;.simp[bC]at au J;rw[au]at J;cases J
   simp[Array.getElem?_eq_none bC]at J
  have ta:j∉B:=λFw=>by
   obtain⟨e,he,aj,na⟩:=e3 j db Fw jy;have J:=ft e he aj;rcases na with na|na
   .rw[na]at J;exact uS i (xbR.1 av).1 (by simpa using J)
   exact uS _ (rB _ na) (by simpa using J)
  obtain⟨eQ,eE⟩:=pf j db jy jx wW ta;have J:h6 P T G all i (λgC=>h6 P T G all j (jw P T G all K fuel ((listed.setIfInBounds i true).setIfInBounds j true)) gC) σ:=wV (λgC uZ=>uZ.2 j (ready_mono aB jx)) H;have Qt:db.dst≠some a:=λay=>by obtain⟨_,_,a3⟩:=Oper.apart_spec eQ;refine a3 a ay ?_;unfold Oper.looksAt;rw[ad];simp[Op.operands]
  have aa:h6 P T G all j (λga=>ga.aO a=σ.aO a/\h6 P T G all i (jw P T G all K fuel ((listed.setIfInBounds i true).setIfInBounds j true)) ga) σ:=by unfold h6 at J⊢;simp only[af,jy]at J⊢;exact aj3 Qt (Yd ad nb cK eE eQ J)
  have Fx:∀k ok,all[k]?=some ok->k≠i->(listed.setIfInBounds j true).getD k true=false->k∉B->fk.apart all ok=true/\∀t a x,ok.op≠ .store t a x:=λk ok ah rC pg gP=>by
   refine pf k ok ah rC ?_ gP;by_cases fy:j=k;.subst fy;exact wW
   rw[getD_set_ne true fy]at pg;exact pg
  refine wV (λga ax=>ih (listed.setIfInBounds j true) ga (ax.1.trans cK) (λk ah=>by
   have fy:j≠k:=by rintro rfl;exact ta ah
   rw[getD_set_ne true fy];exact rB k ah) Fx (ready_mono av (xbV jx)) ?_) aa
  rw[Array.setIfInBounds_comm _ _ jx];exact ax.2
end
section
variable{P:Program}{T:ch}{G:dt}{all:Array Oper}
def Cf:aX->Option Key
 | .ptr k _=>some k| .gy k _ _ _=>some k|_=>none
def keyOf(aO:Nat->aX):Operand->Option Key
 | .tmp a=>Cf (aO a)|_=>none
theorem Qu{aO:Nat->aX}(x:Operand):Cf (cg G aO x)=keyOf aO x:=by cases x with|tmp a=>rfl|const v=>rfl|func f=>rfl|global g=>simp only[cg,keyOf];split<;>rfl
def u4(aO:Nat->aX):Operand->Bool
 | .tmp a=>match aO a with| .d _=>true|_=>false
 | .const _=>true|_=>false
def u5(aO:Nat->aX)(k:Key):Op->Bool
 | .store _ a _=>match keyOf aO a with|some bF=>bF !=k|none=>false
 |_=>false
def K8:Op->Bool
 | .store _ _ _=>true|_=>false
def FG(aO:Nat->aX):Operand->Bool
 | .tmp a=>match aO a with| .ptr _ _=>true|_=>false
 |_=>false
def aj5:aX->Bool
 | .d _=>true| .ed _ _=>true|_=>false
def qF(aO:Nat->aX):Operand->Bool
 | .tmp a=>aj5 (aO a)|_=>false
def u6(aO:Nat->aX):Op->Bool
 | .load _ a=>qF aO a| .indexAddr _ x _=>qF aO x| .lookup _ m _ _=>qF aO m| .slice _ x _ _ none=>qF aO x| .call ⟨.builtin .len,args,_⟩=>args.toList.all (qF aO)|_=>false
def th(aO:Nat->aX)(x y:Oper):Bool:=pass x y||u6 aO x.op||match x.op with
 | .binOp _ _ a b _=>u4 aO a&&u4 aO b| .load _ a=>match keyOf aO a with|some k=>(FG aO a&&!K8 y.op)||iV y.op||jv y.op||hM y.op||u5 aO k y.op|none=>false
 | .indexAddr _ _ _=>iV y.op||jv y.op||hM y.op||K8 y.op| .store _ a _=>match keyOf aO a with|some k=>u5 aO k y.op|none=>false
 |_=>false
def Qv(k:Key)(o o':cx):Prop:=o' k=o k
def Cg(o o':cx):Prop:=∀k n es,o k=some (.row n es)->∃fZ,o' k=some (.row n fZ)/\fZ.length=es.length
def aj6{y:Oper}{σ:aM}{K K':aM->Prop}{R:cx->Prop}(au:R σ.objs)(gQ:∀r cA,res T G σ y=some (r,cA)->R (dJ σ.objs cA))(ah:∀objs r,R objs->K (aM.put ⟨σ.aO,objs⟩ y.dst r)->K' (aM.put ⟨σ.aO,objs⟩ y.dst r)) (h:df P T G y K σ):df P T G y K' σ:=by unfold df at*;rw[wQ]at*;cases av:res T G σ y with|none=>simp only[av,xby]at h⊢;exact Fk h λr av=>ah σ.objs r au av|some p=>simp only[av,xaI]at h⊢;obtain⟨r,cA⟩:=p;exact ah _ _ (gQ r cA av) h
def Ye{σ:aM}{y:Oper}(h:(iV y.op||jv y.op||hM y.op)=true){r:aX}{cA:List (Key×cU)}(av:res T G σ y=some (r,cA)):cA=[]:=by
 unfold res at av;split at av;.cases av;rfl
 split at av;.cases av;rfl
 simp only[xbh]at h;rcases h with(h|h)|h
 .rw[(B2 h).2]at av;cases av
 .rw[B3 h]at av;cases av
 rw[(Qf (T:=T) (ev:=cg G σ.aO) (objs:=σ.objs) (d:=y.dst.getD 9999) h).2.2]at av;cases av
def Qw{σ:aM}{y:Oper}{t:TypeId}{a x:Operand}(aE:y.op= .store t a x){r:aX}{cA:List (Key×cU)}(av:res T G σ y=some (r,cA)): ∃k o o',keyOf σ.aO a=some k/\cA=[(k,o')]/\σ.objs k=some o/\((∃c iw,o= .box c/\o'= .box iw)\/∃n es fZ,o= .row n es/\o'= .row n fZ/\fZ.length=es.length):=by
 rw[<-Qu (G:=G)];unfold res at av;rw[aE]at av;simp only[ez,dH,Xr,eu]at av;split at av
 case h_2=>cases av
 split at av
 case isFalse=>cases av
 split at av
 .rename_i k off he;split at av
  case h_2=>cases av
  rename_i cells aT;split at av<;>cases av;exact⟨k,_,_,by rw[he];rfl,rfl,aT,.inl ⟨_,_,rfl,rfl⟩⟩
 .rename_i k cV eV off he;split at av
  case h_2=>cases av
  rename_i bF es aR aT ay;split at av
  case isFalse=>cases av
  rename_i ai;split at av<;>cases av;exact⟨k,_,_,by rw[he];rfl,rfl,aT,.inr ⟨cV,es,_,by rw[ai.1],rfl,by simp⟩⟩
 cases av
def FH{objs:cx}{k:Key}{o:cU}(j:Key):dJ objs [(k,o)] j=if j=k then some o else objs j:=by
 by_cases h:j=k;.subst h;simp[dJ,e1]
 simp[dJ,c5 _ _ h,h]
def aj7{σ:aM}{y:Oper}{k:Key}(h:(iV y.op||jv y.op||hM y.op||u5 σ.aO k y.op)=true){r:aX}{cA:List (Key×cU)}(av:res T G σ y=some (r,cA)):Qv k σ.objs (dJ σ.objs cA):=by
 rcases xbI.1 h with h|h;.rw[Ye h av];rfl
 unfold u5 at h;split at h
 case h_2=>cases h
 rename_i t a x aE;obtain⟨bF,o,o',J,rfl,aa,_⟩:=Qw aE av;rw[J]at h;simp only[bne_iff_ne,ne_eq]at h;show dJ σ.objs [(bF,o')] k=σ.objs k;rw[FH,xae (λe=>h e.symm)]
theorem Cg.refl(o:cx):Cg o o:=λk n es h=>⟨es,h,rfl⟩
def aj8{σ:aM}{y:Oper}(h:(iV y.op||jv y.op||hM y.op||K8 y.op)=true){r:aX}{cA:List (Key×cU)}(av:res T G σ y=some (r,cA)):Cg σ.objs (dJ σ.objs cA):=by
 rcases xbI.1 h with h|h;.rw[Ye h av];exact Cg.refl _
 unfold K8 at h;split at h
 case h_2=>cases h
 rename_i t a x aE;obtain⟨bF,o,o',J,rfl,aa,ax⟩:=Qw aE av;intro k n es ah;rw[FH];by_cases e:k=bF
 .subst e;rw[xac rfl];rw[aa]at ah;rcases ax with⟨c,iw,rfl,rfl⟩|⟨m,aBm,aj9,rfl,rfl,al⟩
  .cases ah
  cases ah;exact⟨aj9,rfl,al⟩
 rw[xae e];exact⟨es,ah,rfl⟩
def Looks(T:ch)(G:dt)(x:Oper)(aO:Nat->aX)(o:cx)(R:cx->Prop):Prop:=∀r cA,res T G ⟨aO,o⟩ x=some (r,cA)->cA=[]/\∀o',R o'->res T G ⟨aO,o'⟩ x=some (r,[])
def K9{x y:Oper}{σ:aM}{K:aM->Prop}{R:cx->Prop}(nb:x.guard=none)(Fo:hM x.op=false)(mZ:x.apart all y=true)(al:Looks T G x σ.aO σ.objs R)(au:R σ.objs)(gQ:∀r cA,res T G σ y=some (r,cA)->R (dJ σ.objs cA)) (h:eA P T G all x (λgC=>eA P T G all y K gC) σ):eA P T G all y (λga=>eA P T G all x K ga) σ:=by
 obtain⟨aK,a2,a3⟩:=Oper.apart_spec mZ;have pe:∀d,y.dst=some d->x.dst≠some d:=λd ay ad=>a2 d ad ay;have lu:∀(K:aM->Prop) σ,eA P T G all x K σ=df P T G x K σ:=λK σ=>by unfold eA;simp only[nb]
 simp only[lu]at h⊢;have uO:res T G σ x≠none:=by intro aN;rw[oj aN]at h;have:=yR h;rw[Fo]at this;cases this
 obtain⟨p,aU⟩:=Option.ne_none_iff_exists'.1 uO;obtain⟨r,cA⟩:=p;obtain⟨rfl,aa⟩:=al r cA aU;have J:eA P T G all y K (σ.put x.dst r):=by rw[my aU]at h;exact h
 have FF:∀(K:aM->Prop) objs,R objs->df P T G x K ⟨σ.aO,objs⟩=K (aM.put ⟨σ.aO,objs⟩ x.dst r):=λK objs aT=>my (aa objs aT);rw[hW,pd aK]at J;rw[hW];split at J
 .rename_i hw
  try simp only[hw]
  rw[jL aK a2]at J;refine aj6 au gQ (λobjs q aT ah=>?_) J;rw[jL a3 pe,FF _ _ aT,put_comm a2];exact ah
 .rename_i hw
  try simp only[hw]
  show df P T G x K (σ.put y.dst _);rw[jL a3 pe];have e:df P T G x (λaZ=>K (aZ.put y.dst (.d (.val (.tuple #[]))))) σ=K ((σ.put x.dst r).put y.dst (.d (.val (.tuple #[])))):=FF (λaZ=>K (aZ.put y.dst (.d (.val (.tuple #[]))))) σ.objs au;rw[e];exact J
 exact J.elim
def Yf{aO:Nat->aX}{x:Operand}(h:u4 aO x=true):∃d,cg G aO x= .d d:=by
 unfold u4 at h;split at h
 .split at h;.rename_i d ay;exact⟨d,ay⟩
  cases h
 .exact⟨_,rfl⟩
 cases h
def aka(o o':cx)(x:D):mX o (.d x)=mX o' (.d x):=by
 unfold mX;split<;>first|rfl|(rename_i h;cases h)|skip
 all_goals rfl
def FI{aO:Nat->aX}{x:Operand}(h:qF aO x=true):(∃d,cg G aO x= .d d)\/∃cs off,cg G aO x= .ed cs off:=by
 cases x with
 |tmp a=>simp only[qF]at h;show(∃d,aO a= .d d)\/∃cs off,aO a= .ed cs off;generalize aO a=v at h;cases v<;>first|exact .inl ⟨_,rfl⟩|exact .inr ⟨_,_,rfl⟩|cases h
 |_=>cases h
def Yg(o o':cx)(x:D):kg o (.d x)=kg o' (.d x):=by
 unfold kg;split<;>first|rfl|(rename_i h;cases h)|skip
 all_goals rfl
theorem akb(o o':cx)(cs:List D)(off:Nat):kg o (.ed cs off)=kg o' (.ed cs off):=rfl
def akc{aO:Nat->aX}{op:Op}(h:u6 aO op=true)(o o':cx):dH T (cg G aO) o op=dH T (cg G aO) o' op:=by
 cases op<;>simp only[u6,xar]at h
 case load t a=>rcases FI (G:=G) h with⟨d,e⟩|⟨cs,off,e⟩<;>simp only[dH,e]
 case indexAddr t x i=>
  rcases FI (G:=G) h with⟨d,e⟩|⟨cs,off,e⟩;.simp only[dH,e];cases d<;>rfl
  simp only[dH,e]
 case lookup t m k ok=>
  rcases FI (G:=G) h with⟨d,e⟩|⟨cs,off,e⟩
  .simp only[dH,e];split
   .cases d<;>first|rfl|skip
    rename_i v;cases v<;>first|rfl|skip
    rename_i q;cases q<;>rfl
   rfl
  simp only[dH,e]
 case slice t x lo af fX=>
  cases fX with
  |some _=>cases h
  |none=>
   simp only at h;rcases FI (G:=G) h with⟨d,e⟩|⟨cs,off,e⟩
   .simp only[dH,e,Yg o o' d];cases d<;>rfl
   simp only[dH,e,akb o o' cs off]
 case call c=>
  obtain⟨callee,args,dK⟩:=c;cases callee with
  |value=>rfl|invoke=>rfl
  |builtin b=>
   cases b<;>first|rfl|skip
   simp only at h;simp only[dH];split
   .rename_i t x aL a7;rw[a7]at h;simp only[xbj,List.all_nil,xbu]at h;rcases FI (G:=G) h with⟨d,e⟩|⟨cs,off,e⟩
    .simp only[e];cases bl:T t with
     |none=>rfl
     |some i=>
      obtain⟨aR,s,b,z⟩:=i;cases aR
      case map k q=>
       cases d
       case val v=>
        cases v
        case map r=>cases r<;>rfl
        all_goals rfl
       all_goals rfl
      case slice q=>simp only[Yg o o' d]
      case string=>
       cases d
       case val v=>cases v<;>rfl
       all_goals rfl
      all_goals rfl
    simp only[e];cases bl:T t with|none=>rfl|some i=>obtain⟨aR,s,b,z⟩:=i;cases aR<;>rfl
   rfl
def Yh{aO:Nat->aX}{op:Op}(h:u6 aO op=true):jv op=true:=by
 cases op<;>simp only[u6,xar]at h<;>first|rfl|skip
 case call c=>
  obtain⟨callee,args,dK⟩:=c;cases callee with
  |value=>cases h
  |invoke=>cases h
  |builtin b=>cases b<;>first|rfl|cases h
def akd{x:Oper}{aO:Nat->aX}{o:cx}(h:u6 aO x.op=true):Looks T G x aO o (λ_=>True):=by
 intro r cA av;have hm:=Yh h;unfold res at av;split at av
 .rename_i u hu;cases av;refine⟨rfl,λo' _=>?_⟩;unfold res;simp only[hu]
 rename_i aU;split at av;.rename_i u hu;cases av;refine⟨rfl,λo' _=>?_⟩;unfold res;simp only at hu;simp only[aU,akc h o' o,hu]
 rw[B3 hm]at av;cases av
def ake{x:Oper}{op:BinOp}{t:TypeId}{a b:Operand}{q:TypeId}(ad:x.op= .binOp op t a b q){aO:Nat->aX}{o:cx}(aH:u4 aO a=true)(aj:u4 aO b=true):Looks T G x aO o (λ_=>True):=by
 intro r cA av;obtain⟨d1,aL⟩:=Yf (G:=G) aH;obtain⟨d2,a7⟩:=Yf (G:=G) aj;unfold res at av;rw[ad]at av;cases aU:ez T (cg G aO) (.binOp op t a b q)with
 |some u=>rw[aU]at av;cases av;refine⟨rfl,λo' _=>?_⟩;unfold res;rw[ad,aU]
 |none=>
  rw[aU]at av;simp only at av;have hm:∀o',dH T (cg G aO) o' (.binOp op t a b q)=dH T (cg G aO) o (.binOp op t a b q):=by intro o';simp only[dH,aL,a7,aka o' o]
  cases hJ:dH T (cg G aO) o (.binOp op t a b q)with
  |some u=>rw[hJ]at av;cases av;refine⟨rfl,λo' _=>?_⟩;unfold res;rw[ad,aU];simp only[hm o',hJ]
  |none=>rw[hJ]at av;simp[hv,eu]at av
def akf{x:Oper}{t:TypeId}{a:Operand}{k:Key}(ad:x.op= .load t a){aO:Nat->aX}{o:cx}(aH:keyOf aO a=some k):Looks T G x aO o (Qv k o):=by
 intro r cA av;have he:Cf (cg G aO a)=some k:=by rw[Qu];exact aH
 unfold res at av;rw[ad]at av;simp only[ez]at av;have hm:∀o',o' k=o k->dH T (cg G aO) o' (.load t a)=dH T (cg G aO) o (.load t a):=by
  intro o' aT;simp only[dH];generalize cg G aO a=v at he⊢;cases v<;>simp only[Cf,reduceCtorEq,xaE]at he;.subst he;simp only[aT]
  subst he;simp only[aT]
 cases hJ:dH T (cg G aO) o (.load t a)with
 |some u=>rw[hJ]at av;cases av;refine⟨rfl,λo' aT=>?_⟩;unfold res;rw[ad];simp only[ez,hm o' aT,hJ]
 |none=>rw[hJ]at av;simp[hv,eu]at av
def akg{x:Oper}{t:TypeId}{a b:Operand}(ad:x.op= .indexAddr t a b){aO:Nat->aX}{o:cx}:Looks T G x aO o (Cg o):=by
 intro r cA av;unfold res at av;rw[ad]at av;simp only[ez]at av;cases hJ:dH T (cg G aO) o (.indexAddr t a b)with
 |some u=>
  rw[hJ]at av;cases av;refine⟨rfl,λo' aT=>?_⟩;have hm:dH T (cg G aO) o' (.indexAddr t a b)=some r:=by
   simp only[dH]at hJ⊢;split at hJ
   .split at hJ
    .split at hJ
     .rename_i aN;rw[xac aN];split at hJ<;>first|exact hJ|skip
      rename_i key aS;cases ah:o key with
      |none=>rw[ah]at hJ;cases hJ
      |some fx=>
       cases fx with
       |row k es=>obtain⟨fZ,J,aa⟩:=aT key k es ah;rw[ah]at hJ;rw[J];simp only[aa]at hJ⊢;exact hJ
       |dead=>rw[ah]at hJ;cases hJ
       |box=>rw[ah]at hJ;cases hJ
       |map=>rw[ah]at hJ;cases hJ
     cases hJ
    cases hJ
   .exact hJ
   cases hJ
  unfold res;rw[ad];simp only[ez,hm]
 |none=>rw[hJ]at av;simp[hv,eu]at av
def akh{o:cx}{k bF:Key}{a b:cU}(h:k≠bF):dJ (dJ o [(k,a)]) [(bF,b)]=dJ (dJ o [(bF,b)]) [(k,a)]:=by
 funext j
 simp only[FH];by_cases J:j=k<;>by_cases aa:j=bF<;>simp_all
def Yi{y:Oper}{t:TypeId}{a x:Operand}{k:Key}(aE:y.op= .store t a x){aO:Nat->aX}{o o':cx}(aH:keyOf aO a=some k)(aT:o' k=o k):res T G ⟨aO,o'⟩ y=res T G ⟨aO,o⟩ y:=by
 have he:Cf (cg G aO a)=some k:=by rw[Qu];exact aH
 unfold res;rw[aE];simp only[ez,dH,Xr,eu];generalize cg G aO a=v at he⊢;cases v<;>simp only[Cf,reduceCtorEq,xaE]at he;.subst he;simp only[aT]
 subst he;simp only[aT]
def aki{x y:Oper}{σ:aM}{K:aM->Prop}{t t':TypeId}{a cI v fw:Operand}{k bF:Key}(ad:x.op= .store t a v)(aE:y.op= .store t' cI fw)(aH:keyOf σ.aO a=some k)(y4:keyOf σ.aO cI=some bF)(cp:bF≠k) (nb:x.guard=none) (mZ:x.apart all y=true) (h:eA P T G all x (λgC=>eA P T G all y K gC) σ):eA P T G all y (λga=>eA P T G all x K ga) σ:=by
 obtain⟨aK,a2,a3⟩:=Oper.apart_spec mZ;have pe:∀d,y.dst=some d->x.dst≠some d:=λd ay ad=>a2 d ad ay;have lu:∀(K:aM->Prop) σ,eA P T G all x K σ=df P T G x K σ:=λK σ=>by unfold eA;simp only[nb]
 simp only[lu]at h⊢;have Yj:∀{z:Oper}{tt:TypeId}{p q:Operand}{τ:aM}{K':aM->Prop},z.op= .store tt p q->df P T G z K' τ->∃r cS e4,res T G τ z=some (r,[(cS,e4)])/\keyOf τ.aO p=some cS/\K' (τ.step z.dst r [(cS,e4)]):=by
  intro z tt p q τ K' bG bS;cases av:res T G τ z with
  |none=>rw[oj av]at bS;have:=yR bS;rw[bG]at this;cases this
  |some u=>obtain⟨r,cA⟩:=u;obtain⟨cS,o,e4,b0,rfl,_,_⟩:=Qw bG av;exact⟨r,cS,e4,rfl,b0,by rw[my av]at bS;exact bS⟩
 obtain⟨r,cS,e4,b0,bR,cw⟩:=Yj ad h;rw[aH]at bR;cases bR;have y5:eA P T G all y K (aM.put ⟨σ.aO,dJ σ.objs [(k,e4)]⟩ x.dst r):=cw;have Yk:∀(kk:cx),kk k=σ.objs k->∀K':aM->Prop,df P T G x K' ⟨σ.aO,kk⟩=K' (aM.put ⟨σ.aO,dJ kk [(k,e4)]⟩ x.dst r):=by
  intro kk aT K';have:res T G ⟨σ.aO,kk⟩ x=some (r,[(k,e4)]):=by rw[Yi ad aH aT];exact b0
  exact my this
 rw[hW,pd aK]at y5;rw[hW];have akj:jV all ⟨σ.aO,dJ σ.objs [(k,e4)]⟩ y=jV all σ y:=rfl;rw[akj]at y5;split at y5
 .rename_i hw
  try simp only[hw]
  rw[jL aK a2]at y5;obtain⟨eG,e2,kk,eQ,eE,hR⟩:=Yj aE y5;have Yl:keyOf σ.aO cI=some e2:=eE;rw[y4]at Yl;cases Yl;have akk:res T G σ y=some (eG,[(bF,kk)]):=by rw[<-eQ];exact(Yi (T:=T) (G:=G) aE (o:=σ.objs) (o':=dJ σ.objs [(k,e4)]) y4 (by rw[FH,xae cp])).symm
  rw[my akk];show df P T G x K (aM.put ⟨σ.aO,dJ σ.objs [(bF,kk)]⟩ y.dst eG);rw[jL a3 pe,Yk _ (by rw[FH,xae (λe=>cp e.symm)]),put_comm a2,akh cp];exact hR
 .rename_i hw
  try simp only[hw]
  show df P T G x K (σ.put y.dst _);rw[jL a3 pe];have e:=Yk σ.objs rfl (λaZ=>K (aZ.put y.dst (.d (.val (.tuple #[])))));have du:df P T G x (λaZ=>K (aZ.put y.dst (.d (.val (.tuple #[]))))) σ=_:=e;rw[du];exact y5
 exact y5.elim
def akl{x y:Oper}{σ:aM}{K:aM->Prop}(nb:x.guard=none)(mZ:x.apart all y=true)(h:th σ.aO x y=true)(H:eA P T G all x (λgC=>eA P T G all y K gC) σ):eA P T G all y (λga=>eA P T G all x K ga) σ:=by
 unfold th at h;rcases xbI.1 h with h|h
 .rcases xbI.1 h with h|h;.exact swap mZ h H
  refine K9 nb ?_ mZ (akd h) trivial (λ_ _ _=>trivial) H;cases ai:hM x.op with|false=>rfl|true=>have:=Fj ai;rw[Yh h]at this;cases this.2.1
 split at h;.rename_i op t a b q ad;rw[xao]at h;exact K9 nb (by rw[ad];rfl) mZ (ake ad h.1 h.2) trivial (λ_ _ _=>trivial) H
 .rename_i t a ad;split at h
  case h_2=>cases h
  rename_i k ah;simp only[xbh]at h;have other:(iV y.op||jv y.op||hM y.op||u5 σ.aO k y.op)=true->eA P T G all y (λga=>eA P T G all x K ga) σ:=λbC=>K9 nb (by rw[ad];rfl) mZ (akf ad ah) (rfl:Qv k σ.objs σ.objs) (λ_ _ av=>aj7 bC av) H
  rcases h with(((h|h)|h)|h)|h
  .rw[xao]at h;obtain⟨J,aa⟩:=h;unfold FG at J;split at J
   case h_2=>cases J
   rename_i a0;split at J
   case h_2=>cases J
   rename_i Ch off aC;refine Yd ad nb aC ?_ mZ H;intro t' cI fw he;rw[he]at aa;cases aa
  .exact other (by simp[h])
  .exact other (by simp[h])
  .exact other (by simp[h])
  exact other (by simp[h])
 .rename_i t a b ad;exact K9 nb (by rw[ad];rfl) mZ (akg ad) (Cg.refl _) (λ_ _ av=>aj8 h av) H
 .rename_i t a v ad;split at h
  case h_2=>cases h
  rename_i k ah;unfold u5 at h;split at h
  case h_2=>cases h
  rename_i t' cI fw aE;split at h
  case h_2=>cases h
  rename_i bF fh;exact aki ad aE ah fh (by simpa using h) nb mZ H
 cases h
def nc:Op->List Tmp
 | .binOp _ _ a b _=>(match a with| .tmp t=>[t]|_=>[])++(match b with| .tmp t=>[t]|_=>[])
 | .load _ (.tmp a)=>[a]| .store _ (.tmp a) _=>[a]| .indexAddr _ (.tmp a) _=>[a]| .lookup _ (.tmp a) _ _=>[a]| .slice _ (.tmp a) _ _ _=>[a]| .call ⟨.builtin .len,args,_⟩=>args.toList.filterMap λx=>match x with| .tmp t=>some t|_=>none
 |_=>[]
def u7:Op->List Tmp
 | .store _ (.tmp a) _=>[a]|_=>[]
theorem Qx{s s':Nat->aX}{x:Operand}(h:∀t,x= .tmp t->s t=s' t):keyOf s x=keyOf s' x:=by cases x with|tmp t=>simp only[keyOf,h t rfl]|_=>rfl
theorem Ym{s s':Nat->aX}{x:Operand}(h:∀t,x= .tmp t->s t=s' t):u4 s x=u4 s' x:=by cases x with|tmp t=>simp only[u4,h t rfl]|_=>rfl
theorem akm{s s':Nat->aX}{x:Operand}(h:∀t,x= .tmp t->s t=s' t):FG s x=FG s' x:=by cases x with|tmp t=>simp only[FG,h t rfl]|_=>rfl
def akn{s s':Nat->aX}{x y:Oper}(h:∀t,t∈nc x.op\/t∈u7 y.op->s t=s' t):th s x y=th s' x y:=by
 have aE:∀k,u5 s k y.op=u5 s' k y.op:=by
  intro k;unfold u5;split;.rename_i t a v he;rw[Qx (s:=s) (s':=s') (x:=a) (λq bM=>h q (.inr (by rw[he,bM];simp[u7])))]
  rfl
 have ay:u6 s x.op=u6 s' x.op:=by
  have ad:∀t,t∈nc x.op->s t=s' t:=λt aP=>h t (.inl aP);generalize x.op=op at ad;have one:∀a:Operand,(∀t,a= .tmp t->t∈nc op)->qF s a=qF s' a:=by intro a aH;cases a with|tmp t=>simp only[qF,ad t (aH t rfl)]|_=>rfl
  cases op<;>simp only[u6]
  case load t a=>exact one a (by rintro t rfl;simp[nc])
  case indexAddr t a i=>exact one a (by rintro t rfl;simp[nc])
  case lookup t a k ok=>exact one a (by rintro t rfl;simp[nc])
  case slice t a lo af fX=>
   cases fX with
   |none=>exact one a (by rintro t rfl;simp[nc])
   |some _=>rfl
  case call c=>
   obtain⟨callee,args,dK⟩:=c;cases callee with
   |value=>rfl|invoke=>rfl
   |builtin b=>
    cases b<;>first|rfl|skip
    simp only;rw[Bool.eq_iff_iff,xax,xax];have aH:∀a∈args.toList,qF s a=qF s' a:=λa aH=>one a (by rintro t rfl;simp only[nc,List.mem_filterMap];exact⟨_,aH,rfl⟩);exact⟨λh a hm=>by rw[<-aH a hm];exact h a hm,λh a hm=>by rw[aH a hm];exact h a hm⟩
 unfold th;rw[ay]
 congr 1
 split;.rename_i op t a b q ad;have aH:∀t,a= .tmp t->s t=s' t:=λt aP=>h t (.inl (by rw[ad,aP];simp[nc]));have aj:∀t,b= .tmp t->s t=s' t:=λt aP=>h t (.inl (by rw[ad,aP];simp[nc]));rw[Ym aH,Ym aj]
 .rename_i t a ad;have aH:∀t,a= .tmp t->s t=s' t:=λt aP=>h t (.inl (by rw[ad,aP];simp[nc]));rw[Qx aH,akm aH];split
  .rw[aE]
  rfl
 .rfl
 .rename_i t a v ad;have aH:∀t,a= .tmp t->s t=s' t:=λt aP=>h t (.inl (by rw[ad,aP];simp[nc]));rw[Qx aH];split
  .rw[aE]
  rfl
 rfl
def ako{y:Oper}{σ:aM}{K:aM->Prop}{L:List Tmp}(ay:∀a∈L,y.dst≠some a)(h:eA P T G all y K σ):eA P T G all y (λaZ=>(∀a∈L,aZ.aO a=σ.aO a)/\K aZ) σ:=by
 have aU:∀(objs:cx)(r:aX),∀a∈L,(aM.put ⟨σ.aO,objs⟩ y.dst r).aO a=σ.aO a:=λobjs r a aH=>by
  cases aE:y.dst with
  |none=>rfl
  |some d=>
   have:a≠d:=by rintro rfl;exact ay a aH aE
   simp only[aM.put,c5 _ _ this]
 rw[hW]at h⊢;split at h
 .rename_i hw
  try simp only[hw]
  exact wU (λobjs r ah=>⟨aU objs r,ah⟩) h
 .rename_i hw
  try simp only[hw]
  exact⟨aU σ.objs _,h⟩
 exact h.elim
def akp{x:Oper}{σ:aM}{p:Prop}(h:eA P T G all x (λ_=>p) σ):p:=by
 rw[hW]at h;split at h
 .unfold df at h;split at h;.exact h
  unfold jK at h;split at h
  .split at h;.obtain⟨_,_,_,_,_,_,⟨r,om⟩,_,q⟩:=h;exact q r (by rw[om])
   exact h.elim
  exact h.elim
 .exact h
 exact h.elim
def akq{K:aM->Prop}{i:Nat}{fk:Oper}(af:all[i]?=some fk)(nb:fk.guard=none){B:List Nat}(e3:∀j db,j∈B->all[j]?=some db->∃e∈db.after,Region.binds .any e=true/\(e.on=i\/e.on∈B)){s0:Nat->aX}{L:List Tmp}(akr:∀t∈nc fk.op,t∈L): ∀(fuel:Nat)(listed:Array Bool)(σ:aM),(∀t∈L,σ.aO t=s0 t)->(∀j,j∈B->listed.getD j true=false)->(∀j db,all[j]?=some db->j≠i->listed.getD j true=false->j∉B->fk.apart all db=true/\th s0 fk db=true/\(∀t∈L,db.dst≠some t)/\∀t∈u7 db.op,t∈L)->i∈Region.ready .any all listed->h6 P T G all i (jw P T G all K fuel (listed.setIfInBounds i true)) σ->jw P T G all K (fuel+1) listed σ:=by
 intro fuel
 induction fuel with
 |zero=>
  intro listed σ cK rB pf av H;refine⟨λh=>(by rw[h]at av;cases av),λj aB=>?_⟩;by_cases jx:j=i;.subst jx;exact H
  have hm:=ready_mono aB jx;exfalso;have key:Region.ready .any all (listed.setIfInBounds i true)=[]:=by have Qy:=wV (K':=λ_=>Region.ready .any all (listed.setIfInBounds i true)=[]) (λaZ bC=>bC.1) H;unfold h6 at Qy;simp only[af]at Qy;exact akp Qy
  rw[key]at hm;cases hm
 |succ fuel ih=>
  intro listed σ cK rB pf av H;refine⟨λh=>(by rw[h]at av;cases av),λj aB=>?_⟩;by_cases jx:j=i;.subst jx;exact H
  obtain⟨wW,db,jy,ft⟩:=xbR.1 aB;have uS:∀k,listed.getD k true=false->listed[k]?.getD false=true->False:=λk au J=>by
   rcases xbe k listed.size with bC|bC;.simp[bC]at au J;rw[au]at J;cases J
   simp[Array.getElem?_eq_none bC]at J
  have ta:j∉B:=λFw=>by
   obtain⟨e,he,aj,na⟩:=e3 j db Fw jy;have J:=ft e he aj;rcases na with na|na
   .rw[na]at J;exact uS i (xbR.1 av).1 (by simpa using J)
   exact uS _ (rB _ na) (by simpa using J)
  obtain⟨eQ,eE,hR,tc⟩:=pf j db jy jx wW ta;have J:h6 P T G all i (λgC=>h6 P T G all j (jw P T G all K fuel ((listed.setIfInBounds i true).setIfInBounds j true)) gC) σ:=wV (λgC uZ=>uZ.2 j (ready_mono aB jx)) H;have aa:h6 P T G all j (λga=>(∀a∈L,ga.aO a=σ.aO a)/\h6 P T G all i (jw P T G all K fuel ((listed.setIfInBounds i true).setIfInBounds j true)) ga) σ:=by
   unfold h6 at J⊢;simp only[af,jy]at J⊢;have bD:th σ.aO fk db=true:=by
    rw[<-eE];refine akn λt aP=>cK t ?_;rcases aP with aP|aP
    .exact akr t aP
    exact tc t aP
   exact ako hR (akl nb eQ bD J)
  have Fx:∀k ok,all[k]?=some ok->k≠i->(listed.setIfInBounds j true).getD k true=false->k∉B->fk.apart all ok=true/\th s0 fk ok=true/\(∀t∈L,ok.dst≠some t)/\∀t∈u7 ok.op,t∈L:=λk ok ah rC pg gP=>by
   refine pf k ok ah rC ?_ gP;by_cases fy:j=k;.subst fy;exact wW
   rw[getD_set_ne true fy]at pg;exact pg
  refine wV (λga ax=>ih (listed.setIfInBounds j true) ga (λt aP=>(ax.1 t aP).trans (cK t aP)) (λk ah=>by
   have fy:j≠k:=by rintro rfl;exact ta ah
   rw[getD_set_ne true fy];exact rB k ah) Fx (ready_mono av (xbV jx)) ?_) aa
  rw[Array.setIfInBounds_comm _ _ jx];exact ax.2
end
structure V where
 name:ByteArray
 bool:Bool
 lo:Int
 af:Int
def V.cells(v:V):List D:=[a1 v.name,aI v.bool,I v.lo,I v.af]
def V.d(v:V):D:= .agg v.cells
def br(l:List V):D:= .aV 4 (l.map V.cells)
def p2(n:Int):D:= .val (.int .u8 n)
def nd(n:Int):Prop:=-9223372036854775808<=n/\n<=9223372036854775807
def V.ok(v:V):Prop:=nd v.lo/\nd v.af/\v.name.size<=9223372036854775807
def V.span(v:V):Int:=if v.bool then 2 else if v.lo>v.af then 0 else if v.af-v.lo<1073741824 then v.af-v.lo+1 else 1073741825
def bitsOf(n:Int):Nat:=if n<=1 then 0 else Nat.log2 (n-1).toNat+1
def aks{n:Int}{k:Nat}(J:∀j:Nat,j<k->(2:Int)^j<n)(aa:n<=2^k):bitsOf n=k:=by
 unfold bitsOf;cases k with
 |zero=>simp at aa;simp[aa]
 |succ k=>
  have ax:=J k (by omega);have aU:(0:Int)<2^k:=Int.pow_pos (by omega);rw[xae (by omega)];have e:Nat.log2 (n-1).toNat=k:=by
   have aH:(2:Nat)^k<=(n-1).toNat:=by
    have:((2^k:Nat):Int)=2^k:=by simp
    omega
   have aj:(n-1).toNat<2^(k+1):=by
    have:((2^(k+1):Nat):Int)=2^(k+1):=by simp
    omega
   exact(Nat.log2_eq_iff (by have:=Nat.two_pow_pos k;omega)).2 ⟨aH,aj⟩
  omega
def Yn{n:Int}(h:1<n):bitsOf n=bitsOf (n/2+n%2)+1:=by
 unfold bitsOf;rw[xae (by omega)];by_cases aa:n=2;.subst aa;decide
 rw[xae (by omega)];have e:(n/2+n%2-1).toNat=(n-1).toNat/2:=by omega
 rw[e];have ax:(n-1).toNat≠0:=by omega
 have bh:(n-1).toNat/2≠0:=by omega
 obtain⟨a,b⟩:=(Nat.log2_eq_iff bh).1 rfl;have:Nat.log2 (n-1).toNat=Nat.log2 ((n-1).toNat/2)+1:=by
  refine(Nat.log2_eq_iff ax).2 ⟨?_,?_⟩;.rw[Nat.pow_succ];omega
  rw[Nat.pow_succ];omega
 omega
def ti(c:Int):Bool:=(decide (c>=97)&&decide (c<=122))||(decide (c>=65)&&decide (c<=90))
def y6(c:Int):Bool:=decide (c>=48)&&decide (c<=57)
def nf(c:Int):Bool:=ti c||y6 c||(c==95)
def Yo{lo af:Int}(J:nd lo)(aa:nd af)(h:lo<=af):IntKind.u64.wrap (IntKind.u64.wrap af-IntKind.u64.wrap lo)=af-lo:=by unfold nd at J aa;simp only[xco];omega
def V.Yp{v:V}(h:v.bool=true):v.span=2:=by simp[V.span,h]
def V.Yq{v:V}(h:v.bool=false)(J:v.lo>v.af):v.span=0:=by simp[V.span,h,J]
def V.Qz{v:V}(h:v.bool=false)(J:v.lo<=v.af)(aa:v.af-v.lo<1073741824):v.span=v.af-v.lo+1:=by simp[V.span,h,aa];omega
def V.QA{v:V}(h:v.bool=false)(J:v.lo<=v.af)(aa:1073741824<=v.af-v.lo):v.span=1073741825:=by simp[V.span,h,aa];omega
def has(x:ByteArray)(l:List ByteArray):Bool:=l.any λy=>decide (y=x)
def idxOf(x:ByteArray)(l:List ByteArray):Int:=match l.findIdx? (λy=>decide (y=x))with|some i=>(i:Nat)|none=>-1
def Yr{x:ByteArray}{l:List ByteArray}(h:∀j:Nat,j<l.length->l[j]?≠some x):idxOf x l=-1:=by
 unfold idxOf;have:l.findIdx? (λy=>decide (y=x))=none:=by rw[List.findIdx?_eq_none_iff];intro y aE;obtain⟨j,aB⟩:=xaG.1 aE;have J:=h j (xaa.1 aB).1;rw[aB]at J;simpa using J
 rw[this]
def Ys{x:ByteArray}{l:List ByteArray}{i:Nat}(h:∀j:Nat,j<i->l[j]?≠some x)(af:l[i]?=some x):idxOf x l=i:=by
 unfold idxOf;obtain⟨b9,cN⟩:=xaa.1 af;have:l.findIdx? (λy=>decide (y=x))=some i:=by rw[xbs];refine⟨b9,by simpa using cN,λj aB=>?_⟩;have J:=h j aB;rw[xab (by omega)]at J;simpa using J
 rw[this]
def Yt(x:ByteArray)(l:List ByteArray):decide (idxOf x l>=0)=has x l:=by
 unfold idxOf has;cases h:l.findIdx? (λy=>decide (y=x))with
 |none=>
  rw[List.findIdx?_eq_none_iff]at h;have:l.any (λy=>decide (y=x))=false:=by rw[List.any_eq_false];intro y aE;simpa using h y aE
  rw[this];rfl
 |some i=>obtain⟨J,aa,_⟩:=xbs.1 h;have:l.any (λy=>decide (y=x))=true:=xbC.2 ⟨_,xaZ J,aa⟩;rw[this];simp
def Yu{x:ByteArray}{l:List ByteArray}{i:Nat}(h:l[i]?=some x):has x l=true:=xbC.2 ⟨x,xad h,by simp⟩
def Yv{x:ByteArray}{l:List ByteArray}(h:∀j:Nat,j<l.length->l[j]?≠some x):has x l=false:=by unfold has;rw[List.any_eq_false];intro y aE;obtain⟨j,aB⟩:=xaG.1 aE;have J:=h j (xaa.1 aB).1;rw[aB]at J;simpa using J
def pj(p:Int->Bool)(s:ByteArray)(i:Nat):Bool:=match s[i]? with|some b=>p b.toNat|none=>false
def oq(p:Int->Bool)(s:ByteArray):Nat:=((List.range (s.size+1)).find? λi=>!pj p s i).getD 0
theorem La{s:ByteArray}{i:Nat}:s[i]?=if h:i<s.size then some s[i]else none:=rfl
def akt{p:Int->Bool}{s:ByteArray}{i:Nat}(h:pj p s i=true):i<s.size:=by
 unfold pj at h;rw[La]at h;by_cases J:i<s.size;.exact J
 rw[dif_neg J]at h;cases h
def words:List ByteArray:=[⟨#[65]⟩,⟨#[65,70]⟩,⟨#[65,71]⟩,⟨#[65,88]⟩,⟨#[69]⟩,⟨#[69,70]⟩,⟨#[69,71]⟩,⟨#[69,88]⟩,⟨#[85]⟩,⟨#[98,111,111,108]⟩,⟨#[100,101,102]⟩,⟨#[101,108,115,101]⟩,⟨#[102,97,105,114]⟩,⟨#[102,97,108,115,101]⟩,⟨#[105,102]⟩,⟨#[105,110,105,116]⟩,⟨#[105,110,118,97,114]⟩,⟨#[109,111,100]⟩,⟨#[110,101,120,116]⟩,⟨#[115,112,101,99]⟩,⟨#[116,104,101,110]⟩,⟨#[116,114,97,110,115]⟩,⟨#[116,114,117,101]⟩,⟨#[118,97,114]⟩]
def isName(s:ByteArray):Bool:=decide ((s.size:Int)>=1)&&decide ((s.size:Int)<=24)&&pj ti s 0&&((oq nf s:Int)==(s.size:Int))&&!has s words
def Yw(s:ByteArray):(decide (s=⟨#[]⟩)=true/\decide ((s.size:Int)>=1)=false)\/∃b,decide (s=⟨#[]⟩)=false/\decide ((s.size:Int)>=1)=true/\s[0]?=some b:=by
 by_cases h:0<s.size
 .refine .inr ⟨s[0],?_,?_,?_⟩
  .have:s≠⟨#[]⟩:=by rintro rfl;exact absurd h (by decide)
   simpa using this
  .simp;omega
  rw[La,dif_pos h]
 refine .inl ⟨?_,?_⟩
 .have au:s.size=0:=by omega
  have:s=⟨#[]⟩:=by
   cases s with|mk d=>
   congr 1
   exact xbm au
  simpa using this
 simp;omega
def u9(v:V):Bool:=decide ((if v.af>v.lo then v.af else v.lo)>255)||decide ((if v.af<v.lo then v.af else v.lo)< -255)
def Ci(seen:List V)(v:V):Int:=if !isName v.name then 12 else if has v.name (seen.map V.name)then 6 else if v.bool&&(v.lo !=0||v.af !=0)then 3
 else if !v.bool&&(decide (v.lo>v.af)||u9 v||decide (IntKind.i64.wrap (v.af-v.lo)>=64))then 2 else 0
def jz(l:List V)(i:Nat):Int:=match l[i]? with|some v=>Ci (l.take i) v|none=>0
def kM(l:List V):Int×Int:=match(List.range l.length).find? (λi=>jz l i !=0)with|some i=>((i:Int),jz l i)|none=>(0,0)
def Yx{l:List V}{i:Nat}{e:Int}(h:∀j:Nat,j<i->jz l j=0)(af:i<l.length)(he:jz l i=e)(au:e≠0):kM l=((i:Int),e):=by
 unfold kM;have:(List.range l.length).find? (λi=>jz l i !=0)=some i:=by rw[List.find?_range_eq_some];exact⟨by simpa[he]using au,by simpa using af,λj aB=>by simp[h j aB]⟩
 rw[this];simp[he]
def Yy{l:List V}(h:∀j:Nat,j<l.length->jz l j=0):kM l=(0,0):=by
 unfold kM;have:(List.range l.length).find? (λi=>jz l i !=0)=none:=by rw[List.find?_eq_none];intro j aB;simp[h j (by simpa using aB)]
 rw[this]
def aku{v:V}(aS:v.ok):(!v.bool&&(decide (v.lo>v.af)||u9 v||decide (IntKind.i64.wrap (v.af-v.lo)>=64)))=(!v.bool&&(decide (v.lo>v.af)||!(decide (v.lo>=-255)&&decide (v.lo<=255))||!(decide (v.af>=-255)&&decide (v.af<=255))||decide (v.span>64))):=by
 cases aj:v.bool with
 |true=>rfl
 |false=>
  by_cases J:v.lo>v.af;.simp[J]
  have dS:v.lo<=v.af:=by omega
  by_cases aa:-255<=v.lo/\v.af<=255
  .have aL:u9 v=false:=by
    unfold u9;split<;>(try split)<;>simp<;>omega
   have a7:(decide (v.lo>=-255)&&decide (v.lo<=255))=true:=by simp;omega
   have bV:(decide (v.af>=-255)&&decide (v.af<=255))=true:=by simp;omega
   rw[V.Qz aj dS (by omega),aL,a7,bV,wrap64 _ (by omega) (by omega)];have cG:decide (v.lo>v.af)=false:=by simpa using dS
   have dI:decide (v.af-v.lo>=64)=decide (v.af-v.lo+1>64):=by rw[decide_eq_decide];omega
   rw[cG,dI];rfl
  have aL:u9 v=true:=by unfold u9;split<;>(try split)<;>simp<;>omega
  have a7:(!(decide (v.lo>=-255)&&decide (v.lo<=255))||!(decide (v.af>=-255)&&decide (v.af<=255)))=true:=by simp;omega
  rw[aL];revert a7;generalize decide (v.lo>v.af)=p;generalize (decide (v.lo>=-255)&&decide (v.lo<=255))=q;generalize (decide (v.af>=-255)&&decide (v.af<=255))=r;cases p<;>cases q<;>cases r<;>simp
def akv{l:List V}{x:ByteArray}{i:Nat}(h:∀j:Nat,j<i->(l.map V.name)[j]?≠some x):has x ((l.take i).map V.name)=false:=by refine Yv λj aB=>?_;rw[List.map_take,xaL];simp at aB;rw[xac (by omega)];exact h j (by omega)
theorem akw{l:List V}{w:V}{k i:Nat}(ah:k<i)(hw:l[k]?=some w):has w.name ((l.take i).map V.name)=true:=by refine Yu (i:=k) ?_;rw[List.map_take,xaL,xac ah,xah,hw];rfl
end Go.Am
