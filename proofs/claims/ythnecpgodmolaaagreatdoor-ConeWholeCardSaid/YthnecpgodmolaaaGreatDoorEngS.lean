/- Steps, joins, and nil slices that become rows of our own. No condition. -/
import Derived.Test.YthnecpgodmolaaaGreatDoorEngB
set_option linter.all false
set_option linter.unnecessarySimpa false
namespace Go.Am
section
variable{P:Program}{T:cg}{G:dt}{N:Nat}{σ:aK}{Q:Exit->aK->Prop}{all:Array Oper}
def aix(l:List Oper):∀(k:Nat)(σ:aK)(K:aK->Prop),(∀j,l[j]?=all[k+j]?)->fY P T G all l K σ->Bj P T G all (List.range' k l.length) K σ:=by
 induction l with
 |nil=>intro k σ K _ h;exact h
 |cons o l ih=>
  intro k σ K aq h;have ar:all[k]?=some o:=by simpa using(aq 0).symm
  simp only[xar,List.range'_succ,Bj,ar];refine EU (λaV uy=>ih (k+1) aV K (λj=>by have:=aq (j+1);simpa[xbj,Nat.add_comm 1 j]using this) uy) h
def aiy(bf:dR P T)(hm:P.follows .mixedOrders=true){id:Nat}{ops:Array Oper}(bX:wo N ops=true)(Bl:yd T ops (List.range ops.size) (Array.replicate ops.size false)=true) (h:fY P T G ops ops.toList (Q .normal) σ):hs P T G N (.region id ops true) σ Q:=by refine aid bf hm bX (List.range ops.size) (by simp) Bl ?_;rw[List.range_eq_range'];have:=aix (P:=P) (T:=T) (G:=G) (all:=ops) ops.toList 0 σ (Q .normal) (λj=>by simp) h;simpa using this
end
section
variable{P:Program}{T:cg}{G:dt}{N:Nat}{σ gD:aK}{Q:Exit->aK->Prop}{id:Nat}{ops:Array Oper}
end
def wrap64(x:Int)(ab:-9223372036854775808<=x)(af:x<=9223372036854775807):IntKind.i64.wrap x=x:=by rw[IntKind.wrap_i64];omega
def Fin(T:cg)(rs:List ResultVar)(R:D->Prop)(e:Exit)(aV:aK):Prop:=(e= .normal\/e= .ret)/\∃r d x,rj T aV rs=some r/\toD aV.objs r=some d/\d.le x/\R x
theorem getD_cons_zero{α:Type}(x:α)(l:List α)(d:α):(x::l).getD 0 d=x:=rfl
theorem getD_cons_succ{α:Type}(x:α)(l:List α)(n:Nat)(d:α):(x::l).getD (n+1) d=l.getD n d:=rfl
def Xx{σ:aK}(K:Key)(n:Nat)(uC:Nat->aS)(objs':cG)(ed:σ.objs K=none) (aG:∀t,uC t=σ.aM t\/σ.aM t= .d (.val (.slice none 0 0))/\uC t= .row K) (aF:∀k o,objs' k=some o->k=K/\o= .row n []\/k≠K/\(σ.objs k=some o\/∃xs i,σ.objs k=some (.box xs)/\xs[i]?=some (.d (.val (.slice none 0 0)))/\o= .box (xs.set i (.row K)))) (oK:∀k,σ.objs k≠none->objs' k≠none) (aiz:objs' K=some (.row n [])) (aiA:∀k,eZ (σ.objs k)->eZ (objs' k)):g6 σ ⟨uC,objs'⟩:=by
 intro m fr ρ a w h;have cK:∀k,σ.used k->k≠K:=by rintro k ⟨o,ak⟩ rfl;rw[ed]at ak;cases ak
 have av:∀k,σ.used k->aK.used ⟨uC,objs'⟩ k/\ct ρ K (.slice none 0 0) k=ρ k:=λk ak=>
  ⟨by
   cases bO:objs' k with
   |none=>exact absurd bO (oK k (by obtain⟨o,e⟩:=ak;rw[e];simp))
   |some o=>exact⟨o,bO⟩,cZ _ _ (cK k ak)⟩
 have aiB:aK.used ⟨uC,objs'⟩ K:=⟨_,aiz⟩;have Br:ct ρ K (.slice none 0 0) K= .slice none 0 0:=by simp[ct]
 have mR:b4 m (ct ρ K (.slice none 0 0)) (aK.used ⟨uC,objs'⟩) (.row K) (.slice none 0 0):=by have:=b4.row (m:=m) (ρ:=ct ρ K (.slice none 0 0)) (U:=aK.used ⟨uC,objs'⟩) K aiB;rw[Br]at this;exact this
 refine⟨m,ct ρ K (.slice none 0 0),Mem.le_refl m,⟨h.mem,h.frame,h.apart,?_,?_,?_,?_,?_⟩,?_⟩
 .rintro k ⟨o,ak⟩;rcases aF k o ak with⟨rfl,rfl⟩|⟨ab,af⟩;.rw[Br];rfl
  rw[cZ _ _ ab];rcases af with af|⟨xs,i,af,_,_⟩
  .exact h.one k ⟨_,af⟩
  exact h.one k ⟨_,af⟩
 .intro t;rcases aG t with e|⟨aO,aX⟩
  .show b4 m _ _ (uC t) _;rw[e];exact(h.aM t).mono (Mem.le_refl m) av
  show b4 m _ _ (uC t) _;rw[aX];have:=h.aM t;rw[aO]at this;rw[this.hZ];exact mR
 .intro k o ak;rcases aF k o ak with⟨rfl,rfl⟩|⟨ab,af⟩
  .rw[Br];exact .inl ⟨rfl,rfl⟩
  rw[cZ _ _ ab];rcases af with af|⟨xs,i,af,aw,rfl⟩
  .exact(h.objs k o af).mono (Mem.le_refl m) av (λ_ _ _=>rfl)
  obtain⟨b,vs,T,aO,aX,bQ,cO⟩:=(h.objs k _ af).mono (Mem.le_refl m) av (λ_ _ _=>rfl);refine⟨b,vs,T,aO,aX,by simpa using bQ,?_⟩;intro j c x an ag;rw[List.getElem?_set]at an;split at an
  .rename_i gS;subst gS;split at an;.cases an;have:=cO i _ x aw ag;rw[this.hZ];exact mR
   cases an
  exact cO j c x an ag
 .intro k o b ak aiC aj;rcases aF k o ak with⟨rfl,rfl⟩|⟨ab,af⟩
  .have g3:blockOf (ct ρ k (.slice none 0 0) k)=some b:=aj;rw[Br]at g3;cases g3
  have g3:blockOf (ct ρ K (.slice none 0 0) k)=some b:=aj;rw[cZ _ _ ab]at g3;rcases af with af|⟨xs,i,af,_,rfl⟩
  .exact h.own k o b af aiC g3
  exact h.own k _ b af rfl g3
 .intro k br o o' b dj ak fU g7 my aj;rcases aF k o ak with⟨rfl,rfl⟩|⟨ab,af⟩
  .have g3:blockOf (ct ρ k (.slice none 0 0) k)=some b:=aj;rw[Br]at g3;cases g3
  rw[cZ _ _ ab]at aj;rcases aF br o' fU with⟨rfl,rfl⟩|⟨e3,h8⟩
  .rw[Br];intro bO;cases bO
  rw[cZ _ _ e3];have hold:∃p,σ.objs k=some p/\p.owns=true:=by
   rcases af with af|⟨xs,i,af,_,rfl⟩;.exact⟨_,af,g7⟩
   exact⟨_,af,rfl⟩
  have aiD:∃p,σ.objs br=some p/\p.owns=true:=by
   rcases h8 with h8|⟨xs,i,h8,_,rfl⟩;.exact⟨_,h8,my⟩
   exact⟨_,h8,rfl⟩
  obtain⟨p,bz,bA⟩:=hold;obtain⟨oF,aiE,aiF⟩:=aiD;exact h.sep k br p oF b dj bz aiE bA aiF aj
 intro k ak aj;refine⟨aiA k aj,cZ _ _ ?_⟩;obtain⟨c,an⟩:=Bc aj;exact cK k ⟨_,an⟩
def aiG{σ:aK}(t:Nat)(K:Key)(n:Nat)(aL:σ.aM t= .d (.val (.slice none 0 0)))(ed:σ.objs K=none):g6 σ ⟨ct σ.aM t (.row K),ct σ.objs K (some (.row n []))⟩:=by
 refine Xx K n _ _ ed ?_ ?_ ?_ (by simp[ct]) ?_
 .intro j;by_cases h:j=t;.subst h;exact .inr ⟨aL,by simp[ct]⟩
  exact .inl (by simp[ct,h])
 .intro k o ak;by_cases h:k=K;.subst h;simp[ct]at ak;exact .inl ⟨rfl,ak.symm⟩
  rw[cZ _ _ h]at ak;exact .inr ⟨h,.inl ak⟩
 .intro k ak;by_cases h:k=K;.subst h;simp[ct]
  rw[cZ _ _ h];exact ak
 intro k aj;have h:k≠K:=by rintro rfl;rw[ed]at aj;exact uu aj
 rw[cZ _ _ h];exact aj
def aiH{σ:aK}(k:Key)(i:Nat)(K:Key)(n:Nat){xs:List aS}(ak:σ.objs k=some (.box xs))(ah:xs[i]?=some (.d (.val (.slice none 0 0))))(ed:σ.objs K=none):g6 σ ⟨σ.aM,ct (ct σ.objs k (some (.box (xs.set i (.row K))))) K (some (.row n []))⟩:=by
 have az6:k≠K:=by rintro rfl;rw[ed]at ak;cases ak
 refine Xx K n _ _ ed (λ_=> .inl rfl) ?_ ?_ (by simp[ct]) ?_
 .intro j o aP;by_cases h:j=K;.subst h;simp[ct]at aP;exact .inl ⟨rfl,aP.symm⟩
  rw[cZ _ _ h]at aP;by_cases af:j=k;.subst af;simp[ct]at aP;exact .inr ⟨h,.inr ⟨xs,i,ak,ah,aP.symm⟩⟩
  rw[cZ _ _ af]at aP;exact .inr ⟨h,.inl aP⟩
 .intro j aP;by_cases h:j=K;.subst h;simp[ct]
  rw[cZ _ _ h];by_cases af:j=k;.subst af;simp[ct]
  rw[cZ _ _ af];exact aP
 intro j aj;have h:j≠K:=by rintro rfl;rw[ed]at aj;exact uu aj
 rw[cZ _ _ h];by_cases af:j=k;.subst af;rw[fa];exact ur
 rw[cZ _ _ af];exact aj
def aiI{σ:aK}(t:Nat)(K:Key)(n:Nat){es:List (List D)}(aL:σ.aM t= .row K)(ak:σ.objs K=some (.row n es)):g6 σ ⟨ct σ.aM t (.sub K n 0 es.length),σ.objs⟩:=by
 intro m fr ρ a w h;refine⟨m,ρ,Mem.le_refl m,⟨h.mem,h.frame,h.apart,h.one,?_,h.objs,h.own,h.sep⟩,k1.refl _ _⟩;intro s;by_cases aG:s=t
 .subst aG;have ab:=h.aM s;rw[aL]at ab;show b4 m _ _ (ct σ.aM s _ s) _;rw[fa];generalize a.tmps.getD s undef=v at*;cases ab with|row _ hu=>
  rcases h.objs _ _ ak with⟨aO,aX⟩|⟨b,o,cap,vs,dT,aO,aX,bQ,cO,eb,fq⟩;.rw[aO,aX];exact .kA K n 0 hu aO
  rw[aO];exact b4.sub (m:=m) (ρ:=ρ) (U:=σ.used) K n 0 es.length b o es.length cap o hu aO (by omega) ⟨λ_=>by simp,by omega⟩
 show b4 m _ _ (ct σ.aM t _ s) _;rw[cZ _ _ aG];exact h.aM s
def aiJ{T:cg}{ev:Operand->aS}{objs:cG}{d:Key}{o:Op}{r:aS}{cA:List (Key×cS)}(h:ep T ev objs d o=some (r,cA))(iq:∀t a x,o≠ .store t a x):∀j c,objs j=some (.box c)->dG objs cA j=some (.box c):=by
 have KW:∀{objs:cG}{k:Key}{o:cS},(∀c,objs k≠some (.box c))->∀j c,objs j=some (.box c)->ct objs k (some o) j=some (.box c):=by
  intro objs k o ak j c aP;have:j≠k:=by rintro rfl;exact ak c aP
  rw[cZ _ _ this];exact aP
 have new:∀{o:cS},objs d=none->∀j c,objs j=some (.box c)->dG objs [(d,o)] j=some (.box c):=by intro o ay;exact KW (by intro c an;rw[ay]at an;cases an)
 have same:∀{k:Key}{dU o:cS},objs k=some dU->(∀c,dU≠ .box c)->∀j c,objs j=some (.box c)->dG objs [(k,o)] j=some (.box c):=by intro k dU o ak cK;exact KW (by intro c an;rw[ak]at an;cases an;exact cK c rfl)
 cases o<;>simp only[ep,reduceCtorEq]at h
 case alloc=>split at h<;>cases h;exact new (by assumption)
 case box=>split at h<;>cases h;exact new (by assumption)
 case buildSlice=>
  split at h
  case h_2=>cases h
  split at h
  case h_2=>cases h
  split at h
  case h_2=>cases h
  split at h<;>cases h;exact new (by assumption)
 case makeSlice=>
  split at h
  case h_2=>cases h
  split at h
  case h_2=>cases h
  split at h
  case h_2=>cases h
  split at h<;>cases h;exact new (by assumption)
 case makeMap=>split at h<;>cases h;exact new (by assumption)
 case store=>exact absurd rfl (iq _ _ _)
 case mapUpdate=>
  split at h
  case h_2=>cases h
  split at h
  case h_2=>cases h
  split at h
  case isFalse=>cases h
  split at h
  case h_2=>cases h
  split at h
  case h_2=>cases h
  split at h<;>cases h;exact same (by assumption) (by intro c an;cases an)
 case insert=>
  split at h
  case h_2=>cases h
  split at h
  case h_2=>cases h
  split at h
  case isFalse=>cases h
  split at h
  case h_2=>cases h
  split at h
  case h_2=>cases h
  split at h<;>cases h;exact same (by assumption) (by intro c an;cases an)
 case call=>
  split at h
  .split at h
   case h_2=>cases h
   split at h
   case h_2=>cases h
   split at h
   case h_2=>cases h
   split at h
   case h_2=>cases h
   split at h
   case isFalse=>cases h
   split at h;.split at h<;>cases h;exact new (by assumption)
   .split at h
    case h_2=>cases h
    split at h<;>cases h;rename_i ay _ _ _ _ _ _ _ _ _ _ _ _ ak _ _;have hF:=same (o:= .dead) (by assumption) (by intro c an;cases an);intro j a7 aP;have ab:=hF j a7 aP;refine KW ?_ j a7 ab;intro c aj;have cK:∀key x,objs key=some x->d≠key:=by
     rintro key x ag rfl;have ar:objs d=none:=by assumption
     rw[ar]at ag;cases ag
    rw[cZ _ _ (cK _ _ (by assumption))]at aj;clear KW new same hF ab cK
    simp_all
   cases h
  .split at h
   case h_2=>cases h
   split at h
   case h_2=>cases h
   split at h
   case h_2=>cases h
   split at h
   case h_2=>cases h
   split at h
   case isFalse=>cases h
   split at h
   .split at h
    case h_2=>cases h
    split at h<;>cases h;exact same (by assumption) (by intro c an;cases an)
   .split at h
    case h_2=>cases h
    split at h<;>cases h;exact same (by assumption) (by intro c an;cases an)
   cases h
  .split at h
   case h_2=>cases h
   split at h
   case h_2=>cases h
   split at h
   case h_2=>cases h
   split at h
   case h_2=>cases h
   split at h
   case h_2=>cases h
   split at h<;>cases h;exact same (by assumption) (by intro c an;cases an)
  cases h
def aiK{T:cg}{ev:Operand->aS}{objs:cG}{d:Key}{o:Op}{r:aS}{cA:List (Key×cS)}(h:hg T ev objs d o=some (r,cA))(iq:∀t a x,o≠ .store t a x):∀j c,objs j=some (.box c)->dG objs cA j=some (.box c):=by
 obtain⟨⟨jI,sH⟩,ar,aj⟩:=v7 h;have ab:=aiJ ar iq;intro j c aP;have af:=ab j c aP;rcases x6 (T.born d) d jI sH with e|⟨n,es,rfl,rfl,e⟩|⟨du,n,es,rfl,rfl,e⟩|⟨off,cs,aQ,rfl,rfl,eY,e⟩
 .rw[aj]at e;cases e;exact af
 .rw[aj]at e;cases e;by_cases ay:j=d;.subst ay;simp only[dG,fa]at af;cases af
  simp only[dG,cZ _ _ ay]at af⊢;exact af
 .rw[aj]at e;cases e;by_cases ay:j=d;.subst ay;simp only[dG,fa]at af;cases af
  simp only[dG,cZ _ _ ay]at af⊢;exact af
 rw[aj]at e;cases e;have aN:objs d=none:=WZ ar;by_cases ay:j=d
 .subst ay;rw[aN]at aP;cases aP
 simp only[dG,cZ _ _ ay];exact aP
section
variable{P:Program}{T:cg}{G:dt}{all:Array Oper}
def aiL{y:Oper}{σ:aK}{K K':aK->Prop}(iq:∀t a x,y.op≠ .store t a x)(ak:∀objs r,(∀j c,σ.objs j=some (.box c)->objs j=some (.box c))->K (aK.put ⟨σ.aM,objs⟩ y.dst r)->K' (aK.put ⟨σ.aM,objs⟩ y.dst r)) (h:dh P T G y K σ):dh P T G y K' σ:=by
 unfold dh at*;rw[we]at*;cases av:res T G σ y with
 |none=>simp only[av,xbp]at h⊢;exact EO h λr av=>ak σ.objs r (λ_ _ h=>h) av
 |some p=>
  simp only[av,xaP]at h⊢;refine ak _ _ ?_ h;intro j c aP;obtain⟨r,cA⟩:=p;unfold res at av;split at av;.cases av;exact aP
  split at av;.cases av;exact aP
  exact aiK av iq j c aP
def Xy{t a k off:Nat}{σ:aK}{x:Oper}(ag:x.op= .load t (.tmp a))(aG:σ.aM a= .ptr k off){K:aK->Prop}(h:dh P T G x K σ): ∃r,K (σ.put x.dst r)/\∀objs,(∀j c,σ.objs j=some (.box c)->objs j=some (.box c))->res T G ⟨σ.aM,objs⟩ x=some (r,[]):=by
 unfold dh at h;rw[we]at h;cases av:res T G σ x with
 |none=>simp only[av,xbp]at h;unfold jJ at h;rw[ag]at h;exact h.elim
 |some p=>
  simp only[av,xaP]at h;obtain⟨r,cA⟩:=p;unfold res at av;rw[ag]at av;simp only[eX,dF,ch,aG,hg,ep,xbp]at av;cases bf:T t with
  |none=>simp[bf]at av
  |some i=>
   simp only[bf]at av;cases ak:σ.objs k with
   |none=>simp[ak]at av
   |some o=>
    cases o with
    |box cells=>simp only[ak]at av;cases aT:vS i cells off with|none=>simp[aT]at av|some q=>simp only[aT,xaM,Prod.mk.injEq]at av;obtain⟨rfl,rfl⟩:=av;refine⟨q,h,λobjs aF=>?_⟩;unfold res;rw[ag];simp only[eX,dF,ch,aG,bf,aF k cells ak,aT]
    |dead=>simp[ak]at av|row=>simp[ak]at av|map=>simp[ak]at av
def Xz{x y:Oper}{σ:aK}{K:aK->Prop}{t a k off:Nat}(ag:x.op= .load t (.tmp a))(mV:x.guard=none)(aG:σ.aM a= .ptr k off)(iq:∀t a x,y.op≠ .store t a x)(iX:x.apart all y=true) (h:eB P T G all x (λgD=>eB P T G all y K gD) σ):eB P T G all y (λgh=>eB P T G all x K gh) σ:=by
 obtain⟨ao,bc,b9⟩:=Oper.apart_spec iX;have mT:∀d,y.dst=some d->x.dst≠some d:=λd ay ag=>bc d ag ay;have lz:∀(K:aK->Prop) σ,eB P T G all x K σ=dh P T G x K σ:=λK σ=>by unfold eB;simp only[mV]
 simp only[lz]at h⊢;obtain⟨r,ab,af⟩:=Xy ag aG h;have E5:∀(K:aK->Prop) objs,(∀j c,σ.objs j=some (.box c)->objs j=some (.box c))->dh P T G x K ⟨σ.aM,objs⟩=K (aK.put ⟨σ.aM,objs⟩ x.dst r):=λK objs aF=>mr (af objs aF);rw[hL,oH ao]at ab;rw[hL];split at ab
 .rename_i hw
  try simp only[hw]
  rw[jK ao bc]at ab;refine aiL iq (λobjs q aF ak=>?_) ab;rw[jK b9 mT,E5 _ _ aF,put_comm bc];exact ak
 .rename_i hw
  try simp only[hw]
  show dh P T G x K (σ.put y.dst _);rw[jK b9 mT];have:=E5 (λaV=>K (aV.put y.dst (.d (.val (.tuple #[]))))) σ.objs (λ_ _ h=>h);have e:dh P T G x (λaV=>K (aV.put y.dst (.d (.val (.tuple #[]))))) σ=K ((σ.put x.dst r).put y.dst (.d (.val (.tuple #[])))):=this;rw[e];exact ab
 exact ab.elim
def aiM{y:Oper}{σ:aK}{K:aK->Prop}{a:Nat}(ay:y.dst≠some a)(h:eB P T G all y K σ):eB P T G all y (λaV=>aV.aM a=σ.aM a/\K aV) σ:=by
 have aT:∀(objs:cG)(r:aS),(aK.put ⟨σ.aM,objs⟩ y.dst r).aM a=σ.aM a:=λobjs r=>by
  cases aJ:y.dst with
  |none=>rfl
  |some d=>
   have:a≠d:=by rintro rfl;exact ay aJ
   simp only[aK.put,cZ _ _ this]
 rw[hL]at h⊢;split at h
 .rename_i hw
  try simp only[hw]
  exact wi (λobjs r ak=>⟨aT objs r,ak⟩) h
 .rename_i hw
  try simp only[hw]
  exact⟨aT σ.objs _,h⟩
 exact h.elim
def aiN{K:aK->Prop}{i:Nat}{fw:Oper}{t a k off:Nat}(ah:all[i]?=some fw)(ag:fw.op= .load t (.tmp a))(mV:fw.guard=none){B:List Nat}(gL:∀j c7,j∈B->all[j]?=some c7->∃e∈c7.after,Region.binds .any e=true/\(e.on=i\/e.on∈B)):∀(fuel:Nat)(listed:Array Bool)(σ:aK),σ.aM a= .ptr k off->(∀j,j∈B->listed.getD j true=false)->(∀j c7,all[j]?=some c7->j≠i->listed.getD j true=false->j∉B->fw.apart all c7=true/\∀t a x,c7.op≠ .store t a x)->i∈Region.ready .any all listed->h0 P T G all i (jh P T G all K fuel (listed.setIfInBounds i true)) σ->jh P T G all K (fuel+1) listed σ:=by
 intro fuel
 induction fuel with
 |zero=>
  intro listed σ ec rf oI av H;refine⟨λh=>(by rw[h]at av;cases av),λj aP=>?_⟩;by_cases iY:j=i;.subst iY;exact H
  have hm:=ready_mono aP iY;exfalso;have key:Region.ready .any all (listed.setIfInBounds i true)=[]:=by unfold h0 at H;simp only[ah]at H;unfold eB at H;simp only[mV]at H;obtain⟨r,ab,_⟩:=Xy ag ec H;exact ab.1
  rw[key]at hm;cases hm
 |succ fuel ih=>
  intro listed σ ec rf oI av H;refine⟨λh=>(by rw[h]at av;cases av),λj aP=>?_⟩;by_cases iY:j=i;.subst iY;exact H
  obtain⟨wk,c7,ji,gw⟩:=xbL.1 aP;have uj:∀k,listed.getD k true=false->listed[k]?.getD false=true->False:=λk ar ab=>by
   rcases Nat.lt_or_ge k listed.size with bx|bx;.simp[bx]at ar ab;rw[ar]at ab;cases ab
   simp[Array.getElem?_eq_none bx]at ab
  have wm:j∉B:=λEX=>by
   obtain⟨e,he,aj,mU⟩:=gL j c7 EX ji;have ab:=gw e he aj;rcases mU with mU|mU
   .rw[mU]at ab;exact uj i (xbL.1 av).1 (by simpa using ab)
   exact uj _ (rf _ mU) (by simpa using ab)
  obtain⟨dy,dg⟩:=oI j c7 ji iY wk wm;have ab:h0 P T G all i (λgD=>h0 P T G all j (jh P T G all K fuel ((listed.setIfInBounds i true).setIfInBounds j true)) gD) σ:=wj (λgD uy=>uy.2 j (ready_mono aP iY)) H;have Qe:c7.dst≠some a:=λay=>by obtain⟨_,_,b9⟩:=Oper.apart_spec dy;refine b9 a ay ?_;unfold Oper.looksAt;rw[ag];simp[Op.operands]
  have af:h0 P T G all j (λgh=>gh.aM a=σ.aM a/\h0 P T G all i (jh P T G all K fuel ((listed.setIfInBounds i true).setIfInBounds j true)) gh) σ:=by unfold h0 at ab⊢;simp only[ah,ji]at ab⊢;exact aiM Qe (Xz ag mV ec dg dy ab)
  have EY:∀k ok,all[k]?=some ok->k≠i->(listed.setIfInBounds j true).getD k true=false->k∉B->fw.apart all ok=true/\∀t a x,ok.op≠ .store t a x:=λk ok ak rh oJ iq=>by
   refine oI k ok ak rh ?_ iq;by_cases gC:j=k;.subst gC;exact wk
   rw[getD_set_ne true gC]at oJ;exact oJ
  refine wj (λgh aw=>ih (listed.setIfInBounds j true) gh (aw.1.trans ec) (λk ak=>by
   have gC:j≠k:=by rintro rfl;exact wm ak
   rw[getD_set_ne true gC];exact rf k ak) EY (ready_mono av (Ne.symm iY)) ?_) af
  rw[Array.setIfInBounds_comm _ _ iY];exact aw.2
end
section
variable{P:Program}{T:cg}{G:dt}{all:Array Oper}
def Bs:aS->Option Key
 | .ptr k _=>some k| .gB k _ _ _=>some k|_=>none
def keyOf(aM:Nat->aS):Operand->Option Key
 | .tmp a=>Bs (aM a)|_=>none
theorem Qf{aM:Nat->aS}(x:Operand):Bs (ch G aM x)=keyOf aM x:=by cases x with|tmp a=>rfl|const v=>rfl|func f=>rfl|global g=>simp only[ch,keyOf];split<;>rfl
def uD(aM:Nat->aS):Operand->Bool
 | .tmp a=>match aM a with| .d _=>true|_=>false
 | .const _=>true|_=>false
def uE(aM:Nat->aS)(k:Key):Op->Bool
 | .store _ a _=>match keyOf aM a with|some br=>br !=k|none=>false
 |_=>false
def KX:Op->Bool
 | .store _ _ _=>true|_=>false
def E6(aM:Nat->aS):Operand->Bool
 | .tmp a=>match aM a with| .ptr _ _=>true|_=>false
 |_=>false
def aiO:aS->Bool
 | .d _=>true| .eA _ _=>true|_=>false
def qp(aM:Nat->aS):Operand->Bool
 | .tmp a=>aiO (aM a)|_=>false
def uF(aM:Nat->aS):Op->Bool
 | .load _ a=>qp aM a| .indexAddr _ x _=>qp aM x| .lookup _ m _ _=>qp aM m| .slice _ x _ _ none=>qp aM x| .call ⟨.builtin .len,args,_⟩=>args.toList.all (qp aM)|_=>false
def sQ(aM:Nat->aS)(x y:Oper):Bool:=pass x y||uF aM x.op||match x.op with
 | .binOp _ _ a b _=>uD aM a&&uD aM b| .load _ a=>match keyOf aM a with|some k=>(E6 aM a&&!KX y.op)||iL y.op||jg y.op||hE y.op||uE aM k y.op|none=>false
 | .indexAddr _ _ _=>iL y.op||jg y.op||hE y.op||KX y.op| .store _ a _=>match keyOf aM a with|some k=>uE aM k y.op|none=>false
 |_=>false
def Qg(k:Key)(o o':cG):Prop:=o' k=o k
def Bt(o o':cG):Prop:=∀k n es,o k=some (.row n es)->∃hc,o' k=some (.row n hc)/\hc.length=es.length
def aiP{y:Oper}{σ:aK}{K K':aK->Prop}{R:cG->Prop}(ar:R σ.objs)(e5:∀r cA,res T G σ y=some (r,cA)->R (dG σ.objs cA))(ak:∀objs r,R objs->K (aK.put ⟨σ.aM,objs⟩ y.dst r)->K' (aK.put ⟨σ.aM,objs⟩ y.dst r)) (h:dh P T G y K σ):dh P T G y K' σ:=by unfold dh at*;rw[we]at*;cases av:res T G σ y with|none=>simp only[av,xbp]at h⊢;exact EO h λr av=>ak σ.objs r ar av|some p=>simp only[av,xaP]at h⊢;obtain⟨r,cA⟩:=p;exact ak _ _ (e5 r cA av) h
def XA{σ:aK}{y:Oper}(h:(iL y.op||jg y.op||hE y.op)=true){r:aS}{cA:List (Key×cS)}(av:res T G σ y=some (r,cA)):cA=[]:=by
 unfold res at av;split at av;.cases av;rfl
 split at av;.cases av;rfl
 simp only[xbf]at h;rcases h with(h|h)|h
 .rw[(Bf h).2]at av;cases av
 .rw[Bg h]at av;cases av
 rw[(PZ (T:=T) (ev:=ch G σ.aM) (objs:=σ.objs) (d:=y.dst.getD 9999) h).2.2]at av;cases av
def Qh{σ:aK}{y:Oper}{t:TypeId}{a x:Operand}(aJ:y.op= .store t a x){r:aS}{cA:List (Key×cS)}(av:res T G σ y=some (r,cA)): ∃k o o',keyOf σ.aM a=some k/\cA=[(k,o')]/\σ.objs k=some o/\((∃c jf,o= .box c/\o'= .box jf)\/∃n es hc,o= .row n es/\o'= .row n hc/\hc.length=es.length):=by
 rw[<-Qf (G:=G)];unfold res at av;rw[aJ]at av;simp only[eX,dF,WO,ep]at av;split at av
 case h_2=>cases av
 split at av
 case isFalse=>cases av
 split at av
 .rename_i k off he;split at av
  case h_2=>cases av
  rename_i cells aF;split at av<;>cases av;exact⟨k,_,_,by rw[he];rfl,rfl,aF,.inl ⟨_,_,rfl,rfl⟩⟩
 .rename_i k cR fF off he;split at av
  case h_2=>cases av
  rename_i br es aQ aF ay;split at av
  case isFalse=>cases av
  rename_i an;split at av<;>cases av;exact⟨k,_,_,by rw[he];rfl,rfl,aF,.inr ⟨cR,es,_,by rw[an.1],rfl,by simp⟩⟩
 cases av
def E7{objs:cG}{k:Key}{o:cS}(j:Key):dG objs [(k,o)] j=if j=k then some o else objs j:=by
 by_cases h:j=k;.subst h;simp[dG,fa]
 simp[dG,cZ _ _ h,h]
def aiQ{σ:aK}{y:Oper}{k:Key}(h:(iL y.op||jg y.op||hE y.op||uE σ.aM k y.op)=true){r:aS}{cA:List (Key×cS)}(av:res T G σ y=some (r,cA)):Qg k σ.objs (dG σ.objs cA):=by
 rcases xbA.1 h with h|h;.rw[XA h av];rfl
 unfold uE at h;split at h
 case h_2=>cases h
 rename_i t a x aJ;obtain⟨br,o,o',ab,rfl,af,_⟩:=Qh aJ av;rw[ab]at h;simp only[bne_iff_ne,ne_eq]at h;show dG σ.objs [(br,o')] k=σ.objs k;rw[E7,xac (λe=>h e.symm)]
theorem Bt.refl(o:cG):Bt o o:=λk n es h=>⟨es,h,rfl⟩
def aiR{σ:aK}{y:Oper}(h:(iL y.op||jg y.op||hE y.op||KX y.op)=true){r:aS}{cA:List (Key×cS)}(av:res T G σ y=some (r,cA)):Bt σ.objs (dG σ.objs cA):=by
 rcases xbA.1 h with h|h;.rw[XA h av];exact Bt.refl _
 unfold KX at h;split at h
 case h_2=>cases h
 rename_i t a x aJ;obtain⟨br,o,o',ab,rfl,af,aw⟩:=Qh aJ av;intro k n es ak;rw[E7];by_cases e:k=br
 .subst e;rw[xad rfl];rw[af]at ak;rcases aw with⟨c,jf,rfl,rfl⟩|⟨m,az7,aiS,rfl,rfl,aq⟩
  .cases ak
  cases ak;exact⟨aiS,rfl,aq⟩
 rw[xac e];exact⟨es,ak,rfl⟩
def Looks(T:cg)(G:dt)(x:Oper)(aM:Nat->aS)(o:cG)(R:cG->Prop):Prop:=∀r cA,res T G ⟨aM,o⟩ x=some (r,cA)->cA=[]/\∀o',R o'->res T G ⟨aM,o'⟩ x=some (r,[])
def KY{x y:Oper}{σ:aK}{K:aK->Prop}{R:cG->Prop}(mV:x.guard=none)(ER:hE x.op=false)(iX:x.apart all y=true)(aq:Looks T G x σ.aM σ.objs R)(ar:R σ.objs)(e5:∀r cA,res T G σ y=some (r,cA)->R (dG σ.objs cA)) (h:eB P T G all x (λgD=>eB P T G all y K gD) σ):eB P T G all y (λgh=>eB P T G all x K gh) σ:=by
 obtain⟨ao,bc,b9⟩:=Oper.apart_spec iX;have mT:∀d,y.dst=some d->x.dst≠some d:=λd ay ag=>bc d ag ay;have lz:∀(K:aK->Prop) σ,eB P T G all x K σ=dh P T G x K σ:=λK σ=>by unfold eB;simp only[mV]
 simp only[lz]at h⊢;have Pt:res T G σ x≠none:=by intro aN;rw[nT aN]at h;have:=x9 h;rw[ER]at this;cases this
 obtain⟨p,aT⟩:=Option.ne_none_iff_exists'.1 Pt;obtain⟨r,cA⟩:=p;obtain⟨rfl,af⟩:=aq r cA aT;have ab:eB P T G all y K (σ.put x.dst r):=by rw[mr aT]at h;exact h
 have E5:∀(K:aK->Prop) objs,R objs->dh P T G x K ⟨σ.aM,objs⟩=K (aK.put ⟨σ.aM,objs⟩ x.dst r):=λK objs aF=>mr (af objs aF);rw[hL,oH ao]at ab;rw[hL];split at ab
 .rename_i hw
  try simp only[hw]
  rw[jK ao bc]at ab;refine aiP ar e5 (λobjs q aF ak=>?_) ab;rw[jK b9 mT,E5 _ _ aF,put_comm bc];exact ak
 .rename_i hw
  try simp only[hw]
  show dh P T G x K (σ.put y.dst _);rw[jK b9 mT];have e:dh P T G x (λaV=>K (aV.put y.dst (.d (.val (.tuple #[]))))) σ=K ((σ.put x.dst r).put y.dst (.d (.val (.tuple #[])))):=E5 (λaV=>K (aV.put y.dst (.d (.val (.tuple #[]))))) σ.objs ar;rw[e];exact ab
 exact ab.elim
def XB{aM:Nat->aS}{x:Operand}(h:uD aM x=true):∃d,ch G aM x= .d d:=by
 unfold uD at h;split at h
 .split at h;.rename_i d ay;exact⟨d,ay⟩
  cases h
 .exact⟨_,rfl⟩
 cases h
def aiT(o o':cG)(x:D):mP o (.d x)=mP o' (.d x):=by
 unfold mP;split<;>first|rfl|(rename_i h;cases h)|skip
 all_goals rfl
def E8{aM:Nat->aS}{x:Operand}(h:qp aM x=true):(∃d,ch G aM x= .d d)\/∃cs off,ch G aM x= .eA cs off:=by
 cases x with
 |tmp a=>simp only[qp]at h;show(∃d,aM a= .d d)\/∃cs off,aM a= .eA cs off;generalize aM a=v at h;cases v<;>first|exact .inl ⟨_,rfl⟩|exact .inr ⟨_,_,rfl⟩|cases h
 |_=>cases h
def XC(o o':cG)(x:D):ki o (.d x)=ki o' (.d x):=by
 unfold ki;split<;>first|rfl|(rename_i h;cases h)|skip
 all_goals rfl
theorem aiU(o o':cG)(cs:List D)(off:Nat):ki o (.eA cs off)=ki o' (.eA cs off):=rfl
def aiV{aM:Nat->aS}{op:Op}(h:uF aM op=true)(o o':cG):dF T (ch G aM) o op=dF T (ch G aM) o' op:=by
 cases op<;>simp only[uF,xas]at h
 case load t a=>rcases E8 (G:=G) h with⟨d,e⟩|⟨cs,off,e⟩<;>simp only[dF,e]
 case indexAddr t x i=>
  rcases E8 (G:=G) h with⟨d,e⟩|⟨cs,off,e⟩;.simp only[dF,e];cases d<;>rfl
  simp only[dF,e]
 case lookup t m k ok=>
  rcases E8 (G:=G) h with⟨d,e⟩|⟨cs,off,e⟩
  .simp only[dF,e];split
   .cases d<;>first|rfl|skip
    rename_i v;cases v<;>first|rfl|skip
    rename_i q;cases q<;>rfl
   rfl
  simp only[dF,e]
 case slice t x lo ah hA=>
  cases hA with
  |some _=>cases h
  |none=>
   simp only at h;rcases E8 (G:=G) h with⟨d,e⟩|⟨cs,off,e⟩
   .simp only[dF,e,XC o o' d];cases d<;>rfl
   simp only[dF,e,aiU o o' cs off]
 case call c=>
  obtain⟨callee,args,dI⟩:=c;cases callee with
  |value=>rfl|invoke=>rfl
  |builtin b=>
   cases b<;>first|rfl|skip
   simp only at h;simp only[dF];split
   .rename_i t x aO aX;rw[aX]at h;simp only[xbP,List.all_nil,xbu]at h;rcases E8 (G:=G) h with⟨d,e⟩|⟨cs,off,e⟩
    .simp only[e];cases bf:T t with
     |none=>rfl
     |some i=>
      obtain⟨aQ,s,b,z⟩:=i;cases aQ
      case map k q=>
       cases d
       case val v=>
        cases v
        case map r=>cases r<;>rfl
        all_goals rfl
       all_goals rfl
      case slice q=>simp only[XC o o' d]
      case string=>
       cases d
       case val v=>cases v<;>rfl
       all_goals rfl
      all_goals rfl
    simp only[e];cases bf:T t with|none=>rfl|some i=>obtain⟨aQ,s,b,z⟩:=i;cases aQ<;>rfl
   rfl
def XD{aM:Nat->aS}{op:Op}(h:uF aM op=true):jg op=true:=by
 cases op<;>simp only[uF,xas]at h<;>first|rfl|skip
 case call c=>
  obtain⟨callee,args,dI⟩:=c;cases callee with
  |value=>cases h
  |invoke=>cases h
  |builtin b=>cases b<;>first|rfl|cases h
def aiW{x:Oper}{aM:Nat->aS}{o:cG}(h:uF aM x.op=true):Looks T G x aM o (λ_=>True):=by
 intro r cA av;have hm:=XD h;unfold res at av;split at av
 .rename_i u hu;cases av;refine⟨rfl,λo' _=>?_⟩;unfold res;simp only[hu]
 rename_i aT;split at av;.rename_i u hu;cases av;refine⟨rfl,λo' _=>?_⟩;unfold res;simp only at hu;simp only[aT,aiV h o' o,hu]
 rw[Bg hm]at av;cases av
def aiX{x:Oper}{op:BinOp}{t:TypeId}{a b:Operand}{q:TypeId}(ag:x.op= .binOp op t a b q){aM:Nat->aS}{o:cG}(aE:uD aM a=true)(aj:uD aM b=true):Looks T G x aM o (λ_=>True):=by
 intro r cA av;obtain⟨d1,aO⟩:=XB (G:=G) aE;obtain⟨d2,aX⟩:=XB (G:=G) aj;unfold res at av;rw[ag]at av;cases aT:eX T (ch G aM) (.binOp op t a b q)with
 |some u=>rw[aT]at av;cases av;refine⟨rfl,λo' _=>?_⟩;unfold res;rw[ag,aT]
 |none=>
  rw[aT]at av;simp only at av;have hm:∀o',dF T (ch G aM) o' (.binOp op t a b q)=dF T (ch G aM) o (.binOp op t a b q):=by intro o';simp only[dF,aO,aX,aiT o' o]
  cases hd:dF T (ch G aM) o (.binOp op t a b q)with
  |some u=>rw[hd]at av;cases av;refine⟨rfl,λo' _=>?_⟩;unfold res;rw[ag,aT];simp only[hm o',hd]
  |none=>rw[hd]at av;simp[hg,ep]at av
def aiY{x:Oper}{t:TypeId}{a:Operand}{k:Key}(ag:x.op= .load t a){aM:Nat->aS}{o:cG}(aE:keyOf aM a=some k):Looks T G x aM o (Qg k o):=by
 intro r cA av;have he:Bs (ch G aM a)=some k:=by rw[Qf];exact aE
 unfold res at av;rw[ag]at av;simp only[eX]at av;have hm:∀o',o' k=o k->dF T (ch G aM) o' (.load t a)=dF T (ch G aM) o (.load t a):=by
  intro o' aF;simp only[dF];generalize ch G aM a=v at he⊢;cases v<;>simp only[Bs,reduceCtorEq,xaM]at he;.subst he;simp only[aF]
  subst he;simp only[aF]
 cases hd:dF T (ch G aM) o (.load t a)with
 |some u=>rw[hd]at av;cases av;refine⟨rfl,λo' aF=>?_⟩;unfold res;rw[ag];simp only[eX,hm o' aF,hd]
 |none=>rw[hd]at av;simp[hg,ep]at av
def aiZ{x:Oper}{t:TypeId}{a b:Operand}(ag:x.op= .indexAddr t a b){aM:Nat->aS}{o:cG}:Looks T G x aM o (Bt o):=by
 intro r cA av;unfold res at av;rw[ag]at av;simp only[eX]at av;cases hd:dF T (ch G aM) o (.indexAddr t a b)with
 |some u=>
  rw[hd]at av;cases av;refine⟨rfl,λo' aF=>?_⟩;have hm:dF T (ch G aM) o' (.indexAddr t a b)=some r:=by
   simp only[dF]at hd⊢;split at hd
   .split at hd
    .split at hd
     .rename_i aN;rw[xad aN];split at hd<;>first|exact hd|skip
      rename_i key a3;cases ak:o key with
      |none=>rw[ak]at hd;cases hd
      |some hB=>
       cases hB with
       |row k es=>obtain⟨hc,ab,af⟩:=aF key k es ak;rw[ak]at hd;rw[ab];simp only[af]at hd⊢;exact hd
       |dead=>rw[ak]at hd;cases hd
       |box=>rw[ak]at hd;cases hd
       |map=>rw[ak]at hd;cases hd
     cases hd
    cases hd
   .exact hd
   cases hd
  unfold res;rw[ag];simp only[eX,hm]
 |none=>rw[hd]at av;simp[hg,ep]at av
def ai0{o:cG}{k br:Key}{a b:cS}(h:k≠br):dG (dG o [(k,a)]) [(br,b)]=dG (dG o [(br,b)]) [(k,a)]:=by
 funext j
 simp only[E7];by_cases ab:j=k<;>by_cases af:j=br<;>simp_all
def XE{y:Oper}{t:TypeId}{a x:Operand}{k:Key}(aJ:y.op= .store t a x){aM:Nat->aS}{o o':cG}(aE:keyOf aM a=some k)(aF:o' k=o k):res T G ⟨aM,o'⟩ y=res T G ⟨aM,o⟩ y:=by
 have he:Bs (ch G aM a)=some k:=by rw[Qf];exact aE
 unfold res;rw[aJ];simp only[eX,dF,WO,ep];generalize ch G aM a=v at he⊢;cases v<;>simp only[Bs,reduceCtorEq,xaM]at he;.subst he;simp only[aF]
 subst he;simp only[aF]
def ai1{x y:Oper}{σ:aK}{K:aK->Prop}{t t':TypeId}{a cB v kC:Operand}{k br:Key}(ag:x.op= .store t a v)(aJ:y.op= .store t' cB kC)(aE:keyOf σ.aM a=some k)(KZ:keyOf σ.aM cB=some br)(cK:br≠k) (mV:x.guard=none) (iX:x.apart all y=true) (h:eB P T G all x (λgD=>eB P T G all y K gD) σ):eB P T G all y (λgh=>eB P T G all x K gh) σ:=by
 obtain⟨ao,bc,b9⟩:=Oper.apart_spec iX;have mT:∀d,y.dst=some d->x.dst≠some d:=λd ay ag=>bc d ag ay;have lz:∀(K:aK->Prop) σ,eB P T G all x K σ=dh P T G x K σ:=λK σ=>by unfold eB;simp only[mV]
 simp only[lz]at h⊢;have XF:∀{z:Oper}{tt:TypeId}{p q:Operand}{τ:aK}{K':aK->Prop},z.op= .store tt p q->dh P T G z K' τ->∃r cD g7,res T G τ z=some (r,[(cD,g7)])/\keyOf τ.aM p=some cD/\K' (τ.step z.dst r [(cD,g7)]):=by
  intro z tt p q τ K' bn bO;cases av:res T G τ z with
  |none=>rw[nT av]at bO;have:=x9 bO;rw[bn]at this;cases this
  |some u=>obtain⟨r,cA⟩:=u;obtain⟨cD,o,g7,bz,rfl,_,_⟩:=Qh bn av;exact⟨r,cD,g7,rfl,bz,by rw[mr av]at bO;exact bO⟩
 obtain⟨r,cD,g7,bz,bA,cx⟩:=XF ag h;rw[aE]at bA;cases bA;have yl:eB P T G all y K (aK.put ⟨σ.aM,dG σ.objs [(k,g7)]⟩ x.dst r):=cx;have XG:∀(my:cG),my k=σ.objs k->∀K':aK->Prop,dh P T G x K' ⟨σ.aM,my⟩=K' (aK.put ⟨σ.aM,dG my [(k,g7)]⟩ x.dst r):=by
  intro my aF K';have:res T G ⟨σ.aM,my⟩ x=some (r,[(k,g7)]):=by rw[XE ag aE aF];exact bz
  exact mr this
 rw[hL,oH ao]at yl;rw[hL];have ai2:j1 all ⟨σ.aM,dG σ.objs [(k,g7)]⟩ y=j1 all σ y:=rfl;rw[ai2]at yl;split at yl
 .rename_i hw
  try simp only[hw]
  rw[jK ao bc]at yl;obtain⟨eh,dN,my,dy,dg,eW⟩:=XF aJ yl;have XH:keyOf σ.aM cB=some dN:=dg;rw[KZ]at XH;cases XH;have ai3:res T G σ y=some (eh,[(br,my)]):=by rw[<-dy];exact(XE (T:=T) (G:=G) aJ (o:=σ.objs) (o':=dG σ.objs [(k,g7)]) KZ (by rw[E7,xac cK])).symm
  rw[mr ai3];show dh P T G x K (aK.put ⟨σ.aM,dG σ.objs [(br,my)]⟩ y.dst eh);rw[jK b9 mT,XG _ (by rw[E7,xac (λe=>cK e.symm)]),put_comm bc,ai0 cK];exact eW
 .rename_i hw
  try simp only[hw]
  show dh P T G x K (σ.put y.dst _);rw[jK b9 mT];have e:=XG σ.objs rfl (λaV=>K (aV.put y.dst (.d (.val (.tuple #[])))));have dv:dh P T G x (λaV=>K (aV.put y.dst (.d (.val (.tuple #[]))))) σ=_:=e;rw[dv];exact yl
 exact yl.elim
def ai4{x y:Oper}{σ:aK}{K:aK->Prop}(mV:x.guard=none)(iX:x.apart all y=true)(h:sQ σ.aM x y=true)(H:eB P T G all x (λgD=>eB P T G all y K gD) σ):eB P T G all y (λgh=>eB P T G all x K gh) σ:=by
 unfold sQ at h;rcases xbA.1 h with h|h
 .rcases xbA.1 h with h|h;.exact swap iX h H
  refine KY mV ?_ iX (aiW h) trivial (λ_ _ _=>trivial) H;cases an:hE x.op with|false=>rfl|true=>have:=EN an;rw[XD h]at this;cases this.2.1
 split at h;.rename_i op t a b q ag;rw[xam]at h;exact KY mV (by rw[ag];rfl) iX (aiX ag h.1 h.2) trivial (λ_ _ _=>trivial) H
 .rename_i t a ag;split at h
  case h_2=>cases h
  rename_i k ak;simp only[xbf]at h;have other:(iL y.op||jg y.op||hE y.op||uE σ.aM k y.op)=true->eB P T G all y (λgh=>eB P T G all x K gh) σ:=λbx=>KY mV (by rw[ag];rfl) iX (aiY ag ak) (rfl:Qg k σ.objs σ.objs) (λ_ _ av=>aiQ bx av) H
  rcases h with(((h|h)|h)|h)|h
  .rw[xam]at h;obtain⟨ab,af⟩:=h;unfold E6 at ab;split at ab
   case h_2=>cases ab
   rename_i ae;split at ab
   case h_2=>cases ab
   rename_i E9 off aG;refine Xz ag mV aG ?_ iX H;intro t' cB kC he;rw[he]at af;cases af
  .exact other (by simp[h])
  .exact other (by simp[h])
  .exact other (by simp[h])
  exact other (by simp[h])
 .rename_i t a b ag;exact KY mV (by rw[ag];rfl) iX (aiZ ag) (Bt.refl _) (λ_ _ av=>aiR h av) H
 .rename_i t a v ag;split at h
  case h_2=>cases h
  rename_i k ak;unfold uE at h;split at h
  case h_2=>cases h
  rename_i t' cB kC aJ;split at h
  case h_2=>cases h
  rename_i br fU;exact ai1 ag aJ ak fU (by simpa using h) mV iX H
 cases h
def mW:Op->List Tmp
 | .binOp _ _ a b _=>(match a with| .tmp t=>[t]|_=>[])++(match b with| .tmp t=>[t]|_=>[])
 | .load _ (.tmp a)=>[a]| .store _ (.tmp a) _=>[a]| .indexAddr _ (.tmp a) _=>[a]| .lookup _ (.tmp a) _ _=>[a]| .slice _ (.tmp a) _ _ _=>[a]| .call ⟨.builtin .len,args,_⟩=>args.toList.filterMap λx=>match x with| .tmp t=>some t|_=>none
 |_=>[]
def uG:Op->List Tmp
 | .store _ (.tmp a) _=>[a]|_=>[]
theorem Qi{s s':Nat->aS}{x:Operand}(h:∀t,x= .tmp t->s t=s' t):keyOf s x=keyOf s' x:=by cases x with|tmp t=>simp only[keyOf,h t rfl]|_=>rfl
theorem XI{s s':Nat->aS}{x:Operand}(h:∀t,x= .tmp t->s t=s' t):uD s x=uD s' x:=by cases x with|tmp t=>simp only[uD,h t rfl]|_=>rfl
theorem ai5{s s':Nat->aS}{x:Operand}(h:∀t,x= .tmp t->s t=s' t):E6 s x=E6 s' x:=by cases x with|tmp t=>simp only[E6,h t rfl]|_=>rfl
def ai6{s s':Nat->aS}{x y:Oper}(h:∀t,t∈mW x.op\/t∈uG y.op->s t=s' t):sQ s x y=sQ s' x y:=by
 have aJ:∀k,uE s k y.op=uE s' k y.op:=by
  intro k;unfold uE;split;.rename_i t a v he;rw[Qi (s:=s) (s':=s') (x:=a) (λq bj=>h q (.inr (by rw[he,bj];simp[uG])))]
  rfl
 have ay:uF s x.op=uF s' x.op:=by
  have ag:∀t,t∈mW x.op->s t=s' t:=λt aL=>h t (.inl aL);generalize x.op=op at ag;have one:∀a:Operand,(∀t,a= .tmp t->t∈mW op)->qp s a=qp s' a:=by intro a aE;cases a with|tmp t=>simp only[qp,ag t (aE t rfl)]|_=>rfl
  cases op<;>simp only[uF]
  case load t a=>exact one a (by rintro t rfl;simp[mW])
  case indexAddr t a i=>exact one a (by rintro t rfl;simp[mW])
  case lookup t a k ok=>exact one a (by rintro t rfl;simp[mW])
  case slice t a lo ah hA=>
   cases hA with
   |none=>exact one a (by rintro t rfl;simp[mW])
   |some _=>rfl
  case call c=>
   obtain⟨callee,args,dI⟩:=c;cases callee with
   |value=>rfl|invoke=>rfl
   |builtin b=>
    cases b<;>first|rfl|skip
    simp only;rw[Bool.eq_iff_iff,xaA,xaA];have aE:∀a∈args.toList,qp s a=qp s' a:=λa aE=>one a (by rintro t rfl;simp only[mW,List.mem_filterMap];exact⟨_,aE,rfl⟩);exact⟨λh a hm=>by rw[<-aE a hm];exact h a hm,λh a hm=>by rw[aE a hm];exact h a hm⟩
 unfold sQ;rw[ay]
 congr 1
 split;.rename_i op t a b q ag;have aE:∀t,a= .tmp t->s t=s' t:=λt aL=>h t (.inl (by rw[ag,aL];simp[mW]));have aj:∀t,b= .tmp t->s t=s' t:=λt aL=>h t (.inl (by rw[ag,aL];simp[mW]));rw[XI aE,XI aj]
 .rename_i t a ag;have aE:∀t,a= .tmp t->s t=s' t:=λt aL=>h t (.inl (by rw[ag,aL];simp[mW]));rw[Qi aE,ai5 aE];split
  .rw[aJ]
  rfl
 .rfl
 .rename_i t a v ag;have aE:∀t,a= .tmp t->s t=s' t:=λt aL=>h t (.inl (by rw[ag,aL];simp[mW]));rw[Qi aE];split
  .rw[aJ]
  rfl
 rfl
def ai7{y:Oper}{σ:aK}{K:aK->Prop}{L:List Tmp}(ay:∀a∈L,y.dst≠some a)(h:eB P T G all y K σ):eB P T G all y (λaV=>(∀a∈L,aV.aM a=σ.aM a)/\K aV) σ:=by
 have aT:∀(objs:cG)(r:aS),∀a∈L,(aK.put ⟨σ.aM,objs⟩ y.dst r).aM a=σ.aM a:=λobjs r a aE=>by
  cases aJ:y.dst with
  |none=>rfl
  |some d=>
   have:a≠d:=by rintro rfl;exact ay a aE aJ
   simp only[aK.put,cZ _ _ this]
 rw[hL]at h⊢;split at h
 .rename_i hw
  try simp only[hw]
  exact wi (λobjs r ak=>⟨aT objs r,ak⟩) h
 .rename_i hw
  try simp only[hw]
  exact⟨aT σ.objs _,h⟩
 exact h.elim
def ai8{x:Oper}{σ:aK}{p:Prop}(h:eB P T G all x (λ_=>p) σ):p:=by
 rw[hL]at h;split at h
 .unfold dh at h;split at h;.exact h
  unfold jJ at h;split at h
  .split at h;.obtain⟨_,_,_,_,_,_,⟨r,nU⟩,_,q⟩:=h;exact q r (by rw[nU])
   exact h.elim
  exact h.elim
 .exact h
 exact h.elim
def ai9{K:aK->Prop}{i:Nat}{fw:Oper}(ah:all[i]?=some fw)(mV:fw.guard=none){B:List Nat}(gL:∀j c7,j∈B->all[j]?=some c7->∃e∈c7.after,Region.binds .any e=true/\(e.on=i\/e.on∈B)){s0:Nat->aS}{L:List Tmp}(aja:∀t∈mW fw.op,t∈L): ∀(fuel:Nat)(listed:Array Bool)(σ:aK),(∀t∈L,σ.aM t=s0 t)->(∀j,j∈B->listed.getD j true=false)->(∀j c7,all[j]?=some c7->j≠i->listed.getD j true=false->j∉B->fw.apart all c7=true/\sQ s0 fw c7=true/\(∀t∈L,c7.dst≠some t)/\∀t∈uG c7.op,t∈L)->i∈Region.ready .any all listed->h0 P T G all i (jh P T G all K fuel (listed.setIfInBounds i true)) σ->jh P T G all K (fuel+1) listed σ:=by
 intro fuel
 induction fuel with
 |zero=>
  intro listed σ ec rf oI av H;refine⟨λh=>(by rw[h]at av;cases av),λj aP=>?_⟩;by_cases iY:j=i;.subst iY;exact H
  have hm:=ready_mono aP iY;exfalso;have key:Region.ready .any all (listed.setIfInBounds i true)=[]:=by have Qj:=wj (K':=λ_=>Region.ready .any all (listed.setIfInBounds i true)=[]) (λaV bx=>bx.1) H;unfold h0 at Qj;simp only[ah]at Qj;exact ai8 Qj
  rw[key]at hm;cases hm
 |succ fuel ih=>
  intro listed σ ec rf oI av H;refine⟨λh=>(by rw[h]at av;cases av),λj aP=>?_⟩;by_cases iY:j=i;.subst iY;exact H
  obtain⟨wk,c7,ji,gw⟩:=xbL.1 aP;have uj:∀k,listed.getD k true=false->listed[k]?.getD false=true->False:=λk ar ab=>by
   rcases Nat.lt_or_ge k listed.size with bx|bx;.simp[bx]at ar ab;rw[ar]at ab;cases ab
   simp[Array.getElem?_eq_none bx]at ab
  have wm:j∉B:=λEX=>by
   obtain⟨e,he,aj,mU⟩:=gL j c7 EX ji;have ab:=gw e he aj;rcases mU with mU|mU
   .rw[mU]at ab;exact uj i (xbL.1 av).1 (by simpa using ab)
   exact uj _ (rf _ mU) (by simpa using ab)
  obtain⟨dy,dg,eW,jj⟩:=oI j c7 ji iY wk wm;have ab:h0 P T G all i (λgD=>h0 P T G all j (jh P T G all K fuel ((listed.setIfInBounds i true).setIfInBounds j true)) gD) σ:=wj (λgD uy=>uy.2 j (ready_mono aP iY)) H;have af:h0 P T G all j (λgh=>(∀a∈L,gh.aM a=σ.aM a)/\h0 P T G all i (jh P T G all K fuel ((listed.setIfInBounds i true).setIfInBounds j true)) gh) σ:=by
   unfold h0 at ab⊢;simp only[ah,ji]at ab⊢;have bm:sQ σ.aM fw c7=true:=by
    rw[<-dg];refine ai6 λt aL=>ec t ?_;rcases aL with aL|aL
    .exact aja t aL
    exact jj t aL
   exact ai7 eW (ai4 mV dy bm ab)
  have EY:∀k ok,all[k]?=some ok->k≠i->(listed.setIfInBounds j true).getD k true=false->k∉B->fw.apart all ok=true/\sQ s0 fw ok=true/\(∀t∈L,ok.dst≠some t)/\∀t∈uG ok.op,t∈L:=λk ok ak rh oJ iq=>by
   refine oI k ok ak rh ?_ iq;by_cases gC:j=k;.subst gC;exact wk
   rw[getD_set_ne true gC]at oJ;exact oJ
  refine wj (λgh aw=>ih (listed.setIfInBounds j true) gh (λt aL=>(aw.1 t aL).trans (ec t aL)) (λk ak=>by
   have gC:j≠k:=by rintro rfl;exact wm ak
   rw[getD_set_ne true gC];exact rf k ak) EY (ready_mono av (Ne.symm iY)) ?_) af
  rw[Array.setIfInBounds_comm _ _ iY];exact aw.2
end
structure V where
 name:ByteArray
 bool:Bool
 lo:Int
 ah:Int
def V.cells(v:V):List D:=[aC v.name,ax v.bool,J v.lo,J v.ah]
def V.d(v:V):D:= .agg v.cells
def bp(l:List V):D:= .az 4 (l.map V.cells)
def pB(n:Int):D:= .val (.int .u8 n)
def pC(n:Int):Prop:=-9223372036854775808<=n/\n<=9223372036854775807
def V.ok(v:V):Prop:=pC v.lo/\pC v.ah/\v.name.size<=9223372036854775807
def V.span(v:V):Int:=if v.bool then 2 else if v.lo>v.ah then 0 else if v.ah-v.lo<1073741824 then v.ah-v.lo+1 else 1073741825
def bitsOf(n:Int):Nat:=if n<=1 then 0 else Nat.log2 (n-1).toNat+1
def ajb{n:Int}{k:Nat}(ab:∀j:Nat,j<k->(2:Int)^j<n)(af:n<=2^k):bitsOf n=k:=by
 unfold bitsOf;cases k with
 |zero=>simp at af;simp[af]
 |succ k=>
  have aw:=ab k (by omega);have aT:(0:Int)<2^k:=Int.pow_pos (by omega);rw[xac (by omega)];have e:Nat.log2 (n-1).toNat=k:=by
   have aE:(2:Nat)^k<=(n-1).toNat:=by
    have:((2^k:Nat):Int)=2^k:=by simp
    omega
   have aj:(n-1).toNat<2^(k+1):=by
    have:((2^(k+1):Nat):Int)=2^(k+1):=by simp
    omega
   exact(Nat.log2_eq_iff (by have:=Nat.two_pow_pos k;omega)).2 ⟨aE,aj⟩
  omega
def XJ{n:Int}(h:1<n):bitsOf n=bitsOf (n/2+n%2)+1:=by
 unfold bitsOf;rw[xac (by omega)];by_cases af:n=2;.subst af;decide
 rw[xac (by omega)];have e:(n/2+n%2-1).toNat=(n-1).toNat/2:=by omega
 rw[e];have aw:(n-1).toNat≠0:=by omega
 have a4:(n-1).toNat/2≠0:=by omega
 obtain⟨a,b⟩:=(Nat.log2_eq_iff a4).1 rfl;have:Nat.log2 (n-1).toNat=Nat.log2 ((n-1).toNat/2)+1:=by
  refine(Nat.log2_eq_iff aw).2 ⟨?_,?_⟩;.rw[Nat.pow_succ];omega
  rw[Nat.pow_succ];omega
 omega
def sR(c:Int):Bool:=(decide (c>=97)&&decide (c<=122))||(decide (c>=65)&&decide (c<=90))
def ym(c:Int):Bool:=decide (c>=48)&&decide (c<=57)
def mX(c:Int):Bool:=sR c||ym c||(c==95)
def XK{lo ah:Int}(ab:pC lo)(af:pC ah)(h:lo<=ah):IntKind.u64.wrap (IntKind.u64.wrap ah-IntKind.u64.wrap lo)=ah-lo:=by unfold pC at ab af;simp only[IntKind.wrap_u64];omega
def V.XL{v:V}(h:v.bool=true):v.span=2:=by simp[V.span,h]
def V.XM{v:V}(h:v.bool=false)(ab:v.lo>v.ah):v.span=0:=by simp[V.span,h,ab]
def V.Qk{v:V}(h:v.bool=false)(ab:v.lo<=v.ah)(af:v.ah-v.lo<1073741824):v.span=v.ah-v.lo+1:=by simp[V.span,h,af];omega
def V.Ql{v:V}(h:v.bool=false)(ab:v.lo<=v.ah)(af:1073741824<=v.ah-v.lo):v.span=1073741825:=by simp[V.span,h,af];omega
def has(x:ByteArray)(l:List ByteArray):Bool:=l.any λy=>decide (y=x)
def idxOf(x:ByteArray)(l:List ByteArray):Int:=match l.findIdx? (λy=>decide (y=x))with|some i=>(i:Nat)|none=>-1
def XN{x:ByteArray}{l:List ByteArray}(h:∀j:Nat,j<l.length->l[j]?≠some x):idxOf x l=-1:=by
 unfold idxOf;have:l.findIdx? (λy=>decide (y=x))=none:=by rw[xbY];intro y aJ;obtain⟨j,aP⟩:=xaL.1 aJ;have ab:=h j (xae.1 aP).1;rw[aP]at ab;simpa using ab
 rw[this]
def XO{x:ByteArray}{l:List ByteArray}{i:Nat}(h:∀j:Nat,j<i->l[j]?≠some x)(ah:l[i]?=some x):idxOf x l=i:=by
 unfold idxOf;obtain⟨b6,cP⟩:=xae.1 ah;have:l.findIdx? (λy=>decide (y=x))=some i:=by rw[xbd];refine⟨b6,by simpa using cP,λj aP=>?_⟩;have ab:=h j aP;rw[xaa (by omega)]at ab;simpa using ab
 rw[this]
def XP(x:ByteArray)(l:List ByteArray):decide (idxOf x l>=0)=has x l:=by
 unfold idxOf has;cases h:l.findIdx? (λy=>decide (y=x))with
 |none=>
  rw[xbY]at h;have:l.any (λy=>decide (y=x))=false:=by rw[List.any_eq_false];intro y aJ;simpa using h y aJ
  rw[this];rfl
 |some i=>obtain⟨ab,af,_⟩:=xbd.1 h;have:l.any (λy=>decide (y=x))=true:=xbr.2 ⟨_,xaX ab,af⟩;rw[this];simp
def XQ{x:ByteArray}{l:List ByteArray}{i:Nat}(h:l[i]?=some x):has x l=true:=xbr.2 ⟨x,xab h,by simp⟩
def XR{x:ByteArray}{l:List ByteArray}(h:∀j:Nat,j<l.length->l[j]?≠some x):has x l=false:=by unfold has;rw[List.any_eq_false];intro y aJ;obtain⟨j,aP⟩:=xaL.1 aJ;have ab:=h j (xae.1 aP).1;rw[aP]at ab;simpa using ab
def oL(p:Int->Bool)(s:ByteArray)(i:Nat):Bool:=match s[i]? with|some b=>p b.toNat|none=>false
def nW(p:Int->Bool)(s:ByteArray):Nat:=((List.range (s.size+1)).find? λi=>!oL p s i).getD 0
theorem K0{s:ByteArray}{i:Nat}:s[i]?=if h:i<s.size then some s[i]else none:=rfl
def ajc{p:Int->Bool}{s:ByteArray}{i:Nat}(h:oL p s i=true):i<s.size:=by
 unfold oL at h;rw[K0]at h;by_cases ab:i<s.size;.exact ab
 rw[dif_neg ab]at h;cases h
def words:List ByteArray:=[⟨#[65]⟩,⟨#[65,70]⟩,⟨#[65,71]⟩,⟨#[65,88]⟩,⟨#[69]⟩,⟨#[69,70]⟩,⟨#[69,71]⟩,⟨#[69,88]⟩,⟨#[85]⟩,⟨#[98,111,111,108]⟩,⟨#[100,101,102]⟩,⟨#[101,108,115,101]⟩,⟨#[102,97,105,114]⟩,⟨#[102,97,108,115,101]⟩,⟨#[105,102]⟩,⟨#[105,110,105,116]⟩,⟨#[105,110,118,97,114]⟩,⟨#[109,111,100]⟩,⟨#[110,101,120,116]⟩,⟨#[115,112,101,99]⟩,⟨#[116,104,101,110]⟩,⟨#[116,114,97,110,115]⟩,⟨#[116,114,117,101]⟩,⟨#[118,97,114]⟩]
def isName(s:ByteArray):Bool:=decide ((s.size:Int)>=1)&&decide ((s.size:Int)<=24)&&oL sR s 0&&((nW mX s:Int)==(s.size:Int))&&!has s words
def XS(s:ByteArray):(decide (s=⟨#[]⟩)=true/\decide ((s.size:Int)>=1)=false)\/∃b,decide (s=⟨#[]⟩)=false/\decide ((s.size:Int)>=1)=true/\s[0]?=some b:=by
 by_cases h:0<s.size
 .refine .inr ⟨s[0],?_,?_,?_⟩
  .have:s≠⟨#[]⟩:=by rintro rfl;exact absurd h (by decide)
   simpa using this
  .simp;omega
  rw[K0,dif_pos h]
 refine .inl ⟨?_,?_⟩
 .have ar:s.size=0:=by omega
  have:s=⟨#[]⟩:=by
   cases s with|mk d=>
   congr 1
   exact xbk ar
  simpa using this
 simp;omega
def wz(v:V):Bool:=decide ((if v.ah>v.lo then v.ah else v.lo)>255)||decide ((if v.ah<v.lo then v.ah else v.lo)< -255)
def wA(seen:List V)(v:V):Int:=if !isName v.name then 12 else if has v.name (seen.map V.name)then 6 else if v.bool&&(v.lo !=0||v.ah !=0)then 3
 else if !v.bool&&(decide (v.lo>v.ah)||wz v||decide (IntKind.i64.wrap (v.ah-v.lo)>=64))then 2 else 0
def iZ(l:List V)(i:Nat):Int:=match l[i]? with|some v=>wA (l.take i) v|none=>0
def jO(l:List V):Int×Int:=match(List.range l.length).find? (λi=>iZ l i !=0)with|some i=>((i:Int),iZ l i)|none=>(0,0)
def XT{l:List V}{i:Nat}{e:Int}(h:∀j:Nat,j<i->iZ l j=0)(ah:i<l.length)(he:iZ l i=e)(ar:e≠0):jO l=((i:Int),e):=by
 unfold jO;have:(List.range l.length).find? (λi=>iZ l i !=0)=some i:=by rw[List.find?_range_eq_some];exact⟨by simpa[he]using ar,by simpa using ah,λj aP=>by simp[h j aP]⟩
 rw[this];simp[he]
def Qm{l:List V}(h:∀j:Nat,j<l.length->iZ l j=0):jO l=(0,0):=by
 unfold jO;have:(List.range l.length).find? (λi=>iZ l i !=0)=none:=by rw[xci];intro j aP;simp[h j (by simpa using aP)]
 rw[this]
def ajd{v:V}(a3:v.ok):(!v.bool&&(decide (v.lo>v.ah)||wz v||decide (IntKind.i64.wrap (v.ah-v.lo)>=64)))=(!v.bool&&(decide (v.lo>v.ah)||!(decide (v.lo>=-255)&&decide (v.lo<=255))||!(decide (v.ah>=-255)&&decide (v.ah<=255))||decide (v.span>64))):=by
 cases aj:v.bool with
 |true=>rfl
 |false=>
  by_cases ab:v.lo>v.ah;.simp[ab]
  have e3:v.lo<=v.ah:=by omega
  by_cases af:-255<=v.lo/\v.ah<=255
  .have aO:wz v=false:=by
    unfold wz;split<;>(try split)<;>simp<;>omega
   have aX:(decide (v.lo>=-255)&&decide (v.lo<=255))=true:=by simp;omega
   have bQ:(decide (v.ah>=-255)&&decide (v.ah<=255))=true:=by simp;omega
   rw[V.Qk aj e3 (by omega),aO,aX,bQ,wrap64 _ (by omega) (by omega)];have cO:decide (v.lo>v.ah)=false:=by simpa using e3
   have eb:decide (v.ah-v.lo>=64)=decide (v.ah-v.lo+1>64):=by rw[decide_eq_decide];omega
   rw[cO,eb];rfl
  have aO:wz v=true:=by unfold wz;split<;>(try split)<;>simp<;>omega
  have aX:(!(decide (v.lo>=-255)&&decide (v.lo<=255))||!(decide (v.ah>=-255)&&decide (v.ah<=255)))=true:=by simp;omega
  rw[aO];revert aX;generalize decide (v.lo>v.ah)=p;generalize (decide (v.lo>=-255)&&decide (v.lo<=255))=q;generalize (decide (v.ah>=-255)&&decide (v.ah<=255))=r;cases p<;>cases q<;>cases r<;>simp
def aje{l:List V}{x:ByteArray}{i:Nat}(h:∀j:Nat,j<i->(l.map V.name)[j]?≠some x):has x ((l.take i).map V.name)=false:=by refine XR λj aP=>?_;rw[List.map_take,xaQ];simp at aP;rw[xad (by omega)];exact h j (by omega)
theorem ajf{l:List V}{w:V}{k i:Nat}(ak:k<i)(hw:l[k]?=some w):has w.name ((l.take i).map V.name)=true:=by refine XQ (i:=k) ?_;rw[List.map_take,xaQ,xad ak,xaj,hw];rfl
end Go.Am
