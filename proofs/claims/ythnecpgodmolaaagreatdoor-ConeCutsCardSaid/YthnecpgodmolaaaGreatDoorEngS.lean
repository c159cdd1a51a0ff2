/- Steps, joins, and nil slices that become rows of our own. No condition. -/
import Derived.Test.YthnecpgodmolaaaGreatDoorEngB
set_option linter.all false
set_option linter.unnecessarySimpa false
namespace Go.Am
section
variable{P:Program}{T:cg}{G:dm}{N:Nat}{σ:aG}{Q:Exit->aG->Prop}{all:Array Oper}
def ahp(l:List Oper):∀(k:Nat)(σ:aG)(K:aG->Prop),(∀j,l[j]?=all[k+j]?)->fP P T G all l K σ->AR P T G all (List.range' k l.length) K σ:=by
 induction l with
 |nil=>intro k σ K _ h;exact h
 |cons o l ih=>
  intro k σ K aq h;have au:all[k]?=some o:=by simpa using(aq 0).symm
  simp only[xap,List.range'_succ,AR,au];refine Ea (λaU tW=>ih (k+1) aU K (λj=>by have:=aq (j+1);simpa[xbe,Nat.add_comm 1 j]using this) tW) h
def ahq(bf:dM P T)(hm:P.follows .mixedOrders=true){id:Nat}{ops:Array Oper}(b3:vQ N ops=true)(AT:xN T ops (List.range ops.size) (Array.replicate ops.size false)=true) (h:fP P T G ops ops.toList (Q .normal) σ):hi P T G N (.region id ops true) σ Q:=by refine ag6 bf hm b3 (List.range ops.size) (by simp) AT ?_;rw[List.range_eq_range'];have:=ahp (P:=P) (T:=T) (G:=G) (all:=ops) ops.toList 0 σ (Q .normal) (λj=>by simp) h;simpa using this
end
section
variable{P:Program}{T:cg}{G:dm}{N:Nat}{σ gn:aG}{Q:Exit->aG->Prop}{id:Nat}{ops:Array Oper}
end
def wrap64(x:Int)(ab:-9223372036854775808<=x)(af:x<=9223372036854775807):IntKind.i64.wrap x=x:=by rw[IntKind.wrap_i64];omega
def Fin(T:cg)(rs:List ResultVar)(R:D->Prop)(e:Exit)(aU:aG):Prop:=(e= .normal\/e= .ret)/\∃r d x,qS T aU rs=some r/\toD aU.objs r=some d/\d.le x/\R x
theorem getD_cons_zero{α:Type}(x:α)(l:List α)(d:α):(x::l).getD 0 d=x:=rfl
theorem getD_cons_succ{α:Type}(x:α)(l:List α)(n:Nat)(d:α):(x::l).getD (n+1) d=l.getD n d:=rfl
def WH{σ:aG}(K:Key)(n:Nat)(ua:Nat->aS)(objs':cF)(ff:σ.objs K=none) (aH:∀t,ua t=σ.aJ t\/σ.aJ t= .d (.val (.slice none 0 0))/\ua t= .row K) (aF:∀k o,objs' k=some o->k=K/\o= .row n []\/k≠K/\(σ.objs k=some o\/∃xs i,σ.objs k=some (.box xs)/\xs[i]?=some (.d (.val (.slice none 0 0)))/\o= .box (xs.set i (.row K)))) (og:∀k,σ.objs k≠none->objs' k≠none) (ahr:objs' K=some (.row n [])) (ahs:∀k,eN (σ.objs k)->eN (objs' k)):gX σ ⟨ua,objs'⟩:=by
 intro m fr ρ a w h;have cP:∀k,σ.used k->k≠K:=by rintro k ⟨o,ak⟩ rfl;rw[ff]at ak;cases ak
 have av:∀k,σ.used k->aG.used ⟨ua,objs'⟩ k/\ct ρ K (.slice none 0 0) k=ρ k:=λk ak=>
  ⟨by
   cases bJ:objs' k with
   |none=>exact absurd bJ (og k (by obtain⟨o,e⟩:=ak;rw[e];simp))
   |some o=>exact⟨o,bJ⟩,cX _ _ (cP k ak)⟩
 have aht:aG.used ⟨ua,objs'⟩ K:=⟨_,ahr⟩;have AZ:ct ρ K (.slice none 0 0) K= .slice none 0 0:=by simp[ct]
 have ny:b4 m (ct ρ K (.slice none 0 0)) (aG.used ⟨ua,objs'⟩) (.row K) (.slice none 0 0):=by have:=b4.row (m:=m) (ρ:=ct ρ K (.slice none 0 0)) (U:=aG.used ⟨ua,objs'⟩) K aht;rw[AZ]at this;exact this
 refine⟨m,ct ρ K (.slice none 0 0),Mem.le_refl m,⟨h.mem,h.frame,h.apart,?_,?_,?_,?_,?_⟩,?_⟩
 .rintro k ⟨o,ak⟩;rcases aF k o ak with⟨rfl,rfl⟩|⟨ab,af⟩;.rw[AZ];rfl
  rw[cX _ _ ab];rcases af with af|⟨xs,i,af,_,_⟩
  .exact h.one k ⟨_,af⟩
  exact h.one k ⟨_,af⟩
 .intro t;rcases aH t with e|⟨aK,aY⟩
  .show b4 m _ _ (ua t) _;rw[e];exact(h.aJ t).mono (Mem.le_refl m) av
  show b4 m _ _ (ua t) _;rw[aY];have:=h.aJ t;rw[aK]at this;rw[this.hQ];exact ny
 .intro k o ak;rcases aF k o ak with⟨rfl,rfl⟩|⟨ab,af⟩
  .rw[AZ];exact .inl ⟨rfl,rfl⟩
  rw[cX _ _ ab];rcases af with af|⟨xs,i,af,aw,rfl⟩
  .exact(h.objs k o af).mono (Mem.le_refl m) av (λ_ _ _=>rfl)
  obtain⟨b,vs,T,aK,aY,bN,cN⟩:=(h.objs k _ af).mono (Mem.le_refl m) av (λ_ _ _=>rfl);refine⟨b,vs,T,aK,aY,by simpa using bN,?_⟩;intro j c x an ag;rw[List.getElem?_set]at an;split at an
  .rename_i gF;subst gF;split at an;.cases an;have:=cN i _ x aw ag;rw[this.hQ];exact ny
   cases an
  exact cN j c x an ag
 .intro k o b ak ahu aj;rcases aF k o ak with⟨rfl,rfl⟩|⟨ab,af⟩
  .have gU:blockOf (ct ρ k (.slice none 0 0) k)=some b:=aj;rw[AZ]at gU;cases gU
  have gU:blockOf (ct ρ K (.slice none 0 0) k)=some b:=aj;rw[cX _ _ ab]at gU;rcases af with af|⟨xs,i,af,_,rfl⟩
  .exact h.own k o b af ahu gU
  exact h.own k _ b af rfl gU
 .intro k bs o o' b di ak fK gG mf aj;rcases aF k o ak with⟨rfl,rfl⟩|⟨ab,af⟩
  .have gU:blockOf (ct ρ k (.slice none 0 0) k)=some b:=aj;rw[AZ]at gU;cases gU
  rw[cX _ _ ab]at aj;rcases aF bs o' fK with⟨rfl,rfl⟩|⟨eS,hY⟩
  .rw[AZ];intro bJ;cases bJ
  rw[cX _ _ eS];have hold:∃p,σ.objs k=some p/\p.owns=true:=by
   rcases af with af|⟨xs,i,af,_,rfl⟩;.exact⟨_,af,gG⟩
   exact⟨_,af,rfl⟩
  have ahv:∃p,σ.objs bs=some p/\p.owns=true:=by
   rcases hY with hY|⟨xs,i,hY,_,rfl⟩;.exact⟨_,hY,mf⟩
   exact⟨_,hY,rfl⟩
  obtain⟨p,bC,bD⟩:=hold;obtain⟨oa,ahw,ahx⟩:=ahv;exact h.sep k bs p oa b di bC ahw bD ahx aj
 intro k ak aj;refine⟨ahs k aj,cX _ _ ?_⟩;obtain⟨c,an⟩:=AK aj;exact cP k ⟨_,an⟩
def ahy{σ:aG}(t:Nat)(K:Key)(n:Nat)(aM:σ.aJ t= .d (.val (.slice none 0 0)))(ff:σ.objs K=none):gX σ ⟨ct σ.aJ t (.row K),ct σ.objs K (some (.row n []))⟩:=by
 refine WH K n _ _ ff ?_ ?_ ?_ (by simp[ct]) ?_
 .intro j;by_cases h:j=t;.subst h;exact .inr ⟨aM,by simp[ct]⟩
  exact .inl (by simp[ct,h])
 .intro k o ak;by_cases h:k=K;.subst h;simp[ct]at ak;exact .inl ⟨rfl,ak.symm⟩
  rw[cX _ _ h]at ak;exact .inr ⟨h,.inl ak⟩
 .intro k ak;by_cases h:k=K;.subst h;simp[ct]
  rw[cX _ _ h];exact ak
 intro k aj;have h:k≠K:=by rintro rfl;rw[ff]at aj;exact tR aj
 rw[cX _ _ h];exact aj
def ahz{σ:aG}(k:Key)(i:Nat)(K:Key)(n:Nat){xs:List aS}(ak:σ.objs k=some (.box xs))(ah:xs[i]?=some (.d (.val (.slice none 0 0))))(ff:σ.objs K=none):gX σ ⟨σ.aJ,ct (ct σ.objs k (some (.box (xs.set i (.row K))))) K (some (.row n []))⟩:=by
 have ay0:k≠K:=by rintro rfl;rw[ff]at ak;cases ak
 refine WH K n _ _ ff (λ_=> .inl rfl) ?_ ?_ (by simp[ct]) ?_
 .intro j o aN;by_cases h:j=K;.subst h;simp[ct]at aN;exact .inl ⟨rfl,aN.symm⟩
  rw[cX _ _ h]at aN;by_cases af:j=k;.subst af;simp[ct]at aN;exact .inr ⟨h,.inr ⟨xs,i,ak,ah,aN.symm⟩⟩
  rw[cX _ _ af]at aN;exact .inr ⟨h,.inl aN⟩
 .intro j aN;by_cases h:j=K;.subst h;simp[ct]
  rw[cX _ _ h];by_cases af:j=k;.subst af;simp[ct]
  rw[cX _ _ af];exact aN
 intro j aj;have h:j≠K:=by rintro rfl;rw[ff]at aj;exact tR aj
 rw[cX _ _ h];by_cases af:j=k;.subst af;rw[e1];exact tQ
 rw[cX _ _ af];exact aj
def ahA{σ:aG}(t:Nat)(K:Key)(n:Nat){es:List (List D)}(aM:σ.aJ t= .row K)(ak:σ.objs K=some (.row n es)):gX σ ⟨ct σ.aJ t (.sub K n 0 es.length),σ.objs⟩:=by
 intro m fr ρ a w h;refine⟨m,ρ,Mem.le_refl m,⟨h.mem,h.frame,h.apart,h.one,?_,h.objs,h.own,h.sep⟩,kP.refl _ _⟩;intro s;by_cases aH:s=t
 .subst aH;have ab:=h.aJ s;rw[aM]at ab;show b4 m _ _ (ct σ.aJ s _ s) _;rw[e1];generalize a.tmps.getD s undef=v at*;cases ab with|row _ hu=>
  rcases h.objs _ _ ak with⟨aK,aY⟩|⟨b,o,cap,vs,dP,aK,aY,bN,cN,eb,fB⟩;.rw[aK,aY];exact .km K n 0 hu aK
  rw[aK];exact b4.sub (m:=m) (ρ:=ρ) (U:=σ.used) K n 0 es.length b o es.length cap o hu aK (by omega) ⟨λ_=>by simp,by omega⟩
 show b4 m _ _ (ct σ.aJ t _ s) _;rw[cX _ _ aH];exact h.aJ s
def ahB{T:cg}{ev:Operand->aS}{objs:cF}{d:Key}{o:Op}{r:aS}{cz:List (Key×cS)}(h:ei T ev objs d o=some (r,cz))(ij:∀t a x,o≠ .store t a x):∀j c,objs j=some (.box c)->dC objs cz j=some (.box c):=by
 have J8:∀{objs:cF}{k:Key}{o:cS},(∀c,objs k≠some (.box c))->∀j c,objs j=some (.box c)->ct objs k (some o) j=some (.box c):=by
  intro objs k o ak j c aN;have:j≠k:=by rintro rfl;exact ak c aN
  rw[cX _ _ this];exact aN
 have new:∀{o:cS},objs d=none->∀j c,objs j=some (.box c)->dC objs [(d,o)] j=some (.box c):=by intro o aA;exact J8 (by intro c an;rw[aA]at an;cases an)
 have same:∀{k:Key}{dQ o:cS},objs k=some dQ->(∀c,dQ≠ .box c)->∀j c,objs j=some (.box c)->dC objs [(k,o)] j=some (.box c):=by intro k dQ o ak cP;exact J8 (by intro c an;rw[ak]at an;cases an;exact cP c rfl)
 cases o<;>simp only[ei,reduceCtorEq]at h
 case alloc=>split at h<;>cases h;exact new (by assumption)
 case box=>split at h<;>cases h;exact new (by assumption)
 case buildSlice=>
  split at h
  case h_2=>cases h
  split at h
  case h_2=>cases h
  split at h
  case h_2=>cases h
  split at h<;>cases h;exact new (by assumption)
 case makeSlice=>
  split at h
  case h_2=>cases h
  split at h
  case h_2=>cases h
  split at h
  case h_2=>cases h
  split at h<;>cases h;exact new (by assumption)
 case makeMap=>split at h<;>cases h;exact new (by assumption)
 case store=>exact absurd rfl (ij _ _ _)
 case mapUpdate=>
  split at h
  case h_2=>cases h
  split at h
  case h_2=>cases h
  split at h
  case isFalse=>cases h
  split at h
  case h_2=>cases h
  split at h
  case h_2=>cases h
  split at h<;>cases h;exact same (by assumption) (by intro c an;cases an)
 case insert=>
  split at h
  case h_2=>cases h
  split at h
  case h_2=>cases h
  split at h
  case isFalse=>cases h
  split at h
  case h_2=>cases h
  split at h
  case h_2=>cases h
  split at h<;>cases h;exact same (by assumption) (by intro c an;cases an)
 case call=>
  split at h
  .split at h
   case h_2=>cases h
   split at h
   case h_2=>cases h
   split at h
   case h_2=>cases h
   split at h
   case h_2=>cases h
   split at h
   case isFalse=>cases h
   split at h;.split at h<;>cases h;exact new (by assumption)
   .split at h
    case h_2=>cases h
    split at h<;>cases h;rename_i aA _ _ _ _ _ _ _ _ _ _ _ _ ak _ _;have hz:=same (o:= .dead) (by assumption) (by intro c an;cases an);intro j a8 aN;have ab:=hz j a8 aN;refine J8 ?_ j a8 ab;intro c aj;have cP:∀key x,objs key=some x->d≠key:=by
     rintro key x ag rfl;have au:objs d=none:=by assumption
     rw[au]at ag;cases ag
    rw[cX _ _ (cP _ _ (by assumption))]at aj;clear J8 new same hz ab cP
    simp_all
   cases h
  .split at h
   case h_2=>cases h
   split at h
   case h_2=>cases h
   split at h
   case h_2=>cases h
   split at h
   case h_2=>cases h
   split at h
   case isFalse=>cases h
   split at h
   .split at h
    case h_2=>cases h
    split at h<;>cases h;exact same (by assumption) (by intro c an;cases an)
   .split at h
    case h_2=>cases h
    split at h<;>cases h;exact same (by assumption) (by intro c an;cases an)
   cases h
  .split at h
   case h_2=>cases h
   split at h
   case h_2=>cases h
   split at h
   case h_2=>cases h
   split at h
   case h_2=>cases h
   split at h
   case h_2=>cases h
   split at h<;>cases h;exact same (by assumption) (by intro c an;cases an)
  cases h
def ahC{T:cg}{ev:Operand->aS}{objs:cF}{d:Key}{o:Op}{r:aS}{cz:List (Key×cS)}(h:g7 T ev objs d o=some (r,cz))(ij:∀t a x,o≠ .store t a x):∀j c,objs j=some (.box c)->dC objs cz j=some (.box c):=by
 obtain⟨⟨jB,sg⟩,au,aj⟩:=vD h;have ab:=ahB au ij;intro j c aN;have af:=ab j c aN;rcases xG (T.born d) d jB sg with e|⟨n,es,rfl,rfl,e⟩|⟨dk,n,es,rfl,rfl,e⟩|⟨off,cs,aO,rfl,rfl,eM,e⟩
 .rw[aj]at e;cases e;exact af
 .rw[aj]at e;cases e;by_cases aA:j=d;.subst aA;simp only[dC,e1]at af;cases af
  simp only[dC,cX _ _ aA]at af⊢;exact af
 .rw[aj]at e;cases e;by_cases aA:j=d;.subst aA;simp only[dC,e1]at af;cases af
  simp only[dC,cX _ _ aA]at af⊢;exact af
 rw[aj]at e;cases e;have aL:objs d=none:=V8 au;by_cases aA:j=d
 .subst aA;rw[aL]at aN;cases aN
 simp only[dC,cX _ _ aA];exact aN
section
variable{P:Program}{T:cg}{G:dm}{all:Array Oper}
def ahD{y:Oper}{σ:aG}{K K':aG->Prop}(ij:∀t a x,y.op≠ .store t a x)(ak:∀objs r,(∀j c,σ.objs j=some (.box c)->objs j=some (.box c))->K (aG.put ⟨σ.aJ,objs⟩ y.dst r)->K' (aG.put ⟨σ.aJ,objs⟩ y.dst r)) (h:da P T G y K σ):da P T G y K' σ:=by
 unfold da at*;rw[vJ]at*;cases av:res T G σ y with
 |none=>simp only[av,xbk]at h⊢;exact D5 h λr av=>ak σ.objs r (λ_ _ h=>h) av
 |some p=>
  simp only[av,xaP]at h⊢;refine ak _ _ ?_ h;intro j c aN;obtain⟨r,cz⟩:=p;unfold res at av;split at av;.cases av;exact aN
  split at av;.cases av;exact aN
  exact ahC av ij j c aN
def WI{t a k off:Nat}{σ:aG}{x:Oper}(ag:x.op= .load t (.tmp a))(aH:σ.aJ a= .ptr k off){K:aG->Prop}(h:da P T G x K σ): ∃r,K (σ.put x.dst r)/\∀objs,(∀j c,σ.objs j=some (.box c)->objs j=some (.box c))->res T G ⟨σ.aJ,objs⟩ x=some (r,[]):=by
 unfold da at h;rw[vJ]at h;cases av:res T G σ x with
 |none=>simp only[av,xbk]at h;unfold jC at h;rw[ag]at h;exact h.elim
 |some p=>
  simp only[av,xaP]at h;obtain⟨r,cz⟩:=p;unfold res at av;rw[ag]at av;simp only[eL,dB,ch,aH,g7,ei,xbk]at av;cases bf:T t with
  |none=>simp[bf]at av
  |some i=>
   simp only[bf]at av;cases ak:σ.objs k with
   |none=>simp[ak]at av
   |some o=>
    cases o with
    |box cells=>simp only[ak]at av;cases aT:vt i cells off with|none=>simp[aT]at av|some q=>simp only[aT,xaM,Prod.mk.injEq]at av;obtain⟨rfl,rfl⟩:=av;refine⟨q,h,λobjs aF=>?_⟩;unfold res;rw[ag];simp only[eL,dB,ch,aH,bf,aF k cells ak,aT]
    |dead=>simp[ak]at av|row=>simp[ak]at av|map=>simp[ak]at av
def WJ{x y:Oper}{σ:aG}{K:aG->Prop}{t a k off:Nat}(ag:x.op= .load t (.tmp a))(mK:x.guard=none)(aH:σ.aJ a= .ptr k off)(ij:∀t a x,y.op≠ .store t a x)(g9:x.apart all y=true) (h:ep P T G all x (λgn=>ep P T G all y K gn) σ):ep P T G all y (λfZ=>ep P T G all x K fZ) σ:=by
 obtain⟨ao,ba,b6⟩:=Oper.apart_spec g9;have mI:∀d,y.dst=some d->x.dst≠some d:=λd aA ag=>ba d ag aA;have lb:∀(K:aG->Prop) σ,ep P T G all x K σ=da P T G x K σ:=λK σ=>by unfold ep;simp only[mK]
 simp only[lb]at h⊢;obtain⟨r,ab,af⟩:=WI ag aH h;have El:∀(K:aG->Prop) objs,(∀j c,σ.objs j=some (.box c)->objs j=some (.box c))->da P T G x K ⟨σ.aJ,objs⟩=K (aG.put ⟨σ.aJ,objs⟩ x.dst r):=λK objs aF=>ma (af objs aF);rw[hE,oc ao]at ab;rw[hE];split at ab
 .rename_i hw
  try simp only[hw]
  rw[jD ao ba]at ab;refine ahD ij (λobjs q aF ak=>?_) ab;rw[jD b6 mI,El _ _ aF,put_comm ba];exact ak
 .rename_i hw
  try simp only[hw]
  show da P T G x K (σ.put y.dst _);rw[jD b6 mI];have:=El (λaU=>K (aU.put y.dst (.d (.val (.tuple #[]))))) σ.objs (λ_ _ h=>h);have e:da P T G x (λaU=>K (aU.put y.dst (.d (.val (.tuple #[]))))) σ=K ((σ.put x.dst r).put y.dst (.d (.val (.tuple #[])))):=this;rw[e];exact ab
 exact ab.elim
def ahE{y:Oper}{σ:aG}{K:aG->Prop}{a:Nat}(aA:y.dst≠some a)(h:ep P T G all y K σ):ep P T G all y (λaU=>aU.aJ a=σ.aJ a/\K aU) σ:=by
 have aT:∀(objs:cF)(r:aS),(aG.put ⟨σ.aJ,objs⟩ y.dst r).aJ a=σ.aJ a:=λobjs r=>by
  cases aP:y.dst with
  |none=>rfl
  |some d=>
   have:a≠d:=by rintro rfl;exact aA aP
   simp only[aG.put,cX _ _ this]
 rw[hE]at h⊢;split at h
 .rename_i hw
  try simp only[hw]
  exact vM (λobjs r ak=>⟨aT objs r,ak⟩) h
 .rename_i hw
  try simp only[hw]
  exact⟨aT σ.objs _,h⟩
 exact h.elim
def ahF{K:aG->Prop}{i:Nat}{fo:Oper}{t a k off:Nat}(ah:all[i]?=some fo)(ag:fo.op= .load t (.tmp a))(mK:fo.guard=none){B:List Nat}(gz:∀j c8,j∈B->all[j]?=some c8->∃e∈c8.after,Region.binds .any e=true/\(e.on=i\/e.on∈B)):∀(fuel:Nat)(listed:Array Bool)(σ:aG),σ.aJ a= .ptr k off->(∀j,j∈B->listed.getD j true=false)->(∀j c8,all[j]?=some c8->j≠i->listed.getD j true=false->j∉B->fo.apart all c8=true/\∀t a x,c8.op≠ .store t a x)->i∈Region.ready .any all listed->hR P T G all i (jg P T G all K fuel (listed.setIfInBounds i true)) σ->jg P T G all K (fuel+1) listed σ:=by
 intro fuel
 induction fuel with
 |zero=>
  intro listed σ ec qP od av H;refine⟨λh=>(by rw[h]at av;cases av),λj aN=>?_⟩;by_cases iZ:j=i;.subst iZ;exact H
  have hm:=ready_mono aN iZ;exfalso;have key:Region.ready .any all (listed.setIfInBounds i true)=[]:=by unfold hR at H;simp only[ah]at H;unfold ep at H;simp only[mK]at H;obtain⟨r,ab,_⟩:=WI ag ec H;exact ab.1
  rw[key]at hm;cases hm
 |succ fuel ih=>
  intro listed σ ec qP od av H;refine⟨λh=>(by rw[h]at av;cases av),λj aN=>?_⟩;by_cases iZ:j=i;.subst iZ;exact H
  obtain⟨vO,c8,jh,gl⟩:=xbJ.1 aN;have tL:∀k,listed.getD k true=false->listed[k]?.getD false=true->False:=λk au ab=>by
   rcases Nat.lt_or_ge k listed.size with bz|bz;.simp[bz]at au ab;rw[au]at ab;cases ab
   simp[Array.getElem?_eq_none bz]at ab
  have vP:j∉B:=λEd=>by
   obtain⟨e,he,aj,mJ⟩:=gz j c8 Ed jh;have ab:=gl e he aj;rcases mJ with mJ|mJ
   .rw[mJ]at ab;exact tL i (xbJ.1 av).1 (by simpa using ab)
   exact tL _ (qP _ mJ) (by simpa using ab)
  obtain⟨dz,dh⟩:=od j c8 jh iZ vO vP;have ab:hR P T G all i (λgn=>hR P T G all j (jg P T G all K fuel ((listed.setIfInBounds i true).setIfInBounds j true)) gn) σ:=vN (λgn tW=>tW.2 j (ready_mono aN iZ)) H;have Po:c8.dst≠some a:=λaA=>by obtain⟨_,_,b6⟩:=Oper.apart_spec dz;refine b6 a aA ?_;unfold Oper.looksAt;rw[ag];simp[Op.operands]
  have af:hR P T G all j (λfZ=>fZ.aJ a=σ.aJ a/\hR P T G all i (jg P T G all K fuel ((listed.setIfInBounds i true).setIfInBounds j true)) fZ) σ:=by unfold hR at ab⊢;simp only[ah,jh]at ab⊢;exact ahE Po (WJ ag mK ec dh dz ab)
  have Ee:∀k ok,all[k]?=some ok->k≠i->(listed.setIfInBounds j true).getD k true=false->k∉B->fo.apart all ok=true/\∀t a x,ok.op≠ .store t a x:=λk ok ak qQ oe ij=>by
   refine od k ok ak qQ ?_ ij;by_cases gm:j=k;.subst gm;exact vO
   rw[getD_set_ne true gm]at oe;exact oe
  refine vN (λfZ aw=>ih (listed.setIfInBounds j true) fZ (aw.1.trans ec) (λk ak=>by
   have gm:j≠k:=by rintro rfl;exact vP ak
   rw[getD_set_ne true gm];exact qP k ak) Ee (ready_mono av (Ne.symm iZ)) ?_) af
  rw[Array.setIfInBounds_comm _ _ iZ];exact aw.2
end
section
variable{P:Program}{T:cg}{G:dm}{all:Array Oper}
def A0:aS->Option Key
 | .ptr k _=>some k| .gk k _ _ _=>some k|_=>none
def keyOf(aJ:Nat->aS):Operand->Option Key
 | .tmp a=>A0 (aJ a)|_=>none
theorem Pp{aJ:Nat->aS}(x:Operand):A0 (ch G aJ x)=keyOf aJ x:=by cases x with|tmp a=>rfl|const v=>rfl|func f=>rfl|global g=>simp only[ch,keyOf];split<;>rfl
def ub(aJ:Nat->aS):Operand->Bool
 | .tmp a=>match aJ a with| .d _=>true|_=>false
 | .const _=>true|_=>false
def uc(aJ:Nat->aS)(k:Key):Op->Bool
 | .store _ a _=>match keyOf aJ a with|some bs=>bs !=k|none=>false
 |_=>false
def J9:Op->Bool
 | .store _ _ _=>true|_=>false
def Em(aJ:Nat->aS):Operand->Bool
 | .tmp a=>match aJ a with| .ptr _ _=>true|_=>false
 |_=>false
def ahG:aS->Bool
 | .d _=>true| .eo _ _=>true|_=>false
def p1(aJ:Nat->aS):Operand->Bool
 | .tmp a=>ahG (aJ a)|_=>false
def ud(aJ:Nat->aS):Op->Bool
 | .load _ a=>p1 aJ a| .indexAddr _ x _=>p1 aJ x| .lookup _ m _ _=>p1 aJ m| .slice _ x _ _ none=>p1 aJ x| .call ⟨.builtin .len,args,_⟩=>args.toList.all (p1 aJ)|_=>false
def sq(aJ:Nat->aS)(x y:Oper):Bool:=pass x y||ud aJ x.op||match x.op with
 | .binOp _ _ a b _=>ub aJ a&&ub aJ b| .load _ a=>match keyOf aJ a with|some k=>(Em aJ a&&!J9 y.op)||iN y.op||jf y.op||hy y.op||uc aJ k y.op|none=>false
 | .indexAddr _ _ _=>iN y.op||jf y.op||hy y.op||J9 y.op| .store _ a _=>match keyOf aJ a with|some k=>uc aJ k y.op|none=>false
 |_=>false
def Pq(k:Key)(o o':cF):Prop:=o' k=o k
def A1(o o':cF):Prop:=∀k n es,o k=some (.row n es)->∃g5,o' k=some (.row n g5)/\g5.length=es.length
def ahH{y:Oper}{σ:aG}{K K':aG->Prop}{R:cF->Prop}(au:R σ.objs)(fa:∀r cz,res T G σ y=some (r,cz)->R (dC σ.objs cz))(ak:∀objs r,R objs->K (aG.put ⟨σ.aJ,objs⟩ y.dst r)->K' (aG.put ⟨σ.aJ,objs⟩ y.dst r)) (h:da P T G y K σ):da P T G y K' σ:=by unfold da at*;rw[vJ]at*;cases av:res T G σ y with|none=>simp only[av,xbk]at h⊢;exact D5 h λr av=>ak σ.objs r au av|some p=>simp only[av,xaP]at h⊢;obtain⟨r,cz⟩:=p;exact ak _ _ (fa r cz av) h
def WK{σ:aG}{y:Oper}(h:(iN y.op||jf y.op||hy y.op)=true){r:aS}{cz:List (Key×cS)}(av:res T G σ y=some (r,cz)):cz=[]:=by
 unfold res at av;split at av;.cases av;rfl
 split at av;.cases av;rfl
 simp only[xbc]at h;rcases h with(h|h)|h
 .rw[(AN h).2]at av;cases av
 .rw[AO h]at av;cases av
 rw[(O8 (T:=T) (ev:=ch G σ.aJ) (objs:=σ.objs) (d:=y.dst.getD 9999) h).2.2]at av;cases av
def Pr{σ:aG}{y:Oper}{t:TypeId}{a x:Operand}(aP:y.op= .store t a x){r:aS}{cz:List (Key×cS)}(av:res T G σ y=some (r,cz)): ∃k o o',keyOf σ.aJ a=some k/\cz=[(k,o')]/\σ.objs k=some o/\((∃c je,o= .box c/\o'= .box je)\/∃n es g5,o= .row n es/\o'= .row n g5/\g5.length=es.length):=by
 rw[<-Pp (G:=G)];unfold res at av;rw[aP]at av;simp only[eL,dB,VY,ei]at av;split at av
 case h_2=>cases av
 split at av
 case isFalse=>cases av
 split at av
 .rename_i k off he;split at av
  case h_2=>cases av
  rename_i cells aF;split at av<;>cases av;exact⟨k,_,_,by rw[he];rfl,rfl,aF,.inl ⟨_,_,rfl,rfl⟩⟩
 .rename_i k cR fw off he;split at av
  case h_2=>cases av
  rename_i bs es aO aF aA;split at av
  case isFalse=>cases av
  rename_i an;split at av<;>cases av;exact⟨k,_,_,by rw[he];rfl,rfl,aF,.inr ⟨cR,es,_,by rw[an.1],rfl,by simp⟩⟩
 cases av
def En{objs:cF}{k:Key}{o:cS}(j:Key):dC objs [(k,o)] j=if j=k then some o else objs j:=by
 by_cases h:j=k;.subst h;simp[dC,e1]
 simp[dC,cX _ _ h,h]
def ahI{σ:aG}{y:Oper}{k:Key}(h:(iN y.op||jf y.op||hy y.op||uc σ.aJ k y.op)=true){r:aS}{cz:List (Key×cS)}(av:res T G σ y=some (r,cz)):Pq k σ.objs (dC σ.objs cz):=by
 rcases xbB.1 h with h|h;.rw[WK h av];rfl
 unfold uc at h;split at h
 case h_2=>cases h
 rename_i t a x aP;obtain⟨bs,o,o',ab,rfl,af,_⟩:=Pr aP av;rw[ab]at h;simp only[bne_iff_ne,ne_eq]at h;show dC σ.objs [(bs,o')] k=σ.objs k;rw[En,xab (λe=>h e.symm)]
theorem A1.refl(o:cF):A1 o o:=λk n es h=>⟨es,h,rfl⟩
def ahJ{σ:aG}{y:Oper}(h:(iN y.op||jf y.op||hy y.op||J9 y.op)=true){r:aS}{cz:List (Key×cS)}(av:res T G σ y=some (r,cz)):A1 σ.objs (dC σ.objs cz):=by
 rcases xbB.1 h with h|h;.rw[WK h av];exact A1.refl _
 unfold J9 at h;split at h
 case h_2=>cases h
 rename_i t a x aP;obtain⟨bs,o,o',ab,rfl,af,aw⟩:=Pr aP av;intro k n es ak;rw[En];by_cases e:k=bs
 .subst e;rw[xad rfl];rw[af]at ak;rcases aw with⟨c,je,rfl,rfl⟩|⟨m,ay1,ahK,rfl,rfl,aq⟩
  .cases ak
  cases ak;exact⟨ahK,rfl,aq⟩
 rw[xab e];exact⟨es,ak,rfl⟩
def Looks(T:cg)(G:dm)(x:Oper)(aJ:Nat->aS)(o:cF)(R:cF->Prop):Prop:=∀r cz,res T G ⟨aJ,o⟩ x=some (r,cz)->cz=[]/\∀o',R o'->res T G ⟨aJ,o'⟩ x=some (r,[])
def Ka{x y:Oper}{σ:aG}{K:aG->Prop}{R:cF->Prop}(mK:x.guard=none)(D7:hy x.op=false)(g9:x.apart all y=true)(aq:Looks T G x σ.aJ σ.objs R)(au:R σ.objs)(fa:∀r cz,res T G σ y=some (r,cz)->R (dC σ.objs cz)) (h:ep P T G all x (λgn=>ep P T G all y K gn) σ):ep P T G all y (λfZ=>ep P T G all x K fZ) σ:=by
 obtain⟨ao,ba,b6⟩:=Oper.apart_spec g9;have mI:∀d,y.dst=some d->x.dst≠some d:=λd aA ag=>ba d ag aA;have lb:∀(K:aG->Prop) σ,ep P T G all x K σ=da P T G x K σ:=λK σ=>by unfold ep;simp only[mK]
 simp only[lb]at h⊢;have OD:res T G σ x≠none:=by intro aL;rw[nB aL]at h;have:=xJ h;rw[D7]at this;cases this
 obtain⟨p,aT⟩:=Option.ne_none_iff_exists'.1 OD;obtain⟨r,cz⟩:=p;obtain⟨rfl,af⟩:=aq r cz aT;have ab:ep P T G all y K (σ.put x.dst r):=by rw[ma aT]at h;exact h
 have El:∀(K:aG->Prop) objs,R objs->da P T G x K ⟨σ.aJ,objs⟩=K (aG.put ⟨σ.aJ,objs⟩ x.dst r):=λK objs aF=>ma (af objs aF);rw[hE,oc ao]at ab;rw[hE];split at ab
 .rename_i hw
  try simp only[hw]
  rw[jD ao ba]at ab;refine ahH au fa (λobjs q aF ak=>?_) ab;rw[jD b6 mI,El _ _ aF,put_comm ba];exact ak
 .rename_i hw
  try simp only[hw]
  show da P T G x K (σ.put y.dst _);rw[jD b6 mI];have e:da P T G x (λaU=>K (aU.put y.dst (.d (.val (.tuple #[]))))) σ=K ((σ.put x.dst r).put y.dst (.d (.val (.tuple #[])))):=El (λaU=>K (aU.put y.dst (.d (.val (.tuple #[]))))) σ.objs au;rw[e];exact ab
 exact ab.elim
def WL{aJ:Nat->aS}{x:Operand}(h:ub aJ x=true):∃d,ch G aJ x= .d d:=by
 unfold ub at h;split at h
 .split at h;.rename_i d aA;exact⟨d,aA⟩
  cases h
 .exact⟨_,rfl⟩
 cases h
def ahL(o o':cF)(x:D):mF o (.d x)=mF o' (.d x):=by
 unfold mF;split<;>first|rfl|(rename_i h;cases h)|skip
 all_goals rfl
def Eo{aJ:Nat->aS}{x:Operand}(h:p1 aJ x=true):(∃d,ch G aJ x= .d d)\/∃cs off,ch G aJ x= .eo cs off:=by
 cases x with
 |tmp a=>simp only[p1]at h;show(∃d,aJ a= .d d)\/∃cs off,aJ a= .eo cs off;generalize aJ a=v at h;cases v<;>first|exact .inl ⟨_,rfl⟩|exact .inr ⟨_,_,rfl⟩|cases h
 |_=>cases h
def WM(o o':cF)(x:D):j3 o (.d x)=j3 o' (.d x):=by
 unfold j3;split<;>first|rfl|(rename_i h;cases h)|skip
 all_goals rfl
theorem ahM(o o':cF)(cs:List D)(off:Nat):j3 o (.eo cs off)=j3 o' (.eo cs off):=rfl
def ahN{aJ:Nat->aS}{op:Op}(h:ud aJ op=true)(o o':cF):dB T (ch G aJ) o op=dB T (ch G aJ) o' op:=by
 cases op<;>simp only[ud,xat]at h
 case load t a=>rcases Eo (G:=G) h with⟨d,e⟩|⟨cs,off,e⟩<;>simp only[dB,e]
 case indexAddr t x i=>
  rcases Eo (G:=G) h with⟨d,e⟩|⟨cs,off,e⟩;.simp only[dB,e];cases d<;>rfl
  simp only[dB,e]
 case lookup t m k ok=>
  rcases Eo (G:=G) h with⟨d,e⟩|⟨cs,off,e⟩
  .simp only[dB,e];split
   .cases d<;>first|rfl|skip
    rename_i v;cases v<;>first|rfl|skip
    rename_i q;cases q<;>rfl
   rfl
  simp only[dB,e]
 case slice t x lo ah hq=>
  cases hq with
  |some _=>cases h
  |none=>
   simp only at h;rcases Eo (G:=G) h with⟨d,e⟩|⟨cs,off,e⟩
   .simp only[dB,e,WM o o' d];cases d<;>rfl
   simp only[dB,e,ahM o o' cs off]
 case call c=>
  obtain⟨callee,args,dE⟩:=c;cases callee with
  |value=>rfl|invoke=>rfl
  |builtin b=>
   cases b<;>first|rfl|skip
   simp only at h;simp only[dB];split
   .rename_i t x aK aY;rw[aY]at h;simp only[xbN,List.all_nil,xbq]at h;rcases Eo (G:=G) h with⟨d,e⟩|⟨cs,off,e⟩
    .simp only[e];cases bf:T t with
     |none=>rfl
     |some i=>
      obtain⟨aO,s,b,z⟩:=i;cases aO
      case map k q=>
       cases d
       case val v=>
        cases v
        case map r=>cases r<;>rfl
        all_goals rfl
       all_goals rfl
      case slice q=>simp only[WM o o' d]
      case string=>
       cases d
       case val v=>cases v<;>rfl
       all_goals rfl
      all_goals rfl
    simp only[e];cases bf:T t with|none=>rfl|some i=>obtain⟨aO,s,b,z⟩:=i;cases aO<;>rfl
   rfl
def WN{aJ:Nat->aS}{op:Op}(h:ud aJ op=true):jf op=true:=by
 cases op<;>simp only[ud,xat]at h<;>first|rfl|skip
 case call c=>
  obtain⟨callee,args,dE⟩:=c;cases callee with
  |value=>cases h
  |invoke=>cases h
  |builtin b=>cases b<;>first|rfl|cases h
def ahO{x:Oper}{aJ:Nat->aS}{o:cF}(h:ud aJ x.op=true):Looks T G x aJ o (λ_=>True):=by
 intro r cz av;have hm:=WN h;unfold res at av;split at av
 .rename_i u hu;cases av;refine⟨rfl,λo' _=>?_⟩;unfold res;simp only[hu]
 rename_i aT;split at av;.rename_i u hu;cases av;refine⟨rfl,λo' _=>?_⟩;unfold res;simp only at hu;simp only[aT,ahN h o' o,hu]
 rw[AO hm]at av;cases av
def ahP{x:Oper}{op:BinOp}{t:TypeId}{a b:Operand}{q:TypeId}(ag:x.op= .binOp op t a b q){aJ:Nat->aS}{o:cF}(aI:ub aJ a=true)(aj:ub aJ b=true):Looks T G x aJ o (λ_=>True):=by
 intro r cz av;obtain⟨d1,aK⟩:=WL (G:=G) aI;obtain⟨d2,aY⟩:=WL (G:=G) aj;unfold res at av;rw[ag]at av;cases aT:eL T (ch G aJ) (.binOp op t a b q)with
 |some u=>rw[aT]at av;cases av;refine⟨rfl,λo' _=>?_⟩;unfold res;rw[ag,aT]
 |none=>
  rw[aT]at av;simp only at av;have hm:∀o',dB T (ch G aJ) o' (.binOp op t a b q)=dB T (ch G aJ) o (.binOp op t a b q):=by intro o';simp only[dB,aK,aY,ahL o' o]
  cases g6:dB T (ch G aJ) o (.binOp op t a b q)with
  |some u=>rw[g6]at av;cases av;refine⟨rfl,λo' _=>?_⟩;unfold res;rw[ag,aT];simp only[hm o',g6]
  |none=>rw[g6]at av;simp[g7,ei]at av
def ahQ{x:Oper}{t:TypeId}{a:Operand}{k:Key}(ag:x.op= .load t a){aJ:Nat->aS}{o:cF}(aI:keyOf aJ a=some k):Looks T G x aJ o (Pq k o):=by
 intro r cz av;have he:A0 (ch G aJ a)=some k:=by rw[Pp];exact aI
 unfold res at av;rw[ag]at av;simp only[eL]at av;have hm:∀o',o' k=o k->dB T (ch G aJ) o' (.load t a)=dB T (ch G aJ) o (.load t a):=by
  intro o' aF;simp only[dB];generalize ch G aJ a=v at he⊢;cases v<;>simp only[A0,reduceCtorEq,xaM]at he;.subst he;simp only[aF]
  subst he;simp only[aF]
 cases g6:dB T (ch G aJ) o (.load t a)with
 |some u=>rw[g6]at av;cases av;refine⟨rfl,λo' aF=>?_⟩;unfold res;rw[ag];simp only[eL,hm o' aF,g6]
 |none=>rw[g6]at av;simp[g7,ei]at av
def ahR{x:Oper}{t:TypeId}{a b:Operand}(ag:x.op= .indexAddr t a b){aJ:Nat->aS}{o:cF}:Looks T G x aJ o (A1 o):=by
 intro r cz av;unfold res at av;rw[ag]at av;simp only[eL]at av;cases g6:dB T (ch G aJ) o (.indexAddr t a b)with
 |some u=>
  rw[g6]at av;cases av;refine⟨rfl,λo' aF=>?_⟩;have hm:dB T (ch G aJ) o' (.indexAddr t a b)=some r:=by
   simp only[dB]at g6⊢;split at g6
   .split at g6
    .split at g6
     .rename_i aL;rw[xad aL];split at g6<;>first|exact g6|skip
      rename_i key a6;cases ak:o key with
      |none=>rw[ak]at g6;cases g6
      |some hr=>
       cases hr with
       |row k es=>obtain⟨g5,ab,af⟩:=aF key k es ak;rw[ak]at g6;rw[ab];simp only[af]at g6⊢;exact g6
       |dead=>rw[ak]at g6;cases g6
       |box=>rw[ak]at g6;cases g6
       |map=>rw[ak]at g6;cases g6
     cases g6
    cases g6
   .exact g6
   cases g6
  unfold res;rw[ag];simp only[eL,hm]
 |none=>rw[g6]at av;simp[g7,ei]at av
def ahS{o:cF}{k bs:Key}{a b:cS}(h:k≠bs):dC (dC o [(k,a)]) [(bs,b)]=dC (dC o [(bs,b)]) [(k,a)]:=by
 funext j
 simp only[En];by_cases ab:j=k<;>by_cases af:j=bs<;>simp_all
def WO{y:Oper}{t:TypeId}{a x:Operand}{k:Key}(aP:y.op= .store t a x){aJ:Nat->aS}{o o':cF}(aI:keyOf aJ a=some k)(aF:o' k=o k):res T G ⟨aJ,o'⟩ y=res T G ⟨aJ,o⟩ y:=by
 have he:A0 (ch G aJ a)=some k:=by rw[Pp];exact aI
 unfold res;rw[aP];simp only[eL,dB,VY,ei];generalize ch G aJ a=v at he⊢;cases v<;>simp only[A0,reduceCtorEq,xaM]at he;.subst he;simp only[aF]
 subst he;simp only[aF]
def ahT{x y:Oper}{σ:aG}{K:aG->Prop}{t t':TypeId}{a cC v ko:Operand}{k bs:Key}(ag:x.op= .store t a v)(aP:y.op= .store t' cC ko)(aI:keyOf σ.aJ a=some k)(Kb:keyOf σ.aJ cC=some bs)(cP:bs≠k) (mK:x.guard=none) (g9:x.apart all y=true) (h:ep P T G all x (λgn=>ep P T G all y K gn) σ):ep P T G all y (λfZ=>ep P T G all x K fZ) σ:=by
 obtain⟨ao,ba,b6⟩:=Oper.apart_spec g9;have mI:∀d,y.dst=some d->x.dst≠some d:=λd aA ag=>ba d ag aA;have lb:∀(K:aG->Prop) σ,ep P T G all x K σ=da P T G x K σ:=λK σ=>by unfold ep;simp only[mK]
 simp only[lb]at h⊢;have WQ:∀{z:Oper}{tt:TypeId}{p q:Operand}{τ:aG}{K':aG->Prop},z.op= .store tt p q->da P T G z K' τ->∃r cB gG,res T G τ z=some (r,[(cB,gG)])/\keyOf τ.aJ p=some cB/\K' (τ.step z.dst r [(cB,gG)]):=by
  intro z tt p q τ K' bx bJ;cases av:res T G τ z with
  |none=>rw[nB av]at bJ;have:=xJ bJ;rw[bx]at this;cases this
  |some u=>obtain⟨r,cz⟩:=u;obtain⟨cB,o,gG,bC,rfl,_,_⟩:=Pr bx av;exact⟨r,cB,gG,rfl,bC,by rw[ma av]at bJ;exact bJ⟩
 obtain⟨r,cB,gG,bC,bD,cy⟩:=WQ ag h;rw[aI]at bD;cases bD;have xV:ep P T G all y K (aG.put ⟨σ.aJ,dC σ.objs [(k,gG)]⟩ x.dst r):=cy;have WR:∀(mf:cF),mf k=σ.objs k->∀K':aG->Prop,da P T G x K' ⟨σ.aJ,mf⟩=K' (aG.put ⟨σ.aJ,dC mf [(k,gG)]⟩ x.dst r):=by
  intro mf aF K';have:res T G ⟨σ.aJ,mf⟩ x=some (r,[(k,gG)]):=by rw[WO ag aI aF];exact bC
  exact ma this
 rw[hE,oc ao]at xV;rw[hE];have ahU:jS all ⟨σ.aJ,dC σ.objs [(k,gG)]⟩ y=jS all σ y:=rfl;rw[ahU]at xV;split at xV
 .rename_i hw
  try simp only[hw]
  rw[jD ao ba]at xV;obtain⟨dX,dx,mf,dz,dh,eK⟩:=WQ aP xV;have WS:keyOf σ.aJ cC=some dx:=dh;rw[Kb]at WS;cases WS;have ahV:res T G σ y=some (dX,[(bs,mf)]):=by rw[<-dz];exact(WO (T:=T) (G:=G) aP (o:=σ.objs) (o':=dC σ.objs [(k,gG)]) Kb (by rw[En,xab cP])).symm
  rw[ma ahV];show da P T G x K (aG.put ⟨σ.aJ,dC σ.objs [(bs,mf)]⟩ y.dst dX);rw[jD b6 mI,WR _ (by rw[En,xab (λe=>cP e.symm)]),put_comm ba,ahS cP];exact eK
 .rename_i hw
  try simp only[hw]
  show da P T G x K (σ.put y.dst _);rw[jD b6 mI];have e:=WR σ.objs rfl (λaU=>K (aU.put y.dst (.d (.val (.tuple #[])))));have dt:da P T G x (λaU=>K (aU.put y.dst (.d (.val (.tuple #[]))))) σ=_:=e;rw[dt];exact xV
 exact xV.elim
def ahW{x y:Oper}{σ:aG}{K:aG->Prop}(mK:x.guard=none)(g9:x.apart all y=true)(h:sq σ.aJ x y=true)(H:ep P T G all x (λgn=>ep P T G all y K gn) σ):ep P T G all y (λfZ=>ep P T G all x K fZ) σ:=by
 unfold sq at h;rcases xbB.1 h with h|h
 .rcases xbB.1 h with h|h;.exact swap g9 h H
  refine Ka mK ?_ g9 (ahO h) trivial (λ_ _ _=>trivial) H;cases an:hy x.op with|false=>rfl|true=>have:=D4 an;rw[WN h]at this;cases this.2.1
 split at h;.rename_i op t a b q ag;rw[xam]at h;exact Ka mK (by rw[ag];rfl) g9 (ahP ag h.1 h.2) trivial (λ_ _ _=>trivial) H
 .rename_i t a ag;split at h
  case h_2=>cases h
  rename_i k ak;simp only[xbc]at h;have other:(iN y.op||jf y.op||hy y.op||uc σ.aJ k y.op)=true->ep P T G all y (λfZ=>ep P T G all x K fZ) σ:=λbz=>Ka mK (by rw[ag];rfl) g9 (ahQ ag ak) (rfl:Pq k σ.objs σ.objs) (λ_ _ av=>ahI bz av) H
  rcases h with(((h|h)|h)|h)|h
  .rw[xam]at h;obtain⟨ab,af⟩:=h;unfold Em at ab;split at ab
   case h_2=>cases ab
   rename_i ae;split at ab
   case h_2=>cases ab
   rename_i Ep off aH;refine WJ ag mK aH ?_ g9 H;intro t' cC ko he;rw[he]at af;cases af
  .exact other (by simp[h])
  .exact other (by simp[h])
  .exact other (by simp[h])
  exact other (by simp[h])
 .rename_i t a b ag;exact Ka mK (by rw[ag];rfl) g9 (ahR ag) (A1.refl _) (λ_ _ av=>ahJ h av) H
 .rename_i t a v ag;split at h
  case h_2=>cases h
  rename_i k ak;unfold uc at h;split at h
  case h_2=>cases h
  rename_i t' cC ko aP;split at h
  case h_2=>cases h
  rename_i bs fK;exact ahT ag aP ak fK (by simpa using h) mK g9 H
 cases h
def mL:Op->List Tmp
 | .binOp _ _ a b _=>(match a with| .tmp t=>[t]|_=>[])++(match b with| .tmp t=>[t]|_=>[])
 | .load _ (.tmp a)=>[a]| .store _ (.tmp a) _=>[a]| .indexAddr _ (.tmp a) _=>[a]| .lookup _ (.tmp a) _ _=>[a]| .slice _ (.tmp a) _ _ _=>[a]| .call ⟨.builtin .len,args,_⟩=>args.toList.filterMap λx=>match x with| .tmp t=>some t|_=>none
 |_=>[]
def ue:Op->List Tmp
 | .store _ (.tmp a) _=>[a]|_=>[]
theorem Ps{s s':Nat->aS}{x:Operand}(h:∀t,x= .tmp t->s t=s' t):keyOf s x=keyOf s' x:=by cases x with|tmp t=>simp only[keyOf,h t rfl]|_=>rfl
theorem WT{s s':Nat->aS}{x:Operand}(h:∀t,x= .tmp t->s t=s' t):ub s x=ub s' x:=by cases x with|tmp t=>simp only[ub,h t rfl]|_=>rfl
theorem ahX{s s':Nat->aS}{x:Operand}(h:∀t,x= .tmp t->s t=s' t):Em s x=Em s' x:=by cases x with|tmp t=>simp only[Em,h t rfl]|_=>rfl
def ahY{s s':Nat->aS}{x y:Oper}(h:∀t,t∈mL x.op\/t∈ue y.op->s t=s' t):sq s x y=sq s' x y:=by
 have aP:∀k,uc s k y.op=uc s' k y.op:=by
  intro k;unfold uc;split;.rename_i t a v he;rw[Ps (s:=s) (s':=s') (x:=a) (λq bk=>h q (.inr (by rw[he,bk];simp[ue])))]
  rfl
 have aA:ud s x.op=ud s' x.op:=by
  have ag:∀t,t∈mL x.op->s t=s' t:=λt aM=>h t (.inl aM);generalize x.op=op at ag;have one:∀a:Operand,(∀t,a= .tmp t->t∈mL op)->p1 s a=p1 s' a:=by intro a aI;cases a with|tmp t=>simp only[p1,ag t (aI t rfl)]|_=>rfl
  cases op<;>simp only[ud]
  case load t a=>exact one a (by rintro t rfl;simp[mL])
  case indexAddr t a i=>exact one a (by rintro t rfl;simp[mL])
  case lookup t a k ok=>exact one a (by rintro t rfl;simp[mL])
  case slice t a lo ah hq=>
   cases hq with
   |none=>exact one a (by rintro t rfl;simp[mL])
   |some _=>rfl
  case call c=>
   obtain⟨callee,args,dE⟩:=c;cases callee with
   |value=>rfl|invoke=>rfl
   |builtin b=>
    cases b<;>first|rfl|skip
    simp only;rw[Bool.eq_iff_iff,xay,xay];have aI:∀a∈args.toList,p1 s a=p1 s' a:=λa aI=>one a (by rintro t rfl;simp only[mL,List.mem_filterMap];exact⟨_,aI,rfl⟩);exact⟨λh a hm=>by rw[<-aI a hm];exact h a hm,λh a hm=>by rw[aI a hm];exact h a hm⟩
 unfold sq;rw[aA]
 congr 1
 split;.rename_i op t a b q ag;have aI:∀t,a= .tmp t->s t=s' t:=λt aM=>h t (.inl (by rw[ag,aM];simp[mL]));have aj:∀t,b= .tmp t->s t=s' t:=λt aM=>h t (.inl (by rw[ag,aM];simp[mL]));rw[WT aI,WT aj]
 .rename_i t a ag;have aI:∀t,a= .tmp t->s t=s' t:=λt aM=>h t (.inl (by rw[ag,aM];simp[mL]));rw[Ps aI,ahX aI];split
  .rw[aP]
  rfl
 .rfl
 .rename_i t a v ag;have aI:∀t,a= .tmp t->s t=s' t:=λt aM=>h t (.inl (by rw[ag,aM];simp[mL]));rw[Ps aI];split
  .rw[aP]
  rfl
 rfl
def ahZ{y:Oper}{σ:aG}{K:aG->Prop}{L:List Tmp}(aA:∀a∈L,y.dst≠some a)(h:ep P T G all y K σ):ep P T G all y (λaU=>(∀a∈L,aU.aJ a=σ.aJ a)/\K aU) σ:=by
 have aT:∀(objs:cF)(r:aS),∀a∈L,(aG.put ⟨σ.aJ,objs⟩ y.dst r).aJ a=σ.aJ a:=λobjs r a aI=>by
  cases aP:y.dst with
  |none=>rfl
  |some d=>
   have:a≠d:=by rintro rfl;exact aA a aI aP
   simp only[aG.put,cX _ _ this]
 rw[hE]at h⊢;split at h
 .rename_i hw
  try simp only[hw]
  exact vM (λobjs r ak=>⟨aT objs r,ak⟩) h
 .rename_i hw
  try simp only[hw]
  exact⟨aT σ.objs _,h⟩
 exact h.elim
def ah0{x:Oper}{σ:aG}{p:Prop}(h:ep P T G all x (λ_=>p) σ):p:=by
 rw[hE]at h;split at h
 .unfold da at h;split at h;.exact h
  unfold jC at h;split at h
  .split at h;.obtain⟨_,_,_,_,_,_,⟨r,nC⟩,_,q⟩:=h;exact q r (by rw[nC])
   exact h.elim
  exact h.elim
 .exact h
 exact h.elim
def ah1{K:aG->Prop}{i:Nat}{fo:Oper}(ah:all[i]?=some fo)(mK:fo.guard=none){B:List Nat}(gz:∀j c8,j∈B->all[j]?=some c8->∃e∈c8.after,Region.binds .any e=true/\(e.on=i\/e.on∈B)){s0:Nat->aS}{L:List Tmp}(ah2:∀t∈mL fo.op,t∈L): ∀(fuel:Nat)(listed:Array Bool)(σ:aG),(∀t∈L,σ.aJ t=s0 t)->(∀j,j∈B->listed.getD j true=false)->(∀j c8,all[j]?=some c8->j≠i->listed.getD j true=false->j∉B->fo.apart all c8=true/\sq s0 fo c8=true/\(∀t∈L,c8.dst≠some t)/\∀t∈ue c8.op,t∈L)->i∈Region.ready .any all listed->hR P T G all i (jg P T G all K fuel (listed.setIfInBounds i true)) σ->jg P T G all K (fuel+1) listed σ:=by
 intro fuel
 induction fuel with
 |zero=>
  intro listed σ ec qP od av H;refine⟨λh=>(by rw[h]at av;cases av),λj aN=>?_⟩;by_cases iZ:j=i;.subst iZ;exact H
  have hm:=ready_mono aN iZ;exfalso;have key:Region.ready .any all (listed.setIfInBounds i true)=[]:=by have Pt:=vN (K':=λ_=>Region.ready .any all (listed.setIfInBounds i true)=[]) (λaU bz=>bz.1) H;unfold hR at Pt;simp only[ah]at Pt;exact ah0 Pt
  rw[key]at hm;cases hm
 |succ fuel ih=>
  intro listed σ ec qP od av H;refine⟨λh=>(by rw[h]at av;cases av),λj aN=>?_⟩;by_cases iZ:j=i;.subst iZ;exact H
  obtain⟨vO,c8,jh,gl⟩:=xbJ.1 aN;have tL:∀k,listed.getD k true=false->listed[k]?.getD false=true->False:=λk au ab=>by
   rcases Nat.lt_or_ge k listed.size with bz|bz;.simp[bz]at au ab;rw[au]at ab;cases ab
   simp[Array.getElem?_eq_none bz]at ab
  have vP:j∉B:=λEd=>by
   obtain⟨e,he,aj,mJ⟩:=gz j c8 Ed jh;have ab:=gl e he aj;rcases mJ with mJ|mJ
   .rw[mJ]at ab;exact tL i (xbJ.1 av).1 (by simpa using ab)
   exact tL _ (qP _ mJ) (by simpa using ab)
  obtain⟨dz,dh,eK,ji⟩:=od j c8 jh iZ vO vP;have ab:hR P T G all i (λgn=>hR P T G all j (jg P T G all K fuel ((listed.setIfInBounds i true).setIfInBounds j true)) gn) σ:=vN (λgn tW=>tW.2 j (ready_mono aN iZ)) H;have af:hR P T G all j (λfZ=>(∀a∈L,fZ.aJ a=σ.aJ a)/\hR P T G all i (jg P T G all K fuel ((listed.setIfInBounds i true).setIfInBounds j true)) fZ) σ:=by
   unfold hR at ab⊢;simp only[ah,jh]at ab⊢;have bn:sq σ.aJ fo c8=true:=by
    rw[<-dh];refine ahY λt aM=>ec t ?_;rcases aM with aM|aM
    .exact ah2 t aM
    exact ji t aM
   exact ahZ eK (ahW mK dz bn ab)
  have Ee:∀k ok,all[k]?=some ok->k≠i->(listed.setIfInBounds j true).getD k true=false->k∉B->fo.apart all ok=true/\sq s0 fo ok=true/\(∀t∈L,ok.dst≠some t)/\∀t∈ue ok.op,t∈L:=λk ok ak qQ oe ij=>by
   refine od k ok ak qQ ?_ ij;by_cases gm:j=k;.subst gm;exact vO
   rw[getD_set_ne true gm]at oe;exact oe
  refine vN (λfZ aw=>ih (listed.setIfInBounds j true) fZ (λt aM=>(aw.1 t aM).trans (ec t aM)) (λk ak=>by
   have gm:j≠k:=by rintro rfl;exact vP ak
   rw[getD_set_ne true gm];exact qP k ak) Ee (ready_mono av (Ne.symm iZ)) ?_) af
  rw[Array.setIfInBounds_comm _ _ iZ];exact aw.2
end
structure V where
 name:ByteArray
 bool:Bool
 lo:Int
 ah:Int
def V.cells(v:V):List D:=[aB v.name,ay v.bool,J v.lo,J v.ah]
def V.d(v:V):D:= .agg v.cells
def bl(l:List V):D:= .ax 4 (l.map V.cells)
def o8(n:Int):D:= .val (.int .u8 n)
def o9(n:Int):Prop:=-9223372036854775808<=n/\n<=9223372036854775807
def V.ok(v:V):Prop:=o9 v.lo/\o9 v.ah/\v.name.size<=9223372036854775807
def V.span(v:V):Int:=if v.bool then 2 else if v.lo>v.ah then 0 else if v.ah-v.lo<1073741824 then v.ah-v.lo+1 else 1073741825
def bitsOf(n:Int):Nat:=if n<=1 then 0 else Nat.log2 (n-1).toNat+1
def ah3{n:Int}{k:Nat}(ab:∀j:Nat,j<k->(2:Int)^j<n)(af:n<=2^k):bitsOf n=k:=by
 unfold bitsOf;cases k with
 |zero=>simp at af;simp[af]
 |succ k=>
  have aw:=ab k (by omega);have aT:(0:Int)<2^k:=Int.pow_pos (by omega);rw[xab (by omega)];have e:Nat.log2 (n-1).toNat=k:=by
   have aI:(2:Nat)^k<=(n-1).toNat:=by
    have:((2^k:Nat):Int)=2^k:=by simp
    omega
   have aj:(n-1).toNat<2^(k+1):=by
    have:((2^(k+1):Nat):Int)=2^(k+1):=by simp
    omega
   exact(Nat.log2_eq_iff (by have:=Nat.two_pow_pos k;omega)).2 ⟨aI,aj⟩
  omega
def WU{n:Int}(h:1<n):bitsOf n=bitsOf (n/2+n%2)+1:=by
 unfold bitsOf;rw[xab (by omega)];by_cases af:n=2;.subst af;decide
 rw[xab (by omega)];have e:(n/2+n%2-1).toNat=(n-1).toNat/2:=by omega
 rw[e];have aw:(n-1).toNat≠0:=by omega
 have a4:(n-1).toNat/2≠0:=by omega
 obtain⟨a,b⟩:=(Nat.log2_eq_iff a4).1 rfl;have:Nat.log2 (n-1).toNat=Nat.log2 ((n-1).toNat/2)+1:=by
  refine(Nat.log2_eq_iff aw).2 ⟨?_,?_⟩;.rw[Nat.pow_succ];omega
  rw[Nat.pow_succ];omega
 omega
def sr(c:Int):Bool:=(decide (c>=97)&&decide (c<=122))||(decide (c>=65)&&decide (c<=90))
def xW(c:Int):Bool:=decide (c>=48)&&decide (c<=57)
def mM(c:Int):Bool:=sr c||xW c||(c==95)
def WV{lo ah:Int}(ab:o9 lo)(af:o9 ah)(h:lo<=ah):IntKind.u64.wrap (IntKind.u64.wrap ah-IntKind.u64.wrap lo)=ah-lo:=by unfold o9 at ab af;simp only[IntKind.wrap_u64];omega
def V.WW{v:V}(h:v.bool=true):v.span=2:=by simp[V.span,h]
def V.WX{v:V}(h:v.bool=false)(ab:v.lo>v.ah):v.span=0:=by simp[V.span,h,ab]
def V.Pu{v:V}(h:v.bool=false)(ab:v.lo<=v.ah)(af:v.ah-v.lo<1073741824):v.span=v.ah-v.lo+1:=by simp[V.span,h,af];omega
def V.Pv{v:V}(h:v.bool=false)(ab:v.lo<=v.ah)(af:1073741824<=v.ah-v.lo):v.span=1073741825:=by simp[V.span,h,af];omega
def has(x:ByteArray)(l:List ByteArray):Bool:=l.any λy=>decide (y=x)
def idxOf(x:ByteArray)(l:List ByteArray):Int:=match l.findIdx? (λy=>decide (y=x))with|some i=>(i:Nat)|none=>-1
def WY{x:ByteArray}{l:List ByteArray}(h:∀j:Nat,j<l.length->l[j]?≠some x):idxOf x l=-1:=by
 unfold idxOf;have:l.findIdx? (λy=>decide (y=x))=none:=by rw[List.findIdx?_eq_none_iff];intro y aP;obtain⟨j,aN⟩:=xaT.1 aP;have ab:=h j (xae.1 aN).1;rw[aN]at ab;simpa using ab
 rw[this]
def WZ{x:ByteArray}{l:List ByteArray}{i:Nat}(h:∀j:Nat,j<i->l[j]?≠some x)(ah:l[i]?=some x):idxOf x l=i:=by
 unfold idxOf;obtain⟨b7,cO⟩:=xae.1 ah;have:l.findIdx? (λy=>decide (y=x))=some i:=by rw[xbg];refine⟨b7,by simpa using cO,λj aN=>?_⟩;have ab:=h j aN;rw[xaa (by omega)]at ab;simpa using ab
 rw[this]
def W0(x:ByteArray)(l:List ByteArray):decide (idxOf x l>=0)=has x l:=by
 unfold idxOf has;cases h:l.findIdx? (λy=>decide (y=x))with
 |none=>
  rw[List.findIdx?_eq_none_iff]at h;have:l.any (λy=>decide (y=x))=false:=by rw[List.any_eq_false];intro y aP;simpa using h y aP
  rw[this];rfl
 |some i=>obtain⟨ab,af,_⟩:=xbg.1 h;have:l.any (λy=>decide (y=x))=true:=xbr.2 ⟨_,xaX ab,af⟩;rw[this];simp
def W1{x:ByteArray}{l:List ByteArray}{i:Nat}(h:l[i]?=some x):has x l=true:=xbr.2 ⟨x,xac h,by simp⟩
def W2{x:ByteArray}{l:List ByteArray}(h:∀j:Nat,j<l.length->l[j]?≠some x):has x l=false:=by unfold has;rw[List.any_eq_false];intro y aP;obtain⟨j,aN⟩:=xaT.1 aP;have ab:=h j (xae.1 aN).1;rw[aN]at ab;simpa using ab
def oh(p:Int->Bool)(s:ByteArray)(i:Nat):Bool:=match s[i]? with|some b=>p b.toNat|none=>false
def nE(p:Int->Bool)(s:ByteArray):Nat:=((List.range (s.size+1)).find? λi=>!oh p s i).getD 0
theorem Kc{s:ByteArray}{i:Nat}:s[i]?=if h:i<s.size then some s[i]else none:=rfl
def ah4{p:Int->Bool}{s:ByteArray}{i:Nat}(h:oh p s i=true):i<s.size:=by
 unfold oh at h;rw[Kc]at h;by_cases ab:i<s.size;.exact ab
 rw[dif_neg ab]at h;cases h
def words:List ByteArray:=[⟨#[65]⟩,⟨#[65,70]⟩,⟨#[65,71]⟩,⟨#[65,88]⟩,⟨#[69]⟩,⟨#[69,70]⟩,⟨#[69,71]⟩,⟨#[69,88]⟩,⟨#[85]⟩,⟨#[98,111,111,108]⟩,⟨#[100,101,102]⟩,⟨#[101,108,115,101]⟩,⟨#[102,97,105,114]⟩,⟨#[102,97,108,115,101]⟩,⟨#[105,102]⟩,⟨#[105,110,105,116]⟩,⟨#[105,110,118,97,114]⟩,⟨#[109,111,100]⟩,⟨#[110,101,120,116]⟩,⟨#[115,112,101,99]⟩,⟨#[116,104,101,110]⟩,⟨#[116,114,97,110,115]⟩,⟨#[116,114,117,101]⟩,⟨#[118,97,114]⟩]
def isName(s:ByteArray):Bool:=decide ((s.size:Int)>=1)&&decide ((s.size:Int)<=24)&&oh sr s 0&&((nE mM s:Int)==(s.size:Int))&&!has s words
def W3(s:ByteArray):(decide (s=⟨#[]⟩)=true/\decide ((s.size:Int)>=1)=false)\/∃b,decide (s=⟨#[]⟩)=false/\decide ((s.size:Int)>=1)=true/\s[0]?=some b:=by
 by_cases h:0<s.size
 .refine .inr ⟨s[0],?_,?_,?_⟩
  .have:s≠⟨#[]⟩:=by rintro rfl;exact absurd h (by decide)
   simpa using this
  .simp;omega
  rw[Kc,dif_pos h]
 refine .inl ⟨?_,?_⟩
 .have au:s.size=0:=by omega
  have:s=⟨#[]⟩:=by
   cases s with|mk d=>
   congr 1
   exact xbf au
  simpa using this
 simp;omega
def vW(v:V):Bool:=decide ((if v.ah>v.lo then v.ah else v.lo)>255)||decide ((if v.ah<v.lo then v.ah else v.lo)< -255)
def A2(seen:List V)(v:V):Int:=if !isName v.name then 12 else if has v.name (seen.map V.name)then 6 else if v.bool&&(v.lo !=0||v.ah !=0)then 3
 else if !v.bool&&(decide (v.lo>v.ah)||vW v||decide (IntKind.i64.wrap (v.ah-v.lo)>=64))then 2 else 0
def jj(l:List V)(i:Nat):Int:=match l[i]? with|some v=>A2 (l.take i) v|none=>0
def j9(l:List V):Int×Int:=match(List.range l.length).find? (λi=>jj l i !=0)with|some i=>((i:Int),jj l i)|none=>(0,0)
def W4{l:List V}{i:Nat}{e:Int}(h:∀j:Nat,j<i->jj l j=0)(ah:i<l.length)(he:jj l i=e)(au:e≠0):j9 l=((i:Int),e):=by
 unfold j9;have:(List.range l.length).find? (λi=>jj l i !=0)=some i:=by rw[List.find?_range_eq_some];exact⟨by simpa[he]using au,by simpa using ah,λj aN=>by simp[h j aN]⟩
 rw[this];simp[he]
def W5{l:List V}(h:∀j:Nat,j<l.length->jj l j=0):j9 l=(0,0):=by
 unfold j9;have:(List.range l.length).find? (λi=>jj l i !=0)=none:=by rw[List.find?_eq_none];intro j aN;simp[h j (by simpa using aN)]
 rw[this]
def ah5{v:V}(a6:v.ok):(!v.bool&&(decide (v.lo>v.ah)||vW v||decide (IntKind.i64.wrap (v.ah-v.lo)>=64)))=(!v.bool&&(decide (v.lo>v.ah)||!(decide (v.lo>=-255)&&decide (v.lo<=255))||!(decide (v.ah>=-255)&&decide (v.ah<=255))||decide (v.span>64))):=by
 cases aj:v.bool with
 |true=>rfl
 |false=>
  by_cases ab:v.lo>v.ah;.simp[ab]
  have eS:v.lo<=v.ah:=by omega
  by_cases af:-255<=v.lo/\v.ah<=255
  .have aK:vW v=false:=by
    unfold vW;split<;>(try split)<;>simp<;>omega
   have aY:(decide (v.lo>=-255)&&decide (v.lo<=255))=true:=by simp;omega
   have bN:(decide (v.ah>=-255)&&decide (v.ah<=255))=true:=by simp;omega
   rw[V.Pu aj eS (by omega),aK,aY,bN,wrap64 _ (by omega) (by omega)];have cN:decide (v.lo>v.ah)=false:=by simpa using eS
   have eb:decide (v.ah-v.lo>=64)=decide (v.ah-v.lo+1>64):=by rw[decide_eq_decide];omega
   rw[cN,eb];rfl
  have aK:vW v=true:=by unfold vW;split<;>(try split)<;>simp<;>omega
  have aY:(!(decide (v.lo>=-255)&&decide (v.lo<=255))||!(decide (v.ah>=-255)&&decide (v.ah<=255)))=true:=by simp;omega
  rw[aK];revert aY;generalize decide (v.lo>v.ah)=p;generalize (decide (v.lo>=-255)&&decide (v.lo<=255))=q;generalize (decide (v.ah>=-255)&&decide (v.ah<=255))=r;cases p<;>cases q<;>cases r<;>simp
def ah6{l:List V}{x:ByteArray}{i:Nat}(h:∀j:Nat,j<i->(l.map V.name)[j]?≠some x):has x ((l.take i).map V.name)=false:=by refine W2 λj aN=>?_;rw[List.map_take,xaN];simp at aN;rw[xad (by omega)];exact h j (by omega)
theorem ah7{l:List V}{w:V}{k i:Nat}(ak:k<i)(hw:l[k]?=some w):has w.name ((l.take i).map V.name)=true:=by refine W1 (i:=k) ?_;rw[List.map_take,xaN,xad ak,xaj,hw];rfl
end Go.Am
