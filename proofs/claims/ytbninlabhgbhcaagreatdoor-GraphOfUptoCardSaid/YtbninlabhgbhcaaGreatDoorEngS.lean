/- Steps, joins, and nil slices that become rows of our own. No condition. -/
import Derived.Test.YtbninlabhgbhcaaGreatDoorEngB
set_option linter.all false
set_option linter.unnecessarySimpa false
namespace Go.Am
section
variable{P:Program}{T:cd}{G:df}{N:Nat}{σ:aF}{Q:Exit->aF->Prop}{all:Array Oper}
def ajp(l:List Oper):∀(k:Nat)(σ:aF)(K:aF->Prop),(∀j,l[j]?=all[k+j]?)->fI P T G all l K σ->BL P T G all (List.range' k l.length) K σ:=by
 induction l with
 |nil=>intro k σ K _ h;exact h
 |cons o l ih=>
  intro k σ K aq h;have ar:all[k]?=some o:=by simpa using(aq 0).symm
  simp only[xat,List.range'_succ,BL,ar];refine EJ (λaX ur=>ih (k+1) aX K (λj=>by have:=aq (j+1);simpa[xbc,Nat.add_comm 1 j]using this) ur) h
def ajq(bb:dR P T)(hm:P.follows .mixedOrders=true){id:Nat}{ops:Array Oper}(ca:wI N ops=true)(BN:yC T ops (List.range ops.size) (Array.replicate ops.size false)=true) (h:fI P T G ops ops.toList (Q .normal) σ):hc P T G N (.region id ops true) σ Q:=by refine ai7 bb hm ca (List.range ops.size) (by simp) BN ?_;rw[List.range_eq_range'];have:=ajp (P:=P) (T:=T) (G:=G) (all:=ops) ops.toList 0 σ (Q .normal) (λj=>by simp) h;simpa using this
end
section
variable{P:Program}{T:cd}{G:df}{N:Nat}{σ gv:aF}{Q:Exit->aF->Prop}{id:Nat}{ops:Array Oper}
end
def wrap64(x:Int)(aa:-9223372036854775808<=x)(ae:x<=9223372036854775807):IntKind.i64.wrap x=x:=by rw[IntKind.wrap_i64];omega
theorem getD_cons_zero{α:Type}(x:α)(l:List α)(d:α):(x::l).getD 0 d=x:=rfl
theorem getD_cons_succ{α:Type}(x:α)(l:List α)(n:Nat)(d:α):(x::l).getD (n+1) d=l.getD n d:=rfl
def XN{σ:aF}(K:Key)(n:Nat)(uy:Nat->aS)(objs':cw)(hj:σ.objs K=none) (aE:∀t,uy t=σ.aH t\/σ.aH t= .d (.val (.slice none 0 0))/\uy t= .row K) (aL:∀k o,objs' k=some o->k=K/\o= .row n []\/k≠K/\(σ.objs k=some o\/∃xs i,σ.objs k=some (.box xs)/\xs[i]?=some (.d (.val (.slice none 0 0)))/\o= .box (xs.set i (.row K)))) (oK:∀k,σ.objs k≠none->objs' k≠none) (ajr:objs' K=some (.row n [])) (ajs:∀k,eR (σ.objs k)->eR (objs' k)):gU σ ⟨uy,objs'⟩:=by
 intro m fr ρ a w h;have cv:∀k,σ.used k->k≠K:=by rintro k ⟨o,al⟩ rfl;rw[hj]at al;cases al
 have aw:∀k,σ.used k->aF.used ⟨uy,objs'⟩ k/\cl ρ K (.slice none 0 0) k=ρ k:=λk al=>
  ⟨by
   cases bA:objs' k with
   |none=>exact absurd bA (oK k (by obtain⟨o,e⟩:=al;rw[e];simp))
   |some o=>exact⟨o,bA⟩,cV _ _ (cv k al)⟩
 have ajt:aF.used ⟨uy,objs'⟩ K:=⟨_,ajr⟩;have BS:cl ρ K (.slice none 0 0) K= .slice none 0 0:=by simp[cl]
 have mA:b3 m (cl ρ K (.slice none 0 0)) (aF.used ⟨uy,objs'⟩) (.row K) (.slice none 0 0):=by have:=b3.row (m:=m) (ρ:=cl ρ K (.slice none 0 0)) (U:=aF.used ⟨uy,objs'⟩) K ajt;rw[BS]at this;exact this
 refine⟨m,cl ρ K (.slice none 0 0),Mem.le_refl m,⟨h.mem,h.frame,h.apart,?_,?_,?_,?_,?_⟩,?_⟩
 .rintro k ⟨o,al⟩;rcases aL k o al with⟨rfl,rfl⟩|⟨aa,ae⟩;.rw[BS];rfl
  rw[cV _ _ aa];rcases ae with ae|⟨xs,i,ae,_,_⟩
  .exact h.one k ⟨_,ae⟩
  exact h.one k ⟨_,ae⟩
 .intro t;rcases aE t with e|⟨aP,a2⟩
  .show b3 m _ _ (uy t) _;rw[e];exact(h.aH t).mono (Mem.le_refl m) aw
  show b3 m _ _ (uy t) _;rw[a2];have:=h.aH t;rw[aP]at this;rw[this.hp];exact mA
 .intro k o al;rcases aL k o al with⟨rfl,rfl⟩|⟨aa,ae⟩
  .rw[BS];exact .inl ⟨rfl,rfl⟩
  rw[cV _ _ aa];rcases ae with ae|⟨xs,i,ae,ay,rfl⟩
  .exact(h.objs k o ae).mono (Mem.le_refl m) aw (λ_ _ _=>rfl)
  obtain⟨b,vs,T,aP,a2,bS,cS⟩:=(h.objs k _ ae).mono (Mem.le_refl m) aw (λ_ _ _=>rfl);refine⟨b,vs,T,aP,a2,by simpa using bS,?_⟩;intro j c x an ah;rw[List.getElem?_set]at an;split at an
  .rename_i lv;subst lv;split at an;.cases an;have:=cS i _ x ay ah;rw[this.hp];exact mA
   cases an
  exact cS j c x an ah
 .intro k o b al aju ao;rcases aL k o al with⟨rfl,rfl⟩|⟨aa,ae⟩
  .have gi:blockOf (cl ρ k (.slice none 0 0) k)=some b:=ao;rw[BS]at gi;cases gi
  have gi:blockOf (cl ρ K (.slice none 0 0) k)=some b:=ao;rw[cV _ _ aa]at gi;rcases ae with ae|⟨xs,i,ae,_,rfl⟩
  .exact h.own k o b ae aju gi
  exact h.own k _ b ae rfl gi
 .intro k br o o' b dh al fF gk l9 ao;rcases aL k o al with⟨rfl,rfl⟩|⟨aa,ae⟩
  .have gi:blockOf (cl ρ k (.slice none 0 0) k)=some b:=ao;rw[BS]at gi;cases gi
  rw[cV _ _ aa]at ao;rcases aL br o' fF with⟨rfl,rfl⟩|⟨ej,ha⟩
  .rw[BS];intro bA;cases bA
  rw[cV _ _ ej];have hold:∃p,σ.objs k=some p/\p.owns=true:=by
   rcases ae with ae|⟨xs,i,ae,_,rfl⟩;.exact⟨_,ae,gk⟩
   exact⟨_,ae,rfl⟩
  have ajv:∃p,σ.objs br=some p/\p.owns=true:=by
   rcases ha with ha|⟨xs,i,ha,_,rfl⟩;.exact⟨_,ha,l9⟩
   exact⟨_,ha,rfl⟩
  obtain⟨p,bV,bN⟩:=hold;obtain⟨oC,ajw,ajx⟩:=ajv;exact h.sep k br p oC b dh bV ajw bN ajx ao
 intro k al ao;refine⟨ajs k ao,cV _ _ ?_⟩;obtain⟨c,an⟩:=BD ao;exact cv k ⟨_,an⟩
def ajy{σ:aF}(t:Nat)(K:Key)(n:Nat)(aJ:σ.aH t= .d (.val (.slice none 0 0)))(hj:σ.objs K=none):gU σ ⟨cl σ.aH t (.row K),cl σ.objs K (some (.row n []))⟩:=by
 refine XN K n _ _ hj ?_ ?_ ?_ (by simp[cl]) ?_
 .intro j;by_cases h:j=t;.subst h;exact .inr ⟨aJ,by simp[cl]⟩
  exact .inl (by simp[cl,h])
 .intro k o al;by_cases h:k=K;.subst h;simp[cl]at al;exact .inl ⟨rfl,al.symm⟩
  rw[cV _ _ h]at al;exact .inr ⟨h,.inl al⟩
 .intro k al;by_cases h:k=K;.subst h;simp[cl]
  rw[cV _ _ h];exact al
 intro k ao;have h:k≠K:=by rintro rfl;rw[hj]at ao;exact uk ao
 rw[cV _ _ h];exact ao
def ajz{σ:aF}(k:Key)(i:Nat)(K:Key)(n:Nat){xs:List aS}(al:σ.objs k=some (.box xs))(aj:xs[i]?=some (.d (.val (.slice none 0 0))))(hj:σ.objs K=none):gU σ ⟨σ.aH,cl (cl σ.objs k (some (.box (xs.set i (.row K))))) K (some (.row n []))⟩:=by
 have aCc:k≠K:=by rintro rfl;rw[hj]at al;cases al
 refine XN K n _ _ hj (λ_=> .inl rfl) ?_ ?_ (by simp[cl]) ?_
 .intro j o aI;by_cases h:j=K;.subst h;simp[cl]at aI;exact .inl ⟨rfl,aI.symm⟩
  rw[cV _ _ h]at aI;by_cases ae:j=k;.subst ae;simp[cl]at aI;exact .inr ⟨h,.inr ⟨xs,i,al,aj,aI.symm⟩⟩
  rw[cV _ _ ae]at aI;exact .inr ⟨h,.inl aI⟩
 .intro j aI;by_cases h:j=K;.subst h;simp[cl]
  rw[cV _ _ h];by_cases ae:j=k;.subst ae;simp[cl]
  rw[cV _ _ ae];exact aI
 intro j ao;have h:j≠K:=by rintro rfl;rw[hj]at ao;exact uk ao
 rw[cV _ _ h];by_cases ae:j=k;.subst ae;rw[eX];exact uj
 rw[cV _ _ ae];exact ao
def ajA{σ:aF}(t:Nat)(K:Key)(n:Nat){es:List (List D)}(aJ:σ.aH t= .row K)(al:σ.objs K=some (.row n es)):gU σ ⟨cl σ.aH t (.sub K n 0 es.length),σ.objs⟩:=by
 intro m fr ρ a w h;refine⟨m,ρ,Mem.le_refl m,⟨h.mem,h.frame,h.apart,h.one,?_,h.objs,h.own,h.sep⟩,kK.refl _ _⟩;intro s;by_cases aE:s=t
 .subst aE;have aa:=h.aH s;rw[aJ]at aa;show b3 m _ _ (cl σ.aH s _ s) _;rw[eX];generalize a.tmps.getD s undef=v at*;cases aa with|row _ hu=>
  rcases h.objs _ _ al with⟨aP,a2⟩|⟨b,o,cap,vs,dL,aP,a2,bS,cS,dM,e4⟩;.rw[aP,a2];exact .jM K n 0 hu aP
  rw[aP];exact b3.sub (m:=m) (ρ:=ρ) (U:=σ.used) K n 0 es.length b o es.length cap o hu aP (by omega) ⟨λ_=>by simp,by omega⟩
 show b3 m _ _ (cl σ.aH t _ s) _;rw[cV _ _ aE];exact h.aH s
def ajB{T:cd}{ev:Operand->aS}{objs:cw}{d:Key}{o:Op}{r:aS}{cz:List (Key×cP)}(h:ek T ev objs d o=some (r,cz))(h6:∀t a x,o≠ .store t a x):∀j c,objs j=some (.box c)->dz objs cz j=some (.box c):=by
 have Kw:∀{objs:cw}{k:Key}{o:cP},(∀c,objs k≠some (.box c))->∀j c,objs j=some (.box c)->cl objs k (some o) j=some (.box c):=by
  intro objs k o al j c aI;have:j≠k:=by rintro rfl;exact al c aI
  rw[cV _ _ this];exact aI
 have new:∀{o:cP},objs d=none->∀j c,objs j=some (.box c)->dz objs [(d,o)] j=some (.box c):=by intro o aA;exact Kw (by intro c an;rw[aA]at an;cases an)
 have same:∀{k:Key}{dN o:cP},objs k=some dN->(∀c,dN≠ .box c)->∀j c,objs j=some (.box c)->dz objs [(k,o)] j=some (.box c):=by intro k dN o al cv;exact Kw (by intro c an;rw[al]at an;cases an;exact cv c rfl)
 cases o<;>simp only[ek,reduceCtorEq]at h
 case alloc=>split at h<;>cases h;exact new (by assumption)
 case box=>split at h<;>cases h;exact new (by assumption)
 case buildSlice=>
  split at h
  case h_2=>cases h
  split at h
  case h_2=>cases h
  split at h
  case h_2=>cases h
  split at h<;>cases h;exact new (by assumption)
 case makeSlice=>
  split at h
  case h_2=>cases h
  split at h
  case h_2=>cases h
  split at h
  case h_2=>cases h
  split at h<;>cases h;exact new (by assumption)
 case makeMap=>split at h<;>cases h;exact new (by assumption)
 case store=>exact absurd rfl (h6 _ _ _)
 case mapUpdate=>
  split at h
  case h_2=>cases h
  split at h
  case h_2=>cases h
  split at h
  case isFalse=>cases h
  split at h
  case h_2=>cases h
  split at h
  case h_2=>cases h
  split at h<;>cases h;exact same (by assumption) (by intro c an;cases an)
 case insert=>
  split at h
  case h_2=>cases h
  split at h
  case h_2=>cases h
  split at h
  case isFalse=>cases h
  split at h
  case h_2=>cases h
  split at h
  case h_2=>cases h
  split at h<;>cases h;exact same (by assumption) (by intro c an;cases an)
 case call=>
  split at h
  .split at h
   case h_2=>cases h
   split at h
   case h_2=>cases h
   split at h
   case h_2=>cases h
   split at h
   case h_2=>cases h
   split at h
   case isFalse=>cases h
   split at h;.split at h<;>cases h;exact new (by assumption)
   .split at h
    case h_2=>cases h
    split at h<;>cases h;rename_i aA _ _ _ _ _ _ _ _ _ _ _ _ al _ _;have hl:=same (o:= .dead) (by assumption) (by intro c an;cases an);intro j aY aI;have aa:=hl j aY aI;refine Kw ?_ j aY aa;intro c ao;have cv:∀key x,objs key=some x->d≠key:=by
     rintro key x ah rfl;have ar:objs d=none:=by assumption
     rw[ar]at ah;cases ah
    rw[cV _ _ (cv _ _ (by assumption))]at ao;clear Kw new same hl aa cv
    simp_all
   cases h
  .split at h
   case h_2=>cases h
   split at h
   case h_2=>cases h
   split at h
   case h_2=>cases h
   split at h
   case h_2=>cases h
   split at h
   case isFalse=>cases h
   split at h
   .split at h
    case h_2=>cases h
    split at h<;>cases h;exact same (by assumption) (by intro c an;cases an)
   .split at h
    case h_2=>cases h
    split at h<;>cases h;exact same (by assumption) (by intro c an;cases an)
   cases h
  .split at h
   case h_2=>cases h
   split at h
   case h_2=>cases h
   split at h
   case h_2=>cases h
   split at h
   case h_2=>cases h
   split at h
   case h_2=>cases h
   split at h<;>cases h;exact same (by assumption) (by intro c an;cases an)
  cases h
def ajC{T:cd}{ev:Operand->aS}{objs:cw}{d:Key}{o:Op}{r:aS}{cz:List (Key×cP)}(h:g2 T ev objs d o=some (r,cz))(h6:∀t a x,o≠ .store t a x):∀j c,objs j=some (.box c)->dz objs cz j=some (.box c):=by
 obtain⟨⟨iY,sB⟩,ar,ao⟩:=wq h;have aa:=ajB ar h6;intro j c aI;have ae:=aa j c aI;rcases yu (T.born d) d iY sB with e|⟨n,es,rfl,rfl,e⟩|⟨qa,n,es,rfl,rfl,e⟩|⟨off,cs,aO,rfl,rfl,eF,e⟩
 .rw[ao]at e;cases e;exact ae
 .rw[ao]at e;cases e;by_cases aA:j=d;.subst aA;simp only[dz,eX]at ae;cases ae
  simp only[dz,cV _ _ aA]at ae⊢;exact ae
 .rw[ao]at e;cases e;by_cases aA:j=d;.subst aA;simp only[dz,eX]at ae;cases ae
  simp only[dz,cV _ _ aA]at ae⊢;exact ae
 rw[ao]at e;cases e;have aM:objs d=none:=Xd ar;by_cases aA:j=d
 .subst aA;rw[aM]at aI;cases aI
 simp only[dz,cV _ _ aA];exact aI
section
variable{P:Program}{T:cd}{G:df}{all:Array Oper}
def ajD{y:Oper}{σ:aF}{K K':aF->Prop}(h6:∀t a x,y.op≠ .store t a x)(al:∀objs r,(∀j c,σ.objs j=some (.box c)->objs j=some (.box c))->K (aF.put ⟨σ.aH,objs⟩ y.dst r)->K' (aF.put ⟨σ.aH,objs⟩ y.dst r)) (h:c7 P T G y K σ):c7 P T G y K' σ:=by
 unfold c7 at*;rw[wA]at*;cases aw:res T G σ y with
 |none=>simp only[aw,xbq]at h⊢;exact ED h λr aw=>al σ.objs r (λ_ _ h=>h) aw
 |some p=>
  simp only[aw,xaC]at h⊢;refine al _ _ ?_ h;intro j c aI;obtain⟨r,cz⟩:=p;unfold res at aw;split at aw;.cases aw;exact aI
  split at aw;.cases aw;exact aI
  exact ajC aw h6 j c aI
def XO{t a k off:Nat}{σ:aF}{x:Oper}(ah:x.op= .load t (.tmp a))(aE:σ.aH a= .ptr k off){K:aF->Prop}(h:c7 P T G x K σ): ∃r,K (σ.put x.dst r)/\∀objs,(∀j c,σ.objs j=some (.box c)->objs j=some (.box c))->res T G ⟨σ.aH,objs⟩ x=some (r,[]):=by
 unfold c7 at h;rw[wA]at h;cases aw:res T G σ x with
 |none=>simp only[aw,xbq]at h;unfold jB at h;rw[ah]at h;exact h.elim
 |some p=>
  simp only[aw,xaC]at h;obtain⟨r,cz⟩:=p;unfold res at aw;rw[ah]at aw;simp only[ep,dw,b7,aE,g2,ek,xbq]at aw;cases bb:T t with
  |none=>simp[bb]at aw
  |some i=>
   simp only[bb]at aw;cases al:σ.objs k with
   |none=>simp[al]at aw
   |some o=>
    cases o with
    |box cells=>simp only[al]at aw;cases a1:wb i cells off with|none=>simp[a1]at aw|some q=>simp only[a1,xay,Prod.mk.injEq]at aw;obtain⟨rfl,rfl⟩:=aw;refine⟨q,h,λobjs aL=>?_⟩;unfold res;rw[ah];simp only[ep,dw,b7,aE,bb,aL k cells al,a1]
    |dead=>simp[al]at aw|row=>simp[al]at aw|map=>simp[al]at aw
def XP{x y:Oper}{σ:aF}{K:aF->Prop}{t a k off:Nat}(ah:x.op= .load t (.tmp a))(mE:x.guard=none)(aE:σ.aH a= .ptr k off)(h6:∀t a x,y.op≠ .store t a x)(mB:x.apart all y=true) (h:er P T G all x (λgv=>er P T G all y K gv) σ):er P T G all y (λfT=>er P T G all x K fT) σ:=by
 obtain⟨au,ba,cx⟩:=Oper.apart_spec mB;have oH:∀d,y.dst=some d->x.dst≠some d:=λd aA ah=>ba d ah aA;have kY:∀(K:aF->Prop) σ,er P T G all x K σ=c7 P T G x K σ:=λK σ=>by unfold er;simp only[mE]
 simp only[kY]at h⊢;obtain⟨r,aa,ae⟩:=XO ah aE h;have EU:∀(K:aF->Prop) objs,(∀j c,σ.objs j=some (.box c)->objs j=some (.box c))->c7 P T G x K ⟨σ.aH,objs⟩=K (aF.put ⟨σ.aH,objs⟩ x.dst r):=λK objs aL=>l6 (ae objs aL);rw[hs,oF au]at aa;rw[hs];split at aa
 .rename_i hw
  try simp only[hw]
  rw[jC au ba]at aa;refine ajD h6 (λobjs q aL al=>?_) aa;rw[jC cx oH,EU _ _ aL,put_comm ba];exact al
 .rename_i hw
  try simp only[hw]
  show c7 P T G x K (σ.put y.dst _);rw[jC cx oH];have:=EU (λaX=>K (aX.put y.dst (.d (.val (.tuple #[]))))) σ.objs (λ_ _ h=>h);have e:c7 P T G x (λaX=>K (aX.put y.dst (.d (.val (.tuple #[]))))) σ=K ((σ.put x.dst r).put y.dst (.d (.val (.tuple #[])))):=this;rw[e];exact aa
 exact aa.elim
def ajE{y:Oper}{σ:aF}{K:aF->Prop}{a:Nat}(aA:y.dst≠some a)(h:er P T G all y K σ):er P T G all y (λaX=>aX.aH a=σ.aH a/\K aX) σ:=by
 have a1:∀(objs:cw)(r:aS),(aF.put ⟨σ.aH,objs⟩ y.dst r).aH a=σ.aH a:=λobjs r=>by
  cases aK:y.dst with
  |none=>rfl
  |some d=>
   have:a≠d:=by rintro rfl;exact aA aK
   simp only[aF.put,cV _ _ this]
 rw[hs]at h⊢;split at h
 .rename_i hw
  try simp only[hw]
  exact wC (λobjs r al=>⟨a1 objs r,al⟩) h
 .rename_i hw
  try simp only[hw]
  exact⟨a1 σ.objs _,h⟩
 exact h.elim
def ajF{K:aF->Prop}{i:Nat}{fc:Oper}{t a k off:Nat}(aj:all[i]?=some fc)(ah:fc.op= .load t (.tmp a))(mE:fc.guard=none){B:List Nat}(gN:∀j c3,j∈B->all[j]?=some c3->∃e∈c3.after,Region.binds .any e=true/\(e.on=i\/e.on∈B)):∀(fuel:Nat)(listed:Array Bool)(σ:aF),σ.aH a= .ptr k off->(∀j,j∈B->listed.getD j true=false)->(∀j c3,all[j]?=some c3->j≠i->listed.getD j true=false->j∉B->fc.apart all c3=true/\∀t a x,c3.op≠ .store t a x)->i∈Region.ready .any all listed->hK P T G all i (jl P T G all K fuel (listed.setIfInBounds i true)) σ->jl P T G all K (fuel+1) listed σ:=by
 intro fuel
 induction fuel with
 |zero=>
  intro listed σ cI q9 oI aw H;refine⟨λh=>(by rw[h]at aw;cases aw),λj aI=>?_⟩;by_cases jm:j=i;.subst jm;exact H
  have hm:=ready_mono aI jm;exfalso;have key:Region.ready .any all (listed.setIfInBounds i true)=[]:=by unfold hK at H;simp only[aj]at H;unfold er at H;simp only[mE]at H;obtain⟨r,aa,_⟩:=XO ah cI H;exact aa.1
  rw[key]at hm;cases hm
 |succ fuel ih=>
  intro listed σ cI q9 oI aw H;refine⟨λh=>(by rw[h]at aw;cases aw),λj aI=>?_⟩;by_cases jm:j=i;.subst jm;exact H
  obtain⟨wE,c3,jn,gq⟩:=xbJ.1 aI;have uh:∀k,listed.getD k true=false->listed[k]?.getD false=true->False:=λk ar aa=>by
   rcases Nat.lt_or_ge k listed.size with bD|bD;.simp[bD]at ar aa;rw[ar]at aa;cases aa
   simp[Array.getElem?_eq_none bD]at aa
  have wF:j∉B:=λEM=>by
   obtain⟨e,he,ao,mD⟩:=gN j c3 EM jn;have aa:=gq e he ao;rcases mD with mD|mD
   .rw[mD]at aa;exact uh i (xbJ.1 aw).1 (by simpa using aa)
   exact uh _ (q9 _ mD) (by simpa using aa)
  obtain⟨eQ,ez⟩:=oI j c3 jn jm wE wF;have aa:hK P T G all i (λgv=>hK P T G all j (jl P T G all K fuel ((listed.setIfInBounds i true).setIfInBounds j true)) gv) σ:=wD (λgv ur=>ur.2 j (ready_mono aI jm)) H;have Pz:c3.dst≠some a:=λaA=>by obtain⟨_,_,cx⟩:=Oper.apart_spec eQ;refine cx a aA ?_;unfold Oper.looksAt;rw[ah];simp[Op.operands]
  have ae:hK P T G all j (λfT=>fT.aH a=σ.aH a/\hK P T G all i (jl P T G all K fuel ((listed.setIfInBounds i true).setIfInBounds j true)) fT) σ:=by unfold hK at aa⊢;simp only[aj,jn]at aa⊢;exact ajE Pz (XP ah mE cI ez eQ aa)
  have EN:∀k ok,all[k]?=some ok->k≠i->(listed.setIfInBounds j true).getD k true=false->k∉B->fc.apart all ok=true/\∀t a x,ok.op≠ .store t a x:=λk ok al ra oJ h6=>by
   refine oI k ok al ra ?_ h6;by_cases gu:j=k;.subst gu;exact wE
   rw[getD_set_ne true gu]at oJ;exact oJ
  refine wD (λfT ay=>ih (listed.setIfInBounds j true) fT (ay.1.trans cI) (λk al=>by
   have gu:j≠k:=by rintro rfl;exact wF al
   rw[getD_set_ne true gu];exact q9 k al) EN (ready_mono aw (Ne.symm jm)) ?_) ae
  rw[Array.setIfInBounds_comm _ _ jm];exact ay.2
end
section
variable{P:Program}{T:cd}{G:df}{all:Array Oper}
def BT:aS->Option Key
 | .ptr k _=>some k| .gp k _ _ _=>some k|_=>none
def keyOf(aH:Nat->aS):Operand->Option Key
 | .tmp a=>BT (aH a)|_=>none
theorem PA{aH:Nat->aS}(x:Operand):BT (b7 G aH x)=keyOf aH x:=by cases x with|tmp a=>rfl|const v=>rfl|func f=>rfl|global g=>simp only[b7,keyOf];split<;>rfl
def uz(aH:Nat->aS):Operand->Bool
 | .tmp a=>match aH a with| .d _=>true|_=>false
 | .const _=>true|_=>false
def uA(aH:Nat->aS)(k:Key):Op->Bool
 | .store _ a _=>match keyOf aH a with|some br=>br !=k|none=>false
 |_=>false
def Kx:Op->Bool
 | .store _ _ _=>true|_=>false
def EV(aH:Nat->aS):Operand->Bool
 | .tmp a=>match aH a with| .ptr _ _=>true|_=>false
 |_=>false
def ajG:aS->Bool
 | .d _=>true| .dV _ _=>true|_=>false
def qj(aH:Nat->aS):Operand->Bool
 | .tmp a=>ajG (aH a)|_=>false
def uB(aH:Nat->aS):Op->Bool
 | .load _ a=>qj aH a| .indexAddr _ x _=>qj aH x| .lookup _ m _ _=>qj aH m| .slice _ x _ _ none=>qj aH x| .call ⟨.builtin .len,args,_⟩=>args.toList.all (qj aH)|_=>false
def sK(aH:Nat->aS)(x y:Oper):Bool:=pass x y||uB aH x.op||match x.op with
 | .binOp _ _ a b _=>uz aH a&&uz aH b| .load _ a=>match keyOf aH a with|some k=>(EV aH a&&!Kx y.op)||iG y.op||jk y.op||hk y.op||uA aH k y.op|none=>false
 | .indexAddr _ _ _=>iG y.op||jk y.op||hk y.op||Kx y.op| .store _ a _=>match keyOf aH a with|some k=>uA aH k y.op|none=>false
 |_=>false
def PB(k:Key)(o o':cw):Prop:=o' k=o k
def BU(o o':cw):Prop:=∀k n es,o k=some (.row n es)->∃gE,o' k=some (.row n gE)/\gE.length=es.length
def ajH{y:Oper}{σ:aF}{K K':aF->Prop}{e8:cw->Prop}(ar:e8 σ.objs)(hQ:∀r cz,res T G σ y=some (r,cz)->e8 (dz σ.objs cz))(al:∀objs r,e8 objs->K (aF.put ⟨σ.aH,objs⟩ y.dst r)->K' (aF.put ⟨σ.aH,objs⟩ y.dst r)) (h:c7 P T G y K σ):c7 P T G y K' σ:=by unfold c7 at*;rw[wA]at*;cases aw:res T G σ y with|none=>simp only[aw,xbq]at h⊢;exact ED h λr aw=>al σ.objs r ar aw|some p=>simp only[aw,xaC]at h⊢;obtain⟨r,cz⟩:=p;exact al _ _ (hQ r cz aw) h
def XQ{σ:aF}{y:Oper}(h:(iG y.op||jk y.op||hk y.op)=true){r:aS}{cz:List (Key×cP)}(aw:res T G σ y=some (r,cz)):cz=[]:=by
 unfold res at aw;split at aw;.cases aw;rfl
 split at aw;.cases aw;rfl
 simp only[xbb]at h;rcases h with(h|h)|h
 .rw[(BG h).2]at aw;cases aw
 .rw[BH h]at aw;cases aw
 rw[(Pk (T:=T) (ev:=b7 G σ.aH) (objs:=σ.objs) (d:=y.dst.getD 9999) h).2.2]at aw;cases aw
def PC{σ:aF}{y:Oper}{t:TypeId}{a x:Operand}(aK:y.op= .store t a x){r:aS}{cz:List (Key×cP)}(aw:res T G σ y=some (r,cz)): ∃k o o',keyOf σ.aH a=some k/\cz=[(k,o')]/\σ.objs k=some o/\((∃c ji,o= .box c/\o'= .box ji)\/∃n es gE,o= .row n es/\o'= .row n gE/\gE.length=es.length):=by
 rw[<-PA (G:=G)];unfold res at aw;rw[aK]at aw;simp only[ep,dw,W3,ek]at aw;split at aw
 case h_2=>cases aw
 split at aw
 case isFalse=>cases aw
 split at aw
 .rename_i k off he;split at aw
  case h_2=>cases aw
  rename_i cells aL;split at aw<;>cases aw;exact⟨k,_,_,by rw[he];rfl,rfl,aL,.inl ⟨_,_,rfl,rfl⟩⟩
 .rename_i k cN fg off he;split at aw
  case h_2=>cases aw
  rename_i br es aO aL aA;split at aw
  case isFalse=>cases aw
  rename_i an;split at aw<;>cases aw;exact⟨k,_,_,by rw[he];rfl,rfl,aL,.inr ⟨cN,es,_,by rw[an.1],rfl,by simp⟩⟩
 cases aw
def EW{objs:cw}{k:Key}{o:cP}(j:Key):dz objs [(k,o)] j=if j=k then some o else objs j:=by
 by_cases h:j=k;.subst h;simp[dz,eX]
 simp[dz,cV _ _ h,h]
def ajI{σ:aF}{y:Oper}{k:Key}(h:(iG y.op||jk y.op||hk y.op||uA σ.aH k y.op)=true){r:aS}{cz:List (Key×cP)}(aw:res T G σ y=some (r,cz)):PB k σ.objs (dz σ.objs cz):=by
 rcases xbB.1 h with h|h;.rw[XQ h aw];rfl
 unfold uA at h;split at h
 case h_2=>cases h
 rename_i t a x aK;obtain⟨br,o,o',aa,rfl,ae,_⟩:=PC aK aw;rw[aa]at h;simp only[bne_iff_ne,ne_eq]at h;show dz σ.objs [(br,o')] k=σ.objs k;rw[EW,xac (λe=>h e.symm)]
theorem BU.refl(o:cw):BU o o:=λk n es h=>⟨es,h,rfl⟩
def ajJ{σ:aF}{y:Oper}(h:(iG y.op||jk y.op||hk y.op||Kx y.op)=true){r:aS}{cz:List (Key×cP)}(aw:res T G σ y=some (r,cz)):BU σ.objs (dz σ.objs cz):=by
 rcases xbB.1 h with h|h;.rw[XQ h aw];exact BU.refl _
 unfold Kx at h;split at h
 case h_2=>cases h
 rename_i t a x aK;obtain⟨br,o,o',aa,rfl,ae,ay⟩:=PC aK aw;intro k n es al;rw[EW];by_cases e:k=br
 .subst e;rw[xaa rfl];rw[ae]at al;rcases ay with⟨c,ji,rfl,rfl⟩|⟨m,aCd,ajK,rfl,rfl,aq⟩
  .cases al
  cases al;exact⟨ajK,rfl,aq⟩
 rw[xac e];exact⟨es,al,rfl⟩
def Looks(T:cd)(G:df)(x:Oper)(aH:Nat->aS)(o:cw)(e8:cw->Prop):Prop:=∀r cz,res T G ⟨aH,o⟩ x=some (r,cz)->cz=[]/\∀o',e8 o'->res T G ⟨aH,o'⟩ x=some (r,[])
def Ky{x y:Oper}{σ:aF}{K:aF->Prop}{e8:cw->Prop}(mE:x.guard=none)(EF:hk x.op=false)(mB:x.apart all y=true)(aq:Looks T G x σ.aH σ.objs e8)(ar:e8 σ.objs)(hQ:∀r cz,res T G σ y=some (r,cz)->e8 (dz σ.objs cz)) (h:er P T G all x (λgv=>er P T G all y K gv) σ):er P T G all y (λfT=>er P T G all x K fT) σ:=by
 obtain⟨au,ba,cx⟩:=Oper.apart_spec mB;have oH:∀d,y.dst=some d->x.dst≠some d:=λd aA ah=>ba d ah aA;have kY:∀(K:aF->Prop) σ,er P T G all x K σ=c7 P T G x K σ:=λK σ=>by unfold er;simp only[mE]
 simp only[kY]at h⊢;have ud:res T G σ x≠none:=by intro aM;rw[nG aM]at h;have:=yx h;rw[EF]at this;cases this
 obtain⟨p,a1⟩:=Option.ne_none_iff_exists'.1 ud;obtain⟨r,cz⟩:=p;obtain⟨rfl,ae⟩:=aq r cz a1;have aa:er P T G all y K (σ.put x.dst r):=by rw[l6 a1]at h;exact h
 have EU:∀(K:aF->Prop) objs,e8 objs->c7 P T G x K ⟨σ.aH,objs⟩=K (aF.put ⟨σ.aH,objs⟩ x.dst r):=λK objs aL=>l6 (ae objs aL);rw[hs,oF au]at aa;rw[hs];split at aa
 .rename_i hw
  try simp only[hw]
  rw[jC au ba]at aa;refine ajH ar hQ (λobjs q aL al=>?_) aa;rw[jC cx oH,EU _ _ aL,put_comm ba];exact al
 .rename_i hw
  try simp only[hw]
  show c7 P T G x K (σ.put y.dst _);rw[jC cx oH];have e:c7 P T G x (λaX=>K (aX.put y.dst (.d (.val (.tuple #[]))))) σ=K ((σ.put x.dst r).put y.dst (.d (.val (.tuple #[])))):=EU (λaX=>K (aX.put y.dst (.d (.val (.tuple #[]))))) σ.objs ar;rw[e];exact aa
 exact aa.elim
def XR{aH:Nat->aS}{x:Operand}(h:uz aH x=true):∃d,b7 G aH x= .d d:=by
 unfold uz at h;split at h
 .split at h;.rename_i d aA;exact⟨d,aA⟩
  cases h
 .exact⟨_,rfl⟩
 cases h
def ajL(o o':cw)(x:D):mz o (.d x)=mz o' (.d x):=by
 unfold mz;split<;>first|rfl|(rename_i h;cases h)|skip
 all_goals rfl
def EX{aH:Nat->aS}{x:Operand}(h:qj aH x=true):(∃d,b7 G aH x= .d d)\/∃cs off,b7 G aH x= .dV cs off:=by
 cases x with
 |tmp a=>simp only[qj]at h;show(∃d,aH a= .d d)\/∃cs off,aH a= .dV cs off;generalize aH a=v at h;cases v<;>first|exact .inl ⟨_,rfl⟩|exact .inr ⟨_,_,rfl⟩|cases h
 |_=>cases h
def XS(o o':cw)(x:D):j3 o (.d x)=j3 o' (.d x):=by
 unfold j3;split<;>first|rfl|(rename_i h;cases h)|skip
 all_goals rfl
theorem ajM(o o':cw)(cs:List D)(off:Nat):j3 o (.dV cs off)=j3 o' (.dV cs off):=rfl
def ajN{aH:Nat->aS}{op:Op}(h:uB aH op=true)(o o':cw):dw T (b7 G aH) o op=dw T (b7 G aH) o' op:=by
 cases op<;>simp only[uB,xan]at h
 case load t a=>rcases EX (G:=G) h with⟨d,e⟩|⟨cs,off,e⟩<;>simp only[dw,e]
 case indexAddr t x i=>
  rcases EX (G:=G) h with⟨d,e⟩|⟨cs,off,e⟩;.simp only[dw,e];cases d<;>rfl
  simp only[dw,e]
 case lookup t m k ok=>
  rcases EX (G:=G) h with⟨d,e⟩|⟨cs,off,e⟩
  .simp only[dw,e];split
   .cases d<;>first|rfl|skip
    rename_i v;cases v<;>first|rfl|skip
    rename_i q;cases q<;>rfl
   rfl
  simp only[dw,e]
 case slice t x lo aj fR=>
  cases fR with
  |some _=>cases h
  |none=>
   simp only at h;rcases EX (G:=G) h with⟨d,e⟩|⟨cs,off,e⟩
   .simp only[dw,e,XS o o' d];cases d<;>rfl
   simp only[dw,e,ajM o o' cs off]
 case call c=>
  obtain⟨callee,args,dA⟩:=c;cases callee with
  |value=>rfl|invoke=>rfl
  |builtin b=>
   cases b<;>first|rfl|skip
   simp only at h;simp only[dw];split
   .rename_i t x aP a2;rw[a2]at h;simp only[xaV,xbT,xbl]at h;rcases EX (G:=G) h with⟨d,e⟩|⟨cs,off,e⟩
    .simp only[e];cases bb:T t with
     |none=>rfl
     |some i=>
      obtain⟨aO,s,b,z⟩:=i;cases aO
      case map k q=>
       cases d
       case val v=>
        cases v
        case map r=>cases r<;>rfl
        all_goals rfl
       all_goals rfl
      case slice q=>simp only[XS o o' d]
      case string=>
       cases d
       case val v=>cases v<;>rfl
       all_goals rfl
      all_goals rfl
    simp only[e];cases bb:T t with|none=>rfl|some i=>obtain⟨aO,s,b,z⟩:=i;cases aO<;>rfl
   rfl
def XT{aH:Nat->aS}{op:Op}(h:uB aH op=true):jk op=true:=by
 cases op<;>simp only[uB,xan]at h<;>first|rfl|skip
 case call c=>
  obtain⟨callee,args,dA⟩:=c;cases callee with
  |value=>cases h
  |invoke=>cases h
  |builtin b=>cases b<;>first|rfl|cases h
def ajO{x:Oper}{aH:Nat->aS}{o:cw}(h:uB aH x.op=true):Looks T G x aH o (λ_=>True):=by
 intro r cz aw;have hm:=XT h;unfold res at aw;split at aw
 .rename_i u hu;cases aw;refine⟨rfl,λo' _=>?_⟩;unfold res;simp only[hu]
 rename_i a1;split at aw;.rename_i u hu;cases aw;refine⟨rfl,λo' _=>?_⟩;unfold res;simp only at hu;simp only[a1,ajN h o' o,hu]
 rw[BH hm]at aw;cases aw
def ajP{x:Oper}{op:BinOp}{t:TypeId}{a b:Operand}{q:TypeId}(ah:x.op= .binOp op t a b q){aH:Nat->aS}{o:cw}(aG:uz aH a=true)(ao:uz aH b=true):Looks T G x aH o (λ_=>True):=by
 intro r cz aw;obtain⟨d1,aP⟩:=XR (G:=G) aG;obtain⟨d2,a2⟩:=XR (G:=G) ao;unfold res at aw;rw[ah]at aw;cases a1:ep T (b7 G aH) (.binOp op t a b q)with
 |some u=>rw[a1]at aw;cases aw;refine⟨rfl,λo' _=>?_⟩;unfold res;rw[ah,a1]
 |none=>
  rw[a1]at aw;simp only at aw;have hm:∀o',dw T (b7 G aH) o' (.binOp op t a b q)=dw T (b7 G aH) o (.binOp op t a b q):=by intro o';simp only[dw,aP,a2,ajL o' o]
  cases hg:dw T (b7 G aH) o (.binOp op t a b q)with
  |some u=>rw[hg]at aw;cases aw;refine⟨rfl,λo' _=>?_⟩;unfold res;rw[ah,a1];simp only[hm o',hg]
  |none=>rw[hg]at aw;simp[g2,ek]at aw
def ajQ{x:Oper}{t:TypeId}{a:Operand}{k:Key}(ah:x.op= .load t a){aH:Nat->aS}{o:cw}(aG:keyOf aH a=some k):Looks T G x aH o (PB k o):=by
 intro r cz aw;have he:BT (b7 G aH a)=some k:=by rw[PA];exact aG
 unfold res at aw;rw[ah]at aw;simp only[ep]at aw;have hm:∀o',o' k=o k->dw T (b7 G aH) o' (.load t a)=dw T (b7 G aH) o (.load t a):=by
  intro o' aL;simp only[dw];generalize b7 G aH a=v at he⊢;cases v<;>simp only[BT,reduceCtorEq,xay]at he;.subst he;simp only[aL]
  subst he;simp only[aL]
 cases hg:dw T (b7 G aH) o (.load t a)with
 |some u=>rw[hg]at aw;cases aw;refine⟨rfl,λo' aL=>?_⟩;unfold res;rw[ah];simp only[ep,hm o' aL,hg]
 |none=>rw[hg]at aw;simp[g2,ek]at aw
def ajR{x:Oper}{t:TypeId}{a b:Operand}(ah:x.op= .indexAddr t a b){aH:Nat->aS}{o:cw}:Looks T G x aH o (BU o):=by
 intro r cz aw;unfold res at aw;rw[ah]at aw;simp only[ep]at aw;cases hg:dw T (b7 G aH) o (.indexAddr t a b)with
 |some u=>
  rw[hg]at aw;cases aw;refine⟨rfl,λo' aL=>?_⟩;have hm:dw T (b7 G aH) o' (.indexAddr t a b)=some r:=by
   simp only[dw]at hg⊢;split at hg
   .split at hg
    .split at hg
     .rename_i aM;rw[xaa aM];split at hg<;>first|exact hg|skip
      rename_i key aN;cases al:o key with
      |none=>rw[al]at hg;cases hg
      |some h3=>
       cases h3 with
       |row k es=>obtain⟨gE,aa,ae⟩:=aL key k es al;rw[al]at hg;rw[aa];simp only[ae]at hg⊢;exact hg
       |dead=>rw[al]at hg;cases hg
       |box=>rw[al]at hg;cases hg
       |map=>rw[al]at hg;cases hg
     cases hg
    cases hg
   .exact hg
   cases hg
  unfold res;rw[ah];simp only[ep,hm]
 |none=>rw[hg]at aw;simp[g2,ek]at aw
def ajS{o:cw}{k br:Key}{a b:cP}(h:k≠br):dz (dz o [(k,a)]) [(br,b)]=dz (dz o [(br,b)]) [(k,a)]:=by
 funext j
 simp only[EW];by_cases aa:j=k<;>by_cases ae:j=br<;>simp_all
def XU{y:Oper}{t:TypeId}{a x:Operand}{k:Key}(aK:y.op= .store t a x){aH:Nat->aS}{o o':cw}(aG:keyOf aH a=some k)(aL:o' k=o k):res T G ⟨aH,o'⟩ y=res T G ⟨aH,o⟩ y:=by
 have he:BT (b7 G aH a)=some k:=by rw[PA];exact aG
 unfold res;rw[aK];simp only[ep,dw,W3,ek];generalize b7 G aH a=v at he⊢;cases v<;>simp only[BT,reduceCtorEq,xay]at he;.subst he;simp only[aL]
 subst he;simp only[aL]
def ajT{x y:Oper}{σ:aF}{K:aF->Prop}{t t':TypeId}{a cK v kl:Operand}{k br:Key}(ah:x.op= .store t a v)(aK:y.op= .store t' cK kl)(aG:keyOf σ.aH a=some k)(EY:keyOf σ.aH cK=some br)(cv:br≠k) (mE:x.guard=none) (mB:x.apart all y=true) (h:er P T G all x (λgv=>er P T G all y K gv) σ):er P T G all y (λfT=>er P T G all x K fT) σ:=by
 obtain⟨au,ba,cx⟩:=Oper.apart_spec mB;have oH:∀d,y.dst=some d->x.dst≠some d:=λd aA ah=>ba d ah aA;have kY:∀(K:aF->Prop) σ,er P T G all x K σ=c7 P T G x K σ:=λK σ=>by unfold er;simp only[mE]
 simp only[kY]at h⊢;have XV:∀{z:Oper}{tt:TypeId}{p q:Operand}{τ:aF}{K':aF->Prop},z.op= .store tt p q->c7 P T G z K' τ->∃r cE gk,res T G τ z=some (r,[(cE,gk)])/\keyOf τ.aH p=some cE/\K' (τ.step z.dst r [(cE,gk)]):=by
  intro z tt p q τ K' bP bA;cases aw:res T G τ z with
  |none=>rw[nG aw]at bA;have:=yx bA;rw[bP]at this;cases this
  |some u=>obtain⟨r,cz⟩:=u;obtain⟨cE,o,gk,bV,rfl,_,_⟩:=PC bP aw;exact⟨r,cE,gk,rfl,bV,by rw[l6 aw]at bA;exact bA⟩
 obtain⟨r,cE,gk,bV,bN,cC⟩:=XV ah h;rw[aG]at bN;cases bN;have yL:er P T G all y K (aF.put ⟨σ.aH,dz σ.objs [(k,gk)]⟩ x.dst r):=cC;have XW:∀(l9:cw),l9 k=σ.objs k->∀K':aF->Prop,c7 P T G x K' ⟨σ.aH,l9⟩=K' (aF.put ⟨σ.aH,dz l9 [(k,gk)]⟩ x.dst r):=by
  intro l9 aL K';have:res T G ⟨σ.aH,l9⟩ x=some (r,[(k,gk)]):=by rw[XU ah aG aL];exact bV
  exact l6 this
 rw[hs,oF au]at yL;rw[hs];have ajU:jN all ⟨σ.aH,dz σ.objs [(k,gk)]⟩ y=jN all σ y:=rfl;rw[ajU]at yL;split at yL
 .rename_i hw
  try simp only[hw]
  rw[jC au ba]at yL;obtain⟨fh,eb,l9,eQ,ez,ho⟩:=XV aK yL;have XX:keyOf σ.aH cK=some eb:=ez;rw[EY]at XX;cases XX;have ajV:res T G σ y=some (fh,[(br,l9)]):=by rw[<-eQ];exact(XU (T:=T) (G:=G) aK (o:=σ.objs) (o':=dz σ.objs [(k,gk)]) EY (by rw[EW,xac cv])).symm
  rw[l6 ajV];show c7 P T G x K (aF.put ⟨σ.aH,dz σ.objs [(br,l9)]⟩ y.dst fh);rw[jC cx oH,XW _ (by rw[EW,xac (λe=>cv e.symm)]),put_comm ba,ajS cv];exact ho
 .rename_i hw
  try simp only[hw]
  show c7 P T G x K (σ.put y.dst _);rw[jC cx oH];have e:=XW σ.objs rfl (λaX=>K (aX.put y.dst (.d (.val (.tuple #[])))));have dq:c7 P T G x (λaX=>K (aX.put y.dst (.d (.val (.tuple #[]))))) σ=_:=e;rw[dq];exact yL
 exact yL.elim
def ajW{x y:Oper}{σ:aF}{K:aF->Prop}(mE:x.guard=none)(mB:x.apart all y=true)(h:sK σ.aH x y=true)(H:er P T G all x (λgv=>er P T G all y K gv) σ):er P T G all y (λfT=>er P T G all x K fT) σ:=by
 unfold sK at h;rcases xbB.1 h with h|h
 .rcases xbB.1 h with h|h;.exact swap mB h H
  refine Ky mE ?_ mB (ajO h) trivial (λ_ _ _=>trivial) H;cases an:hk x.op with|false=>rfl|true=>have:=EC an;rw[XT h]at this;cases this.2.1
 split at h;.rename_i op t a b q ah;rw[xak]at h;exact Ky mE (by rw[ah];rfl) mB (ajP ah h.1 h.2) trivial (λ_ _ _=>trivial) H
 .rename_i t a ah;split at h
  case h_2=>cases h
  rename_i k al;simp only[xbb]at h;have other:(iG y.op||jk y.op||hk y.op||uA σ.aH k y.op)=true->er P T G all y (λfT=>er P T G all x K fT) σ:=λbD=>Ky mE (by rw[ah];rfl) mB (ajQ ah al) (rfl:PB k σ.objs σ.objs) (λ_ _ aw=>ajI bD aw) H
  rcases h with(((h|h)|h)|h)|h
  .rw[xak]at h;obtain⟨aa,ae⟩:=h;unfold EV at aa;split at aa
   case h_2=>cases aa
   rename_i ad;split at aa
   case h_2=>cases aa
   rename_i BV off aE;refine XP ah mE aE ?_ mB H;intro t' cK kl he;rw[he]at ae;cases ae
  .exact other (by simp[h])
  .exact other (by simp[h])
  .exact other (by simp[h])
  exact other (by simp[h])
 .rename_i t a b ah;exact Ky mE (by rw[ah];rfl) mB (ajR ah) (BU.refl _) (λ_ _ aw=>ajJ h aw) H
 .rename_i t a v ah;split at h
  case h_2=>cases h
  rename_i k al;unfold uA at h;split at h
  case h_2=>cases h
  rename_i t' cK kl aK;split at h
  case h_2=>cases h
  rename_i br fF;exact ajT ah aK al fF (by simpa using h) mE mB H
 cases h
def mF:Op->List Tmp
 | .binOp _ _ a b _=>(match a with| .tmp t=>[t]|_=>[])++(match b with| .tmp t=>[t]|_=>[])
 | .load _ (.tmp a)=>[a]| .store _ (.tmp a) _=>[a]| .indexAddr _ (.tmp a) _=>[a]| .lookup _ (.tmp a) _ _=>[a]| .slice _ (.tmp a) _ _ _=>[a]| .call ⟨.builtin .len,args,_⟩=>args.toList.filterMap λx=>match x with| .tmp t=>some t|_=>none
 |_=>[]
def uC:Op->List Tmp
 | .store _ (.tmp a) _=>[a]|_=>[]
theorem PD{s s':Nat->aS}{x:Operand}(h:∀t,x= .tmp t->s t=s' t):keyOf s x=keyOf s' x:=by cases x with|tmp t=>simp only[keyOf,h t rfl]|_=>rfl
theorem XY{s s':Nat->aS}{x:Operand}(h:∀t,x= .tmp t->s t=s' t):uz s x=uz s' x:=by cases x with|tmp t=>simp only[uz,h t rfl]|_=>rfl
theorem ajX{s s':Nat->aS}{x:Operand}(h:∀t,x= .tmp t->s t=s' t):EV s x=EV s' x:=by cases x with|tmp t=>simp only[EV,h t rfl]|_=>rfl
def ajY{s s':Nat->aS}{x y:Oper}(h:∀t,t∈mF x.op\/t∈uC y.op->s t=s' t):sK s x y=sK s' x y:=by
 have aK:∀k,uA s k y.op=uA s' k y.op:=by
  intro k;unfold uA;split;.rename_i t a v he;rw[PD (s:=s) (s':=s') (x:=a) (λq bQ=>h q (.inr (by rw[he,bQ];simp[uC])))]
  rfl
 have aA:uB s x.op=uB s' x.op:=by
  have ah:∀t,t∈mF x.op->s t=s' t:=λt aJ=>h t (.inl aJ);generalize x.op=op at ah;have one:∀a:Operand,(∀t,a= .tmp t->t∈mF op)->qj s a=qj s' a:=by intro a aG;cases a with|tmp t=>simp only[qj,ah t (aG t rfl)]|_=>rfl
  cases op<;>simp only[uB]
  case load t a=>exact one a (by rintro t rfl;simp[mF])
  case indexAddr t a i=>exact one a (by rintro t rfl;simp[mF])
  case lookup t a k ok=>exact one a (by rintro t rfl;simp[mF])
  case slice t a lo aj fR=>
   cases fR with
   |none=>exact one a (by rintro t rfl;simp[mF])
   |some _=>rfl
  case call c=>
   obtain⟨callee,args,dA⟩:=c;cases callee with
   |value=>rfl|invoke=>rfl
   |builtin b=>
    cases b<;>first|rfl|skip
    simp only;rw[Bool.eq_iff_iff,xas,xas];have aG:∀a∈args.toList,qj s a=qj s' a:=λa aG=>one a (by rintro t rfl;simp only[mF,List.mem_filterMap];exact⟨_,aG,rfl⟩);exact⟨λh a hm=>by rw[<-aG a hm];exact h a hm,λh a hm=>by rw[aG a hm];exact h a hm⟩
 unfold sK;rw[aA]
 congr 1
 split;.rename_i op t a b q ah;have aG:∀t,a= .tmp t->s t=s' t:=λt aJ=>h t (.inl (by rw[ah,aJ];simp[mF]));have ao:∀t,b= .tmp t->s t=s' t:=λt aJ=>h t (.inl (by rw[ah,aJ];simp[mF]));rw[XY aG,XY ao]
 .rename_i t a ah;have aG:∀t,a= .tmp t->s t=s' t:=λt aJ=>h t (.inl (by rw[ah,aJ];simp[mF]));rw[PD aG,ajX aG];split
  .rw[aK]
  rfl
 .rfl
 .rename_i t a v ah;have aG:∀t,a= .tmp t->s t=s' t:=λt aJ=>h t (.inl (by rw[ah,aJ];simp[mF]));rw[PD aG];split
  .rw[aK]
  rfl
 rfl
def ajZ{y:Oper}{σ:aF}{K:aF->Prop}{L:List Tmp}(aA:∀a∈L,y.dst≠some a)(h:er P T G all y K σ):er P T G all y (λaX=>(∀a∈L,aX.aH a=σ.aH a)/\K aX) σ:=by
 have a1:∀(objs:cw)(r:aS),∀a∈L,(aF.put ⟨σ.aH,objs⟩ y.dst r).aH a=σ.aH a:=λobjs r a aG=>by
  cases aK:y.dst with
  |none=>rfl
  |some d=>
   have:a≠d:=by rintro rfl;exact aA a aG aK
   simp only[aF.put,cV _ _ this]
 rw[hs]at h⊢;split at h
 .rename_i hw
  try simp only[hw]
  exact wC (λobjs r al=>⟨a1 objs r,al⟩) h
 .rename_i hw
  try simp only[hw]
  exact⟨a1 σ.objs _,h⟩
 exact h.elim
def aj0{x:Oper}{σ:aF}{p:Prop}(h:er P T G all x (λ_=>p) σ):p:=by
 rw[hs]at h;split at h
 .unfold c7 at h;split at h;.exact h
  unfold jB at h;split at h
  .split at h;.obtain⟨_,_,_,_,_,_,⟨r,mC⟩,_,q⟩:=h;exact q r (by rw[mC])
   exact h.elim
  exact h.elim
 .exact h
 exact h.elim
def aj1{K:aF->Prop}{i:Nat}{fc:Oper}(aj:all[i]?=some fc)(mE:fc.guard=none){B:List Nat}(gN:∀j c3,j∈B->all[j]?=some c3->∃e∈c3.after,Region.binds .any e=true/\(e.on=i\/e.on∈B)){s0:Nat->aS}{L:List Tmp}(aj2:∀t∈mF fc.op,t∈L): ∀(fuel:Nat)(listed:Array Bool)(σ:aF),(∀t∈L,σ.aH t=s0 t)->(∀j,j∈B->listed.getD j true=false)->(∀j c3,all[j]?=some c3->j≠i->listed.getD j true=false->j∉B->fc.apart all c3=true/\sK s0 fc c3=true/\(∀t∈L,c3.dst≠some t)/\∀t∈uC c3.op,t∈L)->i∈Region.ready .any all listed->hK P T G all i (jl P T G all K fuel (listed.setIfInBounds i true)) σ->jl P T G all K (fuel+1) listed σ:=by
 intro fuel
 induction fuel with
 |zero=>
  intro listed σ cI q9 oI aw H;refine⟨λh=>(by rw[h]at aw;cases aw),λj aI=>?_⟩;by_cases jm:j=i;.subst jm;exact H
  have hm:=ready_mono aI jm;exfalso;have key:Region.ready .any all (listed.setIfInBounds i true)=[]:=by have PE:=wD (K':=λ_=>Region.ready .any all (listed.setIfInBounds i true)=[]) (λaX bD=>bD.1) H;unfold hK at PE;simp only[aj]at PE;exact aj0 PE
  rw[key]at hm;cases hm
 |succ fuel ih=>
  intro listed σ cI q9 oI aw H;refine⟨λh=>(by rw[h]at aw;cases aw),λj aI=>?_⟩;by_cases jm:j=i;.subst jm;exact H
  obtain⟨wE,c3,jn,gq⟩:=xbJ.1 aI;have uh:∀k,listed.getD k true=false->listed[k]?.getD false=true->False:=λk ar aa=>by
   rcases Nat.lt_or_ge k listed.size with bD|bD;.simp[bD]at ar aa;rw[ar]at aa;cases aa
   simp[Array.getElem?_eq_none bD]at aa
  have wF:j∉B:=λEM=>by
   obtain⟨e,he,ao,mD⟩:=gN j c3 EM jn;have aa:=gq e he ao;rcases mD with mD|mD
   .rw[mD]at aa;exact uh i (xbJ.1 aw).1 (by simpa using aa)
   exact uh _ (q9 _ mD) (by simpa using aa)
  obtain⟨eQ,ez,ho,sH⟩:=oI j c3 jn jm wE wF;have aa:hK P T G all i (λgv=>hK P T G all j (jl P T G all K fuel ((listed.setIfInBounds i true).setIfInBounds j true)) gv) σ:=wD (λgv ur=>ur.2 j (ready_mono aI jm)) H;have ae:hK P T G all j (λfT=>(∀a∈L,fT.aH a=σ.aH a)/\hK P T G all i (jl P T G all K fuel ((listed.setIfInBounds i true).setIfInBounds j true)) fT) σ:=by
   unfold hK at aa⊢;simp only[aj,jn]at aa⊢;have bs:sK σ.aH fc c3=true:=by
    rw[<-ez];refine ajY λt aJ=>cI t ?_;rcases aJ with aJ|aJ
    .exact aj2 t aJ
    exact sH t aJ
   exact ajZ ho (ajW mE eQ bs aa)
  have EN:∀k ok,all[k]?=some ok->k≠i->(listed.setIfInBounds j true).getD k true=false->k∉B->fc.apart all ok=true/\sK s0 fc ok=true/\(∀t∈L,ok.dst≠some t)/\∀t∈uC ok.op,t∈L:=λk ok al ra oJ h6=>by
   refine oI k ok al ra ?_ h6;by_cases gu:j=k;.subst gu;exact wE
   rw[getD_set_ne true gu]at oJ;exact oJ
  refine wD (λfT ay=>ih (listed.setIfInBounds j true) fT (λt aJ=>(ay.1 t aJ).trans (cI t aJ)) (λk al=>by
   have gu:j≠k:=by rintro rfl;exact wF al
   rw[getD_set_ne true gu];exact q9 k al) EN (ready_mono aw (Ne.symm jm)) ?_) ae
  rw[Array.setIfInBounds_comm _ _ jm];exact ay.2
end
structure V where
 name:ByteArray
 bool:Bool
 lo:Int
 aj:Int
def V.cells(v:V):List D:=[aT v.name,ax v.bool,R v.lo,R v.aj]
def V.d(v:V):D:= .agg v.cells
def bd(l:List V):D:= .ak 4 (l.map V.cells)
def pw(n:Int):D:= .val (.int .u8 n)
def m6(n:Int):Prop:=-9223372036854775808<=n/\n<=9223372036854775807
def V.ok(v:V):Prop:=m6 v.lo/\m6 v.aj/\v.name.size<=9223372036854775807
def V.span(v:V):Int:=if v.bool then 2 else if v.lo>v.aj then 0 else if v.aj-v.lo<1073741824 then v.aj-v.lo+1 else 1073741825
def bitsOf(n:Int):Nat:=if n<=1 then 0 else Nat.log2 (n-1).toNat+1
def aj3{n:Int}{k:Nat}(aa:∀j:Nat,j<k->(2:Int)^j<n)(ae:n<=2^k):bitsOf n=k:=by
 unfold bitsOf;cases k with
 |zero=>simp at ae;simp[ae]
 |succ k=>
  have ay:=aa k (by omega);have a1:(0:Int)<2^k:=Int.pow_pos (by omega);rw[xac (by omega)];have e:Nat.log2 (n-1).toNat=k:=by
   have aG:(2:Nat)^k<=(n-1).toNat:=by
    have:((2^k:Nat):Int)=2^k:=by simp
    omega
   have ao:(n-1).toNat<2^(k+1):=by
    have:((2^(k+1):Nat):Int)=2^(k+1):=by simp
    omega
   exact(Nat.log2_eq_iff (by have:=Nat.two_pow_pos k;omega)).2 ⟨aG,ao⟩
  omega
def XZ{n:Int}(h:1<n):bitsOf n=bitsOf (n/2+n%2)+1:=by
 unfold bitsOf;rw[xac (by omega)];by_cases ae:n=2;.subst ae;decide
 rw[xac (by omega)];have e:(n/2+n%2-1).toNat=(n-1).toNat/2:=by omega
 rw[e];have ay:(n-1).toNat≠0:=by omega
 have a7:(n-1).toNat/2≠0:=by omega
 obtain⟨a,b⟩:=(Nat.log2_eq_iff a7).1 rfl;have:Nat.log2 (n-1).toNat=Nat.log2 ((n-1).toNat/2)+1:=by
  refine(Nat.log2_eq_iff ay).2 ⟨?_,?_⟩;.rw[Nat.pow_succ];omega
  rw[Nat.pow_succ];omega
 omega
def sL(c:Int):Bool:=(decide (c>=97)&&decide (c<=122))||(decide (c>=65)&&decide (c<=90))
def yM(c:Int):Bool:=decide (c>=48)&&decide (c<=57)
def mG(c:Int):Bool:=sL c||yM c||(c==95)
def X0{lo aj:Int}(aa:m6 lo)(ae:m6 aj)(h:lo<=aj):IntKind.u64.wrap (IntKind.u64.wrap aj-IntKind.u64.wrap lo)=aj-lo:=by unfold m6 at aa ae;simp only[xcc];omega
def V.X1{v:V}(h:v.bool=true):v.span=2:=by simp[V.span,h]
def V.X2{v:V}(h:v.bool=false)(aa:v.lo>v.aj):v.span=0:=by simp[V.span,h,aa]
def V.PF{v:V}(h:v.bool=false)(aa:v.lo<=v.aj)(ae:v.aj-v.lo<1073741824):v.span=v.aj-v.lo+1:=by simp[V.span,h,ae];omega
def V.PG{v:V}(h:v.bool=false)(aa:v.lo<=v.aj)(ae:1073741824<=v.aj-v.lo):v.span=1073741825:=by simp[V.span,h,ae];omega
def has(x:ByteArray)(l:List ByteArray):Bool:=l.any λy=>decide (y=x)
def idxOf(x:ByteArray)(l:List ByteArray):Int:=match l.findIdx? (λy=>decide (y=x))with|some i=>(i:Nat)|none=>-1
def X3{x:ByteArray}{l:List ByteArray}(h:∀j:Nat,j<l.length->l[j]?≠some x):idxOf x l=-1:=by
 unfold idxOf;have:l.findIdx? (λy=>decide (y=x))=none:=by rw[List.findIdx?_eq_none_iff];intro y aK;obtain⟨j,aI⟩:=xaK.1 aK;have aa:=h j (xae.1 aI).1;rw[aI]at aa;simpa using aa
 rw[this]
def X4{x:ByteArray}{l:List ByteArray}{i:Nat}(h:∀j:Nat,j<i->l[j]?≠some x)(aj:l[i]?=some x):idxOf x l=i:=by
 unfold idxOf;obtain⟨bZ,cG⟩:=xae.1 aj;have:l.findIdx? (λy=>decide (y=x))=some i:=by rw[xbn];refine⟨bZ,by simpa using cG,λj aI=>?_⟩;have aa:=h j aI;rw[xab (by omega)]at aa;simpa using aa
 rw[this]
def X5(x:ByteArray)(l:List ByteArray):decide (idxOf x l>=0)=has x l:=by
 unfold idxOf has;cases h:l.findIdx? (λy=>decide (y=x))with
 |none=>
  rw[List.findIdx?_eq_none_iff]at h;have:l.any (λy=>decide (y=x))=false:=by rw[List.any_eq_false];intro y aK;simpa using h y aK
  rw[this];rfl
 |some i=>obtain⟨aa,ae,_⟩:=xbn.1 h;have:l.any (λy=>decide (y=x))=true:=xbv.2 ⟨_,xba aa,ae⟩;rw[this];simp
def X6{x:ByteArray}{l:List ByteArray}{i:Nat}(h:l[i]?=some x):has x l=true:=xbv.2 ⟨x,xad h,by simp⟩
def X7{x:ByteArray}{l:List ByteArray}(h:∀j:Nat,j<l.length->l[j]?≠some x):has x l=false:=by unfold has;rw[List.any_eq_false];intro y aK;obtain⟨j,aI⟩:=xaK.1 aK;have aa:=h j (xae.1 aI).1;rw[aI]at aa;simpa using aa
def oL(p:Int->Bool)(s:ByteArray)(i:Nat):Bool:=match s[i]? with|some b=>p b.toNat|none=>false
def nJ(p:Int->Bool)(s:ByteArray):Nat:=((List.range (s.size+1)).find? λi=>!oL p s i).getD 0
theorem Kz{s:ByteArray}{i:Nat}:s[i]?=if h:i<s.size then some s[i]else none:=rfl
def aj4{p:Int->Bool}{s:ByteArray}{i:Nat}(h:oL p s i=true):i<s.size:=by
 unfold oL at h;rw[Kz]at h;by_cases aa:i<s.size;.exact aa
 rw[dif_neg aa]at h;cases h
def words:List ByteArray:=[⟨#[65]⟩,⟨#[65,70]⟩,⟨#[65,71]⟩,⟨#[65,88]⟩,⟨#[69]⟩,⟨#[69,70]⟩,⟨#[69,71]⟩,⟨#[69,88]⟩,⟨#[85]⟩,⟨#[98,111,111,108]⟩,⟨#[100,101,102]⟩,⟨#[101,108,115,101]⟩,⟨#[102,97,105,114]⟩,⟨#[102,97,108,115,101]⟩,⟨#[105,102]⟩,⟨#[105,110,105,116]⟩,⟨#[105,110,118,97,114]⟩,⟨#[109,111,100]⟩,⟨#[110,101,120,116]⟩,⟨#[115,112,101,99]⟩,⟨#[116,104,101,110]⟩,⟨#[116,114,97,110,115]⟩,⟨#[116,114,117,101]⟩,⟨#[118,97,114]⟩]
def isName(s:ByteArray):Bool:=decide ((s.size:Int)>=1)&&decide ((s.size:Int)<=24)&&oL sL s 0&&((nJ mG s:Int)==(s.size:Int))&&!has s words
def X8(s:ByteArray):(decide (s=⟨#[]⟩)=true/\decide ((s.size:Int)>=1)=false)\/∃b,decide (s=⟨#[]⟩)=false/\decide ((s.size:Int)>=1)=true/\s[0]?=some b:=by
 by_cases h:0<s.size
 .refine .inr ⟨s[0],?_,?_,?_⟩
  .have:s≠⟨#[]⟩:=by rintro rfl;exact absurd h (by decide)
   simpa using this
  .simp;omega
  rw[Kz,dif_pos h]
 refine .inl ⟨?_,?_⟩
 .have ar:s.size=0:=by omega
  have:s=⟨#[]⟩:=by
   cases s with|mk d=>
   congr 1
   exact xbh ar
  simpa using this
 simp;omega
def uD(v:V):Bool:=decide ((if v.aj>v.lo then v.aj else v.lo)>255)||decide ((if v.aj<v.lo then v.aj else v.lo)< -255)
def BW(seen:List V)(v:V):Int:=if !isName v.name then 12 else if has v.name (seen.map V.name)then 6 else if v.bool&&(v.lo !=0||v.aj !=0)then 3
 else if !v.bool&&(decide (v.lo>v.aj)||uD v||decide (IntKind.i64.wrap (v.aj-v.lo)>=64))then 2 else 0
def jo(l:List V)(i:Nat):Int:=match l[i]? with|some v=>BW (l.take i) v|none=>0
def kp(l:List V):Int×Int:=match(List.range l.length).find? (λi=>jo l i !=0)with|some i=>((i:Int),jo l i)|none=>(0,0)
def X9{l:List V}{i:Nat}{e:Int}(h:∀j:Nat,j<i->jo l j=0)(aj:i<l.length)(he:jo l i=e)(ar:e≠0):kp l=((i:Int),e):=by
 unfold kp;have:(List.range l.length).find? (λi=>jo l i !=0)=some i:=by rw[List.find?_range_eq_some];exact⟨by simpa[he]using ar,by simpa using aj,λj aI=>by simp[h j aI]⟩
 rw[this];simp[he]
def Ya{l:List V}(h:∀j:Nat,j<l.length->jo l j=0):kp l=(0,0):=by
 unfold kp;have:(List.range l.length).find? (λi=>jo l i !=0)=none:=by rw[List.find?_eq_none];intro j aI;simp[h j (by simpa using aI)]
 rw[this]
def aj5{v:V}(aN:v.ok):(!v.bool&&(decide (v.lo>v.aj)||uD v||decide (IntKind.i64.wrap (v.aj-v.lo)>=64)))=(!v.bool&&(decide (v.lo>v.aj)||!(decide (v.lo>=-255)&&decide (v.lo<=255))||!(decide (v.aj>=-255)&&decide (v.aj<=255))||decide (v.span>64))):=by
 cases ao:v.bool with
 |true=>rfl
 |false=>
  by_cases aa:v.lo>v.aj;.simp[aa]
  have ej:v.lo<=v.aj:=by omega
  by_cases ae:-255<=v.lo/\v.aj<=255
  .have aP:uD v=false:=by
    unfold uD;split<;>(try split)<;>simp<;>omega
   have a2:(decide (v.lo>=-255)&&decide (v.lo<=255))=true:=by simp;omega
   have bS:(decide (v.aj>=-255)&&decide (v.aj<=255))=true:=by simp;omega
   rw[V.PF ao ej (by omega),aP,a2,bS,wrap64 _ (by omega) (by omega)];have cS:decide (v.lo>v.aj)=false:=by simpa using ej
   have dM:decide (v.aj-v.lo>=64)=decide (v.aj-v.lo+1>64):=by rw[decide_eq_decide];omega
   rw[cS,dM];rfl
  have aP:uD v=true:=by unfold uD;split<;>(try split)<;>simp<;>omega
  have a2:(!(decide (v.lo>=-255)&&decide (v.lo<=255))||!(decide (v.aj>=-255)&&decide (v.aj<=255)))=true:=by simp;omega
  rw[aP];revert a2;generalize decide (v.lo>v.aj)=p;generalize (decide (v.lo>=-255)&&decide (v.lo<=255))=q;generalize (decide (v.aj>=-255)&&decide (v.aj<=255))=r;cases p<;>cases q<;>cases r<;>simp
def aj6{l:List V}{x:ByteArray}{i:Nat}(h:∀j:Nat,j<i->(l.map V.name)[j]?≠some x):has x ((l.take i).map V.name)=false:=by refine X7 λj aI=>?_;rw[List.map_take,xaL];simp at aI;rw[xaa (by omega)];exact h j (by omega)
theorem aj7{l:List V}{w:V}{k i:Nat}(al:k<i)(hw:l[k]?=some w):has w.name ((l.take i).map V.name)=true:=by refine X6 (i:=k) ?_;rw[List.map_take,xaL,xaa al,xai,hw];rfl
end Go.Am
