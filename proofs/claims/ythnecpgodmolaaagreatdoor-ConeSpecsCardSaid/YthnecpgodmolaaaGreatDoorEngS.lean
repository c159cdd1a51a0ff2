/- Steps, joins, and nil slices that become rows of our own. No condition. -/
import Derived.Test.YthnecpgodmolaaaGreatDoorEngB
set_option linter.all false
set_option linter.unnecessarySimpa false
namespace Go.Am
section
variable{P:Program}{T:ch}{G:dr}{N:Nat}{σ:aI}{Q:Exit->aI->Prop}{all:Array Oper}
def aiK(l:List Oper):∀(k:Nat)(σ:aI)(K:aI->Prop),(∀j,l[j]?=all[k+j]?)->fT P T G all l K σ->Bo P T G all (List.range' k l.length) K σ:=by
 induction l with
 |nil=>intro k σ K _ h;exact h
 |cons o l ih=>
  intro k σ K ar h;have au:all[k]?=some o:=by simpa using(ar 0).symm
  simp only[xao,List.range'_succ,Bo,au];refine EG (λaW uB=>ih (k+1) aW K (λj=>by have:=ar (j+1);simpa[xbc,Nat.add_comm 1 j]using this) uB) h
def aiL(bf:dN P T)(hm:P.follows .mixedOrders=true){id:Nat}{ops:Array Oper}(cc:wx N ops=true)(Bq:yg T ops (List.range ops.size) (Array.replicate ops.size false)=true) (h:fT P T G ops ops.toList (Q .normal) σ):hq P T G N (.region id ops true) σ Q:=by refine air bf hm cc (List.range ops.size) (by simp) Bq ?_;rw[List.range_eq_range'];have:=aiK (P:=P) (T:=T) (G:=G) (all:=ops) ops.toList 0 σ (Q .normal) (λj=>by simp) h;simpa using this
end
section
variable{P:Program}{T:ch}{G:dr}{N:Nat}{σ gD:aI}{Q:Exit->aI->Prop}{id:Nat}{ops:Array Oper}
end
def wrap64(x:Int)(ab:-9223372036854775808<=x)(af:x<=9223372036854775807):IntKind.i64.wrap x=x:=by rw[IntKind.wrap_i64];omega
def Fin(T:ch)(rs:List ResultVar)(R:D->Prop)(e:Exit)(aW:aI):Prop:=(e= .normal\/e= .ret)/\∃r d x,ri T aW rs=some r/\toD aW.objs r=some d/\d.le x/\R x
theorem getD_cons_zero{α:Type}(x:α)(l:List α)(d:α):(x::l).getD 0 d=x:=rfl
theorem getD_cons_succ{α:Type}(x:α)(l:List α)(n:Nat)(d:α):(x::l).getD (n+1) d=l.getD n d:=rfl
def XK{σ:aI}(K:Key)(n:Nat)(uF:Nat->aS)(objs':cF)(fj:σ.objs K=none) (aH:∀t,uF t=σ.aK t\/σ.aK t= .d (.val (.slice none 0 0))/\uF t= .row K) (aG:∀k o,objs' k=some o->k=K/\o= .row n []\/k≠K/\(σ.objs k=some o\/∃xs i,σ.objs k=some (.box xs)/\xs[i]?=some (.d (.val (.slice none 0 0)))/\o= .box (xs.set i (.row K)))) (ox:∀k,σ.objs k≠none->objs' k≠none) (aiM:objs' K=some (.row n [])) (aiN:∀k,e2 (σ.objs k)->e2 (objs' k)):g3 σ ⟨uF,objs'⟩:=by
 intro m fr ρ a w h;have cR:∀k,σ.used k->k≠K:=by rintro k ⟨o,ak⟩ rfl;rw[fj]at ak;cases ak
 have av:∀k,σ.used k->aI.used ⟨uF,objs'⟩ k/\cv ρ K (.slice none 0 0) k=ρ k:=λk ak=>
  ⟨by
   cases bI:objs' k with
   |none=>exact absurd bI (ox k (by obtain⟨o,e⟩:=ak;rw[e];simp))
   |some o=>exact⟨o,bI⟩,cZ _ _ (cR k ak)⟩
 have aiO:aI.used ⟨uF,objs'⟩ K:=⟨_,aiM⟩;have Bw:cv ρ K (.slice none 0 0) K= .slice none 0 0:=by simp[cv]
 have nL:b7 m (cv ρ K (.slice none 0 0)) (aI.used ⟨uF,objs'⟩) (.row K) (.slice none 0 0):=by have:=b7.row (m:=m) (ρ:=cv ρ K (.slice none 0 0)) (U:=aI.used ⟨uF,objs'⟩) K aiO;rw[Bw]at this;exact this
 refine⟨m,cv ρ K (.slice none 0 0),Mem.le_refl m,⟨h.mem,h.frame,h.apart,?_,?_,?_,?_,?_⟩,?_⟩
 .rintro k ⟨o,ak⟩;rcases aG k o ak with⟨rfl,rfl⟩|⟨ab,af⟩;.rw[Bw];rfl
  rw[cZ _ _ ab];rcases af with af|⟨xs,i,af,_,_⟩
  .exact h.one k ⟨_,af⟩
  exact h.one k ⟨_,af⟩
 .intro t;rcases aH t with e|⟨aJ,aZ⟩
  .show b7 m _ _ (uF t) _;rw[e];exact(h.aK t).mono (Mem.le_refl m) av
  show b7 m _ _ (uF t) _;rw[aZ];have:=h.aK t;rw[aJ]at this;rw[this.hX];exact nL
 .intro k o ak;rcases aG k o ak with⟨rfl,rfl⟩|⟨ab,af⟩
  .rw[Bw];exact .inl ⟨rfl,rfl⟩
  rw[cZ _ _ ab];rcases af with af|⟨xs,i,af,aw,rfl⟩
  .exact(h.objs k o af).mono (Mem.le_refl m) av (λ_ _ _=>rfl)
  obtain⟨b,vs,T,aJ,aZ,bN,cO⟩:=(h.objs k _ af).mono (Mem.le_refl m) av (λ_ _ _=>rfl);refine⟨b,vs,T,aJ,aZ,by simpa using bN,?_⟩;intro j c x ao ag;rw[List.getElem?_set]at ao;split at ao
  .rename_i gR;subst gR;split at ao;.cases ao;have:=cO i _ x aw ag;rw[this.hX];exact nL
   cases ao
  exact cO j c x ao ag
 .intro k o b ak aiP aj;rcases aG k o ak with⟨rfl,rfl⟩|⟨ab,af⟩
  .have g0:blockOf (cv ρ k (.slice none 0 0) k)=some b:=aj;rw[Bw]at g0;cases g0
  have g0:blockOf (cv ρ K (.slice none 0 0) k)=some b:=aj;rw[cZ _ _ ab]at g0;rcases af with af|⟨xs,i,af,_,rfl⟩
  .exact h.own k o b af aiP g0
  exact h.own k _ b af rfl g0
 .intro k bs o o' b dk ak fO gb kI aj;rcases aG k o ak with⟨rfl,rfl⟩|⟨ab,af⟩
  .have g0:blockOf (cv ρ k (.slice none 0 0) k)=some b:=aj;rw[Bw]at g0;cases g0
  rw[cZ _ _ ab]at aj;rcases aG bs o' fO with⟨rfl,rfl⟩|⟨e7,h5⟩
  .rw[Bw];intro bI;cases bI
  rw[cZ _ _ e7];have hold:∃p,σ.objs k=some p/\p.owns=true:=by
   rcases af with af|⟨xs,i,af,_,rfl⟩;.exact⟨_,af,gb⟩
   exact⟨_,af,rfl⟩
  have aiQ:∃p,σ.objs bs=some p/\p.owns=true:=by
   rcases h5 with h5|⟨xs,i,h5,_,rfl⟩;.exact⟨_,h5,kI⟩
   exact⟨_,h5,rfl⟩
  obtain⟨p,bA,bB⟩:=hold;obtain⟨oq,aiR,aiS⟩:=aiQ;exact h.sep k bs p oq b dk bA aiR bB aiS aj
 intro k ak aj;refine⟨aiN k aj,cZ _ _ ?_⟩;obtain⟨c,ao⟩:=Bh aj;exact cR k ⟨_,ao⟩
def aiT{σ:aI}(t:Nat)(K:Key)(n:Nat)(aM:σ.aK t= .d (.val (.slice none 0 0)))(fj:σ.objs K=none):g3 σ ⟨cv σ.aK t (.row K),cv σ.objs K (some (.row n []))⟩:=by
 refine XK K n _ _ fj ?_ ?_ ?_ (by simp[cv]) ?_
 .intro j;by_cases h:j=t;.subst h;exact .inr ⟨aM,by simp[cv]⟩
  exact .inl (by simp[cv,h])
 .intro k o ak;by_cases h:k=K;.subst h;simp[cv]at ak;exact .inl ⟨rfl,ak.symm⟩
  rw[cZ _ _ h]at ak;exact .inr ⟨h,.inl ak⟩
 .intro k ak;by_cases h:k=K;.subst h;simp[cv]
  rw[cZ _ _ h];exact ak
 intro k aj;have h:k≠K:=by rintro rfl;rw[fj]at aj;exact ux aj
 rw[cZ _ _ h];exact aj
def aiU{σ:aI}(k:Key)(i:Nat)(K:Key)(n:Nat){xs:List aS}(ak:σ.objs k=some (.box xs))(ah:xs[i]?=some (.d (.val (.slice none 0 0))))(fj:σ.objs K=none):g3 σ ⟨σ.aK,cv (cv σ.objs k (some (.box (xs.set i (.row K))))) K (some (.row n []))⟩:=by
 have aAl:k≠K:=by rintro rfl;rw[fj]at ak;cases ak
 refine XK K n _ _ fj (λ_=> .inl rfl) ?_ ?_ (by simp[cv]) ?_
 .intro j o aN;by_cases h:j=K;.subst h;simp[cv]at aN;exact .inl ⟨rfl,aN.symm⟩
  rw[cZ _ _ h]at aN;by_cases af:j=k;.subst af;simp[cv]at aN;exact .inr ⟨h,.inr ⟨xs,i,ak,ah,aN.symm⟩⟩
  rw[cZ _ _ af]at aN;exact .inr ⟨h,.inl aN⟩
 .intro j aN;by_cases h:j=K;.subst h;simp[cv]
  rw[cZ _ _ h];by_cases af:j=k;.subst af;simp[cv]
  rw[cZ _ _ af];exact aN
 intro j aj;have h:j≠K:=by rintro rfl;rw[fj]at aj;exact ux aj
 rw[cZ _ _ h];by_cases af:j=k;.subst af;rw[fb];exact uw
 rw[cZ _ _ af];exact aj
def aiV{σ:aI}(t:Nat)(K:Key)(n:Nat){es:List (List D)}(aM:σ.aK t= .row K)(ak:σ.objs K=some (.row n es)):g3 σ ⟨cv σ.aK t (.sub K n 0 es.length),σ.objs⟩:=by
 intro m fr ρ a w h;refine⟨m,ρ,Mem.le_refl m,⟨h.mem,h.frame,h.apart,h.one,?_,h.objs,h.own,h.sep⟩,k0.refl _ _⟩;intro s;by_cases aH:s=t
 .subst aH;have ab:=h.aK s;rw[aM]at ab;show b7 m _ _ (cv σ.aK s _ s) _;rw[fb];generalize a.tmps.getD s undef=v at*;cases ab with|row _ hu=>
  rcases h.objs _ _ ak with⟨aJ,aZ⟩|⟨b,o,cap,vs,dO,aJ,aZ,bN,cO,eg,fG⟩;.rw[aJ,aZ];exact .kA K n 0 hu aJ
  rw[aJ];exact b7.sub (m:=m) (ρ:=ρ) (U:=σ.used) K n 0 es.length b o es.length cap o hu aJ (by omega) ⟨λ_=>by simp,by omega⟩
 show b7 m _ _ (cv σ.aK t _ s) _;rw[cZ _ _ aH];exact h.aK s
def aiW{T:ch}{ev:Operand->aS}{objs:cF}{d:Key}{o:Op}{r:aS}{cC:List (Key×cV)}(h:et T ev objs d o=some (r,cC))(iv:∀t a x,o≠ .store t a x):∀j c,objs j=some (.box c)->dI objs cC j=some (.box c):=by
 have KO:∀{objs:cF}{k:Key}{o:cV},(∀c,objs k≠some (.box c))->∀j c,objs j=some (.box c)->cv objs k (some o) j=some (.box c):=by
  intro objs k o ak j c aN;have:j≠k:=by rintro rfl;exact ak c aN
  rw[cZ _ _ this];exact aN
 have new:∀{o:cV},objs d=none->∀j c,objs j=some (.box c)->dI objs [(d,o)] j=some (.box c):=by intro o aA;exact KO (by intro c ao;rw[aA]at ao;cases ao)
 have same:∀{k:Key}{dL o:cV},objs k=some dL->(∀c,dL≠ .box c)->∀j c,objs j=some (.box c)->dI objs [(k,o)] j=some (.box c):=by intro k dL o ak cR;exact KO (by intro c ao;rw[ak]at ao;cases ao;exact cR c rfl)
 cases o<;>simp only[et,reduceCtorEq]at h
 case alloc=>split at h<;>cases h;exact new (by assumption)
 case box=>split at h<;>cases h;exact new (by assumption)
 case buildSlice=>
  split at h
  case h_2=>cases h
  split at h
  case h_2=>cases h
  split at h
  case h_2=>cases h
  split at h<;>cases h;exact new (by assumption)
 case makeSlice=>
  split at h
  case h_2=>cases h
  split at h
  case h_2=>cases h
  split at h
  case h_2=>cases h
  split at h<;>cases h;exact new (by assumption)
 case makeMap=>split at h<;>cases h;exact new (by assumption)
 case store=>exact absurd rfl (iv _ _ _)
 case mapUpdate=>
  split at h
  case h_2=>cases h
  split at h
  case h_2=>cases h
  split at h
  case isFalse=>cases h
  split at h
  case h_2=>cases h
  split at h
  case h_2=>cases h
  split at h<;>cases h;exact same (by assumption) (by intro c ao;cases ao)
 case insert=>
  split at h
  case h_2=>cases h
  split at h
  case h_2=>cases h
  split at h
  case isFalse=>cases h
  split at h
  case h_2=>cases h
  split at h
  case h_2=>cases h
  split at h<;>cases h;exact same (by assumption) (by intro c ao;cases ao)
 case call=>
  split at h
  .split at h
   case h_2=>cases h
   split at h
   case h_2=>cases h
   split at h
   case h_2=>cases h
   split at h
   case h_2=>cases h
   split at h
   case isFalse=>cases h
   split at h;.split at h<;>cases h;exact new (by assumption)
   .split at h
    case h_2=>cases h
    split at h<;>cases h;rename_i aA _ _ _ _ _ _ _ _ _ _ _ _ ak _ _;have hG:=same (o:= .dead) (by assumption) (by intro c ao;cases ao);intro j a8 aN;have ab:=hG j a8 aN;refine KO ?_ j a8 ab;intro c aj;have cR:∀key x,objs key=some x->d≠key:=by
     rintro key x ag rfl;have au:objs d=none:=by assumption
     rw[au]at ag;cases ag
    rw[cZ _ _ (cR _ _ (by assumption))]at aj;clear KO new same hG ab cR
    simp_all
   cases h
  .split at h
   case h_2=>cases h
   split at h
   case h_2=>cases h
   split at h
   case h_2=>cases h
   split at h
   case h_2=>cases h
   split at h
   case isFalse=>cases h
   split at h
   .split at h
    case h_2=>cases h
    split at h<;>cases h;exact same (by assumption) (by intro c ao;cases ao)
   .split at h
    case h_2=>cases h
    split at h<;>cases h;exact same (by assumption) (by intro c ao;cases ao)
   cases h
  .split at h
   case h_2=>cases h
   split at h
   case h_2=>cases h
   split at h
   case h_2=>cases h
   split at h
   case h_2=>cases h
   split at h
   case h_2=>cases h
   split at h<;>cases h;exact same (by assumption) (by intro c ao;cases ao)
  cases h
def aiX{T:ch}{ev:Operand->aS}{objs:cF}{d:Key}{o:Op}{r:aS}{cC:List (Key×cV)}(h:hg T ev objs d o=some (r,cC))(iv:∀t a x,o≠ .store t a x):∀j c,objs j=some (.box c)->dI objs cC j=some (.box c):=by
 obtain⟨⟨jH,sK⟩,au,aj⟩:=wb h;have ab:=aiW au iv;intro j c aN;have af:=ab j c aN;rcases x9 (T.born d) d jH sK with e|⟨n,es,rfl,rfl,e⟩|⟨dn,n,es,rfl,rfl,e⟩|⟨off,cs,aO,rfl,rfl,e1,e⟩
 .rw[aj]at e;cases e;exact af
 .rw[aj]at e;cases e;by_cases aA:j=d;.subst aA;simp only[dI,fb]at af;cases af
  simp only[dI,cZ _ _ aA]at af⊢;exact af
 .rw[aj]at e;cases e;by_cases aA:j=d;.subst aA;simp only[dI,fb]at af;cases af
  simp only[dI,cZ _ _ aA]at af⊢;exact af
 rw[aj]at e;cases e;have aL:objs d=none:=Xc au;by_cases aA:j=d
 .subst aA;rw[aL]at aN;cases aN
 simp only[dI,cZ _ _ aA];exact aN
section
variable{P:Program}{T:ch}{G:dr}{all:Array Oper}
def aiY{y:Oper}{σ:aI}{K K':aI->Prop}(iv:∀t a x,y.op≠ .store t a x)(ak:∀objs r,(∀j c,σ.objs j=some (.box c)->objs j=some (.box c))->K (aI.put ⟨σ.aK,objs⟩ y.dst r)->K' (aI.put ⟨σ.aK,objs⟩ y.dst r)) (h:dc P T G y K σ):dc P T G y K' σ:=by
 unfold dc at*;rw[wj]at*;cases av:res T G σ y with
 |none=>simp only[av,xbm]at h⊢;exact EB h λr av=>ak σ.objs r (λ_ _ h=>h) av
 |some p=>
  simp only[av,xaQ]at h⊢;refine ak _ _ ?_ h;intro j c aN;obtain⟨r,cC⟩:=p;unfold res at av;split at av;.cases av;exact aN
  split at av;.cases av;exact aN
  exact aiX av iv j c aN
def XL{t a k off:Nat}{σ:aI}{x:Oper}(ag:x.op= .load t (.tmp a))(aH:σ.aK a= .ptr k off){K:aI->Prop}(h:dc P T G x K σ): ∃r,K (σ.put x.dst r)/\∀objs,(∀j c,σ.objs j=some (.box c)->objs j=some (.box c))->res T G ⟨σ.aK,objs⟩ x=some (r,[]):=by
 unfold dc at h;rw[wj]at h;cases av:res T G σ x with
 |none=>simp only[av,xbm]at h;unfold jI at h;rw[ag]at h;exact h.elim
 |some p=>
  simp only[av,xaQ]at h;obtain⟨r,cC⟩:=p;unfold res at av;rw[ag]at av;simp only[eZ,dH,cj,aH,hg,et,xbm]at av;cases bf:T t with
  |none=>simp[bf]at av
  |some i=>
   simp only[bf]at av;cases ak:σ.objs k with
   |none=>simp[ak]at av
   |some o=>
    cases o with
    |box cells=>simp only[ak]at av;cases aU:vW i cells off with|none=>simp[aU]at av|some q=>simp only[aU,xaN,Prod.mk.injEq]at av;obtain⟨rfl,rfl⟩:=av;refine⟨q,h,λobjs aG=>?_⟩;unfold res;rw[ag];simp only[eZ,dH,cj,aH,bf,aG k cells ak,aU]
    |dead=>simp[ak]at av|row=>simp[ak]at av|map=>simp[ak]at av
def XM{x y:Oper}{σ:aI}{K:aI->Prop}{t a k off:Nat}(ag:x.op= .load t (.tmp a))(mS:x.guard=none)(aH:σ.aK a= .ptr k off)(iv:∀t a x,y.op≠ .store t a x)(hF:x.apart all y=true) (h:eA P T G all x (λgD=>eA P T G all y K gD) σ):eA P T G all y (λgj=>eA P T G all x K gj) σ:=by
 obtain⟨an,ba,b2⟩:=Oper.apart_spec hF;have mQ:∀d,y.dst=some d->x.dst≠some d:=λd aA ag=>ba d ag aA;have ln:∀(K:aI->Prop) σ,eA P T G all x K σ=dc P T G x K σ:=λK σ=>by unfold eA;simp only[mS]
 simp only[ln]at h⊢;obtain⟨r,ab,af⟩:=XL ag aH h;have ES:∀(K:aI->Prop) objs,(∀j c,σ.objs j=some (.box c)->objs j=some (.box c))->dc P T G x K ⟨σ.aK,objs⟩=K (aI.put ⟨σ.aK,objs⟩ x.dst r):=λK objs aG=>mn (af objs aG);rw[hM,ou an]at ab;rw[hM];split at ab
 .rename_i hw
  try simp only[hw]
  rw[jJ an ba]at ab;refine aiY iv (λobjs q aG ak=>?_) ab;rw[jJ b2 mQ,ES _ _ aG,put_comm ba];exact ak
 .rename_i hw
  try simp only[hw]
  show dc P T G x K (σ.put y.dst _);rw[jJ b2 mQ];have:=ES (λaW=>K (aW.put y.dst (.d (.val (.tuple #[]))))) σ.objs (λ_ _ h=>h);have e:dc P T G x (λaW=>K (aW.put y.dst (.d (.val (.tuple #[]))))) σ=K ((σ.put x.dst r).put y.dst (.d (.val (.tuple #[])))):=this;rw[e];exact ab
 exact ab.elim
def aiZ{y:Oper}{σ:aI}{K:aI->Prop}{a:Nat}(aA:y.dst≠some a)(h:eA P T G all y K σ):eA P T G all y (λaW=>aW.aK a=σ.aK a/\K aW) σ:=by
 have aU:∀(objs:cF)(r:aS),(aI.put ⟨σ.aK,objs⟩ y.dst r).aK a=σ.aK a:=λobjs r=>by
  cases aP:y.dst with
  |none=>rfl
  |some d=>
   have:a≠d:=by rintro rfl;exact aA aP
   simp only[aI.put,cZ _ _ this]
 rw[hM]at h⊢;split at h
 .rename_i hw
  try simp only[hw]
  exact wo (λobjs r ak=>⟨aU objs r,ak⟩) h
 .rename_i hw
  try simp only[hw]
  exact⟨aU σ.objs _,h⟩
 exact h.elim
def ai0{K:aI->Prop}{i:Nat}{fv:Oper}{t a k off:Nat}(ah:all[i]?=some fv)(ag:fv.op= .load t (.tmp a))(mS:fv.guard=none){B:List Nat}(gL:∀j c8,j∈B->all[j]?=some c8->∃e∈c8.after,Region.binds .any e=true/\(e.on=i\/e.on∈B)):∀(fuel:Nat)(listed:Array Bool)(σ:aI),σ.aK a= .ptr k off->(∀j,j∈B->listed.getD j true=false)->(∀j c8,all[j]?=some c8->j≠i->listed.getD j true=false->j∉B->fv.apart all c8=true/\∀t a x,c8.op≠ .store t a x)->i∈Region.ready .any all listed->hY P T G all i (jl P T G all K fuel (listed.setIfInBounds i true)) σ->jl P T G all K (fuel+1) listed σ:=by
 intro fuel
 induction fuel with
 |zero=>
  intro listed σ ei re ov av H;refine⟨λh=>(by rw[h]at av;cases av),λj aN=>?_⟩;by_cases jd:j=i;.subst jd;exact H
  have hm:=ready_mono aN jd;exfalso;have key:Region.ready .any all (listed.setIfInBounds i true)=[]:=by unfold hY at H;simp only[ah]at H;unfold eA at H;simp only[mS]at H;obtain⟨r,ab,_⟩:=XL ag ei H;exact ab.1
  rw[key]at hm;cases hm
 |succ fuel ih=>
  intro listed σ ei re ov av H;refine⟨λh=>(by rw[h]at av;cases av),λj aN=>?_⟩;by_cases jd:j=i;.subst jd;exact H
  obtain⟨wu,c8,jm,gB⟩:=xbK.1 aN;have uq:∀k,listed.getD k true=false->listed[k]?.getD false=true->False:=λk au ab=>by
   rcases Nat.lt_or_ge k listed.size with bD|bD;.simp[bD]at au ab;rw[au]at ab;cases ab
   simp[Array.getElem?_eq_none bD]at ab
  have wv:j∉B:=λEJ=>by
   obtain⟨e,he,aj,mR⟩:=gL j c8 EJ jm;have ab:=gB e he aj;rcases mR with mR|mR
   .rw[mR]at ab;exact uq i (xbK.1 av).1 (by simpa using ab)
   exact uq _ (re _ mR) (by simpa using ab)
  obtain⟨dE,di⟩:=ov j c8 jm jd wu wv;have ab:hY P T G all i (λgD=>hY P T G all j (jl P T G all K fuel ((listed.setIfInBounds i true).setIfInBounds j true)) gD) σ:=wq (λgD uB=>uB.2 j (ready_mono aN jd)) H;have Qb:c8.dst≠some a:=λaA=>by obtain⟨_,_,b2⟩:=Oper.apart_spec dE;refine b2 a aA ?_;unfold Oper.looksAt;rw[ag];simp[Op.operands]
  have af:hY P T G all j (λgj=>gj.aK a=σ.aK a/\hY P T G all i (jl P T G all K fuel ((listed.setIfInBounds i true).setIfInBounds j true)) gj) σ:=by unfold hY at ab⊢;simp only[ah,jm]at ab⊢;exact aiZ Qb (XM ag mS ei di dE ab)
  have EK:∀k ok,all[k]?=some ok->k≠i->(listed.setIfInBounds j true).getD k true=false->k∉B->fv.apart all ok=true/\∀t a x,ok.op≠ .store t a x:=λk ok ak rf ow iv=>by
   refine ov k ok ak rf ?_ iv;by_cases gC:j=k;.subst gC;exact wu
   rw[getD_set_ne true gC]at ow;exact ow
  refine wq (λgj aw=>ih (listed.setIfInBounds j true) gj (aw.1.trans ei) (λk ak=>by
   have gC:j≠k:=by rintro rfl;exact wv ak
   rw[getD_set_ne true gC];exact re k ak) EK (ready_mono av (Ne.symm jd)) ?_) af
  rw[Array.setIfInBounds_comm _ _ jd];exact aw.2
end
section
variable{P:Program}{T:ch}{G:dr}{all:Array Oper}
def Bx:aS->Option Key
 | .ptr k _=>some k| .gA k _ _ _=>some k|_=>none
def keyOf(aK:Nat->aS):Operand->Option Key
 | .tmp a=>Bx (aK a)|_=>none
theorem Qc{aK:Nat->aS}(x:Operand):Bx (cj G aK x)=keyOf aK x:=by cases x with|tmp a=>rfl|const v=>rfl|func f=>rfl|global g=>simp only[cj,keyOf];split<;>rfl
def uG(aK:Nat->aS):Operand->Bool
 | .tmp a=>match aK a with| .d _=>true|_=>false
 | .const _=>true|_=>false
def uH(aK:Nat->aS)(k:Key):Op->Bool
 | .store _ a _=>match keyOf aK a with|some bs=>bs !=k|none=>false
 |_=>false
def KP:Op->Bool
 | .store _ _ _=>true|_=>false
def ET(aK:Nat->aS):Operand->Bool
 | .tmp a=>match aK a with| .ptr _ _=>true|_=>false
 |_=>false
def ai1:aS->Bool
 | .d _=>true| .ew _ _=>true|_=>false
def ql(aK:Nat->aS):Operand->Bool
 | .tmp a=>ai1 (aK a)|_=>false
def uI(aK:Nat->aS):Op->Bool
 | .load _ a=>ql aK a| .indexAddr _ x _=>ql aK x| .lookup _ m _ _=>ql aK m| .slice _ x _ _ none=>ql aK x| .call ⟨.builtin .len,args,_⟩=>args.toList.all (ql aK)|_=>false
def sT(aK:Nat->aS)(x y:Oper):Bool:=pass x y||uI aK x.op||match x.op with
 | .binOp _ _ a b _=>uG aK a&&uG aK b| .load _ a=>match keyOf aK a with|some k=>(ET aK a&&!KP y.op)||iT y.op||jk y.op||hE y.op||uH aK k y.op|none=>false
 | .indexAddr _ _ _=>iT y.op||jk y.op||hE y.op||KP y.op| .store _ a _=>match keyOf aK a with|some k=>uH aK k y.op|none=>false
 |_=>false
def Qd(k:Key)(o o':cF):Prop:=o' k=o k
def By(o o':cF):Prop:=∀k n es,o k=some (.row n es)->∃hc,o' k=some (.row n hc)/\hc.length=es.length
def ai2{y:Oper}{σ:aI}{K K':aI->Prop}{R:cF->Prop}(au:R σ.objs)(ff:∀r cC,res T G σ y=some (r,cC)->R (dI σ.objs cC))(ak:∀objs r,R objs->K (aI.put ⟨σ.aK,objs⟩ y.dst r)->K' (aI.put ⟨σ.aK,objs⟩ y.dst r)) (h:dc P T G y K σ):dc P T G y K' σ:=by unfold dc at*;rw[wj]at*;cases av:res T G σ y with|none=>simp only[av,xbm]at h⊢;exact EB h λr av=>ak σ.objs r au av|some p=>simp only[av,xaQ]at h⊢;obtain⟨r,cC⟩:=p;exact ak _ _ (ff r cC av) h
def XN{σ:aI}{y:Oper}(h:(iT y.op||jk y.op||hE y.op)=true){r:aS}{cC:List (Key×cV)}(av:res T G σ y=some (r,cC)):cC=[]:=by
 unfold res at av;split at av;.cases av;rfl
 split at av;.cases av;rfl
 simp only[xbd]at h;rcases h with(h|h)|h
 .rw[(Bk h).2]at av;cases av
 .rw[Bl h]at av;cases av
 rw[(PW (T:=T) (ev:=cj G σ.aK) (objs:=σ.objs) (d:=y.dst.getD 9999) h).2.2]at av;cases av
def Qe{σ:aI}{y:Oper}{t:TypeId}{a x:Operand}(aP:y.op= .store t a x){r:aS}{cC:List (Key×cV)}(av:res T G σ y=some (r,cC)): ∃k o o',keyOf σ.aK a=some k/\cC=[(k,o')]/\σ.objs k=some o/\((∃c jj,o= .box c/\o'= .box jj)\/∃n es hc,o= .row n es/\o'= .row n hc/\hc.length=es.length):=by
 rw[<-Qc (G:=G)];unfold res at av;rw[aP]at av;simp only[eZ,dH,W2,et]at av;split at av
 case h_2=>cases av
 split at av
 case isFalse=>cases av
 split at av
 .rename_i k off he;split at av
  case h_2=>cases av
  rename_i cells aG;split at av<;>cases av;exact⟨k,_,_,by rw[he];rfl,rfl,aG,.inl ⟨_,_,rfl,rfl⟩⟩
 .rename_i k cU fA off he;split at av
  case h_2=>cases av
  rename_i bs es aO aG aA;split at av
  case isFalse=>cases av
  rename_i ao;split at av<;>cases av;exact⟨k,_,_,by rw[he];rfl,rfl,aG,.inr ⟨cU,es,_,by rw[ao.1],rfl,by simp⟩⟩
 cases av
def EU{objs:cF}{k:Key}{o:cV}(j:Key):dI objs [(k,o)] j=if j=k then some o else objs j:=by
 by_cases h:j=k;.subst h;simp[dI,fb]
 simp[dI,cZ _ _ h,h]
def ai3{σ:aI}{y:Oper}{k:Key}(h:(iT y.op||jk y.op||hE y.op||uH σ.aK k y.op)=true){r:aS}{cC:List (Key×cV)}(av:res T G σ y=some (r,cC)):Qd k σ.objs (dI σ.objs cC):=by
 rcases xbD.1 h with h|h;.rw[XN h av];rfl
 unfold uH at h;split at h
 case h_2=>cases h
 rename_i t a x aP;obtain⟨bs,o,o',ab,rfl,af,_⟩:=Qe aP av;rw[ab]at h;simp only[bne_iff_ne,ne_eq]at h;show dI σ.objs [(bs,o')] k=σ.objs k;rw[EU,xaa (λe=>h e.symm)]
theorem By.refl(o:cF):By o o:=λk n es h=>⟨es,h,rfl⟩
def ai4{σ:aI}{y:Oper}(h:(iT y.op||jk y.op||hE y.op||KP y.op)=true){r:aS}{cC:List (Key×cV)}(av:res T G σ y=some (r,cC)):By σ.objs (dI σ.objs cC):=by
 rcases xbD.1 h with h|h;.rw[XN h av];exact By.refl _
 unfold KP at h;split at h
 case h_2=>cases h
 rename_i t a x aP;obtain⟨bs,o,o',ab,rfl,af,aw⟩:=Qe aP av;intro k n es ak;rw[EU];by_cases e:k=bs
 .subst e;rw[xad rfl];rw[af]at ak;rcases aw with⟨c,jj,rfl,rfl⟩|⟨m,aAm,ai5,rfl,rfl,ar⟩
  .cases ak
  cases ak;exact⟨ai5,rfl,ar⟩
 rw[xaa e];exact⟨es,ak,rfl⟩
def Looks(T:ch)(G:dr)(x:Oper)(aK:Nat->aS)(o:cF)(R:cF->Prop):Prop:=∀r cC,res T G ⟨aK,o⟩ x=some (r,cC)->cC=[]/\∀o',R o'->res T G ⟨aK,o'⟩ x=some (r,[])
def KQ{x y:Oper}{σ:aI}{K:aI->Prop}{R:cF->Prop}(mS:x.guard=none)(ED:hE x.op=false)(hF:x.apart all y=true)(ar:Looks T G x σ.aK σ.objs R)(au:R σ.objs)(ff:∀r cC,res T G σ y=some (r,cC)->R (dI σ.objs cC)) (h:eA P T G all x (λgD=>eA P T G all y K gD) σ):eA P T G all y (λgj=>eA P T G all x K gj) σ:=by
 obtain⟨an,ba,b2⟩:=Oper.apart_spec hF;have mQ:∀d,y.dst=some d->x.dst≠some d:=λd aA ag=>ba d ag aA;have ln:∀(K:aI->Prop) σ,eA P T G all x K σ=dc P T G x K σ:=λK σ=>by unfold eA;simp only[mS]
 simp only[ln]at h⊢;have Pq:res T G σ x≠none:=by intro aL;rw[nO aL]at h;have:=yc h;rw[ED]at this;cases this
 obtain⟨p,aU⟩:=Option.ne_none_iff_exists'.1 Pq;obtain⟨r,cC⟩:=p;obtain⟨rfl,af⟩:=ar r cC aU;have ab:eA P T G all y K (σ.put x.dst r):=by rw[mn aU]at h;exact h
 have ES:∀(K:aI->Prop) objs,R objs->dc P T G x K ⟨σ.aK,objs⟩=K (aI.put ⟨σ.aK,objs⟩ x.dst r):=λK objs aG=>mn (af objs aG);rw[hM,ou an]at ab;rw[hM];split at ab
 .rename_i hw
  try simp only[hw]
  rw[jJ an ba]at ab;refine ai2 au ff (λobjs q aG ak=>?_) ab;rw[jJ b2 mQ,ES _ _ aG,put_comm ba];exact ak
 .rename_i hw
  try simp only[hw]
  show dc P T G x K (σ.put y.dst _);rw[jJ b2 mQ];have e:dc P T G x (λaW=>K (aW.put y.dst (.d (.val (.tuple #[]))))) σ=K ((σ.put x.dst r).put y.dst (.d (.val (.tuple #[])))):=ES (λaW=>K (aW.put y.dst (.d (.val (.tuple #[]))))) σ.objs au;rw[e];exact ab
 exact ab.elim
def XO{aK:Nat->aS}{x:Operand}(h:uG aK x=true):∃d,cj G aK x= .d d:=by
 unfold uG at h;split at h
 .split at h;.rename_i d aA;exact⟨d,aA⟩
  cases h
 .exact⟨_,rfl⟩
 cases h
def ai6(o o':cF)(x:D):mO o (.d x)=mO o' (.d x):=by
 unfold mO;split<;>first|rfl|(rename_i h;cases h)|skip
 all_goals rfl
def EV{aK:Nat->aS}{x:Operand}(h:ql aK x=true):(∃d,cj G aK x= .d d)\/∃cs off,cj G aK x= .ew cs off:=by
 cases x with
 |tmp a=>simp only[ql]at h;show(∃d,aK a= .d d)\/∃cs off,aK a= .ew cs off;generalize aK a=v at h;cases v<;>first|exact .inl ⟨_,rfl⟩|exact .inr ⟨_,_,rfl⟩|cases h
 |_=>cases h
def XP(o o':cF)(x:D):kf o (.d x)=kf o' (.d x):=by
 unfold kf;split<;>first|rfl|(rename_i h;cases h)|skip
 all_goals rfl
theorem ai7(o o':cF)(cs:List D)(off:Nat):kf o (.ew cs off)=kf o' (.ew cs off):=rfl
def ai8{aK:Nat->aS}{op:Op}(h:uI aK op=true)(o o':cF):dH T (cj G aK) o op=dH T (cj G aK) o' op:=by
 cases op<;>simp only[uI,xav]at h
 case load t a=>rcases EV (G:=G) h with⟨d,e⟩|⟨cs,off,e⟩<;>simp only[dH,e]
 case indexAddr t x i=>
  rcases EV (G:=G) h with⟨d,e⟩|⟨cs,off,e⟩;.simp only[dH,e];cases d<;>rfl
  simp only[dH,e]
 case lookup t m k ok=>
  rcases EV (G:=G) h with⟨d,e⟩|⟨cs,off,e⟩
  .simp only[dH,e];split
   .cases d<;>first|rfl|skip
    rename_i v;cases v<;>first|rfl|skip
    rename_i q;cases q<;>rfl
   rfl
  simp only[dH,e]
 case slice t x lo ah hz=>
  cases hz with
  |some _=>cases h
  |none=>
   simp only at h;rcases EV (G:=G) h with⟨d,e⟩|⟨cs,off,e⟩
   .simp only[dH,e,XP o o' d];cases d<;>rfl
   simp only[dH,e,ai7 o o' cs off]
 case call c=>
  obtain⟨callee,args,dJ⟩:=c;cases callee with
  |value=>rfl|invoke=>rfl
  |builtin b=>
   cases b<;>first|rfl|skip
   simp only at h;simp only[dH];split
   .rename_i t x aJ aZ;rw[aZ]at h;simp only[xbP,List.all_nil,xbo]at h;rcases EV (G:=G) h with⟨d,e⟩|⟨cs,off,e⟩
    .simp only[e];cases bf:T t with
     |none=>rfl
     |some i=>
      obtain⟨aO,s,b,z⟩:=i;cases aO
      case map k q=>
       cases d
       case val v=>
        cases v
        case map r=>cases r<;>rfl
        all_goals rfl
       all_goals rfl
      case slice q=>simp only[XP o o' d]
      case string=>
       cases d
       case val v=>cases v<;>rfl
       all_goals rfl
      all_goals rfl
    simp only[e];cases bf:T t with|none=>rfl|some i=>obtain⟨aO,s,b,z⟩:=i;cases aO<;>rfl
   rfl
def XQ{aK:Nat->aS}{op:Op}(h:uI aK op=true):jk op=true:=by
 cases op<;>simp only[uI,xav]at h<;>first|rfl|skip
 case call c=>
  obtain⟨callee,args,dJ⟩:=c;cases callee with
  |value=>cases h
  |invoke=>cases h
  |builtin b=>cases b<;>first|rfl|cases h
def ai9{x:Oper}{aK:Nat->aS}{o:cF}(h:uI aK x.op=true):Looks T G x aK o (λ_=>True):=by
 intro r cC av;have hm:=XQ h;unfold res at av;split at av
 .rename_i u hu;cases av;refine⟨rfl,λo' _=>?_⟩;unfold res;simp only[hu]
 rename_i aU;split at av;.rename_i u hu;cases av;refine⟨rfl,λo' _=>?_⟩;unfold res;simp only at hu;simp only[aU,ai8 h o' o,hu]
 rw[Bl hm]at av;cases av
def aja{x:Oper}{op:BinOp}{t:TypeId}{a b:Operand}{q:TypeId}(ag:x.op= .binOp op t a b q){aK:Nat->aS}{o:cF}(aF:uG aK a=true)(aj:uG aK b=true):Looks T G x aK o (λ_=>True):=by
 intro r cC av;obtain⟨d1,aJ⟩:=XO (G:=G) aF;obtain⟨d2,aZ⟩:=XO (G:=G) aj;unfold res at av;rw[ag]at av;cases aU:eZ T (cj G aK) (.binOp op t a b q)with
 |some u=>rw[aU]at av;cases av;refine⟨rfl,λo' _=>?_⟩;unfold res;rw[ag,aU]
 |none=>
  rw[aU]at av;simp only at av;have hm:∀o',dH T (cj G aK) o' (.binOp op t a b q)=dH T (cj G aK) o (.binOp op t a b q):=by intro o';simp only[dH,aJ,aZ,ai6 o' o]
  cases hd:dH T (cj G aK) o (.binOp op t a b q)with
  |some u=>rw[hd]at av;cases av;refine⟨rfl,λo' _=>?_⟩;unfold res;rw[ag,aU];simp only[hm o',hd]
  |none=>rw[hd]at av;simp[hg,et]at av
def ajb{x:Oper}{t:TypeId}{a:Operand}{k:Key}(ag:x.op= .load t a){aK:Nat->aS}{o:cF}(aF:keyOf aK a=some k):Looks T G x aK o (Qd k o):=by
 intro r cC av;have he:Bx (cj G aK a)=some k:=by rw[Qc];exact aF
 unfold res at av;rw[ag]at av;simp only[eZ]at av;have hm:∀o',o' k=o k->dH T (cj G aK) o' (.load t a)=dH T (cj G aK) o (.load t a):=by
  intro o' aG;simp only[dH];generalize cj G aK a=v at he⊢;cases v<;>simp only[Bx,reduceCtorEq,xaN]at he;.subst he;simp only[aG]
  subst he;simp only[aG]
 cases hd:dH T (cj G aK) o (.load t a)with
 |some u=>rw[hd]at av;cases av;refine⟨rfl,λo' aG=>?_⟩;unfold res;rw[ag];simp only[eZ,hm o' aG,hd]
 |none=>rw[hd]at av;simp[hg,et]at av
def ajc{x:Oper}{t:TypeId}{a b:Operand}(ag:x.op= .indexAddr t a b){aK:Nat->aS}{o:cF}:Looks T G x aK o (By o):=by
 intro r cC av;unfold res at av;rw[ag]at av;simp only[eZ]at av;cases hd:dH T (cj G aK) o (.indexAddr t a b)with
 |some u=>
  rw[hd]at av;cases av;refine⟨rfl,λo' aG=>?_⟩;have hm:dH T (cj G aK) o' (.indexAddr t a b)=some r:=by
   simp only[dH]at hd⊢;split at hd
   .split at hd
    .split at hd
     .rename_i aL;rw[xad aL];split at hd<;>first|exact hd|skip
      rename_i key a6;cases ak:o key with
      |none=>rw[ak]at hd;cases hd
      |some hA=>
       cases hA with
       |row k es=>obtain⟨hc,ab,af⟩:=aG key k es ak;rw[ak]at hd;rw[ab];simp only[af]at hd⊢;exact hd
       |dead=>rw[ak]at hd;cases hd
       |box=>rw[ak]at hd;cases hd
       |map=>rw[ak]at hd;cases hd
     cases hd
    cases hd
   .exact hd
   cases hd
  unfold res;rw[ag];simp only[eZ,hm]
 |none=>rw[hd]at av;simp[hg,et]at av
def ajd{o:cF}{k bs:Key}{a b:cV}(h:k≠bs):dI (dI o [(k,a)]) [(bs,b)]=dI (dI o [(bs,b)]) [(k,a)]:=by
 funext j
 simp only[EU];by_cases ab:j=k<;>by_cases af:j=bs<;>simp_all
def XR{y:Oper}{t:TypeId}{a x:Operand}{k:Key}(aP:y.op= .store t a x){aK:Nat->aS}{o o':cF}(aF:keyOf aK a=some k)(aG:o' k=o k):res T G ⟨aK,o'⟩ y=res T G ⟨aK,o⟩ y:=by
 have he:Bx (cj G aK a)=some k:=by rw[Qc];exact aF
 unfold res;rw[aP];simp only[eZ,dH,W2,et];generalize cj G aK a=v at he⊢;cases v<;>simp only[Bx,reduceCtorEq,xaN]at he;.subst he;simp only[aG]
 subst he;simp only[aG]
def aje{x y:Oper}{σ:aI}{K:aI->Prop}{t t':TypeId}{a cD v kC:Operand}{k bs:Key}(ag:x.op= .store t a v)(aP:y.op= .store t' cD kC)(aF:keyOf σ.aK a=some k)(KR:keyOf σ.aK cD=some bs)(cR:bs≠k) (mS:x.guard=none) (hF:x.apart all y=true) (h:eA P T G all x (λgD=>eA P T G all y K gD) σ):eA P T G all y (λgj=>eA P T G all x K gj) σ:=by
 obtain⟨an,ba,b2⟩:=Oper.apart_spec hF;have mQ:∀d,y.dst=some d->x.dst≠some d:=λd aA ag=>ba d ag aA;have ln:∀(K:aI->Prop) σ,eA P T G all x K σ=dc P T G x K σ:=λK σ=>by unfold eA;simp only[mS]
 simp only[ln]at h⊢;have XS:∀{z:Oper}{tt:TypeId}{p q:Operand}{τ:aI}{K':aI->Prop},z.op= .store tt p q->dc P T G z K' τ->∃r cB gb,res T G τ z=some (r,[(cB,gb)])/\keyOf τ.aK p=some cB/\K' (τ.step z.dst r [(cB,gb)]):=by
  intro z tt p q τ K' bC bI;cases av:res T G τ z with
  |none=>rw[nO av]at bI;have:=yc bI;rw[bC]at this;cases this
  |some u=>obtain⟨r,cC⟩:=u;obtain⟨cB,o,gb,bA,rfl,_,_⟩:=Qe bC av;exact⟨r,cB,gb,rfl,bA,by rw[mn av]at bI;exact bI⟩
 obtain⟨r,cB,gb,bA,bB,cz⟩:=XS ag h;rw[aF]at bB;cases bB;have yo:eA P T G all y K (aI.put ⟨σ.aK,dI σ.objs [(k,gb)]⟩ x.dst r):=cz;have XT:∀(kI:cF),kI k=σ.objs k->∀K':aI->Prop,dc P T G x K' ⟨σ.aK,kI⟩=K' (aI.put ⟨σ.aK,dI kI [(k,gb)]⟩ x.dst r):=by
  intro kI aG K';have:res T G ⟨σ.aK,kI⟩ x=some (r,[(k,gb)]):=by rw[XR ag aF aG];exact bA
  exact mn this
 rw[hM,ou an]at yo;rw[hM];have ajf:j2 all ⟨σ.aK,dI σ.objs [(k,gb)]⟩ y=j2 all σ y:=rfl;rw[ajf]at yo;split at yo
 .rename_i hw
  try simp only[hw]
  rw[jJ an ba]at yo;obtain⟨ef,dx,kI,dE,di,eY⟩:=XS aP yo;have XU:keyOf σ.aK cD=some dx:=di;rw[KR]at XU;cases XU;have ajg:res T G σ y=some (ef,[(bs,kI)]):=by rw[<-dE];exact(XR (T:=T) (G:=G) aP (o:=σ.objs) (o':=dI σ.objs [(k,gb)]) KR (by rw[EU,xaa cR])).symm
  rw[mn ajg];show dc P T G x K (aI.put ⟨σ.aK,dI σ.objs [(bs,kI)]⟩ y.dst ef);rw[jJ b2 mQ,XT _ (by rw[EU,xaa (λe=>cR e.symm)]),put_comm ba,ajd cR];exact eY
 .rename_i hw
  try simp only[hw]
  show dc P T G x K (σ.put y.dst _);rw[jJ b2 mQ];have e:=XT σ.objs rfl (λaW=>K (aW.put y.dst (.d (.val (.tuple #[])))));have dw:dc P T G x (λaW=>K (aW.put y.dst (.d (.val (.tuple #[]))))) σ=_:=e;rw[dw];exact yo
 exact yo.elim
def ajh{x y:Oper}{σ:aI}{K:aI->Prop}(mS:x.guard=none)(hF:x.apart all y=true)(h:sT σ.aK x y=true)(H:eA P T G all x (λgD=>eA P T G all y K gD) σ):eA P T G all y (λgj=>eA P T G all x K gj) σ:=by
 unfold sT at h;rcases xbD.1 h with h|h
 .rcases xbD.1 h with h|h;.exact swap hF h H
  refine KQ mS ?_ hF (ai9 h) trivial (λ_ _ _=>trivial) H;cases ao:hE x.op with|false=>rfl|true=>have:=EA ao;rw[XQ h]at this;cases this.2.1
 split at h;.rename_i op t a b q ag;rw[xal]at h;exact KQ mS (by rw[ag];rfl) hF (aja ag h.1 h.2) trivial (λ_ _ _=>trivial) H
 .rename_i t a ag;split at h
  case h_2=>cases h
  rename_i k ak;simp only[xbd]at h;have other:(iT y.op||jk y.op||hE y.op||uH σ.aK k y.op)=true->eA P T G all y (λgj=>eA P T G all x K gj) σ:=λbD=>KQ mS (by rw[ag];rfl) hF (ajb ag ak) (rfl:Qd k σ.objs σ.objs) (λ_ _ av=>ai3 bD av) H
  rcases h with(((h|h)|h)|h)|h
  .rw[xal]at h;obtain⟨ab,af⟩:=h;unfold ET at ab;split at ab
   case h_2=>cases ab
   rename_i ae;split at ab
   case h_2=>cases ab
   rename_i EW off aH;refine XM ag mS aH ?_ hF H;intro t' cD kC he;rw[he]at af;cases af
  .exact other (by simp[h])
  .exact other (by simp[h])
  .exact other (by simp[h])
  exact other (by simp[h])
 .rename_i t a b ag;exact KQ mS (by rw[ag];rfl) hF (ajc ag) (By.refl _) (λ_ _ av=>ai4 h av) H
 .rename_i t a v ag;split at h
  case h_2=>cases h
  rename_i k ak;unfold uH at h;split at h
  case h_2=>cases h
  rename_i t' cD kC aP;split at h
  case h_2=>cases h
  rename_i bs fO;exact aje ag aP ak fO (by simpa using h) mS hF H
 cases h
def mT:Op->List Tmp
 | .binOp _ _ a b _=>(match a with| .tmp t=>[t]|_=>[])++(match b with| .tmp t=>[t]|_=>[])
 | .load _ (.tmp a)=>[a]| .store _ (.tmp a) _=>[a]| .indexAddr _ (.tmp a) _=>[a]| .lookup _ (.tmp a) _ _=>[a]| .slice _ (.tmp a) _ _ _=>[a]| .call ⟨.builtin .len,args,_⟩=>args.toList.filterMap λx=>match x with| .tmp t=>some t|_=>none
 |_=>[]
def uJ:Op->List Tmp
 | .store _ (.tmp a) _=>[a]|_=>[]
theorem Qf{s s':Nat->aS}{x:Operand}(h:∀t,x= .tmp t->s t=s' t):keyOf s x=keyOf s' x:=by cases x with|tmp t=>simp only[keyOf,h t rfl]|_=>rfl
theorem XV{s s':Nat->aS}{x:Operand}(h:∀t,x= .tmp t->s t=s' t):uG s x=uG s' x:=by cases x with|tmp t=>simp only[uG,h t rfl]|_=>rfl
theorem aji{s s':Nat->aS}{x:Operand}(h:∀t,x= .tmp t->s t=s' t):ET s x=ET s' x:=by cases x with|tmp t=>simp only[ET,h t rfl]|_=>rfl
def ajj{s s':Nat->aS}{x y:Oper}(h:∀t,t∈mT x.op\/t∈uJ y.op->s t=s' t):sT s x y=sT s' x y:=by
 have aP:∀k,uH s k y.op=uH s' k y.op:=by
  intro k;unfold uH;split;.rename_i t a v he;rw[Qf (s:=s) (s':=s') (x:=a) (λq bj=>h q (.inr (by rw[he,bj];simp[uJ])))]
  rfl
 have aA:uI s x.op=uI s' x.op:=by
  have ag:∀t,t∈mT x.op->s t=s' t:=λt aM=>h t (.inl aM);generalize x.op=op at ag;have one:∀a:Operand,(∀t,a= .tmp t->t∈mT op)->ql s a=ql s' a:=by intro a aF;cases a with|tmp t=>simp only[ql,ag t (aF t rfl)]|_=>rfl
  cases op<;>simp only[uI]
  case load t a=>exact one a (by rintro t rfl;simp[mT])
  case indexAddr t a i=>exact one a (by rintro t rfl;simp[mT])
  case lookup t a k ok=>exact one a (by rintro t rfl;simp[mT])
  case slice t a lo ah hz=>
   cases hz with
   |none=>exact one a (by rintro t rfl;simp[mT])
   |some _=>rfl
  case call c=>
   obtain⟨callee,args,dJ⟩:=c;cases callee with
   |value=>rfl|invoke=>rfl
   |builtin b=>
    cases b<;>first|rfl|skip
    simp only;rw[Bool.eq_iff_iff,xaz,xaz];have aF:∀a∈args.toList,ql s a=ql s' a:=λa aF=>one a (by rintro t rfl;simp only[mT,List.mem_filterMap];exact⟨_,aF,rfl⟩);exact⟨λh a hm=>by rw[<-aF a hm];exact h a hm,λh a hm=>by rw[aF a hm];exact h a hm⟩
 unfold sT;rw[aA]
 congr 1
 split;.rename_i op t a b q ag;have aF:∀t,a= .tmp t->s t=s' t:=λt aM=>h t (.inl (by rw[ag,aM];simp[mT]));have aj:∀t,b= .tmp t->s t=s' t:=λt aM=>h t (.inl (by rw[ag,aM];simp[mT]));rw[XV aF,XV aj]
 .rename_i t a ag;have aF:∀t,a= .tmp t->s t=s' t:=λt aM=>h t (.inl (by rw[ag,aM];simp[mT]));rw[Qf aF,aji aF];split
  .rw[aP]
  rfl
 .rfl
 .rename_i t a v ag;have aF:∀t,a= .tmp t->s t=s' t:=λt aM=>h t (.inl (by rw[ag,aM];simp[mT]));rw[Qf aF];split
  .rw[aP]
  rfl
 rfl
def ajk{y:Oper}{σ:aI}{K:aI->Prop}{L:List Tmp}(aA:∀a∈L,y.dst≠some a)(h:eA P T G all y K σ):eA P T G all y (λaW=>(∀a∈L,aW.aK a=σ.aK a)/\K aW) σ:=by
 have aU:∀(objs:cF)(r:aS),∀a∈L,(aI.put ⟨σ.aK,objs⟩ y.dst r).aK a=σ.aK a:=λobjs r a aF=>by
  cases aP:y.dst with
  |none=>rfl
  |some d=>
   have:a≠d:=by rintro rfl;exact aA a aF aP
   simp only[aI.put,cZ _ _ this]
 rw[hM]at h⊢;split at h
 .rename_i hw
  try simp only[hw]
  exact wo (λobjs r ak=>⟨aU objs r,ak⟩) h
 .rename_i hw
  try simp only[hw]
  exact⟨aU σ.objs _,h⟩
 exact h.elim
def ajl{x:Oper}{σ:aI}{p:Prop}(h:eA P T G all x (λ_=>p) σ):p:=by
 rw[hM]at h;split at h
 .unfold dc at h;split at h;.exact h
  unfold jI at h;split at h
  .split at h;.obtain⟨_,_,_,_,_,_,⟨r,nP⟩,_,q⟩:=h;exact q r (by rw[nP])
   exact h.elim
  exact h.elim
 .exact h
 exact h.elim
def ajm{K:aI->Prop}{i:Nat}{fv:Oper}(ah:all[i]?=some fv)(mS:fv.guard=none){B:List Nat}(gL:∀j c8,j∈B->all[j]?=some c8->∃e∈c8.after,Region.binds .any e=true/\(e.on=i\/e.on∈B)){s0:Nat->aS}{L:List Tmp}(ajn:∀t∈mT fv.op,t∈L): ∀(fuel:Nat)(listed:Array Bool)(σ:aI),(∀t∈L,σ.aK t=s0 t)->(∀j,j∈B->listed.getD j true=false)->(∀j c8,all[j]?=some c8->j≠i->listed.getD j true=false->j∉B->fv.apart all c8=true/\sT s0 fv c8=true/\(∀t∈L,c8.dst≠some t)/\∀t∈uJ c8.op,t∈L)->i∈Region.ready .any all listed->hY P T G all i (jl P T G all K fuel (listed.setIfInBounds i true)) σ->jl P T G all K (fuel+1) listed σ:=by
 intro fuel
 induction fuel with
 |zero=>
  intro listed σ ei re ov av H;refine⟨λh=>(by rw[h]at av;cases av),λj aN=>?_⟩;by_cases jd:j=i;.subst jd;exact H
  have hm:=ready_mono aN jd;exfalso;have key:Region.ready .any all (listed.setIfInBounds i true)=[]:=by have Qg:=wq (K':=λ_=>Region.ready .any all (listed.setIfInBounds i true)=[]) (λaW bD=>bD.1) H;unfold hY at Qg;simp only[ah]at Qg;exact ajl Qg
  rw[key]at hm;cases hm
 |succ fuel ih=>
  intro listed σ ei re ov av H;refine⟨λh=>(by rw[h]at av;cases av),λj aN=>?_⟩;by_cases jd:j=i;.subst jd;exact H
  obtain⟨wu,c8,jm,gB⟩:=xbK.1 aN;have uq:∀k,listed.getD k true=false->listed[k]?.getD false=true->False:=λk au ab=>by
   rcases Nat.lt_or_ge k listed.size with bD|bD;.simp[bD]at au ab;rw[au]at ab;cases ab
   simp[Array.getElem?_eq_none bD]at ab
  have wv:j∉B:=λEJ=>by
   obtain⟨e,he,aj,mR⟩:=gL j c8 EJ jm;have ab:=gB e he aj;rcases mR with mR|mR
   .rw[mR]at ab;exact uq i (xbK.1 av).1 (by simpa using ab)
   exact uq _ (re _ mR) (by simpa using ab)
  obtain⟨dE,di,eY,jn⟩:=ov j c8 jm jd wu wv;have ab:hY P T G all i (λgD=>hY P T G all j (jl P T G all K fuel ((listed.setIfInBounds i true).setIfInBounds j true)) gD) σ:=wq (λgD uB=>uB.2 j (ready_mono aN jd)) H;have af:hY P T G all j (λgj=>(∀a∈L,gj.aK a=σ.aK a)/\hY P T G all i (jl P T G all K fuel ((listed.setIfInBounds i true).setIfInBounds j true)) gj) σ:=by
   unfold hY at ab⊢;simp only[ah,jm]at ab⊢;have bk:sT σ.aK fv c8=true:=by
    rw[<-di];refine ajj λt aM=>ei t ?_;rcases aM with aM|aM
    .exact ajn t aM
    exact jn t aM
   exact ajk eY (ajh mS dE bk ab)
  have EK:∀k ok,all[k]?=some ok->k≠i->(listed.setIfInBounds j true).getD k true=false->k∉B->fv.apart all ok=true/\sT s0 fv ok=true/\(∀t∈L,ok.dst≠some t)/\∀t∈uJ ok.op,t∈L:=λk ok ak rf ow iv=>by
   refine ov k ok ak rf ?_ iv;by_cases gC:j=k;.subst gC;exact wu
   rw[getD_set_ne true gC]at ow;exact ow
  refine wq (λgj aw=>ih (listed.setIfInBounds j true) gj (λt aM=>(aw.1 t aM).trans (ei t aM)) (λk ak=>by
   have gC:j≠k:=by rintro rfl;exact wv ak
   rw[getD_set_ne true gC];exact re k ak) EK (ready_mono av (Ne.symm jd)) ?_) af
  rw[Array.setIfInBounds_comm _ _ jd];exact aw.2
end
structure V where
 name:ByteArray
 bool:Bool
 lo:Int
 ah:Int
def V.cells(v:V):List D:=[aC v.name,ay v.bool,J v.lo,J v.ah]
def V.d(v:V):D:= .agg v.cells
def bl(l:List V):D:= .ax 4 (l.map V.cells)
def pt(n:Int):D:= .val (.int .u8 n)
def oy(n:Int):Prop:=-9223372036854775808<=n/\n<=9223372036854775807
def V.ok(v:V):Prop:=oy v.lo/\oy v.ah/\v.name.size<=9223372036854775807
def V.span(v:V):Int:=if v.bool then 2 else if v.lo>v.ah then 0 else if v.ah-v.lo<1073741824 then v.ah-v.lo+1 else 1073741825
def bitsOf(n:Int):Nat:=if n<=1 then 0 else Nat.log2 (n-1).toNat+1
def ajo{n:Int}{k:Nat}(ab:∀j:Nat,j<k->(2:Int)^j<n)(af:n<=2^k):bitsOf n=k:=by
 unfold bitsOf;cases k with
 |zero=>simp at af;simp[af]
 |succ k=>
  have aw:=ab k (by omega);have aU:(0:Int)<2^k:=Int.pow_pos (by omega);rw[xaa (by omega)];have e:Nat.log2 (n-1).toNat=k:=by
   have aF:(2:Nat)^k<=(n-1).toNat:=by
    have:((2^k:Nat):Int)=2^k:=by simp
    omega
   have aj:(n-1).toNat<2^(k+1):=by
    have:((2^(k+1):Nat):Int)=2^(k+1):=by simp
    omega
   exact(Nat.log2_eq_iff (by have:=Nat.two_pow_pos k;omega)).2 ⟨aF,aj⟩
  omega
def XW{n:Int}(h:1<n):bitsOf n=bitsOf (n/2+n%2)+1:=by
 unfold bitsOf;rw[xaa (by omega)];by_cases af:n=2;.subst af;decide
 rw[xaa (by omega)];have e:(n/2+n%2-1).toNat=(n-1).toNat/2:=by omega
 rw[e];have aw:(n-1).toNat≠0:=by omega
 have a5:(n-1).toNat/2≠0:=by omega
 obtain⟨a,b⟩:=(Nat.log2_eq_iff a5).1 rfl;have:Nat.log2 (n-1).toNat=Nat.log2 ((n-1).toNat/2)+1:=by
  refine(Nat.log2_eq_iff aw).2 ⟨?_,?_⟩;.rw[Nat.pow_succ];omega
  rw[Nat.pow_succ];omega
 omega
def sU(c:Int):Bool:=(decide (c>=97)&&decide (c<=122))||(decide (c>=65)&&decide (c<=90))
def yp(c:Int):Bool:=decide (c>=48)&&decide (c<=57)
def mU(c:Int):Bool:=sU c||yp c||(c==95)
def XX{lo ah:Int}(ab:oy lo)(af:oy ah)(h:lo<=ah):IntKind.u64.wrap (IntKind.u64.wrap ah-IntKind.u64.wrap lo)=ah-lo:=by unfold oy at ab af;simp only[IntKind.wrap_u64];omega
def V.XY{v:V}(h:v.bool=true):v.span=2:=by simp[V.span,h]
def V.XZ{v:V}(h:v.bool=false)(ab:v.lo>v.ah):v.span=0:=by simp[V.span,h,ab]
def V.Qh{v:V}(h:v.bool=false)(ab:v.lo<=v.ah)(af:v.ah-v.lo<1073741824):v.span=v.ah-v.lo+1:=by simp[V.span,h,af];omega
def V.Qi{v:V}(h:v.bool=false)(ab:v.lo<=v.ah)(af:1073741824<=v.ah-v.lo):v.span=1073741825:=by simp[V.span,h,af];omega
def has(x:ByteArray)(l:List ByteArray):Bool:=l.any λy=>decide (y=x)
def idxOf(x:ByteArray)(l:List ByteArray):Int:=match l.findIdx? (λy=>decide (y=x))with|some i=>(i:Nat)|none=>-1
def X0{x:ByteArray}{l:List ByteArray}(h:∀j:Nat,j<l.length->l[j]?≠some x):idxOf x l=-1:=by
 unfold idxOf;have:l.findIdx? (λy=>decide (y=x))=none:=by rw[List.findIdx?_eq_none_iff];intro y aP;obtain⟨j,aN⟩:=xaU.1 aP;have ab:=h j (xae.1 aN).1;rw[aN]at ab;simpa using ab
 rw[this]
def X1{x:ByteArray}{l:List ByteArray}{i:Nat}(h:∀j:Nat,j<i->l[j]?≠some x)(ah:l[i]?=some x):idxOf x l=i:=by
 unfold idxOf;obtain⟨ca,cP⟩:=xae.1 ah;have:l.findIdx? (λy=>decide (y=x))=some i:=by rw[xbh];refine⟨ca,by simpa using cP,λj aN=>?_⟩;have ab:=h j aN;rw[xab (by omega)]at ab;simpa using ab
 rw[this]
def X2(x:ByteArray)(l:List ByteArray):decide (idxOf x l>=0)=has x l:=by
 unfold idxOf has;cases h:l.findIdx? (λy=>decide (y=x))with
 |none=>
  rw[List.findIdx?_eq_none_iff]at h;have:l.any (λy=>decide (y=x))=false:=by rw[List.any_eq_false];intro y aP;simpa using h y aP
  rw[this];rfl
 |some i=>obtain⟨ab,af,_⟩:=xbh.1 h;have:l.any (λy=>decide (y=x))=true:=xbs.2 ⟨_,xaY ab,af⟩;rw[this];simp
def X3{x:ByteArray}{l:List ByteArray}{i:Nat}(h:l[i]?=some x):has x l=true:=xbs.2 ⟨x,xac h,by simp⟩
def X4{x:ByteArray}{l:List ByteArray}(h:∀j:Nat,j<l.length->l[j]?≠some x):has x l=false:=by unfold has;rw[List.any_eq_false];intro y aP;obtain⟨j,aN⟩:=xaU.1 aP;have ab:=h j (xae.1 aN).1;rw[aN]at ab;simpa using ab
def oz(p:Int->Bool)(s:ByteArray)(i:Nat):Bool:=match s[i]? with|some b=>p b.toNat|none=>false
def nR(p:Int->Bool)(s:ByteArray):Nat:=((List.range (s.size+1)).find? λi=>!oz p s i).getD 0
theorem KS{s:ByteArray}{i:Nat}:s[i]?=if h:i<s.size then some s[i]else none:=rfl
def ajp{p:Int->Bool}{s:ByteArray}{i:Nat}(h:oz p s i=true):i<s.size:=by
 unfold oz at h;rw[KS]at h;by_cases ab:i<s.size;.exact ab
 rw[dif_neg ab]at h;cases h
def words:List ByteArray:=[⟨#[65]⟩,⟨#[65,70]⟩,⟨#[65,71]⟩,⟨#[65,88]⟩,⟨#[69]⟩,⟨#[69,70]⟩,⟨#[69,71]⟩,⟨#[69,88]⟩,⟨#[85]⟩,⟨#[98,111,111,108]⟩,⟨#[100,101,102]⟩,⟨#[101,108,115,101]⟩,⟨#[102,97,105,114]⟩,⟨#[102,97,108,115,101]⟩,⟨#[105,102]⟩,⟨#[105,110,105,116]⟩,⟨#[105,110,118,97,114]⟩,⟨#[109,111,100]⟩,⟨#[110,101,120,116]⟩,⟨#[115,112,101,99]⟩,⟨#[116,104,101,110]⟩,⟨#[116,114,97,110,115]⟩,⟨#[116,114,117,101]⟩,⟨#[118,97,114]⟩]
def isName(s:ByteArray):Bool:=decide ((s.size:Int)>=1)&&decide ((s.size:Int)<=24)&&oz sU s 0&&((nR mU s:Int)==(s.size:Int))&&!has s words
def X5(s:ByteArray):(decide (s=⟨#[]⟩)=true/\decide ((s.size:Int)>=1)=false)\/∃b,decide (s=⟨#[]⟩)=false/\decide ((s.size:Int)>=1)=true/\s[0]?=some b:=by
 by_cases h:0<s.size
 .refine .inr ⟨s[0],?_,?_,?_⟩
  .have:s≠⟨#[]⟩:=by rintro rfl;exact absurd h (by decide)
   simpa using this
  .simp;omega
  rw[KS,dif_pos h]
 refine .inl ⟨?_,?_⟩
 .have au:s.size=0:=by omega
  have:s=⟨#[]⟩:=by
   cases s with|mk d=>
   congr 1
   exact xbf au
  simpa using this
 simp;omega
def wD(v:V):Bool:=decide ((if v.ah>v.lo then v.ah else v.lo)>255)||decide ((if v.ah<v.lo then v.ah else v.lo)< -255)
def Bz(seen:List V)(v:V):Int:=if !isName v.name then 12 else if has v.name (seen.map V.name)then 6 else if v.bool&&(v.lo !=0||v.ah !=0)then 3
 else if !v.bool&&(decide (v.lo>v.ah)||wD v||decide (IntKind.i64.wrap (v.ah-v.lo)>=64))then 2 else 0
def jo(l:List V)(i:Nat):Int:=match l[i]? with|some v=>Bz (l.take i) v|none=>0
def kl(l:List V):Int×Int:=match(List.range l.length).find? (λi=>jo l i !=0)with|some i=>((i:Int),jo l i)|none=>(0,0)
def X6{l:List V}{i:Nat}{e:Int}(h:∀j:Nat,j<i->jo l j=0)(ah:i<l.length)(he:jo l i=e)(au:e≠0):kl l=((i:Int),e):=by
 unfold kl;have:(List.range l.length).find? (λi=>jo l i !=0)=some i:=by rw[List.find?_range_eq_some];exact⟨by simpa[he]using au,by simpa using ah,λj aN=>by simp[h j aN]⟩
 rw[this];simp[he]
def X7{l:List V}(h:∀j:Nat,j<l.length->jo l j=0):kl l=(0,0):=by
 unfold kl;have:(List.range l.length).find? (λi=>jo l i !=0)=none:=by rw[List.find?_eq_none];intro j aN;simp[h j (by simpa using aN)]
 rw[this]
def ajq{v:V}(a6:v.ok):(!v.bool&&(decide (v.lo>v.ah)||wD v||decide (IntKind.i64.wrap (v.ah-v.lo)>=64)))=(!v.bool&&(decide (v.lo>v.ah)||!(decide (v.lo>=-255)&&decide (v.lo<=255))||!(decide (v.ah>=-255)&&decide (v.ah<=255))||decide (v.span>64))):=by
 cases aj:v.bool with
 |true=>rfl
 |false=>
  by_cases ab:v.lo>v.ah;.simp[ab]
  have e7:v.lo<=v.ah:=by omega
  by_cases af:-255<=v.lo/\v.ah<=255
  .have aJ:wD v=false:=by
    unfold wD;split<;>(try split)<;>simp<;>omega
   have aZ:(decide (v.lo>=-255)&&decide (v.lo<=255))=true:=by simp;omega
   have bN:(decide (v.ah>=-255)&&decide (v.ah<=255))=true:=by simp;omega
   rw[V.Qh aj e7 (by omega),aJ,aZ,bN,wrap64 _ (by omega) (by omega)];have cO:decide (v.lo>v.ah)=false:=by simpa using e7
   have eg:decide (v.ah-v.lo>=64)=decide (v.ah-v.lo+1>64):=by rw[decide_eq_decide];omega
   rw[cO,eg];rfl
  have aJ:wD v=true:=by unfold wD;split<;>(try split)<;>simp<;>omega
  have aZ:(!(decide (v.lo>=-255)&&decide (v.lo<=255))||!(decide (v.ah>=-255)&&decide (v.ah<=255)))=true:=by simp;omega
  rw[aJ];revert aZ;generalize decide (v.lo>v.ah)=p;generalize (decide (v.lo>=-255)&&decide (v.lo<=255))=q;generalize (decide (v.ah>=-255)&&decide (v.ah<=255))=r;cases p<;>cases q<;>cases r<;>simp
def ajr{l:List V}{x:ByteArray}{i:Nat}(h:∀j:Nat,j<i->(l.map V.name)[j]?≠some x):has x ((l.take i).map V.name)=false:=by refine X4 λj aN=>?_;rw[List.map_take,xaP];simp at aN;rw[xad (by omega)];exact h j (by omega)
theorem ajs{l:List V}{w:V}{k i:Nat}(ak:k<i)(hw:l[k]?=some w):has w.name ((l.take i).map V.name)=true:=by refine X3 (i:=k) ?_;rw[List.map_take,xaP,xad ak,xaj,hw];rfl
end Go.Am
