/- Steps, joins, and nil slices that become rows of our own. No condition. -/
import Derived.Test.YthnecpgodmolaaaGreatDoorEngB
set_option linter.all false
set_option linter.unnecessarySimpa false
namespace Go.Am
section
variable{P:Program}{T:cd}{G:dn}{N:Nat}{σ:aI}{Q:Exit->aI->Prop}{all:Array Oper}
def ahH(l:List Oper):∀(k:Nat)(σ:aI)(K:aI->Prop),(∀j,l[j]?=all[k+j]?)->fV P T G all l K σ->AP P T G all (List.range' k l.length) K σ:=by
 induction l with
 |nil=>intro k σ K _ h;exact h
 |cons o l ih=>
  intro k σ K aq h;have au:all[k]?=some o:=by simpa using(aq 0).symm
  simp only[xap,List.range'_succ,AP,au];refine Ea (λaV tX=>ih (k+1) aV K (λj=>by have:=aq (j+1);simpa[xbf,Nat.add_comm 1 j]using this) tX) h
def ahI(bf:dQ P T)(hm:P.follows .mixedOrders=true){id:Nat}{ops:Array Oper}(cj:vT N ops=true)(AR:xQ T ops (List.range ops.size) (Array.replicate ops.size false)=true) (h:fV P T G ops ops.toList (Q .normal) σ):hl P T G N (.region id ops true) σ Q:=by refine aho bf hm cj (List.range ops.size) (by simp) AR ?_;rw[List.range_eq_range'];have:=ahH (P:=P) (T:=T) (G:=G) (all:=ops) ops.toList 0 σ (Q .normal) (λj=>by simp) h;simpa using this
end
section
variable{P:Program}{T:cd}{G:dn}{N:Nat}{σ gw:aI}{Q:Exit->aI->Prop}{id:Nat}{ops:Array Oper}
end
def wrap64(x:Int)(ab:-9223372036854775808<=x)(af:x<=9223372036854775807):IntKind.i64.wrap x=x:=by rw[IntKind.wrap_i64];omega
def Fin(T:cd)(rs:List ResultVar)(R:D->Prop)(e:Exit)(aV:aI):Prop:=(e= .normal\/e= .ret)/\∃r d x,qZ T aV rs=some r/\toD aV.objs r=some d/\d.le x/\R x
theorem getD_cons_zero{α:Type}(x:α)(l:List α)(d:α):(x::l).getD 0 d=x:=rfl
theorem getD_cons_succ{α:Type}(x:α)(l:List α)(n:Nat)(d:α):(x::l).getD (n+1) d=l.getD n d:=rfl
def WW{σ:aI}(K:Key)(n:Nat)(ub:Nat->aS)(objs':cG)(fi:σ.objs K=none) (aG:∀t,ub t=σ.aJ t\/σ.aJ t= .d (.val (.slice none 0 0))/\ub t= .row K) (aF:∀k o,objs' k=some o->k=K/\o= .row n []\/k≠K/\(σ.objs k=some o\/∃xs i,σ.objs k=some (.box xs)/\xs[i]?=some (.d (.val (.slice none 0 0)))/\o= .box (xs.set i (.row K)))) (om:∀k,σ.objs k≠none->objs' k≠none) (ahJ:objs' K=some (.row n [])) (ahK:∀k,eP (σ.objs k)->eP (objs' k)):g0 σ ⟨ub,objs'⟩:=by
 intro m fr ρ a w h;have cU:∀k,σ.used k->k≠K:=by rintro k ⟨o,ak⟩ rfl;rw[fi]at ak;cases ak
 have av:∀k,σ.used k->aI.used ⟨ub,objs'⟩ k/\cr ρ K (.slice none 0 0) k=ρ k:=λk ak=>
  ⟨by
   cases bJ:objs' k with
   |none=>exact absurd bJ (om k (by obtain⟨o,e⟩:=ak;rw[e];simp))
   |some o=>exact⟨o,bJ⟩,cX _ _ (cU k ak)⟩
 have ahL:aI.used ⟨ub,objs'⟩ K:=⟨_,ahJ⟩;have AX:cr ρ K (.slice none 0 0) K= .slice none 0 0:=by simp[cr]
 have nE:b5 m (cr ρ K (.slice none 0 0)) (aI.used ⟨ub,objs'⟩) (.row K) (.slice none 0 0):=by have:=b5.row (m:=m) (ρ:=cr ρ K (.slice none 0 0)) (U:=aI.used ⟨ub,objs'⟩) K ahL;rw[AX]at this;exact this
 refine⟨m,cr ρ K (.slice none 0 0),Mem.le_refl m,⟨h.mem,h.frame,h.apart,?_,?_,?_,?_,?_⟩,?_⟩
 .rintro k ⟨o,ak⟩;rcases aF k o ak with⟨rfl,rfl⟩|⟨ab,af⟩;.rw[AX];rfl
  rw[cX _ _ ab];rcases af with af|⟨xs,i,af,_,_⟩
  .exact h.one k ⟨_,af⟩
  exact h.one k ⟨_,af⟩
 .intro t;rcases aG t with e|⟨aL,aX⟩
  .show b5 m _ _ (ub t) _;rw[e];exact(h.aJ t).mono (Mem.le_refl m) av
  show b5 m _ _ (ub t) _;rw[aX];have:=h.aJ t;rw[aL]at this;rw[this.hS];exact nE
 .intro k o ak;rcases aF k o ak with⟨rfl,rfl⟩|⟨ab,af⟩
  .rw[AX];exact .inl ⟨rfl,rfl⟩
  rw[cX _ _ ab];rcases af with af|⟨xs,i,af,aw,rfl⟩
  .exact(h.objs k o af).mono (Mem.le_refl m) av (λ_ _ _=>rfl)
  obtain⟨b,vs,T,aL,aX,bL,cL⟩:=(h.objs k _ af).mono (Mem.le_refl m) av (λ_ _ _=>rfl);refine⟨b,vs,T,aL,aX,by simpa using bL,?_⟩;intro j c x ao ag;rw[List.getElem?_set]at ao;split at ao
  .rename_i gK;subst gK;split at ao;.cases ao;have:=cL i _ x aw ag;rw[this.hS];exact nE
   cases ao
  exact cL j c x ao ag
 .intro k o b ak ahM aj;rcases aF k o ak with⟨rfl,rfl⟩|⟨ab,af⟩
  .have gX:blockOf (cr ρ k (.slice none 0 0) k)=some b:=aj;rw[AX]at gX;cases gX
  have gX:blockOf (cr ρ K (.slice none 0 0) k)=some b:=aj;rw[cX _ _ ab]at gX;rcases af with af|⟨xs,i,af,_,rfl⟩
  .exact h.own k o b af ahM gX
  exact h.own k _ b af rfl gX
 .intro k bq o o' b dj ak fQ gL ml aj;rcases aF k o ak with⟨rfl,rfl⟩|⟨ab,af⟩
  .have gX:blockOf (cr ρ k (.slice none 0 0) k)=some b:=aj;rw[AX]at gX;cases gX
  rw[cX _ _ ab]at aj;rcases aF bq o' fQ with⟨rfl,rfl⟩|⟨eW,hZ⟩
  .rw[AX];intro bJ;cases bJ
  rw[cX _ _ eW];have hold:∃p,σ.objs k=some p/\p.owns=true:=by
   rcases af with af|⟨xs,i,af,_,rfl⟩;.exact⟨_,af,gL⟩
   exact⟨_,af,rfl⟩
  have ahN:∃p,σ.objs bq=some p/\p.owns=true:=by
   rcases hZ with hZ|⟨xs,i,hZ,_,rfl⟩;.exact⟨_,hZ,ml⟩
   exact⟨_,hZ,rfl⟩
  obtain⟨p,bw,bz⟩:=hold;obtain⟨oe,ahO,ahP⟩:=ahN;exact h.sep k bq p oe b dj bw ahO bz ahP aj
 intro k ak aj;refine⟨ahK k aj,cX _ _ ?_⟩;obtain⟨c,ao⟩:=AI aj;exact cU k ⟨_,ao⟩
def ahQ{σ:aI}(t:Nat)(K:Key)(n:Nat)(aK:σ.aJ t= .d (.val (.slice none 0 0)))(fi:σ.objs K=none):g0 σ ⟨cr σ.aJ t (.row K),cr σ.objs K (some (.row n []))⟩:=by
 refine WW K n _ _ fi ?_ ?_ ?_ (by simp[cr]) ?_
 .intro j;by_cases h:j=t;.subst h;exact .inr ⟨aK,by simp[cr]⟩
  exact .inl (by simp[cr,h])
 .intro k o ak;by_cases h:k=K;.subst h;simp[cr]at ak;exact .inl ⟨rfl,ak.symm⟩
  rw[cX _ _ h]at ak;exact .inr ⟨h,.inl ak⟩
 .intro k ak;by_cases h:k=K;.subst h;simp[cr]
  rw[cX _ _ h];exact ak
 intro k aj;have h:k≠K:=by rintro rfl;rw[fi]at aj;exact tS aj
 rw[cX _ _ h];exact aj
def ahR{σ:aI}(k:Key)(i:Nat)(K:Key)(n:Nat){xs:List aS}(ak:σ.objs k=some (.box xs))(ah:xs[i]?=some (.d (.val (.slice none 0 0))))(fi:σ.objs K=none):g0 σ ⟨σ.aJ,cr (cr σ.objs k (some (.box (xs.set i (.row K))))) K (some (.row n []))⟩:=by
 have ayV:k≠K:=by rintro rfl;rw[fi]at ak;cases ak
 refine WW K n _ _ fi (λ_=> .inl rfl) ?_ ?_ (by simp[cr]) ?_
 .intro j o aN;by_cases h:j=K;.subst h;simp[cr]at aN;exact .inl ⟨rfl,aN.symm⟩
  rw[cX _ _ h]at aN;by_cases af:j=k;.subst af;simp[cr]at aN;exact .inr ⟨h,.inr ⟨xs,i,ak,ah,aN.symm⟩⟩
  rw[cX _ _ af]at aN;exact .inr ⟨h,.inl aN⟩
 .intro j aN;by_cases h:j=K;.subst h;simp[cr]
  rw[cX _ _ h];by_cases af:j=k;.subst af;simp[cr]
  rw[cX _ _ af];exact aN
 intro j aj;have h:j≠K:=by rintro rfl;rw[fi]at aj;exact tS aj
 rw[cX _ _ h];by_cases af:j=k;.subst af;rw[e4];exact tR
 rw[cX _ _ af];exact aj
def ahS{σ:aI}(t:Nat)(K:Key)(n:Nat){es:List (List D)}(aK:σ.aJ t= .row K)(ak:σ.objs K=some (.row n es)):g0 σ ⟨cr σ.aJ t (.sub K n 0 es.length),σ.objs⟩:=by
 intro m fr ρ a w h;refine⟨m,ρ,Mem.le_refl m,⟨h.mem,h.frame,h.apart,h.one,?_,h.objs,h.own,h.sep⟩,kQ.refl _ _⟩;intro s;by_cases aG:s=t
 .subst aG;have ab:=h.aJ s;rw[aK]at ab;show b5 m _ _ (cr σ.aJ s _ s) _;rw[e4];generalize a.tmps.getD s undef=v at*;cases ab with|row _ hu=>
  rcases h.objs _ _ ak with⟨aL,aX⟩|⟨b,o,cap,vs,dU,aL,aX,bL,cL,ea,fp⟩;.rw[aL,aX];exact .ko K n 0 hu aL
  rw[aL];exact b5.sub (m:=m) (ρ:=ρ) (U:=σ.used) K n 0 es.length b o es.length cap o hu aL (by omega) ⟨λ_=>by simp,by omega⟩
 show b5 m _ _ (cr σ.aJ t _ s) _;rw[cX _ _ aG];exact h.aJ s
def ahT{T:cd}{ev:Operand->aS}{objs:cG}{d:Key}{o:Op}{r:aS}{cA:List (Key×cR)}(h:eo T ev objs d o=some (r,cA))(ie:∀t a x,o≠ .store t a x):∀j c,objs j=some (.box c)->dD objs cA j=some (.box c):=by
 have Ki:∀{objs:cG}{k:Key}{o:cR},(∀c,objs k≠some (.box c))->∀j c,objs j=some (.box c)->cr objs k (some o) j=some (.box c):=by
  intro objs k o ak j c aN;have:j≠k:=by rintro rfl;exact ak c aN
  rw[cX _ _ this];exact aN
 have new:∀{o:cR},objs d=none->∀j c,objs j=some (.box c)->dD objs [(d,o)] j=some (.box c):=by intro o aB;exact Ki (by intro c ao;rw[aB]at ao;cases ao)
 have same:∀{k:Key}{dV o:cR},objs k=some dV->(∀c,dV≠ .box c)->∀j c,objs j=some (.box c)->dD objs [(k,o)] j=some (.box c):=by intro k dV o ak cU;exact Ki (by intro c ao;rw[ak]at ao;cases ao;exact cU c rfl)
 cases o<;>simp only[eo,reduceCtorEq]at h
 case alloc=>split at h<;>cases h;exact new (by assumption)
 case box=>split at h<;>cases h;exact new (by assumption)
 case buildSlice=>
  split at h
  case h_2=>cases h
  split at h
  case h_2=>cases h
  split at h
  case h_2=>cases h
  split at h<;>cases h;exact new (by assumption)
 case makeSlice=>
  split at h
  case h_2=>cases h
  split at h
  case h_2=>cases h
  split at h
  case h_2=>cases h
  split at h<;>cases h;exact new (by assumption)
 case makeMap=>split at h<;>cases h;exact new (by assumption)
 case store=>exact absurd rfl (ie _ _ _)
 case mapUpdate=>
  split at h
  case h_2=>cases h
  split at h
  case h_2=>cases h
  split at h
  case isFalse=>cases h
  split at h
  case h_2=>cases h
  split at h
  case h_2=>cases h
  split at h<;>cases h;exact same (by assumption) (by intro c ao;cases ao)
 case insert=>
  split at h
  case h_2=>cases h
  split at h
  case h_2=>cases h
  split at h
  case isFalse=>cases h
  split at h
  case h_2=>cases h
  split at h
  case h_2=>cases h
  split at h<;>cases h;exact same (by assumption) (by intro c ao;cases ao)
 case call=>
  split at h
  .split at h
   case h_2=>cases h
   split at h
   case h_2=>cases h
   split at h
   case h_2=>cases h
   split at h
   case h_2=>cases h
   split at h
   case isFalse=>cases h
   split at h;.split at h<;>cases h;exact new (by assumption)
   .split at h
    case h_2=>cases h
    split at h<;>cases h;rename_i aB _ _ _ _ _ _ _ _ _ _ _ _ ak _ _;have hA:=same (o:= .dead) (by assumption) (by intro c ao;cases ao);intro j a7 aN;have ab:=hA j a7 aN;refine Ki ?_ j a7 ab;intro c aj;have cU:∀key x,objs key=some x->d≠key:=by
     rintro key x ag rfl;have au:objs d=none:=by assumption
     rw[au]at ag;cases ag
    rw[cX _ _ (cU _ _ (by assumption))]at aj;clear Ki new same hA ab cU
    simp_all
   cases h
  .split at h
   case h_2=>cases h
   split at h
   case h_2=>cases h
   split at h
   case h_2=>cases h
   split at h
   case h_2=>cases h
   split at h
   case isFalse=>cases h
   split at h
   .split at h
    case h_2=>cases h
    split at h<;>cases h;exact same (by assumption) (by intro c ao;cases ao)
   .split at h
    case h_2=>cases h
    split at h<;>cases h;exact same (by assumption) (by intro c ao;cases ao)
   cases h
  .split at h
   case h_2=>cases h
   split at h
   case h_2=>cases h
   split at h
   case h_2=>cases h
   split at h
   case h_2=>cases h
   split at h
   case h_2=>cases h
   split at h<;>cases h;exact same (by assumption) (by intro c ao;cases ao)
  cases h
def ahU{T:cd}{ev:Operand->aS}{objs:cG}{d:Key}{o:Op}{r:aS}{cA:List (Key×cR)}(h:hb T ev objs d o=some (r,cA))(ie:∀t a x,o≠ .store t a x):∀j c,objs j=some (.box c)->dD objs cA j=some (.box c):=by
 obtain⟨⟨jA,sm⟩,au,aj⟩:=vG h;have ab:=ahT au ie;intro j c aN;have af:=ab j c aN;rcases xJ (T.born d) d jA sm with e|⟨n,es,rfl,rfl,e⟩|⟨dm,n,es,rfl,rfl,e⟩|⟨off,cs,aO,rfl,rfl,eO,e⟩
 .rw[aj]at e;cases e;exact af
 .rw[aj]at e;cases e;by_cases aB:j=d;.subst aB;simp only[dD,e4]at af;cases af
  simp only[dD,cX _ _ aB]at af⊢;exact af
 .rw[aj]at e;cases e;by_cases aB:j=d;.subst aB;simp only[dD,e4]at af;cases af
  simp only[dD,cX _ _ aB]at af⊢;exact af
 rw[aj]at e;cases e;have aM:objs d=none:=Wm au;by_cases aB:j=d
 .subst aB;rw[aM]at aN;cases aN
 simp only[dD,cX _ _ aB];exact aN
section
variable{P:Program}{T:cd}{G:dn}{all:Array Oper}
def ahV{y:Oper}{σ:aI}{K K':aI->Prop}(ie:∀t a x,y.op≠ .store t a x)(ak:∀objs r,(∀j c,σ.objs j=some (.box c)->objs j=some (.box c))->K (aI.put ⟨σ.aJ,objs⟩ y.dst r)->K' (aI.put ⟨σ.aJ,objs⟩ y.dst r)) (h:db P T G y K σ):db P T G y K' σ:=by
 unfold db at*;rw[vM]at*;cases av:res T G σ y with
 |none=>simp only[av,xbn]at h⊢;exact D5 h λr av=>ak σ.objs r (λ_ _ h=>h) av
 |some p=>
  simp only[av,xaO]at h⊢;refine ak _ _ ?_ h;intro j c aN;obtain⟨r,cA⟩:=p;unfold res at av;split at av;.cases av;exact aN
  split at av;.cases av;exact aN
  exact ahU av ie j c aN
def WX{t a k off:Nat}{σ:aI}{x:Oper}(ag:x.op= .load t (.tmp a))(aG:σ.aJ a= .ptr k off){K:aI->Prop}(h:db P T G x K σ): ∃r,K (σ.put x.dst r)/\∀objs,(∀j c,σ.objs j=some (.box c)->objs j=some (.box c))->res T G ⟨σ.aJ,objs⟩ x=some (r,[]):=by
 unfold db at h;rw[vM]at h;cases av:res T G σ x with
 |none=>simp only[av,xbn]at h;unfold jB at h;rw[ag]at h;exact h.elim
 |some p=>
  simp only[av,xaO]at h;obtain⟨r,cA⟩:=p;unfold res at av;rw[ag]at av;simp only[eN,dC,cf,aG,hb,eo,xbn]at av;cases bf:T t with
  |none=>simp[bf]at av
  |some i=>
   simp only[bf]at av;cases ak:σ.objs k with
   |none=>simp[ak]at av
   |some o=>
    cases o with
    |box cells=>simp only[ak]at av;cases aU:vw i cells off with|none=>simp[aU]at av|some q=>simp only[aU,xaL,Prod.mk.injEq]at av;obtain⟨rfl,rfl⟩:=av;refine⟨q,h,λobjs aF=>?_⟩;unfold res;rw[ag];simp only[eN,dC,cf,aG,bf,aF k cells ak,aU]
    |dead=>simp[ak]at av|row=>simp[ak]at av|map=>simp[ak]at av
def WY{x y:Oper}{σ:aI}{K:aI->Prop}{t a k off:Nat}(ag:x.op= .load t (.tmp a))(mN:x.guard=none)(aG:σ.aJ a= .ptr k off)(ie:∀t a x,y.op≠ .store t a x)(hz:x.apart all y=true) (h:eu P T G all x (λgw=>eu P T G all y K gw) σ):eu P T G all y (λgf=>eu P T G all x K gf) σ:=by
 obtain⟨an,bb,b4⟩:=Oper.apart_spec hz;have mL:∀d,y.dst=some d->x.dst≠some d:=λd aB ag=>bb d ag aB;have lf:∀(K:aI->Prop) σ,eu P T G all x K σ=db P T G x K σ:=λK σ=>by unfold eu;simp only[mN]
 simp only[lf]at h⊢;obtain⟨r,ab,af⟩:=WX ag aG h;have El:∀(K:aI->Prop) objs,(∀j c,σ.objs j=some (.box c)->objs j=some (.box c))->db P T G x K ⟨σ.aJ,objs⟩=K (aI.put ⟨σ.aJ,objs⟩ x.dst r):=λK objs aF=>mf (af objs aF);rw[hH,oh an]at ab;rw[hH];split at ab
 .rename_i hw
  try simp only[hw]
  rw[jC an bb]at ab;refine ahV ie (λobjs q aF ak=>?_) ab;rw[jC b4 mL,El _ _ aF,put_comm bb];exact ak
 .rename_i hw
  try simp only[hw]
  show db P T G x K (σ.put y.dst _);rw[jC b4 mL];have:=El (λaV=>K (aV.put y.dst (.d (.val (.tuple #[]))))) σ.objs (λ_ _ h=>h);have e:db P T G x (λaV=>K (aV.put y.dst (.d (.val (.tuple #[]))))) σ=K ((σ.put x.dst r).put y.dst (.d (.val (.tuple #[])))):=this;rw[e];exact ab
 exact ab.elim
def ahW{y:Oper}{σ:aI}{K:aI->Prop}{a:Nat}(aB:y.dst≠some a)(h:eu P T G all y K σ):eu P T G all y (λaV=>aV.aJ a=σ.aJ a/\K aV) σ:=by
 have aU:∀(objs:cG)(r:aS),(aI.put ⟨σ.aJ,objs⟩ y.dst r).aJ a=σ.aJ a:=λobjs r=>by
  cases aQ:y.dst with
  |none=>rfl
  |some d=>
   have:a≠d:=by rintro rfl;exact aB aQ
   simp only[aI.put,cX _ _ this]
 rw[hH]at h⊢;split at h
 .rename_i hw
  try simp only[hw]
  exact vP (λobjs r ak=>⟨aU objs r,ak⟩) h
 .rename_i hw
  try simp only[hw]
  exact⟨aU σ.objs _,h⟩
 exact h.elim
def ahX{K:aI->Prop}{i:Nat}{fs:Oper}{t a k off:Nat}(ah:all[i]?=some fs)(ag:fs.op= .load t (.tmp a))(mN:fs.guard=none){B:List Nat}(gC:∀j c6,j∈B->all[j]?=some c6->∃e∈c6.after,Region.binds .any e=true/\(e.on=i\/e.on∈B)):∀(fuel:Nat)(listed:Array Bool)(σ:aI),σ.aJ a= .ptr k off->(∀j,j∈B->listed.getD j true=false)->(∀j c6,all[j]?=some c6->j≠i->listed.getD j true=false->j∉B->fs.apart all c6=true/\∀t a x,c6.op≠ .store t a x)->i∈Region.ready .any all listed->hU P T G all i (jd P T G all K fuel (listed.setIfInBounds i true)) σ->jd P T G all K (fuel+1) listed σ:=by
 intro fuel
 induction fuel with
 |zero=>
  intro listed σ dR qW oi av H;refine⟨λh=>(by rw[h]at av;cases av),λj aN=>?_⟩;by_cases iY:j=i;.subst iY;exact H
  have hm:=ready_mono aN iY;exfalso;have key:Region.ready .any all (listed.setIfInBounds i true)=[]:=by unfold hU at H;simp only[ah]at H;unfold eu at H;simp only[mN]at H;obtain⟨r,ab,_⟩:=WX ag dR H;exact ab.1
  rw[key]at hm;cases hm
 |succ fuel ih=>
  intro listed σ dR qW oi av H;refine⟨λh=>(by rw[h]at av;cases av),λj aN=>?_⟩;by_cases iY:j=i;.subst iY;exact H
  obtain⟨vR,c6,je,gu⟩:=xbK.1 aN;have tN:∀k,listed.getD k true=false->listed[k]?.getD false=true->False:=λk au ab=>by
   rcases Nat.lt_or_ge k listed.size with bx|bx;.simp[bx]at au ab;rw[au]at ab;cases ab
   simp[Array.getElem?_eq_none bx]at ab
  have vS:j∉B:=λEd=>by
   obtain⟨e,he,aj,mM⟩:=gC j c6 Ed je;have ab:=gu e he aj;rcases mM with mM|mM
   .rw[mM]at ab;exact tN i (xbK.1 av).1 (by simpa using ab)
   exact tN _ (qW _ mM) (by simpa using ab)
  obtain⟨dw,da⟩:=oi j c6 je iY vR vS;have ab:hU P T G all i (λgw=>hU P T G all j (jd P T G all K fuel ((listed.setIfInBounds i true).setIfInBounds j true)) gw) σ:=vQ (λgw tX=>tX.2 j (ready_mono aN iY)) H;have Pz:c6.dst≠some a:=λaB=>by obtain⟨_,_,b4⟩:=Oper.apart_spec dw;refine b4 a aB ?_;unfold Oper.looksAt;rw[ag];simp[Op.operands]
  have af:hU P T G all j (λgf=>gf.aJ a=σ.aJ a/\hU P T G all i (jd P T G all K fuel ((listed.setIfInBounds i true).setIfInBounds j true)) gf) σ:=by unfold hU at ab⊢;simp only[ah,je]at ab⊢;exact ahW Pz (WY ag mN dR da dw ab)
  have Ee:∀k ok,all[k]?=some ok->k≠i->(listed.setIfInBounds j true).getD k true=false->k∉B->fs.apart all ok=true/\∀t a x,ok.op≠ .store t a x:=λk ok ak qX oj ie=>by
   refine oi k ok ak qX ?_ ie;by_cases gv:j=k;.subst gv;exact vR
   rw[getD_set_ne true gv]at oj;exact oj
  refine vQ (λgf aw=>ih (listed.setIfInBounds j true) gf (aw.1.trans dR) (λk ak=>by
   have gv:j≠k:=by rintro rfl;exact vS ak
   rw[getD_set_ne true gv];exact qW k ak) Ee (ready_mono av (Ne.symm iY)) ?_) af
  rw[Array.setIfInBounds_comm _ _ iY];exact aw.2
end
section
variable{P:Program}{T:cd}{G:dn}{all:Array Oper}
def AY:aS->Option Key
 | .ptr k _=>some k| .gd k _ _ _=>some k|_=>none
def keyOf(aJ:Nat->aS):Operand->Option Key
 | .tmp a=>AY (aJ a)|_=>none
theorem PA{aJ:Nat->aS}(x:Operand):AY (cf G aJ x)=keyOf aJ x:=by cases x with|tmp a=>rfl|const v=>rfl|func f=>rfl|global g=>simp only[cf,keyOf];split<;>rfl
def uc(aJ:Nat->aS):Operand->Bool
 | .tmp a=>match aJ a with| .d _=>true|_=>false
 | .const _=>true|_=>false
def ud(aJ:Nat->aS)(k:Key):Op->Bool
 | .store _ a _=>match keyOf aJ a with|some bq=>bq !=k|none=>false
 |_=>false
def Kj:Op->Bool
 | .store _ _ _=>true|_=>false
def Em(aJ:Nat->aS):Operand->Bool
 | .tmp a=>match aJ a with| .ptr _ _=>true|_=>false
 |_=>false
def ahY:aS->Bool
 | .d _=>true| .et _ _=>true|_=>false
def p6(aJ:Nat->aS):Operand->Bool
 | .tmp a=>ahY (aJ a)|_=>false
def ue(aJ:Nat->aS):Op->Bool
 | .load _ a=>p6 aJ a| .indexAddr _ x _=>p6 aJ x| .lookup _ m _ _=>p6 aJ m| .slice _ x _ _ none=>p6 aJ x| .call ⟨.builtin .len,args,_⟩=>args.toList.all (p6 aJ)|_=>false
def sy(aJ:Nat->aS)(x y:Oper):Bool:=pass x y||ue aJ x.op||match x.op with
 | .binOp _ _ a b _=>uc aJ a&&uc aJ b| .load _ a=>match keyOf aJ a with|some k=>(Em aJ a&&!Kj y.op)||iM y.op||jc y.op||hy y.op||ud aJ k y.op|none=>false
 | .indexAddr _ _ _=>iM y.op||jc y.op||hy y.op||Kj y.op| .store _ a _=>match keyOf aJ a with|some k=>ud aJ k y.op|none=>false
 |_=>false
def PB(k:Key)(o o':cG):Prop:=o' k=o k
def AZ(o o':cG):Prop:=∀k n es,o k=some (.row n es)->∃g9,o' k=some (.row n g9)/\g9.length=es.length
def ahZ{y:Oper}{σ:aI}{K K':aI->Prop}{R:cG->Prop}(au:R σ.objs)(fe:∀r cA,res T G σ y=some (r,cA)->R (dD σ.objs cA))(ak:∀objs r,R objs->K (aI.put ⟨σ.aJ,objs⟩ y.dst r)->K' (aI.put ⟨σ.aJ,objs⟩ y.dst r)) (h:db P T G y K σ):db P T G y K' σ:=by unfold db at*;rw[vM]at*;cases av:res T G σ y with|none=>simp only[av,xbn]at h⊢;exact D5 h λr av=>ak σ.objs r au av|some p=>simp only[av,xaO]at h⊢;obtain⟨r,cA⟩:=p;exact ak _ _ (fe r cA av) h
def WZ{σ:aI}{y:Oper}(h:(iM y.op||jc y.op||hy y.op)=true){r:aS}{cA:List (Key×cR)}(av:res T G σ y=some (r,cA)):cA=[]:=by
 unfold res at av;split at av;.cases av;rfl
 split at av;.cases av;rfl
 simp only[xbb]at h;rcases h with(h|h)|h
 .rw[(AL h).2]at av;cases av
 .rw[AM h]at av;cases av
 rw[(Pk (T:=T) (ev:=cf G σ.aJ) (objs:=σ.objs) (d:=y.dst.getD 9999) h).2.2]at av;cases av
def PC{σ:aI}{y:Oper}{t:TypeId}{a x:Operand}(aQ:y.op= .store t a x){r:aS}{cA:List (Key×cR)}(av:res T G σ y=some (r,cA)): ∃k o o',keyOf σ.aJ a=some k/\cA=[(k,o')]/\σ.objs k=some o/\((∃c jb,o= .box c/\o'= .box jb)\/∃n es g9,o= .row n es/\o'= .row n g9/\g9.length=es.length):=by
 rw[<-PA (G:=G)];unfold res at av;rw[aQ]at av;simp only[eN,dC,Wc,eo]at av;split at av
 case h_2=>cases av
 split at av
 case isFalse=>cases av
 split at av
 .rename_i k off he;split at av
  case h_2=>cases av
  rename_i cells aF;split at av<;>cases av;exact⟨k,_,_,by rw[he];rfl,rfl,aF,.inl ⟨_,_,rfl,rfl⟩⟩
 .rename_i k cQ fy off he;split at av
  case h_2=>cases av
  rename_i bq es aO aF aB;split at av
  case isFalse=>cases av
  rename_i ao;split at av<;>cases av;exact⟨k,_,_,by rw[he];rfl,rfl,aF,.inr ⟨cQ,es,_,by rw[ao.1],rfl,by simp⟩⟩
 cases av
def En{objs:cG}{k:Key}{o:cR}(j:Key):dD objs [(k,o)] j=if j=k then some o else objs j:=by
 by_cases h:j=k;.subst h;simp[dD,e4]
 simp[dD,cX _ _ h,h]
def ah0{σ:aI}{y:Oper}{k:Key}(h:(iM y.op||jc y.op||hy y.op||ud σ.aJ k y.op)=true){r:aS}{cA:List (Key×cR)}(av:res T G σ y=some (r,cA)):PB k σ.objs (dD σ.objs cA):=by
 rcases xbB.1 h with h|h;.rw[WZ h av];rfl
 unfold ud at h;split at h
 case h_2=>cases h
 rename_i t a x aQ;obtain⟨bq,o,o',ab,rfl,af,_⟩:=PC aQ av;rw[ab]at h;simp only[bne_iff_ne,ne_eq]at h;show dD σ.objs [(bq,o')] k=σ.objs k;rw[En,xac (λe=>h e.symm)]
theorem AZ.refl(o:cG):AZ o o:=λk n es h=>⟨es,h,rfl⟩
def ah1{σ:aI}{y:Oper}(h:(iM y.op||jc y.op||hy y.op||Kj y.op)=true){r:aS}{cA:List (Key×cR)}(av:res T G σ y=some (r,cA)):AZ σ.objs (dD σ.objs cA):=by
 rcases xbB.1 h with h|h;.rw[WZ h av];exact AZ.refl _
 unfold Kj at h;split at h
 case h_2=>cases h
 rename_i t a x aQ;obtain⟨bq,o,o',ab,rfl,af,aw⟩:=PC aQ av;intro k n es ak;rw[En];by_cases e:k=bq
 .subst e;rw[xad rfl];rw[af]at ak;rcases aw with⟨c,jb,rfl,rfl⟩|⟨m,ayW,ah2,rfl,rfl,aq⟩
  .cases ak
  cases ak;exact⟨ah2,rfl,aq⟩
 rw[xac e];exact⟨es,ak,rfl⟩
def Looks(T:cd)(G:dn)(x:Oper)(aJ:Nat->aS)(o:cG)(R:cG->Prop):Prop:=∀r cA,res T G ⟨aJ,o⟩ x=some (r,cA)->cA=[]/\∀o',R o'->res T G ⟨aJ,o'⟩ x=some (r,[])
def Kk{x y:Oper}{σ:aI}{K:aI->Prop}{R:cG->Prop}(mN:x.guard=none)(D7:hy x.op=false)(hz:x.apart all y=true)(aq:Looks T G x σ.aJ σ.objs R)(au:R σ.objs)(fe:∀r cA,res T G σ y=some (r,cA)->R (dD σ.objs cA)) (h:eu P T G all x (λgw=>eu P T G all y K gw) σ):eu P T G all y (λgf=>eu P T G all x K gf) σ:=by
 obtain⟨an,bb,b4⟩:=Oper.apart_spec hz;have mL:∀d,y.dst=some d->x.dst≠some d:=λd aB ag=>bb d ag aB;have lf:∀(K:aI->Prop) σ,eu P T G all x K σ=db P T G x K σ:=λK σ=>by unfold eu;simp only[mN]
 simp only[lf]at h⊢;have ON:res T G σ x≠none:=by intro aM;rw[nG aM]at h;have:=xM h;rw[D7]at this;cases this
 obtain⟨p,aU⟩:=Option.ne_none_iff_exists'.1 ON;obtain⟨r,cA⟩:=p;obtain⟨rfl,af⟩:=aq r cA aU;have ab:eu P T G all y K (σ.put x.dst r):=by rw[mf aU]at h;exact h
 have El:∀(K:aI->Prop) objs,R objs->db P T G x K ⟨σ.aJ,objs⟩=K (aI.put ⟨σ.aJ,objs⟩ x.dst r):=λK objs aF=>mf (af objs aF);rw[hH,oh an]at ab;rw[hH];split at ab
 .rename_i hw
  try simp only[hw]
  rw[jC an bb]at ab;refine ahZ au fe (λobjs q aF ak=>?_) ab;rw[jC b4 mL,El _ _ aF,put_comm bb];exact ak
 .rename_i hw
  try simp only[hw]
  show db P T G x K (σ.put y.dst _);rw[jC b4 mL];have e:db P T G x (λaV=>K (aV.put y.dst (.d (.val (.tuple #[]))))) σ=K ((σ.put x.dst r).put y.dst (.d (.val (.tuple #[])))):=El (λaV=>K (aV.put y.dst (.d (.val (.tuple #[]))))) σ.objs au;rw[e];exact ab
 exact ab.elim
def W0{aJ:Nat->aS}{x:Operand}(h:uc aJ x=true):∃d,cf G aJ x= .d d:=by
 unfold uc at h;split at h
 .split at h;.rename_i d aB;exact⟨d,aB⟩
  cases h
 .exact⟨_,rfl⟩
 cases h
def ah3(o o':cG)(x:D):mG o (.d x)=mG o' (.d x):=by
 unfold mG;split<;>first|rfl|(rename_i h;cases h)|skip
 all_goals rfl
def Eo{aJ:Nat->aS}{x:Operand}(h:p6 aJ x=true):(∃d,cf G aJ x= .d d)\/∃cs off,cf G aJ x= .et cs off:=by
 cases x with
 |tmp a=>simp only[p6]at h;show(∃d,aJ a= .d d)\/∃cs off,aJ a= .et cs off;generalize aJ a=v at h;cases v<;>first|exact .inl ⟨_,rfl⟩|exact .inr ⟨_,_,rfl⟩|cases h
 |_=>cases h
def W1(o o':cG)(x:D):j4 o (.d x)=j4 o' (.d x):=by
 unfold j4;split<;>first|rfl|(rename_i h;cases h)|skip
 all_goals rfl
theorem ah4(o o':cG)(cs:List D)(off:Nat):j4 o (.et cs off)=j4 o' (.et cs off):=rfl
def ah5{aJ:Nat->aS}{op:Op}(h:ue aJ op=true)(o o':cG):dC T (cf G aJ) o op=dC T (cf G aJ) o' op:=by
 cases op<;>simp only[ue,xat]at h
 case load t a=>rcases Eo (G:=G) h with⟨d,e⟩|⟨cs,off,e⟩<;>simp only[dC,e]
 case indexAddr t x i=>
  rcases Eo (G:=G) h with⟨d,e⟩|⟨cs,off,e⟩;.simp only[dC,e];cases d<;>rfl
  simp only[dC,e]
 case lookup t m k ok=>
  rcases Eo (G:=G) h with⟨d,e⟩|⟨cs,off,e⟩
  .simp only[dC,e];split
   .cases d<;>first|rfl|skip
    rename_i v;cases v<;>first|rfl|skip
    rename_i q;cases q<;>rfl
   rfl
  simp only[dC,e]
 case slice t x lo ah hr=>
  cases hr with
  |some _=>cases h
  |none=>
   simp only at h;rcases Eo (G:=G) h with⟨d,e⟩|⟨cs,off,e⟩
   .simp only[dC,e,W1 o o' d];cases d<;>rfl
   simp only[dC,e,ah4 o o' cs off]
 case call c=>
  obtain⟨callee,args,dF⟩:=c;cases callee with
  |value=>rfl|invoke=>rfl
  |builtin b=>
   cases b<;>first|rfl|skip
   simp only at h;simp only[dC];split
   .rename_i t x aL aX;rw[aX]at h;simp only[xbO,List.all_nil,xbs]at h;rcases Eo (G:=G) h with⟨d,e⟩|⟨cs,off,e⟩
    .simp only[e];cases bf:T t with
     |none=>rfl
     |some i=>
      obtain⟨aO,s,b,z⟩:=i;cases aO
      case map k q=>
       cases d
       case val v=>
        cases v
        case map r=>cases r<;>rfl
        all_goals rfl
       all_goals rfl
      case slice q=>simp only[W1 o o' d]
      case string=>
       cases d
       case val v=>cases v<;>rfl
       all_goals rfl
      all_goals rfl
    simp only[e];cases bf:T t with|none=>rfl|some i=>obtain⟨aO,s,b,z⟩:=i;cases aO<;>rfl
   rfl
def W2{aJ:Nat->aS}{op:Op}(h:ue aJ op=true):jc op=true:=by
 cases op<;>simp only[ue,xat]at h<;>first|rfl|skip
 case call c=>
  obtain⟨callee,args,dF⟩:=c;cases callee with
  |value=>cases h
  |invoke=>cases h
  |builtin b=>cases b<;>first|rfl|cases h
def ah6{x:Oper}{aJ:Nat->aS}{o:cG}(h:ue aJ x.op=true):Looks T G x aJ o (λ_=>True):=by
 intro r cA av;have hm:=W2 h;unfold res at av;split at av
 .rename_i u hu;cases av;refine⟨rfl,λo' _=>?_⟩;unfold res;simp only[hu]
 rename_i aU;split at av;.rename_i u hu;cases av;refine⟨rfl,λo' _=>?_⟩;unfold res;simp only at hu;simp only[aU,ah5 h o' o,hu]
 rw[AM hm]at av;cases av
def ah7{x:Oper}{op:BinOp}{t:TypeId}{a b:Operand}{q:TypeId}(ag:x.op= .binOp op t a b q){aJ:Nat->aS}{o:cG}(aE:uc aJ a=true)(aj:uc aJ b=true):Looks T G x aJ o (λ_=>True):=by
 intro r cA av;obtain⟨d1,aL⟩:=W0 (G:=G) aE;obtain⟨d2,aX⟩:=W0 (G:=G) aj;unfold res at av;rw[ag]at av;cases aU:eN T (cf G aJ) (.binOp op t a b q)with
 |some u=>rw[aU]at av;cases av;refine⟨rfl,λo' _=>?_⟩;unfold res;rw[ag,aU]
 |none=>
  rw[aU]at av;simp only at av;have hm:∀o',dC T (cf G aJ) o' (.binOp op t a b q)=dC T (cf G aJ) o (.binOp op t a b q):=by intro o';simp only[dC,aL,aX,ah3 o' o]
  cases ha:dC T (cf G aJ) o (.binOp op t a b q)with
  |some u=>rw[ha]at av;cases av;refine⟨rfl,λo' _=>?_⟩;unfold res;rw[ag,aU];simp only[hm o',ha]
  |none=>rw[ha]at av;simp[hb,eo]at av
def ah8{x:Oper}{t:TypeId}{a:Operand}{k:Key}(ag:x.op= .load t a){aJ:Nat->aS}{o:cG}(aE:keyOf aJ a=some k):Looks T G x aJ o (PB k o):=by
 intro r cA av;have he:AY (cf G aJ a)=some k:=by rw[PA];exact aE
 unfold res at av;rw[ag]at av;simp only[eN]at av;have hm:∀o',o' k=o k->dC T (cf G aJ) o' (.load t a)=dC T (cf G aJ) o (.load t a):=by
  intro o' aF;simp only[dC];generalize cf G aJ a=v at he⊢;cases v<;>simp only[AY,reduceCtorEq,xaL]at he;.subst he;simp only[aF]
  subst he;simp only[aF]
 cases ha:dC T (cf G aJ) o (.load t a)with
 |some u=>rw[ha]at av;cases av;refine⟨rfl,λo' aF=>?_⟩;unfold res;rw[ag];simp only[eN,hm o' aF,ha]
 |none=>rw[ha]at av;simp[hb,eo]at av
def ah9{x:Oper}{t:TypeId}{a b:Operand}(ag:x.op= .indexAddr t a b){aJ:Nat->aS}{o:cG}:Looks T G x aJ o (AZ o):=by
 intro r cA av;unfold res at av;rw[ag]at av;simp only[eN]at av;cases ha:dC T (cf G aJ) o (.indexAddr t a b)with
 |some u=>
  rw[ha]at av;cases av;refine⟨rfl,λo' aF=>?_⟩;have hm:dC T (cf G aJ) o' (.indexAddr t a b)=some r:=by
   simp only[dC]at ha⊢;split at ha
   .split at ha
    .split at ha
     .rename_i aM;rw[xad aM];split at ha<;>first|exact ha|skip
      rename_i key a6;cases ak:o key with
      |none=>rw[ak]at ha;cases ha
      |some hs=>
       cases hs with
       |row k es=>obtain⟨g9,ab,af⟩:=aF key k es ak;rw[ak]at ha;rw[ab];simp only[af]at ha⊢;exact ha
       |dead=>rw[ak]at ha;cases ha
       |box=>rw[ak]at ha;cases ha
       |map=>rw[ak]at ha;cases ha
     cases ha
    cases ha
   .exact ha
   cases ha
  unfold res;rw[ag];simp only[eN,hm]
 |none=>rw[ha]at av;simp[hb,eo]at av
def aia{o:cG}{k bq:Key}{a b:cR}(h:k≠bq):dD (dD o [(k,a)]) [(bq,b)]=dD (dD o [(bq,b)]) [(k,a)]:=by
 funext j
 simp only[En];by_cases ab:j=k<;>by_cases af:j=bq<;>simp_all
def W3{y:Oper}{t:TypeId}{a x:Operand}{k:Key}(aQ:y.op= .store t a x){aJ:Nat->aS}{o o':cG}(aE:keyOf aJ a=some k)(aF:o' k=o k):res T G ⟨aJ,o'⟩ y=res T G ⟨aJ,o⟩ y:=by
 have he:AY (cf G aJ a)=some k:=by rw[PA];exact aE
 unfold res;rw[aQ];simp only[eN,dC,Wc,eo];generalize cf G aJ a=v at he⊢;cases v<;>simp only[AY,reduceCtorEq,xaL]at he;.subst he;simp only[aF]
 subst he;simp only[aF]
def aib{x y:Oper}{σ:aI}{K:aI->Prop}{t t':TypeId}{a cB v kq:Operand}{k bq:Key}(ag:x.op= .store t a v)(aQ:y.op= .store t' cB kq)(aE:keyOf σ.aJ a=some k)(Kl:keyOf σ.aJ cB=some bq)(cU:bq≠k) (mN:x.guard=none) (hz:x.apart all y=true) (h:eu P T G all x (λgw=>eu P T G all y K gw) σ):eu P T G all y (λgf=>eu P T G all x K gf) σ:=by
 obtain⟨an,bb,b4⟩:=Oper.apart_spec hz;have mL:∀d,y.dst=some d->x.dst≠some d:=λd aB ag=>bb d ag aB;have lf:∀(K:aI->Prop) σ,eu P T G all x K σ=db P T G x K σ:=λK σ=>by unfold eu;simp only[mN]
 simp only[lf]at h⊢;have W4:∀{z:Oper}{tt:TypeId}{p q:Operand}{τ:aI}{K':aI->Prop},z.op= .store tt p q->db P T G z K' τ->∃r cE gL,res T G τ z=some (r,[(cE,gL)])/\keyOf τ.aJ p=some cE/\K' (τ.step z.dst r [(cE,gL)]):=by
  intro z tt p q τ K' bD bJ;cases av:res T G τ z with
  |none=>rw[nG av]at bJ;have:=xM bJ;rw[bD]at this;cases this
  |some u=>obtain⟨r,cA⟩:=u;obtain⟨cE,o,gL,bw,rfl,_,_⟩:=PC bD av;exact⟨r,cE,gL,rfl,bw,by rw[mf av]at bJ;exact bJ⟩
 obtain⟨r,cE,gL,bw,bz,cz⟩:=W4 ag h;rw[aE]at bz;cases bz;have xY:eu P T G all y K (aI.put ⟨σ.aJ,dD σ.objs [(k,gL)]⟩ x.dst r):=cz;have W5:∀(ml:cG),ml k=σ.objs k->∀K':aI->Prop,db P T G x K' ⟨σ.aJ,ml⟩=K' (aI.put ⟨σ.aJ,dD ml [(k,gL)]⟩ x.dst r):=by
  intro ml aF K';have:res T G ⟨σ.aJ,ml⟩ x=some (r,[(k,gL)]):=by rw[W3 ag aE aF];exact bw
  exact mf this
 rw[hH,oh an]at xY;rw[hH];have aic:jT all ⟨σ.aJ,dD σ.objs [(k,gL)]⟩ y=jT all σ y:=rfl;rw[aic]at xY;split at xY
 .rename_i hw
  try simp only[hw]
  rw[jC an bb]at xY;obtain⟨ei,dz,ml,dw,da,eM⟩:=W4 aQ xY;have W6:keyOf σ.aJ cB=some dz:=da;rw[Kl]at W6;cases W6;have aid:res T G σ y=some (ei,[(bq,ml)]):=by rw[<-dw];exact(W3 (T:=T) (G:=G) aQ (o:=σ.objs) (o':=dD σ.objs [(k,gL)]) Kl (by rw[En,xac cU])).symm
  rw[mf aid];show db P T G x K (aI.put ⟨σ.aJ,dD σ.objs [(bq,ml)]⟩ y.dst ei);rw[jC b4 mL,W5 _ (by rw[En,xac (λe=>cU e.symm)]),put_comm bb,aia cU];exact eM
 .rename_i hw
  try simp only[hw]
  show db P T G x K (σ.put y.dst _);rw[jC b4 mL];have e:=W5 σ.objs rfl (λaV=>K (aV.put y.dst (.d (.val (.tuple #[])))));have dp:db P T G x (λaV=>K (aV.put y.dst (.d (.val (.tuple #[]))))) σ=_:=e;rw[dp];exact xY
 exact xY.elim
def aie{x y:Oper}{σ:aI}{K:aI->Prop}(mN:x.guard=none)(hz:x.apart all y=true)(h:sy σ.aJ x y=true)(H:eu P T G all x (λgw=>eu P T G all y K gw) σ):eu P T G all y (λgf=>eu P T G all x K gf) σ:=by
 unfold sy at h;rcases xbB.1 h with h|h
 .rcases xbB.1 h with h|h;.exact swap hz h H
  refine Kk mN ?_ hz (ah6 h) trivial (λ_ _ _=>trivial) H;cases ao:hy x.op with|false=>rfl|true=>have:=D4 ao;rw[W2 h]at this;cases this.2.1
 split at h;.rename_i op t a b q ag;rw[xam]at h;exact Kk mN (by rw[ag];rfl) hz (ah7 ag h.1 h.2) trivial (λ_ _ _=>trivial) H
 .rename_i t a ag;split at h
  case h_2=>cases h
  rename_i k ak;simp only[xbb]at h;have other:(iM y.op||jc y.op||hy y.op||ud σ.aJ k y.op)=true->eu P T G all y (λgf=>eu P T G all x K gf) σ:=λbx=>Kk mN (by rw[ag];rfl) hz (ah8 ag ak) (rfl:PB k σ.objs σ.objs) (λ_ _ av=>ah0 bx av) H
  rcases h with(((h|h)|h)|h)|h
  .rw[xam]at h;obtain⟨ab,af⟩:=h;unfold Em at ab;split at ab
   case h_2=>cases ab
   rename_i ae;split at ab
   case h_2=>cases ab
   rename_i Ep off aG;refine WY ag mN aG ?_ hz H;intro t' cB kq he;rw[he]at af;cases af
  .exact other (by simp[h])
  .exact other (by simp[h])
  .exact other (by simp[h])
  exact other (by simp[h])
 .rename_i t a b ag;exact Kk mN (by rw[ag];rfl) hz (ah9 ag) (AZ.refl _) (λ_ _ av=>ah1 h av) H
 .rename_i t a v ag;split at h
  case h_2=>cases h
  rename_i k ak;unfold ud at h;split at h
  case h_2=>cases h
  rename_i t' cB kq aQ;split at h
  case h_2=>cases h
  rename_i bq fQ;exact aib ag aQ ak fQ (by simpa using h) mN hz H
 cases h
def mO:Op->List Tmp
 | .binOp _ _ a b _=>(match a with| .tmp t=>[t]|_=>[])++(match b with| .tmp t=>[t]|_=>[])
 | .load _ (.tmp a)=>[a]| .store _ (.tmp a) _=>[a]| .indexAddr _ (.tmp a) _=>[a]| .lookup _ (.tmp a) _ _=>[a]| .slice _ (.tmp a) _ _ _=>[a]| .call ⟨.builtin .len,args,_⟩=>args.toList.filterMap λx=>match x with| .tmp t=>some t|_=>none
 |_=>[]
def uf:Op->List Tmp
 | .store _ (.tmp a) _=>[a]|_=>[]
theorem PD{s s':Nat->aS}{x:Operand}(h:∀t,x= .tmp t->s t=s' t):keyOf s x=keyOf s' x:=by cases x with|tmp t=>simp only[keyOf,h t rfl]|_=>rfl
theorem W7{s s':Nat->aS}{x:Operand}(h:∀t,x= .tmp t->s t=s' t):uc s x=uc s' x:=by cases x with|tmp t=>simp only[uc,h t rfl]|_=>rfl
theorem aif{s s':Nat->aS}{x:Operand}(h:∀t,x= .tmp t->s t=s' t):Em s x=Em s' x:=by cases x with|tmp t=>simp only[Em,h t rfl]|_=>rfl
def aih{s s':Nat->aS}{x y:Oper}(h:∀t,t∈mO x.op\/t∈uf y.op->s t=s' t):sy s x y=sy s' x y:=by
 have aQ:∀k,ud s k y.op=ud s' k y.op:=by
  intro k;unfold ud;split;.rename_i t a v he;rw[PD (s:=s) (s':=s') (x:=a) (λq bg=>h q (.inr (by rw[he,bg];simp[uf])))]
  rfl
 have aB:ue s x.op=ue s' x.op:=by
  have ag:∀t,t∈mO x.op->s t=s' t:=λt aK=>h t (.inl aK);generalize x.op=op at ag;have one:∀a:Operand,(∀t,a= .tmp t->t∈mO op)->p6 s a=p6 s' a:=by intro a aE;cases a with|tmp t=>simp only[p6,ag t (aE t rfl)]|_=>rfl
  cases op<;>simp only[ue]
  case load t a=>exact one a (by rintro t rfl;simp[mO])
  case indexAddr t a i=>exact one a (by rintro t rfl;simp[mO])
  case lookup t a k ok=>exact one a (by rintro t rfl;simp[mO])
  case slice t a lo ah hr=>
   cases hr with
   |none=>exact one a (by rintro t rfl;simp[mO])
   |some _=>rfl
  case call c=>
   obtain⟨callee,args,dF⟩:=c;cases callee with
   |value=>rfl|invoke=>rfl
   |builtin b=>
    cases b<;>first|rfl|skip
    simp only;rw[Bool.eq_iff_iff,xaz,xaz];have aE:∀a∈args.toList,p6 s a=p6 s' a:=λa aE=>one a (by rintro t rfl;simp only[mO,List.mem_filterMap];exact⟨_,aE,rfl⟩);exact⟨λh a hm=>by rw[<-aE a hm];exact h a hm,λh a hm=>by rw[aE a hm];exact h a hm⟩
 unfold sy;rw[aB]
 congr 1
 split;.rename_i op t a b q ag;have aE:∀t,a= .tmp t->s t=s' t:=λt aK=>h t (.inl (by rw[ag,aK];simp[mO]));have aj:∀t,b= .tmp t->s t=s' t:=λt aK=>h t (.inl (by rw[ag,aK];simp[mO]));rw[W7 aE,W7 aj]
 .rename_i t a ag;have aE:∀t,a= .tmp t->s t=s' t:=λt aK=>h t (.inl (by rw[ag,aK];simp[mO]));rw[PD aE,aif aE];split
  .rw[aQ]
  rfl
 .rfl
 .rename_i t a v ag;have aE:∀t,a= .tmp t->s t=s' t:=λt aK=>h t (.inl (by rw[ag,aK];simp[mO]));rw[PD aE];split
  .rw[aQ]
  rfl
 rfl
def aii{y:Oper}{σ:aI}{K:aI->Prop}{L:List Tmp}(aB:∀a∈L,y.dst≠some a)(h:eu P T G all y K σ):eu P T G all y (λaV=>(∀a∈L,aV.aJ a=σ.aJ a)/\K aV) σ:=by
 have aU:∀(objs:cG)(r:aS),∀a∈L,(aI.put ⟨σ.aJ,objs⟩ y.dst r).aJ a=σ.aJ a:=λobjs r a aE=>by
  cases aQ:y.dst with
  |none=>rfl
  |some d=>
   have:a≠d:=by rintro rfl;exact aB a aE aQ
   simp only[aI.put,cX _ _ this]
 rw[hH]at h⊢;split at h
 .rename_i hw
  try simp only[hw]
  exact vP (λobjs r ak=>⟨aU objs r,ak⟩) h
 .rename_i hw
  try simp only[hw]
  exact⟨aU σ.objs _,h⟩
 exact h.elim
def aij{x:Oper}{σ:aI}{p:Prop}(h:eu P T G all x (λ_=>p) σ):p:=by
 rw[hH]at h;split at h
 .unfold db at h;split at h;.exact h
  unfold jB at h;split at h
  .split at h;.obtain⟨_,_,_,_,_,_,⟨r,nH⟩,_,q⟩:=h;exact q r (by rw[nH])
   exact h.elim
  exact h.elim
 .exact h
 exact h.elim
def aik{K:aI->Prop}{i:Nat}{fs:Oper}(ah:all[i]?=some fs)(mN:fs.guard=none){B:List Nat}(gC:∀j c6,j∈B->all[j]?=some c6->∃e∈c6.after,Region.binds .any e=true/\(e.on=i\/e.on∈B)){s0:Nat->aS}{L:List Tmp}(ail:∀t∈mO fs.op,t∈L): ∀(fuel:Nat)(listed:Array Bool)(σ:aI),(∀t∈L,σ.aJ t=s0 t)->(∀j,j∈B->listed.getD j true=false)->(∀j c6,all[j]?=some c6->j≠i->listed.getD j true=false->j∉B->fs.apart all c6=true/\sy s0 fs c6=true/\(∀t∈L,c6.dst≠some t)/\∀t∈uf c6.op,t∈L)->i∈Region.ready .any all listed->hU P T G all i (jd P T G all K fuel (listed.setIfInBounds i true)) σ->jd P T G all K (fuel+1) listed σ:=by
 intro fuel
 induction fuel with
 |zero=>
  intro listed σ dR qW oi av H;refine⟨λh=>(by rw[h]at av;cases av),λj aN=>?_⟩;by_cases iY:j=i;.subst iY;exact H
  have hm:=ready_mono aN iY;exfalso;have key:Region.ready .any all (listed.setIfInBounds i true)=[]:=by have PE:=vQ (K':=λ_=>Region.ready .any all (listed.setIfInBounds i true)=[]) (λaV bx=>bx.1) H;unfold hU at PE;simp only[ah]at PE;exact aij PE
  rw[key]at hm;cases hm
 |succ fuel ih=>
  intro listed σ dR qW oi av H;refine⟨λh=>(by rw[h]at av;cases av),λj aN=>?_⟩;by_cases iY:j=i;.subst iY;exact H
  obtain⟨vR,c6,je,gu⟩:=xbK.1 aN;have tN:∀k,listed.getD k true=false->listed[k]?.getD false=true->False:=λk au ab=>by
   rcases Nat.lt_or_ge k listed.size with bx|bx;.simp[bx]at au ab;rw[au]at ab;cases ab
   simp[Array.getElem?_eq_none bx]at ab
  have vS:j∉B:=λEd=>by
   obtain⟨e,he,aj,mM⟩:=gC j c6 Ed je;have ab:=gu e he aj;rcases mM with mM|mM
   .rw[mM]at ab;exact tN i (xbK.1 av).1 (by simpa using ab)
   exact tN _ (qW _ mM) (by simpa using ab)
  obtain⟨dw,da,eM,jf⟩:=oi j c6 je iY vR vS;have ab:hU P T G all i (λgw=>hU P T G all j (jd P T G all K fuel ((listed.setIfInBounds i true).setIfInBounds j true)) gw) σ:=vQ (λgw tX=>tX.2 j (ready_mono aN iY)) H;have af:hU P T G all j (λgf=>(∀a∈L,gf.aJ a=σ.aJ a)/\hU P T G all i (jd P T G all K fuel ((listed.setIfInBounds i true).setIfInBounds j true)) gf) σ:=by
   unfold hU at ab⊢;simp only[ah,je]at ab⊢;have bm:sy σ.aJ fs c6=true:=by
    rw[<-da];refine aih λt aK=>dR t ?_;rcases aK with aK|aK
    .exact ail t aK
    exact jf t aK
   exact aii eM (aie mN dw bm ab)
  have Ee:∀k ok,all[k]?=some ok->k≠i->(listed.setIfInBounds j true).getD k true=false->k∉B->fs.apart all ok=true/\sy s0 fs ok=true/\(∀t∈L,ok.dst≠some t)/\∀t∈uf ok.op,t∈L:=λk ok ak qX oj ie=>by
   refine oi k ok ak qX ?_ ie;by_cases gv:j=k;.subst gv;exact vR
   rw[getD_set_ne true gv]at oj;exact oj
  refine vQ (λgf aw=>ih (listed.setIfInBounds j true) gf (λt aK=>(aw.1 t aK).trans (dR t aK)) (λk ak=>by
   have gv:j≠k:=by rintro rfl;exact vS ak
   rw[getD_set_ne true gv];exact qW k ak) Ee (ready_mono av (Ne.symm iY)) ?_) af
  rw[Array.setIfInBounds_comm _ _ iY];exact aw.2
end
structure V where
 name:ByteArray
 bool:Bool
 lo:Int
 ah:Int
def V.cells(v:V):List D:=[aC v.name,ay v.bool,J v.lo,J v.ah]
def V.d(v:V):D:= .agg v.cells
def bj(l:List V):D:= .ax 4 (l.map V.cells)
def pc(n:Int):D:= .val (.int .u8 n)
def pd(n:Int):Prop:=-9223372036854775808<=n/\n<=9223372036854775807
def V.ok(v:V):Prop:=pd v.lo/\pd v.ah/\v.name.size<=9223372036854775807
def V.span(v:V):Int:=if v.bool then 2 else if v.lo>v.ah then 0 else if v.ah-v.lo<1073741824 then v.ah-v.lo+1 else 1073741825
def bitsOf(n:Int):Nat:=if n<=1 then 0 else Nat.log2 (n-1).toNat+1
def aim{n:Int}{k:Nat}(ab:∀j:Nat,j<k->(2:Int)^j<n)(af:n<=2^k):bitsOf n=k:=by
 unfold bitsOf;cases k with
 |zero=>simp at af;simp[af]
 |succ k=>
  have aw:=ab k (by omega);have aU:(0:Int)<2^k:=Int.pow_pos (by omega);rw[xac (by omega)];have e:Nat.log2 (n-1).toNat=k:=by
   have aE:(2:Nat)^k<=(n-1).toNat:=by
    have:((2^k:Nat):Int)=2^k:=by simp
    omega
   have aj:(n-1).toNat<2^(k+1):=by
    have:((2^(k+1):Nat):Int)=2^(k+1):=by simp
    omega
   exact(Nat.log2_eq_iff (by have:=Nat.two_pow_pos k;omega)).2 ⟨aE,aj⟩
  omega
def W8{n:Int}(h:1<n):bitsOf n=bitsOf (n/2+n%2)+1:=by
 unfold bitsOf;rw[xac (by omega)];by_cases af:n=2;.subst af;decide
 rw[xac (by omega)];have e:(n/2+n%2-1).toNat=(n-1).toNat/2:=by omega
 rw[e];have aw:(n-1).toNat≠0:=by omega
 have a4:(n-1).toNat/2≠0:=by omega
 obtain⟨a,b⟩:=(Nat.log2_eq_iff a4).1 rfl;have:Nat.log2 (n-1).toNat=Nat.log2 ((n-1).toNat/2)+1:=by
  refine(Nat.log2_eq_iff aw).2 ⟨?_,?_⟩;.rw[Nat.pow_succ];omega
  rw[Nat.pow_succ];omega
 omega
def sz(c:Int):Bool:=(decide (c>=97)&&decide (c<=122))||(decide (c>=65)&&decide (c<=90))
def xZ(c:Int):Bool:=decide (c>=48)&&decide (c<=57)
def mP(c:Int):Bool:=sz c||xZ c||(c==95)
def W9{lo ah:Int}(ab:pd lo)(af:pd ah)(h:lo<=ah):IntKind.u64.wrap (IntKind.u64.wrap ah-IntKind.u64.wrap lo)=ah-lo:=by unfold pd at ab af;simp only[IntKind.wrap_u64];omega
def V.Xa{v:V}(h:v.bool=true):v.span=2:=by simp[V.span,h]
def V.Xb{v:V}(h:v.bool=false)(ab:v.lo>v.ah):v.span=0:=by simp[V.span,h,ab]
def V.PF{v:V}(h:v.bool=false)(ab:v.lo<=v.ah)(af:v.ah-v.lo<1073741824):v.span=v.ah-v.lo+1:=by simp[V.span,h,af];omega
def V.PG{v:V}(h:v.bool=false)(ab:v.lo<=v.ah)(af:1073741824<=v.ah-v.lo):v.span=1073741825:=by simp[V.span,h,af];omega
def has(x:ByteArray)(l:List ByteArray):Bool:=l.any λy=>decide (y=x)
def idxOf(x:ByteArray)(l:List ByteArray):Int:=match l.findIdx? (λy=>decide (y=x))with|some i=>(i:Nat)|none=>-1
def Xc{x:ByteArray}{l:List ByteArray}(h:∀j:Nat,j<l.length->l[j]?≠some x):idxOf x l=-1:=by
 unfold idxOf;have:l.findIdx? (λy=>decide (y=x))=none:=by rw[List.findIdx?_eq_none_iff];intro y aQ;obtain⟨j,aN⟩:=xaT.1 aQ;have ab:=h j (xae.1 aN).1;rw[aN]at ab;simpa using ab
 rw[this]
def Xd{x:ByteArray}{l:List ByteArray}{i:Nat}(h:∀j:Nat,j<i->l[j]?≠some x)(ah:l[i]?=some x):idxOf x l=i:=by
 unfold idxOf;obtain⟨b7,cO⟩:=xae.1 ah;have:l.findIdx? (λy=>decide (y=x))=some i:=by rw[xbh];refine⟨b7,by simpa using cO,λj aN=>?_⟩;have ab:=h j aN;rw[xab (by omega)]at ab;simpa using ab
 rw[this]
def Xe(x:ByteArray)(l:List ByteArray):decide (idxOf x l>=0)=has x l:=by
 unfold idxOf has;cases h:l.findIdx? (λy=>decide (y=x))with
 |none=>
  rw[List.findIdx?_eq_none_iff]at h;have:l.any (λy=>decide (y=x))=false:=by rw[List.any_eq_false];intro y aQ;simpa using h y aQ
  rw[this];rfl
 |some i=>obtain⟨ab,af,_⟩:=xbh.1 h;have:l.any (λy=>decide (y=x))=true:=xbt.2 ⟨_,xaX ab,af⟩;rw[this];simp
def Xf{x:ByteArray}{l:List ByteArray}{i:Nat}(h:l[i]?=some x):has x l=true:=xbt.2 ⟨x,xaa h,by simp⟩
def Xg{x:ByteArray}{l:List ByteArray}(h:∀j:Nat,j<l.length->l[j]?≠some x):has x l=false:=by unfold has;rw[List.any_eq_false];intro y aQ;obtain⟨j,aN⟩:=xaT.1 aQ;have ab:=h j (xae.1 aN).1;rw[aN]at ab;simpa using ab
def oo(p:Int->Bool)(s:ByteArray)(i:Nat):Bool:=match s[i]? with|some b=>p b.toNat|none=>false
def nJ(p:Int->Bool)(s:ByteArray):Nat:=((List.range (s.size+1)).find? λi=>!oo p s i).getD 0
theorem Km{s:ByteArray}{i:Nat}:s[i]?=if h:i<s.size then some s[i]else none:=rfl
def ain{p:Int->Bool}{s:ByteArray}{i:Nat}(h:oo p s i=true):i<s.size:=by
 unfold oo at h;rw[Km]at h;by_cases ab:i<s.size;.exact ab
 rw[dif_neg ab]at h;cases h
def words:List ByteArray:=[⟨#[65]⟩,⟨#[65,70]⟩,⟨#[65,71]⟩,⟨#[65,88]⟩,⟨#[69]⟩,⟨#[69,70]⟩,⟨#[69,71]⟩,⟨#[69,88]⟩,⟨#[85]⟩,⟨#[98,111,111,108]⟩,⟨#[100,101,102]⟩,⟨#[101,108,115,101]⟩,⟨#[102,97,105,114]⟩,⟨#[102,97,108,115,101]⟩,⟨#[105,102]⟩,⟨#[105,110,105,116]⟩,⟨#[105,110,118,97,114]⟩,⟨#[109,111,100]⟩,⟨#[110,101,120,116]⟩,⟨#[115,112,101,99]⟩,⟨#[116,104,101,110]⟩,⟨#[116,114,97,110,115]⟩,⟨#[116,114,117,101]⟩,⟨#[118,97,114]⟩]
def isName(s:ByteArray):Bool:=decide ((s.size:Int)>=1)&&decide ((s.size:Int)<=24)&&oo sz s 0&&((nJ mP s:Int)==(s.size:Int))&&!has s words
def Xh(s:ByteArray):(decide (s=⟨#[]⟩)=true/\decide ((s.size:Int)>=1)=false)\/∃b,decide (s=⟨#[]⟩)=false/\decide ((s.size:Int)>=1)=true/\s[0]?=some b:=by
 by_cases h:0<s.size
 .refine .inr ⟨s[0],?_,?_,?_⟩
  .have:s≠⟨#[]⟩:=by rintro rfl;exact absurd h (by decide)
   simpa using this
  .simp;omega
  rw[Km,dif_pos h]
 refine .inl ⟨?_,?_⟩
 .have au:s.size=0:=by omega
  have:s=⟨#[]⟩:=by
   cases s with|mk d=>
   congr 1
   exact xbg au
  simpa using this
 simp;omega
def vZ(v:V):Bool:=decide ((if v.ah>v.lo then v.ah else v.lo)>255)||decide ((if v.ah<v.lo then v.ah else v.lo)< -255)
def A0(seen:List V)(v:V):Int:=if !isName v.name then 12 else if has v.name (seen.map V.name)then 6 else if v.bool&&(v.lo !=0||v.ah !=0)then 3
 else if !v.bool&&(decide (v.lo>v.ah)||vZ v||decide (IntKind.i64.wrap (v.ah-v.lo)>=64))then 2 else 0
def jg(l:List V)(i:Nat):Int:=match l[i]? with|some v=>A0 (l.take i) v|none=>0
def j9(l:List V):Int×Int:=match(List.range l.length).find? (λi=>jg l i !=0)with|some i=>((i:Int),jg l i)|none=>(0,0)
def Xi{l:List V}{i:Nat}{e:Int}(h:∀j:Nat,j<i->jg l j=0)(ah:i<l.length)(he:jg l i=e)(au:e≠0):j9 l=((i:Int),e):=by
 unfold j9;have:(List.range l.length).find? (λi=>jg l i !=0)=some i:=by rw[List.find?_range_eq_some];exact⟨by simpa[he]using au,by simpa using ah,λj aN=>by simp[h j aN]⟩
 rw[this];simp[he]
def Xj{l:List V}(h:∀j:Nat,j<l.length->jg l j=0):j9 l=(0,0):=by
 unfold j9;have:(List.range l.length).find? (λi=>jg l i !=0)=none:=by rw[List.find?_eq_none];intro j aN;simp[h j (by simpa using aN)]
 rw[this]
def aio{v:V}(a6:v.ok):(!v.bool&&(decide (v.lo>v.ah)||vZ v||decide (IntKind.i64.wrap (v.ah-v.lo)>=64)))=(!v.bool&&(decide (v.lo>v.ah)||!(decide (v.lo>=-255)&&decide (v.lo<=255))||!(decide (v.ah>=-255)&&decide (v.ah<=255))||decide (v.span>64))):=by
 cases aj:v.bool with
 |true=>rfl
 |false=>
  by_cases ab:v.lo>v.ah;.simp[ab]
  have eW:v.lo<=v.ah:=by omega
  by_cases af:-255<=v.lo/\v.ah<=255
  .have aL:vZ v=false:=by
    unfold vZ;split<;>(try split)<;>simp<;>omega
   have aX:(decide (v.lo>=-255)&&decide (v.lo<=255))=true:=by simp;omega
   have bL:(decide (v.ah>=-255)&&decide (v.ah<=255))=true:=by simp;omega
   rw[V.PF aj eW (by omega),aL,aX,bL,wrap64 _ (by omega) (by omega)];have cL:decide (v.lo>v.ah)=false:=by simpa using eW
   have ea:decide (v.ah-v.lo>=64)=decide (v.ah-v.lo+1>64):=by rw[decide_eq_decide];omega
   rw[cL,ea];rfl
  have aL:vZ v=true:=by unfold vZ;split<;>(try split)<;>simp<;>omega
  have aX:(!(decide (v.lo>=-255)&&decide (v.lo<=255))||!(decide (v.ah>=-255)&&decide (v.ah<=255)))=true:=by simp;omega
  rw[aL];revert aX;generalize decide (v.lo>v.ah)=p;generalize (decide (v.lo>=-255)&&decide (v.lo<=255))=q;generalize (decide (v.ah>=-255)&&decide (v.ah<=255))=r;cases p<;>cases q<;>cases r<;>simp
def aip{l:List V}{x:ByteArray}{i:Nat}(h:∀j:Nat,j<i->(l.map V.name)[j]?≠some x):has x ((l.take i).map V.name)=false:=by refine Xg λj aN=>?_;rw[List.map_take,xaM];simp at aN;rw[xad (by omega)];exact h j (by omega)
theorem aiq{l:List V}{w:V}{k i:Nat}(ak:k<i)(hw:l[k]?=some w):has w.name ((l.take i).map V.name)=true:=by refine Xf (i:=k) ?_;rw[List.map_take,xaM,xad ak,xaj,hw];rfl
end Go.Am
