/- Steps, joins, and nil slices that become rows of our own. No condition. -/
import Derived.Test.YtnaahibhhibijaaGreatDoorEngB
set_option linter.all false
set_option linter.unnecessarySimpa false
namespace Go.Am
section
variable{P:Program}{T:ca}{G:c9}{N:Nat}{σ:aI}{Q:Exit->aI->Prop}{all:Array Oper}
def aiH(l:List Oper):∀(k:Nat)(σ:aI)(K:aI->Prop),(∀j,l[j]?=all[k+j]?)->fg P T G all l K σ->BI P T G all (List.range' k l.length) K σ:=by
 induction l with
 |nil=>intro k σ K _ h;exact h
 |cons o l ih=>
  intro k σ K an h;have aq:all[k]?=some o:=by simpa using(an 0).symm
  simp only[xak,List.range'_succ,BI,aq];refine EX (λaT ur=>ih (k+1) aT K (λj=>by have:=an (j+1);simpa[xbg,Nat.add_comm 1 j]using this) ur) h
def aiI(bb:dy P T)(hm:P.follows .mixedOrders=true){id:Nat}{ops:Array Oper}(cd:wE N ops=true)(BK:ym T ops (List.range ops.size) (Array.replicate ops.size false)=true) (h:fg P T G ops ops.toList (Q .normal) σ):gU P T G N (.region id ops true) σ Q:=by refine aio bb hm cd (List.range ops.size) (by simp) BK ?_;rw[List.range_eq_range'];have:=aiH (P:=P) (T:=T) (G:=G) (all:=ops) ops.toList 0 σ (Q .normal) (λj=>by simp) h;simpa using this
end
section
variable{P:Program}{T:ca}{G:c9}{N:Nat}{σ fV:aI}{Q:Exit->aI->Prop}{id:Nat}{ops:Array Oper}
end
def wrap64(x:Int)(ab:-9223372036854775808<=x)(ad:x<=9223372036854775807):IntKind.i64.wrap x=x:=by rw[IntKind.wrap_i64];omega
def Fin(T:ca)(rs:List ResultVar)(eE:D->Prop)(e:Exit)(aT:aI):Prop:=(e= .normal\/e= .ret)/\∃r d x,q7 T aT rs=some r/\toD aT.objs r=some d/\d.le x/\eE x
theorem getD_cons_zero{α:Type}(x:α)(l:List α)(d:α):(x::l).getD 0 d=x:=rfl
theorem getD_cons_succ{α:Type}(x:α)(l:List α)(n:Nat)(d:α):(x::l).getD (n+1) d=l.getD n d:=rfl
def W5{σ:aI}(K:Key)(n:Nat)(ux:Nat->aS)(objs':cB)(gu:σ.objs K=none) (av:∀t,ux t=σ.aJ t\/σ.aJ t= .d (.val (.slice none 0 0))/\ux t= .row K) (aR:∀k o,objs' k=some o->k=K/\o= .row n []\/k≠K/\(σ.objs k=some o\/∃xs i,σ.objs k=some (.box xs)/\xs[i]?=some (.d (.val (.slice none 0 0)))/\o= .box (xs.set i (.row K)))) (oh:∀k,σ.objs k≠none->objs' k≠none) (aiJ:objs' K=some (.row n [])) (aiK:∀k,eo (σ.objs k)->eo (objs' k)):gC σ ⟨ux,objs'⟩:=by
 intro m fr ρ a w h;have cf:∀k,σ.used k->k≠K:=by rintro k ⟨o,ah⟩ rfl;rw[gu]at ah;cases ah
 have au:∀k,σ.used k->aI.used ⟨ux,objs'⟩ k/\cr ρ K (.slice none 0 0) k=ρ k:=λk ah=>
  ⟨by
   cases bU:objs' k with
   |none=>exact absurd bU (oh k (by obtain⟨o,e⟩:=ah;rw[e];simp))
   |some o=>exact⟨o,bU⟩,cU _ _ (cf k ah)⟩
 have aiL:aI.used ⟨ux,objs'⟩ K:=⟨_,aiJ⟩;have BP:cr ρ K (.slice none 0 0) K= .slice none 0 0:=by simp[cr]
 have o6:b2 m (cr ρ K (.slice none 0 0)) (aI.used ⟨ux,objs'⟩) (.row K) (.slice none 0 0):=by have:=b2.row (m:=m) (ρ:=cr ρ K (.slice none 0 0)) (U:=aI.used ⟨ux,objs'⟩) K aiL;rw[BP]at this;exact this
 refine⟨m,cr ρ K (.slice none 0 0),Mem.le_refl m,⟨h.mem,h.frame,h.apart,?_,?_,?_,?_,?_⟩,?_⟩
 .rintro k ⟨o,ah⟩;rcases aR k o ah with⟨rfl,rfl⟩|⟨ab,ad⟩;.rw[BP];rfl
  rw[cU _ _ ab];rcases ad with ad|⟨xs,i,ad,_,_⟩
  .exact h.one k ⟨_,ad⟩
  exact h.one k ⟨_,ad⟩
 .intro t;rcases av t with e|⟨aN,aV⟩
  .show b2 m _ _ (ux t) _;rw[e];exact(h.aJ t).mono (Mem.le_refl m) au
  show b2 m _ _ (ux t) _;rw[aV];have:=h.aJ t;rw[aN]at this;rw[this.hj];exact o6
 .intro k o ah;rcases aR k o ah with⟨rfl,rfl⟩|⟨ab,ad⟩
  .rw[BP];exact .inl ⟨rfl,rfl⟩
  rw[cU _ _ ab];rcases ad with ad|⟨xs,i,ad,ax,rfl⟩
  .exact(h.objs k o ad).mono (Mem.le_refl m) au (λ_ _ _=>rfl)
  obtain⟨b,vs,T,aN,aV,bS,cT⟩:=(h.objs k _ ad).mono (Mem.le_refl m) au (λ_ _ _=>rfl);refine⟨b,vs,T,aN,aV,by simpa using bS,?_⟩;intro j c x ai ae;rw[List.getElem?_set]at ai;split at ai
  .rename_i kG;subst kG;split at ai;.cases ai;have:=cT i _ x ax ae;rw[this.hj];exact o6
   cases ai
  exact cT j c x ai ae
 .intro k o b ah aiM ak;rcases aR k o ah with⟨rfl,rfl⟩|⟨ab,ad⟩
  .have fU:blockOf (cr ρ k (.slice none 0 0) k)=some b:=ak;rw[BP]at fU;cases fU
  have fU:blockOf (cr ρ K (.slice none 0 0) k)=some b:=ak;rw[cU _ _ ab]at fU;rcases ad with ad|⟨xs,i,ad,_,rfl⟩
  .exact h.own k o b ad aiM fU
  exact h.own k _ b ad rfl fU
 .intro k bu o o' b dd ah e1 fW lv ak;rcases aR k o ah with⟨rfl,rfl⟩|⟨ab,ad⟩
  .have fU:blockOf (cr ρ k (.slice none 0 0) k)=some b:=ak;rw[BP]at fU;cases fU
  rw[cU _ _ ab]at ak;rcases aR bu o' e1 with⟨rfl,rfl⟩|⟨dQ,gR⟩
  .rw[BP];intro bU;cases bU
  rw[cU _ _ dQ];have hold:∃p,σ.objs k=some p/\p.owns=true:=by
   rcases ad with ad|⟨xs,i,ad,_,rfl⟩;.exact⟨_,ad,fW⟩
   exact⟨_,ad,rfl⟩
  have aiN:∃p,σ.objs bu=some p/\p.owns=true:=by
   rcases gR with gR|⟨xs,i,gR,_,rfl⟩;.exact⟨_,gR,lv⟩
   exact⟨_,gR,rfl⟩
  obtain⟨p,bG,bw⟩:=hold;obtain⟨n8,aiO,aiP⟩:=aiN;exact h.sep k bu p n8 b dd bG aiO bw aiP ak
 intro k ah ak;refine⟨aiK k ak,cU _ _ ?_⟩;obtain⟨c,ai⟩:=BB ak;exact cf k ⟨_,ai⟩
def aiQ{σ:aI}(t:Nat)(K:Key)(n:Nat)(aF:σ.aJ t= .d (.val (.slice none 0 0)))(gu:σ.objs K=none):gC σ ⟨cr σ.aJ t (.row K),cr σ.objs K (some (.row n []))⟩:=by
 refine W5 K n _ _ gu ?_ ?_ ?_ (by simp[cr]) ?_
 .intro j;by_cases h:j=t;.subst h;exact .inr ⟨aF,by simp[cr]⟩
  exact .inl (by simp[cr,h])
 .intro k o ah;by_cases h:k=K;.subst h;simp[cr]at ah;exact .inl ⟨rfl,ah.symm⟩
  rw[cU _ _ h]at ah;exact .inr ⟨h,.inl ah⟩
 .intro k ah;by_cases h:k=K;.subst h;simp[cr]
  rw[cU _ _ h];exact ah
 intro k ak;have h:k≠K:=by rintro rfl;rw[gu]at ak;exact uj ak
 rw[cU _ _ h];exact ak
def aiR{σ:aI}(k:Key)(i:Nat)(K:Key)(n:Nat){xs:List aS}(ah:σ.objs k=some (.box xs))(ag:xs[i]?=some (.d (.val (.slice none 0 0))))(gu:σ.objs K=none):gC σ ⟨σ.aJ,cr (cr σ.objs k (some (.box (xs.set i (.row K))))) K (some (.row n []))⟩:=by
 have az0:k≠K:=by rintro rfl;rw[gu]at ah;cases ah
 refine W5 K n _ _ gu (λ_=> .inl rfl) ?_ ?_ (by simp[cr]) ?_
 .intro j o aG;by_cases h:j=K;.subst h;simp[cr]at aG;exact .inl ⟨rfl,aG.symm⟩
  rw[cU _ _ h]at aG;by_cases ad:j=k;.subst ad;simp[cr]at aG;exact .inr ⟨h,.inr ⟨xs,i,ah,ag,aG.symm⟩⟩
  rw[cU _ _ ad]at aG;exact .inr ⟨h,.inl aG⟩
 .intro j aG;by_cases h:j=K;.subst h;simp[cr]
  rw[cU _ _ h];by_cases ad:j=k;.subst ad;simp[cr]
  rw[cU _ _ ad];exact aG
 intro j ak;have h:j≠K:=by rintro rfl;rw[gu]at ak;exact uj ak
 rw[cU _ _ h];by_cases ad:j=k;.subst ad;rw[ew];exact ui
 rw[cU _ _ ad];exact ak
def aiS{σ:aI}(t:Nat)(K:Key)(n:Nat){es:List (List D)}(aF:σ.aJ t= .row K)(ah:σ.objs K=some (.row n es)):gC σ ⟨cr σ.aJ t (.sub K n 0 es.length),σ.objs⟩:=by
 intro m fr ρ a w h;refine⟨m,ρ,Mem.le_refl m,⟨h.mem,h.frame,h.apart,h.one,?_,h.objs,h.own,h.sep⟩,kD.refl _ _⟩;intro s;by_cases av:s=t
 .subst av;have ab:=h.aJ s;rw[aF]at ab;show b2 m _ _ (cr σ.aJ s _ s) _;rw[ew];generalize a.tmps.getD s undef=v at*;cases ab with|row _ hu=>
  rcases h.objs _ _ ah with⟨aN,aV⟩|⟨b,o,cap,vs,dB,aN,aV,bS,cT,dJ,eH⟩;.rw[aN,aV];exact .ju K n 0 hu aN
  rw[aN];exact b2.sub (m:=m) (ρ:=ρ) (U:=σ.used) K n 0 es.length b o es.length cap o hu aN (by omega) ⟨λ_=>by simp,by omega⟩
 show b2 m _ _ (cr σ.aJ t _ s) _;rw[cU _ _ av];exact h.aJ s
def aiT{T:ca}{ev:Operand->aS}{objs:cB}{d:Key}{o:Op}{r:aS}{cE:List (Key×cO)}(h:dR T ev objs d o=some (r,cE))(hX:∀t a x,o≠ .store t a x):∀j c,objs j=some (.box c)->dp objs cE j=some (.box c):=by
 have KG:∀{objs:cB}{k:Key}{o:cO},(∀c,objs k≠some (.box c))->∀j c,objs j=some (.box c)->cr objs k (some o) j=some (.box c):=by
  intro objs k o ah j c aG;have:j≠k:=by rintro rfl;exact ah c aG
  rw[cU _ _ this];exact aG
 have new:∀{o:cO},objs d=none->∀j c,objs j=some (.box c)->dp objs [(d,o)] j=some (.box c):=by intro o az;exact KG (by intro c ai;rw[az]at ai;cases ai)
 have same:∀{k:Key}{dC o:cO},objs k=some dC->(∀c,dC≠ .box c)->∀j c,objs j=some (.box c)->dp objs [(k,o)] j=some (.box c):=by intro k dC o ah cf;exact KG (by intro c ai;rw[ah]at ai;cases ai;exact cf c rfl)
 cases o<;>simp only[dR,reduceCtorEq]at h
 case alloc=>split at h<;>cases h;exact new (by assumption)
 case box=>split at h<;>cases h;exact new (by assumption)
 case buildSlice=>
  split at h
  case h_2=>cases h
  split at h
  case h_2=>cases h
  split at h
  case h_2=>cases h
  split at h<;>cases h;exact new (by assumption)
 case makeSlice=>
  split at h
  case h_2=>cases h
  split at h
  case h_2=>cases h
  split at h
  case h_2=>cases h
  split at h<;>cases h;exact new (by assumption)
 case makeMap=>split at h<;>cases h;exact new (by assumption)
 case store=>exact absurd rfl (hX _ _ _)
 case mapUpdate=>
  split at h
  case h_2=>cases h
  split at h
  case h_2=>cases h
  split at h
  case isFalse=>cases h
  split at h
  case h_2=>cases h
  split at h
  case h_2=>cases h
  split at h<;>cases h;exact same (by assumption) (by intro c ai;cases ai)
 case insert=>
  split at h
  case h_2=>cases h
  split at h
  case h_2=>cases h
  split at h
  case isFalse=>cases h
  split at h
  case h_2=>cases h
  split at h
  case h_2=>cases h
  split at h<;>cases h;exact same (by assumption) (by intro c ai;cases ai)
 case call=>
  split at h
  .split at h
   case h_2=>cases h
   split at h
   case h_2=>cases h
   split at h
   case h_2=>cases h
   split at h
   case h_2=>cases h
   split at h
   case isFalse=>cases h
   split at h;.split at h<;>cases h;exact new (by assumption)
   .split at h
    case h_2=>cases h
    split at h<;>cases h;rename_i az _ _ _ _ _ _ _ _ _ _ _ _ ah _ _;have hg:=same (o:= .dead) (by assumption) (by intro c ai;cases ai);intro j aL aG;have ab:=hg j aL aG;refine KG ?_ j aL ab;intro c ak;have cf:∀key x,objs key=some x->d≠key:=by
     rintro key x ae rfl;have aq:objs d=none:=by assumption
     rw[aq]at ae;cases ae
    rw[cU _ _ (cf _ _ (by assumption))]at ak;clear KG new same hg ab cf
    simp_all
   cases h
  .split at h
   case h_2=>cases h
   split at h
   case h_2=>cases h
   split at h
   case h_2=>cases h
   split at h
   case h_2=>cases h
   split at h
   case isFalse=>cases h
   split at h
   .split at h
    case h_2=>cases h
    split at h<;>cases h;exact same (by assumption) (by intro c ai;cases ai)
   .split at h
    case h_2=>cases h
    split at h<;>cases h;exact same (by assumption) (by intro c ai;cases ai)
   cases h
  .split at h
   case h_2=>cases h
   split at h
   case h_2=>cases h
   split at h
   case h_2=>cases h
   split at h
   case h_2=>cases h
   split at h
   case h_2=>cases h
   split at h<;>cases h;exact same (by assumption) (by intro c ai;cases ai)
  cases h
def aiU{T:ca}{ev:Operand->aS}{objs:cB}{d:Key}{o:Op}{r:aS}{cE:List (Key×cO)}(h:gK T ev objs d o=some (r,cE))(hX:∀t a x,o≠ .store t a x):∀j c,objs j=some (.box c)->dp objs cE j=some (.box c):=by
 obtain⟨⟨hx,sJ⟩,aq,ak⟩:=wm h;have ab:=aiT aq hX;intro j c aG;have ad:=ab j c aG;rcases yg (T.born d) d hx sJ with e|⟨n,es,rfl,rfl,e⟩|⟨p5,n,es,rfl,rfl,e⟩|⟨off,cs,ds,rfl,rfl,eh,e⟩
 .rw[ak]at e;cases e;exact ad
 .rw[ak]at e;cases e;by_cases az:j=d;.subst az;simp only[dp,ew]at ad;cases ad
  simp only[dp,cU _ _ az]at ad⊢;exact ad
 .rw[ak]at e;cases e;by_cases az:j=d;.subst az;simp only[dp,ew]at ad;cases ad
  simp only[dp,cU _ _ az]at ad⊢;exact ad
 rw[ak]at e;cases e;have aC:objs d=none:=Ww aq;by_cases az:j=d
 .subst az;rw[aC]at aG;cases aG
 simp only[dp,cU _ _ az];exact aG
section
variable{P:Program}{T:ca}{G:c9}{all:Array Oper}
def aiV{y:Oper}{σ:aI}{K K':aI->Prop}(hX:∀t a x,y.op≠ .store t a x)(ah:∀objs r,(∀j c,σ.objs j=some (.box c)->objs j=some (.box c))->K (aI.put ⟨σ.aJ,objs⟩ y.dst r)->K' (aI.put ⟨σ.aJ,objs⟩ y.dst r)) (h:c3 P T G y K σ):c3 P T G y K' σ:=by
 unfold c3 at*;rw[wy]at*;cases au:res T G σ y with
 |none=>simp only[au,xbs]at h⊢;exact ES h λr au=>ah σ.objs r (λ_ _ h=>h) au
 |some p=>
  simp only[au,xaK]at h⊢;refine ah _ _ ?_ h;intro j c aG;obtain⟨r,cE⟩:=p;unfold res at au;split at au;.cases au;exact aG
  split at au;.cases au;exact aG
  exact aiU au hX j c aG
def W6{t a k off:Nat}{σ:aI}{x:Oper}(ae:x.op= .load t (.tmp a))(av:σ.aJ a= .ptr k off){K:aI->Prop}(h:c3 P T G x K σ): ∃r,K (σ.put x.dst r)/\∀objs,(∀j c,σ.objs j=some (.box c)->objs j=some (.box c))->res T G ⟨σ.aJ,objs⟩ x=some (r,[]):=by
 unfold c3 at h;rw[wy]at h;cases au:res T G σ x with
 |none=>simp only[au,xbs]at h;unfold jk at h;rw[ae]at h;exact h.elim
 |some p=>
  simp only[au,xaK]at h;obtain⟨r,cE⟩:=p;unfold res at au;rw[ae]at au;simp only[dW,dn,b8,av,gK,dR,xbs]at au;cases bb:T t with
  |none=>simp[bb]at au
  |some i=>
   simp only[bb]at au;cases ah:σ.objs k with
   |none=>simp[ah]at au
   |some o=>
    cases o with
    |box cells=>simp only[ah]at au;cases aU:wb i cells off with|none=>simp[aU]at au|some q=>simp only[aU,xaH,Prod.mk.injEq]at au;obtain⟨rfl,rfl⟩:=au;refine⟨q,h,λobjs aR=>?_⟩;unfold res;rw[ae];simp only[dW,dn,b8,av,bb,aR k cells ah,aU]
    |dead=>simp[ah]at au|row=>simp[ah]at au|map=>simp[ah]at au
def W7{x y:Oper}{σ:aI}{K:aI->Prop}{t a k off:Nat}(ae:x.op= .load t (.tmp a))(mw:x.guard=none)(av:σ.aJ a= .ptr k off)(hX:∀t a x,y.op≠ .store t a x)(kF:x.apart all y=true) (h:dY P T G all x (λfV=>dY P T G all y K fV) σ):dY P T G all y (λfy=>dY P T G all x K fy) σ:=by
 obtain⟨ao,a2,a3⟩:=Oper.apart_spec kF;have od:∀d,y.dst=some d->x.dst≠some d:=λd az ae=>a2 d ae az;have k1:∀(K:aI->Prop) σ,dY P T G all x K σ=c3 P T G x K σ:=λK σ=>by unfold dY;simp only[mw]
 simp only[k1]at h⊢;obtain⟨r,ab,ad⟩:=W6 ae av h;have E7:∀(K:aI->Prop) objs,(∀j c,σ.objs j=some (.box c)->objs j=some (.box c))->c3 P T G x K ⟨σ.aJ,objs⟩=K (aI.put ⟨σ.aJ,objs⟩ x.dst r):=λK objs aR=>lZ (ad objs aR);rw[hl,oc ao]at ab;rw[hl];split at ab
 .rename_i hw
  try simp only[hw]
  rw[jl ao a2]at ab;refine aiV hX (λobjs q aR ah=>?_) ab;rw[jl a3 od,E7 _ _ aR,put_comm a2];exact ah
 .rename_i hw
  try simp only[hw]
  show c3 P T G x K (σ.put y.dst _);rw[jl a3 od];have:=E7 (λaT=>K (aT.put y.dst (.d (.val (.tuple #[]))))) σ.objs (λ_ _ h=>h);have e:c3 P T G x (λaT=>K (aT.put y.dst (.d (.val (.tuple #[]))))) σ=K ((σ.put x.dst r).put y.dst (.d (.val (.tuple #[])))):=this;rw[e];exact ab
 exact ab.elim
def aiW{y:Oper}{σ:aI}{K:aI->Prop}{a:Nat}(az:y.dst≠some a)(h:dY P T G all y K σ):dY P T G all y (λaT=>aT.aJ a=σ.aJ a/\K aT) σ:=by
 have aU:∀(objs:cB)(r:aS),(aI.put ⟨σ.aJ,objs⟩ y.dst r).aJ a=σ.aJ a:=λobjs r=>by
  cases aP:y.dst with
  |none=>rfl
  |some d=>
   have:a≠d:=by rintro rfl;exact az aP
   simp only[aI.put,cU _ _ this]
 rw[hl]at h⊢;split at h
 .rename_i hw
  try simp only[hw]
  exact wA (λobjs r ah=>⟨aU objs r,ah⟩) h
 .rename_i hw
  try simp only[hw]
  exact⟨aU σ.objs _,h⟩
 exact h.elim
def aiX{K:aI->Prop}{i:Nat}{eO:Oper}{t a k off:Nat}(ag:all[i]?=some eO)(ae:eO.op= .load t (.tmp a))(mw:eO.guard=none){B:List Nat}(ep:∀j cZ,j∈B->all[j]?=some cZ->∃e∈cZ.after,Region.binds .any e=true/\(e.on=i\/e.on∈B)):∀(fuel:Nat)(listed:Array Bool)(σ:aI),σ.aJ a= .ptr k off->(∀j,j∈B->listed.getD j true=false)->(∀j cZ,all[j]?=some cZ->j≠i->listed.getD j true=false->j∉B->eO.apart all cZ=true/\∀t a x,cZ.op≠ .store t a x)->i∈Region.ready .any all listed->hy P T G all i (iS P T G all K fuel (listed.setIfInBounds i true)) σ->iS P T G all K (fuel+1) listed σ:=by
 intro fuel
 induction fuel with
 |zero=>
  intro listed σ cb q3 oe au H;refine⟨λh=>(by rw[h]at au;cases au),λj aG=>?_⟩;by_cases iT:j=i;.subst iT;exact H
  have hm:=ready_mono aG iT;exfalso;have key:Region.ready .any all (listed.setIfInBounds i true)=[]:=by unfold hy at H;simp only[ag]at H;unfold dY at H;simp only[mw]at H;obtain⟨r,ab,_⟩:=W6 ae cb H;exact ab.1
  rw[key]at hm;cases hm
 |succ fuel ih=>
  intro listed σ cb q3 oe au H;refine⟨λh=>(by rw[h]at au;cases au),λj aG=>?_⟩;by_cases iT:j=i;.subst iT;exact H
  obtain⟨wC,cZ,iU,fS⟩:=xbO.1 aG;have uf:∀k,listed.getD k true=false->listed[k]?.getD false=true->False:=λk aq ab=>by
   rcases xbC k listed.size with bs|bs;.simp[bs]at aq ab;rw[aq]at ab;cases ab
   simp[Array.getElem?_eq_none bs]at ab
  have wD:j∉B:=λE0=>by
   obtain⟨e,he,ak,mu⟩:=ep j cZ E0 iU;have ab:=fS e he ak;rcases mu with mu|mu
   .rw[mu]at ab;exact uf i (xbO.1 au).1 (by simpa using ab)
   exact uf _ (q3 _ mu) (by simpa using ab)
  obtain⟨eJ,dV⟩:=oe j cZ iU iT wC wD;have ab:hy P T G all i (λfV=>hy P T G all j (iS P T G all K fuel ((listed.setIfInBounds i true).setIfInBounds j true)) fV) σ:=wB (λfV ur=>ur.2 j (ready_mono aG iT)) H;have PR:cZ.dst≠some a:=λaz=>by obtain⟨_,_,a3⟩:=Oper.apart_spec eJ;refine a3 a az ?_;unfold Oper.looksAt;rw[ae];simp[Op.operands]
  have ad:hy P T G all j (λfy=>fy.aJ a=σ.aJ a/\hy P T G all i (iS P T G all K fuel ((listed.setIfInBounds i true).setIfInBounds j true)) fy) σ:=by unfold hy at ab⊢;simp only[ag,iU]at ab⊢;exact aiW PR (W7 ae mw cb dV eJ ab)
  have E1:∀k ok,all[k]?=some ok->k≠i->(listed.setIfInBounds j true).getD k true=false->k∉B->eO.apart all ok=true/\∀t a x,ok.op≠ .store t a x:=λk ok ah q4 og hX=>by
   refine oe k ok ah q4 ?_ hX;by_cases fm:j=k;.subst fm;exact wC
   rw[getD_set_ne true fm]at og;exact og
  refine wB (λfy ax=>ih (listed.setIfInBounds j true) fy (ax.1.trans cb) (λk ah=>by
   have fm:j≠k:=by rintro rfl;exact wD ah
   rw[getD_set_ne true fm];exact q3 k ah) E1 (ready_mono au (Ne.symm iT)) ?_) ad
  rw[Array.setIfInBounds_comm _ _ iT];exact ax.2
end
section
variable{P:Program}{T:ca}{G:c9}{all:Array Oper}
def BQ:aS->Option Key
 | .ptr k _=>some k| .fR k _ _ _=>some k|_=>none
def keyOf(aJ:Nat->aS):Operand->Option Key
 | .tmp a=>BQ (aJ a)|_=>none
theorem PS{aJ:Nat->aS}(x:Operand):BQ (b8 G aJ x)=keyOf aJ x:=by cases x with|tmp a=>rfl|const v=>rfl|func f=>rfl|global g=>simp only[b8,keyOf];split<;>rfl
def uy(aJ:Nat->aS):Operand->Bool
 | .tmp a=>match aJ a with| .d _=>true|_=>false
 | .const _=>true|_=>false
def uz(aJ:Nat->aS)(k:Key):Op->Bool
 | .store _ a _=>match keyOf aJ a with|some bu=>bu !=k|none=>false
 |_=>false
def KH:Op->Bool
 | .store _ _ _=>true|_=>false
def E8(aJ:Nat->aS):Operand->Bool
 | .tmp a=>match aJ a with| .ptr _ _=>true|_=>false
 |_=>false
def aiY:aS->Bool
 | .d _=>true| .ek _ _=>true|_=>false
def qd(aJ:Nat->aS):Operand->Bool
 | .tmp a=>aiY (aJ a)|_=>false
def uA(aJ:Nat->aS):Op->Bool
 | .load _ a=>qd aJ a| .indexAddr _ x _=>qd aJ x| .lookup _ m _ _=>qd aJ m| .slice _ x _ _ none=>qd aJ x| .call ⟨.builtin .len,args,_⟩=>args.toList.all (qd aJ)|_=>false
def sQ(aJ:Nat->aS)(x y:Oper):Bool:=pass x y||uA aJ x.op||match x.op with
 | .binOp _ _ a b _=>uy aJ a&&uy aJ b| .load _ a=>match keyOf aJ a with|some k=>(E8 aJ a&&!KH y.op)||iy y.op||iR y.op||hf y.op||uz aJ k y.op|none=>false
 | .indexAddr _ _ _=>iy y.op||iR y.op||hf y.op||KH y.op| .store _ a _=>match keyOf aJ a with|some k=>uz aJ k y.op|none=>false
 |_=>false
def PT(k:Key)(o o':cB):Prop:=o' k=o k
def BR(o o':cB):Prop:=∀k n es,o k=some (.row n es)->∃gj,o' k=some (.row n gj)/\gj.length=es.length
def aiZ{y:Oper}{σ:aI}{K K':aI->Prop}{eE:cB->Prop}(aq:eE σ.objs)(ey:∀r cE,res T G σ y=some (r,cE)->eE (dp σ.objs cE))(ah:∀objs r,eE objs->K (aI.put ⟨σ.aJ,objs⟩ y.dst r)->K' (aI.put ⟨σ.aJ,objs⟩ y.dst r)) (h:c3 P T G y K σ):c3 P T G y K' σ:=by unfold c3 at*;rw[wy]at*;cases au:res T G σ y with|none=>simp only[au,xbs]at h⊢;exact ES h λr au=>ah σ.objs r aq au|some p=>simp only[au,xaK]at h⊢;obtain⟨r,cE⟩:=p;exact ah _ _ (ey r cE au) h
def W8{σ:aI}{y:Oper}(h:(iy y.op||iR y.op||hf y.op)=true){r:aS}{cE:List (Key×cO)}(au:res T G σ y=some (r,cE)):cE=[]:=by
 unfold res at au;split at au;.cases au;rfl
 split at au;.cases au;rfl
 simp only[xbe]at h;rcases h with(h|h)|h
 .rw[(BE h).2]at au;cases au
 .rw[BF h]at au;cases au
 rw[(PA (T:=T) (ev:=b8 G σ.aJ) (objs:=σ.objs) (d:=y.dst.getD 9999) h).2.2]at au;cases au
def PU{σ:aI}{y:Oper}{t:TypeId}{a x:Operand}(aP:y.op= .store t a x){r:aS}{cE:List (Key×cO)}(au:res T G σ y=some (r,cE)): ∃k o o',keyOf σ.aJ a=some k/\cE=[(k,o')]/\σ.objs k=some o/\((∃c iv,o= .box c/\o'= .box iv)\/∃n es gj,o= .row n es/\o'= .row n gj/\gj.length=es.length):=by
 rw[<-PS (G:=G)];unfold res at au;rw[aP]at au;simp only[dW,dn,Wm,dR]at au;split at au
 case h_2=>cases au
 split at au
 case isFalse=>cases au
 split at au
 .rename_i k off he;split at au
  case h_2=>cases au
  rename_i cells aR;split at au<;>cases au;exact⟨k,_,_,by rw[he];rfl,rfl,aR,.inl ⟨_,_,rfl,rfl⟩⟩
 .rename_i k cN eT off he;split at au
  case h_2=>cases au
  rename_i bu es ds aR az;split at au
  case isFalse=>cases au
  rename_i ai;split at au<;>cases au;exact⟨k,_,_,by rw[he];rfl,rfl,aR,.inr ⟨cN,es,_,by rw[ai.1],rfl,by simp⟩⟩
 cases au
def E9{objs:cB}{k:Key}{o:cO}(j:Key):dp objs [(k,o)] j=if j=k then some o else objs j:=by
 by_cases h:j=k;.subst h;simp[dp,ew]
 simp[dp,cU _ _ h,h]
def ai0{σ:aI}{y:Oper}{k:Key}(h:(iy y.op||iR y.op||hf y.op||uz σ.aJ k y.op)=true){r:aS}{cE:List (Key×cO)}(au:res T G σ y=some (r,cE)):PT k σ.objs (dp σ.objs cE):=by
 rcases xbF.1 h with h|h;.rw[W8 h au];rfl
 unfold uz at h;split at h
 case h_2=>cases h
 rename_i t a x aP;obtain⟨bu,o,o',ab,rfl,ad,_⟩:=PU aP au;rw[ab]at h;simp only[bne_iff_ne,ne_eq]at h;show dp σ.objs [(bu,o')] k=σ.objs k;rw[E9,xab (λe=>h e.symm)]
theorem BR.refl(o:cB):BR o o:=λk n es h=>⟨es,h,rfl⟩
def ai1{σ:aI}{y:Oper}(h:(iy y.op||iR y.op||hf y.op||KH y.op)=true){r:aS}{cE:List (Key×cO)}(au:res T G σ y=some (r,cE)):BR σ.objs (dp σ.objs cE):=by
 rcases xbF.1 h with h|h;.rw[W8 h au];exact BR.refl _
 unfold KH at h;split at h
 case h_2=>cases h
 rename_i t a x aP;obtain⟨bu,o,o',ab,rfl,ad,ax⟩:=PU aP au;intro k n es ah;rw[E9];by_cases e:k=bu
 .subst e;rw[xaa rfl];rw[ad]at ah;rcases ax with⟨c,iv,rfl,rfl⟩|⟨m,ai2,ai3,rfl,rfl,an⟩
  .cases ah
  cases ah;exact⟨ai3,rfl,an⟩
 rw[xab e];exact⟨es,ah,rfl⟩
def Looks(T:ca)(G:c9)(x:Oper)(aJ:Nat->aS)(o:cB)(eE:cB->Prop):Prop:=∀r cE,res T G ⟨aJ,o⟩ x=some (r,cE)->cE=[]/\∀o',eE o'->res T G ⟨aJ,o'⟩ x=some (r,[])
def KI{x y:Oper}{σ:aI}{K:aI->Prop}{eE:cB->Prop}(mw:x.guard=none)(EU:hf x.op=false)(kF:x.apart all y=true)(an:Looks T G x σ.aJ σ.objs eE)(aq:eE σ.objs)(ey:∀r cE,res T G σ y=some (r,cE)->eE (dp σ.objs cE)) (h:dY P T G all x (λfV=>dY P T G all y K fV) σ):dY P T G all y (λfy=>dY P T G all x K fy) σ:=by
 obtain⟨ao,a2,a3⟩:=Oper.apart_spec kF;have od:∀d,y.dst=some d->x.dst≠some d:=λd az ae=>a2 d ae az;have k1:∀(K:aI->Prop) σ,dY P T G all x K σ=c3 P T G x K σ:=λK σ=>by unfold dY;simp only[mw]
 simp only[k1]at h⊢;have p4:res T G σ x≠none:=by intro aC;rw[nt aC]at h;have:=yi h;rw[EU]at this;cases this
 obtain⟨p,aU⟩:=Option.ne_none_iff_exists'.1 p4;obtain⟨r,cE⟩:=p;obtain⟨rfl,ad⟩:=an r cE aU;have ab:dY P T G all y K (σ.put x.dst r):=by rw[lZ aU]at h;exact h
 have E7:∀(K:aI->Prop) objs,eE objs->c3 P T G x K ⟨σ.aJ,objs⟩=K (aI.put ⟨σ.aJ,objs⟩ x.dst r):=λK objs aR=>lZ (ad objs aR);rw[hl,oc ao]at ab;rw[hl];split at ab
 .rename_i hw
  try simp only[hw]
  rw[jl ao a2]at ab;refine aiZ aq ey (λobjs q aR ah=>?_) ab;rw[jl a3 od,E7 _ _ aR,put_comm a2];exact ah
 .rename_i hw
  try simp only[hw]
  show c3 P T G x K (σ.put y.dst _);rw[jl a3 od];have e:c3 P T G x (λaT=>K (aT.put y.dst (.d (.val (.tuple #[]))))) σ=K ((σ.put x.dst r).put y.dst (.d (.val (.tuple #[])))):=E7 (λaT=>K (aT.put y.dst (.d (.val (.tuple #[]))))) σ.objs aq;rw[e];exact ab
 exact ab.elim
def W9{aJ:Nat->aS}{x:Operand}(h:uy aJ x=true):∃d,b8 G aJ x= .d d:=by
 unfold uy at h;split at h
 .split at h;.rename_i d az;exact⟨d,az⟩
  cases h
 .exact⟨_,rfl⟩
 cases h
def ai4(o o':cB)(x:D):mn o (.d x)=mn o' (.d x):=by
 unfold mn;split<;>first|rfl|(rename_i h;cases h)|skip
 all_goals rfl
def Fa{aJ:Nat->aS}{x:Operand}(h:qd aJ x=true):(∃d,b8 G aJ x= .d d)\/∃cs off,b8 G aJ x= .ek cs off:=by
 cases x with
 |tmp a=>simp only[qd]at h;show(∃d,aJ a= .d d)\/∃cs off,aJ a= .ek cs off;generalize aJ a=v at h;cases v<;>first|exact .inl ⟨_,rfl⟩|exact .inr ⟨_,_,rfl⟩|cases h
 |_=>cases h
def Xa(o o':cB)(x:D):jQ o (.d x)=jQ o' (.d x):=by
 unfold jQ;split<;>first|rfl|(rename_i h;cases h)|skip
 all_goals rfl
theorem ai5(o o':cB)(cs:List D)(off:Nat):jQ o (.ek cs off)=jQ o' (.ek cs off):=rfl
def ai6{aJ:Nat->aS}{op:Op}(h:uA aJ op=true)(o o':cB):dn T (b8 G aJ) o op=dn T (b8 G aJ) o' op:=by
 cases op<;>simp only[uA,xaq]at h
 case load t a=>rcases Fa (G:=G) h with⟨d,e⟩|⟨cs,off,e⟩<;>simp only[dn,e]
 case indexAddr t x i=>
  rcases Fa (G:=G) h with⟨d,e⟩|⟨cs,off,e⟩;.simp only[dn,e];cases d<;>rfl
  simp only[dn,e]
 case lookup t m k ok=>
  rcases Fa (G:=G) h with⟨d,e⟩|⟨cs,off,e⟩
  .simp only[dn,e];split
   .cases d<;>first|rfl|skip
    rename_i v;cases v<;>first|rfl|skip
    rename_i q;cases q<;>rfl
   rfl
  simp only[dn,e]
 case slice t x lo ag fw=>
  cases fw with
  |some _=>cases h
  |none=>
   simp only at h;rcases Fa (G:=G) h with⟨d,e⟩|⟨cs,off,e⟩
   .simp only[dn,e,Xa o o' d];cases d<;>rfl
   simp only[dn,e,ai5 o o' cs off]
 case call c=>
  obtain⟨callee,args,dq⟩:=c;cases callee with
  |value=>rfl|invoke=>rfl
  |builtin b=>
   cases b<;>first|rfl|skip
   simp only at h;simp only[dn];split
   .rename_i t x aN aV;rw[aV]at h;simp only[xba,List.all_nil,xbt]at h;rcases Fa (G:=G) h with⟨d,e⟩|⟨cs,off,e⟩
    .simp only[e];cases bb:T t with
     |none=>rfl
     |some i=>
      obtain⟨ds,s,b,z⟩:=i;cases ds
      case map k q=>
       cases d
       case val v=>
        cases v
        case map r=>cases r<;>rfl
        all_goals rfl
       all_goals rfl
      case slice q=>simp only[Xa o o' d]
      case string=>
       cases d
       case val v=>cases v<;>rfl
       all_goals rfl
      all_goals rfl
    simp only[e];cases bb:T t with|none=>rfl|some i=>obtain⟨ds,s,b,z⟩:=i;cases ds<;>rfl
   rfl
def Xb{aJ:Nat->aS}{op:Op}(h:uA aJ op=true):iR op=true:=by
 cases op<;>simp only[uA,xaq]at h<;>first|rfl|skip
 case call c=>
  obtain⟨callee,args,dq⟩:=c;cases callee with
  |value=>cases h
  |invoke=>cases h
  |builtin b=>cases b<;>first|rfl|cases h
def ai7{x:Oper}{aJ:Nat->aS}{o:cB}(h:uA aJ x.op=true):Looks T G x aJ o (λ_=>True):=by
 intro r cE au;have hm:=Xb h;unfold res at au;split at au
 .rename_i u hu;cases au;refine⟨rfl,λo' _=>?_⟩;unfold res;simp only[hu]
 rename_i aU;split at au;.rename_i u hu;cases au;refine⟨rfl,λo' _=>?_⟩;unfold res;simp only at hu;simp only[aU,ai6 h o' o,hu]
 rw[BF hm]at au;cases au
def ai8{x:Oper}{op:BinOp}{t:TypeId}{a b:Operand}{q:TypeId}(ae:x.op= .binOp op t a b q){aJ:Nat->aS}{o:cB}(aH:uy aJ a=true)(ak:uy aJ b=true):Looks T G x aJ o (λ_=>True):=by
 intro r cE au;obtain⟨d1,aN⟩:=W9 (G:=G) aH;obtain⟨d2,aV⟩:=W9 (G:=G) ak;unfold res at au;rw[ae]at au;cases aU:dW T (b8 G aJ) (.binOp op t a b q)with
 |some u=>rw[aU]at au;cases au;refine⟨rfl,λo' _=>?_⟩;unfold res;rw[ae,aU]
 |none=>
  rw[aU]at au;simp only at au;have hm:∀o',dn T (b8 G aJ) o' (.binOp op t a b q)=dn T (b8 G aJ) o (.binOp op t a b q):=by intro o';simp only[dn,aN,aV,ai4 o' o]
  cases ha:dn T (b8 G aJ) o (.binOp op t a b q)with
  |some u=>rw[ha]at au;cases au;refine⟨rfl,λo' _=>?_⟩;unfold res;rw[ae,aU];simp only[hm o',ha]
  |none=>rw[ha]at au;simp[gK,dR]at au
def ai9{x:Oper}{t:TypeId}{a:Operand}{k:Key}(ae:x.op= .load t a){aJ:Nat->aS}{o:cB}(aH:keyOf aJ a=some k):Looks T G x aJ o (PT k o):=by
 intro r cE au;have he:BQ (b8 G aJ a)=some k:=by rw[PS];exact aH
 unfold res at au;rw[ae]at au;simp only[dW]at au;have hm:∀o',o' k=o k->dn T (b8 G aJ) o' (.load t a)=dn T (b8 G aJ) o (.load t a):=by
  intro o' aR;simp only[dn];generalize b8 G aJ a=v at he⊢;cases v<;>simp only[BQ,reduceCtorEq,xaH]at he;.subst he;simp only[aR]
  subst he;simp only[aR]
 cases ha:dn T (b8 G aJ) o (.load t a)with
 |some u=>rw[ha]at au;cases au;refine⟨rfl,λo' aR=>?_⟩;unfold res;rw[ae];simp only[dW,hm o' aR,ha]
 |none=>rw[ha]at au;simp[gK,dR]at au
def aja{x:Oper}{t:TypeId}{a b:Operand}(ae:x.op= .indexAddr t a b){aJ:Nat->aS}{o:cB}:Looks T G x aJ o (BR o):=by
 intro r cE au;unfold res at au;rw[ae]at au;simp only[dW]at au;cases ha:dn T (b8 G aJ) o (.indexAddr t a b)with
 |some u=>
  rw[ha]at au;cases au;refine⟨rfl,λo' aR=>?_⟩;have hm:dn T (b8 G aJ) o' (.indexAddr t a b)=some r:=by
   simp only[dn]at ha⊢;split at ha
   .split at ha
    .split at ha
     .rename_i aC;rw[xaa aC];split at ha<;>first|exact ha|skip
      rename_i key aK;cases ah:o key with
      |none=>rw[ah]at ha;cases ha
      |some hV=>
       cases hV with
       |row k es=>obtain⟨gj,ab,ad⟩:=aR key k es ah;rw[ah]at ha;rw[ab];simp only[ad]at ha⊢;exact ha
       |dead=>rw[ah]at ha;cases ha
       |box=>rw[ah]at ha;cases ha
       |map=>rw[ah]at ha;cases ha
     cases ha
    cases ha
   .exact ha
   cases ha
  unfold res;rw[ae];simp only[dW,hm]
 |none=>rw[ha]at au;simp[gK,dR]at au
def ajb{o:cB}{k bu:Key}{a b:cO}(h:k≠bu):dp (dp o [(k,a)]) [(bu,b)]=dp (dp o [(bu,b)]) [(k,a)]:=by
 funext j
 simp only[E9];by_cases ab:j=k<;>by_cases ad:j=bu<;>simp_all
def Xc{y:Oper}{t:TypeId}{a x:Operand}{k:Key}(aP:y.op= .store t a x){aJ:Nat->aS}{o o':cB}(aH:keyOf aJ a=some k)(aR:o' k=o k):res T G ⟨aJ,o'⟩ y=res T G ⟨aJ,o⟩ y:=by
 have he:BQ (b8 G aJ a)=some k:=by rw[PS];exact aH
 unfold res;rw[aP];simp only[dW,dn,Wm,dR];generalize b8 G aJ a=v at he⊢;cases v<;>simp only[BQ,reduceCtorEq,xaH]at he;.subst he;simp only[aR]
 subst he;simp only[aR]
def ajc{x y:Oper}{σ:aI}{K:aI->Prop}{t t':TypeId}{a cx v kh:Operand}{k bu:Key}(ae:x.op= .store t a v)(aP:y.op= .store t' cx kh)(aH:keyOf σ.aJ a=some k)(Fb:keyOf σ.aJ cx=some bu)(cf:bu≠k) (mw:x.guard=none) (kF:x.apart all y=true) (h:dY P T G all x (λfV=>dY P T G all y K fV) σ):dY P T G all y (λfy=>dY P T G all x K fy) σ:=by
 obtain⟨ao,a2,a3⟩:=Oper.apart_spec kF;have od:∀d,y.dst=some d->x.dst≠some d:=λd az ae=>a2 d ae az;have k1:∀(K:aI->Prop) σ,dY P T G all x K σ=c3 P T G x K σ:=λK σ=>by unfold dY;simp only[mw]
 simp only[k1]at h⊢;have Xd:∀{z:Oper}{tt:TypeId}{p q:Operand}{τ:aI}{K':aI->Prop},z.op= .store tt p q->c3 P T G z K' τ->∃r cA fW,res T G τ z=some (r,[(cA,fW)])/\keyOf τ.aJ p=some cA/\K' (τ.step z.dst r [(cA,fW)]):=by
  intro z tt p q τ K' bm bU;cases au:res T G τ z with
  |none=>rw[nt au]at bU;have:=yi bU;rw[bm]at this;cases this
  |some u=>obtain⟨r,cE⟩:=u;obtain⟨cA,o,fW,bG,rfl,_,_⟩:=PU bm au;exact⟨r,cA,fW,rfl,bG,by rw[lZ au]at bU;exact bU⟩
 obtain⟨r,cA,fW,bG,bw,cl⟩:=Xd ae h;rw[aH]at bw;cases bw;have yx:dY P T G all y K (aI.put ⟨σ.aJ,dp σ.objs [(k,fW)]⟩ x.dst r):=cl;have Xe:∀(lv:cB),lv k=σ.objs k->∀K':aI->Prop,c3 P T G x K' ⟨σ.aJ,lv⟩=K' (aI.put ⟨σ.aJ,dp lv [(k,fW)]⟩ x.dst r):=by
  intro lv aR K';have:res T G ⟨σ.aJ,lv⟩ x=some (r,[(k,fW)]):=by rw[Xc ae aH aR];exact bG
  exact lZ this
 rw[hl,oc ao]at yx;rw[hl];have ajd:jz all ⟨σ.aJ,dp σ.objs [(k,fW)]⟩ y=jz all σ y:=rfl;rw[ajd]at yx;split at yx
 .rename_i hw
  try simp only[hw]
  rw[jl ao a2]at yx;obtain⟨eM,dv,lv,eJ,dV,hJ⟩:=Xd aP yx;have Xf:keyOf σ.aJ cx=some dv:=dV;rw[Fb]at Xf;cases Xf;have aje:res T G σ y=some (eM,[(bu,lv)]):=by rw[<-eJ];exact(Xc (T:=T) (G:=G) aP (o:=σ.objs) (o':=dp σ.objs [(k,fW)]) Fb (by rw[E9,xab cf])).symm
  rw[lZ aje];show c3 P T G x K (aI.put ⟨σ.aJ,dp σ.objs [(bu,lv)]⟩ y.dst eM);rw[jl a3 od,Xe _ (by rw[E9,xab (λe=>cf e.symm)]),put_comm a2,ajb cf];exact hJ
 .rename_i hw
  try simp only[hw]
  show c3 P T G x K (σ.put y.dst _);rw[jl a3 od];have e:=Xe σ.objs rfl (λaT=>K (aT.put y.dst (.d (.val (.tuple #[])))));have c1:c3 P T G x (λaT=>K (aT.put y.dst (.d (.val (.tuple #[]))))) σ=_:=e;rw[c1];exact yx
 exact yx.elim
def ajf{x y:Oper}{σ:aI}{K:aI->Prop}(mw:x.guard=none)(kF:x.apart all y=true)(h:sQ σ.aJ x y=true)(H:dY P T G all x (λfV=>dY P T G all y K fV) σ):dY P T G all y (λfy=>dY P T G all x K fy) σ:=by
 unfold sQ at h;rcases xbF.1 h with h|h
 .rcases xbF.1 h with h|h;.exact swap kF h H
  refine KI mw ?_ kF (ai7 h) trivial (λ_ _ _=>trivial) H;cases ai:hf x.op with|false=>rfl|true=>have:=ER ai;rw[Xb h]at this;cases this.2.1
 split at h;.rename_i op t a b q ae;rw[xao]at h;exact KI mw (by rw[ae];rfl) kF (ai8 ae h.1 h.2) trivial (λ_ _ _=>trivial) H
 .rename_i t a ae;split at h
  case h_2=>cases h
  rename_i k ah;simp only[xbe]at h;have other:(iy y.op||iR y.op||hf y.op||uz σ.aJ k y.op)=true->dY P T G all y (λfy=>dY P T G all x K fy) σ:=λbs=>KI mw (by rw[ae];rfl) kF (ai9 ae ah) (rfl:PT k σ.objs σ.objs) (λ_ _ au=>ai0 bs au) H
  rcases h with(((h|h)|h)|h)|h
  .rw[xao]at h;obtain⟨ab,ad⟩:=h;unfold E8 at ab;split at ab
   case h_2=>cases ab
   rename_i a0;split at ab
   case h_2=>cases ab
   rename_i BS off av;refine W7 ae mw av ?_ kF H;intro t' cx kh he;rw[he]at ad;cases ad
  .exact other (by simp[h])
  .exact other (by simp[h])
  .exact other (by simp[h])
  exact other (by simp[h])
 .rename_i t a b ae;exact KI mw (by rw[ae];rfl) kF (aja ae) (BR.refl _) (λ_ _ au=>ai1 h au) H
 .rename_i t a v ae;split at h
  case h_2=>cases h
  rename_i k ah;unfold uz at h;split at h
  case h_2=>cases h
  rename_i t' cx kh aP;split at h
  case h_2=>cases h
  rename_i bu e1;exact ajc ae aP ah e1 (by simpa using h) mw kF H
 cases h
def mx:Op->List Tmp
 | .binOp _ _ a b _=>(match a with| .tmp t=>[t]|_=>[])++(match b with| .tmp t=>[t]|_=>[])
 | .load _ (.tmp a)=>[a]| .store _ (.tmp a) _=>[a]| .indexAddr _ (.tmp a) _=>[a]| .lookup _ (.tmp a) _ _=>[a]| .slice _ (.tmp a) _ _ _=>[a]| .call ⟨.builtin .len,args,_⟩=>args.toList.filterMap λx=>match x with| .tmp t=>some t|_=>none
 |_=>[]
def uB:Op->List Tmp
 | .store _ (.tmp a) _=>[a]|_=>[]
theorem PV{s s':Nat->aS}{x:Operand}(h:∀t,x= .tmp t->s t=s' t):keyOf s x=keyOf s' x:=by cases x with|tmp t=>simp only[keyOf,h t rfl]|_=>rfl
theorem Xg{s s':Nat->aS}{x:Operand}(h:∀t,x= .tmp t->s t=s' t):uy s x=uy s' x:=by cases x with|tmp t=>simp only[uy,h t rfl]|_=>rfl
theorem ajg{s s':Nat->aS}{x:Operand}(h:∀t,x= .tmp t->s t=s' t):E8 s x=E8 s' x:=by cases x with|tmp t=>simp only[E8,h t rfl]|_=>rfl
def ajh{s s':Nat->aS}{x y:Oper}(h:∀t,t∈mx x.op\/t∈uB y.op->s t=s' t):sQ s x y=sQ s' x y:=by
 have aP:∀k,uz s k y.op=uz s' k y.op:=by
  intro k;unfold uz;split;.rename_i t a v he;rw[PV (s:=s) (s':=s') (x:=a) (λq bP=>h q (.inr (by rw[he,bP];simp[uB])))]
  rfl
 have az:uA s x.op=uA s' x.op:=by
  have ae:∀t,t∈mx x.op->s t=s' t:=λt aF=>h t (.inl aF);generalize x.op=op at ae;have one:∀a:Operand,(∀t,a= .tmp t->t∈mx op)->qd s a=qd s' a:=by intro a aH;cases a with|tmp t=>simp only[qd,ae t (aH t rfl)]|_=>rfl
  cases op<;>simp only[uA]
  case load t a=>exact one a (by rintro t rfl;simp[mx])
  case indexAddr t a i=>exact one a (by rintro t rfl;simp[mx])
  case lookup t a k ok=>exact one a (by rintro t rfl;simp[mx])
  case slice t a lo ag fw=>
   cases fw with
   |none=>exact one a (by rintro t rfl;simp[mx])
   |some _=>rfl
  case call c=>
   obtain⟨callee,args,dq⟩:=c;cases callee with
   |value=>rfl|invoke=>rfl
   |builtin b=>
    cases b<;>first|rfl|skip
    simp only;rw[Bool.eq_iff_iff,xau,xau];have aH:∀a∈args.toList,qd s a=qd s' a:=λa aH=>one a (by rintro t rfl;simp only[mx,List.mem_filterMap];exact⟨_,aH,rfl⟩);exact⟨λh a hm=>by rw[<-aH a hm];exact h a hm,λh a hm=>by rw[aH a hm];exact h a hm⟩
 unfold sQ;rw[az]
 congr 1
 split;.rename_i op t a b q ae;have aH:∀t,a= .tmp t->s t=s' t:=λt aF=>h t (.inl (by rw[ae,aF];simp[mx]));have ak:∀t,b= .tmp t->s t=s' t:=λt aF=>h t (.inl (by rw[ae,aF];simp[mx]));rw[Xg aH,Xg ak]
 .rename_i t a ae;have aH:∀t,a= .tmp t->s t=s' t:=λt aF=>h t (.inl (by rw[ae,aF];simp[mx]));rw[PV aH,ajg aH];split
  .rw[aP]
  rfl
 .rfl
 .rename_i t a v ae;have aH:∀t,a= .tmp t->s t=s' t:=λt aF=>h t (.inl (by rw[ae,aF];simp[mx]));rw[PV aH];split
  .rw[aP]
  rfl
 rfl
def aji{y:Oper}{σ:aI}{K:aI->Prop}{L:List Tmp}(az:∀a∈L,y.dst≠some a)(h:dY P T G all y K σ):dY P T G all y (λaT=>(∀a∈L,aT.aJ a=σ.aJ a)/\K aT) σ:=by
 have aU:∀(objs:cB)(r:aS),∀a∈L,(aI.put ⟨σ.aJ,objs⟩ y.dst r).aJ a=σ.aJ a:=λobjs r a aH=>by
  cases aP:y.dst with
  |none=>rfl
  |some d=>
   have:a≠d:=by rintro rfl;exact az a aH aP
   simp only[aI.put,cU _ _ this]
 rw[hl]at h⊢;split at h
 .rename_i hw
  try simp only[hw]
  exact wA (λobjs r ah=>⟨aU objs r,ah⟩) h
 .rename_i hw
  try simp only[hw]
  exact⟨aU σ.objs _,h⟩
 exact h.elim
def ajj{x:Oper}{σ:aI}{p:Prop}(h:dY P T G all x (λ_=>p) σ):p:=by
 rw[hl]at h;split at h
 .unfold c3 at h;split at h;.exact h
  unfold jk at h;split at h
  .split at h;.obtain⟨_,_,_,_,_,_,⟨r,mr⟩,_,q⟩:=h;exact q r (by rw[mr])
   exact h.elim
  exact h.elim
 .exact h
 exact h.elim
def ajk{K:aI->Prop}{i:Nat}{eO:Oper}(ag:all[i]?=some eO)(mw:eO.guard=none){B:List Nat}(ep:∀j cZ,j∈B->all[j]?=some cZ->∃e∈cZ.after,Region.binds .any e=true/\(e.on=i\/e.on∈B)){s0:Nat->aS}{L:List Tmp}(ajl:∀t∈mx eO.op,t∈L): ∀(fuel:Nat)(listed:Array Bool)(σ:aI),(∀t∈L,σ.aJ t=s0 t)->(∀j,j∈B->listed.getD j true=false)->(∀j cZ,all[j]?=some cZ->j≠i->listed.getD j true=false->j∉B->eO.apart all cZ=true/\sQ s0 eO cZ=true/\(∀t∈L,cZ.dst≠some t)/\∀t∈uB cZ.op,t∈L)->i∈Region.ready .any all listed->hy P T G all i (iS P T G all K fuel (listed.setIfInBounds i true)) σ->iS P T G all K (fuel+1) listed σ:=by
 intro fuel
 induction fuel with
 |zero=>
  intro listed σ cb q3 oe au H;refine⟨λh=>(by rw[h]at au;cases au),λj aG=>?_⟩;by_cases iT:j=i;.subst iT;exact H
  have hm:=ready_mono aG iT;exfalso;have key:Region.ready .any all (listed.setIfInBounds i true)=[]:=by have PW:=wB (K':=λ_=>Region.ready .any all (listed.setIfInBounds i true)=[]) (λaT bs=>bs.1) H;unfold hy at PW;simp only[ag]at PW;exact ajj PW
  rw[key]at hm;cases hm
 |succ fuel ih=>
  intro listed σ cb q3 oe au H;refine⟨λh=>(by rw[h]at au;cases au),λj aG=>?_⟩;by_cases iT:j=i;.subst iT;exact H
  obtain⟨wC,cZ,iU,fS⟩:=xbO.1 aG;have uf:∀k,listed.getD k true=false->listed[k]?.getD false=true->False:=λk aq ab=>by
   rcases xbC k listed.size with bs|bs;.simp[bs]at aq ab;rw[aq]at ab;cases ab
   simp[Array.getElem?_eq_none bs]at ab
  have wD:j∉B:=λE0=>by
   obtain⟨e,he,ak,mu⟩:=ep j cZ E0 iU;have ab:=fS e he ak;rcases mu with mu|mu
   .rw[mu]at ab;exact uf i (xbO.1 au).1 (by simpa using ab)
   exact uf _ (q3 _ mu) (by simpa using ab)
  obtain⟨eJ,dV,hJ,q6⟩:=oe j cZ iU iT wC wD;have ab:hy P T G all i (λfV=>hy P T G all j (iS P T G all K fuel ((listed.setIfInBounds i true).setIfInBounds j true)) fV) σ:=wB (λfV ur=>ur.2 j (ready_mono aG iT)) H;have ad:hy P T G all j (λfy=>(∀a∈L,fy.aJ a=σ.aJ a)/\hy P T G all i (iS P T G all K fuel ((listed.setIfInBounds i true).setIfInBounds j true)) fy) σ:=by
   unfold hy at ab⊢;simp only[ag,iU]at ab⊢;have bq:sQ σ.aJ eO cZ=true:=by
    rw[<-dV];refine ajh λt aF=>cb t ?_;rcases aF with aF|aF
    .exact ajl t aF
    exact q6 t aF
   exact aji hJ (ajf mw eJ bq ab)
  have E1:∀k ok,all[k]?=some ok->k≠i->(listed.setIfInBounds j true).getD k true=false->k∉B->eO.apart all ok=true/\sQ s0 eO ok=true/\(∀t∈L,ok.dst≠some t)/\∀t∈uB ok.op,t∈L:=λk ok ah q4 og hX=>by
   refine oe k ok ah q4 ?_ hX;by_cases fm:j=k;.subst fm;exact wC
   rw[getD_set_ne true fm]at og;exact og
  refine wB (λfy ax=>ih (listed.setIfInBounds j true) fy (λt aF=>(ax.1 t aF).trans (cb t aF)) (λk ah=>by
   have fm:j≠k:=by rintro rfl;exact wD ah
   rw[getD_set_ne true fm];exact q3 k ah) E1 (ready_mono au (Ne.symm iT)) ?_) ad
  rw[Array.setIfInBounds_comm _ _ iT];exact ax.2
end
structure V where
 name:ByteArray
 bool:Bool
 lo:Int
 ag:Int
def V.cells(v:V):List D:=[aQ v.name,ay v.bool,J v.lo,J v.ag]
def V.d(v:V):D:= .agg v.cells
def bd(l:List V):D:= .aA 4 (l.map V.cells)
def pe(n:Int):D:= .val (.int .u8 n)
def gL(n:Int):Prop:=-9223372036854775808<=n/\n<=9223372036854775807
def V.ok(v:V):Prop:=gL v.lo/\gL v.ag/\v.name.size<=9223372036854775807
def V.span(v:V):Int:=if v.bool then 2 else if v.lo>v.ag then 0 else if v.ag-v.lo<1073741824 then v.ag-v.lo+1 else 1073741825
def bitsOf(n:Int):Nat:=if n<=1 then 0 else Nat.log2 (n-1).toNat+1
def ajm{n:Int}{k:Nat}(ab:∀j:Nat,j<k->(2:Int)^j<n)(ad:n<=2^k):bitsOf n=k:=by
 unfold bitsOf;cases k with
 |zero=>simp at ad;simp[ad]
 |succ k=>
  have ax:=ab k (by omega);have aU:(0:Int)<2^k:=Int.pow_pos (by omega);rw[xab (by omega)];have e:Nat.log2 (n-1).toNat=k:=by
   have aH:(2:Nat)^k<=(n-1).toNat:=by
    have:((2^k:Nat):Int)=2^k:=by simp
    omega
   have ak:(n-1).toNat<2^(k+1):=by
    have:((2^(k+1):Nat):Int)=2^(k+1):=by simp
    omega
   exact(Nat.log2_eq_iff (by have:=Nat.two_pow_pos k;omega)).2 ⟨aH,ak⟩
  omega
def Xh{n:Int}(h:1<n):bitsOf n=bitsOf (n/2+n%2)+1:=by
 unfold bitsOf;rw[xab (by omega)];by_cases ad:n=2;.subst ad;decide
 rw[xab (by omega)];have e:(n/2+n%2-1).toNat=(n-1).toNat/2:=by omega
 rw[e];have ax:(n-1).toNat≠0:=by omega
 have a8:(n-1).toNat/2≠0:=by omega
 obtain⟨a,b⟩:=(Nat.log2_eq_iff a8).1 rfl;have:Nat.log2 (n-1).toNat=Nat.log2 ((n-1).toNat/2)+1:=by
  refine(Nat.log2_eq_iff ax).2 ⟨?_,?_⟩;.rw[Nat.pow_succ];omega
  rw[Nat.pow_succ];omega
 omega
def sR(c:Int):Bool:=(decide (c>=97)&&decide (c<=122))||(decide (c>=65)&&decide (c<=90))
def yy(c:Int):Bool:=decide (c>=48)&&decide (c<=57)
def my(c:Int):Bool:=sR c||yy c||(c==95)
def Xi{lo ag:Int}(ab:gL lo)(ad:gL ag)(h:lo<=ag):IntKind.u64.wrap (IntKind.u64.wrap ag-IntKind.u64.wrap lo)=ag-lo:=by unfold gL at ab ad;simp only[xbS];omega
def V.Xj{v:V}(h:v.bool=true):v.span=2:=by simp[V.span,h]
def V.Xk{v:V}(h:v.bool=false)(ab:v.lo>v.ag):v.span=0:=by simp[V.span,h,ab]
def V.PX{v:V}(h:v.bool=false)(ab:v.lo<=v.ag)(ad:v.ag-v.lo<1073741824):v.span=v.ag-v.lo+1:=by simp[V.span,h,ad];omega
def V.PY{v:V}(h:v.bool=false)(ab:v.lo<=v.ag)(ad:1073741824<=v.ag-v.lo):v.span=1073741825:=by simp[V.span,h,ad];omega
def has(x:ByteArray)(l:List ByteArray):Bool:=l.any λy=>decide (y=x)
def idxOf(x:ByteArray)(l:List ByteArray):Int:=match l.findIdx? (λy=>decide (y=x))with|some i=>(i:Nat)|none=>-1
def Xl{x:ByteArray}{l:List ByteArray}(h:∀j:Nat,j<l.length->l[j]?≠some x):idxOf x l=-1:=by
 unfold idxOf;have:l.findIdx? (λy=>decide (y=x))=none:=by rw[List.findIdx?_eq_none_iff];intro y aP;obtain⟨j,aG⟩:=xaJ.1 aP;have ab:=h j (xae.1 aG).1;rw[aG]at ab;simpa using ab
 rw[this]
def Xm{x:ByteArray}{l:List ByteArray}{i:Nat}(h:∀j:Nat,j<i->l[j]?≠some x)(ag:l[i]?=some x):idxOf x l=i:=by
 unfold idxOf;obtain⟨b3,cI⟩:=xae.1 ag;have:l.findIdx? (λy=>decide (y=x))=some i:=by rw[xbn];refine⟨b3,by simpa using cI,λj aG=>?_⟩;have ab:=h j aG;rw[xad (by omega)]at ab;simpa using ab
 rw[this]
def Xn(x:ByteArray)(l:List ByteArray):decide (idxOf x l>=0)=has x l:=by
 unfold idxOf has;cases h:l.findIdx? (λy=>decide (y=x))with
 |none=>
  rw[List.findIdx?_eq_none_iff]at h;have:l.any (λy=>decide (y=x))=false:=by rw[List.any_eq_false];intro y aP;simpa using h y aP
  rw[this];rfl
 |some i=>obtain⟨ab,ad,_⟩:=xbn.1 h;have:l.any (λy=>decide (y=x))=true:=xbu.2 ⟨_,xbd ab,ad⟩;rw[this];simp
def Xo{x:ByteArray}{l:List ByteArray}{i:Nat}(h:l[i]?=some x):has x l=true:=xbu.2 ⟨x,xac h,by simp⟩
def Xp{x:ByteArray}{l:List ByteArray}(h:∀j:Nat,j<l.length->l[j]?≠some x):has x l=false:=by unfold has;rw[List.any_eq_false];intro y aP;obtain⟨j,aG⟩:=xaJ.1 aP;have ab:=h j (xae.1 aG).1;rw[aG]at ab;simpa using ab
def oi(p:Int->Bool)(s:ByteArray)(i:Nat):Bool:=match s[i]? with|some b=>p b.toNat|none=>false
def nv(p:Int->Bool)(s:ByteArray):Nat:=((List.range (s.size+1)).find? λi=>!oi p s i).getD 0
theorem KJ{s:ByteArray}{i:Nat}:s[i]?=if h:i<s.size then some s[i]else none:=rfl
def ajn{p:Int->Bool}{s:ByteArray}{i:Nat}(h:oi p s i=true):i<s.size:=by
 unfold oi at h;rw[KJ]at h;by_cases ab:i<s.size;.exact ab
 rw[dif_neg ab]at h;cases h
def words:List ByteArray:=[⟨#[65]⟩,⟨#[65,70]⟩,⟨#[65,71]⟩,⟨#[65,88]⟩,⟨#[69]⟩,⟨#[69,70]⟩,⟨#[69,71]⟩,⟨#[69,88]⟩,⟨#[85]⟩,⟨#[98,111,111,108]⟩,⟨#[100,101,102]⟩,⟨#[101,108,115,101]⟩,⟨#[102,97,105,114]⟩,⟨#[102,97,108,115,101]⟩,⟨#[105,102]⟩,⟨#[105,110,105,116]⟩,⟨#[105,110,118,97,114]⟩,⟨#[109,111,100]⟩,⟨#[110,101,120,116]⟩,⟨#[115,112,101,99]⟩,⟨#[116,104,101,110]⟩,⟨#[116,114,97,110,115]⟩,⟨#[116,114,117,101]⟩,⟨#[118,97,114]⟩]
def isName(s:ByteArray):Bool:=decide ((s.size:Int)>=1)&&decide ((s.size:Int)<=24)&&oi sR s 0&&((nv my s:Int)==(s.size:Int))&&!has s words
def Xq(s:ByteArray):(decide (s=⟨#[]⟩)=true/\decide ((s.size:Int)>=1)=false)\/∃b,decide (s=⟨#[]⟩)=false/\decide ((s.size:Int)>=1)=true/\s[0]?=some b:=by
 by_cases h:0<s.size
 .refine .inr ⟨s[0],?_,?_,?_⟩
  .have:s≠⟨#[]⟩:=by rintro rfl;exact absurd h (by decide)
   simpa using this
  .simp;omega
  rw[KJ,dif_pos h]
 refine .inl ⟨?_,?_⟩
 .have aq:s.size=0:=by omega
  have:s=⟨#[]⟩:=by
   cases s with|mk d=>
   congr 1
   exact xbk aq
  simpa using this
 simp;omega
def uC(v:V):Bool:=decide ((if v.ag>v.lo then v.ag else v.lo)>255)||decide ((if v.ag<v.lo then v.ag else v.lo)< -255)
def BT(seen:List V)(v:V):Int:=if !isName v.name then 12 else if has v.name (seen.map V.name)then 6 else if v.bool&&(v.lo !=0||v.ag !=0)then 3
 else if !v.bool&&(decide (v.lo>v.ag)||uC v||decide (IntKind.i64.wrap (v.ag-v.lo)>=64))then 2 else 0
def iV(l:List V)(i:Nat):Int:=match l[i]? with|some v=>BT (l.take i) v|none=>0
def jX(l:List V):Int×Int:=match(List.range l.length).find? (λi=>iV l i !=0)with|some i=>((i:Int),iV l i)|none=>(0,0)
def Xr{l:List V}{i:Nat}{e:Int}(h:∀j:Nat,j<i->iV l j=0)(ag:i<l.length)(he:iV l i=e)(aq:e≠0):jX l=((i:Int),e):=by
 unfold jX;have:(List.range l.length).find? (λi=>iV l i !=0)=some i:=by rw[List.find?_range_eq_some];exact⟨by simpa[he]using aq,by simpa using ag,λj aG=>by simp[h j aG]⟩
 rw[this];simp[he]
def Xs{l:List V}(h:∀j:Nat,j<l.length->iV l j=0):jX l=(0,0):=by
 unfold jX;have:(List.range l.length).find? (λi=>iV l i !=0)=none:=by rw[List.find?_eq_none];intro j aG;simp[h j (by simpa using aG)]
 rw[this]
def ajo{v:V}(aK:v.ok):(!v.bool&&(decide (v.lo>v.ag)||uC v||decide (IntKind.i64.wrap (v.ag-v.lo)>=64)))=(!v.bool&&(decide (v.lo>v.ag)||!(decide (v.lo>=-255)&&decide (v.lo<=255))||!(decide (v.ag>=-255)&&decide (v.ag<=255))||decide (v.span>64))):=by
 cases ak:v.bool with
 |true=>rfl
 |false=>
  by_cases ab:v.lo>v.ag;.simp[ab]
  have dQ:v.lo<=v.ag:=by omega
  by_cases ad:-255<=v.lo/\v.ag<=255
  .have aN:uC v=false:=by
    unfold uC;split<;>(try split)<;>simp<;>omega
   have aV:(decide (v.lo>=-255)&&decide (v.lo<=255))=true:=by simp;omega
   have bS:(decide (v.ag>=-255)&&decide (v.ag<=255))=true:=by simp;omega
   rw[V.PX ak dQ (by omega),aN,aV,bS,wrap64 _ (by omega) (by omega)];have cT:decide (v.lo>v.ag)=false:=by simpa using dQ
   have dJ:decide (v.ag-v.lo>=64)=decide (v.ag-v.lo+1>64):=by rw[decide_eq_decide];omega
   rw[cT,dJ];rfl
  have aN:uC v=true:=by unfold uC;split<;>(try split)<;>simp<;>omega
  have aV:(!(decide (v.lo>=-255)&&decide (v.lo<=255))||!(decide (v.ag>=-255)&&decide (v.ag<=255)))=true:=by simp;omega
  rw[aN];revert aV;generalize decide (v.lo>v.ag)=p;generalize (decide (v.lo>=-255)&&decide (v.lo<=255))=q;generalize (decide (v.ag>=-255)&&decide (v.ag<=255))=r;cases p<;>cases q<;>cases r<;>simp
def ajp{l:List V}{x:ByteArray}{i:Nat}(h:∀j:Nat,j<i->(l.map V.name)[j]?≠some x):has x ((l.take i).map V.name)=false:=by refine Xp λj aG=>?_;rw[List.map_take,xaO];simp at aG;rw[xaa (by omega)];exact h j (by omega)
theorem ajq{l:List V}{w:V}{k i:Nat}(ah:k<i)(hw:l[k]?=some w):has w.name ((l.take i).map V.name)=true:=by refine Xo (i:=k) ?_;rw[List.map_take,xaO,xaa ah,xag,hw];rfl
end Go.Am
