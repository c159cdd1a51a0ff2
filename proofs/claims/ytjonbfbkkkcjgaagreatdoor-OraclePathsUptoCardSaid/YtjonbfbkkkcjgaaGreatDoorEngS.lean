/- Steps, joins, and nil slices that become rows of our own. No condition. -/
import Derived.Test.YtjonbfbkkkcjgaaGreatDoorEngB
set_option linter.all false
set_option linter.unnecessarySimpa false
namespace Go.Am
section
variable{P:Program}{T:bC}{G:cj}{N:Nat}{σ:ar}{Q:Exit->ar->Prop}{all:Array Oper}
def NQ(l:List Oper):∀(k:Nat)(σ:ar)(K:ar->Prop),(∀j,l[j]?=all[k+j]?)->dY P T G all l K σ->uc P T G all (List.range' k l.length) K σ:=by
 induction l with
 |nil=>intro k σ K _ h;exact h
 |cons o l ih=>
  intro k σ K ah h;have ak:all[k]?=some o:=by simpa using(ah 0).symm
  simp only[xal,List.range'_succ,uc,ak];refine xT (λb a=>ih (k+1) b K (λj=>by have:=ah (j+1);simpa[xbl,Nat.add_comm 1 j]using this) a) h
def Y3(c:cV P T)(d:P.follows .mixedOrders=true){id:Nat}{ops:Array Oper}(b:qs N ops=true)(a:qq T ops (List.range ops.size) (Array.replicate ops.size false)=true) (h:dY P T G ops ops.toList (Q .normal) σ):fh P T G N (.region id ops true) σ Q:=by refine YU c d b (List.range ops.size) sZ a ?_;rw[List.range_eq_range'];have:=NQ (P:=P) (T:=T) (G:=G) (all:=ops) ops.toList 0 σ (Q .normal) (λj=>by simp) h;simpa using this
end
section
variable{P:Program}{T:bC}{G:cj}{N:Nat}{σ anP:ar}{Q:Exit->ar->Prop}{id:Nat}{ops:Array Oper}
end
def wrap64(x:Int)(ab:-9223372036854775808<=x)(ae:x<=9223372036854775807):IntKind.i64.wrap x=x:=by rw[IntKind.wrap_i64];omega
def le_of_eq{a b:D}(h:a=b):a.le b:=h▸D.le_refl a
def Fin(T:bC)(b:List ResultVar)(R:D->Prop)(e:Exit)(a:ar):Prop:=(e= .normal\/e= .ret)/\∃r d x,mM T a b=some r/\toD a.objs r=some d/\d.le x/\R x
theorem getD_cons_zero{a:Type}(x:a)(l:List a)(d:a):(x::l).getD 0 d=x:=rfl
theorem getD_cons_succ{a:Type}(x:a)(l:List a)(n:Nat)(d:a):(x::l).getD (n+1) d=l.getD n d:=rfl
def NR{σ:ar}(K:Key)(n:Nat)(f:Nat->az)(objs':bP)(Y:σ.objs K=none) (aj:∀t,f t=σ.au t\/σ.au t= .d (.val (.slice none 0 0))/\f t= .row K) (D:∀k o,objs' k=some o->k=K/\o= .row n []\/k≠K/\(σ.objs k=some o\/∃z i,σ.objs k=some (.box z)/\z[i]?=some (.d (.val (.slice none 0 0)))/\o= .box (z.set i (.row K)))) (N:∀k,σ.objs k≠none->objs' k≠none) (H:objs' K=some (.row n [])) (B:∀k,ds (σ.objs k)->ds (objs' k)):eX σ ⟨f,objs'⟩:=by
 intro m fr ρ a w h;have C:∀k,σ.used k->k≠K:=by rintro k ⟨o,l⟩ rfl;rw[Y]at l;cases l
 have P:∀k,σ.used k->ar.used ⟨f,objs'⟩ k/\bL ρ K (.slice none 0 0) k=ρ k:=λk l=>
  ⟨by
   cases aX:objs' k with
   |none=>exact absurd aX (N k (by obtain⟨o,e⟩:=l;rw[e];simp))
   |some o=>exact⟨o,aX⟩,ca _ _ (C k l)⟩
 have I:ar.used ⟨f,objs'⟩ K:=⟨_,H⟩;have q:bL ρ K (.slice none 0 0) K= .slice none 0 0:=by simp[bL]
 have y:bz m (bL ρ K (.slice none 0 0)) (ar.used ⟨f,objs'⟩) (.row K) (.slice none 0 0):=by have:=bz.row (m:=m) (ρ:=bL ρ K (.slice none 0 0)) (U:=ar.used ⟨f,objs'⟩) K I;rw[q]at this;exact this
 refine⟨m,bL ρ K (.slice none 0 0),Mem.le_refl m,⟨h.mem,h.frame,h.apart,?_,?_,?_,?_,?_⟩,?_⟩
 .rintro k ⟨o,l⟩;rcases D k o l with⟨rfl,rfl⟩|⟨ab,ae⟩;.rw[q];rfl
  rw[ca _ _ ab];rcases ae with ae|⟨z,i,ae,_,_⟩
  .exact h.one k ⟨_,ae⟩
  exact h.one k ⟨_,ae⟩
 .intro t;rcases aj t with e|⟨E,F⟩
  .show bz m _ _ (f t) _;rw[e];exact(h.au t).mono (Mem.le_refl m) P
  show bz m _ _ (f t) _;rw[F];have:=h.au t;rw[E]at this;rw[this.fq];exact y
 .intro k o l;rcases D k o l with⟨rfl,rfl⟩|⟨ab,ae⟩
  .rw[q];exact .inl ⟨rfl,rfl⟩
  rw[ca _ _ ab];rcases ae with ae|⟨z,i,ae,ai,rfl⟩
  .exact(h.objs k o ae).mono (Mem.le_refl m) P (λ_ _ _=>rfl)
  obtain⟨b,vs,T,E,F,X,V⟩:=(h.objs k _ ae).mono (Mem.le_refl m) P (λ_ _ _=>rfl);refine⟨b,vs,T,E,F,by simpa using X,?_⟩;intro j c x u W;rw[List.getElem?_set]at u;split at u
  .rename_i J;subst J;split at u;.cases u;have:=V i _ x ai W;rw[this.fq];exact y
   cases u
  exact V j c x u W
 .intro k o b l O s;rcases D k o l with⟨rfl,rfl⟩|⟨ab,ae⟩
  .have g:blockOf (bL ρ k (.slice none 0 0) k)=some b:=s;rw[q]at g;cases g
  have g:blockOf (bL ρ K (.slice none 0 0) k)=some b:=s;rw[ca _ _ ab]at g;rcases ae with ae|⟨z,i,ae,_,rfl⟩
  .exact h.own k o b ae O g
  exact h.own k _ b ae rfl g
 .intro k Q o o' b M l L Z bX s;rcases D k o l with⟨rfl,rfl⟩|⟨ab,ae⟩
  .have g:blockOf (bL ρ k (.slice none 0 0) k)=some b:=s;rw[q]at g;cases g
  rw[ca _ _ ab]at s;rcases D Q o' L with⟨rfl,rfl⟩|⟨G,r⟩
  .rw[q];intro aX;cases aX
  rw[ca _ _ G];have hold:∃p,σ.objs k=some p/\p.owns=true:=by
   rcases ae with ae|⟨z,i,ae,_,rfl⟩;.exact⟨_,ae,Z⟩
   exact⟨_,ae,rfl⟩
  have A:∃p,σ.objs Q=some p/\p.owns=true:=by
   rcases r with r|⟨z,i,r,_,rfl⟩;.exact⟨_,r,bX⟩
   exact⟨_,r,rfl⟩
  obtain⟨p,b3,b0⟩:=hold;obtain⟨b5,R,S⟩:=A;exact h.sep k Q p b5 b M b3 R b0 S s
 intro k l s;refine⟨B k s,ca _ _ ?_⟩;obtain⟨c,u⟩:=tX s;exact C k ⟨_,u⟩
def Y4{σ:ar}(t:Nat)(K:Key)(n:Nat)(e:σ.au t= .d (.val (.slice none 0 0)))(c:σ.objs K=none):eX σ ⟨bL σ.au t (.row K),bL σ.objs K (some (.row n []))⟩:=by
 refine NR K n _ _ c ?_ ?_ ?_ (by simp[bL]) ?_
 .intro j;by_cases h:j=t;.subst h;exact .inr ⟨e,by simp[bL]⟩
  exact .inl (by simp[bL,h])
 .intro k o a;by_cases h:k=K;.subst h;simp[bL]at a;exact .inl ⟨rfl,a.symm⟩
  rw[ca _ _ h]at a;exact .inr ⟨h,.inl a⟩
 .intro k a;by_cases h:k=K;.subst h;simp[bL]
  rw[ca _ _ h];exact a
 intro k b;have h:k≠K:=by rintro rfl;rw[c]at b;exact o6 b
 rw[ca _ _ h];exact b
def Y5{σ:ar}(k:Key)(i:Nat)(K:Key)(n:Nat){b:List az}(f:σ.objs k=some (.box b))(ag:b[i]?=some (.d (.val (.slice none 0 0))))(c:σ.objs K=none):eX σ ⟨σ.au,bL (bL σ.objs k (some (.box (b.set i (.row K))))) K (some (.row n []))⟩:=by
 have g:k≠K:=by rintro rfl;rw[c]at f;cases f
 refine NR K n _ _ c (λ_=> .inl rfl) ?_ ?_ (by simp[bL]) ?_
 .intro j o a;by_cases h:j=K;.subst h;simp[bL]at a;exact .inl ⟨rfl,a.symm⟩
  rw[ca _ _ h]at a;by_cases ae:j=k;.subst ae;simp[bL]at a;exact .inr ⟨h,.inr ⟨b,i,f,ag,a.symm⟩⟩
  rw[ca _ _ ae]at a;exact .inr ⟨h,.inl a⟩
 .intro j a;by_cases h:j=K;.subst h;simp[bL]
  rw[ca _ _ h];by_cases ae:j=k;.subst ae;simp[bL]
  rw[ca _ _ ae];exact a
 intro j e;have h:j≠K:=by rintro rfl;rw[c]at e;exact o6 e
 rw[ca _ _ h];by_cases ae:j=k;.subst ae;rw[dw];exact o5
 rw[ca _ _ ae];exact e
def Y6{σ:ar}(t:Nat)(K:Key)(n:Nat){es:mW}(f:σ.au t= .row K)(e:σ.objs K=some (.row n es)):eX σ ⟨bL σ.au t (.sub K n 0 es.length),σ.objs⟩:=by
 intro m fr ρ a w h;refine⟨m,ρ,Mem.le_refl m,⟨h.mem,h.frame,h.apart,h.one,?_,h.objs,h.own,h.sep⟩,ia.refl _ _⟩;intro s;by_cases aj:s=t
 .subst aj;have ab:=h.au s;rw[f]at ab;show bz m _ _ (bL σ.au s _ s) _;rw[dw];generalize a.tmps.getD s undef=v at*;cases ab with|row _ hu=>
  rcases h.objs _ _ e with⟨c,d⟩|⟨b,o,cap,vs,g,c,d,i,j,k,l⟩;.rw[c,d];exact .hf K n 0 hu c
  rw[c];exact bz.sub (m:=m) (ρ:=ρ) (U:=σ.used) K n 0 es.length b o es.length cap o hu c oZ ⟨λ_=>by simp,by omega⟩
 show bz m _ _ (bL σ.au t _ s) _;rw[ca _ _ aj];exact h.au s
def Y7{T:bC}{ev:Operand->az}{objs:bP}{d:Key}{o:Op}{r:az}{i:List (Key×b6)}(h:c7 T ev objs d o=some (r,i))(n:∀t a x,o≠ .store t a x):∀j c,objs j=some (.box c)->cD objs i j=some (.box c):=by
 have f:∀{objs:bP}{k:Key}{o:b6},(∀c,objs k≠some (.box c))->∀j c,objs j=some (.box c)->bL objs k (some o) j=some (.box c):=by
  intro objs k o m j c l;have:j≠k:=by rintro rfl;exact m c l
  rw[ca _ _ this];exact l
 have new:∀{o:b6},objs d=none->∀j c,objs j=some (.box c)->cD objs [(d,o)] j=some (.box c):=by intro o p;exact f (by intro c b;rw[p]at b;cases b)
 have same:∀{k:Key}{o0 o:b6},objs k=some o0->(∀c,o0≠ .box c)->∀j c,objs j=some (.box c)->cD objs [(k,o)] j=some (.box c):=by intro k o0 o m e;exact f (by intro c b;rw[m]at b;cases b;exact e c rfl)
 cases o<;>simp only[c7,reduceCtorEq]at h
 case alloc=>split at h<;>cases h;exact new aZ
 case box=>split at h<;>cases h;exact new aZ
 case buildSlice=>
  split at h
  case h_2=>cases h
  split at h
  case h_2=>cases h
  split at h
  case h_2=>cases h
  split at h<;>cases h;exact new aZ
 case makeSlice=>
  split at h
  case h_2=>cases h
  split at h
  case h_2=>cases h
  split at h
  case h_2=>cases h
  split at h<;>cases h;exact new aZ
 case makeMap=>split at h<;>cases h;exact new aZ
 case store=>exact absurd rfl (n _ _ _)
 case mapUpdate=>
  split at h
  case h_2=>cases h
  split at h
  case h_2=>cases h
  split at h
  case isFalse=>cases h
  split at h
  case h_2=>cases h
  split at h
  case h_2=>cases h
  split at h<;>cases h;exact same aZ (by intro c b;cases b)
 case insert=>
  split at h
  case h_2=>cases h
  split at h
  case h_2=>cases h
  split at h
  case isFalse=>cases h
  split at h
  case h_2=>cases h
  split at h
  case h_2=>cases h
  split at h<;>cases h;exact same aZ (by intro c b;cases b)
 case call=>
  split at h
  .split at h
   case h_2=>cases h
   split at h
   case h_2=>cases h
   split at h
   case h_2=>cases h
   split at h
   case h_2=>cases h
   split at h
   case isFalse=>cases h
   split at h;.split at h<;>cases h;exact new aZ
   .split at h
    case h_2=>cases h
    split at h<;>cases h;rename_i p _ _ _ _ _ _ _ _ _ _ _ _ m _ _;have g:=same (o:= .dead) aZ (by intro c b;cases b);intro j bK l;have ab:=g j bK l;refine f ?_ j bK ab;intro c s;have e:∀key x,objs key=some x->d≠key:=by
     rintro key x q rfl;have ak:objs d=none:=aZ
     rw[ak]at q;cases q
    rw[ca _ _ (e _ _ aZ)]at s;clear f new same g ab e
    simp_all
   cases h
  .split at h
   case h_2=>cases h
   split at h
   case h_2=>cases h
   split at h
   case h_2=>cases h
   split at h
   case h_2=>cases h
   split at h
   case isFalse=>cases h
   split at h
   .split at h
    case h_2=>cases h
    split at h<;>cases h;exact same aZ (by intro c b;cases b)
   .split at h
    case h_2=>cases h
    split at h<;>cases h;exact same aZ (by intro c b;cases b)
   cases h
  .split at h
   case h_2=>cases h
   split at h
   case h_2=>cases h
   split at h
   case h_2=>cases h
   split at h
   case h_2=>cases h
   split at h
   case h_2=>cases h
   split at h<;>cases h;exact same aZ (by intro c b;cases b)
  cases h
def Y8{T:bC}{ev:Operand->az}{objs:bP}{d:Key}{o:Op}{r:az}{f:List (Key×b6)}(h:e4 T ev objs d o=some (r,f))(l:∀t a x,o≠ .store t a x):∀j c,objs j=some (.box c)->cD objs f j=some (.box c):=by
 obtain⟨⟨q,g⟩,ak,i⟩:=qi h;have ab:=Y7 ak l;intro j c k;have ae:=ab j c k;rcases rU (T.born d) d q g with e|⟨n,es,rfl,rfl,e⟩|⟨u,n,es,rfl,rfl,e⟩|⟨off,cs,s,rfl,rfl,m,e⟩
 .rw[i]at e;cases e;exact ae
 .rw[i]at e;cases e;by_cases b:j=d;.subst b;simp only[cD,dw]at ae;cases ae
  simp only[cD,ca _ _ b]at ae⊢;exact ae
 .rw[i]at e;cases e;by_cases b:j=d;.subst b;simp only[cD,dw]at ae;cases ae
  simp only[cD,ca _ _ b]at ae⊢;exact ae
 rw[i]at e;cases e;have p:objs d=none:=Nq ak;by_cases b:j=d
 .subst b;rw[p]at k;cases k
 simp only[cD,ca _ _ b];exact k
section
variable{P:Program}{T:bC}{G:cj}{all:Array Oper}
def Y9{y:Oper}{σ:ar}{K K':ar->Prop}(e:∀t a x,y.op≠ .store t a x)(f:∀objs r,(∀j c,σ.objs j=some (.box c)->objs j=some (.box c))->K (ar.put ⟨σ.au,objs⟩ y.dst r)->K' (ar.put ⟨σ.au,objs⟩ y.dst r)) (h:cm P T G y K σ):cm P T G y K' σ:=by
 unfold cm at*;rw[qn]at*;cases b:res T G σ y with
 |none=>simp only[b,xbE]at h⊢;exact xS h λr b=>f σ.objs r (λ_ _ h=>h) b
 |some p=>
  simp only[b,xaI]at h⊢;refine f _ _ ?_ h;intro j c d;obtain⟨r,g⟩:=p;unfold res at b;split at b;.cases b;exact d
  split at b;.cases b;exact d
  exact Y8 b e j c d
def NS{t a k off:Nat}{σ:ar}{x:Oper}(g:x.op= .load t (.tmp a))(aj:σ.au a= .ptr k off){K:ar->Prop}(h:cm P T G x K σ): ∃r,K (σ.put x.dst r)/\∀objs,(∀j c,σ.objs j=some (.box c)->objs j=some (.box c))->res T G ⟨σ.au,objs⟩ x=some (r,[]):=by
 unfold cm at h;rw[qn]at h;cases b:res T G σ x with
 |none=>simp only[b,xbE]at h;unfold gR at h;rw[g]at h;exact h.elim
 |some p=>
  simp only[b,xaI]at h;obtain⟨r,m⟩:=p;unfold res at b;rw[g]at b;simp only[dk,cM,bD,aj,e4,c7,xbE]at b;cases e:T t with
  |none=>simp[e]at b
  |some i=>
   simp only[e]at b;cases d:σ.objs k with
   |none=>simp[d]at b
   |some o=>
    cases o with
    |box cells=>simp only[d]at b;cases f:qe i cells off with|none=>simp[f]at b|some q=>simp only[f,xaE,Prod.mk.injEq]at b;obtain⟨rfl,rfl⟩:=b;refine⟨q,h,λobjs l=>?_⟩;unfold res;rw[g];simp only[dk,cM,bD,aj,e,l k cells d,f]
    |dead=>simp[d]at b|row=>simp[d]at b|map=>simp[d]at b
def NT{x y:Oper}{σ:ar}{K:ar->Prop}{t a k off:Nat}(p:x.op= .load t (.tmp a))(s:x.guard=none)(aj:σ.au a= .ptr k off)(l:∀t a x,y.op≠ .store t a x)(i:x.apart all y=true) (h:da P T G all x (λu=>da P T G all y K u) σ):da P T G all y (λw=>da P T G all x K w) σ:=by
 obtain⟨aG,a2,a3⟩:=Oper.apart_spec i;have f:∀d,y.dst=some d->x.dst≠some d:=λd z p=>a2 d p z;have n:∀(K:ar->Prop) σ,da P T G all x K σ=cm P T G x K σ:=λK σ=>by unfold da;simp only[s]
 simp only[n]at h⊢;obtain⟨r,ab,ae⟩:=NS p aj h;have g:∀(K:ar->Prop) objs,(∀j c,σ.objs j=some (.box c)->objs j=some (.box c))->cm P T G x K ⟨σ.au,objs⟩=K (ar.put ⟨σ.au,objs⟩ x.dst r):=λK objs m=>jh (ae objs m);rw[ft,kP aG]at ab;rw[ft];split at ab
 .rename_i o
  try simp only[o]
  rw[gS aG a2]at ab;refine Y9 l (λobjs q m A=>?_) ab;rw[gS a3 f,g _ _ m,put_comm a2];exact A
 .rename_i o
  try simp only[o]
  show cm P T G x K (σ.put y.dst _);rw[gS a3 f];have:=g (λb=>K (b.put y.dst (.d (.val (.tuple #[]))))) σ.objs (λ_ _ h=>h);have e:cm P T G x (λb=>K (b.put y.dst (.d (.val (.tuple #[]))))) σ=K ((σ.put x.dst r).put y.dst (.d (.val (.tuple #[])))):=this;rw[e];exact ab
 exact ab.elim
def Za{y:Oper}{σ:ar}{K:ar->Prop}{a:Nat}(f:y.dst≠some a)(h:da P T G all y K σ):da P T G all y (λb=>b.au a=σ.au a/\K b) σ:=by
 have e:∀(objs:bP)(r:az),(ar.put ⟨σ.au,objs⟩ y.dst r).au a=σ.au a:=λobjs r=>by
  cases i:y.dst with
  |none=>rfl
  |some d=>
   have:a≠d:=by rintro rfl;exact f i
   simp only[ar.put,ca _ _ this]
 rw[ft]at h⊢;split at h
 .rename_i c
  try simp only[c]
  exact qo (λobjs r g=>⟨e objs r,g⟩) h
 .rename_i c
  try simp only[c]
  exact⟨e σ.objs _,h⟩
 exact h.elim
def NU{K:ar->Prop}{i:Nat}{A:Oper}{t a k off:Nat}(ag:all[i]?=some A)(O:A.op= .load t (.tmp a))(z:A.guard=none){B:lX}(U:∀j g,j∈B->all[j]?=some g->∃e∈g.after,Region.binds .any e=true/\(e.on=i\/e.on∈B)):∀(fuel:Nat)(listed:Array Bool)(σ:ar),σ.au a= .ptr k off->(∀j,j∈B->listed.getD j true=false)->(∀j g,all[j]?=some g->j≠i->listed.getD j true=false->j∉B->A.apart all g=true/\∀t a x,g.op≠ .store t a x)->i∈Region.ready .any all listed->fm P T G all i (gf P T G all K fuel (listed.setIfInBounds i true)) σ->gf P T G all K (fuel+1) listed σ:=by
 intro fuel
 induction fuel with
 |zero=>
  intro listed σ D f c u H;refine⟨λh=>(by rw[h]at u;cases u),λj E=>?_⟩;by_cases b:j=i;.subst b;exact H
  have R:=ready_mono E b;exfalso;have key:Region.ready .any all (listed.setIfInBounds i true)=[]:=by unfold fm at H;simp only[ag]at H;unfold da at H;simp only[z]at H;obtain⟨r,ab,_⟩:=NS O D H;exact ab.1
  rw[key]at R;cases R
 |succ fuel ih=>
  intro listed σ D f c u H;refine⟨λh=>(by rw[h]at u;cases u),λj E=>?_⟩;by_cases b:j=i;.subst b;exact H
  obtain⟨o,g,s,w⟩:=xbW.1 E;have q:∀k,listed.getD k true=false->listed[k]?.getD false=true->False:=λk ak ab=>by
   rcases xbe k listed.size with I|I;.simp[I]at ak ab;rw[ak]at ab;cases ab
   simp[Array.getElem?_eq_none I]at ab
  have p:j∉B:=λL=>by
   obtain⟨e,X,V,d⟩:=U j g L s;have ab:=w e X V;rcases d with d|d
   .rw[d]at ab;exact q i (xbW.1 u).1 (by simpa using ab)
   exact q _ (f _ d) (by simpa using ab)
  obtain⟨S,Y⟩:=c j g s b o p;have ab:fm P T G all i (λC=>fm P T G all j (gf P T G all K fuel ((listed.setIfInBounds i true).setIfInBounds j true)) C) σ:=qp (λC Q=>Q.2 j (ready_mono E b)) H;have J:g.dst≠some a:=λW=>by obtain⟨_,_,a3⟩:=Oper.apart_spec S;refine a3 a W ?_;unfold Oper.looksAt;rw[O];simp[Op.operands]
  have ae:fm P T G all j (λn=>n.au a=σ.au a/\fm P T G all i (gf P T G all K fuel ((listed.setIfInBounds i true).setIfInBounds j true)) n) σ:=by unfold fm at ab⊢;simp only[ag,s]at ab⊢;exact Za J (NT O z D Y S ab)
  have l:∀k ok,all[k]?=some ok->k≠i->(listed.setIfInBounds j true).getD k true=false->k∉B->A.apart all ok=true/\∀t a x,ok.op≠ .store t a x:=λk ok F M y N=>by
   refine c k ok F M ?_ N;by_cases m:j=k;.subst m;exact o
   rw[getD_set_ne true m]at y;exact y
  refine qp (λn ai=>ih (listed.setIfInBounds j true) n (ai.1.trans D) (λk F=>by
   have m:j≠k:=by rintro rfl;exact p F
   rw[getD_set_ne true m];exact f k F) l (ready_mono u (xbZ b)) ?_) ae
  rw[Array.setIfInBounds_comm _ _ b];exact ai.2
end
section
variable{P:Program}{T:bC}{G:cj}{all:Array Oper}
def uh:az->Option Key
 | .ptr k _=>some k| .ey k _ _ _=>some k|_=>none
def keyOf(au:Nat->az):Operand->Option Key
 | .tmp a=>uh (au a)|_=>none
theorem HX{au:Nat->az}(x:Operand):uh (bD G au x)=keyOf au x:=by cases x with|tmp a=>rfl|const v=>rfl|func f=>rfl|global g=>simp only[bD,keyOf];split<;>rfl
def pb(au:Nat->az):Operand->Bool
 | .tmp a=>match au a with| .d _=>true|_=>false
 | .const _=>true|_=>false
def pc(au:Nat->az)(k:Key):Op->Bool
 | .store _ a _=>match keyOf au a with|some b=>b !=k|none=>false
 |_=>false
def Cl:Op->Bool
 | .store _ _ _=>true|_=>false
def xZ(au:Nat->az):Operand->Bool
 | .tmp a=>match au a with| .ptr _ _=>true|_=>false
 |_=>false
def Zb:az->Bool
 | .d _=>true| .cH _ _=>true|_=>false
def lT(au:Nat->az):Operand->Bool
 | .tmp a=>Zb (au a)|_=>false
def pd(au:Nat->az):Op->Bool
 | .load _ a=>lT au a| .indexAddr _ x _=>lT au x| .lookup _ m _ _=>lT au m| .slice _ x _ _ none=>lT au x| .call ⟨.builtin .len,args,_⟩=>args.toList.all (lT au)|_=>false
def nW(au:Nat->az)(x y:Oper):Bool:=pass x y||pd au x.op||match x.op with
 | .binOp _ _ a b _=>pb au a&&pb au b| .load _ a=>match keyOf au a with|some k=>(xZ au a&&!Cl y.op)||gm y.op||gE y.op||fl y.op||pc au k y.op|none=>false
 | .indexAddr _ _ _=>gm y.op||gE y.op||fl y.op||Cl y.op| .store _ a _=>match keyOf au a with|some k=>pc au k y.op|none=>false
 |_=>false
def HY(k:Key)(o o':bP):Prop:=o' k=o k
def ui(o o':bP):Prop:=∀k n es,o k=some (.row n es)->∃a,o' k=some (.row n a)/\a.length=es.length
def Zc{y:Oper}{σ:ar}{K K':ar->Prop}{R:bP->Prop}(ak:R σ.objs)(d:∀r a,res T G σ y=some (r,a)->R (cD σ.objs a))(c:∀objs r,R objs->K (ar.put ⟨σ.au,objs⟩ y.dst r)->K' (ar.put ⟨σ.au,objs⟩ y.dst r)) (h:cm P T G y K σ):cm P T G y K' σ:=by unfold cm at*;rw[qn]at*;cases b:res T G σ y with|none=>simp only[b,xbE]at h⊢;exact xS h λr b=>c σ.objs r ak b|some p=>simp only[b,xaI]at h⊢;obtain⟨r,a⟩:=p;exact c _ _ (d r a b) h
def NV{σ:ar}{y:Oper}(h:(gm y.op||gE y.op||fl y.op)=true){r:az}{b:List (Key×b6)}(a:res T G σ y=some (r,b)):b=[]:=by
 unfold res at a;split at a;.cases a;rfl
 split at a;.cases a;rfl
 simp only[xbk]at h;rcases h with(h|h)|h
 .rw[(tZ h).2]at a;cases a
 .rw[ua h]at a;cases a
 rw[(HP (T:=T) (ev:=bD G σ.au) (objs:=σ.objs) (d:=y.dst.getD 9999) h).2.2]at a;cases a
def HZ{σ:ar}{y:Oper}{t:TypeId}{a x:Operand}(j:y.op= .store t a x){r:az}{e:List (Key×b6)}(b:res T G σ y=some (r,e)): ∃k o o',keyOf σ.au a=some k/\e=[(k,o')]/\σ.objs k=some o/\((∃c h,o= .box c/\o'= .box h)\/∃n es d,o= .row n es/\o'= .row n d/\d.length=es.length):=by
 rw[<-HX (G:=G)];unfold res at b;rw[j]at b;simp only[dk,cM,Ni,c7]at b;split at b
 case h_2=>cases b
 split at b
 case isFalse=>cases b
 split at b
 .rename_i k off f;split at b
  case h_2=>cases b
  rename_i cells g;split at b<;>cases b;exact⟨k,_,_,by rw[f];rfl,rfl,g,.inl ⟨_,_,rfl,rfl⟩⟩
 .rename_i k l cN off f;split at b
  case h_2=>cases b
  rename_i q es m g p;split at b
  case isFalse=>cases b
  rename_i i;split at b<;>cases b;exact⟨k,_,_,by rw[f];rfl,rfl,g,.inr ⟨l,es,_,by rw[i.1],rfl,by simp⟩⟩
 cases b
def x0{objs:bP}{k:Key}{o:b6}(j:Key):cD objs [(k,o)] j=if j=k then some o else objs j:=by
 by_cases h:j=k;.subst h;simp[cD,dw]
 simp[cD,ca _ _ h,h]
def Zd{σ:ar}{y:Oper}{k:Key}(h:(gm y.op||gE y.op||fl y.op||pc σ.au k y.op)=true){r:az}{b:List (Key×b6)}(c:res T G σ y=some (r,b)):HY k σ.objs (cD σ.objs b):=by
 rcases xbx.1 h with h|h;.rw[NV h c];rfl
 unfold pc at h;split at h
 case h_2=>cases h
 rename_i t a x d;obtain⟨f,o,o',ab,rfl,ae,_⟩:=HZ d c;rw[ab]at h;simp only[bne_iff_ne,ne_eq]at h;show cD σ.objs [(f,o')] k=σ.objs k;rw[x0,xab (λe=>h e.symm)]
theorem ui.refl(o:bP):ui o o:=λk n es h=>⟨es,h,rfl⟩
def Ze{σ:ar}{y:Oper}(h:(gm y.op||gE y.op||fl y.op||Cl y.op)=true){r:az}{b:List (Key×b6)}(g:res T G σ y=some (r,b)):ui σ.objs (cD σ.objs b):=by
 rcases xbx.1 h with h|h;.rw[NV h g];exact ui.refl _
 unfold Cl at h;split at h
 case h_2=>cases h
 rename_i t a x j;obtain⟨l,o,o',ab,rfl,ae,ai⟩:=HZ j g;intro k n es d;rw[x0];by_cases e:k=l
 .subst e;rw[xac rfl];rw[ae]at d;rcases ai with⟨c,p,rfl,rfl⟩|⟨m,i,f,rfl,rfl,ah⟩
  .cases d
  cases d;exact⟨f,rfl,ah⟩
 rw[xab e];exact⟨es,d,rfl⟩
def Looks(T:bC)(G:cj)(x:Oper)(au:Nat->az)(o:bP)(R:bP->Prop):Prop:=∀r a,res T G ⟨au,o⟩ x=some (r,a)->a=[]/\∀o',R o'->res T G ⟨au,o'⟩ x=some (r,[])
def Cm{x y:Oper}{σ:ar}{K:ar->Prop}{R:bP->Prop}(n:x.guard=none)(m:fl x.op=false)(i:x.apart all y=true)(ah:Looks T G x σ.au σ.objs R)(ak:R σ.objs)(u:∀r a,res T G σ y=some (r,a)->R (cD σ.objs a)) (h:da P T G all x (λo=>da P T G all y K o) σ):da P T G all y (λs=>da P T G all x K s) σ:=by
 obtain⟨aG,a2,a3⟩:=Oper.apart_spec i;have f:∀d,y.dst=some d->x.dst≠some d:=λd w B=>a2 d B w;have k:∀(K:ar->Prop) σ,da P T G all x K σ=cm P T G x K σ:=λK σ=>by unfold da;simp only[n]
 simp only[k]at h⊢;have b:res T G σ x≠none:=by intro A;rw[km A]at h;have:=rW h;rw[m]at this;cases this
 obtain⟨p,t⟩:=Option.ne_none_iff_exists'.1 b;obtain⟨r,a⟩:=p;obtain⟨rfl,ae⟩:=ah r a t;have ab:da P T G all y K (σ.put x.dst r):=by rw[jh t]at h;exact h
 have g:∀(K:ar->Prop) objs,R objs->cm P T G x K ⟨σ.au,objs⟩=K (ar.put ⟨σ.au,objs⟩ x.dst r):=λK objs j=>jh (ae objs j);rw[ft,kP aG]at ab;rw[ft];split at ab
 .rename_i l
  try simp only[l]
  rw[gS aG a2]at ab;refine Zc ak u (λobjs q j z=>?_) ab;rw[gS a3 f,g _ _ j,put_comm a2];exact z
 .rename_i l
  try simp only[l]
  show cm P T G x K (σ.put y.dst _);rw[gS a3 f];have e:cm P T G x (λc=>K (c.put y.dst (.d (.val (.tuple #[]))))) σ=K ((σ.put x.dst r).put y.dst (.d (.val (.tuple #[])))):=g (λc=>K (c.put y.dst (.d (.val (.tuple #[]))))) σ.objs ak;rw[e];exact ab
 exact ab.elim
def NW{au:Nat->az}{x:Operand}(h:pb au x=true):∃d,bD G au x= .d d:=by
 unfold pb at h;split at h
 .split at h;.rename_i d a;exact⟨d,a⟩
  cases h
 .exact⟨_,rfl⟩
 cases h
def Zf(o o':bP)(x:D):jw o (.d x)=jw o' (.d x):=by
 unfold jw;split<;>first|rfl|(rename_i h;cases h)|skip
 all_goals rfl
def x2{au:Nat->az}{x:Operand}(h:lT au x=true):(∃d,bD G au x= .d d)\/∃cs off,bD G au x= .cH cs off:=by
 cases x with
 |tmp a=>simp only[lT]at h;show(∃d,au a= .d d)\/∃cs off,au a= .cH cs off;generalize au a=v at h;cases v<;>first|exact .inl ⟨_,rfl⟩|exact .inr ⟨_,_,rfl⟩|cases h
 |_=>cases h
def NX(o o':bP)(x:D):hB o (.d x)=hB o' (.d x):=by
 unfold hB;split<;>first|rfl|(rename_i h;cases h)|skip
 all_goals rfl
theorem Zg(o o':bP)(cs:lZ)(off:Nat):hB o (.cH cs off)=hB o' (.cH cs off):=rfl
def Zh{au:Nat->az}{op:Op}(h:pd au op=true)(o o':bP):cM T (bD G au) o op=cM T (bD G au) o' op:=by
 cases op<;>simp only[pd,xaq]at h
 case load t a=>rcases x2 (G:=G) h with⟨d,e⟩|⟨cs,off,e⟩<;>simp only[cM,e]
 case indexAddr t x i=>
  rcases x2 (G:=G) h with⟨d,e⟩|⟨cs,off,e⟩;.simp only[cM,e];cases d<;>rfl
  simp only[cM,e]
 case lookup t m k ok=>
  rcases x2 (G:=G) h with⟨d,e⟩|⟨cs,off,e⟩
  .simp only[cM,e];split
   .cases d<;>first|rfl|skip
    rename_i v;cases v<;>first|rfl|skip
    rename_i q;cases q<;>rfl
   rfl
  simp only[cM,e]
 case slice t x lo ag ed=>
  cases ed with
  |some _=>cases h
  |none=>
   simp only at h;rcases x2 (G:=G) h with⟨d,e⟩|⟨cs,off,e⟩
   .simp only[cM,e,NX o o' d];cases d<;>rfl
   simp only[cM,e,Zg o o' cs off]
 case call c=>
  obtain⟨callee,args,l⟩:=c;cases callee with
  |value=>rfl|invoke=>rfl
  |builtin b=>
   cases b<;>first|rfl|skip
   simp only at h;simp only[cM];split
   .rename_i t x n g;rw[g]at h;simp only[xbc,xcf,xbA]at h;rcases x2 (G:=G) h with⟨d,e⟩|⟨cs,off,e⟩
    .simp only[e];cases j:T t with
     |none=>rfl
     |some i=>
      obtain⟨f,s,b,z⟩:=i;cases f
      case map k q=>
       cases d
       case val v=>
        cases v
        case map r=>cases r<;>rfl
        all_goals rfl
       all_goals rfl
      case slice q=>simp only[NX o o' d]
      case string=>
       cases d
       case val v=>cases v<;>rfl
       all_goals rfl
      all_goals rfl
    simp only[e];cases j:T t with|none=>rfl|some i=>obtain⟨f,s,b,z⟩:=i;cases f<;>rfl
   rfl
def NY{au:Nat->az}{op:Op}(h:pd au op=true):gE op=true:=by
 cases op<;>simp only[pd,xaq]at h<;>first|rfl|skip
 case call c=>
  obtain⟨callee,args,a⟩:=c;cases callee with
  |value=>cases h
  |invoke=>cases h
  |builtin b=>cases b<;>first|rfl|cases h
def Zi{x:Oper}{au:Nat->az}{o:bP}(h:pd au x.op=true):Looks T G x au o (λ_=>True):=by
 intro r d a;have b:=NY h;unfold res at a;split at a
 .rename_i u hu;cases a;refine⟨rfl,λo' _=>?_⟩;unfold res;simp only[hu]
 rename_i c;split at a;.rename_i u hu;cases a;refine⟨rfl,λo' _=>?_⟩;unfold res;simp only at hu;simp only[c,Zh h o' o,hu]
 rw[ua b]at a;cases a
def Zj{x:Oper}{op:BinOp}{t:TypeId}{a b:Operand}{q:TypeId}(f:x.op= .binOp op t a b q){au:Nat->az}{o:bP}(i:pb au a=true)(j:pb au b=true):Looks T G x au o (λ_=>True):=by
 intro r l c;obtain⟨d1,g⟩:=NW (G:=G) i;obtain⟨d2,h⟩:=NW (G:=G) j;unfold res at c;rw[f]at c;cases e:dk T (bD G au) (.binOp op t a b q)with
 |some u=>rw[e]at c;cases c;refine⟨rfl,λo' _=>?_⟩;unfold res;rw[f,e]
 |none=>
  rw[e]at c;simp only at c;have k:∀o',cM T (bD G au) o' (.binOp op t a b q)=cM T (bD G au) o (.binOp op t a b q):=by intro o';simp only[cM,g,h,Zf o' o]
  cases d:cM T (bD G au) o (.binOp op t a b q)with
  |some u=>rw[d]at c;cases c;refine⟨rfl,λo' _=>?_⟩;unfold res;rw[f,e];simp only[k o',d]
  |none=>rw[d]at c;simp[e4,c7]at c
def Zk{x:Oper}{t:TypeId}{a:Operand}{k:Key}(f:x.op= .load t a){au:Nat->az}{o:bP}(g:keyOf au a=some k):Looks T G x au o (HY k o):=by
 intro r i c;have d:uh (bD G au a)=some k:=by rw[HX];exact g
 unfold res at c;rw[f]at c;simp only[dk]at c;have h:∀o',o' k=o k->cM T (bD G au) o' (.load t a)=cM T (bD G au) o (.load t a):=by
  intro o' e;simp only[cM];generalize bD G au a=v at d⊢;cases v<;>simp only[uh,reduceCtorEq,xaE]at d;.subst d;simp only[e]
  subst d;simp only[e]
 cases b:cM T (bD G au) o (.load t a)with
 |some u=>rw[b]at c;cases c;refine⟨rfl,λo' e=>?_⟩;unfold res;rw[f];simp only[dk,h o' e,b]
 |none=>rw[b]at c;simp[e4,c7]at c
def Zl{x:Oper}{t:TypeId}{a b:Operand}(f:x.op= .indexAddr t a b){au:Nat->az}{o:bP}:Looks T G x au o (ui o):=by
 intro r m d;unfold res at d;rw[f]at d;simp only[dk]at d;cases c:cM T (bD G au) o (.indexAddr t a b)with
 |some u=>
  rw[c]at d;cases d;refine⟨rfl,λo' j=>?_⟩;have h:cM T (bD G au) o' (.indexAddr t a b)=some r:=by
   simp only[cM]at c⊢;split at c
   .split at c
    .split at c
     .rename_i i;rw[xac i];split at c<;>first|exact c|skip
      rename_i key n;cases e:o key with
      |none=>rw[e]at c;cases c
      |some l=>
       cases l with
       |row k es=>obtain⟨g,ab,ae⟩:=j key k es e;rw[e]at c;rw[ab];simp only[ae]at c⊢;exact c
       |dead=>rw[e]at c;cases c
       |box=>rw[e]at c;cases c
       |map=>rw[e]at c;cases c
     cases c
    cases c
   .exact c
   cases c
  unfold res;rw[f];simp only[dk,h]
 |none=>rw[c]at d;simp[e4,c7]at d
def Zm{o:bP}{k c:Key}{a b:b6}(h:k≠c):cD (cD o [(k,a)]) [(c,b)]=cD (cD o [(c,b)]) [(k,a)]:=by
 funext j
 simp only[x0];by_cases ab:j=k<;>by_cases ae:j=c<;>simp_all
def NZ{y:Oper}{t:TypeId}{a x:Operand}{k:Key}(e:y.op= .store t a x){au:Nat->az}{o o':bP}(d:keyOf au a=some k)(c:o' k=o k):res T G ⟨au,o'⟩ y=res T G ⟨au,o⟩ y:=by
 have b:uh (bD G au a)=some k:=by rw[HX];exact d
 unfold res;rw[e];simp only[dk,cM,Ni,c7];generalize bD G au a=v at b⊢;cases v<;>simp only[uh,reduceCtorEq,xaE]at b;.subst b;simp only[c]
 subst b;simp only[c]
def Zn{x y:Oper}{σ:ar}{K:ar->Prop}{t t':TypeId}{a C v dN:Operand}{k B:Key}(A:x.op= .store t a v)(Q:y.op= .store t' C dN)(O:keyOf σ.au a=some k)(s:keyOf σ.au C=some B)(j:B≠k) (I:x.guard=none) (D:x.apart all y=true) (h:da P T G all x (λM=>da P T G all y K M) σ):da P T G all y (λN=>da P T G all x K N) σ:=by
 obtain⟨aG,a2,a3⟩:=Oper.apart_spec D;have n:∀d,y.dst=some d->x.dst≠some d:=λd V A=>a2 d A V;have F:∀(K:ar->Prop) σ,da P T G all x K σ=cm P T G x K σ:=λK σ=>by unfold da;simp only[I]
 simp only[F]at h⊢;have b:∀{z:Oper}{tt:TypeId}{p q:Operand}{τ:ar}{K':ar->Prop},z.op= .store tt p q->cm P T G z K' τ->∃r bS f,res T G τ z=some (r,[(bS,f)])/\keyOf τ.au p=some bS/\K' (τ.step z.dst r [(bS,f)]):=by
  intro z tt p q τ K' R aX;cases E:res T G τ z with
  |none=>rw[km E]at aX;have:=rW aX;rw[R]at this;cases this
  |some u=>obtain⟨r,b5⟩:=u;obtain⟨bS,o,f,L,rfl,_,_⟩:=HZ R E;exact⟨r,bS,f,rfl,L,by rw[jh E]at aX;exact aX⟩
 obtain⟨r,bS,f,L,S,bX⟩:=b A h;rw[O]at S;cases S;have c:da P T G all y K (ar.put ⟨σ.au,cD σ.objs [(k,f)]⟩ x.dst r):=bX;have g:∀(i:bP),i k=σ.objs k->∀K':ar->Prop,cm P T G x K' ⟨σ.au,i⟩=K' (ar.put ⟨σ.au,cD i [(k,f)]⟩ x.dst r):=by
  intro i W K';have:res T G ⟨σ.au,i⟩ x=some (r,[(k,f)]):=by rw[NZ A O W];exact L
  exact jh this
 rw[ft,kP aG]at c;rw[ft];have l:hh all ⟨σ.au,cD σ.objs [(k,f)]⟩ y=hh all σ y:=rfl;rw[l]at c;split at c
 .rename_i H
  try simp only[H]
  rw[gS aG a2]at c;obtain⟨df,cy,i,X,Y,Z⟩:=b Q c;have w:keyOf σ.au C=some cy:=Y;rw[s]at w;cases w;have J:res T G σ y=some (df,[(B,i)]):=by rw[<-X];exact(NZ (T:=T) (G:=G) Q (o:=σ.objs) (o':=cD σ.objs [(k,f)]) s (by rw[x0,xab j])).symm
  rw[jh J];show cm P T G x K (ar.put ⟨σ.au,cD σ.objs [(B,i)]⟩ y.dst df);rw[gS a3 n,g _ (by rw[x0,xab (λe=>j e.symm)]),put_comm a2,Zm j];exact Z
 .rename_i H
  try simp only[H]
  show cm P T G x K (σ.put y.dst _);rw[gS a3 n];have e:=g σ.objs rfl (λm=>K (m.put y.dst (.d (.val (.tuple #[])))));have U:cm P T G x (λm=>K (m.put y.dst (.d (.val (.tuple #[]))))) σ=_:=e;rw[U];exact c
 exact c.elim
def Zo{x y:Oper}{σ:ar}{K:ar->Prop}(d:x.guard=none)(c:x.apart all y=true)(h:nW σ.au x y=true)(H:da P T G all x (λl=>da P T G all y K l) σ):da P T G all y (λf=>da P T G all x K f) σ:=by
 unfold nW at h;rcases xbx.1 h with h|h
 .rcases xbx.1 h with h|h;.exact swap c h H
  refine Cm d ?_ c (Zi h) trivial (λ_ _ _=>trivial) H;cases o:fl x.op with|false=>rfl|true=>have:=xR o;rw[NY h]at this;cases this.2.1
 split at h;.rename_i op t a b q e;rw[xan]at h;exact Cm d (by rw[e];rfl) c (Zj e h.1 h.2) trivial (λ_ _ _=>trivial) H
 .rename_i t a e;split at h
  case h_2=>cases h
  rename_i k g;simp only[xbk]at h;have other:(gm y.op||gE y.op||fl y.op||pc σ.au k y.op)=true->da P T G all y (λf=>da P T G all x K f) σ:=λn=>Cm d (by rw[e];rfl) c (Zk e g) (rfl:HY k σ.objs σ.objs) (λ_ _ j=>Zd n j) H
  rcases h with(((h|h)|h)|h)|h
  .rw[xan]at h;obtain⟨ab,ae⟩:=h;unfold xZ at ab;split at ab
   case h_2=>cases ab
   rename_i a0;split at ab
   case h_2=>cases ab
   rename_i uj off aj;refine NT e d aj ?_ c H;intro t' m dN p;rw[p]at ae;cases ae
  .exact other (by simp[h])
  .exact other (by simp[h])
  .exact other (by simp[h])
  exact other (by simp[h])
 .rename_i t a b e;exact Cm d (by rw[e];rfl) c (Zl e) (ui.refl _) (λ_ _ j=>Ze h j) H
 .rename_i t a v e;split at h
  case h_2=>cases h
  rename_i k g;unfold pc at h;split at h
  case h_2=>cases h
  rename_i t' m dN r;split at h
  case h_2=>cases h
  rename_i s i;exact Zn e r g i (by simpa using h) d c H
 cases h
def jj:Op->List Tmp
 | .binOp _ _ a b _=>(match a with| .tmp t=>[t]|_=>[])++(match b with| .tmp t=>[t]|_=>[])
 | .load _ (.tmp a)=>[a]| .store _ (.tmp a) _=>[a]| .indexAddr _ (.tmp a) _=>[a]| .lookup _ (.tmp a) _ _=>[a]| .slice _ (.tmp a) _ _ _=>[a]| .call ⟨.builtin .len,args,_⟩=>args.toList.filterMap λx=>match x with| .tmp t=>some t|_=>none
 |_=>[]
def nX:Op->List Tmp
 | .store _ (.tmp a) _=>[a]|_=>[]
theorem H0{s s':Nat->az}{x:Operand}(h:∀t,x= .tmp t->s t=s' t):keyOf s x=keyOf s' x:=by cases x with|tmp t=>simp only[keyOf,h t rfl]|_=>rfl
theorem N1{s s':Nat->az}{x:Operand}(h:∀t,x= .tmp t->s t=s' t):pb s x=pb s' x:=by cases x with|tmp t=>simp only[pb,h t rfl]|_=>rfl
theorem Zp{s s':Nat->az}{x:Operand}(h:∀t,x= .tmp t->s t=s' t):xZ s x=xZ s' x:=by cases x with|tmp t=>simp only[xZ,h t rfl]|_=>rfl
def Zq{s s':Nat->az}{x y:Oper}(h:∀t,t∈jj x.op\/t∈nX y.op->s t=s' t):nW s x y=nW s' x y:=by
 have j:∀k,pc s k y.op=pc s' k y.op:=by
  intro k;unfold pc;split;.rename_i t a v n;rw[H0 (s:=s) (s':=s') (x:=a) (λq o=>h q (.inr (by rw[n,o];simp[nX])))]
  rfl
 have m:pd s x.op=pd s' x.op:=by
  have f:∀t,t∈jj x.op->s t=s' t:=λt e=>h t (.inl e);generalize x.op=op at f;have one:∀a:Operand,(∀t,a= .tmp t->t∈jj op)->lT s a=lT s' a:=by intro a d;cases a with|tmp t=>simp only[lT,f t (d t rfl)]|_=>rfl
  cases op<;>simp only[pd]
  case load t a=>exact one a (by rintro t rfl;simp[jj])
  case indexAddr t a i=>exact one a (by rintro t rfl;simp[jj])
  case lookup t a k ok=>exact one a (by rintro t rfl;simp[jj])
  case slice t a lo ag ed=>
   cases ed with
   |none=>exact one a (by rintro t rfl;simp[jj])
   |some _=>rfl
  case call c=>
   obtain⟨callee,args,p⟩:=c;cases callee with
   |value=>rfl|invoke=>rfl
   |builtin b=>
    cases b<;>first|rfl|skip
    simp only;rw[Bool.eq_iff_iff,xay,xay];have d:∀a∈args.toList,lT s a=lT s' a:=λa d=>one a (by rintro t rfl;simp only[jj,List.mem_filterMap];exact⟨_,d,rfl⟩);exact⟨λh a g=>by rw[<-d a g];exact h a g,λh a g=>by rw[d a g];exact h a g⟩
 unfold nW;rw[m]
 congr 1
 split;.rename_i op t a b q f;have d:∀t,a= .tmp t->s t=s' t:=λt e=>h t (.inl (by rw[f,e];simp[jj]));have l:∀t,b= .tmp t->s t=s' t:=λt e=>h t (.inl (by rw[f,e];simp[jj]));rw[N1 d,N1 l]
 .rename_i t a f;have d:∀t,a= .tmp t->s t=s' t:=λt e=>h t (.inl (by rw[f,e];simp[jj]));rw[H0 d,Zp d];split
  .rw[j]
  rfl
 .rfl
 .rename_i t a v f;have d:∀t,a= .tmp t->s t=s' t:=λt e=>h t (.inl (by rw[f,e];simp[jj]));rw[H0 d];split
  .rw[j]
  rfl
 rfl
def Zr{y:Oper}{σ:ar}{K:ar->Prop}{L:List Tmp}(g:∀a∈L,y.dst≠some a)(h:da P T G all y K σ):da P T G all y (λb=>(∀a∈L,b.au a=σ.au a)/\K b) σ:=by
 have e:∀(objs:bP)(r:az),∀a∈L,(ar.put ⟨σ.au,objs⟩ y.dst r).au a=σ.au a:=λobjs r a f=>by
  cases j:y.dst with
  |none=>rfl
  |some d=>
   have:a≠d:=by rintro rfl;exact g a f j
   simp only[ar.put,ca _ _ this]
 rw[ft]at h⊢;split at h
 .rename_i c
  try simp only[c]
  exact qo (λobjs r i=>⟨e objs r,i⟩) h
 .rename_i c
  try simp only[c]
  exact⟨e σ.objs _,h⟩
 exact h.elim
def Zs{x:Oper}{σ:ar}{p:Prop}(h:da P T G all x (λ_=>p) σ):p:=by
 rw[ft]at h;split at h
 .unfold cm at h;split at h;.exact h
  unfold gR at h;split at h
  .split at h;.obtain⟨_,_,_,_,_,_,⟨r,a⟩,_,q⟩:=h;exact q r (by rw[a])
   exact h.elim
  exact h.elim
 .exact h
 exact h.elim
def N2{K:ar->Prop}{i:Nat}{s:Oper}(ag:all[i]?=some s)(Q:s.guard=none){B:lX}(U:∀j d,j∈B->all[j]?=some d->∃e∈d.after,Region.binds .any e=true/\(e.on=i\/e.on∈B)){s0:Nat->az}{L:List Tmp}(O:∀t∈jj s.op,t∈L): ∀(fuel:Nat)(listed:Array Bool)(σ:ar),(∀t∈L,σ.au t=s0 t)->(∀j,j∈B->listed.getD j true=false)->(∀j d,all[j]?=some d->j≠i->listed.getD j true=false->j∉B->s.apart all d=true/\nW s0 s d=true/\(∀t∈L,d.dst≠some t)/\∀t∈nX d.op,t∈L)->i∈Region.ready .any all listed->fm P T G all i (gf P T G all K fuel (listed.setIfInBounds i true)) σ->gf P T G all K (fuel+1) listed σ:=by
 intro fuel
 induction fuel with
 |zero=>
  intro listed σ F g c w H;refine⟨λh=>(by rw[h]at w;cases w),λj C=>?_⟩;by_cases b:j=i;.subst b;exact H
  have S:=ready_mono C b;exfalso;have key:Region.ready .any all (listed.setIfInBounds i true)=[]:=by have E:=qp (K':=λ_=>Region.ready .any all (listed.setIfInBounds i true)=[]) (λb5 x=>x.1) H;unfold fm at E;simp only[ag]at E;exact Zs E
  rw[key]at S;cases S
 |succ fuel ih=>
  intro listed σ F g c w H;refine⟨λh=>(by rw[h]at w;cases w),λj C=>?_⟩;by_cases b:j=i;.subst b;exact H
  obtain⟨o,d,u,y⟩:=xbW.1 C;have q:∀k,listed.getD k true=false->listed[k]?.getD false=true->False:=λk ak ab=>by
   rcases xbe k listed.size with x|x;.simp[x]at ak ab;rw[ak]at ab;cases ab
   simp[Array.getElem?_eq_none x]at ab
  have p:j∉B:=λI=>by
   obtain⟨e,W,V,f⟩:=U j d I u;have ab:=y e W V;rcases f with f|f
   .rw[f]at ab;exact q i (xbW.1 w).1 (by simpa using ab)
   exact q _ (g _ f) (by simpa using ab)
  obtain⟨X,Y,Z,bX⟩:=c j d u b o p;have ab:fm P T G all i (λA=>fm P T G all j (gf P T G all K fuel ((listed.setIfInBounds i true).setIfInBounds j true)) A) σ:=qp (λA R=>R.2 j (ready_mono C b)) H;have ae:fm P T G all j (λn=>(∀a∈L,n.au a=σ.au a)/\fm P T G all i (gf P T G all K fuel ((listed.setIfInBounds i true).setIfInBounds j true)) n) σ:=by
   unfold fm at ab⊢;simp only[ag,u]at ab⊢;have N:nW σ.au s d=true:=by
    rw[<-Y];refine Zq λt r=>F t ?_;rcases r with r|r
    .exact O t r
    exact bX t r
   exact Zr Z (Zo Q X N ab)
  have l:∀k ok,all[k]?=some ok->k≠i->(listed.setIfInBounds j true).getD k true=false->k∉B->s.apart all ok=true/\nW s0 s ok=true/\(∀t∈L,ok.dst≠some t)/\∀t∈nX ok.op,t∈L:=λk ok D J z M=>by
   refine c k ok D J ?_ M;by_cases m:j=k;.subst m;exact o
   rw[getD_set_ne true m]at z;exact z
  refine qp (λn ai=>ih (listed.setIfInBounds j true) n (λt r=>(ai.1 t r).trans (F t r)) (λk D=>by
   have m:j≠k:=by rintro rfl;exact p D
   rw[getD_set_ne true m];exact g k D) l (ready_mono w (xbZ b)) ?_) ae
  rw[Array.setIfInBounds_comm _ _ b];exact ai.2
end
structure V where
 name:ByteArray
 bool:Bool
 lo:Int
 ag:Int
def V.cells(v:V):lZ:=[aD v.name,aE v.bool,aa v.lo,aa v.ag]
def V.d(v:V):D:= .agg v.cells
def aO(l:List V):D:= .aw 4 (l.map V.cells)
def lh(n:Int):D:= .val (.int .u8 n)
def j3(n:Int):Prop:=-9223372036854775808<=n/\n<=9223372036854775807
def V.ok(v:V):Prop:=j3 v.lo/\j3 v.ag/\v.name.size<=9223372036854775807
def V.span(v:V):Int:=if v.bool then 2 else if v.lo>v.ag then 0 else if v.ag-v.lo<1073741824 then v.ag-v.lo+1 else 1073741825
def bitsOf(n:Int):Nat:=if n<=1 then 0 else Nat.log2 (n-1).toNat+1
def Zt{n:Int}{k:Nat}(ab:∀j:Nat,j<k->(2:Int)^j<n)(ae:n<=2^k):bitsOf n=k:=by
 unfold bitsOf;cases k with
 |zero=>simp at ae;simp[ae]
 |succ k=>
  have ai:=ab k oZ;have c:(0:Int)<2^k:=Int.pow_pos oZ;rw[xab oZ];have e:Nat.log2 (n-1).toNat=k:=by
   have a:(2:Nat)^k<=(n-1).toNat:=by
    have:((2^k:Nat):Int)=2^k:=sZ
    omega
   have b:(n-1).toNat<2^(k+1):=by
    have:((2^(k+1):Nat):Int)=2^(k+1):=sZ
    omega
   exact(Nat.log2_eq_iff (by have:=Nat.two_pow_pos k;omega)).2 ⟨a,b⟩
  omega
def N3{n:Int}(h:1<n):bitsOf n=bitsOf (n/2+n%2)+1:=by
 unfold bitsOf;rw[xab oZ];by_cases ae:n=2;.subst ae;decide
 rw[xab oZ];have e:(n/2+n%2-1).toNat=(n-1).toNat/2:=oZ
 rw[e];have ai:(n-1).toNat≠0:=oZ
 have c:(n-1).toNat/2≠0:=oZ
 obtain⟨a,b⟩:=(Nat.log2_eq_iff c).1 rfl;have:Nat.log2 (n-1).toNat=Nat.log2 ((n-1).toNat/2)+1:=by
  refine(Nat.log2_eq_iff ai).2 ⟨?_,?_⟩;.rw[Nat.pow_succ];omega
  rw[Nat.pow_succ];omega
 omega
def nY(c:Int):Bool:=(decide (c>=97)&&decide (c<=122))||(decide (c>=65)&&decide (c<=90))
def r2(c:Int):Bool:=decide (c>=48)&&decide (c<=57)
def jx(c:Int):Bool:=nY c||r2 c||(c==95)
def N4{lo ag:Int}(ab:j3 lo)(ae:j3 ag)(h:lo<=ag):IntKind.u64.wrap (IntKind.u64.wrap ag-IntKind.u64.wrap lo)=ag-lo:=by unfold j3 at ab ae;simp only[xcv];omega
def V.N5{v:V}(h:v.bool=true):v.span=2:=by simp[V.span,h]
def V.N6{v:V}(h:v.bool=false)(ab:v.lo>v.ag):v.span=0:=by simp[V.span,h,ab]
def V.H2{v:V}(h:v.bool=false)(ab:v.lo<=v.ag)(ae:v.ag-v.lo<1073741824):v.span=v.ag-v.lo+1:=by simp[V.span,h,ae];omega
def V.H3{v:V}(h:v.bool=false)(ab:v.lo<=v.ag)(ae:1073741824<=v.ag-v.lo):v.span=1073741825:=by simp[V.span,h];omega
def has(x:ByteArray)(l:List ByteArray):Bool:=l.any λy=>decide (y=x)
def idxOf(x:ByteArray)(l:List ByteArray):Int:=match l.findIdx? (λy=>decide (y=x))with|some i=>(i:Nat)|none=>-1
def N7{x:ByteArray}{l:List ByteArray}(h:∀j:Nat,j<l.length->l[j]?≠some x):idxOf x l=-1:=by
 unfold idxOf;have:l.findIdx? (λy=>decide (y=x))=none:=by rw[List.findIdx?_eq_none_iff];intro y b;obtain⟨j,a⟩:=xaJ.1 b;have ab:=h j (lV.1 a).1;rw[a]at ab;simpa using ab
 rw[this]
def N8{x:ByteArray}{l:List ByteArray}{i:Nat}(h:∀j:Nat,j<i->l[j]?≠some x)(ag:l[i]?=some x):idxOf x l=i:=by
 unfold idxOf;obtain⟨a,b⟩:=lV.1 ag;have:l.findIdx? (λy=>decide (y=x))=some i:=by rw[xbv];refine⟨a,by simpa using b,λj c=>?_⟩;have ab:=h j c;rw[xaa oZ]at ab;simpa using ab
 rw[this]
def N9(x:ByteArray)(l:List ByteArray):decide (idxOf x l>=0)=has x l:=by
 unfold idxOf has;cases h:l.findIdx? (λy=>decide (y=x))with
 |none=>
  rw[List.findIdx?_eq_none_iff]at h;have:l.any (λy=>decide (y=x))=false:=by rw[List.any_eq_false];intro y a;simpa using h y a
  rw[this];rfl
 |some i=>obtain⟨ab,ae,_⟩:=xbv.1 h;have:l.any (λy=>decide (y=x))=true:=xbz.2 ⟨_,xaW ab,ae⟩;rw[this];simp
def Oa{x:ByteArray}{l:List ByteArray}{i:Nat}(h:l[i]?=some x):has x l=true:=xbz.2 ⟨x,xad h,by simp⟩
def Ob{x:ByteArray}{l:List ByteArray}(h:∀j:Nat,j<l.length->l[j]?≠some x):has x l=false:=by unfold has;rw[List.any_eq_false];intro y b;obtain⟨j,a⟩:=xaJ.1 b;have ab:=h j (lV.1 a).1;rw[a]at ab;simpa using ab
def kQ(p:Int->Bool)(s:ByteArray)(i:Nat):Bool:=match s[i]? with|some b=>p b.toNat|none=>false
def kn(p:Int->Bool)(s:ByteArray):Nat:=((List.range (s.size+1)).find? λi=>!kQ p s i).getD 0
theorem Cn{s:ByteArray}{i:Nat}:s[i]?=if h:i<s.size then some s[i]else none:=rfl
def Zu{p:Int->Bool}{s:ByteArray}{i:Nat}(h:kQ p s i=true):i<s.size:=by
 unfold kQ at h;rw[Cn]at h;by_cases ab:i<s.size;.exact ab
 rw[dif_neg ab]at h;cases h
def words:List ByteArray:=[⟨#[65]⟩,⟨#[65,70]⟩,⟨#[65,71]⟩,⟨#[65,88]⟩,⟨#[69]⟩,⟨#[69,70]⟩,⟨#[69,71]⟩,⟨#[69,88]⟩,⟨#[85]⟩,⟨#[98,111,111,108]⟩,⟨#[100,101,102]⟩,⟨#[101,108,115,101]⟩,⟨#[102,97,105,114]⟩,⟨#[102,97,108,115,101]⟩,⟨#[105,102]⟩,⟨#[105,110,105,116]⟩,⟨#[105,110,118,97,114]⟩,⟨#[109,111,100]⟩,⟨#[110,101,120,116]⟩,⟨#[115,112,101,99]⟩,⟨#[116,104,101,110]⟩,⟨#[116,114,97,110,115]⟩,⟨#[116,114,117,101]⟩,⟨#[118,97,114]⟩]
def isName(s:ByteArray):Bool:=decide ((s.size:Int)>=1)&&decide ((s.size:Int)<=24)&&kQ nY s 0&&((kn jx s:Int)==(s.size:Int))&&!has s words
def Oc(s:ByteArray):(decide (s=⟨#[]⟩)=true/\decide ((s.size:Int)>=1)=false)\/∃b,decide (s=⟨#[]⟩)=false/\decide ((s.size:Int)>=1)=true/\s[0]?=some b:=by
 by_cases h:0<s.size
 .refine .inr ⟨s[0],?_,?_,?_⟩
  .have:s≠⟨#[]⟩:=by rintro rfl;exact absurd h dZ
   simpa using this
  .simp;omega
  rw[Cn,dif_pos h]
 refine .inl ⟨?_,?_⟩
 .have ak:s.size=0:=oZ
  have:s=⟨#[]⟩:=by
   cases s with|mk d=>
   congr 1
   exact xbp ak
  simpa using this
 simp;omega
def pe(v:V):Bool:=decide ((if v.ag>v.lo then v.ag else v.lo)>255)||decide ((if v.ag<v.lo then v.ag else v.lo)< -255)
def uk(seen:List V)(v:V):Int:=if !isName v.name then 12 else if has v.name (seen.map V.name)then 6 else if v.bool&&(v.lo !=0||v.ag !=0)then 3
 else if !v.bool&&(decide (v.lo>v.ag)||pe v||decide (IntKind.i64.wrap (v.ag-v.lo)>=64))then 2 else 0
def gF(l:List V)(i:Nat):Int:=match l[i]? with|some v=>uk (l.take i) v|none=>0
def hY(l:List V):Int×Int:=match(List.range l.length).find? (λi=>gF l i !=0)with|some i=>((i:Int),gF l i)|none=>(0,0)
def Od{l:List V}{i:Nat}{e:Int}(h:∀j:Nat,j<i->gF l j=0)(ag:i<l.length)(a:gF l i=e)(ak:e≠0):hY l=((i:Int),e):=by
 unfold hY;have:(List.range l.length).find? (λi=>gF l i !=0)=some i:=by rw[List.find?_range_eq_some];exact⟨by simpa[a]using ak,by simpa using ag,λj b=>by simp[h j b]⟩
 rw[this];simp[a]
def Oe{l:List V}(h:∀j:Nat,j<l.length->gF l j=0):hY l=(0,0):=by
 unfold hY;have:(List.range l.length).find? (λi=>gF l i !=0)=none:=by rw[List.find?_eq_none];intro j a;simp[h j (by simpa using a)]
 rw[this]
def Zv{v:V}(h:v.ok):(!v.bool&&(decide (v.lo>v.ag)||pe v||decide (IntKind.i64.wrap (v.ag-v.lo)>=64)))=(!v.bool&&(decide (v.lo>v.ag)||!(decide (v.lo>=-255)&&decide (v.lo<=255))||!(decide (v.ag>=-255)&&decide (v.ag<=255))||decide (v.span>64))):=by
 cases g:v.bool with
 |true=>rfl
 |false=>
  by_cases ab:v.lo>v.ag;.simp[ab]
  have a:v.lo<=v.ag:=oZ
  by_cases ae:-255<=v.lo/\v.ag<=255
  .have b:pe v=false:=by
    unfold pe;split<;>(try split)<;>simp<;>omega
   have c:(decide (v.lo>=-255)&&decide (v.lo<=255))=true:=uZ
   have d:(decide (v.ag>=-255)&&decide (v.ag<=255))=true:=uZ
   rw[V.H2 g a oZ,b,c,d,wrap64 _ oZ oZ];have e:decide (v.lo>v.ag)=false:=by simpa using a
   have f:decide (v.ag-v.lo>=64)=decide (v.ag-v.lo+1>64):=by rw[decide_eq_decide];omega
   rw[e,f];rfl
  have b:pe v=true:=by unfold pe;split<;>(try split)<;>simp<;>omega
  have c:(!(decide (v.lo>=-255)&&decide (v.lo<=255))||!(decide (v.ag>=-255)&&decide (v.ag<=255)))=true:=uZ
  rw[b];revert c;generalize decide (v.lo>v.ag)=p;generalize (decide (v.lo>=-255)&&decide (v.lo<=255))=q;generalize (decide (v.ag>=-255)&&decide (v.ag<=255))=r;cases p<;>cases q<;>cases r<;>simp
def Zw{l:List V}{x:ByteArray}{i:Nat}(h:∀j:Nat,j<i->(l.map V.name)[j]?≠some x):has x ((l.take i).map V.name)=false:=by refine Ob λj a=>?_;rw[List.map_take,xaQ];simp at a;rw[xac oZ];exact h j oZ
theorem Zx{l:List V}{w:V}{k i:Nat}(a:k<i)(b:l[k]?=some w):has w.name ((l.take i).map V.name)=true:=by refine Oa (i:=k) ?_;rw[List.map_take,xaQ,xac a,xag,b];rfl
end Go.Am
