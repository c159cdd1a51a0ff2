/- Steps, joins, and nil slices that become rows of our own. No condition. -/
import Derived.Test.YtjonbfbkkkcjgaaGreatDoorEngB
set_option linter.all false
set_option linter.unnecessarySimpa false
namespace Go.Am
section
variable{P:Program}{T:bC}{G:cj}{N:Nat}{σ:ar}{Q:Exit->ar->Prop}{all:Array Oper}
def NV(l:List Oper):∀(k:Nat)(σ:ar)(K:ar->Prop),(∀j,l[j]?=all[k+j]?)->dX P T G all l K σ->ud P T G all (List.range' k l.length) K σ:=by
 induction l with
 |nil=>intro k σ K _ h;exact h
 |cons o l ih=>
  intro k σ K ah h;have ak:all[k]?=some o:=by simpa using(ah 0).symm
  simp only[xal,List.range'_succ,ud,ak];refine xU (λb a=>ih (k+1) b K (λj=>by have:=ah (j+1);simpa[xbl,Nat.add_comm 1 j]using this) a) h
def YE(c:cU P T)(d:P.follows .mixedOrders=true){id:Nat}{ops:Array Oper}(b:qn N ops=true)(a:qm T ops (List.range ops.size) (Array.replicate ops.size false)=true) (h:dX P T G ops ops.toList (Q .normal) σ):ff P T G N (.region id ops true) σ Q:=by refine Yv c d b (List.range ops.size) sZ a ?_;rw[List.range_eq_range'];have:=NV (P:=P) (T:=T) (G:=G) (all:=ops) ops.toList 0 σ (Q .normal) (λj=>by simp) h;simpa using this
end
section
variable{P:Program}{T:bC}{G:cj}{N:Nat}{σ anF:ar}{Q:Exit->ar->Prop}{id:Nat}{ops:Array Oper}
end
def wrap64(x:Int)(ab:-9223372036854775808<=x)(ad:x<=9223372036854775807):IntKind.i64.wrap x=x:=by rw[IntKind.wrap_i64];omega
def le_of_eq{a b:D}(h:a=b):a.le b:=h▸D.le_refl a
def Fin(T:bC)(b:List ResultVar)(R:D->Prop)(e:Exit)(a:ar):Prop:=(e= .normal\/e= .ret)/\∃r d x,mF T a b=some r/\toD a.objs r=some d/\d.le x/\R x
theorem getD_cons_zero{a:Type}(x:a)(l:List a)(d:a):(x::l).getD 0 d=x:=rfl
theorem getD_cons_succ{a:Type}(x:a)(l:List a)(n:Nat)(d:a):(x::l).getD (n+1) d=l.getD n d:=rfl
def NW{σ:ar}(K:Key)(n:Nat)(f:Nat->aB)(objs':bP)(Y:σ.objs K=none) (aj:∀t,f t=σ.au t\/σ.au t= .d (.val (.slice none 0 0))/\f t= .row K) (D:∀k o,objs' k=some o->k=K/\o= .row n []\/k≠K/\(σ.objs k=some o\/∃z i,σ.objs k=some (.box z)/\z[i]?=some (.d (.val (.slice none 0 0)))/\o= .box (z.set i (.row K)))) (N:∀k,σ.objs k≠none->objs' k≠none) (H:objs' K=some (.row n [])) (B:∀k,dp (σ.objs k)->dp (objs' k)):eZ σ ⟨f,objs'⟩:=by
 intro m fr ρ a w h;have C:∀k,σ.used k->k≠K:=by rintro k ⟨o,l⟩ rfl;rw[Y]at l;cases l
 have P:∀k,σ.used k->ar.used ⟨f,objs'⟩ k/\bL ρ K (.slice none 0 0) k=ρ k:=λk l=>
  ⟨by
   cases a1:objs' k with
   |none=>exact absurd a1 (N k (by obtain⟨o,e⟩:=l;rw[e];simp))
   |some o=>exact⟨o,a1⟩,b9 _ _ (C k l)⟩
 have I:ar.used ⟨f,objs'⟩ K:=⟨_,H⟩;have q:bL ρ K (.slice none 0 0) K= .slice none 0 0:=by simp[bL]
 have y:bA m (bL ρ K (.slice none 0 0)) (ar.used ⟨f,objs'⟩) (.row K) (.slice none 0 0):=by have:=bA.row (m:=m) (ρ:=bL ρ K (.slice none 0 0)) (U:=ar.used ⟨f,objs'⟩) K I;rw[q]at this;exact this
 refine⟨m,bL ρ K (.slice none 0 0),Mem.le_refl m,⟨h.mem,h.frame,h.apart,?_,?_,?_,?_,?_⟩,?_⟩
 .rintro k ⟨o,l⟩;rcases D k o l with⟨rfl,rfl⟩|⟨ab,ad⟩;.rw[q];rfl
  rw[b9 _ _ ab];rcases ad with ad|⟨z,i,ad,_,_⟩
  .exact h.one k ⟨_,ad⟩
  exact h.one k ⟨_,ad⟩
 .intro t;rcases aj t with e|⟨E,F⟩
  .show bA m _ _ (f t) _;rw[e];exact(h.au t).mono (Mem.le_refl m) P
  show bA m _ _ (f t) _;rw[F];have:=h.au t;rw[E]at this;rw[this.ft];exact y
 .intro k o l;rcases D k o l with⟨rfl,rfl⟩|⟨ab,ad⟩
  .rw[q];exact .inl ⟨rfl,rfl⟩
  rw[b9 _ _ ab];rcases ad with ad|⟨z,i,ad,ai,rfl⟩
  .exact(h.objs k o ad).mono (Mem.le_refl m) P (λ_ _ _=>rfl)
  obtain⟨b,vs,T,E,F,X,V⟩:=(h.objs k _ ad).mono (Mem.le_refl m) P (λ_ _ _=>rfl);refine⟨b,vs,T,E,F,by simpa using X,?_⟩;intro j c x u W;rw[List.getElem?_set]at u;split at u
  .rename_i J;subst J;split at u;.cases u;have:=V i _ x ai W;rw[this.ft];exact y
   cases u
  exact V j c x u W
 .intro k o b l O s;rcases D k o l with⟨rfl,rfl⟩|⟨ab,ad⟩
  .have g:blockOf (bL ρ k (.slice none 0 0) k)=some b:=s;rw[q]at g;cases g
  have g:blockOf (bL ρ K (.slice none 0 0) k)=some b:=s;rw[b9 _ _ ab]at g;rcases ad with ad|⟨z,i,ad,_,rfl⟩
  .exact h.own k o b ad O g
  exact h.own k _ b ad rfl g
 .intro k Q o o' b M l L Z bX s;rcases D k o l with⟨rfl,rfl⟩|⟨ab,ad⟩
  .have g:blockOf (bL ρ k (.slice none 0 0) k)=some b:=s;rw[q]at g;cases g
  rw[b9 _ _ ab]at s;rcases D Q o' L with⟨rfl,rfl⟩|⟨G,r⟩
  .rw[q];intro a1;cases a1
  rw[b9 _ _ G];have hold:∃p,σ.objs k=some p/\p.owns=true:=by
   rcases ad with ad|⟨z,i,ad,_,rfl⟩;.exact⟨_,ad,Z⟩
   exact⟨_,ad,rfl⟩
  have A:∃p,σ.objs Q=some p/\p.owns=true:=by
   rcases r with r|⟨z,i,r,_,rfl⟩;.exact⟨_,r,bX⟩
   exact⟨_,r,rfl⟩
  obtain⟨p,b3,b1⟩:=hold;obtain⟨b4,R,S⟩:=A;exact h.sep k Q p b4 b M b3 R b1 S s
 intro k l s;refine⟨B k s,b9 _ _ ?_⟩;obtain⟨c,u⟩:=tY s;exact C k ⟨_,u⟩
def YF{σ:ar}(t:Nat)(K:Key)(n:Nat)(e:σ.au t= .d (.val (.slice none 0 0)))(c:σ.objs K=none):eZ σ ⟨bL σ.au t (.row K),bL σ.objs K (some (.row n []))⟩:=by
 refine NW K n _ _ c ?_ ?_ ?_ (by simp[bL]) ?_
 .intro j;by_cases h:j=t;.subst h;exact .inr ⟨e,by simp[bL]⟩
  exact .inl (by simp[bL,h])
 .intro k o a;by_cases h:k=K;.subst h;simp[bL]at a;exact .inl ⟨rfl,a.symm⟩
  rw[b9 _ _ h]at a;exact .inr ⟨h,.inl a⟩
 .intro k a;by_cases h:k=K;.subst h;simp[bL]
  rw[b9 _ _ h];exact a
 intro k b;have h:k≠K:=by rintro rfl;rw[c]at b;exact o1 b
 rw[b9 _ _ h];exact b
def YG{σ:ar}(k:Key)(i:Nat)(K:Key)(n:Nat){b:List aB}(f:σ.objs k=some (.box b))(ag:b[i]?=some (.d (.val (.slice none 0 0))))(c:σ.objs K=none):eZ σ ⟨σ.au,bL (bL σ.objs k (some (.box (b.set i (.row K))))) K (some (.row n []))⟩:=by
 have g:k≠K:=by rintro rfl;rw[c]at f;cases f
 refine NW K n _ _ c (λ_=> .inl rfl) ?_ ?_ (by simp[bL]) ?_
 .intro j o a;by_cases h:j=K;.subst h;simp[bL]at a;exact .inl ⟨rfl,a.symm⟩
  rw[b9 _ _ h]at a;by_cases ad:j=k;.subst ad;simp[bL]at a;exact .inr ⟨h,.inr ⟨b,i,f,ag,a.symm⟩⟩
  rw[b9 _ _ ad]at a;exact .inr ⟨h,.inl a⟩
 .intro j a;by_cases h:j=K;.subst h;simp[bL]
  rw[b9 _ _ h];by_cases ad:j=k;.subst ad;simp[bL]
  rw[b9 _ _ ad];exact a
 intro j e;have h:j≠K:=by rintro rfl;rw[c]at e;exact o1 e
 rw[b9 _ _ h];by_cases ad:j=k;.subst ad;rw[dv];exact oW
 rw[b9 _ _ ad];exact e
def YH{σ:ar}(t:Nat)(K:Key)(n:Nat){es:mW}(f:σ.au t= .row K)(e:σ.objs K=some (.row n es)):eZ σ ⟨bL σ.au t (.sub K n 0 es.length),σ.objs⟩:=by
 intro m fr ρ a w h;refine⟨m,ρ,Mem.le_refl m,⟨h.mem,h.frame,h.apart,h.one,?_,h.objs,h.own,h.sep⟩,h6.refl _ _⟩;intro s;by_cases aj:s=t
 .subst aj;have ab:=h.au s;rw[f]at ab;show bA m _ _ (bL σ.au s _ s) _;rw[dv];generalize a.tmps.getD s undef=v at*;cases ab with|row _ hu=>
  rcases h.objs _ _ e with⟨c,d⟩|⟨b,o,cap,vs,g,c,d,i,j,k,l⟩;.rw[c,d];exact .hf K n 0 hu c
  rw[c];exact bA.sub (m:=m) (ρ:=ρ) (U:=σ.used) K n 0 es.length b o es.length cap o hu c oZ ⟨λ_=>by simp,by omega⟩
 show bA m _ _ (bL σ.au t _ s) _;rw[b9 _ _ aj];exact h.au s
def YI{T:bC}{ev:Operand->aB}{objs:bP}{d:Key}{o:Op}{r:aB}{i:List (Key×b5)}(h:c6 T ev objs d o=some (r,i))(n:∀t a x,o≠ .store t a x):∀j c,objs j=some (.box c)->cD objs i j=some (.box c):=by
 have f:∀{objs:bP}{k:Key}{o:b5},(∀c,objs k≠some (.box c))->∀j c,objs j=some (.box c)->bL objs k (some o) j=some (.box c):=by
  intro objs k o m j c l;have:j≠k:=by rintro rfl;exact m c l
  rw[b9 _ _ this];exact l
 have new:∀{o:b5},objs d=none->∀j c,objs j=some (.box c)->cD objs [(d,o)] j=some (.box c):=by intro o p;exact f (by intro c b;rw[p]at b;cases b)
 have same:∀{k:Key}{o0 o:b5},objs k=some o0->(∀c,o0≠ .box c)->∀j c,objs j=some (.box c)->cD objs [(k,o)] j=some (.box c):=by intro k o0 o m e;exact f (by intro c b;rw[m]at b;cases b;exact e c rfl)
 cases o<;>simp only[c6,reduceCtorEq]at h
 case alloc=>split at h<;>cases h;exact new aZ
 case box=>split at h<;>cases h;exact new aZ
 case buildSlice=>
  split at h
  case h_2=>cases h
  split at h
  case h_2=>cases h
  split at h
  case h_2=>cases h
  split at h<;>cases h;exact new aZ
 case makeSlice=>
  split at h
  case h_2=>cases h
  split at h
  case h_2=>cases h
  split at h
  case h_2=>cases h
  split at h<;>cases h;exact new aZ
 case makeMap=>split at h<;>cases h;exact new aZ
 case store=>exact absurd rfl (n _ _ _)
 case mapUpdate=>
  split at h
  case h_2=>cases h
  split at h
  case h_2=>cases h
  split at h
  case isFalse=>cases h
  split at h
  case h_2=>cases h
  split at h
  case h_2=>cases h
  split at h<;>cases h;exact same aZ (by intro c b;cases b)
 case insert=>
  split at h
  case h_2=>cases h
  split at h
  case h_2=>cases h
  split at h
  case isFalse=>cases h
  split at h
  case h_2=>cases h
  split at h
  case h_2=>cases h
  split at h<;>cases h;exact same aZ (by intro c b;cases b)
 case call=>
  split at h
  .split at h
   case h_2=>cases h
   split at h
   case h_2=>cases h
   split at h
   case h_2=>cases h
   split at h
   case h_2=>cases h
   split at h
   case isFalse=>cases h
   split at h;.split at h<;>cases h;exact new aZ
   .split at h
    case h_2=>cases h
    split at h<;>cases h;rename_i p _ _ _ _ _ _ _ _ _ _ _ _ m _ _;have g:=same (o:= .dead) aZ (by intro c b;cases b);intro j bK l;have ab:=g j bK l;refine f ?_ j bK ab;intro c s;have e:∀key x,objs key=some x->d≠key:=by
     rintro key x q rfl;have ak:objs d=none:=aZ
     rw[ak]at q;cases q
    rw[b9 _ _ (e _ _ aZ)]at s;clear f new same g ab e
    simp_all
   cases h
  .split at h
   case h_2=>cases h
   split at h
   case h_2=>cases h
   split at h
   case h_2=>cases h
   split at h
   case h_2=>cases h
   split at h
   case isFalse=>cases h
   split at h
   .split at h
    case h_2=>cases h
    split at h<;>cases h;exact same aZ (by intro c b;cases b)
   .split at h
    case h_2=>cases h
    split at h<;>cases h;exact same aZ (by intro c b;cases b)
   cases h
  .split at h
   case h_2=>cases h
   split at h
   case h_2=>cases h
   split at h
   case h_2=>cases h
   split at h
   case h_2=>cases h
   split at h
   case h_2=>cases h
   split at h<;>cases h;exact same aZ (by intro c b;cases b)
  cases h
def YJ{T:bC}{ev:Operand->aB}{objs:bP}{d:Key}{o:Op}{r:aB}{f:List (Key×b5)}(h:e4 T ev objs d o=some (r,f))(l:∀t a x,o≠ .store t a x):∀j c,objs j=some (.box c)->cD objs f j=some (.box c):=by
 obtain⟨⟨q,g⟩,ak,i⟩:=qe h;have ab:=YI ak l;intro j c k;have ad:=ab j c k;rcases rS (T.born d) d q g with e|⟨n,es,rfl,rfl,e⟩|⟨u,n,es,rfl,rfl,e⟩|⟨off,cs,s,rfl,rfl,m,e⟩
 .rw[i]at e;cases e;exact ad
 .rw[i]at e;cases e;by_cases b:j=d;.subst b;simp only[cD,dv]at ad;cases ad
  simp only[cD,b9 _ _ b]at ad⊢;exact ad
 .rw[i]at e;cases e;by_cases b:j=d;.subst b;simp only[cD,dv]at ad;cases ad
  simp only[cD,b9 _ _ b]at ad⊢;exact ad
 rw[i]at e;cases e;have p:objs d=none:=Nw ak;by_cases b:j=d
 .subst b;rw[p]at k;cases k
 simp only[cD,b9 _ _ b];exact k
section
variable{P:Program}{T:bC}{G:cj}{all:Array Oper}
def YK{y:Oper}{σ:ar}{K K':ar->Prop}(e:∀t a x,y.op≠ .store t a x)(f:∀objs r,(∀j c,σ.objs j=some (.box c)->objs j=some (.box c))->K (ar.put ⟨σ.au,objs⟩ y.dst r)->K' (ar.put ⟨σ.au,objs⟩ y.dst r)) (h:cn P T G y K σ):cn P T G y K' σ:=by
 unfold cn at*;rw[qj]at*;cases b:res T G σ y with
 |none=>simp only[b,xbE]at h⊢;exact xT h λr b=>f σ.objs r (λ_ _ h=>h) b
 |some p=>
  simp only[b,xaI]at h⊢;refine f _ _ ?_ h;intro j c d;obtain⟨r,g⟩:=p;unfold res at b;split at b;.cases b;exact d
  split at b;.cases b;exact d
  exact YJ b e j c d
def NX{t a k off:Nat}{σ:ar}{x:Oper}(g:x.op= .load t (.tmp a))(aj:σ.au a= .ptr k off){K:ar->Prop}(h:cn P T G x K σ): ∃r,K (σ.put x.dst r)/\∀objs,(∀j c,σ.objs j=some (.box c)->objs j=some (.box c))->res T G ⟨σ.au,objs⟩ x=some (r,[]):=by
 unfold cn at h;rw[qj]at h;cases b:res T G σ x with
 |none=>simp only[b,xbE]at h;unfold gQ at h;rw[g]at h;exact h.elim
 |some p=>
  simp only[b,xaI]at h;obtain⟨r,m⟩:=p;unfold res at b;rw[g]at b;simp only[dh,cM,bD,aj,e4,c6,xbE]at b;cases e:T t with
  |none=>simp[e]at b
  |some i=>
   simp only[e]at b;cases d:σ.objs k with
   |none=>simp[d]at b
   |some o=>
    cases o with
    |box cells=>simp only[d]at b;cases f:qa i cells off with|none=>simp[f]at b|some q=>simp only[f,xaE,Prod.mk.injEq]at b;obtain⟨rfl,rfl⟩:=b;refine⟨q,h,λobjs l=>?_⟩;unfold res;rw[g];simp only[dh,cM,bD,aj,e,l k cells d,f]
    |dead=>simp[d]at b|row=>simp[d]at b|map=>simp[d]at b
def NY{x y:Oper}{σ:ar}{K:ar->Prop}{t a k off:Nat}(p:x.op= .load t (.tmp a))(s:x.guard=none)(aj:σ.au a= .ptr k off)(l:∀t a x,y.op≠ .store t a x)(i:x.apart all y=true) (h:c9 P T G all x (λu=>c9 P T G all y K u) σ):c9 P T G all y (λw=>c9 P T G all x K w) σ:=by
 obtain⟨aG,a2,a3⟩:=Oper.apart_spec i;have f:∀d,y.dst=some d->x.dst≠some d:=λd z p=>a2 d p z;have n:∀(K:ar->Prop) σ,c9 P T G all x K σ=cn P T G x K σ:=λK σ=>by unfold c9;simp only[s]
 simp only[n]at h⊢;obtain⟨r,ab,ad⟩:=NX p aj h;have g:∀(K:ar->Prop) objs,(∀j c,σ.objs j=some (.box c)->objs j=some (.box c))->cn P T G x K ⟨σ.au,objs⟩=K (ar.put ⟨σ.au,objs⟩ x.dst r):=λK objs m=>jd (ad objs m);rw[fv,kJ aG]at ab;rw[fv];split at ab
 .rename_i o
  try simp only[o]
  rw[gR aG a2]at ab;refine YK l (λobjs q m A=>?_) ab;rw[gR a3 f,g _ _ m,put_comm a2];exact A
 .rename_i o
  try simp only[o]
  show cn P T G x K (σ.put y.dst _);rw[gR a3 f];have:=g (λb=>K (b.put y.dst (.d (.val (.tuple #[]))))) σ.objs (λ_ _ h=>h);have e:cn P T G x (λb=>K (b.put y.dst (.d (.val (.tuple #[]))))) σ=K ((σ.put x.dst r).put y.dst (.d (.val (.tuple #[])))):=this;rw[e];exact ab
 exact ab.elim
def YL{y:Oper}{σ:ar}{K:ar->Prop}{a:Nat}(f:y.dst≠some a)(h:c9 P T G all y K σ):c9 P T G all y (λb=>b.au a=σ.au a/\K b) σ:=by
 have e:∀(objs:bP)(r:aB),(ar.put ⟨σ.au,objs⟩ y.dst r).au a=σ.au a:=λobjs r=>by
  cases i:y.dst with
  |none=>rfl
  |some d=>
   have:a≠d:=by rintro rfl;exact f i
   simp only[ar.put,b9 _ _ this]
 rw[fv]at h⊢;split at h
 .rename_i c
  try simp only[c]
  exact qk (λobjs r g=>⟨e objs r,g⟩) h
 .rename_i c
  try simp only[c]
  exact⟨e σ.objs _,h⟩
 exact h.elim
def NZ{K:ar->Prop}{i:Nat}{A:Oper}{t a k off:Nat}(ag:all[i]?=some A)(O:A.op= .load t (.tmp a))(z:A.guard=none){B:lX}(U:∀j g,j∈B->all[j]?=some g->∃e∈g.after,Region.binds .any e=true/\(e.on=i\/e.on∈B)):∀(fuel:Nat)(listed:Array Bool)(σ:ar),σ.au a= .ptr k off->(∀j,j∈B->listed.getD j true=false)->(∀j g,all[j]?=some g->j≠i->listed.getD j true=false->j∉B->A.apart all g=true/\∀t a x,g.op≠ .store t a x)->i∈Region.ready .any all listed->fm P T G all i (gg P T G all K fuel (listed.setIfInBounds i true)) σ->gg P T G all K (fuel+1) listed σ:=by
 intro fuel
 induction fuel with
 |zero=>
  intro listed σ D f c u H;refine⟨λh=>(by rw[h]at u;cases u),λj E=>?_⟩;by_cases b:j=i;.subst b;exact H
  have R:=ready_mono E b;exfalso;have key:Region.ready .any all (listed.setIfInBounds i true)=[]:=by unfold fm at H;simp only[ag]at H;unfold c9 at H;simp only[z]at H;obtain⟨r,ab,_⟩:=NX O D H;exact ab.1
  rw[key]at R;cases R
 |succ fuel ih=>
  intro listed σ D f c u H;refine⟨λh=>(by rw[h]at u;cases u),λj E=>?_⟩;by_cases b:j=i;.subst b;exact H
  obtain⟨o,g,s,w⟩:=xbW.1 E;have q:∀k,listed.getD k true=false->listed[k]?.getD false=true->False:=λk ak ab=>by
   rcases xbd k listed.size with I|I;.simp[I]at ak ab;rw[ak]at ab;cases ab
   simp[Array.getElem?_eq_none I]at ab
  have p:j∉B:=λL=>by
   obtain⟨e,X,V,d⟩:=U j g L s;have ab:=w e X V;rcases d with d|d
   .rw[d]at ab;exact q i (xbW.1 u).1 (by simpa using ab)
   exact q _ (f _ d) (by simpa using ab)
  obtain⟨S,Y⟩:=c j g s b o p;have ab:fm P T G all i (λC=>fm P T G all j (gg P T G all K fuel ((listed.setIfInBounds i true).setIfInBounds j true)) C) σ:=ql (λC Q=>Q.2 j (ready_mono E b)) H;have J:g.dst≠some a:=λW=>by obtain⟨_,_,a3⟩:=Oper.apart_spec S;refine a3 a W ?_;unfold Oper.looksAt;rw[O];simp[Op.operands]
  have ad:fm P T G all j (λn=>n.au a=σ.au a/\fm P T G all i (gg P T G all K fuel ((listed.setIfInBounds i true).setIfInBounds j true)) n) σ:=by unfold fm at ab⊢;simp only[ag,s]at ab⊢;exact YL J (NY O z D Y S ab)
  have l:∀k ok,all[k]?=some ok->k≠i->(listed.setIfInBounds j true).getD k true=false->k∉B->A.apart all ok=true/\∀t a x,ok.op≠ .store t a x:=λk ok F M y N=>by
   refine c k ok F M ?_ N;by_cases m:j=k;.subst m;exact o
   rw[getD_set_ne true m]at y;exact y
  refine ql (λn ai=>ih (listed.setIfInBounds j true) n (ai.1.trans D) (λk F=>by
   have m:j≠k:=by rintro rfl;exact p F
   rw[getD_set_ne true m];exact f k F) l (ready_mono u (xbZ b)) ?_) ad
  rw[Array.setIfInBounds_comm _ _ b];exact ai.2
end
section
variable{P:Program}{T:bC}{G:cj}{all:Array Oper}
def ui:aB->Option Key
 | .ptr k _=>some k| .eB k _ _ _=>some k|_=>none
def keyOf(au:Nat->aB):Operand->Option Key
 | .tmp a=>ui (au a)|_=>none
theorem HY{au:Nat->aB}(x:Operand):ui (bD G au x)=keyOf au x:=by cases x with|tmp a=>rfl|const v=>rfl|func f=>rfl|global g=>simp only[bD,keyOf];split<;>rfl
def o5(au:Nat->aB):Operand->Bool
 | .tmp a=>match au a with| .d _=>true|_=>false
 | .const _=>true|_=>false
def o6(au:Nat->aB)(k:Key):Op->Bool
 | .store _ a _=>match keyOf au a with|some b=>b !=k|none=>false
 |_=>false
def Cj:Op->Bool
 | .store _ _ _=>true|_=>false
def x0(au:Nat->aB):Operand->Bool
 | .tmp a=>match au a with| .ptr _ _=>true|_=>false
 |_=>false
def YM:aB->Bool
 | .d _=>true| .cH _ _=>true|_=>false
def lU(au:Nat->aB):Operand->Bool
 | .tmp a=>YM (au a)|_=>false
def o7(au:Nat->aB):Op->Bool
 | .load _ a=>lU au a| .indexAddr _ x _=>lU au x| .lookup _ m _ _=>lU au m| .slice _ x _ _ none=>lU au x| .call ⟨.builtin .len,args,_⟩=>args.toList.all (lU au)|_=>false
def nS(au:Nat->aB)(x y:Oper):Bool:=pass x y||o7 au x.op||match x.op with
 | .binOp _ _ a b _=>o5 au a&&o5 au b| .load _ a=>match keyOf au a with|some k=>(x0 au a&&!Cj y.op)||gp y.op||gI y.op||fl y.op||o6 au k y.op|none=>false
 | .indexAddr _ _ _=>gp y.op||gI y.op||fl y.op||Cj y.op| .store _ a _=>match keyOf au a with|some k=>o6 au k y.op|none=>false
 |_=>false
def HZ(k:Key)(o o':bP):Prop:=o' k=o k
def uj(o o':bP):Prop:=∀k n es,o k=some (.row n es)->∃a,o' k=some (.row n a)/\a.length=es.length
def YN{y:Oper}{σ:ar}{K K':ar->Prop}{R:bP->Prop}(ak:R σ.objs)(d:∀r a,res T G σ y=some (r,a)->R (cD σ.objs a))(c:∀objs r,R objs->K (ar.put ⟨σ.au,objs⟩ y.dst r)->K' (ar.put ⟨σ.au,objs⟩ y.dst r)) (h:cn P T G y K σ):cn P T G y K' σ:=by unfold cn at*;rw[qj]at*;cases b:res T G σ y with|none=>simp only[b,xbE]at h⊢;exact xT h λr b=>c σ.objs r ak b|some p=>simp only[b,xaI]at h⊢;obtain⟨r,a⟩:=p;exact c _ _ (d r a b) h
def N1{σ:ar}{y:Oper}(h:(gp y.op||gI y.op||fl y.op)=true){r:aB}{b:List (Key×b5)}(a:res T G σ y=some (r,b)):b=[]:=by
 unfold res at a;split at a;.cases a;rfl
 split at a;.cases a;rfl
 simp only[xbk]at h;rcases h with(h|h)|h
 .rw[(ua h).2]at a;cases a
 .rw[ub h]at a;cases a
 rw[(HQ (T:=T) (ev:=bD G σ.au) (objs:=σ.objs) (d:=y.dst.getD 9999) h).2.2]at a;cases a
def H0{σ:ar}{y:Oper}{t:TypeId}{a x:Operand}(j:y.op= .store t a x){r:aB}{e:List (Key×b5)}(b:res T G σ y=some (r,e)): ∃k o o',keyOf σ.au a=some k/\e=[(k,o')]/\σ.objs k=some o/\((∃c h,o= .box c/\o'= .box h)\/∃n es d,o= .row n es/\o'= .row n d/\d.length=es.length):=by
 rw[<-HY (G:=G)];unfold res at b;rw[j]at b;simp only[dh,cM,Np,c6]at b;split at b
 case h_2=>cases b
 split at b
 case isFalse=>cases b
 split at b
 .rename_i k off f;split at b
  case h_2=>cases b
  rename_i cells g;split at b<;>cases b;exact⟨k,_,_,by rw[f];rfl,rfl,g,.inl ⟨_,_,rfl,rfl⟩⟩
 .rename_i k l cN off f;split at b
  case h_2=>cases b
  rename_i q es m g p;split at b
  case isFalse=>cases b
  rename_i i;split at b<;>cases b;exact⟨k,_,_,by rw[f];rfl,rfl,g,.inr ⟨l,es,_,by rw[i.1],rfl,by simp⟩⟩
 cases b
def x2{objs:bP}{k:Key}{o:b5}(j:Key):cD objs [(k,o)] j=if j=k then some o else objs j:=by
 by_cases h:j=k;.subst h;simp[cD,dv]
 simp[cD,b9 _ _ h,h]
def YO{σ:ar}{y:Oper}{k:Key}(h:(gp y.op||gI y.op||fl y.op||o6 σ.au k y.op)=true){r:aB}{b:List (Key×b5)}(c:res T G σ y=some (r,b)):HZ k σ.objs (cD σ.objs b):=by
 rcases xbx.1 h with h|h;.rw[N1 h c];rfl
 unfold o6 at h;split at h
 case h_2=>cases h
 rename_i t a x d;obtain⟨f,o,o',ab,rfl,ad,_⟩:=H0 d c;rw[ab]at h;simp only[bne_iff_ne,ne_eq]at h;show cD σ.objs [(f,o')] k=σ.objs k;rw[x2,xab (λe=>h e.symm)]
theorem uj.refl(o:bP):uj o o:=λk n es h=>⟨es,h,rfl⟩
def YP{σ:ar}{y:Oper}(h:(gp y.op||gI y.op||fl y.op||Cj y.op)=true){r:aB}{b:List (Key×b5)}(g:res T G σ y=some (r,b)):uj σ.objs (cD σ.objs b):=by
 rcases xbx.1 h with h|h;.rw[N1 h g];exact uj.refl _
 unfold Cj at h;split at h
 case h_2=>cases h
 rename_i t a x j;obtain⟨l,o,o',ab,rfl,ad,ai⟩:=H0 j g;intro k n es d;rw[x2];by_cases e:k=l
 .subst e;rw[xac rfl];rw[ad]at d;rcases ai with⟨c,p,rfl,rfl⟩|⟨m,i,f,rfl,rfl,ah⟩
  .cases d
  cases d;exact⟨f,rfl,ah⟩
 rw[xab e];exact⟨es,d,rfl⟩
def Looks(T:bC)(G:cj)(x:Oper)(au:Nat->aB)(o:bP)(R:bP->Prop):Prop:=∀r a,res T G ⟨au,o⟩ x=some (r,a)->a=[]/\∀o',R o'->res T G ⟨au,o'⟩ x=some (r,[])
def Ck{x y:Oper}{σ:ar}{K:ar->Prop}{R:bP->Prop}(n:x.guard=none)(m:fl x.op=false)(i:x.apart all y=true)(ah:Looks T G x σ.au σ.objs R)(ak:R σ.objs)(u:∀r a,res T G σ y=some (r,a)->R (cD σ.objs a)) (h:c9 P T G all x (λo=>c9 P T G all y K o) σ):c9 P T G all y (λs=>c9 P T G all x K s) σ:=by
 obtain⟨aG,a2,a3⟩:=Oper.apart_spec i;have f:∀d,y.dst=some d->x.dst≠some d:=λd w B=>a2 d B w;have k:∀(K:ar->Prop) σ,c9 P T G all x K σ=cn P T G x K σ:=λK σ=>by unfold c9;simp only[n]
 simp only[k]at h⊢;have b:res T G σ x≠none:=by intro A;rw[kh A]at h;have:=rU h;rw[m]at this;cases this
 obtain⟨p,t⟩:=Option.ne_none_iff_exists'.1 b;obtain⟨r,a⟩:=p;obtain⟨rfl,ad⟩:=ah r a t;have ab:c9 P T G all y K (σ.put x.dst r):=by rw[jd t]at h;exact h
 have g:∀(K:ar->Prop) objs,R objs->cn P T G x K ⟨σ.au,objs⟩=K (ar.put ⟨σ.au,objs⟩ x.dst r):=λK objs j=>jd (ad objs j);rw[fv,kJ aG]at ab;rw[fv];split at ab
 .rename_i l
  try simp only[l]
  rw[gR aG a2]at ab;refine YN ak u (λobjs q j z=>?_) ab;rw[gR a3 f,g _ _ j,put_comm a2];exact z
 .rename_i l
  try simp only[l]
  show cn P T G x K (σ.put y.dst _);rw[gR a3 f];have e:cn P T G x (λc=>K (c.put y.dst (.d (.val (.tuple #[]))))) σ=K ((σ.put x.dst r).put y.dst (.d (.val (.tuple #[])))):=g (λc=>K (c.put y.dst (.d (.val (.tuple #[]))))) σ.objs ak;rw[e];exact ab
 exact ab.elim
def N2{au:Nat->aB}{x:Operand}(h:o5 au x=true):∃d,bD G au x= .d d:=by
 unfold o5 at h;split at h
 .split at h;.rename_i d a;exact⟨d,a⟩
  cases h
 .exact⟨_,rfl⟩
 cases h
def YQ(o o':bP)(x:D):jt o (.d x)=jt o' (.d x):=by
 unfold jt;split<;>first|rfl|(rename_i h;cases h)|skip
 all_goals rfl
def x3{au:Nat->aB}{x:Operand}(h:lU au x=true):(∃d,bD G au x= .d d)\/∃cs off,bD G au x= .cH cs off:=by
 cases x with
 |tmp a=>simp only[lU]at h;show(∃d,au a= .d d)\/∃cs off,au a= .cH cs off;generalize au a=v at h;cases v<;>first|exact .inl ⟨_,rfl⟩|exact .inr ⟨_,_,rfl⟩|cases h
 |_=>cases h
def N3(o o':bP)(x:D):hy o (.d x)=hy o' (.d x):=by
 unfold hy;split<;>first|rfl|(rename_i h;cases h)|skip
 all_goals rfl
theorem YR(o o':bP)(cs:lZ)(off:Nat):hy o (.cH cs off)=hy o' (.cH cs off):=rfl
def YS{au:Nat->aB}{op:Op}(h:o7 au op=true)(o o':bP):cM T (bD G au) o op=cM T (bD G au) o' op:=by
 cases op<;>simp only[o7,xaq]at h
 case load t a=>rcases x3 (G:=G) h with⟨d,e⟩|⟨cs,off,e⟩<;>simp only[cM,e]
 case indexAddr t x i=>
  rcases x3 (G:=G) h with⟨d,e⟩|⟨cs,off,e⟩;.simp only[cM,e];cases d<;>rfl
  simp only[cM,e]
 case lookup t m k ok=>
  rcases x3 (G:=G) h with⟨d,e⟩|⟨cs,off,e⟩
  .simp only[cM,e];split
   .cases d<;>first|rfl|skip
    rename_i v;cases v<;>first|rfl|skip
    rename_i q;cases q<;>rfl
   rfl
  simp only[cM,e]
 case slice t x lo ag ed=>
  cases ed with
  |some _=>cases h
  |none=>
   simp only at h;rcases x3 (G:=G) h with⟨d,e⟩|⟨cs,off,e⟩
   .simp only[cM,e,N3 o o' d];cases d<;>rfl
   simp only[cM,e,YR o o' cs off]
 case call c=>
  obtain⟨callee,args,l⟩:=c;cases callee with
  |value=>rfl|invoke=>rfl
  |builtin b=>
   cases b<;>first|rfl|skip
   simp only at h;simp only[cM];split
   .rename_i t x n g;rw[g]at h;simp only[xbb,xcf,xbA]at h;rcases x3 (G:=G) h with⟨d,e⟩|⟨cs,off,e⟩
    .simp only[e];cases j:T t with
     |none=>rfl
     |some i=>
      obtain⟨f,s,b,z⟩:=i;cases f
      case map k q=>
       cases d
       case val v=>
        cases v
        case map r=>cases r<;>rfl
        all_goals rfl
       all_goals rfl
      case slice q=>simp only[N3 o o' d]
      case string=>
       cases d
       case val v=>cases v<;>rfl
       all_goals rfl
      all_goals rfl
    simp only[e];cases j:T t with|none=>rfl|some i=>obtain⟨f,s,b,z⟩:=i;cases f<;>rfl
   rfl
def N4{au:Nat->aB}{op:Op}(h:o7 au op=true):gI op=true:=by
 cases op<;>simp only[o7,xaq]at h<;>first|rfl|skip
 case call c=>
  obtain⟨callee,args,a⟩:=c;cases callee with
  |value=>cases h
  |invoke=>cases h
  |builtin b=>cases b<;>first|rfl|cases h
def YT{x:Oper}{au:Nat->aB}{o:bP}(h:o7 au x.op=true):Looks T G x au o (λ_=>True):=by
 intro r d a;have b:=N4 h;unfold res at a;split at a
 .rename_i u hu;cases a;refine⟨rfl,λo' _=>?_⟩;unfold res;simp only[hu]
 rename_i c;split at a;.rename_i u hu;cases a;refine⟨rfl,λo' _=>?_⟩;unfold res;simp only at hu;simp only[c,YS h o' o,hu]
 rw[ub b]at a;cases a
def YU{x:Oper}{op:BinOp}{t:TypeId}{a b:Operand}{q:TypeId}(f:x.op= .binOp op t a b q){au:Nat->aB}{o:bP}(i:o5 au a=true)(j:o5 au b=true):Looks T G x au o (λ_=>True):=by
 intro r l c;obtain⟨d1,g⟩:=N2 (G:=G) i;obtain⟨d2,h⟩:=N2 (G:=G) j;unfold res at c;rw[f]at c;cases e:dh T (bD G au) (.binOp op t a b q)with
 |some u=>rw[e]at c;cases c;refine⟨rfl,λo' _=>?_⟩;unfold res;rw[f,e]
 |none=>
  rw[e]at c;simp only at c;have k:∀o',cM T (bD G au) o' (.binOp op t a b q)=cM T (bD G au) o (.binOp op t a b q):=by intro o';simp only[cM,g,h,YQ o' o]
  cases d:cM T (bD G au) o (.binOp op t a b q)with
  |some u=>rw[d]at c;cases c;refine⟨rfl,λo' _=>?_⟩;unfold res;rw[f,e];simp only[k o',d]
  |none=>rw[d]at c;simp[e4,c6]at c
def YV{x:Oper}{t:TypeId}{a:Operand}{k:Key}(f:x.op= .load t a){au:Nat->aB}{o:bP}(g:keyOf au a=some k):Looks T G x au o (HZ k o):=by
 intro r i c;have d:ui (bD G au a)=some k:=by rw[HY];exact g
 unfold res at c;rw[f]at c;simp only[dh]at c;have h:∀o',o' k=o k->cM T (bD G au) o' (.load t a)=cM T (bD G au) o (.load t a):=by
  intro o' e;simp only[cM];generalize bD G au a=v at d⊢;cases v<;>simp only[ui,reduceCtorEq,xaE]at d;.subst d;simp only[e]
  subst d;simp only[e]
 cases b:cM T (bD G au) o (.load t a)with
 |some u=>rw[b]at c;cases c;refine⟨rfl,λo' e=>?_⟩;unfold res;rw[f];simp only[dh,h o' e,b]
 |none=>rw[b]at c;simp[e4,c6]at c
def YW{x:Oper}{t:TypeId}{a b:Operand}(f:x.op= .indexAddr t a b){au:Nat->aB}{o:bP}:Looks T G x au o (uj o):=by
 intro r m d;unfold res at d;rw[f]at d;simp only[dh]at d;cases c:cM T (bD G au) o (.indexAddr t a b)with
 |some u=>
  rw[c]at d;cases d;refine⟨rfl,λo' j=>?_⟩;have h:cM T (bD G au) o' (.indexAddr t a b)=some r:=by
   simp only[cM]at c⊢;split at c
   .split at c
    .split at c
     .rename_i i;rw[xac i];split at c<;>first|exact c|skip
      rename_i key n;cases e:o key with
      |none=>rw[e]at c;cases c
      |some l=>
       cases l with
       |row k es=>obtain⟨g,ab,ad⟩:=j key k es e;rw[e]at c;rw[ab];simp only[ad]at c⊢;exact c
       |dead=>rw[e]at c;cases c
       |box=>rw[e]at c;cases c
       |map=>rw[e]at c;cases c
     cases c
    cases c
   .exact c
   cases c
  unfold res;rw[f];simp only[dh,h]
 |none=>rw[c]at d;simp[e4,c6]at d
def YX{o:bP}{k c:Key}{a b:b5}(h:k≠c):cD (cD o [(k,a)]) [(c,b)]=cD (cD o [(c,b)]) [(k,a)]:=by
 funext j
 simp only[x2];by_cases ab:j=k<;>by_cases ad:j=c<;>simp_all
def N5{y:Oper}{t:TypeId}{a x:Operand}{k:Key}(e:y.op= .store t a x){au:Nat->aB}{o o':bP}(d:keyOf au a=some k)(c:o' k=o k):res T G ⟨au,o'⟩ y=res T G ⟨au,o⟩ y:=by
 have b:ui (bD G au a)=some k:=by rw[HY];exact d
 unfold res;rw[e];simp only[dh,cM,Np,c6];generalize bD G au a=v at b⊢;cases v<;>simp only[ui,reduceCtorEq,xaE]at b;.subst b;simp only[c]
 subst b;simp only[c]
def YY{x y:Oper}{σ:ar}{K:ar->Prop}{t t':TypeId}{a C v dQ:Operand}{k B:Key}(A:x.op= .store t a v)(Q:y.op= .store t' C dQ)(O:keyOf σ.au a=some k)(s:keyOf σ.au C=some B)(j:B≠k) (I:x.guard=none) (D:x.apart all y=true) (h:c9 P T G all x (λM=>c9 P T G all y K M) σ):c9 P T G all y (λN=>c9 P T G all x K N) σ:=by
 obtain⟨aG,a2,a3⟩:=Oper.apart_spec D;have n:∀d,y.dst=some d->x.dst≠some d:=λd V A=>a2 d A V;have F:∀(K:ar->Prop) σ,c9 P T G all x K σ=cn P T G x K σ:=λK σ=>by unfold c9;simp only[I]
 simp only[F]at h⊢;have b:∀{z:Oper}{tt:TypeId}{p q:Operand}{τ:ar}{K':ar->Prop},z.op= .store tt p q->cn P T G z K' τ->∃r bR f,res T G τ z=some (r,[(bR,f)])/\keyOf τ.au p=some bR/\K' (τ.step z.dst r [(bR,f)]):=by
  intro z tt p q τ K' R a1;cases E:res T G τ z with
  |none=>rw[kh E]at a1;have:=rU a1;rw[R]at this;cases this
  |some u=>obtain⟨r,b4⟩:=u;obtain⟨bR,o,f,L,rfl,_,_⟩:=H0 R E;exact⟨r,bR,f,rfl,L,by rw[jd E]at a1;exact a1⟩
 obtain⟨r,bR,f,L,S,bX⟩:=b A h;rw[O]at S;cases S;have c:c9 P T G all y K (ar.put ⟨σ.au,cD σ.objs [(k,f)]⟩ x.dst r):=bX;have g:∀(i:bP),i k=σ.objs k->∀K':ar->Prop,cn P T G x K' ⟨σ.au,i⟩=K' (ar.put ⟨σ.au,cD i [(k,f)]⟩ x.dst r):=by
  intro i W K';have:res T G ⟨σ.au,i⟩ x=some (r,[(k,f)]):=by rw[N5 A O W];exact L
  exact jd this
 rw[fv,kJ aG]at c;rw[fv];have l:hh all ⟨σ.au,cD σ.objs [(k,f)]⟩ y=hh all σ y:=rfl;rw[l]at c;split at c
 .rename_i H
  try simp only[H]
  rw[gR aG a2]at c;obtain⟨dk,cx,i,X,Y,Z⟩:=b Q c;have w:keyOf σ.au C=some cx:=Y;rw[s]at w;cases w;have J:res T G σ y=some (dk,[(B,i)]):=by rw[<-X];exact(N5 (T:=T) (G:=G) Q (o:=σ.objs) (o':=cD σ.objs [(k,f)]) s (by rw[x2,xab j])).symm
  rw[jd J];show cn P T G x K (ar.put ⟨σ.au,cD σ.objs [(B,i)]⟩ y.dst dk);rw[gR a3 n,g _ (by rw[x2,xab (λe=>j e.symm)]),put_comm a2,YX j];exact Z
 .rename_i H
  try simp only[H]
  show cn P T G x K (σ.put y.dst _);rw[gR a3 n];have e:=g σ.objs rfl (λm=>K (m.put y.dst (.d (.val (.tuple #[])))));have U:cn P T G x (λm=>K (m.put y.dst (.d (.val (.tuple #[]))))) σ=_:=e;rw[U];exact c
 exact c.elim
def YZ{x y:Oper}{σ:ar}{K:ar->Prop}(d:x.guard=none)(c:x.apart all y=true)(h:nS σ.au x y=true)(H:c9 P T G all x (λl=>c9 P T G all y K l) σ):c9 P T G all y (λf=>c9 P T G all x K f) σ:=by
 unfold nS at h;rcases xbx.1 h with h|h
 .rcases xbx.1 h with h|h;.exact swap c h H
  refine Ck d ?_ c (YT h) trivial (λ_ _ _=>trivial) H;cases o:fl x.op with|false=>rfl|true=>have:=xS o;rw[N4 h]at this;cases this.2.1
 split at h;.rename_i op t a b q e;rw[xam]at h;exact Ck d (by rw[e];rfl) c (YU e h.1 h.2) trivial (λ_ _ _=>trivial) H
 .rename_i t a e;split at h
  case h_2=>cases h
  rename_i k g;simp only[xbk]at h;have other:(gp y.op||gI y.op||fl y.op||o6 σ.au k y.op)=true->c9 P T G all y (λf=>c9 P T G all x K f) σ:=λn=>Ck d (by rw[e];rfl) c (YV e g) (rfl:HZ k σ.objs σ.objs) (λ_ _ j=>YO n j) H
  rcases h with(((h|h)|h)|h)|h
  .rw[xam]at h;obtain⟨ab,ad⟩:=h;unfold x0 at ab;split at ab
   case h_2=>cases ab
   rename_i a0;split at ab
   case h_2=>cases ab
   rename_i uk off aj;refine NY e d aj ?_ c H;intro t' m dQ p;rw[p]at ad;cases ad
  .exact other (by simp[h])
  .exact other (by simp[h])
  .exact other (by simp[h])
  exact other (by simp[h])
 .rename_i t a b e;exact Ck d (by rw[e];rfl) c (YW e) (uj.refl _) (λ_ _ j=>YP h j) H
 .rename_i t a v e;split at h
  case h_2=>cases h
  rename_i k g;unfold o6 at h;split at h
  case h_2=>cases h
  rename_i t' m dQ r;split at h
  case h_2=>cases h
  rename_i s i;exact YY e r g i (by simpa using h) d c H
 cases h
def jf:Op->List Tmp
 | .binOp _ _ a b _=>(match a with| .tmp t=>[t]|_=>[])++(match b with| .tmp t=>[t]|_=>[])
 | .load _ (.tmp a)=>[a]| .store _ (.tmp a) _=>[a]| .indexAddr _ (.tmp a) _=>[a]| .lookup _ (.tmp a) _ _=>[a]| .slice _ (.tmp a) _ _ _=>[a]| .call ⟨.builtin .len,args,_⟩=>args.toList.filterMap λx=>match x with| .tmp t=>some t|_=>none
 |_=>[]
def nT:Op->List Tmp
 | .store _ (.tmp a) _=>[a]|_=>[]
theorem H2{s s':Nat->aB}{x:Operand}(h:∀t,x= .tmp t->s t=s' t):keyOf s x=keyOf s' x:=by cases x with|tmp t=>simp only[keyOf,h t rfl]|_=>rfl
theorem N6{s s':Nat->aB}{x:Operand}(h:∀t,x= .tmp t->s t=s' t):o5 s x=o5 s' x:=by cases x with|tmp t=>simp only[o5,h t rfl]|_=>rfl
theorem Y0{s s':Nat->aB}{x:Operand}(h:∀t,x= .tmp t->s t=s' t):x0 s x=x0 s' x:=by cases x with|tmp t=>simp only[x0,h t rfl]|_=>rfl
def Y1{s s':Nat->aB}{x y:Oper}(h:∀t,t∈jf x.op\/t∈nT y.op->s t=s' t):nS s x y=nS s' x y:=by
 have j:∀k,o6 s k y.op=o6 s' k y.op:=by
  intro k;unfold o6;split;.rename_i t a v n;rw[H2 (s:=s) (s':=s') (x:=a) (λq o=>h q (.inr (by rw[n,o];simp[nT])))]
  rfl
 have m:o7 s x.op=o7 s' x.op:=by
  have f:∀t,t∈jf x.op->s t=s' t:=λt e=>h t (.inl e);generalize x.op=op at f;have one:∀a:Operand,(∀t,a= .tmp t->t∈jf op)->lU s a=lU s' a:=by intro a d;cases a with|tmp t=>simp only[lU,f t (d t rfl)]|_=>rfl
  cases op<;>simp only[o7]
  case load t a=>exact one a (by rintro t rfl;simp[jf])
  case indexAddr t a i=>exact one a (by rintro t rfl;simp[jf])
  case lookup t a k ok=>exact one a (by rintro t rfl;simp[jf])
  case slice t a lo ag ed=>
   cases ed with
   |none=>exact one a (by rintro t rfl;simp[jf])
   |some _=>rfl
  case call c=>
   obtain⟨callee,args,p⟩:=c;cases callee with
   |value=>rfl|invoke=>rfl
   |builtin b=>
    cases b<;>first|rfl|skip
    simp only;rw[Bool.eq_iff_iff,xay,xay];have d:∀a∈args.toList,lU s a=lU s' a:=λa d=>one a (by rintro t rfl;simp only[jf,List.mem_filterMap];exact⟨_,d,rfl⟩);exact⟨λh a g=>by rw[<-d a g];exact h a g,λh a g=>by rw[d a g];exact h a g⟩
 unfold nS;rw[m]
 congr 1
 split;.rename_i op t a b q f;have d:∀t,a= .tmp t->s t=s' t:=λt e=>h t (.inl (by rw[f,e];simp[jf]));have l:∀t,b= .tmp t->s t=s' t:=λt e=>h t (.inl (by rw[f,e];simp[jf]));rw[N6 d,N6 l]
 .rename_i t a f;have d:∀t,a= .tmp t->s t=s' t:=λt e=>h t (.inl (by rw[f,e];simp[jf]));rw[H2 d,Y0 d];split
  .rw[j]
  rfl
 .rfl
 .rename_i t a v f;have d:∀t,a= .tmp t->s t=s' t:=λt e=>h t (.inl (by rw[f,e];simp[jf]));rw[H2 d];split
  .rw[j]
  rfl
 rfl
def Y2{y:Oper}{σ:ar}{K:ar->Prop}{L:List Tmp}(g:∀a∈L,y.dst≠some a)(h:c9 P T G all y K σ):c9 P T G all y (λb=>(∀a∈L,b.au a=σ.au a)/\K b) σ:=by
 have e:∀(objs:bP)(r:aB),∀a∈L,(ar.put ⟨σ.au,objs⟩ y.dst r).au a=σ.au a:=λobjs r a f=>by
  cases j:y.dst with
  |none=>rfl
  |some d=>
   have:a≠d:=by rintro rfl;exact g a f j
   simp only[ar.put,b9 _ _ this]
 rw[fv]at h⊢;split at h
 .rename_i c
  try simp only[c]
  exact qk (λobjs r i=>⟨e objs r,i⟩) h
 .rename_i c
  try simp only[c]
  exact⟨e σ.objs _,h⟩
 exact h.elim
def Y3{x:Oper}{σ:ar}{p:Prop}(h:c9 P T G all x (λ_=>p) σ):p:=by
 rw[fv]at h;split at h
 .unfold cn at h;split at h;.exact h
  unfold gQ at h;split at h
  .split at h;.obtain⟨_,_,_,_,_,_,⟨r,a⟩,_,q⟩:=h;exact q r (by rw[a])
   exact h.elim
  exact h.elim
 .exact h
 exact h.elim
def N7{K:ar->Prop}{i:Nat}{s:Oper}(ag:all[i]?=some s)(Q:s.guard=none){B:lX}(U:∀j d,j∈B->all[j]?=some d->∃e∈d.after,Region.binds .any e=true/\(e.on=i\/e.on∈B)){s0:Nat->aB}{L:List Tmp}(O:∀t∈jf s.op,t∈L): ∀(fuel:Nat)(listed:Array Bool)(σ:ar),(∀t∈L,σ.au t=s0 t)->(∀j,j∈B->listed.getD j true=false)->(∀j d,all[j]?=some d->j≠i->listed.getD j true=false->j∉B->s.apart all d=true/\nS s0 s d=true/\(∀t∈L,d.dst≠some t)/\∀t∈nT d.op,t∈L)->i∈Region.ready .any all listed->fm P T G all i (gg P T G all K fuel (listed.setIfInBounds i true)) σ->gg P T G all K (fuel+1) listed σ:=by
 intro fuel
 induction fuel with
 |zero=>
  intro listed σ F g c w H;refine⟨λh=>(by rw[h]at w;cases w),λj C=>?_⟩;by_cases b:j=i;.subst b;exact H
  have S:=ready_mono C b;exfalso;have key:Region.ready .any all (listed.setIfInBounds i true)=[]:=by have E:=ql (K':=λ_=>Region.ready .any all (listed.setIfInBounds i true)=[]) (λb4 x=>x.1) H;unfold fm at E;simp only[ag]at E;exact Y3 E
  rw[key]at S;cases S
 |succ fuel ih=>
  intro listed σ F g c w H;refine⟨λh=>(by rw[h]at w;cases w),λj C=>?_⟩;by_cases b:j=i;.subst b;exact H
  obtain⟨o,d,u,y⟩:=xbW.1 C;have q:∀k,listed.getD k true=false->listed[k]?.getD false=true->False:=λk ak ab=>by
   rcases xbd k listed.size with x|x;.simp[x]at ak ab;rw[ak]at ab;cases ab
   simp[Array.getElem?_eq_none x]at ab
  have p:j∉B:=λI=>by
   obtain⟨e,W,V,f⟩:=U j d I u;have ab:=y e W V;rcases f with f|f
   .rw[f]at ab;exact q i (xbW.1 w).1 (by simpa using ab)
   exact q _ (g _ f) (by simpa using ab)
  obtain⟨X,Y,Z,bX⟩:=c j d u b o p;have ab:fm P T G all i (λA=>fm P T G all j (gg P T G all K fuel ((listed.setIfInBounds i true).setIfInBounds j true)) A) σ:=ql (λA R=>R.2 j (ready_mono C b)) H;have ad:fm P T G all j (λn=>(∀a∈L,n.au a=σ.au a)/\fm P T G all i (gg P T G all K fuel ((listed.setIfInBounds i true).setIfInBounds j true)) n) σ:=by
   unfold fm at ab⊢;simp only[ag,u]at ab⊢;have N:nS σ.au s d=true:=by
    rw[<-Y];refine Y1 λt r=>F t ?_;rcases r with r|r
    .exact O t r
    exact bX t r
   exact Y2 Z (YZ Q X N ab)
  have l:∀k ok,all[k]?=some ok->k≠i->(listed.setIfInBounds j true).getD k true=false->k∉B->s.apart all ok=true/\nS s0 s ok=true/\(∀t∈L,ok.dst≠some t)/\∀t∈nT ok.op,t∈L:=λk ok D J z M=>by
   refine c k ok D J ?_ M;by_cases m:j=k;.subst m;exact o
   rw[getD_set_ne true m]at z;exact z
  refine ql (λn ai=>ih (listed.setIfInBounds j true) n (λt r=>(ai.1 t r).trans (F t r)) (λk D=>by
   have m:j≠k:=by rintro rfl;exact p D
   rw[getD_set_ne true m];exact g k D) l (ready_mono w (xbZ b)) ?_) ad
  rw[Array.setIfInBounds_comm _ _ b];exact ai.2
end
structure V where
 name:ByteArray
 bool:Bool
 lo:Int
 ag:Int
def V.cells(v:V):lZ:=[aD v.name,aF v.bool,aa v.lo,aa v.ag]
def V.d(v:V):D:= .agg v.cells
def aO(l:List V):D:= .aw 4 (l.map V.cells)
def ld(n:Int):D:= .val (.int .u8 n)
def j1(n:Int):Prop:=-9223372036854775808<=n/\n<=9223372036854775807
def V.ok(v:V):Prop:=j1 v.lo/\j1 v.ag/\v.name.size<=9223372036854775807
def V.span(v:V):Int:=if v.bool then 2 else if v.lo>v.ag then 0 else if v.ag-v.lo<1073741824 then v.ag-v.lo+1 else 1073741825
def bitsOf(n:Int):Nat:=if n<=1 then 0 else Nat.log2 (n-1).toNat+1
def Y4{n:Int}{k:Nat}(ab:∀j:Nat,j<k->(2:Int)^j<n)(ad:n<=2^k):bitsOf n=k:=by
 unfold bitsOf;cases k with
 |zero=>simp at ad;simp[ad]
 |succ k=>
  have ai:=ab k oZ;have c:(0:Int)<2^k:=Int.pow_pos oZ;rw[xab oZ];have e:Nat.log2 (n-1).toNat=k:=by
   have a:(2:Nat)^k<=(n-1).toNat:=by
    have:((2^k:Nat):Int)=2^k:=sZ
    omega
   have b:(n-1).toNat<2^(k+1):=by
    have:((2^(k+1):Nat):Int)=2^(k+1):=sZ
    omega
   exact(Nat.log2_eq_iff (by have:=Nat.two_pow_pos k;omega)).2 ⟨a,b⟩
  omega
def N8{n:Int}(h:1<n):bitsOf n=bitsOf (n/2+n%2)+1:=by
 unfold bitsOf;rw[xab oZ];by_cases ad:n=2;.subst ad;decide
 rw[xab oZ];have e:(n/2+n%2-1).toNat=(n-1).toNat/2:=oZ
 rw[e];have ai:(n-1).toNat≠0:=oZ
 have c:(n-1).toNat/2≠0:=oZ
 obtain⟨a,b⟩:=(Nat.log2_eq_iff c).1 rfl;have:Nat.log2 (n-1).toNat=Nat.log2 ((n-1).toNat/2)+1:=by
  refine(Nat.log2_eq_iff ai).2 ⟨?_,?_⟩;.rw[Nat.pow_succ];omega
  rw[Nat.pow_succ];omega
 omega
def nU(c:Int):Bool:=(decide (c>=97)&&decide (c<=122))||(decide (c>=65)&&decide (c<=90))
def r0(c:Int):Bool:=decide (c>=48)&&decide (c<=57)
def ju(c:Int):Bool:=nU c||r0 c||(c==95)
def N9{lo ag:Int}(ab:j1 lo)(ad:j1 ag)(h:lo<=ag):IntKind.u64.wrap (IntKind.u64.wrap ag-IntKind.u64.wrap lo)=ag-lo:=by unfold j1 at ab ad;simp only[xcv];omega
def V.Oa{v:V}(h:v.bool=true):v.span=2:=by simp[V.span,h]
def V.Ob{v:V}(h:v.bool=false)(ab:v.lo>v.ag):v.span=0:=by simp[V.span,h,ab]
def V.H3{v:V}(h:v.bool=false)(ab:v.lo<=v.ag)(ad:v.ag-v.lo<1073741824):v.span=v.ag-v.lo+1:=by simp[V.span,h,ad];omega
def V.H4{v:V}(h:v.bool=false)(ab:v.lo<=v.ag)(ad:1073741824<=v.ag-v.lo):v.span=1073741825:=by simp[V.span,h];omega
def has(x:ByteArray)(l:List ByteArray):Bool:=l.any λy=>decide (y=x)
def idxOf(x:ByteArray)(l:List ByteArray):Int:=match l.findIdx? (λy=>decide (y=x))with|some i=>(i:Nat)|none=>-1
def Oc{x:ByteArray}{l:List ByteArray}(h:∀j:Nat,j<l.length->l[j]?≠some x):idxOf x l=-1:=by
 unfold idxOf;have:l.findIdx? (λy=>decide (y=x))=none:=by rw[List.findIdx?_eq_none_iff];intro y b;obtain⟨j,a⟩:=xaJ.1 b;have ab:=h j (lV.1 a).1;rw[a]at ab;simpa using ab
 rw[this]
def Od{x:ByteArray}{l:List ByteArray}{i:Nat}(h:∀j:Nat,j<i->l[j]?≠some x)(ag:l[i]?=some x):idxOf x l=i:=by
 unfold idxOf;obtain⟨a,b⟩:=lV.1 ag;have:l.findIdx? (λy=>decide (y=x))=some i:=by rw[xbv];refine⟨a,by simpa using b,λj c=>?_⟩;have ab:=h j c;rw[xaa oZ]at ab;simpa using ab
 rw[this]
def Oe(x:ByteArray)(l:List ByteArray):decide (idxOf x l>=0)=has x l:=by
 unfold idxOf has;cases h:l.findIdx? (λy=>decide (y=x))with
 |none=>
  rw[List.findIdx?_eq_none_iff]at h;have:l.any (λy=>decide (y=x))=false:=by rw[List.any_eq_false];intro y a;simpa using h y a
  rw[this];rfl
 |some i=>obtain⟨ab,ad,_⟩:=xbv.1 h;have:l.any (λy=>decide (y=x))=true:=xbz.2 ⟨_,xaV ab,ad⟩;rw[this];simp
def Of{x:ByteArray}{l:List ByteArray}{i:Nat}(h:l[i]?=some x):has x l=true:=xbz.2 ⟨x,xad h,by simp⟩
def Og{x:ByteArray}{l:List ByteArray}(h:∀j:Nat,j<l.length->l[j]?≠some x):has x l=false:=by unfold has;rw[List.any_eq_false];intro y b;obtain⟨j,a⟩:=xaJ.1 b;have ab:=h j (lV.1 a).1;rw[a]at ab;simpa using ab
def kK(p:Int->Bool)(s:ByteArray)(i:Nat):Bool:=match s[i]? with|some b=>p b.toNat|none=>false
def ki(p:Int->Bool)(s:ByteArray):Nat:=((List.range (s.size+1)).find? λi=>!kK p s i).getD 0
theorem Cl{s:ByteArray}{i:Nat}:s[i]?=if h:i<s.size then some s[i]else none:=rfl
def Y5{p:Int->Bool}{s:ByteArray}{i:Nat}(h:kK p s i=true):i<s.size:=by
 unfold kK at h;rw[Cl]at h;by_cases ab:i<s.size;.exact ab
 rw[dif_neg ab]at h;cases h
def words:List ByteArray:=[⟨#[65]⟩,⟨#[65,70]⟩,⟨#[65,71]⟩,⟨#[65,88]⟩,⟨#[69]⟩,⟨#[69,70]⟩,⟨#[69,71]⟩,⟨#[69,88]⟩,⟨#[85]⟩,⟨#[98,111,111,108]⟩,⟨#[100,101,102]⟩,⟨#[101,108,115,101]⟩,⟨#[102,97,105,114]⟩,⟨#[102,97,108,115,101]⟩,⟨#[105,102]⟩,⟨#[105,110,105,116]⟩,⟨#[105,110,118,97,114]⟩,⟨#[109,111,100]⟩,⟨#[110,101,120,116]⟩,⟨#[115,112,101,99]⟩,⟨#[116,104,101,110]⟩,⟨#[116,114,97,110,115]⟩,⟨#[116,114,117,101]⟩,⟨#[118,97,114]⟩]
def isName(s:ByteArray):Bool:=decide ((s.size:Int)>=1)&&decide ((s.size:Int)<=24)&&kK nU s 0&&((ki ju s:Int)==(s.size:Int))&&!has s words
def Oh(s:ByteArray):(decide (s=⟨#[]⟩)=true/\decide ((s.size:Int)>=1)=false)\/∃b,decide (s=⟨#[]⟩)=false/\decide ((s.size:Int)>=1)=true/\s[0]?=some b:=by
 by_cases h:0<s.size
 .refine .inr ⟨s[0],?_,?_,?_⟩
  .have:s≠⟨#[]⟩:=by rintro rfl;exact absurd h dZ
   simpa using this
  .simp;omega
  rw[Cl,dif_pos h]
 refine .inl ⟨?_,?_⟩
 .have ak:s.size=0:=oZ
  have:s=⟨#[]⟩:=by
   cases s with|mk d=>
   congr 1
   exact xbp ak
  simpa using this
 simp;omega
def o8(v:V):Bool:=decide ((if v.ag>v.lo then v.ag else v.lo)>255)||decide ((if v.ag<v.lo then v.ag else v.lo)< -255)
def um(seen:List V)(v:V):Int:=if !isName v.name then 12 else if has v.name (seen.map V.name)then 6 else if v.bool&&(v.lo !=0||v.ag !=0)then 3
 else if !v.bool&&(decide (v.lo>v.ag)||o8 v||decide (IntKind.i64.wrap (v.ag-v.lo)>=64))then 2 else 0
def gJ(l:List V)(i:Nat):Int:=match l[i]? with|some v=>um (l.take i) v|none=>0
def hT(l:List V):Int×Int:=match(List.range l.length).find? (λi=>gJ l i !=0)with|some i=>((i:Int),gJ l i)|none=>(0,0)
def Oi{l:List V}{i:Nat}{e:Int}(h:∀j:Nat,j<i->gJ l j=0)(ag:i<l.length)(a:gJ l i=e)(ak:e≠0):hT l=((i:Int),e):=by
 unfold hT;have:(List.range l.length).find? (λi=>gJ l i !=0)=some i:=by rw[List.find?_range_eq_some];exact⟨by simpa[a]using ak,by simpa using ag,λj b=>by simp[h j b]⟩
 rw[this];simp[a]
def Oj{l:List V}(h:∀j:Nat,j<l.length->gJ l j=0):hT l=(0,0):=by
 unfold hT;have:(List.range l.length).find? (λi=>gJ l i !=0)=none:=by rw[List.find?_eq_none];intro j a;simp[h j (by simpa using a)]
 rw[this]
def Y6{v:V}(h:v.ok):(!v.bool&&(decide (v.lo>v.ag)||o8 v||decide (IntKind.i64.wrap (v.ag-v.lo)>=64)))=(!v.bool&&(decide (v.lo>v.ag)||!(decide (v.lo>=-255)&&decide (v.lo<=255))||!(decide (v.ag>=-255)&&decide (v.ag<=255))||decide (v.span>64))):=by
 cases g:v.bool with
 |true=>rfl
 |false=>
  by_cases ab:v.lo>v.ag;.simp[ab]
  have a:v.lo<=v.ag:=oZ
  by_cases ad:-255<=v.lo/\v.ag<=255
  .have b:o8 v=false:=by
    unfold o8;split<;>(try split)<;>simp<;>omega
   have c:(decide (v.lo>=-255)&&decide (v.lo<=255))=true:=uZ
   have d:(decide (v.ag>=-255)&&decide (v.ag<=255))=true:=uZ
   rw[V.H3 g a oZ,b,c,d,wrap64 _ oZ oZ];have e:decide (v.lo>v.ag)=false:=by simpa using a
   have f:decide (v.ag-v.lo>=64)=decide (v.ag-v.lo+1>64):=by rw[decide_eq_decide];omega
   rw[e,f];rfl
  have b:o8 v=true:=by unfold o8;split<;>(try split)<;>simp<;>omega
  have c:(!(decide (v.lo>=-255)&&decide (v.lo<=255))||!(decide (v.ag>=-255)&&decide (v.ag<=255)))=true:=uZ
  rw[b];revert c;generalize decide (v.lo>v.ag)=p;generalize (decide (v.lo>=-255)&&decide (v.lo<=255))=q;generalize (decide (v.ag>=-255)&&decide (v.ag<=255))=r;cases p<;>cases q<;>cases r<;>simp
def Y7{l:List V}{x:ByteArray}{i:Nat}(h:∀j:Nat,j<i->(l.map V.name)[j]?≠some x):has x ((l.take i).map V.name)=false:=by refine Og λj a=>?_;rw[List.map_take,xaQ];simp at a;rw[xac oZ];exact h j oZ
theorem Y8{l:List V}{w:V}{k i:Nat}(a:k<i)(b:l[k]?=some w):has w.name ((l.take i).map V.name)=true:=by refine Of (i:=k) ?_;rw[List.map_take,xaQ,xac a,xah,b];rfl
end Go.Am
