/- Steps, joins, and nil slices that become rows of our own. No condition. -/
import Derived.Test.YtjonbfbkkkcjgaaGreatDoorEngB
set_option linter.all false
set_option linter.unnecessarySimpa false
namespace Go.Am
section
variable{P:Program}{T:br}{G:ca}{N:Nat}{σ:aq}{Q:Exit->aq->Prop}{all:Array Oper}
def LM(l:List Oper):∀(k:Nat)(σ:aq)(K:aq->Prop),(∀j,l[j]?=all[k+j]?)->dP P T G all l K σ->sY P T G all (List.range' k l.length) K σ:=by
 induction l with
 |nil=>intro k σ K _ h;exact h
 |cons o l ih=>
  intro k σ K ah h;have ak:all[k]?=some o:=by simpa using(ah 0).symm
  simp only[xal,List.range'_succ,sY,ak];refine wA (λb a=>ih (k+1) b K (λj=>by have:=ah (j+1);simpa[xbk,Nat.add_comm 1 j]using this) a) h
def WO(c:cQ P T)(d:P.follows .mixedOrders=true){id:Nat}{ops:Array Oper}(b:pK N ops=true)(a:pJ T ops (List.range ops.size) (Array.replicate ops.size false)=true) (h:dP P T G ops ops.toList (Q .normal) σ):eX P T G N (.region id ops true) σ Q:=by refine WE c d b (List.range ops.size) sZ a ?_;rw[List.range_eq_range'];have:=LM (P:=P) (T:=T) (G:=G) (all:=ops) ops.toList 0 σ (Q .normal) (λj=>by simp) h;simpa using this
end
section
variable{P:Program}{T:br}{G:ca}{N:Nat}{σ alz:aq}{Q:Exit->aq->Prop}{id:Nat}{ops:Array Oper}
end
def wrap64(x:Int)(ab:-9223372036854775808<=x)(ad:x<=9223372036854775807):IntKind.i64.wrap x=x:=by rw[IntKind.wrap_i64];omega
def le_of_eq{a b:D}(h:a=b):a.le b:=h▸D.le_refl a
def Fin(T:br)(b:List ResultVar)(R:D->Prop)(e:Exit)(a:aq):Prop:=(e= .normal\/e= .ret)/\∃r d x,l1 T a b=some r/\toD a.objs r=some d/\d.le x/\R x
theorem getD_cons_zero{a:Type}(x:a)(l:List a)(d:a):(x::l).getD 0 d=x:=rfl
theorem getD_cons_succ{a:Type}(x:a)(l:List a)(n:Nat)(d:a):(x::l).getD (n+1) d=l.getD n d:=rfl
def LN{σ:aq}(K:Key)(n:Nat)(f:Nat->ax)(objs':bK)(Y:σ.objs K=none) (aj:∀t,f t=σ.au t\/σ.au t= .d (.val (.slice none 0 0))/\f t= .row K) (D:∀k o,objs' k=some o->k=K/\o= .row n []\/k≠K/\(σ.objs k=some o\/∃z i,σ.objs k=some (.box z)/\z[i]?=some (.d (.val (.slice none 0 0)))/\o= .box (z.set i (.row K)))) (N:∀k,σ.objs k≠none->objs' k≠none) (H:objs' K=some (.row n [])) (B:∀k,dj (σ.objs k)->dj (objs' k)):eJ σ ⟨f,objs'⟩:=by
 intro m fr ρ a w h;have C:∀k,σ.used k->k≠K:=by rintro k ⟨o,l⟩ rfl;rw[Y]at l;cases l
 have P:∀k,σ.used k->aq.used ⟨f,objs'⟩ k/\bE ρ K (.slice none 0 0) k=ρ k:=λk l=>
  ⟨by
   cases aY:objs' k with
   |none=>exact absurd aY (N k (by obtain⟨o,e⟩:=l;rw[e];simp))
   |some o=>exact⟨o,aY⟩,b4 _ _ (C k l)⟩
 have I:aq.used ⟨f,objs'⟩ K:=⟨_,H⟩;have q:bE ρ K (.slice none 0 0) K= .slice none 0 0:=by simp[bE]
 have y:bo m (bE ρ K (.slice none 0 0)) (aq.used ⟨f,objs'⟩) (.row K) (.slice none 0 0):=by have:=bo.row (m:=m) (ρ:=bE ρ K (.slice none 0 0)) (U:=aq.used ⟨f,objs'⟩) K I;rw[q]at this;exact this
 refine⟨m,bE ρ K (.slice none 0 0),Mem.le_refl m,⟨h.mem,h.frame,h.apart,?_,?_,?_,?_,?_⟩,?_⟩
 .rintro k ⟨o,l⟩;rcases D k o l with⟨rfl,rfl⟩|⟨ab,ad⟩;.rw[q];rfl
  rw[b4 _ _ ab];rcases ad with ad|⟨z,i,ad,_,_⟩
  .exact h.one k ⟨_,ad⟩
  exact h.one k ⟨_,ad⟩
 .intro t;rcases aj t with e|⟨E,F⟩
  .show bo m _ _ (f t) _;rw[e];exact(h.au t).mono (Mem.le_refl m) P
  show bo m _ _ (f t) _;rw[F];have:=h.au t;rw[E]at this;rw[this.e4];exact y
 .intro k o l;rcases D k o l with⟨rfl,rfl⟩|⟨ab,ad⟩
  .rw[q];exact .inl ⟨rfl,rfl⟩
  rw[b4 _ _ ab];rcases ad with ad|⟨z,i,ad,ai,rfl⟩
  .exact(h.objs k o ad).mono (Mem.le_refl m) P (λ_ _ _=>rfl)
  obtain⟨b,vs,T,E,F,X,V⟩:=(h.objs k _ ad).mono (Mem.le_refl m) P (λ_ _ _=>rfl);refine⟨b,vs,T,E,F,by simpa using X,?_⟩;intro j c x u W;rw[List.getElem?_set]at u;split at u
  .rename_i J;subst J;split at u;.cases u;have:=V i _ x ai W;rw[this.e4];exact y
   cases u
  exact V j c x u W
 .intro k o b l O s;rcases D k o l with⟨rfl,rfl⟩|⟨ab,ad⟩
  .have g:blockOf (bE ρ k (.slice none 0 0) k)=some b:=s;rw[q]at g;cases g
  have g:blockOf (bE ρ K (.slice none 0 0) k)=some b:=s;rw[b4 _ _ ab]at g;rcases ad with ad|⟨z,i,ad,_,rfl⟩
  .exact h.own k o b ad O g
  exact h.own k _ b ad rfl g
 .intro k Q o o' b M l L Z bY s;rcases D k o l with⟨rfl,rfl⟩|⟨ab,ad⟩
  .have g:blockOf (bE ρ k (.slice none 0 0) k)=some b:=s;rw[q]at g;cases g
  rw[b4 _ _ ab]at s;rcases D Q o' L with⟨rfl,rfl⟩|⟨G,r⟩
  .rw[q];intro aY;cases aY
  rw[b4 _ _ G];have hold:∃p,σ.objs k=some p/\p.owns=true:=by
   rcases ad with ad|⟨z,i,ad,_,rfl⟩;.exact⟨_,ad,Z⟩
   exact⟨_,ad,rfl⟩
  have A:∃p,σ.objs Q=some p/\p.owns=true:=by
   rcases r with r|⟨z,i,r,_,rfl⟩;.exact⟨_,r,bY⟩
   exact⟨_,r,rfl⟩
  obtain⟨p,b5,bX⟩:=hold;obtain⟨bU,R,S⟩:=A;exact h.sep k Q p bU b M b5 R bX S s
 intro k l s;refine⟨B k s,b4 _ _ ?_⟩;obtain⟨c,u⟩:=sT s;exact C k ⟨_,u⟩
def WQ{σ:aq}(t:Nat)(K:Key)(n:Nat)(e:σ.au t= .d (.val (.slice none 0 0)))(c:σ.objs K=none):eJ σ ⟨bE σ.au t (.row K),bE σ.objs K (some (.row n []))⟩:=by
 refine LN K n _ _ c ?_ ?_ ?_ (by simp[bE]) ?_
 .intro j;by_cases h:j=t;.subst h;exact .inr ⟨e,by simp[bE]⟩
  exact .inl (by simp[bE,h])
 .intro k o a;by_cases h:k=K;.subst h;simp[bE]at a;exact .inl ⟨rfl,a.symm⟩
  rw[b4 _ _ h]at a;exact .inr ⟨h,.inl a⟩
 .intro k a;by_cases h:k=K;.subst h;simp[bE]
  rw[b4 _ _ h];exact a
 intro k b;have h:k≠K:=by rintro rfl;rw[c]at b;exact oh b
 rw[b4 _ _ h];exact b
def WR{σ:aq}(k:Key)(i:Nat)(K:Key)(n:Nat){b:List ax}(f:σ.objs k=some (.box b))(ag:b[i]?=some (.d (.val (.slice none 0 0))))(c:σ.objs K=none):eJ σ ⟨σ.au,bE (bE σ.objs k (some (.box (b.set i (.row K))))) K (some (.row n []))⟩:=by
 have g:k≠K:=by rintro rfl;rw[c]at f;cases f
 refine LN K n _ _ c (λ_=> .inl rfl) ?_ ?_ (by simp[bE]) ?_
 .intro j o a;by_cases h:j=K;.subst h;simp[bE]at a;exact .inl ⟨rfl,a.symm⟩
  rw[b4 _ _ h]at a;by_cases ad:j=k;.subst ad;simp[bE]at a;exact .inr ⟨h,.inr ⟨b,i,f,ag,a.symm⟩⟩
  rw[b4 _ _ ad]at a;exact .inr ⟨h,.inl a⟩
 .intro j a;by_cases h:j=K;.subst h;simp[bE]
  rw[b4 _ _ h];by_cases ad:j=k;.subst ad;simp[bE]
  rw[b4 _ _ ad];exact a
 intro j e;have h:j≠K:=by rintro rfl;rw[c]at e;exact oh e
 rw[b4 _ _ h];by_cases ad:j=k;.subst ad;rw[dq];exact og
 rw[b4 _ _ ad];exact e
def WS{σ:aq}(t:Nat)(K:Key)(n:Nat){es:mW}(f:σ.au t= .row K)(e:σ.objs K=some (.row n es)):eJ σ ⟨bE σ.au t (.sub K n 0 es.length),σ.objs⟩:=by
 intro m fr ρ a w h;refine⟨m,ρ,Mem.le_refl m,⟨h.mem,h.frame,h.apart,h.one,?_,h.objs,h.own,h.sep⟩,hI.refl _ _⟩;intro s;by_cases aj:s=t
 .subst aj;have ab:=h.au s;rw[f]at ab;show bo m _ _ (bE σ.au s _ s) _;rw[dq];generalize a.tmps.getD s undef=v at*;cases ab with|row _ hu=>
  rcases h.objs _ _ e with⟨c,d⟩|⟨b,o,cap,vs,g,c,d,i,j,k,l⟩;.rw[c,d];exact .gH K n 0 hu c
  rw[c];exact bo.sub (m:=m) (ρ:=ρ) (U:=σ.used) K n 0 es.length b o es.length cap o hu c oZ ⟨λ_=>by simp,by omega⟩
 show bo m _ _ (bE σ.au t _ s) _;rw[b4 _ _ aj];exact h.au s
def WT{T:br}{ev:Operand->ax}{objs:bK}{d:Key}{o:Op}{r:ax}{i:List (Key×b1)}(h:cZ T ev objs d o=some (r,i))(n:∀t a x,o≠ .store t a x):∀j c,objs j=some (.box c)->cA objs i j=some (.box c):=by
 have f:∀{objs:bK}{k:Key}{o:b1},(∀c,objs k≠some (.box c))->∀j c,objs j=some (.box c)->bE objs k (some o) j=some (.box c):=by
  intro objs k o m j c l;have:j≠k:=by rintro rfl;exact m c l
  rw[b4 _ _ this];exact l
 have new:∀{o:b1},objs d=none->∀j c,objs j=some (.box c)->cA objs [(d,o)] j=some (.box c):=by intro o q;exact f (by intro c b;rw[q]at b;cases b)
 have same:∀{k:Key}{p o:b1},objs k=some p->(∀c,p≠ .box c)->∀j c,objs j=some (.box c)->cA objs [(k,o)] j=some (.box c):=by intro k p o m e;exact f (by intro c b;rw[m]at b;cases b;exact e c rfl)
 cases o<;>simp only[cZ,reduceCtorEq]at h
 case alloc=>split at h<;>cases h;exact new aZ
 case box=>split at h<;>cases h;exact new aZ
 case buildSlice=>
  split at h
  case h_2=>cases h
  split at h
  case h_2=>cases h
  split at h
  case h_2=>cases h
  split at h<;>cases h;exact new aZ
 case makeSlice=>
  split at h
  case h_2=>cases h
  split at h
  case h_2=>cases h
  split at h
  case h_2=>cases h
  split at h<;>cases h;exact new aZ
 case makeMap=>split at h<;>cases h;exact new aZ
 case store=>exact absurd rfl (n _ _ _)
 case mapUpdate=>
  split at h
  case h_2=>cases h
  split at h
  case h_2=>cases h
  split at h
  case isFalse=>cases h
  split at h
  case h_2=>cases h
  split at h
  case h_2=>cases h
  split at h<;>cases h;exact same aZ (by intro c b;cases b)
 case insert=>
  split at h
  case h_2=>cases h
  split at h
  case h_2=>cases h
  split at h
  case isFalse=>cases h
  split at h
  case h_2=>cases h
  split at h
  case h_2=>cases h
  split at h<;>cases h;exact same aZ (by intro c b;cases b)
 case call=>
  split at h
  .split at h
   case h_2=>cases h
   split at h
   case h_2=>cases h
   split at h
   case h_2=>cases h
   split at h
   case h_2=>cases h
   split at h
   case isFalse=>cases h
   split at h;.split at h<;>cases h;exact new aZ
   .split at h
    case h_2=>cases h
    split at h<;>cases h;rename_i q _ _ _ _ _ _ _ _ _ _ _ _ m _ _;have g:=same (o:= .dead) aZ (by intro c b;cases b);intro j bF l;have ab:=g j bF l;refine f ?_ j bF ab;intro c u;have e:∀key x,objs key=some x->d≠key:=by
     rintro key x s rfl;have ak:objs d=none:=aZ
     rw[ak]at s;cases s
    rw[b4 _ _ (e _ _ aZ)]at u;clear f new same g ab e
    simp_all
   cases h
  .split at h
   case h_2=>cases h
   split at h
   case h_2=>cases h
   split at h
   case h_2=>cases h
   split at h
   case h_2=>cases h
   split at h
   case isFalse=>cases h
   split at h
   .split at h
    case h_2=>cases h
    split at h<;>cases h;exact same aZ (by intro c b;cases b)
   .split at h
    case h_2=>cases h
    split at h<;>cases h;exact same aZ (by intro c b;cases b)
   cases h
  .split at h
   case h_2=>cases h
   split at h
   case h_2=>cases h
   split at h
   case h_2=>cases h
   split at h
   case h_2=>cases h
   split at h
   case h_2=>cases h
   split at h<;>cases h;exact same aZ (by intro c b;cases b)
  cases h
def WU{T:br}{ev:Operand->ax}{objs:bK}{d:Key}{o:Op}{r:ax}{f:List (Key×b1)}(h:eR T ev objs d o=some (r,f))(l:∀t a x,o≠ .store t a x):∀j c,objs j=some (.box c)->cA objs f j=some (.box c):=by
 obtain⟨⟨q,g⟩,ak,i⟩:=pB h;have ab:=WT ak l;intro j c k;have ad:=ab j c k;rcases q0 (T.born d) d q g with e|⟨n,es,rfl,rfl,e⟩|⟨u,n,es,rfl,rfl,e⟩|⟨off,cs,s,rfl,rfl,m,e⟩
 .rw[i]at e;cases e;exact ad
 .rw[i]at e;cases e;by_cases b:j=d;.subst b;simp only[cA,dq]at ad;cases ad
  simp only[cA,b4 _ _ b]at ad⊢;exact ad
 .rw[i]at e;cases e;by_cases b:j=d;.subst b;simp only[cA,dq]at ad;cases ad
  simp only[cA,b4 _ _ b]at ad⊢;exact ad
 rw[i]at e;cases e;have p:objs d=none:=Lm ak;by_cases b:j=d
 .subst b;rw[p]at k;cases k
 simp only[cA,b4 _ _ b];exact k
section
variable{P:Program}{T:br}{G:ca}{all:Array Oper}
def WV{y:Oper}{σ:aq}{K K':aq->Prop}(e:∀t a x,y.op≠ .store t a x)(f:∀objs r,(∀j c,σ.objs j=some (.box c)->objs j=some (.box c))->K (aq.put ⟨σ.au,objs⟩ y.dst r)->K' (aq.put ⟨σ.au,objs⟩ y.dst r)) (h:cf P T G y K σ):cf P T G y K' σ:=by
 unfold cf at*;rw[pG]at*;cases b:res T G σ y with
 |none=>simp only[b,xbB]at h⊢;exact wz h λr b=>f σ.objs r (λ_ _ h=>h) b
 |some p=>
  simp only[b,xaH]at h⊢;refine f _ _ ?_ h;intro j c d;obtain⟨r,g⟩:=p;unfold res at b;split at b;.cases b;exact d
  split at b;.cases b;exact d
  exact WU b e j c d
def LO{t a k off:Nat}{σ:aq}{x:Oper}(g:x.op= .load t (.tmp a))(aj:σ.au a= .ptr k off){K:aq->Prop}(h:cf P T G x K σ): ∃r,K (σ.put x.dst r)/\∀objs,(∀j c,σ.objs j=some (.box c)->objs j=some (.box c))->res T G ⟨σ.au,objs⟩ x=some (r,[]):=by
 unfold cf at h;rw[pG]at h;cases b:res T G σ x with
 |none=>simp only[b,xbB]at h;unfold gx at h;rw[g]at h;exact h.elim
 |some p=>
  simp only[b,xaH]at h;obtain⟨r,m⟩:=p;unfold res at b;rw[g]at b;simp only[db,cH,bs,aj,eR,cZ,xbB]at b;cases e:T t with
  |none=>simp[e]at b
  |some i=>
   simp only[e]at b;cases d:σ.objs k with
   |none=>simp[d]at b
   |some o=>
    cases o with
    |box cells=>simp only[d]at b;cases f:ps i cells off with|none=>simp[f]at b|some q=>simp only[f,xaD,Prod.mk.injEq]at b;obtain⟨rfl,rfl⟩:=b;refine⟨q,h,λobjs l=>?_⟩;unfold res;rw[g];simp only[db,cH,bs,aj,e,l k cells d,f]
    |dead=>simp[d]at b|row=>simp[d]at b|map=>simp[d]at b
def LP{x y:Oper}{σ:aq}{K:aq->Prop}{t a k off:Nat}(p:x.op= .load t (.tmp a))(s:x.guard=none)(aj:σ.au a= .ptr k off)(l:∀t a x,y.op≠ .store t a x)(i:x.apart all y=true) (h:c3 P T G all x (λu=>c3 P T G all y K u) σ):c3 P T G all y (λw=>c3 P T G all x K w) σ:=by
 obtain⟨aE,a2,a3⟩:=Oper.apart_spec i;have f:∀d,y.dst=some d->x.dst≠some d:=λd z p=>a2 d p z;have n:∀(K:aq->Prop) σ,c3 P T G all x K σ=cf P T G x K σ:=λK σ=>by unfold c3;simp only[s]
 simp only[n]at h⊢;obtain⟨r,ab,ad⟩:=LO p aj h;have g:∀(K:aq->Prop) objs,(∀j c,σ.objs j=some (.box c)->objs j=some (.box c))->cf P T G x K ⟨σ.au,objs⟩=K (aq.put ⟨σ.au,objs⟩ x.dst r):=λK objs m=>iB (ad objs m);rw[e5,kk aE]at ab;rw[e5];split at ab
 .rename_i o
  try simp only[o]
  rw[gy aE a2]at ab;refine WV l (λobjs q m A=>?_) ab;rw[gy a3 f,g _ _ m,put_comm a2];exact A
 .rename_i o
  try simp only[o]
  show cf P T G x K (σ.put y.dst _);rw[gy a3 f];have:=g (λb=>K (b.put y.dst (.d (.val (.tuple #[]))))) σ.objs (λ_ _ h=>h);have e:cf P T G x (λb=>K (b.put y.dst (.d (.val (.tuple #[]))))) σ=K ((σ.put x.dst r).put y.dst (.d (.val (.tuple #[])))):=this;rw[e];exact ab
 exact ab.elim
def WW{y:Oper}{σ:aq}{K:aq->Prop}{a:Nat}(f:y.dst≠some a)(h:c3 P T G all y K σ):c3 P T G all y (λb=>b.au a=σ.au a/\K b) σ:=by
 have e:∀(objs:bK)(r:ax),(aq.put ⟨σ.au,objs⟩ y.dst r).au a=σ.au a:=λobjs r=>by
  cases i:y.dst with
  |none=>rfl
  |some d=>
   have:a≠d:=by rintro rfl;exact f i
   simp only[aq.put,b4 _ _ this]
 rw[e5]at h⊢;split at h
 .rename_i c
  try simp only[c]
  exact pH (λobjs r g=>⟨e objs r,g⟩) h
 .rename_i c
  try simp only[c]
  exact⟨e σ.objs _,h⟩
 exact h.elim
def LQ{K:aq->Prop}{i:Nat}{A:Oper}{t a k off:Nat}(ag:all[i]?=some A)(O:A.op= .load t (.tmp a))(z:A.guard=none){B:lX}(U:∀j g,j∈B->all[j]?=some g->∃e∈g.after,Region.binds .any e=true/\(e.on=i\/e.on∈B)):∀(fuel:Nat)(listed:Array Bool)(σ:aq),σ.au a= .ptr k off->(∀j,j∈B->listed.getD j true=false)->(∀j g,all[j]?=some g->j≠i->listed.getD j true=false->j∉B->A.apart all g=true/\∀t a x,g.op≠ .store t a x)->i∈Region.ready .any all listed->e2 P T G all i (fL P T G all K fuel (listed.setIfInBounds i true)) σ->fL P T G all K (fuel+1) listed σ:=by
 intro fuel
 induction fuel with
 |zero=>
  intro listed σ D f c u H;refine⟨λh=>(by rw[h]at u;cases u),λj E=>?_⟩;by_cases b:j=i;.subst b;exact H
  have R:=ready_mono E b;exfalso;have key:Region.ready .any all (listed.setIfInBounds i true)=[]:=by unfold e2 at H;simp only[ag]at H;unfold c3 at H;simp only[z]at H;obtain⟨r,ab,_⟩:=LO O D H;exact ab.1
  rw[key]at R;cases R
 |succ fuel ih=>
  intro listed σ D f c u H;refine⟨λh=>(by rw[h]at u;cases u),λj E=>?_⟩;by_cases b:j=i;.subst b;exact H
  obtain⟨o,g,s,w⟩:=xbV.1 E;have q:∀k,listed.getD k true=false->listed[k]?.getD false=true->False:=λk ak ab=>by
   rcases xbf k listed.size with I|I;.simp[I]at ak ab;rw[ak]at ab;cases ab
   simp[Array.getElem?_eq_none I]at ab
  have p:j∉B:=λL=>by
   obtain⟨e,X,V,d⟩:=U j g L s;have ab:=w e X V;rcases d with d|d
   .rw[d]at ab;exact q i (xbV.1 u).1 (by simpa using ab)
   exact q _ (f _ d) (by simpa using ab)
  obtain⟨S,Y⟩:=c j g s b o p;have ab:e2 P T G all i (λC=>e2 P T G all j (fL P T G all K fuel ((listed.setIfInBounds i true).setIfInBounds j true)) C) σ:=pI (λC Q=>Q.2 j (ready_mono E b)) H;have J:g.dst≠some a:=λW=>by obtain⟨_,_,a3⟩:=Oper.apart_spec S;refine a3 a W ?_;unfold Oper.looksAt;rw[O];simp[Op.operands]
  have ad:e2 P T G all j (λn=>n.au a=σ.au a/\e2 P T G all i (fL P T G all K fuel ((listed.setIfInBounds i true).setIfInBounds j true)) n) σ:=by unfold e2 at ab⊢;simp only[ag,s]at ab⊢;exact WW J (LP O z D Y S ab)
  have l:∀k ok,all[k]?=some ok->k≠i->(listed.setIfInBounds j true).getD k true=false->k∉B->A.apart all ok=true/\∀t a x,ok.op≠ .store t a x:=λk ok F M y N=>by
   refine c k ok F M ?_ N;by_cases m:j=k;.subst m;exact o
   rw[getD_set_ne true m]at y;exact y
  refine pI (λn ai=>ih (listed.setIfInBounds j true) n (ai.1.trans D) (λk F=>by
   have m:j≠k:=by rintro rfl;exact p F
   rw[getD_set_ne true m];exact f k F) l (ready_mono u (xcc b)) ?_) ad
  rw[Array.setIfInBounds_comm _ _ b];exact ai.2
end
section
variable{P:Program}{T:br}{G:ca}{all:Array Oper}
def s7:ax->Option Key
 | .ptr k _=>some k| .ek k _ _ _=>some k|_=>none
def keyOf(au:Nat->ax):Operand->Option Key
 | .tmp a=>s7 (au a)|_=>none
theorem Gh{au:Nat->ax}(x:Operand):s7 (bs G au x)=keyOf au x:=by cases x with|tmp a=>rfl|const v=>rfl|func f=>rfl|global g=>simp only[bs,keyOf];split<;>rfl
def oo(au:Nat->ax):Operand->Bool
 | .tmp a=>match au a with| .d _=>true|_=>false
 | .const _=>true|_=>false
def oq(au:Nat->ax)(k:Key):Op->Bool
 | .store _ a _=>match keyOf au a with|some b=>b !=k|none=>false
 |_=>false
def A5:Op->Bool
 | .store _ _ _=>true|_=>false
def wG(au:Nat->ax):Operand->Bool
 | .tmp a=>match au a with| .ptr _ _=>true|_=>false
 |_=>false
def WX:ax->Bool
 | .d _=>true| .cE _ _=>true|_=>false
def lb(au:Nat->ax):Operand->Bool
 | .tmp a=>WX (au a)|_=>false
def ot(au:Nat->ax):Op->Bool
 | .load _ a=>lb au a| .indexAddr _ x _=>lb au x| .lookup _ m _ _=>lb au m| .slice _ x _ _ none=>lb au x| .call ⟨.builtin .len,args,_⟩=>args.toList.all (lb au)|_=>false
def nf(au:Nat->ax)(x y:Oper):Bool:=pass x y||ot au x.op||match x.op with
 | .binOp _ _ a b _=>oo au a&&oo au b| .load _ a=>match keyOf au a with|some k=>(wG au a&&!A5 y.op)||fT y.op||gl y.op||e1 y.op||oq au k y.op|none=>false
 | .indexAddr _ _ _=>fT y.op||gl y.op||e1 y.op||A5 y.op| .store _ a _=>match keyOf au a with|some k=>oq au k y.op|none=>false
 |_=>false
def Gi(k:Key)(o o':bK):Prop:=o' k=o k
def s8(o o':bK):Prop:=∀k n es,o k=some (.row n es)->∃a,o' k=some (.row n a)/\a.length=es.length
def WY{y:Oper}{σ:aq}{K K':aq->Prop}{R:bK->Prop}(ak:R σ.objs)(d:∀r a,res T G σ y=some (r,a)->R (cA σ.objs a))(c:∀objs r,R objs->K (aq.put ⟨σ.au,objs⟩ y.dst r)->K' (aq.put ⟨σ.au,objs⟩ y.dst r)) (h:cf P T G y K σ):cf P T G y K' σ:=by unfold cf at*;rw[pG]at*;cases b:res T G σ y with|none=>simp only[b,xbB]at h⊢;exact wz h λr b=>c σ.objs r ak b|some p=>simp only[b,xaH]at h⊢;obtain⟨r,a⟩:=p;exact c _ _ (d r a b) h
def LR{σ:aq}{y:Oper}(h:(fT y.op||gl y.op||e1 y.op)=true){r:ax}{b:List (Key×b1)}(a:res T G σ y=some (r,b)):b=[]:=by
 unfold res at a;split at a;.cases a;rfl
 split at a;.cases a;rfl
 simp only[xbg]at h;rcases h with(h|h)|h
 .rw[(sV h).2]at a;cases a
 .rw[sW h]at a;cases a
 rw[(F9 (T:=T) (ev:=bs G σ.au) (objs:=σ.objs) (d:=y.dst.getD 9999) h).2.2]at a;cases a
def Gj{σ:aq}{y:Oper}{t:TypeId}{a x:Operand}(j:y.op= .store t a x){r:ax}{e:List (Key×b1)}(b:res T G σ y=some (r,e)): ∃k o o',keyOf σ.au a=some k/\e=[(k,o')]/\σ.objs k=some o/\((∃c h,o= .box c/\o'= .box h)\/∃n es d,o= .row n es/\o'= .row n d/\d.length=es.length):=by
 rw[<-Gh (G:=G)];unfold res at b;rw[j]at b;simp only[db,cH,Lf,cZ]at b;split at b
 case h_2=>cases b
 split at b
 case isFalse=>cases b
 split at b
 .rename_i k off f;split at b
  case h_2=>cases b
  rename_i cells g;split at b<;>cases b;exact⟨k,_,_,by rw[f];rfl,rfl,g,.inl ⟨_,_,rfl,rfl⟩⟩
 .rename_i k l c0 off f;split at b
  case h_2=>cases b
  rename_i q es m g p;split at b
  case isFalse=>cases b
  rename_i i;split at b<;>cases b;exact⟨k,_,_,by rw[f];rfl,rfl,g,.inr ⟨l,es,_,by rw[i.1],rfl,by simp⟩⟩
 cases b
def wH{objs:bK}{k:Key}{o:b1}(j:Key):cA objs [(k,o)] j=if j=k then some o else objs j:=by
 by_cases h:j=k;.subst h;simp[cA,dq]
 simp[cA,b4 _ _ h,h]
def WZ{σ:aq}{y:Oper}{k:Key}(h:(fT y.op||gl y.op||e1 y.op||oq σ.au k y.op)=true){r:ax}{b:List (Key×b1)}(c:res T G σ y=some (r,b)):Gi k σ.objs (cA σ.objs b):=by
 rcases xbw.1 h with h|h;.rw[LR h c];rfl
 unfold oq at h;split at h
 case h_2=>cases h
 rename_i t a x d;obtain⟨f,o,o',ab,rfl,ad,_⟩:=Gj d c;rw[ab]at h;simp only[bne_iff_ne,ne_eq]at h;show cA σ.objs [(f,o')] k=σ.objs k;rw[wH,xab (λe=>h e.symm)]
theorem s8.refl(o:bK):s8 o o:=λk n es h=>⟨es,h,rfl⟩
def W0{σ:aq}{y:Oper}(h:(fT y.op||gl y.op||e1 y.op||A5 y.op)=true){r:ax}{b:List (Key×b1)}(g:res T G σ y=some (r,b)):s8 σ.objs (cA σ.objs b):=by
 rcases xbw.1 h with h|h;.rw[LR h g];exact s8.refl _
 unfold A5 at h;split at h
 case h_2=>cases h
 rename_i t a x j;obtain⟨l,o,o',ab,rfl,ad,ai⟩:=Gj j g;intro k n es d;rw[wH];by_cases e:k=l
 .subst e;rw[xac rfl];rw[ad]at d;rcases ai with⟨c,p,rfl,rfl⟩|⟨m,i,f,rfl,rfl,ah⟩
  .cases d
  cases d;exact⟨f,rfl,ah⟩
 rw[xab e];exact⟨es,d,rfl⟩
def Looks(T:br)(G:ca)(x:Oper)(au:Nat->ax)(o:bK)(R:bK->Prop):Prop:=∀r a,res T G ⟨au,o⟩ x=some (r,a)->a=[]/\∀o',R o'->res T G ⟨au,o'⟩ x=some (r,[])
def A6{x y:Oper}{σ:aq}{K:aq->Prop}{R:bK->Prop}(n:x.guard=none)(m:e1 x.op=false)(i:x.apart all y=true)(ah:Looks T G x σ.au σ.objs R)(ak:R σ.objs)(u:∀r a,res T G σ y=some (r,a)->R (cA σ.objs a)) (h:c3 P T G all x (λo=>c3 P T G all y K o) σ):c3 P T G all y (λs=>c3 P T G all x K s) σ:=by
 obtain⟨aE,a2,a3⟩:=Oper.apart_spec i;have f:∀d,y.dst=some d->x.dst≠some d:=λd w B=>a2 d B w;have k:∀(K:aq->Prop) σ,c3 P T G all x K σ=cf P T G x K σ:=λK σ=>by unfold c3;simp only[n]
 simp only[k]at h⊢;have b:res T G σ x≠none:=by intro A;rw[jP A]at h;have:=q2 h;rw[m]at this;cases this
 obtain⟨p,t⟩:=Option.ne_none_iff_exists'.1 b;obtain⟨r,a⟩:=p;obtain⟨rfl,ad⟩:=ah r a t;have ab:c3 P T G all y K (σ.put x.dst r):=by rw[iB t]at h;exact h
 have g:∀(K:aq->Prop) objs,R objs->cf P T G x K ⟨σ.au,objs⟩=K (aq.put ⟨σ.au,objs⟩ x.dst r):=λK objs j=>iB (ad objs j);rw[e5,kk aE]at ab;rw[e5];split at ab
 .rename_i l
  try simp only[l]
  rw[gy aE a2]at ab;refine WY ak u (λobjs q j z=>?_) ab;rw[gy a3 f,g _ _ j,put_comm a2];exact z
 .rename_i l
  try simp only[l]
  show cf P T G x K (σ.put y.dst _);rw[gy a3 f];have e:cf P T G x (λc=>K (c.put y.dst (.d (.val (.tuple #[]))))) σ=K ((σ.put x.dst r).put y.dst (.d (.val (.tuple #[])))):=g (λc=>K (c.put y.dst (.d (.val (.tuple #[]))))) σ.objs ak;rw[e];exact ab
 exact ab.elim
def LS{au:Nat->ax}{x:Operand}(h:oo au x=true):∃d,bs G au x= .d d:=by
 unfold oo at h;split at h
 .split at h;.rename_i d a;exact⟨d,a⟩
  cases h
 .exact⟨_,rfl⟩
 cases h
def W1(o o':bK)(x:D):iU o (.d x)=iU o' (.d x):=by
 unfold iU;split<;>first|rfl|(rename_i h;cases h)|skip
 all_goals rfl
def wI{au:Nat->ax}{x:Operand}(h:lb au x=true):(∃d,bs G au x= .d d)\/∃cs off,bs G au x= .cE cs off:=by
 cases x with
 |tmp a=>simp only[lb]at h;show(∃d,au a= .d d)\/∃cs off,au a= .cE cs off;generalize au a=v at h;cases v<;>first|exact .inl ⟨_,rfl⟩|exact .inr ⟨_,_,rfl⟩|cases h
 |_=>cases h
def LU(o o':bK)(x:D):gY o (.d x)=gY o' (.d x):=by
 unfold gY;split<;>first|rfl|(rename_i h;cases h)|skip
 all_goals rfl
theorem W2(o o':bK)(cs:lZ)(off:Nat):gY o (.cE cs off)=gY o' (.cE cs off):=rfl
def W3{au:Nat->ax}{op:Op}(h:ot au op=true)(o o':bK):cH T (bs G au) o op=cH T (bs G au) o' op:=by
 cases op<;>simp only[ot,xaq]at h
 case load t a=>rcases wI (G:=G) h with⟨d,e⟩|⟨cs,off,e⟩<;>simp only[cH,e]
 case indexAddr t x i=>
  rcases wI (G:=G) h with⟨d,e⟩|⟨cs,off,e⟩;.simp only[cH,e];cases d<;>rfl
  simp only[cH,e]
 case lookup t m k ok=>
  rcases wI (G:=G) h with⟨d,e⟩|⟨cs,off,e⟩
  .simp only[cH,e];split
   .cases d<;>first|rfl|skip
    rename_i v;cases v<;>first|rfl|skip
    rename_i q;cases q<;>rfl
   rfl
  simp only[cH,e]
 case slice t x lo ag dU=>
  cases dU with
  |some _=>cases h
  |none=>
   simp only at h;rcases wI (G:=G) h with⟨d,e⟩|⟨cs,off,e⟩
   .simp only[cH,e,LU o o' d];cases d<;>rfl
   simp only[cH,e,W2 o o' cs off]
 case call c=>
  obtain⟨callee,args,l⟩:=c;cases callee with
  |value=>rfl|invoke=>rfl
  |builtin b=>
   cases b<;>first|rfl|skip
   simp only at h;simp only[cH];split
   .rename_i t x n g;rw[g]at h;simp only[xba,xce,xby]at h;rcases wI (G:=G) h with⟨d,e⟩|⟨cs,off,e⟩
    .simp only[e];cases j:T t with
     |none=>rfl
     |some i=>
      obtain⟨f,s,b,z⟩:=i;cases f
      case map k q=>
       cases d
       case val v=>
        cases v
        case map r=>cases r<;>rfl
        all_goals rfl
       all_goals rfl
      case slice q=>simp only[LU o o' d]
      case string=>
       cases d
       case val v=>cases v<;>rfl
       all_goals rfl
      all_goals rfl
    simp only[e];cases j:T t with|none=>rfl|some i=>obtain⟨f,s,b,z⟩:=i;cases f<;>rfl
   rfl
def LV{au:Nat->ax}{op:Op}(h:ot au op=true):gl op=true:=by
 cases op<;>simp only[ot,xaq]at h<;>first|rfl|skip
 case call c=>
  obtain⟨callee,args,a⟩:=c;cases callee with
  |value=>cases h
  |invoke=>cases h
  |builtin b=>cases b<;>first|rfl|cases h
def W4{x:Oper}{au:Nat->ax}{o:bK}(h:ot au x.op=true):Looks T G x au o (λ_=>True):=by
 intro r d a;have b:=LV h;unfold res at a;split at a
 .rename_i u hu;cases a;refine⟨rfl,λo' _=>?_⟩;unfold res;simp only[hu]
 rename_i c;split at a;.rename_i u hu;cases a;refine⟨rfl,λo' _=>?_⟩;unfold res;simp only at hu;simp only[c,W3 h o' o,hu]
 rw[sW b]at a;cases a
def W5{x:Oper}{op:BinOp}{t:TypeId}{a b:Operand}{q:TypeId}(f:x.op= .binOp op t a b q){au:Nat->ax}{o:bK}(i:oo au a=true)(j:oo au b=true):Looks T G x au o (λ_=>True):=by
 intro r l c;obtain⟨d1,g⟩:=LS (G:=G) i;obtain⟨d2,h⟩:=LS (G:=G) j;unfold res at c;rw[f]at c;cases e:db T (bs G au) (.binOp op t a b q)with
 |some u=>rw[e]at c;cases c;refine⟨rfl,λo' _=>?_⟩;unfold res;rw[f,e]
 |none=>
  rw[e]at c;simp only at c;have k:∀o',cH T (bs G au) o' (.binOp op t a b q)=cH T (bs G au) o (.binOp op t a b q):=by intro o';simp only[cH,g,h,W1 o' o]
  cases d:cH T (bs G au) o (.binOp op t a b q)with
  |some u=>rw[d]at c;cases c;refine⟨rfl,λo' _=>?_⟩;unfold res;rw[f,e];simp only[k o',d]
  |none=>rw[d]at c;simp[eR,cZ]at c
def W6{x:Oper}{t:TypeId}{a:Operand}{k:Key}(f:x.op= .load t a){au:Nat->ax}{o:bK}(g:keyOf au a=some k):Looks T G x au o (Gi k o):=by
 intro r i c;have d:s7 (bs G au a)=some k:=by rw[Gh];exact g
 unfold res at c;rw[f]at c;simp only[db]at c;have h:∀o',o' k=o k->cH T (bs G au) o' (.load t a)=cH T (bs G au) o (.load t a):=by
  intro o' e;simp only[cH];generalize bs G au a=v at d⊢;cases v<;>simp only[s7,reduceCtorEq,xaD]at d;.subst d;simp only[e]
  subst d;simp only[e]
 cases b:cH T (bs G au) o (.load t a)with
 |some u=>rw[b]at c;cases c;refine⟨rfl,λo' e=>?_⟩;unfold res;rw[f];simp only[db,h o' e,b]
 |none=>rw[b]at c;simp[eR,cZ]at c
def W7{x:Oper}{t:TypeId}{a b:Operand}(f:x.op= .indexAddr t a b){au:Nat->ax}{o:bK}:Looks T G x au o (s8 o):=by
 intro r m d;unfold res at d;rw[f]at d;simp only[db]at d;cases c:cH T (bs G au) o (.indexAddr t a b)with
 |some u=>
  rw[c]at d;cases d;refine⟨rfl,λo' j=>?_⟩;have h:cH T (bs G au) o' (.indexAddr t a b)=some r:=by
   simp only[cH]at c⊢;split at c
   .split at c
    .split at c
     .rename_i i;rw[xac i];split at c<;>first|exact c|skip
      rename_i key n;cases e:o key with
      |none=>rw[e]at c;cases c
      |some l=>
       cases l with
       |row k es=>obtain⟨g,ab,ad⟩:=j key k es e;rw[e]at c;rw[ab];simp only[ad]at c⊢;exact c
       |dead=>rw[e]at c;cases c
       |box=>rw[e]at c;cases c
       |map=>rw[e]at c;cases c
     cases c
    cases c
   .exact c
   cases c
  unfold res;rw[f];simp only[db,h]
 |none=>rw[c]at d;simp[eR,cZ]at d
def W8{o:bK}{k c:Key}{a b:b1}(h:k≠c):cA (cA o [(k,a)]) [(c,b)]=cA (cA o [(c,b)]) [(k,a)]:=by
 funext j
 simp only[wH];by_cases ab:j=k<;>by_cases ad:j=c<;>simp_all
def LW{y:Oper}{t:TypeId}{a x:Operand}{k:Key}(e:y.op= .store t a x){au:Nat->ax}{o o':bK}(d:keyOf au a=some k)(c:o' k=o k):res T G ⟨au,o'⟩ y=res T G ⟨au,o⟩ y:=by
 have b:s7 (bs G au a)=some k:=by rw[Gh];exact d
 unfold res;rw[e];simp only[db,cH,Lf,cZ];generalize bs G au a=v at b⊢;cases v<;>simp only[s7,reduceCtorEq,xaD]at b;.subst b;simp only[c]
 subst b;simp only[c]
def W9{x y:Oper}{σ:aq}{K:aq->Prop}{t t':TypeId}{a C v dC:Operand}{k B:Key}(A:x.op= .store t a v)(Q:y.op= .store t' C dC)(O:keyOf σ.au a=some k)(s:keyOf σ.au C=some B)(j:B≠k) (I:x.guard=none) (D:x.apart all y=true) (h:c3 P T G all x (λM=>c3 P T G all y K M) σ):c3 P T G all y (λN=>c3 P T G all x K N) σ:=by
 obtain⟨aE,a2,a3⟩:=Oper.apart_spec D;have n:∀d,y.dst=some d->x.dst≠some d:=λd V A=>a2 d A V;have F:∀(K:aq->Prop) σ,c3 P T G all x K σ=cf P T G x K σ:=λK σ=>by unfold c3;simp only[I]
 simp only[F]at h⊢;have b:∀{z:Oper}{tt:TypeId}{p q:Operand}{τ:aq}{K':aq->Prop},z.op= .store tt p q->cf P T G z K' τ->∃r bT f,res T G τ z=some (r,[(bT,f)])/\keyOf τ.au p=some bT/\K' (τ.step z.dst r [(bT,f)]):=by
  intro z tt p q τ K' R aY;cases E:res T G τ z with
  |none=>rw[jP E]at aY;have:=q2 aY;rw[R]at this;cases this
  |some u=>obtain⟨r,bU⟩:=u;obtain⟨bT,o,f,L,rfl,_,_⟩:=Gj R E;exact⟨r,bT,f,rfl,L,by rw[iB E]at aY;exact aY⟩
 obtain⟨r,bT,f,L,S,bY⟩:=b A h;rw[O]at S;cases S;have c:c3 P T G all y K (aq.put ⟨σ.au,cA σ.objs [(k,f)]⟩ x.dst r):=bY;have g:∀(i:bK),i k=σ.objs k->∀K':aq->Prop,cf P T G x K' ⟨σ.au,i⟩=K' (aq.put ⟨σ.au,cA i [(k,f)]⟩ x.dst r):=by
  intro i W K';have:res T G ⟨σ.au,i⟩ x=some (r,[(k,f)]):=by rw[LW A O W];exact L
  exact iB this
 rw[e5,kk aE]at c;rw[e5];have l:gJ all ⟨σ.au,cA σ.objs [(k,f)]⟩ y=gJ all σ y:=rfl;rw[l]at c;split at c
 .rename_i H
  try simp only[H]
  rw[gy aE a2]at c;obtain⟨dm,cM,i,X,Y,Z⟩:=b Q c;have w:keyOf σ.au C=some cM:=Y;rw[s]at w;cases w;have J:res T G σ y=some (dm,[(B,i)]):=by rw[<-X];exact(LW (T:=T) (G:=G) Q (o:=σ.objs) (o':=cA σ.objs [(k,f)]) s (by rw[wH,xab j])).symm
  rw[iB J];show cf P T G x K (aq.put ⟨σ.au,cA σ.objs [(B,i)]⟩ y.dst dm);rw[gy a3 n,g _ (by rw[wH,xab (λe=>j e.symm)]),put_comm a2,W8 j];exact Z
 .rename_i H
  try simp only[H]
  show cf P T G x K (σ.put y.dst _);rw[gy a3 n];have e:=g σ.objs rfl (λm=>K (m.put y.dst (.d (.val (.tuple #[])))));have U:cf P T G x (λm=>K (m.put y.dst (.d (.val (.tuple #[]))))) σ=_:=e;rw[U];exact c
 exact c.elim
def Xa{x y:Oper}{σ:aq}{K:aq->Prop}(d:x.guard=none)(c:x.apart all y=true)(h:nf σ.au x y=true)(H:c3 P T G all x (λl=>c3 P T G all y K l) σ):c3 P T G all y (λf=>c3 P T G all x K f) σ:=by
 unfold nf at h;rcases xbw.1 h with h|h
 .rcases xbw.1 h with h|h;.exact swap c h H
  refine A6 d ?_ c (W4 h) trivial (λ_ _ _=>trivial) H;cases o:e1 x.op with|false=>rfl|true=>have:=wy o;rw[LV h]at this;cases this.2.1
 split at h;.rename_i op t a b q e;rw[xam]at h;exact A6 d (by rw[e];rfl) c (W5 e h.1 h.2) trivial (λ_ _ _=>trivial) H
 .rename_i t a e;split at h
  case h_2=>cases h
  rename_i k g;simp only[xbg]at h;have other:(fT y.op||gl y.op||e1 y.op||oq σ.au k y.op)=true->c3 P T G all y (λf=>c3 P T G all x K f) σ:=λn=>A6 d (by rw[e];rfl) c (W6 e g) (rfl:Gi k σ.objs σ.objs) (λ_ _ j=>WZ n j) H
  rcases h with(((h|h)|h)|h)|h
  .rw[xam]at h;obtain⟨ab,ad⟩:=h;unfold wG at ab;split at ab
   case h_2=>cases ab
   rename_i a0;split at ab
   case h_2=>cases ab
   rename_i s9 off aj;refine LP e d aj ?_ c H;intro t' m dC p;rw[p]at ad;cases ad
  .exact other (by simp[h])
  .exact other (by simp[h])
  .exact other (by simp[h])
  exact other (by simp[h])
 .rename_i t a b e;exact A6 d (by rw[e];rfl) c (W7 e) (s8.refl _) (λ_ _ j=>W0 h j) H
 .rename_i t a v e;split at h
  case h_2=>cases h
  rename_i k g;unfold oq at h;split at h
  case h_2=>cases h
  rename_i t' m dC r;split at h
  case h_2=>cases h
  rename_i s i;exact W9 e r g i (by simpa using h) d c H
 cases h
def iD:Op->List Tmp
 | .binOp _ _ a b _=>(match a with| .tmp t=>[t]|_=>[])++(match b with| .tmp t=>[t]|_=>[])
 | .load _ (.tmp a)=>[a]| .store _ (.tmp a) _=>[a]| .indexAddr _ (.tmp a) _=>[a]| .lookup _ (.tmp a) _ _=>[a]| .slice _ (.tmp a) _ _ _=>[a]| .call ⟨.builtin .len,args,_⟩=>args.toList.filterMap λx=>match x with| .tmp t=>some t|_=>none
 |_=>[]
def ng:Op->List Tmp
 | .store _ (.tmp a) _=>[a]|_=>[]
theorem Gk{s s':Nat->ax}{x:Operand}(h:∀t,x= .tmp t->s t=s' t):keyOf s x=keyOf s' x:=by cases x with|tmp t=>simp only[keyOf,h t rfl]|_=>rfl
theorem LX{s s':Nat->ax}{x:Operand}(h:∀t,x= .tmp t->s t=s' t):oo s x=oo s' x:=by cases x with|tmp t=>simp only[oo,h t rfl]|_=>rfl
theorem Xb{s s':Nat->ax}{x:Operand}(h:∀t,x= .tmp t->s t=s' t):wG s x=wG s' x:=by cases x with|tmp t=>simp only[wG,h t rfl]|_=>rfl
def Xc{s s':Nat->ax}{x y:Oper}(h:∀t,t∈iD x.op\/t∈ng y.op->s t=s' t):nf s x y=nf s' x y:=by
 have j:∀k,oq s k y.op=oq s' k y.op:=by
  intro k;unfold oq;split;.rename_i t a v n;rw[Gk (s:=s) (s':=s') (x:=a) (λq o=>h q (.inr (by rw[n,o];simp[ng])))]
  rfl
 have m:ot s x.op=ot s' x.op:=by
  have f:∀t,t∈iD x.op->s t=s' t:=λt e=>h t (.inl e);generalize x.op=op at f;have one:∀a:Operand,(∀t,a= .tmp t->t∈iD op)->lb s a=lb s' a:=by intro a d;cases a with|tmp t=>simp only[lb,f t (d t rfl)]|_=>rfl
  cases op<;>simp only[ot]
  case load t a=>exact one a (by rintro t rfl;simp[iD])
  case indexAddr t a i=>exact one a (by rintro t rfl;simp[iD])
  case lookup t a k ok=>exact one a (by rintro t rfl;simp[iD])
  case slice t a lo ag dU=>
   cases dU with
   |none=>exact one a (by rintro t rfl;simp[iD])
   |some _=>rfl
  case call c=>
   obtain⟨callee,args,p⟩:=c;cases callee with
   |value=>rfl|invoke=>rfl
   |builtin b=>
    cases b<;>first|rfl|skip
    simp only;rw[Bool.eq_iff_iff,xax,xax];have d:∀a∈args.toList,lb s a=lb s' a:=λa d=>one a (by rintro t rfl;simp only[iD,List.mem_filterMap];exact⟨_,d,rfl⟩);exact⟨λh a g=>by rw[<-d a g];exact h a g,λh a g=>by rw[d a g];exact h a g⟩
 unfold nf;rw[m]
 congr 1
 split;.rename_i op t a b q f;have d:∀t,a= .tmp t->s t=s' t:=λt e=>h t (.inl (by rw[f,e];simp[iD]));have l:∀t,b= .tmp t->s t=s' t:=λt e=>h t (.inl (by rw[f,e];simp[iD]));rw[LX d,LX l]
 .rename_i t a f;have d:∀t,a= .tmp t->s t=s' t:=λt e=>h t (.inl (by rw[f,e];simp[iD]));rw[Gk d,Xb d];split
  .rw[j]
  rfl
 .rfl
 .rename_i t a v f;have d:∀t,a= .tmp t->s t=s' t:=λt e=>h t (.inl (by rw[f,e];simp[iD]));rw[Gk d];split
  .rw[j]
  rfl
 rfl
def Xd{y:Oper}{σ:aq}{K:aq->Prop}{L:List Tmp}(g:∀a∈L,y.dst≠some a)(h:c3 P T G all y K σ):c3 P T G all y (λb=>(∀a∈L,b.au a=σ.au a)/\K b) σ:=by
 have e:∀(objs:bK)(r:ax),∀a∈L,(aq.put ⟨σ.au,objs⟩ y.dst r).au a=σ.au a:=λobjs r a f=>by
  cases j:y.dst with
  |none=>rfl
  |some d=>
   have:a≠d:=by rintro rfl;exact g a f j
   simp only[aq.put,b4 _ _ this]
 rw[e5]at h⊢;split at h
 .rename_i c
  try simp only[c]
  exact pH (λobjs r i=>⟨e objs r,i⟩) h
 .rename_i c
  try simp only[c]
  exact⟨e σ.objs _,h⟩
 exact h.elim
def Xe{x:Oper}{σ:aq}{p:Prop}(h:c3 P T G all x (λ_=>p) σ):p:=by
 rw[e5]at h;split at h
 .unfold cf at h;split at h;.exact h
  unfold gx at h;split at h
  .split at h;.obtain⟨_,_,_,_,_,_,⟨r,a⟩,_,q⟩:=h;exact q r (by rw[a])
   exact h.elim
  exact h.elim
 .exact h
 exact h.elim
def LY{K:aq->Prop}{i:Nat}{s:Oper}(ag:all[i]?=some s)(Q:s.guard=none){B:lX}(U:∀j d,j∈B->all[j]?=some d->∃e∈d.after,Region.binds .any e=true/\(e.on=i\/e.on∈B)){s0:Nat->ax}{L:List Tmp}(O:∀t∈iD s.op,t∈L): ∀(fuel:Nat)(listed:Array Bool)(σ:aq),(∀t∈L,σ.au t=s0 t)->(∀j,j∈B->listed.getD j true=false)->(∀j d,all[j]?=some d->j≠i->listed.getD j true=false->j∉B->s.apart all d=true/\nf s0 s d=true/\(∀t∈L,d.dst≠some t)/\∀t∈ng d.op,t∈L)->i∈Region.ready .any all listed->e2 P T G all i (fL P T G all K fuel (listed.setIfInBounds i true)) σ->fL P T G all K (fuel+1) listed σ:=by
 intro fuel
 induction fuel with
 |zero=>
  intro listed σ F g c w H;refine⟨λh=>(by rw[h]at w;cases w),λj C=>?_⟩;by_cases b:j=i;.subst b;exact H
  have S:=ready_mono C b;exfalso;have key:Region.ready .any all (listed.setIfInBounds i true)=[]:=by have E:=pI (K':=λ_=>Region.ready .any all (listed.setIfInBounds i true)=[]) (λbU x=>x.1) H;unfold e2 at E;simp only[ag]at E;exact Xe E
  rw[key]at S;cases S
 |succ fuel ih=>
  intro listed σ F g c w H;refine⟨λh=>(by rw[h]at w;cases w),λj C=>?_⟩;by_cases b:j=i;.subst b;exact H
  obtain⟨o,d,u,y⟩:=xbV.1 C;have q:∀k,listed.getD k true=false->listed[k]?.getD false=true->False:=λk ak ab=>by
   rcases xbf k listed.size with x|x;.simp[x]at ak ab;rw[ak]at ab;cases ab
   simp[Array.getElem?_eq_none x]at ab
  have p:j∉B:=λI=>by
   obtain⟨e,W,V,f⟩:=U j d I u;have ab:=y e W V;rcases f with f|f
   .rw[f]at ab;exact q i (xbV.1 w).1 (by simpa using ab)
   exact q _ (g _ f) (by simpa using ab)
  obtain⟨X,Y,Z,bY⟩:=c j d u b o p;have ab:e2 P T G all i (λA=>e2 P T G all j (fL P T G all K fuel ((listed.setIfInBounds i true).setIfInBounds j true)) A) σ:=pI (λA R=>R.2 j (ready_mono C b)) H;have ad:e2 P T G all j (λn=>(∀a∈L,n.au a=σ.au a)/\e2 P T G all i (fL P T G all K fuel ((listed.setIfInBounds i true).setIfInBounds j true)) n) σ:=by
   unfold e2 at ab⊢;simp only[ag,u]at ab⊢;have N:nf σ.au s d=true:=by
    rw[<-Y];refine Xc λt r=>F t ?_;rcases r with r|r
    .exact O t r
    exact bY t r
   exact Xd Z (Xa Q X N ab)
  have l:∀k ok,all[k]?=some ok->k≠i->(listed.setIfInBounds j true).getD k true=false->k∉B->s.apart all ok=true/\nf s0 s ok=true/\(∀t∈L,ok.dst≠some t)/\∀t∈ng ok.op,t∈L:=λk ok D J z M=>by
   refine c k ok D J ?_ M;by_cases m:j=k;.subst m;exact o
   rw[getD_set_ne true m]at z;exact z
  refine pI (λn ai=>ih (listed.setIfInBounds j true) n (λt r=>(ai.1 t r).trans (F t r)) (λk D=>by
   have m:j≠k:=by rintro rfl;exact p D
   rw[getD_set_ne true m];exact g k D) l (ready_mono w (xcc b)) ?_) ad
  rw[Array.setIfInBounds_comm _ _ b];exact ai.2
end
structure V where
 name:ByteArray
 bool:Bool
 lo:Int
 ag:Int
def V.cells(v:V):lZ:=[aA v.name,aD v.bool,aa v.lo,aa v.ag]
def V.d(v:V):D:= .agg v.cells
def aM(l:List V):D:= .aw 4 (l.map V.cells)
def kN(n:Int):D:= .val (.int .u8 n)
def jA(n:Int):Prop:=-9223372036854775808<=n/\n<=9223372036854775807
def V.ok(v:V):Prop:=jA v.lo/\jA v.ag/\v.name.size<=9223372036854775807
def V.span(v:V):Int:=if v.bool then 2 else if v.lo>v.ag then 0 else if v.ag-v.lo<1073741824 then v.ag-v.lo+1 else 1073741825
def bitsOf(n:Int):Nat:=if n<=1 then 0 else Nat.log2 (n-1).toNat+1
def Xf{n:Int}{k:Nat}(ab:∀j:Nat,j<k->(2:Int)^j<n)(ad:n<=2^k):bitsOf n=k:=by
 unfold bitsOf;cases k with
 |zero=>simp at ad;simp[ad]
 |succ k=>
  have ai:=ab k oZ;have c:(0:Int)<2^k:=Int.pow_pos oZ;rw[xab oZ];have e:Nat.log2 (n-1).toNat=k:=by
   have a:(2:Nat)^k<=(n-1).toNat:=by
    have:((2^k:Nat):Int)=2^k:=sZ
    omega
   have b:(n-1).toNat<2^(k+1):=by
    have:((2^(k+1):Nat):Int)=2^(k+1):=sZ
    omega
   exact(Nat.log2_eq_iff (by have:=Nat.two_pow_pos k;omega)).2 ⟨a,b⟩
  omega
def LZ{n:Int}(h:1<n):bitsOf n=bitsOf (n/2+n%2)+1:=by
 unfold bitsOf;rw[xab oZ];by_cases ad:n=2;.subst ad;decide
 rw[xab oZ];have e:(n/2+n%2-1).toNat=(n-1).toNat/2:=oZ
 rw[e];have ai:(n-1).toNat≠0:=oZ
 have c:(n-1).toNat/2≠0:=oZ
 obtain⟨a,b⟩:=(Nat.log2_eq_iff c).1 rfl;have:Nat.log2 (n-1).toNat=Nat.log2 ((n-1).toNat/2)+1:=by
  refine(Nat.log2_eq_iff ai).2 ⟨?_,?_⟩;.rw[Nat.pow_succ];omega
  rw[Nat.pow_succ];omega
 omega
def nh(c:Int):Bool:=(decide (c>=97)&&decide (c<=122))||(decide (c>=65)&&decide (c<=90))
def q8(c:Int):Bool:=decide (c>=48)&&decide (c<=57)
def iV(c:Int):Bool:=nh c||q8 c||(c==95)
def L0{lo ag:Int}(ab:jA lo)(ad:jA ag)(h:lo<=ag):IntKind.u64.wrap (IntKind.u64.wrap ag-IntKind.u64.wrap lo)=ag-lo:=by unfold jA at ab ad;simp only[xcu];omega
def V.L1{v:V}(h:v.bool=true):v.span=2:=by simp[V.span,h]
def V.L2{v:V}(h:v.bool=false)(ab:v.lo>v.ag):v.span=0:=by simp[V.span,h,ab]
def V.Gl{v:V}(h:v.bool=false)(ab:v.lo<=v.ag)(ad:v.ag-v.lo<1073741824):v.span=v.ag-v.lo+1:=by simp[V.span,h,ad];omega
def V.Gm{v:V}(h:v.bool=false)(ab:v.lo<=v.ag)(ad:1073741824<=v.ag-v.lo):v.span=1073741825:=by simp[V.span,h];omega
def has(x:ByteArray)(l:List ByteArray):Bool:=l.any λy=>decide (y=x)
def idxOf(x:ByteArray)(l:List ByteArray):Int:=match l.findIdx? (λy=>decide (y=x))with|some i=>(i:Nat)|none=>-1
def L3{x:ByteArray}{l:List ByteArray}(h:∀j:Nat,j<l.length->l[j]?≠some x):idxOf x l=-1:=by
 unfold idxOf;have:l.findIdx? (λy=>decide (y=x))=none:=by rw[List.findIdx?_eq_none_iff];intro y b;obtain⟨j,a⟩:=xaJ.1 b;have ab:=h j (lV.1 a).1;rw[a]at ab;simpa using ab
 rw[this]
def L4{x:ByteArray}{l:List ByteArray}{i:Nat}(h:∀j:Nat,j<i->l[j]?≠some x)(ag:l[i]?=some x):idxOf x l=i:=by
 unfold idxOf;obtain⟨a,b⟩:=lV.1 ag;have:l.findIdx? (λy=>decide (y=x))=some i:=by rw[xbu];refine⟨a,by simpa using b,λj c=>?_⟩;have ab:=h j c;rw[xaa oZ]at ab;simpa using ab
 rw[this]
def L5(x:ByteArray)(l:List ByteArray):decide (idxOf x l>=0)=has x l:=by
 unfold idxOf has;cases h:l.findIdx? (λy=>decide (y=x))with
 |none=>
  rw[List.findIdx?_eq_none_iff]at h;have:l.any (λy=>decide (y=x))=false:=by rw[List.any_eq_false];intro y a;simpa using h y a
  rw[this];rfl
 |some i=>obtain⟨ab,ad,_⟩:=xbu.1 h;have:l.any (λy=>decide (y=x))=true:=xbn.2 ⟨_,xaX ab,ad⟩;rw[this];simp
def L6{x:ByteArray}{l:List ByteArray}{i:Nat}(h:l[i]?=some x):has x l=true:=xbn.2 ⟨x,xad h,by simp⟩
def L7{x:ByteArray}{l:List ByteArray}(h:∀j:Nat,j<l.length->l[j]?≠some x):has x l=false:=by unfold has;rw[List.any_eq_false];intro y b;obtain⟨j,a⟩:=xaJ.1 b;have ab:=h j (lV.1 a).1;rw[a]at ab;simpa using ab
def kl(p:Int->Bool)(s:ByteArray)(i:Nat):Bool:=match s[i]? with|some b=>p b.toNat|none=>false
def jQ(p:Int->Bool)(s:ByteArray):Nat:=((List.range (s.size+1)).find? λi=>!kl p s i).getD 0
theorem A7{s:ByteArray}{i:Nat}:s[i]?=if h:i<s.size then some s[i]else none:=rfl
def Xg{p:Int->Bool}{s:ByteArray}{i:Nat}(h:kl p s i=true):i<s.size:=by
 unfold kl at h;rw[A7]at h;by_cases ab:i<s.size;.exact ab
 rw[dif_neg ab]at h;cases h
def words:List ByteArray:=[⟨#[65]⟩,⟨#[65,70]⟩,⟨#[65,71]⟩,⟨#[65,88]⟩,⟨#[69]⟩,⟨#[69,70]⟩,⟨#[69,71]⟩,⟨#[69,88]⟩,⟨#[85]⟩,⟨#[98,111,111,108]⟩,⟨#[100,101,102]⟩,⟨#[101,108,115,101]⟩,⟨#[102,97,105,114]⟩,⟨#[102,97,108,115,101]⟩,⟨#[105,102]⟩,⟨#[105,110,105,116]⟩,⟨#[105,110,118,97,114]⟩,⟨#[109,111,100]⟩,⟨#[110,101,120,116]⟩,⟨#[115,112,101,99]⟩,⟨#[116,104,101,110]⟩,⟨#[116,114,97,110,115]⟩,⟨#[116,114,117,101]⟩,⟨#[118,97,114]⟩]
def isName(s:ByteArray):Bool:=decide ((s.size:Int)>=1)&&decide ((s.size:Int)<=24)&&kl nh s 0&&((jQ iV s:Int)==(s.size:Int))&&!has s words
def L8(s:ByteArray):(decide (s=⟨#[]⟩)=true/\decide ((s.size:Int)>=1)=false)\/∃b,decide (s=⟨#[]⟩)=false/\decide ((s.size:Int)>=1)=true/\s[0]?=some b:=by
 by_cases h:0<s.size
 .refine .inr ⟨s[0],?_,?_,?_⟩
  .have:s≠⟨#[]⟩:=by rintro rfl;exact absurd h dZ
   simpa using this
  .simp;omega
  rw[A7,dif_pos h]
 refine .inl ⟨?_,?_⟩
 .have ak:s.size=0:=oZ
  have:s=⟨#[]⟩:=by
   cases s with|mk d=>
   congr 1
   exact xbp ak
  simpa using this
 simp;omega
def ou(v:V):Bool:=decide ((if v.ag>v.lo then v.ag else v.lo)>255)||decide ((if v.ag<v.lo then v.ag else v.lo)< -255)
def ta(seen:List V)(v:V):Int:=if !isName v.name then 12 else if has v.name (seen.map V.name)then 6 else if v.bool&&(v.lo !=0||v.ag !=0)then 3
 else if !v.bool&&(decide (v.lo>v.ag)||ou v||decide (IntKind.i64.wrap (v.ag-v.lo)>=64))then 2 else 0
def gm(l:List V)(i:Nat):Int:=match l[i]? with|some v=>ta (l.take i) v|none=>0
def hs(l:List V):Int×Int:=match(List.range l.length).find? (λi=>gm l i !=0)with|some i=>((i:Int),gm l i)|none=>(0,0)
def L9{l:List V}{i:Nat}{e:Int}(h:∀j:Nat,j<i->gm l j=0)(ag:i<l.length)(a:gm l i=e)(ak:e≠0):hs l=((i:Int),e):=by
 unfold hs;have:(List.range l.length).find? (λi=>gm l i !=0)=some i:=by rw[List.find?_range_eq_some];exact⟨by simpa[a]using ak,by simpa using ag,λj b=>by simp[h j b]⟩
 rw[this];simp[a]
def Ma{l:List V}(h:∀j:Nat,j<l.length->gm l j=0):hs l=(0,0):=by
 unfold hs;have:(List.range l.length).find? (λi=>gm l i !=0)=none:=by rw[List.find?_eq_none];intro j a;simp[h j (by simpa using a)]
 rw[this]
def Xh{v:V}(h:v.ok):(!v.bool&&(decide (v.lo>v.ag)||ou v||decide (IntKind.i64.wrap (v.ag-v.lo)>=64)))=(!v.bool&&(decide (v.lo>v.ag)||!(decide (v.lo>=-255)&&decide (v.lo<=255))||!(decide (v.ag>=-255)&&decide (v.ag<=255))||decide (v.span>64))):=by
 cases g:v.bool with
 |true=>rfl
 |false=>
  by_cases ab:v.lo>v.ag;.simp[ab]
  have a:v.lo<=v.ag:=oZ
  by_cases ad:-255<=v.lo/\v.ag<=255
  .have b:ou v=false:=by
    unfold ou;split<;>(try split)<;>simp<;>omega
   have c:(decide (v.lo>=-255)&&decide (v.lo<=255))=true:=uZ
   have d:(decide (v.ag>=-255)&&decide (v.ag<=255))=true:=uZ
   rw[V.Gl g a oZ,b,c,d,wrap64 _ oZ oZ];have e:decide (v.lo>v.ag)=false:=by simpa using a
   have f:decide (v.ag-v.lo>=64)=decide (v.ag-v.lo+1>64):=by rw[decide_eq_decide];omega
   rw[e,f];rfl
  have b:ou v=true:=by unfold ou;split<;>(try split)<;>simp<;>omega
  have c:(!(decide (v.lo>=-255)&&decide (v.lo<=255))||!(decide (v.ag>=-255)&&decide (v.ag<=255)))=true:=uZ
  rw[b];revert c;generalize decide (v.lo>v.ag)=p;generalize (decide (v.lo>=-255)&&decide (v.lo<=255))=q;generalize (decide (v.ag>=-255)&&decide (v.ag<=255))=r;cases p<;>cases q<;>cases r<;>simp
def Xi{l:List V}{x:ByteArray}{i:Nat}(h:∀j:Nat,j<i->(l.map V.name)[j]?≠some x):has x ((l.take i).map V.name)=false:=by refine L7 λj a=>?_;rw[List.map_take,xaP];simp at a;rw[xac oZ];exact h j oZ
theorem Xj{l:List V}{w:V}{k i:Nat}(a:k<i)(b:l[k]?=some w):has w.name ((l.take i).map V.name)=true:=by refine L6 (i:=k) ?_;rw[List.map_take,xaP,xac a,xag,b];rfl
end Go.Am
