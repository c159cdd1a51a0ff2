/- Calls, regions in any order, loops: their rules over such values. No condition. -/
import Derived.Test.YtjonbfbkkkcjgaaGreatDoorEngA
import Derived.Still
import Derived.Scope
set_option linter.all false
set_option linter.unnecessarySimpa false
namespace Go.Am
def aq.put(σ:aq)(dst:Option Tmp)(r:ax):aq:=match dst with|some d=>⟨bE σ.au d r,σ.objs⟩|none=>σ
def eD(T:br)(G:ca)(σ:aq)(o:Oper):Option aq:=match db T (bs G σ.au) o.op with|some r=>some (σ.put o.dst r)|none=>match cH T (bs G σ.au) σ.objs o.op with|some r=>some (σ.put o.dst r)|none=>match eR T (bs G σ.au) σ.objs (o.dst.getD 9999) o.op with|some (r,a)=>some (aq.put ⟨σ.au,cA σ.objs a⟩ o.dst r)|none=>none
structure fS(m:Mem)(fr:dh)(w:World):Prop where
 mem:∀b o,m b=some o->w.heap[b]?=some o
 frame:Kz fr w
 apart:∀b,m b≠none->fr b=none
def Den.ok{m:Mem}{fr:dh}{ρ:ch}{σ:aq}{a:Act}{w:World}(h:Den m fr ρ σ a w):fS m fr w:=⟨h.mem,h.frame,h.apart⟩
def jy(m:Mem)(a:lZ)(vs:List Value):Prop:=vs.length=a.length/\∀(i:Nat)(d:D)(v:Value),a[i]?=some d->vs[i]?=some v->bH m d v
def pC(P:Program)(f:FuncId):Prop:=∃fn,P.funcs[f]?=some fn/\(fn.name== "runtime.NumGoroutine")=false/\fn.body.isNone=false
structure cC(P:Program)(G:ca)(f:FuncId)(h4:lZ)(R:D->Prop):Prop where
 fn:pC P f
 run:∀m fr w vs,fR G m->fS m fr w->jy m h4 vs->Calls P f vs.toArray w λe w'=>∃v q1 r,e= .returned v/\R r/\m.le q1/\fS q1 fr w'/\bH q1 r v
def cC.mono{P:Program}{G:ca}{f:FuncId}{b:lZ}{R a:D->Prop}(h:cC P G f b R)(i:∀r,R r->a r):cC P G f b a:=⟨h.fn,λm fr w vs d g c=>(h.run m fr w vs d g c).mono λe w' ⟨v,j,r,ab,ad,ai⟩=>⟨v,j,r,ab,i r ad,ai⟩⟩
def lS:lZ->lZ->Prop
 |[],[]=>True|x::xs,y::a=>x.le y/\lS xs a|_,_=>False
def lS.refl:∀l:lZ,lS l l
 |[]=>trivial|x::l=>⟨x.le_refl,lS.refl l⟩
def lS.ok{m:Mem}:∀{b c:lZ}{vs:List Value},lS b c->jy m b vs->jy m c vs
 |[],[],vs,_,h=>h|x::b,y::c,[],_,h=>by have:=h.1;simp at this|x::b,y::c,v::vs,ah,h=>by have ih:=lS.ok (m:=m) (vs:=vs) ah.2 ⟨by simpa using h.1,λi d u a hu=>h.2 (i+1) d u (by simpa using a) (by simpa using hu)⟩;refine⟨by simpa using ih.1,?_⟩;intro i d u a hu;cases i with|zero=>simp at a hu;subst a;subst hu;exact ah.1 m v (h.2 0 x v rfl rfl)|succ i=>exact ih.2 i d u (by simpa using a) (by simpa using hu)
 |[],y::c,vs,h,_=>h.elim|x::b,[],vs,h,_=>h.elim
def D.flat:D->Bool
 | .val _=>true| .agg cs=>cs.all λc=>match c with| .val _=>true|_=>false
 | .az cs=>cs.all λc=>match c with
  | .val _=>true| .agg cs=>cs.all λc=>match c with| .val _=>true|_=>false
  |_=>false
 |_=>false
def VV{m b:Mem}{c:D}{v:Value}(h:(match c with| .val _=>true|_=>false)=true)(a:bH m c v):bH b c v:=by cases c<;>first|(cases a;exact .val _)|cases h
def flat_agg{m d:Mem}{cs:lZ}{v:Value}(h:(cs.all λc=>match c with| .val _=>true|_=>false)=true)(b:bH m (.agg cs) v):bH d (.agg cs) v:=by cases b with|agg _ vs ah aY=>exact .agg _ _ ah λi c u a hu=>VV (xax.1 h c (xad a)) (aY i c u a hu)
def D.VW{m d:Mem}{x:D}{v:Value}(h:x.flat=true)(a:bH m x v):bH d x v:=by
 cases x with
 |val=>cases a;exact .val _
 |agg cs=>exact flat_agg h a
 |az cs=>
  cases a with
  |az _ vs ah aY=>
   refine .az _ _ ah λi c u b hu=>?_;have ab:=xax.1 h c (xad b);have ad:=aY i c u b hu;cases c with
   |val=>cases ad;exact .val _
   |agg cs=>exact flat_agg ab ad|az=>cases ab
   |aw=>cases ab
   |cP=>cases ab
   |mp=>cases ab
   |ref=>cases ab
   |fn=>cases ab
 |aw=>cases h
 |cP=>cases h
 |mp=>cases h
 |ref=>cases h
 |fn=>cases h
def lT(objs:bK):ax->oX
 | .d x=>some x| .row key=>match objs key with|some (.row k es)=>some (.aw k es)|_=>none
 | .sub key k i len=>match objs key with
  |some (.row a es)=>if k=a/\i+len<=es.length then some (.aw k ((es.drop i).take len))else none
  |_=>none
 | .map key=>match objs key with|some (.map es)=>some (.mp es)|_=>none
 |_=>none
def e0{a:Type}:List (Option a)->Option (List a)
 |[]=>some []|some x::r=>match e0 r with|some l=>some (x::l)|none=>none
 |none::_=>none
def lU{b:Type}:∀{l:List (Option b)} {r:List b},e0 l=some r->r.length=l.length/\∀(i:Nat)(x:b),r[i]?=some x->l[i]?=some (some x)
 |[],r,h=>by simp[e0]at h;subst h;simp|none::l,r,h=>by simp[e0]at h
 |some x::l,r,h=>by
  simp only[e0]at h;split at h
  case h_2=>cases h
  rename_i d a;cases h;have ih:=lU a;refine⟨by simp[ih.1],?_⟩;intro i y c;cases i with|zero=>simpa using c|succ i=>exact ih.2 i y (by simpa using c)
def jz(objs:bK):ax->oX
 | .ptr key off=>match objs key with
  |some (.box cells)=>match e0 (cells.map (lT objs))with|some cs=>some (.ref cs off)|none=>none
  |_=>none
 | .cE cs off=>some (.ref cs off)|x=>lT objs x
def kj(objs:bK):ax->oX
 | .agg cs=>match e0 (cs.map (jz objs))with|some a=>some (.agg a)|none=>none
 | .fn f first cap=>match e0 (first.map (jz objs)),e0 (cap.map (jz objs))with|some as,some et=>some (.fn f as et)|_,_=>none
 |x=>jz objs x
def toD(objs:bK):ax->oX
 | .az cs=>match e0 (cs.map (kj objs))with|some a=>some (.az a)|none=>none
 |x=>kj objs x
noncomputable def Den.all(m:Mem)(ρ:ch)(objs:bK)(w:World):Mem:=λb=>match m b with|some o=>some o|none=>open Classical in if∃k o,objs k=some o/\o.owns=true/\blockOf (ρ k)=some b then w.heap[b]? else none
section
variable{P:Program}{T:br}{G:ca}{m:Mem}{fr:dh}{ρ:ch}{σ:aq}{a:Act}{w:World}
def Den.sS(m:Mem)(ρ:ch)(objs:bK)(w:World):m.le (Den.all m ρ objs w):=by intro b o h;simp[Den.all,h]
def Den.AJ(h:Den m fr ρ σ a w){k:Key}{o:b1}{b:Nat}(d:σ.objs k=some o)(e:o.owns=true)(c:blockOf (ρ k)=some b):Den.all m ρ σ.objs w b=w.heap[b]?:=by have:=(h.own k o b d e c).1;simp only[Den.all,this];rw[xac ⟨k,o,d,e,c⟩]
def Den.VX(h:Den m fr ρ σ a w):∀b o,Den.all m ρ σ.objs w b=some o->w.heap[b]?=some o:=by
 intro b o c;unfold Den.all at c;cases d:m b with
 |some x=>simp only[d]at c;cases c;exact h.mem b _ d
 |none=>
  simp only[d]at c;split at c;.exact c
  cases c
def Den.Lg(h:Den m fr ρ σ a w):fS (Den.all m ρ σ.objs w) fr w:=by
 refine⟨h.VX,h.frame,?_⟩;intro b c;unfold Den.all at c;cases d:m b with
 |some x=>exact h.apart b (by rw[d];simp)
 |none=>
  simp only[d]at c;split at c;.rename_i e;obtain⟨k,o,ab,ad,ai⟩:=e;exact(h.own k o b ab ad ai).2
  exact absurd rfl c
def Lh(h:Den m fr ρ σ a w){x:ax}{v:Value}{d:D}(u:bo m ρ σ.used x v)(g:lT σ.objs x=some d):bH (Den.all m ρ σ.objs w) d v:=by
 have s:=Den.sS m ρ σ.objs w;have row:∀key k es v,σ.objs key=some (.row k es)->v=ρ key->bH (Den.all m ρ σ.objs w) (.aw k es) v:=by
  rintro key k es v l rfl;rcases h.objs _ _ l with⟨q,rfl⟩|⟨b,o,cap,vs,C,q,E,F,O,B,H⟩;.rw[q];exact .hq _ _ _
  have J:=h.AJ l rfl (by rw[q];rfl);obtain⟨f1,f2⟩:=K0 (m:=m) B H;rw[q];refine .aw k es b o cap vs C (0,0) (by rw[J];exact E) B F (λi j=>(vs[o+i*k+j]?).getD undef) ?_ ?_;.intro i e j c ag M;obtain⟨x,g1,g2⟩:=H i e j c ag M;rw[g1];rfl
  intro i e j c ag M;obtain⟨x,g1,g2⟩:=H i e j c ag M;simp only[g1,xbm];exact g2.mono s
 unfold lT at g;split at g;.cases g;exact u.kh.mono s
 .rename_i key;split at g
  case h_2=>cases g
  rename_i k es l;cases g;cases u;exact row key k es _ l rfl
 .rename_i key k i len;split at g
  case h_2=>cases g
  rename_i Z es l;split at g
  case isFalse=>cases g
  rename_i t;obtain⟨rfl,z⟩:=t;cases g;cases u with|gH _ _ _ hu S=>rw[xcb];exact .hq _ _ _|sub _ _ _ _ b o L cap Y hu S Q V=>
  have A:((es.drop i).take len).length=len:=uZ
  rcases Nat.eq_zero_or_pos len with ak|R;.subst ak;rw[xcb];exact .hq _ _ _
  have n:=row key k es _ l rfl;rw[S]at n;cases n with
  |hq=>simp at z;omega
  |aw _ _ _ _ _ vs C U W N t X ab ad=>
   have:=bH.aw (m:=Den.all m ρ σ.objs w) k ((es.drop i).take len) b (o+i*k) (cap-i) vs C U W (λe K=>N e (xbq (xbr K))) oZ (λp j=>X (i+p) j) (λp I j c f t=>by
     rw[xaP]at f;split at f
     case isFalse=>cases f
     rw[xaV]at f;have:=ab (i+p) I j c f t;rw[<-this]
     congr 1
     rw[xaY];omega)
    (λp I j c f t=>by
     rw[xaP]at f;split at f
     case isFalse=>cases f
     rw[xaV]at f;exact ad (i+p) I j c f t)
   rw[A]at this;rw[V.1 oZ];exact this
 .rename_i key;split at g
  case h_2=>cases g
  rename_i es l;cases g;cases u;obtain⟨r,y,clock,q,E,F,O,B⟩:=h.objs _ _ l;have J:=h.AJ l rfl (by rw[q];rfl);rw[q];exact .mp es r y clock (by rw[J];exact E) F O (λi e x K u=>(B i e x K u).mono s)
 cases g
def AK(h:Den m fr ρ σ a w){x:ax}{v:Value}{d:D}(k:bo m ρ σ.used x v)(e:jz σ.objs x=some d):bH (Den.all m ρ σ.objs w) d v:=by
 have g:=Den.sS m ρ σ.objs w;unfold jz at e;split at e
 .rename_i key off;split at e
  case h_2=>cases e
  rename_i cells q;split at e
  case h_2=>cases e
  rename_i cs i;cases e;obtain⟨b,vs,t,n,z,A,B⟩:=h.objs _ _ q;have E:=h.AJ q rfl (by rw[n];rfl);obtain⟨J,H⟩:=lU i;cases k with|ptr _ _ b' hu r=>
  rw[n]at r;cases r;have key:∀(j:Nat)(c:D),cs[j]?=some c->∃u,vs[j]?=some u/\bH (Den.all m ρ σ.objs w) c u:=by
   intro j c f;have ab:=H j c f;simp only[xag,xae]at ab;obtain⟨y,s,l⟩:=ab;have p:j<vs.size:=by rw[A];exact(lV.1 s).1
   exact⟨_,xaj p,Lh h (B j y _ s (xaj p)) l⟩
  have:=bH.ref (m:=Den.all m ρ σ.objs w) cs off b 0 vs t (0,0) (by rw[E];exact z) (λj=>(vs[j]?).getD undef) (λj c f=>by obtain⟨u,ab,_⟩:=key j c f;simp[ab]) (λj c f=>by obtain⟨u,ab,ad⟩:=key j c f;simp[ab];exact ad);simpa using this
 .cases e;cases k with|cE _ _ b o vs T C F I ab ad=>exact .ref _ _ b o vs T C (g _ _ F) I ab (λj c f=>(ad j c f).mono g)
 exact Lh h k e
def Li(h:Den m fr ρ σ a w){x:ax}{v:Value}{d:D}(p:bo m ρ σ.used x v)(e:kj σ.objs x=some d):bH (Den.all m ρ σ.objs w) d v:=by
 unfold kj at e;split at e
 .rename_i cs;split at e
  case h_2=>cases e
  rename_i t l;cases e;obtain⟨q,r⟩:=lU l;cases p with|agg _ vs ah aY=>
  refine .agg _ _ (by rw[ah,q];simp) ?_;intro i c u g hu;have ab:=r i c g;simp only[xag,xae]at ab;obtain⟨y,j,b⟩:=ab;exact AK h (aY i y u j hu) b
 .rename_i f first cap
  split at e
  case h_2=>cases e
  rename_i as et has k;cases e;obtain⟨q,r⟩:=lU has;obtain⟨bT,cM⟩:=lU k;cases p with|fn _ _ _ vs s ah o aY n=>
  refine .fn _ _ _ vs s (by rw[ah,q];simp) (by rw[o,bT];simp) ?_ ?_;.intro i c u g hu;have ab:=r i c g;simp only[xag,xae]at ab;obtain⟨y,j,b⟩:=ab;exact AK h (aY i y u j hu) b
  intro i c u g hu;have ab:=cM i c g;simp only[xag,xae]at ab;obtain⟨y,j,b⟩:=ab;exact AK h (n i y u j hu) b
 exact AK h p e
def Lj(h:Den m fr ρ σ a w){x:ax}{v:Value}{d:D}(g:bo m ρ σ.used x v)(b:toD σ.objs x=some d):bH (Den.all m ρ σ.objs w) d v:=by
 unfold toD at b;split at b
 .rename_i cs;split at b
  case h_2=>cases b
  rename_i o e;cases b;obtain⟨l,n⟩:=lU e;cases g with|az _ vs ah aY=>
  refine .az _ _ (by rw[ah,l];simp) ?_;intro i c u j hu;have ab:=n i c j;simp only[xag,xae]at ab;obtain⟨y,k,f⟩:=ab;exact Li h (aY i y u k hu) f
 exact Li h g b
def VY(h:Den m fr ρ σ a w){c:List ax}{vs:List Value}{e:lZ}(ah:vs.length=c.length)(g:∀(i:Nat)(x:ax)(v:Value),c[i]?=some x->vs[i]?=some v->bo m ρ σ.used x v)(f:e0 (c.map (toD σ.objs))=some e):jy (Den.all m ρ σ.objs w) e vs:=by obtain⟨k,l⟩:=lU f;refine⟨by rw[ah,k];simp,?_⟩;intro i d v ab ad;have ai:=l i d ab;simp only[xag,xae]at ai;obtain⟨y,j,b⟩:=ai;exact Lj h (g i y v j ad) b
def Den.VZ(h:Den m fr ρ σ a w){w':World}{i:Mem}(c:(Den.all m ρ σ.objs w).le i)(e:fS i fr w'):Den m fr ρ σ a w':=by refine⟨λb o d=>e.mem b o (c b o (Den.sS m ρ σ.objs w b o d)),e.frame,h.apart,h.one,h.au,?_,h.own,h.sep⟩;intro k o f;refine(h.objs k o f).mono (Mem.le_refl m) (λ_ hu=>⟨hu,rfl⟩) (λb g d=>?_);have ab:=h.AJ f g d;have ad:b<w.heap.size:=(h.objs k o f).od g d;have ai:=xaj ad;rw[ai]at ab⊢;exact e.mem b _ (c b _ ab)
noncomputable def Den.hold(fr:dh)(ρ:ch)(objs:bK)(w:World):dh:=⟨Den.all fr.at_ ρ objs w,fr.os,fr.out,fr.low⟩
def Den.Lk(h:Den m fr ρ σ a w){k:Key}{o:b1}{b:Nat}(d:σ.objs k=some o)(e:o.owns=true)(c:blockOf (ρ k)=some b):Den.hold fr ρ σ.objs w b=w.heap[b]?:=by have:=(h.own k o b d e c).2;simp only[Den.hold,Den.all,this];rw[xac ⟨k,o,d,e,c⟩]
def Den.Ll(h:Den m fr ρ σ a w):fS m (Den.hold fr ρ σ.objs w) w:=by
 refine⟨h.mem,⟨?_,⟨h.frame.quiet.os,h.frame.quiet.out,h.frame.quiet.low⟩⟩,?_⟩
 .intro b o c;unfold Den.hold Den.all at c;cases d:fr b with
  |some x=>simp only[d]at c;cases c;exact h.frame.hR b _ d
  |none=>
   simp only[d]at c;split at c;.exact c
   cases c
 intro b c;show Den.all fr.at_ ρ σ.objs w b=none;unfold Den.all;rw[h.apart b c];simp only;rw[xab];rintro⟨k,o,ab,ad,ai⟩;exact c (h.own k o b ab ad ai).1
def Den.kept(h:Den m fr ρ σ a w){w':World}{l:Mem}(g:m.le l)(d:fS l (Den.hold fr ρ σ.objs w) w'):Den l fr ρ σ a w':=by
 have f:∀b o,fr b=some o->Den.hold fr ρ σ.objs w b=some o:=Den.sS fr.at_ ρ σ.objs w;have j:∀k o b,σ.objs k=some o->o.owns=true->blockOf (ρ k)=some b->l b=none:=by intro k o b e i c;cases p:l b with|none=>rfl|some x=>have ab:=d.apart b (by rw[p];simp);rw[h.Lk e i c,xaj ((h.objs k o e).od i c)]at ab;cases ab
 refine⟨d.mem,⟨λb o c=>d.frame.hR b o (f b o c),⟨d.frame.quiet.os,d.frame.quiet.out,d.frame.quiet.low⟩⟩,?_,h.one,λt=>(h.au t).mono g (λ_ hu=>⟨hu,rfl⟩),?_,λk o b ab ad ai=>⟨j k o b ab ad ai,(h.own k o b ab ad ai).2⟩,h.sep⟩;.intro b c;have:=d.apart b c;cases n:fr b with|none=>rfl|some x=>rw[f b x n]at this;cases this
 intro k o e;refine(h.objs k o e).mono g (λ_ hu=>⟨hu,rfl⟩) (λb i c=>?_);have ab:=h.Lk e i c;have ai:=xaj ((h.objs k o e).od i c);rw[ai]at ab⊢;exact d.frame.hR b _ ab
end
def dj(o:Option b1):Prop:=(∃cs,o=some (.box cs))\/(∃k es,o=some (.row k es))\/∃es,o=some (.map es)
theorem og{cs:List ax}:dj (some (.box cs)):= .inl ⟨_,rfl⟩
theorem nb{k:Nat}{es:mW}:dj (some (.row k es)):= .inr (.inl ⟨_,_,rfl⟩)
def oh:¬dj none:=by rintro(⟨_,h⟩|⟨_,_,h⟩|⟨_,h⟩)<;>cases h
def wx:¬dj (some .dead):=by rintro(⟨_,h⟩|⟨_,_,h⟩|⟨_,h⟩)<;>cases h
theorem pD{es:List (Value×D)}:dj (some (.map es)):= .inr (.inr ⟨_,rfl⟩)
def sT{o:Option b1}(h:dj o):∃x,o=some x:=by rcases h with⟨_,h⟩|⟨_,_,h⟩|⟨_,h⟩<;>exact⟨_,h⟩
def hI(σ:aq)(ρ:ch)(b:aq)(a:ch):Prop:=∀k,10000<=k->dj (σ.objs k)->dj (b.objs k)/\a k=ρ k
theorem hI.refl(σ:aq)(ρ:ch):hI σ ρ σ ρ:=λ_ _ h=>⟨h,rfl⟩
def hI.trans{i j l:aq}{e f g:ch}(h:hI i e j f)(n:hI j f l g):hI i e l g:=λk m o=>let⟨a,b⟩:=h k m o;let⟨c,d⟩:=n k m a;⟨c,d.trans b⟩
@[simp] theorem aq.pE (σ:aq) (dst:Option Tmp) (r:ax):(σ.put dst r).objs=σ.objs:=by cases dst<;>rfl
def gf(N:Nat)(m:Mem)(fr:dh)(ρ:ch)(σ:aq)(K:aq->Prop)(c:Act)(w':World):Prop:= ∃a d b,K a/\m.le d/\Den d fr b a c w'/\N<=c.tmps.size/\c.defers=[]/\hI σ ρ a b
def Den.put{m:Mem}{fr:dh}{ρ:ch}{σ:aq}{a:Act}{w:World}(h:Den m fr ρ σ a w){dst:Option Tmp}{r:ax}{v:Value}(f:bo m ρ σ.used r v)(e:∀d,dst=some d->d<a.tmps.size):Den m fr ρ (σ.put dst r) (a.put dst v) w:=by
 cases dst with
 |none=>exact h
 |some d=>
  refine⟨h.mem,h.frame,h.apart,h.one,?_,h.objs,h.own,h.sep⟩;intro t;have b:=e d rfl;by_cases c:t=d
  .subst c;simp only[aq.put,dq,Act.put];have:(a.tmps.setIfInBounds t v).getD t undef=v:=by simp[Array.getD,b]
   rw[this];exact f
  simp only[aq.put,b4 _ _ c,Act.put];have:(a.tmps.setIfInBounds d v).getD t undef=a.tmps.getD t undef:=by rw[xbj,xbj,Array.getElem?_setIfInBounds,xab (xcc c)]
  rw[this];exact h.au t
def F3{objs:bK}{k:Key}{o:b1}(h:dj (objs k)->dj (some o)):∀j,dj (objs j)->dj (bE objs k (some o) j):=by
 intro j b;by_cases a:j=k;.subst a;rw[dq];exact h b
 rw[b4 _ _ a];exact b
def V0{T:br}{ev:Operand->ax}{objs:bK}{d:Key}{o:Op}{r:ax}{a:List (Key×b1)}(h:cZ T ev objs d o=some (r,a)):∀j,10000<=j->dj (objs j)->dj (cA objs a j):=by
 have new:∀{o:b1},objs d=none->∀j,10000<=j->dj (objs j)->dj (cA objs [(d,o)] j):=by intro o i j _;exact F3 (λh=>by rw[i]at h;exact absurd h oh) j
 have same:∀{k:Key}{g o:b1},objs k=some g->(dj (some g)->dj (some o))->∀j,10000<=j->dj (objs j)->dj (cA objs [(k,o)] j):=by intro k g o l f j _;exact F3 (λh=>by rw[l]at h;exact f h) j
 cases o<;>simp only[cZ,reduceCtorEq]at h
 case alloc=>split at h<;>cases h;exact new aZ
 case box=>split at h<;>cases h;exact new aZ
 case buildSlice=>
  split at h
  case h_2=>cases h
  split at h
  case h_2=>cases h
  split at h
  case h_2=>cases h
  split at h<;>cases h;exact new aZ
 case makeSlice=>
  split at h
  case h_2=>cases h
  split at h
  case h_2=>cases h
  split at h
  case h_2=>cases h
  split at h<;>cases h;exact new aZ
 case makeMap=>split at h<;>cases h;exact new aZ
 case store=>
  split at h
  case h_2=>cases h
  split at h
  case isFalse=>cases h
  split at h
  .split at h
   case h_2=>cases h
   split at h<;>cases h;exact λj _=>F3 (λ_=>og) j
  .split at h
   case h_2=>cases h
   split at h
   case isFalse=>cases h
   split at h<;>cases h;exact same aZ (λ_=>nb)
  cases h
 case mapUpdate=>
  split at h
  case h_2=>cases h
  split at h
  case h_2=>cases h
  split at h
  case isFalse=>cases h
  split at h
  case h_2=>cases h
  split at h
  case h_2=>cases h
  split at h<;>cases h;exact same aZ (λ_=>pD)
 case insert=>
  split at h
  case h_2=>cases h
  split at h
  case h_2=>cases h
  split at h
  case isFalse=>cases h
  split at h
  case h_2=>cases h
  split at h
  case h_2=>cases h
  split at h<;>cases h;exact same aZ (λ_=>pD)
 case call=>
  split at h
  .split at h
   case h_2=>cases h
   split at h
   case h_2=>cases h
   split at h
   case h_2=>cases h
   split at h
   case h_2=>cases h
   split at h
   case isFalse=>cases h
   split at h;.split at h<;>cases h;exact new aZ
   .split at h
    case h_2=>cases h
    split at h<;>cases h;rename_i i _ _ _ _ _ _ _ _ _ _ _ _ l _ _;rename_i b;intro j e m;have c:j≠d:=by rintro rfl;simp_all [oh]
    simp only[cA];rw[b4 _ _ c,b4 _ _ (by rintro rfl;exact absurd b.2.2.2 (Nat.not_lt.2 e))];exact m
   cases h
  .split at h
   case h_2=>cases h
   split at h
   case h_2=>cases h
   split at h
   case h_2=>cases h
   split at h
   case h_2=>cases h
   split at h
   case isFalse=>cases h
   split at h
   .split at h
    case h_2=>cases h
    split at h<;>cases h;exact same aZ (λ_=>nb)
   .split at h
    case h_2=>cases h
    split at h<;>cases h;exact same aZ (λ_=>nb)
   cases h
  .split at h
   case h_2=>cases h
   split at h
   case h_2=>cases h
   split at h
   case h_2=>cases h
   split at h
   case h_2=>cases h
   split at h
   case h_2=>cases h
   split at h<;>cases h;exact same aZ (λ_=>nb)
  cases h
def Lm{T:br}{ev:Operand->ax}{objs:bK}{d:Key}{o:Op}{k:Key}{off:Nat}{a:List (Key×b1)}(h:cZ T ev objs d o=some (.ptr k off,a)):objs d=none:=by
 cases o<;>simp only[cZ,reduceCtorEq]at h
 case alloc=>split at h<;>cases h;assumption
 case box=>split at h<;>cases h;assumption
 all_goals (repeat' split at h)<;>cases h
def Ln{T:br}{ev:Operand->ax}{objs:bK}{d:Key}{o:Op}{a:List (Key×b1)}(h:cZ T ev objs d o=some (.row d,a)):objs d=none:=by
 cases o<;>simp only[cZ,reduceCtorEq]at h
 all_goals (repeat' split at h)<;>cases h<;>assumption
def V1{T:br}{ev:Operand->ax}{objs:bK}{d:Key}{o:Op}{r:ax}{f:List (Key×b1)}(h:eR T ev objs d o=some (r,f)):∀j,10000<=j->dj (objs j)->dj (cA objs f j):=by
 obtain⟨⟨m,g⟩,ak,i⟩:=pB h;have ab:=V0 ak;intro j b c;have k:∀{o:b1},objs d=none->j≠d:=by rintro o a rfl;rw[a]at c;exact oh c
 rcases q0 (T.born d) d m g with e|⟨n,es,rfl,rfl,e⟩|⟨q,n,es,rfl,rfl,e⟩|⟨off,cs,p,rfl,rfl,l,e⟩;.rw[i]at e;cases e;exact ab j b c
 .rw[i]at e;cases e;have a:=k (o:= .dead) (Ln ak);have:=ab j b c;simp only[cA,b4 _ _ a]at this⊢;exact this
 .rw[i]at e;cases e;have a:=k (o:= .dead) (Ln ak);have:=ab j b c;simp only[cA,b4 _ _ a]at this⊢;exact this
 rw[i]at e;cases e;have a:=k (o:= .dead) (Lm ak);simp only[cA,b4 _ _ a];exact c
section
variable{P:Program}{T:br}{G:ca}{m:Mem}{fr:dh}{ρ:ch}{σ:aq}{a:Act}{w:World}{N:Nat}
def V2(q:cQ P T)(A:fR G m)(h:Den m fr ρ σ a w)(x:N<=a.tmps.size)(s:a.defers=[]){o:Oper}(l:∀d,o.dst=some d->d<N){n:aq}(aj:eD T G σ o=some n){K:aq->Prop}(p:K n){Q:Exit->Act->World->Prop}:o.wp P a w (gf N m fr ρ σ K) Q:=by
 have g:=wk (a:=a) A h.au;have e:∀d,o.dst=some d->d<a.tmps.size:=λd C=>xcg (l d C) x;have b:∀v,N<=(a.put o.dst v).tmps.size:=by intro v;cases o.dst<;>simpa[Act.put]using x
 have f:∀v,(a.put o.dst v).defers=[]:=by intro v;cases o.dst<;>exact s
 unfold Oper.wp;unfold eD at aj;split at aj;.rename_i r j;cases aj;obtain⟨v,ab,ad⟩:=Vs (P:=P) (w:=w) (o:=o) q h.one g j;rw[ab];exact⟨_,m,ρ,p,Mem.le_refl m,h.put ad e,b v,f v,λk t i=>⟨by simpa using i,rfl⟩⟩
 split at aj;.rename_i r j;cases aj;obtain⟨v,ab,ad⟩:=Vx (P:=P) (w:=w) (o:=o) q h.mem h.objs g j;rw[ab];exact⟨_,m,ρ,p,Mem.le_refl m,h.put ad e,b v,f v,λk t i=>⟨by simpa using i,rfl⟩⟩
 split at aj
 case h_2=>cases aj
 rename_i r F j;cases aj;obtain⟨nx,v,w',E,u,ab,ad,D,ai,y,z⟩:=VU (P:=P) (o:=o) q h g j;rw[ab];have fin:gf N m fr ρ σ K (a.put o.dst v) w':=⟨_,E,u,p,D,ai.put y e,b v,f v,λk t i=>⟨by rw[aq.pE];exact V1 j k t i,by obtain⟨c,B⟩:=sT i;exact(z k ⟨_,B⟩).2⟩⟩;rcases ad with rfl|⟨rfl,rfl⟩
 .exact fin
 exact fin
def pF:ax->Option (FuncId×List ax×List ax)
 | .d (.val (.func (.func f) first cap))=>if first.size=0/\cap.size=0 then some (f,[],[])else none
 | .fn (.func f) first cap=>some (f,first,cap)
 | .d (.fn (.func f) first cap)=>some (f,first.map .d,cap.map .d)
 |_=>none
def sU:ax->Bool
 | .d _=>true| .cE _ _=>true|_=>false
def nc:ax->Bool
 | .agg cs=>cs.all sU| .fn _ as et=>as.all sU&&et.all sU|x=>sU x
def F4{m:Mem}{ρ:ch}{U:Key->Prop}{objs:bK}{x:ax}{d:D}{v:Value}(h:sU x=true)(c:jz objs x=some d)(e:bo m ρ U x v):bH m d v:=by
 cases x<;>first|cases h|skip
 .simp only[jz,lT]at c;cases c;exact e.kh
 simp only[jz]at c;cases c;cases e with|cE _ _ b o vs T f g i ab ad=>exact .ref _ _ b o vs T f g i ab ad
def F5{m:Mem}{ρ:ch}{U:Key->Prop}{objs:bK}{cs:List ax}{b:lZ}{vs:Array Value}(h:cs.all sU=true)(g:e0 (cs.map (jz objs))=some b)(ah:vs.size=cs.length) (j:∀(i:Nat)(c:ax)(v:Value),cs[i]?=some c->vs[i]?=some v->bo m ρ U c v):vs.size=b.length/\∀(i:Nat)(c:D)(v:Value),b[i]?=some c->vs[i]?=some v->bH m c v:=by obtain⟨ab,ad⟩:=lU g;refine⟨by rw[ab,ah];simp,λi c v f ag=>?_⟩;have ai:=ad i c f;simp only[xag,xae]at ai;obtain⟨y,e,d⟩:=ai;exact F4 (xax.1 h y (xad e)) d (j i y v e ag)
def F6{m:Mem}{ρ:ch}{U:Key->Prop}{objs:bK}{x:ax}{d:D}{v:Value}(h:nc x=true)(b:toD objs x=some d)(g:bo m ρ U x v):bH m d v:=by
 cases x
 case agg cs=>
  simp only[toD,kj]at b;split at b
  case h_2=>cases b
  rename_i k c;cases b;cases g with|agg _ vs ah aY=>
  obtain⟨g1,g2⟩:=F5 h c ah aY;exact .agg _ _ g1 g2
 case fn f as et=>
  simp only[nc,xam]at h;simp only[toD,kj]at b;split at b
  case h_2=>cases b
  rename_i k l c e;cases b;cases g with|fn _ _ _ vs n ah j aY i=>
  obtain⟨g1,g2⟩:=F5 h.1 c ah aY;obtain⟨g3,g4⟩:=F5 h.2 e j i;exact .fn _ _ _ _ _ g1 g3 g2 g4
 case d y=>exact F4 (x:= .d y) rfl (by simpa[toD,kj]using b) g
 case cE cs off=>exact F4 (x:= .cE cs off) rfl (by simpa[toD,kj]using b) g
 all_goals cases h
def Lo(P:Program)(G:ca)(σ:aq)(dst:Option Tmp)(f:FuncId)(b:List ax)(K:aq->Prop):Prop:= ∃c e R,e0 (b.map (toD σ.objs))=some c/\lS c e/\cC P G f e R/\(∃g,R=(·=g))/\((∀r,R r->r.flat=true)\/b.all nc=true)/\∀r,R r->K (σ.put dst (.d r))
def gx(P:Program)(G:ca)(o:Oper)(σ:aq)(K:aq->Prop):Prop:=match o.op with
 | .call ⟨.value x,args,_⟩=>match pF (bs G σ.au x)with|some (f,pre,post)=>Lo P G σ o.dst f (pre++args.toList.map (bs G σ.au)++post) K|none=>False
 |_=>False
def cf(P:Program)(T:br)(G:ca)(o:Oper)(K:aq->Prop)(σ:aq):Prop:=match eD T G σ o with|some b=>K b|none=>gx P G o σ K
def c3(P:Program)(T:br)(G:ca)(all:Array Oper)(o:Oper)(K:aq->Prop)(σ:aq):Prop:=match o.guard with
 |none=>cf P T G o K σ
 |some (j,want)=>match(all[j]?).bind (·.dst)with
  |some d=>match σ.au d with
   | .d (.val (.bool b))=>if b=want then cf P T G o K σ else K (σ.put o.dst (.d (.val (.tuple #[]))))
   | .d (.val (.tuple _))=>K (σ.put o.dst (.d (.val (.tuple #[]))))|_=>False
  |none=>False
def dP(P:Program)(T:br)(G:ca)(all:Array Oper):List Oper->(aq->Prop)->aq->Prop
 |[],K,σ=>K σ|o::r,K,σ=>c3 P T G all o (dP P T G all r K) σ
def Lp{va:Operand->Value}{x:Operand}{args:Array Operand}{b:Array TypeId}{ty:TypeId}{f:FuncId}{first cap:Array Value}(e:va x= .func (.func f) first cap)(c:pC P f):(do let d<-resolve va {callee:= .value x,args:=args,argTypes:=b} ty;invoke d.target d.args:Sem Next).run P w= .ok (.enter f (first++args.map va++cap)) w:=by obtain⟨fn,ab,ad,ai⟩:=c;simp only[xai,resolve,e,Deferred.ofValue,xay,xaf,invoke,callFunc,program,Sem.run,ab,ad,ai,xaq,xaF]
def V3(Z:fR G m)(h:Den m fr ρ σ a w)(dS:N<=a.tmps.size)(b6:a.defers=[]){o:Oper}(O:∀d,o.dst=some d->d<N){K:aq->Prop}(j:gx P G o σ K){Q:Exit->Act->World->Prop}:o.wp P a w (gf N m fr ρ σ K) Q:=by
 have S:=wk (a:=a) Z h.au;have L:∀d,o.dst=some d->d<a.tmps.size:=λd bX=>xcg (O d bX) dS;have E:∀v,N<=(a.put o.dst v).tmps.size:=by intro v;cases o.dst<;>simpa[Act.put]using dS
 have M:∀v,(a.put o.dst v).defers=[]:=by intro v;cases o.dst<;>exact b6
 unfold gx at j;split at j
 case h_2=>cases j
 rename_i x args eV cz;split at j
 case h_2=>cases j
 rename_i f pre post b;obtain⟨W,fw,R,ab,ad,ai,eP,J,dD⟩:=j;have t:=S x;have s:∃first cap,a.eval x= .func (.func f) first cap/\first.size=pre.length/\cap.size=post.length/\(∀(i:Nat)(c:ax)(v:Value),pre[i]?=some c->first[i]?=some v->bo m ρ σ.used c v)/\(∀(i:Nat)(c:ax)(v:Value),post[i]?=some c->cap[i]?=some v->bo m ρ σ.used c v):=by
  unfold pF at b;split at b
  .rename_i de first cap z
   split at b
   case isFalse=>cases b
   rename_i ak;cases b;rw[z]at t;exact⟨first,cap,t.e4,by simpa using ak.1,by simpa using ak.2,by intro i c v j;simp at j,by intro i c v j;simp at j⟩
  .rename_i de first cap z
   cases b;rw[z]at t;generalize a.eval x=u at t;cases t with|fn _ _ _ vs cU ah F g X=>exact⟨vs,cU,rfl,ah,F,g,X⟩
  .rename_i de first cap z
   cases b;rw[z]at t;have t:=t.kh;generalize a.eval x=u at t;cases t with|fn _ _ _ vs cU ah F g X=>
   refine⟨vs,cU,rfl,by simpa using ah,by simpa using F,?_,?_⟩;.intro i c v j n;simp only[xag,xae]at j;obtain⟨y,I,rfl⟩:=j;exact .d _ _ (g i y v I n)
   intro i c v j n;simp only[xag,xae]at j;obtain⟨y,I,rfl⟩:=j;exact .d _ _ (X i y v I n)
  .cases b
 obtain⟨first,cap,b5,H,cv,g1,g2⟩:=s;have B:∀(i:Nat)(c:ax)(v:Value),(pre++args.toList.map (bs G σ.au)++post)[i]?=some c->(first++args.map a.eval++cap).toList[i]?=some v->bo m ρ σ.used c v:=by
  intro i c v j n;simp only[Array.toList_append,Array.toList_map]at n;have dN:first.toList.length=pre.length:=by simpa using H
  by_cases ab:i<pre.length;.rw[xaL,xao ab]at j;rw[xaL,xao oZ]at n;exact g1 i c v j (by simpa using n)
  .by_cases ad:i<pre.length+args.size;.rw[xao uZ,xas oZ]at j;rw[xao uZ,xas oZ,dN]at n;simp only[xag,xae]at j n;obtain⟨p,eO,rfl⟩:=j;obtain⟨q,dA,rfl⟩:=n;rw[eO]at dA;cases dA;exact S _
   rw[xas uZ]at j;rw[xas uZ]at n;refine g2 _ c v j ?_;rw[<-n];simp only[xaR,xaT,xbW,H];simp
 have C:(first++args.map a.eval++cap).toList.length=(pre++args.toList.map (bs G σ.au)++post).length:=by simp[H,cv]
 have A:(execOp a.eval o).run P w= .ok (.enter f (first++args.map a.eval++cap)) w:=by unfold execOp;rw[cz];exact Lp b5 ai.fn
 unfold Oper.wp;rw[A];rcases J with J|J
 ·
  have eQ:=lS.ok ad (VY h C B ab);have l:=ai.run _ fr w _ (Z.mono (Den.sS m ρ σ.objs w)) h.Lg eQ;simp only[Array.toArray_toList]at l;refine l.mono λe w' z=>?_;obtain⟨v,eI,r,rfl,U,V,cy,di⟩:=z;have bY:=h.VZ V cy;exact⟨_,m,ρ,dD r U,Mem.le_refl m,bY.put (.d _ _ (D.VW (J r U) di)) L,E v,M v,λk eW bU=>⟨by simpa using bU,rfl⟩⟩
 have Y:jy m W (first++args.map a.eval++cap).toList:=by obtain⟨g1,g2⟩:=lU ab;refine⟨by rw[C,g1];simp,?_⟩;intro i d v bX n;have g3:=g2 i d bX;rw[xag,xae]at g3;obtain⟨y,I,cL⟩:=g3;exact F6 (xax.1 J y (xad I)) cL (B i y v I n)
 have l:=ai.run m _ w _ Z h.Ll (lS.ok ad Y);simp only[Array.toArray_toList]at l;refine l.mono λe w' z=>?_;obtain⟨v,eI,r,rfl,U,V,cy,di⟩:=z;have bY:=h.kept V cy;exact⟨_,eI,ρ,dD r U,V,bY.put (.d _ _ di) L,E v,M v,λk eW bU=>⟨by simpa using bU,rfl⟩⟩
def F7(i:cQ P T)(f:fR G m)(h:Den m fr ρ σ a w)(g:N<=a.tmps.size)(c:a.defers=[]){o:Oper}(b:∀d,o.dst=some d->d<N){K:aq->Prop}(e:cf P T G o K σ){Q:Exit->Act->World->Prop}:o.wp P a w (gf N m fr ρ σ K) Q:=by
 unfold cf at e;split at e;.exact V2 i f h g c b aZ e
 exact V3 f h g c b e
def F8(A:cQ P T)(z:fR G m)(h:Den m fr ρ σ a w)(s:N<=a.tmps.size)(g:a.defers=[]){all:Array Oper}{i:Nat}{o:Oper}(ag:all[i]?=some o)(f:∀d,o.dst=some d->d<N){K:aq->Prop}(e:c3 P T G all o K σ) {Q:Exit->Act->World->Prop}:wpOp P all Q i (gf N m fr ρ σ K) a w:=by
 have y:∀d,o.dst=some d->d<a.tmps.size:=λd x=>xcg (f d x) s;unfold wpOp;simp only[ag];unfold c3 at e;split at e
 .rename_i t;have:Region.wanted o (yielded all a.tmps)=true:=by simp[Region.wanted,t]
  rw[xac this];exact .inl (F7 A z h s g f e)
 rename_i j want t;split at e
 case h_2=>cases e
 rename_i d x;have p:∀v,a.tmps.getD d undef=v->yielded all a.tmps j=(match v with| .bool b=>some b|_=>none):=by intro v c;unfold yielded;rw[x];simp only[Option.bind_some];rw[xbj]at c;cases q:a.tmps[d]? with|none=>rw[q]at c;simp only[Option.getD_none]at c;subst c;rfl|some u=>rw[q]at c;simp only[xbm]at c;subst c;cases u<;>rfl
 have skip:Region.wanted o (yielded all a.tmps)=false->K (σ.put o.dst (.d (.val (.tuple #[]))))->gf N m fr ρ σ K (a.put o.dst undef) w:=λ_ B=>⟨_,m,ρ,B,Mem.le_refl m,h.put (.d _ _ (.val _)) y,by cases o.dst<;>simpa[Act.put]using s,by cases o.dst<;>exact g,λk B l=>⟨by simpa using l,rfl⟩⟩;split at e
 .rename_i b aj;have c:=h.au d;rw[aj]at c;have r:=p _ c.e4;simp only at r;have C:Region.wanted o (yielded all a.tmps)=(b==want):=by
   simp only[Region.wanted,t,r];cases b<;>cases want<;>rfl
  by_cases l:b=want;.rw[xac l]at e;rw[C,xac (by simpa using l)];exact .inl (F7 A z h s g f e)
  rw[xab l]at e;have n:Region.wanted o (yielded all a.tmps)=false:=by rw[C];simpa using l
  rw[xab (by rw[n];simp)];exact skip n e
 .rename_i vs aj;have c:=h.au d;rw[aj]at c;have r:=p _ c.e4;simp only at r;have n:Region.wanted o (yielded all a.tmps)=false:=by
   simp only[Region.wanted,t,r];rfl
  rw[xab (by rw[n];simp)];exact skip n e
 cases e
def wpOp_mono{ops:Array Oper}{Q:Exit->Act->World->Prop}{i:Nat}{K K':Act->World->Prop}(d:∀a w,K a w->K' a w){a:Act}{w:World}(h:wpOp P ops Q i K a w):wpOp P ops Q i K' a w:=by
 unfold wpOp at*;split;.rename_i e;simp only[e]at h;exact d _ _ h
 rename_i o e;simp only[e]at h;split
 .rename_i f;rw[xac f]at h;rcases h with h|h
  .refine .inl ?_;unfold Oper.wp at*;generalize (execOp a.eval o).run P w=r at*;cases r with
   |ok n w'=>
    cases n<;>simp only[Oper.upon]at h⊢<;>first|exact d _ _ h|exact h|skip
    .refine h.mono λe g b=>?_;cases e with|returned v=>exact d _ _ b|panicked c=>exact b|outgrown=>exact b
    exact h.mono λv g b=>d _ _ b
   |halt x w'=>cases x<;>exact h
  exact .inr h
 rename_i f;rw[xab f]at h;exact d _ _ h
end
def AL{ev a:Operand->ax}{l:List Operand}(h:∀x∈l,ev x=a x):l.map ev=l.map a:=List.map_congr_left h
theorem Lq{ev a:Operand->ax}{b:Array (Nat×Operand)}(h:∀x∈(b.toList.map (·.2)),ev x=a x):(b.toList.map λp=>(p.1,ev p.2))=b.toList.map λp=>(p.1,a p.2):=List.map_congr_left λp c=>by rw[h p.2 (xaK.2 ⟨p,c,rfl⟩)]
def V4{T:br}{ev d:Operand->ax}{op:Op}(h:∀x∈op.operands.toList,ev x=d x):db T ev op=db T d op:=by
 cases op<;>simp only[db]
 case move x=>rw[h x (by simp[Op.operands])]
 case assign x=>rw[h x (by simp[Op.operands])]
 case pick c a b=>rw[h c (by simp[Op.operands]),h a (by simp[Op.operands]),h b (by simp[Op.operands])]
 case binOp op t x y n=>rw[h x (by simp[Op.operands]),h y (by simp[Op.operands])]
 case unOp op t x=>rw[h x (by simp[Op.operands])]
 case convert s t x=>rw[h x (by simp[Op.operands])]
 case fieldAddr s x f=>rw[h x (by simp[Op.operands])]
 case field s x f=>rw[h x (by simp[Op.operands])]
 case extract x i=>rw[h x (by simp[Op.operands])]
 case build t parts=>rw[Lq (by simpa[Op.operands]using h)]
 case index t x i=>rw[h x (by simp[Op.operands]),h i (by simp[Op.operands])]
 case makeFunc f first cap=>rw[AL (l:=first.toList) (λx g=>h x (by simp[Op.operands]at g⊢;exact .inl g)),AL (l:=cap.toList) (λx g=>h x (by simp[Op.operands]at g⊢;exact .inr g))]
 case makeInterface t x=>rw[h x (by simp[Op.operands])]
 case nilCheck x=>rw[h x (by simp[Op.operands])]
 case slice t x lo ag dU=>
  cases dU with
  |some _=>rfl
  |none=>
   simp only[];have j:lo.map ev=lo.map d:=by cases lo with|none=>rfl|some l=>simp only[xaH];rw[h l (by simp[Op.operands])]
   have k:ag.map ev=ag.map d:=by cases ag with|none=>rfl|some l=>simp only[xaH];rw[h l (by simp[Op.operands])]
   rw[h x (by simp[Op.operands]),j,k]
 case call c=>obtain⟨callee,args,m⟩:=c;simp only;have e:args.toList.map ev=args.toList.map d:=AL λx g=>h x (by simp[Op.operands,Call.operands]at g⊢;exact .inr g);rw[e]
def V5{T:br}{ev b:Operand->ax}{objs:bK}{op:Op}(h:∀x∈op.operands.toList,ev x=b x):cH T ev objs op=cH T b objs op:=by
 cases op<;>simp only[cH]
 case convert s t x=>rw[h x (by simp[Op.operands])]
 case load t a=>rw[h a (by simp[Op.operands])]
 case indexAddr t x c0=>rw[h x (by simp[Op.operands]),h c0 (by simp[Op.operands])]
 case slice t x lo ag dU=>
  cases dU with
  |some _=>rfl
  |none=>
   simp only[];have d:lo.map ev=lo.map b:=by cases lo with|none=>rfl|some l=>simp only[xaH];rw[h l (by simp[Op.operands])]
   have f:ag.map ev=ag.map b:=by cases ag with|none=>rfl|some l=>simp only[xaH];rw[h l (by simp[Op.operands])]
   rw[h x (by simp[Op.operands]),d,f]
 case call c=>
  obtain⟨callee,args,i⟩:=c;simp only;split
  .split
   .rename_i t x j ct;have g:args= #[x]:=by apply xbO;simpa using ct
    have e:ev x=b x:=h x (by simp[Op.operands,Call.operands,g]);rw[e]
   rfl
  rfl
 case lookup t x k ok=>rw[h x (by simp[Op.operands]),h k (by simp[Op.operands])]
 case binOp op t x y m=>rw[h x (by simp[Op.operands]),h y (by simp[Op.operands])]
def V6{T:br}{ev b:Operand->ax}{objs:bK}{d:Key}{op:Op}(h:∀x∈op.operands.toList,ev x=b x):cZ T ev objs d op=cZ T b objs d op:=by
 cases op<;>simp only[cZ]
 case box t x=>rw[h x (by simp[Op.operands])]
 case buildSlice t n parts=>rw[Lq (by simpa[Op.operands]using h)]
 case makeSlice t l c=>rw[h l (by simp[Op.operands]),h c (by simp[Op.operands])]
 case store t a x=>rw[h a (by simp[Op.operands]),h x (by simp[Op.operands])]
 case mapUpdate t m k x=>rw[h m (by simp[Op.operands]),h k (by simp[Op.operands]),h x (by simp[Op.operands])]
 case insert t m k x=>rw[h m (by simp[Op.operands]),h k (by simp[Op.operands]),h x (by simp[Op.operands])]
 case call c=>
  obtain⟨callee,args,j⟩:=c;simp only;split
  .split
   .rename_i t t' s x i ct;have e:args= #[s,x]:=by apply xbO;simpa using ct
    have f:ev s=b s:=h s (by simp[Op.operands,Call.operands,e]);have g:ev x=b x:=h x (by simp[Op.operands,Call.operands,e]);rw[f,g]
   rfl
  .split
   .rename_i t t' s x i ct;have e:args= #[s,x]:=by apply xbO;simpa using ct
    have f:ev s=b s:=h s (by simp[Op.operands,Call.operands,e]);have g:ev x=b x:=h x (by simp[Op.operands,Call.operands,e]);rw[f,g]
   rfl
  .split
   .rename_i t s i ct;have e:args= #[s]:=by apply xbO;simpa using ct
    rw[h s (by simp[Op.operands,Call.operands,e])]
   rfl
  rfl
def V7{T:br}{ev a:Operand->ax}{objs:bK}{d:Key}{op:Op}(h:∀x∈op.operands.toList,ev x=a x):eR T ev objs d op=eR T a objs d op:=by unfold eR;rw[V6 h]
def fT:Op->Bool
 | .move _| .assign _| .pick ..| .unOp ..| .fieldAddr ..| .field ..| .extract ..| .build ..| .index ..| .makeFunc ..| .makeInterface ..| .nilCheck _=>true|_=>false
def gl:Op->Bool
 | .load ..| .indexAddr ..| .slice ..| .lookup ..| .binOp ..| .convert ..=>true| .call ⟨.builtin b,_,_⟩=>match b with| .len| .max| .min=>true|_=>false
 |_=>false
def e1:Op->Bool
 | .call ⟨.value _,_,_⟩=>true|_=>false
def la:Op->Bool
 | .alloc _| .box ..| .buildSlice ..=>true|_=>false
theorem sV{T:br}{ev:Operand->ax}{objs:bK}{d:Key}{op:Op}(h:fT op=true):cH T ev objs op=none/\eR T ev objs d op=none:=by cases op<;>first|exact⟨rfl,rfl⟩|cases h
def sW{T:br}{ev:Operand->ax}{objs:bK}{d:Key}{op:Op}(h:gl op=true):eR T ev objs d op=none:=by
 cases op
 case call c=>
  obtain⟨callee,args,a⟩:=c;cases callee with
  |value=>cases h
  |invoke=>cases h
  |builtin b=>cases b<;>first|rfl|cases h
 all_goals first|rfl|cases h
def F9{T:br}{ev:Operand->ax}{objs:bK}{d:Key}{op:Op}(h:e1 op=true):db T ev op=none/\cH T ev objs op=none/\eR T ev objs d op=none:=by
 cases op
 case call c=>
  obtain⟨callee,args,a⟩:=c;cases callee with
  |value=>exact⟨rfl,rfl,rfl⟩|invoke=>cases h
  |builtin b=>cases h
 all_goals cases h
theorem l0{T:br}{ev:Operand->ax}{objs:bK}{op:Op}(h:la op=true):db T ev op=none/\cH T ev objs op=none:=by cases op<;>first|exact⟨rfl,rfl⟩|cases h
def V8{T:br}{ev:Operand->ax}{objs objs':bK}{d:Key}{op:Op}(h:la op=true)(ak:objs' d=none){r:ax}{c:List (Key×b1)}(a:cZ T ev objs d op=some (r,c)):cZ T ev objs' d op=some (r,c)/\objs d=none/\∃o,c=[(d,o)]:=by
 cases op
 case alloc t=>
  simp only[cZ]at a⊢;split at a
  case h_2=>cases a
  rename_i i k f;cases a;exact⟨by simp only[ak,k],f,_,rfl⟩
 case box t x=>
  simp only[cZ]at a⊢;split at a
  case h_2=>cases a
  rename_i cs g f;cases a;exact⟨by simp only[ak,g],f,_,rfl⟩
 case buildSlice t n parts=>
  simp only[cZ]at a⊢;split at a
  case h_2=>cases a
  rename_i e s b z k f;simp only[ak,k];split at a
  case h_2=>cases a
  rename_i m j
  try simp only[j]
  split at a
  case h_2=>cases a
  rename_i es l
  try simp only[l]
  split at a
  case isFalse=>cases a
  rename_i g;cases a;exact⟨by rw[xac g],f,_,rfl⟩
 all_goals cases h
def sX{T:br}{ev:Operand->ax}{objs objs':bK}{d:Key}{op:Op}(h:la op=true)(ak:objs' d=none){r:ax}{a:List (Key×b1)}(j:eR T ev objs d op=some (r,a)):eR T ev objs' d op=some (r,a)/\objs d=none/\∃o,a=[(d,o)]:=by
 obtain⟨⟨k,g⟩,g0,b⟩:=pB j;obtain⟨g1,g2,o,rfl⟩:=V8 (objs':=objs') h ak g0;refine⟨by unfold eR;rw[g1];simp[b],g2,?_⟩;rcases q0 (T.born d) d k [(d,o)]with e|⟨n,es,f,c,e⟩|⟨m,n,es,f,c,e⟩|⟨off,cs,l,f,c,i,e⟩;.rw[b]at e;cases e;exact⟨o,rfl⟩
 .rw[b]at e;cases e;exact⟨_,rfl⟩
 .cases c
 rw[b]at e;cases e;exact⟨_,rfl⟩
def bK.ext(objs objs':bK):Prop:=∀k o,objs k=some o->objs' k=some o
def bK.AM{objs:bK}{k:Key}(h:objs k=none)(o:b1):objs.ext (bE objs k (some o)):=by
 intro j x a;have:j≠k:=by rintro rfl;rw[h]at a;cases a
 rw[b4 _ _ this];exact a
def Lr{objs objs':bK}(h:objs.ext objs'){x:ax}{n:Nat}(ah:gY objs x=some n):gY objs' x=some n:=by
 unfold gY at*;split at ah;.exact ah
 .exact ah
 .split at ah;.rename_i a;rw[h _ _ a];exact ah
  cases ah
 .exact ah
 cases ah
def V9{objs objs':bK}(h:objs.ext objs'){x:ax}{es:mW}(ah:k9 objs x=some es):k9 objs' x=some es:=by
 unfold k9 at*;split at ah;.exact ah
 .exact ah
 .split at ah;.rename_i a;rw[h _ _ a];exact ah
  cases ah
 .split at ah;.rename_i a;rw[h _ _ a];exact ah
  cases ah
 cases ah
def AN{objs objs':bK}(h:objs.ext objs'){x:ax}{b:Bool}(ah:iU objs x=some b):iU objs' x=some b:=by
 unfold iU at*;split at ah;.exact ah
 .exact ah
 .split at ah;.rename_i a;rw[h _ _ a];exact ah
  cases ah
 cases ah
def Ls{objs objs':bK}(h:objs.ext objs'){x:ax}{d:D}(ah:lT objs x=some d):lT objs' x=some d:=by
 unfold lT at*;split at ah;.exact ah
 .split at ah;.rename_i a;rw[h _ _ a];exact ah
  cases ah
 .split at ah;.rename_i a;rw[h _ _ a];exact ah
  cases ah
 .split at ah;.rename_i a;rw[h _ _ a];exact ah
  cases ah
 cases ah
def kK{e:Type}{f g:ax->Option e}(h:∀x d,f x=some d->g x=some d):∀(l:List ax)(r:List e),e0 (l.map f)=some r->e0 (l.map g)=some r
 |[],r,a=>a
 |x::l,r,a=>by
  simp only[xav]at a⊢;cases c:f x with
  |none=>simp[c,e0]at a
  |some d=>
   rw[c]at a;simp only[e0]at a;split at a
   case h_2=>cases a
   rename_i i b;rw[h x d c];simp only[e0,kK h l i b];exact a
def AO{objs objs':bK}(h:objs.ext objs'){x:ax}{d:D}(ah:jz objs x=some d):jz objs' x=some d:=by
 unfold jz at*;split at ah
 .split at ah
  case h_2=>cases ah
  rename_i b;simp only[h _ _ b];split at ah
  case h_2=>cases ah
  rename_i cs a;rw[kK (λx d c=>Ls h c) _ _ a];exact ah
 .exact ah
 exact Ls h ah
def Lt{objs objs':bK}(h:objs.ext objs'){x:ax}{d:D}(ah:kj objs x=some d):kj objs' x=some d:=by
 unfold kj at*;split at ah
 .split at ah
  case h_2=>cases ah
  rename_i e c;rw[kK (λx d a=>AO h a) _ _ c];exact ah
 .split at ah
  case h_2=>cases ah
  rename_i as et has b;rw[kK (λx d a=>AO h a) _ _ has,kK (λx d a=>AO h a) _ _ b];exact ah
 exact AO h ah
def Wa{objs objs':bK}(h:objs.ext objs'){x:ax}{d:D}(ah:toD objs x=some d):toD objs' x=some d:=by
 unfold toD at*;split at ah
 .split at ah
  case h_2=>cases ah
  rename_i c a;rw[kK (λx d b=>Lt h b) _ _ a];exact ah
 exact Lt h ah
def Wb{T:br}{ev:Operand->ax}{objs objs':bK}(h:objs.ext objs'){op:Op}{r:ax}(d:cH T ev objs op=some r):cH T ev objs' op=some r:=by
 cases op<;>simp only[cH,reduceCtorEq]at d⊢
 case convert s t x=>
  split at d
  case h_2=>cases d
  rename_i m o;split at d
  case h_2=>cases d
  rename_i p;split at d
  case h_2=>cases d
  rename_i es l;simp only[V9 h l];exact d
 case load t a=>
  split at d
  case h_2=>cases d
  split at d;.exact d
  .split at d
   case h_2=>cases d
   rename_i e;simp only[h _ _ e];exact d
  .split at d
   case h_2=>cases d
   rename_i e;simp only[h _ _ e];exact d
  cases d
 case indexAddr t x c0=>
  split at d
  .split at d
   case h_2=>cases d
   split at d
   case isFalse=>cases d
   rename_i ak;rw[xac ak];split at d;.exact d
   .split at d
    case h_2=>cases d
    rename_i e;simp only[h _ _ e];exact d
   .exact d
   cases d
  .exact d
  cases d
 case slice t x lo ag dU=>
  cases dU with
  |some _=>simp[]at d
  |none=>
   simp only[]at d⊢;split at d
   case h_3=>cases d
   case h_2=>exact d
   split at d
   case h_2=>cases d
   split at d
   case h_2=>cases d
   rename_i n j;simp only[Lr h j];split at d
   case h_2=>cases d
   split at d
   case isFalse=>cases d
   rename_i f;rw[xac f];split at d;.exact d
   .split at d
    case h_2=>cases d
    rename_i e;simp only[h _ _ e];exact d
   .exact d
   cases d
 case call c=>
  split at d
  case h_2=>cases d
  split at d
  case h_2=>cases d
  split at d;.exact d
  .split at d
   case h_2=>cases d
   rename_i n j;simp only[Lr h j];exact d
  .exact d
  .exact d
  .split at d
   case h_2=>cases d
   rename_i e;simp only[h _ _ e];exact d
  cases d
 case lookup t x k ok=>
  split at d
  case h_2=>cases d
  split at d;.exact d
  .exact d
  .split at d
   case h_2=>cases d
   rename_i e;simp only[h _ _ e];exact d
  cases d
 case binOp op t x y q=>
  split at d
  case h_2=>cases d
  split at d
  .split at d
   .rename_i f;rw[xac f];split at d
    case h_2=>cases d
    rename_i b g;simp only[AN h g];exact d
   rename_i f;rw[xab f];split at d
   case isFalse=>cases d
   rename_i i;rw[xac i];split at d
   case h_2=>cases d
   rename_i b g;simp only[AN h g];exact d
  .split at d
   .rename_i f;rw[xac f];split at d
    case h_2=>cases d
    rename_i b g;simp only[AN h g];exact d
   rename_i f;rw[xab f];split at d
   case isFalse=>cases d
   rename_i i;rw[xac i];split at d
   case h_2=>cases d
   rename_i b g;simp only[AN h g];exact d
  cases d
def Lu:∀(a:List (Key×b1)) {objs:bK} {k:Key} {o:b1},(∀p∈a,p.1≠k)->cA (bE objs k (some o)) a=bE (cA objs a) k (some o)
 |[],objs,k,o,_=>rfl
 |(j,x)::r,objs,k,o,h=>by
  have b:j≠k:=h (j,x) sZ;simp only[cA];have e:bE (bE objs k (some o)) j (some x)=bE (bE objs j (some x)) k (some o):=by
   funext i
   simp only[bE];by_cases ab:i=j;.subst ab;simp[b]
   by_cases ad:i=k;.subst ad;simp[ab]
   simp[ab,ad]
  rw[e];exact Lu r (λp c=>h p (by simp[c]))
def AP{objs objs':bK}(h:objs.ext objs'){x:ax}{r:Nat×mW}(ah:iA objs x=some r):iA objs' x=some r:=by
 unfold iA at*;split at ah;.exact ah
 .exact ah
 .split at ah;.rename_i a;rw[h _ _ a];exact ah
  cases ah
 .split at ah;.rename_i a;rw[h _ _ a];exact ah
  cases ah
 cases ah
def Wc{T:br}{ev:Operand->ax}{objs objs':bK}(h:objs.ext objs'){d k:Key}(S:d≠k)(U:objs k=none)(y:objs d=none->objs' d=none){op:Op}{r:ax}{H:List (Key×b1)} (f:cZ T ev objs d op=some (r,H)):cZ T ev objs' d op=some (r,H)/\∀p∈H,p.1≠k:=by
 have one:∀{o:b1},∀p∈[(d,o)],p.1≠k:=by intro o p C;simp at C;subst C;exact S
 have gI:∀{j:Key}{x o:b1},objs j=some x->∀p∈[(j,o)],p.1≠k:=by intro j x o g p C;simp at C;subst C;rintro rfl;rw[U]at g;cases g
 cases op<;>simp only[cZ,reduceCtorEq]at f
 case alloc t=>split at f<;>cases f;rename_i i u ak;exact⟨by simp only[cZ,u,y ak],one⟩
 case box t x=>split at f<;>cases f;rename_i cs A ak;exact⟨by simp only[cZ,A,y ak],one⟩
 case buildSlice t n parts=>
  split at f
  case h_2=>cases f
  rename_i e s b z u ak;split at f
  case h_2=>cases f
  rename_i J q;split at f
  case h_2=>cases f
  rename_i es C;split at f
  case isFalse=>cases f
  rename_i A;cases f;exact⟨by simp only[cZ,u,y ak,q,C];rw[xac A],one⟩
 case makeSlice t l c=>
  split at f
  case h_2=>cases f
  rename_i e s b z u ak;split at f
  case h_2=>cases f
  rename_i J q;split at f
  case h_2=>cases f
  rename_i de dD cU cz ab ad;split at f
  case isFalse=>cases f
  rename_i A;cases f;exact⟨by simp only[cZ,u,y ak,q,ab,ad];rw[xac A],one⟩
 case makeMap t r=>split at f<;>cases f;rename_i ak;exact⟨by simp only[cZ,y ak],one⟩
 case store t a x=>
  split at f
  case h_2=>cases f
  rename_i i cs u A;split at f
  case isFalse=>cases f
  rename_i ah;split at f
  .rename_i j off fl;split at f
   case h_2=>cases f
   rename_i cells g;split at f
   case isFalse=>cases f
   rename_i Q;cases f;exact⟨by simp only[cZ,u,A,fl,h _ _ g];rw[xac ah,xac Q],gI g⟩
  .rename_i j V c0 off fl;split at f
   case h_2=>cases f
   rename_i K es cL g O;split at f
   case isFalse=>cases f
   rename_i Q;split at f
   case h_2=>cases f
   rename_i di P;cases f;exact⟨by simp only[cZ,u,A,fl,h _ _ g,O];rw[xac ah,xac Q];simp only[P],gI g⟩
  cases f
 case mapUpdate t m bU x=>
  split at f
  case h_2=>cases f
  rename_i Z X s b z u;split at f
  case h_2=>cases f
  rename_i Y F;split at f
  case isFalse=>cases f
  rename_i G;split at f
  case h_2=>cases f
  rename_i key bY bX L M N;split at f
  case h_2=>cases f
  rename_i es g;split at f
  case h_2=>cases f
  rename_i l ah;cases f;exact⟨by simp only[cZ,u,F,L,M,N,h _ _ g,ah];rw[xac G],gI g⟩
 case insert t m bU x=>
  split at f
  case h_2=>cases f
  rename_i Z X s b z u;split at f
  case h_2=>cases f
  rename_i Y F;split at f
  case isFalse=>cases f
  rename_i G;split at f
  case h_2=>cases f
  rename_i key bY bX L M N;split at f
  case h_2=>cases f
  rename_i es g;split at f
  case h_2=>cases f
  rename_i l ah;cases f;exact⟨by simp only[cZ,u,F,L,M,N,h _ _ g,ah];rw[xac G],gI g⟩
 case call c=>
  obtain⟨callee,args,b5⟩:=c;simp only at f;split at f
  .split at f
   case h_2=>cases f
   rename_i t t' s x E ct;split at f
   case h_2=>cases f
   rename_i e s1 R W cy s2 cv z2 u I ak;split at f
   case h_2=>cases f
   rename_i J q;split at f
   case h_2=>cases f
   rename_i V b6 B;split at f
   case isFalse=>cases f
   rename_i A;split at f
   .rename_i w;split at f
    case isFalse=>cases f
    rename_i D;cases f;exact⟨by simp only[cZ,E,ct,u,I,y ak,q,AP h B,w];rw[xac A,xac D],one⟩
   .rename_i key w;split at f
    case h_2=>cases f
    rename_i K es g;split at f
    case isFalse=>cases f
    rename_i D;cases f;refine⟨by simp only[cZ,E,ct,u,I,y ak,q,AP h B,w,h _ _ g];rw[xac A,xac D],?_⟩;intro p C;simp at C;rcases C with rfl|rfl
    .rintro rfl;rw[U]at g;cases g
    exact S
   cases f
  .split at f
   case h_2=>cases f
   rename_i t t' s x E ct;split at f
   case h_2=>cases f
   rename_i e s1 R W u;split at f
   case h_2=>cases f
   rename_i J q;split at f
   case h_2=>cases f
   rename_i V b6 B;split at f
   case isFalse=>cases f
   rename_i A;split at f
   .rename_i key w;split at f
    case h_2=>cases f
    rename_i K es g;split at f
    case isFalse=>cases f
    rename_i D;cases f;exact⟨by simp only[cZ,E,ct,u,q,AP h B,w,h _ _ g];rw[xac A,xac D],gI g⟩
   .rename_i key cM i len w;split at f
    case h_2=>cases f
    rename_i K es g;split at f
    case isFalse=>cases f
    rename_i D;cases f;exact⟨by simp only[cZ,E,ct,u,q,AP h B,w,h _ _ g];rw[xac A,xac D],gI g⟩
   cases f
  .split at f
   case h_2=>cases f
   rename_i t s E ct;split at f
   case h_2=>cases f
   rename_i e s1 R W u;split at f
   case h_2=>cases f
   rename_i J q;split at f
   case h_2=>cases f
   rename_i key cM i len w;split at f
   case h_2=>cases f
   rename_i K es g;split at f
   case isFalse=>cases f
   rename_i D;cases f;exact⟨by simp only[cZ,E,ct,u,q,w,h _ _ g];rw[xac D],gI g⟩
  cases f
def Wd{T:br}{ev:Operand->ax}{objs objs':bK}(h:objs.ext objs'){d k:Key}(j:d≠k)(m:objs k=none)(e:objs d=none->objs' d=none){op:Op}{r:ax}{a:List (Key×b1)} (l:eR T ev objs d op=some (r,a)):eR T ev objs' d op=some (r,a)/\∀p∈a,p.1≠k:=by obtain⟨⟨s,c⟩,g0,f⟩:=pB l;obtain⟨g1,g2⟩:=Wc (objs':=objs') h j m e g0;refine⟨by unfold eR;rw[g1];simp[f],λp n=>?_⟩;have ai:=VS (b:=T.born d) (d:=d) (q:=(s,c)) p (by rw[f];exact n);obtain⟨o,g,i⟩:=ai;rw[<-i];exact g2 o g
def res(T:br)(G:ca)(σ:aq)(o:Oper):Option (ax×List (Key×b1)):=match db T (bs G σ.au) o.op with|some r=>some (r,[])|none=>match cH T (bs G σ.au) σ.objs o.op with|some r=>some (r,[])|none=>eR T (bs G σ.au) σ.objs (o.dst.getD 9999) o.op
def aq.step(σ:aq)(dst:Option Tmp)(r:ax)(a:List (Key×b1)):aq:=aq.put ⟨σ.au,cA σ.objs a⟩ dst r
theorem pG{T:br}{G:ca}{σ:aq}{o:Oper}:eD T G σ o=(res T G σ o).map λp=>σ.step o.dst p.1 p.2:=by unfold eD res aq.step;cases db T (bs G σ.au) o.op with|some r=>rfl|none=>cases cH T (bs G σ.au) σ.objs o.op with|some r=>rfl|none=>cases eR T (bs G σ.au) σ.objs (o.dst.getD 9999) o.op with|none=>rfl|some p=>obtain⟨r,a⟩:=p;rfl
theorem We{G:ca}{σ:aq}{dst:Option Tmp}{r:ax}{x:Operand}(h:∀d,dst=some d->x≠ .tmp d):bs G (σ.put dst r).au x=bs G σ.au x:=by cases dst with|none=>rfl|some d=>cases x with|tmp t=>have:t≠d:=λe=>h d rfl (by rw[e]);simp only[bs,aq.put,b4 _ _ this]|_=>rfl
theorem Wf{all:Array Oper}{o:Oper}{d:Tmp}(h:d∉o.looksAt all):∀x∈o.op.operands.toList,x≠ .tmp d:=by rintro x a rfl;exact h (by unfold Oper.looksAt;exact xaW _ (List.mem_filterMap.2 ⟨_,a,rfl⟩))
def Wg{all:Array Oper}{o:Oper}{d:Tmp}(h:d∉o.looksAt all){j:Nat}{b:Bool}(c:o.guard=some (j,b)){e:Tmp}(a:(all[j]?).bind (·.dst)=some e):e≠d:=by rintro rfl;exact h (by unfold Oper.looksAt;exact xbS _ (by simp[c,a]))
def put_comm{σ:aq}{x y:Option Tmp}{r s:ax}(h:∀d,x=some d->y≠some d):(σ.put x r).put y s=(σ.put y s).put x r:=by
 cases x with
 |none=>rfl
 |some d=>
  cases y with
  |none=>rfl
  |some e=>
   have a:d≠e:=λb=>h d rfl (by rw[b]);simp only[aq.put]
   congr 1
   funext t
   simp only[bE];by_cases ab:t=d;.subst ab;simp[a]
   by_cases ad:t=e;.subst ad;simp[ab]
   simp[ab,ad]
def pass(x y:Oper):Bool:=fT x.op||fT y.op||((gl x.op||e1 x.op)&&(gl y.op||e1 y.op)&&!(e1 x.op&&e1 y.op))||(la y.op&&match y.dst with|some d=>decide (d<9999)|none=>false)
def gJ(all:Array Oper)(σ:aq)(o:Oper):Option Bool:=match o.guard with
 |none=>some true
 |some (j,want)=>match(all[j]?).bind (·.dst)with
  |some d=>match σ.au d with| .d (.val (.bool b))=>some (decide (b=want))| .d (.val (.tuple _))=>some false|_=>none
  |none=>none
section
variable{P:Program}{T:br}{G:ca}{all:Array Oper}
def e5{o:Oper}{K:aq->Prop}{σ:aq}:c3 P T G all o K σ=match gJ all σ o with|some true=>cf P T G o K σ|some false=>K (σ.put o.dst (.d (.val (.tuple #[]))))|none=>False:=by
 unfold c3 gJ;cases c:o.guard with
 |none=>rfl
 |some p=>
  obtain⟨j,want⟩:=p;simp only;cases a:(all[j]?).bind (·.dst)with
  |none=>rfl
  |some d=>
   simp only;generalize σ.au d=x;cases x with
   |d x=>
    cases x with
    |val v=>cases v with|bool b=>by_cases h:b=want<;>simp[h]|_=>rfl
    |_=>rfl
   |_=>rfl
def kk{o:Oper}{σ:aq}{dst:Option Tmp}{r:ax}(h:∀d,dst=some d->d∉o.looksAt all):gJ all (σ.put dst r) o=gJ all σ o:=by
 unfold gJ;split;.rfl
 rename_i j want b;split
 .rename_i e a;have aj:(σ.put dst r).au e=σ.au e:=by
   cases dst with|none=>rfl|some d=>simp only[aq.put,b4 _ _ (Wg (h d rfl) b a)]
  rw[aj]
 rfl
def Lv{o:Oper}{σ:aq}{dst:Option Tmp}{r:ax}(h:∀d,dst=some d->d∉o.looksAt all):∀x∈o.op.operands.toList,bs G (σ.put dst r).au x=bs G σ.au x:=λx b=>We λd a=>Wf (h d a) x b
def Wh{o:Oper}{σ:aq}{dst:Option Tmp}{r:ax}(h:∀d,dst=some d->d∉o.looksAt all):res T G (σ.put dst r) o=res T G σ o:=by have a:=Lv (G:=G) (σ:=σ) (r:=r) h;unfold res;rw[V4 a,V5 a,V7 a,aq.pE]
theorem Wi{σ:aq}{b c:Option Tmp}{r s:ax}{a:List (Key×b1)}(h:∀d,b=some d->c≠some d):(σ.put b r).step c s a=(σ.step c s a).put b r:=by unfold aq.step;rw[<-put_comm h];cases b<;>rfl
def Wj{o:Oper}{σ:aq}{dst:Option Tmp}{r:ax}{K:aq->Prop}(h:∀d,dst=some d->d∉o.looksAt all)(c:∀d,dst=some d->o.dst≠some d):gx P G o (σ.put dst r) K=gx P G o σ (λe=>K (e.put dst r)):=by
 have a:=Lv (G:=G) (σ:=σ) (r:=r) h;unfold gx;split
 .rename_i x args l b;have i:bs G (σ.put dst r).au x=bs G σ.au x:=a x (by rw[b];simp[Op.operands,Call.operands]);have j:args.toList.map (bs G (σ.put dst r).au)=args.toList.map (bs G σ.au):=AL λy k=>a y (by rw[b];simp[Op.operands,Call.operands];exact .inr (by simpa using k));rw[i];split
  .rename_i f pre post g;unfold Lo;rw[j,aq.pE];simp only[put_comm c]
  rfl
 rfl
def gy{o:Oper}{σ:aq}{dst:Option Tmp}{r:ax}{K:aq->Prop}(h:∀d,dst=some d->d∉o.looksAt all)(a:∀d,dst=some d->o.dst≠some d):cf P T G o K (σ.put dst r)=cf P T G o (λb=>K (b.put dst r)) σ:=by unfold cf;rw[pG,pG,Wh h];cases c:res T G σ o with|none=>exact Wj h a|some p=>simp only[xaH,Wi a]
def Wk{ev:Operand->ax}{objs:bK}{d:Key}{op:Op}{p:ax×List (Key×b1)}(h:eR T ev objs d op=some p)(objs':bK):db T ev op=none/\cH T ev objs' op=none:=by
 obtain⟨q,ab,_⟩:=pB h;clear h;cases op<;>first|exact⟨rfl,rfl⟩|(simp only[cZ,reduceCtorEq]at ab;done)|skip
 case call c=>obtain⟨callee,args,a⟩:=c;cases callee with|value=>exact⟨rfl,rfl⟩|invoke=>exact⟨rfl,rfl⟩|builtin b=>cases b<;>first|exact⟨rfl,rfl⟩|(simp only[cZ,reduceCtorEq]at ab;done)
def Wl{ev:Operand->ax}{op:Op}{r:ax}(h:db T ev op=some r):fT op=true\/gl op=true:=by
 cases op
 case call c=>obtain⟨callee,args,a⟩:=c;cases callee with|value=>exact absurd h (by simp[db])|invoke=>exact absurd h (by simp[db])|builtin b=>cases b<;>first|exact .inr rfl|exact absurd h (by simp[db])
 all_goals first|exact .inl rfl|exact .inr rfl|exact absurd h (by simp[db])
def Wm{ev:Operand->ax}{objs:bK}{op:Op}{r:ax}(h:cH T ev objs op=some r):fT op=true\/gl op=true:=by
 cases op
 case call c=>obtain⟨callee,args,a⟩:=c;cases callee with|value=>exact absurd h (by simp[cH])|invoke=>exact absurd h (by simp[cH])|builtin b=>cases b<;>first|exact .inr rfl|exact absurd h (by simp[cH])
 all_goals first|exact .inl rfl|exact .inr rfl|exact absurd h (by simp[cH])
def Lw:∀(a:List (Key×b1)) {objs:bK} {k:Key},cA objs a k=none->objs k=none/\∀p∈a,p.1≠k
 |[],objs,k,h=>⟨h,by simp⟩
 |(j,x)::r,objs,k,h=>by
  obtain⟨ab,ad⟩:=Lw r h;have c:j≠k:=by rintro rfl;rw[dq]at ab;cases ab
  rw[b4 _ _ (xcc c)]at ab;exact⟨ab,by intro p b;rcases xan.1 b with rfl|b;exact c;exact ad p b⟩
def q2{o:Oper}{σ:aq}{K:aq->Prop}(h:gx P G o σ K):e1 o.op=true:=by
 unfold gx at h;split at h;.rename_i x args b a;rw[a];rfl
 cases h
def wy{op:Op}(h:e1 op=true):fT op=false/\gl op=false/\la op=false:=by
 cases op<;>first|cases h|skip
 case call c=>
  obtain⟨callee,args,a⟩:=c;cases callee with
  |value=>exact⟨rfl,rfl,rfl⟩|invoke=>cases h
  |builtin b=>cases h
def Wn{o:Oper}{au:Nat->ax}{objs objs':bK}(h:objs.ext objs'){r:ax}(a:res T G ⟨au,objs⟩ o=some (r,[]))(b:fT o.op=true\/gl o.op=true):res T G ⟨au,objs'⟩ o=some (r,[]):=by
 unfold res at*;simp only at*;split at a;.exact a
 rename_i e;split at a;.rename_i f c;simp only[Wb h c];exact a
 rename_i c;rcases b with b|b
 .rw[(sV (T:=T) (ev:=bs G au) (objs:=objs) (d:=o.dst.getD 9999) b).2]at a;cases a
 rw[sW b]at a;cases a
def AQ{o:Oper}{σ:aq}{r:ax}{c:List (Key×b1)}(a:res T G σ o=some (r,c))(b:fT o.op=true\/gl o.op=true):c=[]:=by
 unfold res at a;split at a;.cases a;rfl
 split at a;.cases a;rfl
 rcases b with b|b;.rw[(sV (T:=T) (ev:=bs G σ.au) (objs:=σ.objs) (d:=o.dst.getD 9999) b).2]at a;cases a
 rw[sW b]at a;cases a
def Lx{o:Oper}{au:Nat->ax}{objs objs':bK}{p:ax×List (Key×b1)}(a:res T G ⟨au,objs⟩ o=some p)(b:fT o.op=true):res T G ⟨au,objs'⟩ o=some p/\p.2=[]:=by
 unfold res at*;simp only at*;split at a;.cases a;exact⟨rfl,rfl⟩
 rw[(sV (T:=T) (ev:=bs G au) (objs:=objs) (d:=o.dst.getD 9999) b).1,(sV (T:=T) (ev:=bs G au) (objs:=objs) (d:=o.dst.getD 9999) b).2]at a;cases a
def oi{o:Oper}{σ:aq}(a:e1 o.op=true):res T G σ o=none:=by unfold res;obtain⟨ab,ad,ai⟩:=F9 (T:=T) (ev:=bs G σ.au) (objs:=σ.objs) (d:=o.dst.getD 9999) a;rw[ab,ad,ai]
theorem iB{o:Oper}{σ:aq}{K:aq->Prop}{r:ax}{a:List (Key×b1)}(b:res T G σ o=some (r,a)):cf P T G o K σ=K (σ.step o.dst r a):=by unfold cf;rw[pG,b];rfl
theorem jP{o:Oper}{σ:aq}{K:aq->Prop}(a:res T G σ o=none):cf P T G o K σ=gx P G o σ K:=by unfold cf;rw[pG,a];rfl
def wz{o:Oper}{σ:aq}{K K':aq->Prop}(h:gx P G o σ K)(l:∀r,K (σ.put o.dst r)->K' (σ.put o.dst r)):gx P G o σ K':=by
 unfold gx at*;split
 .rename_i x args c b;rw[b]at h;simp only at h;split;.rename_i f pre post a;simp only[a]at h;obtain⟨d,g,R,ab,ad,ai,i,j,k⟩:=h;exact⟨d,g,R,ab,ad,ai,i,j,λr m=>l _ (k r m)⟩
  rename_i a;simp only[a]at h
 rename_i b;split at h;.rename_i x args c e;exact absurd e (b x args c)
 exact h
def Ly{x y:Oper}{σ:aq}{K:aq->Prop}(ab:∀d,x.dst=some d->d∉y.looksAt all)(ad:∀d,x.dst=some d->y.dst≠some d)(ai:∀d,y.dst=some d->d∉x.looksAt all)(s:pass x y=true) (h:cf P T G x (λeP=>cf P T G y K eP) σ):cf P T G y (λV=>cf P T G x K V) σ:=by
 have E:∀d,y.dst=some d->x.dst≠some d:=λd M b6=>ad d b6 M;obtain⟨au,objs⟩:=σ;have j:∀{o:Oper}{r:ax}{u:List (Key×b1)},aq.step ⟨au,objs⟩ o.dst r u=aq.put ⟨au,cA objs u⟩ o.dst r:=rfl;cases i:res T G ⟨au,objs⟩ x with
 |none=>
  rw[jP i]at h;have U:=q2 h;obtain⟨eO,eV,ga⟩:=wy U;have l:(fT y.op=true\/gl y.op=true)\/(la y.op=true/\∃d,y.dst=some d/\d<9999):=by simp only[pass,eO,eV,U,xbG,xbl]at s;cases dD:fT y.op with|true=>exact .inl (.inl rfl)|false=>cases de:gl y.op with|true=>exact .inl (.inr rfl)|false=>simp only[dD,de,xbG]at s;cases cy:la y.op with|false=>simp[cy]at s|true=>refine .inr ⟨rfl,?_⟩;simp only[cy,xbl]at s;cases M:y.dst with|none=>simp[M]at s|some d=>simp[M]at s;exact⟨d,rfl,s⟩
  have I:e1 y.op=false:=by
   cases L:e1 y.op with
   |false=>rfl
   |true=>
    obtain⟨a,b,c⟩:=wy L;rcases l with(e|e)|⟨e,_⟩;.rw[a]at e;cases e
    .rw[b]at e;cases e
    rw[c]at e;cases e
  unfold gx at h;split at h
  case h_2=>cases h
  rename_i aQ args mV eI;split at h
  case h_2=>cases h
  rename_i f pre post W;obtain⟨di,fK,R,jw,iz,ki,⟨fw,rfl⟩,jO,gk⟩:=h;have Q:cf P T G y K (aq.put ⟨au,objs⟩ x.dst (.d fw)):=gk fw rfl;rw[gy ab ad]at Q;cases g:res T G ⟨au,objs⟩ y with
  |none=>rw[jP g]at Q;have:=q2 Q;rw[I]at this;cases this
  |some p=>
   obtain⟨C,D⟩:=p;rw[iB g];have Z:bK.ext objs (cA objs D):=by
    rcases l with l|⟨l,_⟩;.rw[AQ g l];exact λ_ _ h=>h
    have m:eR T (bs G au) objs (y.dst.getD 9999) y.op=some (C,D):=by unfold res at g;simp only[(l0 (T:=T) (ev:=bs G au) (objs:=objs) l).1,(l0 (T:=T) (ev:=bs G au) (objs:=objs) l).2]at g;exact g
    obtain⟨hr,bU,o,rfl⟩:=sX (objs':=λ_=>none) l rfl m;exact bK.AM bU o
   show cf P T G x K (aq.step ⟨au,objs⟩ y.dst C D);rw[j,gy ai E,jP (oi U)];unfold gx;rw[eI];simp only[W];refine⟨di,fK,_,kK (λx d b6=>Wa Z b6) _ _ jw,iz,ki,⟨fw,rfl⟩,jO,λr eQ=>?_⟩;have b5:cf P T G y K (aq.put ⟨au,objs⟩ x.dst (.d r)):=gk r eQ;rw[gy ab ad,iB g,j,put_comm E]at b5;exact b5
 |some p=>
  obtain⟨rx,w⟩:=p;rw[iB i,j,gy ab ad]at h;cases g:res T G ⟨au,cA objs w⟩ y with
  |none=>
   rw[jP g]at h;have I:=q2 h;obtain⟨eO,eV,ga⟩:=wy I;have b6:fT x.op=true\/gl x.op=true:=by simp only[pass,eO,eV,ga,I,Bool.or_false,xcd,xby,Bool.or_true]at s;cases dD:fT x.op with|true=>exact .inl rfl|false=>cases de:gl x.op with|true=>exact .inr rfl|false=>cases L:e1 x.op<;>simp[dD,de,L]at s
   have H:=AQ i b6;subst H;rw[jP (show res T G ⟨au,objs⟩ y=none from g)];refine wz h λr eQ=>?_;rw[gy ai E,iB i,j,put_comm ad];exact eQ
  |some p=>
   obtain⟨C,D⟩:=p;rw[iB g]at h;have S:aq.step ⟨au,cA objs w⟩ y.dst C D=aq.put ⟨au,cA (cA objs w) D⟩ y.dst C:=rfl;rw[S]at h;have k:∀{q:List (Key×b1)} {J:ax},res T G ⟨au,objs⟩ y=some (J,q)->(∃B,res T G ⟨au,cA objs q⟩ x=some (rx,B)/\J=C/\cA (cA objs q) B=cA (cA objs w) D)->cf P T G y (λV=>cf P T G x K V) ⟨au,objs⟩:=by rintro q J cU ⟨B,cL,rfl,jx⟩;rw[iB cU];show cf P T G x K (aq.step ⟨au,objs⟩ y.dst J q);rw[j,gy ai E,iB cL];have:aq.step ⟨au,cA objs q⟩ x.dst rx B=aq.put ⟨au,cA (cA objs q) B⟩ x.dst rx:=rfl;rw[this,jx,put_comm ad];exact h
   by_cases n:fT x.op=true\/gl x.op=true
   .have H:=AQ i n;subst H;refine k g ⟨[],?_,rfl,rfl⟩;by_cases t:fT y.op=true\/gl y.op=true;.rw[AQ g t];exact i
    by_cases cv:fT x.op=true;.exact(Lx i cv).1
    
    have l:la y.op=true:=by
     rw[not_or]at t;have aE:fT x.op=false:=by simpa using cv
     have a2:fT y.op=false:=by simpa using t.1
     have a3:gl y.op=false:=by simpa using t.2
     simp only[pass,aE,a2,a3,xbG]at s;cases cy:la y.op with|true=>rfl|false=>cases L:e1 y.op with|false=>simp[cy,L]at s|true=>rw[oi L]at g;cases g
    have m:eR T (bs G au) objs (y.dst.getD 9999) y.op=some (C,D):=by have z:res T G ⟨au,objs⟩ y=some (C,D):=g;unfold res at z;simp only[(l0 (T:=T) (ev:=bs G au) (objs:=objs) l).1,(l0 (T:=T) (ev:=bs G au) (objs:=objs) l).2]at z;exact z
    obtain⟨hr,bU,o,rfl⟩:=sX (objs':=λ_=>none) l rfl m;exact Wn (bK.AM bU o) i n
   rw[not_or]at n;have aE:fT x.op=false:=by simpa using n.1
   have a2:gl x.op=false:=by simpa using n.2
   have eW:e1 x.op=false:=by cases L:e1 x.op with|false=>rfl|true=>rw[oi L]at i;cases i
   by_cases cz:fT y.op=true;.obtain⟨cU,cL⟩:=Lx (objs':=objs) g cz;simp only at cL;subst cL;exact k cU ⟨w,i,rfl,rfl⟩
   have a3:fT y.op=false:=by simpa using cz
   simp only[pass,aE,a2,a3,eW,xbG,xcd]at s;rw[xam]at s;obtain⟨l,M⟩:=s;have A:∃d,y.dst=some d/\d<9999:=by cases X:y.dst with|none=>simp[X]at M|some d=>simp[X]at M;exact⟨d,rfl,M⟩
   obtain⟨d,A,Y⟩:=A;have m:eR T (bs G au) (cA objs w) (y.dst.getD 9999) y.op=some (C,D):=by unfold res at g;simp only[(l0 (T:=T) (ev:=bs G au) (objs:=cA objs w) l).1,(l0 (T:=T) (ev:=bs G au) (objs:=cA objs w) l).2]at g;exact g
   rw[A]at m;simp only[xbm]at m;obtain⟨_,bU,o,rfl⟩:=sX (objs':=λ_=>none) l rfl m;obtain⟨O,H⟩:=Lw w bU;obtain⟨bY,_,_⟩:=sX (objs':=objs) l O m;have bX:res T G ⟨au,objs⟩ y=some (C,[(d,o)]):=by unfold res;simp only[(l0 (T:=T) (ev:=bs G au) (objs:=objs) l).1,(l0 (T:=T) (ev:=bs G au) (objs:=objs) l).2,A,xbm];exact bY
   have hex:eR T (bs G au) objs (x.dst.getD 9999) x.op=some (rx,w):=by
    unfold res at i;simp only at i;split at i;.rename_i dN;exact absurd (Wl dN) (by simp[aE,a2])
    split at i;.rename_i dS;exact absurd (Wm dS) (by simp[aE,a2])
    exact i
   have F:x.dst.getD 9999≠d:=by cases F:x.dst with|none=>simp only[Option.getD_none];exact λe=>by rw[<-e]at Y;exact absurd Y (xbZ _)|some e=>simp only[xbm];rintro rfl;exact ad e F A
   obtain⟨N,dA⟩:=Wd (T:=T) (ev:=bs G au) (bK.AM O o) F O (λak=>by rw[b4 _ _ F];exact ak) hex;refine k bX ⟨w,?_,rfl,Lu w dA⟩;obtain⟨bT,cM⟩:=Wk N (bE objs d (some o));show res T G ⟨au,bE objs d (some o)⟩ x=some (rx,w);unfold res;simp only[bT,cM];exact N
def kL{o:Oper}{σ:aq}{K K':aq->Prop}(a:∀σ,K σ->K' σ)(h:cf P T G o K σ):cf P T G o K' σ:=by
 unfold cf at*;split;.rename_i e;rw[e]at h;exact a _ h
 rename_i e;rw[e]at h;exact wz h λr b=>a _ b
def wA{o:Oper}{σ:aq}{K K':aq->Prop}(a:∀σ,K σ->K' σ)(h:c3 P T G all o K σ):c3 P T G all o K' σ:=by
 rw[e5]at*;split;.rename_i e;rw[e]at h;exact kL a h
 .rename_i e;rw[e]at h;exact a _ h
 rename_i e;rw[e]at h;exact h
def pH{o:Oper}{σ:aq}{K K':aq->Prop}(b:∀objs r,K (aq.put ⟨σ.au,objs⟩ o.dst r)->K' (aq.put ⟨σ.au,objs⟩ o.dst r))(h:cf P T G o K σ):cf P T G o K' σ:=by unfold cf at*;rw[pG]at*;cases a:res T G σ o with|none=>simp only[a,xbB]at h⊢;exact wz h λr a=>b σ.objs r a|some p=>simp only[a,xaH]at h⊢;exact b _ _ h
def swap{x y:Oper}{σ:aq}{K:aq->Prop}(k:x.apart all y=true)(o:pass x y=true)(h:c3 P T G all x (λc=>c3 P T G all y K c) σ):c3 P T G all y (λg=>c3 P T G all x K g) σ:=by
 obtain⟨aE,a2,a3⟩:=Oper.apart_spec k;have j:∀d,y.dst=some d->x.dst≠some d:=λd n f=>a2 d f n;rw[e5]at h;have p:∀(objs:bK)(r:ax),gJ all (aq.put ⟨σ.au,objs⟩ x.dst r) y=gJ all σ y:=λobjs r=>by rw[kk aE];rfl
 have m:∀(objs:bK)(r:ax),gJ all (aq.put ⟨σ.au,objs⟩ y.dst r) x=gJ all σ x:=λobjs r=>by rw[kk a3];rfl
 split at h
 .rename_i f;rw[e5];have a:cf P T G x (λc=>match gJ all σ y with|some true=>cf P T G y K c|some false=>K (c.put y.dst (.d (.val (.tuple #[]))))|none=>False) σ:=by
   refine pH (λobjs r i=>?_) h;rw[e5,p]at i;exact i
  cases e:gJ all σ y with
  |none=>
   simp only[e]at a;unfold cf at a;split at a;.exact a
   unfold gx at a;split at a
   .split at a;.obtain⟨_,_,_,_,_,_,⟨r,rfl⟩,_,q⟩:=a;exact q r rfl
    exact a
   exact a
  |some b=>
   cases b with
   |false=>
    simp only[e]at a;show c3 P T G all x K (σ.put y.dst (.d (.val (.tuple #[]))));rw[e5];have:gJ all (σ.put y.dst (.d (.val (.tuple #[])))) x=some true:=by rw[kk a3];exact f
    simp only[this];rw[gy a3 j];exact a
   |true=>simp only[e]at a;have ad:=Ly aE a2 a3 o a;show cf P T G y (λg=>c3 P T G all x K g) σ;refine pH (λobjs r i=>?_) ad;rw[e5,m,f];exact i
 .rename_i f;rw[e5,kk aE]at h;rw[e5];split at h
  .rename_i l
   try simp only[l]
   rw[gy aE a2]at h;refine pH (λobjs r i=>?_) h;rw[e5,m,f];exact i
  .rename_i l
   try simp only[l]
   show c3 P T G all x K (σ.put y.dst (.d (.val (.tuple #[]))));rw[e5,kk a3,f];show K _;rw[put_comm j];exact h
  exact h.elim
 exact h.elim
def Wo{o:Oper}{σ:aq}{K K':aq->Prop}(h:cf P T G o K σ)(p:∀c r,c=σ.put o.dst (.d r)->K c->K' c)(n:e1 o.op=true):cf P T G o K' σ:=by
 rw[jP (oi n)]at h⊢;unfold gx at*;split
 .rename_i x args g b;rw[b]at h;simp only at h;split;.rename_i f pre post a;simp only[a]at h;obtain⟨i,j,R,ab,ad,ai,k,l,m⟩:=h;exact⟨i,j,R,ab,ad,ai,k,l,λr q=>p _ r rfl (m r q)⟩
  rename_i a;simp only[a]at h
 rename_i b;split at h;.rename_i x args g e;exact absurd e (b x args g)
 exact h
def bK.low(objs objs':bK):Prop:=∀k o,objs k=some o->o≠ .dead->objs' k=some o
def Lz{objs objs':bK}(h:objs.low objs'){x:ax}{d:D}(ah:lT objs x=some d):lT objs' x=some d:=by
 unfold lT at*;split at ah;.exact ah
 .split at ah;.rename_i a;rw[h _ _ a sZ];exact ah
  cases ah
 .split at ah;.rename_i a;rw[h _ _ a sZ];exact ah
  cases ah
 .split at ah;.rename_i a;rw[h _ _ a sZ];exact ah
  cases ah
 cases ah
def AR{objs objs':bK}(h:objs.low objs'){x:ax}{d:D}(ah:jz objs x=some d):jz objs' x=some d:=by
 unfold jz at*;split at ah
 .split at ah
  case h_2=>cases ah
  rename_i b;simp only[h _ _ b sZ];split at ah
  case h_2=>cases ah
  rename_i cs a;rw[kK (λx d c=>Lz h c) _ _ a];exact ah
 .exact ah
 exact Lz h ah
def LA{objs objs':bK}(h:objs.low objs'){x:ax}{d:D}(ah:kj objs x=some d):kj objs' x=some d:=by
 unfold kj at*;split at ah
 .split at ah
  case h_2=>cases ah
  rename_i e c;rw[kK (λx d a=>AR h a) _ _ c];exact ah
 .split at ah
  case h_2=>cases ah
  rename_i as et has b;rw[kK (λx d a=>AR h a) _ _ has,kK (λx d a=>AR h a) _ _ b];exact ah
 exact AR h ah
def Wp{objs objs':bK}(h:objs.low objs'){x:ax}{d:D}(ah:toD objs x=some d):toD objs' x=some d:=by
 unfold toD at*;split at ah
 .split at ah
  case h_2=>cases ah
  rename_i c a;rw[kK (λx d b=>LA h b) _ _ a];exact ah
 exact LA h ah
def LB{objs objs':bK}(h:objs.low objs'){x:ax}{n:Nat}(ah:gY objs x=some n):gY objs' x=some n:=by
 unfold gY at*;split at ah;.exact ah
 .exact ah
 .split at ah;.rename_i a;rw[h _ _ a sZ];exact ah
  cases ah
 .exact ah
 cases ah
def Wq{objs objs':bK}(h:objs.low objs'){x:ax}{es:mW}(ah:k9 objs x=some es):k9 objs' x=some es:=by
 unfold k9 at*;split at ah;.exact ah
 .exact ah
 .split at ah;.rename_i a;rw[h _ _ a sZ];exact ah
  cases ah
 .split at ah;.rename_i a;rw[h _ _ a sZ];exact ah
  cases ah
 cases ah
def AS{objs objs':bK}(h:objs.low objs'){x:ax}{b:Bool}(ah:iU objs x=some b):iU objs' x=some b:=by
 unfold iU at*;split at ah;.exact ah
 .exact ah
 .split at ah;.rename_i a;rw[h _ _ a sZ];exact ah
  cases ah
 cases ah
def Wr{T:br}{ev:Operand->ax}{objs objs':bK}(h:objs.low objs'){op:Op}{r:ax}(d:cH T ev objs op=some r):cH T ev objs' op=some r:=by
 cases op<;>simp only[cH,reduceCtorEq]at d⊢
 case convert s t x=>
  split at d
  case h_2=>cases d
  rename_i m o;split at d
  case h_2=>cases d
  rename_i p;split at d
  case h_2=>cases d
  rename_i es l;simp only[Wq h l];exact d
 case load t a=>
  split at d
  case h_2=>cases d
  split at d;.exact d
  .split at d
   case h_2=>cases d
   rename_i e;simp only[h _ _ e sZ];exact d
  .split at d
   case h_2=>cases d
   rename_i e;simp only[h _ _ e sZ];exact d
  cases d
 case indexAddr t x c0=>
  split at d
  .split at d
   case h_2=>cases d
   split at d
   case isFalse=>cases d
   rename_i ak;rw[xac ak];split at d;.exact d
   .split at d
    case h_2=>cases d
    rename_i e;simp only[h _ _ e sZ];exact d
   .exact d
   cases d
  .exact d
  cases d
 case slice t x lo ag dU=>
  cases dU with
  |some _=>simp[]at d
  |none=>
   simp only[]at d⊢;split at d
   case h_3=>cases d
   case h_2=>exact d
   split at d
   case h_2=>cases d
   split at d
   case h_2=>cases d
   rename_i n j;simp only[LB h j];split at d
   case h_2=>cases d
   split at d
   case isFalse=>cases d
   rename_i f;rw[xac f];split at d;.exact d
   .split at d
    case h_2=>cases d
    rename_i e;simp only[h _ _ e sZ];exact d
   .exact d
   cases d
 case call c=>
  split at d
  case h_2=>cases d
  split at d
  case h_2=>cases d
  split at d;.exact d
  .split at d
   case h_2=>cases d
   rename_i n j;simp only[LB h j];exact d
  .exact d
  .exact d
  .split at d
   case h_2=>cases d
   rename_i e;simp only[h _ _ e sZ];exact d
  cases d
 case lookup t x k ok=>
  split at d
  case h_2=>cases d
  split at d;.exact d
  .exact d
  .split at d
   case h_2=>cases d
   rename_i e;simp only[h _ _ e sZ];exact d
  cases d
 case binOp op t x y q=>
  split at d
  case h_2=>cases d
  split at d
  .split at d
   .rename_i f;rw[xac f];split at d
    case h_2=>cases d
    rename_i b g;simp only[AS h g];exact d
   rename_i f;rw[xab f];split at d
   case isFalse=>cases d
   rename_i i;rw[xac i];split at d
   case h_2=>cases d
   rename_i b g;simp only[AS h g];exact d
  .split at d
   .rename_i f;rw[xac f];split at d
    case h_2=>cases d
    rename_i b g;simp only[AS h g];exact d
   rename_i f;rw[xab f];split at d
   case isFalse=>cases d
   rename_i i;rw[xac i];split at d
   case h_2=>cases d
   rename_i b g;simp only[AS h g];exact d
  cases d
def wB(T:br)(x:Oper):Bool:=match x.op with| .buildSlice _ _ _=>T.born (x.dst.getD 9999)|_=>false
def q3(T:br)(x y:Oper):Bool:=pass x y||(e1 x.op&&e1 y.op)||(wB T x&&(e1 y.op||gl y.op))
def Ws{x:Oper}{σ:aq}(c:wB T x=true){p:ax×List (Key×b1)}(h:res T G σ x=some p):σ.objs (x.dst.getD 9999)=none/\p.2=[(x.dst.getD 9999,.dead)]:=by
 unfold wB at c;split at c
 case h_2=>cases c
 rename_i t n parts a;have g:la x.op=true:=by rw[a];rfl
 obtain⟨d,f⟩:=l0 (T:=T) (ev:=bs G σ.au) (objs:=σ.objs) g;unfold res at h;rw[d,f]at h;obtain⟨q,ab,ad⟩:=pB h;rw[a]at ab;simp only[cZ]at ab;split at ab
 case h_2=>cases ab
 rename_i e s b z i ak;split at ab
 case h_2=>cases ab
 split at ab
 case h_2=>cases ab
 split at ab
 case isFalse=>cases ab
 cases ab;refine⟨ak,?_⟩;rw[<-ad];simp[lR,c]
def Wt{x y:Oper}{σ:aq}{K:aq->Prop}(ab:∀d,x.dst=some d->d∉y.looksAt all)(ad:∀d,x.dst=some d->y.dst≠some d)(ai:∀d,y.dst=some d->d∉x.looksAt all)(c:e1 x.op=true)(e:e1 y.op=true\/False) (h:cf P T G x (λm=>cf P T G y K m) σ):cf P T G y (λn=>cf P T G x K n) σ:=by
 have i:∀d,y.dst=some d->x.dst≠some d:=λd p u=>ad d u p;have k:e1 y.op=true:=e.resolve_right id;rw[jP (oi c)]at h;unfold gx at h;split at h
 case h_2=>cases h
 rename_i aQ args D j;split at h
 case h_2=>cases h
 rename_i f pre post a;obtain⟨g,o,R,w,z,A,⟨l,rfl⟩,B,C⟩:=h;have b:cf P T G y K (aq.put σ x.dst (.d l)):=C l rfl;rw[gy ab ad]at b;refine Wo b (λE r q s=>?_) k;subst q;rw[gy ai i,jP (oi c)];unfold gx;rw[j];simp only[a];refine⟨g,o,_,w,z,A,⟨l,rfl⟩,B,λr t=>?_⟩;subst t;rw[put_comm ad];exact s
def Wu{x y:Oper}{σ:aq}{K:aq->Prop}(ab:∀d,x.dst=some d->d∉y.looksAt all)(ad:∀d,x.dst=some d->y.dst≠some d)(ai:∀d,y.dst=some d->d∉x.looksAt all)(c:wB T x=true)(C:e1 y.op=true\/gl y.op=true) (h:cf P T G x (λD=>cf P T G y K D) σ):cf P T G y (λE=>cf P T G x K E) σ:=by
 have m:∀d,y.dst=some d->x.dst≠some d:=λd I A=>ad d A I;cases b:res T G σ x with
 |none=>
  rw[jP b]at h;have:=q2 h;unfold wB at c;split at c
  .rename_i q;rw[q]at this;cases this
  cases c
 |some p=>
  obtain⟨rx,Y⟩:=p;obtain⟨Z,hu⟩:=Ws c b;simp only at hu;subst hu;rw[iB b]at h;have a:cf P T G y K (aq.put ⟨σ.au,cA σ.objs [(x.dst.getD 9999,.dead)]⟩ x.dst rx):=h;rw[gy ab ad]at a;have g:bK.low (cA σ.objs [(x.dst.getD 9999,.dead)]) σ.objs:=by
   intro k o w L;simp only[cA]at w;by_cases e:k=x.dst.getD 9999;.subst e;rw[dq]at w;cases w;exact absurd rfl L
   rwa [b4 _ _ e]at w
  rcases C with t|u
  case inr=>
   have B:e1 y.op=false:=by cases H:e1 y.op with|false=>rfl|true=>have:=(wy H).2.1;rw[u]at this;cases this
   have key:∀p,res T G ⟨σ.au,cA σ.objs [(x.dst.getD 9999,.dead)]⟩ y=some p->p.2=[]/\res T G σ y=some p:=by
    intro p i;have J:∀objs d,eR T (bs G σ.au) objs d y.op=none:=λobjs d=>sW u;unfold res at i⊢;cases s:db T (bs G σ.au) y.op with
    |some r=>simp only[s]at i⊢;cases i;exact⟨rfl,rfl⟩
    |none=>
     simp only[s]at i⊢;cases j:cH T (bs G σ.au) (cA σ.objs [(x.dst.getD 9999,.dead)]) y.op with
     |none=>simp only[j,J]at i;cases i
     |some r=>simp only[j]at i;cases i;rw[Wr g j];exact⟨rfl,rfl⟩
   cases l:res T G ⟨σ.au,cA σ.objs [(x.dst.getD 9999,.dead)]⟩ y with
   |none=>rw[jP l]at a;have:=q2 a;rw[B]at this;cases this
   |some p=>obtain⟨W,bY⟩:=p;obtain⟨bT,cM⟩:=key _ l;simp only at bT;subst bT;rw[iB l]at a;rw[iB cM];show cf P T G x K (aq.put σ y.dst W);rw[gy ai m,iB b];unfold aq.step;rw[put_comm ad];exact a
  rw[jP (oi t)]at a;rw[jP (oi t)];unfold gx at a⊢;split at a
  case h_2=>cases a
  rename_i aQ args X q;split at a
  case h_2=>cases a
  rename_i f pre post n;obtain⟨z,F,R,N,O,Q,⟨V,rfl⟩,S,U⟩:=a;simp only[n];refine⟨z,F,_,kK (λx d A=>Wp g A) _ _ N,O,Q,⟨V,rfl⟩,S,λr M=>?_⟩;subst M;have:=U r rfl;rw[gy ai m,iB b];unfold aq.step;rw[put_comm ad];exact this
def Wv{x y:Oper}{σ:aq}{K:aq->Prop}(ab:∀d,x.dst=some d->d∉y.looksAt all)(ad:∀d,x.dst=some d->y.dst≠some d)(ai:∀d,y.dst=some d->d∉x.looksAt all)(a:q3 T x y=true) (h:cf P T G x (λb=>cf P T G y K b) σ):cf P T G y (λc=>cf P T G x K c) σ:=by
 unfold q3 at a;rw[xbg,xbg]at a;rcases a with(a|a)|a
 .exact Ly ab ad ai a h
 .rw[xam]at a;exact Wt ab ad ai a.1 (.inl a.2) h
 rw[xam,xbg]at a;exact Wu ab ad ai a.1 a.2 h
def swapT{x y:Oper}{σ:aq}{K:aq->Prop}(k:x.apart all y=true)(o:q3 T x y=true)(h:c3 P T G all x (λc=>c3 P T G all y K c) σ):c3 P T G all y (λg=>c3 P T G all x K g) σ:=by
 obtain⟨aE,a2,a3⟩:=Oper.apart_spec k;have j:∀d,y.dst=some d->x.dst≠some d:=λd n f=>a2 d f n;rw[e5]at h;have p:∀(objs:bK)(r:ax),gJ all (aq.put ⟨σ.au,objs⟩ x.dst r) y=gJ all σ y:=λobjs r=>by rw[kk aE];rfl
 have m:∀(objs:bK)(r:ax),gJ all (aq.put ⟨σ.au,objs⟩ y.dst r) x=gJ all σ x:=λobjs r=>by rw[kk a3];rfl
 split at h
 .rename_i f;rw[e5];have a:cf P T G x (λc=>match gJ all σ y with|some true=>cf P T G y K c|some false=>K (c.put y.dst (.d (.val (.tuple #[]))))|none=>False) σ:=by
   refine pH (λobjs r i=>?_) h;rw[e5,p]at i;exact i
  cases e:gJ all σ y with
  |none=>
   simp only[e]at a;unfold cf at a;split at a;.exact a
   unfold gx at a;split at a
   .split at a;.obtain⟨_,_,_,_,_,_,⟨r,rfl⟩,_,q⟩:=a;exact q r rfl
    exact a
   exact a
  |some b=>
   cases b with
   |false=>
    simp only[e]at a;show c3 P T G all x K (σ.put y.dst (.d (.val (.tuple #[]))));rw[e5];have:gJ all (σ.put y.dst (.d (.val (.tuple #[])))) x=some true:=by rw[kk a3];exact f
    simp only[this];rw[gy a3 j];exact a
   |true=>simp only[e]at a;have ad:=Wv aE a2 a3 o a;show cf P T G y (λg=>c3 P T G all x K g) σ;refine pH (λobjs r i=>?_) ad;rw[e5,m,f];exact i
 .rename_i f;rw[e5,kk aE]at h;rw[e5];split at h
  .rename_i l
   try simp only[l]
   rw[gy aE a2]at h;refine pH (λobjs r i=>?_) h;rw[e5,m,f];exact i
  .rename_i l
   try simp only[l]
   show c3 P T G all x K (σ.put y.dst (.d (.val (.tuple #[]))));rw[e5,kk a3,f];show K _;rw[put_comm j];exact h
  exact h.elim
 exact h.elim
def e2(P:Program)(T:br)(G:ca)(all:Array Oper)(i:Nat)(K:aq->Prop)(σ:aq):Prop:=match all[i]? with|none=>K σ|some o=>c3 P T G all o K σ
def pI{i:Nat}{σ:aq}{K K':aq->Prop}(a:∀σ,K σ->K' σ)(h:e2 P T G all i K σ):e2 P T G all i K' σ:=by
 unfold e2 at*;split;.rename_i e;simp only[e]at h;exact a _ h
 rename_i o e;simp only[e]at h;exact wA a h
def fL(P:Program)(T:br)(G:ca)(all:Array Oper)(K:aq->Prop):Nat->Array Bool->aq->Prop
 |0,listed,σ=>Region.ready .any all listed=[]/\K σ|fuel+1,listed,σ=>(Region.ready .any all listed=[]->K σ)/\∀i∈Region.ready .any all listed,e2 P T G all i (fL P T G all K fuel (listed.setIfInBounds i true)) σ
def AT{K:aq->Prop}{i:Nat}{x:Oper}(ag:all[i]?=some x){B:lX}(N:∀j l,j∈B->all[j]?=some l->∃e∈l.after,Region.binds .any e=true/\(e.on=i\/e.on∈B)):∀(fuel:Nat)(listed:Array Bool)(σ:aq),(∀j,j∈B->listed.getD j true=false)->(∀j l,all[j]?=some l->j≠i->listed.getD j true=false->j∉B->x.apart all l=true/\q3 T x l=true)->i∈Region.ready .any all listed->(¬∃L,K L)\/True->e2 P T G all i (fL P T G all K fuel (listed.setIfInBounds i true)) σ->fL P T G all K (fuel+1) listed σ:=by
 intro fuel
 induction fuel with
 |zero=>
  intro listed σ d b s _ H;refine⟨λh=>(by rw[h]at s;cases s),λj z=>?_⟩;by_cases a:j=i;.subst a;exact H
  have M:=ready_mono z a;exfalso;have key:Region.ready .any all (listed.setIfInBounds i true)=[]:=by
   unfold e2 at H;simp only[ag]at H;rw[e5]at H;split at H
   .unfold cf at H;split at H;.exact H.1
    unfold gx at H;split at H
    .split at H;.obtain⟨_,_,_,_,_,_,⟨r,I⟩,_,q⟩:=H;exact(q r (by rw[I])).1
     exact H.elim
    exact H.elim
   .exact H.1
   exact H.elim
  rw[key]at M;cases M
 |succ fuel ih=>
  intro listed σ d b s _ H;refine⟨λh=>(by rw[h]at s;cases s),λj z=>?_⟩;by_cases a:j=i;.subst a;exact H
  obtain⟨m,l,p,u⟩:=xbV.1 z;have o:∀k,listed.getD k true=false->listed[k]?.getD false=true->False:=λk ak ab=>by
   rcases xbf k listed.size with C|C;.simp[C]at ak ab;rw[ak]at ab;cases ab
   simp[Array.getElem?_eq_none C]at ab
  have n:j∉B:=λD=>by
   obtain⟨e,Q,O,c⟩:=N j l D p;have ab:=u e Q O;rcases c with c|c
   .rw[c]at ab;exact o i (xbV.1 s).1 (by simpa using ab)
   exact o _ (d _ c) (by simpa using ab)
  obtain⟨R,S⟩:=b j l p a m n;have ab:e2 P T G all i (λy=>e2 P T G all j (fL P T G all K fuel ((listed.setIfInBounds i true).setIfInBounds j true)) y) σ:=pI (λy J=>J.2 j (ready_mono z a)) H;have ad:e2 P T G all j (λt=>e2 P T G all i (fL P T G all K fuel ((listed.setIfInBounds i true).setIfInBounds j true)) t) σ:=by unfold e2 at ab⊢;simp only[ag,p]at ab⊢;exact swapT R S ab
  have f:∀k ok,all[k]?=some ok->k≠i->(listed.setIfInBounds j true).getD k true=false->k∉B->x.apart all ok=true/\q3 T x ok=true:=λk ok A E w F=>by
   refine b k ok A E ?_ F;by_cases g:j=k;.subst g;exact m
   rw[getD_set_ne true g]at w;exact w
  refine pI (λt ai=>ih (listed.setIfInBounds j true) t (λk A=>by
   have g:j≠k:=by rintro rfl;exact n A
   rw[getD_set_ne true g];exact d k A) f (ready_mono s (xcc a)) (.inr trivial) ?_) ad
  rw[Array.setIfInBounds_comm _ _ a];exact ai
theorem LC{K:aq->Prop}{i:Nat}{g:Oper}(ag:all[i]?=some g){B:lX}(m:∀j f,j∈B->all[j]?=some f->∃e∈f.after,Region.binds .any e=true/\(e.on=i\/e.on∈B))(fuel:Nat)(listed:Array Bool)(σ:aq) (ak:∀j,j∈B->listed.getD j true=false) (l:∀j f,all[j]?=some f->j≠i->listed.getD j true=false->j∉B->g.apart all f=true/\pass g f=true) (n:i∈Region.ready .any all listed) (o:(¬∃k,K k)\/True) (h:e2 P T G all i (fL P T G all K fuel (listed.setIfInBounds i true)) σ):fL P T G all K (fuel+1) listed σ:=AT ag m fuel listed σ ak (λj f a b c d=>⟨(l j f a b c d).1,by unfold q3;rw[(l j f a b c d).2];rfl⟩) n o h
def waits(all:Array Oper)(i:Nat):lX:=(List.range all.size).foldl (λa j=>match all[j]? with
  |some b=>if b.after.any (λe=>Region.binds .any e&&(e.on==i||a.contains e.on))then a++[j]else a
  |none=>a) []
def AU(p:Oper->Oper->Bool)(all:Array Oper)(listed:Array Bool)(i:Nat)(B:lX):Bool:=match all[i]? with|none=>false|some b=>(B.all λj=>!listed.getD j true&&match all[j]? with|some a=>a.after.any λe=>Region.binds .any e&&(e.on==i||B.contains e.on)|none=>false)&&(List.range all.size).all λj=>j==i||listed.getD j true||B.contains j||match all[j]? with|some a=>b.apart all a&&p b a|none=>true
def LD(all:Array Oper)(listed:Array Bool)(i:Nat)(B:lX):Bool:=AU pass all listed i B
def LF(all:Array Oper)(listed:Array Bool)(i:Nat):Bool:=LD all listed i (waits all i)
def Ga(T:br)(all:Array Oper)(listed:Array Bool)(i:Nat):Bool:=AU (q3 T) all listed i (waits all i)
def AV{p:Oper->Oper->Bool}{i:Nat}{l:Oper}{listed:Array Bool}(ag:all[i]?=some l){B:lX}(h:AU p all listed i B=true):(∀j b,j∈B->all[j]?=some b->∃e∈b.after,Region.binds .any e=true/\(e.on=i\/e.on∈B))/\(∀j,j∈B->listed.getD j true=false)/\ ∀j b,all[j]?=some b->j≠i->listed.getD j true=false->j∉B->l.apart all b=true/\p l b=true:=by
 simp only[AU,ag,xam,xax,xbT]at h;refine⟨λj b d a=>?_,λj d=>by simpa using(h.1 j d).1,λj b a f k g=>?_⟩;.have ab:=(h.1 j d).2;simp only[a]at ab;obtain⟨e,m,c⟩:=Array.any_eq_true'.1 ab;simp only[xam,xbg,xbQ,List.contains_iff_mem]at c;exact⟨e,m,c.1,c.2⟩
 have ab:=h.2 j (xaN.1 a).1;simp only[a,xbg,xbQ,f,false_or,k,xaq,xam,List.contains_iff_mem,g]at ab;exact ab
def LG{i:Nat}{b:Oper}{listed:Array Bool}(ag:all[i]?=some b){B:lX}(h:LD all listed i B=true):(∀j a,j∈B->all[j]?=some a->∃e∈a.after,Region.binds .any e=true/\(e.on=i\/e.on∈B))/\(∀j,j∈B->listed.getD j true=false)/\ ∀j a,all[j]?=some a->j≠i->listed.getD j true=false->j∉B->b.apart all a=true/\pass b a=true:=AV ag h
def pJ(T:br)(all:Array Oper):lX->Array Bool->Bool
 |[],listed=>(Region.ready .any all listed).isEmpty|i::r,listed=>(Region.ready .any all listed).contains i&&Ga T all listed i&&pJ T all r (listed.setIfInBounds i true)
def sY(P:Program)(T:br)(G:ca)(all:Array Oper):lX->(aq->Prop)->aq->Prop
 |[],K,σ=>K σ|i::r,K,σ=>match all[i]? with|some o=>c3 P T G all o (sY P T G all r K) σ|none=>False
def Gb{K:aq->Prop}:∀(ord:lX)(listed:Array Bool)(σ:aq),pJ T all ord listed=true->sY P T G all ord K σ->fL P T G all K ord.length listed σ
 |[],listed,σ,a,h=>⟨by simpa[pJ]using a,h⟩
 |i::r,listed,σ,a,h=>by
  simp only[pJ,xam]at a;obtain⟨⟨f,e⟩,b⟩:=a;unfold sY at h;split at h
  case h_2=>cases h
  rename_i o ag;obtain⟨g,j,k⟩:=AV ag e;refine AT ag g r.length listed σ j k (by simpa using f) (.inr trivial) ?_;unfold e2;simp only[ag];exact wA (λd c=>Gb r _ d b c) h
def Gc{m:Mem}{fr:dh}{N:Nat}(x:cQ P T){K:aq->Prop}{Q:Exit->Act->World->Prop}(c:∀o∈all,∀d,o.dst=some d->d<N):∀(fuel:Nat)(listed:Array Bool)(m:Mem)(ρ:ch)(σ:aq)(a:Act)(w:World),fR G m->Den m fr ρ σ a w->N<=a.tmps.size->a.defers=[]->fL P T G all K fuel listed σ->(∀j w',gf N m fr ρ σ K j w'->Q .normal j w')->wpAny P .any all Q fuel listed a w
 |0,listed,m,ρ,σ,a,w,p,h,k,b,e,l=>⟨e.1,l a w ⟨σ,m,ρ,e.2,Mem.le_refl m,h,k,b,hI.refl _ _⟩⟩|fuel+1,listed,m,ρ,σ,a,w,p,h,k,b,e,l=>by refine⟨λak=>l a w ⟨σ,m,ρ,e.1 ak,Mem.le_refl m,h,k,b,hI.refl _ _⟩,λi ag=>?_⟩;have ab:=e.2 i ag;obtain⟨_,o,q,_⟩:=xbV.1 ag;unfold e2 at ab;simp only[q]at ab;refine wpOp_mono ?_ (F8 x p h k b q (c o (Array.mem_of_getElem? q)) ab);rintro j w' ⟨u,z,t,H,y,I,J,L,M⟩;refine Gc (m:=m) x c fuel _ z t u j w' (p.mono y) I J L H ?_;rintro n s ⟨g,r,f,A,B,C,D,E,F⟩;exact l n s ⟨g,r,f,A,Mem.le_trans y B,C,D,E,M.trans F⟩
end
def eJ(σ τ:aq):Prop:=∀m fr ρ a w,Den m fr ρ σ a w->∃c b,m.le c/\Den c fr b τ a w/\hI σ ρ τ b
def eJ.refl(σ:aq):eJ σ σ:=λm fr ρ a w h=>⟨m,ρ,Mem.le_refl m,h,hI.refl _ _⟩
def eJ.trans{σ τ d:aq}(h:eJ σ τ)(e:eJ τ d):eJ σ d:=λm fr ρ a w j=>
 let⟨m1,b,ab,ad,ai⟩:=h m fr ρ a w j
 let⟨m2,c,f,g,i⟩:=e m1 fr b a w ad
 ⟨m2,c,Mem.le_trans ab f,g,ai.trans i⟩
def eX(P:Program)(T:br)(G:ca)(N:Nat)(c:Code)(σ:aq)(Q:Exit->aq->Prop):Prop:= ∀m fr ρ a w,fR G m->Den m fr ρ σ a w->N<=a.tmps.size->a.defers=[]->c.wp P (λe b w'=>gf N m fr ρ σ (Q e) b w') a w
def AW(K:aq->Prop)(Q:Exit->aq->Prop):Exit->aq->Prop
 | .normal,σ=>K σ|e,σ=>Q e σ
def wC(id:Nat)(Q:Exit->aq->Prop):Exit->aq->Prop
 | .exit a,σ=>if a=id then Q .normal σ else Q (.exit a) σ
 |e,σ=>Q e σ
section
variable{P:Program}{T:br}{G:ca}{N:Nat}{σ:aq}{Q:Exit->aq->Prop}
def gf.mono{m:Mem}{fr:dh}{ρ:ch}{K K':aq->Prop}(d:∀σ,K σ->K' σ){a:Act}{w:World}(h:gf N m fr ρ σ K a w):gf N m fr ρ σ K' a w:=
 let⟨c,e,b,ab,ad⟩:=h;⟨c,e,b,d _ ab,ad⟩
def s3{c:Code}{b:Exit->aq->Prop}(h:eX P T G N c σ Q)(j:∀e σ,Q e σ->b e σ):eX P T G N c σ b:=λm fr ρ a w f d g i=>wp_mono (h m fr ρ a w f d g i) λe l w' k=>k.mono (j e)
def Ww(h:Q .normal σ):eX P T G N .skip σ Q:=λm fr ρ a w e b c d=>wp_skip ⟨σ,m,ρ,h,Mem.le_refl m,b,c,d,hI.refl _ _⟩
def Wx{l:Nat}(h:Q .normal σ):eX P T G N (.label l) σ Q:=λm fr ρ a w e b c d=>wp_label ⟨σ,m,ρ,h,Mem.le_refl m,b,c,d,hI.refl _ _⟩
def Wy{id:Nat}(h:Q (.exit id) σ):eX P T G N (.exit id) σ Q:=λm fr ρ a w e b c d=>wp_exit ⟨σ,m,ρ,h,Mem.le_refl m,b,c,d,hI.refl _ _⟩
def Wz(h:Q .ret σ):eX P T G N .ret σ Q:=λm fr ρ a w e b c d=>wp_ret ⟨σ,m,ρ,h,Mem.le_refl m,b,c,d,hI.refl _ _⟩
def gf.trans{m m1:Mem}{fr:dh}{ρ b:ch}{c:aq}{K:aq->Prop}{a:Act}{w:World}(k:m.le m1)(j:hI σ ρ c b)(h:gf N m1 fr b c K a w):gf N m fr ρ σ K a w:=
 let⟨e,l,d,ab,ad,ai,f,g,i⟩:=h;⟨e,l,d,ab,Mem.le_trans k ad,ai,f,g,j.trans i⟩
def WA{x y:Code}(h:eX P T G N x σ (AW (λb=>eX P T G N y b Q) Q)):eX P T G N (.seq x y) σ Q:=by intro m fr ρ a w k p q r;refine wp_seq (wp_mono (h m fr ρ a w k p q r) ?_);rintro e n w' ⟨b,j,d,ab,ad,ai,f,g,i⟩;cases e with|normal=>exact wp_mono (ab j fr d n w' (k.mono ad) ai f g) λe o t s=>s.trans ad i|exit id=>exact⟨b,j,d,ab,ad,ai,f,g,i⟩|goto l=>exact⟨b,j,d,ab,ad,ai,f,g,i⟩|ret=>exact⟨b,j,d,ab,ad,ai,f,g,i⟩|panic c=>exact⟨b,j,d,ab,ad,ai,f,g,i⟩|outgrown=>exact⟨b,j,d,ab,ad,ai,f,g,i⟩
def WB(Q:Exit->aq->Prop):Exit->aq->Prop
 | .goto _,_=>False|e,σ=>Q e σ
def WC{c:Code}(h:eX P T G N c σ (WB Q)):eX P T G N (.scope c) σ Q:=by intro m fr ρ a w n k o p;refine wp_scope_straight (wp_mono (h m fr ρ a w n k o p) ?_);rintro e q w' ⟨d,j,b,ab,ad,ai,f,g,i⟩;cases e with|goto l=>exact ab.elim|normal=>exact⟨d,j,b,ab,ad,ai,f,g,i⟩|exit id=>exact⟨d,j,b,ab,ad,ai,f,g,i⟩|ret=>exact⟨d,j,b,ab,ad,ai,f,g,i⟩|panic c=>exact⟨d,j,b,ab,ad,ai,f,g,i⟩|outgrown=>exact⟨d,j,b,ab,ad,ai,f,g,i⟩
def AX{c:Operand}{x y:Code}{b:Bool}(k:bs G σ.au c= .d (.val (.bool b)))(h:if b=true then eX P T G N x σ Q else eX P T G N y σ Q):eX P T G N (.cond c x y) σ Q:=by
 intro m fr ρ a w f e g i;have j:=wk (a:=a) f e.au c;rw[k]at j;refine wp_cond j.e4 ?_;cases b
 .exact h m fr ρ a w f e g i
 exact h m fr ρ a w f e g i
def WD{id:Nat}{c:Code}(h:eX P T G N c σ (wC id Q)):eX P T G N (.block id c) σ Q:=by
 intro m fr ρ a w i g j k;refine wp_block (wp_mono (h m fr ρ a w i g j k) ?_);intro e n w' b;cases e with
 |exit f=>
  simp only[Exit.inBlock];by_cases ag:f=id;.rw[xac ag];exact b.mono λσ d=>by simp only[wC,ag,xaE]at d;exact d
  rw[xab ag];exact b.mono λσ d=>by simp only[wC,ag,xaF]at d;exact d
 |normal=>exact b|goto l=>exact b|ret=>exact b|panic c=>exact b|outgrown=>exact b
def Gd{τ:aq}{c:Code}(j:eJ σ τ)(h:eX P T G N c τ Q):eX P T G N c σ Q:=by intro m fr ρ a w f d g i;obtain⟨l,b,ab,ad,ai⟩:=j m fr ρ a w d;exact wp_mono (h l fr b a w (f.mono ab) ad g i) λe n w' k=>k.trans ab ai
def pK(N:Nat)(ops:Array Oper):Bool:=ops.toList.all λo=>match o.dst with|some d=>decide (d<N)|none=>true
def oj{ops:Array Oper}(h:pK N ops=true):∀o∈ops,∀d,o.dst=some d->d<N:=by intro o b d a;have:=xax.1 h o (by simpa using b);simp only[a]at this;simpa using this
theorem Den.drew{m:Mem}{fr:dh}{ρ:ch}{a:Act}{w:World}(h:Den m fr ρ σ a w)(n:Nat):Den m fr ρ σ a {w with drawn:=n}:=by refine⟨h.mem,⟨h.frame.hR,h.frame.quiet.same rfl rfl rfl⟩,h.apart,h.one,h.au,?_,h.own,h.sep⟩;intro k o c;exact(h.objs k o c).mono (Mem.le_refl m) (λ_ hu=>⟨hu,rfl⟩) (λb _ _=>rfl)
def WE(k:cQ P T)(n:P.follows .mixedOrders=true){id:Nat}{ops:Array Oper}(j:pK N ops=true)(ord:lX)(b:ord.length=ops.size)(c:pJ T ops ord (Array.replicate ops.size false)=true) (h:sY P T G ops ord (Q .normal) σ):eX P T G N (.region id ops true) σ Q:=by intro m fr ρ a w i g d l;refine wp_region_any n ?_;have ab:=Gb ord (Array.replicate ops.size false) σ c h;rw[b]at ab;exact Gc (m:=m) (fr:=fr) (N:=N) (Q:=λe f w'=>gf N m fr ρ σ (Q e) f w') k (oj j) ops.size _ m ρ σ a _ i (g.drew _) d l ab (λf w' o=>o)
def WG{ι:Type}{c:Code}{Q:Exit->Act->World->Prop}{a:Act}{w:World}(I:ι->Act->World->Prop)(y:ι->Nat)(i0:ι)(t:I i0 a w) (round:∀i a w,I i a w->c.wp P (Exit.then (λq w'=>∃j,I j q w'/\y j<y i) Q) a w):(Code.loop c).wp P Q a w:=by
 intro b k cs;have key:∀n i a w,y i=n->I i a w->∃e q w',Q e q w'/\Arrives P (lone (b.at a (.code c:: .inLoop c::k)) cs w) b k cs e q w':=by
  intro n
  induction n using Nat.strongRecOn with
  |_ n ih=>
   intro i a w B A;obtain⟨e,f,g,m,d⟩:=round i a w A b (.inLoop c::k) cs;cases e with
   |normal=>obtain⟨j,o,z⟩:=m;obtain⟨s,r,u,p,h⟩:=ih (y j) (B▸z) j f g rfl o;exact⟨s,r,u,p,.of_steps (Steps.trans d (.one step_inLoop)) h⟩
   |exit id=>exact⟨_,f,g,m,.pass (x:= .inLoop c) rfl (λ_ _=> .inl sZ) d⟩|goto l=>exact⟨_,f,g,m,.pass (x:= .inLoop c) rfl (λ_ _=> .inl sZ) d⟩|ret=>exact⟨_,f,g,m,.pass (x:= .inLoop c) rfl (λ_ _=> .inl sZ) d⟩|panic wD=>exact⟨_,f,g,m,.pass (x:= .inLoop c) rfl (λ_ _=> .inl sZ) d⟩|outgrown=>exact⟨_,f,g,m,.pass (x:= .inLoop c) rfl (λ_ _=> .inl sZ) d⟩
 obtain⟨e,q,w',m,d⟩:=key _ i0 a w rfl t;exact⟨e,q,w',m,.of_steps (.one step_loop) d⟩
def WH{ι:Type}{c:Code}(I:ι->aq)(n:ι->Nat)(i0:ι)(ak:eJ σ (I i0)) (round:∀i,eX P T G N c (I i) (AW (λg=>∃j,eJ g (I j)/\n j<n i) Q)):eX P T G N (.loop c) σ Q:=by
 intro m fr ρ a w u t x y;refine WG (λi a w=>∃m1 d,m.le m1/\Den m1 fr d (I i) a w/\N<=a.tmps.size/\a.defers=[]/\hI σ ρ (I i) d) n i0 ?_ ?_;.obtain⟨k,f,ab,ad,ai⟩:=ak m fr ρ a w t;exact⟨k,f,ab,ad,x,y,ai⟩
 rintro i aE E ⟨m1,d,g1,g2,g3,g4,g5⟩;refine wp_mono (round i m1 fr d aE E (u.mono g1) g2 g3 g4) ?_;intro e p w' A;have b:=A.trans g1 g5;cases e with
 |normal=>obtain⟨g,k,f,⟨j,z,h⟩,ad,ai,q,r,s⟩:=b;obtain⟨m2,o,B,C,D⟩:=z k fr f p w' ai;exact⟨j,⟨m2,o,Mem.le_trans ad B,C,q,r,s.trans D⟩,h⟩
 |exit id=>exact b|goto l=>exact b|ret=>exact b|panic c=>exact b|outgrown=>exact b
def q4(T:br)(σ:aq):ResultVar->Option ax
 | .tmp t=>some (σ.au t)
 | .cell a t=>match T t,σ.au a with
  |some i,.ptr k off=>match σ.objs k with|some (.box cells)=>ps i cells off|_=>none
  |_,_=>none
def l1(T:br)(σ:aq)(a:List ResultVar):Option ax:=match e0 (a.map (q4 T σ))with|some [x]=>some x|some l=>some (.az l)|none=>none
def WI(p:cQ P T){m:Mem}{fr:dh}{ρ:ch}{a:Act}{w:World}(h:Den m fr ρ σ a w){g:ResultVar}{x:ax}(c:q4 T σ g=some x): ∃v,((match g with| .tmp t=>pure (a.tmps.getD t undef)| .cell d t=>do loadVar t (<-asAddr (a.tmps.getD d undef)):Sem Value)).run P w= .ok v w/\bo m ρ σ.used x v:=by
 cases g with
 |tmp t=>simp only[q4,xaD]at c;subst c;exact⟨_,rfl,h.au t⟩
 |cell d t=>
  simp only[q4]at c;split at c
  case h_2=>cases c
  rename_i i k off s aj;split at c
  case h_2=>cases c
  rename_i cells q;have e:=h.au d;rw[aj]at e;generalize f:a.tmps.getD d undef=u at e;cases e with|ptr _ _ b hu r=>
  obtain⟨b',vs,y,j,l,n,o⟩:=h.objs _ _ q;rw[r]at j;cases j;obtain⟨v,c7,dm⟩:=KU (P:=P) p s l ⟨n,o⟩ c;exact⟨v,by simp only[f,asAddr,xai,xay,xaf,c7],dm⟩
def LH(f:cQ P T){m:Mem}{fr:dh}{ρ:ch}{a:Act}{w:World}(h:Den m fr ρ σ a w):∀(d:List ResultVar)(c:List ax),e0 (d.map (q4 T σ))=some c-> ∃vs:List Value,(d.mapM λ
   | .tmp t=>pure (a.tmps.getD t undef)| .cell g t=>do loadVar t (<-asAddr (a.tmps.getD g undef)):Sem (List Value)).run P w= .ok vs w/\vs.length=c.length/\∀(i:Nat)(x:ax)(v:Value),c[i]?=some x->vs[i]?=some v->bo m ρ σ.used x v
 |[],c,b=>by simp[e0]at b;subst b;exact⟨[],by simp,rfl,by simp⟩
 |o::d,c,b=>by
  simp only[xav]at b;cases ab:q4 T σ o with
  |none=>simp[ab,e0]at b
  |some x=>
   rw[ab]at b;simp only[e0]at b;split at b
   case h_2=>cases b
   rename_i l ah;cases b;obtain⟨v,c7,dm⟩:=WI (P:=P) f h ab;obtain⟨vs,j,k,n⟩:=LH f h d l ah;refine⟨v::vs,?_,by simp[k],?_⟩;.simp only[List.mapM_cons,xai,c7,j,xaf,xay]
   intro i y u e hu;cases i with|zero=>simp at e hu;subst e;subst hu;exact dm|succ i=>exact n i y u (by simpa using e) (by simpa using hu)
def LI(p:cQ P T){m:Mem}{fr:dh}{ρ:ch}{a:Act}{w:World}(h:Den m fr ρ σ a w){fn:Func}{x:ax}(b:l1 T σ fn.results.toList=some x): ∃v,(results fn a.tmps).run P w= .ok v w/\bo m ρ σ.used x v:=by
 unfold l1 at b;cases ah:e0 (fn.results.toList.map (q4 T σ))with
 |none=>simp[ah]at b
 |some n=>
  obtain⟨vs,c7,dm,f⟩:=LH (P:=P) p h fn.results.toList n ah;have e:((fn.results.mapM λ
   | .tmp t=>pure (a.tmps.getD t undef)| .cell o t=>do loadVar t (<-asAddr (a.tmps.getD o undef)):Sem (Array Value))).run P w= .ok vs.toArray w:=by
   rw[Array.mapM_eq_mapM_toList,Sem.run_map,c7];rfl
  have d:(results fn a.tmps).run P w= .ok (if h:vs.toArray.size=1 then vs.toArray[0]else .tuple vs.toArray) w:=by unfold results;rw[xai];exact(congrArg (λr=>Result.andThen r _) e).trans rfl
  rw[d];rw[ah]at b;split at b
  .rename_i y g;cases b;cases g
   match vs,dm,f with|[v],_,f=>exact⟨v,by simp,f 0 _ _ rfl rfl⟩
  .rename_i l j g;cases b;cases g;have k:vs.toArray.size≠1:=by
    intro ab;have:n.length=1:=by rw[<-dm];simpa using ab
    obtain⟨y,u⟩:=List.length_eq_one_iff.1 this;exact j y u
   refine⟨.tuple vs.toArray,?_,.az _ _ (by simpa using dm) (λi c v q s=>f i c v q (by simpa using s))⟩;rw[dif_neg k]
  cases b
def start(args:List ax)(E:bK):aq:=⟨λt=>args.getD t .any,E⟩
def WJ(S:cQ P T){f:FuncId}{fn:Func}{c:Code}{g:lZ}{R:D->Prop}(F:P.funcs[f]?=some fn)(C:fn.body=some c)(i:(fn.name== "runtime.NumGoroutine")=false)(H:g.length<=fn.ntmps) (h:eX P T G fn.ntmps c (start (g.map .d) λ_=>none) λe a=>(e= .normal\/e= .ret)/\∃r d x,l1 T a fn.results.toList=some r/\toD a.objs r=some d/\d.le x/\R x):cC P G f g R:=by
 refine⟨⟨fn,F,i,by rw[C];rfl⟩,?_⟩;intro m fr w vs O u s;refine calls_of_wp F C ?_;have j:Den m fr (λ_=>undef) (start (g.map .d) λ_=>none) {tmps:=vs.toArray++Array.replicate (fn.ntmps-vs.toArray.size) undef,defers:=[]} w:=by
  refine⟨u.mem,u.frame,u.apart,?_,?_,?_,?_,?_⟩;.rintro k ⟨o,V⟩;cases V
  .intro t;simp only[start];by_cases n:t<vs.length
   .have y:t<g.length:=by rw[<-s.1];exact n
    have E:=xaa y;have W:=xaa n;have p:(g.map ax.d).getD t .any= .d g[t]:=by rw[xbc,xag,E];rfl
    have J:(vs.toArray++Array.replicate (fn.ntmps-vs.toArray.size) undef).getD t undef=vs[t]:=by rw[xbj,xbs (by simpa using n)];simp[n]
    rw[p,J];exact .d _ _ (s.2 t _ _ E W)
   have p:(g.map ax.d).getD t .any= .any:=by rw[xbc,xaG (by simp;rw[<-s.1];omega)];rfl
   rw[p];exact .any _
  .intro k o l;cases l
  .intro k o b l;cases l
  intro k bX o o' b _ l;cases l
 have z:fn.ntmps<=(vs.toArray++Array.replicate (fn.ntmps-vs.toArray.size) undef).size:=uZ
 refine wp_mono (h m fr _ _ w O j z rfl) ?_;rintro e B w' ⟨a,X,A,⟨U,r,d,x,ab,ad,ai,K⟩,L,q,bU,M,b5⟩;obtain⟨v,Y,Z⟩:=LI (P:=P) S q ab;have bY:=ai _ _ (Lj q Z ad);have fin:B.defers=[]/\∃v,(results fn B.tmps).run P w'= .ok v w'/\∃I m1 c7,Ending.returned v= .returned I/\R c7/\m.le m1/\fS m1 fr w'/\bH m1 c7 I:=⟨M,v,Y,v,Den.all X A a.objs w',x,rfl,K,Mem.le_trans L (Den.sS _ _ _ _),q.Lg,bY⟩;rcases U with rfl|rfl
 .exact fin
 exact fin
end
def wE:List ax->oY
 |[]=>some []| .d x::r=>(wE r).map (x::·)|_=>none
def AY:ax->oX
 | .d x=>some x| .agg cs=>(wE cs).map .agg| .az cs=>(wE cs).map .az|_=>none
def LJ:∀{cs:List ax}{a:lZ},wE cs=some a->cs=a.map .d
 |[],a,h=>by cases h;rfl
 | .d x::r,a,h=>by obtain⟨l,ah,rfl⟩:=xae.1 h;rw[LJ ah];rfl
 | .any::_,_,h=>by cases h
 | .agg _::_,_,h=>by cases h
 | .az _::_,_,h=>by cases h
 | .cE _ _::_,_,h=>by cases h
 | .ptr _ _::_,_,h=>by cases h
 | .ek _ _ _ _::_,_,h=>by cases h
 | .row _::_,_,h=>by cases h
 | .sub _ _ _ _::_,_,h=>by cases h
 | .map _::_,_,h=>by cases h
 | .fn _ _ _::_,_,h=>by cases h
def WK{m:Mem}{ρ:ch}{U:Key->Prop}{x:ax}{a:D}{v:Value}(h:AY x=some a)(j:bo m ρ U x v):bH m a v:=by
 have part:∀{cs:List ax}{g:lZ}{vs:Array Value},wE cs=some g->vs.size=cs.length->(∀(i:Nat)(c:ax)(v:Value),cs[i]?=some c->vs[i]?=some v->bo m ρ U c v)->vs.size=g.length/\∀(i:Nat)(c:D)(v:Value),g[i]?=some c->vs[i]?=some v->bH m c v:=by intro cs g vs f ah b;have e:=LJ f;subst e;refine⟨by simpa using ah,λi c v ab ad=>?_⟩;have:=b i (.d c) v (by simp[ab]) ad;cases this with|d _ _ h=>exact h
 unfold AY at h;split at h;.cases h;cases j with|d _ _ h=>exact h
 .obtain⟨g,f,rfl⟩:=xae.1 h;cases j with|agg _ vs ah b=>exact .agg _ _ (part f ah b).1 (part f ah b).2
 .obtain⟨g,f,rfl⟩:=xae.1 h;cases j with|az _ vs ah b=>exact .az _ _ (part f ah b).1 (part f ah b).2
 cases h
def kM(c:Key->Key)(U:Key->Prop)(x y:ax):Prop:=match y with| .any=>True| .d b=>∃a,AY x=some a/\a.le b| .cE cs off=>x= .cE cs off\/x= .d (.ref cs off)| .ptr k off=>x= .ptr (c k) off/\U k| .ek k e i off=>x= .ek (c k) e i off/\U k| .row k=>x= .row (c k)/\U k| .sub k e i len=>x= .sub (c k) e i len/\U k| .map k=>x= .map (c k)/\U k|_=>False
def gz(a:Key->Key)(U:Key->Prop):List ax->List ax->Prop
 |[],[]=>True|x::xs,y::b=>kM a U x y/\gz a U xs b|_,_=>False
def om(a:Key->Key)(U:Key->Prop)(x y:ax):Prop:=match y with
 | .agg b=>match x with| .agg g=>gz a U g b| .d (.agg h)=>gz a U (h.map .d) b|_=>False
 | .az b=>match x with| .az g=>gz a U g b|_=>False
 | .fn f as et=>match x with| .fn i c e=>f=i/\gz a U c as/\gz a U e et|_=>False
 |y=>kM a U x y
def nd(a:Key->Key)(U:Key->Prop):List ax->List ax->Prop
 |[],[]=>True|x::xs,y::b=>om a U x y/\nd a U xs b|_,_=>False
section
variable{m:Mem}{ρ:ch}{AZ U:Key->Prop}{gg:Key->Key}
def kM.ok{x y:ax}(h:kM gg U x y){v:Value}(c:bo m ρ AZ x v):bo m (λk=>ρ (gg k)) U y v:=by
 unfold kM at h;split at h;.exact .any _
 .obtain⟨a,i,e⟩:=h;exact .d _ _ (e _ _ (WK i c))
 .rcases h with rfl|rfl;.cases c with|cE _ _ b o vs T g j l ab ad=>exact .cE _ _ b o vs T g j l ab ad
  cases c.kh with|ref _ _ b o vs T g j l ab ad=>exact .cE _ _ b o vs T g j l ab ad
 .obtain⟨rfl,hu⟩:=h;cases c with|ptr _ _ b _ f=>exact .ptr _ _ b hu f
 .obtain⟨rfl,hu⟩:=h;cases c with|ek _ _ _ _ b o len cap _ f=>exact .ek _ _ _ _ b o len cap hu f
 .obtain⟨rfl,hu⟩:=h;cases c;exact .row (ρ:=λk=>ρ (gg k)) _ hu
 .obtain⟨rfl,hu⟩:=h;cases c with|sub _ _ _ _ b o L cap a _ f e i=>exact .sub _ _ _ _ b o L cap a hu f e i|gH _ _ _ _ f=>exact .gH _ _ _ hu f
 .obtain⟨rfl,hu⟩:=h;cases c;exact .map (ρ:=λk=>ρ (gg k)) _ hu
 cases h
def gz.ok:∀{a b:List ax},gz gg U a b->b.length=a.length/\∀(i:Nat)(y:ax),b[i]?=some y->∃x,a[i]?=some x/\kM gg U x y
 |[],[],_=>⟨rfl,by simp⟩|x::a,y::b,h=>by have ih:=gz.ok h.2;refine⟨by simp[ih.1],?_⟩;intro i z c;cases i with|zero=>simp at c;subst c;exact⟨x,rfl,h.1⟩|succ i=>simp at c;obtain⟨w,ab,ad⟩:=ih.2 i z c;exact⟨w,by simpa using ab,ad⟩
 |[],y::b,h=>h.elim|x::a,[],h=>h.elim
def gz.cells{b c:List ax}{vs:Array Value}(h:gz gg U b c)(a:iy m ρ AZ b vs):iy m (λk=>ρ (gg k)) U c vs:=by obtain⟨ab,ad⟩:=h.ok;refine⟨by rw[a.1,ab],?_⟩;intro i y v f e;obtain⟨x,ai,d⟩:=ad i y f;exact d.ok (a.2 i x v ai e)
def om.ok{x y:ax}(h:om gg U x y){v:Value}(j:bo m ρ AZ x v):bo m (λk=>ρ (gg k)) U y v:=by
 unfold om at h;split at h
 .rename_i t;split at h;.rename_i s;obtain⟨vs,rfl,e⟩:=j.KP;have:=gz.cells h e;exact .agg _ _ this.1 this.2
  .rename_i n;obtain⟨vs,rfl,ah,e⟩:=j.KO;have ak:iy m ρ AZ (n.map .d) vs:=⟨by simpa using ah,by
    intro i c v f p;simp only[xag,xae]at f;obtain⟨z,q,rfl⟩:=f;exact .d _ _ (e i z v q p)⟩
   have:=gz.cells h ak;exact .agg _ _ this.1 this.2
  cases h
 .split at h;.obtain⟨vs,rfl,e⟩:=j.KQ;have:=gz.cells h e;exact .az _ _ this.1 this.2
  cases h
 .split at h
  .obtain⟨rfl,ab,ad⟩:=h;cases j with|fn _ _ _ vs r ah l g o=>
   have a:=gz.cells (U:=U) ab ⟨ah,g⟩;have b:=gz.cells (U:=U) ad ⟨l,o⟩;exact .fn _ _ _ vs r a.1 b.1 a.2 b.2
  cases h
 exact h.ok j
end
def nd.ok{d:Key->Key}{U:Key->Prop}:∀{a b:List ax},nd d U a b->b.length=a.length/\∀(i:Nat)(y:ax),b[i]?=some y->∃x,a[i]?=some x/\om d U x y
 |[],[],_=>⟨rfl,by simp⟩|x::a,y::b,h=>by have ih:=nd.ok h.2;refine⟨by simp[ih.1],?_⟩;intro i z c;cases i with|zero=>simp at c;subst c;exact⟨x,rfl,h.1⟩|succ i=>simpa using ih.2 i z (by simpa using c)
 |[],y::b,h=>h.elim|x::a,[],h=>h.elim
def nd.cells{m:Mem}{ρ:ch}{e U:Key->Prop}{d:Key->Key}{b c:List ax}{vs:Array Value}(h:nd d U b c)(a:iy m ρ e b vs):iy m (λk=>ρ (d k)) U c vs:=by obtain⟨ab,ad⟩:=h.ok;refine⟨by rw[a.1,ab],?_⟩;intro i y v j g;obtain⟨x,ai,f⟩:=ad i y j;exact f.ok (a.2 i x v ai g)
def Ge(es c:mW):Prop:=es=c\/(es.length=c.length/\∀(i:Nat)(x y:lZ),es[i]?=some x->c[i]?=some y->x.length=y.length/\y.all D.one=true/\∀(j:Nat)(a b:D),x[j]?=some a->y[j]?=some b->a.le b)
def q5(d:Key->Key)(U:Key->Prop)(x y:b1):Prop:=match y with| .dead=>True| .box c=>∃a,x= .box a/\nd d U a c| .row k b=>∃es,x= .row k es/\Ge es b| .map es=>x= .map es
def Ge.ok{m:Mem}{ρ l:ch}{U q:Key->Prop}{k:Nat}{es g:mW}(h:Ge es g){v:Value}{w:World}(p:gj m ρ U v w (.row k es)):gj m l q v w (.row k g):=by
 rcases h with rfl|⟨ah,h⟩;.exact p
 rcases p with⟨f,rfl⟩|⟨b,o,cap,vs,T,f,r,A,s,t,u⟩;.exact .inl ⟨f,xaO (by rw[<-ah];rfl)⟩
 have key:∀(i:Nat)(y:lZ),g[i]?=some y->∃x,es[i]?=some x/\x.length=y.length/\y.all D.one=true/\∀(j:Nat)(a b:D),x[j]?=some a->y[j]?=some b->a.le b:=by
  intro i y e;have ag:i<es.length:=by rw[ah];exact(lV.1 e).1
  exact⟨_,xaa ag,h i _ y (xaa ag) e⟩
 refine .inr ⟨b,o,cap,vs,T,by rw[<-ah];exact f,r,by omega,s,?_,?_⟩;.intro y e;obtain⟨i,ag⟩:=xaJ.1 e;obtain⟨x,ab,ad,ai,_⟩:=key i y ag;exact⟨by rw[<-ad];exact(t x (xad ab)).1,ai⟩
 intro i y j c ag n;obtain⟨x,ab,ad,_,ai⟩:=key i y ag;have d:j<x.length:=by rw[ad];exact(lV.1 n).1
 obtain⟨z,g1,g2⟩:=u i x j _ ab (xaa d);exact⟨z,g1,ai j _ c (xaa d) n _ _ g2⟩
def A0:List (Nat×ax)->Nat->ax
 |[],_=> .any|(j,v)::r,t=>if t=j then v else A0 r t
def c9:List (Key×b1)->Key->Option b1
 |[],_=>none|(j,o)::r,k=>if k=j then some o else c9 r k
def LK(ls:List (Nat×ax))(lo:List (Key×b1)):aq:=⟨A0 ls,c9 lo⟩
def s4(a:Key->Key)(U:Key->Prop)(σ:aq):List (Nat×ax)->Prop
 |[]=>True|(t,v)::r=>om a U (σ.au t) v/\s4 a U σ r
def q6(a:Key->Key)(U:Key->Prop)(σ:aq):List (Key×b1)->Prop
 |[]=>True|(k,o)::r=>(∃o',σ.objs (a k)=some o'/\q5 a U o' o)/\q6 a U σ r
def s4.ok{a:Key->Key}{U:Key->Prop}{σ:aq}:∀{ls:List (Nat×ax)},s4 a U σ ls->∀t,om a U (σ.au t) (A0 ls t)
 |[],_,t=>trivial
 |(j,v)::r,h,t=>by
  unfold A0;split;.rename_i e;subst e;exact h.1
  exact s4.ok h.2 t
def q6.ok{b:Key->Key}{U:Key->Prop}{σ:aq}:∀{lo:List (Key×b1)},q6 b U σ lo->∀k o,c9 lo k=some o->∃o',σ.objs (b k)=some o'/\q5 b U o' o
 |[],_,k,o,h=>by cases h
 |(j,x)::r,h,k,o,a=>by
  unfold c9 at a;split at a;.rename_i e;subst e;cases a;exact h.1
  exact q6.ok h.2 k o a
def dV:List (Key×Key)->Key->Key
 |[],k=>k|(a,b)::r,k=>if k=a then b else dV r k
def iC(lo:List (Key×b1)):List Key:=lo.map (·.1)
def q7(a:Key->Key):List Key->Bool
 |[]=>true|k::r=>r.all (λj=>k==j||!(a k==a j))&&q7 a r
def A1{c:Key->Key}:∀{l:List Key},q7 c l=true->∀k j,k∈l->j∈l->c k=c j->k=j
 |[],_,k,j,h,_,_=>by cases h
 |x::r,h,k,j,e,d,he=>by
  simp only[q7,xam,xax]at h;rcases xan.1 e with rfl|b
  .rcases xan.1 d with rfl|a;.rfl
   have:=h.1 j a;simp at this;rcases this with ab|ab
   .exact ab
   exact absurd he ab
  rcases xan.1 d with rfl|a
  .have:=h.1 k b;simp at this;rcases this with ab|ab
   .exact ab.symm
   exact absurd he.symm ab
  exact A1 h.2 k j b a he
def pL:∀{lo:List (Key×b1)} {k:Key} {o:b1},c9 lo k=some o->k∈iC lo
 |[],k,o,h=>by cases h
 |(j,x)::r,k,o,h=>by
  unfold c9 at h;split at h;.rename_i e;subst e;simp[iC]
  have:=pL h;simp only[iC,xav,xan]at this⊢;exact .inr this
def WL{σ:aq}{ls:List (Nat×ax)}{lo:List (Key×b1)}(l:List (Key×Key))(F:q7 (dV l) (iC lo)=true) (aj:s4 (dV l) (λk=>∃o,c9 lo k=some o) σ ls) (i:q6 (dV l) (λk=>∃o,c9 lo k=some o) σ lo) (A:∀k,10000<=k->dj (σ.objs k)->dj (c9 lo k)/\dV l k=k):eJ σ (LK ls lo):=by
 intro m fr ρ a w h;have f:∀{o o':b1},q5 (dV l) (λk=>∃o,c9 lo k=some o) o' o->o.owns=true->o'.owns=true:=by
  intro o o' d i;cases o with
  |dead=>cases i
  |box=>obtain⟨G,rfl,_⟩:=d;rfl
  |row=>obtain⟨es,rfl,_⟩:=d;rfl
  |map=>cases d;rfl
 refine⟨m,λk=>ρ (dV l k),Mem.le_refl m,⟨h.mem,h.frame,h.apart,?_,?_,?_,?_,?_⟩,λk r q=>⟨(A k r q).1,by show ρ (dV l k)=ρ k;rw[(A k r q).2]⟩⟩;.rintro k ⟨o,c⟩;obtain⟨o',ab,_⟩:=i.ok k o c;exact h.one _ ⟨o',ab⟩
 .intro t;exact(aj.ok t).ok (h.au t)
 .intro k o c;obtain⟨o',ab,ad⟩:=i.ok k o c;have ai:=h.objs _ _ ab;cases o with
  |dead=>trivial|box J=>obtain⟨G,rfl,d⟩:=ad;obtain⟨b,vs,T,B,C,D,E⟩:=ai;have:=nd.cells d ⟨D,E⟩;exact⟨b,vs,T,B,C,this.1,this.2⟩
  |row I H=>obtain⟨es,rfl,d⟩:=ad;exact d.ok ai
  |map es=>cases ad;exact ai
 .intro k o b c j q;obtain⟨o',ab,ad⟩:=i.ok k o c;exact h.own _ o' b ab (f ad j) q
 intro k z o o' b y c g n p q;obtain⟨x,ab,ad⟩:=i.ok k o c;obtain⟨gd,s,u⟩:=i.ok z o' g;exact h.sep (dV l k) (dV l z) x gd b (λe=>y (A1 F k z (pL c) (pL g) e)) ab s (f ad n) (f u p) q
def s5(P:Program):Nat->List Field->Option (List TypeDesc)
 |_,[]=>some []|off,f::a=>if f.name≠ "_" /\f.offset=off then(match P.underlying f.type with|some .bool=>(s5 P (off+1) a).map (.bool::·)|some (.int k)=>(s5 P (off+1) a).map (.int k::·)|some .string=>(s5 P (off+1) a).map (.string::·)|_=>none)else none
def A2{P:Program}:∀{b:List Field}{off:Nat}{l:List TypeDesc},s5 P off b=some l->Av P off b l
 |[],_,l,h=>by cases h;trivial
 |f::b,off,l,h=>by
  unfold s5 at h;split at h
  case isFalse=>cases h
  rename_i ab;split at h;.rename_i hu;obtain⟨r,a,rfl⟩:=xae.1 h;exact⟨ab.1,ab.2,hu,rfl,A2 a⟩
  .rename_i hu;obtain⟨r,a,rfl⟩:=xae.1 h;exact⟨ab.1,ab.2,hu,rfl,A2 a⟩
  .rename_i hu;obtain⟨r,a,rfl⟩:=xae.1 h;exact⟨ab.1,ab.2,hu,rfl,A2 a⟩
  cases h
def Gf(P:Program)(t:TypeId):Option (List TypeDesc):=match P.underlying t with
 |some (.struct a)=>match s5 P 0 a.toList with
  |some l=>if P.stoodInHeld t=false/\P.eqGuardType P.depth t=false then some l else none
  |none=>none
 |_=>none
def WM{P:Program}{t:TypeId}{l:List TypeDesc}(h:Gf P t=some l):KA P t l:=by
 unfold Gf at h;split at h
 case h_2=>cases h
 rename_i c hu;have b:P.fieldsOf t=c:=by simp[Program.fieldsOf,hu]
 split at h
 case h_2=>cases h
 rename_i d ah;split at h
 case isFalse=>cases h
 rename_i a;cases h;exact⟨by rw[b];exact hu,a.1,a.2,by rw[b];exact A2 ah⟩
def wF(P:Program)(t:TypeId):Option fQ:=match P.underlying t,P.info? t with
 |some d,some i=>match i.zero with
  |some z=>if z.cells.size=i.size then some ⟨d,i.size,i.bytes,z⟩else none
  |none=>none
 |_,_=>none
def Gg(P:Program)(t:TypeId)(name:String):Option FuncId:=match P.info? t,P.underlying t with
 |some i,some d=>match d with
  | .pointer _=>none
  |_=>match i.methods.find? (λm=>m.name==name)with
   |some m=>match m.path.toList,m.func with|[],some (f,false)=>some f|_,_=>none
   |none=>none
 |_,_=>none
def WN{P:Program}{t:TypeId}{name:String}{f:FuncId}(h:Gg P t name=some f):Aw P t name f:=by
 unfold Gg at h;split at h
 case h_2=>cases h
 rename_i i d ab ad;split at h
 case h_1=>cases h
 rename_i j;split at h
 case h_2=>cases h
 rename_i m c;split at h
 case h_2=>cases h
 rename_i g ai a;cases h;exact⟨i,m,d,ab,c,ai,a,ad,λe b=>j e b⟩
def dn(P:Program):br:=⟨wF P,Gf P,λ_=>false,Gg P,[],[]⟩
def br.A3(T:br)(l:List TypeId):br:=⟨T.As,T.eqs,T.born,T.lM,l,T.dyn⟩
def cQ.A3{P:Program}{T:br}(h:cQ P T)(l:List TypeId):cQ P (T.A3 l):=⟨h.ty,h.sJ,h.eqs,h.Ax⟩
def br.s6(T:br)(l:lX):br:=⟨T.As,T.eqs,λk=>l.contains k,T.lM,T.FH,T.dyn⟩
def cQ.s6{P:Program}{T:br}(h:cQ P T)(l:lX):cQ P (T.s6 l):=⟨h.ty,h.sJ,h.eqs,h.Ax⟩
def br.A4(T:br)(l:List (Nat×List FuncId)):br:=⟨T.As,T.eqs,T.born,T.lM,T.FH,l⟩
def cQ.A4{P:Program}{T:br}(h:cQ P T)(l:List (Nat×List FuncId)):cQ P (T.A4 l):=⟨h.ty,h.sJ,h.eqs,h.Ax⟩
def tok(P:Program):cQ P (dn P):=by
 constructor
 .intro t i h;change wF P t=some i at h;unfold wF at h;split at h
  case h_2=>cases h
  rename_i d a ab ad;split at h
  case h_2=>cases h
  rename_i z b;split at h
  case isFalse=>cases h
  cases h;exact⟨ab,a,ad,rfl,rfl,b⟩
 .intro t i h;change wF P t=some i at h;unfold wF at h;split at h
  case h_2=>cases h
  rename_i d a ab ad;split at h
  case h_2=>cases h
  rename_i z b;split at h
  case isFalse=>cases h
  rename_i aj;cases h;exact aj
 .intro t l h;exact WM h
 intro t name f h;exact WN h
def aa(n:Int):D:= .val (.int .i64 n)
def aD(b:Bool):D:= .val (.bool b)
def aA(s:ByteArray):D:= .val (.string s)
def bV(l:lY):D:= .aw 1 (l.map λn=>[aa n])
def LL(l:lW):D:= .aw 1 (l.map λb=>[aD b])
def cx(l:List ByteArray):D:= .aw 1 (l.map λs=>[aA s])
end Go.Am
