/- Calls, regions in any order, loops: their rules over such values. No condition. -/
import Derived.Test.YtjonbfbkkkcjgaaGreatDoorEngA
import Derived.Still
import Derived.Scope
set_option linter.all false
set_option linter.unnecessarySimpa false
namespace Go.Am
def ar.put(σ:ar)(dst:Option Tmp)(r:az):ar:=match dst with|some d=>⟨bL σ.au d r,σ.objs⟩|none=>σ
def eN(T:bC)(G:cj)(σ:ar)(o:Oper):Option ar:=match dk T (bD G σ.au) o.op with|some r=>some (σ.put o.dst r)|none=>match cM T (bD G σ.au) σ.objs o.op with|some r=>some (σ.put o.dst r)|none=>match e4 T (bD G σ.au) σ.objs (o.dst.getD 9999) o.op with|some (r,a)=>some (ar.put ⟨σ.au,cD σ.objs a⟩ o.dst r)|none=>none
structure gl(m:Mem)(fr:dr)(w:World):Prop where
 mem:∀b o,m b=some o->w.heap[b]?=some o
 frame:MA fr w
 apart:∀b,m b≠none->fr b=none
def Den.ok{m:Mem}{fr:dr}{ρ:cp}{σ:ar}{a:Act}{w:World}(h:Den m fr ρ σ a w):gl m fr w:=⟨h.mem,h.frame,h.apart⟩
def j1(m:Mem)(a:lZ)(vs:List Value):Prop:=vs.length=a.length/\∀(i:Nat)(d:D)(v:Value),a[i]?=some d->vs[i]?=some v->bM m d v
def qj(P:Program)(f:FuncId):Prop:=∃fn,P.funcs[f]?=some fn/\(fn.name== "runtime.NumGoroutine")=false/\fn.body.isNone=false
structure cF(P:Program)(G:cj)(f:FuncId)(iH:lZ)(R:D->Prop):Prop where
 fn:qj P f
 run:∀m fr w vs,gk G m->gl m fr w->j1 m iH vs->Calls P f vs.toArray w λe w'=>∃v rV r,e= .returned v/\R r/\m.le rV/\gl rV fr w'/\bM rV r v
def cF.mono{P:Program}{G:cj}{f:FuncId}{b:lZ}{R a:D->Prop}(h:cF P G f b R)(g:∀r,R r->a r):cF P G f b a:=⟨h.fn,λm fr w vs c d hD=>(h.run m fr w vs c d hD).mono λe w' ⟨v,i,r,ab,ae,ai⟩=>⟨v,i,r,ab,g r ae,ai⟩⟩
def mI:lZ->lZ->Prop
 |[],[]=>True|x::xs,y::a=>x.le y/\mI xs a|_,_=>False
def mI.refl:∀l:lZ,mI l l
 |[]=>trivial|x::l=>⟨x.le_refl,mI.refl l⟩
def mI.ok{m:Mem}:∀{b c:lZ}{vs:List Value},mI b c->j1 m b vs->j1 m c vs
 |[],[],vs,_,h=>h|x::b,y::c,[],_,h=>by have:=h.1;simp at this|x::b,y::c,v::vs,ah,h=>by have ih:=mI.ok (m:=m) (vs:=vs) ah.2 ⟨by simpa using h.1,λi d u a hu=>h.2 (i+1) d u (by simpa using a) (by simpa using hu)⟩;refine⟨by simpa using ih.1,?_⟩;intro i d u a hu;cases i with|zero=>simp at a hu;subst a;subst hu;exact ah.1 m v (h.2 0 x v rfl rfl)|succ i=>exact ih.2 i d u (by simpa using a) (by simpa using hu)
 |[],y::c,vs,h,_=>h.elim|x::b,[],vs,h,_=>h.elim
def D.flat:D->Bool
 | .val _=>true| .agg cs=>cs.all λc=>match c with| .val _=>true|_=>false
 | .aB cs=>cs.all λc=>match c with
  | .val _=>true| .agg cs=>cs.all λc=>match c with| .val _=>true|_=>false
  |_=>false
 |_=>false
def Yb{m b:Mem}{c:D}{v:Value}(h:(match c with| .val _=>true|_=>false)=true)(a:bM m c v):bM b c v:=by cases c<;>first|(cases a;exact .val _)|cases h
def flat_agg{m d:Mem}{cs:lZ}{v:Value}(h:(cs.all λc=>match c with| .val _=>true|_=>false)=true)(b:bM m (.agg cs) v):bM d (.agg cs) v:=by cases b with|agg _ vs ah aX=>exact .agg _ _ ah λi c u a hu=>Yb (xay.1 h c (xad a)) (aX i c u a hu)
def D.Yc{m d:Mem}{x:D}{v:Value}(h:x.flat=true)(a:bM m x v):bM d x v:=by
 cases x with
 |val=>cases a;exact .val _
 |agg cs=>exact flat_agg h a
 |aB cs=>
  cases a with
  |aB _ vs ah aX=>
   refine .aB _ _ ah λi c u b hu=>?_;have ab:=xay.1 h c (xad b);have ae:=aX i c u b hu;cases c with
   |val=>cases ae;exact .val _
   |agg cs=>exact flat_agg ab ae|aB=>cases ab
   |aw=>cases ab
   |cT=>cases ab
   |mp=>cases ab
   |ref=>cases ab
   |fn=>cases ab
 |aw=>cases h
 |cT=>cases h
 |mp=>cases h
 |ref=>cases h
 |fn=>cases h
def mJ(objs:bP):az->oX
 | .d x=>some x| .row key=>match objs key with|some (.row k es)=>some (.aw k es)|_=>none
 | .sub key k i len=>match objs key with
  |some (.row a es)=>if k=a/\i+len<=es.length then some (.aw k ((es.drop i).take len))else none
  |_=>none
 | .map key=>match objs key with|some (.map es)=>some (.mp es)|_=>none
 |_=>none
def fk{a:Type}:List (Option a)->Option (List a)
 |[]=>some []|some x::r=>match fk r with|some l=>some (x::l)|none=>none
 |none::_=>none
def mK{b:Type}:∀{l:List (Option b)} {r:List b},fk l=some r->r.length=l.length/\∀(i:Nat)(x:b),r[i]?=some x->l[i]?=some (some x)
 |[],r,h=>by simp[fk]at h;subst h;simp|none::l,r,h=>by simp[fk]at h
 |some x::l,r,h=>by
  simp only[fk]at h;split at h
  case h_2=>cases h
  rename_i d a;cases h;have ih:=mK a;refine⟨by simp[ih.1],?_⟩;intro i y c;cases i with|zero=>simpa using c|succ i=>exact ih.2 i y (by simpa using c)
def j2(objs:bP):az->oX
 | .ptr key off=>match objs key with
  |some (.box cells)=>match fk (cells.map (mJ objs))with|some cs=>some (.ref cs off)|none=>none
  |_=>none
 | .cH cs off=>some (.ref cs off)|x=>mJ objs x
def kO(objs:bP):az->oX
 | .agg cs=>match fk (cs.map (j2 objs))with|some a=>some (.agg a)|none=>none
 | .fn f first cap=>match fk (first.map (j2 objs)),fk (cap.map (j2 objs))with|some as,some dm=>some (.fn f as dm)|_,_=>none
 |x=>j2 objs x
def toD(objs:bP):az->oX
 | .aB cs=>match fk (cs.map (kO objs))with|some a=>some (.aB a)|none=>none
 |x=>kO objs x
noncomputable def Den.all(m:Mem)(ρ:cp)(objs:bP)(w:World):Mem:=λb=>match m b with|some o=>some o|none=>open Classical in if∃k o,objs k=some o/\o.owns=true/\blockOf (ρ k)=some b then w.heap[b]? else none
section
variable{P:Program}{T:bC}{G:cj}{m:Mem}{fr:dr}{ρ:cp}{σ:ar}{a:Act}{w:World}
def Den.tW(m:Mem)(ρ:cp)(objs:bP)(w:World):m.le (Den.all m ρ objs w):=by intro b o h;simp[Den.all,h]
def Den.BZ(h:Den m fr ρ σ a w){k:Key}{o:b6}{b:Nat}(d:σ.objs k=some o)(e:o.owns=true)(c:blockOf (ρ k)=some b):Den.all m ρ σ.objs w b=w.heap[b]?:=by have:=(h.own k o b d e c).1;simp only[Den.all,this];rw[xac ⟨k,o,d,e,c⟩]
def Den.Yd(h:Den m fr ρ σ a w):∀b o,Den.all m ρ σ.objs w b=some o->w.heap[b]?=some o:=by
 intro b o c;unfold Den.all at c;cases d:m b with
 |some x=>simp only[d]at c;cases c;exact h.mem b _ d
 |none=>
  simp only[d]at c;split at c;.exact c
  cases c
def Den.Nj(h:Den m fr ρ σ a w):gl (Den.all m ρ σ.objs w) fr w:=by
 refine⟨h.Yd,h.frame,?_⟩;intro b c;unfold Den.all at c;cases d:m b with
 |some x=>exact h.apart b (by rw[d];simp)
 |none=>
  simp only[d]at c;split at c;.rename_i e;obtain⟨k,o,ab,ae,ai⟩:=e;exact(h.own k o b ab ae ai).2
  exact absurd rfl c
def Nk(h:Den m fr ρ σ a w){x:az}{v:Value}{d:D}(u:bz m ρ σ.used x v)(g:mJ σ.objs x=some d):bM (Den.all m ρ σ.objs w) d v:=by
 have s:=Den.tW m ρ σ.objs w;have row:∀key k es v,σ.objs key=some (.row k es)->v=ρ key->bM (Den.all m ρ σ.objs w) (.aw k es) v:=by
  rintro key k es v l rfl;rcases h.objs _ _ l with⟨q,rfl⟩|⟨b,o,cap,vs,C,q,E,F,O,B,H⟩;.rw[q];exact .hX _ _ _
  have J:=h.BZ l rfl (by rw[q];rfl);obtain⟨f1,f2⟩:=M1 (m:=m) B H;rw[q];refine .aw k es b o cap vs C (0,0) (by rw[J];exact E) B F (λi j=>(vs[o+i*k+j]?).getD undef) ?_ ?_;.intro i e j c ag M;obtain⟨x,g1,g2⟩:=H i e j c ag M;rw[g1];rfl
  intro i e j c ag M;obtain⟨x,g1,g2⟩:=H i e j c ag M;simp only[g1,xbn];exact g2.mono s
 unfold mJ at g;split at g;.cases g;exact u.kN.mono s
 .rename_i key;split at g
  case h_2=>cases g
  rename_i k es l;cases g;cases u;exact row key k es _ l rfl
 .rename_i key k i len;split at g
  case h_2=>cases g
  rename_i Z es l;split at g
  case isFalse=>cases g
  rename_i t;obtain⟨rfl,z⟩:=t;cases g;cases u with|hf _ _ _ hu S=>rw[xcd];exact .hX _ _ _|sub _ _ _ _ b o L cap Y hu S Q V=>
  have A:((es.drop i).take len).length=len:=uZ
  rcases Nat.eq_zero_or_pos len with ak|R;.subst ak;rw[xcd];exact .hX _ _ _
  have n:=row key k es _ l rfl;rw[S]at n;cases n with
  |hX=>simp at z;omega
  |aw _ _ _ _ _ vs C U W N t X ab ae=>
   have:=bM.aw (m:=Den.all m ρ σ.objs w) k ((es.drop i).take len) b (o+i*k) (cap-i) vs C U W (λe K=>N e (xbq (xbr K))) oZ (λp j=>X (i+p) j) (λp I j c f t=>by
     rw[xaQ]at f;split at f
     case isFalse=>cases f
     rw[xaY]at f;have:=ab (i+p) I j c f t;rw[<-this]
     congr 1
     rw[xba];omega)
    (λp I j c f t=>by
     rw[xaQ]at f;split at f
     case isFalse=>cases f
     rw[xaY]at f;exact ae (i+p) I j c f t)
   rw[A]at this;rw[V.1 oZ];exact this
 .rename_i key;split at g
  case h_2=>cases g
  rename_i es l;cases g;cases u;obtain⟨r,y,clock,q,E,F,O,B⟩:=h.objs _ _ l;have J:=h.BZ l rfl (by rw[q];rfl);rw[q];exact .mp es r y clock (by rw[J];exact E) F O (λi e x K u=>(B i e x K u).mono s)
 cases g
def B0(h:Den m fr ρ σ a w){x:az}{v:Value}{d:D}(k:bz m ρ σ.used x v)(e:j2 σ.objs x=some d):bM (Den.all m ρ σ.objs w) d v:=by
 have g:=Den.tW m ρ σ.objs w;unfold j2 at e;split at e
 .rename_i key off;split at e
  case h_2=>cases e
  rename_i cells q;split at e
  case h_2=>cases e
  rename_i cs i;cases e;obtain⟨b,vs,t,n,z,A,B⟩:=h.objs _ _ q;have E:=h.BZ q rfl (by rw[n];rfl);obtain⟨J,H⟩:=mK i;cases k with|ptr _ _ b' hu r=>
  rw[n]at r;cases r;have key:∀(j:Nat)(c:D),cs[j]?=some c->∃u,vs[j]?=some u/\bM (Den.all m ρ σ.objs w) c u:=by
   intro j c f;have ab:=H j c f;simp only[xag,xae]at ab;obtain⟨y,s,l⟩:=ab;have p:j<vs.size:=by rw[A];exact(lV.1 s).1
   exact⟨_,xaj p,Nk h (B j y _ s (xaj p)) l⟩
  have:=bM.ref (m:=Den.all m ρ σ.objs w) cs off b 0 vs t (0,0) (by rw[E];exact z) (λj=>(vs[j]?).getD undef) (λj c f=>by obtain⟨u,ab,_⟩:=key j c f;simp[ab]) (λj c f=>by obtain⟨u,ab,ae⟩:=key j c f;simp[ab];exact ae);simpa using this
 .cases e;cases k with|cH _ _ b o vs T C F I ab ae=>exact .ref _ _ b o vs T C (g _ _ F) I ab (λj c f=>(ae j c f).mono g)
 exact Nk h k e
def Nl(h:Den m fr ρ σ a w){x:az}{v:Value}{d:D}(p:bz m ρ σ.used x v)(e:kO σ.objs x=some d):bM (Den.all m ρ σ.objs w) d v:=by
 unfold kO at e;split at e
 .rename_i cs;split at e
  case h_2=>cases e
  rename_i t l;cases e;obtain⟨q,r⟩:=mK l;cases p with|agg _ vs ah aX=>
  refine .agg _ _ (by rw[ah,q];simp) ?_;intro i c u g hu;have ab:=r i c g;simp only[xag,xae]at ab;obtain⟨y,j,b⟩:=ab;exact B0 h (aX i y u j hu) b
 .rename_i f first cap
  split at e
  case h_2=>cases e
  rename_i as dm has k;cases e;obtain⟨q,r⟩:=mK has;obtain⟨bS,cy⟩:=mK k;cases p with|fn _ _ _ vs s ah o aX n=>
  refine .fn _ _ _ vs s (by rw[ah,q];simp) (by rw[o,bS];simp) ?_ ?_;.intro i c u g hu;have ab:=r i c g;simp only[xag,xae]at ab;obtain⟨y,j,b⟩:=ab;exact B0 h (aX i y u j hu) b
  intro i c u g hu;have ab:=cy i c g;simp only[xag,xae]at ab;obtain⟨y,j,b⟩:=ab;exact B0 h (n i y u j hu) b
 exact B0 h p e
def Nn(h:Den m fr ρ σ a w){x:az}{v:Value}{d:D}(g:bz m ρ σ.used x v)(b:toD σ.objs x=some d):bM (Den.all m ρ σ.objs w) d v:=by
 unfold toD at b;split at b
 .rename_i cs;split at b
  case h_2=>cases b
  rename_i o e;cases b;obtain⟨l,n⟩:=mK e;cases g with|aB _ vs ah aX=>
  refine .aB _ _ (by rw[ah,l];simp) ?_;intro i c u j hu;have ab:=n i c j;simp only[xag,xae]at ab;obtain⟨y,k,f⟩:=ab;exact Nl h (aX i y u k hu) f
 exact Nl h g b
def Ye(h:Den m fr ρ σ a w){c:List az}{vs:List Value}{e:lZ}(ah:vs.length=c.length)(g:∀(i:Nat)(x:az)(v:Value),c[i]?=some x->vs[i]?=some v->bz m ρ σ.used x v)(f:fk (c.map (toD σ.objs))=some e):j1 (Den.all m ρ σ.objs w) e vs:=by obtain⟨k,l⟩:=mK f;refine⟨by rw[ah,k];simp,?_⟩;intro i d v ab ae;have ai:=l i d ab;simp only[xag,xae]at ai;obtain⟨y,j,b⟩:=ai;exact Nn h (g i y v j ae) b
def Den.Yf(h:Den m fr ρ σ a w){w':World}{i:Mem}(c:(Den.all m ρ σ.objs w).le i)(e:gl i fr w'):Den m fr ρ σ a w':=by refine⟨λb o d=>e.mem b o (c b o (Den.tW m ρ σ.objs w b o d)),e.frame,h.apart,h.one,h.au,?_,h.own,h.sep⟩;intro k o f;refine(h.objs k o f).mono (Mem.le_refl m) (λ_ hu=>⟨hu,rfl⟩) (λb g d=>?_);have ab:=h.BZ f g d;have ae:b<w.heap.size:=(h.objs k o f).o3 g d;have ai:=xaj ae;rw[ai]at ab⊢;exact e.mem b _ (c b _ ab)
noncomputable def Den.hold(fr:dr)(ρ:cp)(objs:bP)(w:World):dr:=⟨Den.all fr.at_ ρ objs w,fr.os,fr.out,fr.low⟩
def Den.No(h:Den m fr ρ σ a w){k:Key}{o:b6}{b:Nat}(d:σ.objs k=some o)(e:o.owns=true)(c:blockOf (ρ k)=some b):Den.hold fr ρ σ.objs w b=w.heap[b]?:=by have:=(h.own k o b d e c).2;simp only[Den.hold,Den.all,this];rw[xac ⟨k,o,d,e,c⟩]
def Den.Np(h:Den m fr ρ σ a w):gl m (Den.hold fr ρ σ.objs w) w:=by
 refine⟨h.mem,⟨?_,⟨h.frame.quiet.os,h.frame.quiet.out,h.frame.quiet.low⟩⟩,?_⟩
 .intro b o c;unfold Den.hold Den.all at c;cases d:fr b with
  |some x=>simp only[d]at c;cases c;exact h.frame.iv b _ d
  |none=>
   simp only[d]at c;split at c;.exact c
   cases c
 intro b c;show Den.all fr.at_ ρ σ.objs w b=none;unfold Den.all;rw[h.apart b c];simp only;rw[xab];rintro⟨k,o,ab,ae,ai⟩;exact c (h.own k o b ab ae ai).1
def Den.kept(h:Den m fr ρ σ a w){w':World}{l:Mem}(g:m.le l)(d:gl l (Den.hold fr ρ σ.objs w) w'):Den l fr ρ σ a w':=by
 have f:∀b o,fr b=some o->Den.hold fr ρ σ.objs w b=some o:=Den.tW fr.at_ ρ σ.objs w;have j:∀k o b,σ.objs k=some o->o.owns=true->blockOf (ρ k)=some b->l b=none:=by intro k o b e i c;cases p:l b with|none=>rfl|some x=>have ab:=d.apart b (by rw[p];simp);rw[h.No e i c,xaj ((h.objs k o e).o3 i c)]at ab;cases ab
 refine⟨d.mem,⟨λb o c=>d.frame.iv b o (f b o c),⟨d.frame.quiet.os,d.frame.quiet.out,d.frame.quiet.low⟩⟩,?_,h.one,λt=>(h.au t).mono g (λ_ hu=>⟨hu,rfl⟩),?_,λk o b ab ae ai=>⟨j k o b ab ae ai,(h.own k o b ab ae ai).2⟩,h.sep⟩;.intro b c;have:=d.apart b c;cases n:fr b with|none=>rfl|some x=>rw[f b x n]at this;cases this
 intro k o e;refine(h.objs k o e).mono g (λ_ hu=>⟨hu,rfl⟩) (λb i c=>?_);have ab:=h.No e i c;have ai:=xaj ((h.objs k o e).o3 i c);rw[ai]at ab⊢;exact d.frame.iv b _ ab
end
def ds(o:Option b6):Prop:=(∃cs,o=some (.box cs))\/(∃k es,o=some (.row k es))\/∃es,o=some (.map es)
theorem o5{cs:List az}:ds (some (.box cs)):= .inl ⟨_,rfl⟩
theorem nT{k:Nat}{es:mW}:ds (some (.row k es)):= .inr (.inl ⟨_,_,rfl⟩)
def o6:¬ds none:=by rintro(⟨_,h⟩|⟨_,_,h⟩|⟨_,h⟩)<;>cases h
def xQ:¬ds (some .dead):=by rintro(⟨_,h⟩|⟨_,_,h⟩|⟨_,h⟩)<;>cases h
theorem qk{es:List (Value×D)}:ds (some (.map es)):= .inr (.inr ⟨_,rfl⟩)
def tX{o:Option b6}(h:ds o):∃x,o=some x:=by rcases h with⟨_,h⟩|⟨_,_,h⟩|⟨_,h⟩<;>exact⟨_,h⟩
def ia(σ:ar)(ρ:cp)(b:ar)(a:cp):Prop:=∀k,10000<=k->ds (σ.objs k)->ds (b.objs k)/\a k=ρ k
theorem ia.refl(σ:ar)(ρ:cp):ia σ ρ σ ρ:=λ_ _ h=>⟨h,rfl⟩
def ia.trans{i j l:ar}{e f g:cp}(h:ia i e j f)(n:ia j f l g):ia i e l g:=λk m o=>let⟨a,b⟩:=h k m o;let⟨c,d⟩:=n k m a;⟨c,d.trans b⟩
@[simp] theorem ar.ql (σ:ar) (dst:Option Tmp) (r:az):(σ.put dst r).objs=σ.objs:=by cases dst<;>rfl
def gz(N:Nat)(m:Mem)(fr:dr)(ρ:cp)(σ:ar)(K:ar->Prop)(c:Act)(w':World):Prop:= ∃a d b,K a/\m.le d/\Den d fr b a c w'/\N<=c.tmps.size/\c.defers=[]/\ia σ ρ a b
def Den.put{m:Mem}{fr:dr}{ρ:cp}{σ:ar}{a:Act}{w:World}(h:Den m fr ρ σ a w){dst:Option Tmp}{r:az}{v:Value}(f:bz m ρ σ.used r v)(e:∀d,dst=some d->d<a.tmps.size):Den m fr ρ (σ.put dst r) (a.put dst v) w:=by
 cases dst with
 |none=>exact h
 |some d=>
  refine⟨h.mem,h.frame,h.apart,h.one,?_,h.objs,h.own,h.sep⟩;intro t;have b:=e d rfl;by_cases c:t=d
  .subst c;simp only[ar.put,dw,Act.put];have:(a.tmps.setIfInBounds t v).getD t undef=v:=by simp[Array.getD,b]
   rw[this];exact f
  simp only[ar.put,ca _ _ c,Act.put];have:(a.tmps.setIfInBounds d v).getD t undef=a.tmps.getD t undef:=by rw[xbj,xbj,Array.getElem?_setIfInBounds,xab (xbZ c)]
  rw[this];exact h.au t
def HJ{objs:bP}{k:Key}{o:b6}(h:ds (objs k)->ds (some o)):∀j,ds (objs j)->ds (bL objs k (some o) j):=by
 intro j b;by_cases a:j=k;.subst a;rw[dw];exact h b
 rw[ca _ _ a];exact b
def Yg{T:bC}{ev:Operand->az}{objs:bP}{d:Key}{o:Op}{r:az}{a:List (Key×b6)}(h:c7 T ev objs d o=some (r,a)):∀j,10000<=j->ds (objs j)->ds (cD objs a j):=by
 have new:∀{o:b6},objs d=none->∀j,10000<=j->ds (objs j)->ds (cD objs [(d,o)] j):=by intro o g j _;exact HJ (λh=>by rw[g]at h;exact absurd h o6) j
 have same:∀{k:Key}{o0 o:b6},objs k=some o0->(ds (some o0)->ds (some o))->∀j,10000<=j->ds (objs j)->ds (cD objs [(k,o)] j):=by intro k o0 o i f j _;exact HJ (λh=>by rw[i]at h;exact f h) j
 cases o<;>simp only[c7,reduceCtorEq]at h
 case alloc=>split at h<;>cases h;exact new aZ
 case box=>split at h<;>cases h;exact new aZ
 case buildSlice=>
  split at h
  case h_2=>cases h
  split at h
  case h_2=>cases h
  split at h
  case h_2=>cases h
  split at h<;>cases h;exact new aZ
 case makeSlice=>
  split at h
  case h_2=>cases h
  split at h
  case h_2=>cases h
  split at h
  case h_2=>cases h
  split at h<;>cases h;exact new aZ
 case makeMap=>split at h<;>cases h;exact new aZ
 case store=>
  split at h
  case h_2=>cases h
  split at h
  case isFalse=>cases h
  split at h
  .split at h
   case h_2=>cases h
   split at h<;>cases h;exact λj _=>HJ (λ_=>o5) j
  .split at h
   case h_2=>cases h
   split at h
   case isFalse=>cases h
   split at h<;>cases h;exact same aZ (λ_=>nT)
  cases h
 case mapUpdate=>
  split at h
  case h_2=>cases h
  split at h
  case h_2=>cases h
  split at h
  case isFalse=>cases h
  split at h
  case h_2=>cases h
  split at h
  case h_2=>cases h
  split at h<;>cases h;exact same aZ (λ_=>qk)
 case insert=>
  split at h
  case h_2=>cases h
  split at h
  case h_2=>cases h
  split at h
  case isFalse=>cases h
  split at h
  case h_2=>cases h
  split at h
  case h_2=>cases h
  split at h<;>cases h;exact same aZ (λ_=>qk)
 case call=>
  split at h
  .split at h
   case h_2=>cases h
   split at h
   case h_2=>cases h
   split at h
   case h_2=>cases h
   split at h
   case h_2=>cases h
   split at h
   case isFalse=>cases h
   split at h;.split at h<;>cases h;exact new aZ
   .split at h
    case h_2=>cases h
    split at h<;>cases h;rename_i g _ _ _ _ _ _ _ _ _ _ _ _ i _ _;rename_i b;intro j e l;have c:j≠d:=by rintro rfl;simp_all [o6]
    simp only[cD];rw[ca _ _ c,ca _ _ (by rintro rfl;exact absurd b.2.2.2 (Nat.not_lt.2 e))];exact l
   cases h
  .split at h
   case h_2=>cases h
   split at h
   case h_2=>cases h
   split at h
   case h_2=>cases h
   split at h
   case h_2=>cases h
   split at h
   case isFalse=>cases h
   split at h
   .split at h
    case h_2=>cases h
    split at h<;>cases h;exact same aZ (λ_=>nT)
   .split at h
    case h_2=>cases h
    split at h<;>cases h;exact same aZ (λ_=>nT)
   cases h
  .split at h
   case h_2=>cases h
   split at h
   case h_2=>cases h
   split at h
   case h_2=>cases h
   split at h
   case h_2=>cases h
   split at h
   case h_2=>cases h
   split at h<;>cases h;exact same aZ (λ_=>nT)
  cases h
def Nq{T:bC}{ev:Operand->az}{objs:bP}{d:Key}{o:Op}{k:Key}{off:Nat}{a:List (Key×b6)}(h:c7 T ev objs d o=some (.ptr k off,a)):objs d=none:=by
 cases o<;>simp only[c7,reduceCtorEq]at h
 case alloc=>split at h<;>cases h;assumption
 case box=>split at h<;>cases h;assumption
 all_goals (repeat' split at h)<;>cases h
def Nr{T:bC}{ev:Operand->az}{objs:bP}{d:Key}{o:Op}{a:List (Key×b6)}(h:c7 T ev objs d o=some (.row d,a)):objs d=none:=by
 cases o<;>simp only[c7,reduceCtorEq]at h
 all_goals (repeat' split at h)<;>cases h<;>assumption
def Yh{T:bC}{ev:Operand->az}{objs:bP}{d:Key}{o:Op}{r:az}{f:List (Key×b6)}(h:e4 T ev objs d o=some (r,f)):∀j,10000<=j->ds (objs j)->ds (cD objs f j):=by
 obtain⟨⟨m,g⟩,ak,i⟩:=qi h;have ab:=Yg ak;intro j b c;have k:∀{o:b6},objs d=none->j≠d:=by rintro o a rfl;rw[a]at c;exact o6 c
 rcases rU (T.born d) d m g with e|⟨n,es,rfl,rfl,e⟩|⟨q,n,es,rfl,rfl,e⟩|⟨off,cs,p,rfl,rfl,l,e⟩;.rw[i]at e;cases e;exact ab j b c
 .rw[i]at e;cases e;have a:=k (o:= .dead) (Nr ak);have:=ab j b c;simp only[cD,ca _ _ a]at this⊢;exact this
 .rw[i]at e;cases e;have a:=k (o:= .dead) (Nr ak);have:=ab j b c;simp only[cD,ca _ _ a]at this⊢;exact this
 rw[i]at e;cases e;have a:=k (o:= .dead) (Nq ak);simp only[cD,ca _ _ a];exact c
section
variable{P:Program}{T:bC}{G:cj}{m:Mem}{fr:dr}{ρ:cp}{σ:ar}{a:Act}{w:World}{N:Nat}
def Yi(q:cV P T)(A:gk G m)(h:Den m fr ρ σ a w)(x:N<=a.tmps.size)(s:a.defers=[]){o:Oper}(l:∀d,o.dst=some d->d<N){n:ar}(aj:eN T G σ o=some n){K:ar->Prop}(p:K n){Q:Exit->Act->World->Prop}:o.wp P a w (gz N m fr ρ σ K) Q:=by
 have g:=xK (a:=a) A h.au;have e:∀d,o.dst=some d->d<a.tmps.size:=λd C=>xch (l d C) x;have b:∀v,N<=(a.put o.dst v).tmps.size:=by intro v;cases o.dst<;>simpa[Act.put]using x
 have f:∀v,(a.put o.dst v).defers=[]:=by intro v;cases o.dst<;>exact s
 unfold Oper.wp;unfold eN at aj;split at aj;.rename_i r j;cases aj;obtain⟨v,ab,ae⟩:=XI (P:=P) (w:=w) (o:=o) q h.one g j;rw[ab];exact⟨_,m,ρ,p,Mem.le_refl m,h.put ae e,b v,f v,λk t i=>⟨by simpa using i,rfl⟩⟩
 split at aj;.rename_i r j;cases aj;obtain⟨v,ab,ae⟩:=XN (P:=P) (w:=w) (o:=o) q h.mem h.objs g j;rw[ab];exact⟨_,m,ρ,p,Mem.le_refl m,h.put ae e,b v,f v,λk t i=>⟨by simpa using i,rfl⟩⟩
 split at aj
 case h_2=>cases aj
 rename_i r F j;cases aj;obtain⟨nx,v,w',E,u,ab,ae,D,ai,y,z⟩:=Ya (P:=P) (o:=o) q h g j;rw[ab];have fin:gz N m fr ρ σ K (a.put o.dst v) w':=⟨_,E,u,p,D,ai.put y e,b v,f v,λk t i=>⟨by rw[ar.ql];exact Yh j k t i,by obtain⟨c,B⟩:=tX i;exact(z k ⟨_,B⟩).2⟩⟩;rcases ae with rfl|⟨rfl,rfl⟩
 .exact fin
 exact fin
def qm:az->Option (FuncId×List az×List az)
 | .d (.val (.func (.func f) first cap))=>if first.size=0/\cap.size=0 then some (f,[],[])else none
 | .fn (.func f) first cap=>some (f,first,cap)
 | .d (.fn (.func f) first cap)=>some (f,first.map .d,cap.map .d)
 |_=>none
def tY:az->Bool
 | .d _=>true| .cH _ _=>true|_=>false
def nU:az->Bool
 | .agg cs=>cs.all tY| .fn _ as dm=>as.all tY&&dm.all tY|x=>tY x
def HK{m:Mem}{ρ:cp}{U:Key->Prop}{objs:bP}{x:az}{d:D}{v:Value}(h:tY x=true)(c:j2 objs x=some d)(e:bz m ρ U x v):bM m d v:=by
 cases x<;>first|cases h|skip
 .simp only[j2,mJ]at c;cases c;exact e.kN
 simp only[j2]at c;cases c;cases e with|cH _ _ b o vs T f g i ab ae=>exact .ref _ _ b o vs T f g i ab ae
def HL{m:Mem}{ρ:cp}{U:Key->Prop}{objs:bP}{cs:List az}{b:lZ}{vs:Array Value}(h:cs.all tY=true)(g:fk (cs.map (j2 objs))=some b)(ah:vs.size=cs.length) (j:∀(i:Nat)(c:az)(v:Value),cs[i]?=some c->vs[i]?=some v->bz m ρ U c v):vs.size=b.length/\∀(i:Nat)(c:D)(v:Value),b[i]?=some c->vs[i]?=some v->bM m c v:=by obtain⟨ab,ae⟩:=mK g;refine⟨by rw[ab,ah];simp,λi c v f ag=>?_⟩;have ai:=ae i c f;simp only[xag,xae]at ai;obtain⟨y,e,d⟩:=ai;exact HK (xay.1 h y (xad e)) d (j i y v e ag)
def HM{m:Mem}{ρ:cp}{U:Key->Prop}{objs:bP}{x:az}{d:D}{v:Value}(h:nU x=true)(b:toD objs x=some d)(g:bz m ρ U x v):bM m d v:=by
 cases x
 case agg cs=>
  simp only[toD,kO]at b;split at b
  case h_2=>cases b
  rename_i k c;cases b;cases g with|agg _ vs ah aX=>
  obtain⟨g1,g2⟩:=HL h c ah aX;exact .agg _ _ g1 g2
 case fn f as dm=>
  simp only[nU,xan]at h;simp only[toD,kO]at b;split at b
  case h_2=>cases b
  rename_i k l c e;cases b;cases g with|fn _ _ _ vs n ah j aX i=>
  obtain⟨g1,g2⟩:=HL h.1 c ah aX;obtain⟨g3,g4⟩:=HL h.2 e j i;exact .fn _ _ _ _ _ g1 g3 g2 g4
 case d y=>exact HK (x:= .d y) rfl (by simpa[toD,kO]using b) g
 case cH cs off=>exact HK (x:= .cH cs off) rfl (by simpa[toD,kO]using b) g
 all_goals cases h
def Ns(P:Program)(G:cj)(σ:ar)(dst:Option Tmp)(f:FuncId)(b:List az)(K:ar->Prop):Prop:= ∃c e R,fk (b.map (toD σ.objs))=some c/\mI c e/\cF P G f e R/\(∃g,R=(·=g))/\((∀r,R r->r.flat=true)\/b.all nU=true)/\∀r,R r->K (σ.put dst (.d r))
def gR(P:Program)(G:cj)(o:Oper)(σ:ar)(K:ar->Prop):Prop:=match o.op with
 | .call ⟨.value x,args,_⟩=>match qm (bD G σ.au x)with|some (f,pre,post)=>Ns P G σ o.dst f (pre++args.toList.map (bD G σ.au)++post) K|none=>False
 |_=>False
def cm(P:Program)(T:bC)(G:cj)(o:Oper)(K:ar->Prop)(σ:ar):Prop:=match eN T G σ o with|some b=>K b|none=>gR P G o σ K
def da(P:Program)(T:bC)(G:cj)(all:Array Oper)(o:Oper)(K:ar->Prop)(σ:ar):Prop:=match o.guard with
 |none=>cm P T G o K σ
 |some (j,want)=>match(all[j]?).bind (·.dst)with
  |some d=>match σ.au d with
   | .d (.val (.bool b))=>if b=want then cm P T G o K σ else K (σ.put o.dst (.d (.val (.tuple #[]))))
   | .d (.val (.tuple _))=>K (σ.put o.dst (.d (.val (.tuple #[]))))|_=>False
  |none=>False
def dY(P:Program)(T:bC)(G:cj)(all:Array Oper):List Oper->(ar->Prop)->ar->Prop
 |[],K,σ=>K σ|o::r,K,σ=>da P T G all o (dY P T G all r K) σ
def Nt{va:Operand->Value}{x:Operand}{args:Array Operand}{b:Array TypeId}{ty:TypeId}{f:FuncId}{first cap:Array Value}(e:va x= .func (.func f) first cap)(c:qj P f):(do let d<-resolve va {callee:= .value x,args:=args,argTypes:=b} ty;invoke d.target d.args:Sem Next).run P w= .ok (.enter f (first++args.map va++cap)) w:=by obtain⟨fn,ab,ae,ai⟩:=c;simp only[xai,resolve,e,Deferred.ofValue,xaz,xaf,invoke,callFunc,program,Sem.run,ab,ae,ai,xaq,xaG]
def Yj(Z:gk G m)(h:Den m fr ρ σ a w)(dD:N<=a.tmps.size)(ck:a.defers=[]){o:Oper}(O:∀d,o.dst=some d->d<N){K:ar->Prop}(j:gR P G o σ K){Q:Exit->Act->World->Prop}:o.wp P a w (gz N m fr ρ σ K) Q:=by
 have S:=xK (a:=a) Z h.au;have L:∀d,o.dst=some d->d<a.tmps.size:=λd b0=>xch (O d b0) dD;have E:∀v,N<=(a.put o.dst v).tmps.size:=by intro v;cases o.dst<;>simpa[Act.put]using dD
 have M:∀v,(a.put o.dst v).defers=[]:=by intro v;cases o.dst<;>exact ck
 unfold gR at j;split at j
 case h_2=>cases j
 rename_i x args ff cC;split at j
 case h_2=>cases j
 rename_i f pre post b;obtain⟨W,fs,R,ab,ae,ai,eU,J,dR⟩:=j;have t:=S x;have s:∃first cap,a.eval x= .func (.func f) first cap/\first.size=pre.length/\cap.size=post.length/\(∀(i:Nat)(c:az)(v:Value),pre[i]?=some c->first[i]?=some v->bz m ρ σ.used c v)/\(∀(i:Nat)(c:az)(v:Value),post[i]?=some c->cap[i]?=some v->bz m ρ σ.used c v):=by
  unfold qm at b;split at b
  .rename_i dE first cap z
   split at b
   case isFalse=>cases b
   rename_i ak;cases b;rw[z]at t;exact⟨first,cap,t.fq,by simpa using ak.1,by simpa using ak.2,by intro i c v j;simp at j,by intro i c v j;simp at j⟩
  .rename_i dE first cap z
   cases b;rw[z]at t;generalize a.eval x=u at t;cases t with|fn _ _ _ vs cK ah F g X=>exact⟨vs,cK,rfl,ah,F,g,X⟩
  .rename_i dE first cap z
   cases b;rw[z]at t;have t:=t.kN;generalize a.eval x=u at t;cases t with|fn _ _ _ vs cK ah F g X=>
   refine⟨vs,cK,rfl,by simpa using ah,by simpa using F,?_,?_⟩;.intro i c v j n;simp only[xag,xae]at j;obtain⟨y,I,rfl⟩:=j;exact .d _ _ (g i y v I n)
   intro i c v j n;simp only[xag,xae]at j;obtain⟨y,I,rfl⟩:=j;exact .d _ _ (X i y v I n)
  .cases b
 obtain⟨first,cap,b3,H,cA,g1,g2⟩:=s;have B:∀(i:Nat)(c:az)(v:Value),(pre++args.toList.map (bD G σ.au)++post)[i]?=some c->(first++args.map a.eval++cap).toList[i]?=some v->bz m ρ σ.used c v:=by
  intro i c v j n;simp only[Array.toList_append,Array.toList_map]at n;have eI:first.toList.length=pre.length:=by simpa using H
  by_cases ab:i<pre.length;.rw[xaL,xap ab]at j;rw[xaL,xap oZ]at n;exact g1 i c v j (by simpa using n)
  .by_cases ae:i<pre.length+args.size;.rw[xap uZ,xas oZ]at j;rw[xap uZ,xas oZ,eI]at n;simp only[xag,xae]at j n;obtain⟨p,eW,rfl⟩:=j;obtain⟨q,eV,rfl⟩:=n;rw[eW]at eV;cases eV;exact S _
   rw[xas uZ]at j;rw[xas uZ]at n;refine g2 _ c v j ?_;rw[<-n];simp only[xaS,xaU,xbX,H];simp
 have C:(first++args.map a.eval++cap).toList.length=(pre++args.toList.map (bD G σ.au)++post).length:=by simp[H,cA]
 have A:(execOp a.eval o).run P w= .ok (.enter f (first++args.map a.eval++cap)) w:=by unfold execOp;rw[cC];exact Nt b3 ai.fn
 unfold Oper.wp;rw[A];rcases J with J|J
 ·
  have hD:=mI.ok ae (Ye h C B ab);have l:=ai.run _ fr w _ (Z.mono (Den.tW m ρ σ.objs w)) h.Nj hD;simp only[Array.toArray_toList]at l;refine l.mono λe w' z=>?_;obtain⟨v,ek,r,rfl,U,V,cU,de⟩:=z;have bX:=h.Yf V cU;exact⟨_,m,ρ,dR r U,Mem.le_refl m,bX.put (.d _ _ (D.Yc (J r U) de)) L,E v,M v,λk fg b5=>⟨by simpa using b5,rfl⟩⟩
 have Y:j1 m W (first++args.map a.eval++cap).toList:=by obtain⟨g1,g2⟩:=mK ab;refine⟨by rw[C,g1];simp,?_⟩;intro i d v b0 n;have g3:=g2 i d b0;rw[xag,xae]at g3;obtain⟨y,I,cx⟩:=g3;exact HM (xay.1 J y (xad I)) cx (B i y v I n)
 have l:=ai.run m _ w _ Z h.Np (mI.ok ae Y);simp only[Array.toArray_toList]at l;refine l.mono λe w' z=>?_;obtain⟨v,ek,r,rfl,U,V,cU,de⟩:=z;have bX:=h.kept V cU;exact⟨_,ek,ρ,dR r U,V,bX.put (.d _ _ de) L,E v,M v,λk fg b5=>⟨by simpa using b5,rfl⟩⟩
def HN(i:cV P T)(f:gk G m)(h:Den m fr ρ σ a w)(g:N<=a.tmps.size)(c:a.defers=[]){o:Oper}(b:∀d,o.dst=some d->d<N){K:ar->Prop}(e:cm P T G o K σ){Q:Exit->Act->World->Prop}:o.wp P a w (gz N m fr ρ σ K) Q:=by
 unfold cm at e;split at e;.exact Yi i f h g c b aZ e
 exact Yj f h g c b e
def HO(A:cV P T)(z:gk G m)(h:Den m fr ρ σ a w)(s:N<=a.tmps.size)(g:a.defers=[]){all:Array Oper}{i:Nat}{o:Oper}(ag:all[i]?=some o)(f:∀d,o.dst=some d->d<N){K:ar->Prop}(e:da P T G all o K σ) {Q:Exit->Act->World->Prop}:wpOp P all Q i (gz N m fr ρ σ K) a w:=by
 have y:∀d,o.dst=some d->d<a.tmps.size:=λd x=>xch (f d x) s;unfold wpOp;simp only[ag];unfold da at e;split at e
 .rename_i t;have:Region.wanted o (yielded all a.tmps)=true:=by simp[Region.wanted,t]
  rw[xac this];exact .inl (HN A z h s g f e)
 rename_i j want t;split at e
 case h_2=>cases e
 rename_i d x;have p:∀v,a.tmps.getD d undef=v->yielded all a.tmps j=(match v with| .bool b=>some b|_=>none):=by intro v c;unfold yielded;rw[x];simp only[Option.bind_some];rw[xbj]at c;cases q:a.tmps[d]? with|none=>rw[q]at c;simp only[Option.getD_none]at c;subst c;rfl|some u=>rw[q]at c;simp only[xbn]at c;subst c;cases u<;>rfl
 have skip:Region.wanted o (yielded all a.tmps)=false->K (σ.put o.dst (.d (.val (.tuple #[]))))->gz N m fr ρ σ K (a.put o.dst undef) w:=λ_ B=>⟨_,m,ρ,B,Mem.le_refl m,h.put (.d _ _ (.val _)) y,by cases o.dst<;>simpa[Act.put]using s,by cases o.dst<;>exact g,λk B l=>⟨by simpa using l,rfl⟩⟩;split at e
 .rename_i b aj;have c:=h.au d;rw[aj]at c;have r:=p _ c.fq;simp only at r;have C:Region.wanted o (yielded all a.tmps)=(b==want):=by
   simp only[Region.wanted,t,r];cases b<;>cases want<;>rfl
  by_cases l:b=want;.rw[xac l]at e;rw[C,xac (by simpa using l)];exact .inl (HN A z h s g f e)
  rw[xab l]at e;have n:Region.wanted o (yielded all a.tmps)=false:=by rw[C];simpa using l
  rw[xab (by rw[n];simp)];exact skip n e
 .rename_i vs aj;have c:=h.au d;rw[aj]at c;have r:=p _ c.fq;simp only at r;have n:Region.wanted o (yielded all a.tmps)=false:=by
   simp only[Region.wanted,t,r];rfl
  rw[xab (by rw[n];simp)];exact skip n e
 cases e
def wpOp_mono{ops:Array Oper}{Q:Exit->Act->World->Prop}{i:Nat}{K K':Act->World->Prop}(d:∀a w,K a w->K' a w){a:Act}{w:World}(h:wpOp P ops Q i K a w):wpOp P ops Q i K' a w:=by
 unfold wpOp at*;split;.rename_i e;simp only[e]at h;exact d _ _ h
 rename_i o e;simp only[e]at h;split
 .rename_i f;rw[xac f]at h;rcases h with h|h
  .refine .inl ?_;unfold Oper.wp at*;generalize (execOp a.eval o).run P w=r at*;cases r with
   |ok n w'=>
    cases n<;>simp only[Oper.upon]at h⊢<;>first|exact d _ _ h|exact h|skip
    .refine h.mono λe g b=>?_;cases e with|returned v=>exact d _ _ b|panicked c=>exact b|outgrown=>exact b
    exact h.mono λv g b=>d _ _ b
   |halt x w'=>cases x<;>exact h
  exact .inr h
 rename_i f;rw[xab f]at h;exact d _ _ h
end
def B1{ev a:Operand->az}{l:List Operand}(h:∀x∈l,ev x=a x):l.map ev=l.map a:=List.map_congr_left h
theorem Nu{ev a:Operand->az}{b:Array (Nat×Operand)}(h:∀x∈(b.toList.map (·.2)),ev x=a x):(b.toList.map λp=>(p.1,ev p.2))=b.toList.map λp=>(p.1,a p.2):=List.map_congr_left λp c=>by rw[h p.2 (xaK.2 ⟨p,c,rfl⟩)]
def Yk{T:bC}{ev d:Operand->az}{op:Op}(h:∀x∈op.operands.toList,ev x=d x):dk T ev op=dk T d op:=by
 cases op<;>simp only[dk]
 case move x=>rw[h x (by simp[Op.operands])]
 case assign x=>rw[h x (by simp[Op.operands])]
 case pick c a b=>rw[h c (by simp[Op.operands]),h a (by simp[Op.operands]),h b (by simp[Op.operands])]
 case binOp op t x y n=>rw[h x (by simp[Op.operands]),h y (by simp[Op.operands])]
 case unOp op t x=>rw[h x (by simp[Op.operands])]
 case convert s t x=>rw[h x (by simp[Op.operands])]
 case fieldAddr s x f=>rw[h x (by simp[Op.operands])]
 case field s x f=>rw[h x (by simp[Op.operands])]
 case extract x i=>rw[h x (by simp[Op.operands])]
 case build t parts=>rw[Nu (by simpa[Op.operands]using h)]
 case index t x i=>rw[h x (by simp[Op.operands]),h i (by simp[Op.operands])]
 case makeFunc f first cap=>rw[B1 (l:=first.toList) (λx g=>h x (by simp[Op.operands]at g⊢;exact .inl g)),B1 (l:=cap.toList) (λx g=>h x (by simp[Op.operands]at g⊢;exact .inr g))]
 case makeInterface t x=>rw[h x (by simp[Op.operands])]
 case nilCheck x=>rw[h x (by simp[Op.operands])]
 case slice t x lo ag ed=>
  cases ed with
  |some _=>rfl
  |none=>
   simp only[];have j:lo.map ev=lo.map d:=by cases lo with|none=>rfl|some l=>simp only[xaI];rw[h l (by simp[Op.operands])]
   have k:ag.map ev=ag.map d:=by cases ag with|none=>rfl|some l=>simp only[xaI];rw[h l (by simp[Op.operands])]
   rw[h x (by simp[Op.operands]),j,k]
 case call c=>obtain⟨callee,args,m⟩:=c;simp only;have e:args.toList.map ev=args.toList.map d:=B1 λx g=>h x (by simp[Op.operands,Call.operands]at g⊢;exact .inr g);rw[e]
def Yl{T:bC}{ev b:Operand->az}{objs:bP}{op:Op}(h:∀x∈op.operands.toList,ev x=b x):cM T ev objs op=cM T b objs op:=by
 cases op<;>simp only[cM]
 case convert s t x=>rw[h x (by simp[Op.operands])]
 case load t a=>rw[h a (by simp[Op.operands])]
 case indexAddr t x cN=>rw[h x (by simp[Op.operands]),h cN (by simp[Op.operands])]
 case slice t x lo ag ed=>
  cases ed with
  |some _=>rfl
  |none=>
   simp only[];have d:lo.map ev=lo.map b:=by cases lo with|none=>rfl|some l=>simp only[xaI];rw[h l (by simp[Op.operands])]
   have f:ag.map ev=ag.map b:=by cases ag with|none=>rfl|some l=>simp only[xaI];rw[h l (by simp[Op.operands])]
   rw[h x (by simp[Op.operands]),d,f]
 case call c=>
  obtain⟨callee,args,i⟩:=c;simp only;split
  .split
   .rename_i t x j cr;have g:args= #[x]:=by apply xbO;simpa using cr
    have e:ev x=b x:=h x (by simp[Op.operands,Call.operands,g]);rw[e]
   rfl
  rfl
 case lookup t x k ok=>rw[h x (by simp[Op.operands]),h k (by simp[Op.operands])]
 case binOp op t x y m=>rw[h x (by simp[Op.operands]),h y (by simp[Op.operands])]
def Ym{T:bC}{ev b:Operand->az}{objs:bP}{d:Key}{op:Op}(h:∀x∈op.operands.toList,ev x=b x):c7 T ev objs d op=c7 T b objs d op:=by
 cases op<;>simp only[c7]
 case box t x=>rw[h x (by simp[Op.operands])]
 case buildSlice t n parts=>rw[Nu (by simpa[Op.operands]using h)]
 case makeSlice t l c=>rw[h l (by simp[Op.operands]),h c (by simp[Op.operands])]
 case store t a x=>rw[h a (by simp[Op.operands]),h x (by simp[Op.operands])]
 case mapUpdate t m k x=>rw[h m (by simp[Op.operands]),h k (by simp[Op.operands]),h x (by simp[Op.operands])]
 case insert t m k x=>rw[h m (by simp[Op.operands]),h k (by simp[Op.operands]),h x (by simp[Op.operands])]
 case call c=>
  obtain⟨callee,args,j⟩:=c;simp only;split
  .split
   .rename_i t t' s x i cr;have e:args= #[s,x]:=by apply xbO;simpa using cr
    have f:ev s=b s:=h s (by simp[Op.operands,Call.operands,e]);have g:ev x=b x:=h x (by simp[Op.operands,Call.operands,e]);rw[f,g]
   rfl
  .split
   .rename_i t t' s x i cr;have e:args= #[s,x]:=by apply xbO;simpa using cr
    have f:ev s=b s:=h s (by simp[Op.operands,Call.operands,e]);have g:ev x=b x:=h x (by simp[Op.operands,Call.operands,e]);rw[f,g]
   rfl
  .split
   .rename_i t s i cr;have e:args= #[s]:=by apply xbO;simpa using cr
    rw[h s (by simp[Op.operands,Call.operands,e])]
   rfl
  rfl
def Yn{T:bC}{ev a:Operand->az}{objs:bP}{d:Key}{op:Op}(h:∀x∈op.operands.toList,ev x=a x):e4 T ev objs d op=e4 T a objs d op:=by unfold e4;rw[Ym h]
def gm:Op->Bool
 | .move _| .assign _| .pick ..| .unOp ..| .fieldAddr ..| .field ..| .extract ..| .build ..| .index ..| .makeFunc ..| .makeInterface ..| .nilCheck _=>true|_=>false
def gE:Op->Bool
 | .load ..| .indexAddr ..| .slice ..| .lookup ..| .binOp ..| .convert ..=>true| .call ⟨.builtin b,_,_⟩=>match b with| .len| .max| .min=>true|_=>false
 |_=>false
def fl:Op->Bool
 | .call ⟨.value _,_,_⟩=>true|_=>false
def lS:Op->Bool
 | .alloc _| .box ..| .buildSlice ..=>true|_=>false
theorem tZ{T:bC}{ev:Operand->az}{objs:bP}{d:Key}{op:Op}(h:gm op=true):cM T ev objs op=none/\e4 T ev objs d op=none:=by cases op<;>first|exact⟨rfl,rfl⟩|cases h
def ua{T:bC}{ev:Operand->az}{objs:bP}{d:Key}{op:Op}(h:gE op=true):e4 T ev objs d op=none:=by
 cases op
 case call c=>
  obtain⟨callee,args,a⟩:=c;cases callee with
  |value=>cases h
  |invoke=>cases h
  |builtin b=>cases b<;>first|rfl|cases h
 all_goals first|rfl|cases h
def HP{T:bC}{ev:Operand->az}{objs:bP}{d:Key}{op:Op}(h:fl op=true):dk T ev op=none/\cM T ev objs op=none/\e4 T ev objs d op=none:=by
 cases op
 case call c=>
  obtain⟨callee,args,a⟩:=c;cases callee with
  |value=>exact⟨rfl,rfl,rfl⟩|invoke=>cases h
  |builtin b=>cases h
 all_goals cases h
theorem mL{T:bC}{ev:Operand->az}{objs:bP}{op:Op}(h:lS op=true):dk T ev op=none/\cM T ev objs op=none:=by cases op<;>first|exact⟨rfl,rfl⟩|cases h
def Yo{T:bC}{ev:Operand->az}{objs objs':bP}{d:Key}{op:Op}(h:lS op=true)(ak:objs' d=none){r:az}{c:List (Key×b6)}(a:c7 T ev objs d op=some (r,c)):c7 T ev objs' d op=some (r,c)/\objs d=none/\∃o,c=[(d,o)]:=by
 cases op
 case alloc t=>
  simp only[c7]at a⊢;split at a
  case h_2=>cases a
  rename_i i k f;cases a;exact⟨by simp only[ak,k],f,_,rfl⟩
 case box t x=>
  simp only[c7]at a⊢;split at a
  case h_2=>cases a
  rename_i cs g f;cases a;exact⟨by simp only[ak,g],f,_,rfl⟩
 case buildSlice t n parts=>
  simp only[c7]at a⊢;split at a
  case h_2=>cases a
  rename_i e s b z k f;simp only[ak,k];split at a
  case h_2=>cases a
  rename_i m j
  try simp only[j]
  split at a
  case h_2=>cases a
  rename_i es l
  try simp only[l]
  split at a
  case isFalse=>cases a
  rename_i g;cases a;exact⟨by rw[xac g],f,_,rfl⟩
 all_goals cases h
def ub{T:bC}{ev:Operand->az}{objs objs':bP}{d:Key}{op:Op}(h:lS op=true)(ak:objs' d=none){r:az}{a:List (Key×b6)}(j:e4 T ev objs d op=some (r,a)):e4 T ev objs' d op=some (r,a)/\objs d=none/\∃o,a=[(d,o)]:=by
 obtain⟨⟨k,g⟩,g0,b⟩:=qi j;obtain⟨g1,g2,o,rfl⟩:=Yo (objs':=objs') h ak g0;refine⟨by unfold e4;rw[g1];simp[b],g2,?_⟩;rcases rU (T.born d) d k [(d,o)]with e|⟨n,es,f,c,e⟩|⟨m,n,es,f,c,e⟩|⟨off,cs,l,f,c,i,e⟩;.rw[b]at e;cases e;exact⟨o,rfl⟩
 .rw[b]at e;cases e;exact⟨_,rfl⟩
 .cases c
 rw[b]at e;cases e;exact⟨_,rfl⟩
def bP.ext(objs objs':bP):Prop:=∀k o,objs k=some o->objs' k=some o
def bP.B2{objs:bP}{k:Key}(h:objs k=none)(o:b6):objs.ext (bL objs k (some o)):=by
 intro j x a;have:j≠k:=by rintro rfl;rw[h]at a;cases a
 rw[ca _ _ this];exact a
def Nv{objs objs':bP}(h:objs.ext objs'){x:az}{n:Nat}(ah:hB objs x=some n):hB objs' x=some n:=by
 unfold hB at*;split at ah;.exact ah
 .exact ah
 .split at ah;.rename_i a;rw[h _ _ a];exact ah
  cases ah
 .exact ah
 cases ah
def Yp{objs objs':bP}(h:objs.ext objs'){x:az}{es:mW}(ah:lN objs x=some es):lN objs' x=some es:=by
 unfold lN at*;split at ah;.exact ah
 .exact ah
 .split at ah;.rename_i a;rw[h _ _ a];exact ah
  cases ah
 .split at ah;.rename_i a;rw[h _ _ a];exact ah
  cases ah
 cases ah
def B3{objs objs':bP}(h:objs.ext objs'){x:az}{b:Bool}(ah:jw objs x=some b):jw objs' x=some b:=by
 unfold jw at*;split at ah;.exact ah
 .exact ah
 .split at ah;.rename_i a;rw[h _ _ a];exact ah
  cases ah
 cases ah
def Nw{objs objs':bP}(h:objs.ext objs'){x:az}{d:D}(ah:mJ objs x=some d):mJ objs' x=some d:=by
 unfold mJ at*;split at ah;.exact ah
 .split at ah;.rename_i a;rw[h _ _ a];exact ah
  cases ah
 .split at ah;.rename_i a;rw[h _ _ a];exact ah
  cases ah
 .split at ah;.rename_i a;rw[h _ _ a];exact ah
  cases ah
 cases ah
def ld{e:Type}{f g:az->Option e}(h:∀x d,f x=some d->g x=some d):∀(l:List az)(r:List e),fk (l.map f)=some r->fk (l.map g)=some r
 |[],r,a=>a
 |x::l,r,a=>by
  simp only[xaw]at a⊢;cases c:f x with
  |none=>simp[c,fk]at a
  |some d=>
   rw[c]at a;simp only[fk]at a;split at a
   case h_2=>cases a
   rename_i i b;rw[h x d c];simp only[fk,ld h l i b];exact a
def B4{objs objs':bP}(h:objs.ext objs'){x:az}{d:D}(ah:j2 objs x=some d):j2 objs' x=some d:=by
 unfold j2 at*;split at ah
 .split at ah
  case h_2=>cases ah
  rename_i b;simp only[h _ _ b];split at ah
  case h_2=>cases ah
  rename_i cs a;rw[ld (λx d c=>Nw h c) _ _ a];exact ah
 .exact ah
 exact Nw h ah
def Nx{objs objs':bP}(h:objs.ext objs'){x:az}{d:D}(ah:kO objs x=some d):kO objs' x=some d:=by
 unfold kO at*;split at ah
 .split at ah
  case h_2=>cases ah
  rename_i e c;rw[ld (λx d a=>B4 h a) _ _ c];exact ah
 .split at ah
  case h_2=>cases ah
  rename_i as dm has b;rw[ld (λx d a=>B4 h a) _ _ has,ld (λx d a=>B4 h a) _ _ b];exact ah
 exact B4 h ah
def Yq{objs objs':bP}(h:objs.ext objs'){x:az}{d:D}(ah:toD objs x=some d):toD objs' x=some d:=by
 unfold toD at*;split at ah
 .split at ah
  case h_2=>cases ah
  rename_i c a;rw[ld (λx d b=>Nx h b) _ _ a];exact ah
 exact Nx h ah
def Yr{T:bC}{ev:Operand->az}{objs objs':bP}(h:objs.ext objs'){op:Op}{r:az}(d:cM T ev objs op=some r):cM T ev objs' op=some r:=by
 cases op<;>simp only[cM,reduceCtorEq]at d⊢
 case convert s t x=>
  split at d
  case h_2=>cases d
  rename_i m o;split at d
  case h_2=>cases d
  rename_i p;split at d
  case h_2=>cases d
  rename_i es l;simp only[Yp h l];exact d
 case load t a=>
  split at d
  case h_2=>cases d
  split at d;.exact d
  .split at d
   case h_2=>cases d
   rename_i e;simp only[h _ _ e];exact d
  .split at d
   case h_2=>cases d
   rename_i e;simp only[h _ _ e];exact d
  cases d
 case indexAddr t x cN=>
  split at d
  .split at d
   case h_2=>cases d
   split at d
   case isFalse=>cases d
   rename_i ak;rw[xac ak];split at d;.exact d
   .split at d
    case h_2=>cases d
    rename_i e;simp only[h _ _ e];exact d
   .exact d
   cases d
  .exact d
  cases d
 case slice t x lo ag ed=>
  cases ed with
  |some _=>simp[]at d
  |none=>
   simp only[]at d⊢;split at d
   case h_3=>cases d
   case h_2=>exact d
   split at d
   case h_2=>cases d
   split at d
   case h_2=>cases d
   rename_i n j;simp only[Nv h j];split at d
   case h_2=>cases d
   split at d
   case isFalse=>cases d
   rename_i f;rw[xac f];split at d;.exact d
   .split at d
    case h_2=>cases d
    rename_i e;simp only[h _ _ e];exact d
   .exact d
   cases d
 case call c=>
  split at d
  case h_2=>cases d
  split at d
  case h_2=>cases d
  split at d;.exact d
  .split at d
   case h_2=>cases d
   rename_i n j;simp only[Nv h j];exact d
  .exact d
  .exact d
  .split at d
   case h_2=>cases d
   rename_i e;simp only[h _ _ e];exact d
  cases d
 case lookup t x k ok=>
  split at d
  case h_2=>cases d
  split at d;.exact d
  .exact d
  .split at d
   case h_2=>cases d
   rename_i e;simp only[h _ _ e];exact d
  cases d
 case binOp op t x y q=>
  split at d
  case h_2=>cases d
  split at d
  .split at d
   .rename_i f;rw[xac f];split at d
    case h_2=>cases d
    rename_i b g;simp only[B3 h g];exact d
   rename_i f;rw[xab f];split at d
   case isFalse=>cases d
   rename_i i;rw[xac i];split at d
   case h_2=>cases d
   rename_i b g;simp only[B3 h g];exact d
  .split at d
   .rename_i f;rw[xac f];split at d
    case h_2=>cases d
    rename_i b g;simp only[B3 h g];exact d
   rename_i f;rw[xab f];split at d
   case isFalse=>cases d
   rename_i i;rw[xac i];split at d
   case h_2=>cases d
   rename_i b g;simp only[B3 h g];exact d
  cases d
def Ny:∀(a:List (Key×b6)) {objs:bP} {k:Key} {o:b6},(∀p∈a,p.1≠k)->cD (bL objs k (some o)) a=bL (cD objs a) k (some o)
 |[],objs,k,o,_=>rfl
 |(j,x)::r,objs,k,o,h=>by
  have b:j≠k:=h (j,x) sZ;simp only[cD];have e:bL (bL objs k (some o)) j (some x)=bL (bL objs j (some x)) k (some o):=by
   funext i
   simp only[bL];by_cases ab:i=j;.subst ab;simp[b]
   by_cases ae:i=k;.subst ae;simp[ab]
   simp[ab,ae]
  rw[e];exact Ny r (λp c=>h p (by simp[c]))
def B5{objs objs':bP}(h:objs.ext objs'){x:az}{r:Nat×mW}(ah:jg objs x=some r):jg objs' x=some r:=by
 unfold jg at*;split at ah;.exact ah
 .exact ah
 .split at ah;.rename_i a;rw[h _ _ a];exact ah
  cases ah
 .split at ah;.rename_i a;rw[h _ _ a];exact ah
  cases ah
 cases ah
def Ys{T:bC}{ev:Operand->az}{objs objs':bP}(h:objs.ext objs'){d k:Key}(S:d≠k)(U:objs k=none)(y:objs d=none->objs' d=none){op:Op}{r:az}{H:List (Key×b6)} (f:c7 T ev objs d op=some (r,H)):c7 T ev objs' d op=some (r,H)/\∀p∈H,p.1≠k:=by
 have one:∀{o:b6},∀p∈[(d,o)],p.1≠k:=by intro o p C;simp at C;subst C;exact S
 have hg:∀{j:Key}{x o:b6},objs j=some x->∀p∈[(j,o)],p.1≠k:=by intro j x o g p C;simp at C;subst C;rintro rfl;rw[U]at g;cases g
 cases op<;>simp only[c7,reduceCtorEq]at f
 case alloc t=>split at f<;>cases f;rename_i i u ak;exact⟨by simp only[c7,u,y ak],one⟩
 case box t x=>split at f<;>cases f;rename_i cs A ak;exact⟨by simp only[c7,A,y ak],one⟩
 case buildSlice t n parts=>
  split at f
  case h_2=>cases f
  rename_i e s b z u ak;split at f
  case h_2=>cases f
  rename_i J q;split at f
  case h_2=>cases f
  rename_i es C;split at f
  case isFalse=>cases f
  rename_i A;cases f;exact⟨by simp only[c7,u,y ak,q,C];rw[xac A],one⟩
 case makeSlice t l c=>
  split at f
  case h_2=>cases f
  rename_i e s b z u ak;split at f
  case h_2=>cases f
  rename_i J q;split at f
  case h_2=>cases f
  rename_i dE dR cK cC ab ae;split at f
  case isFalse=>cases f
  rename_i A;cases f;exact⟨by simp only[c7,u,y ak,q,ab,ae];rw[xac A],one⟩
 case makeMap t r=>split at f<;>cases f;rename_i ak;exact⟨by simp only[c7,y ak],one⟩
 case store t a x=>
  split at f
  case h_2=>cases f
  rename_i i cs u A;split at f
  case isFalse=>cases f
  rename_i ah;split at f
  .rename_i j off fI;split at f
   case h_2=>cases f
   rename_i cells g;split at f
   case isFalse=>cases f
   rename_i Q;cases f;exact⟨by simp only[c7,u,A,fI,h _ _ g];rw[xac ah,xac Q],hg g⟩
  .rename_i j V cN off fI;split at f
   case h_2=>cases f
   rename_i K es cx g O;split at f
   case isFalse=>cases f
   rename_i Q;split at f
   case h_2=>cases f
   rename_i de P;cases f;exact⟨by simp only[c7,u,A,fI,h _ _ g,O];rw[xac ah,xac Q];simp only[P],hg g⟩
  cases f
 case mapUpdate t m b5 x=>
  split at f
  case h_2=>cases f
  rename_i Z X s b z u;split at f
  case h_2=>cases f
  rename_i Y F;split at f
  case isFalse=>cases f
  rename_i G;split at f
  case h_2=>cases f
  rename_i key bX b0 L M N;split at f
  case h_2=>cases f
  rename_i es g;split at f
  case h_2=>cases f
  rename_i l ah;cases f;exact⟨by simp only[c7,u,F,L,M,N,h _ _ g,ah];rw[xac G],hg g⟩
 case insert t m b5 x=>
  split at f
  case h_2=>cases f
  rename_i Z X s b z u;split at f
  case h_2=>cases f
  rename_i Y F;split at f
  case isFalse=>cases f
  rename_i G;split at f
  case h_2=>cases f
  rename_i key bX b0 L M N;split at f
  case h_2=>cases f
  rename_i es g;split at f
  case h_2=>cases f
  rename_i l ah;cases f;exact⟨by simp only[c7,u,F,L,M,N,h _ _ g,ah];rw[xac G],hg g⟩
 case call c=>
  obtain⟨callee,args,b3⟩:=c;simp only at f;split at f
  .split at f
   case h_2=>cases f
   rename_i t t' s x E cr;split at f
   case h_2=>cases f
   rename_i e s1 R W cU s2 cA z2 u I ak;split at f
   case h_2=>cases f
   rename_i J q;split at f
   case h_2=>cases f
   rename_i V ck B;split at f
   case isFalse=>cases f
   rename_i A;split at f
   .rename_i w;split at f
    case isFalse=>cases f
    rename_i D;cases f;exact⟨by simp only[c7,E,cr,u,I,y ak,q,B5 h B,w];rw[xac A,xac D],one⟩
   .rename_i key w;split at f
    case h_2=>cases f
    rename_i K es g;split at f
    case isFalse=>cases f
    rename_i D;cases f;refine⟨by simp only[c7,E,cr,u,I,y ak,q,B5 h B,w,h _ _ g];rw[xac A,xac D],?_⟩;intro p C;simp at C;rcases C with rfl|rfl
    .rintro rfl;rw[U]at g;cases g
    exact S
   cases f
  .split at f
   case h_2=>cases f
   rename_i t t' s x E cr;split at f
   case h_2=>cases f
   rename_i e s1 R W u;split at f
   case h_2=>cases f
   rename_i J q;split at f
   case h_2=>cases f
   rename_i V ck B;split at f
   case isFalse=>cases f
   rename_i A;split at f
   .rename_i key w;split at f
    case h_2=>cases f
    rename_i K es g;split at f
    case isFalse=>cases f
    rename_i D;cases f;exact⟨by simp only[c7,E,cr,u,q,B5 h B,w,h _ _ g];rw[xac A,xac D],hg g⟩
   .rename_i key cy i len w;split at f
    case h_2=>cases f
    rename_i K es g;split at f
    case isFalse=>cases f
    rename_i D;cases f;exact⟨by simp only[c7,E,cr,u,q,B5 h B,w,h _ _ g];rw[xac A,xac D],hg g⟩
   cases f
  .split at f
   case h_2=>cases f
   rename_i t s E cr;split at f
   case h_2=>cases f
   rename_i e s1 R W u;split at f
   case h_2=>cases f
   rename_i J q;split at f
   case h_2=>cases f
   rename_i key cy i len w;split at f
   case h_2=>cases f
   rename_i K es g;split at f
   case isFalse=>cases f
   rename_i D;cases f;exact⟨by simp only[c7,E,cr,u,q,w,h _ _ g];rw[xac D],hg g⟩
  cases f
def Yt{T:bC}{ev:Operand->az}{objs objs':bP}(h:objs.ext objs'){d k:Key}(j:d≠k)(m:objs k=none)(e:objs d=none->objs' d=none){op:Op}{r:az}{a:List (Key×b6)} (l:e4 T ev objs d op=some (r,a)):e4 T ev objs' d op=some (r,a)/\∀p∈a,p.1≠k:=by obtain⟨⟨s,c⟩,g0,f⟩:=qi l;obtain⟨g1,g2⟩:=Ys (objs':=objs') h j m e g0;refine⟨by unfold e4;rw[g1];simp[f],λp n=>?_⟩;have ai:=X8 (b:=T.born d) (d:=d) (q:=(s,c)) p (by rw[f];exact n);obtain⟨o,g,i⟩:=ai;rw[<-i];exact g2 o g
def res(T:bC)(G:cj)(σ:ar)(o:Oper):Option (az×List (Key×b6)):=match dk T (bD G σ.au) o.op with|some r=>some (r,[])|none=>match cM T (bD G σ.au) σ.objs o.op with|some r=>some (r,[])|none=>e4 T (bD G σ.au) σ.objs (o.dst.getD 9999) o.op
def ar.step(σ:ar)(dst:Option Tmp)(r:az)(a:List (Key×b6)):ar:=ar.put ⟨σ.au,cD σ.objs a⟩ dst r
theorem qn{T:bC}{G:cj}{σ:ar}{o:Oper}:eN T G σ o=(res T G σ o).map λp=>σ.step o.dst p.1 p.2:=by unfold eN res ar.step;cases dk T (bD G σ.au) o.op with|some r=>rfl|none=>cases cM T (bD G σ.au) σ.objs o.op with|some r=>rfl|none=>cases e4 T (bD G σ.au) σ.objs (o.dst.getD 9999) o.op with|none=>rfl|some p=>obtain⟨r,a⟩:=p;rfl
theorem Yu{G:cj}{σ:ar}{dst:Option Tmp}{r:az}{x:Operand}(h:∀d,dst=some d->x≠ .tmp d):bD G (σ.put dst r).au x=bD G σ.au x:=by cases dst with|none=>rfl|some d=>cases x with|tmp t=>have:t≠d:=λe=>h d rfl (by rw[e]);simp only[bD,ar.put,ca _ _ this]|_=>rfl
theorem Yv{all:Array Oper}{o:Oper}{d:Tmp}(h:d∉o.looksAt all):∀x∈o.op.operands.toList,x≠ .tmp d:=by rintro x a rfl;exact h (by unfold Oper.looksAt;exact xaZ _ (List.mem_filterMap.2 ⟨_,a,rfl⟩))
def Yw{all:Array Oper}{o:Oper}{d:Tmp}(h:d∉o.looksAt all){j:Nat}{b:Bool}(c:o.guard=some (j,b)){e:Tmp}(a:(all[j]?).bind (·.dst)=some e):e≠d:=by rintro rfl;exact h (by unfold Oper.looksAt;exact xbT _ (by simp[c,a]))
def put_comm{σ:ar}{x y:Option Tmp}{r s:az}(h:∀d,x=some d->y≠some d):(σ.put x r).put y s=(σ.put y s).put x r:=by
 cases x with
 |none=>rfl
 |some d=>
  cases y with
  |none=>rfl
  |some e=>
   have a:d≠e:=λb=>h d rfl (by rw[b]);simp only[ar.put]
   congr 1
   funext t
   simp only[bL];by_cases ab:t=d;.subst ab;simp[a]
   by_cases ae:t=e;.subst ae;simp[ab]
   simp[ab,ae]
def pass(x y:Oper):Bool:=gm x.op||gm y.op||((gE x.op||fl x.op)&&(gE y.op||fl y.op)&&!(fl x.op&&fl y.op))||(lS y.op&&match y.dst with|some d=>decide (d<9999)|none=>false)
def hh(all:Array Oper)(σ:ar)(o:Oper):Option Bool:=match o.guard with
 |none=>some true
 |some (j,want)=>match(all[j]?).bind (·.dst)with
  |some d=>match σ.au d with| .d (.val (.bool b))=>some (decide (b=want))| .d (.val (.tuple _))=>some false|_=>none
  |none=>none
section
variable{P:Program}{T:bC}{G:cj}{all:Array Oper}
def ft{o:Oper}{K:ar->Prop}{σ:ar}:da P T G all o K σ=match hh all σ o with|some true=>cm P T G o K σ|some false=>K (σ.put o.dst (.d (.val (.tuple #[]))))|none=>False:=by
 unfold da hh;cases c:o.guard with
 |none=>rfl
 |some p=>
  obtain⟨j,want⟩:=p;simp only;cases a:(all[j]?).bind (·.dst)with
  |none=>rfl
  |some d=>
   simp only;generalize σ.au d=x;cases x with
   |d x=>
    cases x with
    |val v=>cases v with|bool b=>by_cases h:b=want<;>simp[h]|_=>rfl
    |_=>rfl
   |_=>rfl
def kP{o:Oper}{σ:ar}{dst:Option Tmp}{r:az}(h:∀d,dst=some d->d∉o.looksAt all):hh all (σ.put dst r) o=hh all σ o:=by
 unfold hh;split;.rfl
 rename_i j want b;split
 .rename_i e a;have aj:(σ.put dst r).au e=σ.au e:=by
   cases dst with|none=>rfl|some d=>simp only[ar.put,ca _ _ (Yw (h d rfl) b a)]
  rw[aj]
 rfl
def Nz{o:Oper}{σ:ar}{dst:Option Tmp}{r:az}(h:∀d,dst=some d->d∉o.looksAt all):∀x∈o.op.operands.toList,bD G (σ.put dst r).au x=bD G σ.au x:=λx b=>Yu λd a=>Yv (h d a) x b
def Yx{o:Oper}{σ:ar}{dst:Option Tmp}{r:az}(h:∀d,dst=some d->d∉o.looksAt all):res T G (σ.put dst r) o=res T G σ o:=by have a:=Nz (G:=G) (σ:=σ) (r:=r) h;unfold res;rw[Yk a,Yl a,Yn a,ar.ql]
theorem Yy{σ:ar}{b c:Option Tmp}{r s:az}{a:List (Key×b6)}(h:∀d,b=some d->c≠some d):(σ.put b r).step c s a=(σ.step c s a).put b r:=by unfold ar.step;rw[<-put_comm h];cases b<;>rfl
def Yz{o:Oper}{σ:ar}{dst:Option Tmp}{r:az}{K:ar->Prop}(h:∀d,dst=some d->d∉o.looksAt all)(c:∀d,dst=some d->o.dst≠some d):gR P G o (σ.put dst r) K=gR P G o σ (λe=>K (e.put dst r)):=by
 have a:=Nz (G:=G) (σ:=σ) (r:=r) h;unfold gR;split
 .rename_i x args l b;have i:bD G (σ.put dst r).au x=bD G σ.au x:=a x (by rw[b];simp[Op.operands,Call.operands]);have j:args.toList.map (bD G (σ.put dst r).au)=args.toList.map (bD G σ.au):=B1 λy k=>a y (by rw[b];simp[Op.operands,Call.operands];exact .inr (by simpa using k));rw[i];split
  .rename_i f pre post g;unfold Ns;rw[j,ar.ql];simp only[put_comm c]
  rfl
 rfl
def gS{o:Oper}{σ:ar}{dst:Option Tmp}{r:az}{K:ar->Prop}(h:∀d,dst=some d->d∉o.looksAt all)(a:∀d,dst=some d->o.dst≠some d):cm P T G o K (σ.put dst r)=cm P T G o (λb=>K (b.put dst r)) σ:=by unfold cm;rw[qn,qn,Yx h];cases c:res T G σ o with|none=>exact Yz h a|some p=>simp only[xaI,Yy a]
def YA{ev:Operand->az}{objs:bP}{d:Key}{op:Op}{p:az×List (Key×b6)}(h:e4 T ev objs d op=some p)(objs':bP):dk T ev op=none/\cM T ev objs' op=none:=by
 obtain⟨q,ab,_⟩:=qi h;clear h;cases op<;>first|exact⟨rfl,rfl⟩|(simp only[c7,reduceCtorEq]at ab;done)|skip
 case call c=>obtain⟨callee,args,a⟩:=c;cases callee with|value=>exact⟨rfl,rfl⟩|invoke=>exact⟨rfl,rfl⟩|builtin b=>cases b<;>first|exact⟨rfl,rfl⟩|(simp only[c7,reduceCtorEq]at ab;done)
def YB{ev:Operand->az}{op:Op}{r:az}(h:dk T ev op=some r):gm op=true\/gE op=true:=by
 cases op
 case call c=>obtain⟨callee,args,a⟩:=c;cases callee with|value=>exact absurd h (by simp[dk])|invoke=>exact absurd h (by simp[dk])|builtin b=>cases b<;>first|exact .inr rfl|exact absurd h (by simp[dk])
 all_goals first|exact .inl rfl|exact .inr rfl|exact absurd h (by simp[dk])
def YC{ev:Operand->az}{objs:bP}{op:Op}{r:az}(h:cM T ev objs op=some r):gm op=true\/gE op=true:=by
 cases op
 case call c=>obtain⟨callee,args,a⟩:=c;cases callee with|value=>exact absurd h (by simp[cM])|invoke=>exact absurd h (by simp[cM])|builtin b=>cases b<;>first|exact .inr rfl|exact absurd h (by simp[cM])
 all_goals first|exact .inl rfl|exact .inr rfl|exact absurd h (by simp[cM])
def NA:∀(a:List (Key×b6)) {objs:bP} {k:Key},cD objs a k=none->objs k=none/\∀p∈a,p.1≠k
 |[],objs,k,h=>⟨h,by simp⟩
 |(j,x)::r,objs,k,h=>by
  obtain⟨ab,ae⟩:=NA r h;have c:j≠k:=by rintro rfl;rw[dw]at ab;cases ab
  rw[ca _ _ (xbZ c)]at ab;exact⟨ab,by intro p b;rcases xam.1 b with rfl|b;exact c;exact ae p b⟩
def rW{o:Oper}{σ:ar}{K:ar->Prop}(h:gR P G o σ K):fl o.op=true:=by
 unfold gR at h;split at h;.rename_i x args b a;rw[a];rfl
 cases h
def xR{op:Op}(h:fl op=true):gm op=false/\gE op=false/\lS op=false:=by
 cases op<;>first|cases h|skip
 case call c=>
  obtain⟨callee,args,a⟩:=c;cases callee with
  |value=>exact⟨rfl,rfl,rfl⟩|invoke=>cases h
  |builtin b=>cases h
def YD{o:Oper}{au:Nat->az}{objs objs':bP}(h:objs.ext objs'){r:az}(a:res T G ⟨au,objs⟩ o=some (r,[]))(b:gm o.op=true\/gE o.op=true):res T G ⟨au,objs'⟩ o=some (r,[]):=by
 unfold res at*;simp only at*;split at a;.exact a
 rename_i e;split at a;.rename_i f c;simp only[Yr h c];exact a
 rename_i c;rcases b with b|b
 .rw[(tZ (T:=T) (ev:=bD G au) (objs:=objs) (d:=o.dst.getD 9999) b).2]at a;cases a
 rw[ua b]at a;cases a
def B6{o:Oper}{σ:ar}{r:az}{c:List (Key×b6)}(a:res T G σ o=some (r,c))(b:gm o.op=true\/gE o.op=true):c=[]:=by
 unfold res at a;split at a;.cases a;rfl
 split at a;.cases a;rfl
 rcases b with b|b;.rw[(tZ (T:=T) (ev:=bD G σ.au) (objs:=σ.objs) (d:=o.dst.getD 9999) b).2]at a;cases a
 rw[ua b]at a;cases a
def NB{o:Oper}{au:Nat->az}{objs objs':bP}{p:az×List (Key×b6)}(a:res T G ⟨au,objs⟩ o=some p)(b:gm o.op=true):res T G ⟨au,objs'⟩ o=some p/\p.2=[]:=by
 unfold res at*;simp only at*;split at a;.cases a;exact⟨rfl,rfl⟩
 rw[(tZ (T:=T) (ev:=bD G au) (objs:=objs) (d:=o.dst.getD 9999) b).1,(tZ (T:=T) (ev:=bD G au) (objs:=objs) (d:=o.dst.getD 9999) b).2]at a;cases a
def o7{o:Oper}{σ:ar}(a:fl o.op=true):res T G σ o=none:=by unfold res;obtain⟨ab,ae,ai⟩:=HP (T:=T) (ev:=bD G σ.au) (objs:=σ.objs) (d:=o.dst.getD 9999) a;rw[ab,ae,ai]
theorem jh{o:Oper}{σ:ar}{K:ar->Prop}{r:az}{a:List (Key×b6)}(b:res T G σ o=some (r,a)):cm P T G o K σ=K (σ.step o.dst r a):=by unfold cm;rw[qn,b];rfl
theorem km{o:Oper}{σ:ar}{K:ar->Prop}(a:res T G σ o=none):cm P T G o K σ=gR P G o σ K:=by unfold cm;rw[qn,a];rfl
def xS{o:Oper}{σ:ar}{K K':ar->Prop}(h:gR P G o σ K)(l:∀r,K (σ.put o.dst r)->K' (σ.put o.dst r)):gR P G o σ K':=by
 unfold gR at*;split
 .rename_i x args c b;rw[b]at h;simp only at h;split;.rename_i f pre post a;simp only[a]at h;obtain⟨d,g,R,ab,ae,ai,i,j,k⟩:=h;exact⟨d,g,R,ab,ae,ai,i,j,λr m=>l _ (k r m)⟩
  rename_i a;simp only[a]at h
 rename_i b;split at h;.rename_i x args c e;exact absurd e (b x args c)
 exact h
def NC{x y:Oper}{σ:ar}{K:ar->Prop}(ab:∀d,x.dst=some d->d∉y.looksAt all)(ae:∀d,x.dst=some d->y.dst≠some d)(ai:∀d,y.dst=some d->d∉x.looksAt all)(s:pass x y=true) (h:cm P T G x (λgd=>cm P T G y K gd) σ):cm P T G y (λV=>cm P T G x K V) σ:=by
 have E:∀d,y.dst=some d->x.dst≠some d:=λd M ck=>ae d ck M;obtain⟨au,objs⟩:=σ;have j:∀{o:Oper}{r:az}{u:List (Key×b6)},ar.step ⟨au,objs⟩ o.dst r u=ar.put ⟨au,cD objs u⟩ o.dst r:=rfl;cases i:res T G ⟨au,objs⟩ x with
 |none=>
  rw[km i]at h;have U:=rW h;obtain⟨ff,fs,gD⟩:=xR U;have l:(gm y.op=true\/gE y.op=true)\/(lS y.op=true/\∃d,y.dst=some d/\d<9999):=by simp only[pass,ff,fs,U,xbB,xbm]at s;cases dR:gm y.op with|true=>exact .inl (.inl rfl)|false=>cases dE:gE y.op with|true=>exact .inl (.inr rfl)|false=>simp only[dR,dE,xbB]at s;cases cU:lS y.op with|false=>simp[cU]at s|true=>refine .inr ⟨rfl,?_⟩;simp only[cU,xbm]at s;cases M:y.dst with|none=>simp[M]at s|some d=>simp[M]at s;exact⟨d,rfl,s⟩
  have I:fl y.op=false:=by
   cases L:fl y.op with
   |false=>rfl
   |true=>
    obtain⟨a,b,c⟩:=xR L;rcases l with(e|e)|⟨e,_⟩;.rw[a]at e;cases e
    .rw[b]at e;cases e
    rw[c]at e;cases e
  unfold gR at h;split at h
  case h_2=>cases h
  rename_i aQ args lR ek;split at h
  case h_2=>cases h
  rename_i f pre post W;obtain⟨de,hC,R,je,jf,lQ,⟨eU,rfl⟩,lP,fB⟩:=h;have Q:cm P T G y K (ar.put ⟨au,objs⟩ x.dst (.d eU)):=fB eU rfl;rw[gS ab ae]at Q;cases g:res T G ⟨au,objs⟩ y with
  |none=>rw[km g]at Q;have:=rW Q;rw[I]at this;cases this
  |some p=>
   obtain⟨C,D⟩:=p;rw[jh g];have Z:bP.ext objs (cD objs D):=by
    rcases l with l|⟨l,_⟩;.rw[B6 g l];exact λ_ _ h=>h
    have m:e4 T (bD G au) objs (y.dst.getD 9999) y.op=some (C,D):=by unfold res at g;simp only[(mL (T:=T) (ev:=bD G au) (objs:=objs) l).1,(mL (T:=T) (ev:=bD G au) (objs:=objs) l).2]at g;exact g
    obtain⟨ix,b5,o,rfl⟩:=ub (objs':=λ_=>none) l rfl m;exact bP.B2 b5 o
   show cm P T G x K (ar.step ⟨au,objs⟩ y.dst C D);rw[j,gS ai E,km (o7 U)];unfold gR;rw[ek];simp only[W];refine⟨de,hC,_,ld (λx d ck=>Yq Z ck) _ _ je,jf,lQ,⟨eU,rfl⟩,lP,λr fg=>?_⟩;have b3:cm P T G y K (ar.put ⟨au,objs⟩ x.dst (.d r)):=fB r fg;rw[gS ab ae,jh g,j,put_comm E]at b3;exact b3
 |some p=>
  obtain⟨rx,w⟩:=p;rw[jh i,j,gS ab ae]at h;cases g:res T G ⟨au,cD objs w⟩ y with
  |none=>
   rw[km g]at h;have I:=rW h;obtain⟨ff,fs,gD⟩:=xR I;have ck:gm x.op=true\/gE x.op=true:=by simp only[pass,ff,fs,gD,I,Bool.or_false,xce,xbA,Bool.or_true]at s;cases dR:gm x.op with|true=>exact .inl rfl|false=>cases dE:gE x.op with|true=>exact .inr rfl|false=>cases L:fl x.op<;>simp[dR,dE,L]at s
   have H:=B6 i ck;subst H;rw[km (show res T G ⟨au,objs⟩ y=none from g)];refine xS h λr fg=>?_;rw[gS ai E,jh i,j,put_comm ae];exact fg
  |some p=>
   obtain⟨C,D⟩:=p;rw[jh g]at h;have S:ar.step ⟨au,cD objs w⟩ y.dst C D=ar.put ⟨au,cD (cD objs w) D⟩ y.dst C:=rfl;rw[S]at h;have k:∀{q:List (Key×b6)} {J:az},res T G ⟨au,objs⟩ y=some (J,q)->(∃B,res T G ⟨au,cD objs q⟩ x=some (rx,B)/\J=C/\cD (cD objs q) B=cD (cD objs w) D)->cm P T G y (λV=>cm P T G x K V) ⟨au,objs⟩:=by rintro q J cK ⟨B,cx,rfl,j0⟩;rw[jh cK];show cm P T G x K (ar.step ⟨au,objs⟩ y.dst J q);rw[j,gS ai E,jh cx];have:ar.step ⟨au,cD objs q⟩ x.dst rx B=ar.put ⟨au,cD (cD objs q) B⟩ x.dst rx:=rfl;rw[this,j0,put_comm ae];exact h
   by_cases n:gm x.op=true\/gE x.op=true
   .have H:=B6 i n;subst H;refine k g ⟨[],?_,rfl,rfl⟩;by_cases t:gm y.op=true\/gE y.op=true;.rw[B6 g t];exact i
    by_cases cA:gm x.op=true;.exact(NB i cA).1
    
    have l:lS y.op=true:=by
     rw[not_or]at t;have aG:gm x.op=false:=by simpa using cA
     have a2:gm y.op=false:=by simpa using t.1
     have a3:gE y.op=false:=by simpa using t.2
     simp only[pass,aG,a2,a3,xbB]at s;cases cU:lS y.op with|true=>rfl|false=>cases L:fl y.op with|false=>simp[cU,L]at s|true=>rw[o7 L]at g;cases g
    have m:e4 T (bD G au) objs (y.dst.getD 9999) y.op=some (C,D):=by have z:res T G ⟨au,objs⟩ y=some (C,D):=g;unfold res at z;simp only[(mL (T:=T) (ev:=bD G au) (objs:=objs) l).1,(mL (T:=T) (ev:=bD G au) (objs:=objs) l).2]at z;exact z
    obtain⟨ix,b5,o,rfl⟩:=ub (objs':=λ_=>none) l rfl m;exact YD (bP.B2 b5 o) i n
   rw[not_or]at n;have aG:gm x.op=false:=by simpa using n.1
   have a2:gE x.op=false:=by simpa using n.2
   have eW:fl x.op=false:=by cases L:fl x.op with|false=>rfl|true=>rw[o7 L]at i;cases i
   by_cases cC:gm y.op=true;.obtain⟨cK,cx⟩:=NB (objs':=objs) g cC;simp only at cx;subst cx;exact k cK ⟨w,i,rfl,rfl⟩
   have a3:gm y.op=false:=by simpa using cC
   simp only[pass,aG,a2,a3,eW,xbB,xce]at s;rw[xan]at s;obtain⟨l,M⟩:=s;have A:∃d,y.dst=some d/\d<9999:=by cases X:y.dst with|none=>simp[X]at M|some d=>simp[X]at M;exact⟨d,rfl,M⟩
   obtain⟨d,A,Y⟩:=A;have m:e4 T (bD G au) (cD objs w) (y.dst.getD 9999) y.op=some (C,D):=by unfold res at g;simp only[(mL (T:=T) (ev:=bD G au) (objs:=cD objs w) l).1,(mL (T:=T) (ev:=bD G au) (objs:=cD objs w) l).2]at g;exact g
   rw[A]at m;simp only[xbn]at m;obtain⟨_,b5,o,rfl⟩:=ub (objs':=λ_=>none) l rfl m;obtain⟨O,H⟩:=NA w b5;obtain⟨bX,_,_⟩:=ub (objs':=objs) l O m;have b0:res T G ⟨au,objs⟩ y=some (C,[(d,o)]):=by unfold res;simp only[(mL (T:=T) (ev:=bD G au) (objs:=objs) l).1,(mL (T:=T) (ev:=bD G au) (objs:=objs) l).2,A,xbn];exact bX
   have hex:e4 T (bD G au) objs (x.dst.getD 9999) x.op=some (rx,w):=by
    unfold res at i;simp only at i;split at i;.rename_i eI;exact absurd (YB eI) (by simp[aG,a2])
    split at i;.rename_i dD;exact absurd (YC dD) (by simp[aG,a2])
    exact i
   have F:x.dst.getD 9999≠d:=by cases F:x.dst with|none=>simp only[Option.getD_none];exact λe=>by rw[<-e]at Y;exact absurd Y (xcb _)|some e=>simp only[xbn];rintro rfl;exact ae e F A
   obtain⟨N,eV⟩:=Yt (T:=T) (ev:=bD G au) (bP.B2 O o) F O (λak=>by rw[ca _ _ F];exact ak) hex;refine k b0 ⟨w,?_,rfl,Ny w eV⟩;obtain⟨bS,cy⟩:=YA N (bL objs d (some o));show res T G ⟨au,bL objs d (some o)⟩ x=some (rx,w);unfold res;simp only[bS,cy];exact N
def lf{o:Oper}{σ:ar}{K K':ar->Prop}(a:∀σ,K σ->K' σ)(h:cm P T G o K σ):cm P T G o K' σ:=by
 unfold cm at*;split;.rename_i e;rw[e]at h;exact a _ h
 rename_i e;rw[e]at h;exact xS h λr b=>a _ b
def xT{o:Oper}{σ:ar}{K K':ar->Prop}(a:∀σ,K σ->K' σ)(h:da P T G all o K σ):da P T G all o K' σ:=by
 rw[ft]at*;split;.rename_i e;rw[e]at h;exact lf a h
 .rename_i e;rw[e]at h;exact a _ h
 rename_i e;rw[e]at h;exact h
def qo{o:Oper}{σ:ar}{K K':ar->Prop}(b:∀objs r,K (ar.put ⟨σ.au,objs⟩ o.dst r)->K' (ar.put ⟨σ.au,objs⟩ o.dst r))(h:cm P T G o K σ):cm P T G o K' σ:=by unfold cm at*;rw[qn]at*;cases a:res T G σ o with|none=>simp only[a,xbE]at h⊢;exact xS h λr a=>b σ.objs r a|some p=>simp only[a,xaI]at h⊢;exact b _ _ h
def swap{x y:Oper}{σ:ar}{K:ar->Prop}(k:x.apart all y=true)(o:pass x y=true)(h:da P T G all x (λc=>da P T G all y K c) σ):da P T G all y (λg=>da P T G all x K g) σ:=by
 obtain⟨aG,a2,a3⟩:=Oper.apart_spec k;have j:∀d,y.dst=some d->x.dst≠some d:=λd n f=>a2 d f n;rw[ft]at h;have p:∀(objs:bP)(r:az),hh all (ar.put ⟨σ.au,objs⟩ x.dst r) y=hh all σ y:=λobjs r=>by rw[kP aG];rfl
 have m:∀(objs:bP)(r:az),hh all (ar.put ⟨σ.au,objs⟩ y.dst r) x=hh all σ x:=λobjs r=>by rw[kP a3];rfl
 split at h
 .rename_i f;rw[ft];have a:cm P T G x (λc=>match hh all σ y with|some true=>cm P T G y K c|some false=>K (c.put y.dst (.d (.val (.tuple #[]))))|none=>False) σ:=by
   refine qo (λobjs r i=>?_) h;rw[ft,p]at i;exact i
  cases e:hh all σ y with
  |none=>
   simp only[e]at a;unfold cm at a;split at a;.exact a
   unfold gR at a;split at a
   .split at a;.obtain⟨_,_,_,_,_,_,⟨r,rfl⟩,_,q⟩:=a;exact q r rfl
    exact a
   exact a
  |some b=>
   cases b with
   |false=>
    simp only[e]at a;show da P T G all x K (σ.put y.dst (.d (.val (.tuple #[]))));rw[ft];have:hh all (σ.put y.dst (.d (.val (.tuple #[])))) x=some true:=by rw[kP a3];exact f
    simp only[this];rw[gS a3 j];exact a
   |true=>simp only[e]at a;have ae:=NC aG a2 a3 o a;show cm P T G y (λg=>da P T G all x K g) σ;refine qo (λobjs r i=>?_) ae;rw[ft,m,f];exact i
 .rename_i f;rw[ft,kP aG]at h;rw[ft];split at h
  .rename_i l
   try simp only[l]
   rw[gS aG a2]at h;refine qo (λobjs r i=>?_) h;rw[ft,m,f];exact i
  .rename_i l
   try simp only[l]
   show da P T G all x K (σ.put y.dst (.d (.val (.tuple #[]))));rw[ft,kP a3,f];show K _;rw[put_comm j];exact h
  exact h.elim
 exact h.elim
def YE{o:Oper}{σ:ar}{K K':ar->Prop}(h:cm P T G o K σ)(p:∀c r,c=σ.put o.dst (.d r)->K c->K' c)(n:fl o.op=true):cm P T G o K' σ:=by
 rw[km (o7 n)]at h⊢;unfold gR at*;split
 .rename_i x args g b;rw[b]at h;simp only at h;split;.rename_i f pre post a;simp only[a]at h;obtain⟨i,j,R,ab,ae,ai,k,l,m⟩:=h;exact⟨i,j,R,ab,ae,ai,k,l,λr q=>p _ r rfl (m r q)⟩
  rename_i a;simp only[a]at h
 rename_i b;split at h;.rename_i x args g e;exact absurd e (b x args g)
 exact h
def bP.low(objs objs':bP):Prop:=∀k o,objs k=some o->o≠ .dead->objs' k=some o
def ND{objs objs':bP}(h:objs.low objs'){x:az}{d:D}(ah:mJ objs x=some d):mJ objs' x=some d:=by
 unfold mJ at*;split at ah;.exact ah
 .split at ah;.rename_i a;rw[h _ _ a sZ];exact ah
  cases ah
 .split at ah;.rename_i a;rw[h _ _ a sZ];exact ah
  cases ah
 .split at ah;.rename_i a;rw[h _ _ a sZ];exact ah
  cases ah
 cases ah
def B7{objs objs':bP}(h:objs.low objs'){x:az}{d:D}(ah:j2 objs x=some d):j2 objs' x=some d:=by
 unfold j2 at*;split at ah
 .split at ah
  case h_2=>cases ah
  rename_i b;simp only[h _ _ b sZ];split at ah
  case h_2=>cases ah
  rename_i cs a;rw[ld (λx d c=>ND h c) _ _ a];exact ah
 .exact ah
 exact ND h ah
def NF{objs objs':bP}(h:objs.low objs'){x:az}{d:D}(ah:kO objs x=some d):kO objs' x=some d:=by
 unfold kO at*;split at ah
 .split at ah
  case h_2=>cases ah
  rename_i e c;rw[ld (λx d a=>B7 h a) _ _ c];exact ah
 .split at ah
  case h_2=>cases ah
  rename_i as dm has b;rw[ld (λx d a=>B7 h a) _ _ has,ld (λx d a=>B7 h a) _ _ b];exact ah
 exact B7 h ah
def YF{objs objs':bP}(h:objs.low objs'){x:az}{d:D}(ah:toD objs x=some d):toD objs' x=some d:=by
 unfold toD at*;split at ah
 .split at ah
  case h_2=>cases ah
  rename_i c a;rw[ld (λx d b=>NF h b) _ _ a];exact ah
 exact NF h ah
def NG{objs objs':bP}(h:objs.low objs'){x:az}{n:Nat}(ah:hB objs x=some n):hB objs' x=some n:=by
 unfold hB at*;split at ah;.exact ah
 .exact ah
 .split at ah;.rename_i a;rw[h _ _ a sZ];exact ah
  cases ah
 .exact ah
 cases ah
def YG{objs objs':bP}(h:objs.low objs'){x:az}{es:mW}(ah:lN objs x=some es):lN objs' x=some es:=by
 unfold lN at*;split at ah;.exact ah
 .exact ah
 .split at ah;.rename_i a;rw[h _ _ a sZ];exact ah
  cases ah
 .split at ah;.rename_i a;rw[h _ _ a sZ];exact ah
  cases ah
 cases ah
def B8{objs objs':bP}(h:objs.low objs'){x:az}{b:Bool}(ah:jw objs x=some b):jw objs' x=some b:=by
 unfold jw at*;split at ah;.exact ah
 .exact ah
 .split at ah;.rename_i a;rw[h _ _ a sZ];exact ah
  cases ah
 cases ah
def YH{T:bC}{ev:Operand->az}{objs objs':bP}(h:objs.low objs'){op:Op}{r:az}(d:cM T ev objs op=some r):cM T ev objs' op=some r:=by
 cases op<;>simp only[cM,reduceCtorEq]at d⊢
 case convert s t x=>
  split at d
  case h_2=>cases d
  rename_i m o;split at d
  case h_2=>cases d
  rename_i p;split at d
  case h_2=>cases d
  rename_i es l;simp only[YG h l];exact d
 case load t a=>
  split at d
  case h_2=>cases d
  split at d;.exact d
  .split at d
   case h_2=>cases d
   rename_i e;simp only[h _ _ e sZ];exact d
  .split at d
   case h_2=>cases d
   rename_i e;simp only[h _ _ e sZ];exact d
  cases d
 case indexAddr t x cN=>
  split at d
  .split at d
   case h_2=>cases d
   split at d
   case isFalse=>cases d
   rename_i ak;rw[xac ak];split at d;.exact d
   .split at d
    case h_2=>cases d
    rename_i e;simp only[h _ _ e sZ];exact d
   .exact d
   cases d
  .exact d
  cases d
 case slice t x lo ag ed=>
  cases ed with
  |some _=>simp[]at d
  |none=>
   simp only[]at d⊢;split at d
   case h_3=>cases d
   case h_2=>exact d
   split at d
   case h_2=>cases d
   split at d
   case h_2=>cases d
   rename_i n j;simp only[NG h j];split at d
   case h_2=>cases d
   split at d
   case isFalse=>cases d
   rename_i f;rw[xac f];split at d;.exact d
   .split at d
    case h_2=>cases d
    rename_i e;simp only[h _ _ e sZ];exact d
   .exact d
   cases d
 case call c=>
  split at d
  case h_2=>cases d
  split at d
  case h_2=>cases d
  split at d;.exact d
  .split at d
   case h_2=>cases d
   rename_i n j;simp only[NG h j];exact d
  .exact d
  .exact d
  .split at d
   case h_2=>cases d
   rename_i e;simp only[h _ _ e sZ];exact d
  cases d
 case lookup t x k ok=>
  split at d
  case h_2=>cases d
  split at d;.exact d
  .exact d
  .split at d
   case h_2=>cases d
   rename_i e;simp only[h _ _ e sZ];exact d
  cases d
 case binOp op t x y q=>
  split at d
  case h_2=>cases d
  split at d
  .split at d
   .rename_i f;rw[xac f];split at d
    case h_2=>cases d
    rename_i b g;simp only[B8 h g];exact d
   rename_i f;rw[xab f];split at d
   case isFalse=>cases d
   rename_i i;rw[xac i];split at d
   case h_2=>cases d
   rename_i b g;simp only[B8 h g];exact d
  .split at d
   .rename_i f;rw[xac f];split at d
    case h_2=>cases d
    rename_i b g;simp only[B8 h g];exact d
   rename_i f;rw[xab f];split at d
   case isFalse=>cases d
   rename_i i;rw[xac i];split at d
   case h_2=>cases d
   rename_i b g;simp only[B8 h g];exact d
  cases d
def xU(T:bC)(x:Oper):Bool:=match x.op with| .buildSlice _ _ _=>T.born (x.dst.getD 9999)|_=>false
def rX(T:bC)(x y:Oper):Bool:=pass x y||(fl x.op&&fl y.op)||(xU T x&&(fl y.op||gE y.op))
def YI{x:Oper}{σ:ar}(c:xU T x=true){p:az×List (Key×b6)}(h:res T G σ x=some p):σ.objs (x.dst.getD 9999)=none/\p.2=[(x.dst.getD 9999,.dead)]:=by
 unfold xU at c;split at c
 case h_2=>cases c
 rename_i t n parts a;have g:lS x.op=true:=by rw[a];rfl
 obtain⟨d,f⟩:=mL (T:=T) (ev:=bD G σ.au) (objs:=σ.objs) g;unfold res at h;rw[d,f]at h;obtain⟨q,ab,ae⟩:=qi h;rw[a]at ab;simp only[c7]at ab;split at ab
 case h_2=>cases ab
 rename_i e s b z i ak;split at ab
 case h_2=>cases ab
 split at ab
 case h_2=>cases ab
 split at ab
 case isFalse=>cases ab
 cases ab;refine⟨ak,?_⟩;rw[<-ae];simp[mH,c]
def YJ{x y:Oper}{σ:ar}{K:ar->Prop}(ab:∀d,x.dst=some d->d∉y.looksAt all)(ae:∀d,x.dst=some d->y.dst≠some d)(ai:∀d,y.dst=some d->d∉x.looksAt all)(c:fl x.op=true)(e:fl y.op=true\/False) (h:cm P T G x (λm=>cm P T G y K m) σ):cm P T G y (λn=>cm P T G x K n) σ:=by
 have i:∀d,y.dst=some d->x.dst≠some d:=λd p u=>ae d u p;have k:fl y.op=true:=e.resolve_right id;rw[km (o7 c)]at h;unfold gR at h;split at h
 case h_2=>cases h
 rename_i aQ args D j;split at h
 case h_2=>cases h
 rename_i f pre post a;obtain⟨g,o,R,w,z,A,⟨l,rfl⟩,B,C⟩:=h;have b:cm P T G y K (ar.put σ x.dst (.d l)):=C l rfl;rw[gS ab ae]at b;refine YE b (λE r q s=>?_) k;subst q;rw[gS ai i,km (o7 c)];unfold gR;rw[j];simp only[a];refine⟨g,o,_,w,z,A,⟨l,rfl⟩,B,λr t=>?_⟩;subst t;rw[put_comm ae];exact s
def YK{x y:Oper}{σ:ar}{K:ar->Prop}(ab:∀d,x.dst=some d->d∉y.looksAt all)(ae:∀d,x.dst=some d->y.dst≠some d)(ai:∀d,y.dst=some d->d∉x.looksAt all)(c:xU T x=true)(C:fl y.op=true\/gE y.op=true) (h:cm P T G x (λD=>cm P T G y K D) σ):cm P T G y (λE=>cm P T G x K E) σ:=by
 have m:∀d,y.dst=some d->x.dst≠some d:=λd I A=>ae d A I;cases b:res T G σ x with
 |none=>
  rw[km b]at h;have:=rW h;unfold xU at c;split at c
  .rename_i q;rw[q]at this;cases this
  cases c
 |some p=>
  obtain⟨rx,Y⟩:=p;obtain⟨Z,hu⟩:=YI c b;simp only at hu;subst hu;rw[jh b]at h;have a:cm P T G y K (ar.put ⟨σ.au,cD σ.objs [(x.dst.getD 9999,.dead)]⟩ x.dst rx):=h;rw[gS ab ae]at a;have g:bP.low (cD σ.objs [(x.dst.getD 9999,.dead)]) σ.objs:=by
   intro k o w L;simp only[cD]at w;by_cases e:k=x.dst.getD 9999;.subst e;rw[dw]at w;cases w;exact absurd rfl L
   rwa [ca _ _ e]at w
  rcases C with t|u
  case inr=>
   have B:fl y.op=false:=by cases H:fl y.op with|false=>rfl|true=>have:=(xR H).2.1;rw[u]at this;cases this
   have key:∀p,res T G ⟨σ.au,cD σ.objs [(x.dst.getD 9999,.dead)]⟩ y=some p->p.2=[]/\res T G σ y=some p:=by
    intro p i;have J:∀objs d,e4 T (bD G σ.au) objs d y.op=none:=λobjs d=>ua u;unfold res at i⊢;cases s:dk T (bD G σ.au) y.op with
    |some r=>simp only[s]at i⊢;cases i;exact⟨rfl,rfl⟩
    |none=>
     simp only[s]at i⊢;cases j:cM T (bD G σ.au) (cD σ.objs [(x.dst.getD 9999,.dead)]) y.op with
     |none=>simp only[j,J]at i;cases i
     |some r=>simp only[j]at i;cases i;rw[YH g j];exact⟨rfl,rfl⟩
   cases l:res T G ⟨σ.au,cD σ.objs [(x.dst.getD 9999,.dead)]⟩ y with
   |none=>rw[km l]at a;have:=rW a;rw[B]at this;cases this
   |some p=>obtain⟨W,bX⟩:=p;obtain⟨bS,cy⟩:=key _ l;simp only at bS;subst bS;rw[jh l]at a;rw[jh cy];show cm P T G x K (ar.put σ y.dst W);rw[gS ai m,jh b];unfold ar.step;rw[put_comm ae];exact a
  rw[km (o7 t)]at a;rw[km (o7 t)];unfold gR at a⊢;split at a
  case h_2=>cases a
  rename_i aQ args X q;split at a
  case h_2=>cases a
  rename_i f pre post n;obtain⟨z,F,R,N,O,Q,⟨V,rfl⟩,S,U⟩:=a;simp only[n];refine⟨z,F,_,ld (λx d A=>YF g A) _ _ N,O,Q,⟨V,rfl⟩,S,λr M=>?_⟩;subst M;have:=U r rfl;rw[gS ai m,jh b];unfold ar.step;rw[put_comm ae];exact this
def YL{x y:Oper}{σ:ar}{K:ar->Prop}(ab:∀d,x.dst=some d->d∉y.looksAt all)(ae:∀d,x.dst=some d->y.dst≠some d)(ai:∀d,y.dst=some d->d∉x.looksAt all)(a:rX T x y=true) (h:cm P T G x (λb=>cm P T G y K b) σ):cm P T G y (λc=>cm P T G x K c) σ:=by
 unfold rX at a;rw[xbk,xbk]at a;rcases a with(a|a)|a
 .exact NC ab ae ai a h
 .rw[xan]at a;exact YJ ab ae ai a.1 (.inl a.2) h
 rw[xan,xbk]at a;exact YK ab ae ai a.1 a.2 h
def swapT{x y:Oper}{σ:ar}{K:ar->Prop}(k:x.apart all y=true)(o:rX T x y=true)(h:da P T G all x (λc=>da P T G all y K c) σ):da P T G all y (λg=>da P T G all x K g) σ:=by
 obtain⟨aG,a2,a3⟩:=Oper.apart_spec k;have j:∀d,y.dst=some d->x.dst≠some d:=λd n f=>a2 d f n;rw[ft]at h;have p:∀(objs:bP)(r:az),hh all (ar.put ⟨σ.au,objs⟩ x.dst r) y=hh all σ y:=λobjs r=>by rw[kP aG];rfl
 have m:∀(objs:bP)(r:az),hh all (ar.put ⟨σ.au,objs⟩ y.dst r) x=hh all σ x:=λobjs r=>by rw[kP a3];rfl
 split at h
 .rename_i f;rw[ft];have a:cm P T G x (λc=>match hh all σ y with|some true=>cm P T G y K c|some false=>K (c.put y.dst (.d (.val (.tuple #[]))))|none=>False) σ:=by
   refine qo (λobjs r i=>?_) h;rw[ft,p]at i;exact i
  cases e:hh all σ y with
  |none=>
   simp only[e]at a;unfold cm at a;split at a;.exact a
   unfold gR at a;split at a
   .split at a;.obtain⟨_,_,_,_,_,_,⟨r,rfl⟩,_,q⟩:=a;exact q r rfl
    exact a
   exact a
  |some b=>
   cases b with
   |false=>
    simp only[e]at a;show da P T G all x K (σ.put y.dst (.d (.val (.tuple #[]))));rw[ft];have:hh all (σ.put y.dst (.d (.val (.tuple #[])))) x=some true:=by rw[kP a3];exact f
    simp only[this];rw[gS a3 j];exact a
   |true=>simp only[e]at a;have ae:=YL aG a2 a3 o a;show cm P T G y (λg=>da P T G all x K g) σ;refine qo (λobjs r i=>?_) ae;rw[ft,m,f];exact i
 .rename_i f;rw[ft,kP aG]at h;rw[ft];split at h
  .rename_i l
   try simp only[l]
   rw[gS aG a2]at h;refine qo (λobjs r i=>?_) h;rw[ft,m,f];exact i
  .rename_i l
   try simp only[l]
   show da P T G all x K (σ.put y.dst (.d (.val (.tuple #[]))));rw[ft,kP a3,f];show K _;rw[put_comm j];exact h
  exact h.elim
 exact h.elim
def fm(P:Program)(T:bC)(G:cj)(all:Array Oper)(i:Nat)(K:ar->Prop)(σ:ar):Prop:=match all[i]? with|none=>K σ|some o=>da P T G all o K σ
def qp{i:Nat}{σ:ar}{K K':ar->Prop}(a:∀σ,K σ->K' σ)(h:fm P T G all i K σ):fm P T G all i K' σ:=by
 unfold fm at*;split;.rename_i e;simp only[e]at h;exact a _ h
 rename_i o e;simp only[e]at h;exact xT a h
def gf(P:Program)(T:bC)(G:cj)(all:Array Oper)(K:ar->Prop):Nat->Array Bool->ar->Prop
 |0,listed,σ=>Region.ready .any all listed=[]/\K σ|fuel+1,listed,σ=>(Region.ready .any all listed=[]->K σ)/\∀i∈Region.ready .any all listed,fm P T G all i (gf P T G all K fuel (listed.setIfInBounds i true)) σ
def B9{K:ar->Prop}{i:Nat}{x:Oper}(ag:all[i]?=some x){B:lX}(N:∀j l,j∈B->all[j]?=some l->∃e∈l.after,Region.binds .any e=true/\(e.on=i\/e.on∈B)):∀(fuel:Nat)(listed:Array Bool)(σ:ar),(∀j,j∈B->listed.getD j true=false)->(∀j l,all[j]?=some l->j≠i->listed.getD j true=false->j∉B->x.apart all l=true/\rX T x l=true)->i∈Region.ready .any all listed->(¬∃L,K L)\/True->fm P T G all i (gf P T G all K fuel (listed.setIfInBounds i true)) σ->gf P T G all K (fuel+1) listed σ:=by
 intro fuel
 induction fuel with
 |zero=>
  intro listed σ d b s _ H;refine⟨λh=>(by rw[h]at s;cases s),λj z=>?_⟩;by_cases a:j=i;.subst a;exact H
  have M:=ready_mono z a;exfalso;have key:Region.ready .any all (listed.setIfInBounds i true)=[]:=by
   unfold fm at H;simp only[ag]at H;rw[ft]at H;split at H
   .unfold cm at H;split at H;.exact H.1
    unfold gR at H;split at H
    .split at H;.obtain⟨_,_,_,_,_,_,⟨r,I⟩,_,q⟩:=H;exact(q r (by rw[I])).1
     exact H.elim
    exact H.elim
   .exact H.1
   exact H.elim
  rw[key]at M;cases M
 |succ fuel ih=>
  intro listed σ d b s _ H;refine⟨λh=>(by rw[h]at s;cases s),λj z=>?_⟩;by_cases a:j=i;.subst a;exact H
  obtain⟨m,l,p,u⟩:=xbW.1 z;have o:∀k,listed.getD k true=false->listed[k]?.getD false=true->False:=λk ak ab=>by
   rcases xbe k listed.size with C|C;.simp[C]at ak ab;rw[ak]at ab;cases ab
   simp[Array.getElem?_eq_none C]at ab
  have n:j∉B:=λD=>by
   obtain⟨e,Q,O,c⟩:=N j l D p;have ab:=u e Q O;rcases c with c|c
   .rw[c]at ab;exact o i (xbW.1 s).1 (by simpa using ab)
   exact o _ (d _ c) (by simpa using ab)
  obtain⟨R,S⟩:=b j l p a m n;have ab:fm P T G all i (λy=>fm P T G all j (gf P T G all K fuel ((listed.setIfInBounds i true).setIfInBounds j true)) y) σ:=qp (λy J=>J.2 j (ready_mono z a)) H;have ae:fm P T G all j (λt=>fm P T G all i (gf P T G all K fuel ((listed.setIfInBounds i true).setIfInBounds j true)) t) σ:=by unfold fm at ab⊢;simp only[ag,p]at ab⊢;exact swapT R S ab
  have f:∀k ok,all[k]?=some ok->k≠i->(listed.setIfInBounds j true).getD k true=false->k∉B->x.apart all ok=true/\rX T x ok=true:=λk ok A E w F=>by
   refine b k ok A E ?_ F;by_cases g:j=k;.subst g;exact m
   rw[getD_set_ne true g]at w;exact w
  refine qp (λt ai=>ih (listed.setIfInBounds j true) t (λk A=>by
   have g:j≠k:=by rintro rfl;exact n A
   rw[getD_set_ne true g];exact d k A) f (ready_mono s (xbZ a)) (.inr trivial) ?_) ae
  rw[Array.setIfInBounds_comm _ _ a];exact ai
theorem NH{K:ar->Prop}{i:Nat}{g:Oper}(ag:all[i]?=some g){B:lX}(m:∀j f,j∈B->all[j]?=some f->∃e∈f.after,Region.binds .any e=true/\(e.on=i\/e.on∈B))(fuel:Nat)(listed:Array Bool)(σ:ar) (ak:∀j,j∈B->listed.getD j true=false) (l:∀j f,all[j]?=some f->j≠i->listed.getD j true=false->j∉B->g.apart all f=true/\pass g f=true) (n:i∈Region.ready .any all listed) (o:(¬∃k,K k)\/True) (h:fm P T G all i (gf P T G all K fuel (listed.setIfInBounds i true)) σ):gf P T G all K (fuel+1) listed σ:=B9 ag m fuel listed σ ak (λj f a b c d=>⟨(l j f a b c d).1,by unfold rX;rw[(l j f a b c d).2];rfl⟩) n o h
def waits(all:Array Oper)(i:Nat):lX:=(List.range all.size).foldl (λa j=>match all[j]? with
  |some b=>if b.after.any (λe=>Region.binds .any e&&(e.on==i||a.contains e.on))then a++[j]else a
  |none=>a) []
def Ca(p:Oper->Oper->Bool)(all:Array Oper)(listed:Array Bool)(i:Nat)(B:lX):Bool:=match all[i]? with|none=>false|some b=>(B.all λj=>!listed.getD j true&&match all[j]? with|some a=>a.after.any λe=>Region.binds .any e&&(e.on==i||B.contains e.on)|none=>false)&&(List.range all.size).all λj=>j==i||listed.getD j true||B.contains j||match all[j]? with|some a=>b.apart all a&&p b a|none=>true
def NI(all:Array Oper)(listed:Array Bool)(i:Nat)(B:lX):Bool:=Ca pass all listed i B
def NJ(all:Array Oper)(listed:Array Bool)(i:Nat):Bool:=NI all listed i (waits all i)
def HQ(T:bC)(all:Array Oper)(listed:Array Bool)(i:Nat):Bool:=Ca (rX T) all listed i (waits all i)
def Cb{p:Oper->Oper->Bool}{i:Nat}{l:Oper}{listed:Array Bool}(ag:all[i]?=some l){B:lX}(h:Ca p all listed i B=true):(∀j b,j∈B->all[j]?=some b->∃e∈b.after,Region.binds .any e=true/\(e.on=i\/e.on∈B))/\(∀j,j∈B->listed.getD j true=false)/\ ∀j b,all[j]?=some b->j≠i->listed.getD j true=false->j∉B->l.apart all b=true/\p l b=true:=by
 simp only[Ca,ag,xan,xay,xbU]at h;refine⟨λj b d a=>?_,λj d=>by simpa using(h.1 j d).1,λj b a f k g=>?_⟩;.have ab:=(h.1 j d).2;simp only[a]at ab;obtain⟨e,m,c⟩:=Array.any_eq_true'.1 ab;simp only[xan,xbk,xbQ,List.contains_iff_mem]at c;exact⟨e,m,c.1,c.2⟩
 have ab:=h.2 j (xaN.1 a).1;simp only[a,xbk,xbQ,f,false_or,k,xaq,xan,List.contains_iff_mem,g]at ab;exact ab
def NK{i:Nat}{b:Oper}{listed:Array Bool}(ag:all[i]?=some b){B:lX}(h:NI all listed i B=true):(∀j a,j∈B->all[j]?=some a->∃e∈a.after,Region.binds .any e=true/\(e.on=i\/e.on∈B))/\(∀j,j∈B->listed.getD j true=false)/\ ∀j a,all[j]?=some a->j≠i->listed.getD j true=false->j∉B->b.apart all a=true/\pass b a=true:=Cb ag h
def qq(T:bC)(all:Array Oper):lX->Array Bool->Bool
 |[],listed=>(Region.ready .any all listed).isEmpty|i::r,listed=>(Region.ready .any all listed).contains i&&HQ T all listed i&&qq T all r (listed.setIfInBounds i true)
def uc(P:Program)(T:bC)(G:cj)(all:Array Oper):lX->(ar->Prop)->ar->Prop
 |[],K,σ=>K σ|i::r,K,σ=>match all[i]? with|some o=>da P T G all o (uc P T G all r K) σ|none=>False
def HR{K:ar->Prop}:∀(ord:lX)(listed:Array Bool)(σ:ar),qq T all ord listed=true->uc P T G all ord K σ->gf P T G all K ord.length listed σ
 |[],listed,σ,a,h=>⟨by simpa[qq]using a,h⟩
 |i::r,listed,σ,a,h=>by
  simp only[qq,xan]at a;obtain⟨⟨f,e⟩,b⟩:=a;unfold uc at h;split at h
  case h_2=>cases h
  rename_i o ag;obtain⟨g,j,k⟩:=Cb ag e;refine B9 ag g r.length listed σ j k (by simpa using f) (.inr trivial) ?_;unfold fm;simp only[ag];exact xT (λd c=>HR r _ d b c) h
def HS{m:Mem}{fr:dr}{N:Nat}(x:cV P T){K:ar->Prop}{Q:Exit->Act->World->Prop}(c:∀o∈all,∀d,o.dst=some d->d<N):∀(fuel:Nat)(listed:Array Bool)(m:Mem)(ρ:cp)(σ:ar)(a:Act)(w:World),gk G m->Den m fr ρ σ a w->N<=a.tmps.size->a.defers=[]->gf P T G all K fuel listed σ->(∀j w',gz N m fr ρ σ K j w'->Q .normal j w')->wpAny P .any all Q fuel listed a w
 |0,listed,m,ρ,σ,a,w,p,h,k,b,e,l=>⟨e.1,l a w ⟨σ,m,ρ,e.2,Mem.le_refl m,h,k,b,ia.refl _ _⟩⟩|fuel+1,listed,m,ρ,σ,a,w,p,h,k,b,e,l=>by refine⟨λak=>l a w ⟨σ,m,ρ,e.1 ak,Mem.le_refl m,h,k,b,ia.refl _ _⟩,λi ag=>?_⟩;have ab:=e.2 i ag;obtain⟨_,o,q,_⟩:=xbW.1 ag;unfold fm at ab;simp only[q]at ab;refine wpOp_mono ?_ (HO x p h k b q (c o (Array.mem_of_getElem? q)) ab);rintro j w' ⟨u,z,t,H,y,I,J,L,M⟩;refine HS (m:=m) x c fuel _ z t u j w' (p.mono y) I J L H ?_;rintro n s ⟨g,r,f,A,B,C,D,E,F⟩;exact l n s ⟨g,r,f,A,Mem.le_trans y B,C,D,E,M.trans F⟩
end
def eX(σ τ:ar):Prop:=∀m fr ρ a w,Den m fr ρ σ a w->∃c b,m.le c/\Den c fr b τ a w/\ia σ ρ τ b
def eX.refl(σ:ar):eX σ σ:=λm fr ρ a w h=>⟨m,ρ,Mem.le_refl m,h,ia.refl _ _⟩
def eX.trans{σ τ d:ar}(h:eX σ τ)(e:eX τ d):eX σ d:=λm fr ρ a w hD=>
 let⟨m1,b,ab,ae,ai⟩:=h m fr ρ a w hD
 let⟨m2,c,f,g,i⟩:=e m1 fr b a w ae
 ⟨m2,c,Mem.le_trans ab f,g,ai.trans i⟩
def fh(P:Program)(T:bC)(G:cj)(N:Nat)(c:Code)(σ:ar)(Q:Exit->ar->Prop):Prop:= ∀m fr ρ a w,gk G m->Den m fr ρ σ a w->N<=a.tmps.size->a.defers=[]->c.wp P (λe b w'=>gz N m fr ρ σ (Q e) b w') a w
def Cc(K:ar->Prop)(Q:Exit->ar->Prop):Exit->ar->Prop
 | .normal,σ=>K σ|e,σ=>Q e σ
def xV(id:Nat)(Q:Exit->ar->Prop):Exit->ar->Prop
 | .exit a,σ=>if a=id then Q .normal σ else Q (.exit a) σ
 |e,σ=>Q e σ
section
variable{P:Program}{T:bC}{G:cj}{N:Nat}{σ:ar}{Q:Exit->ar->Prop}
def gz.mono{m:Mem}{fr:dr}{ρ:cp}{K K':ar->Prop}(d:∀σ,K σ->K' σ){a:Act}{w:World}(h:gz N m fr ρ σ K a w):gz N m fr ρ σ K' a w:=
 let⟨c,e,b,ab,ae⟩:=h;⟨c,e,b,d _ ab,ae⟩
def ud{c:Code}{b:Exit->ar->Prop}(h:fh P T G N c σ Q)(i:∀e σ,Q e σ->b e σ):fh P T G N c σ b:=λm fr ρ a w d hD f g=>wp_mono (h m fr ρ a w d hD f g) λe k w' j=>j.mono (i e)
def YM(h:Q .normal σ):fh P T G N .skip σ Q:=λm fr ρ a w d hD b c=>wp_skip ⟨σ,m,ρ,h,Mem.le_refl m,hD,b,c,ia.refl _ _⟩
def YN{l:Nat}(h:Q .normal σ):fh P T G N (.label l) σ Q:=λm fr ρ a w d hD b c=>wp_label ⟨σ,m,ρ,h,Mem.le_refl m,hD,b,c,ia.refl _ _⟩
def YO{id:Nat}(h:Q (.exit id) σ):fh P T G N (.exit id) σ Q:=λm fr ρ a w d hD b c=>wp_exit ⟨σ,m,ρ,h,Mem.le_refl m,hD,b,c,ia.refl _ _⟩
def YP(h:Q .ret σ):fh P T G N .ret σ Q:=λm fr ρ a w d hD b c=>wp_ret ⟨σ,m,ρ,h,Mem.le_refl m,hD,b,c,ia.refl _ _⟩
def gz.trans{m m1:Mem}{fr:dr}{ρ b:cp}{c:ar}{K:ar->Prop}{a:Act}{w:World}(k:m.le m1)(j:ia σ ρ c b)(h:gz N m1 fr b c K a w):gz N m fr ρ σ K a w:=
 let⟨e,l,d,ab,ae,ai,f,g,i⟩:=h;⟨e,l,d,ab,Mem.le_trans k ae,ai,f,g,j.trans i⟩
def YQ{x y:Code}(h:fh P T G N x σ (Cc (λb=>fh P T G N y b Q) Q)):fh P T G N (.seq x y) σ Q:=by intro m fr ρ a w k hD p q;refine wp_seq (wp_mono (h m fr ρ a w k hD p q) ?_);rintro e n w' ⟨b,j,d,ab,ae,ai,f,g,i⟩;cases e with|normal=>exact wp_mono (ab j fr d n w' (k.mono ae) ai f g) λe o s r=>r.trans ae i|exit id=>exact⟨b,j,d,ab,ae,ai,f,g,i⟩|goto l=>exact⟨b,j,d,ab,ae,ai,f,g,i⟩|ret=>exact⟨b,j,d,ab,ae,ai,f,g,i⟩|panic c=>exact⟨b,j,d,ab,ae,ai,f,g,i⟩|outgrown=>exact⟨b,j,d,ab,ae,ai,f,g,i⟩
def YR(Q:Exit->ar->Prop):Exit->ar->Prop
 | .goto _,_=>False|e,σ=>Q e σ
def YS{c:Code}(h:fh P T G N c σ (YR Q)):fh P T G N (.scope c) σ Q:=by intro m fr ρ a w k hD n o;refine wp_scope_straight (wp_mono (h m fr ρ a w k hD n o) ?_);rintro e p w' ⟨d,j,b,ab,ae,ai,f,g,i⟩;cases e with|goto l=>exact ab.elim|normal=>exact⟨d,j,b,ab,ae,ai,f,g,i⟩|exit id=>exact⟨d,j,b,ab,ae,ai,f,g,i⟩|ret=>exact⟨d,j,b,ab,ae,ai,f,g,i⟩|panic c=>exact⟨d,j,b,ab,ae,ai,f,g,i⟩|outgrown=>exact⟨d,j,b,ab,ae,ai,f,g,i⟩
def Cd{c:Operand}{x y:Code}{b:Bool}(j:bD G σ.au c= .d (.val (.bool b)))(h:if b=true then fh P T G N x σ Q else fh P T G N y σ Q):fh P T G N (.cond c x y) σ Q:=by
 intro m fr ρ a w e hD f g;have i:=xK (a:=a) e hD.au c;rw[j]at i;refine wp_cond i.fq ?_;cases b
 .exact h m fr ρ a w e hD f g
 exact h m fr ρ a w e hD f g
def YT{id:Nat}{c:Code}(h:fh P T G N c σ (xV id Q)):fh P T G N (.block id c) σ Q:=by
 intro m fr ρ a w g hD i j;refine wp_block (wp_mono (h m fr ρ a w g hD i j) ?_);intro e k w' b;cases e with
 |exit f=>
  simp only[Exit.inBlock];by_cases ag:f=id;.rw[xac ag];exact b.mono λσ d=>by simp only[xV,ag,xaD]at d;exact d
  rw[xab ag];exact b.mono λσ d=>by simp only[xV,ag,xaG]at d;exact d
 |normal=>exact b|goto l=>exact b|ret=>exact b|panic c=>exact b|outgrown=>exact b
def HT{τ:ar}{c:Code}(i:eX σ τ)(h:fh P T G N c τ Q):fh P T G N c σ Q:=by intro m fr ρ a w d hD f g;obtain⟨k,b,ab,ae,ai⟩:=i m fr ρ a w hD;exact wp_mono (h k fr b a w (d.mono ab) ae f g) λe l w' j=>j.trans ab ai
def qs(N:Nat)(ops:Array Oper):Bool:=ops.toList.all λo=>match o.dst with|some d=>decide (d<N)|none=>true
def o8{ops:Array Oper}(h:qs N ops=true):∀o∈ops,∀d,o.dst=some d->d<N:=by intro o b d a;have:=xay.1 h o (by simpa using b);simp only[a]at this;simpa using this
theorem Den.drew{m:Mem}{fr:dr}{ρ:cp}{a:Act}{w:World}(h:Den m fr ρ σ a w)(n:Nat):Den m fr ρ σ a {w with drawn:=n}:=by refine⟨h.mem,⟨h.frame.iv,h.frame.quiet.same rfl rfl rfl⟩,h.apart,h.one,h.au,?_,h.own,h.sep⟩;intro k o c;exact(h.objs k o c).mono (Mem.le_refl m) (λ_ hu=>⟨hu,rfl⟩) (λb _ _=>rfl)
def YU(j:cV P T)(l:P.follows .mixedOrders=true){id:Nat}{ops:Array Oper}(i:qs N ops=true)(ord:lX)(b:ord.length=ops.size)(c:qq T ops ord (Array.replicate ops.size false)=true) (h:uc P T G ops ord (Q .normal) σ):fh P T G N (.region id ops true) σ Q:=by intro m fr ρ a w g hD d k;refine wp_region_any l ?_;have ab:=HR ord (Array.replicate ops.size false) σ c h;rw[b]at ab;exact HS (m:=m) (fr:=fr) (N:=N) (Q:=λe f w'=>gz N m fr ρ σ (Q e) f w') j (o8 i) ops.size _ m ρ σ a _ g (hD.drew _) d k ab (λf w' n=>n)
def YV{ι:Type}{c:Code}{Q:Exit->Act->World->Prop}{a:Act}{w:World}(dy:ι->Act->World->Prop)(y:ι->Nat)(i0:ι)(t:dy i0 a w) (round:∀i a w,dy i a w->c.wp P (Exit.then (λq w'=>∃j,dy j q w'/\y j<y i) Q) a w):(Code.loop c).wp P Q a w:=by
 intro b k cs;have key:∀n i a w,y i=n->dy i a w->∃e q w',Q e q w'/\Arrives P (lone (b.at a (.code c:: .inLoop c::k)) cs w) b k cs e q w':=by
  intro n
  induction n using Nat.strongRecOn with
  |_ n ih=>
   intro i a w B A;obtain⟨e,f,g,m,d⟩:=round i a w A b (.inLoop c::k) cs;cases e with
   |normal=>obtain⟨j,o,z⟩:=m;obtain⟨s,r,u,p,h⟩:=ih (y j) (B▸z) j f g rfl o;exact⟨s,r,u,p,.of_steps (Steps.trans d (.one step_inLoop)) h⟩
   |exit id=>exact⟨_,f,g,m,.pass (x:= .inLoop c) rfl (λ_ _=> .inl sZ) d⟩|goto l=>exact⟨_,f,g,m,.pass (x:= .inLoop c) rfl (λ_ _=> .inl sZ) d⟩|ret=>exact⟨_,f,g,m,.pass (x:= .inLoop c) rfl (λ_ _=> .inl sZ) d⟩|panic xW=>exact⟨_,f,g,m,.pass (x:= .inLoop c) rfl (λ_ _=> .inl sZ) d⟩|outgrown=>exact⟨_,f,g,m,.pass (x:= .inLoop c) rfl (λ_ _=> .inl sZ) d⟩
 obtain⟨e,q,w',m,d⟩:=key _ i0 a w rfl t;exact⟨e,q,w',m,.of_steps (.one step_loop) d⟩
def YW{ι:Type}{c:Code}(dy:ι->ar)(n:ι->Nat)(i0:ι)(ak:eX σ (dy i0)) (round:∀i,fh P T G N c (dy i) (Cc (λg=>∃j,eX g (dy j)/\n j<n i) Q)):fh P T G N (.loop c) σ Q:=by
 intro m fr ρ a w t hD u x;refine YV (λi a w=>∃m1 d,m.le m1/\Den m1 fr d (dy i) a w/\N<=a.tmps.size/\a.defers=[]/\ia σ ρ (dy i) d) n i0 ?_ ?_;.obtain⟨k,f,ab,ae,ai⟩:=ak m fr ρ a w hD;exact⟨k,f,ab,ae,u,x,ai⟩
 rintro i aG D ⟨m1,d,g1,g2,g3,g4,g5⟩;refine wp_mono (round i m1 fr d aG D (t.mono g1) g2 g3 g4) ?_;intro e p w' z;have b:=z.trans g1 g5;cases e with
 |normal=>obtain⟨g,k,f,⟨j,y,h⟩,ae,ai,q,r,s⟩:=b;obtain⟨m2,o,A,B,C⟩:=y k fr f p w' ai;exact⟨j,⟨m2,o,Mem.le_trans ae A,B,q,r,s.trans C⟩,h⟩
 |exit id=>exact b|goto l=>exact b|ret=>exact b|panic c=>exact b|outgrown=>exact b
def rY(T:bC)(σ:ar):ResultVar->Option az
 | .tmp t=>some (σ.au t)
 | .cell a t=>match T t,σ.au a with
  |some i,.ptr k off=>match σ.objs k with|some (.box cells)=>qe i cells off|_=>none
  |_,_=>none
def mM(T:bC)(σ:ar)(a:List ResultVar):Option az:=match fk (a.map (rY T σ))with|some [x]=>some x|some l=>some (.aB l)|none=>none
def YX(p:cV P T){m:Mem}{fr:dr}{ρ:cp}{a:Act}{w:World}(h:Den m fr ρ σ a w){g:ResultVar}{x:az}(c:rY T σ g=some x): ∃v,((match g with| .tmp t=>pure (a.tmps.getD t undef)| .cell d t=>do loadVar t (<-asAddr (a.tmps.getD d undef)):Sem Value)).run P w= .ok v w/\bz m ρ σ.used x v:=by
 cases g with
 |tmp t=>simp only[rY,xaE]at c;subst c;exact⟨_,rfl,h.au t⟩
 |cell d t=>
  simp only[rY]at c;split at c
  case h_2=>cases c
  rename_i i k off s aj;split at c
  case h_2=>cases c
  rename_i cells q;have e:=h.au d;rw[aj]at e;generalize f:a.tmps.getD d undef=u at e;cases e with|ptr _ _ b hu r=>
  obtain⟨b',vs,y,j,l,n,o⟩:=h.objs _ _ q;rw[r]at j;cases j;obtain⟨v,c3,df⟩:=MV (P:=P) p s l ⟨n,o⟩ c;exact⟨v,by simp only[f,asAddr,xai,xaz,xaf,c3],df⟩
def NL(f:cV P T){m:Mem}{fr:dr}{ρ:cp}{a:Act}{w:World}(h:Den m fr ρ σ a w):∀(d:List ResultVar)(c:List az),fk (d.map (rY T σ))=some c-> ∃vs:List Value,(d.mapM λ
   | .tmp t=>pure (a.tmps.getD t undef)| .cell g t=>do loadVar t (<-asAddr (a.tmps.getD g undef)):Sem (List Value)).run P w= .ok vs w/\vs.length=c.length/\∀(i:Nat)(x:az)(v:Value),c[i]?=some x->vs[i]?=some v->bz m ρ σ.used x v
 |[],c,b=>by simp[fk]at b;subst b;exact⟨[],by simp,rfl,by simp⟩
 |o::d,c,b=>by
  simp only[xaw]at b;cases ab:rY T σ o with
  |none=>simp[ab,fk]at b
  |some x=>
   rw[ab]at b;simp only[fk]at b;split at b
   case h_2=>cases b
   rename_i l ah;cases b;obtain⟨v,c3,df⟩:=YX (P:=P) f h ab;obtain⟨vs,j,k,n⟩:=NL f h d l ah;refine⟨v::vs,?_,by simp[k],?_⟩;.simp only[List.mapM_cons,xai,c3,j,xaf,xaz]
   intro i y u e hu;cases i with|zero=>simp at e hu;subst e;subst hu;exact df|succ i=>exact n i y u (by simpa using e) (by simpa using hu)
def NM(p:cV P T){m:Mem}{fr:dr}{ρ:cp}{a:Act}{w:World}(h:Den m fr ρ σ a w){fn:Func}{x:az}(b:mM T σ fn.results.toList=some x): ∃v,(results fn a.tmps).run P w= .ok v w/\bz m ρ σ.used x v:=by
 unfold mM at b;cases ah:fk (fn.results.toList.map (rY T σ))with
 |none=>simp[ah]at b
 |some n=>
  obtain⟨vs,c3,df,f⟩:=NL (P:=P) p h fn.results.toList n ah;have e:((fn.results.mapM λ
   | .tmp t=>pure (a.tmps.getD t undef)| .cell o t=>do loadVar t (<-asAddr (a.tmps.getD o undef)):Sem (Array Value))).run P w= .ok vs.toArray w:=by
   rw[Array.mapM_eq_mapM_toList,Sem.run_map,c3];rfl
  have d:(results fn a.tmps).run P w= .ok (if h:vs.toArray.size=1 then vs.toArray[0]else .tuple vs.toArray) w:=by unfold results;rw[xai];exact(congrArg (λr=>Result.andThen r _) e).trans rfl
  rw[d];rw[ah]at b;split at b
  .rename_i y g;cases b;cases g
   match vs,df,f with|[v],_,f=>exact⟨v,by simp,f 0 _ _ rfl rfl⟩
  .rename_i l j g;cases b;cases g;have k:vs.toArray.size≠1:=by
    intro ab;have:n.length=1:=by rw[<-df];simpa using ab
    obtain⟨y,u⟩:=List.length_eq_one_iff.1 this;exact j y u
   refine⟨.tuple vs.toArray,?_,.aB _ _ (by simpa using df) (λi c v q s=>f i c v q (by simpa using s))⟩;rw[dif_neg k]
  cases b
def start(args:List az)(E:bP):ar:=⟨λt=>args.getD t .any,E⟩
def YY(O:cV P T){f:FuncId}{fn:Func}{c:Code}{g:lZ}{R:D->Prop}(E:P.funcs[f]?=some fn)(B:fn.body=some c)(i:(fn.name== "runtime.NumGoroutine")=false)(F:g.length<=fn.ntmps) (h:fh P T G fn.ntmps c (start (g.map .d) λ_=>none) λe a=>(e= .normal\/e= .ret)/\∃r d x,mM T a fn.results.toList=some r/\toD a.objs r=some d/\d.le x/\R x):cF P G f g R:=by
 refine⟨⟨fn,E,i,by rw[B];rfl⟩,?_⟩;intro m fr w vs M s hD;refine calls_of_wp E B ?_;have j:Den m fr (λ_=>undef) (start (g.map .d) λ_=>none) {tmps:=vs.toArray++Array.replicate (fn.ntmps-vs.toArray.size) undef,defers:=[]} w:=by
  refine⟨s.mem,s.frame,s.apart,?_,?_,?_,?_,?_⟩;.rintro k ⟨o,U⟩;cases U
  .intro t;simp only[start];by_cases n:t<vs.length
   .have u:t<g.length:=by rw[<-hD.1];exact n
    have C:=xaa u;have V:=xaa n;have p:(g.map az.d).getD t .any= .d g[t]:=by rw[xbf,xag,C];rfl
    have I:(vs.toArray++Array.replicate (fn.ntmps-vs.toArray.size) undef).getD t undef=vs[t]:=by rw[xbj,xbt (by simpa using n)];simp[n]
    rw[p,I];exact .d _ _ (hD.2 t _ _ C V)
   have p:(g.map az.d).getD t .any= .any:=by rw[xbf,xaH (by simp;rw[<-hD.1];omega)];rfl
   rw[p];exact .any _
  .intro k o l;cases l
  .intro k o b l;cases l
  intro k b3 o o' b _ l;cases l
 have y:fn.ntmps<=(vs.toArray++Array.replicate (fn.ntmps-vs.toArray.size) undef).size:=uZ
 refine wp_mono (h m fr _ _ w M j y rfl) ?_;rintro e A w' ⟨a,W,z,⟨S,r,d,x,ab,ae,ai,J⟩,K,q,bX,L,b5⟩;obtain⟨v,X,Y⟩:=NM (P:=P) O q ab;have Z:=ai _ _ (Nn q Y ae);have fin:A.defers=[]/\∃v,(results fn A.tmps).run P w'= .ok v w'/\∃H m1 c3,Ending.returned v= .returned H/\R c3/\m.le m1/\gl m1 fr w'/\bM m1 c3 H:=⟨L,v,X,v,Den.all W z a.objs w',x,rfl,J,Mem.le_trans K (Den.tW _ _ _ _),q.Nj,Z⟩;rcases S with rfl|rfl
 .exact fin
 exact fin
end
def xX:List az->oY
 |[]=>some []| .d x::r=>(xX r).map (x::·)|_=>none
def Ce:az->oX
 | .d x=>some x| .agg cs=>(xX cs).map .agg| .aB cs=>(xX cs).map .aB|_=>none
def NN:∀{cs:List az}{a:lZ},xX cs=some a->cs=a.map .d
 |[],a,h=>by cases h;rfl
 | .d x::r,a,h=>by obtain⟨l,ah,rfl⟩:=xae.1 h;rw[NN ah];rfl
 | .any::_,_,h=>by cases h
 | .agg _::_,_,h=>by cases h
 | .aB _::_,_,h=>by cases h
 | .cH _ _::_,_,h=>by cases h
 | .ptr _ _::_,_,h=>by cases h
 | .ey _ _ _ _::_,_,h=>by cases h
 | .row _::_,_,h=>by cases h
 | .sub _ _ _ _::_,_,h=>by cases h
 | .map _::_,_,h=>by cases h
 | .fn _ _ _::_,_,h=>by cases h
def YZ{m:Mem}{ρ:cp}{U:Key->Prop}{x:az}{a:D}{v:Value}(h:Ce x=some a)(j:bz m ρ U x v):bM m a v:=by
 have part:∀{cs:List az}{g:lZ}{vs:Array Value},xX cs=some g->vs.size=cs.length->(∀(i:Nat)(c:az)(v:Value),cs[i]?=some c->vs[i]?=some v->bz m ρ U c v)->vs.size=g.length/\∀(i:Nat)(c:D)(v:Value),g[i]?=some c->vs[i]?=some v->bM m c v:=by intro cs g vs f ah b;have e:=NN f;subst e;refine⟨by simpa using ah,λi c v ab ae=>?_⟩;have:=b i (.d c) v (by simp[ab]) ae;cases this with|d _ _ h=>exact h
 unfold Ce at h;split at h;.cases h;cases j with|d _ _ h=>exact h
 .obtain⟨g,f,rfl⟩:=xae.1 h;cases j with|agg _ vs ah b=>exact .agg _ _ (part f ah b).1 (part f ah b).2
 .obtain⟨g,f,rfl⟩:=xae.1 h;cases j with|aB _ vs ah b=>exact .aB _ _ (part f ah b).1 (part f ah b).2
 cases h
def lg(c:Key->Key)(U:Key->Prop)(x y:az):Prop:=match y with| .any=>True| .d b=>∃a,Ce x=some a/\a.le b| .cH cs off=>x= .cH cs off\/x= .d (.ref cs off)| .ptr k off=>x= .ptr (c k) off/\U k| .ey k e i off=>x= .ey (c k) e i off/\U k| .row k=>x= .row (c k)/\U k| .sub k e i len=>x= .sub (c k) e i len/\U k| .map k=>x= .map (c k)/\U k|_=>False
def gT(a:Key->Key)(U:Key->Prop):List az->List az->Prop
 |[],[]=>True|x::xs,y::b=>lg a U x y/\gT a U xs b|_,_=>False
def o9(a:Key->Key)(U:Key->Prop)(x y:az):Prop:=match y with
 | .agg b=>match x with| .agg g=>gT a U g b| .d (.agg h)=>gT a U (h.map .d) b|_=>False
 | .aB b=>match x with| .aB g=>gT a U g b|_=>False
 | .fn f as dm=>match x with| .fn i c e=>f=i/\gT a U c as/\gT a U e dm|_=>False
 |y=>lg a U x y
def nV(a:Key->Key)(U:Key->Prop):List az->List az->Prop
 |[],[]=>True|x::xs,y::b=>o9 a U x y/\nV a U xs b|_,_=>False
section
variable{m:Mem}{ρ:cp}{Cf U:Key->Prop}{gA:Key->Key}
def lg.ok{x y:az}(h:lg gA U x y){v:Value}(c:bz m ρ Cf x v):bz m (λk=>ρ (gA k)) U y v:=by
 unfold lg at h;split at h;.exact .any _
 .obtain⟨a,i,e⟩:=h;exact .d _ _ (e _ _ (YZ i c))
 .rcases h with rfl|rfl;.cases c with|cH _ _ b o vs T g j l ab ae=>exact .cH _ _ b o vs T g j l ab ae
  cases c.kN with|ref _ _ b o vs T g j l ab ae=>exact .cH _ _ b o vs T g j l ab ae
 .obtain⟨rfl,hu⟩:=h;cases c with|ptr _ _ b _ f=>exact .ptr _ _ b hu f
 .obtain⟨rfl,hu⟩:=h;cases c with|ey _ _ _ _ b o len cap _ f=>exact .ey _ _ _ _ b o len cap hu f
 .obtain⟨rfl,hu⟩:=h;cases c;exact .row (ρ:=λk=>ρ (gA k)) _ hu
 .obtain⟨rfl,hu⟩:=h;cases c with|sub _ _ _ _ b o L cap a _ f e i=>exact .sub _ _ _ _ b o L cap a hu f e i|hf _ _ _ _ f=>exact .hf _ _ _ hu f
 .obtain⟨rfl,hu⟩:=h;cases c;exact .map (ρ:=λk=>ρ (gA k)) _ hu
 cases h
def gT.ok:∀{a b:List az},gT gA U a b->b.length=a.length/\∀(i:Nat)(y:az),b[i]?=some y->∃x,a[i]?=some x/\lg gA U x y
 |[],[],_=>⟨rfl,by simp⟩|x::a,y::b,h=>by have ih:=gT.ok h.2;refine⟨by simp[ih.1],?_⟩;intro i z c;cases i with|zero=>simp at c;subst c;exact⟨x,rfl,h.1⟩|succ i=>simp at c;obtain⟨w,ab,ae⟩:=ih.2 i z c;exact⟨w,by simpa using ab,ae⟩
 |[],y::b,h=>h.elim|x::a,[],h=>h.elim
def gT.cells{b c:List az}{vs:Array Value}(h:gT gA U b c)(a:jd m ρ Cf b vs):jd m (λk=>ρ (gA k)) U c vs:=by obtain⟨ab,ae⟩:=h.ok;refine⟨by rw[a.1,ab],?_⟩;intro i y v f e;obtain⟨x,ai,d⟩:=ae i y f;exact d.ok (a.2 i x v ai e)
def o9.ok{x y:az}(h:o9 gA U x y){v:Value}(j:bz m ρ Cf x v):bz m (λk=>ρ (gA k)) U y v:=by
 unfold o9 at h;split at h
 .rename_i t;split at h;.rename_i s;obtain⟨vs,rfl,e⟩:=j.MQ;have:=gT.cells h e;exact .agg _ _ this.1 this.2
  .rename_i n;obtain⟨vs,rfl,ah,e⟩:=j.MP;have ak:jd m ρ Cf (n.map .d) vs:=⟨by simpa using ah,by
    intro i c v f p;simp only[xag,xae]at f;obtain⟨z,q,rfl⟩:=f;exact .d _ _ (e i z v q p)⟩
   have:=gT.cells h ak;exact .agg _ _ this.1 this.2
  cases h
 .split at h;.obtain⟨vs,rfl,e⟩:=j.MR;have:=gT.cells h e;exact .aB _ _ this.1 this.2
  cases h
 .split at h
  .obtain⟨rfl,ab,ae⟩:=h;cases j with|fn _ _ _ vs r ah l g o=>
   have a:=gT.cells (U:=U) ab ⟨ah,g⟩;have b:=gT.cells (U:=U) ae ⟨l,o⟩;exact .fn _ _ _ vs r a.1 b.1 a.2 b.2
  cases h
 exact h.ok j
end
def nV.ok{d:Key->Key}{U:Key->Prop}:∀{a b:List az},nV d U a b->b.length=a.length/\∀(i:Nat)(y:az),b[i]?=some y->∃x,a[i]?=some x/\o9 d U x y
 |[],[],_=>⟨rfl,by simp⟩|x::a,y::b,h=>by have ih:=nV.ok h.2;refine⟨by simp[ih.1],?_⟩;intro i z c;cases i with|zero=>simp at c;subst c;exact⟨x,rfl,h.1⟩|succ i=>simpa using ih.2 i z (by simpa using c)
 |[],y::b,h=>h.elim|x::a,[],h=>h.elim
def nV.cells{m:Mem}{ρ:cp}{e U:Key->Prop}{d:Key->Key}{b c:List az}{vs:Array Value}(h:nV d U b c)(a:jd m ρ e b vs):jd m (λk=>ρ (d k)) U c vs:=by obtain⟨ab,ae⟩:=h.ok;refine⟨by rw[a.1,ab],?_⟩;intro i y v j g;obtain⟨x,ai,f⟩:=ae i y j;exact f.ok (a.2 i x v ai g)
def HU(es c:mW):Prop:=es=c\/(es.length=c.length/\∀(i:Nat)(x y:lZ),es[i]?=some x->c[i]?=some y->x.length=y.length/\y.all D.one=true/\∀(j:Nat)(a b:D),x[j]?=some a->y[j]?=some b->a.le b)
def rZ(d:Key->Key)(U:Key->Prop)(x y:b6):Prop:=match y with| .dead=>True| .box c=>∃a,x= .box a/\nV d U a c| .row k b=>∃es,x= .row k es/\HU es b| .map es=>x= .map es
def HU.ok{m:Mem}{ρ l:cp}{U q:Key->Prop}{k:Nat}{es g:mW}(h:HU es g){v:Value}{w:World}(p:gC m ρ U v w (.row k es)):gC m l q v w (.row k g):=by
 rcases h with rfl|⟨ah,h⟩;.exact p
 rcases p with⟨f,rfl⟩|⟨b,o,cap,vs,T,f,r,A,s,t,u⟩;.exact .inl ⟨f,xaO (by rw[<-ah];rfl)⟩
 have key:∀(i:Nat)(y:lZ),g[i]?=some y->∃x,es[i]?=some x/\x.length=y.length/\y.all D.one=true/\∀(j:Nat)(a b:D),x[j]?=some a->y[j]?=some b->a.le b:=by
  intro i y e;have ag:i<es.length:=by rw[ah];exact(lV.1 e).1
  exact⟨_,xaa ag,h i _ y (xaa ag) e⟩
 refine .inr ⟨b,o,cap,vs,T,by rw[<-ah];exact f,r,by omega,s,?_,?_⟩;.intro y e;obtain⟨i,ag⟩:=xaJ.1 e;obtain⟨x,ab,ae,ai,_⟩:=key i y ag;exact⟨by rw[<-ae];exact(t x (xad ab)).1,ai⟩
 intro i y j c ag n;obtain⟨x,ab,ae,_,ai⟩:=key i y ag;have d:j<x.length:=by rw[ae];exact(lV.1 n).1
 obtain⟨z,g1,g2⟩:=u i x j _ ab (xaa d);exact⟨z,g1,ai j _ c (xaa d) n _ _ g2⟩
def Cg:List (Nat×az)->Nat->az
 |[],_=> .any|(j,v)::r,t=>if t=j then v else Cg r t
def dh:List (Key×b6)->Key->Option b6
 |[],_=>none|(j,o)::r,k=>if k=j then some o else dh r k
def NO(ls:List (Nat×az))(lo:List (Key×b6)):ar:=⟨Cg ls,dh lo⟩
def ue(a:Key->Key)(U:Key->Prop)(σ:ar):List (Nat×az)->Prop
 |[]=>True|(t,v)::r=>o9 a U (σ.au t) v/\ue a U σ r
def r0(a:Key->Key)(U:Key->Prop)(σ:ar):List (Key×b6)->Prop
 |[]=>True|(k,o)::r=>(∃o',σ.objs (a k)=some o'/\rZ a U o' o)/\r0 a U σ r
def ue.ok{a:Key->Key}{U:Key->Prop}{σ:ar}:∀{ls:List (Nat×az)},ue a U σ ls->∀t,o9 a U (σ.au t) (Cg ls t)
 |[],_,t=>trivial
 |(j,v)::r,h,t=>by
  unfold Cg;split;.rename_i e;subst e;exact h.1
  exact ue.ok h.2 t
def r0.ok{b:Key->Key}{U:Key->Prop}{σ:ar}:∀{lo:List (Key×b6)},r0 b U σ lo->∀k o,dh lo k=some o->∃o',σ.objs (b k)=some o'/\rZ b U o' o
 |[],_,k,o,h=>by cases h
 |(j,x)::r,h,k,o,a=>by
  unfold dh at a;split at a;.rename_i e;subst e;cases a;exact h.1
  exact r0.ok h.2 k o a
def ee:List (Key×Key)->Key->Key
 |[],k=>k|(a,b)::r,k=>if k=a then b else ee r k
def ji(lo:List (Key×b6)):List Key:=lo.map (·.1)
def r1(a:Key->Key):List Key->Bool
 |[]=>true|k::r=>r.all (λj=>k==j||!(a k==a j))&&r1 a r
def Ch{c:Key->Key}:∀{l:List Key},r1 c l=true->∀k j,k∈l->j∈l->c k=c j->k=j
 |[],_,k,j,h,_,_=>by cases h
 |x::r,h,k,j,e,d,he=>by
  simp only[r1,xan,xay]at h;rcases xam.1 e with rfl|b
  .rcases xam.1 d with rfl|a;.rfl
   have:=h.1 j a;simp at this;rcases this with ab|ab
   .exact ab
   exact absurd he ab
  rcases xam.1 d with rfl|a
  .have:=h.1 k b;simp at this;rcases this with ab|ab
   .exact ab.symm
   exact absurd he.symm ab
  exact Ch h.2 k j b a he
def qt:∀{lo:List (Key×b6)} {k:Key} {o:b6},dh lo k=some o->k∈ji lo
 |[],k,o,h=>by cases h
 |(j,x)::r,k,o,h=>by
  unfold dh at h;split at h;.rename_i e;subst e;simp[ji]
  have:=qt h;simp only[ji,xaw,xam]at this⊢;exact .inr this
def Y0{σ:ar}{ls:List (Nat×az)}{lo:List (Key×b6)}(l:List (Key×Key))(F:r1 (ee l) (ji lo)=true) (aj:ue (ee l) (λk=>∃o,dh lo k=some o) σ ls) (i:r0 (ee l) (λk=>∃o,dh lo k=some o) σ lo) (A:∀k,10000<=k->ds (σ.objs k)->ds (dh lo k)/\ee l k=k):eX σ (NO ls lo):=by
 intro m fr ρ a w h;have f:∀{o o':b6},rZ (ee l) (λk=>∃o,dh lo k=some o) o' o->o.owns=true->o'.owns=true:=by
  intro o o' d i;cases o with
  |dead=>cases i
  |box=>obtain⟨G,rfl,_⟩:=d;rfl
  |row=>obtain⟨es,rfl,_⟩:=d;rfl
  |map=>cases d;rfl
 refine⟨m,λk=>ρ (ee l k),Mem.le_refl m,⟨h.mem,h.frame,h.apart,?_,?_,?_,?_,?_⟩,λk r q=>⟨(A k r q).1,by show ρ (ee l k)=ρ k;rw[(A k r q).2]⟩⟩;.rintro k ⟨o,c⟩;obtain⟨o',ab,_⟩:=i.ok k o c;exact h.one _ ⟨o',ab⟩
 .intro t;exact(aj.ok t).ok (h.au t)
 .intro k o c;obtain⟨o',ab,ae⟩:=i.ok k o c;have ai:=h.objs _ _ ab;cases o with
  |dead=>trivial|box J=>obtain⟨G,rfl,d⟩:=ae;obtain⟨b,vs,T,B,C,D,E⟩:=ai;have:=nV.cells d ⟨D,E⟩;exact⟨b,vs,T,B,C,this.1,this.2⟩
  |row I H=>obtain⟨es,rfl,d⟩:=ae;exact d.ok ai
  |map es=>cases ae;exact ai
 .intro k o b c j q;obtain⟨o',ab,ae⟩:=i.ok k o c;exact h.own _ o' b ab (f ae j) q
 intro k z o o' b y c g n p q;obtain⟨x,ab,ae⟩:=i.ok k o c;obtain⟨gy,s,u⟩:=i.ok z o' g;exact h.sep (ee l k) (ee l z) x gy b (λe=>y (Ch F k z (qt c) (qt g) e)) ab s (f ae n) (f u p) q
def uf(P:Program):Nat->List Field->Option (List TypeDesc)
 |_,[]=>some []|off,f::a=>if f.name≠ "_" /\f.offset=off then(match P.underlying f.type with|some .bool=>(uf P (off+1) a).map (.bool::·)|some (.int k)=>(uf P (off+1) a).map (.int k::·)|some .string=>(uf P (off+1) a).map (.string::·)|_=>none)else none
def Ci{P:Program}:∀{b:List Field}{off:Nat}{l:List TypeDesc},uf P off b=some l->BM P off b l
 |[],_,l,h=>by cases h;trivial
 |f::b,off,l,h=>by
  unfold uf at h;split at h
  case isFalse=>cases h
  rename_i ab;split at h;.rename_i hu;obtain⟨r,a,rfl⟩:=xae.1 h;exact⟨ab.1,ab.2,hu,rfl,Ci a⟩
  .rename_i hu;obtain⟨r,a,rfl⟩:=xae.1 h;exact⟨ab.1,ab.2,hu,rfl,Ci a⟩
  .rename_i hu;obtain⟨r,a,rfl⟩:=xae.1 h;exact⟨ab.1,ab.2,hu,rfl,Ci a⟩
  cases h
def HV(P:Program)(t:TypeId):Option (List TypeDesc):=match P.underlying t with
 |some (.struct a)=>match uf P 0 a.toList with
  |some l=>if P.stoodInHeld t=false/\P.eqGuardType P.depth t=false then some l else none
  |none=>none
 |_=>none
def Y1{P:Program}{t:TypeId}{l:List TypeDesc}(h:HV P t=some l):MB P t l:=by
 unfold HV at h;split at h
 case h_2=>cases h
 rename_i c hu;have b:P.fieldsOf t=c:=by simp[Program.fieldsOf,hu]
 split at h
 case h_2=>cases h
 rename_i d ah;split at h
 case isFalse=>cases h
 rename_i a;cases h;exact⟨by rw[b];exact hu,a.1,a.2,by rw[b];exact Ci ah⟩
def xY(P:Program)(t:TypeId):Option gj:=match P.underlying t,P.info? t with
 |some d,some i=>match i.zero with
  |some z=>if z.cells.size=i.size then some ⟨d,i.size,i.bytes,z⟩else none
  |none=>none
 |_,_=>none
def HW(P:Program)(t:TypeId)(name:String):Option FuncId:=match P.info? t,P.underlying t with
 |some i,some d=>match d with
  | .pointer _=>none
  |_=>match i.methods.find? (λm=>m.name==name)with
   |some m=>match m.path.toList,m.func with|[],some (f,false)=>some f|_,_=>none
   |none=>none
 |_,_=>none
def Y2{P:Program}{t:TypeId}{name:String}{f:FuncId}(h:HW P t name=some f):BN P t name f:=by
 unfold HW at h;split at h
 case h_2=>cases h
 rename_i i d ab ae;split at h
 case h_1=>cases h
 rename_i j;split at h
 case h_2=>cases h
 rename_i m c;split at h
 case h_2=>cases h
 rename_i g ai a;cases h;exact⟨i,m,d,ab,c,ai,a,ae,λe b=>j e b⟩
def dn(P:Program):bC:=⟨xY P,HV P,λ_=>false,HW P,[],[]⟩
def bC.Cj(T:bC)(l:List TypeId):bC:=⟨T.BK,T.eqs,T.born,T.mD,l,T.dyn⟩
def cV.Cj{P:Program}{T:bC}(h:cV P T)(l:List TypeId):cV P (T.Cj l):=⟨h.ty,h.tN,h.eqs,h.BO⟩
def bC.ug(T:bC)(l:lX):bC:=⟨T.BK,T.eqs,λk=>l.contains k,T.mD,T.Hn,T.dyn⟩
def cV.ug{P:Program}{T:bC}(h:cV P T)(l:lX):cV P (T.ug l):=⟨h.ty,h.tN,h.eqs,h.BO⟩
def bC.Ck(T:bC)(l:List (Nat×List FuncId)):bC:=⟨T.BK,T.eqs,T.born,T.mD,T.Hn,l⟩
def cV.Ck{P:Program}{T:bC}(h:cV P T)(l:List (Nat×List FuncId)):cV P (T.Ck l):=⟨h.ty,h.tN,h.eqs,h.BO⟩
def tok(P:Program):cV P (dn P):=by
 constructor
 .intro t i h;change xY P t=some i at h;unfold xY at h;split at h
  case h_2=>cases h
  rename_i d a ab ae;split at h
  case h_2=>cases h
  rename_i z b;split at h
  case isFalse=>cases h
  cases h;exact⟨ab,a,ae,rfl,rfl,b⟩
 .intro t i h;change xY P t=some i at h;unfold xY at h;split at h
  case h_2=>cases h
  rename_i d a ab ae;split at h
  case h_2=>cases h
  rename_i z b;split at h
  case isFalse=>cases h
  rename_i aj;cases h;exact aj
 .intro t l h;exact Y1 h
 intro t name f h;exact Y2 h
def aa(n:Int):D:= .val (.int .i64 n)
def aE(b:Bool):D:= .val (.bool b)
def aD(s:ByteArray):D:= .val (.string s)
def bY(l:lY):D:= .aw 1 (l.map λn=>[aa n])
def NP(l:lW):D:= .aw 1 (l.map λb=>[aE b])
def cB(l:List ByteArray):D:= .aw 1 (l.map λs=>[aD s])
end Go.Am
