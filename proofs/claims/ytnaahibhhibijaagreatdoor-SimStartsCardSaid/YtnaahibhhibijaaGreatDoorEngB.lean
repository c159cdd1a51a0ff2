/- Calls, regions in any order, loops: their rules over such values. No condition. -/
import Derived.Test.YtnaahibhhibijaaGreatDoorEngA
import Derived.Still
import Derived.Scope
set_option linter.all false
set_option linter.unnecessarySimpa false
namespace Go.Am
def aI.put(σ:aI)(dst:Option Tmp)(r:aS):aI:=match dst with|some d=>⟨cr σ.aJ d r,σ.objs⟩|none=>σ
def gr(T:ca)(G:c9)(σ:aI)(o:Oper):Option aI:=match dW T (b8 G σ.aJ) o.op with|some r=>some (σ.put o.dst r)|none=>match dn T (b8 G σ.aJ) σ.objs o.op with|some r=>some (σ.put o.dst r)|none=>match gK T (b8 G σ.aJ) σ.objs (o.dst.getD 9999) o.op with|some (r,cE)=>some (aI.put ⟨σ.aJ,dp σ.objs cE⟩ o.dst r)|none=>none
structure mq(m:Mem)(fr:eS)(w:World):Prop where
 mem:∀b o,m b=some o->w.heap[b]?=some o
 frame:Vz fr w
 apart:∀b,m b≠none->fr b=none
def Den.ok{m:Mem}{fr:eS}{ρ:c5}{σ:aI}{a:Act}{w:World}(h:Den m fr ρ σ a w):mq m fr w:=⟨h.mem,h.frame,h.apart⟩
def n9(m:Mem)(ds:List D)(vs:List Value):Prop:=vs.length=ds.length/\∀(i:Nat)(d:D)(v:Value),ds[i]?=some d->vs[i]?=some v->cY m d v
def wo(P:Program)(f:FuncId):Prop:=∃fn,P.funcs[f]?=some fn/\(fn.name== "runtime.NumGoroutine")=false/\fn.body.isNone=false
structure eD(P:Program)(G:c9)(f:FuncId)(ds:List D)(eE:D->Prop):Prop where
 fn:wo P f
 run:∀m fr w vs,jv G m->mq m fr w->n9 m ds vs->Calls P f vs.toArray w λe w'=>∃v cG r,e= .returned v/\eE r/\m.le cG/\mq cG fr w'/\cY cG r v
def eD.mono{P:Program}{G:c9}{f:FuncId}{ds:List D}{eE Wn:D->Prop}(h:eD P G f ds eE)(au:∀r,eE r->Wn r):eD P G f ds Wn:=⟨h.fn,λm fr w vs cM cH cK=>(h.run m fr w vs cM cH cK).mono λe w' ⟨v,cG,r,ab,ad,ax⟩=>⟨v,cG,r,ab,au r ad,ax⟩⟩
def qV:List D->List D->Prop
 |[],[]=>True|x::xs,y::c0=>x.le y/\qV xs c0|_,_=>False
def qV.refl:∀l:List D,qV l l
 |[]=>trivial|x::l=>⟨x.le_refl,qV.refl l⟩
def qV.ok{m:Mem}:∀{xs c0:List D}{vs:List Value},qV xs c0->n9 m xs vs->n9 m c0 vs
 |[],[],vs,_,h=>h|x::xs,y::c0,[],_,h=>by have:=h.1;simp at this|x::xs,y::c0,v::vs,an,h=>by have ih:=qV.ok (m:=m) (vs:=vs) an.2 ⟨by simpa using h.1,λi d u az hu=>h.2 (i+1) d u (by simpa using az) (by simpa using hu)⟩;refine⟨by simpa using ih.1,?_⟩;intro i d u az hu;cases i with|zero=>simp at az hu;subst az;subst hu;exact an.1 m v (h.2 0 x v rfl rfl)|succ i=>exact ih.2 i d u (by simpa using az) (by simpa using hu)
 |[],y::c0,vs,h,_=>h.elim|x::xs,[],vs,h,_=>h.elim
def D.flat:D->Bool
 | .val _=>true| .agg cs=>cs.all λc=>match c with| .val _=>true|_=>false
 | .aO cs=>cs.all λc=>match c with
  | .val _=>true| .agg cs=>cs.all λc=>match c with| .val _=>true|_=>false
  |_=>false
 |_=>false
def ahv{m cG:Mem}{c:D}{v:Value}(h:(match c with| .val _=>true|_=>false)=true)(az:cY m c v):cY cG c v:=by cases c<;>first|(cases az;exact .val _)|cases h
def flat_agg{m cG:Mem}{cs:List D}{v:Value}(h:(cs.all λc=>match c with| .val _=>true|_=>false)=true)(az:cY m (.agg cs) v):cY cG (.agg cs) v:=by cases az with|agg _ vs an bU=>exact .agg _ _ an λi c u ai hu=>ahv (xau.1 h c (xac ai)) (bU i c u ai hu)
def D.ahw{m cG:Mem}{x:D}{v:Value}(h:x.flat=true)(az:cY m x v):cY cG x v:=by
 cases x with
 |val=>cases az;exact .val _
 |agg cs=>exact flat_agg h az
 |aO cs=>
  cases az with
  |aO _ vs an bU=>
   refine .aO _ _ an λi c u ai hu=>?_;have ab:=xau.1 h c (xac ai);have ad:=bU i c u ai hu;cases c with
   |val=>cases ad;exact .val _
   |agg cs=>exact flat_agg ab ad|aO=>cases ab
   |aA=>cases ab
   |dH=>cases ab
   |mp=>cases ab
   |ref=>cases ab
   |fn=>cases ab
 |aA=>cases h
 |dH=>cases h
 |mp=>cases h
 |ref=>cases h
 |fn=>cases h
def qW(objs:cB):aS->Option D
 | .d x=>some x| .row key=>match objs key with|some (.row k es)=>some (.aA k es)|_=>none
 | .sub key k i len=>match objs key with
  |some (.row bu es)=>if k=bu/\i+len<=es.length then some (.aA k ((es.drop i).take len))else none
  |_=>none
 | .map key=>match objs key with|some (.map es)=>some (.mp es)|_=>none
 |_=>none
def hb{α:Type}:List (Option α)->Option (List α)
 |[]=>some []|some x::r=>match hb r with|some l=>some (x::l)|none=>none
 |none::_=>none
def qX{α:Type}:∀{l:List (Option α)} {r:List α},hb l=some r->r.length=l.length/\∀(i:Nat)(x:α),r[i]?=some x->l[i]?=some (some x)
 |[],r,h=>by simp[hb]at h;subst h;simp|none::l,r,h=>by simp[hb]at h
 |some x::l,r,h=>by
  simp only[hb]at h;split at h
  case h_2=>cases h
  rename_i nj en;cases h;have ih:=qX en;refine⟨by simp[ih.1],?_⟩;intro i y aP;cases i with|zero=>simpa using aP|succ i=>exact ih.2 i y (by simpa using aP)
def m0(objs:cB):aS->Option D
 | .ptr key off=>match objs key with
  |some (.box cells)=>match hb (cells.map (qW objs))with|some cs=>some (.ref cs off)|none=>none
  |_=>none
 | .ek cs off=>some (.ref cs off)|x=>qW objs x
def oa(objs:cB):aS->Option D
 | .agg cs=>match hb (cs.map (m0 objs))with|some ds=>some (.agg ds)|none=>none
 | .fn f first cap=>match hb (first.map (m0 objs)),hb (cap.map (m0 objs))with|some as,some gb=>some (.fn f as gb)|_,_=>none
 |x=>m0 objs x
def toD(objs:cB):aS->Option D
 | .aO cs=>match hb (cs.map (oa objs))with|some ds=>some (.aO ds)|none=>none
 |x=>oa objs x
noncomputable def Den.all(m:Mem)(ρ:c5)(objs:cB)(w:World):Mem:=λb=>match m b with|some o=>some o|none=>open Classical in if∃k o,objs k=some o/\o.owns=true/\blockOf (ρ k)=some b then w.heap[b]? else none
section
variable{P:Program}{T:ca}{G:c9}{m:Mem}{fr:eS}{ρ:c5}{σ:aI}{a:Act}{w:World}
def Den.BA(m:Mem)(ρ:c5)(objs:cB)(w:World):m.le (Den.all m ρ objs w):=by intro b o h;simp[Den.all,h]
def Den.Kb(h:Den m fr ρ σ a w){k:Key}{o:cO}{b:Nat}(ah:σ.objs k=some o)(aR:o.owns=true)(ak:blockOf (ρ k)=some b):Den.all m ρ σ.objs w b=w.heap[b]?:=by have:=(h.own k o b ah aR ak).1;simp only[Den.all,this];rw[xaa ⟨k,o,ah,aR,ak⟩]
def Den.ahx(h:Den m fr ρ σ a w):∀b o,Den.all m ρ σ.objs w b=some o->w.heap[b]?=some o:=by
 intro b o ak;unfold Den.all at ak;cases hm:m b with
 |some x=>simp only[hm]at ak;cases ak;exact h.mem b _ hm
 |none=>
  simp only[hm]at ak;split at ak;.exact ak
  cases ak
def Den.Wo(h:Den m fr ρ σ a w):mq (Den.all m ρ σ.objs w) fr w:=by
 refine⟨h.ahx,h.frame,?_⟩;intro b ak;unfold Den.all at ak;cases hm:m b with
 |some x=>exact h.apart b (by rw[hm];simp)
 |none=>
  simp only[hm]at ak;split at ak;.rename_i ai;obtain⟨k,o,ab,ad,ax⟩:=ai;exact(h.own k o b ab ad ax).2
  exact absurd rfl ak
def Wp(h:Den m fr ρ σ a w){x:aS}{v:Value}{d:D}(ae:b2 m ρ σ.used x v)(az:qW σ.objs x=some d):cY (Den.all m ρ σ.objs w) d v:=by
 have hle:=Den.BA m ρ σ.objs w;have row:∀key k es v,σ.objs key=some (.row k es)->v=ρ key->cY (Den.all m ρ σ.objs w) (.aA k es) v:=by
  rintro key k es v ah rfl;rcases h.objs _ _ ah with⟨aN,rfl⟩|⟨b,o,cap,vs,dB,aN,aV,bS,cT,dJ,eH⟩;.rw[aN];exact .kg _ _ _
  have ak:=h.Kb ah rfl (by rw[aN];rfl);obtain⟨f1,f2⟩:=VY (m:=m) dJ eH;rw[aN];refine .aA k es b o cap vs dB (0,0) (by rw[ak];exact aV) dJ bS (λi j=>(vs[o+i*k+j]?).getD undef) ?_ ?_;.intro i e j c ag aG;obtain⟨x,g1,g2⟩:=eH i e j c ag aG;rw[g1];rfl
  intro i e j c ag aG;obtain⟨x,g1,g2⟩:=eH i e j c ag aG;simp only[g1,xbm];exact g2.mono hle
 unfold qW at az;split at az;.cases az;exact ae.n5.mono hle
 .rename_i key;split at az
  case h_2=>cases az
  rename_i k es ah;cases az;cases ae;exact row key k es _ ah rfl
 .rename_i key k i len;split at az
  case h_2=>cases az
  rename_i bu es ah;split at az
  case isFalse=>cases az
  rename_i ai;obtain⟨rfl,JV⟩:=ai;cases az;cases ae with|ju _ _ _ hu au=>rw[xca];exact .kg _ _ _|sub _ _ _ _ b o L cap ic hu au sB aH=>
  have bH:((es.drop i).take len).length=len:=by simp;omega
  rcases xbJ len with aq|hL;.subst aq;rw[xca];exact .kg _ _ _
  have o6:=row key k es _ ah rfl;rw[au]at o6;cases o6 with
  |kg=>simp at JV;omega
  |aA _ _ _ _ _ vs dB dM hm dd ai xs ab ad=>
   have:=cY.aA (m:=Den.all m ρ σ.objs w) k ((es.drop i).take len) b (o+i*k) (cap-i) vs dB dM hm (λe he=>dd e (xbl (xaZ he))) (by omega) (λp j=>xs (i+p) j) (λp el j c eN ai=>by
     rw[xaO]at eN;split at eN
     case isFalse=>cases eN
     rw[xaW]at eN;have:=ab (i+p) el j c eN ai;rw[<-this]
     congr 1
     rw[xaT];omega)
    (λp el j c eN ai=>by
     rw[xaO]at eN;split at eN
     case isFalse=>cases eN
     rw[xaW]at eN;exact ad (i+p) el j c eN ai)
   rw[bH]at this;rw[aH.1 (by omega)];exact this
 .rename_i key;split at az
  case h_2=>cases az
  rename_i es ah;cases az;cases ae;obtain⟨r,dg,clock,aN,aV,bS,cT,dJ⟩:=h.objs _ _ ah;have ak:=h.Kb ah rfl (by rw[aN];rfl);rw[aN];exact .mp es r dg clock (by rw[ak];exact aV) bS cT (λi e x he ae=>(dJ i e x he ae).mono hle)
 cases az
def Kc(h:Den m fr ρ σ a w){x:aS}{v:Value}{d:D}(ae:b2 m ρ σ.used x v)(az:m0 σ.objs x=some d):cY (Den.all m ρ σ.objs w) d v:=by
 have hle:=Den.BA m ρ σ.objs w;unfold m0 at az;split at az
 .rename_i key off;split at az
  case h_2=>cases az
  rename_i cells ah;split at az
  case h_2=>cases az
  rename_i cs gT;cases az;obtain⟨b,vs,dB,aN,aV,bS,cT⟩:=h.objs _ _ ah;have ak:=h.Kb ah rfl (by rw[aN];rfl);obtain⟨jU,jV⟩:=qX gT;cases ae with|ptr _ _ b' hu au=>
  rw[aN]at au;cases au;have key:∀(j:Nat)(c:D),cs[j]?=some c->∃u,vs[j]?=some u/\cY (Den.all m ρ σ.objs w) c u:=by
   intro j c ai;have ab:=jV j c ai;simp only[xag,xaj]at ab;obtain⟨y,aP,ns⟩:=ab;have aG:j<vs.size:=by rw[bS];exact(xae.1 aP).1
   exact⟨_,xam aG,Wp h (cT j y _ aP (xam aG)) ns⟩
  have:=cY.ref (m:=Den.all m ρ σ.objs w) cs off b 0 vs dB (0,0) (by rw[ak];exact aV) (λj=>(vs[j]?).getD undef) (λj c ai=>by obtain⟨u,ab,_⟩:=key j c ai;simp[ab]) (λj c ai=>by obtain⟨u,ab,ad⟩:=key j c ai;simp[ab];exact ad);simpa using this
 .cases az;cases ae with|ek _ _ b o vs T dM hm xs ab ad=>exact .ref _ _ b o vs T dM (hle _ _ hm) xs ab (λj c ai=>(ad j c ai).mono hle)
 exact Wp h ae az
def Wq(h:Den m fr ρ σ a w){x:aS}{v:Value}{d:D}(ae:b2 m ρ σ.used x v)(az:oa σ.objs x=some d):cY (Den.all m ρ σ.objs w) d v:=by
 unfold oa at az;split at az
 .rename_i cs;split at az
  case h_2=>cases az
  rename_i ds eh;cases az;obtain⟨jU,jV⟩:=qX eh;cases ae with|agg _ vs an bU=>
  refine .agg _ _ (by rw[an,jU];simp) ?_;intro i c u ai hu;have ab:=jV i c ai;simp only[xag,xaj]at ab;obtain⟨y,aP,ns⟩:=ab;exact Kc h (bU i y u aP hu) ns
 .rename_i f first cap
  split at az
  case h_2=>cases az
  rename_i as gb has EN;cases az;obtain⟨jU,jV⟩:=qX has;obtain⟨cA,dv⟩:=qX EN;cases ae with|fn _ _ _ vs ws an en bU yh=>
  refine .fn _ _ _ vs ws (by rw[an,jU];simp) (by rw[en,cA];simp) ?_ ?_;.intro i c u ai hu;have ab:=jV i c ai;simp only[xag,xaj]at ab;obtain⟨y,aP,ns⟩:=ab;exact Kc h (bU i y u aP hu) ns
  intro i c u ai hu;have ab:=dv i c ai;simp only[xag,xaj]at ab;obtain⟨y,aP,ns⟩:=ab;exact Kc h (yh i y u aP hu) ns
 exact Kc h ae az
def Wr(h:Den m fr ρ σ a w){x:aS}{v:Value}{d:D}(ae:b2 m ρ σ.used x v)(az:toD σ.objs x=some d):cY (Den.all m ρ σ.objs w) d v:=by
 unfold toD at az;split at az
 .rename_i cs;split at az
  case h_2=>cases az
  rename_i ds eh;cases az;obtain⟨jU,jV⟩:=qX eh;cases ae with|aO _ vs an bU=>
  refine .aO _ _ (by rw[an,jU];simp) ?_;intro i c u ai hu;have ab:=jV i c ai;simp only[xag,xaj]at ab;obtain⟨y,aP,ns⟩:=ab;exact Wq h (bU i y u aP hu) ns
 exact Wq h ae az
def ahy(h:Den m fr ρ σ a w){xs:List aS}{vs:List Value}{ds:List D}(an:vs.length=xs.length)(ae:∀(i:Nat)(x:aS)(v:Value),xs[i]?=some x->vs[i]?=some v->b2 m ρ σ.used x v)(az:hb (xs.map (toD σ.objs))=some ds):n9 (Den.all m ρ σ.objs w) ds vs:=by obtain⟨jU,jV⟩:=qX az;refine⟨by rw[an,jU];simp,?_⟩;intro i d v ab ad;have ax:=jV i d ab;simp only[xag,xaj]at ax;obtain⟨y,aP,ns⟩:=ax;exact Wr h (ae i y v aP ad) ns
def Den.ahz(h:Den m fr ρ σ a w){w':World}{cG:Mem}(hle:(Den.all m ρ σ.objs w).le cG)(cH:mq cG fr w'):Den m fr ρ σ a w':=by refine⟨λb o ak=>cH.mem b o (hle b o (Den.BA m ρ σ.objs w b o ak)),cH.frame,h.apart,h.one,h.aJ,?_,h.own,h.sep⟩;intro k o ah;refine(h.objs k o ah).mono (Mem.le_refl m) (λ_ hu=>⟨hu,rfl⟩) (λb aR ak=>?_);have ab:=h.Kb ah aR ak;have ad:b<w.heap.size:=(h.objs k o ah).uc aR ak;have ax:=xam ad;rw[ax]at ab⊢;exact cH.mem b _ (hle b _ ab)
noncomputable def Den.hold(fr:eS)(ρ:c5)(objs:cB)(w:World):eS:=⟨Den.all fr.at_ ρ objs w,fr.os,fr.out,fr.low⟩
def Den.Ws(h:Den m fr ρ σ a w){k:Key}{o:cO}{b:Nat}(ah:σ.objs k=some o)(aR:o.owns=true)(ak:blockOf (ρ k)=some b):Den.hold fr ρ σ.objs w b=w.heap[b]?:=by have:=(h.own k o b ah aR ak).2;simp only[Den.hold,Den.all,this];rw[xaa ⟨k,o,ah,aR,ak⟩]
def Den.Wt(h:Den m fr ρ σ a w):mq m (Den.hold fr ρ σ.objs w) w:=by
 refine⟨h.mem,⟨?_,⟨h.frame.quiet.os,h.frame.quiet.out,h.frame.quiet.low⟩⟩,?_⟩
 .intro b o ak;unfold Den.hold Den.all at ak;cases hm:fr b with
  |some x=>simp only[hm]at ak;cases ak;exact h.frame.n4 b _ hm
  |none=>
   simp only[hm]at ak;split at ak;.exact ak
   cases ak
 intro b ak;show Den.all fr.at_ ρ σ.objs w b=none;unfold Den.all;rw[h.apart b ak];simp only;rw[xab];rintro⟨k,o,ab,ad,ax⟩;exact ak (h.own k o b ab ad ax).1
def Den.kept(h:Den m fr ρ σ a w){w':World}{cG:Mem}(hle:m.le cG)(cH:mq cG (Den.hold fr ρ σ.objs w) w'):Den cG fr ρ σ a w':=by
 have kC:∀b o,fr b=some o->Den.hold fr ρ σ.objs w b=some o:=Den.BA fr.at_ ρ σ.objs w;have jS:∀k o b,σ.objs k=some o->o.owns=true->blockOf (ρ k)=some b->cG b=none:=by intro k o b ah aR ak;cases hm:cG b with|none=>rfl|some x=>have ab:=cH.apart b (by rw[hm];simp);rw[h.Ws ah aR ak,xam ((h.objs k o ah).uc aR ak)]at ab;cases ab
 refine⟨cH.mem,⟨λb o ak=>cH.frame.n4 b o (kC b o ak),⟨cH.frame.quiet.os,cH.frame.quiet.out,cH.frame.quiet.low⟩⟩,?_,h.one,λt=>(h.aJ t).mono hle (λ_ hu=>⟨hu,rfl⟩),?_,λk o b ab ad ax=>⟨jS k o b ab ad ax,(h.own k o b ab ad ax).2⟩,h.sep⟩;.intro b ak;have:=cH.apart b ak;cases ba:fr b with|none=>rfl|some x=>rw[kC b x ba]at this;cases this
 intro k o ah;refine(h.objs k o ah).mono hle (λ_ hu=>⟨hu,rfl⟩) (λb aR ak=>?_);have ab:=h.Ws ah aR ak;have ax:=xam ((h.objs k o ah).uc aR ak);rw[ax]at ab⊢;exact cH.frame.n4 b _ ab
end
def eo(o:Option cO):Prop:=(∃cs,o=some (.box cs))\/(∃k es,o=some (.row k es))\/∃es,o=some (.map es)
theorem ui{cs:List aS}:eo (some (.box cs)):= .inl ⟨_,rfl⟩
theorem sK{k:Nat}{es:List (List D)}:eo (some (.row k es)):= .inr (.inl ⟨_,_,rfl⟩)
def uj:¬eo none:=by rintro(⟨_,h⟩|⟨_,_,h⟩|⟨_,h⟩)<;>cases h
def EO:¬eo (some .dead):=by rintro(⟨_,h⟩|⟨_,_,h⟩|⟨_,h⟩)<;>cases h
theorem wq{es:List (Value×D)}:eo (some (.map es)):= .inr (.inr ⟨_,rfl⟩)
def BB{o:Option cO}(h:eo o):∃x,o=some x:=by rcases h with⟨_,h⟩|⟨_,_,h⟩|⟨_,h⟩<;>exact⟨_,h⟩
def kD(σ:aI)(ρ:c5)(aT:aI)(cR:c5):Prop:=∀k,10000<=k->eo (σ.objs k)->eo (aT.objs k)/\cR k=ρ k
theorem kD.refl(σ:aI)(ρ:c5):kD σ ρ σ ρ:=λ_ _ h=>⟨h,rfl⟩
def kD.trans{fV fy Wu:aI}{m1 k2 Wv:c5}(h:kD fV m1 fy k2)(bs:kD fy k2 Wu Wv):kD fV m1 Wu Wv:=λk ah ak=>let⟨a,b⟩:=h k ah ak;let⟨c,d⟩:=bs k ah a;⟨c,d.trans b⟩
@[simp] theorem aI.wu (σ:aI) (dst:Option Tmp) (r:aS):(σ.put dst r).objs=σ.objs:=by cases dst<;>rfl
def iJ(N:Nat)(m:Mem)(fr:eS)(ρ:c5)(σ:aI)(K:aI->Prop)(cx:Act)(w':World):Prop:= ∃aT cG cR,K aT/\m.le cG/\Den cG fr cR aT cx w'/\N<=cx.tmps.size/\cx.defers=[]/\kD σ ρ aT cR
def Den.put{m:Mem}{fr:eS}{ρ:c5}{σ:aI}{a:Act}{w:World}(h:Den m fr ρ σ a w){dst:Option Tmp}{r:aS}{v:Value}(au:b2 m ρ σ.used r v)(az:∀d,dst=some d->d<a.tmps.size):Den m fr ρ (σ.put dst r) (a.put dst v) w:=by
 cases dst with
 |none=>exact h
 |some d=>
  refine⟨h.mem,h.frame,h.apart,h.one,?_,h.objs,h.own,h.sep⟩;intro t;have bZ:=az d rfl;by_cases aF:t=d
  .subst aF;simp only[aI.put,ew,Act.put];have:(a.tmps.setIfInBounds t v).getD t undef=v:=by simp[Array.getD,bZ]
   rw[this];exact au
  simp only[aI.put,cU _ _ aF,Act.put];have:(a.tmps.setIfInBounds d v).getD t undef=a.tmps.getD t undef:=by rw[xbA,xbA,Array.getElem?_setIfInBounds,xab (Ne.symm aF)]
  rw[this];exact h.aJ t
def Pr{objs:cB}{k:Key}{o:cO}(h:eo (objs k)->eo (some o)):∀j,eo (objs j)->eo (cr objs k (some o) j):=by
 intro j aG;by_cases fm:j=k;.subst fm;rw[ew];exact h aG
 rw[cU _ _ fm];exact aG
def ahA{T:ca}{ev:Operand->aS}{objs:cB}{d:Key}{o:Op}{r:aS}{cE:List (Key×cO)}(h:dR T ev objs d o=some (r,cE)):∀j,10000<=j->eo (objs j)->eo (dp objs cE j):=by
 have new:∀{o:cO},objs d=none->∀j,10000<=j->eo (objs j)->eo (dp objs [(d,o)] j):=by intro o az j _;exact Pr (λh=>by rw[az]at h;exact absurd h uj) j
 have same:∀{k:Key}{dC o:cO},objs k=some dC->(eo (some dC)->eo (some o))->∀j,10000<=j->eo (objs j)->eo (dp objs [(k,o)] j):=by intro k dC o ah cf j _;exact Pr (λh=>by rw[ah]at h;exact cf h) j
 cases o<;>simp only[dR,reduceCtorEq]at h
 case alloc=>split at h<;>cases h;exact new (by assumption)
 case box=>split at h<;>cases h;exact new (by assumption)
 case buildSlice=>
  split at h
  case h_2=>cases h
  split at h
  case h_2=>cases h
  split at h
  case h_2=>cases h
  split at h<;>cases h;exact new (by assumption)
 case makeSlice=>
  split at h
  case h_2=>cases h
  split at h
  case h_2=>cases h
  split at h
  case h_2=>cases h
  split at h<;>cases h;exact new (by assumption)
 case makeMap=>split at h<;>cases h;exact new (by assumption)
 case store=>
  split at h
  case h_2=>cases h
  split at h
  case isFalse=>cases h
  split at h
  .split at h
   case h_2=>cases h
   split at h<;>cases h;exact λj _=>Pr (λ_=>ui) j
  .split at h
   case h_2=>cases h
   split at h
   case isFalse=>cases h
   split at h<;>cases h;exact same (by assumption) (λ_=>sK)
  cases h
 case mapUpdate=>
  split at h
  case h_2=>cases h
  split at h
  case h_2=>cases h
  split at h
  case isFalse=>cases h
  split at h
  case h_2=>cases h
  split at h
  case h_2=>cases h
  split at h<;>cases h;exact same (by assumption) (λ_=>wq)
 case insert=>
  split at h
  case h_2=>cases h
  split at h
  case h_2=>cases h
  split at h
  case isFalse=>cases h
  split at h
  case h_2=>cases h
  split at h
  case h_2=>cases h
  split at h<;>cases h;exact same (by assumption) (λ_=>wq)
 case call=>
  split at h
  .split at h
   case h_2=>cases h
   split at h
   case h_2=>cases h
   split at h
   case h_2=>cases h
   split at h
   case h_2=>cases h
   split at h
   case isFalse=>cases h
   split at h;.split at h<;>cases h;exact new (by assumption)
   .split at h
    case h_2=>cases h
    split at h<;>cases h;rename_i az _ _ _ _ _ _ _ _ _ _ _ _ ah _ _;rename_i Kd;intro j cn aG;have EP:j≠d:=by rintro rfl;simp_all [uj]
    simp only[dp];rw[cU _ _ EP,cU _ _ (by rintro rfl;exact absurd Kd.2.2.2 (Nat.not_lt.2 cn))];exact aG
   cases h
  .split at h
   case h_2=>cases h
   split at h
   case h_2=>cases h
   split at h
   case h_2=>cases h
   split at h
   case h_2=>cases h
   split at h
   case isFalse=>cases h
   split at h
   .split at h
    case h_2=>cases h
    split at h<;>cases h;exact same (by assumption) (λ_=>sK)
   .split at h
    case h_2=>cases h
    split at h<;>cases h;exact same (by assumption) (λ_=>sK)
   cases h
  .split at h
   case h_2=>cases h
   split at h
   case h_2=>cases h
   split at h
   case h_2=>cases h
   split at h
   case h_2=>cases h
   split at h
   case h_2=>cases h
   split at h<;>cases h;exact same (by assumption) (λ_=>sK)
  cases h
def Ww{T:ca}{ev:Operand->aS}{objs:cB}{d:Key}{o:Op}{k:Key}{off:Nat}{cE:List (Key×cO)}(h:dR T ev objs d o=some (.ptr k off,cE)):objs d=none:=by
 cases o<;>simp only[dR,reduceCtorEq]at h
 case alloc=>split at h<;>cases h;assumption
 case box=>split at h<;>cases h;assumption
 all_goals (repeat' split at h)<;>cases h
def Wx{T:ca}{ev:Operand->aS}{objs:cB}{d:Key}{o:Op}{cE:List (Key×cO)}(h:dR T ev objs d o=some (.row d,cE)):objs d=none:=by
 cases o<;>simp only[dR,reduceCtorEq]at h
 all_goals (repeat' split at h)<;>cases h<;>assumption
def ahB{T:ca}{ev:Operand->aS}{objs:cB}{d:Key}{o:Op}{r:aS}{cE:List (Key×cO)}(h:gK T ev objs d o=some (r,cE)):∀j,10000<=j->eo (objs j)->eo (dp objs cE j):=by
 obtain⟨⟨hx,sJ⟩,aq,ak⟩:=wm h;have ab:=ahA aq;intro j cn aG;have aC:∀{o:cO},objs d=none->j≠d:=by rintro o az rfl;rw[az]at aG;exact uj aG
 rcases yg (T.born d) d hx sJ with e|⟨n,es,rfl,rfl,e⟩|⟨p5,n,es,rfl,rfl,e⟩|⟨off,cs,ds,rfl,rfl,eh,e⟩;.rw[ak]at e;cases e;exact ab j cn aG
 .rw[ak]at e;cases e;have az:=aC (o:= .dead) (Wx aq);have:=ab j cn aG;simp only[dp,cU _ _ az]at this⊢;exact this
 .rw[ak]at e;cases e;have az:=aC (o:= .dead) (Wx aq);have:=ab j cn aG;simp only[dp,cU _ _ az]at this⊢;exact this
 rw[ak]at e;cases e;have az:=aC (o:= .dead) (Ww aq);simp only[dp,cU _ _ az];exact aG
section
variable{P:Program}{T:ca}{G:c9}{m:Mem}{fr:eS}{ρ:c5}{σ:aI}{a:Act}{w:World}{N:Nat}
def ahC(bb:dy P T)(cM:jv G m)(h:Den m fr ρ σ a w)(cd:N<=a.tmps.size)(hc:a.defers=[]){o:Oper}(gB:∀d,o.dst=some d->d<N){aT:aI}(av:gr T G σ o=some aT){K:aI->Prop}(gu:K aT){Q:Exit->Act->World->Prop}:o.wp P a w (iJ N m fr ρ σ K) Q:=by
 have dh:=Es (a:=a) cM h.aJ;have iK:∀d,o.dst=some d->d<a.tmps.size:=λd az=>xcm (gB d az) cd;have sL:∀v,N<=(a.put o.dst v).tmps.size:=by intro v;cases o.dst<;>simpa[Act.put]using cd
 have lY:∀v,(a.put o.dst v).defers=[]:=by intro v;cases o.dst<;>exact hc
 unfold Oper.wp;unfold gr at av;split at av;.rename_i r au;cases av;obtain⟨v,ab,ad⟩:=agJ (P:=P) (w:=w) (o:=o) bb h.one dh au;rw[ab];exact⟨_,m,ρ,gu,Mem.le_refl m,h.put ad iK,sL v,lY v,λk ah ak=>⟨by simpa using ak,rfl⟩⟩
 split at av;.rename_i r au;cases av;obtain⟨v,ab,ad⟩:=agR (P:=P) (w:=w) (o:=o) bb h.mem h.objs dh au;rw[ab];exact⟨_,m,ρ,gu,Mem.le_refl m,h.put ad iK,sL v,lY v,λk ah ak=>⟨by simpa using ak,rfl⟩⟩
 split at av
 case h_2=>cases av
 rename_i r cE au;cases av;obtain⟨nx,v,w',cG,cR,ab,ad,hm,ax,a8,b3⟩:=ahu (P:=P) (o:=o) bb h dh au;rw[ab];have fin:iJ N m fr ρ σ K (a.put o.dst v) w':=⟨_,cG,cR,gu,hm,ax.put a8 iK,sL v,lY v,λk ah ak=>⟨by rw[aI.wu];exact ahB au k ah ak,by obtain⟨c,ai⟩:=BB ak;exact(b3 k ⟨_,ai⟩).2⟩⟩;rcases ad with rfl|⟨rfl,rfl⟩
 .exact fin
 exact fin
def wv:aS->Option (FuncId×List aS×List aS)
 | .d (.val (.func (.func f) first cap))=>if first.size=0/\cap.size=0 then some (f,[],[])else none
 | .fn (.func f) first cap=>some (f,first,cap)
 | .d (.fn (.func f) first cap)=>some (f,first.map .d,cap.map .d)
 |_=>none
def BC:aS->Bool
 | .d _=>true| .ek _ _=>true|_=>false
def sM:aS->Bool
 | .agg cs=>cs.all BC| .fn _ as gb=>as.all BC&&gb.all BC|x=>BC x
def Ps{m:Mem}{ρ:c5}{U:Key->Prop}{objs:cB}{x:aS}{d:D}{v:Value}(h:BC x=true)(az:m0 objs x=some d)(aK:b2 m ρ U x v):cY m d v:=by
 cases x<;>first|cases h|skip
 .simp only[m0,qW]at az;cases az;exact aK.n5
 simp only[m0]at az;cases az;cases aK with|ek _ _ b o vs T dM hm xs ab ad=>exact .ref _ _ b o vs T dM hm xs ab ad
def Pt{m:Mem}{ρ:c5}{U:Key->Prop}{objs:cB}{cs:List aS}{ds:List D}{vs:Array Value}(h:cs.all BC=true)(az:hb (cs.map (m0 objs))=some ds)(an:vs.size=cs.length) (aK:∀(i:Nat)(c:aS)(v:Value),cs[i]?=some c->vs[i]?=some v->b2 m ρ U c v):vs.size=ds.length/\∀(i:Nat)(c:D)(v:Value),ds[i]?=some c->vs[i]?=some v->cY m c v:=by obtain⟨ab,ad⟩:=qX az;refine⟨by rw[ab,an];simp,λi c v ai ag=>?_⟩;have ax:=ad i c ai;simp only[xag,xaj]at ax;obtain⟨y,aP,wx⟩:=ax;exact Ps (xau.1 h y (xac aP)) wx (aK i y v aP ag)
def Pu{m:Mem}{ρ:c5}{U:Key->Prop}{objs:cB}{x:aS}{d:D}{v:Value}(h:sM x=true)(az:toD objs x=some d)(aK:b2 m ρ U x v):cY m d v:=by
 cases x
 case agg cs=>
  simp only[toD,oa]at az;split at az
  case h_2=>cases az
  rename_i ds eh;cases az;cases aK with|agg _ vs an bU=>
  obtain⟨g1,g2⟩:=Pt h eh an bU;exact .agg _ _ g1 g2
 case fn f as gb=>
  simp only[sM,xao]at h;simp only[toD,oa]at az;split at az
  case h_2=>cases az
  rename_i ds BD eh ahD;cases az;cases aK with|fn _ _ _ vs ws an en bU yh=>
  obtain⟨g1,g2⟩:=Pt h.1 eh an bU;obtain⟨g3,g4⟩:=Pt h.2 ahD en yh;exact .fn _ _ _ _ _ g1 g3 g2 g4
 case d y=>exact Ps (x:= .d y) rfl (by simpa[toD,oa]using az) aK
 case ek cs off=>exact Ps (x:= .ek cs off) rfl (by simpa[toD,oa]using az) aK
 all_goals cases h
def Wy(P:Program)(G:c9)(σ:aI)(dst:Option Tmp)(f:FuncId)(uk:List aS)(K:aI->Prop):Prop:= ∃m2 ds eE,hb (uk.map (toD σ.objs))=some m2/\qV m2 ds/\eD P G f ds eE/\(∃hx,eE=(·=hx))/\((∀r,eE r->r.flat=true)\/uk.all sM=true)/\∀r,eE r->K (σ.put dst (.d r))
def jk(P:Program)(G:c9)(o:Oper)(σ:aI)(K:aI->Prop):Prop:=match o.op with
 | .call ⟨.value x,args,_⟩=>match wv (b8 G σ.aJ x)with|some (f,pre,post)=>Wy P G σ o.dst f (pre++args.toList.map (b8 G σ.aJ)++post) K|none=>False
 |_=>False
def c3(P:Program)(T:ca)(G:c9)(o:Oper)(K:aI->Prop)(σ:aI):Prop:=match gr T G σ o with|some aT=>K aT|none=>jk P G o σ K
def dY(P:Program)(T:ca)(G:c9)(all:Array Oper)(o:Oper)(K:aI->Prop)(σ:aI):Prop:=match o.guard with
 |none=>c3 P T G o K σ
 |some (j,want)=>match(all[j]?).bind (·.dst)with
  |some d=>match σ.aJ d with
   | .d (.val (.bool b))=>if b=want then c3 P T G o K σ else K (σ.put o.dst (.d (.val (.tuple #[]))))
   | .d (.val (.tuple _))=>K (σ.put o.dst (.d (.val (.tuple #[]))))|_=>False
  |none=>False
def fg(P:Program)(T:ca)(G:c9)(all:Array Oper):List Oper->(aI->Prop)->aI->Prop
 |[],K,σ=>K σ|o::r,K,σ=>dY P T G all o (fg P T G all r K) σ
def Wz{va:Operand->Value}{x:Operand}{args:Array Operand}{dq:Array TypeId}{ty:TypeId}{f:FuncId}{first cap:Array Value}(ae:va x= .func (.func f) first cap)(ba:wo P f):(do let d<-resolve va {callee:= .value x,args:=args,argTypes:=dq} ty;invoke d.target d.args:Sem Next).run P w= .ok (.enter f (first++args.map va++cap)) w:=by obtain⟨fn,ab,ad,ax⟩:=ba;simp only[xah,resolve,ae,Deferred.ofValue,xav,xaf,invoke,callFunc,program,Sem.run,ab,ad,ax,xaq,xaA]
def ahE(cM:jv G m)(h:Den m fr ρ σ a w)(cd:N<=a.tmps.size)(hc:a.defers=[]){o:Oper}(gB:∀d,o.dst=some d->d<N){K:aI->Prop}(ai:jk P G o σ K){Q:Exit->Act->World->Prop}:o.wp P a w (iJ N m fr ρ σ K) Q:=by
 have dh:=Es (a:=a) cM h.aJ;have iK:∀d,o.dst=some d->d<a.tmps.size:=λd az=>xcm (gB d az) cd;have sL:∀v,N<=(a.put o.dst v).tmps.size:=by intro v;cases o.dst<;>simpa[Act.put]using cd
 have lY:∀v,(a.put o.dst v).defers=[]:=by intro v;cases o.dst<;>exact hc
 unfold jk at ai;split at ai
 case h_2=>cases ai
 rename_i x args dq dI;split at ai
 case h_2=>cases ai
 rename_i f pre post gv;obtain⟨m2,ds,eE,ab,ad,ax,a8,b3,cI⟩:=ai;have ae:=dh x;have Pv:∃first cap,a.eval x= .func (.func f) first cap/\first.size=pre.length/\cap.size=post.length/\(∀(i:Nat)(c:aS)(v:Value),pre[i]?=some c->first[i]?=some v->b2 m ρ σ.used c v)/\(∀(i:Nat)(c:aS)(v:Value),post[i]?=some c->cap[i]?=some v->b2 m ρ σ.used c v):=by
  unfold wv at gv;split at gv
  .rename_i kj first cap he
   split at gv
   case isFalse=>cases gv
   rename_i aq;cases gv;rw[he]at ae;exact⟨first,cap,ae.hj,by simpa using aq.1,by simpa using aq.2,by intro i c v ai;simp at ai,by intro i c v ai;simp at ai⟩
  .rename_i kj first cap he
   cases gv;rw[he]at ae;generalize a.eval x=u at ae;cases ae with|fn _ _ _ vs ws an en g qY=>exact⟨vs,ws,rfl,an,en,g,qY⟩
  .rename_i kj first cap he
   cases gv;rw[he]at ae;have ae:=ae.n5;generalize a.eval x=u at ae;cases ae with|fn _ _ _ vs ws an en g qY=>
   refine⟨vs,ws,rfl,by simpa using an,by simpa using en,?_,?_⟩;.intro i c v ai aK;simp only[xag,xaj]at ai;obtain⟨y,aP,rfl⟩:=ai;exact .d _ _ (g i y v aP aK)
   intro i c v ai aK;simp only[xag,xaj]at ai;obtain⟨y,aP,rfl⟩:=ai;exact .d _ _ (qY i y v aP aK)
  .cases gv
 obtain⟨first,cap,p1,mZ,jh,g1,g2⟩:=Pv;have fS:∀(i:Nat)(c:aS)(v:Value),(pre++args.toList.map (b8 G σ.aJ)++post)[i]?=some c->(first++args.map a.eval++cap).toList[i]?=some v->b2 m ρ σ.used c v:=by
  intro i c v ai aK;simp only[Array.toList_append,Array.toList_map]at aK;have aN:first.toList.length=pre.length:=by simpa using mZ
  by_cases ab:i<pre.length;.rw[xaP,xaC ab]at ai;rw[xaP,xaC (by omega)]at aK;exact g1 i c v ai (by simpa using aK)
  .by_cases ad:i<pre.length+args.size;.rw[xaC (by simp;omega),xaD (by omega)]at ai;rw[xaC (by simp;omega),xaD (by omega),aN]at aK;simp only[xag,xaj]at ai aK;obtain⟨p,aU,rfl⟩:=ai;obtain⟨q,bP,rfl⟩:=aK;rw[aU]at bP;cases bP;exact dh _
   rw[xaD (by simp;omega)]at ai;rw[xaD (by simp;omega)]at aK;refine g2 _ c v ai ?_;rw[<-aK];simp only[xaw,xaV,xbE,mZ];simp
 have bH:(first++args.map a.eval++cap).toList.length=(pre++args.toList.map (b8 G σ.aJ)++post).length:=by simp[mZ,jh]
 have Pw:(execOp a.eval o).run P w= .ok (.enter f (first++args.map a.eval++cap)) w:=by unfold execOp;rw[dI];exact Wz p1 ax.fn
 unfold Oper.wp;rw[Pw];rcases b3 with b3|b3
 ·
  have cK:=qV.ok ad (ahy h bH fS ab);have sN:=ax.run _ fr w _ (cM.mono (Den.BA m ρ σ.objs w)) h.Wo cK;simp only[Array.toArray_toList]at sN;refine sN.mono λe w' he=>?_;obtain⟨v,cG,r,rfl,bG,bw,cl,dA⟩:=he;have bW:=h.ahz bw cl;exact⟨_,m,ρ,cI r bG,Mem.le_refl m,bW.put (.d _ _ (D.ahw (b3 r bG) dA)) iK,sL v,lY v,λk ah ak=>⟨by simpa using ak,rfl⟩⟩
 have Px:n9 m m2 (first++args.map a.eval++cap).toList:=by obtain⟨g1,g2⟩:=qX ab;refine⟨by rw[bH,g1];simp,?_⟩;intro i d v az aK;have g3:=g2 i d az;rw[xag,xaj]at g3;obtain⟨y,aP,um⟩:=g3;exact Pu (xau.1 b3 y (xac aP)) um (fS i y v aP aK)
 have sN:=ax.run m _ w _ cM h.Wt (qV.ok ad Px);simp only[Array.toArray_toList]at sN;refine sN.mono λe w' he=>?_;obtain⟨v,cG,r,rfl,bG,bw,cl,dA⟩:=he;have bW:=h.kept bw cl;exact⟨_,cG,ρ,cI r bG,bw,bW.put (.d _ _ dA) iK,sL v,lY v,λk ah ak=>⟨by simpa using ak,rfl⟩⟩
def Py(bb:dy P T)(cM:jv G m)(h:Den m fr ρ σ a w)(cd:N<=a.tmps.size)(hc:a.defers=[]){o:Oper}(gB:∀d,o.dst=some d->d<N){K:aI->Prop}(ai:c3 P T G o K σ){Q:Exit->Act->World->Prop}:o.wp P a w (iJ N m fr ρ σ K) Q:=by
 unfold c3 at ai;split at ai;.exact ahC bb cM h cd hc gB (by assumption) ai
 exact ahE cM h cd hc gB ai
def Pz(bb:dy P T)(cM:jv G m)(h:Den m fr ρ σ a w)(cd:N<=a.tmps.size)(hc:a.defers=[]){all:Array Oper}{i:Nat}{o:Oper}(ag:all[i]?=some o)(gB:∀d,o.dst=some d->d<N){K:aI->Prop}(ai:dY P T G all o K σ) {Q:Exit->Act->World->Prop}:wpOp P all Q i (iJ N m fr ρ σ K) a w:=by
 have iK:∀d,o.dst=some d->d<a.tmps.size:=λd az=>xcm (gB d az) cd;unfold wpOp;simp only[ag];unfold dY at ai;split at ai
 .rename_i bB;have:Region.wanted o (yielded all a.tmps)=true:=by simp[Region.wanted,bB]
  rw[xaa this];exact .inl (Py bb cM h cd hc gB ai)
 rename_i j want bB;split at ai
 case h_2=>cases ai
 rename_i d az;have hd:∀v,a.tmps.getD d undef=v->yielded all a.tmps j=(match v with| .bool b=>some b|_=>none):=by intro v aK;unfold yielded;rw[az];simp only[Option.bind_some];rw[xbA]at aK;cases bZ:a.tmps[d]? with|none=>rw[bZ]at aK;simp only[Option.getD_none]at aK;subst aK;rfl|some u=>rw[bZ]at aK;simp only[xbm]at aK;subst aK;cases u<;>rfl
 have skip:Region.wanted o (yielded all a.tmps)=false->K (σ.put o.dst (.d (.val (.tuple #[]))))->iJ N m fr ρ σ K (a.put o.dst undef) w:=λ_ ah=>⟨_,m,ρ,ah,Mem.le_refl m,h.put (.d _ _ (.val _)) iK,by cases o.dst<;>simpa[Act.put]using cd,by cases o.dst<;>exact hc,λk ah ak=>⟨by simpa using ak,rfl⟩⟩;split at ai
 .rename_i b av;have aK:=h.aJ d;rw[av]at aK;have aP:=hd _ aK.hj;simp only at aP;have hw:Region.wanted o (yielded all a.tmps)=(b==want):=by
   simp only[Region.wanted,bB,aP];cases b<;>cases want<;>rfl
  by_cases ak:b=want;.rw[xaa ak]at ai;rw[hw,xaa (by simpa using ak)];exact .inl (Py bb cM h cd hc gB ai)
  rw[xab ak]at ai;have ba:Region.wanted o (yielded all a.tmps)=false:=by rw[hw];simpa using ak
  rw[xab (by rw[ba];simp)];exact skip ba ai
 .rename_i vs av;have aK:=h.aJ d;rw[av]at aK;have aP:=hd _ aK.hj;simp only at aP;have ba:Region.wanted o (yielded all a.tmps)=false:=by
   simp only[Region.wanted,bB,aP];rfl
  rw[xab (by rw[ba];simp)];exact skip ba ai
 cases ai
def wpOp_mono{ops:Array Oper}{Q:Exit->Act->World->Prop}{i:Nat}{K K':Act->World->Prop}(ah:∀a w,K a w->K' a w){a:Act}{w:World}(h:wpOp P ops Q i K a w):wpOp P ops Q i K' a w:=by
 unfold wpOp at*;split;.rename_i e;simp only[e]at h;exact ah _ _ h
 rename_i o e;simp only[e]at h;split
 .rename_i hw;rw[xaa hw]at h;rcases h with h|h
  .refine .inl ?_;unfold Oper.wp at*;generalize (execOp a.eval o).run P w=r at*;cases r with
   |ok n w'=>
    cases n<;>simp only[Oper.upon]at h⊢<;>first|exact ah _ _ h|exact h|skip
    .refine h.mono λe kE he=>?_;cases e with|returned v=>exact ah _ _ he|panicked c=>exact he|outgrown=>exact he
    exact h.mono λv kE he=>ah _ _ he
   |halt x w'=>cases x<;>exact h
  exact .inr h
 rename_i hw;rw[xab hw]at h;exact ah _ _ h
end
def Ke{ev iL:Operand->aS}{l:List Operand}(h:∀x∈l,ev x=iL x):l.map ev=l.map iL:=List.map_congr_left h
theorem WA{ev iL:Operand->aS}{jy:Array (Nat×Operand)}(h:∀x∈(jy.toList.map (·.2)),ev x=iL x):(jy.toList.map λp=>(p.1,ev p.2))=jy.toList.map λp=>(p.1,iL p.2):=List.map_congr_left λp aU=>by rw[h p.2 (xaR.2 ⟨p,aU,rfl⟩)]
def ahF{T:ca}{ev iL:Operand->aS}{op:Op}(h:∀x∈op.operands.toList,ev x=iL x):dW T ev op=dW T iL op:=by
 cases op<;>simp only[dW]
 case move x=>rw[h x (by simp[Op.operands])]
 case assign x=>rw[h x (by simp[Op.operands])]
 case pick c a b=>rw[h c (by simp[Op.operands]),h a (by simp[Op.operands]),h b (by simp[Op.operands])]
 case binOp op t x y x4=>rw[h x (by simp[Op.operands]),h y (by simp[Op.operands])]
 case unOp op t x=>rw[h x (by simp[Op.operands])]
 case convert s t x=>rw[h x (by simp[Op.operands])]
 case fieldAddr s x f=>rw[h x (by simp[Op.operands])]
 case field s x f=>rw[h x (by simp[Op.operands])]
 case extract x i=>rw[h x (by simp[Op.operands])]
 case build t parts=>rw[WA (by simpa[Op.operands]using h)]
 case index t x i=>rw[h x (by simp[Op.operands]),h i (by simp[Op.operands])]
 case makeFunc f first cap=>rw[Ke (l:=first.toList) (λx ae=>h x (by simp[Op.operands]at ae⊢;exact .inl ae)),Ke (l:=cap.toList) (λx ae=>h x (by simp[Op.operands]at ae⊢;exact .inr ae))]
 case makeInterface t x=>rw[h x (by simp[Op.operands])]
 case nilCheck x=>rw[h x (by simp[Op.operands])]
 case slice t x lo ag fw=>
  cases fw with
  |some _=>rfl
  |none=>
   simp only[dW];have aN:lo.map ev=lo.map iL:=by cases lo with|none=>rfl|some l=>simp only[xaK];rw[h l (by simp[Op.operands])]
   have aV:ag.map ev=ag.map iL:=by cases ag with|none=>rfl|some l=>simp only[xaK];rw[h l (by simp[Op.operands])]
   rw[h x (by simp[Op.operands]),aN,aV]
 case call c=>obtain⟨callee,args,dq⟩:=c;simp only;have e:args.toList.map ev=args.toList.map iL:=Ke λx ae=>h x (by simp[Op.operands,Call.operands]at ae⊢;exact .inr ae);rw[e]
def ahG{T:ca}{ev iL:Operand->aS}{objs:cB}{op:Op}(h:∀x∈op.operands.toList,ev x=iL x):dn T ev objs op=dn T iL objs op:=by
 cases op<;>simp only[dn]
 case convert s t x=>rw[h x (by simp[Op.operands])]
 case load t a=>rw[h a (by simp[Op.operands])]
 case indexAddr t x eT=>rw[h x (by simp[Op.operands]),h eT (by simp[Op.operands])]
 case slice t x lo ag fw=>
  cases fw with
  |some _=>rfl
  |none=>
   simp only[dn];have aN:lo.map ev=lo.map iL:=by cases lo with|none=>rfl|some l=>simp only[xaK];rw[h l (by simp[Op.operands])]
   have aV:ag.map ev=ag.map iL:=by cases ag with|none=>rfl|some l=>simp only[xaK];rw[h l (by simp[Op.operands])]
   rw[h x (by simp[Op.operands]),aN,aV]
 case call c=>
  obtain⟨callee,args,dq⟩:=c;simp only;split
  .split
   .rename_i t x lk ji;have aH:args= #[x]:=by apply xbG;simpa using ji
    have e:ev x=iL x:=h x (by simp[Op.operands,Call.operands,aH]);rw[e]
   rfl
  rfl
 case lookup t x k ok=>rw[h x (by simp[Op.operands]),h k (by simp[Op.operands])]
 case binOp op t x y x4=>rw[h x (by simp[Op.operands]),h y (by simp[Op.operands])]
def ahH{T:ca}{ev iL:Operand->aS}{objs:cB}{d:Key}{op:Op}(h:∀x∈op.operands.toList,ev x=iL x):dR T ev objs d op=dR T iL objs d op:=by
 cases op<;>simp only[dR]
 case box t x=>rw[h x (by simp[Op.operands])]
 case buildSlice t n parts=>rw[WA (by simpa[Op.operands]using h)]
 case makeSlice t l c=>rw[h l (by simp[Op.operands]),h c (by simp[Op.operands])]
 case store t a x=>rw[h a (by simp[Op.operands]),h x (by simp[Op.operands])]
 case mapUpdate t m k x=>rw[h m (by simp[Op.operands]),h k (by simp[Op.operands]),h x (by simp[Op.operands])]
 case insert t m k x=>rw[h m (by simp[Op.operands]),h k (by simp[Op.operands]),h x (by simp[Op.operands])]
 case call c=>
  obtain⟨callee,args,dq⟩:=c;simp only;split
  .split
   .rename_i t t' s x lk ji;have aH:args= #[s,x]:=by apply xbG;simpa using ji
    have aN:ev s=iL s:=h s (by simp[Op.operands,Call.operands,aH]);have aV:ev x=iL x:=h x (by simp[Op.operands,Call.operands,aH]);rw[aN,aV]
   rfl
  .split
   .rename_i t t' s x lk ji;have aH:args= #[s,x]:=by apply xbG;simpa using ji
    have aN:ev s=iL s:=h s (by simp[Op.operands,Call.operands,aH]);have aV:ev x=iL x:=h x (by simp[Op.operands,Call.operands,aH]);rw[aN,aV]
   rfl
  .split
   .rename_i t s lk ji;have aH:args= #[s]:=by apply xbG;simpa using ji
    rw[h s (by simp[Op.operands,Call.operands,aH])]
   rfl
  rfl
def ahI{T:ca}{ev iL:Operand->aS}{objs:cB}{d:Key}{op:Op}(h:∀x∈op.operands.toList,ev x=iL x):gK T ev objs d op=gK T iL objs d op:=by unfold gK;rw[ahH h]
def iy:Op->Bool
 | .move _| .assign _| .pick ..| .unOp ..| .fieldAddr ..| .field ..| .extract ..| .build ..| .index ..| .makeFunc ..| .makeInterface ..| .nilCheck _=>true|_=>false
def iR:Op->Bool
 | .load ..| .indexAddr ..| .slice ..| .lookup ..| .binOp ..| .convert ..=>true| .call ⟨.builtin b,_,_⟩=>match b with| .len| .max| .min=>true|_=>false
 |_=>false
def hf:Op->Bool
 | .call ⟨.value _,_,_⟩=>true|_=>false
def p7:Op->Bool
 | .alloc _| .box ..| .buildSlice ..=>true|_=>false
theorem BE{T:ca}{ev:Operand->aS}{objs:cB}{d:Key}{op:Op}(h:iy op=true):dn T ev objs op=none/\gK T ev objs d op=none:=by cases op<;>first|exact⟨rfl,rfl⟩|cases h
def BF{T:ca}{ev:Operand->aS}{objs:cB}{d:Key}{op:Op}(h:iR op=true):gK T ev objs d op=none:=by
 cases op
 case call c=>
  obtain⟨callee,args,dq⟩:=c;cases callee with
  |value=>cases h
  |invoke=>cases h
  |builtin b=>cases b<;>first|rfl|cases h
 all_goals first|rfl|cases h
def PA{T:ca}{ev:Operand->aS}{objs:cB}{d:Key}{op:Op}(h:hf op=true):dW T ev op=none/\dn T ev objs op=none/\gK T ev objs d op=none:=by
 cases op
 case call c=>
  obtain⟨callee,args,dq⟩:=c;cases callee with
  |value=>exact⟨rfl,rfl,rfl⟩|invoke=>cases h
  |builtin b=>cases h
 all_goals cases h
theorem qZ{T:ca}{ev:Operand->aS}{objs:cB}{op:Op}(h:p7 op=true):dW T ev op=none/\dn T ev objs op=none:=by cases op<;>first|exact⟨rfl,rfl⟩|cases h
def ahJ{T:ca}{ev:Operand->aS}{objs objs':cB}{d:Key}{op:Op}(h:p7 op=true)(aq:objs' d=none){r:aS}{cE:List (Key×cO)}(he:dR T ev objs d op=some (r,cE)):dR T ev objs' d op=some (r,cE)/\objs d=none/\∃o,cE=[(d,o)]:=by
 cases op
 case alloc t=>
  simp only[dR]at he⊢;split at he
  case h_2=>cases he
  rename_i i aF az;cases he;exact⟨by simp only[aq,aF],az,_,rfl⟩
 case box t x=>
  simp only[dR]at he⊢;split at he
  case h_2=>cases he
  rename_i cs ai az;cases he;exact⟨by simp only[aq,ai],az,_,rfl⟩
 case buildSlice t n parts=>
  simp only[dR]at he⊢;split at he
  case h_2=>cases he
  rename_i e s b z aF az;simp only[aq,aF];split at he
  case h_2=>cases he
  rename_i bj iw
  try simp only[iw]
  split at he
  case h_2=>cases he
  rename_i es aU
  try simp only[aU]
  split at he
  case isFalse=>cases he
  rename_i ai;cases he;exact⟨by rw[xaa ai],az,_,rfl⟩
 all_goals cases h
def BG{T:ca}{ev:Operand->aS}{objs objs':cB}{d:Key}{op:Op}(h:p7 op=true)(aq:objs' d=none){r:aS}{cE:List (Key×cO)}(he:gK T ev objs d op=some (r,cE)):gK T ev objs' d op=some (r,cE)/\objs d=none/\∃o,cE=[(d,o)]:=by
 obtain⟨⟨hx,sJ⟩,g0,ak⟩:=wm he;obtain⟨g1,g2,o,rfl⟩:=ahJ (objs':=objs') h aq g0;refine⟨by unfold gK;rw[g1];simp[ak],g2,?_⟩;rcases yg (T.born d) d hx [(d,o)]with e|⟨n,es,aN,aV,e⟩|⟨p5,n,es,aN,aV,e⟩|⟨off,cs,ds,aN,aV,eh,e⟩;.rw[ak]at e;cases e;exact⟨o,rfl⟩
 .rw[ak]at e;cases e;exact⟨_,rfl⟩
 .cases aV
 rw[ak]at e;cases e;exact⟨_,rfl⟩
def cB.ext(objs objs':cB):Prop:=∀k o,objs k=some o->objs' k=some o
def cB.Kf{objs:cB}{k:Key}(h:objs k=none)(o:cO):objs.ext (cr objs k (some o)):=by
 intro j x ae;have:j≠k:=by rintro rfl;rw[h]at ae;cases ae
 rw[cU _ _ this];exact ae
def WB{objs objs':cB}(h:objs.ext objs'){x:aS}{n:Nat}(an:jQ objs x=some n):jQ objs' x=some n:=by
 unfold jQ at*;split at an;.exact an
 .exact an
 .split at an;.rename_i ah;rw[h _ _ ah];exact an
  cases an
 .exact an
 cases an
def ahK{objs objs':cB}(h:objs.ext objs'){x:aS}{es:List (List D)}(an:p2 objs x=some es):p2 objs' x=some es:=by
 unfold p2 at*;split at an;.exact an
 .exact an
 .split at an;.rename_i ah;rw[h _ _ ah];exact an
  cases an
 .split at an;.rename_i ah;rw[h _ _ ah];exact an
  cases an
 cases an
def Kg{objs objs':cB}(h:objs.ext objs'){x:aS}{b:Bool}(an:mn objs x=some b):mn objs' x=some b:=by
 unfold mn at*;split at an;.exact an
 .exact an
 .split at an;.rename_i ah;rw[h _ _ ah];exact an
  cases an
 cases an
def WC{objs objs':cB}(h:objs.ext objs'){x:aS}{d:D}(an:qW objs x=some d):qW objs' x=some d:=by
 unfold qW at*;split at an;.exact an
 .split at an;.rename_i ah;rw[h _ _ ah];exact an
  cases an
 .split at an;.rename_i ah;rw[h _ _ ah];exact an
  cases an
 .split at an;.rename_i ah;rw[h _ _ ah];exact an
  cases an
 cases an
def o8{α:Type}{f g:aS->Option α}(h:∀x d,f x=some d->g x=some d):∀(l:List aS)(r:List α),hb (l.map f)=some r->hb (l.map g)=some r
 |[],r,au=>au
 |x::l,r,au=>by
  simp only[xay]at au⊢;cases ae:f x with
  |none=>simp[ae,hb]at au
  |some d=>
   rw[ae]at au;simp only[hb]at au;split at au
   case h_2=>cases au
   rename_i nj en;rw[h x d ae];simp only[hb,o8 h l nj en];exact au
def Kh{objs objs':cB}(h:objs.ext objs'){x:aS}{d:D}(an:m0 objs x=some d):m0 objs' x=some d:=by
 unfold m0 at*;split at an
 .split at an
  case h_2=>cases an
  rename_i ah;simp only[h _ _ ah];split at an
  case h_2=>cases an
  rename_i cs gT;rw[o8 (λx d ae=>WC h ae) _ _ gT];exact an
 .exact an
 exact WC h an
def WD{objs objs':cB}(h:objs.ext objs'){x:aS}{d:D}(an:oa objs x=some d):oa objs' x=some d:=by
 unfold oa at*;split at an
 .split at an
  case h_2=>cases an
  rename_i ds eh;rw[o8 (λx d ae=>Kh h ae) _ _ eh];exact an
 .split at an
  case h_2=>cases an
  rename_i as gb has EN;rw[o8 (λx d ae=>Kh h ae) _ _ has,o8 (λx d ae=>Kh h ae) _ _ EN];exact an
 exact Kh h an
def ahL{objs objs':cB}(h:objs.ext objs'){x:aS}{d:D}(an:toD objs x=some d):toD objs' x=some d:=by
 unfold toD at*;split at an
 .split at an
  case h_2=>cases an
  rename_i ds eh;rw[o8 (λx d ae=>WD h ae) _ _ eh];exact an
 exact WD h an
def ahM{T:ca}{ev:Operand->aS}{objs objs':cB}(h:objs.ext objs'){op:Op}{r:aS}(hm:dn T ev objs op=some r):dn T ev objs' op=some r:=by
 cases op<;>simp only[dn,reduceCtorEq]at hm⊢
 case convert s t x=>
  split at hm
  case h_2=>cases hm
  rename_i aN aV;split at hm
  case h_2=>cases hm
  rename_i bS;split at hm
  case h_2=>cases hm
  rename_i es he;simp only[aN,aV,bS,ahK h he];exact hm
 case load t a=>
  split at hm
  case h_2=>cases hm
  split at hm;.exact hm
  .split at hm
   case h_2=>cases hm
   rename_i ah;simp only[h _ _ ah];exact hm
  .split at hm
   case h_2=>cases hm
   rename_i ah;simp only[h _ _ ah];exact hm
  cases hm
 case indexAddr t x eT=>
  split at hm
  .split at hm
   case h_2=>cases hm
   split at hm
   case isFalse=>cases hm
   rename_i aq;rw[xaa aq];split at hm;.exact hm
   .split at hm
    case h_2=>cases hm
    rename_i ah;simp only[h _ _ ah];exact hm
   .exact hm
   cases hm
  .exact hm
  cases hm
 case slice t x lo ag fw=>
  cases fw with
  |some _=>simp[dn]at hm
  |none=>
   simp only[dn]at hm⊢;split at hm
   case h_3=>cases hm
   case h_2=>exact hm
   split at hm
   case h_2=>cases hm
   split at hm
   case h_2=>cases hm
   rename_i n aC;simp only[WB h aC];split at hm
   case h_2=>cases hm
   split at hm
   case isFalse=>cases hm
   rename_i ai;rw[xaa ai];split at hm;.exact hm
   .split at hm
    case h_2=>cases hm
    rename_i ah;simp only[h _ _ ah];exact hm
   .exact hm
   cases hm
 case call c=>
  split at hm
  case h_2=>cases hm
  split at hm
  case h_2=>cases hm
  split at hm;.exact hm
  .split at hm
   case h_2=>cases hm
   rename_i n aC;simp only[WB h aC];exact hm
  .exact hm
  .exact hm
  .split at hm
   case h_2=>cases hm
   rename_i ah;simp only[h _ _ ah];exact hm
  cases hm
 case lookup t x k ok=>
  split at hm
  case h_2=>cases hm
  split at hm;.exact hm
  .exact hm
  .split at hm
   case h_2=>cases hm
   rename_i ah;simp only[h _ _ ah];exact hm
  cases hm
 case binOp op t x y x4=>
  split at hm
  case h_2=>cases hm
  split at hm
  .split at hm
   .rename_i ai;rw[xaa ai];split at hm
    case h_2=>cases hm
    rename_i b ak;simp only[Kg h ak];exact hm
   rename_i ai;rw[xab ai];split at hm
   case isFalse=>cases hm
   rename_i ob;rw[xaa ob];split at hm
   case h_2=>cases hm
   rename_i b ak;simp only[Kg h ak];exact hm
  .split at hm
   .rename_i ai;rw[xaa ai];split at hm
    case h_2=>cases hm
    rename_i b ak;simp only[Kg h ak];exact hm
   rename_i ai;rw[xab ai];split at hm
   case isFalse=>cases hm
   rename_i ob;rw[xaa ob];split at hm
   case h_2=>cases hm
   rename_i b ak;simp only[Kg h ak];exact hm
  cases hm
def WE:∀(cE:List (Key×cO)) {objs:cB} {k:Key} {o:cO},(∀p∈cE,p.1≠k)->dp (cr objs k (some o)) cE=cr (dp objs cE) k (some o)
 |[],objs,k,o,_=>rfl
 |(j,x)::r,objs,k,o,h=>by
  have aG:j≠k:=h (j,x) (by simp);simp only[dp];have e:cr (cr objs k (some o)) j (some x)=cr (cr objs j (some x)) k (some o):=by
   funext i
   simp only[cr];by_cases ab:i=j;.subst ab;simp[aG]
   by_cases ad:i=k;.subst ad;simp[ab]
   simp[ab,ad]
  rw[e];exact WE r (λp aU=>h p (by simp[aU]))
def Ki{objs objs':cB}(h:objs.ext objs'){x:aS}{r:Nat×List (List D)}(an:lU objs x=some r):lU objs' x=some r:=by
 unfold lU at*;split at an;.exact an
 .exact an
 .split at an;.rename_i ah;rw[h _ _ ah];exact an
  cases an
 .split at an;.rename_i ah;rw[h _ _ ah];exact an
  cases an
 cases an
def ahN{T:ca}{ev:Operand->aS}{objs objs':cB}(h:objs.ext objs'){d k:Key}(az:d≠k)(ah:objs k=none)(lp:objs d=none->objs' d=none){op:Op}{r:aS}{cE:List (Key×cO)} (he:dR T ev objs d op=some (r,cE)):dR T ev objs' d op=some (r,cE)/\∀p∈cE,p.1≠k:=by
 have one:∀{o:cO},∀p∈[(d,o)],p.1≠k:=by intro o p aU;simp at aU;subst aU;exact az
 have jx:∀{j:Key}{x o:cO},objs j=some x->∀p∈[(j,o)],p.1≠k:=by intro j x o aG p aU;simp at aU;subst aU;rintro rfl;rw[ah]at aG;cases aG
 cases op<;>simp only[dR,reduceCtorEq]at he
 case alloc t=>split at he<;>cases he;rename_i i aF aq;exact⟨by simp only[dR,aF,lp aq],one⟩
 case box t x=>split at he<;>cases he;rename_i cs ai aq;exact⟨by simp only[dR,ai,lp aq],one⟩
 case buildSlice t n parts=>
  split at he
  case h_2=>cases he
  rename_i e s b z aF aq;split at he
  case h_2=>cases he
  rename_i bj iw;split at he
  case h_2=>cases he
  rename_i es aU;split at he
  case isFalse=>cases he
  rename_i ai;cases he;exact⟨by simp only[dR,aF,lp aq,iw,aU];rw[xaa ai],one⟩
 case makeSlice t l c=>
  split at he
  case h_2=>cases he
  rename_i e s b z aF aq;split at he
  case h_2=>cases he
  rename_i bj iw;split at he
  case h_2=>cases he
  rename_i J1 ahm J2 J8 ab ad;split at he
  case isFalse=>cases he
  rename_i ai;cases he;exact⟨by simp only[dR,aF,lp aq,iw,ab,ad];rw[xaa ai],one⟩
 case makeMap t r=>split at he<;>cases he;rename_i aq;exact⟨by simp only[dR,lp aq],one⟩
 case store t a x=>
  split at he
  case h_2=>cases he
  rename_i i cs aF ai;split at he
  case isFalse=>cases he
  rename_i an;split at he
  .rename_i j off iI;split at he
   case h_2=>cases he
   rename_i cells aG;split at he
   case isFalse=>cases he
   rename_i ba;cases he;exact⟨by simp only[dR,aF,ai,iI,h _ _ aG];rw[xaa an,xaa ba],jx aG⟩
  .rename_i j cN eT off iI;split at he
   case h_2=>cases he
   rename_i bu es ds aG eh;split at he
   case isFalse=>cases he
   rename_i ba;split at he
   case h_2=>cases he
   rename_i el eN;cases he;exact⟨by simp only[dR,aF,ai,iI,h _ _ aG,eh];rw[xaa an,xaa ba];simp only[eN],jx aG⟩
  cases he
 case mapUpdate t m ahO x=>
  split at he
  case h_2=>cases he
  rename_i hU h9 s b z aF;split at he
  case h_2=>cases he
  rename_i hK sH;split at he
  case isFalse=>cases he
  rename_i dd;split at he
  case h_2=>cases he
  rename_i key eB Pn aN aV bS;split at he
  case h_2=>cases he
  rename_i es aG;split at he
  case h_2=>cases he
  rename_i l an;cases he;exact⟨by simp only[dR,aF,sH,aN,aV,bS,h _ _ aG,an];rw[xaa dd],jx aG⟩
 case insert t m ahO x=>
  split at he
  case h_2=>cases he
  rename_i hU h9 s b z aF;split at he
  case h_2=>cases he
  rename_i hK sH;split at he
  case isFalse=>cases he
  rename_i dd;split at he
  case h_2=>cases he
  rename_i key eB Pn aN aV bS;split at he
  case h_2=>cases he
  rename_i es aG;split at he
  case h_2=>cases he
  rename_i l an;cases he;exact⟨by simp only[dR,aF,sH,aN,aV,bS,h _ _ aG,an];rw[xaa dd],jx aG⟩
 case call c=>
  obtain⟨callee,args,dq⟩:=c;simp only at he;split at he
  .split at he
   case h_2=>cases he
   rename_i t t' s x lk ji;split at he
   case h_2=>cases he
   rename_i e s1 e3 jw c1 s2 hW z2 aF ug aq;split at he
   case h_2=>cases he
   rename_i bj iw;split at he
   case h_2=>cases he
   rename_i cN xs lX;split at he
   case isFalse=>cases he
   rename_i ai;split at he
   .rename_i gj;split at he
    case isFalse=>cases he
    rename_i ak;cases he;exact⟨by simp only[dR,lk,ji,aF,ug,lp aq,iw,Ki h lX,gj];rw[xaa ai,xaa ak],one⟩
   .rename_i key gj;split at he
    case h_2=>cases he
    rename_i bu es aG;split at he
    case isFalse=>cases he
    rename_i ak;cases he;refine⟨by simp only[dR,lk,ji,aF,ug,lp aq,iw,Ki h lX,gj,h _ _ aG];rw[xaa ai,xaa ak],?_⟩;intro p aU;simp at aU;rcases aU with rfl|rfl
    .rintro rfl;rw[ah]at aG;cases aG
    exact az
   cases he
  .split at he
   case h_2=>cases he
   rename_i t t' s x lk ji;split at he
   case h_2=>cases he
   rename_i e s1 e3 jw aF;split at he
   case h_2=>cases he
   rename_i bj iw;split at he
   case h_2=>cases he
   rename_i cN xs lX;split at he
   case isFalse=>cases he
   rename_i ai;split at he
   .rename_i key gj;split at he
    case h_2=>cases he
    rename_i bu es aG;split at he
    case isFalse=>cases he
    rename_i ak;cases he;exact⟨by simp only[dR,lk,ji,aF,iw,Ki h lX,gj,h _ _ aG];rw[xaa ai,xaa ak],jx aG⟩
   .rename_i key dv i len gj;split at he
    case h_2=>cases he
    rename_i bu es aG;split at he
    case isFalse=>cases he
    rename_i ak;cases he;exact⟨by simp only[dR,lk,ji,aF,iw,Ki h lX,gj,h _ _ aG];rw[xaa ai,xaa ak],jx aG⟩
   cases he
  .split at he
   case h_2=>cases he
   rename_i t s lk ji;split at he
   case h_2=>cases he
   rename_i e s1 e3 jw aF;split at he
   case h_2=>cases he
   rename_i bj iw;split at he
   case h_2=>cases he
   rename_i key dv i len gj;split at he
   case h_2=>cases he
   rename_i bu es aG;split at he
   case isFalse=>cases he
   rename_i ak;cases he;exact⟨by simp only[dR,lk,ji,aF,iw,gj,h _ _ aG];rw[xaa ak],jx aG⟩
  cases he
def ahP{T:ca}{ev:Operand->aS}{objs objs':cB}(h:objs.ext objs'){d k:Key}(az:d≠k)(ah:objs k=none)(lp:objs d=none->objs' d=none){op:Op}{r:aS}{cE:List (Key×cO)} (he:gK T ev objs d op=some (r,cE)):gK T ev objs' d op=some (r,cE)/\∀p∈cE,p.1≠k:=by obtain⟨⟨hx,sJ⟩,g0,ak⟩:=wm he;obtain⟨g1,g2⟩:=ahN (objs':=objs') h az ah lp g0;refine⟨by unfold gK;rw[g1];simp[ak],λp aU=>?_⟩;have ax:=ahs (b:=T.born d) (d:=d) (q:=(hx,sJ)) p (by rw[ak];exact aU);obtain⟨n8,a8,b3⟩:=ax;rw[<-b3];exact g2 n8 a8
def res(T:ca)(G:c9)(σ:aI)(o:Oper):Option (aS×List (Key×cO)):=match dW T (b8 G σ.aJ) o.op with|some r=>some (r,[])|none=>match dn T (b8 G σ.aJ) σ.objs o.op with|some r=>some (r,[])|none=>gK T (b8 G σ.aJ) σ.objs (o.dst.getD 9999) o.op
def aI.step(σ:aI)(dst:Option Tmp)(r:aS)(cE:List (Key×cO)):aI:=aI.put ⟨σ.aJ,dp σ.objs cE⟩ dst r
theorem wy{T:ca}{G:c9}{σ:aI}{o:Oper}:gr T G σ o=(res T G σ o).map λp=>σ.step o.dst p.1 p.2:=by unfold gr res aI.step;cases dW T (b8 G σ.aJ) o.op with|some r=>rfl|none=>cases dn T (b8 G σ.aJ) σ.objs o.op with|some r=>rfl|none=>cases gK T (b8 G σ.aJ) σ.objs (o.dst.getD 9999) o.op with|none=>rfl|some p=>obtain⟨r,cE⟩:=p;rfl
theorem ahQ{G:c9}{σ:aI}{dst:Option Tmp}{r:aS}{x:Operand}(h:∀d,dst=some d->x≠ .tmp d):b8 G (σ.put dst r).aJ x=b8 G σ.aJ x:=by cases dst with|none=>rfl|some d=>cases x with|tmp t=>have:t≠d:=λe=>h d rfl (by rw[e]);simp only[b8,aI.put,cU _ _ this]|_=>rfl
theorem ahR{all:Array Oper}{o:Oper}{d:Tmp}(h:d∉o.looksAt all):∀x∈o.op.operands.toList,x≠ .tmp d:=by rintro x ae rfl;exact h (by unfold Oper.looksAt;exact xbU _ (List.mem_filterMap.2 ⟨_,ae,rfl⟩))
def ahS{all:Array Oper}{o:Oper}{d:Tmp}(h:d∉o.looksAt all){j:Nat}{b:Bool}(bB:o.guard=some (j,b)){e:Tmp}(he:(all[j]?).bind (·.dst)=some e):e≠d:=by rintro rfl;exact h (by unfold Oper.looksAt;exact List.mem_append_right _ (by simp[bB,he]))
def put_comm{σ:aI}{x y:Option Tmp}{r s:aS}(h:∀d,x=some d->y≠some d):(σ.put x r).put y s=(σ.put y s).put x r:=by
 cases x with
 |none=>rfl
 |some d=>
  cases y with
  |none=>rfl
  |some e=>
   have cf:d≠e:=λhe=>h d rfl (by rw[he]);simp only[aI.put]
   congr 1
   funext t
   simp only[cr];by_cases ab:t=d;.subst ab;simp[cf]
   by_cases ad:t=e;.subst ad;simp[ab]
   simp[ab,ad]
def pass(x y:Oper):Bool:=iy x.op||iy y.op||((iR x.op||hf x.op)&&(iR y.op||hf y.op)&&!(hf x.op&&hf y.op))||(p7 y.op&&match y.dst with|some d=>decide (d<9999)|none=>false)
def jz(all:Array Oper)(σ:aI)(o:Oper):Option Bool:=match o.guard with
 |none=>some true
 |some (j,want)=>match(all[j]?).bind (·.dst)with
  |some d=>match σ.aJ d with| .d (.val (.bool b))=>some (decide (b=want))| .d (.val (.tuple _))=>some false|_=>none
  |none=>none
section
variable{P:Program}{T:ca}{G:c9}{all:Array Oper}
def hl{o:Oper}{K:aI->Prop}{σ:aI}:dY P T G all o K σ=match jz all σ o with|some true=>c3 P T G o K σ|some false=>K (σ.put o.dst (.d (.val (.tuple #[]))))|none=>False:=by
 unfold dY jz;cases bB:o.guard with
 |none=>rfl
 |some p=>
  obtain⟨j,want⟩:=p;simp only;cases az:(all[j]?).bind (·.dst)with
  |none=>rfl
  |some d=>
   simp only;generalize σ.aJ d=x;cases x with
   |d x=>
    cases x with
    |val v=>cases v with|bool b=>by_cases h:b=want<;>simp[h]|_=>rfl
    |_=>rfl
   |_=>rfl
def oc{o:Oper}{σ:aI}{dst:Option Tmp}{r:aS}(h:∀d,dst=some d->d∉o.looksAt all):jz all (σ.put dst r) o=jz all σ o:=by
 unfold jz;split;.rfl
 rename_i j want bB;split
 .rename_i e he;have av:(σ.put dst r).aJ e=σ.aJ e:=by
   cases dst with|none=>rfl|some d=>simp only[aI.put,cU _ _ (ahS (h d rfl) bB he)]
  rw[av]
 rfl
def WG{o:Oper}{σ:aI}{dst:Option Tmp}{r:aS}(h:∀d,dst=some d->d∉o.looksAt all):∀x∈o.op.operands.toList,b8 G (σ.put dst r).aJ x=b8 G σ.aJ x:=λx ae=>ahQ λd az=>ahR (h d az) x ae
def ahT{o:Oper}{σ:aI}{dst:Option Tmp}{r:aS}(h:∀d,dst=some d->d∉o.looksAt all):res T G (σ.put dst r) o=res T G σ o:=by have dh:=WG (G:=G) (σ:=σ) (r:=r) h;unfold res;rw[ahF dh,ahG dh,ahI dh,aI.wu]
theorem ahU{σ:aI}{Kj PB:Option Tmp}{r s:aS}{cE:List (Key×cO)}(h:∀d,Kj=some d->PB≠some d):(σ.put Kj r).step PB s cE=(σ.step PB s cE).put Kj r:=by unfold aI.step;rw[<-put_comm h];cases Kj<;>rfl
def ahV{o:Oper}{σ:aI}{dst:Option Tmp}{r:aS}{K:aI->Prop}(h:∀d,dst=some d->d∉o.looksAt all)(cf:∀d,dst=some d->o.dst≠some d):jk P G o (σ.put dst r) K=jk P G o σ (λaT=>K (aT.put dst r)):=by
 have dh:=WG (G:=G) (σ:=σ) (r:=r) h;unfold jk;split
 .rename_i x args dq dI;have aN:b8 G (σ.put dst r).aJ x=b8 G σ.aJ x:=dh x (by rw[dI];simp[Op.operands,Call.operands]);have aV:args.toList.map (b8 G (σ.put dst r).aJ)=args.toList.map (b8 G σ.aJ):=Ke λy aP=>dh y (by rw[dI];simp[Op.operands,Call.operands];exact .inr (by simpa using aP));rw[aN];split
  .rename_i f pre post gv;unfold Wy;rw[aV,aI.wu];simp only[put_comm cf]
  rfl
 rfl
def jl{o:Oper}{σ:aI}{dst:Option Tmp}{r:aS}{K:aI->Prop}(h:∀d,dst=some d->d∉o.looksAt all)(cf:∀d,dst=some d->o.dst≠some d):c3 P T G o K (σ.put dst r)=c3 P T G o (λaT=>K (aT.put dst r)) σ:=by unfold c3;rw[wy,wy,ahT h];cases au:res T G σ o with|none=>exact ahV h cf|some p=>simp only[xaK,ahU cf]
def ahW{ev:Operand->aS}{objs:cB}{d:Key}{op:Op}{p:aS×List (Key×cO)}(h:gK T ev objs d op=some p)(objs':cB):dW T ev op=none/\dn T ev objs' op=none:=by
 obtain⟨q,ab,_⟩:=wm h;clear h;cases op<;>first|exact⟨rfl,rfl⟩|(simp only[dR,reduceCtorEq]at ab;done)|skip
 case call c=>obtain⟨callee,args,dq⟩:=c;cases callee with|value=>exact⟨rfl,rfl⟩|invoke=>exact⟨rfl,rfl⟩|builtin b=>cases b<;>first|exact⟨rfl,rfl⟩|(simp only[dR,reduceCtorEq]at ab;done)
def ahX{ev:Operand->aS}{op:Op}{r:aS}(h:dW T ev op=some r):iy op=true\/iR op=true:=by
 cases op
 case call c=>obtain⟨callee,args,dq⟩:=c;cases callee with|value=>exact absurd h (by simp[dW])|invoke=>exact absurd h (by simp[dW])|builtin b=>cases b<;>first|exact .inr rfl|exact absurd h (by simp[dW])
 all_goals first|exact .inl rfl|exact .inr rfl|exact absurd h (by simp[dW])
def ahY{ev:Operand->aS}{objs:cB}{op:Op}{r:aS}(h:dn T ev objs op=some r):iy op=true\/iR op=true:=by
 cases op
 case call c=>obtain⟨callee,args,dq⟩:=c;cases callee with|value=>exact absurd h (by simp[dn])|invoke=>exact absurd h (by simp[dn])|builtin b=>cases b<;>first|exact .inr rfl|exact absurd h (by simp[dn])
 all_goals first|exact .inl rfl|exact .inr rfl|exact absurd h (by simp[dn])
def WH:∀(cE:List (Key×cO)) {objs:cB} {k:Key},dp objs cE k=none->objs k=none/\∀p∈cE,p.1≠k
 |[],objs,k,h=>⟨h,by simp⟩
 |(j,x)::r,objs,k,h=>by
  obtain⟨ab,ad⟩:=WH r h;have aG:j≠k:=by rintro rfl;rw[ew]at ab;cases ab
  rw[cU _ _ (Ne.symm aG)]at ab;exact⟨ab,by intro p aU;rcases xas.1 aU with rfl|aU;exact aG;exact ad p aU⟩
def yi{o:Oper}{σ:aI}{K:aI->Prop}(h:jk P G o σ K):hf o.op=true:=by
 unfold jk at h;split at h;.rename_i x args dq dI;rw[dI];rfl
 cases h
def ER{op:Op}(h:hf op=true):iy op=false/\iR op=false/\p7 op=false:=by
 cases op<;>first|cases h|skip
 case call c=>
  obtain⟨callee,args,dq⟩:=c;cases callee with
  |value=>exact⟨rfl,rfl,rfl⟩|invoke=>cases h
  |builtin b=>cases h
def ahZ{o:Oper}{aJ:Nat->aS}{objs objs':cB}(h:objs.ext objs'){r:aS}(au:res T G ⟨aJ,objs⟩ o=some (r,[]))(ah:iy o.op=true\/iR o.op=true):res T G ⟨aJ,objs'⟩ o=some (r,[]):=by
 unfold res at*;simp only at*;split at au;.exact au
 rename_i aU;split at au;.rename_i azY hm;simp only[ahM h hm];exact au
 rename_i hm;rcases ah with ah|ah
 .rw[(BE (T:=T) (ev:=b8 G aJ) (objs:=objs) (d:=o.dst.getD 9999) ah).2]at au;cases au
 rw[BF ah]at au;cases au
def Kk{o:Oper}{σ:aI}{r:aS}{cE:List (Key×cO)}(au:res T G σ o=some (r,cE))(ah:iy o.op=true\/iR o.op=true):cE=[]:=by
 unfold res at au;split at au;.cases au;rfl
 split at au;.cases au;rfl
 rcases ah with ah|ah;.rw[(BE (T:=T) (ev:=b8 G σ.aJ) (objs:=σ.objs) (d:=o.dst.getD 9999) ah).2]at au;cases au
 rw[BF ah]at au;cases au
def WI{o:Oper}{aJ:Nat->aS}{objs objs':cB}{p:aS×List (Key×cO)}(au:res T G ⟨aJ,objs⟩ o=some p)(ah:iy o.op=true):res T G ⟨aJ,objs'⟩ o=some p/\p.2=[]:=by
 unfold res at*;simp only at*;split at au;.cases au;exact⟨rfl,rfl⟩
 rw[(BE (T:=T) (ev:=b8 G aJ) (objs:=objs) (d:=o.dst.getD 9999) ah).1,(BE (T:=T) (ev:=b8 G aJ) (objs:=objs) (d:=o.dst.getD 9999) ah).2]at au;cases au
def uo{o:Oper}{σ:aI}(ah:hf o.op=true):res T G σ o=none:=by unfold res;obtain⟨ab,ad,ax⟩:=PA (T:=T) (ev:=b8 G σ.aJ) (objs:=σ.objs) (d:=o.dst.getD 9999) ah;rw[ab,ad,ax]
theorem lZ{o:Oper}{σ:aI}{K:aI->Prop}{r:aS}{cE:List (Key×cO)}(au:res T G σ o=some (r,cE)):c3 P T G o K σ=K (σ.step o.dst r cE):=by unfold c3;rw[wy,au];rfl
theorem nt{o:Oper}{σ:aI}{K:aI->Prop}(au:res T G σ o=none):c3 P T G o K σ=jk P G o σ K:=by unfold c3;rw[wy,au];rfl
def ES{o:Oper}{σ:aI}{K K':aI->Prop}(h:jk P G o σ K)(ah:∀r,K (σ.put o.dst r)->K' (σ.put o.dst r)):jk P G o σ K':=by
 unfold jk at*;split
 .rename_i x args dq dI;rw[dI]at h;simp only at h;split;.rename_i f pre post gv;simp only[gv]at h;obtain⟨m2,ds,eE,ab,ad,ax,a8,b3,cI⟩:=h;exact⟨m2,ds,eE,ab,ad,ax,a8,b3,λr au=>ah _ (cI r au)⟩
  rename_i gv;simp only[gv]at h
 rename_i dI;split at h;.rename_i x args dq e;exact absurd e (dI x args dq)
 exact h
def WJ{x y:Oper}{σ:aI}{K:aI->Prop}(ab:∀d,x.dst=some d->d∉y.looksAt all)(ad:∀d,x.dst=some d->y.dst≠some d)(ax:∀d,y.dst=some d->d∉x.looksAt all)(aU:pass x y=true) (h:c3 P T G x (λfV=>c3 P T G y K fV) σ):c3 P T G y (λfy=>c3 P T G x K fy) σ:=by
 have gR:∀d,y.dst=some d->x.dst≠some d:=λd az ae=>ad d ae az;obtain⟨aJ,objs⟩:=σ;have ET:∀{o:Oper}{r:aS}{u:List (Key×cO)},aI.step ⟨aJ,objs⟩ o.dst r u=aI.put ⟨aJ,dp objs u⟩ o.dst r:=rfl;cases kk:res T G ⟨aJ,objs⟩ x with
 |none=>
  rw[nt kk]at h;have EU:=yi h;obtain⟨lq,uq,WK⟩:=ER EU;have aP:(iy y.op=true\/iR y.op=true)\/(p7 y.op=true/\∃d,y.dst=some d/\d<9999):=by simp only[pass,lq,uq,EU,xbx,xbj]at aU;cases jA:iy y.op with|true=>exact .inl (.inl rfl)|false=>cases cH:iR y.op with|true=>exact .inl (.inr rfl)|false=>simp only[jA,cH,xbx]at aU;cases di:p7 y.op with|false=>simp[di]at aU|true=>refine .inr ⟨rfl,?_⟩;simp only[di,xbj]at aU;cases az:y.dst with|none=>simp[az]at aU|some d=>simp[az]at aU;exact⟨d,rfl,aU⟩
  have wx:hf y.op=false:=by
   cases cg:hf y.op with
   |false=>rfl
   |true=>
    obtain⟨a,b,c⟩:=ER cg;rcases aP with(e|e)|⟨e,_⟩;.rw[a]at e;cases e
    .rw[b]at e;cases e
    rw[c]at e;cases e
  unfold jk at h;split at h
  case h_2=>cases h
  rename_i WL args dq dI;split at h
  case h_2=>cases h
  rename_i f pre post gv;obtain⟨m2,ds,eE,bG,bw,cl,⟨hx,rfl⟩,dZ,eU⟩:=h;have BH:c3 P T G y K (aI.put ⟨aJ,objs⟩ x.dst (.d hx)):=eU hx rfl;rw[jl ab ad]at BH;cases jB:res T G ⟨aJ,objs⟩ y with
  |none=>rw[nt jB]at BH;have:=yi BH;rw[wx]at this;cases this
  |some p=>
   obtain⟨p8,q0⟩:=p;rw[lZ jB];have o9:cB.ext objs (dp objs q0):=by
    rcases aP with aP|⟨aP,_⟩;.rw[Kk jB aP];exact λ_ _ h=>h
    have wz:gK T (b8 G aJ) objs (y.dst.getD 9999) y.op=some (p8,q0):=by unfold res at jB;simp only[(qZ (T:=T) (ev:=b8 G aJ) (objs:=objs) aP).1,(qZ (T:=T) (ev:=b8 G aJ) (objs:=objs) aP).2]at jB;exact jB
    obtain⟨bO,aC,o,rfl⟩:=BG (objs':=λ_=>none) aP rfl wz;exact cB.Kf aC o
   show c3 P T G x K (aI.step ⟨aJ,objs⟩ y.dst p8 q0);rw[ET,jl ax gR,nt (uo EU)];unfold jk;rw[dI];simp only[gv];refine⟨m2,ds,_,o8 (λx d ae=>ahL o9 ae) _ _ bG,bw,cl,⟨hx,rfl⟩,dZ,λr au=>?_⟩;have WM:c3 P T G y K (aI.put ⟨aJ,objs⟩ x.dst (.d r)):=eU r au;rw[jl ab ad,lZ jB,ET,put_comm gR]at WM;exact WM
 |some p=>
  obtain⟨rx,pb⟩:=p;rw[lZ kk,ET,jl ab ad]at h;cases jB:res T G ⟨aJ,dp objs pb⟩ y with
  |none=>
   rw[nt jB]at h;have wx:=yi h;obtain⟨lq,uq,WK⟩:=ER wx;have ae:iy x.op=true\/iR x.op=true:=by simp only[pass,lq,uq,WK,wx,xbx,Bool.or_false,xbp,xbt,Bool.or_true]at aU;cases jA:iy x.op with|true=>exact .inl rfl|false=>cases cH:iR x.op with|true=>exact .inr rfl|false=>cases cg:hf x.op<;>simp[jA,cH,cg]at aU
   have Kl:=Kk kk ae;subst Kl;rw[nt (show res T G ⟨aJ,objs⟩ y=none from jB)];refine ES h λr au=>?_;rw[jl ax gR,lZ kk,ET,put_comm ad];exact au
  |some p=>
   obtain⟨p8,q0⟩:=p;rw[lZ jB]at h;have q1:aI.step ⟨aJ,dp objs pb⟩ y.dst p8 q0=aI.put ⟨aJ,dp (dp objs pb) q0⟩ y.dst p8:=rfl;rw[q1]at h;have PC:∀{yj:List (Key×cO)} {Km:aS},res T G ⟨aJ,objs⟩ y=some (Km,yj)->(∃EV,res T G ⟨aJ,dp objs yj⟩ x=some (rx,EV)/\Km=p8/\dp (dp objs yj) EV=dp (dp objs pb) q0)->c3 P T G y (λfy=>c3 P T G x K fy) ⟨aJ,objs⟩:=by rintro yj Km aN ⟨EV,aV,rfl,bS⟩;rw[lZ aN];show c3 P T G x K (aI.step ⟨aJ,objs⟩ y.dst Km yj);rw[ET,jl ax gR,lZ aV];have:aI.step ⟨aJ,dp objs yj⟩ x.dst rx EV=aI.put ⟨aJ,dp (dp objs yj) EV⟩ x.dst rx:=rfl;rw[this,bS,put_comm ad];exact h
   by_cases EW:iy x.op=true\/iR x.op=true
   .have Kl:=Kk kk EW;subst Kl;refine PC jB ⟨[],?_,rfl,rfl⟩;by_cases Kn:iy y.op=true\/iR y.op=true;.rw[Kk jB Kn];exact kk
    by_cases WN:iy x.op=true;.exact(WI kk WN).1
    
    have aP:p7 y.op=true:=by
     rw[not_or]at Kn;have ao:iy x.op=false:=by simpa using WN
     have a2:iy y.op=false:=by simpa using Kn.1
     have a3:iR y.op=false:=by simpa using Kn.2
     simp only[pass,ao,a2,a3,xbx]at aU;cases di:p7 y.op with|true=>rfl|false=>cases cg:hf y.op with|false=>simp[di,cg]at aU|true=>rw[uo cg]at jB;cases jB
    have wz:gK T (b8 G aJ) objs (y.dst.getD 9999) y.op=some (p8,q0):=by have PD:res T G ⟨aJ,objs⟩ y=some (p8,q0):=jB;unfold res at PD;simp only[(qZ (T:=T) (ev:=b8 G aJ) (objs:=objs) aP).1,(qZ (T:=T) (ev:=b8 G aJ) (objs:=objs) aP).2]at PD;exact PD
    obtain⟨bO,aC,o,rfl⟩:=BG (objs':=λ_=>none) aP rfl wz;exact ahZ (cB.Kf aC o) kk EW
   rw[not_or]at EW;have ao:iy x.op=false:=by simpa using EW.1
   have a2:iR x.op=false:=by simpa using EW.2
   have Ko:hf x.op=false:=by cases cg:hf x.op with|false=>rfl|true=>rw[uo cg]at kk;cases kk
   by_cases WO:iy y.op=true;.obtain⟨aN,aV⟩:=WI (objs':=objs) jB WO;simp only at aV;subst aV;exact PC aN ⟨pb,kk,rfl,rfl⟩
   have a3:iy y.op=false:=by simpa using WO
   simp only[pass,ao,a2,a3,Ko,xbx,xbp]at aU;rw[xao]at aU;obtain⟨aP,az⟩:=aU;have um:∃d,y.dst=some d/\d<9999:=by cases iK:y.dst with|none=>simp[iK]at az|some d=>simp[iK]at az;exact⟨d,rfl,az⟩
   obtain⟨d,um,WQ⟩:=um;have wz:gK T (b8 G aJ) (dp objs pb) (y.dst.getD 9999) y.op=some (p8,q0):=by unfold res at jB;simp only[(qZ (T:=T) (ev:=b8 G aJ) (objs:=dp objs pb) aP).1,(qZ (T:=T) (ev:=b8 G aJ) (objs:=dp objs pb) aP).2]at jB;exact jB
   rw[um]at wz;simp only[xbm]at wz;obtain⟨_,aC,o,rfl⟩:=BG (objs':=λ_=>none) aP rfl wz;obtain⟨PE,Kl⟩:=WH pb aC;obtain⟨ah0,_,_⟩:=BG (objs':=objs) aP PE wz;have ah1:res T G ⟨aJ,objs⟩ y=some (p8,[(d,o)]):=by unfold res;simp only[(qZ (T:=T) (ev:=b8 G aJ) (objs:=objs) aP).1,(qZ (T:=T) (ev:=b8 G aJ) (objs:=objs) aP).2,um,xbm];exact ah0
   have hex:gK T (b8 G aJ) objs (x.dst.getD 9999) x.op=some (rx,pb):=by
    unfold res at kk;simp only at kk;split at kk;.rename_i ah2;exact absurd (ahX ah2) (by simp[ao,a2])
    split at kk;.rename_i sO;exact absurd (ahY sO) (by simp[ao,a2])
    exact kk
   have Kp:x.dst.getD 9999≠d:=by cases Kp:x.dst with|none=>simp only[Option.getD_none];exact λe=>by rw[<-e]at WQ;exact absurd WQ (xcg _)|some e=>simp only[xbm];rintro rfl;exact ad e Kp um
   obtain⟨WR,cf⟩:=ahP (T:=T) (ev:=b8 G aJ) (cB.Kf PE o) Kp PE (λaq=>by rw[cU _ _ Kp];exact aq) hex;refine PC ah1 ⟨pb,?_,rfl,WE pb cf⟩;obtain⟨cA,dv⟩:=ahW WR (cr objs d (some o));show res T G ⟨aJ,cr objs d (some o)⟩ x=some (rx,pb);unfold res;simp only[cA,dv];exact WR
def p9{o:Oper}{σ:aI}{K K':aI->Prop}(ah:∀σ,K σ->K' σ)(h:c3 P T G o K σ):c3 P T G o K' σ:=by
 unfold c3 at*;split;.rename_i e;rw[e]at h;exact ah _ h
 rename_i e;rw[e]at h;exact ES h λr au=>ah _ au
def EX{o:Oper}{σ:aI}{K K':aI->Prop}(ah:∀σ,K σ->K' σ)(h:dY P T G all o K σ):dY P T G all o K' σ:=by
 rw[hl]at*;split;.rename_i e;rw[e]at h;exact p9 ah h
 .rename_i e;rw[e]at h;exact ah _ h
 rename_i e;rw[e]at h;exact h
def wA{o:Oper}{σ:aI}{K K':aI->Prop}(ah:∀objs r,K (aI.put ⟨σ.aJ,objs⟩ o.dst r)->K' (aI.put ⟨σ.aJ,objs⟩ o.dst r))(h:c3 P T G o K σ):c3 P T G o K' σ:=by unfold c3 at*;rw[wy]at*;cases au:res T G σ o with|none=>simp only[au,xbs]at h⊢;exact ES h λr au=>ah σ.objs r au|some p=>simp only[au,xaK]at h⊢;exact ah _ _ h
def swap{x y:Oper}{σ:aI}{K:aI->Prop}(kF:x.apart all y=true)(aU:pass x y=true)(h:dY P T G all x (λfV=>dY P T G all y K fV) σ):dY P T G all y (λfy=>dY P T G all x K fy) σ:=by
 obtain⟨ao,a2,a3⟩:=Oper.apart_spec kF;have od:∀d,y.dst=some d->x.dst≠some d:=λd az ae=>a2 d ae az;rw[hl]at h;have qa:∀(objs:cB)(r:aS),jz all (aI.put ⟨σ.aJ,objs⟩ x.dst r) y=jz all σ y:=λobjs r=>by rw[oc ao];rfl
 have q2:∀(objs:cB)(r:aS),jz all (aI.put ⟨σ.aJ,objs⟩ y.dst r) x=jz all σ x:=λobjs r=>by rw[oc a3];rfl
 split at h
 .rename_i ae;rw[hl];have bs:c3 P T G x (λfV=>match jz all σ y with|some true=>c3 P T G y K fV|some false=>K (fV.put y.dst (.d (.val (.tuple #[]))))|none=>False) σ:=by
   refine wA (λobjs r ah=>?_) h;rw[hl,qa]at ah;exact ah
  cases yk:jz all σ y with
  |none=>
   simp only[yk]at bs;unfold c3 at bs;split at bs;.exact bs
   unfold jk at bs;split at bs
   .split at bs;.obtain⟨_,_,_,_,_,_,⟨r,rfl⟩,_,q⟩:=bs;exact q r rfl
    exact bs
   exact bs
  |some b=>
   cases b with
   |false=>
    simp only[yk]at bs;show dY P T G all x K (σ.put y.dst (.d (.val (.tuple #[]))));rw[hl];have:jz all (σ.put y.dst (.d (.val (.tuple #[])))) x=some true:=by rw[oc a3];exact ae
    simp only[this];rw[jl a3 od];exact bs
   |true=>simp only[yk]at bs;have ad:=WJ ao a2 a3 aU bs;show c3 P T G y (λfy=>dY P T G all x K fy) σ;refine wA (λobjs r ah=>?_) ad;rw[hl,q2,ae];exact ah
 .rename_i ae;rw[hl,oc ao]at h;rw[hl];split at h
  .rename_i aP
   try simp only[aP]
   rw[jl ao a2]at h;refine wA (λobjs r ah=>?_) h;rw[hl,q2,ae];exact ah
  .rename_i aP
   try simp only[aP]
   show dY P T G all x K (σ.put y.dst (.d (.val (.tuple #[]))));rw[hl,oc a3,ae];show K _;rw[put_comm od];exact h
  exact h.elim
 exact h.elim
def ah3{o:Oper}{σ:aI}{K K':aI->Prop}(h:c3 P T G o K σ)(ah:∀aT r,aT=σ.put o.dst (.d r)->K aT->K' aT)(cg:hf o.op=true):c3 P T G o K' σ:=by
 rw[nt (uo cg)]at h⊢;unfold jk at*;split
 .rename_i x args dq dI;rw[dI]at h;simp only at h;split;.rename_i f pre post gv;simp only[gv]at h;obtain⟨m2,ds,eE,ab,ad,ax,a8,b3,cI⟩:=h;exact⟨m2,ds,eE,ab,ad,ax,a8,b3,λr au=>ah _ r rfl (cI r au)⟩
  rename_i gv;simp only[gv]at h
 rename_i dI;split at h;.rename_i x args dq e;exact absurd e (dI x args dq)
 exact h
def cB.low(objs objs':cB):Prop:=∀k o,objs k=some o->o≠ .dead->objs' k=some o
def WS{objs objs':cB}(h:objs.low objs'){x:aS}{d:D}(an:qW objs x=some d):qW objs' x=some d:=by
 unfold qW at*;split at an;.exact an
 .split at an;.rename_i ah;rw[h _ _ ah (by simp)];exact an
  cases an
 .split at an;.rename_i ah;rw[h _ _ ah (by simp)];exact an
  cases an
 .split at an;.rename_i ah;rw[h _ _ ah (by simp)];exact an
  cases an
 cases an
def Kq{objs objs':cB}(h:objs.low objs'){x:aS}{d:D}(an:m0 objs x=some d):m0 objs' x=some d:=by
 unfold m0 at*;split at an
 .split at an
  case h_2=>cases an
  rename_i ah;simp only[h _ _ ah (by simp)];split at an
  case h_2=>cases an
  rename_i cs gT;rw[o8 (λx d ae=>WS h ae) _ _ gT];exact an
 .exact an
 exact WS h an
def WT{objs objs':cB}(h:objs.low objs'){x:aS}{d:D}(an:oa objs x=some d):oa objs' x=some d:=by
 unfold oa at*;split at an
 .split at an
  case h_2=>cases an
  rename_i ds eh;rw[o8 (λx d ae=>Kq h ae) _ _ eh];exact an
 .split at an
  case h_2=>cases an
  rename_i as gb has EN;rw[o8 (λx d ae=>Kq h ae) _ _ has,o8 (λx d ae=>Kq h ae) _ _ EN];exact an
 exact Kq h an
def ah4{objs objs':cB}(h:objs.low objs'){x:aS}{d:D}(an:toD objs x=some d):toD objs' x=some d:=by
 unfold toD at*;split at an
 .split at an
  case h_2=>cases an
  rename_i ds eh;rw[o8 (λx d ae=>WT h ae) _ _ eh];exact an
 exact WT h an
def WU{objs objs':cB}(h:objs.low objs'){x:aS}{n:Nat}(an:jQ objs x=some n):jQ objs' x=some n:=by
 unfold jQ at*;split at an;.exact an
 .exact an
 .split at an;.rename_i ah;rw[h _ _ ah (by simp)];exact an
  cases an
 .exact an
 cases an
def ah5{objs objs':cB}(h:objs.low objs'){x:aS}{es:List (List D)}(an:p2 objs x=some es):p2 objs' x=some es:=by
 unfold p2 at*;split at an;.exact an
 .exact an
 .split at an;.rename_i ah;rw[h _ _ ah (by simp)];exact an
  cases an
 .split at an;.rename_i ah;rw[h _ _ ah (by simp)];exact an
  cases an
 cases an
def Kr{objs objs':cB}(h:objs.low objs'){x:aS}{b:Bool}(an:mn objs x=some b):mn objs' x=some b:=by
 unfold mn at*;split at an;.exact an
 .exact an
 .split at an;.rename_i ah;rw[h _ _ ah (by simp)];exact an
  cases an
 cases an
def ah6{T:ca}{ev:Operand->aS}{objs objs':cB}(h:objs.low objs'){op:Op}{r:aS}(hm:dn T ev objs op=some r):dn T ev objs' op=some r:=by
 cases op<;>simp only[dn,reduceCtorEq]at hm⊢
 case convert s t x=>
  split at hm
  case h_2=>cases hm
  rename_i aN aV;split at hm
  case h_2=>cases hm
  rename_i bS;split at hm
  case h_2=>cases hm
  rename_i es he;simp only[aN,aV,bS,ah5 h he];exact hm
 case load t a=>
  split at hm
  case h_2=>cases hm
  split at hm;.exact hm
  .split at hm
   case h_2=>cases hm
   rename_i ah;simp only[h _ _ ah (by simp)];exact hm
  .split at hm
   case h_2=>cases hm
   rename_i ah;simp only[h _ _ ah (by simp)];exact hm
  cases hm
 case indexAddr t x eT=>
  split at hm
  .split at hm
   case h_2=>cases hm
   split at hm
   case isFalse=>cases hm
   rename_i aq;rw[xaa aq];split at hm;.exact hm
   .split at hm
    case h_2=>cases hm
    rename_i ah;simp only[h _ _ ah (by simp)];exact hm
   .exact hm
   cases hm
  .exact hm
  cases hm
 case slice t x lo ag fw=>
  cases fw with
  |some _=>simp[dn]at hm
  |none=>
   simp only[dn]at hm⊢;split at hm
   case h_3=>cases hm
   case h_2=>exact hm
   split at hm
   case h_2=>cases hm
   split at hm
   case h_2=>cases hm
   rename_i n aC;simp only[WU h aC];split at hm
   case h_2=>cases hm
   split at hm
   case isFalse=>cases hm
   rename_i ai;rw[xaa ai];split at hm;.exact hm
   .split at hm
    case h_2=>cases hm
    rename_i ah;simp only[h _ _ ah (by simp)];exact hm
   .exact hm
   cases hm
 case call c=>
  split at hm
  case h_2=>cases hm
  split at hm
  case h_2=>cases hm
  split at hm;.exact hm
  .split at hm
   case h_2=>cases hm
   rename_i n aC;simp only[WU h aC];exact hm
  .exact hm
  .exact hm
  .split at hm
   case h_2=>cases hm
   rename_i ah;simp only[h _ _ ah (by simp)];exact hm
  cases hm
 case lookup t x k ok=>
  split at hm
  case h_2=>cases hm
  split at hm;.exact hm
  .exact hm
  .split at hm
   case h_2=>cases hm
   rename_i ah;simp only[h _ _ ah (by simp)];exact hm
  cases hm
 case binOp op t x y x4=>
  split at hm
  case h_2=>cases hm
  split at hm
  .split at hm
   .rename_i ai;rw[xaa ai];split at hm
    case h_2=>cases hm
    rename_i b ak;simp only[Kr h ak];exact hm
   rename_i ai;rw[xab ai];split at hm
   case isFalse=>cases hm
   rename_i ob;rw[xaa ob];split at hm
   case h_2=>cases hm
   rename_i b ak;simp only[Kr h ak];exact hm
  .split at hm
   .rename_i ai;rw[xaa ai];split at hm
    case h_2=>cases hm
    rename_i b ak;simp only[Kr h ak];exact hm
   rename_i ai;rw[xab ai];split at hm
   case isFalse=>cases hm
   rename_i ob;rw[xaa ob];split at hm
   case h_2=>cases hm
   rename_i b ak;simp only[Kr h ak];exact hm
  cases hm
def EY(T:ca)(x:Oper):Bool:=match x.op with| .buildSlice _ _ _=>T.born (x.dst.getD 9999)|_=>false
def yl(T:ca)(x y:Oper):Bool:=pass x y||(hf x.op&&hf y.op)||(EY T x&&(hf y.op||iR y.op))
def ah7{x:Oper}{σ:aI}(ak:EY T x=true){p:aS×List (Key×cO)}(h:res T G σ x=some p):σ.objs (x.dst.getD 9999)=none/\p.2=[(x.dst.getD 9999,.dead)]:=by
 unfold EY at ak;split at ak
 case h_2=>cases ak
 rename_i t n parts dI;have ah:p7 x.op=true:=by rw[dI];rfl
 obtain⟨aN,aV⟩:=qZ (T:=T) (ev:=b8 G σ.aJ) (objs:=σ.objs) ah;unfold res at h;rw[aN,aV]at h;obtain⟨q,ab,ad⟩:=wm h;rw[dI]at ab;simp only[dR]at ab;split at ab
 case h_2=>cases ab
 rename_i e s b z aF aq;split at ab
 case h_2=>cases ab
 split at ab
 case h_2=>cases ab
 split at ab
 case isFalse=>cases ab
 cases ab;refine⟨aq,?_⟩;rw[<-ad];simp[qU,ak]
def ah8{x y:Oper}{σ:aI}{K:aI->Prop}(ab:∀d,x.dst=some d->d∉y.looksAt all)(ad:∀d,x.dst=some d->y.dst≠some d)(ax:∀d,y.dst=some d->d∉x.looksAt all)(Ko:hf x.op=true)(ah9:hf y.op=true\/False) (h:c3 P T G x (λfV=>c3 P T G y K fV) σ):c3 P T G y (λfy=>c3 P T G x K fy) σ:=by
 have gR:∀d,y.dst=some d->x.dst≠some d:=λd az ae=>ad d ae az;have Ks:hf y.op=true:=ah9.resolve_right id;rw[nt (uo Ko)]at h;unfold jk at h;split at h
 case h_2=>cases h
 rename_i WL args dq dI;split at h
 case h_2=>cases h
 rename_i f pre post gv;obtain⟨m2,ds,eE,bG,bw,cl,⟨hx,rfl⟩,dZ,eU⟩:=h;have BH:c3 P T G y K (aI.put σ x.dst (.d hx)):=eU hx rfl;rw[jl ab ad]at BH;refine ah3 BH (λaT r he ah=>?_) Ks;subst he;rw[jl ax gR,nt (uo Ko)];unfold jk;rw[dI];simp only[gv];refine⟨m2,ds,_,bG,bw,cl,⟨hx,rfl⟩,dZ,λr au=>?_⟩;subst au;rw[put_comm ad];exact ah
def aia{x y:Oper}{σ:aI}{K:aI->Prop}(ab:∀d,x.dst=some d->d∉y.looksAt all)(ad:∀d,x.dst=some d->y.dst≠some d)(ax:∀d,y.dst=some d->d∉x.looksAt all)(Kt:EY T x=true)(PF:hf y.op=true\/iR y.op=true) (h:c3 P T G x (λfV=>c3 P T G y K fV) σ):c3 P T G y (λfy=>c3 P T G x K fy) σ:=by
 have gR:∀d,y.dst=some d->x.dst≠some d:=λd az ae=>ad d ae az;cases kk:res T G σ x with
 |none=>
  rw[nt kk]at h;have:=yi h;unfold EY at Kt;split at Kt
  .rename_i dI;rw[dI]at this;cases this
  cases Kt
 |some p=>
  obtain⟨rx,cE⟩:=p;obtain⟨aC,hu⟩:=ah7 Kt kk;simp only at hu;subst hu;rw[lZ kk]at h;have aP:c3 P T G y K (aI.put ⟨σ.aJ,dp σ.objs [(x.dst.getD 9999,.dead)]⟩ x.dst rx):=h;rw[jl ab ad]at aP;have Ku:cB.low (dp σ.objs [(x.dst.getD 9999,.dead)]) σ.objs:=by
   intro k o ah aR;simp only[dp]at ah;by_cases e:k=x.dst.getD 9999;.subst e;rw[ew]at ah;cases ah;exact absurd rfl aR
   rwa [cU _ _ e]at ah
  rcases PF with Ks|WV
  case inr=>
   have wx:hf y.op=false:=by cases cg:hf y.op with|false=>rfl|true=>have:=(ER cg).2.1;rw[WV]at this;cases this
   have key:∀p,res T G ⟨σ.aJ,dp σ.objs [(x.dst.getD 9999,.dead)]⟩ y=some p->p.2=[]/\res T G σ y=some p:=by
    intro p aU;have he:∀objs d,gK T (b8 G σ.aJ) objs d y.op=none:=λobjs d=>BF WV;unfold res at aU⊢;cases WW:dW T (b8 G σ.aJ) y.op with
    |some r=>simp only[WW]at aU⊢;cases aU;exact⟨rfl,rfl⟩
    |none=>
     simp only[WW]at aU⊢;cases EZ:dn T (b8 G σ.aJ) (dp σ.objs [(x.dst.getD 9999,.dead)]) y.op with
     |none=>simp only[EZ,he]at aU;cases aU
     |some r=>simp only[EZ]at aU;cases aU;rw[ah6 Ku EZ];exact⟨rfl,rfl⟩
   cases jB:res T G ⟨σ.aJ,dp σ.objs [(x.dst.getD 9999,.dead)]⟩ y with
   |none=>rw[nt jB]at aP;have:=yi aP;rw[wx]at this;cases this
   |some p=>obtain⟨p8,q0⟩:=p;obtain⟨cA,dv⟩:=key _ jB;simp only at cA;subst cA;rw[lZ jB]at aP;rw[lZ dv];show c3 P T G x K (aI.put σ y.dst p8);rw[jl ax gR,lZ kk];unfold aI.step;rw[put_comm ad];exact aP
  rw[nt (uo Ks)]at aP;rw[nt (uo Ks)];unfold jk at aP⊢;split at aP
  case h_2=>cases aP
  rename_i WL args dq dI;split at aP
  case h_2=>cases aP
  rename_i f pre post gv;obtain⟨m2,ds,eE,bG,bw,cl,⟨hx,rfl⟩,dZ,eU⟩:=aP;simp only[dI,gv];refine⟨m2,ds,_,o8 (λx d ae=>ah4 Ku ae) _ _ bG,bw,cl,⟨hx,rfl⟩,dZ,λr au=>?_⟩;subst au;have:=eU r rfl;rw[jl ax gR,lZ kk];unfold aI.step;rw[put_comm ad];exact this
def aib{x y:Oper}{σ:aI}{K:aI->Prop}(ab:∀d,x.dst=some d->d∉y.looksAt all)(ad:∀d,x.dst=some d->y.dst≠some d)(ax:∀d,y.dst=some d->d∉x.looksAt all)(aU:yl T x y=true) (h:c3 P T G x (λfV=>c3 P T G y K fV) σ):c3 P T G y (λfy=>c3 P T G x K fy) σ:=by
 unfold yl at aU;rw[xbe,xbe]at aU;rcases aU with(aU|aU)|aU
 .exact WJ ab ad ax aU h
 .rw[xao]at aU;exact ah8 ab ad ax aU.1 (.inl aU.2) h
 rw[xao,xbe]at aU;exact aia ab ad ax aU.1 aU.2 h
def swapT{x y:Oper}{σ:aI}{K:aI->Prop}(kF:x.apart all y=true)(aU:yl T x y=true)(h:dY P T G all x (λfV=>dY P T G all y K fV) σ):dY P T G all y (λfy=>dY P T G all x K fy) σ:=by
 obtain⟨ao,a2,a3⟩:=Oper.apart_spec kF;have od:∀d,y.dst=some d->x.dst≠some d:=λd az ae=>a2 d ae az;rw[hl]at h;have qa:∀(objs:cB)(r:aS),jz all (aI.put ⟨σ.aJ,objs⟩ x.dst r) y=jz all σ y:=λobjs r=>by rw[oc ao];rfl
 have q2:∀(objs:cB)(r:aS),jz all (aI.put ⟨σ.aJ,objs⟩ y.dst r) x=jz all σ x:=λobjs r=>by rw[oc a3];rfl
 split at h
 .rename_i ae;rw[hl];have bs:c3 P T G x (λfV=>match jz all σ y with|some true=>c3 P T G y K fV|some false=>K (fV.put y.dst (.d (.val (.tuple #[]))))|none=>False) σ:=by
   refine wA (λobjs r ah=>?_) h;rw[hl,qa]at ah;exact ah
  cases yk:jz all σ y with
  |none=>
   simp only[yk]at bs;unfold c3 at bs;split at bs;.exact bs
   unfold jk at bs;split at bs
   .split at bs;.obtain⟨_,_,_,_,_,_,⟨r,rfl⟩,_,q⟩:=bs;exact q r rfl
    exact bs
   exact bs
  |some b=>
   cases b with
   |false=>
    simp only[yk]at bs;show dY P T G all x K (σ.put y.dst (.d (.val (.tuple #[]))));rw[hl];have:jz all (σ.put y.dst (.d (.val (.tuple #[])))) x=some true:=by rw[oc a3];exact ae
    simp only[this];rw[jl a3 od];exact bs
   |true=>simp only[yk]at bs;have ad:=aib ao a2 a3 aU bs;show c3 P T G y (λfy=>dY P T G all x K fy) σ;refine wA (λobjs r ah=>?_) ad;rw[hl,q2,ae];exact ah
 .rename_i ae;rw[hl,oc ao]at h;rw[hl];split at h
  .rename_i aP
   try simp only[aP]
   rw[jl ao a2]at h;refine wA (λobjs r ah=>?_) h;rw[hl,q2,ae];exact ah
  .rename_i aP
   try simp only[aP]
   show dY P T G all x K (σ.put y.dst (.d (.val (.tuple #[]))));rw[hl,oc a3,ae];show K _;rw[put_comm od];exact h
  exact h.elim
 exact h.elim
def hy(P:Program)(T:ca)(G:c9)(all:Array Oper)(i:Nat)(K:aI->Prop)(σ:aI):Prop:=match all[i]? with|none=>K σ|some o=>dY P T G all o K σ
def wB{i:Nat}{σ:aI}{K K':aI->Prop}(ah:∀σ,K σ->K' σ)(h:hy P T G all i K σ):hy P T G all i K' σ:=by
 unfold hy at*;split;.rename_i e;simp only[e]at h;exact ah _ h
 rename_i o e;simp only[e]at h;exact EX ah h
def iS(P:Program)(T:ca)(G:c9)(all:Array Oper)(K:aI->Prop):Nat->Array Bool->aI->Prop
 |0,listed,σ=>Region.ready .any all listed=[]/\K σ|fuel+1,listed,σ=>(Region.ready .any all listed=[]->K σ)/\∀i∈Region.ready .any all listed,hy P T G all i (iS P T G all K fuel (listed.setIfInBounds i true)) σ
def PG{K:aI->Prop}{i:Nat}{eO:Oper}(ag:all[i]?=some eO){B:List Nat}(ep:∀j cZ,j∈B->all[j]?=some cZ->∃e∈cZ.after,Region.binds .any e=true/\(e.on=i\/e.on∈B)):∀(fuel:Nat)(listed:Array Bool)(σ:aI),(∀j,j∈B->listed.getD j true=false)->(∀j cZ,all[j]?=some cZ->j≠i->listed.getD j true=false->j∉B->eO.apart all cZ=true/\yl T eO cZ=true)->i∈Region.ready .any all listed->(¬∃aT,K aT)\/True->hy P T G all i (iS P T G all K fuel (listed.setIfInBounds i true)) σ->iS P T G all K (fuel+1) listed σ:=by
 intro fuel
 induction fuel with
 |zero=>
  intro listed σ q3 oe au _ H;refine⟨λh=>(by rw[h]at au;cases au),λj aG=>?_⟩;by_cases iT:j=i;.subst iT;exact H
  have hm:=ready_mono aG iT;exfalso;have key:Region.ready .any all (listed.setIfInBounds i true)=[]:=by
   unfold hy at H;simp only[ag]at H;rw[hl]at H;split at H
   .unfold c3 at H;split at H;.exact H.1
    unfold jk at H;split at H
    .split at H;.obtain⟨_,_,_,_,_,_,⟨r,mr⟩,_,q⟩:=H;exact(q r (by rw[mr])).1
     exact H.elim
    exact H.elim
   .exact H.1
   exact H.elim
  rw[key]at hm;cases hm
 |succ fuel ih=>
  intro listed σ q3 oe au _ H;refine⟨λh=>(by rw[h]at au;cases au),λj aG=>?_⟩;by_cases iT:j=i;.subst iT;exact H
  obtain⟨wC,cZ,iU,fS⟩:=xbO.1 aG;have uf:∀k,listed.getD k true=false->listed[k]?.getD false=true->False:=λk aq ab=>by
   rcases xbC k listed.size with bs|bs;.simp[bs]at aq ab;rw[aq]at ab;cases ab
   simp[Array.getElem?_eq_none bs]at ab
  have wD:j∉B:=λE0=>by
   obtain⟨e,he,ak,mu⟩:=ep j cZ E0 iU;have ab:=fS e he ak;rcases mu with mu|mu
   .rw[mu]at ab;exact uf i (xbO.1 au).1 (by simpa using ab)
   exact uf _ (q3 _ mu) (by simpa using ab)
  obtain⟨eJ,dV⟩:=oe j cZ iU iT wC wD;have ab:hy P T G all i (λfV=>hy P T G all j (iS P T G all K fuel ((listed.setIfInBounds i true).setIfInBounds j true)) fV) σ:=wB (λfV ur=>ur.2 j (ready_mono aG iT)) H;have ad:hy P T G all j (λfy=>hy P T G all i (iS P T G all K fuel ((listed.setIfInBounds i true).setIfInBounds j true)) fy) σ:=by unfold hy at ab⊢;simp only[ag,iU]at ab⊢;exact swapT eJ dV ab
  have E1:∀k ok,all[k]?=some ok->k≠i->(listed.setIfInBounds j true).getD k true=false->k∉B->eO.apart all ok=true/\yl T eO ok=true:=λk ok ah q4 og hX=>by
   refine oe k ok ah q4 ?_ hX;by_cases fm:j=k;.subst fm;exact wC
   rw[getD_set_ne true fm]at og;exact og
  refine wB (λfy ax=>ih (listed.setIfInBounds j true) fy (λk ah=>by
   have fm:j≠k:=by rintro rfl;exact wD ah
   rw[getD_set_ne true fm];exact q3 k ah) E1 (ready_mono au (Ne.symm iT)) (.inr trivial) ?_) ad
  rw[Array.setIfInBounds_comm _ _ iT];exact ax
def aic{K:aI->Prop}{i:Nat}{eO:Oper}(ag:all[i]?=some eO){B:List Nat}(ep:∀j cZ,j∈B->all[j]?=some cZ->∃e∈cZ.after,Region.binds .any e=true/\(e.on=i\/e.on∈B))(fuel:Nat)(listed:Array Bool)(σ:aI) (aq:∀j,j∈B->listed.getD j true=false) (ba:∀j cZ,all[j]?=some cZ->j≠i->listed.getD j true=false->j∉B->eO.apart all cZ=true/\pass eO cZ=true) (au:i∈Region.ready .any all listed) (ae:(¬∃aT,K aT)\/True) (h:hy P T G all i (iS P T G all K fuel (listed.setIfInBounds i true)) σ):iS P T G all K (fuel+1) listed σ:=PG ag ep fuel listed σ aq (λj cZ a b c d=>⟨(ba j cZ a b c d).1,by unfold yl;rw[(ba j cZ a b c d).2];rfl⟩) au ae h
def waits(all:Array Oper)(i:Nat):List Nat:=(List.range all.size).foldl (λacc j=>match all[j]? with
  |some cZ=>if cZ.after.any (λe=>Region.binds .any e&&(e.on==i||acc.contains e.on))then acc++[j]else acc
  |none=>acc) []
def Kv(p:Oper->Oper->Bool)(all:Array Oper)(listed:Array Bool)(i:Nat)(B:List Nat):Bool:=match all[i]? with|none=>false|some eO=>(B.all λj=>!listed.getD j true&&match all[j]? with|some cZ=>cZ.after.any λe=>Region.binds .any e&&(e.on==i||B.contains e.on)|none=>false)&&(List.range all.size).all λj=>j==i||listed.getD j true||B.contains j||match all[j]? with|some cZ=>eO.apart all cZ&&p eO cZ|none=>true
def WX(all:Array Oper)(listed:Array Bool)(i:Nat)(B:List Nat):Bool:=Kv pass all listed i B
def aid(all:Array Oper)(listed:Array Bool)(i:Nat):Bool:=WX all listed i (waits all i)
def WY(T:ca)(all:Array Oper)(listed:Array Bool)(i:Nat):Bool:=Kv (yl T) all listed i (waits all i)
def PH{p:Oper->Oper->Bool}{i:Nat}{eO:Oper}{listed:Array Bool}(ag:all[i]?=some eO){B:List Nat}(h:Kv p all listed i B=true):(∀j cZ,j∈B->all[j]?=some cZ->∃e∈cZ.after,Region.binds .any e=true/\(e.on=i\/e.on∈B))/\(∀j,j∈B->listed.getD j true=false)/\ ∀j cZ,all[j]?=some cZ->j≠i->listed.getD j true=false->j∉B->eO.apart all cZ=true/\p eO cZ=true:=by
 simp only[Kv,ag,xao,xau,xbN]at h;refine⟨λj cZ aG iU=>?_,λj aG=>by simpa using(h.1 j aG).1,λj cZ iU cf og hX=>?_⟩;.have ab:=(h.1 j aG).2;simp only[iU]at ab;obtain⟨e,he,ak⟩:=Array.any_eq_true'.1 ab;simp only[xao,xbe,xbK,List.contains_iff_mem]at ak;exact⟨e,he,ak.1,ak.2⟩
 have ab:=h.2 j (xaS.1 iU).1;simp only[iU,xbe,xbK,cf,false_or,og,xaq,xao,List.contains_iff_mem,hX]at ab;exact ab
def aie{i:Nat}{eO:Oper}{listed:Array Bool}(ag:all[i]?=some eO){B:List Nat}(h:WX all listed i B=true):(∀j cZ,j∈B->all[j]?=some cZ->∃e∈cZ.after,Region.binds .any e=true/\(e.on=i\/e.on∈B))/\(∀j,j∈B->listed.getD j true=false)/\ ∀j cZ,all[j]?=some cZ->j≠i->listed.getD j true=false->j∉B->eO.apart all cZ=true/\pass eO cZ=true:=PH ag h
def ym(T:ca)(all:Array Oper):List Nat->Array Bool->Bool
 |[],listed=>(Region.ready .any all listed).isEmpty|i::r,listed=>(Region.ready .any all listed).contains i&&WY T all listed i&&ym T all r (listed.setIfInBounds i true)
def BI(P:Program)(T:ca)(G:c9)(all:Array Oper):List Nat->(aI->Prop)->aI->Prop
 |[],K,σ=>K σ|i::r,K,σ=>match all[i]? with|some o=>dY P T G all o (BI P T G all r K) σ|none=>False
def WZ{K:aI->Prop}:∀(ord:List Nat)(listed:Array Bool)(σ:aI),ym T all ord listed=true->BI P T G all ord K σ->iS P T G all K ord.length listed σ
 |[],listed,σ,ep,h=>⟨by simpa[ym]using ep,h⟩
 |i::r,listed,σ,ep,h=>by
  simp only[ym,xao]at ep;obtain⟨⟨au,ba⟩,uu⟩:=ep;unfold BI at h;split at h
  case h_2=>cases h
  rename_i o ag;obtain⟨bG,bw,cl⟩:=PH ag ba;refine PG ag bG r.length listed σ bw cl (by simpa using au) (.inr trivial) ?_;unfold hy;simp only[ag];exact EX (λaT ur=>WZ r _ aT uu ur) h
def PI{m:Mem}{fr:eS}{N:Nat}(bb:dy P T){K:aI->Prop}{Q:Exit->Act->World->Prop}(gB:∀o∈all,∀d,o.dst=some d->d<N):∀(fuel:Nat)(listed:Array Bool)(m:Mem)(ρ:c5)(σ:aI)(a:Act)(w:World),jv G m->Den m fr ρ σ a w->N<=a.tmps.size->a.defers=[]->iS P T G all K fuel listed σ->(∀cx w',iJ N m fr ρ σ K cx w'->Q .normal cx w')->wpAny P .any all Q fuel listed a w
 |0,listed,m,ρ,σ,a,w,cM,h,cd,hc,aK,hM=>⟨aK.1,hM a w ⟨σ,m,ρ,aK.2,Mem.le_refl m,h,cd,hc,kD.refl _ _⟩⟩|fuel+1,listed,m,ρ,σ,a,w,cM,h,cd,hc,aK,hM=>by refine⟨λaq=>hM a w ⟨σ,m,ρ,aK.1 aq,Mem.le_refl m,h,cd,hc,kD.refl _ _⟩,λi ag=>?_⟩;have ab:=aK.2 i ag;obtain⟨_,o,aR,_⟩:=xbO.1 ag;unfold hy at ab;simp only[aR]at ab;refine wpOp_mono ?_ (Pz bb cM h cd hc aR (gB o (xbR aR)) ab);rintro cx w' ⟨aT,cG,cR,bG,bw,cl,dA,dZ,eU⟩;refine PI (m:=m) bb gB fuel _ cG cR aT cx w' (cM.mono bw) cl dA dZ bG ?_;rintro pc kE ⟨q5,yn,yo,eJ,dV,hJ,q6,yp,yq⟩;exact hM pc kE ⟨q5,yn,yo,eJ,Mem.le_trans bw dV,hJ,q6,yp,eU.trans yq⟩
end
def gC(σ τ:aI):Prop:=∀m fr ρ a w,Den m fr ρ σ a w->∃cG cR,m.le cG/\Den cG fr cR τ a w/\kD σ ρ τ cR
def gC.refl(σ:aI):gC σ σ:=λm fr ρ a w h=>⟨m,ρ,Mem.le_refl m,h,kD.refl _ _⟩
def gC.trans{σ τ yr:aI}(h:gC σ τ)(bs:gC τ yr):gC σ yr:=λm fr ρ a w cK=>
 let⟨gd,m1,ab,ad,ax⟩:=h m fr ρ a w cK
 let⟨jm,k2,a8,b3,cI⟩:=bs gd fr m1 a w ad
 ⟨jm,k2,Mem.le_trans ab a8,b3,ax.trans cI⟩
def gU(P:Program)(T:ca)(G:c9)(N:Nat)(c:Code)(σ:aI)(Q:Exit->aI->Prop):Prop:= ∀m fr ρ a w,jv G m->Den m fr ρ σ a w->N<=a.tmps.size->a.defers=[]->c.wp P (λe cx w'=>iJ N m fr ρ σ (Q e) cx w') a w
def Kw(K:aI->Prop)(Q:Exit->aI->Prop):Exit->aI->Prop
 | .normal,σ=>K σ|e,σ=>Q e σ
def E2(id:Nat)(Q:Exit->aI->Prop):Exit->aI->Prop
 | .exit uv,σ=>if uv=id then Q .normal σ else Q (.exit uv) σ
 |e,σ=>Q e σ
section
variable{P:Program}{T:ca}{G:c9}{N:Nat}{σ:aI}{Q:Exit->aI->Prop}
def iJ.mono{m:Mem}{fr:eS}{ρ:c5}{K K':aI->Prop}(ah:∀σ,K σ->K' σ){a:Act}{w:World}(h:iJ N m fr ρ σ K a w):iJ N m fr ρ σ K' a w:=
 let⟨aT,cG,cR,ab,ad⟩:=h;⟨aT,cG,cR,ah _ ab,ad⟩
def BJ{c:Code}{W0:Exit->aI->Prop}(h:gU P T G N c σ Q)(bP:∀e σ,Q e σ->W0 e σ):gU P T G N c σ W0:=λm fr ρ a w cM cK cd az=>wp_mono (h m fr ρ a w cM cK cd az) λe cx w' au=>au.mono (bP e)
def aif(h:Q .normal σ):gU P T G N .skip σ Q:=λm fr ρ a w cM cK cd az=>wp_skip ⟨σ,m,ρ,h,Mem.le_refl m,cK,cd,az,kD.refl _ _⟩
def aih{l:Nat}(h:Q .normal σ):gU P T G N (.label l) σ Q:=λm fr ρ a w cM cK cd az=>wp_label ⟨σ,m,ρ,h,Mem.le_refl m,cK,cd,az,kD.refl _ _⟩
def aii{id:Nat}(h:Q (.exit id) σ):gU P T G N (.exit id) σ Q:=λm fr ρ a w cM cK cd az=>wp_exit ⟨σ,m,ρ,h,Mem.le_refl m,cK,cd,az,kD.refl _ _⟩
def aij(h:Q .ret σ):gU P T G N .ret σ Q:=λm fr ρ a w cM cK cd az=>wp_ret ⟨σ,m,ρ,h,Mem.le_refl m,cK,cd,az,kD.refl _ _⟩
def iJ.trans{m gd:Mem}{fr:eS}{ρ m1:c5}{fV:aI}{K:aI->Prop}{a:Act}{w:World}(hm:m.le gd)(ah:kD σ ρ fV m1)(h:iJ N gd fr m1 fV K a w):iJ N m fr ρ σ K a w:=
 let⟨aT,cG,cR,ab,ad,ax,a8,b3,cI⟩:=h;⟨aT,cG,cR,ab,Mem.le_trans hm ad,ax,a8,b3,ah.trans cI⟩
def aik{x y:Code}(h:gU P T G N x σ (Kw (λaT=>gU P T G N y aT Q) Q)):gU P T G N (.seq x y) σ Q:=by intro m fr ρ a w cM cK cd az;refine wp_seq (wp_mono (h m fr ρ a w cM cK cd az) ?_);rintro e cx w' ⟨aT,cG,cR,ab,ad,ax,a8,b3,cI⟩;cases e with|normal=>exact wp_mono (ab cG fr cR cx w' (cM.mono ad) ax a8 b3) λe pc kE au=>au.trans ad cI|exit id=>exact⟨aT,cG,cR,ab,ad,ax,a8,b3,cI⟩|goto l=>exact⟨aT,cG,cR,ab,ad,ax,a8,b3,cI⟩|ret=>exact⟨aT,cG,cR,ab,ad,ax,a8,b3,cI⟩|panic c=>exact⟨aT,cG,cR,ab,ad,ax,a8,b3,cI⟩|outgrown=>exact⟨aT,cG,cR,ab,ad,ax,a8,b3,cI⟩
def ail(Q:Exit->aI->Prop):Exit->aI->Prop
 | .goto _,_=>False|e,σ=>Q e σ
def aim{c:Code}(h:gU P T G N c σ (ail Q)):gU P T G N (.scope c) σ Q:=by intro m fr ρ a w cM cK cd az;refine wp_scope_straight (wp_mono (h m fr ρ a w cM cK cd az) ?_);rintro e cx w' ⟨aT,cG,cR,ab,ad,ax,a8,b3,cI⟩;cases e with|goto l=>exact ab.elim|normal=>exact⟨aT,cG,cR,ab,ad,ax,a8,b3,cI⟩|exit id=>exact⟨aT,cG,cR,ab,ad,ax,a8,b3,cI⟩|ret=>exact⟨aT,cG,cR,ab,ad,ax,a8,b3,cI⟩|panic c=>exact⟨aT,cG,cR,ab,ad,ax,a8,b3,cI⟩|outgrown=>exact⟨aT,cG,cR,ab,ad,ax,a8,b3,cI⟩
def Kx{c:Operand}{x y:Code}{b:Bool}(ai:b8 G σ.aJ c= .d (.val (.bool b)))(h:if b=true then gU P T G N x σ Q else gU P T G N y σ Q):gU P T G N (.cond c x y) σ Q:=by
 intro m fr ρ a w cM cK cd az;have aK:=Es (a:=a) cM cK.aJ c;rw[ai]at aK;refine wp_cond aK.hj ?_;cases b
 .exact h m fr ρ a w cM cK cd az
 exact h m fr ρ a w cM cK cd az
def ain{id:Nat}{c:Code}(h:gU P T G N c σ (E2 id Q)):gU P T G N (.block id c) σ Q:=by
 intro m fr ρ a w cM cK cd az;refine wp_block (wp_mono (h m fr ρ a w cM cK cd az) ?_);intro e cx w' au;cases e with
 |exit uv=>
  simp only[Exit.inBlock];by_cases ag:uv=id;.rw[xaa ag];exact au.mono λσ bP=>by simp only[E2,ag,xaz]at bP;exact bP
  rw[xab ag];exact au.mono λσ bP=>by simp only[E2,ag,xaA]at bP;exact bP
 |normal=>exact au|goto l=>exact au|ret=>exact au|panic c=>exact au|outgrown=>exact au
def PJ{τ:aI}{c:Code}(he:gC σ τ)(h:gU P T G N c τ Q):gU P T G N c σ Q:=by intro m fr ρ a w cM cK cd az;obtain⟨cG,cR,ab,ad,ax⟩:=he m fr ρ a w cK;exact wp_mono (h cG fr cR a w (cM.mono ab) ad cd az) λe cx w' au=>au.trans ab ax
def wE(N:Nat)(ops:Array Oper):Bool:=ops.toList.all λo=>match o.dst with|some d=>decide (d<N)|none=>true
def wF{ops:Array Oper}(h:wE N ops=true):∀o∈ops,∀d,o.dst=some d->d<N:=by intro o aR d az;have:=xau.1 h o (by simpa using aR);simp only[az]at this;simpa using this
theorem Den.drew{m:Mem}{fr:eS}{ρ:c5}{a:Act}{w:World}(h:Den m fr ρ σ a w)(n:Nat):Den m fr ρ σ a {w with drawn:=n}:=by refine⟨h.mem,⟨h.frame.n4,h.frame.quiet.same rfl rfl rfl⟩,h.apart,h.one,h.aJ,?_,h.own,h.sep⟩;intro k o ah;exact(h.objs k o ah).mono (Mem.le_refl m) (λ_ hu=>⟨hu,rfl⟩) (λb _ _=>rfl)
def aio(bb:dy P T)(hm:P.follows .mixedOrders=true){id:Nat}{ops:Array Oper}(cd:wE N ops=true)(ord:List Nat)(bH:ord.length=ops.size)(BK:ym T ops ord (Array.replicate ops.size false)=true) (h:BI P T G ops ord (Q .normal) σ):gU P T G N (.region id ops true) σ Q:=by intro m fr ρ a w cM cK nu az;refine wp_region_any hm ?_;have ab:=WZ ord (Array.replicate ops.size false) σ BK h;rw[bH]at ab;exact PI (m:=m) (fr:=fr) (N:=N) (Q:=λe cx w'=>iJ N m fr ρ σ (Q e) cx w') bb (wF cd) ops.size _ m ρ σ a _ cM (cK.drew _) nu az ab (λcx w' au=>au)
def aip{ι:Type}{c:Code}{Q:Exit->Act->World->Prop}{a:Act}{w:World}(eF:ι->Act->World->Prop)(wG:ι->Nat)(i0:ι)(aiq:eF i0 a w) (round:∀i a w,eF i a w->c.wp P (Exit.then (λcx w'=>∃j,eF j cx w'/\wG j<wG i) Q) a w):(Code.loop c).wp P Q a w:=by
 intro b k cs;have key:∀n i a w,wG i=n->eF i a w->∃e cx w',Q e cx w'/\Arrives P (lone (b.at a (.code c:: .inLoop c::k)) cs w) b k cs e cx w':=by
  intro n
  induction n using Nat.strongRecOn with
  |_ n ih=>
   intro i a w aC e8;obtain⟨e,BL,BM,bP,wH⟩:=round i a w e8 b (.inLoop c::k) cs;cases e with
   |normal=>obtain⟨j,air,bZ⟩:=bP;obtain⟨ais,ait,aiu,aiv,aiw⟩:=ih (wG j) (aC▸bZ) j BL BM rfl air;exact⟨ais,ait,aiu,aiv,.of_steps (Steps.trans wH (.one step_inLoop)) aiw⟩
   |exit id=>exact⟨_,BL,BM,bP,.pass (x:= .inLoop c) rfl (λ_ _=> .inl (by simp)) wH⟩|goto l=>exact⟨_,BL,BM,bP,.pass (x:= .inLoop c) rfl (λ_ _=> .inl (by simp)) wH⟩|ret=>exact⟨_,BL,BM,bP,.pass (x:= .inLoop c) rfl (λ_ _=> .inl (by simp)) wH⟩|panic azZ=>exact⟨_,BL,BM,bP,.pass (x:= .inLoop c) rfl (λ_ _=> .inl (by simp)) wH⟩|outgrown=>exact⟨_,BL,BM,bP,.pass (x:= .inLoop c) rfl (λ_ _=> .inl (by simp)) wH⟩
 obtain⟨e,cx,w',bP,wH⟩:=key _ i0 a w rfl aiq;exact⟨e,cx,w',bP,.of_steps (.one step_loop) wH⟩
def aix{ι:Type}{c:Code}(eF:ι->aI)(wG:ι->Nat)(i0:ι)(aq:gC σ (eF i0)) (round:∀i,gU P T G N c (eF i) (Kw (λaT=>∃j,gC aT (eF j)/\wG j<wG i) Q)):gU P T G N (.loop c) σ Q:=by
 intro m fr ρ a w cM cK cd az;refine aip (λi a w=>∃gd m1,m.le gd/\Den gd fr m1 (eF i) a w/\N<=a.tmps.size/\a.defers=[]/\kD σ ρ (eF i) m1) wG i0 ?_ ?_;.obtain⟨cG,cR,ab,ad,ax⟩:=aq m fr ρ a w cK;exact⟨cG,cR,ab,ad,cd,az,ax⟩
 rintro i ao lr ⟨gd,m1,g1,g2,g3,g4,g5⟩;refine wp_mono (round i gd fr m1 ao lr (cM.mono g1) g2 g3 g4) ?_;intro e cx w' au;have mr:=au.trans g1 g5;cases e with
 |normal=>obtain⟨aT,cG,cR,⟨j,aG,bZ⟩,ad,ax,a8,b3,cI⟩:=mr;obtain⟨jm,k2,bG,bw,cl⟩:=aG cG fr cR cx w' ax;exact⟨j,⟨jm,k2,Mem.le_trans ad bG,bw,a8,b3,cI.trans cl⟩,bZ⟩
 |exit id=>exact mr|goto l=>exact mr|ret=>exact mr|panic c=>exact mr|outgrown=>exact mr
def ys(T:ca)(σ:aI):ResultVar->Option aS
 | .tmp t=>some (σ.aJ t)
 | .cell a t=>match T t,σ.aJ a with
  |some i,.ptr k off=>match σ.objs k with|some (.box cells)=>wb i cells off|_=>none
  |_,_=>none
def q7(T:ca)(σ:aI)(rs:List ResultVar):Option aS:=match hb (rs.map (ys T σ))with|some [x]=>some x|some l=>some (.aO l)|none=>none
def aiy(bb:dy P T){m:Mem}{fr:eS}{ρ:c5}{a:Act}{w:World}(h:Den m fr ρ σ a w){wI:ResultVar}{x:aS}(ae:ys T σ wI=some x): ∃v,((match wI with| .tmp t=>pure (a.tmps.getD t undef)| .cell ic t=>do loadVar t (<-asAddr (a.tmps.getD ic undef)):Sem Value)).run P w= .ok v w/\b2 m ρ σ.used x v:=by
 cases wI with
 |tmp t=>simp only[ys,xaH]at ae;subst ae;exact⟨_,rfl,h.aJ t⟩
 |cell ic t=>
  simp only[ys]at ae;split at ae
  case h_2=>cases ae
  rename_i i k off aF av;split at ae
  case h_2=>cases ae
  rename_i cells ah;have aH:=h.aJ ic;rw[av]at aH;generalize x5:a.tmps.getD ic undef=u at aH;cases aH with|ptr _ _ b hu au=>
  obtain⟨b',vs,dB,aN,aV,bS,cT⟩:=h.objs _ _ ah;rw[au]at aN;cases aN;obtain⟨v,eL,eM⟩:=VU (P:=P) bb aF aV ⟨bS,cT⟩ ae;exact⟨v,by simp only[x5,asAddr,xah,xav,xaf,eL],eM⟩
def W1(bb:dy P T){m:Mem}{fr:eS}{ρ:c5}{a:Act}{w:World}(h:Den m fr ρ σ a w):∀(rs:List ResultVar)(xs:List aS),hb (rs.map (ys T σ))=some xs-> ∃vs:List Value,(rs.mapM λ
   | .tmp t=>pure (a.tmps.getD t undef)| .cell ic t=>do loadVar t (<-asAddr (a.tmps.getD ic undef)):Sem (List Value)).run P w= .ok vs w/\vs.length=xs.length/\∀(i:Nat)(x:aS)(v:Value),xs[i]?=some x->vs[i]?=some v->b2 m ρ σ.used x v
 |[],xs,ae=>by simp[hb]at ae;subst ae;exact⟨[],by simp,rfl,by simp⟩
 |wI::rs,xs,ae=>by
  simp only[xay]at ae;cases ab:ys T σ wI with
  |none=>simp[ab,hb]at ae
  |some x=>
   rw[ab]at ae;simp only[hb]at ae;split at ae
   case h_2=>cases ae
   rename_i l an;cases ae;obtain⟨v,eL,eM⟩:=aiy (P:=P) bb h ab;obtain⟨vs,lu,PK,aiz⟩:=W1 bb h rs l an;refine⟨v::vs,?_,by simp[PK],?_⟩;.simp only[List.mapM_cons,xah,eL,lu,xaf,xav]
   intro i y u aP hu;cases i with|zero=>simp at aP hu;subst aP;subst hu;exact eM|succ i=>exact aiz i y u (by simpa using aP) (by simpa using hu)
def W2(bb:dy P T){m:Mem}{fr:eS}{ρ:c5}{a:Act}{w:World}(h:Den m fr ρ σ a w){fn:Func}{x:aS}(ae:q7 T σ fn.results.toList=some x): ∃v,(results fn a.tmps).run P w= .ok v w/\b2 m ρ σ.used x v:=by
 unfold q7 at ae;cases an:hb (fn.results.toList.map (ys T σ))with
 |none=>simp[an]at ae
 |some xs=>
  obtain⟨vs,eL,eM,lu⟩:=W1 (P:=P) bb h fn.results.toList xs an;have hv:((fn.results.mapM λ
   | .tmp t=>pure (a.tmps.getD t undef)| .cell ic t=>do loadVar t (<-asAddr (a.tmps.getD ic undef)):Sem (Array Value))).run P w= .ok vs.toArray w:=by
   rw[Array.mapM_eq_mapM_toList,Sem.run_map,eL];rfl
  have q8:(results fn a.tmps).run P w= .ok (if h:vs.toArray.size=1 then vs.toArray[0]else .tuple vs.toArray) w:=by unfold results;rw[xah];exact(xbY (λr=>Result.andThen r _) hv).trans rfl
  rw[q8];rw[an]at ae;split at ae
  .rename_i y he;cases ae;cases he
   match vs,eM,lu with|[v],_,lu=>exact⟨v,by simp,lu 0 _ _ rfl rfl⟩
  .rename_i l cf he;cases ae;cases he;have fl:vs.toArray.size≠1:=by
    intro ab;have:xs.length=1:=by rw[<-eM];simpa using ab
    obtain⟨y,aP⟩:=List.length_eq_one_iff.1 this;exact cf y aP
   refine⟨.tuple vs.toArray,?_,.aO _ _ (by simpa using eM) (λi c v ai aK=>lu i c v ai (by simpa using aK))⟩;rw[dif_neg fl]
  cases ae
def start(args:List aS)(E:cB):aI:=⟨λt=>args.getD t .any,E⟩
def aiA(bb:dy P T){f:FuncId}{fn:Func}{c:Code}{ds:List D}{eE:D->Prop}(ba:P.funcs[f]?=some fn)(ak:fn.body=some c)(Ky:(fn.name== "runtime.NumGoroutine")=false)(bH:ds.length<=fn.ntmps) (h:gU P T G fn.ntmps c (start (ds.map .d) λ_=>none) λe aT=>(e= .normal\/e= .ret)/\∃r d x,q7 T aT fn.results.toList=some r/\toD aT.objs r=some d/\d.le x/\eE x):eD P G f ds eE:=by
 refine⟨⟨fn,ba,Ky,by rw[ak];rfl⟩,?_⟩;intro m fr w vs cM cH cK;refine calls_of_wp ba ak ?_;have E3:Den m fr (λ_=>undef) (start (ds.map .d) λ_=>none) {tmps:=vs.toArray++Array.replicate (fn.ntmps-vs.toArray.size) undef,defers:=[]} w:=by
  refine⟨cH.mem,cH.frame,cH.apart,?_,?_,?_,?_,?_⟩;.rintro k ⟨o,aR⟩;cases aR
  .intro t;simp only[start];by_cases aF:t<vs.length
   .have bZ:t<ds.length:=by rw[<-cK.1];exact aF
    have az:=xad bZ;have aK:=xad aF;have aN:(ds.map aS.d).getD t .any= .d ds[t]:=by rw[xbh,xag,az];rfl
    have aV:(vs.toArray++Array.replicate (fn.ntmps-vs.toArray.size) undef).getD t undef=vs[t]:=by rw[xbA,xbM (by simpa using aF)];simp[aF]
    rw[aN,aV];exact .d _ _ (cK.2 t _ _ az aK)
   have aN:(ds.map aS.d).getD t .any= .any:=by rw[xbh,xaY (by simp;rw[<-cK.1];omega)];rfl
   rw[aN];exact .any _
  .intro k o ah;cases ah
  .intro k o b ah;cases ah
  intro k bu o o' b _ ah;cases ah
 have fl:fn.ntmps<=(vs.toArray++Array.replicate (fn.ntmps-vs.toArray.size) undef).size:=by simp;omega
 refine wp_mono (h m fr _ _ w cM E3 fl rfl) ?_;rintro e cx w' ⟨aT,cG,cR,⟨he,r,d,x,ab,ad,ax,a8⟩,b3,cI,fo,gD,jW⟩;obtain⟨v,bG,bw⟩:=W2 (P:=P) bb cI ab;have cl:=ax _ _ (Wr cI bw ad);have fin:cx.defers=[]/\∃v,(results fn cx.tmps).run P w'= .ok v w'/\∃v1 gd eL,Ending.returned v= .returned v1/\eE eL/\m.le gd/\mq gd fr w'/\cY gd eL v1:=⟨gD,v,bG,v,Den.all cG cR aT.objs w',x,rfl,a8,Mem.le_trans b3 (Den.BA _ _ _ _),cI.Wo,cl⟩;rcases he with rfl|rfl
 .exact fin
 exact fin
end
def E4:List aS->Option (List D)
 |[]=>some []| .d x::r=>(E4 r).map (x::·)|_=>none
def Kz:aS->Option D
 | .d x=>some x| .agg cs=>(E4 cs).map .agg| .aO cs=>(E4 cs).map .aO|_=>none
def W3:∀{cs:List aS}{ds:List D},E4 cs=some ds->cs=ds.map .d
 |[],ds,h=>by cases h;rfl
 | .d x::r,ds,h=>by obtain⟨l,an,rfl⟩:=xaj.1 h;rw[W3 an];rfl
 | .any::_,_,h=>by cases h
 | .agg _::_,_,h=>by cases h
 | .aO _::_,_,h=>by cases h
 | .ek _ _::_,_,h=>by cases h
 | .ptr _ _::_,_,h=>by cases h
 | .fR _ _ _ _::_,_,h=>by cases h
 | .row _::_,_,h=>by cases h
 | .sub _ _ _ _::_,_,h=>by cases h
 | .map _::_,_,h=>by cases h
 | .fn _ _ _::_,_,h=>by cases h
def aiB{m:Mem}{ρ:c5}{U:Key->Prop}{x:aS}{a:D}{v:Value}(h:Kz x=some a)(ae:b2 m ρ U x v):cY m a v:=by
 have part:∀{cs:List aS}{ds:List D}{vs:Array Value},E4 cs=some ds->vs.size=cs.length->(∀(i:Nat)(c:aS)(v:Value),cs[i]?=some c->vs[i]?=some v->b2 m ρ U c v)->vs.size=ds.length/\∀(i:Nat)(c:D)(v:Value),ds[i]?=some c->vs[i]?=some v->cY m c v:=by intro cs ds vs az an ai;have e:=W3 az;subst e;refine⟨by simpa using an,λi c v ab ad=>?_⟩;have:=ai i (.d c) v (by simp[ab]) ad;cases this with|d _ _ h=>exact h
 unfold Kz at h;split at h;.cases h;cases ae with|d _ _ h=>exact h
 .obtain⟨ds,az,rfl⟩:=xaj.1 h;cases ae with|agg _ vs an ai=>exact .agg _ _ (part az an ai).1 (part az an ai).2
 .obtain⟨ds,az,rfl⟩:=xaj.1 h;cases ae with|aO _ vs an ai=>exact .aO _ _ (part az an ai).1 (part az an ai).2
 cases h
def pd(ch:Key->Key)(U:Key->Prop)(x y:aS):Prop:=match y with| .any=>True| .d b=>∃a,Kz x=some a/\a.le b| .ek cs off=>x= .ek cs off\/x= .d (.ref cs off)| .ptr k off=>x= .ptr (ch k) off/\U k| .fR k cN i off=>x= .fR (ch k) cN i off/\U k| .row k=>x= .row (ch k)/\U k| .sub k cN i len=>x= .sub (ch k) cN i len/\U k| .map k=>x= .map (ch k)/\U k|_=>False
def jn(ch:Key->Key)(U:Key->Prop):List aS->List aS->Prop
 |[],[]=>True|x::xs,y::c0=>pd ch U x y/\jn ch U xs c0|_,_=>False
def uw(ch:Key->Key)(U:Key->Prop)(x y:aS):Prop:=match y with
 | .agg c0=>match x with| .agg xs=>jn ch U xs c0| .d (.agg ds)=>jn ch U (ds.map .d) c0|_=>False
 | .aO c0=>match x with| .aO xs=>jn ch U xs c0|_=>False
 | .fn f as gb=>match x with| .fn kj aiC aiD=>f=kj/\jn ch U aiC as/\jn ch U aiD gb|_=>False
 |y=>pd ch U x y
def sP(ch:Key->Key)(U:Key->Prop):List aS->List aS->Prop
 |[],[]=>True|x::xs,y::c0=>uw ch U x y/\sP ch U xs c0|_,_=>False
section
variable{m:Mem}{ρ:c5}{qb U:Key->Prop}{ch:Key->Key}
def pd.ok{x y:aS}(h:pd ch U x y){v:Value}(ae:b2 m ρ qb x v):b2 m (λk=>ρ (ch k)) U y v:=by
 unfold pd at h;split at h;.exact .any _
 .obtain⟨a,aH,hle⟩:=h;exact .d _ _ (hle _ _ (aiB aH ae))
 .rcases h with rfl|rfl;.cases ae with|ek _ _ b o vs T dM hm xs ab ad=>exact .ek _ _ b o vs T dM hm xs ab ad
  cases ae.n5 with|ref _ _ b o vs T dM hm xs ab ad=>exact .ek _ _ b o vs T dM hm xs ab ad
 .obtain⟨rfl,hu⟩:=h;cases ae with|ptr _ _ b _ au=>exact .ptr _ _ b hu au
 .obtain⟨rfl,hu⟩:=h;cases ae with|fR _ _ _ _ b o len cap _ au=>exact .fR _ _ _ _ b o len cap hu au
 .obtain⟨rfl,hu⟩:=h;cases ae;exact .row (ρ:=λk=>ρ (ch k)) _ hu
 .obtain⟨rfl,hu⟩:=h;cases ae with|sub _ _ _ _ b o L cap a _ au hle aH=>exact .sub _ _ _ _ b o L cap a hu au hle aH|ju _ _ _ _ au=>exact .ju _ _ _ hu au
 .obtain⟨rfl,hu⟩:=h;cases ae;exact .map (ρ:=λk=>ρ (ch k)) _ hu
 cases h
def jn.ok:∀{xs c0:List aS},jn ch U xs c0->c0.length=xs.length/\∀(i:Nat)(y:aS),c0[i]?=some y->∃x,xs[i]?=some x/\pd ch U x y
 |[],[],_=>⟨rfl,by simp⟩|x::xs,y::c0,h=>by have ih:=jn.ok h.2;refine⟨by simp[ih.1],?_⟩;intro i z bm;cases i with|zero=>simp at bm;subst bm;exact⟨x,rfl,h.1⟩|succ i=>simp at bm;obtain⟨w,ab,ad⟩:=ih.2 i z bm;exact⟨w,by simpa using ab,ad⟩
 |[],y::c0,h=>h.elim|x::xs,[],h=>h.elim
def jn.cells{xs c0:List aS}{vs:Array Value}(h:jn ch U xs c0)(ae:lS m ρ qb xs vs):lS m (λk=>ρ (ch k)) U c0 vs:=by obtain⟨ab,ad⟩:=h.ok;refine⟨by rw[ae.1,ab],?_⟩;intro i y v aP aK;obtain⟨x,ax,a8⟩:=ad i y aP;exact a8.ok (ae.2 i x v ax aK)
def uw.ok{x y:aS}(h:uw ch U x y){v:Value}(ae:b2 m ρ qb x v):b2 m (λk=>ρ (ch k)) U y v:=by
 unfold uw at h;split at h
 .rename_i c0;split at h;.rename_i xs;obtain⟨vs,rfl,ai⟩:=ae.VP;have:=jn.cells h ai;exact .agg _ _ this.1 this.2
  .rename_i ds;obtain⟨vs,rfl,an,ai⟩:=ae.VO;have aq:lS m ρ qb (ds.map .d) vs:=⟨by simpa using an,by
    intro i c v dX aK;simp only[xag,xaj]at dX;obtain⟨z,bm,rfl⟩:=dX;exact .d _ _ (ai i z v bm aK)⟩
   have:=jn.cells h aq;exact .agg _ _ this.1 this.2
  cases h
 .split at h;.obtain⟨vs,rfl,ai⟩:=ae.VQ;have:=jn.cells h ai;exact .aO _ _ this.1 this.2
  cases h
 .split at h
  .obtain⟨rfl,ab,ad⟩:=h;cases ae with|fn _ _ _ vs ws an en g qY=>
   have a:=jn.cells (U:=U) ab ⟨an,g⟩;have b:=jn.cells (U:=U) ad ⟨en,qY⟩;exact .fn _ _ _ vs ws a.1 b.1 a.2 b.2
  cases h
 exact h.ok ae
end
def sP.ok{ch:Key->Key}{U:Key->Prop}:∀{xs c0:List aS},sP ch U xs c0->c0.length=xs.length/\∀(i:Nat)(y:aS),c0[i]?=some y->∃x,xs[i]?=some x/\uw ch U x y
 |[],[],_=>⟨rfl,by simp⟩|x::xs,y::c0,h=>by have ih:=sP.ok h.2;refine⟨by simp[ih.1],?_⟩;intro i z bm;cases i with|zero=>simp at bm;subst bm;exact⟨x,rfl,h.1⟩|succ i=>simpa using ih.2 i z (by simpa using bm)
 |[],y::c0,h=>h.elim|x::xs,[],h=>h.elim
def sP.cells{m:Mem}{ρ:c5}{qb U:Key->Prop}{ch:Key->Key}{xs c0:List aS}{vs:Array Value}(h:sP ch U xs c0)(ae:lS m ρ qb xs vs):lS m (λk=>ρ (ch k)) U c0 vs:=by obtain⟨ab,ad⟩:=h.ok;refine⟨by rw[ae.1,ab],?_⟩;intro i y v aP aK;obtain⟨x,ax,a8⟩:=ad i y aP;exact a8.ok (ae.2 i x v ax aK)
def PL(es c6:List (List D)):Prop:=es=c6\/(es.length=c6.length/\∀(i:Nat)(x y:List D),es[i]?=some x->c6[i]?=some y->x.length=y.length/\y.all D.one=true/\∀(j:Nat)(a b:D),x[j]?=some a->y[j]?=some b->a.le b)
def yt(ch:Key->Key)(U:Key->Prop)(x y:cO):Prop:=match y with| .dead=>True| .box c0=>∃xs,x= .box xs/\sP ch U xs c0| .row k c6=>∃es,x= .row k es/\PL es c6| .map es=>x= .map es
def PL.ok{m:Mem}{ρ cR:c5}{U mY:Key->Prop}{k:Nat}{es c6:List (List D)}(h:PL es c6){v:Value}{w:World}(ae:iQ m ρ U v w (.row k es)):iQ m cR mY v w (.row k c6):=by
 rcases h with rfl|⟨an,h⟩;.exact ae
 rcases ae with⟨aN,rfl⟩|⟨b,o,cap,vs,T,aN,aV,bS,cT,dJ,eH⟩;.exact .inl ⟨aN,xaM (by rw[<-an];rfl)⟩
 have key:∀(i:Nat)(y:List D),c6[i]?=some y->∃x,es[i]?=some x/\x.length=y.length/\y.all D.one=true/\∀(j:Nat)(a b:D),x[j]?=some a->y[j]?=some b->a.le b:=by
  intro i y aP;have ag:i<es.length:=by rw[an];exact(xae.1 aP).1
  exact⟨_,xad ag,h i _ y (xad ag) aP⟩
 refine .inr ⟨b,o,cap,vs,T,by rw[<-an];exact aN,aV,by omega,cT,?_,?_⟩;.intro y aP;obtain⟨i,ag⟩:=xaJ.1 aP;obtain⟨x,ab,ad,ax,_⟩:=key i y ag;exact⟨by rw[<-ad];exact(dJ x (xac ab)).1,ax⟩
 intro i y j c ag aG;obtain⟨x,ab,ad,_,ax⟩:=key i y ag;have yu:j<x.length:=by rw[ad];exact(xae.1 aG).1
 obtain⟨z,g1,g2⟩:=eH i x j _ ab (xad yu);exact⟨z,g1,ax j _ c (xad yu) aG _ _ g2⟩
def KA:List (Nat×aS)->Nat->aS
 |[],_=> .any|(j,v)::r,t=>if t=j then v else KA r t
def eV:List (Key×cO)->Key->Option cO
 |[],_=>none|(j,o)::r,k=>if k=j then some o else eV r k
def W4(ls:List (Nat×aS))(lo:List (Key×cO)):aI:=⟨KA ls,eV lo⟩
def BN(ch:Key->Key)(U:Key->Prop)(σ:aI):List (Nat×aS)->Prop
 |[]=>True|(t,v)::r=>uw ch U (σ.aJ t) v/\BN ch U σ r
def yv(ch:Key->Key)(U:Key->Prop)(σ:aI):List (Key×cO)->Prop
 |[]=>True|(k,o)::r=>(∃o',σ.objs (ch k)=some o'/\yt ch U o' o)/\yv ch U σ r
def BN.ok{ch:Key->Key}{U:Key->Prop}{σ:aI}:∀{ls:List (Nat×aS)},BN ch U σ ls->∀t,uw ch U (σ.aJ t) (KA ls t)
 |[],_,t=>trivial
 |(j,v)::r,h,t=>by
  unfold KA;split;.rename_i e;subst e;exact h.1
  exact BN.ok h.2 t
def yv.ok{ch:Key->Key}{U:Key->Prop}{σ:aI}:∀{lo:List (Key×cO)},yv ch U σ lo->∀k o,eV lo k=some o->∃o',σ.objs (ch k)=some o'/\yt ch U o' o
 |[],_,k,o,h=>by cases h
 |(j,x)::r,h,k,o,ah=>by
  unfold eV at ah;split at ah;.rename_i e;subst e;cases ah;exact h.1
  exact yv.ok h.2 k o ah
def fz:List (Key×Key)->Key->Key
 |[],k=>k|(a,b)::r,k=>if k=a then b else fz r k
def l0(lo:List (Key×cO)):List Key:=lo.map (·.1)
def yw(ch:Key->Key):List Key->Bool
 |[]=>true|k::r=>r.all (λj=>k==j||!(ch k==ch j))&&yw ch r
def KB{ch:Key->Key}:∀{l:List Key},yw ch l=true->∀k j,k∈l->j∈l->ch k=ch j->k=j
 |[],_,k,j,h,_,_=>by cases h
 |x::r,h,k,j,ah,aG,he=>by
  simp only[yw,xao,xau]at h;rcases xas.1 ah with rfl|e1
  .rcases xas.1 aG with rfl|sC;.rfl
   have:=h.1 j sC;simp at this;rcases this with ab|ab
   .exact ab
   exact absurd he ab
  rcases xas.1 aG with rfl|sC
  .have:=h.1 k e1;simp at this;rcases this with ab|ab
   .exact ab.symm
   exact absurd he.symm ab
  exact KB h.2 k j e1 sC he
def wJ:∀{lo:List (Key×cO)} {k:Key} {o:cO},eV lo k=some o->k∈l0 lo
 |[],k,o,h=>by cases h
 |(j,x)::r,k,o,h=>by
  unfold eV at h;split at h;.rename_i e;subst e;simp[l0]
  have:=wJ h;simp only[l0,xay,xas]at this⊢;exact .inr this
def aiE{σ:aI}{ls:List (Nat×aS)}{lo:List (Key×cO)}(l:List (Key×Key))(au:yw (fz l) (l0 lo)=true) (av:BN (fz l) (λk=>∃o,eV lo k=some o) σ ls) (aR:yv (fz l) (λk=>∃o,eV lo k=some o) σ lo) (ah:∀k,10000<=k->eo (σ.objs k)->eo (eV lo k)/\fz l k=k):gC σ (W4 ls lo):=by
 intro m fr ρ a w h;have jS:∀{o o':cO},yt (fz l) (λk=>∃o,eV lo k=some o) o' o->o.owns=true->o'.owns=true:=by
  intro o o' hle aR;cases o with
  |dead=>cases aR
  |box=>obtain⟨xs,rfl,_⟩:=hle;rfl
  |row=>obtain⟨es,rfl,_⟩:=hle;rfl
  |map=>cases hle;rfl
 refine⟨m,λk=>ρ (fz l k),Mem.le_refl m,⟨h.mem,h.frame,h.apart,?_,?_,?_,?_,?_⟩,λk e1 ak=>⟨(ah k e1 ak).1,by show ρ (fz l k)=ρ k;rw[(ah k e1 ak).2]⟩⟩;.rintro k ⟨o,l1⟩;obtain⟨o',ab,_⟩:=aR.ok k o l1;exact h.one _ ⟨o',ab⟩
 .intro t;exact(av.ok t).ok (h.aJ t)
 .intro k o l1;obtain⟨o',ab,ad⟩:=aR.ok k o l1;have ax:=h.objs _ _ ab;cases o with
  |dead=>trivial|box c0=>obtain⟨xs,rfl,hle⟩:=ad;obtain⟨b,vs,T,aN,aV,bS,cT⟩:=ax;have:=sP.cells hle ⟨bS,cT⟩;exact⟨b,vs,T,aN,aV,this.1,this.2⟩
  |row cN c6=>obtain⟨es,rfl,hle⟩:=ad;exact hle.ok ax
  |map es=>cases ad;exact ax
 .intro k o b l1 KC ak;obtain⟨o',ab,ad⟩:=aR.ok k o l1;exact h.own _ o' b ab (jS ad KC) ak
 intro k bu o o' b cf l1 E5 PM PN ak;obtain⟨x,ab,ad⟩:=aR.ok k o l1;obtain⟨jR,dQ,gR⟩:=aR.ok bu o' E5;exact h.sep (fz l k) (fz l bu) x jR b (λe=>cf (KB au k bu (wJ l1) (wJ E5) e)) ab dQ (jS ad PM) (jS gR PN) ak
def BO(P:Program):Nat->List Field->Option (List TypeDesc)
 |_,[]=>some []|off,f::c6=>if f.name≠ "_" /\f.offset=off then(match P.underlying f.type with|some .bool=>(BO P (off+1) c6).map (.bool::·)|some (.int k)=>(BO P (off+1) c6).map (.int k::·)|some .string=>(BO P (off+1) c6).map (.string::·)|_=>none)else none
def KD{P:Program}:∀{c6:List Field}{off:Nat}{l:List TypeDesc},BO P off c6=some l->JJ P off c6 l
 |[],_,l,h=>by cases h;trivial
 |f::c6,off,l,h=>by
  unfold BO at h;split at h
  case isFalse=>cases h
  rename_i ab;split at h;.rename_i hu;obtain⟨r,au,rfl⟩:=xaj.1 h;exact⟨ab.1,ab.2,hu,rfl,KD au⟩
  .rename_i hu;obtain⟨r,au,rfl⟩:=xaj.1 h;exact⟨ab.1,ab.2,hu,rfl,KD au⟩
  .rename_i hu;obtain⟨r,au,rfl⟩:=xaj.1 h;exact⟨ab.1,ab.2,hu,rfl,KD au⟩
  cases h
def PO(P:Program)(t:TypeId):Option (List TypeDesc):=match P.underlying t with
 |some (.struct c6)=>match BO P 0 c6.toList with
  |some l=>if P.stoodInHeld t=false/\P.eqGuardType P.depth t=false then some l else none
  |none=>none
 |_=>none
def aiF{P:Program}{t:TypeId}{l:List TypeDesc}(h:PO P t=some l):VA P t l:=by
 unfold PO at h;split at h
 case h_2=>cases h
 rename_i c6 hu;have ba:P.fieldsOf t=c6:=by simp[Program.fieldsOf,hu]
 split at h
 case h_2=>cases h
 rename_i nj an;split at h
 case isFalse=>cases h
 rename_i ai;cases h;exact⟨by rw[ba];exact hu,ai.1,ai.2,by rw[ba];exact KD an⟩
def E6(P:Program)(t:TypeId):Option iu:=match P.underlying t,P.info? t with
 |some d,some i=>match i.zero with
  |some z=>if z.cells.size=i.size then some ⟨d,i.size,i.bytes,z⟩else none
  |none=>none
 |_,_=>none
def PQ(P:Program)(t:TypeId)(name:String):Option FuncId:=match P.info? t,P.underlying t with
 |some i,some d=>match d with
  | .pointer _=>none
  |_=>match i.methods.find? (λm=>m.name==name)with
   |some m=>match m.path.toList,m.func with|[],some (f,false)=>some f|_,_=>none
   |none=>none
 |_,_=>none
def aiG{P:Program}{t:TypeId}{name:String}{f:FuncId}(h:PQ P t name=some f):JK P t name f:=by
 unfold PQ at h;split at h
 case h_2=>cases h
 rename_i i d ab ad;split at h
 case h_1=>cases h
 rename_i aU;split at h
 case h_2=>cases h
 rename_i m hm;split at h
 case h_2=>cases h
 rename_i g ax a8;cases h;exact⟨i,m,d,ab,hm,ax,a8,ad,λe he=>aU e he⟩
def fp(P:Program):ca:=⟨E6 P,PO P,λ_=>false,PQ P,[],[]⟩
def ca.KE(T:ca)(l:List TypeId):ca:=⟨T.JH,T.eqs,T.born,T.qN,l,T.dyn⟩
def dy.KE{P:Program}{T:ca}(h:dy P T)(l:List TypeId):dy P (T.KE l):=⟨h.ty,h.Bk,h.eqs,h.JL⟩
def ca.qc(T:ca)(l:List Nat):ca:=⟨T.JH,T.eqs,λk=>l.contains k,T.qN,T.OW,T.dyn⟩
def dy.qc{P:Program}{T:ca}(h:dy P T)(l:List Nat):dy P (T.qc l):=⟨h.ty,h.Bk,h.eqs,h.JL⟩
def ca.KF(T:ca)(l:List (Nat×List FuncId)):ca:=⟨T.JH,T.eqs,T.born,T.qN,T.OW,l⟩
def dy.KF{P:Program}{T:ca}(h:dy P T)(l:List (Nat×List FuncId)):dy P (T.KF l):=⟨h.ty,h.Bk,h.eqs,h.JL⟩
def tok(P:Program):dy P (fp P):=by
 constructor
 .intro t i h;change E6 P t=some i at h;unfold E6 at h;split at h
  case h_2=>cases h
  rename_i d info ab ad;split at h
  case h_2=>cases h
  rename_i z bm;split at h
  case isFalse=>cases h
  cases h;exact⟨ab,info,ad,rfl,rfl,bm⟩
 .intro t i h;change E6 P t=some i at h;unfold E6 at h;split at h
  case h_2=>cases h
  rename_i d info ab ad;split at h
  case h_2=>cases h
  rename_i z bm;split at h
  case isFalse=>cases h
  rename_i av;cases h;exact av
 .intro t l h;exact aiF h
 intro t name f h;exact aiG h
def J(n:Int):D:= .val (.int .i64 n)
def ay(b:Bool):D:= .val (.bool b)
def aQ(s:ByteArray):D:= .val (.string s)
def b0(l:List Int):D:= .aA 1 (l.map λn=>[J n])
def dk(l:List ByteArray):D:= .aA 1 (l.map λs=>[aQ s])
end Go.Am
