/- Calls, regions in any order, loops: their rules over such values. No condition. -/
import Derived.Test.YtbninlabhgbhcaaGreatDoorEngA
import Derived.Still
import Derived.Scope
set_option linter.all false
set_option linter.unnecessarySimpa false
namespace Go.Am
def aF.put(σ:aF)(dst:Option Tmp)(r:aS):aF:=match dst with|some d=>⟨cl σ.aH d r,σ.objs⟩|none=>σ
def gL(T:cd)(G:df)(σ:aF)(o:Oper):Option aF:=match ep T (b7 G σ.aH) o.op with|some r=>some (σ.put o.dst r)|none=>match dw T (b7 G σ.aH) σ.objs o.op with|some r=>some (σ.put o.dst r)|none=>match g2 T (b7 G σ.aH) σ.objs (o.dst.getD 9999) o.op with|some (r,cz)=>some (aF.put ⟨σ.aH,dz σ.objs cz⟩ o.dst r)|none=>none
structure sC(m:Mem)(fr:fz)(w:World):Prop where
 mem:∀b o,m b=some o->w.heap[b]?=some o
 frame:Wc fr w
 apart:∀b,m b≠none->fr b=none
def Den.ok{m:Mem}{fr:fz}{ρ:da}{σ:aF}{a:Act}{w:World}(h:Den m fr ρ σ a w):sC m fr w:=⟨h.mem,h.frame,h.apart⟩
def yv(m:Mem)(aO:List D)(vs:List Value):Prop:=vs.length=aO.length/\∀(i:Nat)(d:D)(v:Value),aO[i]?=some d->vs[i]?=some v->di m d v
def wu(P:Program)(f:FuncId):Prop:=∃fn,P.funcs[f]?=some fn/\(fn.name== "runtime.NumGoroutine")=false/\fn.body.isNone=false
structure fb(P:Program)(G:df)(f:FuncId)(aO:List D)(e8:D->Prop):Prop where
 fn:wu P f
 run:∀m fr w vs,kk G m->sC m fr w->yv m aO vs->Calls P f vs.toArray w λe w'=>∃v cH r,e= .returned v/\e8 r/\m.le cH/\sC cH fr w'/\di cH r v
def fb.mono{P:Program}{G:df}{f:FuncId}{aO:List D}{e8 W4:D->Prop}(h:fb P G f aO e8)(aw:∀r,e8 r->W4 r):fb P G f aO W4:=⟨h.fn,λm fr w vs c0 dD cU=>(h.run m fr w vs c0 dD cU).mono λe w' ⟨v,cH,r,aa,ae,ay⟩=>⟨v,cH,r,aa,aw r ae,ay⟩⟩
def q1:List D->List D->Prop
 |[],[]=>True|x::xs,y::cY=>x.le y/\q1 xs cY|_,_=>False
def q1.refl:∀l:List D,q1 l l
 |[]=>trivial|x::l=>⟨x.le_refl,q1.refl l⟩
def q1.ok{m:Mem}:∀{xs cY:List D}{vs:List Value},q1 xs cY->yv m xs vs->yv m cY vs
 |[],[],vs,_,h=>h|x::xs,y::cY,[],_,h=>by have:=h.1;simp at this|x::xs,y::cY,v::vs,aq,h=>by have ih:=q1.ok (m:=m) (vs:=vs) aq.2 ⟨by simpa using h.1,λi d u aA hu=>h.2 (i+1) d u (by simpa using aA) (by simpa using hu)⟩;refine⟨by simpa using ih.1,?_⟩;intro i d u aA hu;cases i with|zero=>simp at aA hu;subst aA;subst hu;exact aq.1 m v (h.2 0 x v rfl rfl)|succ i=>exact ih.2 i d u (by simpa using aA) (by simpa using hu)
 |[],y::cY,vs,h,_=>h.elim|x::xs,[],vs,h,_=>h.elim
def D.flat:D->Bool
 | .val _=>true| .agg cs=>cs.all λc=>match c with| .val _=>true|_=>false
 | .aR cs=>cs.all λc=>match c with
  | .val _=>true| .agg cs=>cs.all λc=>match c with| .val _=>true|_=>false
  |_=>false
 |_=>false
def aid{m cH:Mem}{c:D}{v:Value}(h:(match c with| .val _=>true|_=>false)=true)(aA:di m c v):di cH c v:=by cases c<;>first|(cases aA;exact .val _)|cases h
def flat_agg{m cH:Mem}{cs:List D}{v:Value}(h:(cs.all λc=>match c with| .val _=>true|_=>false)=true)(aA:di m (.agg cs) v):di cH (.agg cs) v:=by cases aA with|agg _ vs aq bA=>exact .agg _ _ aq λi c u an hu=>aid (xas.1 h c (xad an)) (bA i c u an hu)
def D.aie{m cH:Mem}{x:D}{v:Value}(h:x.flat=true)(aA:di m x v):di cH x v:=by
 cases x with
 |val=>cases aA;exact .val _
 |agg cs=>exact flat_agg h aA
 |aR cs=>
  cases aA with
  |aR _ vs aq bA=>
   refine .aR _ _ aq λi c u an hu=>?_;have aa:=xas.1 h c (xad an);have ae:=bA i c u an hu;cases c with
   |val=>cases ae;exact .val _
   |agg cs=>exact flat_agg aa ae|aR=>cases aa
   |ak=>cases aa
   |dU=>cases aa
   |mp=>cases aa
   |ref=>cases aa
   |fn=>cases aa
 |ak=>cases h
 |dU=>cases h
 |mp=>cases h
 |ref=>cases h
 |fn=>cases h
def q2(objs:cw):aS->Option D
 | .d x=>some x| .row key=>match objs key with|some (.row k es)=>some (.ak k es)|_=>none
 | .sub key k i len=>match objs key with
  |some (.row br es)=>if k=br/\i+len<=es.length then some (.ak k ((es.drop i).take len))else none
  |_=>none
 | .map key=>match objs key with|some (.map es)=>some (.mp es)|_=>none
 |_=>none
def hh{α:Type}:List (Option α)->Option (List α)
 |[]=>some []|some x::r=>match hh r with|some l=>some (x::l)|none=>none
 |none::_=>none
def q3{α:Type}:∀{l:List (Option α)} {r:List α},hh l=some r->r.length=l.length/\∀(i:Nat)(x:α),r[i]?=some x->l[i]?=some (some x)
 |[],r,h=>by simp[hh]at h;subst h;simp|none::l,r,h=>by simp[hh]at h
 |some x::l,r,h=>by
  simp only[hh]at h;split at h
  case h_2=>cases h
  rename_i qS eP;cases h;have ih:=q3 eP;refine⟨by simp[ih.1],?_⟩;intro i y aK;cases i with|zero=>simpa using aK|succ i=>exact ih.2 i y (by simpa using aK)
def m3(objs:cw):aS->Option D
 | .ptr key off=>match objs key with
  |some (.box cells)=>match hh (cells.map (q2 objs))with|some cs=>some (.ref cs off)|none=>none
  |_=>none
 | .dV cs off=>some (.ref cs off)|x=>q2 objs x
def oD(objs:cw):aS->Option D
 | .agg cs=>match hh (cs.map (m3 objs))with|some aO=>some (.agg aO)|none=>none
 | .fn f first cap=>match hh (first.map (m3 objs)),hh (cap.map (m3 objs))with|some as,some jj=>some (.fn f as jj)|_,_=>none
 |x=>m3 objs x
def toD(objs:cw):aS->Option D
 | .aR cs=>match hh (cs.map (oD objs))with|some aO=>some (.aR aO)|none=>none
 |x=>oD objs x
noncomputable def Den.all(m:Mem)(ρ:da)(objs:cw)(w:World):Mem:=λb=>match m b with|some o=>some o|none=>open Classical in if∃k o,objs k=some o/\o.owns=true/\blockOf (ρ k)=some b then w.heap[b]? else none
section
variable{P:Program}{T:cd}{G:df}{m:Mem}{fr:fz}{ρ:da}{σ:aF}{a:Act}{w:World}
def Den.BC(m:Mem)(ρ:da)(objs:cw)(w:World):m.le (Den.all m ρ objs w):=by intro b o h;simp[Den.all,h]
def Den.J2(h:Den m fr ρ σ a w){k:Key}{o:cP}{b:Nat}(al:σ.objs k=some o)(aL:o.owns=true)(ao:blockOf (ρ k)=some b):Den.all m ρ σ.objs w b=w.heap[b]?:=by have:=(h.own k o b al aL ao).1;simp only[Den.all,this];rw[xaa ⟨k,o,al,aL,ao⟩]
def Den.aif(h:Den m fr ρ σ a w):∀b o,Den.all m ρ σ.objs w b=some o->w.heap[b]?=some o:=by
 intro b o ao;unfold Den.all at ao;cases hm:m b with
 |some x=>simp only[hm]at ao;cases ao;exact h.mem b _ hm
 |none=>
  simp only[hm]at ao;split at ao;.exact ao
  cases ao
def Den.W5(h:Den m fr ρ σ a w):sC (Den.all m ρ σ.objs w) fr w:=by
 refine⟨h.aif,h.frame,?_⟩;intro b ao;unfold Den.all at ao;cases hm:m b with
 |some x=>exact h.apart b (by rw[hm];simp)
 |none=>
  simp only[hm]at ao;split at ao;.rename_i an;obtain⟨k,o,aa,ae,ay⟩:=an;exact(h.own k o b aa ae ay).2
  exact absurd rfl ao
def W6(h:Den m fr ρ σ a w){x:aS}{v:Value}{d:D}(ah:b3 m ρ σ.used x v)(aA:q2 σ.objs x=some d):di (Den.all m ρ σ.objs w) d v:=by
 have hle:=Den.BC m ρ σ.objs w;have row:∀key k es v,σ.objs key=some (.row k es)->v=ρ key->di (Den.all m ρ σ.objs w) (.ak k es) v:=by
  rintro key k es v al rfl;rcases h.objs _ _ al with⟨aP,rfl⟩|⟨b,o,cap,vs,dL,aP,a2,bS,cS,dM,e4⟩;.rw[aP];exact .kW _ _ _
  have ao:=h.J2 al rfl (by rw[aP];rfl);obtain⟨f1,f2⟩:=WD (m:=m) dM e4;rw[aP];refine .ak k es b o cap vs dL (0,0) (by rw[ao];exact a2) dM bS (λi j=>(vs[o+i*k+j]?).getD undef) ?_ ?_;.intro i e j c aj aI;obtain⟨x,a9,bk⟩:=e4 i e j c aj aI;rw[a9];rfl
  intro i e j c aj aI;obtain⟨x,a9,bk⟩:=e4 i e j c aj aI;simp only[a9,xbk];exact bk.mono hle
 unfold q2 at aA;split at aA;.cases aA;exact ah.oz.mono hle
 .rename_i key;split at aA
  case h_2=>cases aA
  rename_i k es al;cases aA;cases ah;exact row key k es _ al rfl
 .rename_i key k i len;split at aA
  case h_2=>cases aA
  rename_i br es al;split at aA
  case isFalse=>cases aA
  rename_i an;obtain⟨rfl,JM⟩:=an;cases aA;cases ah with|jM _ _ _ hu aw=>rw[xbO];exact .kW _ _ _|sub _ _ _ _ b o L cap ir hu aw yn aG=>
  have bB:((es.drop i).take len).length=len:=by simp;omega
  rcases Nat.eq_zero_or_pos len with ar|iu;.subst ar;rw[xbO];exact .kW _ _ _
  have mA:=row key k es _ al rfl;rw[aw]at mA;cases mA with
  |kW=>simp at JM;omega
  |ak _ _ _ _ _ vs dL en hm dh an xs aa ae=>
   have:=di.ak (m:=Den.all m ρ σ.objs w) k ((es.drop i).take len) b (o+i*k) (cap-i) vs dL en hm (λe he=>dh e (xbi (xbj he))) (by omega) (λp j=>xs (i+p) j) (λp el j c fa an=>by
     rw[xaL]at fa;split at fa
     case isFalse=>cases fa
     rw[xaS]at fa;have:=aa (i+p) el j c fa an;rw[<-this]
     congr 1
     rw[xaQ];omega)
    (λp el j c fa an=>by
     rw[xaL]at fa;split at fa
     case isFalse=>cases fa
     rw[xaS]at fa;exact ae (i+p) el j c fa an)
   rw[bB]at this;rw[aG.1 (by omega)];exact this
 .rename_i key;split at aA
  case h_2=>cases aA
  rename_i es al;cases aA;cases ah;obtain⟨r,dj,clock,aP,a2,bS,cS,dM⟩:=h.objs _ _ al;have ao:=h.J2 al rfl (by rw[aP];rfl);rw[aP];exact .mp es r dj clock (by rw[ao];exact a2) bS cS (λi e x he ah=>(dM i e x he ah).mono hle)
 cases aA
def J3(h:Den m fr ρ σ a w){x:aS}{v:Value}{d:D}(ah:b3 m ρ σ.used x v)(aA:m3 σ.objs x=some d):di (Den.all m ρ σ.objs w) d v:=by
 have hle:=Den.BC m ρ σ.objs w;unfold m3 at aA;split at aA
 .rename_i key off;split at aA
  case h_2=>cases aA
  rename_i cells al;split at aA
  case h_2=>cases aA
  rename_i cs hr;cases aA;obtain⟨b,vs,dL,aP,a2,bS,cS⟩:=h.objs _ _ al;have ao:=h.J2 al rfl (by rw[aP];rfl);obtain⟨oE,nF⟩:=q3 hr;cases ah with|ptr _ _ b' hu aw=>
  rw[aP]at aw;cases aw;have key:∀(j:Nat)(c:D),cs[j]?=some c->∃u,vs[j]?=some u/\di (Den.all m ρ σ.objs w) c u:=by
   intro j c an;have aa:=nF j c an;simp only[xai,xag]at aa;obtain⟨y,aK,nD⟩:=aa;have aI:j<vs.size:=by rw[bS];exact(xae.1 aK).1
   exact⟨_,xal aI,W6 h (cS j y _ aK (xal aI)) nD⟩
  have:=di.ref (m:=Den.all m ρ σ.objs w) cs off b 0 vs dL (0,0) (by rw[ao];exact a2) (λj=>(vs[j]?).getD undef) (λj c an=>by obtain⟨u,aa,_⟩:=key j c an;simp[aa]) (λj c an=>by obtain⟨u,aa,ae⟩:=key j c an;simp[aa];exact ae);simpa using this
 .cases aA;cases ah with|dV _ _ b o vs T en hm xs aa ae=>exact .ref _ _ b o vs T en (hle _ _ hm) xs aa (λj c an=>(ae j c an).mono hle)
 exact W6 h ah aA
def W7(h:Den m fr ρ σ a w){x:aS}{v:Value}{d:D}(ah:b3 m ρ σ.used x v)(aA:oD σ.objs x=some d):di (Den.all m ρ σ.objs w) d v:=by
 unfold oD at aA;split at aA
 .rename_i cs;split at aA
  case h_2=>cases aA
  rename_i aO eF;cases aA;obtain⟨oE,nF⟩:=q3 eF;cases ah with|agg _ vs aq bA=>
  refine .agg _ _ (by rw[aq,oE];simp) ?_;intro i c u an hu;have aa:=nF i c an;simp only[xai,xag]at aa;obtain⟨y,aK,nD⟩:=aa;exact J3 h (bA i y u aK hu) nD
 .rename_i f first cap
  split at aA
  case h_2=>cases aA
  rename_i as jj has EA;cases aA;obtain⟨oE,nF⟩:=q3 has;obtain⟨cE,eb⟩:=q3 EA;cases ah with|fn _ _ _ vs ws aq eP bA yw=>
  refine .fn _ _ _ vs ws (by rw[aq,oE];simp) (by rw[eP,cE];simp) ?_ ?_;.intro i c u an hu;have aa:=nF i c an;simp only[xai,xag]at aa;obtain⟨y,aK,nD⟩:=aa;exact J3 h (bA i y u aK hu) nD
  intro i c u an hu;have aa:=eb i c an;simp only[xai,xag]at aa;obtain⟨y,aK,nD⟩:=aa;exact J3 h (yw i y u aK hu) nD
 exact J3 h ah aA
def W8(h:Den m fr ρ σ a w){x:aS}{v:Value}{d:D}(ah:b3 m ρ σ.used x v)(aA:toD σ.objs x=some d):di (Den.all m ρ σ.objs w) d v:=by
 unfold toD at aA;split at aA
 .rename_i cs;split at aA
  case h_2=>cases aA
  rename_i aO eF;cases aA;obtain⟨oE,nF⟩:=q3 eF;cases ah with|aR _ vs aq bA=>
  refine .aR _ _ (by rw[aq,oE];simp) ?_;intro i c u an hu;have aa:=nF i c an;simp only[xai,xag]at aa;obtain⟨y,aK,nD⟩:=aa;exact W7 h (bA i y u aK hu) nD
 exact W7 h ah aA
def aih(h:Den m fr ρ σ a w){xs:List aS}{vs:List Value}{aO:List D}(aq:vs.length=xs.length)(ah:∀(i:Nat)(x:aS)(v:Value),xs[i]?=some x->vs[i]?=some v->b3 m ρ σ.used x v)(aA:hh (xs.map (toD σ.objs))=some aO):yv (Den.all m ρ σ.objs w) aO vs:=by obtain⟨oE,nF⟩:=q3 aA;refine⟨by rw[aq,oE];simp,?_⟩;intro i d v aa ae;have ay:=nF i d aa;simp only[xai,xag]at ay;obtain⟨y,aK,nD⟩:=ay;exact W8 h (ah i y v aK ae) nD
def Den.aii(h:Den m fr ρ σ a w){w':World}{cH:Mem}(hle:(Den.all m ρ σ.objs w).le cH)(dD:sC cH fr w'):Den m fr ρ σ a w':=by refine⟨λb o ao=>dD.mem b o (hle b o (Den.BC m ρ σ.objs w b o ao)),dD.frame,h.apart,h.one,h.aH,?_,h.own,h.sep⟩;intro k o al;refine(h.objs k o al).mono (Mem.le_refl m) (λ_ hu=>⟨hu,rfl⟩) (λb aL ao=>?_);have aa:=h.J2 al aL ao;have ae:b<w.heap.size:=(h.objs k o al).ue aL ao;have ay:=xal ae;rw[ay]at aa⊢;exact dD.mem b _ (hle b _ aa)
noncomputable def Den.hold(fr:fz)(ρ:da)(objs:cw)(w:World):fz:=⟨Den.all fr.at_ ρ objs w,fr.os,fr.out,fr.low⟩
def Den.W9(h:Den m fr ρ σ a w){k:Key}{o:cP}{b:Nat}(al:σ.objs k=some o)(aL:o.owns=true)(ao:blockOf (ρ k)=some b):Den.hold fr ρ σ.objs w b=w.heap[b]?:=by have:=(h.own k o b al aL ao).2;simp only[Den.hold,Den.all,this];rw[xaa ⟨k,o,al,aL,ao⟩]
def Den.Xa(h:Den m fr ρ σ a w):sC m (Den.hold fr ρ σ.objs w) w:=by
 refine⟨h.mem,⟨?_,⟨h.frame.quiet.os,h.frame.quiet.out,h.frame.quiet.low⟩⟩,?_⟩
 .intro b o ao;unfold Den.hold Den.all at ao;cases hm:fr b with
  |some x=>simp only[hm]at ao;cases ao;exact h.frame.p5 b _ hm
  |none=>
   simp only[hm]at ao;split at ao;.exact ao
   cases ao
 intro b ao;show Den.all fr.at_ ρ σ.objs w b=none;unfold Den.all;rw[h.apart b ao];simp only;rw[xac];rintro⟨k,o,aa,ae,ay⟩;exact ao (h.own k o b aa ae ay).1
def Den.kept(h:Den m fr ρ σ a w){w':World}{cH:Mem}(hle:m.le cH)(dD:sC cH (Den.hold fr ρ σ.objs w) w'):Den cH fr ρ σ a w':=by
 have qd:∀b o,fr b=some o->Den.hold fr ρ σ.objs w b=some o:=Den.BC fr.at_ ρ σ.objs w;have kH:∀k o b,σ.objs k=some o->o.owns=true->blockOf (ρ k)=some b->cH b=none:=by intro k o b al aL ao;cases hm:cH b with|none=>rfl|some x=>have aa:=dD.apart b (by rw[hm];simp);rw[h.W9 al aL ao,xal ((h.objs k o al).ue aL ao)]at aa;cases aa
 refine⟨dD.mem,⟨λb o ao=>dD.frame.p5 b o (qd b o ao),⟨dD.frame.quiet.os,dD.frame.quiet.out,dD.frame.quiet.low⟩⟩,?_,h.one,λt=>(h.aH t).mono hle (λ_ hu=>⟨hu,rfl⟩),?_,λk o b aa ae ay=>⟨kH k o b aa ae ay,(h.own k o b aa ae ay).2⟩,h.sep⟩;.intro b ao;have:=dD.apart b ao;cases a8:fr b with|none=>rfl|some x=>rw[qd b x a8]at this;cases this
 intro k o al;refine(h.objs k o al).mono hle (λ_ hu=>⟨hu,rfl⟩) (λb aL ao=>?_);have aa:=h.W9 al aL ao;have ay:=xal ((h.objs k o al).ue aL ao);rw[ay]at aa⊢;exact dD.frame.p5 b _ aa
end
def eR(o:Option cP):Prop:=(∃cs,o=some (.box cs))\/(∃k es,o=some (.row k es))\/∃es,o=some (.map es)
theorem uj{cs:List aS}:eR (some (.box cs)):= .inl ⟨_,rfl⟩
theorem sD{k:Nat}{es:List (List D)}:eR (some (.row k es)):= .inr (.inl ⟨_,_,rfl⟩)
def uk:¬eR none:=by rintro(⟨_,h⟩|⟨_,_,h⟩|⟨_,h⟩)<;>cases h
def EB:¬eR (some .dead):=by rintro(⟨_,h⟩|⟨_,_,h⟩|⟨_,h⟩)<;>cases h
theorem wv{es:List (Value×D)}:eR (some (.map es)):= .inr (.inr ⟨_,rfl⟩)
def BD{o:Option cP}(h:eR o):∃x,o=some x:=by rcases h with⟨_,h⟩|⟨_,_,h⟩|⟨_,h⟩<;>exact⟨_,h⟩
def kK(σ:aF)(ρ:da)(aX:aF)(cT:da):Prop:=∀k,10000<=k->eR (σ.objs k)->eR (aX.objs k)/\cT k=ρ k
theorem kK.refl(σ:aF)(ρ:da):kK σ ρ σ ρ:=λ_ _ h=>⟨h,rfl⟩
def kK.trans{gv fT Xb:aF}{m4 k1 Xc:da}(h:kK gv m4 fT k1)(bD:kK fT k1 Xb Xc):kK gv m4 Xb Xc:=λk al ao=>let⟨a,b⟩:=h k al ao;let⟨c,d⟩:=bD k al a;⟨c,d.trans b⟩
@[simp] theorem aF.wx (σ:aF) (dst:Option Tmp) (r:aS):(σ.put dst r).objs=σ.objs:=by cases dst<;>rfl
def iZ(N:Nat)(m:Mem)(fr:fz)(ρ:da)(σ:aF)(K:aF->Prop)(cK:Act)(w':World):Prop:= ∃aX cH cT,K aX/\m.le cH/\Den cH fr cT aX cK w'/\N<=cK.tmps.size/\cK.defers=[]/\kK σ ρ aX cT
def Den.put{m:Mem}{fr:fz}{ρ:da}{σ:aF}{a:Act}{w:World}(h:Den m fr ρ σ a w){dst:Option Tmp}{r:aS}{v:Value}(aw:b3 m ρ σ.used r v)(aA:∀d,dst=some d->d<a.tmps.size):Den m fr ρ (σ.put dst r) (a.put dst v) w:=by
 cases dst with
 |none=>exact h
 |some d=>
  refine⟨h.mem,h.frame,h.apart,h.one,?_,h.objs,h.own,h.sep⟩;intro t;have b5:=aA d rfl;by_cases aJ:t=d
  .subst aJ;simp only[aF.put,eX,Act.put];have:(a.tmps.setIfInBounds t v).getD t undef=v:=by simp[Array.getD,b5]
   rw[this];exact aw
  simp only[aF.put,cV _ _ aJ,Act.put];have:(a.tmps.setIfInBounds d v).getD t undef=a.tmps.getD t undef:=by rw[xby,xby,Array.getElem?_setIfInBounds,xac (Ne.symm aJ)]
  rw[this];exact h.aH t
def Pa{objs:cw}{k:Key}{o:cP}(h:eR (objs k)->eR (some o)):∀j,eR (objs j)->eR (cl objs k (some o) j):=by
 intro j aI;by_cases gu:j=k;.subst gu;rw[eX];exact h aI
 rw[cV _ _ gu];exact aI
def aij{T:cd}{ev:Operand->aS}{objs:cw}{d:Key}{o:Op}{r:aS}{cz:List (Key×cP)}(h:ek T ev objs d o=some (r,cz)):∀j,10000<=j->eR (objs j)->eR (dz objs cz j):=by
 have new:∀{o:cP},objs d=none->∀j,10000<=j->eR (objs j)->eR (dz objs [(d,o)] j):=by intro o aA j _;exact Pa (λh=>by rw[aA]at h;exact absurd h uk) j
 have same:∀{k:Key}{dN o:cP},objs k=some dN->(eR (some dN)->eR (some o))->∀j,10000<=j->eR (objs j)->eR (dz objs [(k,o)] j):=by intro k dN o al cv j _;exact Pa (λh=>by rw[al]at h;exact cv h) j
 cases o<;>simp only[ek,reduceCtorEq]at h
 case alloc=>split at h<;>cases h;exact new (by assumption)
 case box=>split at h<;>cases h;exact new (by assumption)
 case buildSlice=>
  split at h
  case h_2=>cases h
  split at h
  case h_2=>cases h
  split at h
  case h_2=>cases h
  split at h<;>cases h;exact new (by assumption)
 case makeSlice=>
  split at h
  case h_2=>cases h
  split at h
  case h_2=>cases h
  split at h
  case h_2=>cases h
  split at h<;>cases h;exact new (by assumption)
 case makeMap=>split at h<;>cases h;exact new (by assumption)
 case store=>
  split at h
  case h_2=>cases h
  split at h
  case isFalse=>cases h
  split at h
  .split at h
   case h_2=>cases h
   split at h<;>cases h;exact λj _=>Pa (λ_=>uj) j
  .split at h
   case h_2=>cases h
   split at h
   case isFalse=>cases h
   split at h<;>cases h;exact same (by assumption) (λ_=>sD)
  cases h
 case mapUpdate=>
  split at h
  case h_2=>cases h
  split at h
  case h_2=>cases h
  split at h
  case isFalse=>cases h
  split at h
  case h_2=>cases h
  split at h
  case h_2=>cases h
  split at h<;>cases h;exact same (by assumption) (λ_=>wv)
 case insert=>
  split at h
  case h_2=>cases h
  split at h
  case h_2=>cases h
  split at h
  case isFalse=>cases h
  split at h
  case h_2=>cases h
  split at h
  case h_2=>cases h
  split at h<;>cases h;exact same (by assumption) (λ_=>wv)
 case call=>
  split at h
  .split at h
   case h_2=>cases h
   split at h
   case h_2=>cases h
   split at h
   case h_2=>cases h
   split at h
   case h_2=>cases h
   split at h
   case isFalse=>cases h
   split at h;.split at h<;>cases h;exact new (by assumption)
   .split at h
    case h_2=>cases h
    split at h<;>cases h;rename_i aA _ _ _ _ _ _ _ _ _ _ _ _ al _ _;rename_i J4;intro j cD aI;have aik:j≠d:=by rintro rfl;simp_all [uk]
    simp only[dz];rw[cV _ _ aik,cV _ _ (by rintro rfl;exact absurd J4.2.2.2 (Nat.not_lt.2 cD))];exact aI
   cases h
  .split at h
   case h_2=>cases h
   split at h
   case h_2=>cases h
   split at h
   case h_2=>cases h
   split at h
   case h_2=>cases h
   split at h
   case isFalse=>cases h
   split at h
   .split at h
    case h_2=>cases h
    split at h<;>cases h;exact same (by assumption) (λ_=>sD)
   .split at h
    case h_2=>cases h
    split at h<;>cases h;exact same (by assumption) (λ_=>sD)
   cases h
  .split at h
   case h_2=>cases h
   split at h
   case h_2=>cases h
   split at h
   case h_2=>cases h
   split at h
   case h_2=>cases h
   split at h
   case h_2=>cases h
   split at h<;>cases h;exact same (by assumption) (λ_=>sD)
  cases h
def Xd{T:cd}{ev:Operand->aS}{objs:cw}{d:Key}{o:Op}{k:Key}{off:Nat}{cz:List (Key×cP)}(h:ek T ev objs d o=some (.ptr k off,cz)):objs d=none:=by
 cases o<;>simp only[ek,reduceCtorEq]at h
 case alloc=>split at h<;>cases h;assumption
 case box=>split at h<;>cases h;assumption
 all_goals (repeat' split at h)<;>cases h
def Xe{T:cd}{ev:Operand->aS}{objs:cw}{d:Key}{o:Op}{cz:List (Key×cP)}(h:ek T ev objs d o=some (.row d,cz)):objs d=none:=by
 cases o<;>simp only[ek,reduceCtorEq]at h
 all_goals (repeat' split at h)<;>cases h<;>assumption
def ail{T:cd}{ev:Operand->aS}{objs:cw}{d:Key}{o:Op}{r:aS}{cz:List (Key×cP)}(h:g2 T ev objs d o=some (r,cz)):∀j,10000<=j->eR (objs j)->eR (dz objs cz j):=by
 obtain⟨⟨iY,sB⟩,ar,ao⟩:=wq h;have aa:=aij ar;intro j cD aI;have aM:∀{o:cP},objs d=none->j≠d:=by rintro o aA rfl;rw[aA]at aI;exact uk aI
 rcases yu (T.born d) d iY sB with e|⟨n,es,rfl,rfl,e⟩|⟨qa,n,es,rfl,rfl,e⟩|⟨off,cs,aO,rfl,rfl,eF,e⟩;.rw[ao]at e;cases e;exact aa j cD aI
 .rw[ao]at e;cases e;have aA:=aM (o:= .dead) (Xe ar);have:=aa j cD aI;simp only[dz,cV _ _ aA]at this⊢;exact this
 .rw[ao]at e;cases e;have aA:=aM (o:= .dead) (Xe ar);have:=aa j cD aI;simp only[dz,cV _ _ aA]at this⊢;exact this
 rw[ao]at e;cases e;have aA:=aM (o:= .dead) (Xd ar);simp only[dz,cV _ _ aA];exact aI
section
variable{P:Program}{T:cd}{G:df}{m:Mem}{fr:fz}{ρ:da}{σ:aF}{a:Act}{w:World}{N:Nat}
def aim(bb:dR P T)(c0:kk G m)(h:Den m fr ρ σ a w)(ca:N<=a.tmps.size)(hi:a.defers=[]){o:Oper}(gj:∀d,o.dst=some d->d<N){aX:aF}(aE:gL T G σ o=some aX){K:aF->Prop}(hj:K aX){Q:Exit->Act->World->Prop}:o.wp P a w (iZ N m fr ρ σ K) Q:=by
 have dk:=Eg (a:=a) c0 h.aH;have ja:∀d,o.dst=some d->d<a.tmps.size:=λd aA=>Nat.lt_of_lt_of_le (gj d aA) ca;have sE:∀v,N<=(a.put o.dst v).tmps.size:=by intro v;cases o.dst<;>simpa[Act.put]using ca
 have l4:∀v,(a.put o.dst v).defers=[]:=by intro v;cases o.dst<;>exact hi
 unfold Oper.wp;unfold gL at aE;split at aE;.rename_i r aw;cases aE;obtain⟨v,aa,ae⟩:=ahq (P:=P) (w:=w) (o:=o) bb h.one dk aw;rw[aa];exact⟨_,m,ρ,hj,Mem.le_refl m,h.put ae ja,sE v,l4 v,λk al ao=>⟨by simpa using ao,rfl⟩⟩
 split at aE;.rename_i r aw;cases aE;obtain⟨v,aa,ae⟩:=ahy (P:=P) (w:=w) (o:=o) bb h.mem h.objs dk aw;rw[aa];exact⟨_,m,ρ,hj,Mem.le_refl m,h.put ae ja,sE v,l4 v,λk al ao=>⟨by simpa using ao,rfl⟩⟩
 split at aE
 case h_2=>cases aE
 rename_i r cz aw;cases aE;obtain⟨nx,v,w',cH,cT,aa,ae,hm,ay,a7,bZ⟩:=aic (P:=P) (o:=o) bb h dk aw;rw[aa];have fin:iZ N m fr ρ σ K (a.put o.dst v) w':=⟨_,cH,cT,hj,hm,ay.put a7 ja,sE v,l4 v,λk al ao=>⟨by rw[aF.wx];exact ail aw k al ao,by obtain⟨c,an⟩:=BD ao;exact(bZ k ⟨_,an⟩).2⟩⟩;rcases ae with rfl|⟨rfl,rfl⟩
 .exact fin
 exact fin
def wy:aS->Option (FuncId×List aS×List aS)
 | .d (.val (.func (.func f) first cap))=>if first.size=0/\cap.size=0 then some (f,[],[])else none
 | .fn (.func f) first cap=>some (f,first,cap)
 | .d (.fn (.func f) first cap)=>some (f,first.map .d,cap.map .d)
 |_=>none
def BE:aS->Bool
 | .d _=>true| .dV _ _=>true|_=>false
def sF:aS->Bool
 | .agg cs=>cs.all BE| .fn _ as jj=>as.all BE&&jj.all BE|x=>BE x
def Pb{m:Mem}{ρ:da}{U:Key->Prop}{objs:cw}{x:aS}{d:D}{v:Value}(h:BE x=true)(aA:m3 objs x=some d)(aN:b3 m ρ U x v):di m d v:=by
 cases x<;>first|cases h|skip
 .simp only[m3,q2]at aA;cases aA;exact aN.oz
 simp only[m3]at aA;cases aA;cases aN with|dV _ _ b o vs T en hm xs aa ae=>exact .ref _ _ b o vs T en hm xs aa ae
def Pc{m:Mem}{ρ:da}{U:Key->Prop}{objs:cw}{cs:List aS}{aO:List D}{vs:Array Value}(h:cs.all BE=true)(aA:hh (cs.map (m3 objs))=some aO)(aq:vs.size=cs.length) (aN:∀(i:Nat)(c:aS)(v:Value),cs[i]?=some c->vs[i]?=some v->b3 m ρ U c v):vs.size=aO.length/\∀(i:Nat)(c:D)(v:Value),aO[i]?=some c->vs[i]?=some v->di m c v:=by obtain⟨aa,ae⟩:=q3 aA;refine⟨by rw[aa,aq];simp,λi c v an aj=>?_⟩;have ay:=ae i c an;simp only[xai,xag]at ay;obtain⟨y,aK,wz⟩:=ay;exact Pb (xas.1 h y (xad aK)) wz (aN i y v aK aj)
def Pd{m:Mem}{ρ:da}{U:Key->Prop}{objs:cw}{x:aS}{d:D}{v:Value}(h:sF x=true)(aA:toD objs x=some d)(aN:b3 m ρ U x v):di m d v:=by
 cases x
 case agg cs=>
  simp only[toD,oD]at aA;split at aA
  case h_2=>cases aA
  rename_i aO eF;cases aA;cases aN with|agg _ vs aq bA=>
  obtain⟨a9,bk⟩:=Pc h eF aq bA;exact .agg _ _ a9 bk
 case fn f as jj=>
  simp only[sF,xak]at h;simp only[toD,oD]at aA;split at aA
  case h_2=>cases aA
  rename_i aO BF eF ain;cases aA;cases aN with|fn _ _ _ vs ws aq eP bA yw=>
  obtain⟨a9,bk⟩:=Pc h.1 eF aq bA;obtain⟨b1,eU⟩:=Pc h.2 ain eP yw;exact .fn _ _ _ _ _ a9 b1 bk eU
 case d y=>exact Pb (x:= .d y) rfl (by simpa[toD,oD]using aA) aN
 case dV cs off=>exact Pb (x:= .dV cs off) rfl (by simpa[toD,oD]using aA) aN
 all_goals cases h
def Xf(P:Program)(G:df)(σ:aF)(dst:Option Tmp)(f:FuncId)(um:List aS)(K:aF->Prop):Prop:= ∃m5 aO e8,hh (um.map (toD σ.objs))=some m5/\q1 m5 aO/\fb P G f aO e8/\(∃iY,e8=(·=iY))/\((∀r,e8 r->r.flat=true)\/um.all sF=true)/\∀r,e8 r->K (σ.put dst (.d r))
def jB(P:Program)(G:df)(o:Oper)(σ:aF)(K:aF->Prop):Prop:=match o.op with
 | .call ⟨.value x,args,_⟩=>match wy (b7 G σ.aH x)with|some (f,pre,post)=>Xf P G σ o.dst f (pre++args.toList.map (b7 G σ.aH)++post) K|none=>False
 |_=>False
def c7(P:Program)(T:cd)(G:df)(o:Oper)(K:aF->Prop)(σ:aF):Prop:=match gL T G σ o with|some aX=>K aX|none=>jB P G o σ K
def er(P:Program)(T:cd)(G:df)(all:Array Oper)(o:Oper)(K:aF->Prop)(σ:aF):Prop:=match o.guard with
 |none=>c7 P T G o K σ
 |some (j,want)=>match(all[j]?).bind (·.dst)with
  |some d=>match σ.aH d with
   | .d (.val (.bool b))=>if b=want then c7 P T G o K σ else K (σ.put o.dst (.d (.val (.tuple #[]))))
   | .d (.val (.tuple _))=>K (σ.put o.dst (.d (.val (.tuple #[]))))|_=>False
  |none=>False
def fI(P:Program)(T:cd)(G:df)(all:Array Oper):List Oper->(aF->Prop)->aF->Prop
 |[],K,σ=>K σ|o::r,K,σ=>er P T G all o (fI P T G all r K) σ
def Xg{va:Operand->Value}{x:Operand}{args:Array Operand}{dA:Array TypeId}{ty:TypeId}{f:FuncId}{first cap:Array Value}(ah:va x= .func (.func f) first cap)(a8:wu P f):(do let d<-resolve va {callee:= .value x,args:=args,argTypes:=dA} ty;invoke d.target d.args:Sem Next).run P w= .ok (.enter f (first++args.map va++cap)) w:=by obtain⟨fn,aa,ae,ay⟩:=a8;simp only[xah,resolve,ah,Deferred.ofValue,xau,xaf,invoke,callFunc,program,Sem.run,aa,ae,ay,xan,xaz]
def aio(c0:kk G m)(h:Den m fr ρ σ a w)(ca:N<=a.tmps.size)(hi:a.defers=[]){o:Oper}(gj:∀d,o.dst=some d->d<N){K:aF->Prop}(an:jB P G o σ K){Q:Exit->Act->World->Prop}:o.wp P a w (iZ N m fr ρ σ K) Q:=by
 have dk:=Eg (a:=a) c0 h.aH;have ja:∀d,o.dst=some d->d<a.tmps.size:=λd aA=>Nat.lt_of_lt_of_le (gj d aA) ca;have sE:∀v,N<=(a.put o.dst v).tmps.size:=by intro v;cases o.dst<;>simpa[Act.put]using ca
 have l4:∀v,(a.put o.dst v).defers=[]:=by intro v;cases o.dst<;>exact hi
 unfold jB at an;split at an
 case h_2=>cases an
 rename_i x args dA dW;split at an
 case h_2=>cases an
 rename_i f pre post gM;obtain⟨m5,aO,e8,aa,ae,ay,a7,bZ,cG⟩:=an;have ah:=dk x;have Pe:∃first cap,a.eval x= .func (.func f) first cap/\first.size=pre.length/\cap.size=post.length/\(∀(i:Nat)(c:aS)(v:Value),pre[i]?=some c->first[i]?=some v->b3 m ρ σ.used c v)/\(∀(i:Nat)(c:aS)(v:Value),post[i]?=some c->cap[i]?=some v->b3 m ρ σ.used c v):=by
  unfold wy at gM;split at gM
  .rename_i kn first cap he
   split at gM
   case isFalse=>cases gM
   rename_i ar;cases gM;rw[he]at ah;exact⟨first,cap,ah.hp,by simpa using ar.1,by simpa using ar.2,by intro i c v an;simp at an,by intro i c v an;simp at an⟩
  .rename_i kn first cap he
   cases gM;rw[he]at ah;generalize a.eval x=u at ah;cases ah with|fn _ _ _ vs ws aq eP g q4=>exact⟨vs,ws,rfl,aq,eP,g,q4⟩
  .rename_i kn first cap he
   cases gM;rw[he]at ah;have ah:=ah.oz;generalize a.eval x=u at ah;cases ah with|fn _ _ _ vs ws aq eP g q4=>
   refine⟨vs,ws,rfl,by simpa using aq,by simpa using eP,?_,?_⟩;.intro i c v an aN;simp only[xai,xag]at an;obtain⟨y,aK,rfl⟩:=an;exact .d _ _ (g i y v aK aN)
   intro i c v an aN;simp only[xai,xag]at an;obtain⟨y,aK,rfl⟩:=an;exact .d _ _ (q4 i y v aK aN)
  .cases gM
 obtain⟨first,cap,qU,nv,nw,a9,bk⟩:=Pe;have gq:∀(i:Nat)(c:aS)(v:Value),(pre++args.toList.map (b7 G σ.aH)++post)[i]?=some c->(first++args.map a.eval++cap).toList[i]?=some v->b3 m ρ σ.used c v:=by
  intro i c v an aN;simp only[Array.toList_append,Array.toList_map]at aN;have aP:first.toList.length=pre.length:=by simpa using nv
  by_cases aa:i<pre.length;.rw[xaO,xaF aa]at an;rw[xaO,xaF (by omega)]at aN;exact a9 i c v an (by simpa using aN)
  .by_cases ae:i<pre.length+args.size;.rw[xaF (by simp;omega),xaD (by omega)]at an;rw[xaF (by simp;omega),xaD (by omega),aP]at aN;simp only[xai,xag]at an aN;obtain⟨p,a1,rfl⟩:=an;obtain⟨q,bQ,rfl⟩:=aN;rw[a1]at bQ;cases bQ;exact dk _
   rw[xaD (by simp;omega)]at an;rw[xaD (by simp;omega)]at aN;refine bk _ c v an ?_;rw[<-aN];simp only[xaU,xaW,xcb,nv];simp
 have bB:(first++args.map a.eval++cap).toList.length=(pre++args.toList.map (b7 G σ.aH)++post).length:=by simp[nv,nw]
 have Pf:(execOp a.eval o).run P w= .ok (.enter f (first++args.map a.eval++cap)) w:=by unfold execOp;rw[dW];exact Xg qU ay.fn
 unfold Oper.wp;rw[Pf];rcases bZ with bZ|bZ
 ·
  have cU:=q1.ok ae (aih h bB gq aa);have sG:=ay.run _ fr w _ (c0.mono (Den.BC m ρ σ.objs w)) h.W5 cU;simp only[Array.toArray_toList]at sG;refine sG.mono λe w' he=>?_;obtain⟨v,cH,r,rfl,bV,bN,cC,dK⟩:=he;have b9:=h.aii bN cC;exact⟨_,m,ρ,cG r bV,Mem.le_refl m,b9.put (.d _ _ (D.aie (bZ r bV) dK)) ja,sE v,l4 v,λk al ao=>⟨by simpa using ao,rfl⟩⟩
 have Pg:yv m m5 (first++args.map a.eval++cap).toList:=by obtain⟨a9,bk⟩:=q3 aa;refine⟨by rw[bB,a9];simp,?_⟩;intro i d v aA aN;have b1:=bk i d aA;rw[xai,xag]at b1;obtain⟨y,aK,uo⟩:=b1;exact Pd (xas.1 bZ y (xad aK)) uo (gq i y v aK aN)
 have sG:=ay.run m _ w _ c0 h.Xa (q1.ok ae Pg);simp only[Array.toArray_toList]at sG;refine sG.mono λe w' he=>?_;obtain⟨v,cH,r,rfl,bV,bN,cC,dK⟩:=he;have b9:=h.kept bN cC;exact⟨_,cH,ρ,cG r bV,bN,b9.put (.d _ _ dK) ja,sE v,l4 v,λk al ao=>⟨by simpa using ao,rfl⟩⟩
def Ph(bb:dR P T)(c0:kk G m)(h:Den m fr ρ σ a w)(ca:N<=a.tmps.size)(hi:a.defers=[]){o:Oper}(gj:∀d,o.dst=some d->d<N){K:aF->Prop}(an:c7 P T G o K σ){Q:Exit->Act->World->Prop}:o.wp P a w (iZ N m fr ρ σ K) Q:=by
 unfold c7 at an;split at an;.exact aim bb c0 h ca hi gj (by assumption) an
 exact aio c0 h ca hi gj an
def Pj(bb:dR P T)(c0:kk G m)(h:Den m fr ρ σ a w)(ca:N<=a.tmps.size)(hi:a.defers=[]){all:Array Oper}{i:Nat}{o:Oper}(aj:all[i]?=some o)(gj:∀d,o.dst=some d->d<N){K:aF->Prop}(an:er P T G all o K σ) {Q:Exit->Act->World->Prop}:wpOp P all Q i (iZ N m fr ρ σ K) a w:=by
 have ja:∀d,o.dst=some d->d<a.tmps.size:=λd aA=>Nat.lt_of_lt_of_le (gj d aA) ca;unfold wpOp;simp only[aj];unfold er at an;split at an
 .rename_i bG;have:Region.wanted o (yielded all a.tmps)=true:=by simp[Region.wanted,bG]
  rw[xaa this];exact .inl (Ph bb c0 h ca hi gj an)
 rename_i j want bG;split at an
 case h_2=>cases an
 rename_i d aA;have l5:∀v,a.tmps.getD d undef=v->yielded all a.tmps j=(match v with| .bool b=>some b|_=>none):=by intro v aN;unfold yielded;rw[aA];simp only[Option.bind_some];rw[xby]at aN;cases b5:a.tmps[d]? with|none=>rw[b5]at aN;simp only[Option.getD_none]at aN;subst aN;rfl|some u=>rw[b5]at aN;simp only[xbk]at aN;subst aN;cases u<;>rfl
 have skip:Region.wanted o (yielded all a.tmps)=false->K (σ.put o.dst (.d (.val (.tuple #[]))))->iZ N m fr ρ σ K (a.put o.dst undef) w:=λ_ al=>⟨_,m,ρ,al,Mem.le_refl m,h.put (.d _ _ (.val _)) ja,by cases o.dst<;>simpa[Act.put]using ca,by cases o.dst<;>exact hi,λk al ao=>⟨by simpa using ao,rfl⟩⟩;split at an
 .rename_i b aE;have aN:=h.aH d;rw[aE]at aN;have aK:=l5 _ aN.hp;simp only at aK;have hw:Region.wanted o (yielded all a.tmps)=(b==want):=by
   simp only[Region.wanted,bG,aK];cases b<;>cases want<;>rfl
  by_cases ao:b=want;.rw[xaa ao]at an;rw[hw,xaa (by simpa using ao)];exact .inl (Ph bb c0 h ca hi gj an)
  rw[xac ao]at an;have a8:Region.wanted o (yielded all a.tmps)=false:=by rw[hw];simpa using ao
  rw[xac (by rw[a8];simp)];exact skip a8 an
 .rename_i vs aE;have aN:=h.aH d;rw[aE]at aN;have aK:=l5 _ aN.hp;simp only at aK;have a8:Region.wanted o (yielded all a.tmps)=false:=by
   simp only[Region.wanted,bG,aK];rfl
  rw[xac (by rw[a8];simp)];exact skip a8 an
 cases an
def wpOp_mono{ops:Array Oper}{Q:Exit->Act->World->Prop}{i:Nat}{K K':Act->World->Prop}(al:∀a w,K a w->K' a w){a:Act}{w:World}(h:wpOp P ops Q i K a w):wpOp P ops Q i K' a w:=by
 unfold wpOp at*;split;.rename_i e;simp only[e]at h;exact al _ _ h
 rename_i o e;simp only[e]at h;split
 .rename_i hw;rw[xaa hw]at h;rcases h with h|h
  .refine .inl ?_;unfold Oper.wp at*;generalize (execOp a.eval o).run P w=r at*;cases r with
   |ok n w'=>
    cases n<;>simp only[Oper.upon]at h⊢<;>first|exact al _ _ h|exact h|skip
    .refine h.mono λe kL he=>?_;cases e with|returned v=>exact al _ _ he|panicked c=>exact he|outgrown=>exact he
    exact h.mono λv kL he=>al _ _ he
   |halt x w'=>cases x<;>exact h
  exact .inr h
 rename_i hw;rw[xac hw]at h;exact al _ _ h
end
def J5{ev jb:Operand->aS}{l:List Operand}(h:∀x∈l,ev x=jb x):l.map ev=l.map jb:=List.map_congr_left h
theorem Xh{ev jb:Operand->aS}{iw:Array (Nat×Operand)}(h:∀x∈(iw.toList.map (·.2)),ev x=jb x):(iw.toList.map λp=>(p.1,ev p.2))=iw.toList.map λp=>(p.1,jb p.2):=List.map_congr_left λp a1=>by rw[h p.2 (xaP.2 ⟨p,a1,rfl⟩)]
def aip{T:cd}{ev jb:Operand->aS}{op:Op}(h:∀x∈op.operands.toList,ev x=jb x):ep T ev op=ep T jb op:=by
 cases op<;>simp only[ep]
 case move x=>rw[h x (by simp[Op.operands])]
 case assign x=>rw[h x (by simp[Op.operands])]
 case pick c a b=>rw[h c (by simp[Op.operands]),h a (by simp[Op.operands]),h b (by simp[Op.operands])]
 case binOp op t x y yh=>rw[h x (by simp[Op.operands]),h y (by simp[Op.operands])]
 case unOp op t x=>rw[h x (by simp[Op.operands])]
 case convert s t x=>rw[h x (by simp[Op.operands])]
 case fieldAddr s x f=>rw[h x (by simp[Op.operands])]
 case field s x f=>rw[h x (by simp[Op.operands])]
 case extract x i=>rw[h x (by simp[Op.operands])]
 case build t parts=>rw[Xh (by simpa[Op.operands]using h)]
 case index t x i=>rw[h x (by simp[Op.operands]),h i (by simp[Op.operands])]
 case makeFunc f first cap=>rw[J5 (l:=first.toList) (λx ah=>h x (by simp[Op.operands]at ah⊢;exact .inl ah)),J5 (l:=cap.toList) (λx ah=>h x (by simp[Op.operands]at ah⊢;exact .inr ah))]
 case makeInterface t x=>rw[h x (by simp[Op.operands])]
 case nilCheck x=>rw[h x (by simp[Op.operands])]
 case slice t x lo aj fR=>
  cases fR with
  |some _=>rfl
  |none=>
   simp only[ep];have aP:lo.map ev=lo.map jb:=by cases lo with|none=>rfl|some l=>simp only[xaC];rw[h l (by simp[Op.operands])]
   have a2:aj.map ev=aj.map jb:=by cases aj with|none=>rfl|some l=>simp only[xaC];rw[h l (by simp[Op.operands])]
   rw[h x (by simp[Op.operands]),aP,a2]
 case call c=>obtain⟨callee,args,dA⟩:=c;simp only;have e:args.toList.map ev=args.toList.map jb:=J5 λx ah=>h x (by simp[Op.operands,Call.operands]at ah⊢;exact .inr ah);rw[e]
def aiq{T:cd}{ev jb:Operand->aS}{objs:cw}{op:Op}(h:∀x∈op.operands.toList,ev x=jb x):dw T ev objs op=dw T jb objs op:=by
 cases op<;>simp only[dw]
 case convert s t x=>rw[h x (by simp[Op.operands])]
 case load t a=>rw[h a (by simp[Op.operands])]
 case indexAddr t x fg=>rw[h x (by simp[Op.operands]),h fg (by simp[Op.operands])]
 case slice t x lo aj fR=>
  cases fR with
  |some _=>rfl
  |none=>
   simp only[dw];have aP:lo.map ev=lo.map jb:=by cases lo with|none=>rfl|some l=>simp only[xaC];rw[h l (by simp[Op.operands])]
   have a2:aj.map ev=aj.map jb:=by cases aj with|none=>rfl|some l=>simp only[xaC];rw[h l (by simp[Op.operands])]
   rw[h x (by simp[Op.operands]),aP,a2]
 case call c=>
  obtain⟨callee,args,dA⟩:=c;simp only;split
  .split
   .rename_i t x lp jz;have aG:args= #[x]:=by apply xbC;simpa using jz
    have e:ev x=jb x:=h x (by simp[Op.operands,Call.operands,aG]);rw[e]
   rfl
  rfl
 case lookup t x k ok=>rw[h x (by simp[Op.operands]),h k (by simp[Op.operands])]
 case binOp op t x y yh=>rw[h x (by simp[Op.operands]),h y (by simp[Op.operands])]
def air{T:cd}{ev jb:Operand->aS}{objs:cw}{d:Key}{op:Op}(h:∀x∈op.operands.toList,ev x=jb x):ek T ev objs d op=ek T jb objs d op:=by
 cases op<;>simp only[ek]
 case box t x=>rw[h x (by simp[Op.operands])]
 case buildSlice t n parts=>rw[Xh (by simpa[Op.operands]using h)]
 case makeSlice t l c=>rw[h l (by simp[Op.operands]),h c (by simp[Op.operands])]
 case store t a x=>rw[h a (by simp[Op.operands]),h x (by simp[Op.operands])]
 case mapUpdate t m k x=>rw[h m (by simp[Op.operands]),h k (by simp[Op.operands]),h x (by simp[Op.operands])]
 case insert t m k x=>rw[h m (by simp[Op.operands]),h k (by simp[Op.operands]),h x (by simp[Op.operands])]
 case call c=>
  obtain⟨callee,args,dA⟩:=c;simp only;split
  .split
   .rename_i t t' s x lp jz;have aG:args= #[s,x]:=by apply xbC;simpa using jz
    have aP:ev s=jb s:=h s (by simp[Op.operands,Call.operands,aG]);have a2:ev x=jb x:=h x (by simp[Op.operands,Call.operands,aG]);rw[aP,a2]
   rfl
  .split
   .rename_i t t' s x lp jz;have aG:args= #[s,x]:=by apply xbC;simpa using jz
    have aP:ev s=jb s:=h s (by simp[Op.operands,Call.operands,aG]);have a2:ev x=jb x:=h x (by simp[Op.operands,Call.operands,aG]);rw[aP,a2]
   rfl
  .split
   .rename_i t s lp jz;have aG:args= #[s]:=by apply xbC;simpa using jz
    rw[h s (by simp[Op.operands,Call.operands,aG])]
   rfl
  rfl
def ais{T:cd}{ev jb:Operand->aS}{objs:cw}{d:Key}{op:Op}(h:∀x∈op.operands.toList,ev x=jb x):g2 T ev objs d op=g2 T jb objs d op:=by unfold g2;rw[air h]
def iG:Op->Bool
 | .move _| .assign _| .pick ..| .unOp ..| .fieldAddr ..| .field ..| .extract ..| .build ..| .index ..| .makeFunc ..| .makeInterface ..| .nilCheck _=>true|_=>false
def jk:Op->Bool
 | .load ..| .indexAddr ..| .slice ..| .lookup ..| .binOp ..| .convert ..=>true| .call ⟨.builtin b,_,_⟩=>match b with| .len| .max| .min=>true|_=>false
 |_=>false
def hk:Op->Bool
 | .call ⟨.value _,_,_⟩=>true|_=>false
def qe:Op->Bool
 | .alloc _| .box ..| .buildSlice ..=>true|_=>false
theorem BG{T:cd}{ev:Operand->aS}{objs:cw}{d:Key}{op:Op}(h:iG op=true):dw T ev objs op=none/\g2 T ev objs d op=none:=by cases op<;>first|exact⟨rfl,rfl⟩|cases h
def BH{T:cd}{ev:Operand->aS}{objs:cw}{d:Key}{op:Op}(h:jk op=true):g2 T ev objs d op=none:=by
 cases op
 case call c=>
  obtain⟨callee,args,dA⟩:=c;cases callee with
  |value=>cases h
  |invoke=>cases h
  |builtin b=>cases b<;>first|rfl|cases h
 all_goals first|rfl|cases h
def Pk{T:cd}{ev:Operand->aS}{objs:cw}{d:Key}{op:Op}(h:hk op=true):ep T ev op=none/\dw T ev objs op=none/\g2 T ev objs d op=none:=by
 cases op
 case call c=>
  obtain⟨callee,args,dA⟩:=c;cases callee with
  |value=>exact⟨rfl,rfl,rfl⟩|invoke=>cases h
  |builtin b=>cases h
 all_goals cases h
theorem q5{T:cd}{ev:Operand->aS}{objs:cw}{op:Op}(h:qe op=true):ep T ev op=none/\dw T ev objs op=none:=by cases op<;>first|exact⟨rfl,rfl⟩|cases h
def ait{T:cd}{ev:Operand->aS}{objs objs':cw}{d:Key}{op:Op}(h:qe op=true)(ar:objs' d=none){r:aS}{cz:List (Key×cP)}(he:ek T ev objs d op=some (r,cz)):ek T ev objs' d op=some (r,cz)/\objs d=none/\∃o,cz=[(d,o)]:=by
 cases op
 case alloc t=>
  simp only[ek]at he⊢;split at he
  case h_2=>cases he
  rename_i i aJ aA;cases he;exact⟨by simp only[ar,aJ],aA,_,rfl⟩
 case box t x=>
  simp only[ek]at he⊢;split at he
  case h_2=>cases he
  rename_i cs an aA;cases he;exact⟨by simp only[ar,an],aA,_,rfl⟩
 case buildSlice t n parts=>
  simp only[ek]at he⊢;split at he
  case h_2=>cases he
  rename_i e s b z aJ aA;simp only[ar,aJ];split at he
  case h_2=>cases he
  rename_i bg iF
  try simp only[iF]
  split at he
  case h_2=>cases he
  rename_i es a1
  try simp only[a1]
  split at he
  case isFalse=>cases he
  rename_i an;cases he;exact⟨by rw[xaa an],aA,_,rfl⟩
 all_goals cases h
def BI{T:cd}{ev:Operand->aS}{objs objs':cw}{d:Key}{op:Op}(h:qe op=true)(ar:objs' d=none){r:aS}{cz:List (Key×cP)}(he:g2 T ev objs d op=some (r,cz)):g2 T ev objs' d op=some (r,cz)/\objs d=none/\∃o,cz=[(d,o)]:=by
 obtain⟨⟨iY,sB⟩,fJ,ao⟩:=wq he;obtain⟨a9,bk,o,rfl⟩:=ait (objs':=objs') h ar fJ;refine⟨by unfold g2;rw[a9];simp[ao],bk,?_⟩;rcases yu (T.born d) d iY [(d,o)]with e|⟨n,es,aP,a2,e⟩|⟨qa,n,es,aP,a2,e⟩|⟨off,cs,aO,aP,a2,eF,e⟩;.rw[ao]at e;cases e;exact⟨o,rfl⟩
 .rw[ao]at e;cases e;exact⟨_,rfl⟩
 .cases a2
 rw[ao]at e;cases e;exact⟨_,rfl⟩
def cw.ext(objs objs':cw):Prop:=∀k o,objs k=some o->objs' k=some o
def cw.J6{objs:cw}{k:Key}(h:objs k=none)(o:cP):objs.ext (cl objs k (some o)):=by
 intro j x ah;have:j≠k:=by rintro rfl;rw[h]at ah;cases ah
 rw[cV _ _ this];exact ah
def Xi{objs objs':cw}(h:objs.ext objs'){x:aS}{n:Nat}(aq:j3 objs x=some n):j3 objs' x=some n:=by
 unfold j3 at*;split at aq;.exact aq
 .exact aq
 .split at aq;.rename_i al;rw[h _ _ al];exact aq
  cases aq
 .exact aq
 cases aq
def aiu{objs objs':cw}(h:objs.ext objs'){x:aS}{es:List (List D)}(aq:p7 objs x=some es):p7 objs' x=some es:=by
 unfold p7 at*;split at aq;.exact aq
 .exact aq
 .split at aq;.rename_i al;rw[h _ _ al];exact aq
  cases aq
 .split at aq;.rename_i al;rw[h _ _ al];exact aq
  cases aq
 cases aq
def J7{objs objs':cw}(h:objs.ext objs'){x:aS}{b:Bool}(aq:mz objs x=some b):mz objs' x=some b:=by
 unfold mz at*;split at aq;.exact aq
 .exact aq
 .split at aq;.rename_i al;rw[h _ _ al];exact aq
  cases aq
 cases aq
def Xj{objs objs':cw}(h:objs.ext objs'){x:aS}{d:D}(aq:q2 objs x=some d):q2 objs' x=some d:=by
 unfold q2 at*;split at aq;.exact aq
 .split at aq;.rename_i al;rw[h _ _ al];exact aq
  cases aq
 .split at aq;.rename_i al;rw[h _ _ al];exact aq
  cases aq
 .split at aq;.rename_i al;rw[h _ _ al];exact aq
  cases aq
 cases aq
def po{α:Type}{f g:aS->Option α}(h:∀x d,f x=some d->g x=some d):∀(l:List aS)(r:List α),hh (l.map f)=some r->hh (l.map g)=some r
 |[],r,aw=>aw
 |x::l,r,aw=>by
  simp only[xaA]at aw⊢;cases ah:f x with
  |none=>simp[ah,hh]at aw
  |some d=>
   rw[ah]at aw;simp only[hh]at aw;split at aw
   case h_2=>cases aw
   rename_i qS eP;rw[h x d ah];simp only[hh,po h l qS eP];exact aw
def J8{objs objs':cw}(h:objs.ext objs'){x:aS}{d:D}(aq:m3 objs x=some d):m3 objs' x=some d:=by
 unfold m3 at*;split at aq
 .split at aq
  case h_2=>cases aq
  rename_i al;simp only[h _ _ al];split at aq
  case h_2=>cases aq
  rename_i cs hr;rw[po (λx d ah=>Xj h ah) _ _ hr];exact aq
 .exact aq
 exact Xj h aq
def Xk{objs objs':cw}(h:objs.ext objs'){x:aS}{d:D}(aq:oD objs x=some d):oD objs' x=some d:=by
 unfold oD at*;split at aq
 .split at aq
  case h_2=>cases aq
  rename_i aO eF;rw[po (λx d ah=>J8 h ah) _ _ eF];exact aq
 .split at aq
  case h_2=>cases aq
  rename_i as jj has EA;rw[po (λx d ah=>J8 h ah) _ _ has,po (λx d ah=>J8 h ah) _ _ EA];exact aq
 exact J8 h aq
def aiv{objs objs':cw}(h:objs.ext objs'){x:aS}{d:D}(aq:toD objs x=some d):toD objs' x=some d:=by
 unfold toD at*;split at aq
 .split at aq
  case h_2=>cases aq
  rename_i aO eF;rw[po (λx d ah=>Xk h ah) _ _ eF];exact aq
 exact Xk h aq
def aiw{T:cd}{ev:Operand->aS}{objs objs':cw}(h:objs.ext objs'){op:Op}{r:aS}(hm:dw T ev objs op=some r):dw T ev objs' op=some r:=by
 cases op<;>simp only[dw,reduceCtorEq]at hm⊢
 case convert s t x=>
  split at hm
  case h_2=>cases hm
  rename_i aP a2;split at hm
  case h_2=>cases hm
  rename_i bS;split at hm
  case h_2=>cases hm
  rename_i es he;simp only[aP,a2,bS,aiu h he];exact hm
 case load t a=>
  split at hm
  case h_2=>cases hm
  split at hm;.exact hm
  .split at hm
   case h_2=>cases hm
   rename_i al;simp only[h _ _ al];exact hm
  .split at hm
   case h_2=>cases hm
   rename_i al;simp only[h _ _ al];exact hm
  cases hm
 case indexAddr t x fg=>
  split at hm
  .split at hm
   case h_2=>cases hm
   split at hm
   case isFalse=>cases hm
   rename_i ar;rw[xaa ar];split at hm;.exact hm
   .split at hm
    case h_2=>cases hm
    rename_i al;simp only[h _ _ al];exact hm
   .exact hm
   cases hm
  .exact hm
  cases hm
 case slice t x lo aj fR=>
  cases fR with
  |some _=>simp[dw]at hm
  |none=>
   simp only[dw]at hm⊢;split at hm
   case h_3=>cases hm
   case h_2=>exact hm
   split at hm
   case h_2=>cases hm
   split at hm
   case h_2=>cases hm
   rename_i n aM;simp only[Xi h aM];split at hm
   case h_2=>cases hm
   split at hm
   case isFalse=>cases hm
   rename_i an;rw[xaa an];split at hm;.exact hm
   .split at hm
    case h_2=>cases hm
    rename_i al;simp only[h _ _ al];exact hm
   .exact hm
   cases hm
 case call c=>
  split at hm
  case h_2=>cases hm
  split at hm
  case h_2=>cases hm
  split at hm;.exact hm
  .split at hm
   case h_2=>cases hm
   rename_i n aM;simp only[Xi h aM];exact hm
  .exact hm
  .exact hm
  .split at hm
   case h_2=>cases hm
   rename_i al;simp only[h _ _ al];exact hm
  cases hm
 case lookup t x k ok=>
  split at hm
  case h_2=>cases hm
  split at hm;.exact hm
  .exact hm
  .split at hm
   case h_2=>cases hm
   rename_i al;simp only[h _ _ al];exact hm
  cases hm
 case binOp op t x y yh=>
  split at hm
  case h_2=>cases hm
  split at hm
  .split at hm
   .rename_i an;rw[xaa an];split at hm
    case h_2=>cases hm
    rename_i b ao;simp only[J7 h ao];exact hm
   rename_i an;rw[xac an];split at hm
   case isFalse=>cases hm
   rename_i q6;rw[xaa q6];split at hm
   case h_2=>cases hm
   rename_i b ao;simp only[J7 h ao];exact hm
  .split at hm
   .rename_i an;rw[xaa an];split at hm
    case h_2=>cases hm
    rename_i b ao;simp only[J7 h ao];exact hm
   rename_i an;rw[xac an];split at hm
   case isFalse=>cases hm
   rename_i q6;rw[xaa q6];split at hm
   case h_2=>cases hm
   rename_i b ao;simp only[J7 h ao];exact hm
  cases hm
def Xl:∀(cz:List (Key×cP)) {objs:cw} {k:Key} {o:cP},(∀p∈cz,p.1≠k)->dz (cl objs k (some o)) cz=cl (dz objs cz) k (some o)
 |[],objs,k,o,_=>rfl
 |(j,x)::r,objs,k,o,h=>by
  have aI:j≠k:=h (j,x) (by simp);simp only[dz];have e:cl (cl objs k (some o)) j (some x)=cl (cl objs j (some x)) k (some o):=by
   funext i
   simp only[cl];by_cases aa:i=j;.subst aa;simp[aI]
   by_cases ae:i=k;.subst ae;simp[aa]
   simp[aa,ae]
  rw[e];exact Xl r (λp a1=>h p (by simp[a1]))
def J9{objs objs':cw}(h:objs.ext objs'){x:aS}{r:Nat×List (List D)}(aq:l1 objs x=some r):l1 objs' x=some r:=by
 unfold l1 at*;split at aq;.exact aq
 .exact aq
 .split at aq;.rename_i al;rw[h _ _ al];exact aq
  cases aq
 .split at aq;.rename_i al;rw[h _ _ al];exact aq
  cases aq
 cases aq
def aix{T:cd}{ev:Operand->aS}{objs objs':cw}(h:objs.ext objs'){d k:Key}(aA:d≠k)(al:objs k=none)(k2:objs d=none->objs' d=none){op:Op}{r:aS}{cz:List (Key×cP)} (he:ek T ev objs d op=some (r,cz)):ek T ev objs' d op=some (r,cz)/\∀p∈cz,p.1≠k:=by
 have one:∀{o:cP},∀p∈[(d,o)],p.1≠k:=by intro o p a1;simp at a1;subst a1;exact aA
 have nE:∀{j:Key}{x o:cP},objs j=some x->∀p∈[(j,o)],p.1≠k:=by intro j x o aI p a1;simp at a1;subst a1;rintro rfl;rw[al]at aI;cases aI
 cases op<;>simp only[ek,reduceCtorEq]at he
 case alloc t=>split at he<;>cases he;rename_i i aJ ar;exact⟨by simp only[ek,aJ,k2 ar],one⟩
 case box t x=>split at he<;>cases he;rename_i cs an ar;exact⟨by simp only[ek,an,k2 ar],one⟩
 case buildSlice t n parts=>
  split at he
  case h_2=>cases he
  rename_i e s b z aJ ar;split at he
  case h_2=>cases he
  rename_i bg iF;split at he
  case h_2=>cases he
  rename_i es a1;split at he
  case isFalse=>cases he
  rename_i an;cases he;exact⟨by simp only[ek,aJ,k2 ar,iF,a1];rw[xaa an],one⟩
 case makeSlice t l c=>
  split at he
  case h_2=>cases he
  rename_i e s b z aJ ar;split at he
  case h_2=>cases he
  rename_i bg iF;split at he
  case h_2=>cases he
  rename_i JS ah3 JT ah4 aa ae;split at he
  case isFalse=>cases he
  rename_i an;cases he;exact⟨by simp only[ek,aJ,k2 ar,iF,aa,ae];rw[xaa an],one⟩
 case makeMap t r=>split at he<;>cases he;rename_i ar;exact⟨by simp only[ek,k2 ar],one⟩
 case store t a x=>
  split at he
  case h_2=>cases he
  rename_i i cs aJ an;split at he
  case isFalse=>cases he
  rename_i aq;split at he
  .rename_i j off iX;split at he
   case h_2=>cases he
   rename_i cells aI;split at he
   case isFalse=>cases he
   rename_i a8;cases he;exact⟨by simp only[ek,aJ,an,iX,h _ _ aI];rw[xaa aq,xaa a8],nE aI⟩
  .rename_i j cN fg off iX;split at he
   case h_2=>cases he
   rename_i br es aO aI eF;split at he
   case isFalse=>cases he
   rename_i a8;split at he
   case h_2=>cases he
   rename_i el fa;cases he;exact⟨by simp only[ek,aJ,an,iX,h _ _ aI,eF];rw[xaa aq,xaa a8];simp only[fa],nE aI⟩
  cases he
 case mapUpdate t m aiy x=>
  split at he
  case h_2=>cases he
  rename_i h1 iW s b z aJ;split at he
  case h_2=>cases he
  rename_i hO sz;split at he
  case isFalse=>cases he
  rename_i dh;split at he
  case h_2=>cases he
  rename_i key e3 O6 aP a2 bS;split at he
  case h_2=>cases he
  rename_i es aI;split at he
  case h_2=>cases he
  rename_i l aq;cases he;exact⟨by simp only[ek,aJ,sz,aP,a2,bS,h _ _ aI,aq];rw[xaa dh],nE aI⟩
 case insert t m aiy x=>
  split at he
  case h_2=>cases he
  rename_i h1 iW s b z aJ;split at he
  case h_2=>cases he
  rename_i hO sz;split at he
  case isFalse=>cases he
  rename_i dh;split at he
  case h_2=>cases he
  rename_i key e3 O6 aP a2 bS;split at he
  case h_2=>cases he
  rename_i es aI;split at he
  case h_2=>cases he
  rename_i l aq;cases he;exact⟨by simp only[ek,aJ,sz,aP,a2,bS,h _ _ aI,aq];rw[xaa dh],nE aI⟩
 case call c=>
  obtain⟨callee,args,dA⟩:=c;simp only at he;split at he
  .split at he
   case h_2=>cases he
   rename_i t t' s x lp jz;split at he
   case h_2=>cases he
   rename_i e s1 fO k0 dq s2 h5 qY aJ qb ar;split at he
   case h_2=>cases he
   rename_i bg iF;split at he
   case h_2=>cases he
   rename_i cN xs l3;split at he
   case isFalse=>cases he
   rename_i an;split at he
   .rename_i gE;split at he
    case isFalse=>cases he
    rename_i ao;cases he;exact⟨by simp only[ek,lp,jz,aJ,qb,k2 ar,iF,J9 h l3,gE];rw[xaa an,xaa ao],one⟩
   .rename_i key gE;split at he
    case h_2=>cases he
    rename_i br es aI;split at he
    case isFalse=>cases he
    rename_i ao;cases he;refine⟨by simp only[ek,lp,jz,aJ,qb,k2 ar,iF,J9 h l3,gE,h _ _ aI];rw[xaa an,xaa ao],?_⟩;intro p a1;simp at a1;rcases a1 with rfl|rfl
    .rintro rfl;rw[al]at aI;cases aI
    exact aA
   cases he
  .split at he
   case h_2=>cases he
   rename_i t t' s x lp jz;split at he
   case h_2=>cases he
   rename_i e s1 fO k0 aJ;split at he
   case h_2=>cases he
   rename_i bg iF;split at he
   case h_2=>cases he
   rename_i cN xs l3;split at he
   case isFalse=>cases he
   rename_i an;split at he
   .rename_i key gE;split at he
    case h_2=>cases he
    rename_i br es aI;split at he
    case isFalse=>cases he
    rename_i ao;cases he;exact⟨by simp only[ek,lp,jz,aJ,iF,J9 h l3,gE,h _ _ aI];rw[xaa an,xaa ao],nE aI⟩
   .rename_i key eb i len gE;split at he
    case h_2=>cases he
    rename_i br es aI;split at he
    case isFalse=>cases he
    rename_i ao;cases he;exact⟨by simp only[ek,lp,jz,aJ,iF,J9 h l3,gE,h _ _ aI];rw[xaa an,xaa ao],nE aI⟩
   cases he
  .split at he
   case h_2=>cases he
   rename_i t s lp jz;split at he
   case h_2=>cases he
   rename_i e s1 fO k0 aJ;split at he
   case h_2=>cases he
   rename_i bg iF;split at he
   case h_2=>cases he
   rename_i key eb i len gE;split at he
   case h_2=>cases he
   rename_i br es aI;split at he
   case isFalse=>cases he
   rename_i ao;cases he;exact⟨by simp only[ek,lp,jz,aJ,iF,gE,h _ _ aI];rw[xaa ao],nE aI⟩
  cases he
def aiz{T:cd}{ev:Operand->aS}{objs objs':cw}(h:objs.ext objs'){d k:Key}(aA:d≠k)(al:objs k=none)(k2:objs d=none->objs' d=none){op:Op}{r:aS}{cz:List (Key×cP)} (he:g2 T ev objs d op=some (r,cz)):g2 T ev objs' d op=some (r,cz)/\∀p∈cz,p.1≠k:=by obtain⟨⟨iY,sB⟩,fJ,ao⟩:=wq he;obtain⟨a9,bk⟩:=aix (objs':=objs') h aA al k2 fJ;refine⟨by unfold g2;rw[a9];simp[ao],λp a1=>?_⟩;have ay:=aia (b:=T.born d) (d:=d) (q:=(iY,sB)) p (by rw[ao];exact a1);obtain⟨oC,a7,bZ⟩:=ay;rw[<-bZ];exact bk oC a7
def res(T:cd)(G:df)(σ:aF)(o:Oper):Option (aS×List (Key×cP)):=match ep T (b7 G σ.aH) o.op with|some r=>some (r,[])|none=>match dw T (b7 G σ.aH) σ.objs o.op with|some r=>some (r,[])|none=>g2 T (b7 G σ.aH) σ.objs (o.dst.getD 9999) o.op
def aF.step(σ:aF)(dst:Option Tmp)(r:aS)(cz:List (Key×cP)):aF:=aF.put ⟨σ.aH,dz σ.objs cz⟩ dst r
theorem wA{T:cd}{G:df}{σ:aF}{o:Oper}:gL T G σ o=(res T G σ o).map λp=>σ.step o.dst p.1 p.2:=by unfold gL res aF.step;cases ep T (b7 G σ.aH) o.op with|some r=>rfl|none=>cases dw T (b7 G σ.aH) σ.objs o.op with|some r=>rfl|none=>cases g2 T (b7 G σ.aH) σ.objs (o.dst.getD 9999) o.op with|none=>rfl|some p=>obtain⟨r,cz⟩:=p;rfl
theorem aiA{G:df}{σ:aF}{dst:Option Tmp}{r:aS}{x:Operand}(h:∀d,dst=some d->x≠ .tmp d):b7 G (σ.put dst r).aH x=b7 G σ.aH x:=by cases dst with|none=>rfl|some d=>cases x with|tmp t=>have:t≠d:=λe=>h d rfl (by rw[e]);simp only[b7,aF.put,cV _ _ this]|_=>rfl
theorem aiB{all:Array Oper}{o:Oper}{d:Tmp}(h:d∉o.looksAt all):∀x∈o.op.operands.toList,x≠ .tmp d:=by rintro x ah rfl;exact h (by unfold Oper.looksAt;exact xbP _ (List.mem_filterMap.2 ⟨_,ah,rfl⟩))
def aiC{all:Array Oper}{o:Oper}{d:Tmp}(h:d∉o.looksAt all){j:Nat}{b:Bool}(bG:o.guard=some (j,b)){e:Tmp}(he:(all[j]?).bind (·.dst)=some e):e≠d:=by rintro rfl;exact h (by unfold Oper.looksAt;exact List.mem_append_right _ (by simp[bG,he]))
def put_comm{σ:aF}{x y:Option Tmp}{r s:aS}(h:∀d,x=some d->y≠some d):(σ.put x r).put y s=(σ.put y s).put x r:=by
 cases x with
 |none=>rfl
 |some d=>
  cases y with
  |none=>rfl
  |some e=>
   have cv:d≠e:=λhe=>h d rfl (by rw[he]);simp only[aF.put]
   congr 1
   funext t
   simp only[cl];by_cases aa:t=d;.subst aa;simp[cv]
   by_cases ae:t=e;.subst ae;simp[aa]
   simp[aa,ae]
def pass(x y:Oper):Bool:=iG x.op||iG y.op||((jk x.op||hk x.op)&&(jk y.op||hk y.op)&&!(hk x.op&&hk y.op))||(qe y.op&&match y.dst with|some d=>decide (d<9999)|none=>false)
def jN(all:Array Oper)(σ:aF)(o:Oper):Option Bool:=match o.guard with
 |none=>some true
 |some (j,want)=>match(all[j]?).bind (·.dst)with
  |some d=>match σ.aH d with| .d (.val (.bool b))=>some (decide (b=want))| .d (.val (.tuple _))=>some false|_=>none
  |none=>none
section
variable{P:Program}{T:cd}{G:df}{all:Array Oper}
def hs{o:Oper}{K:aF->Prop}{σ:aF}:er P T G all o K σ=match jN all σ o with|some true=>c7 P T G o K σ|some false=>K (σ.put o.dst (.d (.val (.tuple #[]))))|none=>False:=by
 unfold er jN;cases bG:o.guard with
 |none=>rfl
 |some p=>
  obtain⟨j,want⟩:=p;simp only;cases aA:(all[j]?).bind (·.dst)with
  |none=>rfl
  |some d=>
   simp only;generalize σ.aH d=x;cases x with
   |d x=>
    cases x with
    |val v=>cases v with|bool b=>by_cases h:b=want<;>simp[h]|_=>rfl
    |_=>rfl
   |_=>rfl
def oF{o:Oper}{σ:aF}{dst:Option Tmp}{r:aS}(h:∀d,dst=some d->d∉o.looksAt all):jN all (σ.put dst r) o=jN all σ o:=by
 unfold jN;split;.rfl
 rename_i j want bG;split
 .rename_i e he;have aE:(σ.put dst r).aH e=σ.aH e:=by
   cases dst with|none=>rfl|some d=>simp only[aF.put,cV _ _ (aiC (h d rfl) bG he)]
  rw[aE]
 rfl
def Xm{o:Oper}{σ:aF}{dst:Option Tmp}{r:aS}(h:∀d,dst=some d->d∉o.looksAt all):∀x∈o.op.operands.toList,b7 G (σ.put dst r).aH x=b7 G σ.aH x:=λx ah=>aiA λd aA=>aiB (h d aA) x ah
def aiD{o:Oper}{σ:aF}{dst:Option Tmp}{r:aS}(h:∀d,dst=some d->d∉o.looksAt all):res T G (σ.put dst r) o=res T G σ o:=by have dk:=Xm (G:=G) (σ:=σ) (r:=r) h;unfold res;rw[aip dk,aiq dk,ais dk,aF.wx]
theorem aiE{σ:aF}{Ka Pl:Option Tmp}{r s:aS}{cz:List (Key×cP)}(h:∀d,Ka=some d->Pl≠some d):(σ.put Ka r).step Pl s cz=(σ.step Pl s cz).put Ka r:=by unfold aF.step;rw[<-put_comm h];cases Ka<;>rfl
def aiF{o:Oper}{σ:aF}{dst:Option Tmp}{r:aS}{K:aF->Prop}(h:∀d,dst=some d->d∉o.looksAt all)(cv:∀d,dst=some d->o.dst≠some d):jB P G o (σ.put dst r) K=jB P G o σ (λaX=>K (aX.put dst r)):=by
 have dk:=Xm (G:=G) (σ:=σ) (r:=r) h;unfold jB;split
 .rename_i x args dA dW;have aP:b7 G (σ.put dst r).aH x=b7 G σ.aH x:=dk x (by rw[dW];simp[Op.operands,Call.operands]);have a2:args.toList.map (b7 G (σ.put dst r).aH)=args.toList.map (b7 G σ.aH):=J5 λy aK=>dk y (by rw[dW];simp[Op.operands,Call.operands];exact .inr (by simpa using aK));rw[aP];split
  .rename_i f pre post gM;unfold Xf;rw[a2,aF.wx];simp only[put_comm cv]
  rfl
 rfl
def jC{o:Oper}{σ:aF}{dst:Option Tmp}{r:aS}{K:aF->Prop}(h:∀d,dst=some d->d∉o.looksAt all)(cv:∀d,dst=some d->o.dst≠some d):c7 P T G o K (σ.put dst r)=c7 P T G o (λaX=>K (aX.put dst r)) σ:=by unfold c7;rw[wA,wA,aiD h];cases aw:res T G σ o with|none=>exact aiF h cv|some p=>simp only[xaC,aiE cv]
def aiG{ev:Operand->aS}{objs:cw}{d:Key}{op:Op}{p:aS×List (Key×cP)}(h:g2 T ev objs d op=some p)(objs':cw):ep T ev op=none/\dw T ev objs' op=none:=by
 obtain⟨q,aa,_⟩:=wq h;clear h;cases op<;>first|exact⟨rfl,rfl⟩|(simp only[ek,reduceCtorEq]at aa;done)|skip
 case call c=>obtain⟨callee,args,dA⟩:=c;cases callee with|value=>exact⟨rfl,rfl⟩|invoke=>exact⟨rfl,rfl⟩|builtin b=>cases b<;>first|exact⟨rfl,rfl⟩|(simp only[ek,reduceCtorEq]at aa;done)
def aiH{ev:Operand->aS}{op:Op}{r:aS}(h:ep T ev op=some r):iG op=true\/jk op=true:=by
 cases op
 case call c=>obtain⟨callee,args,dA⟩:=c;cases callee with|value=>exact absurd h (by simp[ep])|invoke=>exact absurd h (by simp[ep])|builtin b=>cases b<;>first|exact .inr rfl|exact absurd h (by simp[ep])
 all_goals first|exact .inl rfl|exact .inr rfl|exact absurd h (by simp[ep])
def aiI{ev:Operand->aS}{objs:cw}{op:Op}{r:aS}(h:dw T ev objs op=some r):iG op=true\/jk op=true:=by
 cases op
 case call c=>obtain⟨callee,args,dA⟩:=c;cases callee with|value=>exact absurd h (by simp[dw])|invoke=>exact absurd h (by simp[dw])|builtin b=>cases b<;>first|exact .inr rfl|exact absurd h (by simp[dw])
 all_goals first|exact .inl rfl|exact .inr rfl|exact absurd h (by simp[dw])
def Xn:∀(cz:List (Key×cP)) {objs:cw} {k:Key},dz objs cz k=none->objs k=none/\∀p∈cz,p.1≠k
 |[],objs,k,h=>⟨h,by simp⟩
 |(j,x)::r,objs,k,h=>by
  obtain⟨aa,ae⟩:=Xn r h;have aI:j≠k:=by rintro rfl;rw[eX]at aa;cases aa
  rw[cV _ _ (Ne.symm aI)]at aa;exact⟨aa,by intro p a1;rcases xap.1 a1 with rfl|a1;exact aI;exact ae p a1⟩
def yx{o:Oper}{σ:aF}{K:aF->Prop}(h:jB P G o σ K):hk o.op=true:=by
 unfold jB at h;split at h;.rename_i x args dA dW;rw[dW];rfl
 cases h
def EC{op:Op}(h:hk op=true):iG op=false/\jk op=false/\qe op=false:=by
 cases op<;>first|cases h|skip
 case call c=>
  obtain⟨callee,args,dA⟩:=c;cases callee with
  |value=>exact⟨rfl,rfl,rfl⟩|invoke=>cases h
  |builtin b=>cases h
def aiJ{o:Oper}{aH:Nat->aS}{objs objs':cw}(h:objs.ext objs'){r:aS}(aw:res T G ⟨aH,objs⟩ o=some (r,[]))(al:iG o.op=true\/jk o.op=true):res T G ⟨aH,objs'⟩ o=some (r,[]):=by
 unfold res at*;simp only at*;split at aw;.exact aw
 rename_i a1;split at aw;.rename_i aCa hm;simp only[aiw h hm];exact aw
 rename_i hm;rcases al with al|al
 .rw[(BG (T:=T) (ev:=b7 G aH) (objs:=objs) (d:=o.dst.getD 9999) al).2]at aw;cases aw
 rw[BH al]at aw;cases aw
def Kb{o:Oper}{σ:aF}{r:aS}{cz:List (Key×cP)}(aw:res T G σ o=some (r,cz))(al:iG o.op=true\/jk o.op=true):cz=[]:=by
 unfold res at aw;split at aw;.cases aw;rfl
 split at aw;.cases aw;rfl
 rcases al with al|al;.rw[(BG (T:=T) (ev:=b7 G σ.aH) (objs:=σ.objs) (d:=o.dst.getD 9999) al).2]at aw;cases aw
 rw[BH al]at aw;cases aw
def Xo{o:Oper}{aH:Nat->aS}{objs objs':cw}{p:aS×List (Key×cP)}(aw:res T G ⟨aH,objs⟩ o=some p)(al:iG o.op=true):res T G ⟨aH,objs'⟩ o=some p/\p.2=[]:=by
 unfold res at*;simp only at*;split at aw;.cases aw;exact⟨rfl,rfl⟩
 rw[(BG (T:=T) (ev:=b7 G aH) (objs:=objs) (d:=o.dst.getD 9999) al).1,(BG (T:=T) (ev:=b7 G aH) (objs:=objs) (d:=o.dst.getD 9999) al).2]at aw;cases aw
def uq{o:Oper}{σ:aF}(al:hk o.op=true):res T G σ o=none:=by unfold res;obtain⟨aa,ae,ay⟩:=Pk (T:=T) (ev:=b7 G σ.aH) (objs:=σ.objs) (d:=o.dst.getD 9999) al;rw[aa,ae,ay]
theorem l6{o:Oper}{σ:aF}{K:aF->Prop}{r:aS}{cz:List (Key×cP)}(aw:res T G σ o=some (r,cz)):c7 P T G o K σ=K (σ.step o.dst r cz):=by unfold c7;rw[wA,aw];rfl
theorem nG{o:Oper}{σ:aF}{K:aF->Prop}(aw:res T G σ o=none):c7 P T G o K σ=jB P G o σ K:=by unfold c7;rw[wA,aw];rfl
def ED{o:Oper}{σ:aF}{K K':aF->Prop}(h:jB P G o σ K)(al:∀r,K (σ.put o.dst r)->K' (σ.put o.dst r)):jB P G o σ K':=by
 unfold jB at*;split
 .rename_i x args dA dW;rw[dW]at h;simp only at h;split;.rename_i f pre post gM;simp only[gM]at h;obtain⟨m5,aO,e8,aa,ae,ay,a7,bZ,cG⟩:=h;exact⟨m5,aO,e8,aa,ae,ay,a7,bZ,λr aw=>al _ (cG r aw)⟩
  rename_i gM;simp only[gM]at h
 rename_i dW;split at h;.rename_i x args dA e;exact absurd e (dW x args dA)
 exact h
def Xp{x y:Oper}{σ:aF}{K:aF->Prop}(aa:∀d,x.dst=some d->d∉y.looksAt all)(ae:∀d,x.dst=some d->y.dst≠some d)(ay:∀d,y.dst=some d->d∉x.looksAt all)(a1:pass x y=true) (h:c7 P T G x (λgv=>c7 P T G y K gv) σ):c7 P T G y (λfT=>c7 P T G x K fT) σ:=by
 have ha:∀d,y.dst=some d->x.dst≠some d:=λd aA ah=>ae d ah aA;obtain⟨aH,objs⟩:=σ;have EE:∀{o:Oper}{r:aS}{u:List (Key×cP)},aF.step ⟨aH,objs⟩ o.dst r u=aF.put ⟨aH,dz objs u⟩ o.dst r:=rfl;cases ko:res T G ⟨aH,objs⟩ x with
 |none=>
  rw[nG ko]at h;have EF:=yx h;obtain⟨nH,yy,Xq⟩:=EC EF;have aK:(iG y.op=true\/jk y.op=true)\/(qe y.op=true/\∃d,y.dst=some d/\d<9999):=by simp only[pass,nH,yy,EF,xbz,xbm]at a1;cases oG:iG y.op with|true=>exact .inl (.inl rfl)|false=>cases dD:jk y.op with|true=>exact .inl (.inr rfl)|false=>simp only[oG,dD,xbz]at a1;cases dB:qe y.op with|false=>simp[dB]at a1|true=>refine .inr ⟨rfl,?_⟩;simp only[dB,xbm]at a1;cases aA:y.dst with|none=>simp[aA]at a1|some d=>simp[aA]at a1;exact⟨d,rfl,a1⟩
  have wz:hk y.op=false:=by
   cases ch:hk y.op with
   |false=>rfl
   |true=>
    obtain⟨a,b,c⟩:=EC ch;rcases aK with(e|e)|⟨e,_⟩;.rw[a]at e;cases e
    .rw[b]at e;cases e
    rw[c]at e;cases e
  unfold jB at h;split at h
  case h_2=>cases h
  rename_i Xr args dA dW;split at h
  case h_2=>cases h
  rename_i f pre post gM;obtain⟨m5,aO,e8,bV,bN,cC,⟨iY,rfl⟩,et,fi⟩:=h;have BJ:c7 P T G y K (aF.put ⟨aH,objs⟩ x.dst (.d iY)):=fi iY rfl;rw[jC aa ae]at BJ;cases jO:res T G ⟨aH,objs⟩ y with
  |none=>rw[nG jO]at BJ;have:=yx BJ;rw[wz]at this;cases this
  |some p=>
   obtain⟨qf,q7⟩:=p;rw[l6 jO];have pq:cw.ext objs (dz objs q7):=by
    rcases aK with aK|⟨aK,_⟩;.rw[Kb jO aK];exact λ_ _ h=>h
    have wB:g2 T (b7 G aH) objs (y.dst.getD 9999) y.op=some (qf,q7):=by unfold res at jO;simp only[(q5 (T:=T) (ev:=b7 G aH) (objs:=objs) aK).1,(q5 (T:=T) (ev:=b7 G aH) (objs:=objs) aK).2]at jO;exact jO
    obtain⟨bU,aM,o,rfl⟩:=BI (objs':=λ_=>none) aK rfl wB;exact cw.J6 aM o
   show c7 P T G x K (aF.step ⟨aH,objs⟩ y.dst qf q7);rw[EE,jC ay ha,nG (uq EF)];unfold jB;rw[dW];simp only[gM];refine⟨m5,aO,_,po (λx d ah=>aiv pq ah) _ _ bV,bN,cC,⟨iY,rfl⟩,et,λr aw=>?_⟩;have Xs:c7 P T G y K (aF.put ⟨aH,objs⟩ x.dst (.d r)):=fi r aw;rw[jC aa ae,l6 jO,EE,put_comm ha]at Xs;exact Xs
 |some p=>
  obtain⟨rx,pr⟩:=p;rw[l6 ko,EE,jC aa ae]at h;cases jO:res T G ⟨aH,dz objs pr⟩ y with
  |none=>
   rw[nG jO]at h;have wz:=yx h;obtain⟨nH,yy,Xq⟩:=EC wz;have ah:iG x.op=true\/jk x.op=true:=by simp only[pass,nH,yy,Xq,wz,xbz,Bool.or_false,xbQ,xbl,Bool.or_true]at a1;cases oG:iG x.op with|true=>exact .inl rfl|false=>cases dD:jk x.op with|true=>exact .inr rfl|false=>cases ch:hk x.op<;>simp[oG,dD,ch]at a1
   have Kc:=Kb ko ah;subst Kc;rw[nG (show res T G ⟨aH,objs⟩ y=none from jO)];refine ED h λr aw=>?_;rw[jC ay ha,l6 ko,EE,put_comm ae];exact aw
  |some p=>
   obtain⟨qf,q7⟩:=p;rw[l6 jO]at h;have EG:aF.step ⟨aH,dz objs pr⟩ y.dst qf q7=aF.put ⟨aH,dz (dz objs pr) q7⟩ y.dst qf:=rfl;rw[EG]at h;have Pm:∀{yz:List (Key×cP)} {Kd:aS},res T G ⟨aH,objs⟩ y=some (Kd,yz)->(∃EH,res T G ⟨aH,dz objs yz⟩ x=some (rx,EH)/\Kd=qf/\dz (dz objs yz) EH=dz (dz objs pr) q7)->c7 P T G y (λfT=>c7 P T G x K fT) ⟨aH,objs⟩:=by rintro yz Kd aP ⟨EH,a2,rfl,bS⟩;rw[l6 aP];show c7 P T G x K (aF.step ⟨aH,objs⟩ y.dst Kd yz);rw[EE,jC ay ha,l6 a2];have:aF.step ⟨aH,dz objs yz⟩ x.dst rx EH=aF.put ⟨aH,dz (dz objs yz) EH⟩ x.dst rx:=rfl;rw[this,bS,put_comm ae];exact h
   by_cases EI:iG x.op=true\/jk x.op=true
   .have Kc:=Kb ko EI;subst Kc;refine Pm jO ⟨[],?_,rfl,rfl⟩;by_cases Ke:iG y.op=true\/jk y.op=true;.rw[Kb jO Ke];exact ko
    by_cases Xt:iG x.op=true;.exact(Xo ko Xt).1
    
    have aK:qe y.op=true:=by
     rw[not_or]at Ke;have au:iG x.op=false:=by simpa using Xt
     have ba:iG y.op=false:=by simpa using Ke.1
     have cx:jk y.op=false:=by simpa using Ke.2
     simp only[pass,au,ba,cx,xbz]at a1;cases dB:qe y.op with|true=>rfl|false=>cases ch:hk y.op with|false=>simp[dB,ch]at a1|true=>rw[uq ch]at jO;cases jO
    have wB:g2 T (b7 G aH) objs (y.dst.getD 9999) y.op=some (qf,q7):=by have Pn:res T G ⟨aH,objs⟩ y=some (qf,q7):=jO;unfold res at Pn;simp only[(q5 (T:=T) (ev:=b7 G aH) (objs:=objs) aK).1,(q5 (T:=T) (ev:=b7 G aH) (objs:=objs) aK).2]at Pn;exact Pn
    obtain⟨bU,aM,o,rfl⟩:=BI (objs':=λ_=>none) aK rfl wB;exact aiJ (cw.J6 aM o) ko EI
   rw[not_or]at EI;have au:iG x.op=false:=by simpa using EI.1
   have ba:jk x.op=false:=by simpa using EI.2
   have Kf:hk x.op=false:=by cases ch:hk x.op with|false=>rfl|true=>rw[uq ch]at ko;cases ko
   by_cases Xu:iG y.op=true;.obtain⟨aP,a2⟩:=Xo (objs':=objs) jO Xu;simp only at a2;subst a2;exact Pm aP ⟨pr,ko,rfl,rfl⟩
   have cx:iG y.op=false:=by simpa using Xu
   simp only[pass,au,ba,cx,Kf,xbz,xbQ]at a1;rw[xak]at a1;obtain⟨aK,aA⟩:=a1;have uo:∃d,y.dst=some d/\d<9999:=by cases ja:y.dst with|none=>simp[ja]at aA|some d=>simp[ja]at aA;exact⟨d,rfl,aA⟩
   obtain⟨d,uo,Xv⟩:=uo;have wB:g2 T (b7 G aH) (dz objs pr) (y.dst.getD 9999) y.op=some (qf,q7):=by unfold res at jO;simp only[(q5 (T:=T) (ev:=b7 G aH) (objs:=dz objs pr) aK).1,(q5 (T:=T) (ev:=b7 G aH) (objs:=dz objs pr) aK).2]at jO;exact jO
   rw[uo]at wB;simp only[xbk]at wB;obtain⟨_,aM,o,rfl⟩:=BI (objs':=λ_=>none) aK rfl wB;obtain⟨Po,Kc⟩:=Xn pr aM;obtain⟨aiK,_,_⟩:=BI (objs':=objs) aK Po wB;have aiL:res T G ⟨aH,objs⟩ y=some (qf,[(d,o)]):=by unfold res;simp only[(q5 (T:=T) (ev:=b7 G aH) (objs:=objs) aK).1,(q5 (T:=T) (ev:=b7 G aH) (objs:=objs) aK).2,uo,xbk];exact aiK
   have hex:g2 T (b7 G aH) objs (x.dst.getD 9999) x.op=some (rx,pr):=by
    unfold res at ko;simp only at ko;split at ko;.rename_i aiM;exact absurd (aiH aiM) (by simp[au,ba])
    split at ko;.rename_i BK;exact absurd (aiI BK) (by simp[au,ba])
    exact ko
   have Kg:x.dst.getD 9999≠d:=by cases Kg:x.dst with|none=>simp only[Option.getD_none];exact λe=>by rw[<-e]at Xv;exact absurd Xv (xbZ _)|some e=>simp only[xbk];rintro rfl;exact ae e Kg uo
   obtain⟨Xw,cv⟩:=aiz (T:=T) (ev:=b7 G aH) (cw.J6 Po o) Kg Po (λar=>by rw[cV _ _ Kg];exact ar) hex;refine Pm aiL ⟨pr,?_,rfl,Xl pr cv⟩;obtain⟨cE,eb⟩:=aiG Xw (cl objs d (some o));show res T G ⟨aH,cl objs d (some o)⟩ x=some (rx,pr);unfold res;simp only[cE,eb];exact Xw
def qg{o:Oper}{σ:aF}{K K':aF->Prop}(al:∀σ,K σ->K' σ)(h:c7 P T G o K σ):c7 P T G o K' σ:=by
 unfold c7 at*;split;.rename_i e;rw[e]at h;exact al _ h
 rename_i e;rw[e]at h;exact ED h λr aw=>al _ aw
def EJ{o:Oper}{σ:aF}{K K':aF->Prop}(al:∀σ,K σ->K' σ)(h:er P T G all o K σ):er P T G all o K' σ:=by
 rw[hs]at*;split;.rename_i e;rw[e]at h;exact qg al h
 .rename_i e;rw[e]at h;exact al _ h
 rename_i e;rw[e]at h;exact h
def wC{o:Oper}{σ:aF}{K K':aF->Prop}(al:∀objs r,K (aF.put ⟨σ.aH,objs⟩ o.dst r)->K' (aF.put ⟨σ.aH,objs⟩ o.dst r))(h:c7 P T G o K σ):c7 P T G o K' σ:=by unfold c7 at*;rw[wA]at*;cases aw:res T G σ o with|none=>simp only[aw,xbq]at h⊢;exact ED h λr aw=>al σ.objs r aw|some p=>simp only[aw,xaC]at h⊢;exact al _ _ h
def swap{x y:Oper}{σ:aF}{K:aF->Prop}(mB:x.apart all y=true)(a1:pass x y=true)(h:er P T G all x (λgv=>er P T G all y K gv) σ):er P T G all y (λfT=>er P T G all x K fT) σ:=by
 obtain⟨au,ba,cx⟩:=Oper.apart_spec mB;have oH:∀d,y.dst=some d->x.dst≠some d:=λd aA ah=>ba d ah aA;rw[hs]at h;have qh:∀(objs:cw)(r:aS),jN all (aF.put ⟨σ.aH,objs⟩ x.dst r) y=jN all σ y:=λobjs r=>by rw[oF au];rfl
 have q8:∀(objs:cw)(r:aS),jN all (aF.put ⟨σ.aH,objs⟩ y.dst r) x=jN all σ x:=λobjs r=>by rw[oF cx];rfl
 split at h
 .rename_i ah;rw[hs];have bD:c7 P T G x (λgv=>match jN all σ y with|some true=>c7 P T G y K gv|some false=>K (gv.put y.dst (.d (.val (.tuple #[]))))|none=>False) σ:=by
   refine wC (λobjs r al=>?_) h;rw[hs,qh]at al;exact al
  cases yA:jN all σ y with
  |none=>
   simp only[yA]at bD;unfold c7 at bD;split at bD;.exact bD
   unfold jB at bD;split at bD
   .split at bD;.obtain⟨_,_,_,_,_,_,⟨r,rfl⟩,_,q⟩:=bD;exact q r rfl
    exact bD
   exact bD
  |some b=>
   cases b with
   |false=>
    simp only[yA]at bD;show er P T G all x K (σ.put y.dst (.d (.val (.tuple #[]))));rw[hs];have:jN all (σ.put y.dst (.d (.val (.tuple #[])))) x=some true:=by rw[oF cx];exact ah
    simp only[this];rw[jC cx oH];exact bD
   |true=>simp only[yA]at bD;have ae:=Xp au ba cx a1 bD;show c7 P T G y (λfT=>er P T G all x K fT) σ;refine wC (λobjs r al=>?_) ae;rw[hs,q8,ah];exact al
 .rename_i ah;rw[hs,oF au]at h;rw[hs];split at h
  .rename_i aK
   try simp only[aK]
   rw[jC au ba]at h;refine wC (λobjs r al=>?_) h;rw[hs,q8,ah];exact al
  .rename_i aK
   try simp only[aK]
   show er P T G all x K (σ.put y.dst (.d (.val (.tuple #[]))));rw[hs,oF cx,ah];show K _;rw[put_comm oH];exact h
  exact h.elim
 exact h.elim
def aiN{o:Oper}{σ:aF}{K K':aF->Prop}(h:c7 P T G o K σ)(al:∀aX r,aX=σ.put o.dst (.d r)->K aX->K' aX)(ch:hk o.op=true):c7 P T G o K' σ:=by
 rw[nG (uq ch)]at h⊢;unfold jB at*;split
 .rename_i x args dA dW;rw[dW]at h;simp only at h;split;.rename_i f pre post gM;simp only[gM]at h;obtain⟨m5,aO,e8,aa,ae,ay,a7,bZ,cG⟩:=h;exact⟨m5,aO,e8,aa,ae,ay,a7,bZ,λr aw=>al _ r rfl (cG r aw)⟩
  rename_i gM;simp only[gM]at h
 rename_i dW;split at h;.rename_i x args dA e;exact absurd e (dW x args dA)
 exact h
def cw.low(objs objs':cw):Prop:=∀k o,objs k=some o->o≠ .dead->objs' k=some o
def Xx{objs objs':cw}(h:objs.low objs'){x:aS}{d:D}(aq:q2 objs x=some d):q2 objs' x=some d:=by
 unfold q2 at*;split at aq;.exact aq
 .split at aq;.rename_i al;rw[h _ _ al (by simp)];exact aq
  cases aq
 .split at aq;.rename_i al;rw[h _ _ al (by simp)];exact aq
  cases aq
 .split at aq;.rename_i al;rw[h _ _ al (by simp)];exact aq
  cases aq
 cases aq
def Kh{objs objs':cw}(h:objs.low objs'){x:aS}{d:D}(aq:m3 objs x=some d):m3 objs' x=some d:=by
 unfold m3 at*;split at aq
 .split at aq
  case h_2=>cases aq
  rename_i al;simp only[h _ _ al (by simp)];split at aq
  case h_2=>cases aq
  rename_i cs hr;rw[po (λx d ah=>Xx h ah) _ _ hr];exact aq
 .exact aq
 exact Xx h aq
def Xy{objs objs':cw}(h:objs.low objs'){x:aS}{d:D}(aq:oD objs x=some d):oD objs' x=some d:=by
 unfold oD at*;split at aq
 .split at aq
  case h_2=>cases aq
  rename_i aO eF;rw[po (λx d ah=>Kh h ah) _ _ eF];exact aq
 .split at aq
  case h_2=>cases aq
  rename_i as jj has EA;rw[po (λx d ah=>Kh h ah) _ _ has,po (λx d ah=>Kh h ah) _ _ EA];exact aq
 exact Kh h aq
def aiO{objs objs':cw}(h:objs.low objs'){x:aS}{d:D}(aq:toD objs x=some d):toD objs' x=some d:=by
 unfold toD at*;split at aq
 .split at aq
  case h_2=>cases aq
  rename_i aO eF;rw[po (λx d ah=>Xy h ah) _ _ eF];exact aq
 exact Xy h aq
def Xz{objs objs':cw}(h:objs.low objs'){x:aS}{n:Nat}(aq:j3 objs x=some n):j3 objs' x=some n:=by
 unfold j3 at*;split at aq;.exact aq
 .exact aq
 .split at aq;.rename_i al;rw[h _ _ al (by simp)];exact aq
  cases aq
 .exact aq
 cases aq
def aiP{objs objs':cw}(h:objs.low objs'){x:aS}{es:List (List D)}(aq:p7 objs x=some es):p7 objs' x=some es:=by
 unfold p7 at*;split at aq;.exact aq
 .exact aq
 .split at aq;.rename_i al;rw[h _ _ al (by simp)];exact aq
  cases aq
 .split at aq;.rename_i al;rw[h _ _ al (by simp)];exact aq
  cases aq
 cases aq
def Ki{objs objs':cw}(h:objs.low objs'){x:aS}{b:Bool}(aq:mz objs x=some b):mz objs' x=some b:=by
 unfold mz at*;split at aq;.exact aq
 .exact aq
 .split at aq;.rename_i al;rw[h _ _ al (by simp)];exact aq
  cases aq
 cases aq
def aiQ{T:cd}{ev:Operand->aS}{objs objs':cw}(h:objs.low objs'){op:Op}{r:aS}(hm:dw T ev objs op=some r):dw T ev objs' op=some r:=by
 cases op<;>simp only[dw,reduceCtorEq]at hm⊢
 case convert s t x=>
  split at hm
  case h_2=>cases hm
  rename_i aP a2;split at hm
  case h_2=>cases hm
  rename_i bS;split at hm
  case h_2=>cases hm
  rename_i es he;simp only[aP,a2,bS,aiP h he];exact hm
 case load t a=>
  split at hm
  case h_2=>cases hm
  split at hm;.exact hm
  .split at hm
   case h_2=>cases hm
   rename_i al;simp only[h _ _ al (by simp)];exact hm
  .split at hm
   case h_2=>cases hm
   rename_i al;simp only[h _ _ al (by simp)];exact hm
  cases hm
 case indexAddr t x fg=>
  split at hm
  .split at hm
   case h_2=>cases hm
   split at hm
   case isFalse=>cases hm
   rename_i ar;rw[xaa ar];split at hm;.exact hm
   .split at hm
    case h_2=>cases hm
    rename_i al;simp only[h _ _ al (by simp)];exact hm
   .exact hm
   cases hm
  .exact hm
  cases hm
 case slice t x lo aj fR=>
  cases fR with
  |some _=>simp[dw]at hm
  |none=>
   simp only[dw]at hm⊢;split at hm
   case h_3=>cases hm
   case h_2=>exact hm
   split at hm
   case h_2=>cases hm
   split at hm
   case h_2=>cases hm
   rename_i n aM;simp only[Xz h aM];split at hm
   case h_2=>cases hm
   split at hm
   case isFalse=>cases hm
   rename_i an;rw[xaa an];split at hm;.exact hm
   .split at hm
    case h_2=>cases hm
    rename_i al;simp only[h _ _ al (by simp)];exact hm
   .exact hm
   cases hm
 case call c=>
  split at hm
  case h_2=>cases hm
  split at hm
  case h_2=>cases hm
  split at hm;.exact hm
  .split at hm
   case h_2=>cases hm
   rename_i n aM;simp only[Xz h aM];exact hm
  .exact hm
  .exact hm
  .split at hm
   case h_2=>cases hm
   rename_i al;simp only[h _ _ al (by simp)];exact hm
  cases hm
 case lookup t x k ok=>
  split at hm
  case h_2=>cases hm
  split at hm;.exact hm
  .exact hm
  .split at hm
   case h_2=>cases hm
   rename_i al;simp only[h _ _ al (by simp)];exact hm
  cases hm
 case binOp op t x y yh=>
  split at hm
  case h_2=>cases hm
  split at hm
  .split at hm
   .rename_i an;rw[xaa an];split at hm
    case h_2=>cases hm
    rename_i b ao;simp only[Ki h ao];exact hm
   rename_i an;rw[xac an];split at hm
   case isFalse=>cases hm
   rename_i q6;rw[xaa q6];split at hm
   case h_2=>cases hm
   rename_i b ao;simp only[Ki h ao];exact hm
  .split at hm
   .rename_i an;rw[xaa an];split at hm
    case h_2=>cases hm
    rename_i b ao;simp only[Ki h ao];exact hm
   rename_i an;rw[xac an];split at hm
   case isFalse=>cases hm
   rename_i q6;rw[xaa q6];split at hm
   case h_2=>cases hm
   rename_i b ao;simp only[Ki h ao];exact hm
  cases hm
def EK(T:cd)(x:Oper):Bool:=match x.op with| .buildSlice _ _ _=>T.born (x.dst.getD 9999)|_=>false
def yB(T:cd)(x y:Oper):Bool:=pass x y||(hk x.op&&hk y.op)||(EK T x&&(hk y.op||jk y.op))
def aiR{x:Oper}{σ:aF}(ao:EK T x=true){p:aS×List (Key×cP)}(h:res T G σ x=some p):σ.objs (x.dst.getD 9999)=none/\p.2=[(x.dst.getD 9999,.dead)]:=by
 unfold EK at ao;split at ao
 case h_2=>cases ao
 rename_i t n parts dW;have al:qe x.op=true:=by rw[dW];rfl
 obtain⟨aP,a2⟩:=q5 (T:=T) (ev:=b7 G σ.aH) (objs:=σ.objs) al;unfold res at h;rw[aP,a2]at h;obtain⟨q,aa,ae⟩:=wq h;rw[dW]at aa;simp only[ek]at aa;split at aa
 case h_2=>cases aa
 rename_i e s b z aJ ar;split at aa
 case h_2=>cases aa
 split at aa
 case h_2=>cases aa
 split at aa
 case isFalse=>cases aa
 cases aa;refine⟨ar,?_⟩;rw[<-ae];simp[q0,ao]
def aiS{x y:Oper}{σ:aF}{K:aF->Prop}(aa:∀d,x.dst=some d->d∉y.looksAt all)(ae:∀d,x.dst=some d->y.dst≠some d)(ay:∀d,y.dst=some d->d∉x.looksAt all)(Kf:hk x.op=true)(aiT:hk y.op=true\/False) (h:c7 P T G x (λgv=>c7 P T G y K gv) σ):c7 P T G y (λfT=>c7 P T G x K fT) σ:=by
 have ha:∀d,y.dst=some d->x.dst≠some d:=λd aA ah=>ae d ah aA;have Kj:hk y.op=true:=aiT.resolve_right id;rw[nG (uq Kf)]at h;unfold jB at h;split at h
 case h_2=>cases h
 rename_i Xr args dA dW;split at h
 case h_2=>cases h
 rename_i f pre post gM;obtain⟨m5,aO,e8,bV,bN,cC,⟨iY,rfl⟩,et,fi⟩:=h;have BJ:c7 P T G y K (aF.put σ x.dst (.d iY)):=fi iY rfl;rw[jC aa ae]at BJ;refine aiN BJ (λaX r he al=>?_) Kj;subst he;rw[jC ay ha,nG (uq Kf)];unfold jB;rw[dW];simp only[gM];refine⟨m5,aO,_,bV,bN,cC,⟨iY,rfl⟩,et,λr aw=>?_⟩;subst aw;rw[put_comm ae];exact al
def aiU{x y:Oper}{σ:aF}{K:aF->Prop}(aa:∀d,x.dst=some d->d∉y.looksAt all)(ae:∀d,x.dst=some d->y.dst≠some d)(ay:∀d,y.dst=some d->d∉x.looksAt all)(Kk:EK T x=true)(Pp:hk y.op=true\/jk y.op=true) (h:c7 P T G x (λgv=>c7 P T G y K gv) σ):c7 P T G y (λfT=>c7 P T G x K fT) σ:=by
 have ha:∀d,y.dst=some d->x.dst≠some d:=λd aA ah=>ae d ah aA;cases ko:res T G σ x with
 |none=>
  rw[nG ko]at h;have:=yx h;unfold EK at Kk;split at Kk
  .rename_i dW;rw[dW]at this;cases this
  cases Kk
 |some p=>
  obtain⟨rx,cz⟩:=p;obtain⟨aM,hu⟩:=aiR Kk ko;simp only at hu;subst hu;rw[l6 ko]at h;have aK:c7 P T G y K (aF.put ⟨σ.aH,dz σ.objs [(x.dst.getD 9999,.dead)]⟩ x.dst rx):=h;rw[jC aa ae]at aK;have Kl:cw.low (dz σ.objs [(x.dst.getD 9999,.dead)]) σ.objs:=by
   intro k o al aL;simp only[dz]at al;by_cases e:k=x.dst.getD 9999;.subst e;rw[eX]at al;cases al;exact absurd rfl aL
   rwa [cV _ _ e]at al
  rcases Pp with Kj|XA
  case inr=>
   have wz:hk y.op=false:=by cases ch:hk y.op with|false=>rfl|true=>have:=(EC ch).2.1;rw[XA]at this;cases this
   have key:∀p,res T G ⟨σ.aH,dz σ.objs [(x.dst.getD 9999,.dead)]⟩ y=some p->p.2=[]/\res T G σ y=some p:=by
    intro p a1;have he:∀objs d,g2 T (b7 G σ.aH) objs d y.op=none:=λobjs d=>BH XA;unfold res at a1⊢;cases XB:ep T (b7 G σ.aH) y.op with
    |some r=>simp only[XB]at a1⊢;cases a1;exact⟨rfl,rfl⟩
    |none=>
     simp only[XB]at a1⊢;cases EL:dw T (b7 G σ.aH) (dz σ.objs [(x.dst.getD 9999,.dead)]) y.op with
     |none=>simp only[EL,he]at a1;cases a1
     |some r=>simp only[EL]at a1;cases a1;rw[aiQ Kl EL];exact⟨rfl,rfl⟩
   cases jO:res T G ⟨σ.aH,dz σ.objs [(x.dst.getD 9999,.dead)]⟩ y with
   |none=>rw[nG jO]at aK;have:=yx aK;rw[wz]at this;cases this
   |some p=>obtain⟨qf,q7⟩:=p;obtain⟨cE,eb⟩:=key _ jO;simp only at cE;subst cE;rw[l6 jO]at aK;rw[l6 eb];show c7 P T G x K (aF.put σ y.dst qf);rw[jC ay ha,l6 ko];unfold aF.step;rw[put_comm ae];exact aK
  rw[nG (uq Kj)]at aK;rw[nG (uq Kj)];unfold jB at aK⊢;split at aK
  case h_2=>cases aK
  rename_i Xr args dA dW;split at aK
  case h_2=>cases aK
  rename_i f pre post gM;obtain⟨m5,aO,e8,bV,bN,cC,⟨iY,rfl⟩,et,fi⟩:=aK;simp only[dW,gM];refine⟨m5,aO,_,po (λx d ah=>aiO Kl ah) _ _ bV,bN,cC,⟨iY,rfl⟩,et,λr aw=>?_⟩;subst aw;have:=fi r rfl;rw[jC ay ha,l6 ko];unfold aF.step;rw[put_comm ae];exact this
def aiV{x y:Oper}{σ:aF}{K:aF->Prop}(aa:∀d,x.dst=some d->d∉y.looksAt all)(ae:∀d,x.dst=some d->y.dst≠some d)(ay:∀d,y.dst=some d->d∉x.looksAt all)(a1:yB T x y=true) (h:c7 P T G x (λgv=>c7 P T G y K gv) σ):c7 P T G y (λfT=>c7 P T G x K fT) σ:=by
 unfold yB at a1;rw[xbb,xbb]at a1;rcases a1 with(a1|a1)|a1
 .exact Xp aa ae ay a1 h
 .rw[xak]at a1;exact aiS aa ae ay a1.1 (.inl a1.2) h
 rw[xak,xbb]at a1;exact aiU aa ae ay a1.1 a1.2 h
def swapT{x y:Oper}{σ:aF}{K:aF->Prop}(mB:x.apart all y=true)(a1:yB T x y=true)(h:er P T G all x (λgv=>er P T G all y K gv) σ):er P T G all y (λfT=>er P T G all x K fT) σ:=by
 obtain⟨au,ba,cx⟩:=Oper.apart_spec mB;have oH:∀d,y.dst=some d->x.dst≠some d:=λd aA ah=>ba d ah aA;rw[hs]at h;have qh:∀(objs:cw)(r:aS),jN all (aF.put ⟨σ.aH,objs⟩ x.dst r) y=jN all σ y:=λobjs r=>by rw[oF au];rfl
 have q8:∀(objs:cw)(r:aS),jN all (aF.put ⟨σ.aH,objs⟩ y.dst r) x=jN all σ x:=λobjs r=>by rw[oF cx];rfl
 split at h
 .rename_i ah;rw[hs];have bD:c7 P T G x (λgv=>match jN all σ y with|some true=>c7 P T G y K gv|some false=>K (gv.put y.dst (.d (.val (.tuple #[]))))|none=>False) σ:=by
   refine wC (λobjs r al=>?_) h;rw[hs,qh]at al;exact al
  cases yA:jN all σ y with
  |none=>
   simp only[yA]at bD;unfold c7 at bD;split at bD;.exact bD
   unfold jB at bD;split at bD
   .split at bD;.obtain⟨_,_,_,_,_,_,⟨r,rfl⟩,_,q⟩:=bD;exact q r rfl
    exact bD
   exact bD
  |some b=>
   cases b with
   |false=>
    simp only[yA]at bD;show er P T G all x K (σ.put y.dst (.d (.val (.tuple #[]))));rw[hs];have:jN all (σ.put y.dst (.d (.val (.tuple #[])))) x=some true:=by rw[oF cx];exact ah
    simp only[this];rw[jC cx oH];exact bD
   |true=>simp only[yA]at bD;have ae:=aiV au ba cx a1 bD;show c7 P T G y (λfT=>er P T G all x K fT) σ;refine wC (λobjs r al=>?_) ae;rw[hs,q8,ah];exact al
 .rename_i ah;rw[hs,oF au]at h;rw[hs];split at h
  .rename_i aK
   try simp only[aK]
   rw[jC au ba]at h;refine wC (λobjs r al=>?_) h;rw[hs,q8,ah];exact al
  .rename_i aK
   try simp only[aK]
   show er P T G all x K (σ.put y.dst (.d (.val (.tuple #[]))));rw[hs,oF cx,ah];show K _;rw[put_comm oH];exact h
  exact h.elim
 exact h.elim
def hK(P:Program)(T:cd)(G:df)(all:Array Oper)(i:Nat)(K:aF->Prop)(σ:aF):Prop:=match all[i]? with|none=>K σ|some o=>er P T G all o K σ
def wD{i:Nat}{σ:aF}{K K':aF->Prop}(al:∀σ,K σ->K' σ)(h:hK P T G all i K σ):hK P T G all i K' σ:=by
 unfold hK at*;split;.rename_i e;simp only[e]at h;exact al _ h
 rename_i o e;simp only[e]at h;exact EJ al h
def jl(P:Program)(T:cd)(G:df)(all:Array Oper)(K:aF->Prop):Nat->Array Bool->aF->Prop
 |0,listed,σ=>Region.ready .any all listed=[]/\K σ|fuel+1,listed,σ=>(Region.ready .any all listed=[]->K σ)/\∀i∈Region.ready .any all listed,hK P T G all i (jl P T G all K fuel (listed.setIfInBounds i true)) σ
def Pq{K:aF->Prop}{i:Nat}{fc:Oper}(aj:all[i]?=some fc){B:List Nat}(gN:∀j c3,j∈B->all[j]?=some c3->∃e∈c3.after,Region.binds .any e=true/\(e.on=i\/e.on∈B)):∀(fuel:Nat)(listed:Array Bool)(σ:aF),(∀j,j∈B->listed.getD j true=false)->(∀j c3,all[j]?=some c3->j≠i->listed.getD j true=false->j∉B->fc.apart all c3=true/\yB T fc c3=true)->i∈Region.ready .any all listed->(¬∃aX,K aX)\/True->hK P T G all i (jl P T G all K fuel (listed.setIfInBounds i true)) σ->jl P T G all K (fuel+1) listed σ:=by
 intro fuel
 induction fuel with
 |zero=>
  intro listed σ q9 oI aw _ H;refine⟨λh=>(by rw[h]at aw;cases aw),λj aI=>?_⟩;by_cases jm:j=i;.subst jm;exact H
  have hm:=ready_mono aI jm;exfalso;have key:Region.ready .any all (listed.setIfInBounds i true)=[]:=by
   unfold hK at H;simp only[aj]at H;rw[hs]at H;split at H
   .unfold c7 at H;split at H;.exact H.1
    unfold jB at H;split at H
    .split at H;.obtain⟨_,_,_,_,_,_,⟨r,mC⟩,_,q⟩:=H;exact(q r (by rw[mC])).1
     exact H.elim
    exact H.elim
   .exact H.1
   exact H.elim
  rw[key]at hm;cases hm
 |succ fuel ih=>
  intro listed σ q9 oI aw _ H;refine⟨λh=>(by rw[h]at aw;cases aw),λj aI=>?_⟩;by_cases jm:j=i;.subst jm;exact H
  obtain⟨wE,c3,jn,gq⟩:=xbJ.1 aI;have uh:∀k,listed.getD k true=false->listed[k]?.getD false=true->False:=λk ar aa=>by
   rcases Nat.lt_or_ge k listed.size with bD|bD;.simp[bD]at ar aa;rw[ar]at aa;cases aa
   simp[Array.getElem?_eq_none bD]at aa
  have wF:j∉B:=λEM=>by
   obtain⟨e,he,ao,mD⟩:=gN j c3 EM jn;have aa:=gq e he ao;rcases mD with mD|mD
   .rw[mD]at aa;exact uh i (xbJ.1 aw).1 (by simpa using aa)
   exact uh _ (q9 _ mD) (by simpa using aa)
  obtain⟨eQ,ez⟩:=oI j c3 jn jm wE wF;have aa:hK P T G all i (λgv=>hK P T G all j (jl P T G all K fuel ((listed.setIfInBounds i true).setIfInBounds j true)) gv) σ:=wD (λgv ur=>ur.2 j (ready_mono aI jm)) H;have ae:hK P T G all j (λfT=>hK P T G all i (jl P T G all K fuel ((listed.setIfInBounds i true).setIfInBounds j true)) fT) σ:=by unfold hK at aa⊢;simp only[aj,jn]at aa⊢;exact swapT eQ ez aa
  have EN:∀k ok,all[k]?=some ok->k≠i->(listed.setIfInBounds j true).getD k true=false->k∉B->fc.apart all ok=true/\yB T fc ok=true:=λk ok al ra oJ h6=>by
   refine oI k ok al ra ?_ h6;by_cases gu:j=k;.subst gu;exact wE
   rw[getD_set_ne true gu]at oJ;exact oJ
  refine wD (λfT ay=>ih (listed.setIfInBounds j true) fT (λk al=>by
   have gu:j≠k:=by rintro rfl;exact wF al
   rw[getD_set_ne true gu];exact q9 k al) EN (ready_mono aw (Ne.symm jm)) (.inr trivial) ?_) ae
  rw[Array.setIfInBounds_comm _ _ jm];exact ay
def aiW{K:aF->Prop}{i:Nat}{fc:Oper}(aj:all[i]?=some fc){B:List Nat}(gN:∀j c3,j∈B->all[j]?=some c3->∃e∈c3.after,Region.binds .any e=true/\(e.on=i\/e.on∈B))(fuel:Nat)(listed:Array Bool)(σ:aF) (ar:∀j,j∈B->listed.getD j true=false) (a8:∀j c3,all[j]?=some c3->j≠i->listed.getD j true=false->j∉B->fc.apart all c3=true/\pass fc c3=true) (aw:i∈Region.ready .any all listed) (ah:(¬∃aX,K aX)\/True) (h:hK P T G all i (jl P T G all K fuel (listed.setIfInBounds i true)) σ):jl P T G all K (fuel+1) listed σ:=Pq aj gN fuel listed σ ar (λj c3 a b c d=>⟨(a8 j c3 a b c d).1,by unfold yB;rw[(a8 j c3 a b c d).2];rfl⟩) aw ah h
def waits(all:Array Oper)(i:Nat):List Nat:=(List.range all.size).foldl (λacc j=>match all[j]? with
  |some c3=>if c3.after.any (λe=>Region.binds .any e&&(e.on==i||acc.contains e.on))then acc++[j]else acc
  |none=>acc) []
def Km(p:Oper->Oper->Bool)(all:Array Oper)(listed:Array Bool)(i:Nat)(B:List Nat):Bool:=match all[i]? with|none=>false|some fc=>(B.all λj=>!listed.getD j true&&match all[j]? with|some c3=>c3.after.any λe=>Region.binds .any e&&(e.on==i||B.contains e.on)|none=>false)&&(List.range all.size).all λj=>j==i||listed.getD j true||B.contains j||match all[j]? with|some c3=>fc.apart all c3&&p fc c3|none=>true
def XC(all:Array Oper)(listed:Array Bool)(i:Nat)(B:List Nat):Bool:=Km pass all listed i B
def aiX(all:Array Oper)(listed:Array Bool)(i:Nat):Bool:=XC all listed i (waits all i)
def XD(T:cd)(all:Array Oper)(listed:Array Bool)(i:Nat):Bool:=Km (yB T) all listed i (waits all i)
def Pr{p:Oper->Oper->Bool}{i:Nat}{fc:Oper}{listed:Array Bool}(aj:all[i]?=some fc){B:List Nat}(h:Km p all listed i B=true):(∀j c3,j∈B->all[j]?=some c3->∃e∈c3.after,Region.binds .any e=true/\(e.on=i\/e.on∈B))/\(∀j,j∈B->listed.getD j true=false)/\ ∀j c3,all[j]?=some c3->j≠i->listed.getD j true=false->j∉B->fc.apart all c3=true/\p fc c3=true:=by
 simp only[Km,aj,xak,xas,xbI]at h;refine⟨λj c3 aI jn=>?_,λj aI=>by simpa using(h.1 j aI).1,λj c3 jn cv oJ h6=>?_⟩;.have aa:=(h.1 j aI).2;simp only[jn]at aa;obtain⟨e,he,ao⟩:=Array.any_eq_true'.1 aa;simp only[xak,xbb,xbF,List.contains_iff_mem]at ao;exact⟨e,he,ao.1,ao.2⟩
 have aa:=h.2 j (xaT.1 jn).1;simp only[jn,xbb,xbF,cv,false_or,oJ,xan,xak,List.contains_iff_mem,h6]at aa;exact aa
def aiY{i:Nat}{fc:Oper}{listed:Array Bool}(aj:all[i]?=some fc){B:List Nat}(h:XC all listed i B=true):(∀j c3,j∈B->all[j]?=some c3->∃e∈c3.after,Region.binds .any e=true/\(e.on=i\/e.on∈B))/\(∀j,j∈B->listed.getD j true=false)/\ ∀j c3,all[j]?=some c3->j≠i->listed.getD j true=false->j∉B->fc.apart all c3=true/\pass fc c3=true:=Pr aj h
def yC(T:cd)(all:Array Oper):List Nat->Array Bool->Bool
 |[],listed=>(Region.ready .any all listed).isEmpty|i::r,listed=>(Region.ready .any all listed).contains i&&XD T all listed i&&yC T all r (listed.setIfInBounds i true)
def BL(P:Program)(T:cd)(G:df)(all:Array Oper):List Nat->(aF->Prop)->aF->Prop
 |[],K,σ=>K σ|i::r,K,σ=>match all[i]? with|some o=>er P T G all o (BL P T G all r K) σ|none=>False
def XE{K:aF->Prop}:∀(ord:List Nat)(listed:Array Bool)(σ:aF),yC T all ord listed=true->BL P T G all ord K σ->jl P T G all K ord.length listed σ
 |[],listed,σ,gN,h=>⟨by simpa[yC]using gN,h⟩
 |i::r,listed,σ,gN,h=>by
  simp only[yC,xak]at gN;obtain⟨⟨aw,a8⟩,uu⟩:=gN;unfold BL at h;split at h
  case h_2=>cases h
  rename_i o aj;obtain⟨bV,bN,cC⟩:=Pr aj a8;refine Pq aj bV r.length listed σ bN cC (by simpa using aw) (.inr trivial) ?_;unfold hK;simp only[aj];exact EJ (λaX ur=>XE r _ aX uu ur) h
def Ps{m:Mem}{fr:fz}{N:Nat}(bb:dR P T){K:aF->Prop}{Q:Exit->Act->World->Prop}(gj:∀o∈all,∀d,o.dst=some d->d<N):∀(fuel:Nat)(listed:Array Bool)(m:Mem)(ρ:da)(σ:aF)(a:Act)(w:World),kk G m->Den m fr ρ σ a w->N<=a.tmps.size->a.defers=[]->jl P T G all K fuel listed σ->(∀cK w',iZ N m fr ρ σ K cK w'->Q .normal cK w')->wpAny P .any all Q fuel listed a w
 |0,listed,m,ρ,σ,a,w,c0,h,ca,hi,aN,hP=>⟨aN.1,hP a w ⟨σ,m,ρ,aN.2,Mem.le_refl m,h,ca,hi,kK.refl _ _⟩⟩|fuel+1,listed,m,ρ,σ,a,w,c0,h,ca,hi,aN,hP=>by refine⟨λar=>hP a w ⟨σ,m,ρ,aN.1 ar,Mem.le_refl m,h,ca,hi,kK.refl _ _⟩,λi aj=>?_⟩;have aa:=aN.2 i aj;obtain⟨_,o,aL,_⟩:=xbJ.1 aj;unfold hK at aa;simp only[aL]at aa;refine wpOp_mono ?_ (Pj bb c0 h ca hi aL (gj o (Array.mem_of_getElem? aL)) aa);rintro cK w' ⟨aX,cH,cT,bV,bN,cC,dK,et,fi⟩;refine Ps (m:=m) bb gj fuel _ cH cT aX cK w' (c0.mono bN) cC dK et bV ?_;rintro ps kL ⟨rb,yD,yE,eQ,ez,ho,sH,wG,wH⟩;exact hP ps kL ⟨rb,yD,yE,eQ,Mem.le_trans bN ez,ho,sH,wG,fi.trans wH⟩
end
def gU(σ τ:aF):Prop:=∀m fr ρ a w,Den m fr ρ σ a w->∃cH cT,m.le cH/\Den cH fr cT τ a w/\kK σ ρ τ cT
def gU.refl(σ:aF):gU σ σ:=λm fr ρ a w h=>⟨m,ρ,Mem.le_refl m,h,kK.refl _ _⟩
def gU.trans{σ τ yG:aF}(h:gU σ τ)(bD:gU τ yG):gU σ yG:=λm fr ρ a w cU=>
 let⟨gO,m4,aa,ae,ay⟩:=h m fr ρ a w cU
 let⟨lu,k1,a7,bZ,cG⟩:=bD gO fr m4 a w ae
 ⟨lu,k1,Mem.le_trans aa a7,bZ,ay.trans cG⟩
def hc(P:Program)(T:cd)(G:df)(N:Nat)(c:Code)(σ:aF)(Q:Exit->aF->Prop):Prop:= ∀m fr ρ a w,kk G m->Den m fr ρ σ a w->N<=a.tmps.size->a.defers=[]->c.wp P (λe cK w'=>iZ N m fr ρ σ (Q e) cK w') a w
def Kn(K:aF->Prop)(Q:Exit->aF->Prop):Exit->aF->Prop
 | .normal,σ=>K σ|e,σ=>Q e σ
def EO(id:Nat)(Q:Exit->aF->Prop):Exit->aF->Prop
 | .exit uv,σ=>if uv=id then Q .normal σ else Q (.exit uv) σ
 |e,σ=>Q e σ
section
variable{P:Program}{T:cd}{G:df}{N:Nat}{σ:aF}{Q:Exit->aF->Prop}
def iZ.mono{m:Mem}{fr:fz}{ρ:da}{K K':aF->Prop}(al:∀σ,K σ->K' σ){a:Act}{w:World}(h:iZ N m fr ρ σ K a w):iZ N m fr ρ σ K' a w:=
 let⟨aX,cH,cT,aa,ae⟩:=h;⟨aX,cH,cT,al _ aa,ae⟩
def BM{c:Code}{XF:Exit->aF->Prop}(h:hc P T G N c σ Q)(bQ:∀e σ,Q e σ->XF e σ):hc P T G N c σ XF:=λm fr ρ a w c0 cU ca aA=>wp_mono (h m fr ρ a w c0 cU ca aA) λe cK w' aw=>aw.mono (bQ e)
def aiZ(h:Q .normal σ):hc P T G N .skip σ Q:=λm fr ρ a w c0 cU ca aA=>wp_skip ⟨σ,m,ρ,h,Mem.le_refl m,cU,ca,aA,kK.refl _ _⟩
def ai0{l:Nat}(h:Q .normal σ):hc P T G N (.label l) σ Q:=λm fr ρ a w c0 cU ca aA=>wp_label ⟨σ,m,ρ,h,Mem.le_refl m,cU,ca,aA,kK.refl _ _⟩
def ai1{id:Nat}(h:Q (.exit id) σ):hc P T G N (.exit id) σ Q:=λm fr ρ a w c0 cU ca aA=>wp_exit ⟨σ,m,ρ,h,Mem.le_refl m,cU,ca,aA,kK.refl _ _⟩
def ai2(h:Q .ret σ):hc P T G N .ret σ Q:=λm fr ρ a w c0 cU ca aA=>wp_ret ⟨σ,m,ρ,h,Mem.le_refl m,cU,ca,aA,kK.refl _ _⟩
def iZ.trans{m gO:Mem}{fr:fz}{ρ m4:da}{gv:aF}{K:aF->Prop}{a:Act}{w:World}(hm:m.le gO)(al:kK σ ρ gv m4)(h:iZ N gO fr m4 gv K a w):iZ N m fr ρ σ K a w:=
 let⟨aX,cH,cT,aa,ae,ay,a7,bZ,cG⟩:=h;⟨aX,cH,cT,aa,Mem.le_trans hm ae,ay,a7,bZ,al.trans cG⟩
def ai3{x y:Code}(h:hc P T G N x σ (Kn (λaX=>hc P T G N y aX Q) Q)):hc P T G N (.seq x y) σ Q:=by intro m fr ρ a w c0 cU ca aA;refine wp_seq (wp_mono (h m fr ρ a w c0 cU ca aA) ?_);rintro e cK w' ⟨aX,cH,cT,aa,ae,ay,a7,bZ,cG⟩;cases e with|normal=>exact wp_mono (aa cH fr cT cK w' (c0.mono ae) ay a7 bZ) λe ps kL aw=>aw.trans ae cG|exit id=>exact⟨aX,cH,cT,aa,ae,ay,a7,bZ,cG⟩|goto l=>exact⟨aX,cH,cT,aa,ae,ay,a7,bZ,cG⟩|ret=>exact⟨aX,cH,cT,aa,ae,ay,a7,bZ,cG⟩|panic c=>exact⟨aX,cH,cT,aa,ae,ay,a7,bZ,cG⟩|outgrown=>exact⟨aX,cH,cT,aa,ae,ay,a7,bZ,cG⟩
def ai4(Q:Exit->aF->Prop):Exit->aF->Prop
 | .goto _,_=>False|e,σ=>Q e σ
def ai5{c:Code}(h:hc P T G N c σ (ai4 Q)):hc P T G N (.scope c) σ Q:=by intro m fr ρ a w c0 cU ca aA;refine wp_scope_straight (wp_mono (h m fr ρ a w c0 cU ca aA) ?_);rintro e cK w' ⟨aX,cH,cT,aa,ae,ay,a7,bZ,cG⟩;cases e with|goto l=>exact aa.elim|normal=>exact⟨aX,cH,cT,aa,ae,ay,a7,bZ,cG⟩|exit id=>exact⟨aX,cH,cT,aa,ae,ay,a7,bZ,cG⟩|ret=>exact⟨aX,cH,cT,aa,ae,ay,a7,bZ,cG⟩|panic c=>exact⟨aX,cH,cT,aa,ae,ay,a7,bZ,cG⟩|outgrown=>exact⟨aX,cH,cT,aa,ae,ay,a7,bZ,cG⟩
def Ko{c:Operand}{x y:Code}{b:Bool}(an:b7 G σ.aH c= .d (.val (.bool b)))(h:if b=true then hc P T G N x σ Q else hc P T G N y σ Q):hc P T G N (.cond c x y) σ Q:=by
 intro m fr ρ a w c0 cU ca aA;have aN:=Eg (a:=a) c0 cU.aH c;rw[an]at aN;refine wp_cond aN.hp ?_;cases b
 .exact h m fr ρ a w c0 cU ca aA
 exact h m fr ρ a w c0 cU ca aA
def ai6{id:Nat}{c:Code}(h:hc P T G N c σ (EO id Q)):hc P T G N (.block id c) σ Q:=by
 intro m fr ρ a w c0 cU ca aA;refine wp_block (wp_mono (h m fr ρ a w c0 cU ca aA) ?_);intro e cK w' aw;cases e with
 |exit uv=>
  simp only[Exit.inBlock];by_cases aj:uv=id;.rw[xaa aj];exact aw.mono λσ bQ=>by simp only[EO,aj,xav]at bQ;exact bQ
  rw[xac aj];exact aw.mono λσ bQ=>by simp only[EO,aj,xaz]at bQ;exact bQ
 |normal=>exact aw|goto l=>exact aw|ret=>exact aw|panic c=>exact aw|outgrown=>exact aw
def Pt{τ:aF}{c:Code}(he:gU σ τ)(h:hc P T G N c τ Q):hc P T G N c σ Q:=by intro m fr ρ a w c0 cU ca aA;obtain⟨cH,cT,aa,ae,ay⟩:=he m fr ρ a w cU;exact wp_mono (h cH fr cT a w (c0.mono aa) ae ca aA) λe cK w' aw=>aw.trans aa ay
def wI(N:Nat)(ops:Array Oper):Bool:=ops.toList.all λo=>match o.dst with|some d=>decide (d<N)|none=>true
def wJ{ops:Array Oper}(h:wI N ops=true):∀o∈ops,∀d,o.dst=some d->d<N:=by intro o aL d aA;have:=xas.1 h o (by simpa using aL);simp only[aA]at this;simpa using this
theorem Den.drew{m:Mem}{fr:fz}{ρ:da}{a:Act}{w:World}(h:Den m fr ρ σ a w)(n:Nat):Den m fr ρ σ a {w with drawn:=n}:=by refine⟨h.mem,⟨h.frame.p5,h.frame.quiet.same rfl rfl rfl⟩,h.apart,h.one,h.aH,?_,h.own,h.sep⟩;intro k o al;exact(h.objs k o al).mono (Mem.le_refl m) (λ_ hu=>⟨hu,rfl⟩) (λb _ _=>rfl)
def ai7(bb:dR P T)(hm:P.follows .mixedOrders=true){id:Nat}{ops:Array Oper}(ca:wI N ops=true)(ord:List Nat)(bB:ord.length=ops.size)(BN:yC T ops ord (Array.replicate ops.size false)=true) (h:BL P T G ops ord (Q .normal) σ):hc P T G N (.region id ops true) σ Q:=by intro m fr ρ a w c0 cU nI aA;refine wp_region_any hm ?_;have aa:=XE ord (Array.replicate ops.size false) σ BN h;rw[bB]at aa;exact Ps (m:=m) (fr:=fr) (N:=N) (Q:=λe cK w'=>iZ N m fr ρ σ (Q e) cK w') bb (wJ ca) ops.size _ m ρ σ a _ c0 (cU.drew _) nI aA aa (λcK w' aw=>aw)
def ai8{ι:Type}{c:Code}{Q:Exit->Act->World->Prop}{a:Act}{w:World}(gA:ι->Act->World->Prop)(wK:ι->Nat)(i0:ι)(ai9:gA i0 a w) (round:∀i a w,gA i a w->c.wp P (Exit.then (λcK w'=>∃j,gA j cK w'/\wK j<wK i) Q) a w):(Code.loop c).wp P Q a w:=by
 intro b k cs;have key:∀n i a w,wK i=n->gA i a w->∃e cK w',Q e cK w'/\Arrives P (lone (b.at a (.code c:: .inLoop c::k)) cs w) b k cs e cK w':=by
  intro n
  induction n using Nat.strongRecOn with
  |_ n ih=>
   intro i a w aM fC;obtain⟨e,BO,BP,bQ,wL⟩:=round i a w fC b (.inLoop c::k) cs;cases e with
   |normal=>obtain⟨j,aja,b5⟩:=bQ;obtain⟨ajb,ajc,ajd,aje,ajf⟩:=ih (wK j) (aM▸b5) j BO BP rfl aja;exact⟨ajb,ajc,ajd,aje,.of_steps (Steps.trans wL (.one step_inLoop)) ajf⟩
   |exit id=>exact⟨_,BO,BP,bQ,.pass (x:= .inLoop c) rfl (λ_ _=> .inl (by simp)) wL⟩|goto l=>exact⟨_,BO,BP,bQ,.pass (x:= .inLoop c) rfl (λ_ _=> .inl (by simp)) wL⟩|ret=>exact⟨_,BO,BP,bQ,.pass (x:= .inLoop c) rfl (λ_ _=> .inl (by simp)) wL⟩|panic aCb=>exact⟨_,BO,BP,bQ,.pass (x:= .inLoop c) rfl (λ_ _=> .inl (by simp)) wL⟩|outgrown=>exact⟨_,BO,BP,bQ,.pass (x:= .inLoop c) rfl (λ_ _=> .inl (by simp)) wL⟩
 obtain⟨e,cK,w',bQ,wL⟩:=key _ i0 a w rfl ai9;exact⟨e,cK,w',bQ,.of_steps (.one step_loop) wL⟩
def ajg{ι:Type}{c:Code}(gA:ι->aF)(wK:ι->Nat)(i0:ι)(ar:gU σ (gA i0)) (round:∀i,hc P T G N c (gA i) (Kn (λaX=>∃j,gU aX (gA j)/\wK j<wK i) Q)):hc P T G N (.loop c) σ Q:=by
 intro m fr ρ a w c0 cU ca aA;refine ai8 (λi a w=>∃gO m4,m.le gO/\Den gO fr m4 (gA i) a w/\N<=a.tmps.size/\a.defers=[]/\kK σ ρ (gA i) m4) wK i0 ?_ ?_;.obtain⟨cH,cT,aa,ae,ay⟩:=ar m fr ρ a w cU;exact⟨cH,cT,aa,ae,ca,aA,ay⟩
 rintro i au dX ⟨gO,m4,a9,bk,b1,eU,h7⟩;refine wp_mono (round i gO fr m4 au dX (c0.mono a9) bk b1 eU) ?_;intro e cK w' aw;have mC:=aw.trans a9 h7;cases e with
 |normal=>obtain⟨aX,cH,cT,⟨j,aI,b5⟩,ae,ay,a7,bZ,cG⟩:=mC;obtain⟨lu,k1,bV,bN,cC⟩:=aI cH fr cT cK w' ay;exact⟨j,⟨lu,k1,Mem.le_trans ae bV,bN,a7,bZ,cG.trans cC⟩,b5⟩
 |exit id=>exact mC|goto l=>exact mC|ret=>exact mC|panic c=>exact mC|outgrown=>exact mC
def yH(T:cd)(σ:aF):ResultVar->Option aS
 | .tmp t=>some (σ.aH t)
 | .cell a t=>match T t,σ.aH a with
  |some i,.ptr k off=>match σ.objs k with|some (.box cells)=>wb i cells off|_=>none
  |_,_=>none
def sI(T:cd)(σ:aF)(rs:List ResultVar):Option aS:=match hh (rs.map (yH T σ))with|some [x]=>some x|some l=>some (.aR l)|none=>none
def ajh(bb:dR P T){m:Mem}{fr:fz}{ρ:da}{a:Act}{w:World}(h:Den m fr ρ σ a w){wM:ResultVar}{x:aS}(ah:yH T σ wM=some x): ∃v,((match wM with| .tmp t=>pure (a.tmps.getD t undef)| .cell ir t=>do loadVar t (<-asAddr (a.tmps.getD ir undef)):Sem Value)).run P w= .ok v w/\b3 m ρ σ.used x v:=by
 cases wM with
 |tmp t=>simp only[yH,xay]at ah;subst ah;exact⟨_,rfl,h.aH t⟩
 |cell ir t=>
  simp only[yH]at ah;split at ah
  case h_2=>cases ah
  rename_i i k off aJ aE;split at ah
  case h_2=>cases ah
  rename_i cells al;have aG:=h.aH ir;rw[aE]at aG;generalize yi:a.tmps.getD ir undef=u at aG;cases aG with|ptr _ _ b hu aw=>
  obtain⟨b',vs,dL,aP,a2,bS,cS⟩:=h.objs _ _ al;rw[aw]at aP;cases aP;obtain⟨v,fp,fh⟩:=Wz (P:=P) bb aJ a2 ⟨bS,cS⟩ ah;exact⟨v,by simp only[yi,asAddr,xah,xau,xaf,fp],fh⟩
def XG(bb:dR P T){m:Mem}{fr:fz}{ρ:da}{a:Act}{w:World}(h:Den m fr ρ σ a w):∀(rs:List ResultVar)(xs:List aS),hh (rs.map (yH T σ))=some xs-> ∃vs:List Value,(rs.mapM λ
   | .tmp t=>pure (a.tmps.getD t undef)| .cell ir t=>do loadVar t (<-asAddr (a.tmps.getD ir undef)):Sem (List Value)).run P w= .ok vs w/\vs.length=xs.length/\∀(i:Nat)(x:aS)(v:Value),xs[i]?=some x->vs[i]?=some v->b3 m ρ σ.used x v
 |[],xs,ah=>by simp[hh]at ah;subst ah;exact⟨[],by simp,rfl,by simp⟩
 |wM::rs,xs,ah=>by
  simp only[xaA]at ah;cases aa:yH T σ wM with
  |none=>simp[aa,hh]at ah
  |some x=>
   rw[aa]at ah;simp only[hh]at ah;split at ah
   case h_2=>cases ah
   rename_i l aq;cases ah;obtain⟨v,fp,fh⟩:=ajh (P:=P) bb h aa;obtain⟨vs,j5,XH,XI⟩:=XG bb h rs l aq;refine⟨v::vs,?_,by simp[XH],?_⟩;.simp only[List.mapM_cons,xah,fp,j5,xaf,xau]
   intro i y u aK hu;cases i with|zero=>simp at aK hu;subst aK;subst hu;exact fh|succ i=>exact XI i y u (by simpa using aK) (by simpa using hu)
def XJ(bb:dR P T){m:Mem}{fr:fz}{ρ:da}{a:Act}{w:World}(h:Den m fr ρ σ a w){fn:Func}{x:aS}(ah:sI T σ fn.results.toList=some x): ∃v,(results fn a.tmps).run P w= .ok v w/\b3 m ρ σ.used x v:=by
 unfold sI at ah;cases aq:hh (fn.results.toList.map (yH T σ))with
 |none=>simp[aq]at ah
 |some xs=>
  obtain⟨vs,fp,fh,j5⟩:=XG (P:=P) bb h fn.results.toList xs aq;have hJ:((fn.results.mapM λ
   | .tmp t=>pure (a.tmps.getD t undef)| .cell ir t=>do loadVar t (<-asAddr (a.tmps.getD ir undef)):Sem (Array Value))).run P w= .ok vs.toArray w:=by
   rw[Array.mapM_eq_mapM_toList,Sem.run_map,fp];rfl
  have uw:(results fn a.tmps).run P w= .ok (if h:vs.toArray.size=1 then vs.toArray[0]else .tuple vs.toArray) w:=by unfold results;rw[xah];exact(congrArg (λr=>Result.andThen r _) hJ).trans rfl
  rw[uw];rw[aq]at ah;split at ah
  .rename_i y he;cases ah;cases he
   match vs,fh,j5 with|[v],_,j5=>exact⟨v,by simp,j5 0 _ _ rfl rfl⟩
  .rename_i l cv he;cases ah;cases he;have gT:vs.toArray.size≠1:=by
    intro aa;have:xs.length=1:=by rw[<-fh];simpa using aa
    obtain⟨y,aK⟩:=List.length_eq_one_iff.1 this;exact cv y aK
   refine⟨.tuple vs.toArray,?_,.aR _ _ (by simpa using fh) (λi c v an aN=>j5 i c v an (by simpa using aN))⟩;rw[dif_neg gT]
  cases ah
def start(args:List aS)(E:cw):aF:=⟨λt=>args.getD t .any,E⟩
def aji(bb:dR P T){f:FuncId}{fn:Func}{c:Code}{aO:List D}{e8:D->Prop}(a8:P.funcs[f]?=some fn)(ao:fn.body=some c)(Kp:(fn.name== "runtime.NumGoroutine")=false)(bB:aO.length<=fn.ntmps) (h:hc P T G fn.ntmps c (start (aO.map .d) λ_=>none) λe aX=>(e= .normal\/e= .ret)/\∃r d x,sI T aX fn.results.toList=some r/\toD aX.objs r=some d/\d.le x/\e8 x):fb P G f aO e8:=by
 refine⟨⟨fn,a8,Kp,by rw[ao];rfl⟩,?_⟩;intro m fr w vs c0 dD cU;refine calls_of_wp a8 ao ?_;have EP:Den m fr (λ_=>undef) (start (aO.map .d) λ_=>none) {tmps:=vs.toArray++Array.replicate (fn.ntmps-vs.toArray.size) undef,defers:=[]} w:=by
  refine⟨dD.mem,dD.frame,dD.apart,?_,?_,?_,?_,?_⟩;.rintro k ⟨o,aL⟩;cases aL
  .intro t;simp only[start];by_cases aJ:t<vs.length
   .have b5:t<aO.length:=by rw[<-cU.1];exact aJ
    have aA:=xab b5;have aN:=xab aJ;have aP:(aO.map aS.d).getD t .any= .d aO[t]:=by rw[xbd,xai,aA];rfl
    have a2:(vs.toArray++Array.replicate (fn.ntmps-vs.toArray.size) undef).getD t undef=vs[t]:=by rw[xby,xbG (by simpa using aJ)];simp[aJ]
    rw[aP,a2];exact .d _ _ (cU.2 t _ _ aA aN)
   have aP:(aO.map aS.d).getD t .any= .any:=by rw[xbd,xaZ (by simp;rw[<-cU.1];omega)];rfl
   rw[aP];exact .any _
  .intro k o al;cases al
  .intro k o b al;cases al
  intro k br o o' b _ al;cases al
 have gT:fn.ntmps<=(vs.toArray++Array.replicate (fn.ntmps-vs.toArray.size) undef).size:=by simp;omega
 refine wp_mono (h m fr _ _ w c0 EP gT rfl) ?_;rintro e cK w' ⟨aX,cH,cT,⟨he,r,d,x,aa,ae,ay,a7⟩,bZ,cG,e7,hd,h8⟩;obtain⟨v,bV,bN⟩:=XJ (P:=P) bb cG aa;have cC:=ay _ _ (W8 cG bN ae);have fin:cK.defers=[]/\∃v,(results fn cK.tmps).run P w'= .ok v w'/\∃v1 gO fp,Ending.returned v= .returned v1/\e8 fp/\m.le gO/\sC gO fr w'/\di gO fp v1:=⟨hd,v,bV,v,Den.all cH cT aX.objs w',x,rfl,a7,Mem.le_trans bZ (Den.BC _ _ _ _),cG.W5,cC⟩;rcases he with rfl|rfl
 .exact fin
 exact fin
end
def ER:List aS->Option (List D)
 |[]=>some []| .d x::r=>(ER r).map (x::·)|_=>none
def Kq:aS->Option D
 | .d x=>some x| .agg cs=>(ER cs).map .agg| .aR cs=>(ER cs).map .aR|_=>none
def XK:∀{cs:List aS}{aO:List D},ER cs=some aO->cs=aO.map .d
 |[],aO,h=>by cases h;rfl
 | .d x::r,aO,h=>by obtain⟨l,aq,rfl⟩:=xag.1 h;rw[XK aq];rfl
 | .any::_,_,h=>by cases h
 | .agg _::_,_,h=>by cases h
 | .aR _::_,_,h=>by cases h
 | .dV _ _::_,_,h=>by cases h
 | .ptr _ _::_,_,h=>by cases h
 | .gp _ _ _ _::_,_,h=>by cases h
 | .row _::_,_,h=>by cases h
 | .sub _ _ _ _::_,_,h=>by cases h
 | .map _::_,_,h=>by cases h
 | .fn _ _ _::_,_,h=>by cases h
def ajj{m:Mem}{ρ:da}{U:Key->Prop}{x:aS}{a:D}{v:Value}(h:Kq x=some a)(ah:b3 m ρ U x v):di m a v:=by
 have part:∀{cs:List aS}{aO:List D}{vs:Array Value},ER cs=some aO->vs.size=cs.length->(∀(i:Nat)(c:aS)(v:Value),cs[i]?=some c->vs[i]?=some v->b3 m ρ U c v)->vs.size=aO.length/\∀(i:Nat)(c:D)(v:Value),aO[i]?=some c->vs[i]?=some v->di m c v:=by intro cs aO vs aA aq an;have e:=XK aA;subst e;refine⟨by simpa using aq,λi c v aa ae=>?_⟩;have:=an i (.d c) v (by simp[aa]) ae;cases this with|d _ _ h=>exact h
 unfold Kq at h;split at h;.cases h;cases ah with|d _ _ h=>exact h
 .obtain⟨aO,aA,rfl⟩:=xag.1 h;cases ah with|agg _ vs aq an=>exact .agg _ _ (part aA aq an).1 (part aA aq an).2
 .obtain⟨aO,aA,rfl⟩:=xag.1 h;cases ah with|aR _ vs aq an=>exact .aR _ _ (part aA aq an).1 (part aA aq an).2
 cases h
def pt(cf:Key->Key)(U:Key->Prop)(x y:aS):Prop:=match y with| .any=>True| .d b=>∃a,Kq x=some a/\a.le b| .dV cs off=>x= .dV cs off\/x= .d (.ref cs off)| .ptr k off=>x= .ptr (cf k) off/\U k| .gp k cN i off=>x= .gp (cf k) cN i off/\U k| .row k=>x= .row (cf k)/\U k| .sub k cN i len=>x= .sub (cf k) cN i len/\U k| .map k=>x= .map (cf k)/\U k|_=>False
def jD(cf:Key->Key)(U:Key->Prop):List aS->List aS->Prop
 |[],[]=>True|x::xs,y::cY=>pt cf U x y/\jD cf U xs cY|_,_=>False
def ux(cf:Key->Key)(U:Key->Prop)(x y:aS):Prop:=match y with
 | .agg cY=>match x with| .agg xs=>jD cf U xs cY| .d (.agg aO)=>jD cf U (aO.map .d) cY|_=>False
 | .aR cY=>match x with| .aR xs=>jD cf U xs cY|_=>False
 | .fn f as jj=>match x with| .fn kn ajk ajl=>f=kn/\jD cf U ajk as/\jD cf U ajl jj|_=>False
 |y=>pt cf U x y
def sJ(cf:Key->Key)(U:Key->Prop):List aS->List aS->Prop
 |[],[]=>True|x::xs,y::cY=>ux cf U x y/\sJ cf U xs cY|_,_=>False
section
variable{m:Mem}{ρ:da}{qi U:Key->Prop}{cf:Key->Key}
def pt.ok{x y:aS}(h:pt cf U x y){v:Value}(ah:b3 m ρ qi x v):b3 m (λk=>ρ (cf k)) U y v:=by
 unfold pt at h;split at h;.exact .any _
 .obtain⟨a,aG,hle⟩:=h;exact .d _ _ (hle _ _ (ajj aG ah))
 .rcases h with rfl|rfl;.cases ah with|dV _ _ b o vs T en hm xs aa ae=>exact .dV _ _ b o vs T en hm xs aa ae
  cases ah.oz with|ref _ _ b o vs T en hm xs aa ae=>exact .dV _ _ b o vs T en hm xs aa ae
 .obtain⟨rfl,hu⟩:=h;cases ah with|ptr _ _ b _ aw=>exact .ptr _ _ b hu aw
 .obtain⟨rfl,hu⟩:=h;cases ah with|gp _ _ _ _ b o len cap _ aw=>exact .gp _ _ _ _ b o len cap hu aw
 .obtain⟨rfl,hu⟩:=h;cases ah;exact .row (ρ:=λk=>ρ (cf k)) _ hu
 .obtain⟨rfl,hu⟩:=h;cases ah with|sub _ _ _ _ b o L cap a _ aw hle aG=>exact .sub _ _ _ _ b o L cap a hu aw hle aG|jM _ _ _ _ aw=>exact .jM _ _ _ hu aw
 .obtain⟨rfl,hu⟩:=h;cases ah;exact .map (ρ:=λk=>ρ (cf k)) _ hu
 cases h
def jD.ok:∀{xs cY:List aS},jD cf U xs cY->cY.length=xs.length/\∀(i:Nat)(y:aS),cY[i]?=some y->∃x,xs[i]?=some x/\pt cf U x y
 |[],[],_=>⟨rfl,by simp⟩|x::xs,y::cY,h=>by have ih:=jD.ok h.2;refine⟨by simp[ih.1],?_⟩;intro i z bP;cases i with|zero=>simp at bP;subst bP;exact⟨x,rfl,h.1⟩|succ i=>simp at bP;obtain⟨w,aa,ae⟩:=ih.2 i z bP;exact⟨w,by simpa using aa,ae⟩
 |[],y::cY,h=>h.elim|x::xs,[],h=>h.elim
def jD.cells{xs cY:List aS}{vs:Array Value}(h:jD cf U xs cY)(ah:lZ m ρ qi xs vs):lZ m (λk=>ρ (cf k)) U cY vs:=by obtain⟨aa,ae⟩:=h.ok;refine⟨by rw[ah.1,aa],?_⟩;intro i y v aK aN;obtain⟨x,ay,a7⟩:=ae i y aK;exact a7.ok (ah.2 i x v ay aN)
def ux.ok{x y:aS}(h:ux cf U x y){v:Value}(ah:b3 m ρ qi x v):b3 m (λk=>ρ (cf k)) U y v:=by
 unfold ux at h;split at h
 .rename_i cY;split at h;.rename_i xs;obtain⟨vs,rfl,an⟩:=ah.Wu;have:=jD.cells h an;exact .agg _ _ this.1 this.2
  .rename_i aO;obtain⟨vs,rfl,aq,an⟩:=ah.Wt;have ar:lZ m ρ qi (aO.map .d) vs:=⟨by simpa using aq,by
    intro i c v eH aN;simp only[xai,xag]at eH;obtain⟨z,bP,rfl⟩:=eH;exact .d _ _ (an i z v bP aN)⟩
   have:=jD.cells h ar;exact .agg _ _ this.1 this.2
  cases h
 .split at h;.obtain⟨vs,rfl,an⟩:=ah.Wv;have:=jD.cells h an;exact .aR _ _ this.1 this.2
  cases h
 .split at h
  .obtain⟨rfl,aa,ae⟩:=h;cases ah with|fn _ _ _ vs ws aq eP g q4=>
   have a:=jD.cells (U:=U) aa ⟨aq,g⟩;have b:=jD.cells (U:=U) ae ⟨eP,q4⟩;exact .fn _ _ _ vs ws a.1 b.1 a.2 b.2
  cases h
 exact h.ok ah
end
def sJ.ok{cf:Key->Key}{U:Key->Prop}:∀{xs cY:List aS},sJ cf U xs cY->cY.length=xs.length/\∀(i:Nat)(y:aS),cY[i]?=some y->∃x,xs[i]?=some x/\ux cf U x y
 |[],[],_=>⟨rfl,by simp⟩|x::xs,y::cY,h=>by have ih:=sJ.ok h.2;refine⟨by simp[ih.1],?_⟩;intro i z bP;cases i with|zero=>simp at bP;subst bP;exact⟨x,rfl,h.1⟩|succ i=>simpa using ih.2 i z (by simpa using bP)
 |[],y::cY,h=>h.elim|x::xs,[],h=>h.elim
def sJ.cells{m:Mem}{ρ:da}{qi U:Key->Prop}{cf:Key->Key}{xs cY:List aS}{vs:Array Value}(h:sJ cf U xs cY)(ah:lZ m ρ qi xs vs):lZ m (λk=>ρ (cf k)) U cY vs:=by obtain⟨aa,ae⟩:=h.ok;refine⟨by rw[ah.1,aa],?_⟩;intro i y v aK aN;obtain⟨x,ay,a7⟩:=ae i y aK;exact a7.ok (ah.2 i x v ay aN)
def Pu(es c6:List (List D)):Prop:=es=c6\/(es.length=c6.length/\∀(i:Nat)(x y:List D),es[i]?=some x->c6[i]?=some y->x.length=y.length/\y.all D.one=true/\∀(j:Nat)(a b:D),x[j]?=some a->y[j]?=some b->a.le b)
def yI(cf:Key->Key)(U:Key->Prop)(x y:cP):Prop:=match y with| .dead=>True| .box cY=>∃xs,x= .box xs/\sJ cf U xs cY| .row k c6=>∃es,x= .row k es/\Pu es c6| .map es=>x= .map es
def Pu.ok{m:Mem}{ρ cT:da}{U m1:Key->Prop}{k:Nat}{es c6:List (List D)}(h:Pu es c6){v:Value}{w:World}(ah:jh m ρ U v w (.row k es)):jh m cT m1 v w (.row k c6):=by
 rcases h with rfl|⟨aq,h⟩;.exact ah
 rcases ah with⟨aP,rfl⟩|⟨b,o,cap,vs,T,aP,a2,bS,cS,dM,e4⟩;.exact .inl ⟨aP,xaJ (by rw[<-aq];rfl)⟩
 have key:∀(i:Nat)(y:List D),c6[i]?=some y->∃x,es[i]?=some x/\x.length=y.length/\y.all D.one=true/\∀(j:Nat)(a b:D),x[j]?=some a->y[j]?=some b->a.le b:=by
  intro i y aK;have aj:i<es.length:=by rw[aq];exact(xae.1 aK).1
  exact⟨_,xab aj,h i _ y (xab aj) aK⟩
 refine .inr ⟨b,o,cap,vs,T,by rw[<-aq];exact aP,a2,by omega,cS,?_,?_⟩;.intro y aK;obtain⟨i,aj⟩:=xaK.1 aK;obtain⟨x,aa,ae,ay,_⟩:=key i y aj;exact⟨by rw[<-ae];exact(dM x (xad aa)).1,ay⟩
 intro i y j c aj aI;obtain⟨x,aa,ae,_,ay⟩:=key i y aj;have XL:j<x.length:=by rw[ae];exact(xae.1 aI).1
 obtain⟨z,a9,bk⟩:=e4 i x j _ aa (xab XL);exact⟨z,a9,ay j _ c (xab XL) aI _ _ bk⟩
def Kr:List (Nat×aS)->Nat->aS
 |[],_=> .any|(j,v)::r,t=>if t=j then v else Kr r t
def fj:List (Key×cP)->Key->Option cP
 |[],_=>none|(j,o)::r,k=>if k=j then some o else fj r k
def XM(ls:List (Nat×aS))(lo:List (Key×cP)):aF:=⟨Kr ls,fj lo⟩
def BQ(cf:Key->Key)(U:Key->Prop)(σ:aF):List (Nat×aS)->Prop
 |[]=>True|(t,v)::r=>ux cf U (σ.aH t) v/\BQ cf U σ r
def yJ(cf:Key->Key)(U:Key->Prop)(σ:aF):List (Key×cP)->Prop
 |[]=>True|(k,o)::r=>(∃o',σ.objs (cf k)=some o'/\yI cf U o' o)/\yJ cf U σ r
def BQ.ok{cf:Key->Key}{U:Key->Prop}{σ:aF}:∀{ls:List (Nat×aS)},BQ cf U σ ls->∀t,ux cf U (σ.aH t) (Kr ls t)
 |[],_,t=>trivial
 |(j,v)::r,h,t=>by
  unfold Kr;split;.rename_i e;subst e;exact h.1
  exact BQ.ok h.2 t
def yJ.ok{cf:Key->Key}{U:Key->Prop}{σ:aF}:∀{lo:List (Key×cP)},yJ cf U σ lo->∀k o,fj lo k=some o->∃o',σ.objs (cf k)=some o'/\yI cf U o' o
 |[],_,k,o,h=>by cases h
 |(j,x)::r,h,k,o,al=>by
  unfold fj at al;split at al;.rename_i e;subst e;cases al;exact h.1
  exact yJ.ok h.2 k o al
def fU:List (Key×Key)->Key->Key
 |[],k=>k|(a,b)::r,k=>if k=a then b else fU r k
def l7(lo:List (Key×cP)):List Key:=lo.map (·.1)
def yK(cf:Key->Key):List Key->Bool
 |[]=>true|k::r=>r.all (λj=>k==j||!(cf k==cf j))&&yK cf r
def Ks{cf:Key->Key}:∀{l:List Key},yK cf l=true->∀k j,k∈l->j∈l->cf k=cf j->k=j
 |[],_,k,j,h,_,_=>by cases h
 |x::r,h,k,j,al,aI,he=>by
  simp only[yK,xak,xas]at h;rcases xap.1 al with rfl|fF
  .rcases xap.1 aI with rfl|su;.rfl
   have:=h.1 j su;simp at this;rcases this with aa|aa
   .exact aa
   exact absurd he aa
  rcases xap.1 aI with rfl|su
  .have:=h.1 k fF;simp at this;rcases this with aa|aa
   .exact aa.symm
   exact absurd he.symm aa
  exact Ks h.2 k j fF su he
def wN:∀{lo:List (Key×cP)} {k:Key} {o:cP},fj lo k=some o->k∈l7 lo
 |[],k,o,h=>by cases h
 |(j,x)::r,k,o,h=>by
  unfold fj at h;split at h;.rename_i e;subst e;simp[l7]
  have:=wN h;simp only[l7,xaA,xap]at this⊢;exact .inr this
def ajm{σ:aF}{ls:List (Nat×aS)}{lo:List (Key×cP)}(l:List (Key×Key))(aw:yK (fU l) (l7 lo)=true) (aE:BQ (fU l) (λk=>∃o,fj lo k=some o) σ ls) (aL:yJ (fU l) (λk=>∃o,fj lo k=some o) σ lo) (al:∀k,10000<=k->eR (σ.objs k)->eR (fj lo k)/\fU l k=k):gU σ (XM ls lo):=by
 intro m fr ρ a w h;have kH:∀{o o':cP},yI (fU l) (λk=>∃o,fj lo k=some o) o' o->o.owns=true->o'.owns=true:=by
  intro o o' hle aL;cases o with
  |dead=>cases aL
  |box=>obtain⟨xs,rfl,_⟩:=hle;rfl
  |row=>obtain⟨es,rfl,_⟩:=hle;rfl
  |map=>cases hle;rfl
 refine⟨m,λk=>ρ (fU l k),Mem.le_refl m,⟨h.mem,h.frame,h.apart,?_,?_,?_,?_,?_⟩,λk fF ao=>⟨(al k fF ao).1,by show ρ (fU l k)=ρ k;rw[(al k fF ao).2]⟩⟩;.rintro k ⟨o,l8⟩;obtain⟨o',aa,_⟩:=aL.ok k o l8;exact h.one _ ⟨o',aa⟩
 .intro t;exact(aE.ok t).ok (h.aH t)
 .intro k o l8;obtain⟨o',aa,ae⟩:=aL.ok k o l8;have ay:=h.objs _ _ aa;cases o with
  |dead=>trivial|box cY=>obtain⟨xs,rfl,hle⟩:=ae;obtain⟨b,vs,T,aP,a2,bS,cS⟩:=ay;have:=sJ.cells hle ⟨bS,cS⟩;exact⟨b,vs,T,aP,a2,this.1,this.2⟩
  |row cN c6=>obtain⟨es,rfl,hle⟩:=ae;exact hle.ok ay
  |map es=>cases ae;exact ay
 .intro k o b l8 Kt ao;obtain⟨o',aa,ae⟩:=aL.ok k o l8;exact h.own _ o' b aa (kH ae Kt) ao
 intro k br o o' b cv l8 ES Pv Pw ao;obtain⟨x,aa,ae⟩:=aL.ok k o l8;obtain⟨j4,ej,ha⟩:=aL.ok br o' ES;exact h.sep (fU l k) (fU l br) x j4 b (λe=>cv (Ks aw k br (wN l8) (wN ES) e)) aa ej (kH ae Pv) (kH ha Pw) ao
def BR(P:Program):Nat->List Field->Option (List TypeDesc)
 |_,[]=>some []|off,f::c6=>if f.name≠ "_" /\f.offset=off then(match P.underlying f.type with|some .bool=>(BR P (off+1) c6).map (.bool::·)|some (.int k)=>(BR P (off+1) c6).map (.int k::·)|some .string=>(BR P (off+1) c6).map (.string::·)|_=>none)else none
def Ku{P:Program}:∀{c6:List Field}{off:Nat}{l:List TypeDesc},BR P off c6=some l->JC P off c6 l
 |[],_,l,h=>by cases h;trivial
 |f::c6,off,l,h=>by
  unfold BR at h;split at h
  case isFalse=>cases h
  rename_i aa;split at h;.rename_i hu;obtain⟨r,aw,rfl⟩:=xag.1 h;exact⟨aa.1,aa.2,hu,rfl,Ku aw⟩
  .rename_i hu;obtain⟨r,aw,rfl⟩:=xag.1 h;exact⟨aa.1,aa.2,hu,rfl,Ku aw⟩
  .rename_i hu;obtain⟨r,aw,rfl⟩:=xag.1 h;exact⟨aa.1,aa.2,hu,rfl,Ku aw⟩
  cases h
def Px(P:Program)(t:TypeId):Option (List TypeDesc):=match P.underlying t with
 |some (.struct c6)=>match BR P 0 c6.toList with
  |some l=>if P.stoodInHeld t=false/\P.eqGuardType P.depth t=false then some l else none
  |none=>none
 |_=>none
def ajn{P:Program}{t:TypeId}{l:List TypeDesc}(h:Px P t=some l):We P t l:=by
 unfold Px at h;split at h
 case h_2=>cases h
 rename_i c6 hu;have a8:P.fieldsOf t=c6:=by simp[Program.fieldsOf,hu]
 split at h
 case h_2=>cases h
 rename_i qS aq;split at h
 case isFalse=>cases h
 rename_i an;cases h;exact⟨by rw[a8];exact hu,an.1,an.2,by rw[a8];exact Ku aq⟩
def ET(P:Program)(t:TypeId):Option iE:=match P.underlying t,P.info? t with
 |some d,some i=>match i.zero with
  |some z=>if z.cells.size=i.size then some ⟨d,i.size,i.bytes,z⟩else none
  |none=>none
 |_,_=>none
def Py(P:Program)(t:TypeId)(name:String):Option FuncId:=match P.info? t,P.underlying t with
 |some i,some d=>match d with
  | .pointer _=>none
  |_=>match i.methods.find? (λm=>m.name==name)with
   |some m=>match m.path.toList,m.func with|[],some (f,false)=>some f|_,_=>none
   |none=>none
 |_,_=>none
def ajo{P:Program}{t:TypeId}{name:String}{f:FuncId}(h:Py P t name=some f):JD P t name f:=by
 unfold Py at h;split at h
 case h_2=>cases h
 rename_i i d aa ae;split at h
 case h_1=>cases h
 rename_i a1;split at h
 case h_2=>cases h
 rename_i m hm;split at h
 case h_2=>cases h
 rename_i g ay a7;cases h;exact⟨i,m,d,aa,hm,ay,a7,ae,λe he=>a1 e he⟩
def dr(P:Program):cd:=⟨ET P,Px P,λ_=>false,Py P,[],[]⟩
def cd.Kv(T:cd)(l:List TypeId):cd:=⟨T.OC,T.eqs,T.born,T.sm,l,T.dyn⟩
def dR.Kv{P:Program}{T:cd}(h:dR P T)(l:List TypeId):dR P (T.Kv l):=⟨h.ty,h.Ef,h.eqs,h.OD⟩
def cd.wO(T:cd)(l:List Nat):cd:=⟨T.OC,T.eqs,λk=>l.contains k,T.sm,T.Wd,T.dyn⟩
def dR.wO{P:Program}{T:cd}(h:dR P T)(l:List Nat):dR P (T.wO l):=⟨h.ty,h.Ef,h.eqs,h.OD⟩
def tok(P:Program):dR P (dr P):=by
 constructor
 .intro t i h;change ET P t=some i at h;unfold ET at h;split at h
  case h_2=>cases h
  rename_i d info aa ae;split at h
  case h_2=>cases h
  rename_i z bP;split at h
  case isFalse=>cases h
  cases h;exact⟨aa,info,ae,rfl,rfl,bP⟩
 .intro t i h;change ET P t=some i at h;unfold ET at h;split at h
  case h_2=>cases h
  rename_i d info aa ae;split at h
  case h_2=>cases h
  rename_i z bP;split at h
  case isFalse=>cases h
  rename_i aE;cases h;exact aE
 .intro t l h;exact ajn h
 intro t name f h;exact ajo h
def R(n:Int):D:= .val (.int .i64 n)
def ax(b:Bool):D:= .val (.bool b)
def aT(s:ByteArray):D:= .val (.string s)
def cJ(l:List Int):D:= .ak 1 (l.map λn=>[R n])
def du(l:List ByteArray):D:= .ak 1 (l.map λs=>[aT s])
end Go.Am
