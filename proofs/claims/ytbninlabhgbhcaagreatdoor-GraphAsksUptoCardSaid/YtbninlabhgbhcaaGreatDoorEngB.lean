/- Calls, regions in any order, loops: their rules over such values. No condition. -/
import Derived.Test.YtbninlabhgbhcaaGreatDoorEngA
import Derived.Still
import Derived.Scope
set_option linter.all false
set_option linter.unnecessarySimpa false
namespace Go.Am
def aO.put(σ:aO)(dst:Option Tmp)(r:aX):aO:=match dst with|some d=>⟨cv σ.aQ d r,σ.objs⟩|none=>σ
def hf(T:cn)(G:ds)(σ:aO)(o:Oper):Option aO:=match eM T (cm G σ.aQ) o.op with|some r=>some (σ.put o.dst r)|none=>match dI T (cm G σ.aQ) σ.objs o.op with|some r=>some (σ.put o.dst r)|none=>match hy T (cm G σ.aQ) σ.objs (o.dst.getD 9999) o.op with|some (r,cF)=>some (aO.put ⟨σ.aQ,dM σ.objs cF⟩ o.dst r)|none=>none
structure mS(m:Mem)(fr:fq)(w:World):Prop where
 mem:∀b o,m b=some o->w.heap[b]?=some o
 frame:XD fr w
 apart:∀b,m b≠none->fr b=none
def Den.ok{m:Mem}{fr:fq}{ρ:dk}{σ:aO}{a:Act}{w:World}(h:Den m fr ρ σ a w):mS m fr w:=⟨h.mem,h.frame,h.apart⟩
def r2(m:Mem)(aR:List D)(vs:List Value):Prop:=vs.length=aR.length/\∀(i:Nat)(d:D)(v:Value),aR[i]?=some d->vs[i]?=some v->c5 m d v
def xc(P:Program)(f:FuncId):Prop:=∃fn,P.funcs[f]?=some fn/\(fn.name== "runtime.NumGoroutine")=false/\fn.body.isNone=false
structure fv(P:Program)(G:ds)(f:FuncId)(aR:List D)(R:D->Prop):Prop where
 fn:xc P f
 run:∀m fr w vs,kz G m->mS m fr w->r2 m aR vs->Calls P f vs.toArray w λe w'=>∃v cB r,e= .returned v/\R r/\m.le cB/\mS cB fr w'/\c5 cB r v
def fv.mono{P:Program}{G:ds}{f:FuncId}{aR:List D}{R LI:D->Prop}(h:fv P G f aR R)(av:∀r,R r->LI r):fv P G f aR LI:=⟨h.fn,λm fr w vs c0 cQ hD=>(h.run m fr w vs c0 cQ hD).mono λe w' ⟨v,cB,r,J,aa,ax⟩=>⟨v,cB,r,J,av r aa,ax⟩⟩
def r3:List D->List D->Prop
 |[],[]=>True|x::xs,y::c7=>x.le y/\r3 xs c7|_,_=>False
def r3.refl:∀l:List D,r3 l l
 |[]=>trivial|x::l=>⟨x.le_refl,r3.refl l⟩
def r3.ok{m:Mem}:∀{xs c7:List D}{vs:List Value},r3 xs c7->r2 m xs vs->r2 m c7 vs
 |[],[],vs,_,h=>h|x::xs,y::c7,[],_,h=>by have:=h.1;simp at this|x::xs,y::c7,v::vs,al,h=>by have ih:=r3.ok (m:=m) (vs:=vs) al.2 ⟨by simpa using h.1,λi d u ay hu=>h.2 (i+1) d u (by simpa using ay) (by simpa using hu)⟩;refine⟨by simpa using ih.1,?_⟩;intro i d u ay hu;cases i with|zero=>simp at ay hu;subst ay;subst hu;exact al.1 m v (h.2 0 x v rfl rfl)|succ i=>exact ih.2 i d u (by simpa using ay) (by simpa using hu)
 |[],y::c7,vs,h,_=>h.elim|x::xs,[],vs,h,_=>h.elim
def D.flat:D->Bool
 | .val _=>true| .agg cs=>cs.all λc=>match c with| .val _=>true|_=>false
 | .aZ cs=>cs.all λc=>match c with
  | .val _=>true| .agg cs=>cs.all λc=>match c with| .val _=>true|_=>false
  |_=>false
 |_=>false
def aj6{m cB:Mem}{c:D}{v:Value}(h:(match c with| .val _=>true|_=>false)=true)(ay:c5 m c v):c5 cB c v:=by cases c<;>first|(cases ay;exact .val _)|cases h
def flat_agg{m cB:Mem}{cs:List D}{v:Value}(h:(cs.all λc=>match c with| .val _=>true|_=>false)=true)(ay:c5 m (.agg cs) v):c5 cB (.agg cs) v:=by cases ay with|agg _ vs al bQ=>exact .agg _ _ al λi c u ah hu=>aj6 (xaB.1 h c (xad ah)) (bQ i c u ah hu)
def D.aj7{m cB:Mem}{x:D}{v:Value}(h:x.flat=true)(ay:c5 m x v):c5 cB x v:=by
 cases x with
 |val=>cases ay;exact .val _
 |agg cs=>exact flat_agg h ay
 |aZ cs=>
  cases ay with
  |aZ _ vs al bQ=>
   refine .aZ _ _ al λi c u ah hu=>?_;have J:=xaB.1 h c (xad ah);have aa:=bQ i c u ah hu;cases c with
   |val=>cases aa;exact .val _
   |agg cs=>exact flat_agg J aa|aZ=>cases J
   |aW=>cases J
   |eh=>cases J
   |mp=>cases J
   |ref=>cases J
   |fn=>cases J
 |aW=>cases h
 |eh=>cases h
 |mp=>cases h
 |ref=>cases h
 |fn=>cases h
def r4(objs:cD):aX->Option D
 | .d x=>some x| .row key=>match objs key with|some (.row k es)=>some (.aW k es)|_=>none
 | .sub key k i len=>match objs key with
  |some (.row bG es)=>if k=bG/\i+len<=es.length then some (.aW k ((es.drop i).take len))else none
  |_=>none
 | .map key=>match objs key with|some (.map es)=>some (.mp es)|_=>none
 |_=>none
def hM{α:Type}:List (Option α)->Option (List α)
 |[]=>some []|some x::r=>match hM r with|some l=>some (x::l)|none=>none
 |none::_=>none
def r5{α:Type}:∀{l:List (Option α)} {r:List α},hM l=some r->r.length=l.length/\∀(i:Nat)(x:α),r[i]?=some x->l[i]?=some (some x)
 |[],r,h=>by simp[hM]at h;subst h;simp|none::l,r,h=>by simp[hM]at h
 |some x::l,r,h=>by
  simp only[hM]at h;split at h
  case h_2=>cases h
  rename_i kc eI;cases h;have ih:=r5 eI;refine⟨by simp[ih.1],?_⟩;intro i y aH;cases i with|zero=>simpa using aH|succ i=>exact ih.2 i y (by simpa using aH)
def ob(objs:cD):aX->Option D
 | .ptr key off=>match objs key with
  |some (.box cells)=>match hM (cells.map (r4 objs))with|some cs=>some (.ref cs off)|none=>none
  |_=>none
 | .dV cs off=>some (.ref cs off)|x=>r4 objs x
def pF(objs:cD):aX->Option D
 | .agg cs=>match hM (cs.map (ob objs))with|some aR=>some (.agg aR)|none=>none
 | .fn f first cap=>match hM (first.map (ob objs)),hM (cap.map (ob objs))with|some as,some jH=>some (.fn f as jH)|_,_=>none
 |x=>ob objs x
def toD(objs:cD):aX->Option D
 | .aZ cs=>match hM (cs.map (pF objs))with|some aR=>some (.aZ aR)|none=>none
 |x=>pF objs x
noncomputable def Den.all(m:Mem)(ρ:dk)(objs:cD)(w:World):Mem:=λb=>match m b with|some o=>some o|none=>open Classical in if∃k o,objs k=some o/\o.owns=true/\blockOf (ρ k)=some b then w.heap[b]? else none
section
variable{P:Program}{T:cn}{G:ds}{m:Mem}{fr:fq}{ρ:dk}{σ:aO}{a:Act}{w:World}
def Den.CM(m:Mem)(ρ:dk)(objs:cD)(w:World):m.le (Den.all m ρ objs w):=by intro b o h;simp[Den.all,h]
def Den.LJ(h:Den m fr ρ σ a w){k:Key}{o:cX}{b:Nat}(ai:σ.objs k=some o)(aT:o.owns=true)(aj:blockOf (ρ k)=some b):Den.all m ρ σ.objs w b=w.heap[b]?:=by have:=(h.own k o b ai aT aj).1;simp only[Den.all,this];rw[xac ⟨k,o,ai,aT,aj⟩]
def Den.aj8(h:Den m fr ρ σ a w):∀b o,Den.all m ρ σ.objs w b=some o->w.heap[b]?=some o:=by
 intro b o aj;unfold Den.all at aj;cases hm:m b with
 |some x=>simp only[hm]at aj;cases aj;exact h.mem b _ hm
 |none=>
  simp only[hm]at aj;split at aj;.exact aj
  cases aj
def Den.Yr(h:Den m fr ρ σ a w):mS (Den.all m ρ σ.objs w) fr w:=by
 refine⟨h.aj8,h.frame,?_⟩;intro b aj;unfold Den.all at aj;cases hm:m b with
 |some x=>exact h.apart b (by rw[hm];simp)
 |none=>
  simp only[hm]at aj;split at aj;.rename_i ah;obtain⟨k,o,J,aa,ax⟩:=ah;exact(h.own k o b J aa ax).2
  exact absurd rfl aj
def Ys(h:Den m fr ρ σ a w){x:aX}{v:Value}{d:D}(ad:cg m ρ σ.used x v)(ay:r4 σ.objs x=some d):c5 (Den.all m ρ σ.objs w) d v:=by
 have hle:=Den.CM m ρ σ.objs w;have row:∀key k es v,σ.objs key=some (.row k es)->v=ρ key->c5 (Den.all m ρ σ.objs w) (.aW k es) v:=by
  rintro key k es v ai rfl;rcases h.objs _ _ ai with⟨aM,rfl⟩|⟨b,o,cap,vs,dY,aM,a8,b0,cK,dJ,eX⟩;.rw[aM];exact .kW _ _ _
  have aj:=h.LJ ai rfl (by rw[aM];rfl);obtain⟨f1,f2⟩:=X2 (m:=m) dJ eX;rw[aM];refine .aW k es b o cap vs dY (0,0) (by rw[aj];exact a8) dJ b0 (λi j=>(vs[o+i*k+j]?).getD undef) ?_ ?_;.intro i e j c ag aA;obtain⟨x,g1,g2⟩:=eX i e j c ag aA;rw[g1];rfl
  intro i e j c ag aA;obtain⟨x,g1,g2⟩:=eX i e j c ag aA;simp only[g1,xbr];exact g2.mono hle
 unfold r4 at ay;split at ay;.cases ay;exact ad.pB.mono hle
 .rename_i key;split at ay
  case h_2=>cases ay
  rename_i k es ai;cases ay;cases ad;exact row key k es _ ai rfl
 .rename_i key k i len;split at ay
  case h_2=>cases ay
  rename_i bG es ai;split at ay
  case isFalse=>cases ay
  rename_i ah;obtain⟨rfl,Lt⟩:=ah;cases ay;cases ad with|kb _ _ _ hu av=>rw[xcc];exact .kW _ _ _|sub _ _ _ _ b o L cap hs hu av pC aG=>
  have bI:((es.drop i).take len).length=len:=by simp;omega
  rcases Nat.eq_zero_or_pos len with ar|iq;.subst ar;rw[xcc];exact .kW _ _ _
  have hG:=row key k es _ ai rfl;rw[av]at hG;cases hG with
  |kW=>simp at Lt;omega
  |aW _ _ _ _ _ vs dY eD hm dA ah xs J aa=>
   have:=c5.aW (m:=Den.all m ρ σ.objs w) k ((es.drop i).take len) b (o+i*k) (cap-i) vs dY eD hm (λe he=>dA e (xbp (xbq he))) (by omega) (λp j=>xs (i+p) j) (λp el j c ej ah=>by
     rw[xaR]at ej;split at ej
     case isFalse=>cases ej
     rw[xaY]at ej;have:=J (i+p) el j c ej ah;rw[<-this]
     congr 1
     rw[xaX];omega)
    (λp el j c ej ah=>by
     rw[xaR]at ej;split at ej
     case isFalse=>cases ej
     rw[xaY]at ej;exact aa (i+p) el j c ej ah)
   rw[bI]at this;rw[aG.1 (by omega)];exact this
 .rename_i key;split at ay
  case h_2=>cases ay
  rename_i es ai;cases ay;cases ad;obtain⟨r,dD,clock,aM,a8,b0,cK,dJ⟩:=h.objs _ _ ai;have aj:=h.LJ ai rfl (by rw[aM];rfl);rw[aM];exact .mp es r dD clock (by rw[aj];exact a8) b0 cK (λi e x he ad=>(dJ i e x he ad).mono hle)
 cases ay
def LK(h:Den m fr ρ σ a w){x:aX}{v:Value}{d:D}(ad:cg m ρ σ.used x v)(ay:ob σ.objs x=some d):c5 (Den.all m ρ σ.objs w) d v:=by
 have hle:=Den.CM m ρ σ.objs w;unfold ob at ay;split at ay
 .rename_i key off;split at ay
  case h_2=>cases ay
  rename_i cells ai;split at ay
  case h_2=>cases ay
  rename_i cs h0;cases ay;obtain⟨b,vs,dY,aM,a8,b0,cK⟩:=h.objs _ _ ai;have aj:=h.LJ ai rfl (by rw[aM];rfl);obtain⟨mh,ln⟩:=r5 h0;cases ad with|ptr _ _ b' hu av=>
  rw[aM]at av;cases av;have key:∀(j:Nat)(c:D),cs[j]?=some c->∃u,vs[j]?=some u/\c5 (Den.all m ρ σ.objs w) c u:=by
   intro j c ah;have J:=ln j c ah;simp only[xah,xaf]at J;obtain⟨y,aH,oK⟩:=J;have aA:j<vs.size:=by rw[b0];exact(xaa.1 aH).1
   exact⟨_,xak aA,Ys h (cK j y _ aH (xak aA)) oK⟩
  have:=c5.ref (m:=Den.all m ρ σ.objs w) cs off b 0 vs dY (0,0) (by rw[aj];exact a8) (λj=>(vs[j]?).getD undef) (λj c ah=>by obtain⟨u,J,_⟩:=key j c ah;simp[J]) (λj c ah=>by obtain⟨u,J,aa⟩:=key j c ah;simp[J];exact aa);simpa using this
 .cases ay;cases ad with|dV _ _ b o vs T eD hm xs J aa=>exact .ref _ _ b o vs T eD (hle _ _ hm) xs J (λj c ah=>(aa j c ah).mono hle)
 exact Ys h ad ay
def Yt(h:Den m fr ρ σ a w){x:aX}{v:Value}{d:D}(ad:cg m ρ σ.used x v)(ay:pF σ.objs x=some d):c5 (Den.all m ρ σ.objs w) d v:=by
 unfold pF at ay;split at ay
 .rename_i cs;split at ay
  case h_2=>cases ay
  rename_i aR eS;cases ay;obtain⟨mh,ln⟩:=r5 eS;cases ad with|agg _ vs al bQ=>
  refine .agg _ _ (by rw[al,mh];simp) ?_;intro i c u ah hu;have J:=ln i c ah;simp only[xah,xaf]at J;obtain⟨y,aH,oK⟩:=J;exact LK h (bQ i y u aH hu) oK
 .rename_i f first cap
  split at ay
  case h_2=>cases ay
  rename_i as jH has Ge;cases ay;obtain⟨mh,ln⟩:=r5 has;obtain⟨cN,ea⟩:=r5 Ge;cases ad with|fn _ _ _ vs ws al eI bQ zs=>
  refine .fn _ _ _ vs ws (by rw[al,mh];simp) (by rw[eI,cN];simp) ?_ ?_;.intro i c u ah hu;have J:=ln i c ah;simp only[xah,xaf]at J;obtain⟨y,aH,oK⟩:=J;exact LK h (bQ i y u aH hu) oK
  intro i c u ah hu;have J:=ea i c ah;simp only[xah,xaf]at J;obtain⟨y,aH,oK⟩:=J;exact LK h (zs i y u aH hu) oK
 exact LK h ad ay
def Yu(h:Den m fr ρ σ a w){x:aX}{v:Value}{d:D}(ad:cg m ρ σ.used x v)(ay:toD σ.objs x=some d):c5 (Den.all m ρ σ.objs w) d v:=by
 unfold toD at ay;split at ay
 .rename_i cs;split at ay
  case h_2=>cases ay
  rename_i aR eS;cases ay;obtain⟨mh,ln⟩:=r5 eS;cases ad with|aZ _ vs al bQ=>
  refine .aZ _ _ (by rw[al,mh];simp) ?_;intro i c u ah hu;have J:=ln i c ah;simp only[xah,xaf]at J;obtain⟨y,aH,oK⟩:=J;exact Yt h (bQ i y u aH hu) oK
 exact Yt h ad ay
def aj9(h:Den m fr ρ σ a w){xs:List aX}{vs:List Value}{aR:List D}(al:vs.length=xs.length)(ad:∀(i:Nat)(x:aX)(v:Value),xs[i]?=some x->vs[i]?=some v->cg m ρ σ.used x v)(ay:hM (xs.map (toD σ.objs))=some aR):r2 (Den.all m ρ σ.objs w) aR vs:=by obtain⟨mh,ln⟩:=r5 ay;refine⟨by rw[al,mh];simp,?_⟩;intro i d v J aa;have ax:=ln i d J;simp only[xah,xaf]at ax;obtain⟨y,aH,oK⟩:=ax;exact Yu h (ad i y v aH aa) oK
def Den.aka(h:Den m fr ρ σ a w){w':World}{cB:Mem}(hle:(Den.all m ρ σ.objs w).le cB)(cQ:mS cB fr w'):Den m fr ρ σ a w':=by refine⟨λb o aj=>cQ.mem b o (hle b o (Den.CM m ρ σ.objs w b o aj)),cQ.frame,h.apart,h.one,h.aQ,?_,h.own,h.sep⟩;intro k o ai;refine(h.objs k o ai).mono (Mem.le_refl m) (λ_ hu=>⟨hu,rfl⟩) (λb aT aj=>?_);have J:=h.LJ ai aT aj;have aa:b<w.heap.size:=(h.objs k o ai).vl aT aj;have ax:=xak aa;rw[ax]at J⊢;exact cQ.mem b _ (hle b _ J)
noncomputable def Den.hold(fr:fq)(ρ:dk)(objs:cD)(w:World):fq:=⟨Den.all fr.at_ ρ objs w,fr.os,fr.out,fr.low⟩
def Den.Yv(h:Den m fr ρ σ a w){k:Key}{o:cX}{b:Nat}(ai:σ.objs k=some o)(aT:o.owns=true)(aj:blockOf (ρ k)=some b):Den.hold fr ρ σ.objs w b=w.heap[b]?:=by have:=(h.own k o b ai aT aj).2;simp only[Den.hold,Den.all,this];rw[xac ⟨k,o,ai,aT,aj⟩]
def Den.Yw(h:Den m fr ρ σ a w):mS m (Den.hold fr ρ σ.objs w) w:=by
 refine⟨h.mem,⟨?_,⟨h.frame.quiet.os,h.frame.quiet.out,h.frame.quiet.low⟩⟩,?_⟩
 .intro b o aj;unfold Den.hold Den.all at aj;cases hm:fr b with
  |some x=>simp only[hm]at aj;cases aj;exact h.frame.n7 b _ hm
  |none=>
   simp only[hm]at aj;split at aj;.exact aj
   cases aj
 intro b aj;show Den.all fr.at_ ρ σ.objs w b=none;unfold Den.all;rw[h.apart b aj];simp only;rw[xae];rintro⟨k,o,J,aa,ax⟩;exact aj (h.own k o b J aa ax).1
def Den.kept(h:Den m fr ρ σ a w){w':World}{cB:Mem}(hle:m.le cB)(cQ:mS cB (Den.hold fr ρ σ.objs w) w'):Den cB fr ρ σ a w':=by
 have qk:∀b o,fr b=some o->Den.hold fr ρ σ.objs w b=some o:=Den.CM fr.at_ ρ σ.objs w;have iG:∀k o b,σ.objs k=some o->o.owns=true->blockOf (ρ k)=some b->cB b=none:=by intro k o b ai aT aj;cases hm:cB b with|none=>rfl|some x=>have J:=cQ.apart b (by rw[hm];simp);rw[h.Yv ai aT aj,xak ((h.objs k o ai).vl aT aj)]at J;cases J
 refine⟨cQ.mem,⟨λb o aj=>cQ.frame.n7 b o (qk b o aj),⟨cQ.frame.quiet.os,cQ.frame.quiet.out,cQ.frame.quiet.low⟩⟩,?_,h.one,λt=>(h.aQ t).mono hle (λ_ hu=>⟨hu,rfl⟩),?_,λk o b J aa ax=>⟨iG k o b J aa ax,(h.own k o b J aa ax).2⟩,h.sep⟩;.intro b aj;have:=cQ.apart b aj;cases bm:fr b with|none=>rfl|some x=>rw[qk b x bm]at this;cases this
 intro k o ai;refine(h.objs k o ai).mono hle (λ_ hu=>⟨hu,rfl⟩) (λb aT aj=>?_);have J:=h.Yv ai aT aj;have ax:=xak ((h.objs k o ai).vl aT aj);rw[ax]at J⊢;exact cQ.frame.n7 b _ J
end
def e3(o:Option cX):Prop:=(∃cs,o=some (.box cs))\/(∃k es,o=some (.row k es))\/∃es,o=some (.map es)
theorem vq{cs:List aX}:e3 (some (.box cs)):= .inl ⟨_,rfl⟩
theorem tK{k:Nat}{es:List (List D)}:e3 (some (.row k es)):= .inr (.inl ⟨_,_,rfl⟩)
def vr:¬e3 none:=by rintro(⟨_,h⟩|⟨_,_,h⟩|⟨_,h⟩)<;>cases h
def Gf:¬e3 (some .dead):=by rintro(⟨_,h⟩|⟨_,_,h⟩|⟨_,h⟩)<;>cases h
theorem xd{es:List (Value×D)}:e3 (some (.map es)):= .inr (.inr ⟨_,rfl⟩)
def CN{o:Option cX}(h:e3 o):∃x,o=some x:=by rcases h with⟨_,h⟩|⟨_,_,h⟩|⟨_,h⟩<;>exact⟨_,h⟩
def lp(σ:aO)(ρ:dk)(a1:aO)(c4:dk):Prop:=∀k,10000<=k->e3 (σ.objs k)->e3 (a1.objs k)/\c4 k=ρ k
theorem lp.refl(σ:aO)(ρ:dk):lp σ ρ σ ρ:=λ_ _ h=>⟨h,rfl⟩
def lp.trans{gL gm Yx:aO}{oc lN Yy:dk}(h:lp gL oc gm lN)(bB:lp gm lN Yx Yy):lp gL oc Yx Yy:=λk ai aj=>let⟨a,b⟩:=h k ai aj;let⟨c,d⟩:=bB k ai a;⟨c,d.trans b⟩
@[simp] theorem aO.xe (σ:aO) (dst:Option Tmp) (r:aX):(σ.put dst r).objs=σ.objs:=by cases dst<;>rfl
def jv(N:Nat)(m:Mem)(fr:fq)(ρ:dk)(σ:aO)(K:aO->Prop)(cM:Act)(w':World):Prop:= ∃a1 cB c4,K a1/\m.le cB/\Den cB fr c4 a1 cM w'/\N<=cM.tmps.size/\cM.defers=[]/\lp σ ρ a1 c4
def Den.put{m:Mem}{fr:fq}{ρ:dk}{σ:aO}{a:Act}{w:World}(h:Den m fr ρ σ a w){dst:Option Tmp}{r:aX}{v:Value}(av:cg m ρ σ.used r v)(ay:∀d,dst=some d->d<a.tmps.size):Den m fr ρ (σ.put dst r) (a.put dst v) w:=by
 cases dst with
 |none=>exact h
 |some d=>
  refine⟨h.mem,h.frame,h.apart,h.one,?_,h.objs,h.own,h.sep⟩;intro t;have b6:=ay d rfl;by_cases aP:t=d
  .subst aP;simp only[aO.put,ff,Act.put];have:(a.tmps.setIfInBounds t v).getD t undef=v:=by simp[Array.getD,b6]
   rw[this];exact av
  simp only[aO.put,c6 _ _ aP,Act.put];have:(a.tmps.setIfInBounds d v).getD t undef=a.tmps.getD t undef:=by rw[xbj,xbj,Array.getElem?_setIfInBounds,xae (xbY aP)]
  rw[this];exact h.aQ t
def Rc{objs:cD}{k:Key}{o:cX}(h:e3 (objs k)->e3 (some o)):∀j,e3 (objs j)->e3 (cv objs k (some o) j):=by
 intro j aA;by_cases fA:j=k;.subst fA;rw[ff];exact h aA
 rw[c6 _ _ fA];exact aA
def akb{T:cn}{ev:Operand->aX}{objs:cD}{d:Key}{o:Op}{r:aX}{cF:List (Key×cX)}(h:eF T ev objs d o=some (r,cF)):∀j,10000<=j->e3 (objs j)->e3 (dM objs cF j):=by
 have new:∀{o:cX},objs d=none->∀j,10000<=j->e3 (objs j)->e3 (dM objs [(d,o)] j):=by intro o ay j _;exact Rc (λh=>by rw[ay]at h;exact absurd h vr) j
 have same:∀{k:Key}{dZ o:cX},objs k=some dZ->(e3 (some dZ)->e3 (some o))->∀j,10000<=j->e3 (objs j)->e3 (dM objs [(k,o)] j):=by intro k dZ o ai cp j _;exact Rc (λh=>by rw[ai]at h;exact cp h) j
 cases o<;>simp only[eF,reduceCtorEq]at h
 case alloc=>split at h<;>cases h;exact new (by assumption)
 case box=>split at h<;>cases h;exact new (by assumption)
 case buildSlice=>
  split at h
  case h_2=>cases h
  split at h
  case h_2=>cases h
  split at h
  case h_2=>cases h
  split at h<;>cases h;exact new (by assumption)
 case makeSlice=>
  split at h
  case h_2=>cases h
  split at h
  case h_2=>cases h
  split at h
  case h_2=>cases h
  split at h<;>cases h;exact new (by assumption)
 case makeMap=>split at h<;>cases h;exact new (by assumption)
 case store=>
  split at h
  case h_2=>cases h
  split at h
  case isFalse=>cases h
  split at h
  .split at h
   case h_2=>cases h
   split at h<;>cases h;exact λj _=>Rc (λ_=>vq) j
  .split at h
   case h_2=>cases h
   split at h
   case isFalse=>cases h
   split at h<;>cases h;exact same (by assumption) (λ_=>tK)
  cases h
 case mapUpdate=>
  split at h
  case h_2=>cases h
  split at h
  case h_2=>cases h
  split at h
  case isFalse=>cases h
  split at h
  case h_2=>cases h
  split at h
  case h_2=>cases h
  split at h<;>cases h;exact same (by assumption) (λ_=>xd)
 case insert=>
  split at h
  case h_2=>cases h
  split at h
  case h_2=>cases h
  split at h
  case isFalse=>cases h
  split at h
  case h_2=>cases h
  split at h
  case h_2=>cases h
  split at h<;>cases h;exact same (by assumption) (λ_=>xd)
 case call=>
  split at h
  .split at h
   case h_2=>cases h
   split at h
   case h_2=>cases h
   split at h
   case h_2=>cases h
   split at h
   case h_2=>cases h
   split at h
   case isFalse=>cases h
   split at h;.split at h<;>cases h;exact new (by assumption)
   .split at h
    case h_2=>cases h
    split at h<;>cases h;rename_i ay _ _ _ _ _ _ _ _ _ _ _ _ ai _ _;rename_i LL;intro j cq aA;have akc:j≠d:=by rintro rfl;simp_all [vr]
    simp only[dM];rw[c6 _ _ akc,c6 _ _ (by rintro rfl;exact absurd LL.2.2.2 (Nat.not_lt.2 cq))];exact aA
   cases h
  .split at h
   case h_2=>cases h
   split at h
   case h_2=>cases h
   split at h
   case h_2=>cases h
   split at h
   case h_2=>cases h
   split at h
   case isFalse=>cases h
   split at h
   .split at h
    case h_2=>cases h
    split at h<;>cases h;exact same (by assumption) (λ_=>tK)
   .split at h
    case h_2=>cases h
    split at h<;>cases h;exact same (by assumption) (λ_=>tK)
   cases h
  .split at h
   case h_2=>cases h
   split at h
   case h_2=>cases h
   split at h
   case h_2=>cases h
   split at h
   case h_2=>cases h
   split at h
   case h_2=>cases h
   split at h<;>cases h;exact same (by assumption) (λ_=>tK)
  cases h
def Yz{T:cn}{ev:Operand->aX}{objs:cD}{d:Key}{o:Op}{k:Key}{off:Nat}{cF:List (Key×cX)}(h:eF T ev objs d o=some (.ptr k off,cF)):objs d=none:=by
 cases o<;>simp only[eF,reduceCtorEq]at h
 case alloc=>split at h<;>cases h;assumption
 case box=>split at h<;>cases h;assumption
 all_goals (repeat' split at h)<;>cases h
def YA{T:cn}{ev:Operand->aX}{objs:cD}{d:Key}{o:Op}{cF:List (Key×cX)}(h:eF T ev objs d o=some (.row d,cF)):objs d=none:=by
 cases o<;>simp only[eF,reduceCtorEq]at h
 all_goals (repeat' split at h)<;>cases h<;>assumption
def akd{T:cn}{ev:Operand->aX}{objs:cD}{d:Key}{o:Op}{r:aX}{cF:List (Key×cX)}(h:hy T ev objs d o=some (r,cF)):∀j,10000<=j->e3 (objs j)->e3 (dM objs cF j):=by
 obtain⟨⟨jG,tJ⟩,ar,aj⟩:=xb h;have J:=akb ar;intro j cq aA;have aN:∀{o:cX},objs d=none->j≠d:=by rintro o ay rfl;rw[ay]at aA;exact vr aA
 rcases zr (T.born d) d jG tJ with e|⟨n,es,rfl,rfl,e⟩|⟨q5,n,es,rfl,rfl,e⟩|⟨off,cs,aR,rfl,rfl,eS,e⟩;.rw[aj]at e;cases e;exact J j cq aA
 .rw[aj]at e;cases e;have ay:=aN (o:= .dead) (YA ar);have:=J j cq aA;simp only[dM,c6 _ _ ay]at this⊢;exact this
 .rw[aj]at e;cases e;have ay:=aN (o:= .dead) (YA ar);have:=J j cq aA;simp only[dM,c6 _ _ ay]at this⊢;exact this
 rw[aj]at e;cases e;have ay:=aN (o:= .dead) (Yz ar);simp only[dM,c6 _ _ ay];exact aA
section
variable{P:Program}{T:cn}{G:ds}{m:Mem}{fr:fq}{ρ:dk}{σ:aO}{a:Act}{w:World}{N:Nat}
def ake(bp:dU P T)(c0:kz G m)(h:Den m fr ρ σ a w)(cj:N<=a.tmps.size)(hN:a.defers=[]){o:Oper}(gE:∀d,o.dst=some d->d<N){a1:aO}(az:hf T G σ o=some a1){K:aO->Prop}(hz:K a1){Q:Exit->Act->World->Prop}:o.wp P a w (jv N m fr ρ σ K) Q:=by
 have dE:=FV (a:=a) c0 h.aQ;have jw:∀d,o.dst=some d->d<a.tmps.size:=λd ay=>xch (gE d ay) cj;have tL:∀v,N<=(a.put o.dst v).tmps.size:=by intro v;cases o.dst<;>simpa[Act.put]using cj
 have mT:∀v,(a.put o.dst v).defers=[]:=by intro v;cases o.dst<;>exact hN
 unfold Oper.wp;unfold hf at az;split at az;.rename_i r av;cases az;obtain⟨v,J,aa⟩:=ajj (P:=P) (w:=w) (o:=o) bp h.one dE av;rw[J];exact⟨_,m,ρ,hz,Mem.le_refl m,h.put aa jw,tL v,mT v,λk ai aj=>⟨by simpa using aj,rfl⟩⟩
 split at az;.rename_i r av;cases az;obtain⟨v,J,aa⟩:=ajr (P:=P) (w:=w) (o:=o) bp h.mem h.objs dE av;rw[J];exact⟨_,m,ρ,hz,Mem.le_refl m,h.put aa jw,tL v,mT v,λk ai aj=>⟨by simpa using aj,rfl⟩⟩
 split at az
 case h_2=>cases az
 rename_i r cF av;cases az;obtain⟨nx,v,w',cB,c4,J,aa,hm,ax,bj,ca⟩:=aj5 (P:=P) (o:=o) bp h dE av;rw[J];have fin:jv N m fr ρ σ K (a.put o.dst v) w':=⟨_,cB,c4,hz,hm,ax.put bj jw,tL v,mT v,λk ai aj=>⟨by rw[aO.xe];exact akd av k ai aj,by obtain⟨c,ah⟩:=CN aj;exact(ca k ⟨_,ah⟩).2⟩⟩;rcases aa with rfl|⟨rfl,rfl⟩
 .exact fin
 exact fin
def xf:aX->Option (FuncId×List aX×List aX)
 | .d (.val (.func (.func f) first cap))=>if first.size=0/\cap.size=0 then some (f,[],[])else none
 | .fn (.func f) first cap=>some (f,first,cap)
 | .d (.fn (.func f) first cap)=>some (f,first.map .d,cap.map .d)
 |_=>none
def CO:aX->Bool
 | .d _=>true| .dV _ _=>true|_=>false
def tM:aX->Bool
 | .agg cs=>cs.all CO| .fn _ as jH=>as.all CO&&jH.all CO|x=>CO x
def Re{m:Mem}{ρ:dk}{U:Key->Prop}{objs:cD}{x:aX}{d:D}{v:Value}(h:CO x=true)(ay:ob objs x=some d)(aS:cg m ρ U x v):c5 m d v:=by
 cases x<;>first|cases h|skip
 .simp only[ob,r4]at ay;cases ay;exact aS.pB
 simp only[ob]at ay;cases ay;cases aS with|dV _ _ b o vs T eD hm xs J aa=>exact .ref _ _ b o vs T eD hm xs J aa
def Rf{m:Mem}{ρ:dk}{U:Key->Prop}{objs:cD}{cs:List aX}{aR:List D}{vs:Array Value}(h:cs.all CO=true)(ay:hM (cs.map (ob objs))=some aR)(al:vs.size=cs.length) (aS:∀(i:Nat)(c:aX)(v:Value),cs[i]?=some c->vs[i]?=some v->cg m ρ U c v):vs.size=aR.length/\∀(i:Nat)(c:D)(v:Value),aR[i]?=some c->vs[i]?=some v->c5 m c v:=by obtain⟨J,aa⟩:=r5 ay;refine⟨by rw[J,al];simp,λi c v ah ag=>?_⟩;have ax:=aa i c ah;simp only[xah,xaf]at ax;obtain⟨y,aH,xg⟩:=ax;exact Re (xaB.1 h y (xad aH)) xg (aS i y v aH ag)
def Rg{m:Mem}{ρ:dk}{U:Key->Prop}{objs:cD}{x:aX}{d:D}{v:Value}(h:tM x=true)(ay:toD objs x=some d)(aS:cg m ρ U x v):c5 m d v:=by
 cases x
 case agg cs=>
  simp only[toD,pF]at ay;split at ay
  case h_2=>cases ay
  rename_i aR eS;cases ay;cases aS with|agg _ vs al bQ=>
  obtain⟨g1,g2⟩:=Rf h eS al bQ;exact .agg _ _ g1 g2
 case fn f as jH=>
  simp only[tM,xap]at h;simp only[toD,pF]at ay;split at ay
  case h_2=>cases ay
  rename_i aR CP eS akf;cases ay;cases aS with|fn _ _ _ vs ws al eI bQ zs=>
  obtain⟨g1,g2⟩:=Rf h.1 eS al bQ;obtain⟨g3,g4⟩:=Rf h.2 akf eI zs;exact .fn _ _ _ _ _ g1 g3 g2 g4
 case d y=>exact Re (x:= .d y) rfl (by simpa[toD,pF]using ay) aS
 case dV cs off=>exact Re (x:= .dV cs off) rfl (by simpa[toD,pF]using ay) aS
 all_goals cases h
def YB(P:Program)(G:ds)(σ:aO)(dst:Option Tmp)(f:FuncId)(vt:List aX)(K:aO->Prop):Prop:= ∃od aR R,hM (vt.map (toD σ.objs))=some od/\r3 od aR/\fv P G f aR R/\(∃jG,R=(·=jG))/\((∀r,R r->r.flat=true)\/vt.all tM=true)/\∀r,R r->K (σ.put dst (.d r))
def jX(P:Program)(G:ds)(o:Oper)(σ:aO)(K:aO->Prop):Prop:=match o.op with
 | .call ⟨.value x,args,_⟩=>match xf (cm G σ.aQ x)with|some (f,pre,post)=>YB P G σ o.dst f (pre++args.toList.map (cm G σ.aQ)++post) K|none=>False
 |_=>False
def dh(P:Program)(T:cn)(G:ds)(o:Oper)(K:aO->Prop)(σ:aO):Prop:=match hf T G σ o with|some a1=>K a1|none=>jX P G o σ K
def eN(P:Program)(T:cn)(G:ds)(all:Array Oper)(o:Oper)(K:aO->Prop)(σ:aO):Prop:=match o.guard with
 |none=>dh P T G o K σ
 |some (j,want)=>match(all[j]?).bind (·.dst)with
  |some d=>match σ.aQ d with
   | .d (.val (.bool b))=>if b=want then dh P T G o K σ else K (σ.put o.dst (.d (.val (.tuple #[]))))
   | .d (.val (.tuple _))=>K (σ.put o.dst (.d (.val (.tuple #[]))))|_=>False
  |none=>False
def fU(P:Program)(T:cn)(G:ds)(all:Array Oper):List Oper->(aO->Prop)->aO->Prop
 |[],K,σ=>K σ|o::r,K,σ=>eN P T G all o (fU P T G all r K) σ
def YC{va:Operand->Value}{x:Operand}{args:Array Operand}{dN:Array TypeId}{ty:TypeId}{f:FuncId}{first cap:Array Value}(ad:va x= .func (.func f) first cap)(bm:xc P f):(do let d<-resolve va {callee:= .value x,args:=args,argTypes:=dN} ty;invoke d.target d.args:Sem Next).run P w= .ok (.enter f (first++args.map va++cap)) w:=by obtain⟨fn,J,aa,ax⟩:=bm;simp only[xaj,resolve,ad,Deferred.ofValue,xaA,xag,invoke,callFunc,program,Sem.run,J,aa,ax,xar,xaI]
def akg(c0:kz G m)(h:Den m fr ρ σ a w)(cj:N<=a.tmps.size)(hN:a.defers=[]){o:Oper}(gE:∀d,o.dst=some d->d<N){K:aO->Prop}(ah:jX P G o σ K){Q:Exit->Act->World->Prop}:o.wp P a w (jv N m fr ρ σ K) Q:=by
 have dE:=FV (a:=a) c0 h.aQ;have jw:∀d,o.dst=some d->d<a.tmps.size:=λd ay=>xch (gE d ay) cj;have tL:∀v,N<=(a.put o.dst v).tmps.size:=by intro v;cases o.dst<;>simpa[Act.put]using cj
 have mT:∀v,(a.put o.dst v).defers=[]:=by intro v;cases o.dst<;>exact hN
 unfold jX at ah;split at ah
 case h_2=>cases ah
 rename_i x args dN eb;split at ah
 case h_2=>cases ah
 rename_i f pre post hg;obtain⟨od,aR,R,J,aa,ax,bj,ca,cR⟩:=ah;have ad:=dE x;have Rh:∃first cap,a.eval x= .func (.func f) first cap/\first.size=pre.length/\cap.size=post.length/\(∀(i:Nat)(c:aX)(v:Value),pre[i]?=some c->first[i]?=some v->cg m ρ σ.used c v)/\(∀(i:Nat)(c:aX)(v:Value),post[i]?=some c->cap[i]?=some v->cg m ρ σ.used c v):=by
  unfold xf at hg;split at hg
  .rename_i kY first cap he
   split at hg
   case isFalse=>cases hg
   rename_i ar;cases hg;rw[he]at ad;exact⟨first,cap,ad.hY,by simpa using ar.1,by simpa using ar.2,by intro i c v ah;simp at ah,by intro i c v ah;simp at ah⟩
  .rename_i kY first cap he
   cases hg;rw[he]at ad;generalize a.eval x=u at ad;cases ad with|fn _ _ _ vs ws al eI g r6=>exact⟨vs,ws,rfl,al,eI,g,r6⟩
  .rename_i kY first cap he
   cases hg;rw[he]at ad;have ad:=ad.pB;generalize a.eval x=u at ad;cases ad with|fn _ _ _ vs ws al eI g r6=>
   refine⟨vs,ws,rfl,by simpa using al,by simpa using eI,?_,?_⟩;.intro i c v ah aS;simp only[xah,xaf]at ah;obtain⟨y,aH,rfl⟩:=ah;exact .d _ _ (g i y v aH aS)
   intro i c v ah aS;simp only[xah,xaf]at ah;obtain⟨y,aH,rfl⟩:=ah;exact .d _ _ (r6 i y v aH aS)
  .cases hg
 obtain⟨first,cap,w4,mb,ny,g1,g2⟩:=Rh;have fl:∀(i:Nat)(c:aX)(v:Value),(pre++args.toList.map (cm G σ.aQ)++post)[i]?=some c->(first++args.map a.eval++cap).toList[i]?=some v->cg m ρ σ.used c v:=by
  intro i c v ah aS;simp only[Array.toList_append,Array.toList_map]at aS;have aM:first.toList.length=pre.length:=by simpa using mb
  by_cases J:i<pre.length;.rw[xaK,xaq J]at ah;rw[xaK,xaq (by omega)]at aS;exact g1 i c v ah (by simpa using aS)
  .by_cases aa:i<pre.length+args.size;.rw[xaq (by simp;omega),xaz (by omega)]at ah;rw[xaq (by simp;omega),xaz (by omega),aM]at aS;simp only[xah,xaf]at ah aS;obtain⟨p,aU,rfl⟩:=ah;obtain⟨q,bU,rfl⟩:=aS;rw[aU]at bU;cases bU;exact dE _
   rw[xaz (by simp;omega)]at ah;rw[xaz (by simp;omega)]at aS;refine g2 _ c v ah ?_;rw[<-aS];simp only[xaP,xaW,xbV,mb];simp
 have bI:(first++args.map a.eval++cap).toList.length=(pre++args.toList.map (cm G σ.aQ)++post).length:=by simp[mb,ny]
 have Ri:(execOp a.eval o).run P w= .ok (.enter f (first++args.map a.eval++cap)) w:=by unfold execOp;rw[eb];exact YC w4 ax.fn
 unfold Oper.wp;rw[Ri];rcases ca with ca|ca
 ·
  have hD:=r3.ok aa (aj9 h bI fl J);have tN:=ax.run _ fr w _ (c0.mono (Den.CM m ρ σ.objs w)) h.Yr hD;simp only[Array.toArray_toList]at tN;refine tN.mono λe w' he=>?_;obtain⟨v,cB,r,rfl,bN,bO,cx,dX⟩:=he;have ct:=h.aka bO cx;exact⟨_,m,ρ,cR r bN,Mem.le_refl m,ct.put (.d _ _ (D.aj7 (ca r bN) dX)) jw,tL v,mT v,λk ai aj=>⟨by simpa using aj,rfl⟩⟩
 have Rj:r2 m od (first++args.map a.eval++cap).toList:=by obtain⟨g1,g2⟩:=r5 J;refine⟨by rw[bI,g1];simp,?_⟩;intro i d v ay aS;have g3:=g2 i d ay;rw[xah,xaf]at g3;obtain⟨y,aH,vu⟩:=g3;exact Rg (xaB.1 ca y (xad aH)) vu (fl i y v aH aS)
 have tN:=ax.run m _ w _ c0 h.Yw (r3.ok aa Rj);simp only[Array.toArray_toList]at tN;refine tN.mono λe w' he=>?_;obtain⟨v,cB,r,rfl,bN,bO,cx,dX⟩:=he;have ct:=h.kept bO cx;exact⟨_,cB,ρ,cR r bN,bO,ct.put (.d _ _ dX) jw,tL v,mT v,λk ai aj=>⟨by simpa using aj,rfl⟩⟩
def Rk(bp:dU P T)(c0:kz G m)(h:Den m fr ρ σ a w)(cj:N<=a.tmps.size)(hN:a.defers=[]){o:Oper}(gE:∀d,o.dst=some d->d<N){K:aO->Prop}(ah:dh P T G o K σ){Q:Exit->Act->World->Prop}:o.wp P a w (jv N m fr ρ σ K) Q:=by
 unfold dh at ah;split at ah;.exact ake bp c0 h cj hN gE (by assumption) ah
 exact akg c0 h cj hN gE ah
def Rl(bp:dU P T)(c0:kz G m)(h:Den m fr ρ σ a w)(cj:N<=a.tmps.size)(hN:a.defers=[]){all:Array Oper}{i:Nat}{o:Oper}(ag:all[i]?=some o)(gE:∀d,o.dst=some d->d<N){K:aO->Prop}(ah:eN P T G all o K σ) {Q:Exit->Act->World->Prop}:wpOp P all Q i (jv N m fr ρ σ K) a w:=by
 have jw:∀d,o.dst=some d->d<a.tmps.size:=λd ay=>xch (gE d ay) cj;unfold wpOp;simp only[ag];unfold eN at ah;split at ah
 .rename_i bL;have:Region.wanted o (yielded all a.tmps)=true:=by simp[Region.wanted,bL]
  rw[xac this];exact .inl (Rk bp c0 h cj hN gE ah)
 rename_i j want bL;split at ah
 case h_2=>cases ah
 rename_i d ay;have mU:∀v,a.tmps.getD d undef=v->yielded all a.tmps j=(match v with| .bool b=>some b|_=>none):=by intro v aS;unfold yielded;rw[ay];simp only[Option.bind_some];rw[xbj]at aS;cases b6:a.tmps[d]? with|none=>rw[b6]at aS;simp only[Option.getD_none]at aS;subst aS;rfl|some u=>rw[b6]at aS;simp only[xbr]at aS;subst aS;cases u<;>rfl
 have skip:Region.wanted o (yielded all a.tmps)=false->K (σ.put o.dst (.d (.val (.tuple #[]))))->jv N m fr ρ σ K (a.put o.dst undef) w:=λ_ ai=>⟨_,m,ρ,ai,Mem.le_refl m,h.put (.d _ _ (.val _)) jw,by cases o.dst<;>simpa[Act.put]using cj,by cases o.dst<;>exact hN,λk ai aj=>⟨by simpa using aj,rfl⟩⟩;split at ah
 .rename_i b az;have aS:=h.aQ d;rw[az]at aS;have aH:=mU _ aS.hY;simp only at aH;have hw:Region.wanted o (yielded all a.tmps)=(b==want):=by
   simp only[Region.wanted,bL,aH];cases b<;>cases want<;>rfl
  by_cases aj:b=want;.rw[xac aj]at ah;rw[hw,xac (by simpa using aj)];exact .inl (Rk bp c0 h cj hN gE ah)
  rw[xae aj]at ah;have bm:Region.wanted o (yielded all a.tmps)=false:=by rw[hw];simpa using aj
  rw[xae (by rw[bm];simp)];exact skip bm ah
 .rename_i vs az;have aS:=h.aQ d;rw[az]at aS;have aH:=mU _ aS.hY;simp only at aH;have bm:Region.wanted o (yielded all a.tmps)=false:=by
   simp only[Region.wanted,bL,aH];rfl
  rw[xae (by rw[bm];simp)];exact skip bm ah
 cases ah
def wpOp_mono{ops:Array Oper}{Q:Exit->Act->World->Prop}{i:Nat}{K K':Act->World->Prop}(ai:∀a w,K a w->K' a w){a:Act}{w:World}(h:wpOp P ops Q i K a w):wpOp P ops Q i K' a w:=by
 unfold wpOp at*;split;.rename_i e;simp only[e]at h;exact ai _ _ h
 rename_i o e;simp only[e]at h;split
 .rename_i hw;rw[xac hw]at h;rcases h with h|h
  .refine .inl ?_;unfold Oper.wp at*;generalize (execOp a.eval o).run P w=r at*;cases r with
   |ok n w'=>
    cases n<;>simp only[Oper.upon]at h⊢<;>first|exact ai _ _ h|exact h|skip
    .refine h.mono λe lq he=>?_;cases e with|returned v=>exact ai _ _ he|panicked c=>exact he|outgrown=>exact he
    exact h.mono λv lq he=>ai _ _ he
   |halt x w'=>cases x<;>exact h
  exact .inr h
 rename_i hw;rw[xae hw]at h;exact ai _ _ h
end
def LM{ev jx:Operand->aX}{l:List Operand}(h:∀x∈l,ev x=jx x):l.map ev=l.map jx:=List.map_congr_left h
theorem YD{ev jx:Operand->aX}{iT:Array (Nat×Operand)}(h:∀x∈(iT.toList.map (·.2)),ev x=jx x):(iT.toList.map λp=>(p.1,ev p.2))=iT.toList.map λp=>(p.1,jx p.2):=List.map_congr_left λp aU=>by rw[h p.2 (xaN.2 ⟨p,aU,rfl⟩)]
def akh{T:cn}{ev jx:Operand->aX}{op:Op}(h:∀x∈op.operands.toList,ev x=jx x):eM T ev op=eM T jx op:=by
 cases op<;>simp only[eM]
 case move x=>rw[h x (by simp[Op.operands])]
 case assign x=>rw[h x (by simp[Op.operands])]
 case pick c a b=>rw[h c (by simp[Op.operands]),h a (by simp[Op.operands]),h b (by simp[Op.operands])]
 case binOp op t x y zf=>rw[h x (by simp[Op.operands]),h y (by simp[Op.operands])]
 case unOp op t x=>rw[h x (by simp[Op.operands])]
 case convert s t x=>rw[h x (by simp[Op.operands])]
 case fieldAddr s x f=>rw[h x (by simp[Op.operands])]
 case field s x f=>rw[h x (by simp[Op.operands])]
 case extract x i=>rw[h x (by simp[Op.operands])]
 case build t parts=>rw[YD (by simpa[Op.operands]using h)]
 case index t x i=>rw[h x (by simp[Op.operands]),h i (by simp[Op.operands])]
 case makeFunc f first cap=>rw[LM (l:=first.toList) (λx ad=>h x (by simp[Op.operands]at ad⊢;exact .inl ad)),LM (l:=cap.toList) (λx ad=>h x (by simp[Op.operands]at ad⊢;exact .inr ad))]
 case makeInterface t x=>rw[h x (by simp[Op.operands])]
 case nilCheck x=>rw[h x (by simp[Op.operands])]
 case slice t x lo ag gj=>
  cases gj with
  |some _=>rfl
  |none=>
   simp only[eM];have aM:lo.map ev=lo.map jx:=by cases lo with|none=>rfl|some l=>simp only[xaJ];rw[h l (by simp[Op.operands])]
   have a8:ag.map ev=ag.map jx:=by cases ag with|none=>rfl|some l=>simp only[xaJ];rw[h l (by simp[Op.operands])]
   rw[h x (by simp[Op.operands]),aM,a8]
 case call c=>obtain⟨callee,args,dN⟩:=c;simp only;have e:args.toList.map ev=args.toList.map jx:=LM λx ad=>h x (by simp[Op.operands,Call.operands]at ad⊢;exact .inr ad);rw[e]
def aki{T:cn}{ev jx:Operand->aX}{objs:cD}{op:Op}(h:∀x∈op.operands.toList,ev x=jx x):dI T ev objs op=dI T jx objs op:=by
 cases op<;>simp only[dI]
 case convert s t x=>rw[h x (by simp[Op.operands])]
 case load t a=>rw[h a (by simp[Op.operands])]
 case indexAddr t x e0=>rw[h x (by simp[Op.operands]),h e0 (by simp[Op.operands])]
 case slice t x lo ag gj=>
  cases gj with
  |some _=>rfl
  |none=>
   simp only[dI];have aM:lo.map ev=lo.map jx:=by cases lo with|none=>rfl|some l=>simp only[xaJ];rw[h l (by simp[Op.operands])]
   have a8:ag.map ev=ag.map jx:=by cases ag with|none=>rfl|some l=>simp only[xaJ];rw[h l (by simp[Op.operands])]
   rw[h x (by simp[Op.operands]),aM,a8]
 case call c=>
  obtain⟨callee,args,dN⟩:=c;simp only;split
  .split
   .rename_i t x me dw;have aG:args= #[x]:=by apply xbN;simpa using dw
    have e:ev x=jx x:=h x (by simp[Op.operands,Call.operands,aG]);rw[e]
   rfl
  rfl
 case lookup t x k ok=>rw[h x (by simp[Op.operands]),h k (by simp[Op.operands])]
 case binOp op t x y zf=>rw[h x (by simp[Op.operands]),h y (by simp[Op.operands])]
def akj{T:cn}{ev jx:Operand->aX}{objs:cD}{d:Key}{op:Op}(h:∀x∈op.operands.toList,ev x=jx x):eF T ev objs d op=eF T jx objs d op:=by
 cases op<;>simp only[eF]
 case box t x=>rw[h x (by simp[Op.operands])]
 case buildSlice t n parts=>rw[YD (by simpa[Op.operands]using h)]
 case makeSlice t l c=>rw[h l (by simp[Op.operands]),h c (by simp[Op.operands])]
 case store t a x=>rw[h a (by simp[Op.operands]),h x (by simp[Op.operands])]
 case mapUpdate t m k x=>rw[h m (by simp[Op.operands]),h k (by simp[Op.operands]),h x (by simp[Op.operands])]
 case insert t m k x=>rw[h m (by simp[Op.operands]),h k (by simp[Op.operands]),h x (by simp[Op.operands])]
 case call c=>
  obtain⟨callee,args,dN⟩:=c;simp only;split
  .split
   .rename_i t t' s x me dw;have aG:args= #[s,x]:=by apply xbN;simpa using dw
    have aM:ev s=jx s:=h s (by simp[Op.operands,Call.operands,aG]);have a8:ev x=jx x:=h x (by simp[Op.operands,Call.operands,aG]);rw[aM,a8]
   rfl
  .split
   .rename_i t t' s x me dw;have aG:args= #[s,x]:=by apply xbN;simpa using dw
    have aM:ev s=jx s:=h s (by simp[Op.operands,Call.operands,aG]);have a8:ev x=jx x:=h x (by simp[Op.operands,Call.operands,aG]);rw[aM,a8]
   rfl
  .split
   .rename_i t s me dw;have aG:args= #[s]:=by apply xbN;simpa using dw
    rw[h s (by simp[Op.operands,Call.operands,aG])]
   rfl
  rfl
def akk{T:cn}{ev jx:Operand->aX}{objs:cD}{d:Key}{op:Op}(h:∀x∈op.operands.toList,ev x=jx x):hy T ev objs d op=hy T jx objs d op:=by unfold hy;rw[akj h]
def jg:Op->Bool
 | .move _| .assign _| .pick ..| .unOp ..| .fieldAddr ..| .field ..| .extract ..| .build ..| .index ..| .makeFunc ..| .makeInterface ..| .nilCheck _=>true|_=>false
def jI:Op->Bool
 | .load ..| .indexAddr ..| .slice ..| .lookup ..| .binOp ..| .convert ..=>true| .call ⟨.builtin b,_,_⟩=>match b with| .len| .max| .min=>true|_=>false
 |_=>false
def hP:Op->Bool
 | .call ⟨.value _,_,_⟩=>true|_=>false
def q9:Op->Bool
 | .alloc _| .box ..| .buildSlice ..=>true|_=>false
theorem CQ{T:cn}{ev:Operand->aX}{objs:cD}{d:Key}{op:Op}(h:jg op=true):dI T ev objs op=none/\hy T ev objs d op=none:=by cases op<;>first|exact⟨rfl,rfl⟩|cases h
def CR{T:cn}{ev:Operand->aX}{objs:cD}{d:Key}{op:Op}(h:jI op=true):hy T ev objs d op=none:=by
 cases op
 case call c=>
  obtain⟨callee,args,dN⟩:=c;cases callee with
  |value=>cases h
  |invoke=>cases h
  |builtin b=>cases b<;>first|rfl|cases h
 all_goals first|rfl|cases h
def Rm{T:cn}{ev:Operand->aX}{objs:cD}{d:Key}{op:Op}(h:hP op=true):eM T ev op=none/\dI T ev objs op=none/\hy T ev objs d op=none:=by
 cases op
 case call c=>
  obtain⟨callee,args,dN⟩:=c;cases callee with
  |value=>exact⟨rfl,rfl,rfl⟩|invoke=>cases h
  |builtin b=>cases h
 all_goals cases h
theorem r7{T:cn}{ev:Operand->aX}{objs:cD}{op:Op}(h:q9 op=true):eM T ev op=none/\dI T ev objs op=none:=by cases op<;>first|exact⟨rfl,rfl⟩|cases h
def akl{T:cn}{ev:Operand->aX}{objs objs':cD}{d:Key}{op:Op}(h:q9 op=true)(ar:objs' d=none){r:aX}{cF:List (Key×cX)}(he:eF T ev objs d op=some (r,cF)):eF T ev objs' d op=some (r,cF)/\objs d=none/\∃o,cF=[(d,o)]:=by
 cases op
 case alloc t=>
  simp only[eF]at he⊢;split at he
  case h_2=>cases he
  rename_i i aP ay;cases he;exact⟨by simp only[ar,aP],ay,_,rfl⟩
 case box t x=>
  simp only[eF]at he⊢;split at he
  case h_2=>cases he
  rename_i cs ah ay;cases he;exact⟨by simp only[ar,ah],ay,_,rfl⟩
 case buildSlice t n parts=>
  simp only[eF]at he⊢;split at he
  case h_2=>cases he
  rename_i e s b z aP ay;simp only[ar,aP];split at he
  case h_2=>cases he
  rename_i br jf
  try simp only[jf]
  split at he
  case h_2=>cases he
  rename_i es aU
  try simp only[aU]
  split at he
  case isFalse=>cases he
  rename_i ah;cases he;exact⟨by rw[xac ah],ay,_,rfl⟩
 all_goals cases h
def CS{T:cn}{ev:Operand->aX}{objs objs':cD}{d:Key}{op:Op}(h:q9 op=true)(ar:objs' d=none){r:aX}{cF:List (Key×cX)}(he:hy T ev objs d op=some (r,cF)):hy T ev objs' d op=some (r,cF)/\objs d=none/\∃o,cF=[(d,o)]:=by
 obtain⟨⟨jG,tJ⟩,g0,aj⟩:=xb he;obtain⟨g1,g2,o,rfl⟩:=akl (objs':=objs') h ar g0;refine⟨by unfold hy;rw[g1];simp[aj],g2,?_⟩;rcases zr (T.born d) d jG [(d,o)]with e|⟨n,es,aM,a8,e⟩|⟨q5,n,es,aM,a8,e⟩|⟨off,cs,aR,aM,a8,eS,e⟩;.rw[aj]at e;cases e;exact⟨o,rfl⟩
 .rw[aj]at e;cases e;exact⟨_,rfl⟩
 .cases a8
 rw[aj]at e;cases e;exact⟨_,rfl⟩
def cD.ext(objs objs':cD):Prop:=∀k o,objs k=some o->objs' k=some o
def cD.LN{objs:cD}{k:Key}(h:objs k=none)(o:cX):objs.ext (cv objs k (some o)):=by
 intro j x ad;have:j≠k:=by rintro rfl;rw[h]at ad;cases ad
 rw[c6 _ _ this];exact ad
def YE{objs objs':cD}(h:objs.ext objs'){x:aX}{n:Nat}(al:kA objs x=some n):kA objs' x=some n:=by
 unfold kA at*;split at al;.exact al
 .exact al
 .split at al;.rename_i ai;rw[h _ _ ai];exact al
  cases al
 .exact al
 cases al
def akm{objs objs':cD}(h:objs.ext objs'){x:aX}{es:List (List D)}(al:q3 objs x=some es):q3 objs' x=some es:=by
 unfold q3 at*;split at al;.exact al
 .exact al
 .split at al;.rename_i ai;rw[h _ _ ai];exact al
  cases al
 .split at al;.rename_i ai;rw[h _ _ ai];exact al
  cases al
 cases al
def LO{objs objs':cD}(h:objs.ext objs'){x:aX}{b:Bool}(al:nz objs x=some b):nz objs' x=some b:=by
 unfold nz at*;split at al;.exact al
 .exact al
 .split at al;.rename_i ai;rw[h _ _ ai];exact al
  cases al
 cases al
def YF{objs objs':cD}(h:objs.ext objs'){x:aX}{d:D}(al:r4 objs x=some d):r4 objs' x=some d:=by
 unfold r4 at*;split at al;.exact al
 .split at al;.rename_i ai;rw[h _ _ ai];exact al
  cases al
 .split at al;.rename_i ai;rw[h _ _ ai];exact al
  cases al
 .split at al;.rename_i ai;rw[h _ _ ai];exact al
  cases al
 cases al
def ql{α:Type}{f g:aX->Option α}(h:∀x d,f x=some d->g x=some d):∀(l:List aX)(r:List α),hM (l.map f)=some r->hM (l.map g)=some r
 |[],r,av=>av
 |x::l,r,av=>by
  simp only[xaw]at av⊢;cases ad:f x with
  |none=>simp[ad,hM]at av
  |some d=>
   rw[ad]at av;simp only[hM]at av;split at av
   case h_2=>cases av
   rename_i kc eI;rw[h x d ad];simp only[hM,ql h l kc eI];exact av
def LP{objs objs':cD}(h:objs.ext objs'){x:aX}{d:D}(al:ob objs x=some d):ob objs' x=some d:=by
 unfold ob at*;split at al
 .split at al
  case h_2=>cases al
  rename_i ai;simp only[h _ _ ai];split at al
  case h_2=>cases al
  rename_i cs h0;rw[ql (λx d ad=>YF h ad) _ _ h0];exact al
 .exact al
 exact YF h al
def YG{objs objs':cD}(h:objs.ext objs'){x:aX}{d:D}(al:pF objs x=some d):pF objs' x=some d:=by
 unfold pF at*;split at al
 .split at al
  case h_2=>cases al
  rename_i aR eS;rw[ql (λx d ad=>LP h ad) _ _ eS];exact al
 .split at al
  case h_2=>cases al
  rename_i as jH has Ge;rw[ql (λx d ad=>LP h ad) _ _ has,ql (λx d ad=>LP h ad) _ _ Ge];exact al
 exact LP h al
def akn{objs objs':cD}(h:objs.ext objs'){x:aX}{d:D}(al:toD objs x=some d):toD objs' x=some d:=by
 unfold toD at*;split at al
 .split at al
  case h_2=>cases al
  rename_i aR eS;rw[ql (λx d ad=>YG h ad) _ _ eS];exact al
 exact YG h al
def ako{T:cn}{ev:Operand->aX}{objs objs':cD}(h:objs.ext objs'){op:Op}{r:aX}(hm:dI T ev objs op=some r):dI T ev objs' op=some r:=by
 cases op<;>simp only[dI,reduceCtorEq]at hm⊢
 case convert s t x=>
  split at hm
  case h_2=>cases hm
  rename_i aM a8;split at hm
  case h_2=>cases hm
  rename_i b0;split at hm
  case h_2=>cases hm
  rename_i es he;simp only[aM,a8,b0,akm h he];exact hm
 case load t a=>
  split at hm
  case h_2=>cases hm
  split at hm;.exact hm
  .split at hm
   case h_2=>cases hm
   rename_i ai;simp only[h _ _ ai];exact hm
  .split at hm
   case h_2=>cases hm
   rename_i ai;simp only[h _ _ ai];exact hm
  cases hm
 case indexAddr t x e0=>
  split at hm
  .split at hm
   case h_2=>cases hm
   split at hm
   case isFalse=>cases hm
   rename_i ar;rw[xac ar];split at hm;.exact hm
   .split at hm
    case h_2=>cases hm
    rename_i ai;simp only[h _ _ ai];exact hm
   .exact hm
   cases hm
  .exact hm
  cases hm
 case slice t x lo ag gj=>
  cases gj with
  |some _=>simp[dI]at hm
  |none=>
   simp only[dI]at hm⊢;split at hm
   case h_3=>cases hm
   case h_2=>exact hm
   split at hm
   case h_2=>cases hm
   split at hm
   case h_2=>cases hm
   rename_i n aN;simp only[YE h aN];split at hm
   case h_2=>cases hm
   split at hm
   case isFalse=>cases hm
   rename_i ah;rw[xac ah];split at hm;.exact hm
   .split at hm
    case h_2=>cases hm
    rename_i ai;simp only[h _ _ ai];exact hm
   .exact hm
   cases hm
 case call c=>
  split at hm
  case h_2=>cases hm
  split at hm
  case h_2=>cases hm
  split at hm;.exact hm
  .split at hm
   case h_2=>cases hm
   rename_i n aN;simp only[YE h aN];exact hm
  .exact hm
  .exact hm
  .split at hm
   case h_2=>cases hm
   rename_i ai;simp only[h _ _ ai];exact hm
  cases hm
 case lookup t x k ok=>
  split at hm
  case h_2=>cases hm
  split at hm;.exact hm
  .exact hm
  .split at hm
   case h_2=>cases hm
   rename_i ai;simp only[h _ _ ai];exact hm
  cases hm
 case binOp op t x y zf=>
  split at hm
  case h_2=>cases hm
  split at hm
  .split at hm
   .rename_i ah;rw[xac ah];split at hm
    case h_2=>cases hm
    rename_i b aj;simp only[LO h aj];exact hm
   rename_i ah;rw[xae ah];split at hm
   case isFalse=>cases hm
   rename_i r8;rw[xac r8];split at hm
   case h_2=>cases hm
   rename_i b aj;simp only[LO h aj];exact hm
  .split at hm
   .rename_i ah;rw[xac ah];split at hm
    case h_2=>cases hm
    rename_i b aj;simp only[LO h aj];exact hm
   rename_i ah;rw[xae ah];split at hm
   case isFalse=>cases hm
   rename_i r8;rw[xac r8];split at hm
   case h_2=>cases hm
   rename_i b aj;simp only[LO h aj];exact hm
  cases hm
def YH:∀(cF:List (Key×cX)) {objs:cD} {k:Key} {o:cX},(∀p∈cF,p.1≠k)->dM (cv objs k (some o)) cF=cv (dM objs cF) k (some o)
 |[],objs,k,o,_=>rfl
 |(j,x)::r,objs,k,o,h=>by
  have aA:j≠k:=h (j,x) (by simp);simp only[dM];have e:cv (cv objs k (some o)) j (some x)=cv (cv objs j (some x)) k (some o):=by
   funext i
   simp only[cv];by_cases J:i=j;.subst J;simp[aA]
   by_cases aa:i=k;.subst aa;simp[J]
   simp[J,aa]
  rw[e];exact YH r (λp aU=>h p (by simp[aU]))
def LQ{objs objs':cD}(h:objs.ext objs'){x:aX}{r:Nat×List (List D)}(al:mP objs x=some r):mP objs' x=some r:=by
 unfold mP at*;split at al;.exact al
 .exact al
 .split at al;.rename_i ai;rw[h _ _ ai];exact al
  cases al
 .split at al;.rename_i ai;rw[h _ _ ai];exact al
  cases al
 cases al
def akp{T:cn}{ev:Operand->aX}{objs objs':cD}(h:objs.ext objs'){d k:Key}(ay:d≠k)(ai:objs k=none)(lO:objs d=none->objs' d=none){op:Op}{r:aX}{cF:List (Key×cX)} (he:eF T ev objs d op=some (r,cF)):eF T ev objs' d op=some (r,cF)/\∀p∈cF,p.1≠k:=by
 have one:∀{o:cX},∀p∈[(d,o)],p.1≠k:=by intro o p aU;simp at aU;subst aU;exact ay
 have iS:∀{j:Key}{x o:cX},objs j=some x->∀p∈[(j,o)],p.1≠k:=by intro j x o aA p aU;simp at aU;subst aU;rintro rfl;rw[ai]at aA;cases aA
 cases op<;>simp only[eF,reduceCtorEq]at he
 case alloc t=>split at he<;>cases he;rename_i i aP ar;exact⟨by simp only[eF,aP,lO ar],one⟩
 case box t x=>split at he<;>cases he;rename_i cs ah ar;exact⟨by simp only[eF,ah,lO ar],one⟩
 case buildSlice t n parts=>
  split at he
  case h_2=>cases he
  rename_i e s b z aP ar;split at he
  case h_2=>cases he
  rename_i br jf;split at he
  case h_2=>cases he
  rename_i es aU;split at he
  case isFalse=>cases he
  rename_i ah;cases he;exact⟨by simp only[eF,aP,lO ar,jf,aU];rw[xac ah],one⟩
 case makeSlice t l c=>
  split at he
  case h_2=>cases he
  rename_i e s b z aP ar;split at he
  case h_2=>cases he
  rename_i br jf;split at he
  case h_2=>cases he
  rename_i Ly ajW Lz ajX J aa;split at he
  case isFalse=>cases he
  rename_i ah;cases he;exact⟨by simp only[eF,aP,lO ar,jf,J,aa];rw[xac ah],one⟩
 case makeMap t r=>split at he<;>cases he;rename_i ar;exact⟨by simp only[eF,lO ar],one⟩
 case store t a x=>
  split at he
  case h_2=>cases he
  rename_i i cs aP ah;split at he
  case isFalse=>cases he
  rename_i al;split at he
  .rename_i j off hx;split at he
   case h_2=>cases he
   rename_i cells aA;split at he
   case isFalse=>cases he
   rename_i bm;cases he;exact⟨by simp only[eF,aP,ah,hx,h _ _ aA];rw[xac al,xac bm],iS aA⟩
  .rename_i j cY e0 off hx;split at he
   case h_2=>cases he
   rename_i bG es aR aA eS;split at he
   case isFalse=>cases he
   rename_i bm;split at he
   case h_2=>cases he
   rename_i el ej;cases he;exact⟨by simp only[eF,aP,ah,hx,h _ _ aA,eS];rw[xac al,xac bm];simp only[ej],iS aA⟩
  cases he
 case mapUpdate t m akq x=>
  split at he
  case h_2=>cases he
  rename_i iF jt s b z aP;split at he
  case h_2=>cases he
  rename_i im tH;split at he
  case isFalse=>cases he
  rename_i dA;split at he
  case h_2=>cases he
  rename_i key fi Q8 aM a8 b0;split at he
  case h_2=>cases he
  rename_i es aA;split at he
  case h_2=>cases he
  rename_i l al;cases he;exact⟨by simp only[eF,aP,tH,aM,a8,b0,h _ _ aA,al];rw[xac dA],iS aA⟩
 case insert t m akq x=>
  split at he
  case h_2=>cases he
  rename_i iF jt s b z aP;split at he
  case h_2=>cases he
  rename_i im tH;split at he
  case isFalse=>cases he
  rename_i dA;split at he
  case h_2=>cases he
  rename_i key fi Q8 aM a8 b0;split at he
  case h_2=>cases he
  rename_i es aA;split at he
  case h_2=>cases he
  rename_i l al;cases he;exact⟨by simp only[eF,aP,tH,aM,a8,b0,h _ _ aA,al];rw[xac dA],iS aA⟩
 case call c=>
  obtain⟨callee,args,dN⟩:=c;simp only at he;split at he
  .split at he
   case h_2=>cases he
   rename_i t t' s x me dw;split at he
   case h_2=>cases he
   rename_i e s1 fH lM dx s2 hI z2 aP q7 ar;split at he
   case h_2=>cases he
   rename_i br jf;split at he
   case h_2=>cases he
   rename_i cY xs mR;split at he
   case isFalse=>cases he
   rename_i ah;split at he
   .rename_i gl;split at he
    case isFalse=>cases he
    rename_i aj;cases he;exact⟨by simp only[eF,me,dw,aP,q7,lO ar,jf,LQ h mR,gl];rw[xac ah,xac aj],one⟩
   .rename_i key gl;split at he
    case h_2=>cases he
    rename_i bG es aA;split at he
    case isFalse=>cases he
    rename_i aj;cases he;refine⟨by simp only[eF,me,dw,aP,q7,lO ar,jf,LQ h mR,gl,h _ _ aA];rw[xac ah,xac aj],?_⟩;intro p aU;simp at aU;rcases aU with rfl|rfl
    .rintro rfl;rw[ai]at aA;cases aA
    exact ay
   cases he
  .split at he
   case h_2=>cases he
   rename_i t t' s x me dw;split at he
   case h_2=>cases he
   rename_i e s1 fH lM aP;split at he
   case h_2=>cases he
   rename_i br jf;split at he
   case h_2=>cases he
   rename_i cY xs mR;split at he
   case isFalse=>cases he
   rename_i ah;split at he
   .rename_i key gl;split at he
    case h_2=>cases he
    rename_i bG es aA;split at he
    case isFalse=>cases he
    rename_i aj;cases he;exact⟨by simp only[eF,me,dw,aP,jf,LQ h mR,gl,h _ _ aA];rw[xac ah,xac aj],iS aA⟩
   .rename_i key ea i len gl;split at he
    case h_2=>cases he
    rename_i bG es aA;split at he
    case isFalse=>cases he
    rename_i aj;cases he;exact⟨by simp only[eF,me,dw,aP,jf,LQ h mR,gl,h _ _ aA];rw[xac ah,xac aj],iS aA⟩
   cases he
  .split at he
   case h_2=>cases he
   rename_i t s me dw;split at he
   case h_2=>cases he
   rename_i e s1 fH lM aP;split at he
   case h_2=>cases he
   rename_i br jf;split at he
   case h_2=>cases he
   rename_i key ea i len gl;split at he
   case h_2=>cases he
   rename_i bG es aA;split at he
   case isFalse=>cases he
   rename_i aj;cases he;exact⟨by simp only[eF,me,dw,aP,jf,gl,h _ _ aA];rw[xac aj],iS aA⟩
  cases he
def akr{T:cn}{ev:Operand->aX}{objs objs':cD}(h:objs.ext objs'){d k:Key}(ay:d≠k)(ai:objs k=none)(lO:objs d=none->objs' d=none){op:Op}{r:aX}{cF:List (Key×cX)} (he:hy T ev objs d op=some (r,cF)):hy T ev objs' d op=some (r,cF)/\∀p∈cF,p.1≠k:=by obtain⟨⟨jG,tJ⟩,g0,aj⟩:=xb he;obtain⟨g1,g2⟩:=akp (objs':=objs') h ay ai lO g0;refine⟨by unfold hy;rw[g1];simp[aj],λp aU=>?_⟩;have ax:=aj3 (b:=T.born d) (d:=d) (q:=(jG,tJ)) p (by rw[aj];exact aU);obtain⟨pE,bj,ca⟩:=ax;rw[<-ca];exact g2 pE bj
def res(T:cn)(G:ds)(σ:aO)(o:Oper):Option (aX×List (Key×cX)):=match eM T (cm G σ.aQ) o.op with|some r=>some (r,[])|none=>match dI T (cm G σ.aQ) σ.objs o.op with|some r=>some (r,[])|none=>hy T (cm G σ.aQ) σ.objs (o.dst.getD 9999) o.op
def aO.step(σ:aO)(dst:Option Tmp)(r:aX)(cF:List (Key×cX)):aO:=aO.put ⟨σ.aQ,dM σ.objs cF⟩ dst r
theorem xh{T:cn}{G:ds}{σ:aO}{o:Oper}:hf T G σ o=(res T G σ o).map λp=>σ.step o.dst p.1 p.2:=by unfold hf res aO.step;cases eM T (cm G σ.aQ) o.op with|some r=>rfl|none=>cases dI T (cm G σ.aQ) σ.objs o.op with|some r=>rfl|none=>cases hy T (cm G σ.aQ) σ.objs (o.dst.getD 9999) o.op with|none=>rfl|some p=>obtain⟨r,cF⟩:=p;rfl
theorem aks{G:ds}{σ:aO}{dst:Option Tmp}{r:aX}{x:Operand}(h:∀d,dst=some d->x≠ .tmp d):cm G (σ.put dst r).aQ x=cm G σ.aQ x:=by cases dst with|none=>rfl|some d=>cases x with|tmp t=>have:t≠d:=λe=>h d rfl (by rw[e]);simp only[cm,aO.put,c6 _ _ this]|_=>rfl
theorem akt{all:Array Oper}{o:Oper}{d:Tmp}(h:d∉o.looksAt all):∀x∈o.op.operands.toList,x≠ .tmp d:=by rintro x ad rfl;exact h (by unfold Oper.looksAt;exact xaZ _ (List.mem_filterMap.2 ⟨_,ad,rfl⟩))
def aku{all:Array Oper}{o:Oper}{d:Tmp}(h:d∉o.looksAt all){j:Nat}{b:Bool}(bL:o.guard=some (j,b)){e:Tmp}(he:(all[j]?).bind (·.dst)=some e):e≠d:=by rintro rfl;exact h (by unfold Oper.looksAt;exact xbS _ (by simp[bL,he]))
def put_comm{σ:aO}{x y:Option Tmp}{r s:aX}(h:∀d,x=some d->y≠some d):(σ.put x r).put y s=(σ.put y s).put x r:=by
 cases x with
 |none=>rfl
 |some d=>
  cases y with
  |none=>rfl
  |some e=>
   have cp:d≠e:=λhe=>h d rfl (by rw[he]);simp only[aO.put]
   congr 1
   funext t
   simp only[cv];by_cases J:t=d;.subst J;simp[cp]
   by_cases aa:t=e;.subst aa;simp[J]
   simp[J,aa]
def pass(x y:Oper):Bool:=jg x.op||jg y.op||((jI x.op||hP x.op)&&(jI y.op||hP y.op)&&!(hP x.op&&hP y.op))||(q9 y.op&&match y.dst with|some d=>decide (d<9999)|none=>false)
def kd(all:Array Oper)(σ:aO)(o:Oper):Option Bool:=match o.guard with
 |none=>some true
 |some (j,want)=>match(all[j]?).bind (·.dst)with
  |some d=>match σ.aQ d with| .d (.val (.bool b))=>some (decide (b=want))| .d (.val (.tuple _))=>some false|_=>none
  |none=>none
section
variable{P:Program}{T:cn}{G:ds}{all:Array Oper}
def h1{o:Oper}{K:aO->Prop}{σ:aO}:eN P T G all o K σ=match kd all σ o with|some true=>dh P T G o K σ|some false=>K (σ.put o.dst (.d (.val (.tuple #[]))))|none=>False:=by
 unfold eN kd;cases bL:o.guard with
 |none=>rfl
 |some p=>
  obtain⟨j,want⟩:=p;simp only;cases ay:(all[j]?).bind (·.dst)with
  |none=>rfl
  |some d=>
   simp only;generalize σ.aQ d=x;cases x with
   |d x=>
    cases x with
    |val v=>cases v with|bool b=>by_cases h:b=want<;>simp[h]|_=>rfl
    |_=>rfl
   |_=>rfl
def pG{o:Oper}{σ:aO}{dst:Option Tmp}{r:aX}(h:∀d,dst=some d->d∉o.looksAt all):kd all (σ.put dst r) o=kd all σ o:=by
 unfold kd;split;.rfl
 rename_i j want bL;split
 .rename_i e he;have az:(σ.put dst r).aQ e=σ.aQ e:=by
   cases dst with|none=>rfl|some d=>simp only[aO.put,c6 _ _ (aku (h d rfl) bL he)]
  rw[az]
 rfl
def YI{o:Oper}{σ:aO}{dst:Option Tmp}{r:aX}(h:∀d,dst=some d->d∉o.looksAt all):∀x∈o.op.operands.toList,cm G (σ.put dst r).aQ x=cm G σ.aQ x:=λx ad=>aks λd ay=>akt (h d ay) x ad
def akv{o:Oper}{σ:aO}{dst:Option Tmp}{r:aX}(h:∀d,dst=some d->d∉o.looksAt all):res T G (σ.put dst r) o=res T G σ o:=by have dE:=YI (G:=G) (σ:=σ) (r:=r) h;unfold res;rw[akh dE,aki dE,akk dE,aO.xe]
theorem akw{σ:aO}{LR Rn:Option Tmp}{r s:aX}{cF:List (Key×cX)}(h:∀d,LR=some d->Rn≠some d):(σ.put LR r).step Rn s cF=(σ.step Rn s cF).put LR r:=by unfold aO.step;rw[<-put_comm h];cases LR<;>rfl
def akx{o:Oper}{σ:aO}{dst:Option Tmp}{r:aX}{K:aO->Prop}(h:∀d,dst=some d->d∉o.looksAt all)(cp:∀d,dst=some d->o.dst≠some d):jX P G o (σ.put dst r) K=jX P G o σ (λa1=>K (a1.put dst r)):=by
 have dE:=YI (G:=G) (σ:=σ) (r:=r) h;unfold jX;split
 .rename_i x args dN eb;have aM:cm G (σ.put dst r).aQ x=cm G σ.aQ x:=dE x (by rw[eb];simp[Op.operands,Call.operands]);have a8:args.toList.map (cm G (σ.put dst r).aQ)=args.toList.map (cm G σ.aQ):=LM λy aH=>dE y (by rw[eb];simp[Op.operands,Call.operands];exact .inr (by simpa using aH));rw[aM];split
  .rename_i f pre post hg;unfold YB;rw[a8,aO.xe];simp only[put_comm cp]
  rfl
 rfl
def jY{o:Oper}{σ:aO}{dst:Option Tmp}{r:aX}{K:aO->Prop}(h:∀d,dst=some d->d∉o.looksAt all)(cp:∀d,dst=some d->o.dst≠some d):dh P T G o K (σ.put dst r)=dh P T G o (λa1=>K (a1.put dst r)) σ:=by unfold dh;rw[xh,xh,akv h];cases av:res T G σ o with|none=>exact akx h cp|some p=>simp only[xaJ,akw cp]
def aky{ev:Operand->aX}{objs:cD}{d:Key}{op:Op}{p:aX×List (Key×cX)}(h:hy T ev objs d op=some p)(objs':cD):eM T ev op=none/\dI T ev objs' op=none:=by
 obtain⟨q,J,_⟩:=xb h;clear h;cases op<;>first|exact⟨rfl,rfl⟩|(simp only[eF,reduceCtorEq]at J;done)|skip
 case call c=>obtain⟨callee,args,dN⟩:=c;cases callee with|value=>exact⟨rfl,rfl⟩|invoke=>exact⟨rfl,rfl⟩|builtin b=>cases b<;>first|exact⟨rfl,rfl⟩|(simp only[eF,reduceCtorEq]at J;done)
def akz{ev:Operand->aX}{op:Op}{r:aX}(h:eM T ev op=some r):jg op=true\/jI op=true:=by
 cases op
 case call c=>obtain⟨callee,args,dN⟩:=c;cases callee with|value=>exact absurd h (by simp[eM])|invoke=>exact absurd h (by simp[eM])|builtin b=>cases b<;>first|exact .inr rfl|exact absurd h (by simp[eM])
 all_goals first|exact .inl rfl|exact .inr rfl|exact absurd h (by simp[eM])
def akA{ev:Operand->aX}{objs:cD}{op:Op}{r:aX}(h:dI T ev objs op=some r):jg op=true\/jI op=true:=by
 cases op
 case call c=>obtain⟨callee,args,dN⟩:=c;cases callee with|value=>exact absurd h (by simp[dI])|invoke=>exact absurd h (by simp[dI])|builtin b=>cases b<;>first|exact .inr rfl|exact absurd h (by simp[dI])
 all_goals first|exact .inl rfl|exact .inr rfl|exact absurd h (by simp[dI])
def YJ:∀(cF:List (Key×cX)) {objs:cD} {k:Key},dM objs cF k=none->objs k=none/\∀p∈cF,p.1≠k
 |[],objs,k,h=>⟨h,by simp⟩
 |(j,x)::r,objs,k,h=>by
  obtain⟨J,aa⟩:=YJ r h;have aA:j≠k:=by rintro rfl;rw[ff]at J;cases J
  rw[c6 _ _ (xbY aA)]at J;exact⟨J,by intro p aU;rcases xam.1 aU with rfl|aU;exact aA;exact aa p aU⟩
def zt{o:Oper}{σ:aO}{K:aO->Prop}(h:jX P G o σ K):hP o.op=true:=by
 unfold jX at h;split at h;.rename_i x args dN eb;rw[eb];rfl
 cases h
def Gg{op:Op}(h:hP op=true):jg op=false/\jI op=false/\q9 op=false:=by
 cases op<;>first|cases h|skip
 case call c=>
  obtain⟨callee,args,dN⟩:=c;cases callee with
  |value=>exact⟨rfl,rfl,rfl⟩|invoke=>cases h
  |builtin b=>cases h
def akB{o:Oper}{aQ:Nat->aX}{objs objs':cD}(h:objs.ext objs'){r:aX}(av:res T G ⟨aQ,objs⟩ o=some (r,[]))(ai:jg o.op=true\/jI o.op=true):res T G ⟨aQ,objs'⟩ o=some (r,[]):=by
 unfold res at*;simp only at*;split at av;.exact av
 rename_i aU;split at av;.rename_i YK hm;simp only[ako h hm];exact av
 rename_i hm;rcases ai with ai|ai
 .rw[(CQ (T:=T) (ev:=cm G aQ) (objs:=objs) (d:=o.dst.getD 9999) ai).2]at av;cases av
 rw[CR ai]at av;cases av
def LS{o:Oper}{σ:aO}{r:aX}{cF:List (Key×cX)}(av:res T G σ o=some (r,cF))(ai:jg o.op=true\/jI o.op=true):cF=[]:=by
 unfold res at av;split at av;.cases av;rfl
 split at av;.cases av;rfl
 rcases ai with ai|ai;.rw[(CQ (T:=T) (ev:=cm G σ.aQ) (objs:=σ.objs) (d:=o.dst.getD 9999) ai).2]at av;cases av
 rw[CR ai]at av;cases av
def YL{o:Oper}{aQ:Nat->aX}{objs objs':cD}{p:aX×List (Key×cX)}(av:res T G ⟨aQ,objs⟩ o=some p)(ai:jg o.op=true):res T G ⟨aQ,objs'⟩ o=some p/\p.2=[]:=by
 unfold res at*;simp only at*;split at av;.cases av;exact⟨rfl,rfl⟩
 rw[(CQ (T:=T) (ev:=cm G aQ) (objs:=objs) (d:=o.dst.getD 9999) ai).1,(CQ (T:=T) (ev:=cm G aQ) (objs:=objs) (d:=o.dst.getD 9999) ai).2]at av;cases av
def vv{o:Oper}{σ:aO}(ai:hP o.op=true):res T G σ o=none:=by unfold res;obtain⟨J,aa,ax⟩:=Rm (T:=T) (ev:=cm G σ.aQ) (objs:=σ.objs) (d:=o.dst.getD 9999) ai;rw[J,aa,ax]
theorem mV{o:Oper}{σ:aO}{K:aO->Prop}{r:aX}{cF:List (Key×cX)}(av:res T G σ o=some (r,cF)):dh P T G o K σ=K (σ.step o.dst r cF):=by unfold dh;rw[xh,av];rfl
theorem oL{o:Oper}{σ:aO}{K:aO->Prop}(av:res T G σ o=none):dh P T G o K σ=jX P G o σ K:=by unfold dh;rw[xh,av];rfl
def Gh{o:Oper}{σ:aO}{K K':aO->Prop}(h:jX P G o σ K)(ai:∀r,K (σ.put o.dst r)->K' (σ.put o.dst r)):jX P G o σ K':=by
 unfold jX at*;split
 .rename_i x args dN eb;rw[eb]at h;simp only at h;split;.rename_i f pre post hg;simp only[hg]at h;obtain⟨od,aR,R,J,aa,ax,bj,ca,cR⟩:=h;exact⟨od,aR,R,J,aa,ax,bj,ca,λr av=>ai _ (cR r av)⟩
  rename_i hg;simp only[hg]at h
 rename_i eb;split at h;.rename_i x args dN e;exact absurd e (eb x args dN)
 exact h
def YM{x y:Oper}{σ:aO}{K:aO->Prop}(J:∀d,x.dst=some d->d∉y.looksAt all)(aa:∀d,x.dst=some d->y.dst≠some d)(ax:∀d,y.dst=some d->d∉x.looksAt all)(aU:pass x y=true) (h:dh P T G x (λgL=>dh P T G y K gL) σ):dh P T G y (λgm=>dh P T G x K gm) σ:=by
 have gT:∀d,y.dst=some d->x.dst≠some d:=λd ay ad=>aa d ad ay;obtain⟨aQ,objs⟩:=σ;have Gi:∀{o:Oper}{r:aX}{u:List (Key×cX)},aO.step ⟨aQ,objs⟩ o.dst r u=aO.put ⟨aQ,dM objs u⟩ o.dst r:=rfl;cases kZ:res T G ⟨aQ,objs⟩ x with
 |none=>
  rw[oL kZ]at h;have Gj:=zt h;obtain⟨oe,xi,YN⟩:=Gg Gj;have aH:(jg y.op=true\/jI y.op=true)\/(q9 y.op=true/\∃d,y.dst=some d/\d<9999):=by simp only[pass,oe,xi,Gj,xbG,xbs]at aU;cases lP:jg y.op with|true=>exact .inl (.inl rfl)|false=>cases cQ:jI y.op with|true=>exact .inl (.inr rfl)|false=>simp only[lP,cQ,xbG]at aU;cases dm:q9 y.op with|false=>simp[dm]at aU|true=>refine .inr ⟨rfl,?_⟩;simp only[dm,xbs]at aU;cases ay:y.dst with|none=>simp[ay]at aU|some d=>simp[ay]at aU;exact⟨d,rfl,aU⟩
  have xg:hP y.op=false:=by
   cases ck:hP y.op with
   |false=>rfl
   |true=>
    obtain⟨a,b,c⟩:=Gg ck;rcases aH with(e|e)|⟨e,_⟩;.rw[a]at e;cases e
    .rw[b]at e;cases e
    rw[c]at e;cases e
  unfold jX at h;split at h
  case h_2=>cases h
  rename_i YO args dN eb;split at h
  case h_2=>cases h
  rename_i f pre post hg;obtain⟨od,aR,R,bN,bO,cx,⟨jG,rfl⟩,eO,fB⟩:=h;have CT:dh P T G y K (aO.put ⟨aQ,objs⟩ x.dst (.d jG)):=fB jG rfl;rw[jY J aa]at CT;cases ke:res T G ⟨aQ,objs⟩ y with
  |none=>rw[oL ke]at CT;have:=zt CT;rw[xg]at this;cases this
  |some p=>
   obtain⟨ra,r9⟩:=p;rw[mV ke];have qm:cD.ext objs (dM objs r9):=by
    rcases aH with aH|⟨aH,_⟩;.rw[LS ke aH];exact λ_ _ h=>h
    have xj:hy T (cm G aQ) objs (y.dst.getD 9999) y.op=some (ra,r9):=by unfold res at ke;simp only[(r7 (T:=T) (ev:=cm G aQ) (objs:=objs) aH).1,(r7 (T:=T) (ev:=cm G aQ) (objs:=objs) aH).2]at ke;exact ke
    obtain⟨bT,aN,o,rfl⟩:=CS (objs':=λ_=>none) aH rfl xj;exact cD.LN aN o
   show dh P T G x K (aO.step ⟨aQ,objs⟩ y.dst ra r9);rw[Gi,jY ax gT,oL (vv Gj)];unfold jX;rw[eb];simp only[hg];refine⟨od,aR,_,ql (λx d ad=>akn qm ad) _ _ bN,bO,cx,⟨jG,rfl⟩,eO,λr av=>?_⟩;have YP:dh P T G y K (aO.put ⟨aQ,objs⟩ x.dst (.d r)):=fB r av;rw[jY J aa,mV ke,Gi,put_comm gT]at YP;exact YP
 |some p=>
  obtain⟨rx,qn⟩:=p;rw[mV kZ,Gi,jY J aa]at h;cases ke:res T G ⟨aQ,dM objs qn⟩ y with
  |none=>
   rw[oL ke]at h;have xg:=zt h;obtain⟨oe,xi,YN⟩:=Gg xg;have ad:jg x.op=true\/jI x.op=true:=by simp only[pass,oe,xi,YN,xg,xbG,Bool.or_false,xcd,xbw,Bool.or_true]at aU;cases lP:jg x.op with|true=>exact .inl rfl|false=>cases cQ:jI x.op with|true=>exact .inr rfl|false=>cases ck:hP x.op<;>simp[lP,cQ,ck]at aU
   have LU:=LS kZ ad;subst LU;rw[oL (show res T G ⟨aQ,objs⟩ y=none from ke)];refine Gh h λr av=>?_;rw[jY ax gT,mV kZ,Gi,put_comm aa];exact av
  |some p=>
   obtain⟨ra,r9⟩:=p;rw[mV ke]at h;have xk:aO.step ⟨aQ,dM objs qn⟩ y.dst ra r9=aO.put ⟨aQ,dM (dM objs qn) r9⟩ y.dst ra:=rfl;rw[xk]at h;have Ro:∀{zu:List (Key×cX)} {LV:aX},res T G ⟨aQ,objs⟩ y=some (LV,zu)->(∃Gk,res T G ⟨aQ,dM objs zu⟩ x=some (rx,Gk)/\LV=ra/\dM (dM objs zu) Gk=dM (dM objs qn) r9)->dh P T G y (λgm=>dh P T G x K gm) ⟨aQ,objs⟩:=by rintro zu LV aM ⟨Gk,a8,rfl,b0⟩;rw[mV aM];show dh P T G x K (aO.step ⟨aQ,objs⟩ y.dst LV zu);rw[Gi,jY ax gT,mV a8];have:aO.step ⟨aQ,dM objs zu⟩ x.dst rx Gk=aO.put ⟨aQ,dM (dM objs zu) Gk⟩ x.dst rx:=rfl;rw[this,b0,put_comm aa];exact h
   by_cases Gl:jg x.op=true\/jI x.op=true
   .have LU:=LS kZ Gl;subst LU;refine Ro ke ⟨[],?_,rfl,rfl⟩;by_cases LW:jg y.op=true\/jI y.op=true;.rw[LS ke LW];exact kZ
    by_cases YQ:jg x.op=true;.exact(YL kZ YQ).1
    
    have aH:q9 y.op=true:=by
     rw[not_or]at LW;have aI:jg x.op=false:=by simpa using YQ
     have a2:jg y.op=false:=by simpa using LW.1
     have a3:jI y.op=false:=by simpa using LW.2
     simp only[pass,aI,a2,a3,xbG]at aU;cases dm:q9 y.op with|true=>rfl|false=>cases ck:hP y.op with|false=>simp[dm,ck]at aU|true=>rw[vv ck]at ke;cases ke
    have xj:hy T (cm G aQ) objs (y.dst.getD 9999) y.op=some (ra,r9):=by have Rp:res T G ⟨aQ,objs⟩ y=some (ra,r9):=ke;unfold res at Rp;simp only[(r7 (T:=T) (ev:=cm G aQ) (objs:=objs) aH).1,(r7 (T:=T) (ev:=cm G aQ) (objs:=objs) aH).2]at Rp;exact Rp
    obtain⟨bT,aN,o,rfl⟩:=CS (objs':=λ_=>none) aH rfl xj;exact akB (cD.LN aN o) kZ Gl
   rw[not_or]at Gl;have aI:jg x.op=false:=by simpa using Gl.1
   have a2:jI x.op=false:=by simpa using Gl.2
   have LX:hP x.op=false:=by cases ck:hP x.op with|false=>rfl|true=>rw[vv ck]at kZ;cases kZ
   by_cases YR:jg y.op=true;.obtain⟨aM,a8⟩:=YL (objs':=objs) ke YR;simp only at a8;subst a8;exact Ro aM ⟨qn,kZ,rfl,rfl⟩
   have a3:jg y.op=false:=by simpa using YR
   simp only[pass,aI,a2,a3,LX,xbG,xcd]at aU;rw[xap]at aU;obtain⟨aH,ay⟩:=aU;have vu:∃d,y.dst=some d/\d<9999:=by cases jw:y.dst with|none=>simp[jw]at ay|some d=>simp[jw]at ay;exact⟨d,rfl,ay⟩
   obtain⟨d,vu,YS⟩:=vu;have xj:hy T (cm G aQ) (dM objs qn) (y.dst.getD 9999) y.op=some (ra,r9):=by unfold res at ke;simp only[(r7 (T:=T) (ev:=cm G aQ) (objs:=dM objs qn) aH).1,(r7 (T:=T) (ev:=cm G aQ) (objs:=dM objs qn) aH).2]at ke;exact ke
   rw[vu]at xj;simp only[xbr]at xj;obtain⟨_,aN,o,rfl⟩:=CS (objs':=λ_=>none) aH rfl xj;obtain⟨Rq,LU⟩:=YJ qn aN;obtain⟨akC,_,_⟩:=CS (objs':=objs) aH Rq xj;have akD:res T G ⟨aQ,objs⟩ y=some (ra,[(d,o)]):=by unfold res;simp only[(r7 (T:=T) (ev:=cm G aQ) (objs:=objs) aH).1,(r7 (T:=T) (ev:=cm G aQ) (objs:=objs) aH).2,vu,xbr];exact akC
   have hex:hy T (cm G aQ) objs (x.dst.getD 9999) x.op=some (rx,qn):=by
    unfold res at kZ;simp only at kZ;split at kZ;.rename_i akE;exact absurd (akz akE) (by simp[aI,a2])
    split at kZ;.rename_i CU;exact absurd (akA CU) (by simp[aI,a2])
    exact kZ
   have LY:x.dst.getD 9999≠d:=by cases LY:x.dst with|none=>simp only[Option.getD_none];exact λe=>by rw[<-e]at YS;exact absurd YS (xcb _)|some e=>simp only[xbr];rintro rfl;exact aa e LY vu
   obtain⟨YT,cp⟩:=akr (T:=T) (ev:=cm G aQ) (cD.LN Rq o) LY Rq (λar=>by rw[c6 _ _ LY];exact ar) hex;refine Ro akD ⟨qn,?_,rfl,YH qn cp⟩;obtain⟨cN,ea⟩:=aky YT (cv objs d (some o));show res T G ⟨aQ,cv objs d (some o)⟩ x=some (rx,qn);unfold res;simp only[cN,ea];exact YT
def rb{o:Oper}{σ:aO}{K K':aO->Prop}(ai:∀σ,K σ->K' σ)(h:dh P T G o K σ):dh P T G o K' σ:=by
 unfold dh at*;split;.rename_i e;rw[e]at h;exact ai _ h
 rename_i e;rw[e]at h;exact Gh h λr av=>ai _ av
def Gm{o:Oper}{σ:aO}{K K':aO->Prop}(ai:∀σ,K σ->K' σ)(h:eN P T G all o K σ):eN P T G all o K' σ:=by
 rw[h1]at*;split;.rename_i e;rw[e]at h;exact rb ai h
 .rename_i e;rw[e]at h;exact ai _ h
 rename_i e;rw[e]at h;exact h
def xl{o:Oper}{σ:aO}{K K':aO->Prop}(ai:∀objs r,K (aO.put ⟨σ.aQ,objs⟩ o.dst r)->K' (aO.put ⟨σ.aQ,objs⟩ o.dst r))(h:dh P T G o K σ):dh P T G o K' σ:=by unfold dh at*;rw[xh]at*;cases av:res T G σ o with|none=>simp only[av,xbz]at h⊢;exact Gh h λr av=>ai σ.objs r av|some p=>simp only[av,xaJ]at h⊢;exact ai _ _ h
def swap{x y:Oper}{σ:aO}{K:aO->Prop}(nA:x.apart all y=true)(aU:pass x y=true)(h:eN P T G all x (λgL=>eN P T G all y K gL) σ):eN P T G all y (λgm=>eN P T G all x K gm) σ:=by
 obtain⟨aI,a2,a3⟩:=Oper.apart_spec nA;have pH:∀d,y.dst=some d->x.dst≠some d:=λd ay ad=>a2 d ad ay;rw[h1]at h;have re:∀(objs:cD)(r:aX),kd all (aO.put ⟨σ.aQ,objs⟩ x.dst r) y=kd all σ y:=λobjs r=>by rw[pG aI];rfl
 have sa:∀(objs:cD)(r:aX),kd all (aO.put ⟨σ.aQ,objs⟩ y.dst r) x=kd all σ x:=λobjs r=>by rw[pG a3];rfl
 split at h
 .rename_i ad;rw[h1];have bB:dh P T G x (λgL=>match kd all σ y with|some true=>dh P T G y K gL|some false=>K (gL.put y.dst (.d (.val (.tuple #[]))))|none=>False) σ:=by
   refine xl (λobjs r ai=>?_) h;rw[h1,re]at ai;exact ai
  cases zv:kd all σ y with
  |none=>
   simp only[zv]at bB;unfold dh at bB;split at bB;.exact bB
   unfold jX at bB;split at bB
   .split at bB;.obtain⟨_,_,_,_,_,_,⟨r,rfl⟩,_,q⟩:=bB;exact q r rfl
    exact bB
   exact bB
  |some b=>
   cases b with
   |false=>
    simp only[zv]at bB;show eN P T G all x K (σ.put y.dst (.d (.val (.tuple #[]))));rw[h1];have:kd all (σ.put y.dst (.d (.val (.tuple #[])))) x=some true:=by rw[pG a3];exact ad
    simp only[this];rw[jY a3 pH];exact bB
   |true=>simp only[zv]at bB;have aa:=YM aI a2 a3 aU bB;show dh P T G y (λgm=>eN P T G all x K gm) σ;refine xl (λobjs r ai=>?_) aa;rw[h1,sa,ad];exact ai
 .rename_i ad;rw[h1,pG aI]at h;rw[h1];split at h
  .rename_i aH
   try simp only[aH]
   rw[jY aI a2]at h;refine xl (λobjs r ai=>?_) h;rw[h1,sa,ad];exact ai
  .rename_i aH
   try simp only[aH]
   show eN P T G all x K (σ.put y.dst (.d (.val (.tuple #[]))));rw[h1,pG a3,ad];show K _;rw[put_comm pH];exact h
  exact h.elim
 exact h.elim
def akF{o:Oper}{σ:aO}{K K':aO->Prop}(h:dh P T G o K σ)(ai:∀a1 r,a1=σ.put o.dst (.d r)->K a1->K' a1)(ck:hP o.op=true):dh P T G o K' σ:=by
 rw[oL (vv ck)]at h⊢;unfold jX at*;split
 .rename_i x args dN eb;rw[eb]at h;simp only at h;split;.rename_i f pre post hg;simp only[hg]at h;obtain⟨od,aR,R,J,aa,ax,bj,ca,cR⟩:=h;exact⟨od,aR,R,J,aa,ax,bj,ca,λr av=>ai _ r rfl (cR r av)⟩
  rename_i hg;simp only[hg]at h
 rename_i eb;split at h;.rename_i x args dN e;exact absurd e (eb x args dN)
 exact h
def cD.low(objs objs':cD):Prop:=∀k o,objs k=some o->o≠ .dead->objs' k=some o
def YU{objs objs':cD}(h:objs.low objs'){x:aX}{d:D}(al:r4 objs x=some d):r4 objs' x=some d:=by
 unfold r4 at*;split at al;.exact al
 .split at al;.rename_i ai;rw[h _ _ ai (by simp)];exact al
  cases al
 .split at al;.rename_i ai;rw[h _ _ ai (by simp)];exact al
  cases al
 .split at al;.rename_i ai;rw[h _ _ ai (by simp)];exact al
  cases al
 cases al
def LZ{objs objs':cD}(h:objs.low objs'){x:aX}{d:D}(al:ob objs x=some d):ob objs' x=some d:=by
 unfold ob at*;split at al
 .split at al
  case h_2=>cases al
  rename_i ai;simp only[h _ _ ai (by simp)];split at al
  case h_2=>cases al
  rename_i cs h0;rw[ql (λx d ad=>YU h ad) _ _ h0];exact al
 .exact al
 exact YU h al
def YV{objs objs':cD}(h:objs.low objs'){x:aX}{d:D}(al:pF objs x=some d):pF objs' x=some d:=by
 unfold pF at*;split at al
 .split at al
  case h_2=>cases al
  rename_i aR eS;rw[ql (λx d ad=>LZ h ad) _ _ eS];exact al
 .split at al
  case h_2=>cases al
  rename_i as jH has Ge;rw[ql (λx d ad=>LZ h ad) _ _ has,ql (λx d ad=>LZ h ad) _ _ Ge];exact al
 exact LZ h al
def akG{objs objs':cD}(h:objs.low objs'){x:aX}{d:D}(al:toD objs x=some d):toD objs' x=some d:=by
 unfold toD at*;split at al
 .split at al
  case h_2=>cases al
  rename_i aR eS;rw[ql (λx d ad=>YV h ad) _ _ eS];exact al
 exact YV h al
def YW{objs objs':cD}(h:objs.low objs'){x:aX}{n:Nat}(al:kA objs x=some n):kA objs' x=some n:=by
 unfold kA at*;split at al;.exact al
 .exact al
 .split at al;.rename_i ai;rw[h _ _ ai (by simp)];exact al
  cases al
 .exact al
 cases al
def akH{objs objs':cD}(h:objs.low objs'){x:aX}{es:List (List D)}(al:q3 objs x=some es):q3 objs' x=some es:=by
 unfold q3 at*;split at al;.exact al
 .exact al
 .split at al;.rename_i ai;rw[h _ _ ai (by simp)];exact al
  cases al
 .split at al;.rename_i ai;rw[h _ _ ai (by simp)];exact al
  cases al
 cases al
def L0{objs objs':cD}(h:objs.low objs'){x:aX}{b:Bool}(al:nz objs x=some b):nz objs' x=some b:=by
 unfold nz at*;split at al;.exact al
 .exact al
 .split at al;.rename_i ai;rw[h _ _ ai (by simp)];exact al
  cases al
 cases al
def akI{T:cn}{ev:Operand->aX}{objs objs':cD}(h:objs.low objs'){op:Op}{r:aX}(hm:dI T ev objs op=some r):dI T ev objs' op=some r:=by
 cases op<;>simp only[dI,reduceCtorEq]at hm⊢
 case convert s t x=>
  split at hm
  case h_2=>cases hm
  rename_i aM a8;split at hm
  case h_2=>cases hm
  rename_i b0;split at hm
  case h_2=>cases hm
  rename_i es he;simp only[aM,a8,b0,akH h he];exact hm
 case load t a=>
  split at hm
  case h_2=>cases hm
  split at hm;.exact hm
  .split at hm
   case h_2=>cases hm
   rename_i ai;simp only[h _ _ ai (by simp)];exact hm
  .split at hm
   case h_2=>cases hm
   rename_i ai;simp only[h _ _ ai (by simp)];exact hm
  cases hm
 case indexAddr t x e0=>
  split at hm
  .split at hm
   case h_2=>cases hm
   split at hm
   case isFalse=>cases hm
   rename_i ar;rw[xac ar];split at hm;.exact hm
   .split at hm
    case h_2=>cases hm
    rename_i ai;simp only[h _ _ ai (by simp)];exact hm
   .exact hm
   cases hm
  .exact hm
  cases hm
 case slice t x lo ag gj=>
  cases gj with
  |some _=>simp[dI]at hm
  |none=>
   simp only[dI]at hm⊢;split at hm
   case h_3=>cases hm
   case h_2=>exact hm
   split at hm
   case h_2=>cases hm
   split at hm
   case h_2=>cases hm
   rename_i n aN;simp only[YW h aN];split at hm
   case h_2=>cases hm
   split at hm
   case isFalse=>cases hm
   rename_i ah;rw[xac ah];split at hm;.exact hm
   .split at hm
    case h_2=>cases hm
    rename_i ai;simp only[h _ _ ai (by simp)];exact hm
   .exact hm
   cases hm
 case call c=>
  split at hm
  case h_2=>cases hm
  split at hm
  case h_2=>cases hm
  split at hm;.exact hm
  .split at hm
   case h_2=>cases hm
   rename_i n aN;simp only[YW h aN];exact hm
  .exact hm
  .exact hm
  .split at hm
   case h_2=>cases hm
   rename_i ai;simp only[h _ _ ai (by simp)];exact hm
  cases hm
 case lookup t x k ok=>
  split at hm
  case h_2=>cases hm
  split at hm;.exact hm
  .exact hm
  .split at hm
   case h_2=>cases hm
   rename_i ai;simp only[h _ _ ai (by simp)];exact hm
  cases hm
 case binOp op t x y zf=>
  split at hm
  case h_2=>cases hm
  split at hm
  .split at hm
   .rename_i ah;rw[xac ah];split at hm
    case h_2=>cases hm
    rename_i b aj;simp only[L0 h aj];exact hm
   rename_i ah;rw[xae ah];split at hm
   case isFalse=>cases hm
   rename_i r8;rw[xac r8];split at hm
   case h_2=>cases hm
   rename_i b aj;simp only[L0 h aj];exact hm
  .split at hm
   .rename_i ah;rw[xac ah];split at hm
    case h_2=>cases hm
    rename_i b aj;simp only[L0 h aj];exact hm
   rename_i ah;rw[xae ah];split at hm
   case isFalse=>cases hm
   rename_i r8;rw[xac r8];split at hm
   case h_2=>cases hm
   rename_i b aj;simp only[L0 h aj];exact hm
  cases hm
def Gn(T:cn)(x:Oper):Bool:=match x.op with| .buildSlice _ _ _=>T.born (x.dst.getD 9999)|_=>false
def zw(T:cn)(x y:Oper):Bool:=pass x y||(hP x.op&&hP y.op)||(Gn T x&&(hP y.op||jI y.op))
def akJ{x:Oper}{σ:aO}(aj:Gn T x=true){p:aX×List (Key×cX)}(h:res T G σ x=some p):σ.objs (x.dst.getD 9999)=none/\p.2=[(x.dst.getD 9999,.dead)]:=by
 unfold Gn at aj;split at aj
 case h_2=>cases aj
 rename_i t n parts eb;have ai:q9 x.op=true:=by rw[eb];rfl
 obtain⟨aM,a8⟩:=r7 (T:=T) (ev:=cm G σ.aQ) (objs:=σ.objs) ai;unfold res at h;rw[aM,a8]at h;obtain⟨q,J,aa⟩:=xb h;rw[eb]at J;simp only[eF]at J;split at J
 case h_2=>cases J
 rename_i e s b z aP ar;split at J
 case h_2=>cases J
 split at J
 case h_2=>cases J
 split at J
 case isFalse=>cases J
 cases J;refine⟨ar,?_⟩;rw[<-aa];simp[r1,aj]
def akK{x y:Oper}{σ:aO}{K:aO->Prop}(J:∀d,x.dst=some d->d∉y.looksAt all)(aa:∀d,x.dst=some d->y.dst≠some d)(ax:∀d,y.dst=some d->d∉x.looksAt all)(LX:hP x.op=true)(akL:hP y.op=true\/False) (h:dh P T G x (λgL=>dh P T G y K gL) σ):dh P T G y (λgm=>dh P T G x K gm) σ:=by
 have gT:∀d,y.dst=some d->x.dst≠some d:=λd ay ad=>aa d ad ay;have L1:hP y.op=true:=akL.resolve_right id;rw[oL (vv LX)]at h;unfold jX at h;split at h
 case h_2=>cases h
 rename_i YO args dN eb;split at h
 case h_2=>cases h
 rename_i f pre post hg;obtain⟨od,aR,R,bN,bO,cx,⟨jG,rfl⟩,eO,fB⟩:=h;have CT:dh P T G y K (aO.put σ x.dst (.d jG)):=fB jG rfl;rw[jY J aa]at CT;refine akF CT (λa1 r he ai=>?_) L1;subst he;rw[jY ax gT,oL (vv LX)];unfold jX;rw[eb];simp only[hg];refine⟨od,aR,_,bN,bO,cx,⟨jG,rfl⟩,eO,λr av=>?_⟩;subst av;rw[put_comm aa];exact ai
def akM{x y:Oper}{σ:aO}{K:aO->Prop}(J:∀d,x.dst=some d->d∉y.looksAt all)(aa:∀d,x.dst=some d->y.dst≠some d)(ax:∀d,y.dst=some d->d∉x.looksAt all)(L2:Gn T x=true)(Rr:hP y.op=true\/jI y.op=true) (h:dh P T G x (λgL=>dh P T G y K gL) σ):dh P T G y (λgm=>dh P T G x K gm) σ:=by
 have gT:∀d,y.dst=some d->x.dst≠some d:=λd ay ad=>aa d ad ay;cases kZ:res T G σ x with
 |none=>
  rw[oL kZ]at h;have:=zt h;unfold Gn at L2;split at L2
  .rename_i eb;rw[eb]at this;cases this
  cases L2
 |some p=>
  obtain⟨rx,cF⟩:=p;obtain⟨aN,hu⟩:=akJ L2 kZ;simp only at hu;subst hu;rw[mV kZ]at h;have aH:dh P T G y K (aO.put ⟨σ.aQ,dM σ.objs [(x.dst.getD 9999,.dead)]⟩ x.dst rx):=h;rw[jY J aa]at aH;have L3:cD.low (dM σ.objs [(x.dst.getD 9999,.dead)]) σ.objs:=by
   intro k o ai aT;simp only[dM]at ai;by_cases e:k=x.dst.getD 9999;.subst e;rw[ff]at ai;cases ai;exact absurd rfl aT
   rwa [c6 _ _ e]at ai
  rcases Rr with L1|YX
  case inr=>
   have xg:hP y.op=false:=by cases ck:hP y.op with|false=>rfl|true=>have:=(Gg ck).2.1;rw[YX]at this;cases this
   have key:∀p,res T G ⟨σ.aQ,dM σ.objs [(x.dst.getD 9999,.dead)]⟩ y=some p->p.2=[]/\res T G σ y=some p:=by
    intro p aU;have he:∀objs d,hy T (cm G σ.aQ) objs d y.op=none:=λobjs d=>CR YX;unfold res at aU⊢;cases YY:eM T (cm G σ.aQ) y.op with
    |some r=>simp only[YY]at aU⊢;cases aU;exact⟨rfl,rfl⟩
    |none=>
     simp only[YY]at aU⊢;cases Gp:dI T (cm G σ.aQ) (dM σ.objs [(x.dst.getD 9999,.dead)]) y.op with
     |none=>simp only[Gp,he]at aU;cases aU
     |some r=>simp only[Gp]at aU;cases aU;rw[akI L3 Gp];exact⟨rfl,rfl⟩
   cases ke:res T G ⟨σ.aQ,dM σ.objs [(x.dst.getD 9999,.dead)]⟩ y with
   |none=>rw[oL ke]at aH;have:=zt aH;rw[xg]at this;cases this
   |some p=>obtain⟨ra,r9⟩:=p;obtain⟨cN,ea⟩:=key _ ke;simp only at cN;subst cN;rw[mV ke]at aH;rw[mV ea];show dh P T G x K (aO.put σ y.dst ra);rw[jY ax gT,mV kZ];unfold aO.step;rw[put_comm aa];exact aH
  rw[oL (vv L1)]at aH;rw[oL (vv L1)];unfold jX at aH⊢;split at aH
  case h_2=>cases aH
  rename_i YO args dN eb;split at aH
  case h_2=>cases aH
  rename_i f pre post hg;obtain⟨od,aR,R,bN,bO,cx,⟨jG,rfl⟩,eO,fB⟩:=aH;simp only[eb,hg];refine⟨od,aR,_,ql (λx d ad=>akG L3 ad) _ _ bN,bO,cx,⟨jG,rfl⟩,eO,λr av=>?_⟩;subst av;have:=fB r rfl;rw[jY ax gT,mV kZ];unfold aO.step;rw[put_comm aa];exact this
def akN{x y:Oper}{σ:aO}{K:aO->Prop}(J:∀d,x.dst=some d->d∉y.looksAt all)(aa:∀d,x.dst=some d->y.dst≠some d)(ax:∀d,y.dst=some d->d∉x.looksAt all)(aU:zw T x y=true) (h:dh P T G x (λgL=>dh P T G y K gL) σ):dh P T G y (λgm=>dh P T G x K gm) σ:=by
 unfold zw at aU;rw[xbk,xbk]at aU;rcases aU with(aU|aU)|aU
 .exact YM J aa ax aU h
 .rw[xap]at aU;exact akK J aa ax aU.1 (.inl aU.2) h
 rw[xap,xbk]at aU;exact akM J aa ax aU.1 aU.2 h
def swapT{x y:Oper}{σ:aO}{K:aO->Prop}(nA:x.apart all y=true)(aU:zw T x y=true)(h:eN P T G all x (λgL=>eN P T G all y K gL) σ):eN P T G all y (λgm=>eN P T G all x K gm) σ:=by
 obtain⟨aI,a2,a3⟩:=Oper.apart_spec nA;have pH:∀d,y.dst=some d->x.dst≠some d:=λd ay ad=>a2 d ad ay;rw[h1]at h;have re:∀(objs:cD)(r:aX),kd all (aO.put ⟨σ.aQ,objs⟩ x.dst r) y=kd all σ y:=λobjs r=>by rw[pG aI];rfl
 have sa:∀(objs:cD)(r:aX),kd all (aO.put ⟨σ.aQ,objs⟩ y.dst r) x=kd all σ x:=λobjs r=>by rw[pG a3];rfl
 split at h
 .rename_i ad;rw[h1];have bB:dh P T G x (λgL=>match kd all σ y with|some true=>dh P T G y K gL|some false=>K (gL.put y.dst (.d (.val (.tuple #[]))))|none=>False) σ:=by
   refine xl (λobjs r ai=>?_) h;rw[h1,re]at ai;exact ai
  cases zv:kd all σ y with
  |none=>
   simp only[zv]at bB;unfold dh at bB;split at bB;.exact bB
   unfold jX at bB;split at bB
   .split at bB;.obtain⟨_,_,_,_,_,_,⟨r,rfl⟩,_,q⟩:=bB;exact q r rfl
    exact bB
   exact bB
  |some b=>
   cases b with
   |false=>
    simp only[zv]at bB;show eN P T G all x K (σ.put y.dst (.d (.val (.tuple #[]))));rw[h1];have:kd all (σ.put y.dst (.d (.val (.tuple #[])))) x=some true:=by rw[pG a3];exact ad
    simp only[this];rw[jY a3 pH];exact bB
   |true=>simp only[zv]at bB;have aa:=akN aI a2 a3 aU bB;show dh P T G y (λgm=>eN P T G all x K gm) σ;refine xl (λobjs r ai=>?_) aa;rw[h1,sa,ad];exact ai
 .rename_i ad;rw[h1,pG aI]at h;rw[h1];split at h
  .rename_i aH
   try simp only[aH]
   rw[jY aI a2]at h;refine xl (λobjs r ai=>?_) h;rw[h1,sa,ad];exact ai
  .rename_i aH
   try simp only[aH]
   show eN P T G all x K (σ.put y.dst (.d (.val (.tuple #[]))));rw[h1,pG a3,ad];show K _;rw[put_comm pH];exact h
  exact h.elim
 exact h.elim
def ia(P:Program)(T:cn)(G:ds)(all:Array Oper)(i:Nat)(K:aO->Prop)(σ:aO):Prop:=match all[i]? with|none=>K σ|some o=>eN P T G all o K σ
def xm{i:Nat}{σ:aO}{K K':aO->Prop}(ai:∀σ,K σ->K' σ)(h:ia P T G all i K σ):ia P T G all i K' σ:=by
 unfold ia at*;split;.rename_i e;simp only[e]at h;exact ai _ h
 rename_i o e;simp only[e]at h;exact Gm ai h
def jJ(P:Program)(T:cn)(G:ds)(all:Array Oper)(K:aO->Prop):Nat->Array Bool->aO->Prop
 |0,listed,σ=>Region.ready .any all listed=[]/\K σ|fuel+1,listed,σ=>(Region.ready .any all listed=[]->K σ)/\∀i∈Region.ready .any all listed,ia P T G all i (jJ P T G all K fuel (listed.setIfInBounds i true)) σ
def Rs{K:aO->Prop}{i:Nat}{fw:Oper}(ag:all[i]?=some fw){B:List Nat}(eU:∀j dd,j∈B->all[j]?=some dd->∃e∈dd.after,Region.binds .any e=true/\(e.on=i\/e.on∈B)):∀(fuel:Nat)(listed:Array Bool)(σ:aO),(∀j,j∈B->listed.getD j true=false)->(∀j dd,all[j]?=some dd->j≠i->listed.getD j true=false->j∉B->fw.apart all dd=true/\zw T fw dd=true)->i∈Region.ready .any all listed->(¬∃a1,K a1)\/True->ia P T G all i (jJ P T G all K fuel (listed.setIfInBounds i true)) σ->jJ P T G all K (fuel+1) listed σ:=by
 intro fuel
 induction fuel with
 |zero=>
  intro listed σ sb pI av _ H;refine⟨λh=>(by rw[h]at av;cases av),λj aA=>?_⟩;by_cases iU:j=i;.subst iU;exact H
  have hm:=ready_mono aA iU;exfalso;have key:Region.ready .any all (listed.setIfInBounds i true)=[]:=by
   unfold ia at H;simp only[ag]at H;rw[h1]at H;split at H
   .unfold dh at H;split at H;.exact H.1
    unfold jX at H;split at H
    .split at H;.obtain⟨_,_,_,_,_,_,⟨r,nB⟩,_,q⟩:=H;exact(q r (by rw[nB])).1
     exact H.elim
    exact H.elim
   .exact H.1
   exact H.elim
  rw[key]at hm;cases hm
 |succ fuel ih=>
  intro listed σ sb pI av _ H;refine⟨λh=>(by rw[h]at av;cases av),λj aA=>?_⟩;by_cases iU:j=i;.subst iU;exact H
  obtain⟨xn,dd,jK,fl⟩:=xbU.1 aA;have vo:∀k,listed.getD k true=false->listed[k]?.getD false=true->False:=λk ar J=>by
   rcases xaT k listed.size with bB|bB;.simp[bB]at ar J;rw[ar]at J;cases J
   simp[Array.getElem?_eq_none bB]at J
  have xo:j∉B:=λGq=>by
   obtain⟨e,he,aj,nC⟩:=eU j dd Gq jK;have J:=fl e he aj;rcases nC with nC|nC
   .rw[nC]at J;exact vo i (xbU.1 av).1 (by simpa using J)
   exact vo _ (sb _ nC) (by simpa using J)
  obtain⟨ei,eu⟩:=pI j dd jK iU xn xo;have J:ia P T G all i (λgL=>ia P T G all j (jJ P T G all K fuel ((listed.setIfInBounds i true).setIfInBounds j true)) gL) σ:=xm (λgL vw=>vw.2 j (ready_mono aA iU)) H;have aa:ia P T G all j (λgm=>ia P T G all i (jJ P T G all K fuel ((listed.setIfInBounds i true).setIfInBounds j true)) gm) σ:=by unfold ia at J⊢;simp only[ag,jK]at J⊢;exact swapT ei eu J
  have Gr:∀k ok,all[k]?=some ok->k≠i->(listed.setIfInBounds j true).getD k true=false->k∉B->fw.apart all ok=true/\zw T fw ok=true:=λk ok ai sc pJ gU=>by
   refine pI k ok ai sc ?_ gU;by_cases fA:j=k;.subst fA;exact xn
   rw[getD_set_ne true fA]at pJ;exact pJ
  refine xm (λgm ax=>ih (listed.setIfInBounds j true) gm (λk ai=>by
   have fA:j≠k:=by rintro rfl;exact xo ai
   rw[getD_set_ne true fA];exact sb k ai) Gr (ready_mono av (xbY iU)) (.inr trivial) ?_) aa
  rw[Array.setIfInBounds_comm _ _ iU];exact ax
def akO{K:aO->Prop}{i:Nat}{fw:Oper}(ag:all[i]?=some fw){B:List Nat}(eU:∀j dd,j∈B->all[j]?=some dd->∃e∈dd.after,Region.binds .any e=true/\(e.on=i\/e.on∈B))(fuel:Nat)(listed:Array Bool)(σ:aO) (ar:∀j,j∈B->listed.getD j true=false) (bm:∀j dd,all[j]?=some dd->j≠i->listed.getD j true=false->j∉B->fw.apart all dd=true/\pass fw dd=true) (av:i∈Region.ready .any all listed) (ad:(¬∃a1,K a1)\/True) (h:ia P T G all i (jJ P T G all K fuel (listed.setIfInBounds i true)) σ):jJ P T G all K (fuel+1) listed σ:=Rs ag eU fuel listed σ ar (λj dd a b c d=>⟨(bm j dd a b c d).1,by unfold zw;rw[(bm j dd a b c d).2];rfl⟩) av ad h
def waits(all:Array Oper)(i:Nat):List Nat:=(List.range all.size).foldl (λacc j=>match all[j]? with
  |some dd=>if dd.after.any (λe=>Region.binds .any e&&(e.on==i||acc.contains e.on))then acc++[j]else acc
  |none=>acc) []
def L4(p:Oper->Oper->Bool)(all:Array Oper)(listed:Array Bool)(i:Nat)(B:List Nat):Bool:=match all[i]? with|none=>false|some fw=>(B.all λj=>!listed.getD j true&&match all[j]? with|some dd=>dd.after.any λe=>Region.binds .any e&&(e.on==i||B.contains e.on)|none=>false)&&(List.range all.size).all λj=>j==i||listed.getD j true||B.contains j||match all[j]? with|some dd=>fw.apart all dd&&p fw dd|none=>true
def YZ(all:Array Oper)(listed:Array Bool)(i:Nat)(B:List Nat):Bool:=L4 pass all listed i B
def akP(all:Array Oper)(listed:Array Bool)(i:Nat):Bool:=YZ all listed i (waits all i)
def Y0(T:cn)(all:Array Oper)(listed:Array Bool)(i:Nat):Bool:=L4 (zw T) all listed i (waits all i)
def Rt{p:Oper->Oper->Bool}{i:Nat}{fw:Oper}{listed:Array Bool}(ag:all[i]?=some fw){B:List Nat}(h:L4 p all listed i B=true):(∀j dd,j∈B->all[j]?=some dd->∃e∈dd.after,Region.binds .any e=true/\(e.on=i\/e.on∈B))/\(∀j,j∈B->listed.getD j true=false)/\ ∀j dd,all[j]?=some dd->j≠i->listed.getD j true=false->j∉B->fw.apart all dd=true/\p fw dd=true:=by
 simp only[L4,ag,xap,xaB,xbT]at h;refine⟨λj dd aA jK=>?_,λj aA=>by simpa using(h.1 j aA).1,λj dd jK cp pJ gU=>?_⟩;.have J:=(h.1 j aA).2;simp only[jK]at J;obtain⟨e,he,aj⟩:=Array.any_eq_true'.1 J;simp only[xap,xbk,xbP,List.contains_iff_mem]at aj;exact⟨e,he,aj.1,aj.2⟩
 have J:=h.2 j (xaS.1 jK).1;simp only[jK,xbk,xbP,cp,false_or,pJ,xar,xap,List.contains_iff_mem,gU]at J;exact J
def akQ{i:Nat}{fw:Oper}{listed:Array Bool}(ag:all[i]?=some fw){B:List Nat}(h:YZ all listed i B=true):(∀j dd,j∈B->all[j]?=some dd->∃e∈dd.after,Region.binds .any e=true/\(e.on=i\/e.on∈B))/\(∀j,j∈B->listed.getD j true=false)/\ ∀j dd,all[j]?=some dd->j≠i->listed.getD j true=false->j∉B->fw.apart all dd=true/\pass fw dd=true:=Rt ag h
def zx(T:cn)(all:Array Oper):List Nat->Array Bool->Bool
 |[],listed=>(Region.ready .any all listed).isEmpty|i::r,listed=>(Region.ready .any all listed).contains i&&Y0 T all listed i&&zx T all r (listed.setIfInBounds i true)
def CV(P:Program)(T:cn)(G:ds)(all:Array Oper):List Nat->(aO->Prop)->aO->Prop
 |[],K,σ=>K σ|i::r,K,σ=>match all[i]? with|some o=>eN P T G all o (CV P T G all r K) σ|none=>False
def Y1{K:aO->Prop}:∀(ord:List Nat)(listed:Array Bool)(σ:aO),zx T all ord listed=true->CV P T G all ord K σ->jJ P T G all K ord.length listed σ
 |[],listed,σ,eU,h=>⟨by simpa[zx]using eU,h⟩
 |i::r,listed,σ,eU,h=>by
  simp only[zx,xap]at eU;obtain⟨⟨av,bm⟩,tO⟩:=eU;unfold CV at h;split at h
  case h_2=>cases h
  rename_i o ag;obtain⟨bN,bO,cx⟩:=Rt ag bm;refine Rs ag bN r.length listed σ bO cx (by simpa using av) (.inr trivial) ?_;unfold ia;simp only[ag];exact Gm (λa1 vw=>Y1 r _ a1 tO vw) h
def Ru{m:Mem}{fr:fq}{N:Nat}(bp:dU P T){K:aO->Prop}{Q:Exit->Act->World->Prop}(gE:∀o∈all,∀d,o.dst=some d->d<N):∀(fuel:Nat)(listed:Array Bool)(m:Mem)(ρ:dk)(σ:aO)(a:Act)(w:World),kz G m->Den m fr ρ σ a w->N<=a.tmps.size->a.defers=[]->jJ P T G all K fuel listed σ->(∀cM w',jv N m fr ρ σ K cM w'->Q .normal cM w')->wpAny P .any all Q fuel listed a w
 |0,listed,m,ρ,σ,a,w,c0,h,cj,hN,aS,ir=>⟨aS.1,ir a w ⟨σ,m,ρ,aS.2,Mem.le_refl m,h,cj,hN,lp.refl _ _⟩⟩|fuel+1,listed,m,ρ,σ,a,w,c0,h,cj,hN,aS,ir=>by refine⟨λar=>ir a w ⟨σ,m,ρ,aS.1 ar,Mem.le_refl m,h,cj,hN,lp.refl _ _⟩,λi ag=>?_⟩;have J:=aS.2 i ag;obtain⟨_,o,aT,_⟩:=xbU.1 ag;unfold ia at J;simp only[aT]at J;refine wpOp_mono ?_ (Rl bp c0 h cj hN aT (gE o (Array.mem_of_getElem? aT)) J);rintro cM w' ⟨a1,cB,c4,bN,bO,cx,dX,eO,fB⟩;refine Ru (m:=m) bp gE fuel _ cB c4 a1 cM w' (c0.mono bO) cx dX eO bN ?_;rintro qo lq ⟨sd,zy,zz,ei,eu,gS,tP,xp,xq⟩;exact ir qo lq ⟨sd,zy,zz,ei,Mem.le_trans bO eu,gS,tP,xp,fB.trans xq⟩
end
def hn(σ τ:aO):Prop:=∀m fr ρ a w,Den m fr ρ σ a w->∃cB c4,m.le cB/\Den cB fr c4 τ a w/\lp σ ρ τ c4
def hn.refl(σ:aO):hn σ σ:=λm fr ρ a w h=>⟨m,ρ,Mem.le_refl m,h,lp.refl _ _⟩
def hn.trans{σ τ zA:aO}(h:hn σ τ)(bB:hn τ zA):hn σ zA:=λm fr ρ a w hD=>
 let⟨m1,oc,J,aa,ax⟩:=h m fr ρ a w hD
 let⟨m2,lN,bj,ca,cR⟩:=bB m1 fr oc a w aa
 ⟨m2,lN,Mem.le_trans J bj,ca,ax.trans cR⟩
def hJ(P:Program)(T:cn)(G:ds)(N:Nat)(c:Code)(σ:aO)(Q:Exit->aO->Prop):Prop:= ∀m fr ρ a w,kz G m->Den m fr ρ σ a w->N<=a.tmps.size->a.defers=[]->c.wp P (λe cM w'=>jv N m fr ρ σ (Q e) cM w') a w
def L5(K:aO->Prop)(Q:Exit->aO->Prop):Exit->aO->Prop
 | .normal,σ=>K σ|e,σ=>Q e σ
def Gs(id:Nat)(Q:Exit->aO->Prop):Exit->aO->Prop
 | .exit vx,σ=>if vx=id then Q .normal σ else Q (.exit vx) σ
 |e,σ=>Q e σ
section
variable{P:Program}{T:cn}{G:ds}{N:Nat}{σ:aO}{Q:Exit->aO->Prop}
def jv.mono{m:Mem}{fr:fq}{ρ:dk}{K K':aO->Prop}(ai:∀σ,K σ->K' σ){a:Act}{w:World}(h:jv N m fr ρ σ K a w):jv N m fr ρ σ K' a w:=
 let⟨a1,cB,c4,J,aa⟩:=h;⟨a1,cB,c4,ai _ J,aa⟩
def CW{c:Code}{Y2:Exit->aO->Prop}(h:hJ P T G N c σ Q)(bU:∀e σ,Q e σ->Y2 e σ):hJ P T G N c σ Y2:=λm fr ρ a w c0 hD cj ay=>wp_mono (h m fr ρ a w c0 hD cj ay) λe cM w' av=>av.mono (bU e)
def akR(h:Q .normal σ):hJ P T G N .skip σ Q:=λm fr ρ a w c0 hD cj ay=>wp_skip ⟨σ,m,ρ,h,Mem.le_refl m,hD,cj,ay,lp.refl _ _⟩
def akS{l:Nat}(h:Q .normal σ):hJ P T G N (.label l) σ Q:=λm fr ρ a w c0 hD cj ay=>wp_label ⟨σ,m,ρ,h,Mem.le_refl m,hD,cj,ay,lp.refl _ _⟩
def akT{id:Nat}(h:Q (.exit id) σ):hJ P T G N (.exit id) σ Q:=λm fr ρ a w c0 hD cj ay=>wp_exit ⟨σ,m,ρ,h,Mem.le_refl m,hD,cj,ay,lp.refl _ _⟩
def akU(h:Q .ret σ):hJ P T G N .ret σ Q:=λm fr ρ a w c0 hD cj ay=>wp_ret ⟨σ,m,ρ,h,Mem.le_refl m,hD,cj,ay,lp.refl _ _⟩
def jv.trans{m m1:Mem}{fr:fq}{ρ oc:dk}{gL:aO}{K:aO->Prop}{a:Act}{w:World}(hm:m.le m1)(ai:lp σ ρ gL oc)(h:jv N m1 fr oc gL K a w):jv N m fr ρ σ K a w:=
 let⟨a1,cB,c4,J,aa,ax,bj,ca,cR⟩:=h;⟨a1,cB,c4,J,Mem.le_trans hm aa,ax,bj,ca,ai.trans cR⟩
def akV{x y:Code}(h:hJ P T G N x σ (L5 (λa1=>hJ P T G N y a1 Q) Q)):hJ P T G N (.seq x y) σ Q:=by intro m fr ρ a w c0 hD cj ay;refine wp_seq (wp_mono (h m fr ρ a w c0 hD cj ay) ?_);rintro e cM w' ⟨a1,cB,c4,J,aa,ax,bj,ca,cR⟩;cases e with|normal=>exact wp_mono (J cB fr c4 cM w' (c0.mono aa) ax bj ca) λe qo lq av=>av.trans aa cR|exit id=>exact⟨a1,cB,c4,J,aa,ax,bj,ca,cR⟩|goto l=>exact⟨a1,cB,c4,J,aa,ax,bj,ca,cR⟩|ret=>exact⟨a1,cB,c4,J,aa,ax,bj,ca,cR⟩|panic c=>exact⟨a1,cB,c4,J,aa,ax,bj,ca,cR⟩|outgrown=>exact⟨a1,cB,c4,J,aa,ax,bj,ca,cR⟩
def akW(Q:Exit->aO->Prop):Exit->aO->Prop
 | .goto _,_=>False|e,σ=>Q e σ
def akX{c:Code}(h:hJ P T G N c σ (akW Q)):hJ P T G N (.scope c) σ Q:=by intro m fr ρ a w c0 hD cj ay;refine wp_scope_straight (wp_mono (h m fr ρ a w c0 hD cj ay) ?_);rintro e cM w' ⟨a1,cB,c4,J,aa,ax,bj,ca,cR⟩;cases e with|goto l=>exact J.elim|normal=>exact⟨a1,cB,c4,J,aa,ax,bj,ca,cR⟩|exit id=>exact⟨a1,cB,c4,J,aa,ax,bj,ca,cR⟩|ret=>exact⟨a1,cB,c4,J,aa,ax,bj,ca,cR⟩|panic c=>exact⟨a1,cB,c4,J,aa,ax,bj,ca,cR⟩|outgrown=>exact⟨a1,cB,c4,J,aa,ax,bj,ca,cR⟩
def L6{c:Operand}{x y:Code}{b:Bool}(ah:cm G σ.aQ c= .d (.val (.bool b)))(h:if b=true then hJ P T G N x σ Q else hJ P T G N y σ Q):hJ P T G N (.cond c x y) σ Q:=by
 intro m fr ρ a w c0 hD cj ay;have aS:=FV (a:=a) c0 hD.aQ c;rw[ah]at aS;refine wp_cond aS.hY ?_;cases b
 .exact h m fr ρ a w c0 hD cj ay
 exact h m fr ρ a w c0 hD cj ay
def akY{id:Nat}{c:Code}(h:hJ P T G N c σ (Gs id Q)):hJ P T G N (.block id c) σ Q:=by
 intro m fr ρ a w c0 hD cj ay;refine wp_block (wp_mono (h m fr ρ a w c0 hD cj ay) ?_);intro e cM w' av;cases e with
 |exit vx=>
  simp only[Exit.inBlock];by_cases ag:vx=id;.rw[xac ag];exact av.mono λσ bU=>by simp only[Gs,ag,xaG]at bU;exact bU
  rw[xae ag];exact av.mono λσ bU=>by simp only[Gs,ag,xaI]at bU;exact bU
 |normal=>exact av|goto l=>exact av|ret=>exact av|panic c=>exact av|outgrown=>exact av
def Rv{τ:aO}{c:Code}(he:hn σ τ)(h:hJ P T G N c τ Q):hJ P T G N c σ Q:=by intro m fr ρ a w c0 hD cj ay;obtain⟨cB,c4,J,aa,ax⟩:=he m fr ρ a w hD;exact wp_mono (h cB fr c4 a w (c0.mono J) aa cj ay) λe cM w' av=>av.trans J ax
def xr(N:Nat)(ops:Array Oper):Bool:=ops.toList.all λo=>match o.dst with|some d=>decide (d<N)|none=>true
def xt{ops:Array Oper}(h:xr N ops=true):∀o∈ops,∀d,o.dst=some d->d<N:=by intro o aT d ay;have:=xaB.1 h o (by simpa using aT);simp only[ay]at this;simpa using this
theorem Den.drew{m:Mem}{fr:fq}{ρ:dk}{a:Act}{w:World}(h:Den m fr ρ σ a w)(n:Nat):Den m fr ρ σ a {w with drawn:=n}:=by refine⟨h.mem,⟨h.frame.n7,h.frame.quiet.same rfl rfl rfl⟩,h.apart,h.one,h.aQ,?_,h.own,h.sep⟩;intro k o ai;exact(h.objs k o ai).mono (Mem.le_refl m) (λ_ hu=>⟨hu,rfl⟩) (λb _ _=>rfl)
def akZ(bp:dU P T)(hm:P.follows .mixedOrders=true){id:Nat}{ops:Array Oper}(cj:xr N ops=true)(ord:List Nat)(bI:ord.length=ops.size)(CX:zx T ops ord (Array.replicate ops.size false)=true) (h:CV P T G ops ord (Q .normal) σ):hJ P T G N (.region id ops true) σ Q:=by intro m fr ρ a w c0 hD oM ay;refine wp_region_any hm ?_;have J:=Y1 ord (Array.replicate ops.size false) σ CX h;rw[bI]at J;exact Ru (m:=m) (fr:=fr) (N:=N) (Q:=λe cM w'=>jv N m fr ρ σ (Q e) cM w') bp (xt cj) ops.size _ m ρ σ a _ c0 (hD.drew _) oM ay J (λcM w' av=>av)
def ak0{ι:Type}{c:Code}{Q:Exit->Act->World->Prop}{a:Act}{w:World}(eG:ι->Act->World->Prop)(xu:ι->Nat)(i0:ι)(ak1:eG i0 a w) (round:∀i a w,eG i a w->c.wp P (Exit.then (λcM w'=>∃j,eG j cM w'/\xu j<xu i) Q) a w):(Code.loop c).wp P Q a w:=by
 intro b k cs;have key:∀n i a w,xu i=n->eG i a w->∃e cM w',Q e cM w'/\Arrives P (lone (b.at a (.code c:: .inLoop c::k)) cs w) b k cs e cM w':=by
  intro n
  induction n using Nat.strongRecOn with
  |_ n ih=>
   intro i a w aN fS;obtain⟨e,CY,CZ,bU,xv⟩:=round i a w fS b (.inLoop c::k) cs;cases e with
   |normal=>obtain⟨j,ak2,b6⟩:=bU;obtain⟨ak3,ak4,ak5,ak6,ak7⟩:=ih (xu j) (aN▸b6) j CY CZ rfl ak2;exact⟨ak3,ak4,ak5,ak6,.of_steps (Steps.trans xv (.one step_inLoop)) ak7⟩
   |exit id=>exact⟨_,CY,CZ,bU,.pass (x:= .inLoop c) rfl (λ_ _=> .inl (by simp)) xv⟩|goto l=>exact⟨_,CY,CZ,bU,.pass (x:= .inLoop c) rfl (λ_ _=> .inl (by simp)) xv⟩|ret=>exact⟨_,CY,CZ,bU,.pass (x:= .inLoop c) rfl (λ_ _=> .inl (by simp)) xv⟩|panic Gt=>exact⟨_,CY,CZ,bU,.pass (x:= .inLoop c) rfl (λ_ _=> .inl (by simp)) xv⟩|outgrown=>exact⟨_,CY,CZ,bU,.pass (x:= .inLoop c) rfl (λ_ _=> .inl (by simp)) xv⟩
 obtain⟨e,cM,w',bU,xv⟩:=key _ i0 a w rfl ak1;exact⟨e,cM,w',bU,.of_steps (.one step_loop) xv⟩
def ak8{ι:Type}{c:Code}(eG:ι->aO)(xu:ι->Nat)(i0:ι)(ar:hn σ (eG i0)) (round:∀i,hJ P T G N c (eG i) (L5 (λa1=>∃j,hn a1 (eG j)/\xu j<xu i) Q)):hJ P T G N (.loop c) σ Q:=by
 intro m fr ρ a w c0 hD cj ay;refine ak0 (λi a w=>∃m1 oc,m.le m1/\Den m1 fr oc (eG i) a w/\N<=a.tmps.size/\a.defers=[]/\lp σ ρ (eG i) oc) xu i0 ?_ ?_;.obtain⟨cB,c4,J,aa,ax⟩:=ar m fr ρ a w hD;exact⟨cB,c4,J,aa,cj,ay,ax⟩
 rintro i aI fV ⟨m1,oc,g1,g2,g3,g4,g5⟩;refine wp_mono (round i m1 fr oc aI fV (c0.mono g1) g2 g3 g4) ?_;intro e cM w' av;have nB:=av.trans g1 g5;cases e with
 |normal=>obtain⟨a1,cB,c4,⟨j,aA,b6⟩,aa,ax,bj,ca,cR⟩:=nB;obtain⟨m2,lN,bN,bO,cx⟩:=aA cB fr c4 cM w' ax;exact⟨j,⟨m2,lN,Mem.le_trans aa bN,bO,bj,ca,cR.trans cx⟩,b6⟩
 |exit id=>exact nB|goto l=>exact nB|ret=>exact nB|panic c=>exact nB|outgrown=>exact nB
def zB(T:cn)(σ:aO):ResultVar->Option aX
 | .tmp t=>some (σ.aQ t)
 | .cell a t=>match T t,σ.aQ a with
  |some i,.ptr k off=>match σ.objs k with|some (.box cells)=>w3 i cells off|_=>none
  |_,_=>none
def se(T:cn)(σ:aO)(rs:List ResultVar):Option aX:=match hM (rs.map (zB T σ))with|some [x]=>some x|some l=>some (.aZ l)|none=>none
def ak9(bp:dU P T){m:Mem}{fr:fq}{ρ:dk}{a:Act}{w:World}(h:Den m fr ρ σ a w){xw:ResultVar}{x:aX}(ad:zB T σ xw=some x): ∃v,((match xw with| .tmp t=>pure (a.tmps.getD t undef)| .cell hs t=>do loadVar t (<-asAddr (a.tmps.getD hs undef)):Sem Value)).run P w= .ok v w/\cg m ρ σ.used x v:=by
 cases xw with
 |tmp t=>simp only[zB,xaE]at ad;subst ad;exact⟨_,rfl,h.aQ t⟩
 |cell hs t=>
  simp only[zB]at ad;split at ad
  case h_2=>cases ad
  rename_i i k off aP az;split at ad
  case h_2=>cases ad
  rename_i cells ai;have aG:=h.aQ hs;rw[az]at aG;generalize zg:a.tmps.getD hs undef=u at aG;cases aG with|ptr _ _ b hu av=>
  obtain⟨b',vs,dY,aM,a8,b0,cK⟩:=h.objs _ _ ai;rw[av]at aM;cases aM;obtain⟨v,ey,ez⟩:=XY (P:=P) bp aP a8 ⟨b0,cK⟩ ad;exact⟨v,by simp only[zg,asAddr,xaj,xaA,xag,ey],ez⟩
def Y3(bp:dU P T){m:Mem}{fr:fq}{ρ:dk}{a:Act}{w:World}(h:Den m fr ρ σ a w):∀(rs:List ResultVar)(xs:List aX),hM (rs.map (zB T σ))=some xs-> ∃vs:List Value,(rs.mapM λ
   | .tmp t=>pure (a.tmps.getD t undef)| .cell hs t=>do loadVar t (<-asAddr (a.tmps.getD hs undef)):Sem (List Value)).run P w= .ok vs w/\vs.length=xs.length/\∀(i:Nat)(x:aX)(v:Value),xs[i]?=some x->vs[i]?=some v->cg m ρ σ.used x v
 |[],xs,ad=>by simp[hM]at ad;subst ad;exact⟨[],by simp,rfl,by simp⟩
 |xw::rs,xs,ad=>by
  simp only[xaw]at ad;cases J:zB T σ xw with
  |none=>simp[J,hM]at ad
  |some x=>
   rw[J]at ad;simp only[hM]at ad;split at ad
   case h_2=>cases ad
   rename_i l al;cases ad;obtain⟨v,ey,ez⟩:=ak9 (P:=P) bp h J;obtain⟨vs,hQ,C0,Y4⟩:=Y3 bp h rs l al;refine⟨v::vs,?_,by simp[C0],?_⟩;.simp only[List.mapM_cons,xaj,ey,hQ,xag,xaA]
   intro i y u aH hu;cases i with|zero=>simp at aH hu;subst aH;subst hu;exact ez|succ i=>exact Y4 i y u (by simpa using aH) (by simpa using hu)
def Y5(bp:dU P T){m:Mem}{fr:fq}{ρ:dk}{a:Act}{w:World}(h:Den m fr ρ σ a w){fn:Func}{x:aX}(ad:se T σ fn.results.toList=some x): ∃v,(results fn a.tmps).run P w= .ok v w/\cg m ρ σ.used x v:=by
 unfold se at ad;cases al:hM (fn.results.toList.map (zB T σ))with
 |none=>simp[al]at ad
 |some xs=>
  obtain⟨vs,ey,ez,hQ⟩:=Y3 (P:=P) bp h fn.results.toList xs al;have gO:((fn.results.mapM λ
   | .tmp t=>pure (a.tmps.getD t undef)| .cell hs t=>do loadVar t (<-asAddr (a.tmps.getD hs undef)):Sem (Array Value))).run P w= .ok vs.toArray w:=by
   rw[Array.mapM_eq_mapM_toList,Sem.run_map,ey];rfl
  have vy:(results fn a.tmps).run P w= .ok (if h:vs.toArray.size=1 then vs.toArray[0]else .tuple vs.toArray) w:=by unfold results;rw[xaj];exact(congrArg (λr=>Result.andThen r _) gO).trans rfl
  rw[vy];rw[al]at ad;split at ad
  .rename_i y he;cases ad;cases he
   match vs,ez,hQ with|[v],_,hQ=>exact⟨v,by simp,hQ 0 _ _ rfl rfl⟩
  .rename_i l cp he;cases ad;cases he;have e7:vs.toArray.size≠1:=by
    intro J;have:xs.length=1:=by rw[<-ez];simpa using J
    obtain⟨y,aH⟩:=List.length_eq_one_iff.1 this;exact cp y aH
   refine⟨.tuple vs.toArray,?_,.aZ _ _ (by simpa using ez) (λi c v ah aS=>hQ i c v ah (by simpa using aS))⟩;rw[dif_neg e7]
  cases ad
def start(args:List aX)(E:cD):aO:=⟨λt=>args.getD t .any,E⟩
def ala(bp:dU P T){f:FuncId}{fn:Func}{c:Code}{aR:List D}{R:D->Prop}(bm:P.funcs[f]?=some fn)(aj:fn.body=some c)(L7:(fn.name== "runtime.NumGoroutine")=false)(bI:aR.length<=fn.ntmps) (h:hJ P T G fn.ntmps c (start (aR.map .d) λ_=>none) λe a1=>(e= .normal\/e= .ret)/\∃r d x,se T a1 fn.results.toList=some r/\toD a1.objs r=some d/\d.le x/\R x):fv P G f aR R:=by
 refine⟨⟨fn,bm,L7,by rw[aj];rfl⟩,?_⟩;intro m fr w vs c0 cQ hD;refine calls_of_wp bm aj ?_;have Gu:Den m fr (λ_=>undef) (start (aR.map .d) λ_=>none) {tmps:=vs.toArray++Array.replicate (fn.ntmps-vs.toArray.size) undef,defers:=[]} w:=by
  refine⟨cQ.mem,cQ.frame,cQ.apart,?_,?_,?_,?_,?_⟩;.rintro k ⟨o,aT⟩;cases aT
  .intro t;simp only[start];by_cases aP:t<vs.length
   .have b6:t<aR.length:=by rw[<-hD.1];exact aP
    have ay:=xab b6;have aS:=xab aP;have aM:(aR.map aX.d).getD t .any= .d aR[t]:=by rw[xbe,xah,ay];rfl
    have a8:(vs.toArray++Array.replicate (fn.ntmps-vs.toArray.size) undef).getD t undef=vs[t]:=by rw[xbj,xbt (by simpa using aP)];simp[aP]
    rw[aM,a8];exact .d _ _ (hD.2 t _ _ ay aS)
   have aM:(aR.map aX.d).getD t .any= .any:=by rw[xbe,xaM (by simp;rw[<-hD.1];omega)];rfl
   rw[aM];exact .any _
  .intro k o ai;cases ai
  .intro k o b ai;cases ai
  intro k bG o o' b _ ai;cases ai
 have e7:fn.ntmps<=(vs.toArray++Array.replicate (fn.ntmps-vs.toArray.size) undef).size:=by simp;omega
 refine wp_mono (h m fr _ _ w c0 Gu e7 rfl) ?_;rintro e cM w' ⟨a1,cB,c4,⟨he,r,d,x,J,aa,ax,bj⟩,ca,cR,fP,iu,iV⟩;obtain⟨v,bN,bO⟩:=Y5 (P:=P) bp cR J;have cx:=ax _ _ (Yu cR bO aa);have fin:cM.defers=[]/\∃v,(results fn cM.tmps).run P w'= .ok v w'/\∃v1 m1 ey,Ending.returned v= .returned v1/\R ey/\m.le m1/\mS m1 fr w'/\c5 m1 ey v1:=⟨iu,v,bN,v,Den.all cB c4 a1.objs w',x,rfl,bj,Mem.le_trans ca (Den.CM _ _ _ _),cR.Yr,cx⟩;rcases he with rfl|rfl
 .exact fin
 exact fin
end
def Gv:List aX->Option (List D)
 |[]=>some []| .d x::r=>(Gv r).map (x::·)|_=>none
def L8:aX->Option D
 | .d x=>some x| .agg cs=>(Gv cs).map .agg| .aZ cs=>(Gv cs).map .aZ|_=>none
def Y6:∀{cs:List aX}{aR:List D},Gv cs=some aR->cs=aR.map .d
 |[],aR,h=>by cases h;rfl
 | .d x::r,aR,h=>by obtain⟨l,al,rfl⟩:=xaf.1 h;rw[Y6 al];rfl
 | .any::_,_,h=>by cases h
 | .agg _::_,_,h=>by cases h
 | .aZ _::_,_,h=>by cases h
 | .dV _ _::_,_,h=>by cases h
 | .ptr _ _::_,_,h=>by cases h
 | .gJ _ _ _ _::_,_,h=>by cases h
 | .row _::_,_,h=>by cases h
 | .sub _ _ _ _::_,_,h=>by cases h
 | .map _::_,_,h=>by cases h
 | .fn _ _ _::_,_,h=>by cases h
def alb{m:Mem}{ρ:dk}{U:Key->Prop}{x:aX}{a:D}{v:Value}(h:L8 x=some a)(ad:cg m ρ U x v):c5 m a v:=by
 have part:∀{cs:List aX}{aR:List D}{vs:Array Value},Gv cs=some aR->vs.size=cs.length->(∀(i:Nat)(c:aX)(v:Value),cs[i]?=some c->vs[i]?=some v->cg m ρ U c v)->vs.size=aR.length/\∀(i:Nat)(c:D)(v:Value),aR[i]?=some c->vs[i]?=some v->c5 m c v:=by intro cs aR vs ay al ah;have e:=Y6 ay;subst e;refine⟨by simpa using al,λi c v J aa=>?_⟩;have:=ah i (.d c) v (by simp[J]) aa;cases this with|d _ _ h=>exact h
 unfold L8 at h;split at h;.cases h;cases ad with|d _ _ h=>exact h
 .obtain⟨aR,ay,rfl⟩:=xaf.1 h;cases ad with|agg _ vs al ah=>exact .agg _ _ (part ay al ah).1 (part ay al ah).2
 .obtain⟨aR,ay,rfl⟩:=xaf.1 h;cases ad with|aZ _ vs al ah=>exact .aZ _ _ (part ay al ah).1 (part ay al ah).2
 cases h
def qp(cr:Key->Key)(U:Key->Prop)(x y:aX):Prop:=match y with| .any=>True| .d b=>∃a,L8 x=some a/\a.le b| .dV cs off=>x= .dV cs off\/x= .d (.ref cs off)| .ptr k off=>x= .ptr (cr k) off/\U k| .gJ k cY i off=>x= .gJ (cr k) cY i off/\U k| .row k=>x= .row (cr k)/\U k| .sub k cY i len=>x= .sub (cr k) cY i len/\U k| .map k=>x= .map (cr k)/\U k|_=>False
def jZ(cr:Key->Key)(U:Key->Prop):List aX->List aX->Prop
 |[],[]=>True|x::xs,y::c7=>qp cr U x y/\jZ cr U xs c7|_,_=>False
def vz(cr:Key->Key)(U:Key->Prop)(x y:aX):Prop:=match y with
 | .agg c7=>match x with| .agg xs=>jZ cr U xs c7| .d (.agg aR)=>jZ cr U (aR.map .d) c7|_=>False
 | .aZ c7=>match x with| .aZ xs=>jZ cr U xs c7|_=>False
 | .fn f as jH=>match x with| .fn kY alc ald=>f=kY/\jZ cr U alc as/\jZ cr U ald jH|_=>False
 |y=>qp cr U x y
def tQ(cr:Key->Key)(U:Key->Prop):List aX->List aX->Prop
 |[],[]=>True|x::xs,y::c7=>vz cr U x y/\tQ cr U xs c7|_,_=>False
section
variable{m:Mem}{ρ:dk}{rf U:Key->Prop}{cr:Key->Key}
def qp.ok{x y:aX}(h:qp cr U x y){v:Value}(ad:cg m ρ rf x v):cg m (λk=>ρ (cr k)) U y v:=by
 unfold qp at h;split at h;.exact .any _
 .obtain⟨a,aG,hle⟩:=h;exact .d _ _ (hle _ _ (alb aG ad))
 .rcases h with rfl|rfl;.cases ad with|dV _ _ b o vs T eD hm xs J aa=>exact .dV _ _ b o vs T eD hm xs J aa
  cases ad.pB with|ref _ _ b o vs T eD hm xs J aa=>exact .dV _ _ b o vs T eD hm xs J aa
 .obtain⟨rfl,hu⟩:=h;cases ad with|ptr _ _ b _ av=>exact .ptr _ _ b hu av
 .obtain⟨rfl,hu⟩:=h;cases ad with|gJ _ _ _ _ b o len cap _ av=>exact .gJ _ _ _ _ b o len cap hu av
 .obtain⟨rfl,hu⟩:=h;cases ad;exact .row (ρ:=λk=>ρ (cr k)) _ hu
 .obtain⟨rfl,hu⟩:=h;cases ad with|sub _ _ _ _ b o L cap a _ av hle aG=>exact .sub _ _ _ _ b o L cap a hu av hle aG|kb _ _ _ _ av=>exact .kb _ _ _ hu av
 .obtain⟨rfl,hu⟩:=h;cases ad;exact .map (ρ:=λk=>ρ (cr k)) _ hu
 cases h
def jZ.ok:∀{xs c7:List aX},jZ cr U xs c7->c7.length=xs.length/\∀(i:Nat)(y:aX),c7[i]?=some y->∃x,xs[i]?=some x/\qp cr U x y
 |[],[],_=>⟨rfl,by simp⟩|x::xs,y::c7,h=>by have ih:=jZ.ok h.2;refine⟨by simp[ih.1],?_⟩;intro i z bF;cases i with|zero=>simp at bF;subst bF;exact⟨x,rfl,h.1⟩|succ i=>simp at bF;obtain⟨w,J,aa⟩:=ih.2 i z bF;exact⟨w,by simpa using J,aa⟩
 |[],y::c7,h=>h.elim|x::xs,[],h=>h.elim
def jZ.cells{xs c7:List aX}{vs:Array Value}(h:jZ cr U xs c7)(ad:mN m ρ rf xs vs):mN m (λk=>ρ (cr k)) U c7 vs:=by obtain⟨J,aa⟩:=h.ok;refine⟨by rw[ad.1,J],?_⟩;intro i y v aH aS;obtain⟨x,ax,bj⟩:=aa i y aH;exact bj.ok (ad.2 i x v ax aS)
def vz.ok{x y:aX}(h:vz cr U x y){v:Value}(ad:cg m ρ rf x v):cg m (λk=>ρ (cr k)) U y v:=by
 unfold vz at h;split at h
 .rename_i c7;split at h;.rename_i xs;obtain⟨vs,rfl,ah⟩:=ad.XT;have:=jZ.cells h ah;exact .agg _ _ this.1 this.2
  .rename_i aR;obtain⟨vs,rfl,al,ah⟩:=ad.XS;have ar:mN m ρ rf (aR.map .d) vs:=⟨by simpa using al,by
    intro i c v e1 aS;simp only[xah,xaf]at e1;obtain⟨z,bF,rfl⟩:=e1;exact .d _ _ (ah i z v bF aS)⟩
   have:=jZ.cells h ar;exact .agg _ _ this.1 this.2
  cases h
 .split at h;.obtain⟨vs,rfl,ah⟩:=ad.XU;have:=jZ.cells h ah;exact .aZ _ _ this.1 this.2
  cases h
 .split at h
  .obtain⟨rfl,J,aa⟩:=h;cases ad with|fn _ _ _ vs ws al eI g r6=>
   have a:=jZ.cells (U:=U) J ⟨al,g⟩;have b:=jZ.cells (U:=U) aa ⟨eI,r6⟩;exact .fn _ _ _ vs ws a.1 b.1 a.2 b.2
  cases h
 exact h.ok ad
end
def tQ.ok{cr:Key->Key}{U:Key->Prop}:∀{xs c7:List aX},tQ cr U xs c7->c7.length=xs.length/\∀(i:Nat)(y:aX),c7[i]?=some y->∃x,xs[i]?=some x/\vz cr U x y
 |[],[],_=>⟨rfl,by simp⟩|x::xs,y::c7,h=>by have ih:=tQ.ok h.2;refine⟨by simp[ih.1],?_⟩;intro i z bF;cases i with|zero=>simp at bF;subst bF;exact⟨x,rfl,h.1⟩|succ i=>simpa using ih.2 i z (by simpa using bF)
 |[],y::c7,h=>h.elim|x::xs,[],h=>h.elim
def tQ.cells{m:Mem}{ρ:dk}{rf U:Key->Prop}{cr:Key->Key}{xs c7:List aX}{vs:Array Value}(h:tQ cr U xs c7)(ad:mN m ρ rf xs vs):mN m (λk=>ρ (cr k)) U c7 vs:=by obtain⟨J,aa⟩:=h.ok;refine⟨by rw[ad.1,J],?_⟩;intro i y v aH aS;obtain⟨x,ax,bj⟩:=aa i y aH;exact bj.ok (ad.2 i x v ax aS)
def Rw(es df:List (List D)):Prop:=es=df\/(es.length=df.length/\∀(i:Nat)(x y:List D),es[i]?=some x->df[i]?=some y->x.length=y.length/\y.all D.one=true/\∀(j:Nat)(a b:D),x[j]?=some a->y[j]?=some b->a.le b)
def zC(cr:Key->Key)(U:Key->Prop)(x y:cX):Prop:=match y with| .dead=>True| .box c7=>∃xs,x= .box xs/\tQ cr U xs c7| .row k df=>∃es,x= .row k es/\Rw es df| .map es=>x= .map es
def Rw.ok{m:Mem}{ρ c4:dk}{U n5:Key->Prop}{k:Nat}{es df:List (List D)}(h:Rw es df){v:Value}{w:World}(ad:jE m ρ U v w (.row k es)):jE m c4 n5 v w (.row k df):=by
 rcases h with rfl|⟨al,h⟩;.exact ad
 rcases ad with⟨aM,rfl⟩|⟨b,o,cap,vs,T,aM,a8,b0,cK,dJ,eX⟩;.exact .inl ⟨aM,xaQ (by rw[<-al];rfl)⟩
 have key:∀(i:Nat)(y:List D),df[i]?=some y->∃x,es[i]?=some x/\x.length=y.length/\y.all D.one=true/\∀(j:Nat)(a b:D),x[j]?=some a->y[j]?=some b->a.le b:=by
  intro i y aH;have ag:i<es.length:=by rw[al];exact(xaa.1 aH).1
  exact⟨_,xab ag,h i _ y (xab ag) aH⟩
 refine .inr ⟨b,o,cap,vs,T,by rw[<-al];exact aM,a8,by omega,cK,?_,?_⟩;.intro y aH;obtain⟨i,ag⟩:=xaF.1 aH;obtain⟨x,J,aa,ax,_⟩:=key i y ag;exact⟨by rw[<-aa];exact(dJ x (xad J)).1,ax⟩
 intro i y j c ag aA;obtain⟨x,J,aa,_,ax⟩:=key i y ag;have Y7:j<x.length:=by rw[aa];exact(xaa.1 aA).1
 obtain⟨z,g1,g2⟩:=eX i x j _ J (xab Y7);exact⟨z,g1,ax j _ c (xab Y7) aA _ _ g2⟩
def L9:List (Nat×aX)->Nat->aX
 |[],_=> .any|(j,v)::r,t=>if t=j then v else L9 r t
def eY:List (Key×cX)->Key->Option cX
 |[],_=>none|(j,o)::r,k=>if k=j then some o else eY r k
def Y8(ls:List (Nat×aX))(lo:List (Key×cX)):aO:=⟨L9 ls,eY lo⟩
def C1(cr:Key->Key)(U:Key->Prop)(σ:aO):List (Nat×aX)->Prop
 |[]=>True|(t,v)::r=>vz cr U (σ.aQ t) v/\C1 cr U σ r
def zD(cr:Key->Key)(U:Key->Prop)(σ:aO):List (Key×cX)->Prop
 |[]=>True|(k,o)::r=>(∃o',σ.objs (cr k)=some o'/\zC cr U o' o)/\zD cr U σ r
def C1.ok{cr:Key->Key}{U:Key->Prop}{σ:aO}:∀{ls:List (Nat×aX)},C1 cr U σ ls->∀t,vz cr U (σ.aQ t) (L9 ls t)
 |[],_,t=>trivial
 |(j,v)::r,h,t=>by
  unfold L9;split;.rename_i e;subst e;exact h.1
  exact C1.ok h.2 t
def zD.ok{cr:Key->Key}{U:Key->Prop}{σ:aO}:∀{lo:List (Key×cX)},zD cr U σ lo->∀k o,eY lo k=some o->∃o',σ.objs (cr k)=some o'/\zC cr U o' o
 |[],_,k,o,h=>by cases h
 |(j,x)::r,h,k,o,ai=>by
  unfold eY at ai;split at ai;.rename_i e;subst e;cases ai;exact h.1
  exact zD.ok h.2 k o ai
def gn:List (Key×Key)->Key->Key
 |[],k=>k|(a,b)::r,k=>if k=a then b else gn r k
def mW(lo:List (Key×cX)):List Key:=lo.map (·.1)
def zE(cr:Key->Key):List Key->Bool
 |[]=>true|k::r=>r.all (λj=>k==j||!(cr k==cr j))&&zE cr r
def Ma{cr:Key->Key}:∀{l:List Key},zE cr l=true->∀k j,k∈l->j∈l->cr k=cr j->k=j
 |[],_,k,j,h,_,_=>by cases h
 |x::r,h,k,j,ai,aA,he=>by
  simp only[zE,xap,xaB]at h;rcases xam.1 ai with rfl|fs
  .rcases xam.1 aA with rfl|oa;.rfl
   have:=h.1 j oa;simp at this;rcases this with J|J
   .exact J
   exact absurd he J
  rcases xam.1 aA with rfl|oa
  .have:=h.1 k fs;simp at this;rcases this with J|J
   .exact J.symm
   exact absurd he.symm J
  exact Ma h.2 k j fs oa he
def xx:∀{lo:List (Key×cX)} {k:Key} {o:cX},eY lo k=some o->k∈mW lo
 |[],k,o,h=>by cases h
 |(j,x)::r,k,o,h=>by
  unfold eY at h;split at h;.rename_i e;subst e;simp[mW]
  have:=xx h;simp only[mW,xaw,xam]at this⊢;exact .inr this
def ale{σ:aO}{ls:List (Nat×aX)}{lo:List (Key×cX)}(l:List (Key×Key))(av:zE (gn l) (mW lo)=true) (az:C1 (gn l) (λk=>∃o,eY lo k=some o) σ ls) (aT:zD (gn l) (λk=>∃o,eY lo k=some o) σ lo) (ai:∀k,10000<=k->e3 (σ.objs k)->e3 (eY lo k)/\gn l k=k):hn σ (Y8 ls lo):=by
 intro m fr ρ a w h;have iG:∀{o o':cX},zC (gn l) (λk=>∃o,eY lo k=some o) o' o->o.owns=true->o'.owns=true:=by
  intro o o' hle aT;cases o with
  |dead=>cases aT
  |box=>obtain⟨xs,rfl,_⟩:=hle;rfl
  |row=>obtain⟨es,rfl,_⟩:=hle;rfl
  |map=>cases hle;rfl
 refine⟨m,λk=>ρ (gn l k),Mem.le_refl m,⟨h.mem,h.frame,h.apart,?_,?_,?_,?_,?_⟩,λk fs aj=>⟨(ai k fs aj).1,by show ρ (gn l k)=ρ k;rw[(ai k fs aj).2]⟩⟩;.rintro k ⟨o,k0⟩;obtain⟨o',J,_⟩:=aT.ok k o k0;exact h.one _ ⟨o',J⟩
 .intro t;exact(az.ok t).ok (h.aQ t)
 .intro k o k0;obtain⟨o',J,aa⟩:=aT.ok k o k0;have ax:=h.objs _ _ J;cases o with
  |dead=>trivial|box c7=>obtain⟨xs,rfl,hle⟩:=aa;obtain⟨b,vs,T,aM,a8,b0,cK⟩:=ax;have:=tQ.cells hle ⟨b0,cK⟩;exact⟨b,vs,T,aM,a8,this.1,this.2⟩
  |row cY df=>obtain⟨es,rfl,hle⟩:=aa;exact hle.ok ax
  |map es=>cases aa;exact ax
 .intro k o b k0 Mb aj;obtain⟨o',J,aa⟩:=aT.ok k o k0;exact h.own _ o' b J (iG aa Mb) aj
 intro k bG o o' b cp k0 Gw Gx Rx aj;obtain⟨x,J,aa⟩:=aT.ok k o k0;obtain⟨ju,dS,gT⟩:=aT.ok bG o' Gw;exact h.sep (gn l k) (gn l bG) x ju b (λe=>cp (Ma av k bG (xx k0) (xx Gw) e)) J dS (iG aa Gx) (iG gT Rx) aj
def C2(P:Program):Nat->List Field->Option (List TypeDesc)
 |_,[]=>some []|off,f::df=>if f.name≠ "_" /\f.offset=off then(match P.underlying f.type with|some .bool=>(C2 P (off+1) df).map (.bool::·)|some (.int k)=>(C2 P (off+1) df).map (.int k::·)|some .string=>(C2 P (off+1) df).map (.string::·)|_=>none)else none
def Mc{P:Program}:∀{df:List Field}{off:Nat}{l:List TypeDesc},C2 P off df=some l->Li P off df l
 |[],_,l,h=>by cases h;trivial
 |f::df,off,l,h=>by
  unfold C2 at h;split at h
  case isFalse=>cases h
  rename_i J;split at h;.rename_i hu;obtain⟨r,av,rfl⟩:=xaf.1 h;exact⟨J.1,J.2,hu,rfl,Mc av⟩
  .rename_i hu;obtain⟨r,av,rfl⟩:=xaf.1 h;exact⟨J.1,J.2,hu,rfl,Mc av⟩
  .rename_i hu;obtain⟨r,av,rfl⟩:=xaf.1 h;exact⟨J.1,J.2,hu,rfl,Mc av⟩
  cases h
def Ry(P:Program)(t:TypeId):Option (List TypeDesc):=match P.underlying t with
 |some (.struct df)=>match C2 P 0 df.toList with
  |some l=>if P.stoodInHeld t=false/\P.eqGuardType P.depth t=false then some l else none
  |none=>none
 |_=>none
def alf{P:Program}{t:TypeId}{l:List TypeDesc}(h:Ry P t=some l):XE P t l:=by
 unfold Ry at h;split at h
 case h_2=>cases h
 rename_i df hu;have bm:P.fieldsOf t=df:=by simp[Program.fieldsOf,hu]
 split at h
 case h_2=>cases h
 rename_i kc al;split at h
 case isFalse=>cases h
 rename_i ah;cases h;exact⟨by rw[bm];exact hu,ah.1,ah.2,by rw[bm];exact Mc al⟩
def Gy(P:Program)(t:TypeId):Option je:=match P.underlying t,P.info? t with
 |some d,some i=>match i.zero with
  |some z=>if z.cells.size=i.size then some ⟨d,i.size,i.bytes,z⟩else none
  |none=>none
 |_,_=>none
def Rz(P:Program)(t:TypeId)(name:String):Option FuncId:=match P.info? t,P.underlying t with
 |some i,some d=>match d with
  | .pointer _=>none
  |_=>match i.methods.find? (λm=>m.name==name)with
   |some m=>match m.path.toList,m.func with|[],some (f,false)=>some f|_,_=>none
   |none=>none
 |_,_=>none
def alg{P:Program}{t:TypeId}{name:String}{f:FuncId}(h:Rz P t name=some f):Lj P t name f:=by
 unfold Rz at h;split at h
 case h_2=>cases h
 rename_i i d J aa;split at h
 case h_1=>cases h
 rename_i aU;split at h
 case h_2=>cases h
 rename_i m hm;split at h
 case h_2=>cases h
 rename_i g ax bj;cases h;exact⟨i,m,d,J,hm,ax,bj,aa,λe he=>aU e he⟩
def fu(P:Program):cn:=⟨Gy P,Ry P,λ_=>false,Rz P,[],[]⟩
def cn.Md(T:cn)(l:List TypeId):cn:=⟨T.Lg,T.eqs,T.born,T.rU,l,T.dyn⟩
def dU.Md{P:Program}{T:cn}(h:dU P T)(l:List TypeId):dU P (T.Md l):=⟨h.ty,h.Cw,h.eqs,h.Lk⟩
def cn.xy(T:cn)(l:List Nat):cn:=⟨T.Lg,T.eqs,λk=>l.contains k,T.rU,T.QJ,T.dyn⟩
def dU.xy{P:Program}{T:cn}(h:dU P T)(l:List Nat):dU P (T.xy l):=⟨h.ty,h.Cw,h.eqs,h.Lk⟩
def cn.Me(T:cn)(l:List (Nat×List FuncId)):cn:=⟨T.Lg,T.eqs,T.born,T.rU,T.QJ,l⟩
def dU.Me{P:Program}{T:cn}(h:dU P T)(l:List (Nat×List FuncId)):dU P (T.Me l):=⟨h.ty,h.Cw,h.eqs,h.Lk⟩
def tok(P:Program):dU P (fu P):=by
 constructor
 .intro t i h;change Gy P t=some i at h;unfold Gy at h;split at h
  case h_2=>cases h
  rename_i d info J aa;split at h
  case h_2=>cases h
  rename_i z bF;split at h
  case isFalse=>cases h
  cases h;exact⟨J,info,aa,rfl,rfl,bF⟩
 .intro t i h;change Gy P t=some i at h;unfold Gy at h;split at h
  case h_2=>cases h
  rename_i d info J aa;split at h
  case h_2=>cases h
  rename_i z bF;split at h
  case isFalse=>cases h
  rename_i az;cases h;exact az
 .intro t l h;exact alf h
 intro t name f h;exact alg h
def I(n:Int):D:= .val (.int .i64 n)
def aK(b:Bool):D:= .val (.bool b)
def a6(s:ByteArray):D:= .val (.string s)
def cc(l:List Int):D:= .aW 1 (l.map λn=>[I n])
def Y9(l:List Bool):D:= .aW 1 (l.map λb=>[aK b])
def dH(l:List ByteArray):D:= .aW 1 (l.map λs=>[a6 s])
end Go.Am
