/- Calls, regions in any order, loops: their rules over such values. No condition. -/
import Derived.Test.YtbninlabhgbhcaaGreatDoorEngA
import Derived.Still
import Derived.Scope
set_option linter.all false
set_option linter.unnecessarySimpa false
namespace Go.Am
def aM.put(σ:aM)(dst:Option Tmp)(r:aX):aM:=match dst with|some d=>⟨cq σ.aO d r,σ.objs⟩|none=>σ
def hb(T:ch)(G:dt)(σ:aM)(o:Oper):Option aM:=match ez T (cg G σ.aO) o.op with|some r=>some (σ.put o.dst r)|none=>match dH T (cg G σ.aO) σ.objs o.op with|some r=>some (σ.put o.dst r)|none=>match hv T (cg G σ.aO) σ.objs (o.dst.getD 9999) o.op with|some (r,cA)=>some (aM.put ⟨σ.aO,dJ σ.objs cA⟩ o.dst r)|none=>none
structure mr(m:Mem)(fr:ff)(w:World):Prop where
 mem:∀b o,m b=some o->w.heap[b]?=some o
 frame:WB fr w
 apart:∀b,m b≠none->fr b=none
def Den.ok{m:Mem}{fr:ff}{ρ:di}{σ:aM}{a:Act}{w:World}(h:Den m fr ρ σ a w):mr m fr w:=⟨h.mem,h.frame,h.apart⟩
def rn(m:Mem)(aR:List D)(vs:List Value):Prop:=vs.length=aR.length/\∀(i:Nat)(d:D)(v:Value),aR[i]?=some d->vs[i]?=some v->c4 m d v
def wL(P:Program)(f:FuncId):Prop:=∃fn,P.funcs[f]?=some fn/\(fn.name== "runtime.NumGoroutine")=false/\fn.body.isNone=false
structure fz(P:Program)(G:dt)(f:FuncId)(aR:List D)(R:D->Prop):Prop where
 fn:wL P f
 run:∀m fr w vs,kf G m->mr m fr w->rn m aR vs->Calls P f vs.toArray w λe w'=>∃v cz r,e= .returned v/\R r/\m.le cz/\mr cz fr w'/\c4 cz r v
def fz.mono{P:Program}{G:dt}{f:FuncId}{aR:List D}{R Xs:D->Prop}(h:fz P G f aR R)(av:∀r,R r->Xs r):fz P G f aR Xs:=⟨h.fn,λm fr w vs cY cM cH=>(h.run m fr w vs cY cM cH).mono λe w' ⟨v,cz,r,J,aa,ax⟩=>⟨v,cz,r,J,av r aa,ax⟩⟩
def rp:List D->List D->Prop
 |[],[]=>True|x::xs,y::c7=>x.le y/\rp xs c7|_,_=>False
def rp.refl:∀l:List D,rp l l
 |[]=>trivial|x::l=>⟨x.le_refl,rp.refl l⟩
def rp.ok{m:Mem}:∀{xs c7:List D}{vs:List Value},rp xs c7->rn m xs vs->rn m c7 vs
 |[],[],vs,_,h=>h|x::xs,y::c7,[],_,h=>by have:=h.1;simp at this|x::xs,y::c7,v::vs,al,h=>by have ih:=rp.ok (m:=m) (vs:=vs) al.2 ⟨by simpa using h.1,λi d u ay hu=>h.2 (i+1) d u (by simpa using ay) (by simpa using hu)⟩;refine⟨by simpa using ih.1,?_⟩;intro i d u ay hu;cases i with|zero=>simp at ay hu;subst ay;subst hu;exact al.1 m v (h.2 0 x v rfl rfl)|succ i=>exact ih.2 i d u (by simpa using ay) (by simpa using hu)
 |[],y::c7,vs,h,_=>h.elim|x::xs,[],vs,h,_=>h.elim
def D.flat:D->Bool
 | .val _=>true| .agg cs=>cs.all λc=>match c with| .val _=>true|_=>false
 | .a6 cs=>cs.all λc=>match c with
  | .val _=>true| .agg cs=>cs.all λc=>match c with| .val _=>true|_=>false
  |_=>false
 |_=>false
def aiD{m cz:Mem}{c:D}{v:Value}(h:(match c with| .val _=>true|_=>false)=true)(ay:c4 m c v):c4 cz c v:=by cases c<;>first|(cases ay;exact .val _)|cases h
def flat_agg{m cz:Mem}{cs:List D}{v:Value}(h:(cs.all λc=>match c with| .val _=>true|_=>false)=true)(ay:c4 m (.agg cs) v):c4 cz (.agg cs) v:=by cases ay with|agg _ vs al bS=>exact .agg _ _ al λi c u ai hu=>aiD (xax.1 h c (xad ai)) (bS i c u ai hu)
def D.aiE{m cz:Mem}{x:D}{v:Value}(h:x.flat=true)(ay:c4 m x v):c4 cz x v:=by
 cases x with
 |val=>cases ay;exact .val _
 |agg cs=>exact flat_agg h ay
 |a6 cs=>
  cases ay with
  |a6 _ vs al bS=>
   refine .a6 _ _ al λi c u ai hu=>?_;have J:=xax.1 h c (xad ai);have aa:=bS i c u ai hu;cases c with
   |val=>cases aa;exact .val _
   |agg cs=>exact flat_agg J aa|a6=>cases J
   |aV=>cases J
   |ef=>cases J
   |mp=>cases J
   |ref=>cases J
   |fn=>cases J
 |aV=>cases h
 |ef=>cases h
 |mp=>cases h
 |ref=>cases h
 |fn=>cases h
def rq(objs:cx):aX->Option D
 | .d x=>some x| .row key=>match objs key with|some (.row k es)=>some (.aV k es)|_=>none
 | .sub key k i len=>match objs key with
  |some (.row bF es)=>if k=bF/\i+len<=es.length then some (.aV k ((es.drop i).take len))else none
  |_=>none
 | .map key=>match objs key with|some (.map es)=>some (.mp es)|_=>none
 |_=>none
def hK{α:Type}:List (Option α)->Option (List α)
 |[]=>some []|some x::r=>match hK r with|some l=>some (x::l)|none=>none
 |none::_=>none
def rr{α:Type}:∀{l:List (Option α)} {r:List α},hK l=some r->r.length=l.length/\∀(i:Nat)(x:α),r[i]?=some x->l[i]?=some (some x)
 |[],r,h=>by simp[hK]at h;subst h;simp|none::l,r,h=>by simp[hK]at h
 |some x::l,r,h=>by
  simp only[hK]at h;split at h
  case h_2=>cases h
  rename_i jT ew;cases h;have ih:=rr ew;refine⟨by simp[ih.1],?_⟩;intro i y aE;cases i with|zero=>simpa using aE|succ i=>exact ih.2 i y (by simpa using aE)
def nK(objs:cx):aX->Option D
 | .ptr key off=>match objs key with
  |some (.box cells)=>match hK (cells.map (rq objs))with|some cs=>some (.ref cs off)|none=>none
  |_=>none
 | .ed cs off=>some (.ref cs off)|x=>rq objs x
def pc(objs:cx):aX->Option D
 | .agg cs=>match hK (cs.map (nK objs))with|some aR=>some (.agg aR)|none=>none
 | .fn f first cap=>match hK (first.map (nK objs)),hK (cap.map (nK objs))with|some as,some jJ=>some (.fn f as jJ)|_,_=>none
 |x=>nK objs x
def toD(objs:cx):aX->Option D
 | .a6 cs=>match hK (cs.map (pc objs))with|some aR=>some (.a6 aR)|none=>none
 |x=>pc objs x
noncomputable def Den.all(m:Mem)(ρ:di)(objs:cx)(w:World):Mem:=λb=>match m b with|some o=>some o|none=>open Classical in if∃k o,objs k=some o/\o.owns=true/\blockOf (ρ k)=some b then w.heap[b]? else none
section
variable{P:Program}{T:ch}{G:dt}{m:Mem}{fr:ff}{ρ:di}{σ:aM}{a:Act}{w:World}
def Den.BY(m:Mem)(ρ:di)(objs:cx)(w:World):m.le (Den.all m ρ objs w):=by intro b o h;simp[Den.all,h]
def Den.KD(h:Den m fr ρ σ a w){k:Key}{o:cU}{b:Nat}(ah:σ.objs k=some o)(aT:o.owns=true)(aj:blockOf (ρ k)=some b):Den.all m ρ σ.objs w b=w.heap[b]?:=by have:=(h.own k o b ah aT aj).1;simp only[Den.all,this];rw[xac ⟨k,o,ah,aT,aj⟩]
def Den.aiF(h:Den m fr ρ σ a w):∀b o,Den.all m ρ σ.objs w b=some o->w.heap[b]?=some o:=by
 intro b o aj;unfold Den.all at aj;cases hm:m b with
 |some x=>simp only[hm]at aj;cases aj;exact h.mem b _ hm
 |none=>
  simp only[hm]at aj;split at aj;.exact aj
  cases aj
def Den.Xt(h:Den m fr ρ σ a w):mr (Den.all m ρ σ.objs w) fr w:=by
 refine⟨h.aiF,h.frame,?_⟩;intro b aj;unfold Den.all at aj;cases hm:m b with
 |some x=>exact h.apart b (by rw[hm];simp)
 |none=>
  simp only[hm]at aj;split at aj;.rename_i ai;obtain⟨k,o,J,aa,ax⟩:=ai;exact(h.own k o b J aa ax).2
  exact absurd rfl aj
def Xu(h:Den m fr ρ σ a w){x:aX}{v:Value}{d:D}(ad:cb m ρ σ.used x v)(ay:rq σ.objs x=some d):c4 (Den.all m ρ σ.objs w) d v:=by
 have hle:=Den.BY m ρ σ.objs w;have row:∀key k es v,σ.objs key=some (.row k es)->v=ρ key->c4 (Den.all m ρ σ.objs w) (.aV k es) v:=by
  rintro key k es v ah rfl;rcases h.objs _ _ ah with⟨aL,rfl⟩|⟨b,o,cap,vs,dY,aL,a7,bV,cG,dI,eL⟩;.rw[aL];exact .kH _ _ _
  have aj:=h.KD ah rfl (by rw[aL];rfl);obtain⟨f1,f2⟩:=W3 (m:=m) dI eL;rw[aL];refine .aV k es b o cap vs dY (0,0) (by rw[aj];exact a7) dI bV (λi j=>(vs[o+i*k+j]?).getD undef) ?_ ?_;.intro i e j c af aB;obtain⟨x,g1,g2⟩:=eL i e j c af aB;rw[g1];rfl
  intro i e j c af aB;obtain⟨x,g1,g2⟩:=eL i e j c af aB;simp only[g1,xbp];exact g2.mono hle
 unfold rq at ay;split at ay;.cases ay;exact ad.o7.mono hle
 .rename_i key;split at ay
  case h_2=>cases ay
  rename_i k es ah;cases ay;cases ad;exact row key k es _ ah rfl
 .rename_i key k i len;split at ay
  case h_2=>cases ay
  rename_i bF es ah;split at ay
  case isFalse=>cases ay
  rename_i ai;obtain⟨rfl,Kr⟩:=ai;cases ay;cases ad with|jS _ _ _ hu av=>rw[xbX];exact .kH _ _ _|sub _ _ _ _ b o L cap hs hu av o8 aH=>
  have bJ:((es.drop i).take len).length=len:=by simp;omega
  rcases Nat.eq_zero_or_pos len with au|ij;.subst au;rw[xbX];exact .kH _ _ _
  have js:=row key k es _ ah rfl;rw[av]at js;cases js with
  |kH=>simp at Kr;omega
  |aV _ _ _ _ _ vs dY et hm dx ai xs J aa=>
   have:=c4.aV (m:=Den.all m ρ σ.objs w) k ((es.drop i).take len) b (o+i*k) (cap-i) vs dY et hm (λe he=>dx e (xbn (xbo he))) (by omega) (λp j=>xs (i+p) j) (λp el j c ei ai=>by
     rw[xaL]at ei;split at ei
     case isFalse=>cases ei
     rw[xaW]at ei;have:=J (i+p) el j c ei ai;rw[<-this]
     congr 1
     rw[xaV];omega)
    (λp el j c ei ai=>by
     rw[xaL]at ei;split at ei
     case isFalse=>cases ei
     rw[xaW]at ei;exact aa (i+p) el j c ei ai)
   rw[bJ]at this;rw[aH.1 (by omega)];exact this
 .rename_i key;split at ay
  case h_2=>cases ay
  rename_i es ah;cases ay;cases ad;obtain⟨r,dz,clock,aL,a7,bV,cG,dI⟩:=h.objs _ _ ah;have aj:=h.KD ah rfl (by rw[aL];rfl);rw[aL];exact .mp es r dz clock (by rw[aj];exact a7) bV cG (λi e x he ad=>(dI i e x he ad).mono hle)
 cases ay
def KE(h:Den m fr ρ σ a w){x:aX}{v:Value}{d:D}(ad:cb m ρ σ.used x v)(ay:nK σ.objs x=some d):c4 (Den.all m ρ σ.objs w) d v:=by
 have hle:=Den.BY m ρ σ.objs w;unfold nK at ay;split at ay
 .rename_i key off;split at ay
  case h_2=>cases ay
  rename_i cells ah;split at ay
  case h_2=>cases ay
  rename_i cs hU;cases ay;obtain⟨b,vs,dY,aL,a7,bV,cG⟩:=h.objs _ _ ah;have aj:=h.KD ah rfl (by rw[aL];rfl);obtain⟨mu,k5⟩:=rr hU;cases ad with|ptr _ _ b' hu av=>
  rw[aL]at av;cases av;have key:∀(j:Nat)(c:D),cs[j]?=some c->∃u,vs[j]?=some u/\c4 (Den.all m ρ σ.objs w) c u:=by
   intro j c ai;have J:=k5 j c ai;simp only[xah,xaf]at J;obtain⟨y,aE,oi⟩:=J;have aB:j<vs.size:=by rw[bV];exact(xaa.1 aE).1
   exact⟨_,xak aB,Xu h (cG j y _ aE (xak aB)) oi⟩
  have:=c4.ref (m:=Den.all m ρ σ.objs w) cs off b 0 vs dY (0,0) (by rw[aj];exact a7) (λj=>(vs[j]?).getD undef) (λj c ai=>by obtain⟨u,J,_⟩:=key j c ai;simp[J]) (λj c ai=>by obtain⟨u,J,aa⟩:=key j c ai;simp[J];exact aa);simpa using this
 .cases ay;cases ad with|ed _ _ b o vs T et hm xs J aa=>exact .ref _ _ b o vs T et (hle _ _ hm) xs J (λj c ai=>(aa j c ai).mono hle)
 exact Xu h ad ay
def Xv(h:Den m fr ρ σ a w){x:aX}{v:Value}{d:D}(ad:cb m ρ σ.used x v)(ay:pc σ.objs x=some d):c4 (Den.all m ρ σ.objs w) d v:=by
 unfold pc at ay;split at ay
 .rename_i cs;split at ay
  case h_2=>cases ay
  rename_i aR eH;cases ay;obtain⟨mu,k5⟩:=rr eH;cases ad with|agg _ vs al bS=>
  refine .agg _ _ (by rw[al,mu];simp) ?_;intro i c u ai hu;have J:=k5 i c ai;simp only[xah,xaf]at J;obtain⟨y,aE,oi⟩:=J;exact KE h (bS i y u aE hu) oi
 .rename_i f first cap
  split at ay
  case h_2=>cases ay
  rename_i as jJ has Fh;cases ay;obtain⟨mu,k5⟩:=rr has;obtain⟨cS,e2⟩:=rr Fh;cases ad with|fn _ _ _ vs ws al ew bS yQ=>
  refine .fn _ _ _ vs ws (by rw[al,mu];simp) (by rw[ew,cS];simp) ?_ ?_;.intro i c u ai hu;have J:=k5 i c ai;simp only[xah,xaf]at J;obtain⟨y,aE,oi⟩:=J;exact KE h (bS i y u aE hu) oi
  intro i c u ai hu;have J:=e2 i c ai;simp only[xah,xaf]at J;obtain⟨y,aE,oi⟩:=J;exact KE h (yQ i y u aE hu) oi
 exact KE h ad ay
def Xw(h:Den m fr ρ σ a w){x:aX}{v:Value}{d:D}(ad:cb m ρ σ.used x v)(ay:toD σ.objs x=some d):c4 (Den.all m ρ σ.objs w) d v:=by
 unfold toD at ay;split at ay
 .rename_i cs;split at ay
  case h_2=>cases ay
  rename_i aR eH;cases ay;obtain⟨mu,k5⟩:=rr eH;cases ad with|a6 _ vs al bS=>
  refine .a6 _ _ (by rw[al,mu];simp) ?_;intro i c u ai hu;have J:=k5 i c ai;simp only[xah,xaf]at J;obtain⟨y,aE,oi⟩:=J;exact Xv h (bS i y u aE hu) oi
 exact Xv h ad ay
def aiG(h:Den m fr ρ σ a w){xs:List aX}{vs:List Value}{aR:List D}(al:vs.length=xs.length)(ad:∀(i:Nat)(x:aX)(v:Value),xs[i]?=some x->vs[i]?=some v->cb m ρ σ.used x v)(ay:hK (xs.map (toD σ.objs))=some aR):rn (Den.all m ρ σ.objs w) aR vs:=by obtain⟨mu,k5⟩:=rr ay;refine⟨by rw[al,mu];simp,?_⟩;intro i d v J aa;have ax:=k5 i d J;simp only[xah,xaf]at ax;obtain⟨y,aE,oi⟩:=ax;exact Xw h (ad i y v aE aa) oi
def Den.aiH(h:Den m fr ρ σ a w){w':World}{cz:Mem}(hle:(Den.all m ρ σ.objs w).le cz)(cM:mr cz fr w'):Den m fr ρ σ a w':=by refine⟨λb o aj=>cM.mem b o (hle b o (Den.BY m ρ σ.objs w b o aj)),cM.frame,h.apart,h.one,h.aO,?_,h.own,h.sep⟩;intro k o ah;refine(h.objs k o ah).mono (Mem.le_refl m) (λ_ hu=>⟨hu,rfl⟩) (λb aT aj=>?_);have J:=h.KD ah aT aj;have aa:b<w.heap.size:=(h.objs k o ah).uP aT aj;have ax:=xak aa;rw[ax]at J⊢;exact cM.mem b _ (hle b _ J)
noncomputable def Den.hold(fr:ff)(ρ:di)(objs:cx)(w:World):ff:=⟨Den.all fr.at_ ρ objs w,fr.os,fr.out,fr.low⟩
def Den.Xx(h:Den m fr ρ σ a w){k:Key}{o:cU}{b:Nat}(ah:σ.objs k=some o)(aT:o.owns=true)(aj:blockOf (ρ k)=some b):Den.hold fr ρ σ.objs w b=w.heap[b]?:=by have:=(h.own k o b ah aT aj).2;simp only[Den.hold,Den.all,this];rw[xac ⟨k,o,ah,aT,aj⟩]
def Den.Xy(h:Den m fr ρ σ a w):mr m (Den.hold fr ρ σ.objs w) w:=by
 refine⟨h.mem,⟨?_,⟨h.frame.quiet.os,h.frame.quiet.out,h.frame.quiet.low⟩⟩,?_⟩
 .intro b o aj;unfold Den.hold Den.all at aj;cases hm:fr b with
  |some x=>simp only[hm]at aj;cases aj;exact h.frame.nG b _ hm
  |none=>
   simp only[hm]at aj;split at aj;.exact aj
   cases aj
 intro b aj;show Den.all fr.at_ ρ σ.objs w b=none;unfold Den.all;rw[h.apart b aj];simp only;rw[xae];rintro⟨k,o,J,aa,ax⟩;exact aj (h.own k o b J aa ax).1
def Den.kept(h:Den m fr ρ σ a w){w':World}{cz:Mem}(hle:m.le cz)(cM:mr cz (Den.hold fr ρ σ.objs w) w'):Den cz fr ρ σ a w':=by
 have qz:∀b o,fr b=some o->Den.hold fr ρ σ.objs w b=some o:=Den.BY fr.at_ ρ σ.objs w;have iz:∀k o b,σ.objs k=some o->o.owns=true->blockOf (ρ k)=some b->cz b=none:=by intro k o b ah aT aj;cases hm:cz b with|none=>rfl|some x=>have J:=cM.apart b (by rw[hm];simp);rw[h.Xx ah aT aj,xak ((h.objs k o ah).uP aT aj)]at J;cases J
 refine⟨cM.mem,⟨λb o aj=>cM.frame.nG b o (qz b o aj),⟨cM.frame.quiet.os,cM.frame.quiet.out,cM.frame.quiet.low⟩⟩,?_,h.one,λt=>(h.aO t).mono hle (λ_ hu=>⟨hu,rfl⟩),?_,λk o b J aa ax=>⟨iz k o b J aa ax,(h.own k o b J aa ax).2⟩,h.sep⟩;.intro b aj;have:=cM.apart b aj;cases bk:fr b with|none=>rfl|some x=>rw[qz b x bk]at this;cases this
 intro k o ah;refine(h.objs k o ah).mono hle (λ_ hu=>⟨hu,rfl⟩) (λb aT aj=>?_);have J:=h.Xx ah aT aj;have ax:=xak ((h.objs k o ah).uP aT aj);rw[ax]at J⊢;exact cM.frame.nG b _ J
end
def eW(o:Option cU):Prop:=(∃cs,o=some (.box cs))\/(∃k es,o=some (.row k es))\/∃es,o=some (.map es)
theorem uU{cs:List aX}:eW (some (.box cs)):= .inl ⟨_,rfl⟩
theorem s6{k:Nat}{es:List (List D)}:eW (some (.row k es)):= .inr (.inl ⟨_,_,rfl⟩)
def uV:¬eW none:=by rintro(⟨_,h⟩|⟨_,_,h⟩|⟨_,h⟩)<;>cases h
def Fi:¬eW (some .dead):=by rintro(⟨_,h⟩|⟨_,_,h⟩|⟨_,h⟩)<;>cases h
theorem wM{es:List (Value×D)}:eW (some (.map es)):= .inr (.inr ⟨_,rfl⟩)
def BZ{o:Option cU}(h:eW o):∃x,o=some x:=by rcases h with⟨_,h⟩|⟨_,_,h⟩|⟨_,h⟩<;>exact⟨_,h⟩
def k6(σ:aM)(ρ:di)(aZ:aM)(c0:di):Prop:=∀k,10000<=k->eW (σ.objs k)->eW (aZ.objs k)/\c0 k=ρ k
theorem k6.refl(σ:aM)(ρ:di):k6 σ ρ σ ρ:=λ_ _ h=>⟨h,rfl⟩
def k6.trans{gC ga Xz:aM}{nL ly XA:di}(h:k6 gC nL ga ly)(bC:k6 ga ly Xz XA):k6 gC nL Xz XA:=λk ah aj=>let⟨a,b⟩:=h k ah aj;let⟨c,d⟩:=bC k ah a;⟨c,d.trans b⟩
@[simp] theorem aM.wN (σ:aM) (dst:Option Tmp) (r:aX):(σ.put dst r).objs=σ.objs:=by cases dst<;>rfl
def jg(N:Nat)(m:Mem)(fr:ff)(ρ:di)(σ:aM)(K:aM->Prop)(cI:Act)(w':World):Prop:= ∃aZ cz c0,K aZ/\m.le cz/\Den cz fr c0 aZ cI w'/\N<=cI.tmps.size/\cI.defers=[]/\k6 σ ρ aZ c0
def Den.put{m:Mem}{fr:ff}{ρ:di}{σ:aM}{a:Act}{w:World}(h:Den m fr ρ σ a w){dst:Option Tmp}{r:aX}{v:Value}(av:cb m ρ σ.used r v)(ay:∀d,dst=some d->d<a.tmps.size):Den m fr ρ (σ.put dst r) (a.put dst v) w:=by
 cases dst with
 |none=>exact h
 |some d=>
  refine⟨h.mem,h.frame,h.apart,h.one,?_,h.objs,h.own,h.sep⟩;intro t;have b5:=ay d rfl;by_cases aP:t=d
  .subst aP;simp only[aM.put,e1,Act.put];have:(a.tmps.setIfInBounds t v).getD t undef=v:=by simp[Array.getD,b5]
   rw[this];exact av
  simp only[aM.put,c5 _ _ aP,Act.put];have:(a.tmps.setIfInBounds d v).getD t undef=a.tmps.getD t undef:=by rw[xbg,xbg,Array.getElem?_setIfInBounds,xae (xbV aP)]
  rw[this];exact h.aO t
def P6{objs:cx}{k:Key}{o:cU}(h:eW (objs k)->eW (some o)):∀j,eW (objs j)->eW (cq objs k (some o) j):=by
 intro j aB;by_cases fy:j=k;.subst fy;rw[e1];exact h aB
 rw[c5 _ _ fy];exact aB
def aiI{T:ch}{ev:Operand->aX}{objs:cx}{d:Key}{o:Op}{r:aX}{cA:List (Key×cU)}(h:eu T ev objs d o=some (r,cA)):∀j,10000<=j->eW (objs j)->eW (dJ objs cA j):=by
 have new:∀{o:cU},objs d=none->∀j,10000<=j->eW (objs j)->eW (dJ objs [(d,o)] j):=by intro o ay j _;exact P6 (λh=>by rw[ay]at h;exact absurd h uV) j
 have same:∀{k:Key}{dZ o:cU},objs k=some dZ->(eW (some dZ)->eW (some o))->∀j,10000<=j->eW (objs j)->eW (dJ objs [(k,o)] j):=by intro k dZ o ah cp j _;exact P6 (λh=>by rw[ah]at h;exact cp h) j
 cases o<;>simp only[eu,reduceCtorEq]at h
 case alloc=>split at h<;>cases h;exact new (by assumption)
 case box=>split at h<;>cases h;exact new (by assumption)
 case buildSlice=>
  split at h
  case h_2=>cases h
  split at h
  case h_2=>cases h
  split at h
  case h_2=>cases h
  split at h<;>cases h;exact new (by assumption)
 case makeSlice=>
  split at h
  case h_2=>cases h
  split at h
  case h_2=>cases h
  split at h
  case h_2=>cases h
  split at h<;>cases h;exact new (by assumption)
 case makeMap=>split at h<;>cases h;exact new (by assumption)
 case store=>
  split at h
  case h_2=>cases h
  split at h
  case isFalse=>cases h
  split at h
  .split at h
   case h_2=>cases h
   split at h<;>cases h;exact λj _=>P6 (λ_=>uU) j
  .split at h
   case h_2=>cases h
   split at h
   case isFalse=>cases h
   split at h<;>cases h;exact same (by assumption) (λ_=>s6)
  cases h
 case mapUpdate=>
  split at h
  case h_2=>cases h
  split at h
  case h_2=>cases h
  split at h
  case isFalse=>cases h
  split at h
  case h_2=>cases h
  split at h
  case h_2=>cases h
  split at h<;>cases h;exact same (by assumption) (λ_=>wM)
 case insert=>
  split at h
  case h_2=>cases h
  split at h
  case h_2=>cases h
  split at h
  case isFalse=>cases h
  split at h
  case h_2=>cases h
  split at h
  case h_2=>cases h
  split at h<;>cases h;exact same (by assumption) (λ_=>wM)
 case call=>
  split at h
  .split at h
   case h_2=>cases h
   split at h
   case h_2=>cases h
   split at h
   case h_2=>cases h
   split at h
   case h_2=>cases h
   split at h
   case isFalse=>cases h
   split at h;.split at h<;>cases h;exact new (by assumption)
   .split at h
    case h_2=>cases h
    split at h<;>cases h;rename_i ay _ _ _ _ _ _ _ _ _ _ _ _ ah _ _;rename_i KF;intro j ct aB;have aiJ:j≠d:=by rintro rfl;simp_all [uV]
    simp only[dJ];rw[c5 _ _ aiJ,c5 _ _ (by rintro rfl;exact absurd KF.2.2.2 (Nat.not_lt.2 ct))];exact aB
   cases h
  .split at h
   case h_2=>cases h
   split at h
   case h_2=>cases h
   split at h
   case h_2=>cases h
   split at h
   case h_2=>cases h
   split at h
   case isFalse=>cases h
   split at h
   .split at h
    case h_2=>cases h
    split at h<;>cases h;exact same (by assumption) (λ_=>s6)
   .split at h
    case h_2=>cases h
    split at h<;>cases h;exact same (by assumption) (λ_=>s6)
   cases h
  .split at h
   case h_2=>cases h
   split at h
   case h_2=>cases h
   split at h
   case h_2=>cases h
   split at h
   case h_2=>cases h
   split at h
   case h_2=>cases h
   split at h<;>cases h;exact same (by assumption) (λ_=>s6)
  cases h
def XB{T:ch}{ev:Operand->aX}{objs:cx}{d:Key}{o:Op}{k:Key}{off:Nat}{cA:List (Key×cU)}(h:eu T ev objs d o=some (.ptr k off,cA)):objs d=none:=by
 cases o<;>simp only[eu,reduceCtorEq]at h
 case alloc=>split at h<;>cases h;assumption
 case box=>split at h<;>cases h;assumption
 all_goals (repeat' split at h)<;>cases h
def XC{T:ch}{ev:Operand->aX}{objs:cx}{d:Key}{o:Op}{cA:List (Key×cU)}(h:eu T ev objs d o=some (.row d,cA)):objs d=none:=by
 cases o<;>simp only[eu,reduceCtorEq]at h
 all_goals (repeat' split at h)<;>cases h<;>assumption
def aiK{T:ch}{ev:Operand->aX}{objs:cx}{d:Key}{o:Op}{r:aX}{cA:List (Key×cU)}(h:hv T ev objs d o=some (r,cA)):∀j,10000<=j->eW (objs j)->eW (dJ objs cA j):=by
 obtain⟨⟨ju,s5⟩,au,aj⟩:=wK h;have J:=aiI au;intro j ct aB;have aN:∀{o:cU},objs d=none->j≠d:=by rintro o ay rfl;rw[ay]at aB;exact uV aB
 rcases yP (T.born d) d ju s5 with e|⟨n,es,rfl,rfl,e⟩|⟨qv,n,es,rfl,rfl,e⟩|⟨off,cs,aR,rfl,rfl,eH,e⟩;.rw[aj]at e;cases e;exact J j ct aB
 .rw[aj]at e;cases e;have ay:=aN (o:= .dead) (XC au);have:=J j ct aB;simp only[dJ,c5 _ _ ay]at this⊢;exact this
 .rw[aj]at e;cases e;have ay:=aN (o:= .dead) (XC au);have:=J j ct aB;simp only[dJ,c5 _ _ ay]at this⊢;exact this
 rw[aj]at e;cases e;have ay:=aN (o:= .dead) (XB au);simp only[dJ,c5 _ _ ay];exact aB
section
variable{P:Program}{T:ch}{G:dt}{m:Mem}{fr:ff}{ρ:di}{σ:aM}{a:Act}{w:World}{N:Nat}
def aiL(bl:ee P T)(cY:kf G m)(h:Den m fr ρ σ a w)(cf:N<=a.tmps.size)(hL:a.defers=[]){o:Oper}(gn:∀d,o.dst=some d->d<N){aZ:aM}(aC:hb T G σ o=some aZ){K:aM->Prop}(hx:K aZ){Q:Exit->Act->World->Prop}:o.wp P a w (jg N m fr ρ σ K) Q:=by
 have dA:=EX (a:=a) cY h.aO;have jh:∀d,o.dst=some d->d<a.tmps.size:=λd ay=>xcf (gn d ay) cf;have s7:∀v,N<=(a.put o.dst v).tmps.size:=by intro v;cases o.dst<;>simpa[Act.put]using cf
 have mw:∀v,(a.put o.dst v).defers=[]:=by intro v;cases o.dst<;>exact hL
 unfold Oper.wp;unfold hb at aC;split at aC;.rename_i r av;cases aC;obtain⟨v,J,aa⟩:=ahP (P:=P) (w:=w) (o:=o) bl h.one dA av;rw[J];exact⟨_,m,ρ,hx,Mem.le_refl m,h.put aa jh,s7 v,mw v,λk ah aj=>⟨by simpa using aj,rfl⟩⟩
 split at aC;.rename_i r av;cases aC;obtain⟨v,J,aa⟩:=ahX (P:=P) (w:=w) (o:=o) bl h.mem h.objs dA av;rw[J];exact⟨_,m,ρ,hx,Mem.le_refl m,h.put aa jh,s7 v,mw v,λk ah aj=>⟨by simpa using aj,rfl⟩⟩
 split at aC
 case h_2=>cases aC
 rename_i r cA av;cases aC;obtain⟨nx,v,w',cz,c0,J,aa,hm,ax,bh,b9⟩:=aiC (P:=P) (o:=o) bl h dA av;rw[J];have fin:jg N m fr ρ σ K (a.put o.dst v) w':=⟨_,cz,c0,hx,hm,ax.put bh jh,s7 v,mw v,λk ah aj=>⟨by rw[aM.wN];exact aiK av k ah aj,by obtain⟨c,ai⟩:=BZ aj;exact(b9 k ⟨_,ai⟩).2⟩⟩;rcases aa with rfl|⟨rfl,rfl⟩
 .exact fin
 exact fin
def wO:aX->Option (FuncId×List aX×List aX)
 | .d (.val (.func (.func f) first cap))=>if first.size=0/\cap.size=0 then some (f,[],[])else none
 | .fn (.func f) first cap=>some (f,first,cap)
 | .d (.fn (.func f) first cap)=>some (f,first.map .d,cap.map .d)
 |_=>none
def B0:aX->Bool
 | .d _=>true| .ed _ _=>true|_=>false
def s8:aX->Bool
 | .agg cs=>cs.all B0| .fn _ as jJ=>as.all B0&&jJ.all B0|x=>B0 x
def P7{m:Mem}{ρ:di}{U:Key->Prop}{objs:cx}{x:aX}{d:D}{v:Value}(h:B0 x=true)(ay:nK objs x=some d)(aS:cb m ρ U x v):c4 m d v:=by
 cases x<;>first|cases h|skip
 .simp only[nK,rq]at ay;cases ay;exact aS.o7
 simp only[nK]at ay;cases ay;cases aS with|ed _ _ b o vs T et hm xs J aa=>exact .ref _ _ b o vs T et hm xs J aa
def P8{m:Mem}{ρ:di}{U:Key->Prop}{objs:cx}{cs:List aX}{aR:List D}{vs:Array Value}(h:cs.all B0=true)(ay:hK (cs.map (nK objs))=some aR)(al:vs.size=cs.length) (aS:∀(i:Nat)(c:aX)(v:Value),cs[i]?=some c->vs[i]?=some v->cb m ρ U c v):vs.size=aR.length/\∀(i:Nat)(c:D)(v:Value),aR[i]?=some c->vs[i]?=some v->c4 m c v:=by obtain⟨J,aa⟩:=rr ay;refine⟨by rw[J,al];simp,λi c v ai af=>?_⟩;have ax:=aa i c ai;simp only[xah,xaf]at ax;obtain⟨y,aE,wP⟩:=ax;exact P7 (xax.1 h y (xad aE)) wP (aS i y v aE af)
def P9{m:Mem}{ρ:di}{U:Key->Prop}{objs:cx}{x:aX}{d:D}{v:Value}(h:s8 x=true)(ay:toD objs x=some d)(aS:cb m ρ U x v):c4 m d v:=by
 cases x
 case agg cs=>
  simp only[toD,pc]at ay;split at ay
  case h_2=>cases ay
  rename_i aR eH;cases ay;cases aS with|agg _ vs al bS=>
  obtain⟨g1,g2⟩:=P8 h eH al bS;exact .agg _ _ g1 g2
 case fn f as jJ=>
  simp only[s8,xao]at h;simp only[toD,pc]at ay;split at ay
  case h_2=>cases ay
  rename_i aR B1 eH aiM;cases ay;cases aS with|fn _ _ _ vs ws al ew bS yQ=>
  obtain⟨g1,g2⟩:=P8 h.1 eH al bS;obtain⟨g3,g4⟩:=P8 h.2 aiM ew yQ;exact .fn _ _ _ _ _ g1 g3 g2 g4
 case d y=>exact P7 (x:= .d y) rfl (by simpa[toD,pc]using ay) aS
 case ed cs off=>exact P7 (x:= .ed cs off) rfl (by simpa[toD,pc]using ay) aS
 all_goals cases h
def XD(P:Program)(G:dt)(σ:aM)(dst:Option Tmp)(f:FuncId)(uW:List aX)(K:aM->Prop):Prop:= ∃nM aR R,hK (uW.map (toD σ.objs))=some nM/\rp nM aR/\fz P G f aR R/\(∃ju,R=(·=ju))/\((∀r,R r->r.flat=true)\/uW.all s8=true)/\∀r,R r->K (σ.put dst (.d r))
def jK(P:Program)(G:dt)(o:Oper)(σ:aM)(K:aM->Prop):Prop:=match o.op with
 | .call ⟨.value x,args,_⟩=>match wO (cg G σ.aO x)with|some (f,pre,post)=>XD P G σ o.dst f (pre++args.toList.map (cg G σ.aO)++post) K|none=>False
 |_=>False
def df(P:Program)(T:ch)(G:dt)(o:Oper)(K:aM->Prop)(σ:aM):Prop:=match hb T G σ o with|some aZ=>K aZ|none=>jK P G o σ K
def eA(P:Program)(T:ch)(G:dt)(all:Array Oper)(o:Oper)(K:aM->Prop)(σ:aM):Prop:=match o.guard with
 |none=>df P T G o K σ
 |some (j,want)=>match(all[j]?).bind (·.dst)with
  |some d=>match σ.aO d with
   | .d (.val (.bool b))=>if b=want then df P T G o K σ else K (σ.put o.dst (.d (.val (.tuple #[]))))
   | .d (.val (.tuple _))=>K (σ.put o.dst (.d (.val (.tuple #[]))))|_=>False
  |none=>False
def fO(P:Program)(T:ch)(G:dt)(all:Array Oper):List Oper->(aM->Prop)->aM->Prop
 |[],K,σ=>K σ|o::r,K,σ=>eA P T G all o (fO P T G all r K) σ
def XE{va:Operand->Value}{x:Operand}{args:Array Operand}{dK:Array TypeId}{ty:TypeId}{f:FuncId}{first cap:Array Value}(ad:va x= .func (.func f) first cap)(bk:wL P f):(do let d<-resolve va {callee:= .value x,args:=args,argTypes:=dK} ty;invoke d.target d.args:Sem Next).run P w= .ok (.enter f (first++args.map va++cap)) w:=by obtain⟨fn,J,aa,ax⟩:=bk;simp only[xai,resolve,ad,Deferred.ofValue,xaw,xag,invoke,callFunc,program,Sem.run,J,aa,ax,xar,xaH]
def aiN(cY:kf G m)(h:Den m fr ρ σ a w)(cf:N<=a.tmps.size)(hL:a.defers=[]){o:Oper}(gn:∀d,o.dst=some d->d<N){K:aM->Prop}(ai:jK P G o σ K){Q:Exit->Act->World->Prop}:o.wp P a w (jg N m fr ρ σ K) Q:=by
 have dA:=EX (a:=a) cY h.aO;have jh:∀d,o.dst=some d->d<a.tmps.size:=λd ay=>xcf (gn d ay) cf;have s7:∀v,N<=(a.put o.dst v).tmps.size:=by intro v;cases o.dst<;>simpa[Act.put]using cf
 have mw:∀v,(a.put o.dst v).defers=[]:=by intro v;cases o.dst<;>exact hL
 unfold jK at ai;split at ai
 case h_2=>cases ai
 rename_i x args dK ea;split at ai
 case h_2=>cases ai
 rename_i f pre post hc;obtain⟨nM,aR,R,J,aa,ax,bh,b9,cN⟩:=ai;have ad:=dA x;have Qa:∃first cap,a.eval x= .func (.func f) first cap/\first.size=pre.length/\cap.size=post.length/\(∀(i:Nat)(c:aX)(v:Value),pre[i]?=some c->first[i]?=some v->cb m ρ σ.used c v)/\(∀(i:Nat)(c:aX)(v:Value),post[i]?=some c->cap[i]?=some v->cb m ρ σ.used c v):=by
  unfold wO at hc;split at hc
  .rename_i kJ first cap he
   split at hc
   case isFalse=>cases hc
   rename_i au;cases hc;rw[he]at ad;exact⟨first,cap,ad.hS,by simpa using au.1,by simpa using au.2,by intro i c v ai;simp at ai,by intro i c v ai;simp at ai⟩
  .rename_i kJ first cap he
   cases hc;rw[he]at ad;generalize a.eval x=u at ad;cases ad with|fn _ _ _ vs ws al ew g ru=>exact⟨vs,ws,rfl,al,ew,g,ru⟩
  .rename_i kJ first cap he
   cases hc;rw[he]at ad;have ad:=ad.o7;generalize a.eval x=u at ad;cases ad with|fn _ _ _ vs ws al ew g ru=>
   refine⟨vs,ws,rfl,by simpa using al,by simpa using ew,?_,?_⟩;.intro i c v ai aS;simp only[xah,xaf]at ai;obtain⟨y,aE,rfl⟩:=ai;exact .d _ _ (g i y v aE aS)
   intro i c v ai aS;simp only[xah,xaf]at ai;obtain⟨y,aE,rfl⟩:=ai;exact .d _ _ (ru i y v aE aS)
  .cases hc
 obtain⟨first,cap,wB,mW,ob,g1,g2⟩:=Qa;have ft:∀(i:Nat)(c:aX)(v:Value),(pre++args.toList.map (cg G σ.aO)++post)[i]?=some c->(first++args.map a.eval++cap).toList[i]?=some v->cb m ρ σ.used c v:=by
  intro i c v ai aS;simp only[Array.toList_append,Array.toList_map]at aS;have aL:first.toList.length=pre.length:=by simpa using mW
  by_cases J:i<pre.length;.rw[xaK,xap J]at ai;rw[xaK,xap (by omega)]at aS;exact g1 i c v ai (by simpa using aS)
  .by_cases aa:i<pre.length+args.size;.rw[xap (by simp;omega),xaC (by omega)]at ai;rw[xap (by simp;omega),xaC (by omega),aL]at aS;simp only[xah,xaf]at ai aS;obtain⟨p,aU,rfl⟩:=ai;obtain⟨q,bM,rfl⟩:=aS;rw[aU]at bM;cases bM;exact dA _
   rw[xaC (by simp;omega)]at ai;rw[xaC (by simp;omega)]at aS;refine g2 _ c v ai ?_;rw[<-aS];simp only[xaQ,xaY,xbT,mW];simp
 have bJ:(first++args.map a.eval++cap).toList.length=(pre++args.toList.map (cg G σ.aO)++post).length:=by simp[mW,ob]
 have Qb:(execOp a.eval o).run P w= .ok (.enter f (first++args.map a.eval++cap)) w:=by unfold execOp;rw[ea];exact XE wB ax.fn
 unfold Oper.wp;rw[Qb];rcases b9 with b9|b9
 ·
  have cH:=rp.ok aa (aiG h bJ ft J);have s9:=ax.run _ fr w _ (cY.mono (Den.BY m ρ σ.objs w)) h.Xt cH;simp only[Array.toArray_toList]at s9;refine s9.mono λe w' he=>?_;obtain⟨v,cz,r,rfl,b0,bR,cw,dX⟩:=he;have ck:=h.aiH bR cw;exact⟨_,m,ρ,cN r b0,Mem.le_refl m,ck.put (.d _ _ (D.aiE (b9 r b0) dX)) jh,s7 v,mw v,λk ah aj=>⟨by simpa using aj,rfl⟩⟩
 have Qc:rn m nM (first++args.map a.eval++cap).toList:=by obtain⟨g1,g2⟩:=rr J;refine⟨by rw[bJ,g1];simp,?_⟩;intro i d v ay aS;have g3:=g2 i d ay;rw[xah,xaf]at g3;obtain⟨y,aE,uX⟩:=g3;exact P9 (xax.1 b9 y (xad aE)) uX (ft i y v aE aS)
 have s9:=ax.run m _ w _ cY h.Xy (rp.ok aa Qc);simp only[Array.toArray_toList]at s9;refine s9.mono λe w' he=>?_;obtain⟨v,cz,r,rfl,b0,bR,cw,dX⟩:=he;have ck:=h.kept bR cw;exact⟨_,cz,ρ,cN r b0,bR,ck.put (.d _ _ dX) jh,s7 v,mw v,λk ah aj=>⟨by simpa using aj,rfl⟩⟩
def Qd(bl:ee P T)(cY:kf G m)(h:Den m fr ρ σ a w)(cf:N<=a.tmps.size)(hL:a.defers=[]){o:Oper}(gn:∀d,o.dst=some d->d<N){K:aM->Prop}(ai:df P T G o K σ){Q:Exit->Act->World->Prop}:o.wp P a w (jg N m fr ρ σ K) Q:=by
 unfold df at ai;split at ai;.exact aiL bl cY h cf hL gn (by assumption) ai
 exact aiN cY h cf hL gn ai
def Qe(bl:ee P T)(cY:kf G m)(h:Den m fr ρ σ a w)(cf:N<=a.tmps.size)(hL:a.defers=[]){all:Array Oper}{i:Nat}{o:Oper}(af:all[i]?=some o)(gn:∀d,o.dst=some d->d<N){K:aM->Prop}(ai:eA P T G all o K σ) {Q:Exit->Act->World->Prop}:wpOp P all Q i (jg N m fr ρ σ K) a w:=by
 have jh:∀d,o.dst=some d->d<a.tmps.size:=λd ay=>xcf (gn d ay) cf;unfold wpOp;simp only[af];unfold eA at ai;split at ai
 .rename_i bQ;have:Region.wanted o (yielded all a.tmps)=true:=by simp[Region.wanted,bQ]
  rw[xac this];exact .inl (Qd bl cY h cf hL gn ai)
 rename_i j want bQ;split at ai
 case h_2=>cases ai
 rename_i d ay;have mx:∀v,a.tmps.getD d undef=v->yielded all a.tmps j=(match v with| .bool b=>some b|_=>none):=by intro v aS;unfold yielded;rw[ay];simp only[Option.bind_some];rw[xbg]at aS;cases b5:a.tmps[d]? with|none=>rw[b5]at aS;simp only[Option.getD_none]at aS;subst aS;rfl|some u=>rw[b5]at aS;simp only[xbp]at aS;subst aS;cases u<;>rfl
 have skip:Region.wanted o (yielded all a.tmps)=false->K (σ.put o.dst (.d (.val (.tuple #[]))))->jg N m fr ρ σ K (a.put o.dst undef) w:=λ_ ah=>⟨_,m,ρ,ah,Mem.le_refl m,h.put (.d _ _ (.val _)) jh,by cases o.dst<;>simpa[Act.put]using cf,by cases o.dst<;>exact hL,λk ah aj=>⟨by simpa using aj,rfl⟩⟩;split at ai
 .rename_i b aC;have aS:=h.aO d;rw[aC]at aS;have aE:=mx _ aS.hS;simp only at aE;have hw:Region.wanted o (yielded all a.tmps)=(b==want):=by
   simp only[Region.wanted,bQ,aE];cases b<;>cases want<;>rfl
  by_cases aj:b=want;.rw[xac aj]at ai;rw[hw,xac (by simpa using aj)];exact .inl (Qd bl cY h cf hL gn ai)
  rw[xae aj]at ai;have bk:Region.wanted o (yielded all a.tmps)=false:=by rw[hw];simpa using aj
  rw[xae (by rw[bk];simp)];exact skip bk ai
 .rename_i vs aC;have aS:=h.aO d;rw[aC]at aS;have aE:=mx _ aS.hS;simp only at aE;have bk:Region.wanted o (yielded all a.tmps)=false:=by
   simp only[Region.wanted,bQ,aE];rfl
  rw[xae (by rw[bk];simp)];exact skip bk ai
 cases ai
def wpOp_mono{ops:Array Oper}{Q:Exit->Act->World->Prop}{i:Nat}{K K':Act->World->Prop}(ah:∀a w,K a w->K' a w){a:Act}{w:World}(h:wpOp P ops Q i K a w):wpOp P ops Q i K' a w:=by
 unfold wpOp at*;split;.rename_i e;simp only[e]at h;exact ah _ _ h
 rename_i o e;simp only[e]at h;split
 .rename_i hw;rw[xac hw]at h;rcases h with h|h
  .refine .inl ?_;unfold Oper.wp at*;generalize (execOp a.eval o).run P w=r at*;cases r with
   |ok n w'=>
    cases n<;>simp only[Oper.upon]at h⊢<;>first|exact ah _ _ h|exact h|skip
    .refine h.mono λe k7 he=>?_;cases e with|returned v=>exact ah _ _ he|panicked c=>exact he|outgrown=>exact he
    exact h.mono λv k7 he=>ah _ _ he
   |halt x w'=>cases x<;>exact h
  exact .inr h
 rename_i hw;rw[xae hw]at h;exact ah _ _ h
end
def KG{ev ji:Operand->aX}{l:List Operand}(h:∀x∈l,ev x=ji x):l.map ev=l.map ji:=List.map_congr_left h
theorem XF{ev ji:Operand->aX}{iO:Array (Nat×Operand)}(h:∀x∈(iO.toList.map (·.2)),ev x=ji x):(iO.toList.map λp=>(p.1,ev p.2))=iO.toList.map λp=>(p.1,ji p.2):=List.map_congr_left λp aU=>by rw[h p.2 (xaO.2 ⟨p,aU,rfl⟩)]
def aiO{T:ch}{ev ji:Operand->aX}{op:Op}(h:∀x∈op.operands.toList,ev x=ji x):ez T ev op=ez T ji op:=by
 cases op<;>simp only[ez]
 case move x=>rw[h x (by simp[Op.operands])]
 case assign x=>rw[h x (by simp[Op.operands])]
 case pick c a b=>rw[h c (by simp[Op.operands]),h a (by simp[Op.operands]),h b (by simp[Op.operands])]
 case binOp op t x y yB=>rw[h x (by simp[Op.operands]),h y (by simp[Op.operands])]
 case unOp op t x=>rw[h x (by simp[Op.operands])]
 case convert s t x=>rw[h x (by simp[Op.operands])]
 case fieldAddr s x f=>rw[h x (by simp[Op.operands])]
 case field s x f=>rw[h x (by simp[Op.operands])]
 case extract x i=>rw[h x (by simp[Op.operands])]
 case build t parts=>rw[XF (by simpa[Op.operands]using h)]
 case index t x i=>rw[h x (by simp[Op.operands]),h i (by simp[Op.operands])]
 case makeFunc f first cap=>rw[KG (l:=first.toList) (λx ad=>h x (by simp[Op.operands]at ad⊢;exact .inl ad)),KG (l:=cap.toList) (λx ad=>h x (by simp[Op.operands]at ad⊢;exact .inr ad))]
 case makeInterface t x=>rw[h x (by simp[Op.operands])]
 case nilCheck x=>rw[h x (by simp[Op.operands])]
 case slice t x lo af fX=>
  cases fX with
  |some _=>rfl
  |none=>
   simp only[ez];have aL:lo.map ev=lo.map ji:=by cases lo with|none=>rfl|some l=>simp only[xaI];rw[h l (by simp[Op.operands])]
   have a7:af.map ev=af.map ji:=by cases af with|none=>rfl|some l=>simp only[xaI];rw[h l (by simp[Op.operands])]
   rw[h x (by simp[Op.operands]),aL,a7]
 case call c=>obtain⟨callee,args,dK⟩:=c;simp only;have e:args.toList.map ev=args.toList.map ji:=KG λx ad=>h x (by simp[Op.operands,Call.operands]at ad⊢;exact .inr ad);rw[e]
def aiP{T:ch}{ev ji:Operand->aX}{objs:cx}{op:Op}(h:∀x∈op.operands.toList,ev x=ji x):dH T ev objs op=dH T ji objs op:=by
 cases op<;>simp only[dH]
 case convert s t x=>rw[h x (by simp[Op.operands])]
 case load t a=>rw[h a (by simp[Op.operands])]
 case indexAddr t x eV=>rw[h x (by simp[Op.operands]),h eV (by simp[Op.operands])]
 case slice t x lo af fX=>
  cases fX with
  |some _=>rfl
  |none=>
   simp only[dH];have aL:lo.map ev=lo.map ji:=by cases lo with|none=>rfl|some l=>simp only[xaI];rw[h l (by simp[Op.operands])]
   have a7:af.map ev=af.map ji:=by cases af with|none=>rfl|some l=>simp only[xaI];rw[h l (by simp[Op.operands])]
   rw[h x (by simp[Op.operands]),aL,a7]
 case call c=>
  obtain⟨callee,args,dK⟩:=c;simp only;split
  .split
   .rename_i t x lT dB;have aH:args= #[x]:=by apply xbJ;simpa using dB
    have e:ev x=ji x:=h x (by simp[Op.operands,Call.operands,aH]);rw[e]
   rfl
  rfl
 case lookup t x k ok=>rw[h x (by simp[Op.operands]),h k (by simp[Op.operands])]
 case binOp op t x y yB=>rw[h x (by simp[Op.operands]),h y (by simp[Op.operands])]
def aiQ{T:ch}{ev ji:Operand->aX}{objs:cx}{d:Key}{op:Op}(h:∀x∈op.operands.toList,ev x=ji x):eu T ev objs d op=eu T ji objs d op:=by
 cases op<;>simp only[eu]
 case box t x=>rw[h x (by simp[Op.operands])]
 case buildSlice t n parts=>rw[XF (by simpa[Op.operands]using h)]
 case makeSlice t l c=>rw[h l (by simp[Op.operands]),h c (by simp[Op.operands])]
 case store t a x=>rw[h a (by simp[Op.operands]),h x (by simp[Op.operands])]
 case mapUpdate t m k x=>rw[h m (by simp[Op.operands]),h k (by simp[Op.operands]),h x (by simp[Op.operands])]
 case insert t m k x=>rw[h m (by simp[Op.operands]),h k (by simp[Op.operands]),h x (by simp[Op.operands])]
 case call c=>
  obtain⟨callee,args,dK⟩:=c;simp only;split
  .split
   .rename_i t t' s x lT dB;have aH:args= #[s,x]:=by apply xbJ;simpa using dB
    have aL:ev s=ji s:=h s (by simp[Op.operands,Call.operands,aH]);have a7:ev x=ji x:=h x (by simp[Op.operands,Call.operands,aH]);rw[aL,a7]
   rfl
  .split
   .rename_i t t' s x lT dB;have aH:args= #[s,x]:=by apply xbJ;simpa using dB
    have aL:ev s=ji s:=h s (by simp[Op.operands,Call.operands,aH]);have a7:ev x=ji x:=h x (by simp[Op.operands,Call.operands,aH]);rw[aL,a7]
   rfl
  .split
   .rename_i t s lT dB;have aH:args= #[s]:=by apply xbJ;simpa using dB
    rw[h s (by simp[Op.operands,Call.operands,aH])]
   rfl
  rfl
def aiR{T:ch}{ev ji:Operand->aX}{objs:cx}{d:Key}{op:Op}(h:∀x∈op.operands.toList,ev x=ji x):hv T ev objs d op=hv T ji objs d op:=by unfold hv;rw[aiQ h]
def iV:Op->Bool
 | .move _| .assign _| .pick ..| .unOp ..| .fieldAddr ..| .field ..| .extract ..| .build ..| .index ..| .makeFunc ..| .makeInterface ..| .nilCheck _=>true|_=>false
def jv:Op->Bool
 | .load ..| .indexAddr ..| .slice ..| .lookup ..| .binOp ..| .convert ..=>true| .call ⟨.builtin b,_,_⟩=>match b with| .len| .max| .min=>true|_=>false
 |_=>false
def hM:Op->Bool
 | .call ⟨.value _,_,_⟩=>true|_=>false
def qA:Op->Bool
 | .alloc _| .box ..| .buildSlice ..=>true|_=>false
theorem B2{T:ch}{ev:Operand->aX}{objs:cx}{d:Key}{op:Op}(h:iV op=true):dH T ev objs op=none/\hv T ev objs d op=none:=by cases op<;>first|exact⟨rfl,rfl⟩|cases h
def B3{T:ch}{ev:Operand->aX}{objs:cx}{d:Key}{op:Op}(h:jv op=true):hv T ev objs d op=none:=by
 cases op
 case call c=>
  obtain⟨callee,args,dK⟩:=c;cases callee with
  |value=>cases h
  |invoke=>cases h
  |builtin b=>cases b<;>first|rfl|cases h
 all_goals first|rfl|cases h
def Qf{T:ch}{ev:Operand->aX}{objs:cx}{d:Key}{op:Op}(h:hM op=true):ez T ev op=none/\dH T ev objs op=none/\hv T ev objs d op=none:=by
 cases op
 case call c=>
  obtain⟨callee,args,dK⟩:=c;cases callee with
  |value=>exact⟨rfl,rfl,rfl⟩|invoke=>cases h
  |builtin b=>cases h
 all_goals cases h
theorem rv{T:ch}{ev:Operand->aX}{objs:cx}{op:Op}(h:qA op=true):ez T ev op=none/\dH T ev objs op=none:=by cases op<;>first|exact⟨rfl,rfl⟩|cases h
def aiS{T:ch}{ev:Operand->aX}{objs objs':cx}{d:Key}{op:Op}(h:qA op=true)(au:objs' d=none){r:aX}{cA:List (Key×cU)}(he:eu T ev objs d op=some (r,cA)):eu T ev objs' d op=some (r,cA)/\objs d=none/\∃o,cA=[(d,o)]:=by
 cases op
 case alloc t=>
  simp only[eu]at he⊢;split at he
  case h_2=>cases he
  rename_i i aP ay;cases he;exact⟨by simp only[au,aP],ay,_,rfl⟩
 case box t x=>
  simp only[eu]at he⊢;split at he
  case h_2=>cases he
  rename_i cs ai ay;cases he;exact⟨by simp only[au,ai],ay,_,rfl⟩
 case buildSlice t n parts=>
  simp only[eu]at he⊢;split at he
  case h_2=>cases he
  rename_i e s b z aP ay;simp only[au,aP];split at he
  case h_2=>cases he
  rename_i bp iU
  try simp only[iU]
  split at he
  case h_2=>cases he
  rename_i es aU
  try simp only[aU]
  split at he
  case isFalse=>cases he
  rename_i ai;cases he;exact⟨by rw[xac ai],ay,_,rfl⟩
 all_goals cases h
def B4{T:ch}{ev:Operand->aX}{objs objs':cx}{d:Key}{op:Op}(h:qA op=true)(au:objs' d=none){r:aX}{cA:List (Key×cU)}(he:hv T ev objs d op=some (r,cA)):hv T ev objs' d op=some (r,cA)/\objs d=none/\∃o,cA=[(d,o)]:=by
 obtain⟨⟨ju,s5⟩,g0,aj⟩:=wK he;obtain⟨g1,g2,o,rfl⟩:=aiS (objs':=objs') h au g0;refine⟨by unfold hv;rw[g1];simp[aj],g2,?_⟩;rcases yP (T.born d) d ju [(d,o)]with e|⟨n,es,aL,a7,e⟩|⟨qv,n,es,aL,a7,e⟩|⟨off,cs,aR,aL,a7,eH,e⟩;.rw[aj]at e;cases e;exact⟨o,rfl⟩
 .rw[aj]at e;cases e;exact⟨_,rfl⟩
 .cases a7
 rw[aj]at e;cases e;exact⟨_,rfl⟩
def cx.ext(objs objs':cx):Prop:=∀k o,objs k=some o->objs' k=some o
def cx.KH{objs:cx}{k:Key}(h:objs k=none)(o:cU):objs.ext (cq objs k (some o)):=by
 intro j x ad;have:j≠k:=by rintro rfl;rw[h]at ad;cases ad
 rw[c5 _ _ this];exact ad
def XG{objs objs':cx}(h:objs.ext objs'){x:aX}{n:Nat}(al:kg objs x=some n):kg objs' x=some n:=by
 unfold kg at*;split at al;.exact al
 .exact al
 .split at al;.rename_i ah;rw[h _ _ ah];exact al
  cases al
 .exact al
 cases al
def aiT{objs objs':cx}(h:objs.ext objs'){x:aX}{es:List (List D)}(al:qt objs x=some es):qt objs' x=some es:=by
 unfold qt at*;split at al;.exact al
 .exact al
 .split at al;.rename_i ah;rw[h _ _ ah];exact al
  cases al
 .split at al;.rename_i ah;rw[h _ _ ah];exact al
  cases al
 cases al
def KI{objs objs':cx}(h:objs.ext objs'){x:aX}{b:Bool}(al:mX objs x=some b):mX objs' x=some b:=by
 unfold mX at*;split at al;.exact al
 .exact al
 .split at al;.rename_i ah;rw[h _ _ ah];exact al
  cases al
 cases al
def XH{objs objs':cx}(h:objs.ext objs'){x:aX}{d:D}(al:rq objs x=some d):rq objs' x=some d:=by
 unfold rq at*;split at al;.exact al
 .split at al;.rename_i ah;rw[h _ _ ah];exact al
  cases al
 .split at al;.rename_i ah;rw[h _ _ ah];exact al
  cases al
 .split at al;.rename_i ah;rw[h _ _ ah];exact al
  cases al
 cases al
def pX{α:Type}{f g:aX->Option α}(h:∀x d,f x=some d->g x=some d):∀(l:List aX)(r:List α),hK (l.map f)=some r->hK (l.map g)=some r
 |[],r,av=>av
 |x::l,r,av=>by
  simp only[xau]at av⊢;cases ad:f x with
  |none=>simp[ad,hK]at av
  |some d=>
   rw[ad]at av;simp only[hK]at av;split at av
   case h_2=>cases av
   rename_i jT ew;rw[h x d ad];simp only[hK,pX h l jT ew];exact av
def KJ{objs objs':cx}(h:objs.ext objs'){x:aX}{d:D}(al:nK objs x=some d):nK objs' x=some d:=by
 unfold nK at*;split at al
 .split at al
  case h_2=>cases al
  rename_i ah;simp only[h _ _ ah];split at al
  case h_2=>cases al
  rename_i cs hU;rw[pX (λx d ad=>XH h ad) _ _ hU];exact al
 .exact al
 exact XH h al
def XI{objs objs':cx}(h:objs.ext objs'){x:aX}{d:D}(al:pc objs x=some d):pc objs' x=some d:=by
 unfold pc at*;split at al
 .split at al
  case h_2=>cases al
  rename_i aR eH;rw[pX (λx d ad=>KJ h ad) _ _ eH];exact al
 .split at al
  case h_2=>cases al
  rename_i as jJ has Fh;rw[pX (λx d ad=>KJ h ad) _ _ has,pX (λx d ad=>KJ h ad) _ _ Fh];exact al
 exact KJ h al
def aiU{objs objs':cx}(h:objs.ext objs'){x:aX}{d:D}(al:toD objs x=some d):toD objs' x=some d:=by
 unfold toD at*;split at al
 .split at al
  case h_2=>cases al
  rename_i aR eH;rw[pX (λx d ad=>XI h ad) _ _ eH];exact al
 exact XI h al
def aiV{T:ch}{ev:Operand->aX}{objs objs':cx}(h:objs.ext objs'){op:Op}{r:aX}(hm:dH T ev objs op=some r):dH T ev objs' op=some r:=by
 cases op<;>simp only[dH,reduceCtorEq]at hm⊢
 case convert s t x=>
  split at hm
  case h_2=>cases hm
  rename_i aL a7;split at hm
  case h_2=>cases hm
  rename_i bV;split at hm
  case h_2=>cases hm
  rename_i es he;simp only[aL,a7,bV,aiT h he];exact hm
 case load t a=>
  split at hm
  case h_2=>cases hm
  split at hm;.exact hm
  .split at hm
   case h_2=>cases hm
   rename_i ah;simp only[h _ _ ah];exact hm
  .split at hm
   case h_2=>cases hm
   rename_i ah;simp only[h _ _ ah];exact hm
  cases hm
 case indexAddr t x eV=>
  split at hm
  .split at hm
   case h_2=>cases hm
   split at hm
   case isFalse=>cases hm
   rename_i au;rw[xac au];split at hm;.exact hm
   .split at hm
    case h_2=>cases hm
    rename_i ah;simp only[h _ _ ah];exact hm
   .exact hm
   cases hm
  .exact hm
  cases hm
 case slice t x lo af fX=>
  cases fX with
  |some _=>simp[dH]at hm
  |none=>
   simp only[dH]at hm⊢;split at hm
   case h_3=>cases hm
   case h_2=>exact hm
   split at hm
   case h_2=>cases hm
   split at hm
   case h_2=>cases hm
   rename_i n aN;simp only[XG h aN];split at hm
   case h_2=>cases hm
   split at hm
   case isFalse=>cases hm
   rename_i ai;rw[xac ai];split at hm;.exact hm
   .split at hm
    case h_2=>cases hm
    rename_i ah;simp only[h _ _ ah];exact hm
   .exact hm
   cases hm
 case call c=>
  split at hm
  case h_2=>cases hm
  split at hm
  case h_2=>cases hm
  split at hm;.exact hm
  .split at hm
   case h_2=>cases hm
   rename_i n aN;simp only[XG h aN];exact hm
  .exact hm
  .exact hm
  .split at hm
   case h_2=>cases hm
   rename_i ah;simp only[h _ _ ah];exact hm
  cases hm
 case lookup t x k ok=>
  split at hm
  case h_2=>cases hm
  split at hm;.exact hm
  .exact hm
  .split at hm
   case h_2=>cases hm
   rename_i ah;simp only[h _ _ ah];exact hm
  cases hm
 case binOp op t x y yB=>
  split at hm
  case h_2=>cases hm
  split at hm
  .split at hm
   .rename_i ai;rw[xac ai];split at hm
    case h_2=>cases hm
    rename_i b aj;simp only[KI h aj];exact hm
   rename_i ai;rw[xae ai];split at hm
   case isFalse=>cases hm
   rename_i ry;rw[xac ry];split at hm
   case h_2=>cases hm
   rename_i b aj;simp only[KI h aj];exact hm
  .split at hm
   .rename_i ai;rw[xac ai];split at hm
    case h_2=>cases hm
    rename_i b aj;simp only[KI h aj];exact hm
   rename_i ai;rw[xae ai];split at hm
   case isFalse=>cases hm
   rename_i ry;rw[xac ry];split at hm
   case h_2=>cases hm
   rename_i b aj;simp only[KI h aj];exact hm
  cases hm
def XJ:∀(cA:List (Key×cU)) {objs:cx} {k:Key} {o:cU},(∀p∈cA,p.1≠k)->dJ (cq objs k (some o)) cA=cq (dJ objs cA) k (some o)
 |[],objs,k,o,_=>rfl
 |(j,x)::r,objs,k,o,h=>by
  have aB:j≠k:=h (j,x) (by simp);simp only[dJ];have e:cq (cq objs k (some o)) j (some x)=cq (cq objs j (some x)) k (some o):=by
   funext i
   simp only[cq];by_cases J:i=j;.subst J;simp[aB]
   by_cases aa:i=k;.subst aa;simp[J]
   simp[J,aa]
  rw[e];exact XJ r (λp aU=>h p (by simp[aU]))
def KK{objs objs':cx}(h:objs.ext objs'){x:aX}{r:Nat×List (List D)}(al:mn objs x=some r):mn objs' x=some r:=by
 unfold mn at*;split at al;.exact al
 .exact al
 .split at al;.rename_i ah;rw[h _ _ ah];exact al
  cases al
 .split at al;.rename_i ah;rw[h _ _ ah];exact al
  cases al
 cases al
def aiW{T:ch}{ev:Operand->aX}{objs objs':cx}(h:objs.ext objs'){d k:Key}(ay:d≠k)(ah:objs k=none)(lz:objs d=none->objs' d=none){op:Op}{r:aX}{cA:List (Key×cU)} (he:eu T ev objs d op=some (r,cA)):eu T ev objs' d op=some (r,cA)/\∀p∈cA,p.1≠k:=by
 have one:∀{o:cU},∀p∈[(d,o)],p.1≠k:=by intro o p aU;simp at aU;subst aU;exact ay
 have jU:∀{j:Key}{x o:cU},objs j=some x->∀p∈[(j,o)],p.1≠k:=by intro j x o aB p aU;simp at aU;subst aU;rintro rfl;rw[ah]at aB;cases aB
 cases op<;>simp only[eu,reduceCtorEq]at he
 case alloc t=>split at he<;>cases he;rename_i i aP au;exact⟨by simp only[eu,aP,lz au],one⟩
 case box t x=>split at he<;>cases he;rename_i cs ai au;exact⟨by simp only[eu,ai,lz au],one⟩
 case buildSlice t n parts=>
  split at he
  case h_2=>cases he
  rename_i e s b z aP au;split at he
  case h_2=>cases he
  rename_i bp iU;split at he
  case h_2=>cases he
  rename_i es aU;split at he
  case isFalse=>cases he
  rename_i ai;cases he;exact⟨by simp only[eu,aP,lz au,iU,aU];rw[xac ai],one⟩
 case makeSlice t l c=>
  split at he
  case h_2=>cases he
  rename_i e s b z aP au;split at he
  case h_2=>cases he
  rename_i bp iU;split at he
  case h_2=>cases he
  rename_i Kw ait Kx aiu J aa;split at he
  case isFalse=>cases he
  rename_i ai;cases he;exact⟨by simp only[eu,aP,lz au,iU,J,aa];rw[xac ai],one⟩
 case makeMap t r=>split at he<;>cases he;rename_i au;exact⟨by simp only[eu,lz au],one⟩
 case store t a x=>
  split at he
  case h_2=>cases he
  rename_i i cs aP ai;split at he
  case isFalse=>cases he
  rename_i al;split at he
  .rename_i j off hC;split at he
   case h_2=>cases he
   rename_i cells aB;split at he
   case isFalse=>cases he
   rename_i bk;cases he;exact⟨by simp only[eu,aP,ai,hC,h _ _ aB];rw[xac al,xac bk],jU aB⟩
  .rename_i j cV eV off hC;split at he
   case h_2=>cases he
   rename_i bF es aR aB eH;split at he
   case isFalse=>cases he
   rename_i bk;split at he
   case h_2=>cases he
   rename_i el ei;cases he;exact⟨by simp only[eu,aP,ai,hC,h _ _ aB,eH];rw[xac al,xac bk];simp only[ei],jU aB⟩
  cases he
 case mapUpdate t m aiX x=>
  split at he
  case h_2=>cases he
  rename_i iy je s b z aP;split at he
  case h_2=>cases he
  rename_i ig s3;split at he
  case isFalse=>cases he
  rename_i dx;split at he
  case h_2=>cases he
  rename_i key e9 P2 aL a7 bV;split at he
  case h_2=>cases he
  rename_i es aB;split at he
  case h_2=>cases he
  rename_i l al;cases he;exact⟨by simp only[eu,aP,s3,aL,a7,bV,h _ _ aB,al];rw[xac dx],jU aB⟩
 case insert t m aiX x=>
  split at he
  case h_2=>cases he
  rename_i iy je s b z aP;split at he
  case h_2=>cases he
  rename_i ig s3;split at he
  case isFalse=>cases he
  rename_i dx;split at he
  case h_2=>cases he
  rename_i key e9 P2 aL a7 bV;split at he
  case h_2=>cases he
  rename_i es aB;split at he
  case h_2=>cases he
  rename_i l al;cases he;exact⟨by simp only[eu,aP,s3,aL,a7,bV,h _ _ aB,al];rw[xac dx],jU aB⟩
 case call c=>
  obtain⟨callee,args,dK⟩:=c;simp only at he;split at he
  .split at he
   case h_2=>cases he
   rename_i t t' s x lT dB;split at he
   case h_2=>cases he
   rename_i e s1 fJ lx du s2 hV z2 aP qx au;split at he
   case h_2=>cases he
   rename_i bp iU;split at he
   case h_2=>cases he
   rename_i cV xs mq;split at he
   case isFalse=>cases he
   rename_i ai;split at he
   .rename_i fZ;split at he
    case isFalse=>cases he
    rename_i aj;cases he;exact⟨by simp only[eu,lT,dB,aP,qx,lz au,iU,KK h mq,fZ];rw[xac ai,xac aj],one⟩
   .rename_i key fZ;split at he
    case h_2=>cases he
    rename_i bF es aB;split at he
    case isFalse=>cases he
    rename_i aj;cases he;refine⟨by simp only[eu,lT,dB,aP,qx,lz au,iU,KK h mq,fZ,h _ _ aB];rw[xac ai,xac aj],?_⟩;intro p aU;simp at aU;rcases aU with rfl|rfl
    .rintro rfl;rw[ah]at aB;cases aB
    exact ay
   cases he
  .split at he
   case h_2=>cases he
   rename_i t t' s x lT dB;split at he
   case h_2=>cases he
   rename_i e s1 fJ lx aP;split at he
   case h_2=>cases he
   rename_i bp iU;split at he
   case h_2=>cases he
   rename_i cV xs mq;split at he
   case isFalse=>cases he
   rename_i ai;split at he
   .rename_i key fZ;split at he
    case h_2=>cases he
    rename_i bF es aB;split at he
    case isFalse=>cases he
    rename_i aj;cases he;exact⟨by simp only[eu,lT,dB,aP,iU,KK h mq,fZ,h _ _ aB];rw[xac ai,xac aj],jU aB⟩
   .rename_i key e2 i len fZ;split at he
    case h_2=>cases he
    rename_i bF es aB;split at he
    case isFalse=>cases he
    rename_i aj;cases he;exact⟨by simp only[eu,lT,dB,aP,iU,KK h mq,fZ,h _ _ aB];rw[xac ai,xac aj],jU aB⟩
   cases he
  .split at he
   case h_2=>cases he
   rename_i t s lT dB;split at he
   case h_2=>cases he
   rename_i e s1 fJ lx aP;split at he
   case h_2=>cases he
   rename_i bp iU;split at he
   case h_2=>cases he
   rename_i key e2 i len fZ;split at he
   case h_2=>cases he
   rename_i bF es aB;split at he
   case isFalse=>cases he
   rename_i aj;cases he;exact⟨by simp only[eu,lT,dB,aP,iU,fZ,h _ _ aB];rw[xac aj],jU aB⟩
  cases he
def aiY{T:ch}{ev:Operand->aX}{objs objs':cx}(h:objs.ext objs'){d k:Key}(ay:d≠k)(ah:objs k=none)(lz:objs d=none->objs' d=none){op:Op}{r:aX}{cA:List (Key×cU)} (he:hv T ev objs d op=some (r,cA)):hv T ev objs' d op=some (r,cA)/\∀p∈cA,p.1≠k:=by obtain⟨⟨ju,s5⟩,g0,aj⟩:=wK he;obtain⟨g1,g2⟩:=aiW (objs':=objs') h ay ah lz g0;refine⟨by unfold hv;rw[g1];simp[aj],λp aU=>?_⟩;have ax:=aiA (b:=T.born d) (d:=d) (q:=(ju,s5)) p (by rw[aj];exact aU);obtain⟨pb,bh,b9⟩:=ax;rw[<-b9];exact g2 pb bh
def res(T:ch)(G:dt)(σ:aM)(o:Oper):Option (aX×List (Key×cU)):=match ez T (cg G σ.aO) o.op with|some r=>some (r,[])|none=>match dH T (cg G σ.aO) σ.objs o.op with|some r=>some (r,[])|none=>hv T (cg G σ.aO) σ.objs (o.dst.getD 9999) o.op
def aM.step(σ:aM)(dst:Option Tmp)(r:aX)(cA:List (Key×cU)):aM:=aM.put ⟨σ.aO,dJ σ.objs cA⟩ dst r
theorem wQ{T:ch}{G:dt}{σ:aM}{o:Oper}:hb T G σ o=(res T G σ o).map λp=>σ.step o.dst p.1 p.2:=by unfold hb res aM.step;cases ez T (cg G σ.aO) o.op with|some r=>rfl|none=>cases dH T (cg G σ.aO) σ.objs o.op with|some r=>rfl|none=>cases hv T (cg G σ.aO) σ.objs (o.dst.getD 9999) o.op with|none=>rfl|some p=>obtain⟨r,cA⟩:=p;rfl
theorem aiZ{G:dt}{σ:aM}{dst:Option Tmp}{r:aX}{x:Operand}(h:∀d,dst=some d->x≠ .tmp d):cg G (σ.put dst r).aO x=cg G σ.aO x:=by cases dst with|none=>rfl|some d=>cases x with|tmp t=>have:t≠d:=λe=>h d rfl (by rw[e]);simp only[cg,aM.put,c5 _ _ this]|_=>rfl
theorem ai0{all:Array Oper}{o:Oper}{d:Tmp}(h:d∉o.looksAt all):∀x∈o.op.operands.toList,x≠ .tmp d:=by rintro x ad rfl;exact h (by unfold Oper.looksAt;exact xaX _ (List.mem_filterMap.2 ⟨_,ad,rfl⟩))
def ai1{all:Array Oper}{o:Oper}{d:Tmp}(h:d∉o.looksAt all){j:Nat}{b:Bool}(bQ:o.guard=some (j,b)){e:Tmp}(he:(all[j]?).bind (·.dst)=some e):e≠d:=by rintro rfl;exact h (by unfold Oper.looksAt;exact xbN _ (by simp[bQ,he]))
def put_comm{σ:aM}{x y:Option Tmp}{r s:aX}(h:∀d,x=some d->y≠some d):(σ.put x r).put y s=(σ.put y s).put x r:=by
 cases x with
 |none=>rfl
 |some d=>
  cases y with
  |none=>rfl
  |some e=>
   have cp:d≠e:=λhe=>h d rfl (by rw[he]);simp only[aM.put]
   congr 1
   funext t
   simp only[cq];by_cases J:t=d;.subst J;simp[cp]
   by_cases aa:t=e;.subst aa;simp[J]
   simp[J,aa]
def pass(x y:Oper):Bool:=iV x.op||iV y.op||((jv x.op||hM x.op)&&(jv y.op||hM y.op)&&!(hM x.op&&hM y.op))||(qA y.op&&match y.dst with|some d=>decide (d<9999)|none=>false)
def jV(all:Array Oper)(σ:aM)(o:Oper):Option Bool:=match o.guard with
 |none=>some true
 |some (j,want)=>match(all[j]?).bind (·.dst)with
  |some d=>match σ.aO d with| .d (.val (.bool b))=>some (decide (b=want))| .d (.val (.tuple _))=>some false|_=>none
  |none=>none
section
variable{P:Program}{T:ch}{G:dt}{all:Array Oper}
def hW{o:Oper}{K:aM->Prop}{σ:aM}:eA P T G all o K σ=match jV all σ o with|some true=>df P T G o K σ|some false=>K (σ.put o.dst (.d (.val (.tuple #[]))))|none=>False:=by
 unfold eA jV;cases bQ:o.guard with
 |none=>rfl
 |some p=>
  obtain⟨j,want⟩:=p;simp only;cases ay:(all[j]?).bind (·.dst)with
  |none=>rfl
  |some d=>
   simp only;generalize σ.aO d=x;cases x with
   |d x=>
    cases x with
    |val v=>cases v with|bool b=>by_cases h:b=want<;>simp[h]|_=>rfl
    |_=>rfl
   |_=>rfl
def pd{o:Oper}{σ:aM}{dst:Option Tmp}{r:aX}(h:∀d,dst=some d->d∉o.looksAt all):jV all (σ.put dst r) o=jV all σ o:=by
 unfold jV;split;.rfl
 rename_i j want bQ;split
 .rename_i e he;have aC:(σ.put dst r).aO e=σ.aO e:=by
   cases dst with|none=>rfl|some d=>simp only[aM.put,c5 _ _ (ai1 (h d rfl) bQ he)]
  rw[aC]
 rfl
def XK{o:Oper}{σ:aM}{dst:Option Tmp}{r:aX}(h:∀d,dst=some d->d∉o.looksAt all):∀x∈o.op.operands.toList,cg G (σ.put dst r).aO x=cg G σ.aO x:=λx ad=>aiZ λd ay=>ai0 (h d ay) x ad
def ai2{o:Oper}{σ:aM}{dst:Option Tmp}{r:aX}(h:∀d,dst=some d->d∉o.looksAt all):res T G (σ.put dst r) o=res T G σ o:=by have dA:=XK (G:=G) (σ:=σ) (r:=r) h;unfold res;rw[aiO dA,aiP dA,aiR dA,aM.wN]
theorem ai3{σ:aM}{KL Qg:Option Tmp}{r s:aX}{cA:List (Key×cU)}(h:∀d,KL=some d->Qg≠some d):(σ.put KL r).step Qg s cA=(σ.step Qg s cA).put KL r:=by unfold aM.step;rw[<-put_comm h];cases KL<;>rfl
def ai4{o:Oper}{σ:aM}{dst:Option Tmp}{r:aX}{K:aM->Prop}(h:∀d,dst=some d->d∉o.looksAt all)(cp:∀d,dst=some d->o.dst≠some d):jK P G o (σ.put dst r) K=jK P G o σ (λaZ=>K (aZ.put dst r)):=by
 have dA:=XK (G:=G) (σ:=σ) (r:=r) h;unfold jK;split
 .rename_i x args dK ea;have aL:cg G (σ.put dst r).aO x=cg G σ.aO x:=dA x (by rw[ea];simp[Op.operands,Call.operands]);have a7:args.toList.map (cg G (σ.put dst r).aO)=args.toList.map (cg G σ.aO):=KG λy aE=>dA y (by rw[ea];simp[Op.operands,Call.operands];exact .inr (by simpa using aE));rw[aL];split
  .rename_i f pre post hc;unfold XD;rw[a7,aM.wN];simp only[put_comm cp]
  rfl
 rfl
def jL{o:Oper}{σ:aM}{dst:Option Tmp}{r:aX}{K:aM->Prop}(h:∀d,dst=some d->d∉o.looksAt all)(cp:∀d,dst=some d->o.dst≠some d):df P T G o K (σ.put dst r)=df P T G o (λaZ=>K (aZ.put dst r)) σ:=by unfold df;rw[wQ,wQ,ai2 h];cases av:res T G σ o with|none=>exact ai4 h cp|some p=>simp only[xaI,ai3 cp]
def ai5{ev:Operand->aX}{objs:cx}{d:Key}{op:Op}{p:aX×List (Key×cU)}(h:hv T ev objs d op=some p)(objs':cx):ez T ev op=none/\dH T ev objs' op=none:=by
 obtain⟨q,J,_⟩:=wK h;clear h;cases op<;>first|exact⟨rfl,rfl⟩|(simp only[eu,reduceCtorEq]at J;done)|skip
 case call c=>obtain⟨callee,args,dK⟩:=c;cases callee with|value=>exact⟨rfl,rfl⟩|invoke=>exact⟨rfl,rfl⟩|builtin b=>cases b<;>first|exact⟨rfl,rfl⟩|(simp only[eu,reduceCtorEq]at J;done)
def ai6{ev:Operand->aX}{op:Op}{r:aX}(h:ez T ev op=some r):iV op=true\/jv op=true:=by
 cases op
 case call c=>obtain⟨callee,args,dK⟩:=c;cases callee with|value=>exact absurd h (by simp[ez])|invoke=>exact absurd h (by simp[ez])|builtin b=>cases b<;>first|exact .inr rfl|exact absurd h (by simp[ez])
 all_goals first|exact .inl rfl|exact .inr rfl|exact absurd h (by simp[ez])
def ai7{ev:Operand->aX}{objs:cx}{op:Op}{r:aX}(h:dH T ev objs op=some r):iV op=true\/jv op=true:=by
 cases op
 case call c=>obtain⟨callee,args,dK⟩:=c;cases callee with|value=>exact absurd h (by simp[dH])|invoke=>exact absurd h (by simp[dH])|builtin b=>cases b<;>first|exact .inr rfl|exact absurd h (by simp[dH])
 all_goals first|exact .inl rfl|exact .inr rfl|exact absurd h (by simp[dH])
def XL:∀(cA:List (Key×cU)) {objs:cx} {k:Key},dJ objs cA k=none->objs k=none/\∀p∈cA,p.1≠k
 |[],objs,k,h=>⟨h,by simp⟩
 |(j,x)::r,objs,k,h=>by
  obtain⟨J,aa⟩:=XL r h;have aB:j≠k:=by rintro rfl;rw[e1]at J;cases J
  rw[c5 _ _ (xbV aB)]at J;exact⟨J,by intro p aU;rcases xal.1 aU with rfl|aU;exact aB;exact aa p aU⟩
def yR{o:Oper}{σ:aM}{K:aM->Prop}(h:jK P G o σ K):hM o.op=true:=by
 unfold jK at h;split at h;.rename_i x args dK ea;rw[ea];rfl
 cases h
def Fj{op:Op}(h:hM op=true):iV op=false/\jv op=false/\qA op=false:=by
 cases op<;>first|cases h|skip
 case call c=>
  obtain⟨callee,args,dK⟩:=c;cases callee with
  |value=>exact⟨rfl,rfl,rfl⟩|invoke=>cases h
  |builtin b=>cases h
def ai8{o:Oper}{aO:Nat->aX}{objs objs':cx}(h:objs.ext objs'){r:aX}(av:res T G ⟨aO,objs⟩ o=some (r,[]))(ah:iV o.op=true\/jv o.op=true):res T G ⟨aO,objs'⟩ o=some (r,[]):=by
 unfold res at*;simp only at*;split at av;.exact av
 rename_i aU;split at av;.rename_i aBk hm;simp only[aiV h hm];exact av
 rename_i hm;rcases ah with ah|ah
 .rw[(B2 (T:=T) (ev:=cg G aO) (objs:=objs) (d:=o.dst.getD 9999) ah).2]at av;cases av
 rw[B3 ah]at av;cases av
def KM{o:Oper}{σ:aM}{r:aX}{cA:List (Key×cU)}(av:res T G σ o=some (r,cA))(ah:iV o.op=true\/jv o.op=true):cA=[]:=by
 unfold res at av;split at av;.cases av;rfl
 split at av;.cases av;rfl
 rcases ah with ah|ah;.rw[(B2 (T:=T) (ev:=cg G σ.aO) (objs:=σ.objs) (d:=o.dst.getD 9999) ah).2]at av;cases av
 rw[B3 ah]at av;cases av
def XM{o:Oper}{aO:Nat->aX}{objs objs':cx}{p:aX×List (Key×cU)}(av:res T G ⟨aO,objs⟩ o=some p)(ah:iV o.op=true):res T G ⟨aO,objs'⟩ o=some p/\p.2=[]:=by
 unfold res at*;simp only at*;split at av;.cases av;exact⟨rfl,rfl⟩
 rw[(B2 (T:=T) (ev:=cg G aO) (objs:=objs) (d:=o.dst.getD 9999) ah).1,(B2 (T:=T) (ev:=cg G aO) (objs:=objs) (d:=o.dst.getD 9999) ah).2]at av;cases av
def uY{o:Oper}{σ:aM}(ah:hM o.op=true):res T G σ o=none:=by unfold res;obtain⟨J,aa,ax⟩:=Qf (T:=T) (ev:=cg G σ.aO) (objs:=σ.objs) (d:=o.dst.getD 9999) ah;rw[J,aa,ax]
theorem my{o:Oper}{σ:aM}{K:aM->Prop}{r:aX}{cA:List (Key×cU)}(av:res T G σ o=some (r,cA)):df P T G o K σ=K (σ.step o.dst r cA):=by unfold df;rw[wQ,av];rfl
theorem oj{o:Oper}{σ:aM}{K:aM->Prop}(av:res T G σ o=none):df P T G o K σ=jK P G o σ K:=by unfold df;rw[wQ,av];rfl
def Fk{o:Oper}{σ:aM}{K K':aM->Prop}(h:jK P G o σ K)(ah:∀r,K (σ.put o.dst r)->K' (σ.put o.dst r)):jK P G o σ K':=by
 unfold jK at*;split
 .rename_i x args dK ea;rw[ea]at h;simp only at h;split;.rename_i f pre post hc;simp only[hc]at h;obtain⟨nM,aR,R,J,aa,ax,bh,b9,cN⟩:=h;exact⟨nM,aR,R,J,aa,ax,bh,b9,λr av=>ah _ (cN r av)⟩
  rename_i hc;simp only[hc]at h
 rename_i ea;split at h;.rename_i x args dK e;exact absurd e (ea x args dK)
 exact h
def XN{x y:Oper}{σ:aM}{K:aM->Prop}(J:∀d,x.dst=some d->d∉y.looksAt all)(aa:∀d,x.dst=some d->y.dst≠some d)(ax:∀d,y.dst=some d->d∉x.looksAt all)(aU:pass x y=true) (h:df P T G x (λgC=>df P T G y K gC) σ):df P T G y (λga=>df P T G x K ga) σ:=by
 have gO:∀d,y.dst=some d->x.dst≠some d:=λd ay ad=>aa d ad ay;obtain⟨aO,objs⟩:=σ;have Fl:∀{o:Oper}{r:aX}{u:List (Key×cU)},aM.step ⟨aO,objs⟩ o.dst r u=aM.put ⟨aO,dJ objs u⟩ o.dst r:=rfl;cases kK:res T G ⟨aO,objs⟩ x with
 |none=>
  rw[oj kK]at h;have Fo:=yR h;obtain⟨nN,wR,XO⟩:=Fj Fo;have aE:(iV y.op=true\/jv y.op=true)\/(qA y.op=true/\∃d,y.dst=some d/\d<9999):=by simp only[pass,nN,wR,Fo,xbE,xbv]at aU;cases mz:iV y.op with|true=>exact .inl (.inl rfl)|false=>cases cM:jv y.op with|true=>exact .inl (.inr rfl)|false=>simp only[mz,cM,xbE]at aU;cases dr:qA y.op with|false=>simp[dr]at aU|true=>refine .inr ⟨rfl,?_⟩;simp only[dr,xbv]at aU;cases ay:y.dst with|none=>simp[ay]at aU|some d=>simp[ay]at aU;exact⟨d,rfl,aU⟩
  have wP:hM y.op=false:=by
   cases cn:hM y.op with
   |false=>rfl
   |true=>
    obtain⟨a,b,c⟩:=Fj cn;rcases aE with(e|e)|⟨e,_⟩;.rw[a]at e;cases e
    .rw[b]at e;cases e
    rw[c]at e;cases e
  unfold jK at h;split at h
  case h_2=>cases h
  rename_i XP args dK ea;split at h
  case h_2=>cases h
  rename_i f pre post hc;obtain⟨nM,aR,R,b0,bR,cw,⟨ju,rfl⟩,eB,fo⟩:=h;have B5:df P T G y K (aM.put ⟨aO,objs⟩ x.dst (.d ju)):=fo ju rfl;rw[jL J aa]at B5;cases jW:res T G ⟨aO,objs⟩ y with
  |none=>rw[oj jW]at B5;have:=yR B5;rw[wP]at this;cases this
  |some p=>
   obtain⟨qB,rz⟩:=p;rw[my jW];have pY:cx.ext objs (dJ objs rz):=by
    rcases aE with aE|⟨aE,_⟩;.rw[KM jW aE];exact λ_ _ h=>h
    have wS:hv T (cg G aO) objs (y.dst.getD 9999) y.op=some (qB,rz):=by unfold res at jW;simp only[(rv (T:=T) (ev:=cg G aO) (objs:=objs) aE).1,(rv (T:=T) (ev:=cg G aO) (objs:=objs) aE).2]at jW;exact jW
    obtain⟨b1,aN,o,rfl⟩:=B4 (objs':=λ_=>none) aE rfl wS;exact cx.KH aN o
   show df P T G x K (aM.step ⟨aO,objs⟩ y.dst qB rz);rw[Fl,jL ax gO,oj (uY Fo)];unfold jK;rw[ea];simp only[hc];refine⟨nM,aR,_,pX (λx d ad=>aiU pY ad) _ _ b0,bR,cw,⟨ju,rfl⟩,eB,λr av=>?_⟩;have XQ:df P T G y K (aM.put ⟨aO,objs⟩ x.dst (.d r)):=fo r av;rw[jL J aa,my jW,Fl,put_comm gO]at XQ;exact XQ
 |some p=>
  obtain⟨rx,pZ⟩:=p;rw[my kK,Fl,jL J aa]at h;cases jW:res T G ⟨aO,dJ objs pZ⟩ y with
  |none=>
   rw[oj jW]at h;have wP:=yR h;obtain⟨nN,wR,XO⟩:=Fj wP;have ad:iV x.op=true\/jv x.op=true:=by simp only[pass,nN,wR,XO,wP,xbE,Bool.or_false,xbY,xbu,Bool.or_true]at aU;cases mz:iV x.op with|true=>exact .inl rfl|false=>cases cM:jv x.op with|true=>exact .inr rfl|false=>cases cn:hM x.op<;>simp[mz,cM,cn]at aU
   have KN:=KM kK ad;subst KN;rw[oj (show res T G ⟨aO,objs⟩ y=none from jW)];refine Fk h λr av=>?_;rw[jL ax gO,my kK,Fl,put_comm aa];exact av
  |some p=>
   obtain⟨qB,rz⟩:=p;rw[my jW]at h;have wT:aM.step ⟨aO,dJ objs pZ⟩ y.dst qB rz=aM.put ⟨aO,dJ (dJ objs pZ) rz⟩ y.dst qB:=rfl;rw[wT]at h;have Qh:∀{yS:List (Key×cU)} {KO:aX},res T G ⟨aO,objs⟩ y=some (KO,yS)->(∃Fp,res T G ⟨aO,dJ objs yS⟩ x=some (rx,Fp)/\KO=qB/\dJ (dJ objs yS) Fp=dJ (dJ objs pZ) rz)->df P T G y (λga=>df P T G x K ga) ⟨aO,objs⟩:=by rintro yS KO aL ⟨Fp,a7,rfl,bV⟩;rw[my aL];show df P T G x K (aM.step ⟨aO,objs⟩ y.dst KO yS);rw[Fl,jL ax gO,my a7];have:aM.step ⟨aO,dJ objs yS⟩ x.dst rx Fp=aM.put ⟨aO,dJ (dJ objs yS) Fp⟩ x.dst rx:=rfl;rw[this,bV,put_comm aa];exact h
   by_cases Fq:iV x.op=true\/jv x.op=true
   .have KN:=KM kK Fq;subst KN;refine Qh jW ⟨[],?_,rfl,rfl⟩;by_cases KP:iV y.op=true\/jv y.op=true;.rw[KM jW KP];exact kK
    by_cases XR:iV x.op=true;.exact(XM kK XR).1
    
    have aE:qA y.op=true:=by
     rw[not_or]at KP;have aK:iV x.op=false:=by simpa using XR
     have a2:iV y.op=false:=by simpa using KP.1
     have a3:jv y.op=false:=by simpa using KP.2
     simp only[pass,aK,a2,a3,xbE]at aU;cases dr:qA y.op with|true=>rfl|false=>cases cn:hM y.op with|false=>simp[dr,cn]at aU|true=>rw[uY cn]at jW;cases jW
    have wS:hv T (cg G aO) objs (y.dst.getD 9999) y.op=some (qB,rz):=by have Qi:res T G ⟨aO,objs⟩ y=some (qB,rz):=jW;unfold res at Qi;simp only[(rv (T:=T) (ev:=cg G aO) (objs:=objs) aE).1,(rv (T:=T) (ev:=cg G aO) (objs:=objs) aE).2]at Qi;exact Qi
    obtain⟨b1,aN,o,rfl⟩:=B4 (objs':=λ_=>none) aE rfl wS;exact ai8 (cx.KH aN o) kK Fq
   rw[not_or]at Fq;have aK:iV x.op=false:=by simpa using Fq.1
   have a2:jv x.op=false:=by simpa using Fq.2
   have KQ:hM x.op=false:=by cases cn:hM x.op with|false=>rfl|true=>rw[uY cn]at kK;cases kK
   by_cases XS:iV y.op=true;.obtain⟨aL,a7⟩:=XM (objs':=objs) jW XS;simp only at a7;subst a7;exact Qh aL ⟨pZ,kK,rfl,rfl⟩
   have a3:iV y.op=false:=by simpa using XS
   simp only[pass,aK,a2,a3,KQ,xbE,xbY]at aU;rw[xao]at aU;obtain⟨aE,ay⟩:=aU;have uX:∃d,y.dst=some d/\d<9999:=by cases jh:y.dst with|none=>simp[jh]at ay|some d=>simp[jh]at ay;exact⟨d,rfl,ay⟩
   obtain⟨d,uX,XT⟩:=uX;have wS:hv T (cg G aO) (dJ objs pZ) (y.dst.getD 9999) y.op=some (qB,rz):=by unfold res at jW;simp only[(rv (T:=T) (ev:=cg G aO) (objs:=dJ objs pZ) aE).1,(rv (T:=T) (ev:=cg G aO) (objs:=dJ objs pZ) aE).2]at jW;exact jW
   rw[uX]at wS;simp only[xbp]at wS;obtain⟨_,aN,o,rfl⟩:=B4 (objs':=λ_=>none) aE rfl wS;obtain⟨Qj,KN⟩:=XL pZ aN;obtain⟨ai9,_,_⟩:=B4 (objs':=objs) aE Qj wS;have aja:res T G ⟨aO,objs⟩ y=some (qB,[(d,o)]):=by unfold res;simp only[(rv (T:=T) (ev:=cg G aO) (objs:=objs) aE).1,(rv (T:=T) (ev:=cg G aO) (objs:=objs) aE).2,uX,xbp];exact ai9
   have hex:hv T (cg G aO) objs (x.dst.getD 9999) x.op=some (rx,pZ):=by
    unfold res at kK;simp only at kK;split at kK;.rename_i ajb;exact absurd (ai6 ajb) (by simp[aK,a2])
    split at kK;.rename_i B6;exact absurd (ai7 B6) (by simp[aK,a2])
    exact kK
   have KR:x.dst.getD 9999≠d:=by cases KR:x.dst with|none=>simp only[Option.getD_none];exact λe=>by rw[<-e]at XT;exact absurd XT (xbQ _)|some e=>simp only[xbp];rintro rfl;exact aa e KR uX
   obtain⟨XU,cp⟩:=aiY (T:=T) (ev:=cg G aO) (cx.KH Qj o) KR Qj (λau=>by rw[c5 _ _ KR];exact au) hex;refine Qh aja ⟨pZ,?_,rfl,XJ pZ cp⟩;obtain⟨cS,e2⟩:=ai5 XU (cq objs d (some o));show res T G ⟨aO,cq objs d (some o)⟩ x=some (rx,pZ);unfold res;simp only[cS,e2];exact XU
def qC{o:Oper}{σ:aM}{K K':aM->Prop}(ah:∀σ,K σ->K' σ)(h:df P T G o K σ):df P T G o K' σ:=by
 unfold df at*;split;.rename_i e;rw[e]at h;exact ah _ h
 rename_i e;rw[e]at h;exact Fk h λr av=>ah _ av
def Ft{o:Oper}{σ:aM}{K K':aM->Prop}(ah:∀σ,K σ->K' σ)(h:eA P T G all o K σ):eA P T G all o K' σ:=by
 rw[hW]at*;split;.rename_i e;rw[e]at h;exact qC ah h
 .rename_i e;rw[e]at h;exact ah _ h
 rename_i e;rw[e]at h;exact h
def wU{o:Oper}{σ:aM}{K K':aM->Prop}(ah:∀objs r,K (aM.put ⟨σ.aO,objs⟩ o.dst r)->K' (aM.put ⟨σ.aO,objs⟩ o.dst r))(h:df P T G o K σ):df P T G o K' σ:=by unfold df at*;rw[wQ]at*;cases av:res T G σ o with|none=>simp only[av,xby]at h⊢;exact Fk h λr av=>ah σ.objs r av|some p=>simp only[av,xaI]at h⊢;exact ah _ _ h
def swap{x y:Oper}{σ:aM}{K:aM->Prop}(mZ:x.apart all y=true)(aU:pass x y=true)(h:eA P T G all x (λgC=>eA P T G all y K gC) σ):eA P T G all y (λga=>eA P T G all x K ga) σ:=by
 obtain⟨aK,a2,a3⟩:=Oper.apart_spec mZ;have pe:∀d,y.dst=some d->x.dst≠some d:=λd ay ad=>a2 d ad ay;rw[hW]at h;have qD:∀(objs:cx)(r:aX),jV all (aM.put ⟨σ.aO,objs⟩ x.dst r) y=jV all σ y:=λobjs r=>by rw[pd aK];rfl
 have rA:∀(objs:cx)(r:aX),jV all (aM.put ⟨σ.aO,objs⟩ y.dst r) x=jV all σ x:=λobjs r=>by rw[pd a3];rfl
 split at h
 .rename_i ad;rw[hW];have bC:df P T G x (λgC=>match jV all σ y with|some true=>df P T G y K gC|some false=>K (gC.put y.dst (.d (.val (.tuple #[]))))|none=>False) σ:=by
   refine wU (λobjs r ah=>?_) h;rw[hW,qD]at ah;exact ah
  cases yU:jV all σ y with
  |none=>
   simp only[yU]at bC;unfold df at bC;split at bC;.exact bC
   unfold jK at bC;split at bC
   .split at bC;.obtain⟨_,_,_,_,_,_,⟨r,rfl⟩,_,q⟩:=bC;exact q r rfl
    exact bC
   exact bC
  |some b=>
   cases b with
   |false=>
    simp only[yU]at bC;show eA P T G all x K (σ.put y.dst (.d (.val (.tuple #[]))));rw[hW];have:jV all (σ.put y.dst (.d (.val (.tuple #[])))) x=some true:=by rw[pd a3];exact ad
    simp only[this];rw[jL a3 pe];exact bC
   |true=>simp only[yU]at bC;have aa:=XN aK a2 a3 aU bC;show df P T G y (λga=>eA P T G all x K ga) σ;refine wU (λobjs r ah=>?_) aa;rw[hW,rA,ad];exact ah
 .rename_i ad;rw[hW,pd aK]at h;rw[hW];split at h
  .rename_i aE
   try simp only[aE]
   rw[jL aK a2]at h;refine wU (λobjs r ah=>?_) h;rw[hW,rA,ad];exact ah
  .rename_i aE
   try simp only[aE]
   show eA P T G all x K (σ.put y.dst (.d (.val (.tuple #[]))));rw[hW,pd a3,ad];show K _;rw[put_comm pe];exact h
  exact h.elim
 exact h.elim
def ajc{o:Oper}{σ:aM}{K K':aM->Prop}(h:df P T G o K σ)(ah:∀aZ r,aZ=σ.put o.dst (.d r)->K aZ->K' aZ)(cn:hM o.op=true):df P T G o K' σ:=by
 rw[oj (uY cn)]at h⊢;unfold jK at*;split
 .rename_i x args dK ea;rw[ea]at h;simp only at h;split;.rename_i f pre post hc;simp only[hc]at h;obtain⟨nM,aR,R,J,aa,ax,bh,b9,cN⟩:=h;exact⟨nM,aR,R,J,aa,ax,bh,b9,λr av=>ah _ r rfl (cN r av)⟩
  rename_i hc;simp only[hc]at h
 rename_i ea;split at h;.rename_i x args dK e;exact absurd e (ea x args dK)
 exact h
def cx.low(objs objs':cx):Prop:=∀k o,objs k=some o->o≠ .dead->objs' k=some o
def XV{objs objs':cx}(h:objs.low objs'){x:aX}{d:D}(al:rq objs x=some d):rq objs' x=some d:=by
 unfold rq at*;split at al;.exact al
 .split at al;.rename_i ah;rw[h _ _ ah (by simp)];exact al
  cases al
 .split at al;.rename_i ah;rw[h _ _ ah (by simp)];exact al
  cases al
 .split at al;.rename_i ah;rw[h _ _ ah (by simp)];exact al
  cases al
 cases al
def KS{objs objs':cx}(h:objs.low objs'){x:aX}{d:D}(al:nK objs x=some d):nK objs' x=some d:=by
 unfold nK at*;split at al
 .split at al
  case h_2=>cases al
  rename_i ah;simp only[h _ _ ah (by simp)];split at al
  case h_2=>cases al
  rename_i cs hU;rw[pX (λx d ad=>XV h ad) _ _ hU];exact al
 .exact al
 exact XV h al
def XW{objs objs':cx}(h:objs.low objs'){x:aX}{d:D}(al:pc objs x=some d):pc objs' x=some d:=by
 unfold pc at*;split at al
 .split at al
  case h_2=>cases al
  rename_i aR eH;rw[pX (λx d ad=>KS h ad) _ _ eH];exact al
 .split at al
  case h_2=>cases al
  rename_i as jJ has Fh;rw[pX (λx d ad=>KS h ad) _ _ has,pX (λx d ad=>KS h ad) _ _ Fh];exact al
 exact KS h al
def ajd{objs objs':cx}(h:objs.low objs'){x:aX}{d:D}(al:toD objs x=some d):toD objs' x=some d:=by
 unfold toD at*;split at al
 .split at al
  case h_2=>cases al
  rename_i aR eH;rw[pX (λx d ad=>XW h ad) _ _ eH];exact al
 exact XW h al
def XX{objs objs':cx}(h:objs.low objs'){x:aX}{n:Nat}(al:kg objs x=some n):kg objs' x=some n:=by
 unfold kg at*;split at al;.exact al
 .exact al
 .split at al;.rename_i ah;rw[h _ _ ah (by simp)];exact al
  cases al
 .exact al
 cases al
def aje{objs objs':cx}(h:objs.low objs'){x:aX}{es:List (List D)}(al:qt objs x=some es):qt objs' x=some es:=by
 unfold qt at*;split at al;.exact al
 .exact al
 .split at al;.rename_i ah;rw[h _ _ ah (by simp)];exact al
  cases al
 .split at al;.rename_i ah;rw[h _ _ ah (by simp)];exact al
  cases al
 cases al
def KT{objs objs':cx}(h:objs.low objs'){x:aX}{b:Bool}(al:mX objs x=some b):mX objs' x=some b:=by
 unfold mX at*;split at al;.exact al
 .exact al
 .split at al;.rename_i ah;rw[h _ _ ah (by simp)];exact al
  cases al
 cases al
def ajf{T:ch}{ev:Operand->aX}{objs objs':cx}(h:objs.low objs'){op:Op}{r:aX}(hm:dH T ev objs op=some r):dH T ev objs' op=some r:=by
 cases op<;>simp only[dH,reduceCtorEq]at hm⊢
 case convert s t x=>
  split at hm
  case h_2=>cases hm
  rename_i aL a7;split at hm
  case h_2=>cases hm
  rename_i bV;split at hm
  case h_2=>cases hm
  rename_i es he;simp only[aL,a7,bV,aje h he];exact hm
 case load t a=>
  split at hm
  case h_2=>cases hm
  split at hm;.exact hm
  .split at hm
   case h_2=>cases hm
   rename_i ah;simp only[h _ _ ah (by simp)];exact hm
  .split at hm
   case h_2=>cases hm
   rename_i ah;simp only[h _ _ ah (by simp)];exact hm
  cases hm
 case indexAddr t x eV=>
  split at hm
  .split at hm
   case h_2=>cases hm
   split at hm
   case isFalse=>cases hm
   rename_i au;rw[xac au];split at hm;.exact hm
   .split at hm
    case h_2=>cases hm
    rename_i ah;simp only[h _ _ ah (by simp)];exact hm
   .exact hm
   cases hm
  .exact hm
  cases hm
 case slice t x lo af fX=>
  cases fX with
  |some _=>simp[dH]at hm
  |none=>
   simp only[dH]at hm⊢;split at hm
   case h_3=>cases hm
   case h_2=>exact hm
   split at hm
   case h_2=>cases hm
   split at hm
   case h_2=>cases hm
   rename_i n aN;simp only[XX h aN];split at hm
   case h_2=>cases hm
   split at hm
   case isFalse=>cases hm
   rename_i ai;rw[xac ai];split at hm;.exact hm
   .split at hm
    case h_2=>cases hm
    rename_i ah;simp only[h _ _ ah (by simp)];exact hm
   .exact hm
   cases hm
 case call c=>
  split at hm
  case h_2=>cases hm
  split at hm
  case h_2=>cases hm
  split at hm;.exact hm
  .split at hm
   case h_2=>cases hm
   rename_i n aN;simp only[XX h aN];exact hm
  .exact hm
  .exact hm
  .split at hm
   case h_2=>cases hm
   rename_i ah;simp only[h _ _ ah (by simp)];exact hm
  cases hm
 case lookup t x k ok=>
  split at hm
  case h_2=>cases hm
  split at hm;.exact hm
  .exact hm
  .split at hm
   case h_2=>cases hm
   rename_i ah;simp only[h _ _ ah (by simp)];exact hm
  cases hm
 case binOp op t x y yB=>
  split at hm
  case h_2=>cases hm
  split at hm
  .split at hm
   .rename_i ai;rw[xac ai];split at hm
    case h_2=>cases hm
    rename_i b aj;simp only[KT h aj];exact hm
   rename_i ai;rw[xae ai];split at hm
   case isFalse=>cases hm
   rename_i ry;rw[xac ry];split at hm
   case h_2=>cases hm
   rename_i b aj;simp only[KT h aj];exact hm
  .split at hm
   .rename_i ai;rw[xac ai];split at hm
    case h_2=>cases hm
    rename_i b aj;simp only[KT h aj];exact hm
   rename_i ai;rw[xae ai];split at hm
   case isFalse=>cases hm
   rename_i ry;rw[xac ry];split at hm
   case h_2=>cases hm
   rename_i b aj;simp only[KT h aj];exact hm
  cases hm
def Fu(T:ch)(x:Oper):Bool:=match x.op with| .buildSlice _ _ _=>T.born (x.dst.getD 9999)|_=>false
def yV(T:ch)(x y:Oper):Bool:=pass x y||(hM x.op&&hM y.op)||(Fu T x&&(hM y.op||jv y.op))
def ajg{x:Oper}{σ:aM}(aj:Fu T x=true){p:aX×List (Key×cU)}(h:res T G σ x=some p):σ.objs (x.dst.getD 9999)=none/\p.2=[(x.dst.getD 9999,.dead)]:=by
 unfold Fu at aj;split at aj
 case h_2=>cases aj
 rename_i t n parts ea;have ah:qA x.op=true:=by rw[ea];rfl
 obtain⟨aL,a7⟩:=rv (T:=T) (ev:=cg G σ.aO) (objs:=σ.objs) ah;unfold res at h;rw[aL,a7]at h;obtain⟨q,J,aa⟩:=wK h;rw[ea]at J;simp only[eu]at J;split at J
 case h_2=>cases J
 rename_i e s b z aP au;split at J
 case h_2=>cases J
 split at J
 case h_2=>cases J
 split at J
 case isFalse=>cases J
 cases J;refine⟨au,?_⟩;rw[<-aa];simp[rm,aj]
def ajh{x y:Oper}{σ:aM}{K:aM->Prop}(J:∀d,x.dst=some d->d∉y.looksAt all)(aa:∀d,x.dst=some d->y.dst≠some d)(ax:∀d,y.dst=some d->d∉x.looksAt all)(KQ:hM x.op=true)(aji:hM y.op=true\/False) (h:df P T G x (λgC=>df P T G y K gC) σ):df P T G y (λga=>df P T G x K ga) σ:=by
 have gO:∀d,y.dst=some d->x.dst≠some d:=λd ay ad=>aa d ad ay;have KU:hM y.op=true:=aji.resolve_right id;rw[oj (uY KQ)]at h;unfold jK at h;split at h
 case h_2=>cases h
 rename_i XP args dK ea;split at h
 case h_2=>cases h
 rename_i f pre post hc;obtain⟨nM,aR,R,b0,bR,cw,⟨ju,rfl⟩,eB,fo⟩:=h;have B5:df P T G y K (aM.put σ x.dst (.d ju)):=fo ju rfl;rw[jL J aa]at B5;refine ajc B5 (λaZ r he ah=>?_) KU;subst he;rw[jL ax gO,oj (uY KQ)];unfold jK;rw[ea];simp only[hc];refine⟨nM,aR,_,b0,bR,cw,⟨ju,rfl⟩,eB,λr av=>?_⟩;subst av;rw[put_comm aa];exact ah
def ajj{x y:Oper}{σ:aM}{K:aM->Prop}(J:∀d,x.dst=some d->d∉y.looksAt all)(aa:∀d,x.dst=some d->y.dst≠some d)(ax:∀d,y.dst=some d->d∉x.looksAt all)(KV:Fu T x=true)(Qk:hM y.op=true\/jv y.op=true) (h:df P T G x (λgC=>df P T G y K gC) σ):df P T G y (λga=>df P T G x K ga) σ:=by
 have gO:∀d,y.dst=some d->x.dst≠some d:=λd ay ad=>aa d ad ay;cases kK:res T G σ x with
 |none=>
  rw[oj kK]at h;have:=yR h;unfold Fu at KV;split at KV
  .rename_i ea;rw[ea]at this;cases this
  cases KV
 |some p=>
  obtain⟨rx,cA⟩:=p;obtain⟨aN,hu⟩:=ajg KV kK;simp only at hu;subst hu;rw[my kK]at h;have aE:df P T G y K (aM.put ⟨σ.aO,dJ σ.objs [(x.dst.getD 9999,.dead)]⟩ x.dst rx):=h;rw[jL J aa]at aE;have KW:cx.low (dJ σ.objs [(x.dst.getD 9999,.dead)]) σ.objs:=by
   intro k o ah aT;simp only[dJ]at ah;by_cases e:k=x.dst.getD 9999;.subst e;rw[e1]at ah;cases ah;exact absurd rfl aT
   rwa [c5 _ _ e]at ah
  rcases Qk with KU|XY
  case inr=>
   have wP:hM y.op=false:=by cases cn:hM y.op with|false=>rfl|true=>have:=(Fj cn).2.1;rw[XY]at this;cases this
   have key:∀p,res T G ⟨σ.aO,dJ σ.objs [(x.dst.getD 9999,.dead)]⟩ y=some p->p.2=[]/\res T G σ y=some p:=by
    intro p aU;have he:∀objs d,hv T (cg G σ.aO) objs d y.op=none:=λobjs d=>B3 XY;unfold res at aU⊢;cases XZ:ez T (cg G σ.aO) y.op with
    |some r=>simp only[XZ]at aU⊢;cases aU;exact⟨rfl,rfl⟩
    |none=>
     simp only[XZ]at aU⊢;cases Fv:dH T (cg G σ.aO) (dJ σ.objs [(x.dst.getD 9999,.dead)]) y.op with
     |none=>simp only[Fv,he]at aU;cases aU
     |some r=>simp only[Fv]at aU;cases aU;rw[ajf KW Fv];exact⟨rfl,rfl⟩
   cases jW:res T G ⟨σ.aO,dJ σ.objs [(x.dst.getD 9999,.dead)]⟩ y with
   |none=>rw[oj jW]at aE;have:=yR aE;rw[wP]at this;cases this
   |some p=>obtain⟨qB,rz⟩:=p;obtain⟨cS,e2⟩:=key _ jW;simp only at cS;subst cS;rw[my jW]at aE;rw[my e2];show df P T G x K (aM.put σ y.dst qB);rw[jL ax gO,my kK];unfold aM.step;rw[put_comm aa];exact aE
  rw[oj (uY KU)]at aE;rw[oj (uY KU)];unfold jK at aE⊢;split at aE
  case h_2=>cases aE
  rename_i XP args dK ea;split at aE
  case h_2=>cases aE
  rename_i f pre post hc;obtain⟨nM,aR,R,b0,bR,cw,⟨ju,rfl⟩,eB,fo⟩:=aE;simp only[ea,hc];refine⟨nM,aR,_,pX (λx d ad=>ajd KW ad) _ _ b0,bR,cw,⟨ju,rfl⟩,eB,λr av=>?_⟩;subst av;have:=fo r rfl;rw[jL ax gO,my kK];unfold aM.step;rw[put_comm aa];exact this
def ajk{x y:Oper}{σ:aM}{K:aM->Prop}(J:∀d,x.dst=some d->d∉y.looksAt all)(aa:∀d,x.dst=some d->y.dst≠some d)(ax:∀d,y.dst=some d->d∉x.looksAt all)(aU:yV T x y=true) (h:df P T G x (λgC=>df P T G y K gC) σ):df P T G y (λga=>df P T G x K ga) σ:=by
 unfold yV at aU;rw[xbh,xbh]at aU;rcases aU with(aU|aU)|aU
 .exact XN J aa ax aU h
 .rw[xao]at aU;exact ajh J aa ax aU.1 (.inl aU.2) h
 rw[xao,xbh]at aU;exact ajj J aa ax aU.1 aU.2 h
def swapT{x y:Oper}{σ:aM}{K:aM->Prop}(mZ:x.apart all y=true)(aU:yV T x y=true)(h:eA P T G all x (λgC=>eA P T G all y K gC) σ):eA P T G all y (λga=>eA P T G all x K ga) σ:=by
 obtain⟨aK,a2,a3⟩:=Oper.apart_spec mZ;have pe:∀d,y.dst=some d->x.dst≠some d:=λd ay ad=>a2 d ad ay;rw[hW]at h;have qD:∀(objs:cx)(r:aX),jV all (aM.put ⟨σ.aO,objs⟩ x.dst r) y=jV all σ y:=λobjs r=>by rw[pd aK];rfl
 have rA:∀(objs:cx)(r:aX),jV all (aM.put ⟨σ.aO,objs⟩ y.dst r) x=jV all σ x:=λobjs r=>by rw[pd a3];rfl
 split at h
 .rename_i ad;rw[hW];have bC:df P T G x (λgC=>match jV all σ y with|some true=>df P T G y K gC|some false=>K (gC.put y.dst (.d (.val (.tuple #[]))))|none=>False) σ:=by
   refine wU (λobjs r ah=>?_) h;rw[hW,qD]at ah;exact ah
  cases yU:jV all σ y with
  |none=>
   simp only[yU]at bC;unfold df at bC;split at bC;.exact bC
   unfold jK at bC;split at bC
   .split at bC;.obtain⟨_,_,_,_,_,_,⟨r,rfl⟩,_,q⟩:=bC;exact q r rfl
    exact bC
   exact bC
  |some b=>
   cases b with
   |false=>
    simp only[yU]at bC;show eA P T G all x K (σ.put y.dst (.d (.val (.tuple #[]))));rw[hW];have:jV all (σ.put y.dst (.d (.val (.tuple #[])))) x=some true:=by rw[pd a3];exact ad
    simp only[this];rw[jL a3 pe];exact bC
   |true=>simp only[yU]at bC;have aa:=ajk aK a2 a3 aU bC;show df P T G y (λga=>eA P T G all x K ga) σ;refine wU (λobjs r ah=>?_) aa;rw[hW,rA,ad];exact ah
 .rename_i ad;rw[hW,pd aK]at h;rw[hW];split at h
  .rename_i aE
   try simp only[aE]
   rw[jL aK a2]at h;refine wU (λobjs r ah=>?_) h;rw[hW,rA,ad];exact ah
  .rename_i aE
   try simp only[aE]
   show eA P T G all x K (σ.put y.dst (.d (.val (.tuple #[]))));rw[hW,pd a3,ad];show K _;rw[put_comm pe];exact h
  exact h.elim
 exact h.elim
def h6(P:Program)(T:ch)(G:dt)(all:Array Oper)(i:Nat)(K:aM->Prop)(σ:aM):Prop:=match all[i]? with|none=>K σ|some o=>eA P T G all o K σ
def wV{i:Nat}{σ:aM}{K K':aM->Prop}(ah:∀σ,K σ->K' σ)(h:h6 P T G all i K σ):h6 P T G all i K' σ:=by
 unfold h6 at*;split;.rename_i e;simp only[e]at h;exact ah _ h
 rename_i o e;simp only[e]at h;exact Ft ah h
def jw(P:Program)(T:ch)(G:dt)(all:Array Oper)(K:aM->Prop):Nat->Array Bool->aM->Prop
 |0,listed,σ=>Region.ready .any all listed=[]/\K σ|fuel+1,listed,σ=>(Region.ready .any all listed=[]->K σ)/\∀i∈Region.ready .any all listed,h6 P T G all i (jw P T G all K fuel (listed.setIfInBounds i true)) σ
def Ql{K:aM->Prop}{i:Nat}{fk:Oper}(af:all[i]?=some fk){B:List Nat}(e3:∀j db,j∈B->all[j]?=some db->∃e∈db.after,Region.binds .any e=true/\(e.on=i\/e.on∈B)):∀(fuel:Nat)(listed:Array Bool)(σ:aM),(∀j,j∈B->listed.getD j true=false)->(∀j db,all[j]?=some db->j≠i->listed.getD j true=false->j∉B->fk.apart all db=true/\yV T fk db=true)->i∈Region.ready .any all listed->(¬∃aZ,K aZ)\/True->h6 P T G all i (jw P T G all K fuel (listed.setIfInBounds i true)) σ->jw P T G all K (fuel+1) listed σ:=by
 intro fuel
 induction fuel with
 |zero=>
  intro listed σ rB pf av _ H;refine⟨λh=>(by rw[h]at av;cases av),λj aB=>?_⟩;by_cases jx:j=i;.subst jx;exact H
  have hm:=ready_mono aB jx;exfalso;have key:Region.ready .any all (listed.setIfInBounds i true)=[]:=by
   unfold h6 at H;simp only[af]at H;rw[hW]at H;split at H
   .unfold df at H;split at H;.exact H.1
    unfold jK at H;split at H
    .split at H;.obtain⟨_,_,_,_,_,_,⟨r,om⟩,_,q⟩:=H;exact(q r (by rw[om])).1
     exact H.elim
    exact H.elim
   .exact H.1
   exact H.elim
  rw[key]at hm;cases hm
 |succ fuel ih=>
  intro listed σ rB pf av _ H;refine⟨λh=>(by rw[h]at av;cases av),λj aB=>?_⟩;by_cases jx:j=i;.subst jx;exact H
  obtain⟨wW,db,jy,ft⟩:=xbR.1 aB;have uS:∀k,listed.getD k true=false->listed[k]?.getD false=true->False:=λk au J=>by
   rcases xbe k listed.size with bC|bC;.simp[bC]at au J;rw[au]at J;cases J
   simp[Array.getElem?_eq_none bC]at J
  have ta:j∉B:=λFw=>by
   obtain⟨e,he,aj,na⟩:=e3 j db Fw jy;have J:=ft e he aj;rcases na with na|na
   .rw[na]at J;exact uS i (xbR.1 av).1 (by simpa using J)
   exact uS _ (rB _ na) (by simpa using J)
  obtain⟨eQ,eE⟩:=pf j db jy jx wW ta;have J:h6 P T G all i (λgC=>h6 P T G all j (jw P T G all K fuel ((listed.setIfInBounds i true).setIfInBounds j true)) gC) σ:=wV (λgC uZ=>uZ.2 j (ready_mono aB jx)) H;have aa:h6 P T G all j (λga=>h6 P T G all i (jw P T G all K fuel ((listed.setIfInBounds i true).setIfInBounds j true)) ga) σ:=by unfold h6 at J⊢;simp only[af,jy]at J⊢;exact swapT eQ eE J
  have Fx:∀k ok,all[k]?=some ok->k≠i->(listed.setIfInBounds j true).getD k true=false->k∉B->fk.apart all ok=true/\yV T fk ok=true:=λk ok ah rC pg gP=>by
   refine pf k ok ah rC ?_ gP;by_cases fy:j=k;.subst fy;exact wW
   rw[getD_set_ne true fy]at pg;exact pg
  refine wV (λga ax=>ih (listed.setIfInBounds j true) ga (λk ah=>by
   have fy:j≠k:=by rintro rfl;exact ta ah
   rw[getD_set_ne true fy];exact rB k ah) Fx (ready_mono av (xbV jx)) (.inr trivial) ?_) aa
  rw[Array.setIfInBounds_comm _ _ jx];exact ax
def ajl{K:aM->Prop}{i:Nat}{fk:Oper}(af:all[i]?=some fk){B:List Nat}(e3:∀j db,j∈B->all[j]?=some db->∃e∈db.after,Region.binds .any e=true/\(e.on=i\/e.on∈B))(fuel:Nat)(listed:Array Bool)(σ:aM) (au:∀j,j∈B->listed.getD j true=false) (bk:∀j db,all[j]?=some db->j≠i->listed.getD j true=false->j∉B->fk.apart all db=true/\pass fk db=true) (av:i∈Region.ready .any all listed) (ad:(¬∃aZ,K aZ)\/True) (h:h6 P T G all i (jw P T G all K fuel (listed.setIfInBounds i true)) σ):jw P T G all K (fuel+1) listed σ:=Ql af e3 fuel listed σ au (λj db a b c d=>⟨(bk j db a b c d).1,by unfold yV;rw[(bk j db a b c d).2];rfl⟩) av ad h
def waits(all:Array Oper)(i:Nat):List Nat:=(List.range all.size).foldl (λacc j=>match all[j]? with
  |some db=>if db.after.any (λe=>Region.binds .any e&&(e.on==i||acc.contains e.on))then acc++[j]else acc
  |none=>acc) []
def KX(p:Oper->Oper->Bool)(all:Array Oper)(listed:Array Bool)(i:Nat)(B:List Nat):Bool:=match all[i]? with|none=>false|some fk=>(B.all λj=>!listed.getD j true&&match all[j]? with|some db=>db.after.any λe=>Region.binds .any e&&(e.on==i||B.contains e.on)|none=>false)&&(List.range all.size).all λj=>j==i||listed.getD j true||B.contains j||match all[j]? with|some db=>fk.apart all db&&p fk db|none=>true
def X0(all:Array Oper)(listed:Array Bool)(i:Nat)(B:List Nat):Bool:=KX pass all listed i B
def ajm(all:Array Oper)(listed:Array Bool)(i:Nat):Bool:=X0 all listed i (waits all i)
def X1(T:ch)(all:Array Oper)(listed:Array Bool)(i:Nat):Bool:=KX (yV T) all listed i (waits all i)
def Qm{p:Oper->Oper->Bool}{i:Nat}{fk:Oper}{listed:Array Bool}(af:all[i]?=some fk){B:List Nat}(h:KX p all listed i B=true):(∀j db,j∈B->all[j]?=some db->∃e∈db.after,Region.binds .any e=true/\(e.on=i\/e.on∈B))/\(∀j,j∈B->listed.getD j true=false)/\ ∀j db,all[j]?=some db->j≠i->listed.getD j true=false->j∉B->fk.apart all db=true/\p fk db=true:=by
 simp only[KX,af,xao,xax,xbZ]at h;refine⟨λj db aB jy=>?_,λj aB=>by simpa using(h.1 j aB).1,λj db jy cp pg gP=>?_⟩;.have J:=(h.1 j aB).2;simp only[jy]at J;obtain⟨e,he,aj⟩:=Array.any_eq_true'.1 J;simp only[xao,xbh,xbP,List.contains_iff_mem]at aj;exact⟨e,he,aj.1,aj.2⟩
 have J:=h.2 j (xaP.1 jy).1;simp only[jy,xbh,xbP,cp,false_or,pg,xar,xao,List.contains_iff_mem,gP]at J;exact J
def ajn{i:Nat}{fk:Oper}{listed:Array Bool}(af:all[i]?=some fk){B:List Nat}(h:X0 all listed i B=true):(∀j db,j∈B->all[j]?=some db->∃e∈db.after,Region.binds .any e=true/\(e.on=i\/e.on∈B))/\(∀j,j∈B->listed.getD j true=false)/\ ∀j db,all[j]?=some db->j≠i->listed.getD j true=false->j∉B->fk.apart all db=true/\pass fk db=true:=Qm af h
def yW(T:ch)(all:Array Oper):List Nat->Array Bool->Bool
 |[],listed=>(Region.ready .any all listed).isEmpty|i::r,listed=>(Region.ready .any all listed).contains i&&X1 T all listed i&&yW T all r (listed.setIfInBounds i true)
def B7(P:Program)(T:ch)(G:dt)(all:Array Oper):List Nat->(aM->Prop)->aM->Prop
 |[],K,σ=>K σ|i::r,K,σ=>match all[i]? with|some o=>eA P T G all o (B7 P T G all r K) σ|none=>False
def X2{K:aM->Prop}:∀(ord:List Nat)(listed:Array Bool)(σ:aM),yW T all ord listed=true->B7 P T G all ord K σ->jw P T G all K ord.length listed σ
 |[],listed,σ,e3,h=>⟨by simpa[yW]using e3,h⟩
 |i::r,listed,σ,e3,h=>by
  simp only[yW,xao]at e3;obtain⟨⟨av,bk⟩,tb⟩:=e3;unfold B7 at h;split at h
  case h_2=>cases h
  rename_i o af;obtain⟨b0,bR,cw⟩:=Qm af bk;refine Ql af b0 r.length listed σ bR cw (by simpa using av) (.inr trivial) ?_;unfold h6;simp only[af];exact Ft (λaZ uZ=>X2 r _ aZ tb uZ) h
def Qn{m:Mem}{fr:ff}{N:Nat}(bl:ee P T){K:aM->Prop}{Q:Exit->Act->World->Prop}(gn:∀o∈all,∀d,o.dst=some d->d<N):∀(fuel:Nat)(listed:Array Bool)(m:Mem)(ρ:di)(σ:aM)(a:Act)(w:World),kf G m->Den m fr ρ σ a w->N<=a.tmps.size->a.defers=[]->jw P T G all K fuel listed σ->(∀cI w',jg N m fr ρ σ K cI w'->Q .normal cI w')->wpAny P .any all Q fuel listed a w
 |0,listed,m,ρ,σ,a,w,cY,h,cf,hL,aS,ik=>⟨aS.1,ik a w ⟨σ,m,ρ,aS.2,Mem.le_refl m,h,cf,hL,k6.refl _ _⟩⟩|fuel+1,listed,m,ρ,σ,a,w,cY,h,cf,hL,aS,ik=>by refine⟨λau=>ik a w ⟨σ,m,ρ,aS.1 au,Mem.le_refl m,h,cf,hL,k6.refl _ _⟩,λi af=>?_⟩;have J:=aS.2 i af;obtain⟨_,o,aT,_⟩:=xbR.1 af;unfold h6 at J;simp only[aT]at J;refine wpOp_mono ?_ (Qe bl cY h cf hL aT (gn o (Array.mem_of_getElem? aT)) J);rintro cI w' ⟨aZ,cz,c0,b0,bR,cw,dX,eB,fo⟩;refine Qn (m:=m) bl gn fuel _ cz c0 aZ cI w' (cY.mono bR) cw dX eB b0 ?_;rintro p0 k7 ⟨rD,yX,yY,eQ,eE,hR,tc,wX,wY⟩;exact ik p0 k7 ⟨rD,yX,yY,eQ,Mem.le_trans bR eE,hR,tc,wX,fo.trans wY⟩
end
def hl(σ τ:aM):Prop:=∀m fr ρ a w,Den m fr ρ σ a w->∃cz c0,m.le cz/\Den cz fr c0 τ a w/\k6 σ ρ τ c0
def hl.refl(σ:aM):hl σ σ:=λm fr ρ a w h=>⟨m,ρ,Mem.le_refl m,h,k6.refl _ _⟩
def hl.trans{σ τ yZ:aM}(h:hl σ τ)(bC:hl τ yZ):hl σ yZ:=λm fr ρ a w cH=>
 let⟨m1,nL,J,aa,ax⟩:=h m fr ρ a w cH
 let⟨m2,ly,bh,b9,cN⟩:=bC m1 fr nL a w aa
 ⟨m2,ly,Mem.le_trans J bh,b9,ax.trans cN⟩
def hD(P:Program)(T:ch)(G:dt)(N:Nat)(c:Code)(σ:aM)(Q:Exit->aM->Prop):Prop:= ∀m fr ρ a w,kf G m->Den m fr ρ σ a w->N<=a.tmps.size->a.defers=[]->c.wp P (λe cI w'=>jg N m fr ρ σ (Q e) cI w') a w
def KY(K:aM->Prop)(Q:Exit->aM->Prop):Exit->aM->Prop
 | .normal,σ=>K σ|e,σ=>Q e σ
def Fy(id:Nat)(Q:Exit->aM->Prop):Exit->aM->Prop
 | .exit u0,σ=>if u0=id then Q .normal σ else Q (.exit u0) σ
 |e,σ=>Q e σ
section
variable{P:Program}{T:ch}{G:dt}{N:Nat}{σ:aM}{Q:Exit->aM->Prop}
def jg.mono{m:Mem}{fr:ff}{ρ:di}{K K':aM->Prop}(ah:∀σ,K σ->K' σ){a:Act}{w:World}(h:jg N m fr ρ σ K a w):jg N m fr ρ σ K' a w:=
 let⟨aZ,cz,c0,J,aa⟩:=h;⟨aZ,cz,c0,ah _ J,aa⟩
def B8{c:Code}{X3:Exit->aM->Prop}(h:hD P T G N c σ Q)(bM:∀e σ,Q e σ->X3 e σ):hD P T G N c σ X3:=λm fr ρ a w cY cH cf ay=>wp_mono (h m fr ρ a w cY cH cf ay) λe cI w' av=>av.mono (bM e)
def ajo(h:Q .normal σ):hD P T G N .skip σ Q:=λm fr ρ a w cY cH cf ay=>wp_skip ⟨σ,m,ρ,h,Mem.le_refl m,cH,cf,ay,k6.refl _ _⟩
def ajp{l:Nat}(h:Q .normal σ):hD P T G N (.label l) σ Q:=λm fr ρ a w cY cH cf ay=>wp_label ⟨σ,m,ρ,h,Mem.le_refl m,cH,cf,ay,k6.refl _ _⟩
def ajq{id:Nat}(h:Q (.exit id) σ):hD P T G N (.exit id) σ Q:=λm fr ρ a w cY cH cf ay=>wp_exit ⟨σ,m,ρ,h,Mem.le_refl m,cH,cf,ay,k6.refl _ _⟩
def ajr(h:Q .ret σ):hD P T G N .ret σ Q:=λm fr ρ a w cY cH cf ay=>wp_ret ⟨σ,m,ρ,h,Mem.le_refl m,cH,cf,ay,k6.refl _ _⟩
def jg.trans{m m1:Mem}{fr:ff}{ρ nL:di}{gC:aM}{K:aM->Prop}{a:Act}{w:World}(hm:m.le m1)(ah:k6 σ ρ gC nL)(h:jg N m1 fr nL gC K a w):jg N m fr ρ σ K a w:=
 let⟨aZ,cz,c0,J,aa,ax,bh,b9,cN⟩:=h;⟨aZ,cz,c0,J,Mem.le_trans hm aa,ax,bh,b9,ah.trans cN⟩
def ajs{x y:Code}(h:hD P T G N x σ (KY (λaZ=>hD P T G N y aZ Q) Q)):hD P T G N (.seq x y) σ Q:=by intro m fr ρ a w cY cH cf ay;refine wp_seq (wp_mono (h m fr ρ a w cY cH cf ay) ?_);rintro e cI w' ⟨aZ,cz,c0,J,aa,ax,bh,b9,cN⟩;cases e with|normal=>exact wp_mono (J cz fr c0 cI w' (cY.mono aa) ax bh b9) λe p0 k7 av=>av.trans aa cN|exit id=>exact⟨aZ,cz,c0,J,aa,ax,bh,b9,cN⟩|goto l=>exact⟨aZ,cz,c0,J,aa,ax,bh,b9,cN⟩|ret=>exact⟨aZ,cz,c0,J,aa,ax,bh,b9,cN⟩|panic c=>exact⟨aZ,cz,c0,J,aa,ax,bh,b9,cN⟩|outgrown=>exact⟨aZ,cz,c0,J,aa,ax,bh,b9,cN⟩
def ajt(Q:Exit->aM->Prop):Exit->aM->Prop
 | .goto _,_=>False|e,σ=>Q e σ
def aju{c:Code}(h:hD P T G N c σ (ajt Q)):hD P T G N (.scope c) σ Q:=by intro m fr ρ a w cY cH cf ay;refine wp_scope_straight (wp_mono (h m fr ρ a w cY cH cf ay) ?_);rintro e cI w' ⟨aZ,cz,c0,J,aa,ax,bh,b9,cN⟩;cases e with|goto l=>exact J.elim|normal=>exact⟨aZ,cz,c0,J,aa,ax,bh,b9,cN⟩|exit id=>exact⟨aZ,cz,c0,J,aa,ax,bh,b9,cN⟩|ret=>exact⟨aZ,cz,c0,J,aa,ax,bh,b9,cN⟩|panic c=>exact⟨aZ,cz,c0,J,aa,ax,bh,b9,cN⟩|outgrown=>exact⟨aZ,cz,c0,J,aa,ax,bh,b9,cN⟩
def KZ{c:Operand}{x y:Code}{b:Bool}(ai:cg G σ.aO c= .d (.val (.bool b)))(h:if b=true then hD P T G N x σ Q else hD P T G N y σ Q):hD P T G N (.cond c x y) σ Q:=by
 intro m fr ρ a w cY cH cf ay;have aS:=EX (a:=a) cY cH.aO c;rw[ai]at aS;refine wp_cond aS.hS ?_;cases b
 .exact h m fr ρ a w cY cH cf ay
 exact h m fr ρ a w cY cH cf ay
def ajv{id:Nat}{c:Code}(h:hD P T G N c σ (Fy id Q)):hD P T G N (.block id c) σ Q:=by
 intro m fr ρ a w cY cH cf ay;refine wp_block (wp_mono (h m fr ρ a w cY cH cf ay) ?_);intro e cI w' av;cases e with
 |exit u0=>
  simp only[Exit.inBlock];by_cases af:u0=id;.rw[xac af];exact av.mono λσ bM=>by simp only[Fy,af,xaF]at bM;exact bM
  rw[xae af];exact av.mono λσ bM=>by simp only[Fy,af,xaH]at bM;exact bM
 |normal=>exact av|goto l=>exact av|ret=>exact av|panic c=>exact av|outgrown=>exact av
def Qo{τ:aM}{c:Code}(he:hl σ τ)(h:hD P T G N c τ Q):hD P T G N c σ Q:=by intro m fr ρ a w cY cH cf ay;obtain⟨cz,c0,J,aa,ax⟩:=he m fr ρ a w cH;exact wp_mono (h cz fr c0 a w (cY.mono J) aa cf ay) λe cI w' av=>av.trans J ax
def wZ(N:Nat)(ops:Array Oper):Bool:=ops.toList.all λo=>match o.dst with|some d=>decide (d<N)|none=>true
def w1{ops:Array Oper}(h:wZ N ops=true):∀o∈ops,∀d,o.dst=some d->d<N:=by intro o aT d ay;have:=xax.1 h o (by simpa using aT);simp only[ay]at this;simpa using this
theorem Den.drew{m:Mem}{fr:ff}{ρ:di}{a:Act}{w:World}(h:Den m fr ρ σ a w)(n:Nat):Den m fr ρ σ a {w with drawn:=n}:=by refine⟨h.mem,⟨h.frame.nG,h.frame.quiet.same rfl rfl rfl⟩,h.apart,h.one,h.aO,?_,h.own,h.sep⟩;intro k o ah;exact(h.objs k o ah).mono (Mem.le_refl m) (λ_ hu=>⟨hu,rfl⟩) (λb _ _=>rfl)
def ajw(bl:ee P T)(hm:P.follows .mixedOrders=true){id:Nat}{ops:Array Oper}(cf:wZ N ops=true)(ord:List Nat)(bJ:ord.length=ops.size)(B9:yW T ops ord (Array.replicate ops.size false)=true) (h:B7 P T G ops ord (Q .normal) σ):hD P T G N (.region id ops true) σ Q:=by intro m fr ρ a w cY cH oo ay;refine wp_region_any hm ?_;have J:=X2 ord (Array.replicate ops.size false) σ B9 h;rw[bJ]at J;exact Qn (m:=m) (fr:=fr) (N:=N) (Q:=λe cI w'=>jg N m fr ρ σ (Q e) cI w') bl (w1 cf) ops.size _ m ρ σ a _ cY (cH.drew _) oo ay J (λcI w' av=>av)
def ajx{ι:Type}{c:Code}{Q:Exit->Act->World->Prop}{a:Act}{w:World}(fa:ι->Act->World->Prop)(w2:ι->Nat)(i0:ι)(ajy:fa i0 a w) (round:∀i a w,fa i a w->c.wp P (Exit.then (λcI w'=>∃j,fa j cI w'/\w2 j<w2 i) Q) a w):(Code.loop c).wp P Q a w:=by
 intro b k cs;have key:∀n i a w,w2 i=n->fa i a w->∃e cI w',Q e cI w'/\Arrives P (lone (b.at a (.code c:: .inLoop c::k)) cs w) b k cs e cI w':=by
  intro n
  induction n using Nat.strongRecOn with
  |_ n ih=>
   intro i a w aN fK;obtain⟨e,Ca,Cb,bM,w3⟩:=round i a w fK b (.inLoop c::k) cs;cases e with
   |normal=>obtain⟨j,ajz,b5⟩:=bM;obtain⟨ajA,ajB,ajC,ajD,ajE⟩:=ih (w2 j) (aN▸b5) j Ca Cb rfl ajz;exact⟨ajA,ajB,ajC,ajD,.of_steps (Steps.trans w3 (.one step_inLoop)) ajE⟩
   |exit id=>exact⟨_,Ca,Cb,bM,.pass (x:= .inLoop c) rfl (λ_ _=> .inl (by simp)) w3⟩|goto l=>exact⟨_,Ca,Cb,bM,.pass (x:= .inLoop c) rfl (λ_ _=> .inl (by simp)) w3⟩|ret=>exact⟨_,Ca,Cb,bM,.pass (x:= .inLoop c) rfl (λ_ _=> .inl (by simp)) w3⟩|panic Fz=>exact⟨_,Ca,Cb,bM,.pass (x:= .inLoop c) rfl (λ_ _=> .inl (by simp)) w3⟩|outgrown=>exact⟨_,Ca,Cb,bM,.pass (x:= .inLoop c) rfl (λ_ _=> .inl (by simp)) w3⟩
 obtain⟨e,cI,w',bM,w3⟩:=key _ i0 a w rfl ajy;exact⟨e,cI,w',bM,.of_steps (.one step_loop) w3⟩
def ajF{ι:Type}{c:Code}(fa:ι->aM)(w2:ι->Nat)(i0:ι)(au:hl σ (fa i0)) (round:∀i,hD P T G N c (fa i) (KY (λaZ=>∃j,hl aZ (fa j)/\w2 j<w2 i) Q)):hD P T G N (.loop c) σ Q:=by
 intro m fr ρ a w cY cH cf ay;refine ajx (λi a w=>∃m1 nL,m.le m1/\Den m1 fr nL (fa i) a w/\N<=a.tmps.size/\a.defers=[]/\k6 σ ρ (fa i) nL) w2 i0 ?_ ?_;.obtain⟨cz,c0,J,aa,ax⟩:=au m fr ρ a w cH;exact⟨cz,c0,J,aa,cf,ay,ax⟩
 rintro i aK hE ⟨m1,nL,g1,g2,g3,g4,g5⟩;refine wp_mono (round i m1 fr nL aK hE (cY.mono g1) g2 g3 g4) ?_;intro e cI w' av;have om:=av.trans g1 g5;cases e with
 |normal=>obtain⟨aZ,cz,c0,⟨j,aB,b5⟩,aa,ax,bh,b9,cN⟩:=om;obtain⟨m2,ly,b0,bR,cw⟩:=aB cz fr c0 cI w' ax;exact⟨j,⟨m2,ly,Mem.le_trans aa b0,bR,bh,b9,cN.trans cw⟩,b5⟩
 |exit id=>exact om|goto l=>exact om|ret=>exact om|panic c=>exact om|outgrown=>exact om
def y0(T:ch)(σ:aM):ResultVar->Option aX
 | .tmp t=>some (σ.aO t)
 | .cell a t=>match T t,σ.aO a with
  |some i,.ptr k off=>match σ.objs k with|some (.box cells)=>wA i cells off|_=>none
  |_,_=>none
def rE(T:ch)(σ:aM)(rs:List ResultVar):Option aX:=match hK (rs.map (y0 T σ))with|some [x]=>some x|some l=>some (.a6 l)|none=>none
def ajG(bl:ee P T){m:Mem}{fr:ff}{ρ:di}{a:Act}{w:World}(h:Den m fr ρ σ a w){w4:ResultVar}{x:aX}(ad:y0 T σ w4=some x): ∃v,((match w4 with| .tmp t=>pure (a.tmps.getD t undef)| .cell hs t=>do loadVar t (<-asAddr (a.tmps.getD hs undef)):Sem Value)).run P w= .ok v w/\cb m ρ σ.used x v:=by
 cases w4 with
 |tmp t=>simp only[y0,xaE]at ad;subst ad;exact⟨_,rfl,h.aO t⟩
 |cell hs t=>
  simp only[y0]at ad;split at ad
  case h_2=>cases ad
  rename_i i k off aP aC;split at ad
  case h_2=>cases ad
  rename_i cells ah;have aH:=h.aO hs;rw[aC]at aH;generalize yC:a.tmps.getD hs undef=u at aH;cases aH with|ptr _ _ b hu av=>
  obtain⟨b',vs,dY,aL,a7,bV,cG⟩:=h.objs _ _ ah;rw[av]at aL;cases aL;obtain⟨v,eM,eG⟩:=WZ (P:=P) bl aP a7 ⟨bV,cG⟩ ad;exact⟨v,by simp only[yC,asAddr,xai,xaw,xag,eM],eG⟩
def X4(bl:ee P T){m:Mem}{fr:ff}{ρ:di}{a:Act}{w:World}(h:Den m fr ρ σ a w):∀(rs:List ResultVar)(xs:List aX),hK (rs.map (y0 T σ))=some xs-> ∃vs:List Value,(rs.mapM λ
   | .tmp t=>pure (a.tmps.getD t undef)| .cell hs t=>do loadVar t (<-asAddr (a.tmps.getD hs undef)):Sem (List Value)).run P w= .ok vs w/\vs.length=xs.length/\∀(i:Nat)(x:aX)(v:Value),xs[i]?=some x->vs[i]?=some v->cb m ρ σ.used x v
 |[],xs,ad=>by simp[hK]at ad;subst ad;exact⟨[],by simp,rfl,by simp⟩
 |w4::rs,xs,ad=>by
  simp only[xau]at ad;cases J:y0 T σ w4 with
  |none=>simp[J,hK]at ad
  |some x=>
   rw[J]at ad;simp only[hK]at ad;split at ad
   case h_2=>cases ad
   rename_i l al;cases ad;obtain⟨v,eM,eG⟩:=ajG (P:=P) bl h J;obtain⟨vs,hF,w5,X5⟩:=X4 bl h rs l al;refine⟨v::vs,?_,by simp[w5],?_⟩;.simp only[List.mapM_cons,xai,eM,hF,xag,xaw]
   intro i y u aE hu;cases i with|zero=>simp at aE hu;subst aE;subst hu;exact eG|succ i=>exact X5 i y u (by simpa using aE) (by simpa using hu)
def X6(bl:ee P T){m:Mem}{fr:ff}{ρ:di}{a:Act}{w:World}(h:Den m fr ρ σ a w){fn:Func}{x:aX}(ad:rE T σ fn.results.toList=some x): ∃v,(results fn a.tmps).run P w= .ok v w/\cb m ρ σ.used x v:=by
 unfold rE at ad;cases al:hK (fn.results.toList.map (y0 T σ))with
 |none=>simp[al]at ad
 |some xs=>
  obtain⟨vs,eM,eG,hF⟩:=X4 (P:=P) bl h fn.results.toList xs al;have gZ:((fn.results.mapM λ
   | .tmp t=>pure (a.tmps.getD t undef)| .cell hs t=>do loadVar t (<-asAddr (a.tmps.getD hs undef)):Sem (Array Value))).run P w= .ok vs.toArray w:=by
   rw[Array.mapM_eq_mapM_toList,Sem.run_map,eM];rfl
  have u1:(results fn a.tmps).run P w= .ok (if h:vs.toArray.size=1 then vs.toArray[0]else .tuple vs.toArray) w:=by unfold results;rw[xai];exact(congrArg (λr=>Result.andThen r _) gZ).trans rfl
  rw[u1];rw[al]at ad;split at ad
  .rename_i y he;cases ad;cases he
   match vs,eG,hF with|[v],_,hF=>exact⟨v,by simp,hF 0 _ _ rfl rfl⟩
  .rename_i l cp he;cases ad;cases he;have fg:vs.toArray.size≠1:=by
    intro J;have:xs.length=1:=by rw[<-eG];simpa using J
    obtain⟨y,aE⟩:=List.length_eq_one_iff.1 this;exact cp y aE
   refine⟨.tuple vs.toArray,?_,.a6 _ _ (by simpa using eG) (λi c v ai aS=>hF i c v ai (by simpa using aS))⟩;rw[dif_neg fg]
  cases ad
def start(args:List aX)(E:cx):aM:=⟨λt=>args.getD t .any,E⟩
def ajH(bl:ee P T){f:FuncId}{fn:Func}{c:Code}{aR:List D}{R:D->Prop}(bk:P.funcs[f]?=some fn)(aj:fn.body=some c)(K0:(fn.name== "runtime.NumGoroutine")=false)(bJ:aR.length<=fn.ntmps) (h:hD P T G fn.ntmps c (start (aR.map .d) λ_=>none) λe aZ=>(e= .normal\/e= .ret)/\∃r d x,rE T aZ fn.results.toList=some r/\toD aZ.objs r=some d/\d.le x/\R x):fz P G f aR R:=by
 refine⟨⟨fn,bk,K0,by rw[aj];rfl⟩,?_⟩;intro m fr w vs cY cM cH;refine calls_of_wp bk aj ?_;have FA:Den m fr (λ_=>undef) (start (aR.map .d) λ_=>none) {tmps:=vs.toArray++Array.replicate (fn.ntmps-vs.toArray.size) undef,defers:=[]} w:=by
  refine⟨cM.mem,cM.frame,cM.apart,?_,?_,?_,?_,?_⟩;.rintro k ⟨o,aT⟩;cases aT
  .intro t;simp only[start];by_cases aP:t<vs.length
   .have b5:t<aR.length:=by rw[<-cH.1];exact aP
    have ay:=xab b5;have aS:=xab aP;have aL:(aR.map aX.d).getD t .any= .d aR[t]:=by rw[xbb,xah,ay];rfl
    have a7:(vs.toArray++Array.replicate (fn.ntmps-vs.toArray.size) undef).getD t undef=vs[t]:=by rw[xbg,xbq (by simpa using aP)];simp[aP]
    rw[aL,a7];exact .d _ _ (cH.2 t _ _ ay aS)
   have aL:(aR.map aX.d).getD t .any= .any:=by rw[xbb,xaR (by simp;rw[<-cH.1];omega)];rfl
   rw[aL];exact .any _
  .intro k o ah;cases ah
  .intro k o b ah;cases ah
  intro k bF o o' b _ ah;cases ah
 have fg:fn.ntmps<=(vs.toArray++Array.replicate (fn.ntmps-vs.toArray.size) undef).size:=by simp;omega
 refine wp_mono (h m fr _ _ w cY FA fg rfl) ?_;rintro e cI w' ⟨aZ,cz,c0,⟨he,r,d,x,J,aa,ax,bh⟩,b9,cN,fP,il,k8⟩;obtain⟨v,b0,bR⟩:=X6 (P:=P) bl cN J;have cw:=ax _ _ (Xw cN bR aa);have fin:cI.defers=[]/\∃v,(results fn cI.tmps).run P w'= .ok v w'/\∃v1 m1 eM,Ending.returned v= .returned v1/\R eM/\m.le m1/\mr m1 fr w'/\c4 m1 eM v1:=⟨il,v,b0,v,Den.all cz c0 aZ.objs w',x,rfl,bh,Mem.le_trans b9 (Den.BY _ _ _ _),cN.Xt,cw⟩;rcases he with rfl|rfl
 .exact fin
 exact fin
end
def FB:List aX->Option (List D)
 |[]=>some []| .d x::r=>(FB r).map (x::·)|_=>none
def K1:aX->Option D
 | .d x=>some x| .agg cs=>(FB cs).map .agg| .a6 cs=>(FB cs).map .a6|_=>none
def X7:∀{cs:List aX}{aR:List D},FB cs=some aR->cs=aR.map .d
 |[],aR,h=>by cases h;rfl
 | .d x::r,aR,h=>by obtain⟨l,al,rfl⟩:=xaf.1 h;rw[X7 al];rfl
 | .any::_,_,h=>by cases h
 | .agg _::_,_,h=>by cases h
 | .a6 _::_,_,h=>by cases h
 | .ed _ _::_,_,h=>by cases h
 | .ptr _ _::_,_,h=>by cases h
 | .gy _ _ _ _::_,_,h=>by cases h
 | .row _::_,_,h=>by cases h
 | .sub _ _ _ _::_,_,h=>by cases h
 | .map _::_,_,h=>by cases h
 | .fn _ _ _::_,_,h=>by cases h
def ajI{m:Mem}{ρ:di}{U:Key->Prop}{x:aX}{a:D}{v:Value}(h:K1 x=some a)(ad:cb m ρ U x v):c4 m a v:=by
 have part:∀{cs:List aX}{aR:List D}{vs:Array Value},FB cs=some aR->vs.size=cs.length->(∀(i:Nat)(c:aX)(v:Value),cs[i]?=some c->vs[i]?=some v->cb m ρ U c v)->vs.size=aR.length/\∀(i:Nat)(c:D)(v:Value),aR[i]?=some c->vs[i]?=some v->c4 m c v:=by intro cs aR vs ay al ai;have e:=X7 ay;subst e;refine⟨by simpa using al,λi c v J aa=>?_⟩;have:=ai i (.d c) v (by simp[J]) aa;cases this with|d _ _ h=>exact h
 unfold K1 at h;split at h;.cases h;cases ad with|d _ _ h=>exact h
 .obtain⟨aR,ay,rfl⟩:=xaf.1 h;cases ad with|agg _ vs al ai=>exact .agg _ _ (part ay al ai).1 (part ay al ai).2
 .obtain⟨aR,ay,rfl⟩:=xaf.1 h;cases ad with|a6 _ vs al ai=>exact .a6 _ _ (part ay al ai).1 (part ay al ai).2
 cases h
def p1(cj:Key->Key)(U:Key->Prop)(x y:aX):Prop:=match y with| .any=>True| .d b=>∃a,K1 x=some a/\a.le b| .ed cs off=>x= .ed cs off\/x= .d (.ref cs off)| .ptr k off=>x= .ptr (cj k) off/\U k| .gy k cV i off=>x= .gy (cj k) cV i off/\U k| .row k=>x= .row (cj k)/\U k| .sub k cV i len=>x= .sub (cj k) cV i len/\U k| .map k=>x= .map (cj k)/\U k|_=>False
def jM(cj:Key->Key)(U:Key->Prop):List aX->List aX->Prop
 |[],[]=>True|x::xs,y::c7=>p1 cj U x y/\jM cj U xs c7|_,_=>False
def u2(cj:Key->Key)(U:Key->Prop)(x y:aX):Prop:=match y with
 | .agg c7=>match x with| .agg xs=>jM cj U xs c7| .d (.agg aR)=>jM cj U (aR.map .d) c7|_=>False
 | .a6 c7=>match x with| .a6 xs=>jM cj U xs c7|_=>False
 | .fn f as jJ=>match x with| .fn kJ ajJ ajK=>f=kJ/\jM cj U ajJ as/\jM cj U ajK jJ|_=>False
 |y=>p1 cj U x y
def te(cj:Key->Key)(U:Key->Prop):List aX->List aX->Prop
 |[],[]=>True|x::xs,y::c7=>u2 cj U x y/\te cj U xs c7|_,_=>False
section
variable{m:Mem}{ρ:di}{qE U:Key->Prop}{cj:Key->Key}
def p1.ok{x y:aX}(h:p1 cj U x y){v:Value}(ad:cb m ρ qE x v):cb m (λk=>ρ (cj k)) U y v:=by
 unfold p1 at h;split at h;.exact .any _
 .obtain⟨a,aH,hle⟩:=h;exact .d _ _ (hle _ _ (ajI aH ad))
 .rcases h with rfl|rfl;.cases ad with|ed _ _ b o vs T et hm xs J aa=>exact .ed _ _ b o vs T et hm xs J aa
  cases ad.o7 with|ref _ _ b o vs T et hm xs J aa=>exact .ed _ _ b o vs T et hm xs J aa
 .obtain⟨rfl,hu⟩:=h;cases ad with|ptr _ _ b _ av=>exact .ptr _ _ b hu av
 .obtain⟨rfl,hu⟩:=h;cases ad with|gy _ _ _ _ b o len cap _ av=>exact .gy _ _ _ _ b o len cap hu av
 .obtain⟨rfl,hu⟩:=h;cases ad;exact .row (ρ:=λk=>ρ (cj k)) _ hu
 .obtain⟨rfl,hu⟩:=h;cases ad with|sub _ _ _ _ b o L cap a _ av hle aH=>exact .sub _ _ _ _ b o L cap a hu av hle aH|jS _ _ _ _ av=>exact .jS _ _ _ hu av
 .obtain⟨rfl,hu⟩:=h;cases ad;exact .map (ρ:=λk=>ρ (cj k)) _ hu
 cases h
def jM.ok:∀{xs c7:List aX},jM cj U xs c7->c7.length=xs.length/\∀(i:Nat)(y:aX),c7[i]?=some y->∃x,xs[i]?=some x/\p1 cj U x y
 |[],[],_=>⟨rfl,by simp⟩|x::xs,y::c7,h=>by have ih:=jM.ok h.2;refine⟨by simp[ih.1],?_⟩;intro i z bG;cases i with|zero=>simp at bG;subst bG;exact⟨x,rfl,h.1⟩|succ i=>simp at bG;obtain⟨w,J,aa⟩:=ih.2 i z bG;exact⟨w,by simpa using J,aa⟩
 |[],y::c7,h=>h.elim|x::xs,[],h=>h.elim
def jM.cells{xs c7:List aX}{vs:Array Value}(h:jM cj U xs c7)(ad:ml m ρ qE xs vs):ml m (λk=>ρ (cj k)) U c7 vs:=by obtain⟨J,aa⟩:=h.ok;refine⟨by rw[ad.1,J],?_⟩;intro i y v aE aS;obtain⟨x,ax,bh⟩:=aa i y aE;exact bh.ok (ad.2 i x v ax aS)
def u2.ok{x y:aX}(h:u2 cj U x y){v:Value}(ad:cb m ρ qE x v):cb m (λk=>ρ (cj k)) U y v:=by
 unfold u2 at h;split at h
 .rename_i c7;split at h;.rename_i xs;obtain⟨vs,rfl,ai⟩:=ad.WU;have:=jM.cells h ai;exact .agg _ _ this.1 this.2
  .rename_i aR;obtain⟨vs,rfl,al,ai⟩:=ad.WT;have au:ml m ρ qE (aR.map .d) vs:=⟨by simpa using al,by
    intro i c v eR aS;simp only[xah,xaf]at eR;obtain⟨z,bG,rfl⟩:=eR;exact .d _ _ (ai i z v bG aS)⟩
   have:=jM.cells h au;exact .agg _ _ this.1 this.2
  cases h
 .split at h;.obtain⟨vs,rfl,ai⟩:=ad.WV;have:=jM.cells h ai;exact .a6 _ _ this.1 this.2
  cases h
 .split at h
  .obtain⟨rfl,J,aa⟩:=h;cases ad with|fn _ _ _ vs ws al ew g ru=>
   have a:=jM.cells (U:=U) J ⟨al,g⟩;have b:=jM.cells (U:=U) aa ⟨ew,ru⟩;exact .fn _ _ _ vs ws a.1 b.1 a.2 b.2
  cases h
 exact h.ok ad
end
def te.ok{cj:Key->Key}{U:Key->Prop}:∀{xs c7:List aX},te cj U xs c7->c7.length=xs.length/\∀(i:Nat)(y:aX),c7[i]?=some y->∃x,xs[i]?=some x/\u2 cj U x y
 |[],[],_=>⟨rfl,by simp⟩|x::xs,y::c7,h=>by have ih:=te.ok h.2;refine⟨by simp[ih.1],?_⟩;intro i z bG;cases i with|zero=>simp at bG;subst bG;exact⟨x,rfl,h.1⟩|succ i=>simpa using ih.2 i z (by simpa using bG)
 |[],y::c7,h=>h.elim|x::xs,[],h=>h.elim
def te.cells{m:Mem}{ρ:di}{qE U:Key->Prop}{cj:Key->Key}{xs c7:List aX}{vs:Array Value}(h:te cj U xs c7)(ad:ml m ρ qE xs vs):ml m (λk=>ρ (cj k)) U c7 vs:=by obtain⟨J,aa⟩:=h.ok;refine⟨by rw[ad.1,J],?_⟩;intro i y v aE aS;obtain⟨x,ax,bh⟩:=aa i y aE;exact bh.ok (ad.2 i x v ax aS)
def Qp(es de:List (List D)):Prop:=es=de\/(es.length=de.length/\∀(i:Nat)(x y:List D),es[i]?=some x->de[i]?=some y->x.length=y.length/\y.all D.one=true/\∀(j:Nat)(a b:D),x[j]?=some a->y[j]?=some b->a.le b)
def y1(cj:Key->Key)(U:Key->Prop)(x y:cU):Prop:=match y with| .dead=>True| .box c7=>∃xs,x= .box xs/\te cj U xs c7| .row k de=>∃es,x= .row k es/\Qp es de| .map es=>x= .map es
def Qp.ok{m:Mem}{ρ c0:di}{U nF:Key->Prop}{k:Nat}{es de:List (List D)}(h:Qp es de){v:Value}{w:World}(ad:jr m ρ U v w (.row k es)):jr m c0 nF v w (.row k de):=by
 rcases h with rfl|⟨al,h⟩;.exact ad
 rcases ad with⟨aL,rfl⟩|⟨b,o,cap,vs,T,aL,a7,bV,cG,dI,eL⟩;.exact .inl ⟨aL,xaN (by rw[<-al];rfl)⟩
 have key:∀(i:Nat)(y:List D),de[i]?=some y->∃x,es[i]?=some x/\x.length=y.length/\y.all D.one=true/\∀(j:Nat)(a b:D),x[j]?=some a->y[j]?=some b->a.le b:=by
  intro i y aE;have af:i<es.length:=by rw[al];exact(xaa.1 aE).1
  exact⟨_,xab af,h i _ y (xab af) aE⟩
 refine .inr ⟨b,o,cap,vs,T,by rw[<-al];exact aL,a7,by omega,cG,?_,?_⟩;.intro y aE;obtain⟨i,af⟩:=xaG.1 aE;obtain⟨x,J,aa,ax,_⟩:=key i y af;exact⟨by rw[<-aa];exact(dI x (xad J)).1,ax⟩
 intro i y j c af aB;obtain⟨x,J,aa,_,ax⟩:=key i y af;have X8:j<x.length:=by rw[aa];exact(xaa.1 aB).1
 obtain⟨z,g1,g2⟩:=eL i x j _ J (xab X8);exact⟨z,g1,ax j _ c (xab X8) aB _ _ g2⟩
def K2:List (Nat×aX)->Nat->aX
 |[],_=> .any|(j,v)::r,t=>if t=j then v else K2 r t
def eN:List (Key×cU)->Key->Option cU
 |[],_=>none|(j,o)::r,k=>if k=j then some o else eN r k
def X9(ls:List (Nat×aX))(lo:List (Key×cU)):aM:=⟨K2 ls,eN lo⟩
def Cc(cj:Key->Key)(U:Key->Prop)(σ:aM):List (Nat×aX)->Prop
 |[]=>True|(t,v)::r=>u2 cj U (σ.aO t) v/\Cc cj U σ r
def y2(cj:Key->Key)(U:Key->Prop)(σ:aM):List (Key×cU)->Prop
 |[]=>True|(k,o)::r=>(∃o',σ.objs (cj k)=some o'/\y1 cj U o' o)/\y2 cj U σ r
def Cc.ok{cj:Key->Key}{U:Key->Prop}{σ:aM}:∀{ls:List (Nat×aX)},Cc cj U σ ls->∀t,u2 cj U (σ.aO t) (K2 ls t)
 |[],_,t=>trivial
 |(j,v)::r,h,t=>by
  unfold K2;split;.rename_i e;subst e;exact h.1
  exact Cc.ok h.2 t
def y2.ok{cj:Key->Key}{U:Key->Prop}{σ:aM}:∀{lo:List (Key×cU)},y2 cj U σ lo->∀k o,eN lo k=some o->∃o',σ.objs (cj k)=some o'/\y1 cj U o' o
 |[],_,k,o,h=>by cases h
 |(j,x)::r,h,k,o,ah=>by
  unfold eN at ah;split at ah;.rename_i e;subst e;cases ah;exact h.1
  exact y2.ok h.2 k o ah
def gb:List (Key×Key)->Key->Key
 |[],k=>k|(a,b)::r,k=>if k=a then b else gb r k
def mA(lo:List (Key×cU)):List Key:=lo.map (·.1)
def y3(cj:Key->Key):List Key->Bool
 |[]=>true|k::r=>r.all (λj=>k==j||!(cj k==cj j))&&y3 cj r
def K3{cj:Key->Key}:∀{l:List Key},y3 cj l=true->∀k j,k∈l->j∈l->cj k=cj j->k=j
 |[],_,k,j,h,_,_=>by cases h
 |x::r,h,k,j,ah,aB,he=>by
  simp only[y3,xao,xax]at h;rcases xal.1 ah with rfl|fh
  .rcases xal.1 aB with rfl|nJ;.rfl
   have:=h.1 j nJ;simp at this;rcases this with J|J
   .exact J
   exact absurd he J
  rcases xal.1 aB with rfl|nJ
  .have:=h.1 k fh;simp at this;rcases this with J|J
   .exact J.symm
   exact absurd he.symm J
  exact K3 h.2 k j fh nJ he
def w6:∀{lo:List (Key×cU)} {k:Key} {o:cU},eN lo k=some o->k∈mA lo
 |[],k,o,h=>by cases h
 |(j,x)::r,k,o,h=>by
  unfold eN at h;split at h;.rename_i e;subst e;simp[mA]
  have:=w6 h;simp only[mA,xau,xal]at this⊢;exact .inr this
def ajL{σ:aM}{ls:List (Nat×aX)}{lo:List (Key×cU)}(l:List (Key×Key))(av:y3 (gb l) (mA lo)=true) (aC:Cc (gb l) (λk=>∃o,eN lo k=some o) σ ls) (aT:y2 (gb l) (λk=>∃o,eN lo k=some o) σ lo) (ah:∀k,10000<=k->eW (σ.objs k)->eW (eN lo k)/\gb l k=k):hl σ (X9 ls lo):=by
 intro m fr ρ a w h;have iz:∀{o o':cU},y1 (gb l) (λk=>∃o,eN lo k=some o) o' o->o.owns=true->o'.owns=true:=by
  intro o o' hle aT;cases o with
  |dead=>cases aT
  |box=>obtain⟨xs,rfl,_⟩:=hle;rfl
  |row=>obtain⟨es,rfl,_⟩:=hle;rfl
  |map=>cases hle;rfl
 refine⟨m,λk=>ρ (gb l k),Mem.le_refl m,⟨h.mem,h.frame,h.apart,?_,?_,?_,?_,?_⟩,λk fh aj=>⟨(ah k fh aj).1,by show ρ (gb l k)=ρ k;rw[(ah k fh aj).2]⟩⟩;.rintro k ⟨o,kL⟩;obtain⟨o',J,_⟩:=aT.ok k o kL;exact h.one _ ⟨o',J⟩
 .intro t;exact(aC.ok t).ok (h.aO t)
 .intro k o kL;obtain⟨o',J,aa⟩:=aT.ok k o kL;have ax:=h.objs _ _ J;cases o with
  |dead=>trivial|box c7=>obtain⟨xs,rfl,hle⟩:=aa;obtain⟨b,vs,T,aL,a7,bV,cG⟩:=ax;have:=te.cells hle ⟨bV,cG⟩;exact⟨b,vs,T,aL,a7,this.1,this.2⟩
  |row cV de=>obtain⟨es,rfl,hle⟩:=aa;exact hle.ok ax
  |map es=>cases aa;exact ax
 .intro k o b kL K4 aj;obtain⟨o',J,aa⟩:=aT.ok k o kL;exact h.own _ o' b J (iz aa K4) aj
 intro k bF o o' b cp kL FC FD Qq aj;obtain⟨x,J,aa⟩:=aT.ok k o kL;obtain⟨jf,dS,gO⟩:=aT.ok bF o' FC;exact h.sep (gb l k) (gb l bF) x jf b (λe=>cp (K3 av k bF (w6 kL) (w6 FC) e)) J dS (iz aa FD) (iz gO Qq) aj
def Cd(P:Program):Nat->List Field->Option (List TypeDesc)
 |_,[]=>some []|off,f::de=>if f.name≠ "_" /\f.offset=off then(match P.underlying f.type with|some .bool=>(Cd P (off+1) de).map (.bool::·)|some (.int k)=>(Cd P (off+1) de).map (.int k::·)|some .string=>(Cd P (off+1) de).map (.string::·)|_=>none)else none
def K5{P:Program}:∀{de:List Field}{off:Nat}{l:List TypeDesc},Cd P off de=some l->Kh P off de l
 |[],_,l,h=>by cases h;trivial
 |f::de,off,l,h=>by
  unfold Cd at h;split at h
  case isFalse=>cases h
  rename_i J;split at h;.rename_i hu;obtain⟨r,av,rfl⟩:=xaf.1 h;exact⟨J.1,J.2,hu,rfl,K5 av⟩
  .rename_i hu;obtain⟨r,av,rfl⟩:=xaf.1 h;exact⟨J.1,J.2,hu,rfl,K5 av⟩
  .rename_i hu;obtain⟨r,av,rfl⟩:=xaf.1 h;exact⟨J.1,J.2,hu,rfl,K5 av⟩
  cases h
def Qr(P:Program)(t:TypeId):Option (List TypeDesc):=match P.underlying t with
 |some (.struct de)=>match Cd P 0 de.toList with
  |some l=>if P.stoodInHeld t=false/\P.eqGuardType P.depth t=false then some l else none
  |none=>none
 |_=>none
def ajM{P:Program}{t:TypeId}{l:List TypeDesc}(h:Qr P t=some l):WD P t l:=by
 unfold Qr at h;split at h
 case h_2=>cases h
 rename_i de hu;have bk:P.fieldsOf t=de:=by simp[Program.fieldsOf,hu]
 split at h
 case h_2=>cases h
 rename_i jT al;split at h
 case isFalse=>cases h
 rename_i ai;cases h;exact⟨by rw[bk];exact hu,ai.1,ai.2,by rw[bk];exact K5 al⟩
def FE(P:Program)(t:TypeId):Option iT:=match P.underlying t,P.info? t with
 |some d,some i=>match i.zero with
  |some z=>if z.cells.size=i.size then some ⟨d,i.size,i.bytes,z⟩else none
  |none=>none
 |_,_=>none
def Qs(P:Program)(t:TypeId)(name:String):Option FuncId:=match P.info? t,P.underlying t with
 |some i,some d=>match d with
  | .pointer _=>none
  |_=>match i.methods.find? (λm=>m.name==name)with
   |some m=>match m.path.toList,m.func with|[],some (f,false)=>some f|_,_=>none
   |none=>none
 |_,_=>none
def ajN{P:Program}{t:TypeId}{name:String}{f:FuncId}(h:Qs P t name=some f):Ki P t name f:=by
 unfold Qs at h;split at h
 case h_2=>cases h
 rename_i i d J aa;split at h
 case h_1=>cases h
 rename_i aU;split at h
 case h_2=>cases h
 rename_i m hm;split at h
 case h_2=>cases h
 rename_i g ax bh;cases h;exact⟨i,m,d,J,hm,ax,bh,aa,λe he=>aU e he⟩
def fF(P:Program):ch:=⟨FE P,Qr P,λ_=>false,Qs P,[],[]⟩
def ch.K6(T:ch)(l:List TypeId):ch:=⟨T.PA,T.eqs,T.born,T.sR,l,T.dyn⟩
def ee.K6{P:Program}{T:ch}(h:ee P T)(l:List TypeId):ee P (T.K6 l):=⟨h.ty,h.EW,h.eqs,h.PB⟩
def ch.tg(T:ch)(l:List Nat):ch:=⟨T.PA,T.eqs,λk=>l.contains k,T.sR,T.WC,T.dyn⟩
def ee.tg{P:Program}{T:ch}(h:ee P T)(l:List Nat):ee P (T.tg l):=⟨h.ty,h.EW,h.eqs,h.PB⟩
def tok(P:Program):ee P (fF P):=by
 constructor
 .intro t i h;change FE P t=some i at h;unfold FE at h;split at h
  case h_2=>cases h
  rename_i d info J aa;split at h
  case h_2=>cases h
  rename_i z bG;split at h
  case isFalse=>cases h
  cases h;exact⟨J,info,aa,rfl,rfl,bG⟩
 .intro t i h;change FE P t=some i at h;unfold FE at h;split at h
  case h_2=>cases h
  rename_i d info J aa;split at h
  case h_2=>cases h
  rename_i z bG;split at h
  case isFalse=>cases h
  rename_i aC;cases h;exact aC
 .intro t l h;exact ajM h
 intro t name f h;exact ajN h
def I(n:Int):D:= .val (.int .i64 n)
def aI(b:Bool):D:= .val (.bool b)
def a1(s:ByteArray):D:= .val (.string s)
def cJ(l:List Int):D:= .aV 1 (l.map λn=>[I n])
def Ya(l:List Bool):D:= .aV 1 (l.map λb=>[aI b])
def dG(l:List ByteArray):D:= .aV 1 (l.map λs=>[a1 s])
end Go.Am
