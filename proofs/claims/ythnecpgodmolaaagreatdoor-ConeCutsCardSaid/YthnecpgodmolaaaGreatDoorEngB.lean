/- Calls, regions in any order, loops: their rules over such values. No condition. -/
import Derived.Test.YthnecpgodmolaaaGreatDoorEngA
import Derived.Still
import Derived.Scope
set_option linter.all false
set_option linter.unnecessarySimpa false
namespace Go.Am
def aG.put(σ:aG)(dst:Option Tmp)(r:aS):aG:=match dst with|some d=>⟨ct σ.aJ d r,σ.objs⟩|none=>σ
def gV(T:cg)(G:dm)(σ:aG)(o:Oper):Option aG:=match eL T (ch G σ.aJ) o.op with|some r=>some (σ.put o.dst r)|none=>match dB T (ch G σ.aJ) σ.objs o.op with|some r=>some (σ.put o.dst r)|none=>match g7 T (ch G σ.aJ) σ.objs (o.dst.getD 9999) o.op with|some (r,cz)=>some (aG.put ⟨σ.aJ,dC σ.objs cz⟩ o.dst r)|none=>none
structure sh(m:Mem)(fr:fH)(w:World):Prop where
 mem:∀b o,m b=some o->w.heap[b]?=some o
 frame:Vd fr w
 apart:∀b,m b≠none->fr b=none
def Den.ok{m:Mem}{fr:fH}{ρ:df}{σ:aG}{a:Act}{w:World}(h:Den m fr ρ σ a w):sh m fr w:=⟨h.mem,h.frame,h.apart⟩
def xH(m:Mem)(aO:List D)(vs:List Value):Prop:=vs.length=aO.length/\∀(i:Nat)(d:D)(v:Value),aO[i]?=some d->vs[i]?=some v->dv m d v
def vE(P:Program)(f:FuncId):Prop:=∃fn,P.funcs[f]?=some fn/\(fn.name== "runtime.NumGoroutine")=false/\fn.body.isNone=false
structure ez(P:Program)(G:dm)(f:FuncId)(aO:List D)(R:D->Prop):Prop where
 fn:vE P f
 run:∀m fr w vs,kn G m->sh m fr w->xH m aO vs->Calls P f vs.toArray w λe w'=>∃v cI r,e= .returned v/\R r/\m.le cI/\sh cI fr w'/\dv cI r v
def ez.mono{P:Program}{G:dm}{f:FuncId}{aO:List D}{R VZ:D->Prop}(h:ez P G f aO R)(av:∀r,R r->VZ r):ez P G f aO VZ:=⟨h.fn,λm fr w vs c3 dU cY=>(h.run m fr w vs c3 dU cY).mono λe w' ⟨v,cI,r,ab,af,aw⟩=>⟨v,cI,r,ab,av r af,aw⟩⟩
def qK:List D->List D->Prop
 |[],[]=>True|x::xs,y::dj=>x.le y/\qK xs dj|_,_=>False
def qK.refl:∀l:List D,qK l l
 |[]=>trivial|x::l=>⟨x.le_refl,qK.refl l⟩
def qK.ok{m:Mem}:∀{xs dj:List D}{vs:List Value},qK xs dj->xH m xs vs->xH m dj vs
 |[],[],vs,_,h=>h|x::xs,y::dj,[],_,h=>by have:=h.1;simp at this|x::xs,y::dj,v::vs,aq,h=>by have ih:=qK.ok (m:=m) (vs:=vs) aq.2 ⟨by simpa using h.1,λi d u aA hu=>h.2 (i+1) d u (by simpa using aA) (by simpa using hu)⟩;refine⟨by simpa using ih.1,?_⟩;intro i d u aA hu;cases i with|zero=>simp at aA hu;subst aA;subst hu;exact aq.1 m v (h.2 0 x v rfl rfl)|succ i=>exact ih.2 i d u (by simpa using aA) (by simpa using hu)
 |[],y::dj,vs,h,_=>h.elim|x::xs,[],vs,h,_=>h.elim
def D.flat:D->Bool
 | .val _=>true| .agg cs=>cs.all λc=>match c with| .val _=>true|_=>false
 | .a1 cs=>cs.all λc=>match c with
  | .val _=>true| .agg cs=>cs.all λc=>match c with| .val _=>true|_=>false
  |_=>false
 |_=>false
def agd{m cI:Mem}{c:D}{v:Value}(h:(match c with| .val _=>true|_=>false)=true)(aA:dv m c v):dv cI c v:=by cases c<;>first|(cases aA;exact .val _)|cases h
def flat_agg{m cI:Mem}{cs:List D}{v:Value}(h:(cs.all λc=>match c with| .val _=>true|_=>false)=true)(aA:dv m (.agg cs) v):dv cI (.agg cs) v:=by cases aA with|agg _ vs aq bJ=>exact .agg _ _ aq λi c u an hu=>agd (xay.1 h c (xac an)) (bJ i c u an hu)
def D.AI{m cI:Mem}{x:D}{v:Value}(h:x.flat=true)(aA:dv m x v):dv cI x v:=by
 cases x with
 |val=>cases aA;exact .val _
 |agg cs=>exact flat_agg h aA
 |a1 cs=>
  cases aA with
  |a1 _ vs aq bJ=>
   refine .a1 _ _ aq λi c u an hu=>?_;have ab:=xay.1 h c (xac an);have af:=bJ i c u an hu;cases c with
   |val=>cases af;exact .val _
   |agg cs=>exact flat_agg ab af|a1=>cases ab
   |ax=>cases ab
   |dW=>cases ab
   |mp=>cases ab
   |ref=>cases ab
   |fn=>cases ab
 |ax=>cases h
 |dW=>cases h
 |mp=>cases h
 |ref=>cases h
 |fn=>cases h
def qL(objs:cF):aS->Option D
 | .d x=>some x| .row key=>match objs key with|some (.row k es)=>some (.ax k es)|_=>none
 | .sub key k i len=>match objs key with
  |some (.row bs es)=>if k=bs/\i+len<=es.length then some (.ax k ((es.drop i).take len))else none
  |_=>none
 | .map key=>match objs key with|some (.map es)=>some (.mp es)|_=>none
 |_=>none
def hv{α:Type}:List (Option α)->Option (List α)
 |[]=>some []|some x::r=>match hv r with|some l=>some (x::l)|none=>none
 |none::_=>none
def qM{α:Type}:∀{l:List (Option α)} {r:List α},hv l=some r->r.length=l.length/\∀(i:Nat)(x:α),r[i]?=some x->l[i]?=some (some x)
 |[],r,h=>by simp[hv]at h;subst h;simp|none::l,r,h=>by simp[hv]at h
 |some x::l,r,h=>by
  simp only[hv]at h;split at h
  case h_2=>cases h
  rename_i r6 ds;cases h;have ih:=qM ds;refine⟨by simp[ih.1],?_⟩;intro i y aP;cases i with|zero=>simpa using aP|succ i=>exact ih.2 i y (by simpa using aP)
def m9(objs:cF):aS->Option D
 | .ptr key off=>match objs key with
  |some (.box cells)=>match hv (cells.map (qL objs))with|some cs=>some (.ref cs off)|none=>none
  |_=>none
 | .eo cs off=>some (.ref cs off)|x=>qL objs x
def ob(objs:cF):aS->Option D
 | .agg cs=>match hv (cs.map (m9 objs))with|some aO=>some (.agg aO)|none=>none
 | .fn f first cap=>match hv (first.map (m9 objs)),hv (cap.map (m9 objs))with|some as,some j7=>some (.fn f as j7)|_,_=>none
 |x=>m9 objs x
def toD(objs:cF):aS->Option D
 | .a1 cs=>match hv (cs.map (ob objs))with|some aO=>some (.a1 aO)|none=>none
 |x=>ob objs x
noncomputable def Den.all(m:Mem)(ρ:df)(objs:cF)(w:World):Mem:=λb=>match m b with|some o=>some o|none=>open Classical in if∃k o,objs k=some o/\o.owns=true/\blockOf (ρ k)=some b then w.heap[b]? else none
section
variable{P:Program}{T:cg}{G:dm}{m:Mem}{fr:fH}{ρ:df}{σ:aG}{a:Act}{w:World}
def Den.AJ(m:Mem)(ρ:df)(objs:cF)(w:World):m.le (Den.all m ρ objs w):=by intro b o h;simp[Den.all,h]
def Den.JD(h:Den m fr ρ σ a w){k:Key}{o:cS}{b:Nat}(ak:σ.objs k=some o)(aF:o.owns=true)(aj:blockOf (ρ k)=some b):Den.all m ρ σ.objs w b=w.heap[b]?:=by have:=(h.own k o b ak aF aj).1;simp only[Den.all,this];rw[xad ⟨k,o,ak,aF,aj⟩]
def Den.age(h:Den m fr ρ σ a w):∀b o,Den.all m ρ σ.objs w b=some o->w.heap[b]?=some o:=by
 intro b o aj;unfold Den.all at aj;cases hm:m b with
 |some x=>simp only[hm]at aj;cases aj;exact h.mem b _ hm
 |none=>
  simp only[hm]at aj;split at aj;.exact aj
  cases aj
def Den.V0(h:Den m fr ρ σ a w):sh (Den.all m ρ σ.objs w) fr w:=by
 refine⟨h.age,h.frame,?_⟩;intro b aj;unfold Den.all at aj;cases hm:m b with
 |some x=>exact h.apart b (by rw[hm];simp)
 |none=>
  simp only[hm]at aj;split at aj;.rename_i an;obtain⟨k,o,ab,af,aw⟩:=an;exact(h.own k o b ab af aw).2
  exact absurd rfl aj
def V1(h:Den m fr ρ σ a w){x:aS}{v:Value}{d:D}(ag:b4 m ρ σ.used x v)(aA:qL σ.objs x=some d):dv (Den.all m ρ σ.objs w) d v:=by
 have hle:=Den.AJ m ρ σ.objs w;have row:∀key k es v,σ.objs key=some (.row k es)->v=ρ key->dv (Den.all m ρ σ.objs w) (.ax k es) v:=by
  rintro key k es v ak rfl;rcases h.objs _ _ ak with⟨aK,rfl⟩|⟨b,o,cap,vs,dP,aK,aY,bN,cN,eb,fB⟩;.rw[aK];exact .m5 _ _ _
  have aj:=h.JD ak rfl (by rw[aK];rfl);obtain⟨f1,f2⟩:=VB (m:=m) eb fB;rw[aK];refine .ax k es b o cap vs dP (0,0) (by rw[aj];exact aY) eb bN (λi j=>(vs[o+i*k+j]?).getD undef) ?_ ?_;.intro i e j c ah aN;obtain⟨x,aV,a2⟩:=fB i e j c ah aN;rw[aV];rfl
  intro i e j c ah aN;obtain⟨x,aV,a2⟩:=fB i e j c ah aN;simp only[aV,xbd];exact a2.mono hle
 unfold qL at aA;split at aA;.cases aA;exact ag.n8.mono hle
 .rename_i key;split at aA
  case h_2=>cases aA
  rename_i k es ak;cases aA;cases ag;exact row key k es _ ak rfl
 .rename_i key k i len;split at aA
  case h_2=>cases aA
  rename_i bs es ak;split at aA
  case isFalse=>cases aA
  rename_i an;obtain⟨rfl,OE⟩:=an;cases aA;cases ag with|km _ _ _ hu av=>rw[xbS];exact .m5 _ _ _|sub _ _ _ _ b o L cap iy hu av xA aI=>
  have b5:((es.drop i).take len).length=len:=by simp;omega
  rcases Nat.eq_zero_or_pos len with au|jw;.subst au;rw[xbS];exact .m5 _ _ _
  have ny:=row key k es _ ak rfl;rw[av]at ny;cases ny with
  |m5=>simp at OE;omega
  |ax _ _ _ _ _ vs dP eD hm di an xs ab af=>
   have:=dv.ax (m:=Den.all m ρ σ.objs w) k ((es.drop i).take len) b (o+i*k) (cap-i) vs dP eD hm (λe he=>di e (xbn (xbi he))) (by omega) (λp j=>xs (i+p) j) (λp el j c e0 an=>by
     rw[xaN]at e0;split at e0
     case isFalse=>cases e0
     rw[xaV]at e0;have:=ab (i+p) el j c e0 an;rw[<-this]
     congr 1
     rw[xaR];omega)
    (λp el j c e0 an=>by
     rw[xaN]at e0;split at e0
     case isFalse=>cases e0
     rw[xaV]at e0;exact af (i+p) el j c e0 an)
   rw[b5]at this;rw[aI.1 (by omega)];exact this
 .rename_i key;split at aA
  case h_2=>cases aA
  rename_i es ak;cases aA;cases ag;obtain⟨r,dr,clock,aK,aY,bN,cN,eb⟩:=h.objs _ _ ak;have aj:=h.JD ak rfl (by rw[aK];rfl);rw[aK];exact .mp es r dr clock (by rw[aj];exact aY) bN cN (λi e x he ag=>(eb i e x he ag).mono hle)
 cases aA
def JE(h:Den m fr ρ σ a w){x:aS}{v:Value}{d:D}(ag:b4 m ρ σ.used x v)(aA:m9 σ.objs x=some d):dv (Den.all m ρ σ.objs w) d v:=by
 have hle:=Den.AJ m ρ σ.objs w;unfold m9 at aA;split at aA
 .rename_i key off;split at aA
  case h_2=>cases aA
  rename_i cells ak;split at aA
  case h_2=>cases aA
  rename_i cs hD;cases aA;obtain⟨b,vs,dP,aK,aY,bN,cN⟩:=h.objs _ _ ak;have aj:=h.JD ak rfl (by rw[aK];rfl);obtain⟨lH,mH⟩:=qM hD;cases ag with|ptr _ _ b' hu av=>
  rw[aK]at av;cases av;have key:∀(j:Nat)(c:D),cs[j]?=some c->∃u,vs[j]?=some u/\dv (Den.all m ρ σ.objs w) c u:=by
   intro j c an;have ab:=mH j c an;simp only[xaj,xah]at ab;obtain⟨y,aP,iU⟩:=ab;have aN:j<vs.size:=by rw[bN];exact(xae.1 aP).1
   exact⟨_,xao aN,V1 h (cN j y _ aP (xao aN)) iU⟩
  have:=dv.ref (m:=Den.all m ρ σ.objs w) cs off b 0 vs dP (0,0) (by rw[aj];exact aY) (λj=>(vs[j]?).getD undef) (λj c an=>by obtain⟨u,ab,_⟩:=key j c an;simp[ab]) (λj c an=>by obtain⟨u,ab,af⟩:=key j c an;simp[ab];exact af);simpa using this
 .cases aA;cases ag with|eo _ _ b o vs T eD hm xs ab af=>exact .ref _ _ b o vs T eD (hle _ _ hm) xs ab (λj c an=>(af j c an).mono hle)
 exact V1 h ag aA
def V2(h:Den m fr ρ σ a w){x:aS}{v:Value}{d:D}(ag:b4 m ρ σ.used x v)(aA:ob σ.objs x=some d):dv (Den.all m ρ σ.objs w) d v:=by
 unfold ob at aA;split at aA
 .rename_i cs;split at aA
  case h_2=>cases aA
  rename_i aO eM;cases aA;obtain⟨lH,mH⟩:=qM eM;cases ag with|agg _ vs aq bJ=>
  refine .agg _ _ (by rw[aq,lH];simp) ?_;intro i c u an hu;have ab:=mH i c an;simp only[xaj,xah]at ab;obtain⟨y,aP,iU⟩:=ab;exact JE h (bJ i y u aP hu) iU
 .rename_i f first cap
  split at aA
  case h_2=>cases aA
  rename_i as j7 has D2;cases aA;obtain⟨lH,mH⟩:=qM has;obtain⟨cB,dx⟩:=qM D2;cases ag with|fn _ _ _ vs ws aq ds bJ xI=>
  refine .fn _ _ _ vs ws (by rw[aq,lH];simp) (by rw[ds,cB];simp) ?_ ?_;.intro i c u an hu;have ab:=mH i c an;simp only[xaj,xah]at ab;obtain⟨y,aP,iU⟩:=ab;exact JE h (bJ i y u aP hu) iU
  intro i c u an hu;have ab:=dx i c an;simp only[xaj,xah]at ab;obtain⟨y,aP,iU⟩:=ab;exact JE h (xI i y u aP hu) iU
 exact JE h ag aA
def V3(h:Den m fr ρ σ a w){x:aS}{v:Value}{d:D}(ag:b4 m ρ σ.used x v)(aA:toD σ.objs x=some d):dv (Den.all m ρ σ.objs w) d v:=by
 unfold toD at aA;split at aA
 .rename_i cs;split at aA
  case h_2=>cases aA
  rename_i aO eM;cases aA;obtain⟨lH,mH⟩:=qM eM;cases ag with|a1 _ vs aq bJ=>
  refine .a1 _ _ (by rw[aq,lH];simp) ?_;intro i c u an hu;have ab:=mH i c an;simp only[xaj,xah]at ab;obtain⟨y,aP,iU⟩:=ab;exact V2 h (bJ i y u aP hu) iU
 exact V2 h ag aA
def agf(h:Den m fr ρ σ a w){xs:List aS}{vs:List Value}{aO:List D}(aq:vs.length=xs.length)(ag:∀(i:Nat)(x:aS)(v:Value),xs[i]?=some x->vs[i]?=some v->b4 m ρ σ.used x v)(aA:hv (xs.map (toD σ.objs))=some aO):xH (Den.all m ρ σ.objs w) aO vs:=by obtain⟨lH,mH⟩:=qM aA;refine⟨by rw[aq,lH];simp,?_⟩;intro i d v ab af;have aw:=mH i d ab;simp only[xaj,xah]at aw;obtain⟨y,aP,iU⟩:=aw;exact V3 h (ag i y v aP af) iU
def Den.agh(h:Den m fr ρ σ a w){w':World}{cI:Mem}(hle:(Den.all m ρ σ.objs w).le cI)(dU:sh cI fr w'):Den m fr ρ σ a w':=by refine⟨λb o aj=>dU.mem b o (hle b o (Den.AJ m ρ σ.objs w b o aj)),dU.frame,h.apart,h.one,h.aJ,?_,h.own,h.sep⟩;intro k o ak;refine(h.objs k o ak).mono (Mem.le_refl m) (λ_ hu=>⟨hu,rfl⟩) (λb aF aj=>?_);have ab:=h.JD ak aF aj;have af:b<w.heap.size:=(h.objs k o ak).tI aF aj;have aw:=xao af;rw[aw]at ab⊢;exact dU.mem b _ (hle b _ ab)
noncomputable def Den.hold(fr:fH)(ρ:df)(objs:cF)(w:World):fH:=⟨Den.all fr.at_ ρ objs w,fr.os,fr.out,fr.low⟩
def Den.V4(h:Den m fr ρ σ a w){k:Key}{o:cS}{b:Nat}(ak:σ.objs k=some o)(aF:o.owns=true)(aj:blockOf (ρ k)=some b):Den.hold fr ρ σ.objs w b=w.heap[b]?:=by have:=(h.own k o b ak aF aj).2;simp only[Den.hold,Den.all,this];rw[xad ⟨k,o,ak,aF,aj⟩]
def Den.V5(h:Den m fr ρ σ a w):sh m (Den.hold fr ρ σ.objs w) w:=by
 refine⟨h.mem,⟨?_,⟨h.frame.quiet.os,h.frame.quiet.out,h.frame.quiet.low,h.frame.quiet.r4⟩⟩,?_⟩
 .intro b o aj;unfold Den.hold Den.all at aj;cases hm:fr b with
  |some x=>simp only[hm]at aj;cases aj;exact h.frame.pR b _ hm
  |none=>
   simp only[hm]at aj;split at aj;.exact aj
   cases aj
 intro b aj;show Den.all fr.at_ ρ σ.objs w b=none;unfold Den.all;rw[h.apart b aj];simp only;rw[xab];rintro⟨k,o,ab,af,aw⟩;exact aj (h.own k o b ab af aw).1
def Den.kept(h:Den m fr ρ σ a w){w':World}{cI:Mem}(hle:m.le cI)(dU:sh cI (Den.hold fr ρ σ.objs w) w'):Den cI fr ρ σ a w':=by
 have pW:∀b o,fr b=some o->Den.hold fr ρ σ.objs w b=some o:=Den.AJ fr.at_ ρ σ.objs w;have jx:∀k o b,σ.objs k=some o->o.owns=true->blockOf (ρ k)=some b->cI b=none:=by intro k o b ak aF aj;cases hm:cI b with|none=>rfl|some x=>have ab:=dU.apart b (by rw[hm];simp);rw[h.V4 ak aF aj,xao ((h.objs k o ak).tI aF aj)]at ab;cases ab
 refine⟨dU.mem,⟨λb o aj=>dU.frame.pR b o (pW b o aj),⟨dU.frame.quiet.os,dU.frame.quiet.out,dU.frame.quiet.low,dU.frame.quiet.r4⟩⟩,?_,h.one,λt=>(h.aJ t).mono hle (λ_ hu=>⟨hu,rfl⟩),?_,λk o b ab af aw=>⟨jx k o b ab af aw,(h.own k o b ab af aw).2⟩,h.sep⟩;.intro b aj;have:=dU.apart b aj;cases bd:fr b with|none=>rfl|some x=>rw[pW b x bd]at this;cases this
 intro k o ak;refine(h.objs k o ak).mono hle (λ_ hu=>⟨hu,rfl⟩) (λb aF aj=>?_);have ab:=h.V4 ak aF aj;have aw:=xao ((h.objs k o ak).tI aF aj);rw[aw]at ab⊢;exact dU.frame.pR b _ ab
end
def eN(o:Option cS):Prop:=(∃cs,o=some (.box cs))\/(∃k es,o=some (.row k es))\/∃es,o=some (.map es)
theorem tQ{cs:List aS}:eN (some (.box cs)):= .inl ⟨_,rfl⟩
theorem si{k:Nat}{es:List (List D)}:eN (some (.row k es)):= .inr (.inl ⟨_,_,rfl⟩)
def tR:¬eN none:=by rintro(⟨_,h⟩|⟨_,_,h⟩|⟨_,h⟩)<;>cases h
def D3:¬eN (some .dead):=by rintro(⟨_,h⟩|⟨_,_,h⟩|⟨_,h⟩)<;>cases h
theorem vF{es:List (Value×D)}:eN (some (.map es)):= .inr (.inr ⟨_,rfl⟩)
def AK{o:Option cS}(h:eN o):∃x,o=some x:=by rcases h with⟨_,h⟩|⟨_,_,h⟩|⟨_,h⟩<;>exact⟨_,h⟩
def kP(σ:aG)(ρ:df)(aU:aG)(cU:df):Prop:=∀k,10000<=k->eN (σ.objs k)->eN (aU.objs k)/\cU k=ρ k
theorem kP.refl(σ:aG)(ρ:df):kP σ ρ σ ρ:=λ_ _ h=>⟨h,rfl⟩
def kP.trans{gn fZ V6:aG}{na lf V7:df}(h:kP gn na fZ lf)(bz:kP fZ lf V6 V7):kP gn na V6 V7:=λk ak aj=>let⟨a,b⟩:=h k ak aj;let⟨c,d⟩:=bz k ak a;⟨c,d.trans b⟩
@[simp] theorem aG.vG (σ:aG) (dst:Option Tmp) (r:aS):(σ.put dst r).objs=σ.objs:=by cases dst<;>rfl
def iW(N:Nat)(m:Mem)(fr:fH)(ρ:df)(σ:aG)(K:aG->Prop)(cC:Act)(w':World):Prop:= ∃aU cI cU,K aU/\m.le cI/\Den cI fr cU aU cC w'/\N<=cC.tmps.size/\cC.defers=[]/\kP σ ρ aU cU
def Den.put{m:Mem}{fr:fH}{ρ:df}{σ:aG}{a:Act}{w:World}(h:Den m fr ρ σ a w){dst:Option Tmp}{r:aS}{v:Value}(av:b4 m ρ σ.used r v)(aA:∀d,dst=some d->d<a.tmps.size):Den m fr ρ (σ.put dst r) (a.put dst v) w:=by
 cases dst with
 |none=>exact h
 |some d=>
  refine⟨h.mem,h.frame,h.apart,h.one,?_,h.objs,h.own,h.sep⟩;intro t;have cr:=aA d rfl;by_cases aM:t=d
  .subst aM;simp only[aG.put,e1,Act.put];have:(a.tmps.setIfInBounds t v).getD t undef=v:=by simp[Array.getD,cr]
   rw[this];exact av
  simp only[aG.put,cX _ _ aM,Act.put];have:(a.tmps.setIfInBounds d v).getD t undef=a.tmps.getD t undef:=by rw[xbt,xbt,xcd,xab (Ne.symm aM)]
  rw[this];exact h.aJ t
def OY{objs:cF}{k:Key}{o:cS}(h:eN (objs k)->eN (some o)):∀j,eN (objs j)->eN (ct objs k (some o) j):=by
 intro j aN;by_cases gm:j=k;.subst gm;rw[e1];exact h aN
 rw[cX _ _ gm];exact aN
def agi{T:cg}{ev:Operand->aS}{objs:cF}{d:Key}{o:Op}{r:aS}{cz:List (Key×cS)}(h:ei T ev objs d o=some (r,cz)):∀j,10000<=j->eN (objs j)->eN (dC objs cz j):=by
 have new:∀{o:cS},objs d=none->∀j,10000<=j->eN (objs j)->eN (dC objs [(d,o)] j):=by intro o aA j _;exact OY (λh=>by rw[aA]at h;exact absurd h tR) j
 have same:∀{k:Key}{dQ o:cS},objs k=some dQ->(eN (some dQ)->eN (some o))->∀j,10000<=j->eN (objs j)->eN (dC objs [(k,o)] j):=by intro k dQ o ak cP j _;exact OY (λh=>by rw[ak]at h;exact cP h) j
 cases o<;>simp only[ei,reduceCtorEq]at h
 case alloc=>split at h<;>cases h;exact new (by assumption)
 case box=>split at h<;>cases h;exact new (by assumption)
 case buildSlice=>
  split at h
  case h_2=>cases h
  split at h
  case h_2=>cases h
  split at h
  case h_2=>cases h
  split at h<;>cases h;exact new (by assumption)
 case makeSlice=>
  split at h
  case h_2=>cases h
  split at h
  case h_2=>cases h
  split at h
  case h_2=>cases h
  split at h<;>cases h;exact new (by assumption)
 case makeMap=>split at h<;>cases h;exact new (by assumption)
 case store=>
  split at h
  case h_2=>cases h
  split at h
  case isFalse=>cases h
  split at h
  .split at h
   case h_2=>cases h
   split at h<;>cases h;exact λj _=>OY (λ_=>tQ) j
  .split at h
   case h_2=>cases h
   split at h
   case isFalse=>cases h
   split at h<;>cases h;exact same (by assumption) (λ_=>si)
  cases h
 case mapUpdate=>
  split at h
  case h_2=>cases h
  split at h
  case h_2=>cases h
  split at h
  case isFalse=>cases h
  split at h
  case h_2=>cases h
  split at h
  case h_2=>cases h
  split at h<;>cases h;exact same (by assumption) (λ_=>vF)
 case insert=>
  split at h
  case h_2=>cases h
  split at h
  case h_2=>cases h
  split at h
  case isFalse=>cases h
  split at h
  case h_2=>cases h
  split at h
  case h_2=>cases h
  split at h<;>cases h;exact same (by assumption) (λ_=>vF)
 case call=>
  split at h
  .split at h
   case h_2=>cases h
   split at h
   case h_2=>cases h
   split at h
   case h_2=>cases h
   split at h
   case h_2=>cases h
   split at h
   case isFalse=>cases h
   split at h;.split at h<;>cases h;exact new (by assumption)
   .split at h
    case h_2=>cases h
    split at h<;>cases h;rename_i aA _ _ _ _ _ _ _ _ _ _ _ _ ak _ _;rename_i OZ;intro j cL aN;have agj:j≠d:=by rintro rfl;simp_all [tR]
    simp only[dC];rw[cX _ _ agj,cX _ _ (by rintro rfl;exact absurd OZ.2.2.2 (Nat.not_lt.2 cL))];exact aN
   cases h
  .split at h
   case h_2=>cases h
   split at h
   case h_2=>cases h
   split at h
   case h_2=>cases h
   split at h
   case h_2=>cases h
   split at h
   case isFalse=>cases h
   split at h
   .split at h
    case h_2=>cases h
    split at h<;>cases h;exact same (by assumption) (λ_=>si)
   .split at h
    case h_2=>cases h
    split at h<;>cases h;exact same (by assumption) (λ_=>si)
   cases h
  .split at h
   case h_2=>cases h
   split at h
   case h_2=>cases h
   split at h
   case h_2=>cases h
   split at h
   case h_2=>cases h
   split at h
   case h_2=>cases h
   split at h<;>cases h;exact same (by assumption) (λ_=>si)
  cases h
def V8{T:cg}{ev:Operand->aS}{objs:cF}{d:Key}{o:Op}{k:Key}{off:Nat}{cz:List (Key×cS)}(h:ei T ev objs d o=some (.ptr k off,cz)):objs d=none:=by
 cases o<;>simp only[ei,reduceCtorEq]at h
 case alloc=>split at h<;>cases h;assumption
 case box=>split at h<;>cases h;assumption
 all_goals (repeat' split at h)<;>cases h
def V9{T:cg}{ev:Operand->aS}{objs:cF}{d:Key}{o:Op}{cz:List (Key×cS)}(h:ei T ev objs d o=some (.row d,cz)):objs d=none:=by
 cases o<;>simp only[ei,reduceCtorEq]at h
 all_goals (repeat' split at h)<;>cases h<;>assumption
def agk{T:cg}{ev:Operand->aS}{objs:cF}{d:Key}{o:Op}{r:aS}{cz:List (Key×cS)}(h:g7 T ev objs d o=some (r,cz)):∀j,10000<=j->eN (objs j)->eN (dC objs cz j):=by
 obtain⟨⟨jB,sg⟩,au,aj⟩:=vD h;have ab:=agi au;intro j cL aN;have aL:∀{o:cS},objs d=none->j≠d:=by rintro o aA rfl;rw[aA]at aN;exact tR aN
 rcases xG (T.born d) d jB sg with e|⟨n,es,rfl,rfl,e⟩|⟨dk,n,es,rfl,rfl,e⟩|⟨off,cs,aO,rfl,rfl,eM,e⟩;.rw[aj]at e;cases e;exact ab j cL aN
 .rw[aj]at e;cases e;have aA:=aL (o:= .dead) (V9 au);have:=ab j cL aN;simp only[dC,cX _ _ aA]at this⊢;exact this
 .rw[aj]at e;cases e;have aA:=aL (o:= .dead) (V9 au);have:=ab j cL aN;simp only[dC,cX _ _ aA]at this⊢;exact this
 rw[aj]at e;cases e;have aA:=aL (o:= .dead) (V8 au);simp only[dC,cX _ _ aA];exact aN
section
variable{P:Program}{T:cg}{G:dm}{m:Mem}{fr:fH}{ρ:df}{σ:aG}{a:Act}{w:World}{N:Nat}
def agl(bf:dM P T)(c3:kn G m)(h:Den m fr ρ σ a w)(b3:N<=a.tmps.size)(hx:a.defers=[]){o:Oper}(gW:∀d,o.dst=some d->d<N){aU:aG}(aH:gV T G σ o=some aU){K:aG->Prop}(ff:K aU){Q:Exit->Act->World->Prop}:o.wp P a w (iW N m fr ρ σ K) Q:=by
 have dw:=DJ (a:=a) c3 h.aJ;have iz:∀d,o.dst=some d->d<a.tmps.size:=λd aA=>Nat.lt_of_lt_of_le (gW d aA) b3;have sj:∀v,N<=(a.put o.dst v).tmps.size:=by intro v;cases o.dst<;>simpa[Act.put]using b3
 have l9:∀v,(a.put o.dst v).defers=[]:=by intro v;cases o.dst<;>exact hx
 unfold Oper.wp;unfold gV at aH;split at aH;.rename_i r av;cases aH;obtain⟨v,ab,af⟩:=afr (P:=P) (w:=w) (o:=o) bf h.one dw av;rw[ab];exact⟨_,m,ρ,ff,Mem.le_refl m,h.put af iz,sj v,l9 v,λk ak aj=>⟨by simpa using aj,rfl⟩⟩
 split at aH;.rename_i r av;cases aH;obtain⟨v,ab,af⟩:=afy (P:=P) (w:=w) (o:=o) bf h.mem h.objs dw av;rw[ab];exact⟨_,m,ρ,ff,Mem.le_refl m,h.put af iz,sj v,l9 v,λk ak aj=>⟨by simpa using aj,rfl⟩⟩
 split at aH
 case h_2=>cases aH
 rename_i r cz av;cases aH;obtain⟨nx,v,w',cI,cU,ab,af,hm,aw,a4,b7⟩:=agc (P:=P) (o:=o) bf h dw av;rw[ab];have fin:iW N m fr ρ σ K (a.put o.dst v) w':=⟨_,cI,cU,ff,hm,aw.put a4 iz,sj v,l9 v,λk ak aj=>⟨by rw[aG.vG];exact agk av k ak aj,by obtain⟨c,an⟩:=AK aj;exact(b7 k ⟨_,an⟩).2⟩⟩;rcases af with rfl|⟨rfl,rfl⟩
 .exact fin
 exact fin
def vH:aS->Option (FuncId×List aS×List aS)
 | .d (.val (.func (.func f) first cap))=>if first.size=0/\cap.size=0 then some (f,[],[])else none
 | .fn (.func f) first cap=>some (f,first,cap)
 | .d (.fn (.func f) first cap)=>some (f,first.map .d,cap.map .d)
 |_=>none
def AL:aS->Bool
 | .d _=>true| .eo _ _=>true|_=>false
def sk:aS->Bool
 | .agg cs=>cs.all AL| .fn _ as j7=>as.all AL&&j7.all AL|x=>AL x
def O0{m:Mem}{ρ:df}{U:Key->Prop}{objs:cF}{x:aS}{d:D}{v:Value}(h:AL x=true)(aA:m9 objs x=some d)(a6:b4 m ρ U x v):dv m d v:=by
 cases x<;>first|cases h|skip
 .simp only[m9,qL]at aA;cases aA;exact a6.n8
 simp only[m9]at aA;cases aA;cases a6 with|eo _ _ b o vs T eD hm xs ab af=>exact .ref _ _ b o vs T eD hm xs ab af
def O1{m:Mem}{ρ:df}{U:Key->Prop}{objs:cF}{cs:List aS}{aO:List D}{vs:Array Value}(h:cs.all AL=true)(aA:hv (cs.map (m9 objs))=some aO)(aq:vs.size=cs.length) (a6:∀(i:Nat)(c:aS)(v:Value),cs[i]?=some c->vs[i]?=some v->b4 m ρ U c v):vs.size=aO.length/\∀(i:Nat)(c:D)(v:Value),aO[i]?=some c->vs[i]?=some v->dv m c v:=by obtain⟨ab,af⟩:=qM aA;refine⟨by rw[ab,aq];simp,λi c v an ah=>?_⟩;have aw:=af i c an;simp only[xaj,xah]at aw;obtain⟨y,aP,vI⟩:=aw;exact O0 (xay.1 h y (xac aP)) vI (a6 i y v aP ah)
def O2{m:Mem}{ρ:df}{U:Key->Prop}{objs:cF}{x:aS}{d:D}{v:Value}(h:sk x=true)(aA:toD objs x=some d)(a6:b4 m ρ U x v):dv m d v:=by
 cases x
 case agg cs=>
  simp only[toD,ob]at aA;split at aA
  case h_2=>cases aA
  rename_i aO eM;cases aA;cases a6 with|agg _ vs aq bJ=>
  obtain⟨aV,a2⟩:=O1 h eM aq bJ;exact .agg _ _ aV a2
 case fn f as j7=>
  simp only[sk,xam]at h;simp only[toD,ob]at aA;split at aA
  case h_2=>cases aA
  rename_i aO AM eM agm;cases aA;cases a6 with|fn _ _ _ vs ws aq ds bJ xI=>
  obtain⟨aV,a2⟩:=O1 h.1 eM aq bJ;obtain⟨bc,cV⟩:=O1 h.2 agm ds xI;exact .fn _ _ _ _ _ aV bc a2 cV
 case d y=>exact O0 (x:= .d y) rfl (by simpa[toD,ob]using aA) a6
 case eo cs off=>exact O0 (x:= .eo cs off) rfl (by simpa[toD,ob]using aA) a6
 all_goals cases h
def Wa(P:Program)(G:dm)(σ:aG)(dst:Option Tmp)(f:FuncId)(tS:List aS)(K:aG->Prop):Prop:= ∃nb aO R,hv (tS.map (toD σ.objs))=some nb/\qK nb aO/\ez P G f aO R/\(∃jB,R=(·=jB))/\((∀r,R r->r.flat=true)\/tS.all sk=true)/\∀r,R r->K (σ.put dst (.d r))
def jC(P:Program)(G:dm)(o:Oper)(σ:aG)(K:aG->Prop):Prop:=match o.op with
 | .call ⟨.value x,args,_⟩=>match vH (ch G σ.aJ x)with|some (f,pre,post)=>Wa P G σ o.dst f (pre++args.toList.map (ch G σ.aJ)++post) K|none=>False
 |_=>False
def da(P:Program)(T:cg)(G:dm)(o:Oper)(K:aG->Prop)(σ:aG):Prop:=match gV T G σ o with|some aU=>K aU|none=>jC P G o σ K
def ep(P:Program)(T:cg)(G:dm)(all:Array Oper)(o:Oper)(K:aG->Prop)(σ:aG):Prop:=match o.guard with
 |none=>da P T G o K σ
 |some (j,want)=>match(all[j]?).bind (·.dst)with
  |some d=>match σ.aJ d with
   | .d (.val (.bool b))=>if b=want then da P T G o K σ else K (σ.put o.dst (.d (.val (.tuple #[]))))
   | .d (.val (.tuple _))=>K (σ.put o.dst (.d (.val (.tuple #[]))))|_=>False
  |none=>False
def fP(P:Program)(T:cg)(G:dm)(all:Array Oper):List Oper->(aG->Prop)->aG->Prop
 |[],K,σ=>K σ|o::r,K,σ=>ep P T G all o (fP P T G all r K) σ
def Wb{va:Operand->Value}{x:Operand}{args:Array Operand}{dE:Array TypeId}{ty:TypeId}{f:FuncId}{first cap:Array Value}(ag:va x= .func (.func f) first cap)(bd:vE P f):(do let d<-resolve va {callee:= .value x,args:=args,argTypes:=dE} ty;invoke d.target d.args:Sem Next).run P w= .ok (.enter f (first++args.map va++cap)) w:=by obtain⟨fn,ab,af,aw⟩:=bd;simp only[xag,resolve,ag,Deferred.ofValue,xau,xaf,invoke,callFunc,program,Sem.run,ab,af,aw,xat,xaG]
def agn(c3:kn G m)(h:Den m fr ρ σ a w)(b3:N<=a.tmps.size)(hx:a.defers=[]){o:Oper}(gW:∀d,o.dst=some d->d<N){K:aG->Prop}(an:jC P G o σ K){Q:Exit->Act->World->Prop}:o.wp P a w (iW N m fr ρ σ K) Q:=by
 have dw:=DJ (a:=a) c3 h.aJ;have iz:∀d,o.dst=some d->d<a.tmps.size:=λd aA=>Nat.lt_of_lt_of_le (gW d aA) b3;have sj:∀v,N<=(a.put o.dst v).tmps.size:=by intro v;cases o.dst<;>simpa[Act.put]using b3
 have l9:∀v,(a.put o.dst v).defers=[]:=by intro v;cases o.dst<;>exact hx
 unfold jC at an;split at an
 case h_2=>cases an
 rename_i x args dE eE;split at an
 case h_2=>cases an
 rename_i f pre post gO;obtain⟨nb,aO,R,ab,af,aw,a4,b7,cO⟩:=an;have ag:=dw x;have O3:∃first cap,a.eval x= .func (.func f) first cap/\first.size=pre.length/\cap.size=post.length/\(∀(i:Nat)(c:aS)(v:Value),pre[i]?=some c->first[i]?=some v->b4 m ρ σ.used c v)/\(∀(i:Nat)(c:aS)(v:Value),post[i]?=some c->cap[i]?=some v->b4 m ρ σ.used c v):=by
  unfold vH at gO;split at gO
  .rename_i kr first cap he
   split at gO
   case isFalse=>cases gO
   rename_i au;cases gO;rw[he]at ag;exact⟨first,cap,ag.hQ,by simpa using au.1,by simpa using au.2,by intro i c v an;simp at an,by intro i c v an;simp at an⟩
  .rename_i kr first cap he
   cases gO;rw[he]at ag;generalize a.eval x=u at ag;cases ag with|fn _ _ _ vs ws aq ds g lg=>exact⟨vs,ws,rfl,aq,ds,g,lg⟩
  .rename_i kr first cap he
   cases gO;rw[he]at ag;have ag:=ag.n8;generalize a.eval x=u at ag;cases ag with|fn _ _ _ vs ws aq ds g lg=>
   refine⟨vs,ws,rfl,by simpa using aq,by simpa using ds,?_,?_⟩;.intro i c v an a6;simp only[xaj,xah]at an;obtain⟨y,aP,rfl⟩:=an;exact .d _ _ (g i y v aP a6)
   intro i c v an a6;simp only[xaj,xah]at an;obtain⟨y,aP,rfl⟩:=an;exact .d _ _ (lg i y v aP a6)
  .cases gO
 obtain⟨first,cap,vu,nt,pT,aV,a2⟩:=O3;have gl:∀(i:Nat)(c:aS)(v:Value),(pre++args.toList.map (ch G σ.aJ)++post)[i]?=some c->(first++args.map a.eval++cap).toList[i]?=some v->b4 m ρ σ.used c v:=by
  intro i c v an a6;simp only[Array.toList_append,Array.toList_map]at a6;have aK:first.toList.length=pre.length:=by simpa using nt
  by_cases ab:i<pre.length;.rw[xaO,xaK ab]at an;rw[xaO,xaK (by omega)]at a6;exact aV i c v an (by simpa using a6)
  .by_cases af:i<pre.length+args.size;.rw[xaK (by simp;omega),xaI (by omega)]at an;rw[xaK (by simp;omega),xaI (by omega),aK]at a6;simp only[xaj,xah]at an a6;obtain⟨p,aT,rfl⟩:=an;obtain⟨q,bk,rfl⟩:=a6;rw[aT]at bk;cases bk;exact dw _
   rw[xaI (by simp;omega)]at an;rw[xaI (by simp;omega)]at a6;refine a2 _ c v an ?_;rw[<-a6];simp only[xaL,xaY,xcc,nt];simp
 have b5:(first++args.map a.eval++cap).toList.length=(pre++args.toList.map (ch G σ.aJ)++post).length:=by simp[nt,pT]
 have O4:(execOp a.eval o).run P w= .ok (.enter f (first++args.map a.eval++cap)) w:=by unfold execOp;rw[eE];exact Wb vu aw.fn
 unfold Oper.wp;rw[O4];rcases b7 with b7|b7
 ·
  have cY:=qK.ok af (agf h b5 gl ab);have sl:=aw.run _ fr w _ (c3.mono (Den.AJ m ρ σ.objs w)) h.V0 cY;simp only[Array.toArray_toList]at sl;refine sl.mono λe w' he=>?_;obtain⟨v,cI,r,rfl,bC,bD,cy,ey⟩:=he;have bP:=h.agh bD cy;exact⟨_,m,ρ,cO r bC,Mem.le_refl m,bP.put (.d _ _ (D.AI (b7 r bC) ey)) iz,sj v,l9 v,λk ak aj=>⟨by simpa using aj,rfl⟩⟩
 have O5:xH m nb (first++args.map a.eval++cap).toList:=by obtain⟨aV,a2⟩:=qM ab;refine⟨by rw[b5,aV];simp,?_⟩;intro i d v aA a6;have bc:=a2 i d aA;rw[xaj,xah]at bc;obtain⟨y,aP,tT⟩:=bc;exact O2 (xay.1 b7 y (xac aP)) tT (gl i y v aP a6)
 have sl:=aw.run m _ w _ c3 h.V5 (qK.ok af O5);simp only[Array.toArray_toList]at sl;refine sl.mono λe w' he=>?_;obtain⟨v,cI,r,rfl,bC,bD,cy,ey⟩:=he;have bP:=h.kept bD cy;exact⟨_,cI,ρ,cO r bC,bD,bP.put (.d _ _ ey) iz,sj v,l9 v,λk ak aj=>⟨by simpa using aj,rfl⟩⟩
def O6(bf:dM P T)(c3:kn G m)(h:Den m fr ρ σ a w)(b3:N<=a.tmps.size)(hx:a.defers=[]){o:Oper}(gW:∀d,o.dst=some d->d<N){K:aG->Prop}(an:da P T G o K σ){Q:Exit->Act->World->Prop}:o.wp P a w (iW N m fr ρ σ K) Q:=by
 unfold da at an;split at an;.exact agl bf c3 h b3 hx gW (by assumption) an
 exact agn c3 h b3 hx gW an
def O7(bf:dM P T)(c3:kn G m)(h:Den m fr ρ σ a w)(b3:N<=a.tmps.size)(hx:a.defers=[]){all:Array Oper}{i:Nat}{o:Oper}(ah:all[i]?=some o)(gW:∀d,o.dst=some d->d<N){K:aG->Prop}(an:ep P T G all o K σ) {Q:Exit->Act->World->Prop}:wpOp P all Q i (iW N m fr ρ σ K) a w:=by
 have iz:∀d,o.dst=some d->d<a.tmps.size:=λd aA=>Nat.lt_of_lt_of_le (gW d aA) b3;unfold wpOp;simp only[ah];unfold ep at an;split at an
 .rename_i cc;have:Region.wanted o (yielded all a.tmps)=true:=by simp[Region.wanted,cc]
  rw[xad this];exact .inl (O6 bf c3 h b3 hx gW an)
 rename_i j want cc;split at an
 case h_2=>cases an
 rename_i d aA;have iX:∀v,a.tmps.getD d undef=v->yielded all a.tmps j=(match v with| .bool b=>some b|_=>none):=by intro v a6;unfold yielded;rw[aA];simp only[Option.bind_some];rw[xbt]at a6;cases cr:a.tmps[d]? with|none=>rw[cr]at a6;simp only[Option.getD_none]at a6;subst a6;rfl|some u=>rw[cr]at a6;simp only[xbd]at a6;subst a6;cases u<;>rfl
 have skip:Region.wanted o (yielded all a.tmps)=false->K (σ.put o.dst (.d (.val (.tuple #[]))))->iW N m fr ρ σ K (a.put o.dst undef) w:=λ_ ak=>⟨_,m,ρ,ak,Mem.le_refl m,h.put (.d _ _ (.val _)) iz,by cases o.dst<;>simpa[Act.put]using b3,by cases o.dst<;>exact hx,λk ak aj=>⟨by simpa using aj,rfl⟩⟩;split at an
 .rename_i b aH;have a6:=h.aJ d;rw[aH]at a6;have aP:=iX _ a6.hQ;simp only at aP;have hw:Region.wanted o (yielded all a.tmps)=(b==want):=by
   simp only[Region.wanted,cc,aP];cases b<;>cases want<;>rfl
  by_cases aj:b=want;.rw[xad aj]at an;rw[hw,xad (by simpa using aj)];exact .inl (O6 bf c3 h b3 hx gW an)
  rw[xab aj]at an;have bd:Region.wanted o (yielded all a.tmps)=false:=by rw[hw];simpa using aj
  rw[xab (by rw[bd];simp)];exact skip bd an
 .rename_i vs aH;have a6:=h.aJ d;rw[aH]at a6;have aP:=iX _ a6.hQ;simp only at aP;have bd:Region.wanted o (yielded all a.tmps)=false:=by
   simp only[Region.wanted,cc,aP];rfl
  rw[xab (by rw[bd];simp)];exact skip bd an
 cases an
def wpOp_mono{ops:Array Oper}{Q:Exit->Act->World->Prop}{i:Nat}{K K':Act->World->Prop}(ak:∀a w,K a w->K' a w){a:Act}{w:World}(h:wpOp P ops Q i K a w):wpOp P ops Q i K' a w:=by
 unfold wpOp at*;split;.rename_i e;simp only[e]at h;exact ak _ _ h
 rename_i o e;simp only[e]at h;split
 .rename_i hw;rw[xad hw]at h;rcases h with h|h
  .refine .inl ?_;unfold Oper.wp at*;generalize (execOp a.eval o).run P w=r at*;cases r with
   |ok n w'=>
    cases n<;>simp only[Oper.upon]at h⊢<;>first|exact ak _ _ h|exact h|skip
    .refine h.mono λe kQ he=>?_;cases e with|returned v=>exact ak _ _ he|panicked c=>exact he|outgrown=>exact he
    exact h.mono λv kQ he=>ak _ _ he
   |halt x w'=>cases x<;>exact h
  exact .inr h
 rename_i hw;rw[xab hw]at h;exact ak _ _ h
end
def JF{ev iY:Operand->aS}{l:List Operand}(h:∀x∈l,ev x=iY x):l.map ev=l.map iY:=List.map_congr_left h
theorem Wc{ev iY:Operand->aS}{jR:Array (Nat×Operand)}(h:∀x∈(jR.toList.map (·.2)),ev x=iY x):(jR.toList.map λp=>(p.1,ev p.2))=jR.toList.map λp=>(p.1,iY p.2):=List.map_congr_left λp aT=>by rw[h p.2 (xax.2 ⟨p,aT,rfl⟩)]
def ago{T:cg}{ev iY:Operand->aS}{op:Op}(h:∀x∈op.operands.toList,ev x=iY x):eL T ev op=eL T iY op:=by
 cases op<;>simp only[eL]
 case move x=>rw[h x (by simp[Op.operands])]
 case assign x=>rw[h x (by simp[Op.operands])]
 case pick c a b=>rw[h c (by simp[Op.operands]),h a (by simp[Op.operands]),h b (by simp[Op.operands])]
 case binOp op t x y xw=>rw[h x (by simp[Op.operands]),h y (by simp[Op.operands])]
 case unOp op t x=>rw[h x (by simp[Op.operands])]
 case convert s t x=>rw[h x (by simp[Op.operands])]
 case fieldAddr s x f=>rw[h x (by simp[Op.operands])]
 case field s x f=>rw[h x (by simp[Op.operands])]
 case extract x i=>rw[h x (by simp[Op.operands])]
 case build t parts=>rw[Wc (by simpa[Op.operands]using h)]
 case index t x i=>rw[h x (by simp[Op.operands]),h i (by simp[Op.operands])]
 case makeFunc f first cap=>rw[JF (l:=first.toList) (λx ag=>h x (by simp[Op.operands]at ag⊢;exact .inl ag)),JF (l:=cap.toList) (λx ag=>h x (by simp[Op.operands]at ag⊢;exact .inr ag))]
 case makeInterface t x=>rw[h x (by simp[Op.operands])]
 case nilCheck x=>rw[h x (by simp[Op.operands])]
 case slice t x lo ah hq=>
  cases hq with
  |some _=>rfl
  |none=>
   simp only[eL];have aK:lo.map ev=lo.map iY:=by cases lo with|none=>rfl|some l=>simp only[xaP];rw[h l (by simp[Op.operands])]
   have aY:ah.map ev=ah.map iY:=by cases ah with|none=>rfl|some l=>simp only[xaP];rw[h l (by simp[Op.operands])]
   rw[h x (by simp[Op.operands]),aK,aY]
 case call c=>obtain⟨callee,args,dE⟩:=c;simp only;have e:args.toList.map ev=args.toList.map iY:=JF λx ag=>h x (by simp[Op.operands,Call.operands]at ag⊢;exact .inr ag);rw[e]
def agp{T:cg}{ev iY:Operand->aS}{objs:cF}{op:Op}(h:∀x∈op.operands.toList,ev x=iY x):dB T ev objs op=dB T iY objs op:=by
 cases op<;>simp only[dB]
 case load t a=>rw[h a (by simp[Op.operands])]
 case indexAddr t x fw=>rw[h x (by simp[Op.operands]),h fw (by simp[Op.operands])]
 case slice t x lo ah hq=>
  cases hq with
  |some _=>rfl
  |none=>
   simp only[dB];have aK:lo.map ev=lo.map iY:=by cases lo with|none=>rfl|some l=>simp only[xaP];rw[h l (by simp[Op.operands])]
   have aY:ah.map ev=ah.map iY:=by cases ah with|none=>rfl|some l=>simp only[xaP];rw[h l (by simp[Op.operands])]
   rw[h x (by simp[Op.operands]),aK,aY]
 case call c=>
  obtain⟨callee,args,dE⟩:=c;simp only;split
  .split
   .rename_i t x lD j4;have aI:args= #[x]:=by apply xbC;simpa using j4
    have e:ev x=iY x:=h x (by simp[Op.operands,Call.operands,aI]);rw[e]
   rfl
  rfl
 case lookup t x k ok=>rw[h x (by simp[Op.operands]),h k (by simp[Op.operands])]
 case binOp op t x y xw=>rw[h x (by simp[Op.operands]),h y (by simp[Op.operands])]
def agq{T:cg}{ev iY:Operand->aS}{objs:cF}{d:Key}{op:Op}(h:∀x∈op.operands.toList,ev x=iY x):ei T ev objs d op=ei T iY objs d op:=by
 cases op<;>simp only[ei]
 case box t x=>rw[h x (by simp[Op.operands])]
 case buildSlice t n parts=>rw[Wc (by simpa[Op.operands]using h)]
 case makeSlice t l c=>rw[h l (by simp[Op.operands]),h c (by simp[Op.operands])]
 case store t a x=>rw[h a (by simp[Op.operands]),h x (by simp[Op.operands])]
 case mapUpdate t m k x=>rw[h m (by simp[Op.operands]),h k (by simp[Op.operands]),h x (by simp[Op.operands])]
 case insert t m k x=>rw[h m (by simp[Op.operands]),h k (by simp[Op.operands]),h x (by simp[Op.operands])]
 case call c=>
  obtain⟨callee,args,dE⟩:=c;simp only;split
  .split
   .rename_i t t' s x lD j4;have aI:args= #[s,x]:=by apply xbC;simpa using j4
    have aK:ev s=iY s:=h s (by simp[Op.operands,Call.operands,aI]);have aY:ev x=iY x:=h x (by simp[Op.operands,Call.operands,aI]);rw[aK,aY]
   rfl
  .split
   .rename_i t t' s x lD j4;have aI:args= #[s,x]:=by apply xbC;simpa using j4
    have aK:ev s=iY s:=h s (by simp[Op.operands,Call.operands,aI]);have aY:ev x=iY x:=h x (by simp[Op.operands,Call.operands,aI]);rw[aK,aY]
   rfl
  .split
   .rename_i t s lD j4;have aI:args= #[s]:=by apply xbC;simpa using j4
    rw[h s (by simp[Op.operands,Call.operands,aI])]
   rfl
  rfl
def agr{T:cg}{ev iY:Operand->aS}{objs:cF}{d:Key}{op:Op}(h:∀x∈op.operands.toList,ev x=iY x):g7 T ev objs d op=g7 T iY objs d op:=by unfold g7;rw[agq h]
def iN:Op->Bool
 | .move _| .assign _| .pick ..| .unOp ..| .convert ..| .fieldAddr ..| .field ..| .extract ..| .build ..| .index ..| .makeFunc ..| .makeInterface ..| .nilCheck _=>true|_=>false
def jf:Op->Bool
 | .load ..| .indexAddr ..| .slice ..| .lookup ..| .binOp ..=>true| .call ⟨.builtin b,_,_⟩=>match b with| .len| .max| .min=>true|_=>false
 |_=>false
def hy:Op->Bool
 | .call ⟨.value _,_,_⟩=>true|_=>false
def pX:Op->Bool
 | .alloc _| .box ..| .buildSlice ..=>true|_=>false
theorem AN{T:cg}{ev:Operand->aS}{objs:cF}{d:Key}{op:Op}(h:iN op=true):dB T ev objs op=none/\g7 T ev objs d op=none:=by cases op<;>first|exact⟨rfl,rfl⟩|cases h
def AO{T:cg}{ev:Operand->aS}{objs:cF}{d:Key}{op:Op}(h:jf op=true):g7 T ev objs d op=none:=by
 cases op
 case call c=>
  obtain⟨callee,args,dE⟩:=c;cases callee with
  |value=>cases h
  |invoke=>cases h
  |builtin b=>cases b<;>first|rfl|cases h
 all_goals first|rfl|cases h
def O8{T:cg}{ev:Operand->aS}{objs:cF}{d:Key}{op:Op}(h:hy op=true):eL T ev op=none/\dB T ev objs op=none/\g7 T ev objs d op=none:=by
 cases op
 case call c=>
  obtain⟨callee,args,dE⟩:=c;cases callee with
  |value=>exact⟨rfl,rfl,rfl⟩|invoke=>cases h
  |builtin b=>cases h
 all_goals cases h
theorem qN{T:cg}{ev:Operand->aS}{objs:cF}{op:Op}(h:pX op=true):eL T ev op=none/\dB T ev objs op=none:=by cases op<;>first|exact⟨rfl,rfl⟩|cases h
def ags{T:cg}{ev:Operand->aS}{objs objs':cF}{d:Key}{op:Op}(h:pX op=true)(au:objs' d=none){r:aS}{cz:List (Key×cS)}(he:ei T ev objs d op=some (r,cz)):ei T ev objs' d op=some (r,cz)/\objs d=none/\∃o,cz=[(d,o)]:=by
 cases op
 case alloc t=>
  simp only[ei]at he⊢;split at he
  case h_2=>cases he
  rename_i i aM aA;cases he;exact⟨by simp only[au,aM],aA,_,rfl⟩
 case box t x=>
  simp only[ei]at he⊢;split at he
  case h_2=>cases he
  rename_i cs an aA;cases he;exact⟨by simp only[au,an],aA,_,rfl⟩
 case buildSlice t n parts=>
  simp only[ei]at he⊢;split at he
  case h_2=>cases he
  rename_i e s b z aM aA;simp only[au,aM];split at he
  case h_2=>cases he
  rename_i bg iL
  try simp only[iL]
  split at he
  case h_2=>cases he
  rename_i es aT
  try simp only[aT]
  split at he
  case isFalse=>cases he
  rename_i an;cases he;exact⟨by rw[xad an],aA,_,rfl⟩
 all_goals cases h
def AP{T:cg}{ev:Operand->aS}{objs objs':cF}{d:Key}{op:Op}(h:pX op=true)(au:objs' d=none){r:aS}{cz:List (Key×cS)}(he:g7 T ev objs d op=some (r,cz)):g7 T ev objs' d op=some (r,cz)/\objs d=none/\∃o,cz=[(d,o)]:=by
 obtain⟨⟨jB,sg⟩,o0,aj⟩:=vD he;obtain⟨aV,a2,o,rfl⟩:=ags (objs':=objs') h au o0;refine⟨by unfold g7;rw[aV];simp[aj],a2,?_⟩;rcases xG (T.born d) d jB [(d,o)]with e|⟨n,es,aK,aY,e⟩|⟨dk,n,es,aK,aY,e⟩|⟨off,cs,aO,aK,aY,eM,e⟩;.rw[aj]at e;cases e;exact⟨o,rfl⟩
 .rw[aj]at e;cases e;exact⟨_,rfl⟩
 .cases aY
 rw[aj]at e;cases e;exact⟨_,rfl⟩
def cF.ext(objs objs':cF):Prop:=∀k o,objs k=some o->objs' k=some o
def cF.JG{objs:cF}{k:Key}(h:objs k=none)(o:cS):objs.ext (ct objs k (some o)):=by
 intro j x ag;have:j≠k:=by rintro rfl;rw[h]at ag;cases ag
 rw[cX _ _ this];exact ag
def Wd{objs objs':cF}(h:objs.ext objs'){x:aS}{n:Nat}(aq:j3 objs x=some n):j3 objs' x=some n:=by
 unfold j3 at*;split at aq;.exact aq
 .exact aq
 .split at aq;.rename_i ak;rw[h _ _ ak];exact aq
  cases aq
 .exact aq
 cases aq
def JH{objs objs':cF}(h:objs.ext objs'){x:aS}{b:Bool}(aq:mF objs x=some b):mF objs' x=some b:=by
 unfold mF at*;split at aq;.exact aq
 .exact aq
 .split at aq;.rename_i ak;rw[h _ _ ak];exact aq
  cases aq
 cases aq
def We{objs objs':cF}(h:objs.ext objs'){x:aS}{d:D}(aq:qL objs x=some d):qL objs' x=some d:=by
 unfold qL at*;split at aq;.exact aq
 .split at aq;.rename_i ak;rw[h _ _ ak];exact aq
  cases aq
 .split at aq;.rename_i ak;rw[h _ _ ak];exact aq
  cases aq
 .split at aq;.rename_i ak;rw[h _ _ ak];exact aq
  cases aq
 cases aq
def o1{α:Type}{f g:aS->Option α}(h:∀x d,f x=some d->g x=some d):∀(l:List aS)(r:List α),hv (l.map f)=some r->hv (l.map g)=some r
 |[],r,av=>av
 |x::l,r,av=>by
  simp only[xaz]at av⊢;cases ag:f x with
  |none=>simp[ag,hv]at av
  |some d=>
   rw[ag]at av;simp only[hv]at av;split at av
   case h_2=>cases av
   rename_i r6 ds;rw[h x d ag];simp only[hv,o1 h l r6 ds];exact av
def JI{objs objs':cF}(h:objs.ext objs'){x:aS}{d:D}(aq:m9 objs x=some d):m9 objs' x=some d:=by
 unfold m9 at*;split at aq
 .split at aq
  case h_2=>cases aq
  rename_i ak;simp only[h _ _ ak];split at aq
  case h_2=>cases aq
  rename_i cs hD;rw[o1 (λx d ag=>We h ag) _ _ hD];exact aq
 .exact aq
 exact We h aq
def Wf{objs objs':cF}(h:objs.ext objs'){x:aS}{d:D}(aq:ob objs x=some d):ob objs' x=some d:=by
 unfold ob at*;split at aq
 .split at aq
  case h_2=>cases aq
  rename_i aO eM;rw[o1 (λx d ag=>JI h ag) _ _ eM];exact aq
 .split at aq
  case h_2=>cases aq
  rename_i as j7 has D2;rw[o1 (λx d ag=>JI h ag) _ _ has,o1 (λx d ag=>JI h ag) _ _ D2];exact aq
 exact JI h aq
def agt{objs objs':cF}(h:objs.ext objs'){x:aS}{d:D}(aq:toD objs x=some d):toD objs' x=some d:=by
 unfold toD at*;split at aq
 .split at aq
  case h_2=>cases aq
  rename_i aO eM;rw[o1 (λx d ag=>Wf h ag) _ _ eM];exact aq
 exact Wf h aq
def agu{T:cg}{ev:Operand->aS}{objs objs':cF}(h:objs.ext objs'){op:Op}{r:aS}(hm:dB T ev objs op=some r):dB T ev objs' op=some r:=by
 cases op<;>simp only[dB,reduceCtorEq]at hm⊢
 case load t a=>
  split at hm
  case h_2=>cases hm
  split at hm;.exact hm
  .split at hm
   case h_2=>cases hm
   rename_i ak;simp only[h _ _ ak];exact hm
  .split at hm
   case h_2=>cases hm
   rename_i ak;simp only[h _ _ ak];exact hm
  cases hm
 case indexAddr t x fw=>
  split at hm
  .split at hm
   case h_2=>cases hm
   split at hm
   case isFalse=>cases hm
   rename_i au;rw[xad au];split at hm;.exact hm
   .split at hm
    case h_2=>cases hm
    rename_i ak;simp only[h _ _ ak];exact hm
   .exact hm
   cases hm
  .exact hm
  cases hm
 case slice t x lo ah hq=>
  cases hq with
  |some _=>simp[dB]at hm
  |none=>
   simp only[dB]at hm⊢;split at hm
   case h_3=>cases hm
   case h_2=>exact hm
   split at hm
   case h_2=>cases hm
   split at hm
   case h_2=>cases hm
   rename_i n aL;simp only[Wd h aL];split at hm
   case h_2=>cases hm
   split at hm
   case isFalse=>cases hm
   rename_i an;rw[xad an];split at hm;.exact hm
   .split at hm
    case h_2=>cases hm
    rename_i ak;simp only[h _ _ ak];exact hm
   .exact hm
   cases hm
 case call c=>
  split at hm
  case h_2=>cases hm
  split at hm
  case h_2=>cases hm
  split at hm;.exact hm
  .split at hm
   case h_2=>cases hm
   rename_i n aL;simp only[Wd h aL];exact hm
  .exact hm
  .exact hm
  .split at hm
   case h_2=>cases hm
   rename_i ak;simp only[h _ _ ak];exact hm
  cases hm
 case lookup t x k ok=>
  split at hm
  case h_2=>cases hm
  split at hm;.exact hm
  .exact hm
  .split at hm
   case h_2=>cases hm
   rename_i ak;simp only[h _ _ ak];exact hm
  cases hm
 case binOp op t x y xw=>
  split at hm
  case h_2=>cases hm
  split at hm
  .split at hm
   .rename_i an;rw[xad an];split at hm
    case h_2=>cases hm
    rename_i b aj;simp only[JH h aj];exact hm
   rename_i an;rw[xab an];split at hm
   case isFalse=>cases hm
   rename_i o2;rw[xad o2];split at hm
   case h_2=>cases hm
   rename_i b aj;simp only[JH h aj];exact hm
  .split at hm
   .rename_i an;rw[xad an];split at hm
    case h_2=>cases hm
    rename_i b aj;simp only[JH h aj];exact hm
   rename_i an;rw[xab an];split at hm
   case isFalse=>cases hm
   rename_i o2;rw[xad o2];split at hm
   case h_2=>cases hm
   rename_i b aj;simp only[JH h aj];exact hm
  cases hm
def Wg:∀(cz:List (Key×cS)) {objs:cF} {k:Key} {o:cS},(∀p∈cz,p.1≠k)->dC (ct objs k (some o)) cz=ct (dC objs cz) k (some o)
 |[],objs,k,o,_=>rfl
 |(j,x)::r,objs,k,o,h=>by
  have aN:j≠k:=h (j,x) (by simp);simp only[dC];have e:ct (ct objs k (some o)) j (some x)=ct (ct objs j (some x)) k (some o):=by
   funext i
   simp only[ct];by_cases ab:i=j;.subst ab;simp[aN]
   by_cases af:i=k;.subst af;simp[ab]
   simp[ab,af]
  rw[e];exact Wg r (λp aT=>h p (by simp[aT]))
def JJ{objs objs':cF}(h:objs.ext objs'){x:aS}{r:Nat×List (List D)}(aq:l6 objs x=some r):l6 objs' x=some r:=by
 unfold l6 at*;split at aq;.exact aq
 .exact aq
 .split at aq;.rename_i ak;rw[h _ _ ak];exact aq
  cases aq
 .split at aq;.rename_i ak;rw[h _ _ ak];exact aq
  cases aq
 cases aq
def agv{T:cg}{ev:Operand->aS}{objs objs':cF}(h:objs.ext objs'){d k:Key}(aA:d≠k)(ak:objs k=none)(j8:objs d=none->objs' d=none){op:Op}{r:aS}{cz:List (Key×cS)} (he:ei T ev objs d op=some (r,cz)):ei T ev objs' d op=some (r,cz)/\∀p∈cz,p.1≠k:=by
 have one:∀{o:cS},∀p∈[(d,o)],p.1≠k:=by intro o p aT;simp at aT;subst aT;exact aA
 have nA:∀{j:Key}{x o:cS},objs j=some x->∀p∈[(j,o)],p.1≠k:=by intro j x o aN p aT;simp at aT;subst aT;rintro rfl;rw[ak]at aN;cases aN
 cases op<;>simp only[ei,reduceCtorEq]at he
 case alloc t=>split at he<;>cases he;rename_i i aM au;exact⟨by simp only[ei,aM,j8 au],one⟩
 case box t x=>split at he<;>cases he;rename_i cs an au;exact⟨by simp only[ei,an,j8 au],one⟩
 case buildSlice t n parts=>
  split at he
  case h_2=>cases he
  rename_i e s b z aM au;split at he
  case h_2=>cases he
  rename_i bg iL;split at he
  case h_2=>cases he
  rename_i es aT;split at he
  case isFalse=>cases he
  rename_i an;cases he;exact⟨by simp only[ei,aM,j8 au,iL,aT];rw[xad an],one⟩
 case makeSlice t l c=>
  split at he
  case h_2=>cases he
  rename_i e s b z aM au;split at he
  case h_2=>cases he
  rename_i bg iL;split at he
  case h_2=>cases he
  rename_i Ju af3 Jv af4 ab af;split at he
  case isFalse=>cases he
  rename_i an;cases he;exact⟨by simp only[ei,aM,j8 au,iL,ab,af];rw[xad an],one⟩
 case makeMap t r=>split at he<;>cases he;rename_i au;exact⟨by simp only[ei,j8 au],one⟩
 case store t a x=>
  split at he
  case h_2=>cases he
  rename_i i cs aM an;split at he
  case isFalse=>cases he
  rename_i aq;split at he
  .rename_i j off jA;split at he
   case h_2=>cases he
   rename_i cells aN;split at he
   case isFalse=>cases he
   rename_i bd;cases he;exact⟨by simp only[ei,aM,an,jA,h _ _ aN];rw[xad aq,xad bd],nA aN⟩
  .rename_i j cR fw off jA;split at he
   case h_2=>cases he
   rename_i bs es aO aN eM;split at he
   case isFalse=>cases he
   rename_i bd;split at he
   case h_2=>cases he
   rename_i el e0;cases he;exact⟨by simp only[ei,aM,an,jA,h _ _ aN,eM];rw[xad aq,xad bd];simp only[e0],nA aN⟩
  cases he
 case mapUpdate t m agw x=>
  split at he
  case h_2=>cases he
  rename_i ie gT s b z aM;split at he
  case h_2=>cases he
  rename_i hZ se;split at he
  case isFalse=>cases he
  rename_i di;split at he
  case h_2=>cases he
  rename_i key e9 OT aK aY bN;split at he
  case h_2=>cases he
  rename_i es aN;split at he
  case h_2=>cases he
  rename_i l aq;cases he;exact⟨by simp only[ei,aM,se,aK,aY,bN,h _ _ aN,aq];rw[xad di],nA aN⟩
 case insert t m agw x=>
  split at he
  case h_2=>cases he
  rename_i ie gT s b z aM;split at he
  case h_2=>cases he
  rename_i hZ se;split at he
  case isFalse=>cases he
  rename_i di;split at he
  case h_2=>cases he
  rename_i key e9 OT aK aY bN;split at he
  case h_2=>cases he
  rename_i es aN;split at he
  case h_2=>cases he
  rename_i l aq;cases he;exact⟨by simp only[ei,aM,se,aK,aY,bN,h _ _ aN,aq];rw[xad di],nA aN⟩
 case call c=>
  obtain⟨callee,args,dE⟩:=c;simp only at he;split at he
  .split at he
   case h_2=>cases he
   rename_i t t' s x lD j4;split at he
   case h_2=>cases he
   rename_i e s1 eT iV dt s2 hs oZ aM tM au;split at he
   case h_2=>cases he
   rename_i bg iL;split at he
   case h_2=>cases he
   rename_i cR xs m7;split at he
   case isFalse=>cases he
   rename_i an;split at he
   .rename_i g5;split at he
    case isFalse=>cases he
    rename_i aj;cases he;exact⟨by simp only[ei,lD,j4,aM,tM,j8 au,iL,JJ h m7,g5];rw[xad an,xad aj],one⟩
   .rename_i key g5;split at he
    case h_2=>cases he
    rename_i bs es aN;split at he
    case isFalse=>cases he
    rename_i aj;cases he;refine⟨by simp only[ei,lD,j4,aM,tM,j8 au,iL,JJ h m7,g5,h _ _ aN];rw[xad an,xad aj],?_⟩;intro p aT;simp at aT;rcases aT with rfl|rfl
    .rintro rfl;rw[ak]at aN;cases aN
    exact aA
   cases he
  .split at he
   case h_2=>cases he
   rename_i t t' s x lD j4;split at he
   case h_2=>cases he
   rename_i e s1 eT iV aM;split at he
   case h_2=>cases he
   rename_i bg iL;split at he
   case h_2=>cases he
   rename_i cR xs m7;split at he
   case isFalse=>cases he
   rename_i an;split at he
   .rename_i key g5;split at he
    case h_2=>cases he
    rename_i bs es aN;split at he
    case isFalse=>cases he
    rename_i aj;cases he;exact⟨by simp only[ei,lD,j4,aM,iL,JJ h m7,g5,h _ _ aN];rw[xad an,xad aj],nA aN⟩
   .rename_i key dx i len g5;split at he
    case h_2=>cases he
    rename_i bs es aN;split at he
    case isFalse=>cases he
    rename_i aj;cases he;exact⟨by simp only[ei,lD,j4,aM,iL,JJ h m7,g5,h _ _ aN];rw[xad an,xad aj],nA aN⟩
   cases he
  .split at he
   case h_2=>cases he
   rename_i t s lD j4;split at he
   case h_2=>cases he
   rename_i e s1 eT iV aM;split at he
   case h_2=>cases he
   rename_i bg iL;split at he
   case h_2=>cases he
   rename_i key dx i len g5;split at he
   case h_2=>cases he
   rename_i bs es aN;split at he
   case isFalse=>cases he
   rename_i aj;cases he;exact⟨by simp only[ei,lD,j4,aM,iL,g5,h _ _ aN];rw[xad aj],nA aN⟩
  cases he
def agx{T:cg}{ev:Operand->aS}{objs objs':cF}(h:objs.ext objs'){d k:Key}(aA:d≠k)(ak:objs k=none)(j8:objs d=none->objs' d=none){op:Op}{r:aS}{cz:List (Key×cS)} (he:g7 T ev objs d op=some (r,cz)):g7 T ev objs' d op=some (r,cz)/\∀p∈cz,p.1≠k:=by obtain⟨⟨jB,sg⟩,o0,aj⟩:=vD he;obtain⟨aV,a2⟩:=agv (objs':=objs') h aA ak j8 o0;refine⟨by unfold g7;rw[aV];simp[aj],λp aT=>?_⟩;have aw:=aga (b:=T.born d) (d:=d) (q:=(jB,sg)) p (by rw[aj];exact aT);obtain⟨oa,a4,b7⟩:=aw;rw[<-b7];exact a2 oa a4
def res(T:cg)(G:dm)(σ:aG)(o:Oper):Option (aS×List (Key×cS)):=match eL T (ch G σ.aJ) o.op with|some r=>some (r,[])|none=>match dB T (ch G σ.aJ) σ.objs o.op with|some r=>some (r,[])|none=>g7 T (ch G σ.aJ) σ.objs (o.dst.getD 9999) o.op
def aG.step(σ:aG)(dst:Option Tmp)(r:aS)(cz:List (Key×cS)):aG:=aG.put ⟨σ.aJ,dC σ.objs cz⟩ dst r
theorem vJ{T:cg}{G:dm}{σ:aG}{o:Oper}:gV T G σ o=(res T G σ o).map λp=>σ.step o.dst p.1 p.2:=by unfold gV res aG.step;cases eL T (ch G σ.aJ) o.op with|some r=>rfl|none=>cases dB T (ch G σ.aJ) σ.objs o.op with|some r=>rfl|none=>cases g7 T (ch G σ.aJ) σ.objs (o.dst.getD 9999) o.op with|none=>rfl|some p=>obtain⟨r,cz⟩:=p;rfl
theorem agy{G:dm}{σ:aG}{dst:Option Tmp}{r:aS}{x:Operand}(h:∀d,dst=some d->x≠ .tmp d):ch G (σ.put dst r).aJ x=ch G σ.aJ x:=by cases dst with|none=>rfl|some d=>cases x with|tmp t=>have:t≠d:=λe=>h d rfl (by rw[e]);simp only[ch,aG.put,cX _ _ this]|_=>rfl
theorem agz{all:Array Oper}{o:Oper}{d:Tmp}(h:d∉o.looksAt all):∀x∈o.op.operands.toList,x≠ .tmp d:=by rintro x ag rfl;exact h (by unfold Oper.looksAt;exact xbO _ (List.mem_filterMap.2 ⟨_,ag,rfl⟩))
def agA{all:Array Oper}{o:Oper}{d:Tmp}(h:d∉o.looksAt all){j:Nat}{b:Bool}(cc:o.guard=some (j,b)){e:Tmp}(he:(all[j]?).bind (·.dst)=some e):e≠d:=by rintro rfl;exact h (by unfold Oper.looksAt;exact List.mem_append_right _ (by simp[cc,he]))
def put_comm{σ:aG}{x y:Option Tmp}{r s:aS}(h:∀d,x=some d->y≠some d):(σ.put x r).put y s=(σ.put y s).put x r:=by
 cases x with
 |none=>rfl
 |some d=>
  cases y with
  |none=>rfl
  |some e=>
   have cP:d≠e:=λhe=>h d rfl (by rw[he]);simp only[aG.put]
   congr 1
   funext t
   simp only[ct];by_cases ab:t=d;.subst ab;simp[cP]
   by_cases af:t=e;.subst af;simp[ab]
   simp[ab,af]
def pass(x y:Oper):Bool:=iN x.op||iN y.op||((jf x.op||hy x.op)&&(jf y.op||hy y.op)&&!(hy x.op&&hy y.op))||(pX y.op&&match y.dst with|some d=>decide (d<9999)|none=>false)
def jS(all:Array Oper)(σ:aG)(o:Oper):Option Bool:=match o.guard with
 |none=>some true
 |some (j,want)=>match(all[j]?).bind (·.dst)with
  |some d=>match σ.aJ d with| .d (.val (.bool b))=>some (decide (b=want))| .d (.val (.tuple _))=>some false|_=>none
  |none=>none
section
variable{P:Program}{T:cg}{G:dm}{all:Array Oper}
def hE{o:Oper}{K:aG->Prop}{σ:aG}:ep P T G all o K σ=match jS all σ o with|some true=>da P T G o K σ|some false=>K (σ.put o.dst (.d (.val (.tuple #[]))))|none=>False:=by
 unfold ep jS;cases cc:o.guard with
 |none=>rfl
 |some p=>
  obtain⟨j,want⟩:=p;simp only;cases aA:(all[j]?).bind (·.dst)with
  |none=>rfl
  |some d=>
   simp only;generalize σ.aJ d=x;cases x with
   |d x=>
    cases x with
    |val v=>cases v with|bool b=>by_cases h:b=want<;>simp[h]|_=>rfl
    |_=>rfl
   |_=>rfl
def oc{o:Oper}{σ:aG}{dst:Option Tmp}{r:aS}(h:∀d,dst=some d->d∉o.looksAt all):jS all (σ.put dst r) o=jS all σ o:=by
 unfold jS;split;.rfl
 rename_i j want cc;split
 .rename_i e he;have aH:(σ.put dst r).aJ e=σ.aJ e:=by
   cases dst with|none=>rfl|some d=>simp only[aG.put,cX _ _ (agA (h d rfl) cc he)]
  rw[aH]
 rfl
def Wh{o:Oper}{σ:aG}{dst:Option Tmp}{r:aS}(h:∀d,dst=some d->d∉o.looksAt all):∀x∈o.op.operands.toList,ch G (σ.put dst r).aJ x=ch G σ.aJ x:=λx ag=>agy λd aA=>agz (h d aA) x ag
def agB{o:Oper}{σ:aG}{dst:Option Tmp}{r:aS}(h:∀d,dst=some d->d∉o.looksAt all):res T G (σ.put dst r) o=res T G σ o:=by have dw:=Wh (G:=G) (σ:=σ) (r:=r) h;unfold res;rw[ago dw,agp dw,agr dw,aG.vG]
theorem agC{σ:aG}{JK O9:Option Tmp}{r s:aS}{cz:List (Key×cS)}(h:∀d,JK=some d->O9≠some d):(σ.put JK r).step O9 s cz=(σ.step O9 s cz).put JK r:=by unfold aG.step;rw[<-put_comm h];cases JK<;>rfl
def agD{o:Oper}{σ:aG}{dst:Option Tmp}{r:aS}{K:aG->Prop}(h:∀d,dst=some d->d∉o.looksAt all)(cP:∀d,dst=some d->o.dst≠some d):jC P G o (σ.put dst r) K=jC P G o σ (λaU=>K (aU.put dst r)):=by
 have dw:=Wh (G:=G) (σ:=σ) (r:=r) h;unfold jC;split
 .rename_i x args dE eE;have aK:ch G (σ.put dst r).aJ x=ch G σ.aJ x:=dw x (by rw[eE];simp[Op.operands,Call.operands]);have aY:args.toList.map (ch G (σ.put dst r).aJ)=args.toList.map (ch G σ.aJ):=JF λy aP=>dw y (by rw[eE];simp[Op.operands,Call.operands];exact .inr (by simpa using aP));rw[aK];split
  .rename_i f pre post gO;unfold Wa;rw[aY,aG.vG];simp only[put_comm cP]
  rfl
 rfl
def jD{o:Oper}{σ:aG}{dst:Option Tmp}{r:aS}{K:aG->Prop}(h:∀d,dst=some d->d∉o.looksAt all)(cP:∀d,dst=some d->o.dst≠some d):da P T G o K (σ.put dst r)=da P T G o (λaU=>K (aU.put dst r)) σ:=by unfold da;rw[vJ,vJ,agB h];cases av:res T G σ o with|none=>exact agD h cP|some p=>simp only[xaP,agC cP]
def agE{ev:Operand->aS}{objs:cF}{d:Key}{op:Op}{p:aS×List (Key×cS)}(h:g7 T ev objs d op=some p)(objs':cF):eL T ev op=none/\dB T ev objs' op=none:=by
 obtain⟨q,ab,_⟩:=vD h;clear h;cases op<;>first|exact⟨rfl,rfl⟩|(simp only[ei,reduceCtorEq]at ab;done)|skip
 case call c=>obtain⟨callee,args,dE⟩:=c;cases callee with|value=>exact⟨rfl,rfl⟩|invoke=>exact⟨rfl,rfl⟩|builtin b=>cases b<;>first|exact⟨rfl,rfl⟩|(simp only[ei,reduceCtorEq]at ab;done)
def agF{ev:Operand->aS}{op:Op}{r:aS}(h:eL T ev op=some r):iN op=true\/jf op=true:=by
 cases op
 case call c=>obtain⟨callee,args,dE⟩:=c;cases callee with|value=>exact absurd h (by simp[eL])|invoke=>exact absurd h (by simp[eL])|builtin b=>cases b<;>first|exact .inr rfl|exact absurd h (by simp[eL])
 all_goals first|exact .inl rfl|exact .inr rfl|exact absurd h (by simp[eL])
def agG{ev:Operand->aS}{objs:cF}{op:Op}{r:aS}(h:dB T ev objs op=some r):iN op=true\/jf op=true:=by
 cases op
 case call c=>obtain⟨callee,args,dE⟩:=c;cases callee with|value=>exact absurd h (by simp[dB])|invoke=>exact absurd h (by simp[dB])|builtin b=>cases b<;>first|exact .inr rfl|exact absurd h (by simp[dB])
 all_goals first|exact .inl rfl|exact .inr rfl|exact absurd h (by simp[dB])
def Wi:∀(cz:List (Key×cS)) {objs:cF} {k:Key},dC objs cz k=none->objs k=none/\∀p∈cz,p.1≠k
 |[],objs,k,h=>⟨h,by simp⟩
 |(j,x)::r,objs,k,h=>by
  obtain⟨ab,af⟩:=Wi r h;have aN:j≠k:=by rintro rfl;rw[e1]at ab;cases ab
  rw[cX _ _ (Ne.symm aN)]at ab;exact⟨ab,by intro p aT;rcases xak.1 aT with rfl|aT;exact aN;exact af p aT⟩
def xJ{o:Oper}{σ:aG}{K:aG->Prop}(h:jC P G o σ K):hy o.op=true:=by
 unfold jC at h;split at h;.rename_i x args dE eE;rw[eE];rfl
 cases h
def D4{op:Op}(h:hy op=true):iN op=false/\jf op=false/\pX op=false:=by
 cases op<;>first|cases h|skip
 case call c=>
  obtain⟨callee,args,dE⟩:=c;cases callee with
  |value=>exact⟨rfl,rfl,rfl⟩|invoke=>cases h
  |builtin b=>cases h
def agH{o:Oper}{aJ:Nat->aS}{objs objs':cF}(h:objs.ext objs'){r:aS}(av:res T G ⟨aJ,objs⟩ o=some (r,[]))(ak:iN o.op=true\/jf o.op=true):res T G ⟨aJ,objs'⟩ o=some (r,[]):=by
 unfold res at*;simp only at*;split at av;.exact av
 rename_i aT;split at av;.rename_i JL hm;simp only[agu h hm];exact av
 rename_i hm;rcases ak with ak|ak
 .rw[(AN (T:=T) (ev:=ch G aJ) (objs:=objs) (d:=o.dst.getD 9999) ak).2]at av;cases av
 rw[AO ak]at av;cases av
def JM{o:Oper}{σ:aG}{r:aS}{cz:List (Key×cS)}(av:res T G σ o=some (r,cz))(ak:iN o.op=true\/jf o.op=true):cz=[]:=by
 unfold res at av;split at av;.cases av;rfl
 split at av;.cases av;rfl
 rcases ak with ak|ak;.rw[(AN (T:=T) (ev:=ch G σ.aJ) (objs:=σ.objs) (d:=o.dst.getD 9999) ak).2]at av;cases av
 rw[AO ak]at av;cases av
def Wj{o:Oper}{aJ:Nat->aS}{objs objs':cF}{p:aS×List (Key×cS)}(av:res T G ⟨aJ,objs⟩ o=some p)(ak:iN o.op=true):res T G ⟨aJ,objs'⟩ o=some p/\p.2=[]:=by
 unfold res at*;simp only at*;split at av;.cases av;exact⟨rfl,rfl⟩
 rw[(AN (T:=T) (ev:=ch G aJ) (objs:=objs) (d:=o.dst.getD 9999) ak).1,(AN (T:=T) (ev:=ch G aJ) (objs:=objs) (d:=o.dst.getD 9999) ak).2]at av;cases av
def tU{o:Oper}{σ:aG}(ak:hy o.op=true):res T G σ o=none:=by unfold res;obtain⟨ab,af,aw⟩:=O8 (T:=T) (ev:=ch G σ.aJ) (objs:=σ.objs) (d:=o.dst.getD 9999) ak;rw[ab,af,aw]
theorem ma{o:Oper}{σ:aG}{K:aG->Prop}{r:aS}{cz:List (Key×cS)}(av:res T G σ o=some (r,cz)):da P T G o K σ=K (σ.step o.dst r cz):=by unfold da;rw[vJ,av];rfl
theorem nB{o:Oper}{σ:aG}{K:aG->Prop}(av:res T G σ o=none):da P T G o K σ=jC P G o σ K:=by unfold da;rw[vJ,av];rfl
def D5{o:Oper}{σ:aG}{K K':aG->Prop}(h:jC P G o σ K)(ak:∀r,K (σ.put o.dst r)->K' (σ.put o.dst r)):jC P G o σ K':=by
 unfold jC at*;split
 .rename_i x args dE eE;rw[eE]at h;simp only at h;split;.rename_i f pre post gO;simp only[gO]at h;obtain⟨nb,aO,R,ab,af,aw,a4,b7,cO⟩:=h;exact⟨nb,aO,R,ab,af,aw,a4,b7,λr av=>ak _ (cO r av)⟩
  rename_i gO;simp only[gO]at h
 rename_i eE;split at h;.rename_i x args dE e;exact absurd e (eE x args dE)
 exact h
def Wk{x y:Oper}{σ:aG}{K:aG->Prop}(ab:∀d,x.dst=some d->d∉y.looksAt all)(af:∀d,x.dst=some d->y.dst≠some d)(aw:∀d,y.dst=some d->d∉x.looksAt all)(aT:pass x y=true) (h:da P T G x (λgn=>da P T G y K gn) σ):da P T G y (λfZ=>da P T G x K fZ) σ:=by
 have hY:∀d,y.dst=some d->x.dst≠some d:=λd aA ag=>af d ag aA;obtain⟨aJ,objs⟩:=σ;have D6:∀{o:Oper}{r:aS}{u:List (Key×cS)},aG.step ⟨aJ,objs⟩ o.dst r u=aG.put ⟨aJ,dC objs u⟩ o.dst r:=rfl;cases kt:res T G ⟨aJ,objs⟩ x with
 |none=>
  rw[nB kt]at h;have D7:=xJ h;obtain⟨kR,tV,Wl⟩:=D4 D7;have aP:(iN y.op=true\/jf y.op=true)\/(pX y.op=true/\∃d,y.dst=some d/\d<9999):=by simp only[pass,kR,tV,D7,xbM,xbE]at aT;cases mb:iN y.op with|true=>exact .inl (.inl rfl)|false=>cases dU:jf y.op with|true=>exact .inl (.inr rfl)|false=>simp only[mb,dU,xbM]at aT;cases dI:pX y.op with|false=>simp[dI]at aT|true=>refine .inr ⟨rfl,?_⟩;simp only[dI,xbE]at aT;cases aA:y.dst with|none=>simp[aA]at aT|some d=>simp[aA]at aT;exact⟨d,rfl,aT⟩
  have vI:hy y.op=false:=by
   cases cf:hy y.op with
   |false=>rfl
   |true=>
    obtain⟨a,b,c⟩:=D4 cf;rcases aP with(e|e)|⟨e,_⟩;.rw[a]at e;cases e
    .rw[b]at e;cases e
    rw[c]at e;cases e
  unfold jC at h;split at h
  case h_2=>cases h
  rename_i Wm args dE eE;split at h
  case h_2=>cases h
  rename_i f pre post gO;obtain⟨nb,aO,R,bC,bD,cy,⟨jB,rfl⟩,fm,g8⟩:=h;have AQ:da P T G y K (aG.put ⟨aJ,objs⟩ x.dst (.d jB)):=g8 jB rfl;rw[jD ab af]at AQ;cases jT:res T G ⟨aJ,objs⟩ y with
  |none=>rw[nB jT]at AQ;have:=xJ AQ;rw[vI]at this;cases this
  |some p=>
   obtain⟨pY,qO⟩:=p;rw[ma jT];have o3:cF.ext objs (dC objs qO):=by
    rcases aP with aP|⟨aP,_⟩;.rw[JM jT aP];exact λ_ _ h=>h
    have vK:g7 T (ch G aJ) objs (y.dst.getD 9999) y.op=some (pY,qO):=by unfold res at jT;simp only[(qN (T:=T) (ev:=ch G aJ) (objs:=objs) aP).1,(qN (T:=T) (ev:=ch G aJ) (objs:=objs) aP).2]at jT;exact jT
    obtain⟨bH,aL,o,rfl⟩:=AP (objs':=λ_=>none) aP rfl vK;exact cF.JG aL o
   show da P T G x K (aG.step ⟨aJ,objs⟩ y.dst pY qO);rw[D6,jD aw hY,nB (tU D7)];unfold jC;rw[eE];simp only[gO];refine⟨nb,aO,_,o1 (λx d ag=>agt o3 ag) _ _ bC,bD,cy,⟨jB,rfl⟩,fm,λr av=>?_⟩;have Wn:da P T G y K (aG.put ⟨aJ,objs⟩ x.dst (.d r)):=g8 r av;rw[jD ab af,ma jT,D6,put_comm hY]at Wn;exact Wn
 |some p=>
  obtain⟨rx,o4⟩:=p;rw[ma kt,D6,jD ab af]at h;cases jT:res T G ⟨aJ,dC objs o4⟩ y with
  |none=>
   rw[nB jT]at h;have vI:=xJ h;obtain⟨kR,tV,Wl⟩:=D4 vI;have ag:iN x.op=true\/jf x.op=true:=by simp only[pass,kR,tV,Wl,vI,xbM,Bool.or_false,xbv,xbq,Bool.or_true]at aT;cases mb:iN x.op with|true=>exact .inl rfl|false=>cases dU:jf x.op with|true=>exact .inr rfl|false=>cases cf:hy x.op<;>simp[mb,dU,cf]at aT
   have JN:=JM kt ag;subst JN;rw[nB (show res T G ⟨aJ,objs⟩ y=none from jT)];refine D5 h λr av=>?_;rw[jD aw hY,ma kt,D6,put_comm af];exact av
  |some p=>
   obtain⟨pY,qO⟩:=p;rw[ma jT]at h;have vL:aG.step ⟨aJ,dC objs o4⟩ y.dst pY qO=aG.put ⟨aJ,dC (dC objs o4) qO⟩ y.dst pY:=rfl;rw[vL]at h;have Pa:∀{xK:List (Key×cS)} {JO:aS},res T G ⟨aJ,objs⟩ y=some (JO,xK)->(∃D8,res T G ⟨aJ,dC objs xK⟩ x=some (rx,D8)/\JO=pY/\dC (dC objs xK) D8=dC (dC objs o4) qO)->da P T G y (λfZ=>da P T G x K fZ) ⟨aJ,objs⟩:=by rintro xK JO aK ⟨D8,aY,rfl,bN⟩;rw[ma aK];show da P T G x K (aG.step ⟨aJ,objs⟩ y.dst JO xK);rw[D6,jD aw hY,ma aY];have:aG.step ⟨aJ,dC objs xK⟩ x.dst rx D8=aG.put ⟨aJ,dC (dC objs xK) D8⟩ x.dst rx:=rfl;rw[this,bN,put_comm af];exact h
   by_cases D9:iN x.op=true\/jf x.op=true
   .have JN:=JM kt D9;subst JN;refine Pa jT ⟨[],?_,rfl,rfl⟩;by_cases JP:iN y.op=true\/jf y.op=true;.rw[JM jT JP];exact kt
    by_cases Wo:iN x.op=true;.exact(Wj kt Wo).1
    
    have aP:pX y.op=true:=by
     rw[not_or]at JP;have ao:iN x.op=false:=by simpa using Wo
     have ba:iN y.op=false:=by simpa using JP.1
     have b6:jf y.op=false:=by simpa using JP.2
     simp only[pass,ao,ba,b6,xbM]at aT;cases dI:pX y.op with|true=>rfl|false=>cases cf:hy y.op with|false=>simp[dI,cf]at aT|true=>rw[tU cf]at jT;cases jT
    have vK:g7 T (ch G aJ) objs (y.dst.getD 9999) y.op=some (pY,qO):=by have Pb:res T G ⟨aJ,objs⟩ y=some (pY,qO):=jT;unfold res at Pb;simp only[(qN (T:=T) (ev:=ch G aJ) (objs:=objs) aP).1,(qN (T:=T) (ev:=ch G aJ) (objs:=objs) aP).2]at Pb;exact Pb
    obtain⟨bH,aL,o,rfl⟩:=AP (objs':=λ_=>none) aP rfl vK;exact agH (cF.JG aL o) kt D9
   rw[not_or]at D9;have ao:iN x.op=false:=by simpa using D9.1
   have ba:jf x.op=false:=by simpa using D9.2
   have JQ:hy x.op=false:=by cases cf:hy x.op with|false=>rfl|true=>rw[tU cf]at kt;cases kt
   by_cases Wp:iN y.op=true;.obtain⟨aK,aY⟩:=Wj (objs':=objs) jT Wp;simp only at aY;subst aY;exact Pa aK ⟨o4,kt,rfl,rfl⟩
   have b6:iN y.op=false:=by simpa using Wp
   simp only[pass,ao,ba,b6,JQ,xbM,xbv]at aT;rw[xam]at aT;obtain⟨aP,aA⟩:=aT;have tT:∃d,y.dst=some d/\d<9999:=by cases iz:y.dst with|none=>simp[iz]at aA|some d=>simp[iz]at aA;exact⟨d,rfl,aA⟩
   obtain⟨d,tT,Wq⟩:=tT;have vK:g7 T (ch G aJ) (dC objs o4) (y.dst.getD 9999) y.op=some (pY,qO):=by unfold res at jT;simp only[(qN (T:=T) (ev:=ch G aJ) (objs:=dC objs o4) aP).1,(qN (T:=T) (ev:=ch G aJ) (objs:=dC objs o4) aP).2]at jT;exact jT
   rw[tT]at vK;simp only[xbd]at vK;obtain⟨_,aL,o,rfl⟩:=AP (objs':=λ_=>none) aP rfl vK;obtain⟨Pc,JN⟩:=Wi o4 aL;obtain⟨agI,_,_⟩:=AP (objs':=objs) aP Pc vK;have agJ:res T G ⟨aJ,objs⟩ y=some (pY,[(d,o)]):=by unfold res;simp only[(qN (T:=T) (ev:=ch G aJ) (objs:=objs) aP).1,(qN (T:=T) (ev:=ch G aJ) (objs:=objs) aP).2,tT,xbd];exact agI
   have hex:g7 T (ch G aJ) objs (x.dst.getD 9999) x.op=some (rx,o4):=by
    unfold res at kt;simp only at kt;split at kt;.rename_i agK;exact absurd (agF agK) (by simp[ao,ba])
    split at kt;.rename_i agL;exact absurd (agG agL) (by simp[ao,ba])
    exact kt
   have JR:x.dst.getD 9999≠d:=by cases JR:x.dst with|none=>simp only[Option.getD_none];exact λe=>by rw[<-e]at Wq;exact absurd Wq (xbR _)|some e=>simp only[xbd];rintro rfl;exact af e JR tT
   obtain⟨Wr,cP⟩:=agx (T:=T) (ev:=ch G aJ) (cF.JG Pc o) JR Pc (λau=>by rw[cX _ _ JR];exact au) hex;refine Pa agJ ⟨o4,?_,rfl,Wg o4 cP⟩;obtain⟨cB,dx⟩:=agE Wr (ct objs d (some o));show res T G ⟨aJ,ct objs d (some o)⟩ x=some (rx,o4);unfold res;simp only[cB,dx];exact Wr
def pZ{o:Oper}{σ:aG}{K K':aG->Prop}(ak:∀σ,K σ->K' σ)(h:da P T G o K σ):da P T G o K' σ:=by
 unfold da at*;split;.rename_i e;rw[e]at h;exact ak _ h
 rename_i e;rw[e]at h;exact D5 h λr av=>ak _ av
def Ea{o:Oper}{σ:aG}{K K':aG->Prop}(ak:∀σ,K σ->K' σ)(h:ep P T G all o K σ):ep P T G all o K' σ:=by
 rw[hE]at*;split;.rename_i e;rw[e]at h;exact pZ ak h
 .rename_i e;rw[e]at h;exact ak _ h
 rename_i e;rw[e]at h;exact h
def vM{o:Oper}{σ:aG}{K K':aG->Prop}(ak:∀objs r,K (aG.put ⟨σ.aJ,objs⟩ o.dst r)->K' (aG.put ⟨σ.aJ,objs⟩ o.dst r))(h:da P T G o K σ):da P T G o K' σ:=by unfold da at*;rw[vJ]at*;cases av:res T G σ o with|none=>simp only[av,xbk]at h⊢;exact D5 h λr av=>ak σ.objs r av|some p=>simp only[av,xaP]at h⊢;exact ak _ _ h
def swap{x y:Oper}{σ:aG}{K:aG->Prop}(g9:x.apart all y=true)(aT:pass x y=true)(h:ep P T G all x (λgn=>ep P T G all y K gn) σ):ep P T G all y (λfZ=>ep P T G all x K fZ) σ:=by
 obtain⟨ao,ba,b6⟩:=Oper.apart_spec g9;have mI:∀d,y.dst=some d->x.dst≠some d:=λd aA ag=>ba d ag aA;rw[hE]at h;have Pd:∀(objs:cF)(r:aS),jS all (aG.put ⟨σ.aJ,objs⟩ x.dst r) y=jS all σ y:=λobjs r=>by rw[oc ao];rfl
 have Eb:∀(objs:cF)(r:aS),jS all (aG.put ⟨σ.aJ,objs⟩ y.dst r) x=jS all σ x:=λobjs r=>by rw[oc b6];rfl
 split at h
 .rename_i ag;rw[hE];have bz:da P T G x (λgn=>match jS all σ y with|some true=>da P T G y K gn|some false=>K (gn.put y.dst (.d (.val (.tuple #[]))))|none=>False) σ:=by
   refine vM (λobjs r ak=>?_) h;rw[hE,Pd]at ak;exact ak
  cases xL:jS all σ y with
  |none=>
   simp only[xL]at bz;unfold da at bz;split at bz;.exact bz
   unfold jC at bz;split at bz
   .split at bz;.obtain⟨_,_,_,_,_,_,⟨r,rfl⟩,_,q⟩:=bz;exact q r rfl
    exact bz
   exact bz
  |some b=>
   cases b with
   |false=>
    simp only[xL]at bz;show ep P T G all x K (σ.put y.dst (.d (.val (.tuple #[]))));rw[hE];have:jS all (σ.put y.dst (.d (.val (.tuple #[])))) x=some true:=by rw[oc b6];exact ag
    simp only[this];rw[jD b6 mI];exact bz
   |true=>simp only[xL]at bz;have af:=Wk ao ba b6 aT bz;show da P T G y (λfZ=>ep P T G all x K fZ) σ;refine vM (λobjs r ak=>?_) af;rw[hE,Eb,ag];exact ak
 .rename_i ag;rw[hE,oc ao]at h;rw[hE];split at h
  .rename_i aP
   try simp only[aP]
   rw[jD ao ba]at h;refine vM (λobjs r ak=>?_) h;rw[hE,Eb,ag];exact ak
  .rename_i aP
   try simp only[aP]
   show ep P T G all x K (σ.put y.dst (.d (.val (.tuple #[]))));rw[hE,oc b6,ag];show K _;rw[put_comm mI];exact h
  exact h.elim
 exact h.elim
def agM{o:Oper}{σ:aG}{K K':aG->Prop}(h:da P T G o K σ)(ak:∀aU r,aU=σ.put o.dst (.d r)->K aU->K' aU)(cf:hy o.op=true):da P T G o K' σ:=by
 rw[nB (tU cf)]at h⊢;unfold jC at*;split
 .rename_i x args dE eE;rw[eE]at h;simp only at h;split;.rename_i f pre post gO;simp only[gO]at h;obtain⟨nb,aO,R,ab,af,aw,a4,b7,cO⟩:=h;exact⟨nb,aO,R,ab,af,aw,a4,b7,λr av=>ak _ r rfl (cO r av)⟩
  rename_i gO;simp only[gO]at h
 rename_i eE;split at h;.rename_i x args dE e;exact absurd e (eE x args dE)
 exact h
def cF.low(objs objs':cF):Prop:=∀k o,objs k=some o->o≠ .dead->objs' k=some o
def Ws{objs objs':cF}(h:objs.low objs'){x:aS}{d:D}(aq:qL objs x=some d):qL objs' x=some d:=by
 unfold qL at*;split at aq;.exact aq
 .split at aq;.rename_i ak;rw[h _ _ ak (by simp)];exact aq
  cases aq
 .split at aq;.rename_i ak;rw[h _ _ ak (by simp)];exact aq
  cases aq
 .split at aq;.rename_i ak;rw[h _ _ ak (by simp)];exact aq
  cases aq
 cases aq
def JS{objs objs':cF}(h:objs.low objs'){x:aS}{d:D}(aq:m9 objs x=some d):m9 objs' x=some d:=by
 unfold m9 at*;split at aq
 .split at aq
  case h_2=>cases aq
  rename_i ak;simp only[h _ _ ak (by simp)];split at aq
  case h_2=>cases aq
  rename_i cs hD;rw[o1 (λx d ag=>Ws h ag) _ _ hD];exact aq
 .exact aq
 exact Ws h aq
def Wt{objs objs':cF}(h:objs.low objs'){x:aS}{d:D}(aq:ob objs x=some d):ob objs' x=some d:=by
 unfold ob at*;split at aq
 .split at aq
  case h_2=>cases aq
  rename_i aO eM;rw[o1 (λx d ag=>JS h ag) _ _ eM];exact aq
 .split at aq
  case h_2=>cases aq
  rename_i as j7 has D2;rw[o1 (λx d ag=>JS h ag) _ _ has,o1 (λx d ag=>JS h ag) _ _ D2];exact aq
 exact JS h aq
def agN{objs objs':cF}(h:objs.low objs'){x:aS}{d:D}(aq:toD objs x=some d):toD objs' x=some d:=by
 unfold toD at*;split at aq
 .split at aq
  case h_2=>cases aq
  rename_i aO eM;rw[o1 (λx d ag=>Wt h ag) _ _ eM];exact aq
 exact Wt h aq
def Wu{objs objs':cF}(h:objs.low objs'){x:aS}{n:Nat}(aq:j3 objs x=some n):j3 objs' x=some n:=by
 unfold j3 at*;split at aq;.exact aq
 .exact aq
 .split at aq;.rename_i ak;rw[h _ _ ak (by simp)];exact aq
  cases aq
 .exact aq
 cases aq
def JT{objs objs':cF}(h:objs.low objs'){x:aS}{b:Bool}(aq:mF objs x=some b):mF objs' x=some b:=by
 unfold mF at*;split at aq;.exact aq
 .exact aq
 .split at aq;.rename_i ak;rw[h _ _ ak (by simp)];exact aq
  cases aq
 cases aq
def agO{T:cg}{ev:Operand->aS}{objs objs':cF}(h:objs.low objs'){op:Op}{r:aS}(hm:dB T ev objs op=some r):dB T ev objs' op=some r:=by
 cases op<;>simp only[dB,reduceCtorEq]at hm⊢
 case load t a=>
  split at hm
  case h_2=>cases hm
  split at hm;.exact hm
  .split at hm
   case h_2=>cases hm
   rename_i ak;simp only[h _ _ ak (by simp)];exact hm
  .split at hm
   case h_2=>cases hm
   rename_i ak;simp only[h _ _ ak (by simp)];exact hm
  cases hm
 case indexAddr t x fw=>
  split at hm
  .split at hm
   case h_2=>cases hm
   split at hm
   case isFalse=>cases hm
   rename_i au;rw[xad au];split at hm;.exact hm
   .split at hm
    case h_2=>cases hm
    rename_i ak;simp only[h _ _ ak (by simp)];exact hm
   .exact hm
   cases hm
  .exact hm
  cases hm
 case slice t x lo ah hq=>
  cases hq with
  |some _=>simp[dB]at hm
  |none=>
   simp only[dB]at hm⊢;split at hm
   case h_3=>cases hm
   case h_2=>exact hm
   split at hm
   case h_2=>cases hm
   split at hm
   case h_2=>cases hm
   rename_i n aL;simp only[Wu h aL];split at hm
   case h_2=>cases hm
   split at hm
   case isFalse=>cases hm
   rename_i an;rw[xad an];split at hm;.exact hm
   .split at hm
    case h_2=>cases hm
    rename_i ak;simp only[h _ _ ak (by simp)];exact hm
   .exact hm
   cases hm
 case call c=>
  split at hm
  case h_2=>cases hm
  split at hm
  case h_2=>cases hm
  split at hm;.exact hm
  .split at hm
   case h_2=>cases hm
   rename_i n aL;simp only[Wu h aL];exact hm
  .exact hm
  .exact hm
  .split at hm
   case h_2=>cases hm
   rename_i ak;simp only[h _ _ ak (by simp)];exact hm
  cases hm
 case lookup t x k ok=>
  split at hm
  case h_2=>cases hm
  split at hm;.exact hm
  .exact hm
  .split at hm
   case h_2=>cases hm
   rename_i ak;simp only[h _ _ ak (by simp)];exact hm
  cases hm
 case binOp op t x y xw=>
  split at hm
  case h_2=>cases hm
  split at hm
  .split at hm
   .rename_i an;rw[xad an];split at hm
    case h_2=>cases hm
    rename_i b aj;simp only[JT h aj];exact hm
   rename_i an;rw[xab an];split at hm
   case isFalse=>cases hm
   rename_i o2;rw[xad o2];split at hm
   case h_2=>cases hm
   rename_i b aj;simp only[JT h aj];exact hm
  .split at hm
   .rename_i an;rw[xad an];split at hm
    case h_2=>cases hm
    rename_i b aj;simp only[JT h aj];exact hm
   rename_i an;rw[xab an];split at hm
   case isFalse=>cases hm
   rename_i o2;rw[xad o2];split at hm
   case h_2=>cases hm
   rename_i b aj;simp only[JT h aj];exact hm
  cases hm
def Ec(T:cg)(x:Oper):Bool:=match x.op with| .buildSlice _ _ _=>T.born (x.dst.getD 9999)|_=>false
def xM(T:cg)(x y:Oper):Bool:=pass x y||(hy x.op&&hy y.op)||(Ec T x&&(hy y.op||jf y.op))
def agP{x:Oper}{σ:aG}(aj:Ec T x=true){p:aS×List (Key×cS)}(h:res T G σ x=some p):σ.objs (x.dst.getD 9999)=none/\p.2=[(x.dst.getD 9999,.dead)]:=by
 unfold Ec at aj;split at aj
 case h_2=>cases aj
 rename_i t n parts eE;have ak:pX x.op=true:=by rw[eE];rfl
 obtain⟨aK,aY⟩:=qN (T:=T) (ev:=ch G σ.aJ) (objs:=σ.objs) ak;unfold res at h;rw[aK,aY]at h;obtain⟨q,ab,af⟩:=vD h;rw[eE]at ab;simp only[ei]at ab;split at ab
 case h_2=>cases ab
 rename_i e s b z aM au;split at ab
 case h_2=>cases ab
 split at ab
 case h_2=>cases ab
 split at ab
 case isFalse=>cases ab
 cases ab;refine⟨au,?_⟩;rw[<-af];simp[qJ,aj]
def agQ{x y:Oper}{σ:aG}{K:aG->Prop}(ab:∀d,x.dst=some d->d∉y.looksAt all)(af:∀d,x.dst=some d->y.dst≠some d)(aw:∀d,y.dst=some d->d∉x.looksAt all)(JQ:hy x.op=true)(agR:hy y.op=true\/False) (h:da P T G x (λgn=>da P T G y K gn) σ):da P T G y (λfZ=>da P T G x K fZ) σ:=by
 have hY:∀d,y.dst=some d->x.dst≠some d:=λd aA ag=>af d ag aA;have JU:hy y.op=true:=agR.resolve_right id;rw[nB (tU JQ)]at h;unfold jC at h;split at h
 case h_2=>cases h
 rename_i Wm args dE eE;split at h
 case h_2=>cases h
 rename_i f pre post gO;obtain⟨nb,aO,R,bC,bD,cy,⟨jB,rfl⟩,fm,g8⟩:=h;have AQ:da P T G y K (aG.put σ x.dst (.d jB)):=g8 jB rfl;rw[jD ab af]at AQ;refine agM AQ (λaU r he ak=>?_) JU;subst he;rw[jD aw hY,nB (tU JQ)];unfold jC;rw[eE];simp only[gO];refine⟨nb,aO,_,bC,bD,cy,⟨jB,rfl⟩,fm,λr av=>?_⟩;subst av;rw[put_comm af];exact ak
def agS{x y:Oper}{σ:aG}{K:aG->Prop}(ab:∀d,x.dst=some d->d∉y.looksAt all)(af:∀d,x.dst=some d->y.dst≠some d)(aw:∀d,y.dst=some d->d∉x.looksAt all)(JV:Ec T x=true)(agT:hy y.op=true\/jf y.op=true) (h:da P T G x (λgn=>da P T G y K gn) σ):da P T G y (λfZ=>da P T G x K fZ) σ:=by
 have hY:∀d,y.dst=some d->x.dst≠some d:=λd aA ag=>af d ag aA;cases kt:res T G σ x with
 |none=>
  rw[nB kt]at h;have:=xJ h;unfold Ec at JV;split at JV
  .rename_i eE;rw[eE]at this;cases this
  cases JV
 |some p=>
  obtain⟨rx,cz⟩:=p;obtain⟨aL,hu⟩:=agP JV kt;simp only at hu;subst hu;rw[ma kt]at h;have aP:da P T G y K (aG.put ⟨σ.aJ,dC σ.objs [(x.dst.getD 9999,.dead)]⟩ x.dst rx):=h;rw[jD ab af]at aP;have JW:cF.low (dC σ.objs [(x.dst.getD 9999,.dead)]) σ.objs:=by
   intro k o ak aF;simp only[dC]at ak;by_cases e:k=x.dst.getD 9999;.subst e;rw[e1]at ak;cases ak;exact absurd rfl aF
   rwa [cX _ _ e]at ak
  rcases agT with JU|Wv
  case inr=>
   have vI:hy y.op=false:=by cases cf:hy y.op with|false=>rfl|true=>have:=(D4 cf).2.1;rw[Wv]at this;cases this
   have key:∀p,res T G ⟨σ.aJ,dC σ.objs [(x.dst.getD 9999,.dead)]⟩ y=some p->p.2=[]/\res T G σ y=some p:=by
    intro p aT;have he:∀objs d,g7 T (ch G σ.aJ) objs d y.op=none:=λobjs d=>AO Wv;unfold res at aT⊢;cases Ww:eL T (ch G σ.aJ) y.op with
    |some r=>simp only[Ww]at aT⊢;cases aT;exact⟨rfl,rfl⟩
    |none=>
     simp only[Ww]at aT⊢;cases sm:dB T (ch G σ.aJ) (dC σ.objs [(x.dst.getD 9999,.dead)]) y.op with
     |none=>simp only[sm,he]at aT;cases aT
     |some r=>simp only[sm]at aT;cases aT;rw[agO JW sm];exact⟨rfl,rfl⟩
   cases jT:res T G ⟨σ.aJ,dC σ.objs [(x.dst.getD 9999,.dead)]⟩ y with
   |none=>rw[nB jT]at aP;have:=xJ aP;rw[vI]at this;cases this
   |some p=>obtain⟨pY,qO⟩:=p;obtain⟨cB,dx⟩:=key _ jT;simp only at cB;subst cB;rw[ma jT]at aP;rw[ma dx];show da P T G x K (aG.put σ y.dst pY);rw[jD aw hY,ma kt];unfold aG.step;rw[put_comm af];exact aP
  rw[nB (tU JU)]at aP;rw[nB (tU JU)];unfold jC at aP⊢;split at aP
  case h_2=>cases aP
  rename_i Wm args dE eE;split at aP
  case h_2=>cases aP
  rename_i f pre post gO;obtain⟨nb,aO,R,bC,bD,cy,⟨jB,rfl⟩,fm,g8⟩:=aP;simp only[eE,gO];refine⟨nb,aO,_,o1 (λx d ag=>agN JW ag) _ _ bC,bD,cy,⟨jB,rfl⟩,fm,λr av=>?_⟩;subst av;have:=g8 r rfl;rw[jD aw hY,ma kt];unfold aG.step;rw[put_comm af];exact this
def agU{x y:Oper}{σ:aG}{K:aG->Prop}(ab:∀d,x.dst=some d->d∉y.looksAt all)(af:∀d,x.dst=some d->y.dst≠some d)(aw:∀d,y.dst=some d->d∉x.looksAt all)(aT:xM T x y=true) (h:da P T G x (λgn=>da P T G y K gn) σ):da P T G y (λfZ=>da P T G x K fZ) σ:=by
 unfold xM at aT;rw[xbc,xbc]at aT;rcases aT with(aT|aT)|aT
 .exact Wk ab af aw aT h
 .rw[xam]at aT;exact agQ ab af aw aT.1 (.inl aT.2) h
 rw[xam,xbc]at aT;exact agS ab af aw aT.1 aT.2 h
def swapT{x y:Oper}{σ:aG}{K:aG->Prop}(g9:x.apart all y=true)(aT:xM T x y=true)(h:ep P T G all x (λgn=>ep P T G all y K gn) σ):ep P T G all y (λfZ=>ep P T G all x K fZ) σ:=by
 obtain⟨ao,ba,b6⟩:=Oper.apart_spec g9;have mI:∀d,y.dst=some d->x.dst≠some d:=λd aA ag=>ba d ag aA;rw[hE]at h;have Pd:∀(objs:cF)(r:aS),jS all (aG.put ⟨σ.aJ,objs⟩ x.dst r) y=jS all σ y:=λobjs r=>by rw[oc ao];rfl
 have Eb:∀(objs:cF)(r:aS),jS all (aG.put ⟨σ.aJ,objs⟩ y.dst r) x=jS all σ x:=λobjs r=>by rw[oc b6];rfl
 split at h
 .rename_i ag;rw[hE];have bz:da P T G x (λgn=>match jS all σ y with|some true=>da P T G y K gn|some false=>K (gn.put y.dst (.d (.val (.tuple #[]))))|none=>False) σ:=by
   refine vM (λobjs r ak=>?_) h;rw[hE,Pd]at ak;exact ak
  cases xL:jS all σ y with
  |none=>
   simp only[xL]at bz;unfold da at bz;split at bz;.exact bz
   unfold jC at bz;split at bz
   .split at bz;.obtain⟨_,_,_,_,_,_,⟨r,rfl⟩,_,q⟩:=bz;exact q r rfl
    exact bz
   exact bz
  |some b=>
   cases b with
   |false=>
    simp only[xL]at bz;show ep P T G all x K (σ.put y.dst (.d (.val (.tuple #[]))));rw[hE];have:jS all (σ.put y.dst (.d (.val (.tuple #[])))) x=some true:=by rw[oc b6];exact ag
    simp only[this];rw[jD b6 mI];exact bz
   |true=>simp only[xL]at bz;have af:=agU ao ba b6 aT bz;show da P T G y (λfZ=>ep P T G all x K fZ) σ;refine vM (λobjs r ak=>?_) af;rw[hE,Eb,ag];exact ak
 .rename_i ag;rw[hE,oc ao]at h;rw[hE];split at h
  .rename_i aP
   try simp only[aP]
   rw[jD ao ba]at h;refine vM (λobjs r ak=>?_) h;rw[hE,Eb,ag];exact ak
  .rename_i aP
   try simp only[aP]
   show ep P T G all x K (σ.put y.dst (.d (.val (.tuple #[]))));rw[hE,oc b6,ag];show K _;rw[put_comm mI];exact h
  exact h.elim
 exact h.elim
def hR(P:Program)(T:cg)(G:dm)(all:Array Oper)(i:Nat)(K:aG->Prop)(σ:aG):Prop:=match all[i]? with|none=>K σ|some o=>ep P T G all o K σ
def vN{i:Nat}{σ:aG}{K K':aG->Prop}(ak:∀σ,K σ->K' σ)(h:hR P T G all i K σ):hR P T G all i K' σ:=by
 unfold hR at*;split;.rename_i e;simp only[e]at h;exact ak _ h
 rename_i o e;simp only[e]at h;exact Ea ak h
def jg(P:Program)(T:cg)(G:dm)(all:Array Oper)(K:aG->Prop):Nat->Array Bool->aG->Prop
 |0,listed,σ=>Region.ready .any all listed=[]/\K σ|fuel+1,listed,σ=>(Region.ready .any all listed=[]->K σ)/\∀i∈Region.ready .any all listed,hR P T G all i (jg P T G all K fuel (listed.setIfInBounds i true)) σ
def Pe{K:aG->Prop}{i:Nat}{fo:Oper}(ah:all[i]?=some fo){B:List Nat}(gz:∀j c8,j∈B->all[j]?=some c8->∃e∈c8.after,Region.binds .any e=true/\(e.on=i\/e.on∈B)):∀(fuel:Nat)(listed:Array Bool)(σ:aG),(∀j,j∈B->listed.getD j true=false)->(∀j c8,all[j]?=some c8->j≠i->listed.getD j true=false->j∉B->fo.apart all c8=true/\xM T fo c8=true)->i∈Region.ready .any all listed->(¬∃aU,K aU)\/True->hR P T G all i (jg P T G all K fuel (listed.setIfInBounds i true)) σ->jg P T G all K (fuel+1) listed σ:=by
 intro fuel
 induction fuel with
 |zero=>
  intro listed σ qP od av _ H;refine⟨λh=>(by rw[h]at av;cases av),λj aN=>?_⟩;by_cases iZ:j=i;.subst iZ;exact H
  have hm:=ready_mono aN iZ;exfalso;have key:Region.ready .any all (listed.setIfInBounds i true)=[]:=by
   unfold hR at H;simp only[ah]at H;rw[hE]at H;split at H
   .unfold da at H;split at H;.exact H.1
    unfold jC at H;split at H
    .split at H;.obtain⟨_,_,_,_,_,_,⟨r,nC⟩,_,q⟩:=H;exact(q r (by rw[nC])).1
     exact H.elim
    exact H.elim
   .exact H.1
   exact H.elim
  rw[key]at hm;cases hm
 |succ fuel ih=>
  intro listed σ qP od av _ H;refine⟨λh=>(by rw[h]at av;cases av),λj aN=>?_⟩;by_cases iZ:j=i;.subst iZ;exact H
  obtain⟨vO,c8,jh,gl⟩:=xbJ.1 aN;have tL:∀k,listed.getD k true=false->listed[k]?.getD false=true->False:=λk au ab=>by
   rcases Nat.lt_or_ge k listed.size with bz|bz;.simp[bz]at au ab;rw[au]at ab;cases ab
   simp[Array.getElem?_eq_none bz]at ab
  have vP:j∉B:=λEd=>by
   obtain⟨e,he,aj,mJ⟩:=gz j c8 Ed jh;have ab:=gl e he aj;rcases mJ with mJ|mJ
   .rw[mJ]at ab;exact tL i (xbJ.1 av).1 (by simpa using ab)
   exact tL _ (qP _ mJ) (by simpa using ab)
  obtain⟨dz,dh⟩:=od j c8 jh iZ vO vP;have ab:hR P T G all i (λgn=>hR P T G all j (jg P T G all K fuel ((listed.setIfInBounds i true).setIfInBounds j true)) gn) σ:=vN (λgn tW=>tW.2 j (ready_mono aN iZ)) H;have af:hR P T G all j (λfZ=>hR P T G all i (jg P T G all K fuel ((listed.setIfInBounds i true).setIfInBounds j true)) fZ) σ:=by unfold hR at ab⊢;simp only[ah,jh]at ab⊢;exact swapT dz dh ab
  have Ee:∀k ok,all[k]?=some ok->k≠i->(listed.setIfInBounds j true).getD k true=false->k∉B->fo.apart all ok=true/\xM T fo ok=true:=λk ok ak qQ oe ij=>by
   refine od k ok ak qQ ?_ ij;by_cases gm:j=k;.subst gm;exact vO
   rw[getD_set_ne true gm]at oe;exact oe
  refine vN (λfZ aw=>ih (listed.setIfInBounds j true) fZ (λk ak=>by
   have gm:j≠k:=by rintro rfl;exact vP ak
   rw[getD_set_ne true gm];exact qP k ak) Ee (ready_mono av (Ne.symm iZ)) (.inr trivial) ?_) af
  rw[Array.setIfInBounds_comm _ _ iZ];exact aw
def agV{K:aG->Prop}{i:Nat}{fo:Oper}(ah:all[i]?=some fo){B:List Nat}(gz:∀j c8,j∈B->all[j]?=some c8->∃e∈c8.after,Region.binds .any e=true/\(e.on=i\/e.on∈B))(fuel:Nat)(listed:Array Bool)(σ:aG) (au:∀j,j∈B->listed.getD j true=false) (bd:∀j c8,all[j]?=some c8->j≠i->listed.getD j true=false->j∉B->fo.apart all c8=true/\pass fo c8=true) (av:i∈Region.ready .any all listed) (ag:(¬∃aU,K aU)\/True) (h:hR P T G all i (jg P T G all K fuel (listed.setIfInBounds i true)) σ):jg P T G all K (fuel+1) listed σ:=Pe ah gz fuel listed σ au (λj c8 a b c d=>⟨(bd j c8 a b c d).1,by unfold xM;rw[(bd j c8 a b c d).2];rfl⟩) av ag h
def waits(all:Array Oper)(i:Nat):List Nat:=(List.range all.size).foldl (λacc j=>match all[j]? with
  |some c8=>if c8.after.any (λe=>Region.binds .any e&&(e.on==i||acc.contains e.on))then acc++[j]else acc
  |none=>acc) []
def JX(p:Oper->Oper->Bool)(all:Array Oper)(listed:Array Bool)(i:Nat)(B:List Nat):Bool:=match all[i]? with|none=>false|some fo=>(B.all λj=>!listed.getD j true&&match all[j]? with|some c8=>c8.after.any λe=>Region.binds .any e&&(e.on==i||B.contains e.on)|none=>false)&&(List.range all.size).all λj=>j==i||listed.getD j true||B.contains j||match all[j]? with|some c8=>fo.apart all c8&&p fo c8|none=>true
def Wx(all:Array Oper)(listed:Array Bool)(i:Nat)(B:List Nat):Bool:=JX pass all listed i B
def agW(all:Array Oper)(listed:Array Bool)(i:Nat):Bool:=Wx all listed i (waits all i)
def Wy(T:cg)(all:Array Oper)(listed:Array Bool)(i:Nat):Bool:=JX (xM T) all listed i (waits all i)
def Pf{p:Oper->Oper->Bool}{i:Nat}{fo:Oper}{listed:Array Bool}(ah:all[i]?=some fo){B:List Nat}(h:JX p all listed i B=true):(∀j c8,j∈B->all[j]?=some c8->∃e∈c8.after,Region.binds .any e=true/\(e.on=i\/e.on∈B))/\(∀j,j∈B->listed.getD j true=false)/\ ∀j c8,all[j]?=some c8->j≠i->listed.getD j true=false->j∉B->fo.apart all c8=true/\p fo c8=true:=by
 simp only[JX,ah,xam,xay,xbT]at h;refine⟨λj c8 aN jh=>?_,λj aN=>by simpa using(h.1 j aN).1,λj c8 jh cP oe ij=>?_⟩;.have ab:=(h.1 j aN).2;simp only[jh]at ab;obtain⟨e,he,aj⟩:=Array.any_eq_true'.1 ab;simp only[xam,xbc,xbH,List.contains_iff_mem]at aj;exact⟨e,he,aj.1,aj.2⟩
 have ab:=h.2 j (xaS.1 jh).1;simp only[jh,xbc,xbH,cP,false_or,oe,xat,xam,List.contains_iff_mem,ij]at ab;exact ab
def agX{i:Nat}{fo:Oper}{listed:Array Bool}(ah:all[i]?=some fo){B:List Nat}(h:Wx all listed i B=true):(∀j c8,j∈B->all[j]?=some c8->∃e∈c8.after,Region.binds .any e=true/\(e.on=i\/e.on∈B))/\(∀j,j∈B->listed.getD j true=false)/\ ∀j c8,all[j]?=some c8->j≠i->listed.getD j true=false->j∉B->fo.apart all c8=true/\pass fo c8=true:=Pf ah h
def xN(T:cg)(all:Array Oper):List Nat->Array Bool->Bool
 |[],listed=>(Region.ready .any all listed).isEmpty|i::r,listed=>(Region.ready .any all listed).contains i&&Wy T all listed i&&xN T all r (listed.setIfInBounds i true)
def AR(P:Program)(T:cg)(G:dm)(all:Array Oper):List Nat->(aG->Prop)->aG->Prop
 |[],K,σ=>K σ|i::r,K,σ=>match all[i]? with|some o=>ep P T G all o (AR P T G all r K) σ|none=>False
def Wz{K:aG->Prop}:∀(ord:List Nat)(listed:Array Bool)(σ:aG),xN T all ord listed=true->AR P T G all ord K σ->jg P T G all K ord.length listed σ
 |[],listed,σ,gz,h=>⟨by simpa[xN]using gz,h⟩
 |i::r,listed,σ,gz,h=>by
  simp only[xN,xam]at gz;obtain⟨⟨av,bd⟩,tX⟩:=gz;unfold AR at h;split at h
  case h_2=>cases h
  rename_i o ah;obtain⟨bC,bD,cy⟩:=Pf ah bd;refine Pe ah bC r.length listed σ bD cy (by simpa using av) (.inr trivial) ?_;unfold hR;simp only[ah];exact Ea (λaU tW=>Wz r _ aU tX tW) h
def Pg{m:Mem}{fr:fH}{N:Nat}(bf:dM P T){K:aG->Prop}{Q:Exit->Act->World->Prop}(gW:∀o∈all,∀d,o.dst=some d->d<N):∀(fuel:Nat)(listed:Array Bool)(m:Mem)(ρ:df)(σ:aG)(a:Act)(w:World),kn G m->Den m fr ρ σ a w->N<=a.tmps.size->a.defers=[]->jg P T G all K fuel listed σ->(∀cC w',iW N m fr ρ σ K cC w'->Q .normal cC w')->wpAny P .any all Q fuel listed a w
 |0,listed,m,ρ,σ,a,w,c3,h,b3,hx,a6,hh=>⟨a6.1,hh a w ⟨σ,m,ρ,a6.2,Mem.le_refl m,h,b3,hx,kP.refl _ _⟩⟩|fuel+1,listed,m,ρ,σ,a,w,c3,h,b3,hx,a6,hh=>by refine⟨λau=>hh a w ⟨σ,m,ρ,a6.1 au,Mem.le_refl m,h,b3,hx,kP.refl _ _⟩,λi ah=>?_⟩;have ab:=a6.2 i ah;obtain⟨_,o,aF,_⟩:=xbJ.1 ah;unfold hR at ab;simp only[aF]at ab;refine wpOp_mono ?_ (O7 bf c3 h b3 hx aF (gW o (Array.mem_of_getElem? aF)) ab);rintro cC w' ⟨aU,cI,cU,bC,bD,cy,ey,fm,g8⟩;refine Pg (m:=m) bf gW fuel _ cI cU aU cC w' (c3.mono bD) cy ey fm bC ?_;rintro o5 kQ ⟨qR,xO,xP,dz,dh,eK,ji,lh,o6⟩;exact hh o5 kQ ⟨qR,xO,xP,dz,Mem.le_trans bD dh,eK,ji,lh,g8.trans o6⟩
end
def gX(σ τ:aG):Prop:=∀m fr ρ a w,Den m fr ρ σ a w->∃cI cU,m.le cI/\Den cI fr cU τ a w/\kP σ ρ τ cU
def gX.refl(σ:aG):gX σ σ:=λm fr ρ a w h=>⟨m,ρ,Mem.le_refl m,h,kP.refl _ _⟩
def gX.trans{σ τ xQ:aG}(h:gX σ τ)(bz:gX τ xQ):gX σ xQ:=λm fr ρ a w cY=>
 let⟨gA,na,ab,af,aw⟩:=h m fr ρ a w cY
 let⟨ku,lf,a4,b7,cO⟩:=bz gA fr na a w af
 ⟨ku,lf,Mem.le_trans ab a4,b7,aw.trans cO⟩
def hi(P:Program)(T:cg)(G:dm)(N:Nat)(c:Code)(σ:aG)(Q:Exit->aG->Prop):Prop:= ∀m fr ρ a w,kn G m->Den m fr ρ σ a w->N<=a.tmps.size->a.defers=[]->c.wp P (λe cC w'=>iW N m fr ρ σ (Q e) cC w') a w
def JY(K:aG->Prop)(Q:Exit->aG->Prop):Exit->aG->Prop
 | .normal,σ=>K σ|e,σ=>Q e σ
def Ef(id:Nat)(Q:Exit->aG->Prop):Exit->aG->Prop
 | .exit tY,σ=>if tY=id then Q .normal σ else Q (.exit tY) σ
 |e,σ=>Q e σ
section
variable{P:Program}{T:cg}{G:dm}{N:Nat}{σ:aG}{Q:Exit->aG->Prop}
def iW.mono{m:Mem}{fr:fH}{ρ:df}{K K':aG->Prop}(ak:∀σ,K σ->K' σ){a:Act}{w:World}(h:iW N m fr ρ σ K a w):iW N m fr ρ σ K' a w:=
 let⟨aU,cI,cU,ab,af⟩:=h;⟨aU,cI,cU,ak _ ab,af⟩
def AS{c:Code}{WA:Exit->aG->Prop}(h:hi P T G N c σ Q)(bk:∀e σ,Q e σ->WA e σ):hi P T G N c σ WA:=λm fr ρ a w c3 cY b3 aA=>wp_mono (h m fr ρ a w c3 cY b3 aA) λe cC w' av=>av.mono (bk e)
def agY(h:Q .normal σ):hi P T G N .skip σ Q:=λm fr ρ a w c3 cY b3 aA=>wp_skip ⟨σ,m,ρ,h,Mem.le_refl m,cY,b3,aA,kP.refl _ _⟩
def agZ{l:Nat}(h:Q .normal σ):hi P T G N (.label l) σ Q:=λm fr ρ a w c3 cY b3 aA=>wp_label ⟨σ,m,ρ,h,Mem.le_refl m,cY,b3,aA,kP.refl _ _⟩
def ag0{id:Nat}(h:Q (.exit id) σ):hi P T G N (.exit id) σ Q:=λm fr ρ a w c3 cY b3 aA=>wp_exit ⟨σ,m,ρ,h,Mem.le_refl m,cY,b3,aA,kP.refl _ _⟩
def ag1(h:Q .ret σ):hi P T G N .ret σ Q:=λm fr ρ a w c3 cY b3 aA=>wp_ret ⟨σ,m,ρ,h,Mem.le_refl m,cY,b3,aA,kP.refl _ _⟩
def iW.trans{m gA:Mem}{fr:fH}{ρ na:df}{gn:aG}{K:aG->Prop}{a:Act}{w:World}(hm:m.le gA)(ak:kP σ ρ gn na)(h:iW N gA fr na gn K a w):iW N m fr ρ σ K a w:=
 let⟨aU,cI,cU,ab,af,aw,a4,b7,cO⟩:=h;⟨aU,cI,cU,ab,Mem.le_trans hm af,aw,a4,b7,ak.trans cO⟩
def ag2{x y:Code}(h:hi P T G N x σ (JY (λaU=>hi P T G N y aU Q) Q)):hi P T G N (.seq x y) σ Q:=by intro m fr ρ a w c3 cY b3 aA;refine wp_seq (wp_mono (h m fr ρ a w c3 cY b3 aA) ?_);rintro e cC w' ⟨aU,cI,cU,ab,af,aw,a4,b7,cO⟩;cases e with|normal=>exact wp_mono (ab cI fr cU cC w' (c3.mono af) aw a4 b7) λe o5 kQ av=>av.trans af cO|exit id=>exact⟨aU,cI,cU,ab,af,aw,a4,b7,cO⟩|goto l=>exact⟨aU,cI,cU,ab,af,aw,a4,b7,cO⟩|ret=>exact⟨aU,cI,cU,ab,af,aw,a4,b7,cO⟩|panic c=>exact⟨aU,cI,cU,ab,af,aw,a4,b7,cO⟩|outgrown=>exact⟨aU,cI,cU,ab,af,aw,a4,b7,cO⟩
def ag3(Q:Exit->aG->Prop):Exit->aG->Prop
 | .goto _,_=>False|e,σ=>Q e σ
def ag4{c:Code}(h:hi P T G N c σ (ag3 Q)):hi P T G N (.scope c) σ Q:=by intro m fr ρ a w c3 cY b3 aA;refine wp_scope_straight (wp_mono (h m fr ρ a w c3 cY b3 aA) ?_);rintro e cC w' ⟨aU,cI,cU,ab,af,aw,a4,b7,cO⟩;cases e with|goto l=>exact ab.elim|normal=>exact⟨aU,cI,cU,ab,af,aw,a4,b7,cO⟩|exit id=>exact⟨aU,cI,cU,ab,af,aw,a4,b7,cO⟩|ret=>exact⟨aU,cI,cU,ab,af,aw,a4,b7,cO⟩|panic c=>exact⟨aU,cI,cU,ab,af,aw,a4,b7,cO⟩|outgrown=>exact⟨aU,cI,cU,ab,af,aw,a4,b7,cO⟩
def JZ{c:Operand}{x y:Code}{b:Bool}(an:ch G σ.aJ c= .d (.val (.bool b)))(h:if b=true then hi P T G N x σ Q else hi P T G N y σ Q):hi P T G N (.cond c x y) σ Q:=by
 intro m fr ρ a w c3 cY b3 aA;have a6:=DJ (a:=a) c3 cY.aJ c;rw[an]at a6;refine wp_cond a6.hQ ?_;cases b
 .exact h m fr ρ a w c3 cY b3 aA
 exact h m fr ρ a w c3 cY b3 aA
def ag5{id:Nat}{c:Code}(h:hi P T G N c σ (Ef id Q)):hi P T G N (.block id c) σ Q:=by
 intro m fr ρ a w c3 cY b3 aA;refine wp_block (wp_mono (h m fr ρ a w c3 cY b3 aA) ?_);intro e cC w' av;cases e with
 |exit tY=>
  simp only[Exit.inBlock];by_cases ah:tY=id;.rw[xad ah];exact av.mono λσ bk=>by simp only[Ef,ah,xaD]at bk;exact bk
  rw[xab ah];exact av.mono λσ bk=>by simp only[Ef,ah,xaG]at bk;exact bk
 |normal=>exact av|goto l=>exact av|ret=>exact av|panic c=>exact av|outgrown=>exact av
def Ph{τ:aG}{c:Code}(he:gX σ τ)(h:hi P T G N c τ Q):hi P T G N c σ Q:=by intro m fr ρ a w c3 cY b3 aA;obtain⟨cI,cU,ab,af,aw⟩:=he m fr ρ a w cY;exact wp_mono (h cI fr cU a w (c3.mono ab) af b3 aA) λe cC w' av=>av.trans ab aw
def vQ(N:Nat)(ops:Array Oper):Bool:=ops.toList.all λo=>match o.dst with|some d=>decide (d<N)|none=>true
def vR{ops:Array Oper}(h:vQ N ops=true):∀o∈ops,∀d,o.dst=some d->d<N:=by intro o aF d aA;have:=xay.1 h o (by simpa using aF);simp only[aA]at this;simpa using this
theorem Den.drew{m:Mem}{fr:fH}{ρ:df}{a:Act}{w:World}(h:Den m fr ρ σ a w)(n:Nat):Den m fr ρ σ a {w with drawn:=n}:=by refine⟨h.mem,⟨h.frame.pR,h.frame.quiet.same rfl rfl rfl⟩,h.apart,h.one,h.aJ,?_,h.own,h.sep⟩;intro k o ak;exact(h.objs k o ak).mono (Mem.le_refl m) (λ_ hu=>⟨hu,rfl⟩) (λb _ _=>rfl)
def ag6(bf:dM P T)(hm:P.follows .mixedOrders=true){id:Nat}{ops:Array Oper}(b3:vQ N ops=true)(ord:List Nat)(b5:ord.length=ops.size)(AT:xN T ops ord (Array.replicate ops.size false)=true) (h:AR P T G ops ord (Q .normal) σ):hi P T G N (.region id ops true) σ Q:=by intro m fr ρ a w c3 cY nD aA;refine wp_region_any hm ?_;have ab:=Wz ord (Array.replicate ops.size false) σ AT h;rw[b5]at ab;exact Pg (m:=m) (fr:=fr) (N:=N) (Q:=λe cC w'=>iW N m fr ρ σ (Q e) cC w') bf (vR b3) ops.size _ m ρ σ a _ c3 (cY.drew _) nD aA ab (λcC w' av=>av)
def ag7{ι:Type}{c:Code}{Q:Exit->Act->World->Prop}{a:Act}{w:World}(eO:ι->Act->World->Prop)(vS:ι->Nat)(i0:ι)(ag8:eO i0 a w) (round:∀i a w,eO i a w->c.wp P (Exit.then (λcC w'=>∃j,eO j cC w'/\vS j<vS i) Q) a w):(Code.loop c).wp P Q a w:=by
 intro b k cs;have key:∀n i a w,vS i=n->eO i a w->∃e cC w',Q e cC w'/\Arrives P (lone (b.at a (.code c:: .inLoop c::k)) cs w) b k cs e cC w':=by
  intro n
  induction n using Nat.strongRecOn with
  |_ n ih=>
   intro i a w aL iA;obtain⟨e,AU,AV,bk,vT⟩:=round i a w iA b (.inLoop c::k) cs;cases e with
   |normal=>obtain⟨j,ag9,cr⟩:=bk;obtain⟨aha,ahb,ahc,ahd,ahe⟩:=ih (vS j) (aL▸cr) j AU AV rfl ag9;exact⟨aha,ahb,ahc,ahd,.of_steps (Steps.trans vT (.one step_inLoop)) ahe⟩
   |exit id=>exact⟨_,AU,AV,bk,.pass (x:= .inLoop c) rfl (λ_ _=> .inl (by simp)) vT⟩|goto l=>exact⟨_,AU,AV,bk,.pass (x:= .inLoop c) rfl (λ_ _=> .inl (by simp)) vT⟩|ret=>exact⟨_,AU,AV,bk,.pass (x:= .inLoop c) rfl (λ_ _=> .inl (by simp)) vT⟩|panic ayZ=>exact⟨_,AU,AV,bk,.pass (x:= .inLoop c) rfl (λ_ _=> .inl (by simp)) vT⟩|outgrown=>exact⟨_,AU,AV,bk,.pass (x:= .inLoop c) rfl (λ_ _=> .inl (by simp)) vT⟩
 obtain⟨e,cC,w',bk,vT⟩:=key _ i0 a w rfl ag8;exact⟨e,cC,w',bk,.of_steps (.one step_loop) vT⟩
def ahf{ι:Type}{c:Code}(eO:ι->aG)(vS:ι->Nat)(i0:ι)(au:gX σ (eO i0)) (round:∀i,hi P T G N c (eO i) (JY (λaU=>∃j,gX aU (eO j)/\vS j<vS i) Q)):hi P T G N (.loop c) σ Q:=by
 intro m fr ρ a w c3 cY b3 aA;refine ag7 (λi a w=>∃gA na,m.le gA/\Den gA fr na (eO i) a w/\N<=a.tmps.size/\a.defers=[]/\kP σ ρ (eO i) na) vS i0 ?_ ?_;.obtain⟨cI,cU,ab,af,aw⟩:=au m fr ρ a w cY;exact⟨cI,cU,ab,af,b3,aA,aw⟩
 rintro i ao ga ⟨gA,na,aV,a2,bc,cV,hS⟩;refine wp_mono (round i gA fr na ao ga (c3.mono aV) a2 bc cV) ?_;intro e cC w' av;have nC:=av.trans aV hS;cases e with
 |normal=>obtain⟨aU,cI,cU,⟨j,aN,cr⟩,af,aw,a4,b7,cO⟩:=nC;obtain⟨ku,lf,bC,bD,cy⟩:=aN cI fr cU cC w' aw;exact⟨j,⟨ku,lf,Mem.le_trans af bC,bD,a4,b7,cO.trans cy⟩,cr⟩
 |exit id=>exact nC|goto l=>exact nC|ret=>exact nC|panic c=>exact nC|outgrown=>exact nC
def xR(T:cg)(σ:aG):ResultVar->Option aS
 | .tmp t=>some (σ.aJ t)
 | .cell a t=>match T t,σ.aJ a with
  |some i,.ptr k off=>match σ.objs k with|some (.box cells)=>vt i cells off|_=>none
  |_,_=>none
def qS(T:cg)(σ:aG)(rs:List ResultVar):Option aS:=match hv (rs.map (xR T σ))with|some [x]=>some x|some l=>some (.a1 l)|none=>none
def ahg(bf:dM P T){m:Mem}{fr:fH}{ρ:df}{a:Act}{w:World}(h:Den m fr ρ σ a w){Eg:ResultVar}{x:aS}(ag:xR T σ Eg=some x): ∃v,((match Eg with| .tmp t=>pure (a.tmps.getD t undef)| .cell iy t=>do loadVar t (<-asAddr (a.tmps.getD iy undef)):Sem Value)).run P w= .ok v w/\b4 m ρ σ.used x v:=by
 cases Eg with
 |tmp t=>simp only[xR,xaM]at ag;subst ag;exact⟨_,rfl,h.aJ t⟩
 |cell iy t=>
  simp only[xR]at ag;split at ag
  case h_2=>cases ag
  rename_i i k off aM aH;split at ag
  case h_2=>cases ag
  rename_i cells ak;have aI:=h.aJ iy;rw[aH]at aI;generalize xx:a.tmps.getD iy undef=u at aI;cases aI with|ptr _ _ b hu av=>
  obtain⟨b',vs,dP,aK,aY,bN,cN⟩:=h.objs _ _ ak;rw[av]at aK;cases aK;obtain⟨v,eJ,dX⟩:=Vy (P:=P) bf aM aY ⟨bN,cN⟩ ag;exact⟨v,by simp only[xx,asAddr,xag,xau,xaf,eJ],dX⟩
def WB(bf:dM P T){m:Mem}{fr:fH}{ρ:df}{a:Act}{w:World}(h:Den m fr ρ σ a w):∀(rs:List ResultVar)(xs:List aS),hv (rs.map (xR T σ))=some xs-> ∃vs:List Value,(rs.mapM λ
   | .tmp t=>pure (a.tmps.getD t undef)| .cell iy t=>do loadVar t (<-asAddr (a.tmps.getD iy undef)):Sem (List Value)).run P w= .ok vs w/\vs.length=xs.length/\∀(i:Nat)(x:aS)(v:Value),xs[i]?=some x->vs[i]?=some v->b4 m ρ σ.used x v
 |[],xs,ag=>by simp[hv]at ag;subst ag;exact⟨[],by simp,rfl,by simp⟩
 |Eg::rs,xs,ag=>by
  simp only[xaz]at ag;cases ab:xR T σ Eg with
  |none=>simp[ab,hv]at ag
  |some x=>
   rw[ab]at ag;simp only[hv]at ag;split at ag
   case h_2=>cases ag
   rename_i l aq;cases ag;obtain⟨v,eJ,dX⟩:=ahg (P:=P) bf h ab;obtain⟨vs,ja,J0,ahh⟩:=WB bf h rs l aq;refine⟨v::vs,?_,by simp[J0],?_⟩;.simp only[List.mapM_cons,xag,eJ,ja,xaf,xau]
   intro i y u aP hu;cases i with|zero=>simp at aP hu;subst aP;subst hu;exact dX|succ i=>exact ahh i y u (by simpa using aP) (by simpa using hu)
def WC(bf:dM P T){m:Mem}{fr:fH}{ρ:df}{a:Act}{w:World}(h:Den m fr ρ σ a w){fn:Func}{x:aS}(ag:qS T σ fn.results.toList=some x): ∃v,(results fn a.tmps).run P w= .ok v w/\b4 m ρ σ.used x v:=by
 unfold qS at ag;cases aq:hv (fn.results.toList.map (xR T σ))with
 |none=>simp[aq]at ag
 |some xs=>
  obtain⟨vs,eJ,dX,ja⟩:=WB (P:=P) bf h fn.results.toList xs aq;have hP:((fn.results.mapM λ
   | .tmp t=>pure (a.tmps.getD t undef)| .cell iy t=>do loadVar t (<-asAddr (a.tmps.getD iy undef)):Sem (Array Value))).run P w= .ok vs.toArray w:=by
   rw[Array.mapM_eq_mapM_toList,Sem.run_map,eJ];rfl
  have AW:(results fn a.tmps).run P w= .ok (if h:vs.toArray.size=1 then vs.toArray[0]else .tuple vs.toArray) w:=by unfold results;rw[xag];exact(congrArg (λr=>Result.andThen r _) hP).trans rfl
  rw[AW];rw[aq]at ag;split at ag
  .rename_i y he;cases ag;cases he
   match vs,dX,ja with|[v],_,ja=>exact⟨v,by simp,ja 0 _ _ rfl rfl⟩
  .rename_i l cP he;cases ag;cases he;have gE:vs.toArray.size≠1:=by
    intro ab;have:xs.length=1:=by rw[<-dX];simpa using ab
    obtain⟨y,aP⟩:=List.length_eq_one_iff.1 this;exact cP y aP
   refine⟨.tuple vs.toArray,?_,.a1 _ _ (by simpa using dX) (λi c v an a6=>ja i c v an (by simpa using a6))⟩;rw[dif_neg gE]
  cases ag
def start(args:List aS)(E:cF):aG:=⟨λt=>args.getD t .any,E⟩
def ahi(bf:dM P T){f:FuncId}{fn:Func}{c:Code}{aO:List D}{R:D->Prop}(bd:P.funcs[f]?=some fn)(aj:fn.body=some c)(J1:(fn.name== "runtime.NumGoroutine")=false)(b5:aO.length<=fn.ntmps) (h:hi P T G fn.ntmps c (start (aO.map .d) λ_=>none) λe aU=>(e= .normal\/e= .ret)/\∃r d x,qS T aU fn.results.toList=some r/\toD aU.objs r=some d/\d.le x/\R x):ez P G f aO R:=by
 refine⟨⟨fn,bd,J1,by rw[aj];rfl⟩,?_⟩;intro m fr w vs c3 dU cY;refine calls_of_wp bd aj ?_;have Eh:Den m fr (λ_=>undef) (start (aO.map .d) λ_=>none) {tmps:=vs.toArray++Array.replicate (fn.ntmps-vs.toArray.size) undef,defers:=[]} w:=by
  refine⟨dU.mem,dU.frame,dU.apart,?_,?_,?_,?_,?_⟩;.rintro k ⟨o,aF⟩;cases aF
  .intro t;simp only[start];by_cases aM:t<vs.length
   .have cr:t<aO.length:=by rw[<-cY.1];exact aM
    have aA:=xaa cr;have a6:=xaa aM;have aK:(aO.map aS.d).getD t .any= .d aO[t]:=by rw[xaQ,xaj,aA];rfl
    have aY:(vs.toArray++Array.replicate (fn.ntmps-vs.toArray.size) undef).getD t undef=vs[t]:=by rw[xbt,xbI (by simpa using aM)];simp[aM]
    rw[aK,aY];exact .d _ _ (cY.2 t _ _ aA a6)
   have aK:(aO.map aS.d).getD t .any= .any:=by rw[xaQ,xbl (by simp;rw[<-cY.1];omega)];rfl
   rw[aK];exact .any _
  .intro k o ak;cases ak
  .intro k o b ak;cases ak
  intro k bs o o' b _ ak;cases ak
 have gE:fn.ntmps<=(vs.toArray++Array.replicate (fn.ntmps-vs.toArray.size) undef).size:=by simp;omega
 refine wp_mono (h m fr _ _ w c3 Eh gE rfl) ?_;rintro e cC w' ⟨aU,cI,cU,⟨he,r,d,x,ab,af,aw,a4⟩,b7,cO,gp,hT,jE⟩;obtain⟨v,bC,bD⟩:=WC (P:=P) bf cO ab;have cy:=aw _ _ (V3 cO bD af);have fin:cC.defers=[]/\∃v,(results fn cC.tmps).run P w'= .ok v w'/\∃v1 gA eJ,Ending.returned v= .returned v1/\R eJ/\m.le gA/\sh gA fr w'/\dv gA eJ v1:=⟨hT,v,bC,v,Den.all cI cU aU.objs w',x,rfl,a4,Mem.le_trans b7 (Den.AJ _ _ _ _),cO.V0,cy⟩;rcases he with rfl|rfl
 .exact fin
 exact fin
end
def Ei:List aS->Option (List D)
 |[]=>some []| .d x::r=>(Ei r).map (x::·)|_=>none
def J2:aS->Option D
 | .d x=>some x| .agg cs=>(Ei cs).map .agg| .a1 cs=>(Ei cs).map .a1|_=>none
def WD:∀{cs:List aS}{aO:List D},Ei cs=some aO->cs=aO.map .d
 |[],aO,h=>by cases h;rfl
 | .d x::r,aO,h=>by obtain⟨l,aq,rfl⟩:=xah.1 h;rw[WD aq];rfl
 | .any::_,_,h=>by cases h
 | .agg _::_,_,h=>by cases h
 | .a1 _::_,_,h=>by cases h
 | .eo _ _::_,_,h=>by cases h
 | .ptr _ _::_,_,h=>by cases h
 | .gk _ _ _ _::_,_,h=>by cases h
 | .row _::_,_,h=>by cases h
 | .sub _ _ _ _::_,_,h=>by cases h
 | .map _::_,_,h=>by cases h
 | .fn _ _ _::_,_,h=>by cases h
def ahj{m:Mem}{ρ:df}{U:Key->Prop}{x:aS}{a:D}{v:Value}(h:J2 x=some a)(ag:b4 m ρ U x v):dv m a v:=by
 have part:∀{cs:List aS}{aO:List D}{vs:Array Value},Ei cs=some aO->vs.size=cs.length->(∀(i:Nat)(c:aS)(v:Value),cs[i]?=some c->vs[i]?=some v->b4 m ρ U c v)->vs.size=aO.length/\∀(i:Nat)(c:D)(v:Value),aO[i]?=some c->vs[i]?=some v->dv m c v:=by intro cs aO vs aA aq an;have e:=WD aA;subst e;refine⟨by simpa using aq,λi c v ab af=>?_⟩;have:=an i (.d c) v (by simp[ab]) af;cases this with|d _ _ h=>exact h
 unfold J2 at h;split at h;.cases h;cases ag with|d _ _ h=>exact h
 .obtain⟨aO,aA,rfl⟩:=xah.1 h;cases ag with|agg _ vs aq an=>exact .agg _ _ (part aA aq an).1 (part aA aq an).2
 .obtain⟨aO,aA,rfl⟩:=xah.1 h;cases ag with|a1 _ vs aq an=>exact .a1 _ _ (part aA aq an).1 (part aA aq an).2
 cases h
def o7(ck:Key->Key)(U:Key->Prop)(x y:aS):Prop:=match y with| .any=>True| .d b=>∃a,J2 x=some a/\a.le b| .eo cs off=>x= .eo cs off\/x= .d (.ref cs off)| .ptr k off=>x= .ptr (ck k) off/\U k| .gk k cR i off=>x= .gk (ck k) cR i off/\U k| .row k=>x= .row (ck k)/\U k| .sub k cR i len=>x= .sub (ck k) cR i len/\U k| .map k=>x= .map (ck k)/\U k|_=>False
def jF(ck:Key->Key)(U:Key->Prop):List aS->List aS->Prop
 |[],[]=>True|x::xs,y::dj=>o7 ck U x y/\jF ck U xs dj|_,_=>False
def tZ(ck:Key->Key)(U:Key->Prop)(x y:aS):Prop:=match y with
 | .agg dj=>match x with| .agg xs=>jF ck U xs dj| .d (.agg aO)=>jF ck U (aO.map .d) dj|_=>False
 | .a1 dj=>match x with| .a1 xs=>jF ck U xs dj|_=>False
 | .fn f as j7=>match x with| .fn kr ahk ahl=>f=kr/\jF ck U ahk as/\jF ck U ahl j7|_=>False
 |y=>o7 ck U x y
def sn(ck:Key->Key)(U:Key->Prop):List aS->List aS->Prop
 |[],[]=>True|x::xs,y::dj=>tZ ck U x y/\sn ck U xs dj|_,_=>False
section
variable{m:Mem}{ρ:df}{p0 U:Key->Prop}{ck:Key->Key}
def o7.ok{x y:aS}(h:o7 ck U x y){v:Value}(ag:b4 m ρ p0 x v):b4 m (λk=>ρ (ck k)) U y v:=by
 unfold o7 at h;split at h;.exact .any _
 .obtain⟨a,aI,hle⟩:=h;exact .d _ _ (hle _ _ (ahj aI ag))
 .rcases h with rfl|rfl;.cases ag with|eo _ _ b o vs T eD hm xs ab af=>exact .eo _ _ b o vs T eD hm xs ab af
  cases ag.n8 with|ref _ _ b o vs T eD hm xs ab af=>exact .eo _ _ b o vs T eD hm xs ab af
 .obtain⟨rfl,hu⟩:=h;cases ag with|ptr _ _ b _ av=>exact .ptr _ _ b hu av
 .obtain⟨rfl,hu⟩:=h;cases ag with|gk _ _ _ _ b o len cap _ av=>exact .gk _ _ _ _ b o len cap hu av
 .obtain⟨rfl,hu⟩:=h;cases ag;exact .row (ρ:=λk=>ρ (ck k)) _ hu
 .obtain⟨rfl,hu⟩:=h;cases ag with|sub _ _ _ _ b o L cap a _ av hle aI=>exact .sub _ _ _ _ b o L cap a hu av hle aI|km _ _ _ _ av=>exact .km _ _ _ hu av
 .obtain⟨rfl,hu⟩:=h;cases ag;exact .map (ρ:=λk=>ρ (ck k)) _ hu
 cases h
def jF.ok:∀{xs dj:List aS},jF ck U xs dj->dj.length=xs.length/\∀(i:Nat)(y:aS),dj[i]?=some y->∃x,xs[i]?=some x/\o7 ck U x y
 |[],[],_=>⟨rfl,by simp⟩|x::xs,y::dj,h=>by have ih:=jF.ok h.2;refine⟨by simp[ih.1],?_⟩;intro i z bx;cases i with|zero=>simp at bx;subst bx;exact⟨x,rfl,h.1⟩|succ i=>simp at bx;obtain⟨w,ab,af⟩:=ih.2 i z bx;exact⟨w,by simpa using ab,af⟩
 |[],y::dj,h=>h.elim|x::xs,[],h=>h.elim
def jF.cells{xs dj:List aS}{vs:Array Value}(h:jF ck U xs dj)(ag:l4 m ρ p0 xs vs):l4 m (λk=>ρ (ck k)) U dj vs:=by obtain⟨ab,af⟩:=h.ok;refine⟨by rw[ag.1,ab],?_⟩;intro i y v aP a6;obtain⟨x,aw,a4⟩:=af i y aP;exact a4.ok (ag.2 i x v aw a6)
def tZ.ok{x y:aS}(h:tZ ck U x y){v:Value}(ag:b4 m ρ p0 x v):b4 m (λk=>ρ (ck k)) U y v:=by
 unfold tZ at h;split at h
 .rename_i dj;split at h;.rename_i xs;obtain⟨vs,rfl,an⟩:=ag.Vt;have:=jF.cells h an;exact .agg _ _ this.1 this.2
  .rename_i aO;obtain⟨vs,rfl,aq,an⟩:=ag.Vs;have au:l4 m ρ p0 (aO.map .d) vs:=⟨by simpa using aq,by
    intro i c v dT a6;simp only[xaj,xah]at dT;obtain⟨z,bx,rfl⟩:=dT;exact .d _ _ (an i z v bx a6)⟩
   have:=jF.cells h au;exact .agg _ _ this.1 this.2
  cases h
 .split at h;.obtain⟨vs,rfl,an⟩:=ag.Vu;have:=jF.cells h an;exact .a1 _ _ this.1 this.2
  cases h
 .split at h
  .obtain⟨rfl,ab,af⟩:=h;cases ag with|fn _ _ _ vs ws aq ds g lg=>
   have a:=jF.cells (U:=U) ab ⟨aq,g⟩;have b:=jF.cells (U:=U) af ⟨ds,lg⟩;exact .fn _ _ _ vs ws a.1 b.1 a.2 b.2
  cases h
 exact h.ok ag
end
def sn.ok{ck:Key->Key}{U:Key->Prop}:∀{xs dj:List aS},sn ck U xs dj->dj.length=xs.length/\∀(i:Nat)(y:aS),dj[i]?=some y->∃x,xs[i]?=some x/\tZ ck U x y
 |[],[],_=>⟨rfl,by simp⟩|x::xs,y::dj,h=>by have ih:=sn.ok h.2;refine⟨by simp[ih.1],?_⟩;intro i z bx;cases i with|zero=>simp at bx;subst bx;exact⟨x,rfl,h.1⟩|succ i=>simpa using ih.2 i z (by simpa using bx)
 |[],y::dj,h=>h.elim|x::xs,[],h=>h.elim
def sn.cells{m:Mem}{ρ:df}{p0 U:Key->Prop}{ck:Key->Key}{xs dj:List aS}{vs:Array Value}(h:sn ck U xs dj)(ag:l4 m ρ p0 xs vs):l4 m (λk=>ρ (ck k)) U dj vs:=by obtain⟨ab,af⟩:=h.ok;refine⟨by rw[ag.1,ab],?_⟩;intro i y v aP a6;obtain⟨x,aw,a4⟩:=af i y aP;exact a4.ok (ag.2 i x v aw a6)
def Pj(es dg:List (List D)):Prop:=es=dg\/(es.length=dg.length/\∀(i:Nat)(x y:List D),es[i]?=some x->dg[i]?=some y->x.length=y.length/\y.all D.one=true/\∀(j:Nat)(a b:D),x[j]?=some a->y[j]?=some b->a.le b)
def xS(ck:Key->Key)(U:Key->Prop)(x y:cS):Prop:=match y with| .dead=>True| .box dj=>∃xs,x= .box xs/\sn ck U xs dj| .row k dg=>∃es,x= .row k es/\Pj es dg| .map es=>x= .map es
def Pj.ok{m:Mem}{ρ cU:df}{U m6:Key->Prop}{k:Nat}{es dg:List (List D)}(h:Pj es dg){v:Value}{w:World}(ag:ju m ρ U v w (.row k es)):ju m cU m6 v w (.row k dg):=by
 rcases h with rfl|⟨aq,h⟩;.exact ag
 rcases ag with⟨aK,rfl⟩|⟨b,o,cap,vs,T,aK,aY,bN,cN,eb,fB⟩;.exact .inl ⟨aK,xaJ (by rw[<-aq];rfl)⟩
 have key:∀(i:Nat)(y:List D),dg[i]?=some y->∃x,es[i]?=some x/\x.length=y.length/\y.all D.one=true/\∀(j:Nat)(a b:D),x[j]?=some a->y[j]?=some b->a.le b:=by
  intro i y aP;have ah:i<es.length:=by rw[aq];exact(xae.1 aP).1
  exact⟨_,xaa ah,h i _ y (xaa ah) aP⟩
 refine .inr ⟨b,o,cap,vs,T,by rw[<-aq];exact aK,aY,by omega,cN,?_,?_⟩;.intro y aP;obtain⟨i,ah⟩:=xaT.1 aP;obtain⟨x,ab,af,aw,_⟩:=key i y ah;exact⟨by rw[<-af];exact(eb x (xac ab)).1,aw⟩
 intro i y j c ah aN;obtain⟨x,ab,af,_,aw⟩:=key i y ah;have WE:j<x.length:=by rw[af];exact(xae.1 aN).1
 obtain⟨z,aV,a2⟩:=fB i x j _ ab (xaa WE);exact⟨z,aV,aw j _ c (xaa WE) aN _ _ a2⟩
def J3:List (Nat×aS)->Nat->aS
 |[],_=> .any|(j,v)::r,t=>if t=j then v else J3 r t
def fx:List (Key×cS)->Key->Option cS
 |[],_=>none|(j,o)::r,k=>if k=j then some o else fx r k
def WG(ls:List (Nat×aS))(lo:List (Key×cS)):aG:=⟨J3 ls,fx lo⟩
def AX(ck:Key->Key)(U:Key->Prop)(σ:aG):List (Nat×aS)->Prop
 |[]=>True|(t,v)::r=>tZ ck U (σ.aJ t) v/\AX ck U σ r
def xT(ck:Key->Key)(U:Key->Prop)(σ:aG):List (Key×cS)->Prop
 |[]=>True|(k,o)::r=>(∃o',σ.objs (ck k)=some o'/\xS ck U o' o)/\xT ck U σ r
def AX.ok{ck:Key->Key}{U:Key->Prop}{σ:aG}:∀{ls:List (Nat×aS)},AX ck U σ ls->∀t,tZ ck U (σ.aJ t) (J3 ls t)
 |[],_,t=>trivial
 |(j,v)::r,h,t=>by
  unfold J3;split;.rename_i e;subst e;exact h.1
  exact AX.ok h.2 t
def xT.ok{ck:Key->Key}{U:Key->Prop}{σ:aG}:∀{lo:List (Key×cS)},xT ck U σ lo->∀k o,fx lo k=some o->∃o',σ.objs (ck k)=some o'/\xS ck U o' o
 |[],_,k,o,h=>by cases h
 |(j,x)::r,h,k,o,ak=>by
  unfold fx at ak;split at ak;.rename_i e;subst e;cases ak;exact h.1
  exact xT.ok h.2 k o ak
def gb:List (Key×Key)->Key->Key
 |[],k=>k|(a,b)::r,k=>if k=a then b else gb r k
def mc(lo:List (Key×cS)):List Key:=lo.map (·.1)
def xU(ck:Key->Key):List Key->Bool
 |[]=>true|k::r=>r.all (λj=>k==j||!(ck k==ck j))&&xU ck r
def J4{ck:Key->Key}:∀{l:List Key},xU ck l=true->∀k j,k∈l->j∈l->ck k=ck j->k=j
 |[],_,k,j,h,_,_=>by cases h
 |x::r,h,k,j,ak,aN,he=>by
  simp only[xU,xam,xay]at h;rcases xak.1 ak with rfl|fK
  .rcases xak.1 aN with rfl|qF;.rfl
   have:=h.1 j qF;simp at this;rcases this with ab|ab
   .exact ab
   exact absurd he ab
  rcases xak.1 aN with rfl|qF
  .have:=h.1 k fK;simp at this;rcases this with ab|ab
   .exact ab.symm
   exact absurd he.symm ab
  exact J4 h.2 k j fK qF he
def vU:∀{lo:List (Key×cS)} {k:Key} {o:cS},fx lo k=some o->k∈mc lo
 |[],k,o,h=>by cases h
 |(j,x)::r,k,o,h=>by
  unfold fx at h;split at h;.rename_i e;subst e;simp[mc]
  have:=vU h;simp only[mc,xaz,xak]at this⊢;exact .inr this
def ahm{σ:aG}{ls:List (Nat×aS)}{lo:List (Key×cS)}(l:List (Key×Key))(av:xU (gb l) (mc lo)=true) (aH:AX (gb l) (λk=>∃o,fx lo k=some o) σ ls) (aF:xT (gb l) (λk=>∃o,fx lo k=some o) σ lo) (ak:∀k,10000<=k->eN (σ.objs k)->eN (fx lo k)/\gb l k=k):gX σ (WG ls lo):=by
 intro m fr ρ a w h;have jx:∀{o o':cS},xS (gb l) (λk=>∃o,fx lo k=some o) o' o->o.owns=true->o'.owns=true:=by
  intro o o' hle aF;cases o with
  |dead=>cases aF
  |box=>obtain⟨xs,rfl,_⟩:=hle;rfl
  |row=>obtain⟨es,rfl,_⟩:=hle;rfl
  |map=>cases hle;rfl
 refine⟨m,λk=>ρ (gb l k),Mem.le_refl m,⟨h.mem,h.frame,h.apart,?_,?_,?_,?_,?_⟩,λk fK aj=>⟨(ak k fK aj).1,by show ρ (gb l k)=ρ k;rw[(ak k fK aj).2]⟩⟩;.rintro k ⟨o,me⟩;obtain⟨o',ab,_⟩:=aF.ok k o me;exact h.one _ ⟨o',ab⟩
 .intro t;exact(aH.ok t).ok (h.aJ t)
 .intro k o me;obtain⟨o',ab,af⟩:=aF.ok k o me;have aw:=h.objs _ _ ab;cases o with
  |dead=>trivial|box dj=>obtain⟨xs,rfl,hle⟩:=af;obtain⟨b,vs,T,aK,aY,bN,cN⟩:=aw;have:=sn.cells hle ⟨bN,cN⟩;exact⟨b,vs,T,aK,aY,this.1,this.2⟩
  |row cR dg=>obtain⟨es,rfl,hle⟩:=af;exact hle.ok aw
  |map es=>cases af;exact aw
 .intro k o b me J5 aj;obtain⟨o',ab,af⟩:=aF.ok k o me;exact h.own _ o' b ab (jx af J5) aj
 intro k bs o o' b cP me Ej Pk Pl aj;obtain⟨x,ab,af⟩:=aF.ok k o me;obtain⟨lE,eS,hY⟩:=aF.ok bs o' Ej;exact h.sep (gb l k) (gb l bs) x lE b (λe=>cP (J4 av k bs (vU me) (vU Ej) e)) ab eS (jx af Pk) (jx hY Pl) aj
def AY(P:Program):Nat->List Field->Option (List TypeDesc)
 |_,[]=>some []|off,f::dg=>if f.name≠ "_" /\f.offset=off then(match P.underlying f.type with|some .bool=>(AY P (off+1) dg).map (.bool::·)|some (.int k)=>(AY P (off+1) dg).map (.int k::·)|some .string=>(AY P (off+1) dg).map (.string::·)|_=>none)else none
def J6{P:Program}:∀{dg:List Field}{off:Nat}{l:List TypeDesc},AY P off dg=some l->Ja P off dg l
 |[],_,l,h=>by cases h;trivial
 |f::dg,off,l,h=>by
  unfold AY at h;split at h
  case isFalse=>cases h
  rename_i ab;split at h;.rename_i hu;obtain⟨r,av,rfl⟩:=xah.1 h;exact⟨ab.1,ab.2,hu,rfl,J6 av⟩
  .rename_i hu;obtain⟨r,av,rfl⟩:=xah.1 h;exact⟨ab.1,ab.2,hu,rfl,J6 av⟩
  .rename_i hu;obtain⟨r,av,rfl⟩:=xah.1 h;exact⟨ab.1,ab.2,hu,rfl,J6 av⟩
  cases h
def Pm(P:Program)(t:TypeId):Option (List TypeDesc):=match P.underlying t with
 |some (.struct dg)=>match AY P 0 dg.toList with
  |some l=>if P.stoodInHeld t=false/\P.eqGuardType P.depth t=false then some l else none
  |none=>none
 |_=>none
def ahn{P:Program}{t:TypeId}{l:List TypeDesc}(h:Pm P t=some l):Ve P t l:=by
 unfold Pm at h;split at h
 case h_2=>cases h
 rename_i dg hu;have bd:P.fieldsOf t=dg:=by simp[Program.fieldsOf,hu]
 split at h
 case h_2=>cases h
 rename_i r6 aq;split at h
 case isFalse=>cases h
 rename_i an;cases h;exact⟨by rw[bd];exact hu,an.1,an.2,by rw[bd];exact J6 aq⟩
def Ek(P:Program)(t:TypeId):Option iK:=match P.underlying t,P.info? t with
 |some d,some i=>match i.zero with
  |some z=>if z.cells.size=i.size then some ⟨d,i.size,i.bytes,z⟩else none
  |none=>none
 |_,_=>none
def Pn(P:Program)(t:TypeId)(name:String):Option FuncId:=match P.info? t,P.underlying t with
 |some i,some d=>match d with
  | .pointer _=>none
  |_=>match i.methods.find? (λm=>m.name==name)with
   |some m=>match m.path.toList,m.func with|[],some (f,false)=>some f|_,_=>none
   |none=>none
 |_,_=>none
def aho{P:Program}{t:TypeId}{name:String}{f:FuncId}(h:Pn P t name=some f):Jb P t name f:=by
 unfold Pn at h;split at h
 case h_2=>cases h
 rename_i i d ab af;split at h
 case h_1=>cases h
 rename_i aT;split at h
 case h_2=>cases h
 rename_i m hm;split at h
 case h_2=>cases h
 rename_i g aw a4;cases h;exact⟨i,m,d,ab,hm,aw,a4,af,λe he=>aT e he⟩
def ej(P:Program):cg:=⟨Ek P,Pm P,λ_=>false,Pn P,[],[]⟩
def cg.J7(T:cg)(l:List TypeId):cg:=⟨T.I8,T.eqs,T.born,T.qB,l,T.dyn⟩
def dM.J7{P:Program}{T:cg}(h:dM P T)(l:List TypeId):dM P (T.J7 l):=⟨h.ty,h.At,h.eqs,h.Jc⟩
def cg.so(T:cg)(l:List Nat):cg:=⟨T.I8,T.eqs,λk=>l.contains k,T.qB,T.On,T.dyn⟩
def dM.so{P:Program}{T:cg}(h:dM P T)(l:List Nat):dM P (T.so l):=⟨h.ty,h.At,h.eqs,h.Jc⟩
def cg.vV(T:cg)(l:List (Nat×List FuncId)):cg:=⟨T.I8,T.eqs,T.born,T.qB,T.On,l⟩
def dM.vV{P:Program}{T:cg}(h:dM P T)(l:List (Nat×List FuncId)):dM P (T.vV l):=⟨h.ty,h.At,h.eqs,h.Jc⟩
def tok(P:Program):dM P (ej P):=by
 constructor
 .intro t i h;change Ek P t=some i at h;unfold Ek at h;split at h
  case h_2=>cases h
  rename_i d info ab af;split at h
  case h_2=>cases h
  rename_i z bx;split at h
  case isFalse=>cases h
  cases h;exact⟨ab,info,af,rfl,rfl,bx⟩
 .intro t i h;change Ek P t=some i at h;unfold Ek at h;split at h
  case h_2=>cases h
  rename_i d info ab af;split at h
  case h_2=>cases h
  rename_i z bx;split at h
  case isFalse=>cases h
  rename_i aH;cases h;exact aH
 .intro t l h;exact ahn h
 intro t name f h;exact aho h
def J(n:Int):D:= .val (.int .i64 n)
def ay(b:Bool):D:= .val (.bool b)
def aB(s:ByteArray):D:= .val (.string s)
def bm(l:List ByteArray):D:= .ax 1 (l.map λs=>[aB s])
end Go.Am
