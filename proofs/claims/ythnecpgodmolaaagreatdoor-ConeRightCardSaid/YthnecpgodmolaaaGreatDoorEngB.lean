/- Calls, regions in any order, loops: their rules over such values. No condition. -/
import Derived.Test.YthnecpgodmolaaaGreatDoorEngA
import Derived.Still
import Derived.Scope
set_option linter.all false
set_option linter.unnecessarySimpa false
namespace Go.Am
def aI.put(σ:aI)(dst:Option Tmp)(r:aS):aI:=match dst with|some d=>⟨cr σ.aJ d r,σ.objs⟩|none=>σ
def gY(T:cd)(G:dn)(σ:aI)(o:Oper):Option aI:=match eN T (cf G σ.aJ) o.op with|some r=>some (σ.put o.dst r)|none=>match dC T (cf G σ.aJ) σ.objs o.op with|some r=>some (σ.put o.dst r)|none=>match hb T (cf G σ.aJ) σ.objs (o.dst.getD 9999) o.op with|some (r,cA)=>some (aI.put ⟨σ.aJ,dD σ.objs cA⟩ o.dst r)|none=>none
structure sn(m:Mem)(fr:fJ)(w:World):Prop where
 mem:∀b o,m b=some o->w.heap[b]?=some o
 frame:Vr fr w
 apart:∀b,m b≠none->fr b=none
def Den.ok{m:Mem}{fr:fJ}{ρ:dh}{σ:aI}{a:Act}{w:World}(h:Den m fr ρ σ a w):sn m fr w:=⟨h.mem,h.frame,h.apart⟩
def xK(m:Mem)(aO:List D)(vs:List Value):Prop:=vs.length=aO.length/\∀(i:Nat)(d:D)(v:Value),aO[i]?=some d->vs[i]?=some v->dv m d v
def vH(P:Program)(f:FuncId):Prop:=∃fn,P.funcs[f]?=some fn/\(fn.name== "runtime.NumGoroutine")=false/\fn.body.isNone=false
structure eB(P:Program)(G:dn)(f:FuncId)(aO:List D)(R:D->Prop):Prop where
 fn:vH P f
 run:∀m fr w vs,kp G m->sn m fr w->xK m aO vs->Calls P f vs.toArray w λe w'=>∃v cI r,e= .returned v/\R r/\m.le cI/\sn cI fr w'/\dv cI r v
def eB.mono{P:Program}{G:dn}{f:FuncId}{aO:List D}{R Wd:D->Prop}(h:eB P G f aO R)(av:∀r,R r->Wd r):eB P G f aO Wd:=⟨h.fn,λm fr w vs c2 eb cZ=>(h.run m fr w vs c2 eb cZ).mono λe w' ⟨v,cI,r,ab,af,aw⟩=>⟨v,cI,r,ab,av r af,aw⟩⟩
def qR:List D->List D->Prop
 |[],[]=>True|x::xs,y::dk=>x.le y/\qR xs dk|_,_=>False
def qR.refl:∀l:List D,qR l l
 |[]=>trivial|x::l=>⟨x.le_refl,qR.refl l⟩
def qR.ok{m:Mem}:∀{xs dk:List D}{vs:List Value},qR xs dk->xK m xs vs->xK m dk vs
 |[],[],vs,_,h=>h|x::xs,y::dk,[],_,h=>by have:=h.1;simp at this|x::xs,y::dk,v::vs,aq,h=>by have ih:=qR.ok (m:=m) (vs:=vs) aq.2 ⟨by simpa using h.1,λi d u aB hu=>h.2 (i+1) d u (by simpa using aB) (by simpa using hu)⟩;refine⟨by simpa using ih.1,?_⟩;intro i d u aB hu;cases i with|zero=>simp at aB hu;subst aB;subst hu;exact aq.1 m v (h.2 0 x v rfl rfl)|succ i=>exact ih.2 i d u (by simpa using aB) (by simpa using hu)
 |[],y::dk,vs,h,_=>h.elim|x::xs,[],vs,h,_=>h.elim
def D.flat:D->Bool
 | .val _=>true| .agg cs=>cs.all λc=>match c with| .val _=>true|_=>false
 | .a1 cs=>cs.all λc=>match c with
  | .val _=>true| .agg cs=>cs.all λc=>match c with| .val _=>true|_=>false
  |_=>false
 |_=>false
def agw{m cI:Mem}{c:D}{v:Value}(h:(match c with| .val _=>true|_=>false)=true)(aB:dv m c v):dv cI c v:=by cases c<;>first|(cases aB;exact .val _)|cases h
def flat_agg{m cI:Mem}{cs:List D}{v:Value}(h:(cs.all λc=>match c with| .val _=>true|_=>false)=true)(aB:dv m (.agg cs) v):dv cI (.agg cs) v:=by cases aB with|agg _ vs aq bJ=>exact .agg _ _ aq λi c u ao hu=>agw (xaz.1 h c (xaa ao)) (bJ i c u ao hu)
def D.O8{m cI:Mem}{x:D}{v:Value}(h:x.flat=true)(aB:dv m x v):dv cI x v:=by
 cases x with
 |val=>cases aB;exact .val _
 |agg cs=>exact flat_agg h aB
 |a1 cs=>
  cases aB with
  |a1 _ vs aq bJ=>
   refine .a1 _ _ aq λi c u ao hu=>?_;have ab:=xaz.1 h c (xaa ao);have af:=bJ i c u ao hu;cases c with
   |val=>cases af;exact .val _
   |agg cs=>exact flat_agg ab af|a1=>cases ab
   |ax=>cases ab
   |dZ=>cases ab
   |mp=>cases ab
   |ref=>cases ab
   |fn=>cases ab
 |ax=>cases h
 |dZ=>cases h
 |mp=>cases h
 |ref=>cases h
 |fn=>cases h
def qS(objs:cG):aS->Option D
 | .d x=>some x| .row key=>match objs key with|some (.row k es)=>some (.ax k es)|_=>none
 | .sub key k i len=>match objs key with
  |some (.row bq es)=>if k=bq/\i+len<=es.length then some (.ax k ((es.drop i).take len))else none
  |_=>none
 | .map key=>match objs key with|some (.map es)=>some (.mp es)|_=>none
 |_=>none
def hv{α:Type}:List (Option α)->Option (List α)
 |[]=>some []|some x::r=>match hv r with|some l=>some (x::l)|none=>none
 |none::_=>none
def qT{α:Type}:∀{l:List (Option α)} {r:List α},hv l=some r->r.length=l.length/\∀(i:Nat)(x:α),r[i]?=some x->l[i]?=some (some x)
 |[],r,h=>by simp[hv]at h;subst h;simp|none::l,r,h=>by simp[hv]at h
 |some x::l,r,h=>by
  simp only[hv]at h;split at h
  case h_2=>cases h
  rename_i sc du;cases h;have ih:=qT du;refine⟨by simp[ih.1],?_⟩;intro i y aQ;cases i with|zero=>simpa using aQ|succ i=>exact ih.2 i y (by simpa using aQ)
def nd(objs:cG):aS->Option D
 | .ptr key off=>match objs key with
  |some (.box cells)=>match hv (cells.map (qS objs))with|some cs=>some (.ref cs off)|none=>none
  |_=>none
 | .et cs off=>some (.ref cs off)|x=>qS objs x
def og(objs:cG):aS->Option D
 | .agg cs=>match hv (cs.map (nd objs))with|some aO=>some (.agg aO)|none=>none
 | .fn f first cap=>match hv (first.map (nd objs)),hv (cap.map (nd objs))with|some as,some j7=>some (.fn f as j7)|_,_=>none
 |x=>nd objs x
def toD(objs:cG):aS->Option D
 | .a1 cs=>match hv (cs.map (og objs))with|some aO=>some (.a1 aO)|none=>none
 |x=>og objs x
noncomputable def Den.all(m:Mem)(ρ:dh)(objs:cG)(w:World):Mem:=λb=>match m b with|some o=>some o|none=>open Classical in if∃k o,objs k=some o/\o.owns=true/\blockOf (ρ k)=some b then w.heap[b]? else none
section
variable{P:Program}{T:cd}{G:dn}{m:Mem}{fr:fJ}{ρ:dh}{σ:aI}{a:Act}{w:World}
def Den.AH(m:Mem)(ρ:dh)(objs:cG)(w:World):m.le (Den.all m ρ objs w):=by intro b o h;simp[Den.all,h]
def Den.JN(h:Den m fr ρ σ a w){k:Key}{o:cR}{b:Nat}(ak:σ.objs k=some o)(aF:o.owns=true)(aj:blockOf (ρ k)=some b):Den.all m ρ σ.objs w b=w.heap[b]?:=by have:=(h.own k o b ak aF aj).1;simp only[Den.all,this];rw[xad ⟨k,o,ak,aF,aj⟩]
def Den.agx(h:Den m fr ρ σ a w):∀b o,Den.all m ρ σ.objs w b=some o->w.heap[b]?=some o:=by
 intro b o aj;unfold Den.all at aj;cases hm:m b with
 |some x=>simp only[hm]at aj;cases aj;exact h.mem b _ hm
 |none=>
  simp only[hm]at aj;split at aj;.exact aj
  cases aj
def Den.We(h:Den m fr ρ σ a w):sn (Den.all m ρ σ.objs w) fr w:=by
 refine⟨h.agx,h.frame,?_⟩;intro b aj;unfold Den.all at aj;cases hm:m b with
 |some x=>exact h.apart b (by rw[hm];simp)
 |none=>
  simp only[hm]at aj;split at aj;.rename_i ao;obtain⟨k,o,ab,af,aw⟩:=ao;exact(h.own k o b ab af aw).2
  exact absurd rfl aj
def Wf(h:Den m fr ρ σ a w){x:aS}{v:Value}{d:D}(ag:b5 m ρ σ.used x v)(aB:qS σ.objs x=some d):dv (Den.all m ρ σ.objs w) d v:=by
 have hle:=Den.AH m ρ σ.objs w;have row:∀key k es v,σ.objs key=some (.row k es)->v=ρ key->dv (Den.all m ρ σ.objs w) (.ax k es) v:=by
  rintro key k es v ak rfl;rcases h.objs _ _ ak with⟨aL,rfl⟩|⟨b,o,cap,vs,dU,aL,aX,bL,cL,ea,fp⟩;.rw[aL];exact .m9 _ _ _
  have aj:=h.JN ak rfl (by rw[aL];rfl);obtain⟨f1,f2⟩:=VP (m:=m) ea fp;rw[aL];refine .ax k es b o cap vs dU (0,0) (by rw[aj];exact aX) ea bL (λi j=>(vs[o+i*k+j]?).getD undef) ?_ ?_;.intro i e j c ah aN;obtain⟨x,aW,a2⟩:=fp i e j c ah aN;rw[aW];rfl
  intro i e j c ah aN;obtain⟨x,aW,a2⟩:=fp i e j c ah aN;simp only[aW,xbc];exact a2.mono hle
 unfold qS at aB;split at aB;.cases aB;exact ag.ob.mono hle
 .rename_i key;split at aB
  case h_2=>cases aB
  rename_i k es ak;cases aB;cases ag;exact row key k es _ ak rfl
 .rename_i key k i len;split at aB
  case h_2=>cases aB
  rename_i bq es ak;split at aB
  case isFalse=>cases aB
  rename_i ao;obtain⟨rfl,OO⟩:=ao;cases aB;cases ag with|ko _ _ _ hu av=>rw[xbS];exact .m9 _ _ _|sub _ _ _ _ b o L cap ix hu av xD aE=>
  have b6:((es.drop i).take len).length=len:=by simp;omega
  rcases Nat.eq_zero_or_pos len with au|jv;.subst au;rw[xbS];exact .m9 _ _ _
  have nE:=row key k es _ ak rfl;rw[av]at nE;cases nE with
  |m9=>simp at OO;omega
  |ax _ _ _ _ _ vs dU eE hm dj ao xs ab af=>
   have:=dv.ax (m:=Den.all m ρ σ.objs w) k ((es.drop i).take len) b (o+i*k) (cap-i) vs dU eE hm (λe he=>dj e (xbp (xbl he))) (by omega) (λp j=>xs (i+p) j) (λp el j c e3 ao=>by
     rw[xaM]at e3;split at e3
     case isFalse=>cases e3
     rw[xaW]at e3;have:=ab (i+p) el j c e3 ao;rw[<-this]
     congr 1
     rw[xaR];omega)
    (λp el j c e3 ao=>by
     rw[xaM]at e3;split at e3
     case isFalse=>cases e3
     rw[xaW]at e3;exact af (i+p) el j c e3 ao)
   rw[b6]at this;rw[aE.1 (by omega)];exact this
 .rename_i key;split at aB
  case h_2=>cases aB
  rename_i es ak;cases aB;cases ag;obtain⟨r,dt,clock,aL,aX,bL,cL,ea⟩:=h.objs _ _ ak;have aj:=h.JN ak rfl (by rw[aL];rfl);rw[aL];exact .mp es r dt clock (by rw[aj];exact aX) bL cL (λi e x he ag=>(ea i e x he ag).mono hle)
 cases aB
def JO(h:Den m fr ρ σ a w){x:aS}{v:Value}{d:D}(ag:b5 m ρ σ.used x v)(aB:nd σ.objs x=some d):dv (Den.all m ρ σ.objs w) d v:=by
 have hle:=Den.AH m ρ σ.objs w;unfold nd at aB;split at aB
 .rename_i key off;split at aB
  case h_2=>cases aB
  rename_i cells ak;split at aB
  case h_2=>cases aB
  rename_i cs hG;cases aB;obtain⟨b,vs,dU,aL,aX,bL,cL⟩:=h.objs _ _ ak;have aj:=h.JN ak rfl (by rw[aL];rfl);obtain⟨mc,mK⟩:=qT hG;cases ag with|ptr _ _ b' hu av=>
  rw[aL]at av;cases av;have key:∀(j:Nat)(c:D),cs[j]?=some c->∃u,vs[j]?=some u/\dv (Den.all m ρ σ.objs w) c u:=by
   intro j c ao;have ab:=mK j c ao;simp only[xaj,xah]at ab;obtain⟨y,aQ,iU⟩:=ab;have aN:j<vs.size:=by rw[bL];exact(xae.1 aQ).1
   exact⟨_,xan aN,Wf h (cL j y _ aQ (xan aN)) iU⟩
  have:=dv.ref (m:=Den.all m ρ σ.objs w) cs off b 0 vs dU (0,0) (by rw[aj];exact aX) (λj=>(vs[j]?).getD undef) (λj c ao=>by obtain⟨u,ab,_⟩:=key j c ao;simp[ab]) (λj c ao=>by obtain⟨u,ab,af⟩:=key j c ao;simp[ab];exact af);simpa using this
 .cases aB;cases ag with|et _ _ b o vs T eE hm xs ab af=>exact .ref _ _ b o vs T eE (hle _ _ hm) xs ab (λj c ao=>(af j c ao).mono hle)
 exact Wf h ag aB
def Wg(h:Den m fr ρ σ a w){x:aS}{v:Value}{d:D}(ag:b5 m ρ σ.used x v)(aB:og σ.objs x=some d):dv (Den.all m ρ σ.objs w) d v:=by
 unfold og at aB;split at aB
 .rename_i cs;split at aB
  case h_2=>cases aB
  rename_i aO eO;cases aB;obtain⟨mc,mK⟩:=qT eO;cases ag with|agg _ vs aq bJ=>
  refine .agg _ _ (by rw[aq,mc];simp) ?_;intro i c u ao hu;have ab:=mK i c ao;simp only[xaj,xah]at ab;obtain⟨y,aQ,iU⟩:=ab;exact JO h (bJ i y u aQ hu) iU
 .rename_i f first cap
  split at aB
  case h_2=>cases aB
  rename_i as j7 has D2;cases aB;obtain⟨mc,mK⟩:=qT has;obtain⟨cE,dz⟩:=qT D2;cases ag with|fn _ _ _ vs ws aq du bJ xL=>
  refine .fn _ _ _ vs ws (by rw[aq,mc];simp) (by rw[du,cE];simp) ?_ ?_;.intro i c u ao hu;have ab:=mK i c ao;simp only[xaj,xah]at ab;obtain⟨y,aQ,iU⟩:=ab;exact JO h (bJ i y u aQ hu) iU
  intro i c u ao hu;have ab:=dz i c ao;simp only[xaj,xah]at ab;obtain⟨y,aQ,iU⟩:=ab;exact JO h (xL i y u aQ hu) iU
 exact JO h ag aB
def Wh(h:Den m fr ρ σ a w){x:aS}{v:Value}{d:D}(ag:b5 m ρ σ.used x v)(aB:toD σ.objs x=some d):dv (Den.all m ρ σ.objs w) d v:=by
 unfold toD at aB;split at aB
 .rename_i cs;split at aB
  case h_2=>cases aB
  rename_i aO eO;cases aB;obtain⟨mc,mK⟩:=qT eO;cases ag with|a1 _ vs aq bJ=>
  refine .a1 _ _ (by rw[aq,mc];simp) ?_;intro i c u ao hu;have ab:=mK i c ao;simp only[xaj,xah]at ab;obtain⟨y,aQ,iU⟩:=ab;exact Wg h (bJ i y u aQ hu) iU
 exact Wg h ag aB
def agy(h:Den m fr ρ σ a w){xs:List aS}{vs:List Value}{aO:List D}(aq:vs.length=xs.length)(ag:∀(i:Nat)(x:aS)(v:Value),xs[i]?=some x->vs[i]?=some v->b5 m ρ σ.used x v)(aB:hv (xs.map (toD σ.objs))=some aO):xK (Den.all m ρ σ.objs w) aO vs:=by obtain⟨mc,mK⟩:=qT aB;refine⟨by rw[aq,mc];simp,?_⟩;intro i d v ab af;have aw:=mK i d ab;simp only[xaj,xah]at aw;obtain⟨y,aQ,iU⟩:=aw;exact Wh h (ag i y v aQ af) iU
def Den.agz(h:Den m fr ρ σ a w){w':World}{cI:Mem}(hle:(Den.all m ρ σ.objs w).le cI)(eb:sn cI fr w'):Den m fr ρ σ a w':=by refine⟨λb o aj=>eb.mem b o (hle b o (Den.AH m ρ σ.objs w b o aj)),eb.frame,h.apart,h.one,h.aJ,?_,h.own,h.sep⟩;intro k o ak;refine(h.objs k o ak).mono (Mem.le_refl m) (λ_ hu=>⟨hu,rfl⟩) (λb aF aj=>?_);have ab:=h.JN ak aF aj;have af:b<w.heap.size:=(h.objs k o ak).tK aF aj;have aw:=xan af;rw[aw]at ab⊢;exact eb.mem b _ (hle b _ ab)
noncomputable def Den.hold(fr:fJ)(ρ:dh)(objs:cG)(w:World):fJ:=⟨Den.all fr.at_ ρ objs w,fr.os,fr.out,fr.low⟩
def Den.Wi(h:Den m fr ρ σ a w){k:Key}{o:cR}{b:Nat}(ak:σ.objs k=some o)(aF:o.owns=true)(aj:blockOf (ρ k)=some b):Den.hold fr ρ σ.objs w b=w.heap[b]?:=by have:=(h.own k o b ak aF aj).2;simp only[Den.hold,Den.all,this];rw[xad ⟨k,o,ak,aF,aj⟩]
def Den.Wj(h:Den m fr ρ σ a w):sn m (Den.hold fr ρ σ.objs w) w:=by
 refine⟨h.mem,⟨?_,⟨h.frame.quiet.os,h.frame.quiet.out,h.frame.quiet.low,h.frame.quiet.sa⟩⟩,?_⟩
 .intro b o aj;unfold Den.hold Den.all at aj;cases hm:fr b with
  |some x=>simp only[hm]at aj;cases aj;exact h.frame.pW b _ hm
  |none=>
   simp only[hm]at aj;split at aj;.exact aj
   cases aj
 intro b aj;show Den.all fr.at_ ρ σ.objs w b=none;unfold Den.all;rw[h.apart b aj];simp only;rw[xac];rintro⟨k,o,ab,af,aw⟩;exact aj (h.own k o b ab af aw).1
def Den.kept(h:Den m fr ρ σ a w){w':World}{cI:Mem}(hle:m.le cI)(eb:sn cI (Den.hold fr ρ σ.objs w) w'):Den cI fr ρ σ a w':=by
 have p1:∀b o,fr b=some o->Den.hold fr ρ σ.objs w b=some o:=Den.AH fr.at_ ρ σ.objs w;have jw:∀k o b,σ.objs k=some o->o.owns=true->blockOf (ρ k)=some b->cI b=none:=by intro k o b ak aF aj;cases hm:cI b with|none=>rfl|some x=>have ab:=eb.apart b (by rw[hm];simp);rw[h.Wi ak aF aj,xan ((h.objs k o ak).tK aF aj)]at ab;cases ab
 refine⟨eb.mem,⟨λb o aj=>eb.frame.pW b o (p1 b o aj),⟨eb.frame.quiet.os,eb.frame.quiet.out,eb.frame.quiet.low,eb.frame.quiet.sa⟩⟩,?_,h.one,λt=>(h.aJ t).mono hle (λ_ hu=>⟨hu,rfl⟩),?_,λk o b ab af aw=>⟨jw k o b ab af aw,(h.own k o b ab af aw).2⟩,h.sep⟩;.intro b aj;have:=eb.apart b aj;cases bd:fr b with|none=>rfl|some x=>rw[p1 b x bd]at this;cases this
 intro k o ak;refine(h.objs k o ak).mono hle (λ_ hu=>⟨hu,rfl⟩) (λb aF aj=>?_);have ab:=h.Wi ak aF aj;have aw:=xan ((h.objs k o ak).tK aF aj);rw[aw]at ab⊢;exact eb.frame.pW b _ ab
end
def eP(o:Option cR):Prop:=(∃cs,o=some (.box cs))\/(∃k es,o=some (.row k es))\/∃es,o=some (.map es)
theorem tR{cs:List aS}:eP (some (.box cs)):= .inl ⟨_,rfl⟩
theorem so{k:Nat}{es:List (List D)}:eP (some (.row k es)):= .inr (.inl ⟨_,_,rfl⟩)
def tS:¬eP none:=by rintro(⟨_,h⟩|⟨_,_,h⟩|⟨_,h⟩)<;>cases h
def D3:¬eP (some .dead):=by rintro(⟨_,h⟩|⟨_,_,h⟩|⟨_,h⟩)<;>cases h
theorem vI{es:List (Value×D)}:eP (some (.map es)):= .inr (.inr ⟨_,rfl⟩)
def AI{o:Option cR}(h:eP o):∃x,o=some x:=by rcases h with⟨_,h⟩|⟨_,_,h⟩|⟨_,h⟩<;>exact⟨_,h⟩
def kQ(σ:aI)(ρ:dh)(aV:aI)(cS:dh):Prop:=∀k,10000<=k->eP (σ.objs k)->eP (aV.objs k)/\cS k=ρ k
theorem kQ.refl(σ:aI)(ρ:dh):kQ σ ρ σ ρ:=λ_ _ h=>⟨h,rfl⟩
def kQ.trans{gw gf Wk:aI}{nf lh Wl:dh}(h:kQ gw nf gf lh)(bx:kQ gf lh Wk Wl):kQ gw nf Wk Wl:=λk ak aj=>let⟨a,b⟩:=h k ak aj;let⟨c,d⟩:=bx k ak a;⟨c,d.trans b⟩
@[simp] theorem aI.vJ (σ:aI) (dst:Option Tmp) (r:aS):(σ.put dst r).objs=σ.objs:=by cases dst<;>rfl
def iV(N:Nat)(m:Mem)(fr:fJ)(ρ:dh)(σ:aI)(K:aI->Prop)(cB:Act)(w':World):Prop:= ∃aV cI cS,K aV/\m.le cI/\Den cI fr cS aV cB w'/\N<=cB.tmps.size/\cB.defers=[]/\kQ σ ρ aV cS
def Den.put{m:Mem}{fr:fJ}{ρ:dh}{σ:aI}{a:Act}{w:World}(h:Den m fr ρ σ a w){dst:Option Tmp}{r:aS}{v:Value}(av:b5 m ρ σ.used r v)(aB:∀d,dst=some d->d<a.tmps.size):Den m fr ρ (σ.put dst r) (a.put dst v) w:=by
 cases dst with
 |none=>exact h
 |some d=>
  refine⟨h.mem,h.frame,h.apart,h.one,?_,h.objs,h.own,h.sep⟩;intro t;have cv:=aB d rfl;by_cases aK:t=d
  .subst aK;simp only[aI.put,e4,Act.put];have:(a.tmps.setIfInBounds t v).getD t undef=v:=by simp[Array.getD,cv]
   rw[this];exact av
  simp only[aI.put,cX _ _ aK,Act.put];have:(a.tmps.setIfInBounds d v).getD t undef=a.tmps.getD t undef:=by rw[xbv,xbv,xcd,xac (Ne.symm aK)]
  rw[this];exact h.aJ t
def O9{objs:cG}{k:Key}{o:cR}(h:eP (objs k)->eP (some o)):∀j,eP (objs j)->eP (cr objs k (some o) j):=by
 intro j aN;by_cases gv:j=k;.subst gv;rw[e4];exact h aN
 rw[cX _ _ gv];exact aN
def agA{T:cd}{ev:Operand->aS}{objs:cG}{d:Key}{o:Op}{r:aS}{cA:List (Key×cR)}(h:eo T ev objs d o=some (r,cA)):∀j,10000<=j->eP (objs j)->eP (dD objs cA j):=by
 have new:∀{o:cR},objs d=none->∀j,10000<=j->eP (objs j)->eP (dD objs [(d,o)] j):=by intro o aB j _;exact O9 (λh=>by rw[aB]at h;exact absurd h tS) j
 have same:∀{k:Key}{dV o:cR},objs k=some dV->(eP (some dV)->eP (some o))->∀j,10000<=j->eP (objs j)->eP (dD objs [(k,o)] j):=by intro k dV o ak cU j _;exact O9 (λh=>by rw[ak]at h;exact cU h) j
 cases o<;>simp only[eo,reduceCtorEq]at h
 case alloc=>split at h<;>cases h;exact new (by assumption)
 case box=>split at h<;>cases h;exact new (by assumption)
 case buildSlice=>
  split at h
  case h_2=>cases h
  split at h
  case h_2=>cases h
  split at h
  case h_2=>cases h
  split at h<;>cases h;exact new (by assumption)
 case makeSlice=>
  split at h
  case h_2=>cases h
  split at h
  case h_2=>cases h
  split at h
  case h_2=>cases h
  split at h<;>cases h;exact new (by assumption)
 case makeMap=>split at h<;>cases h;exact new (by assumption)
 case store=>
  split at h
  case h_2=>cases h
  split at h
  case isFalse=>cases h
  split at h
  .split at h
   case h_2=>cases h
   split at h<;>cases h;exact λj _=>O9 (λ_=>tR) j
  .split at h
   case h_2=>cases h
   split at h
   case isFalse=>cases h
   split at h<;>cases h;exact same (by assumption) (λ_=>so)
  cases h
 case mapUpdate=>
  split at h
  case h_2=>cases h
  split at h
  case h_2=>cases h
  split at h
  case isFalse=>cases h
  split at h
  case h_2=>cases h
  split at h
  case h_2=>cases h
  split at h<;>cases h;exact same (by assumption) (λ_=>vI)
 case insert=>
  split at h
  case h_2=>cases h
  split at h
  case h_2=>cases h
  split at h
  case isFalse=>cases h
  split at h
  case h_2=>cases h
  split at h
  case h_2=>cases h
  split at h<;>cases h;exact same (by assumption) (λ_=>vI)
 case call=>
  split at h
  .split at h
   case h_2=>cases h
   split at h
   case h_2=>cases h
   split at h
   case h_2=>cases h
   split at h
   case h_2=>cases h
   split at h
   case isFalse=>cases h
   split at h;.split at h<;>cases h;exact new (by assumption)
   .split at h
    case h_2=>cases h
    split at h<;>cases h;rename_i aB _ _ _ _ _ _ _ _ _ _ _ _ ak _ _;rename_i Pa;intro j cM aN;have agB:j≠d:=by rintro rfl;simp_all [tS]
    simp only[dD];rw[cX _ _ agB,cX _ _ (by rintro rfl;exact absurd Pa.2.2.2 (Nat.not_lt.2 cM))];exact aN
   cases h
  .split at h
   case h_2=>cases h
   split at h
   case h_2=>cases h
   split at h
   case h_2=>cases h
   split at h
   case h_2=>cases h
   split at h
   case isFalse=>cases h
   split at h
   .split at h
    case h_2=>cases h
    split at h<;>cases h;exact same (by assumption) (λ_=>so)
   .split at h
    case h_2=>cases h
    split at h<;>cases h;exact same (by assumption) (λ_=>so)
   cases h
  .split at h
   case h_2=>cases h
   split at h
   case h_2=>cases h
   split at h
   case h_2=>cases h
   split at h
   case h_2=>cases h
   split at h
   case h_2=>cases h
   split at h<;>cases h;exact same (by assumption) (λ_=>so)
  cases h
def Wm{T:cd}{ev:Operand->aS}{objs:cG}{d:Key}{o:Op}{k:Key}{off:Nat}{cA:List (Key×cR)}(h:eo T ev objs d o=some (.ptr k off,cA)):objs d=none:=by
 cases o<;>simp only[eo,reduceCtorEq]at h
 case alloc=>split at h<;>cases h;assumption
 case box=>split at h<;>cases h;assumption
 all_goals (repeat' split at h)<;>cases h
def Wn{T:cd}{ev:Operand->aS}{objs:cG}{d:Key}{o:Op}{cA:List (Key×cR)}(h:eo T ev objs d o=some (.row d,cA)):objs d=none:=by
 cases o<;>simp only[eo,reduceCtorEq]at h
 all_goals (repeat' split at h)<;>cases h<;>assumption
def agC{T:cd}{ev:Operand->aS}{objs:cG}{d:Key}{o:Op}{r:aS}{cA:List (Key×cR)}(h:hb T ev objs d o=some (r,cA)):∀j,10000<=j->eP (objs j)->eP (dD objs cA j):=by
 obtain⟨⟨jA,sm⟩,au,aj⟩:=vG h;have ab:=agA au;intro j cM aN;have aM:∀{o:cR},objs d=none->j≠d:=by rintro o aB rfl;rw[aB]at aN;exact tS aN
 rcases xJ (T.born d) d jA sm with e|⟨n,es,rfl,rfl,e⟩|⟨dm,n,es,rfl,rfl,e⟩|⟨off,cs,aO,rfl,rfl,eO,e⟩;.rw[aj]at e;cases e;exact ab j cM aN
 .rw[aj]at e;cases e;have aB:=aM (o:= .dead) (Wn au);have:=ab j cM aN;simp only[dD,cX _ _ aB]at this⊢;exact this
 .rw[aj]at e;cases e;have aB:=aM (o:= .dead) (Wn au);have:=ab j cM aN;simp only[dD,cX _ _ aB]at this⊢;exact this
 rw[aj]at e;cases e;have aB:=aM (o:= .dead) (Wm au);simp only[dD,cX _ _ aB];exact aN
section
variable{P:Program}{T:cd}{G:dn}{m:Mem}{fr:fJ}{ρ:dh}{σ:aI}{a:Act}{w:World}{N:Nat}
def agD(bf:dQ P T)(c2:kp G m)(h:Den m fr ρ σ a w)(cj:N<=a.tmps.size)(hx:a.defers=[]){o:Oper}(gZ:∀d,o.dst=some d->d<N){aV:aI}(aG:gY T G σ o=some aV){K:aI->Prop}(fi:K aV){Q:Exit->Act->World->Prop}:o.wp P a w (iV N m fr ρ σ K) Q:=by
 have dx:=DJ (a:=a) c2 h.aJ;have iy:∀d,o.dst=some d->d<a.tmps.size:=λd aB=>Nat.lt_of_lt_of_le (gZ d aB) cj;have sq:∀v,N<=(a.put o.dst v).tmps.size:=by intro v;cases o.dst<;>simpa[Act.put]using cj
 have me:∀v,(a.put o.dst v).defers=[]:=by intro v;cases o.dst<;>exact hx
 unfold Oper.wp;unfold gY at aG;split at aG;.rename_i r av;cases aG;obtain⟨v,ab,af⟩:=afJ (P:=P) (w:=w) (o:=o) bf h.one dx av;rw[ab];exact⟨_,m,ρ,fi,Mem.le_refl m,h.put af iy,sq v,me v,λk ak aj=>⟨by simpa using aj,rfl⟩⟩
 split at aG;.rename_i r av;cases aG;obtain⟨v,ab,af⟩:=afQ (P:=P) (w:=w) (o:=o) bf h.mem h.objs dx av;rw[ab];exact⟨_,m,ρ,fi,Mem.le_refl m,h.put af iy,sq v,me v,λk ak aj=>⟨by simpa using aj,rfl⟩⟩
 split at aG
 case h_2=>cases aG
 rename_i r cA av;cases aG;obtain⟨nx,v,w',cI,cS,ab,af,hm,aw,a4,b7⟩:=agv (P:=P) (o:=o) bf h dx av;rw[ab];have fin:iV N m fr ρ σ K (a.put o.dst v) w':=⟨_,cI,cS,fi,hm,aw.put a4 iy,sq v,me v,λk ak aj=>⟨by rw[aI.vJ];exact agC av k ak aj,by obtain⟨c,ao⟩:=AI aj;exact(b7 k ⟨_,ao⟩).2⟩⟩;rcases af with rfl|⟨rfl,rfl⟩
 .exact fin
 exact fin
def vK:aS->Option (FuncId×List aS×List aS)
 | .d (.val (.func (.func f) first cap))=>if first.size=0/\cap.size=0 then some (f,[],[])else none
 | .fn (.func f) first cap=>some (f,first,cap)
 | .d (.fn (.func f) first cap)=>some (f,first.map .d,cap.map .d)
 |_=>none
def AJ:aS->Bool
 | .d _=>true| .et _ _=>true|_=>false
def sr:aS->Bool
 | .agg cs=>cs.all AJ| .fn _ as j7=>as.all AJ&&j7.all AJ|x=>AJ x
def Pb{m:Mem}{ρ:dh}{U:Key->Prop}{objs:cG}{x:aS}{d:D}{v:Value}(h:AJ x=true)(aB:nd objs x=some d)(a6:b5 m ρ U x v):dv m d v:=by
 cases x<;>first|cases h|skip
 .simp only[nd,qS]at aB;cases aB;exact a6.ob
 simp only[nd]at aB;cases aB;cases a6 with|et _ _ b o vs T eE hm xs ab af=>exact .ref _ _ b o vs T eE hm xs ab af
def Pc{m:Mem}{ρ:dh}{U:Key->Prop}{objs:cG}{cs:List aS}{aO:List D}{vs:Array Value}(h:cs.all AJ=true)(aB:hv (cs.map (nd objs))=some aO)(aq:vs.size=cs.length) (a6:∀(i:Nat)(c:aS)(v:Value),cs[i]?=some c->vs[i]?=some v->b5 m ρ U c v):vs.size=aO.length/\∀(i:Nat)(c:D)(v:Value),aO[i]?=some c->vs[i]?=some v->dv m c v:=by obtain⟨ab,af⟩:=qT aB;refine⟨by rw[ab,aq];simp,λi c v ao ah=>?_⟩;have aw:=af i c ao;simp only[xaj,xah]at aw;obtain⟨y,aQ,vL⟩:=aw;exact Pb (xaz.1 h y (xaa aQ)) vL (a6 i y v aQ ah)
def Pd{m:Mem}{ρ:dh}{U:Key->Prop}{objs:cG}{x:aS}{d:D}{v:Value}(h:sr x=true)(aB:toD objs x=some d)(a6:b5 m ρ U x v):dv m d v:=by
 cases x
 case agg cs=>
  simp only[toD,og]at aB;split at aB
  case h_2=>cases aB
  rename_i aO eO;cases aB;cases a6 with|agg _ vs aq bJ=>
  obtain⟨aW,a2⟩:=Pc h eO aq bJ;exact .agg _ _ aW a2
 case fn f as j7=>
  simp only[sr,xam]at h;simp only[toD,og]at aB;split at aB
  case h_2=>cases aB
  rename_i aO AK eO agE;cases aB;cases a6 with|fn _ _ _ vs ws aq du bJ xL=>
  obtain⟨aW,a2⟩:=Pc h.1 eO aq bJ;obtain⟨bc,cV⟩:=Pc h.2 agE du xL;exact .fn _ _ _ _ _ aW bc a2 cV
 case d y=>exact Pb (x:= .d y) rfl (by simpa[toD,og]using aB) a6
 case et cs off=>exact Pb (x:= .et cs off) rfl (by simpa[toD,og]using aB) a6
 all_goals cases h
def Wo(P:Program)(G:dn)(σ:aI)(dst:Option Tmp)(f:FuncId)(tT:List aS)(K:aI->Prop):Prop:= ∃ng aO R,hv (tT.map (toD σ.objs))=some ng/\qR ng aO/\eB P G f aO R/\(∃jA,R=(·=jA))/\((∀r,R r->r.flat=true)\/tT.all sr=true)/\∀r,R r->K (σ.put dst (.d r))
def jB(P:Program)(G:dn)(o:Oper)(σ:aI)(K:aI->Prop):Prop:=match o.op with
 | .call ⟨.value x,args,_⟩=>match vK (cf G σ.aJ x)with|some (f,pre,post)=>Wo P G σ o.dst f (pre++args.toList.map (cf G σ.aJ)++post) K|none=>False
 |_=>False
def db(P:Program)(T:cd)(G:dn)(o:Oper)(K:aI->Prop)(σ:aI):Prop:=match gY T G σ o with|some aV=>K aV|none=>jB P G o σ K
def eu(P:Program)(T:cd)(G:dn)(all:Array Oper)(o:Oper)(K:aI->Prop)(σ:aI):Prop:=match o.guard with
 |none=>db P T G o K σ
 |some (j,want)=>match(all[j]?).bind (·.dst)with
  |some d=>match σ.aJ d with
   | .d (.val (.bool b))=>if b=want then db P T G o K σ else K (σ.put o.dst (.d (.val (.tuple #[]))))
   | .d (.val (.tuple _))=>K (σ.put o.dst (.d (.val (.tuple #[]))))|_=>False
  |none=>False
def fV(P:Program)(T:cd)(G:dn)(all:Array Oper):List Oper->(aI->Prop)->aI->Prop
 |[],K,σ=>K σ|o::r,K,σ=>eu P T G all o (fV P T G all r K) σ
def Wp{va:Operand->Value}{x:Operand}{args:Array Operand}{dF:Array TypeId}{ty:TypeId}{f:FuncId}{first cap:Array Value}(ag:va x= .func (.func f) first cap)(bd:vH P f):(do let d<-resolve va {callee:= .value x,args:=args,argTypes:=dF} ty;invoke d.target d.args:Sem Next).run P w= .ok (.enter f (first++args.map va++cap)) w:=by obtain⟨fn,ab,af,aw⟩:=bd;simp only[xag,resolve,ag,Deferred.ofValue,xaw,xaf,invoke,callFunc,program,Sem.run,ab,af,aw,xat,xaF]
def agF(c2:kp G m)(h:Den m fr ρ σ a w)(cj:N<=a.tmps.size)(hx:a.defers=[]){o:Oper}(gZ:∀d,o.dst=some d->d<N){K:aI->Prop}(ao:jB P G o σ K){Q:Exit->Act->World->Prop}:o.wp P a w (iV N m fr ρ σ K) Q:=by
 have dx:=DJ (a:=a) c2 h.aJ;have iy:∀d,o.dst=some d->d<a.tmps.size:=λd aB=>Nat.lt_of_lt_of_le (gZ d aB) cj;have sq:∀v,N<=(a.put o.dst v).tmps.size:=by intro v;cases o.dst<;>simpa[Act.put]using cj
 have me:∀v,(a.put o.dst v).defers=[]:=by intro v;cases o.dst<;>exact hx
 unfold jB at ao;split at ao
 case h_2=>cases ao
 rename_i x args dF eF;split at ao
 case h_2=>cases ao
 rename_i f pre post gT;obtain⟨ng,aO,R,ab,af,aw,a4,b7,cO⟩:=ao;have ag:=dx x;have Pe:∃first cap,a.eval x= .func (.func f) first cap/\first.size=pre.length/\cap.size=post.length/\(∀(i:Nat)(c:aS)(v:Value),pre[i]?=some c->first[i]?=some v->b5 m ρ σ.used c v)/\(∀(i:Nat)(c:aS)(v:Value),post[i]?=some c->cap[i]?=some v->b5 m ρ σ.used c v):=by
  unfold vK at gT;split at gT
  .rename_i ku first cap he
   split at gT
   case isFalse=>cases gT
   rename_i au;cases gT;rw[he]at ag;exact⟨first,cap,ag.hS,by simpa using au.1,by simpa using au.2,by intro i c v ao;simp at ao,by intro i c v ao;simp at ao⟩
  .rename_i ku first cap he
   cases gT;rw[he]at ag;generalize a.eval x=u at ag;cases ag with|fn _ _ _ vs ws aq du g lj=>exact⟨vs,ws,rfl,aq,du,g,lj⟩
  .rename_i ku first cap he
   cases gT;rw[he]at ag;have ag:=ag.ob;generalize a.eval x=u at ag;cases ag with|fn _ _ _ vs ws aq du g lj=>
   refine⟨vs,ws,rfl,by simpa using aq,by simpa using du,?_,?_⟩;.intro i c v ao a6;simp only[xaj,xah]at ao;obtain⟨y,aQ,rfl⟩:=ao;exact .d _ _ (g i y v aQ a6)
   intro i c v ao a6;simp only[xaj,xah]at ao;obtain⟨y,aQ,rfl⟩:=ao;exact .d _ _ (lj i y v aQ a6)
  .cases gT
 obtain⟨first,cap,vx,nA,pY,aW,a2⟩:=Pe;have gu:∀(i:Nat)(c:aS)(v:Value),(pre++args.toList.map (cf G σ.aJ)++post)[i]?=some c->(first++args.map a.eval++cap).toList[i]?=some v->b5 m ρ σ.used c v:=by
  intro i c v ao a6;simp only[Array.toList_append,Array.toList_map]at a6;have aL:first.toList.length=pre.length:=by simpa using nA
  by_cases ab:i<pre.length;.rw[xaQ,xaK ab]at ao;rw[xaQ,xaK (by omega)]at a6;exact aW i c v ao (by simpa using a6)
  .by_cases af:i<pre.length+args.size;.rw[xaK (by simp;omega),xaI (by omega)]at ao;rw[xaK (by simp;omega),xaI (by omega),aL]at a6;simp only[xaj,xah]at ao a6;obtain⟨p,aU,rfl⟩:=ao;obtain⟨q,bg,rfl⟩:=a6;rw[aU]at bg;cases bg;exact dx _
   rw[xaI (by simp;omega)]at ao;rw[xaI (by simp;omega)]at a6;refine a2 _ c v ao ?_;rw[<-a6];simp only[xaN,xaV,xcc,nA];simp
 have b6:(first++args.map a.eval++cap).toList.length=(pre++args.toList.map (cf G σ.aJ)++post).length:=by simp[nA,pY]
 have Pf:(execOp a.eval o).run P w= .ok (.enter f (first++args.map a.eval++cap)) w:=by unfold execOp;rw[eF];exact Wp vx aw.fn
 unfold Oper.wp;rw[Pf];rcases b7 with b7|b7
 ·
  have cZ:=qR.ok af (agy h b6 gu ab);have ss:=aw.run _ fr w _ (c2.mono (Den.AH m ρ σ.objs w)) h.We cZ;simp only[Array.toArray_toList]at ss;refine ss.mono λe w' he=>?_;obtain⟨v,cI,r,rfl,bw,bz,cz,eA⟩:=he;have bT:=h.agz bz cz;exact⟨_,m,ρ,cO r bw,Mem.le_refl m,bT.put (.d _ _ (D.O8 (b7 r bw) eA)) iy,sq v,me v,λk ak aj=>⟨by simpa using aj,rfl⟩⟩
 have Pg:xK m ng (first++args.map a.eval++cap).toList:=by obtain⟨aW,a2⟩:=qT ab;refine⟨by rw[b6,aW];simp,?_⟩;intro i d v aB a6;have bc:=a2 i d aB;rw[xaj,xah]at bc;obtain⟨y,aQ,tU⟩:=bc;exact Pd (xaz.1 b7 y (xaa aQ)) tU (gu i y v aQ a6)
 have ss:=aw.run m _ w _ c2 h.Wj (qR.ok af Pg);simp only[Array.toArray_toList]at ss;refine ss.mono λe w' he=>?_;obtain⟨v,cI,r,rfl,bw,bz,cz,eA⟩:=he;have bT:=h.kept bz cz;exact⟨_,cI,ρ,cO r bw,bz,bT.put (.d _ _ eA) iy,sq v,me v,λk ak aj=>⟨by simpa using aj,rfl⟩⟩
def Ph(bf:dQ P T)(c2:kp G m)(h:Den m fr ρ σ a w)(cj:N<=a.tmps.size)(hx:a.defers=[]){o:Oper}(gZ:∀d,o.dst=some d->d<N){K:aI->Prop}(ao:db P T G o K σ){Q:Exit->Act->World->Prop}:o.wp P a w (iV N m fr ρ σ K) Q:=by
 unfold db at ao;split at ao;.exact agD bf c2 h cj hx gZ (by assumption) ao
 exact agF c2 h cj hx gZ ao
def Pj(bf:dQ P T)(c2:kp G m)(h:Den m fr ρ σ a w)(cj:N<=a.tmps.size)(hx:a.defers=[]){all:Array Oper}{i:Nat}{o:Oper}(ah:all[i]?=some o)(gZ:∀d,o.dst=some d->d<N){K:aI->Prop}(ao:eu P T G all o K σ) {Q:Exit->Act->World->Prop}:wpOp P all Q i (iV N m fr ρ σ K) a w:=by
 have iy:∀d,o.dst=some d->d<a.tmps.size:=λd aB=>Nat.lt_of_lt_of_le (gZ d aB) cj;unfold wpOp;simp only[ah];unfold eu at ao;split at ao
 .rename_i cb;have:Region.wanted o (yielded all a.tmps)=true:=by simp[Region.wanted,cb]
  rw[xad this];exact .inl (Ph bf c2 h cj hx gZ ao)
 rename_i j want cb;split at ao
 case h_2=>cases ao
 rename_i d aB;have iW:∀v,a.tmps.getD d undef=v->yielded all a.tmps j=(match v with| .bool b=>some b|_=>none):=by intro v a6;unfold yielded;rw[aB];simp only[Option.bind_some];rw[xbv]at a6;cases cv:a.tmps[d]? with|none=>rw[cv]at a6;simp only[Option.getD_none]at a6;subst a6;rfl|some u=>rw[cv]at a6;simp only[xbc]at a6;subst a6;cases u<;>rfl
 have skip:Region.wanted o (yielded all a.tmps)=false->K (σ.put o.dst (.d (.val (.tuple #[]))))->iV N m fr ρ σ K (a.put o.dst undef) w:=λ_ ak=>⟨_,m,ρ,ak,Mem.le_refl m,h.put (.d _ _ (.val _)) iy,by cases o.dst<;>simpa[Act.put]using cj,by cases o.dst<;>exact hx,λk ak aj=>⟨by simpa using aj,rfl⟩⟩;split at ao
 .rename_i b aG;have a6:=h.aJ d;rw[aG]at a6;have aQ:=iW _ a6.hS;simp only at aQ;have hw:Region.wanted o (yielded all a.tmps)=(b==want):=by
   simp only[Region.wanted,cb,aQ];cases b<;>cases want<;>rfl
  by_cases aj:b=want;.rw[xad aj]at ao;rw[hw,xad (by simpa using aj)];exact .inl (Ph bf c2 h cj hx gZ ao)
  rw[xac aj]at ao;have bd:Region.wanted o (yielded all a.tmps)=false:=by rw[hw];simpa using aj
  rw[xac (by rw[bd];simp)];exact skip bd ao
 .rename_i vs aG;have a6:=h.aJ d;rw[aG]at a6;have aQ:=iW _ a6.hS;simp only at aQ;have bd:Region.wanted o (yielded all a.tmps)=false:=by
   simp only[Region.wanted,cb,aQ];rfl
  rw[xac (by rw[bd];simp)];exact skip bd ao
 cases ao
def wpOp_mono{ops:Array Oper}{Q:Exit->Act->World->Prop}{i:Nat}{K K':Act->World->Prop}(ak:∀a w,K a w->K' a w){a:Act}{w:World}(h:wpOp P ops Q i K a w):wpOp P ops Q i K' a w:=by
 unfold wpOp at*;split;.rename_i e;simp only[e]at h;exact ak _ _ h
 rename_i o e;simp only[e]at h;split
 .rename_i hw;rw[xad hw]at h;rcases h with h|h
  .refine .inl ?_;unfold Oper.wp at*;generalize (execOp a.eval o).run P w=r at*;cases r with
   |ok n w'=>
    cases n<;>simp only[Oper.upon]at h⊢<;>first|exact ak _ _ h|exact h|skip
    .refine h.mono λe kR he=>?_;cases e with|returned v=>exact ak _ _ he|panicked c=>exact he|outgrown=>exact he
    exact h.mono λv kR he=>ak _ _ he
   |halt x w'=>cases x<;>exact h
  exact .inr h
 rename_i hw;rw[xac hw]at h;exact ak _ _ h
end
def JP{ev iX:Operand->aS}{l:List Operand}(h:∀x∈l,ev x=iX x):l.map ev=l.map iX:=List.map_congr_left h
theorem Wq{ev iX:Operand->aS}{jS:Array (Nat×Operand)}(h:∀x∈(jS.toList.map (·.2)),ev x=iX x):(jS.toList.map λp=>(p.1,ev p.2))=jS.toList.map λp=>(p.1,iX p.2):=List.map_congr_left λp aU=>by rw[h p.2 (xax.2 ⟨p,aU,rfl⟩)]
def agG{T:cd}{ev iX:Operand->aS}{op:Op}(h:∀x∈op.operands.toList,ev x=iX x):eN T ev op=eN T iX op:=by
 cases op<;>simp only[eN]
 case move x=>rw[h x (by simp[Op.operands])]
 case assign x=>rw[h x (by simp[Op.operands])]
 case pick c a b=>rw[h c (by simp[Op.operands]),h a (by simp[Op.operands]),h b (by simp[Op.operands])]
 case binOp op t x y xz=>rw[h x (by simp[Op.operands]),h y (by simp[Op.operands])]
 case unOp op t x=>rw[h x (by simp[Op.operands])]
 case convert s t x=>rw[h x (by simp[Op.operands])]
 case fieldAddr s x f=>rw[h x (by simp[Op.operands])]
 case field s x f=>rw[h x (by simp[Op.operands])]
 case extract x i=>rw[h x (by simp[Op.operands])]
 case build t parts=>rw[Wq (by simpa[Op.operands]using h)]
 case index t x i=>rw[h x (by simp[Op.operands]),h i (by simp[Op.operands])]
 case makeFunc f first cap=>rw[JP (l:=first.toList) (λx ag=>h x (by simp[Op.operands]at ag⊢;exact .inl ag)),JP (l:=cap.toList) (λx ag=>h x (by simp[Op.operands]at ag⊢;exact .inr ag))]
 case makeInterface t x=>rw[h x (by simp[Op.operands])]
 case nilCheck x=>rw[h x (by simp[Op.operands])]
 case slice t x lo ah hr=>
  cases hr with
  |some _=>rfl
  |none=>
   simp only[eN];have aL:lo.map ev=lo.map iX:=by cases lo with|none=>rfl|some l=>simp only[xaO];rw[h l (by simp[Op.operands])]
   have aX:ah.map ev=ah.map iX:=by cases ah with|none=>rfl|some l=>simp only[xaO];rw[h l (by simp[Op.operands])]
   rw[h x (by simp[Op.operands]),aL,aX]
 case call c=>obtain⟨callee,args,dF⟩:=c;simp only;have e:args.toList.map ev=args.toList.map iX:=JP λx ag=>h x (by simp[Op.operands,Call.operands]at ag⊢;exact .inr ag);rw[e]
def agH{T:cd}{ev iX:Operand->aS}{objs:cG}{op:Op}(h:∀x∈op.operands.toList,ev x=iX x):dC T ev objs op=dC T iX objs op:=by
 cases op<;>simp only[dC]
 case load t a=>rw[h a (by simp[Op.operands])]
 case indexAddr t x fy=>rw[h x (by simp[Op.operands]),h fy (by simp[Op.operands])]
 case slice t x lo ah hr=>
  cases hr with
  |some _=>rfl
  |none=>
   simp only[dC];have aL:lo.map ev=lo.map iX:=by cases lo with|none=>rfl|some l=>simp only[xaO];rw[h l (by simp[Op.operands])]
   have aX:ah.map ev=ah.map iX:=by cases ah with|none=>rfl|some l=>simp only[xaO];rw[h l (by simp[Op.operands])]
   rw[h x (by simp[Op.operands]),aL,aX]
 case call c=>
  obtain⟨callee,args,dF⟩:=c;simp only;split
  .split
   .rename_i t x lF j5;have aE:args= #[x]:=by apply xbC;simpa using j5
    have e:ev x=iX x:=h x (by simp[Op.operands,Call.operands,aE]);rw[e]
   rfl
  rfl
 case lookup t x k ok=>rw[h x (by simp[Op.operands]),h k (by simp[Op.operands])]
 case binOp op t x y xz=>rw[h x (by simp[Op.operands]),h y (by simp[Op.operands])]
def agI{T:cd}{ev iX:Operand->aS}{objs:cG}{d:Key}{op:Op}(h:∀x∈op.operands.toList,ev x=iX x):eo T ev objs d op=eo T iX objs d op:=by
 cases op<;>simp only[eo]
 case box t x=>rw[h x (by simp[Op.operands])]
 case buildSlice t n parts=>rw[Wq (by simpa[Op.operands]using h)]
 case makeSlice t l c=>rw[h l (by simp[Op.operands]),h c (by simp[Op.operands])]
 case store t a x=>rw[h a (by simp[Op.operands]),h x (by simp[Op.operands])]
 case mapUpdate t m k x=>rw[h m (by simp[Op.operands]),h k (by simp[Op.operands]),h x (by simp[Op.operands])]
 case insert t m k x=>rw[h m (by simp[Op.operands]),h k (by simp[Op.operands]),h x (by simp[Op.operands])]
 case call c=>
  obtain⟨callee,args,dF⟩:=c;simp only;split
  .split
   .rename_i t t' s x lF j5;have aE:args= #[s,x]:=by apply xbC;simpa using j5
    have aL:ev s=iX s:=h s (by simp[Op.operands,Call.operands,aE]);have aX:ev x=iX x:=h x (by simp[Op.operands,Call.operands,aE]);rw[aL,aX]
   rfl
  .split
   .rename_i t t' s x lF j5;have aE:args= #[s,x]:=by apply xbC;simpa using j5
    have aL:ev s=iX s:=h s (by simp[Op.operands,Call.operands,aE]);have aX:ev x=iX x:=h x (by simp[Op.operands,Call.operands,aE]);rw[aL,aX]
   rfl
  .split
   .rename_i t s lF j5;have aE:args= #[s]:=by apply xbC;simpa using j5
    rw[h s (by simp[Op.operands,Call.operands,aE])]
   rfl
  rfl
def agJ{T:cd}{ev iX:Operand->aS}{objs:cG}{d:Key}{op:Op}(h:∀x∈op.operands.toList,ev x=iX x):hb T ev objs d op=hb T iX objs d op:=by unfold hb;rw[agI h]
def iM:Op->Bool
 | .move _| .assign _| .pick ..| .unOp ..| .convert ..| .fieldAddr ..| .field ..| .extract ..| .build ..| .index ..| .makeFunc ..| .makeInterface ..| .nilCheck _=>true|_=>false
def jc:Op->Bool
 | .load ..| .indexAddr ..| .slice ..| .lookup ..| .binOp ..=>true| .call ⟨.builtin b,_,_⟩=>match b with| .len| .max| .min=>true|_=>false
 |_=>false
def hy:Op->Bool
 | .call ⟨.value _,_,_⟩=>true|_=>false
def p2:Op->Bool
 | .alloc _| .box ..| .buildSlice ..=>true|_=>false
theorem AL{T:cd}{ev:Operand->aS}{objs:cG}{d:Key}{op:Op}(h:iM op=true):dC T ev objs op=none/\hb T ev objs d op=none:=by cases op<;>first|exact⟨rfl,rfl⟩|cases h
def AM{T:cd}{ev:Operand->aS}{objs:cG}{d:Key}{op:Op}(h:jc op=true):hb T ev objs d op=none:=by
 cases op
 case call c=>
  obtain⟨callee,args,dF⟩:=c;cases callee with
  |value=>cases h
  |invoke=>cases h
  |builtin b=>cases b<;>first|rfl|cases h
 all_goals first|rfl|cases h
def Pk{T:cd}{ev:Operand->aS}{objs:cG}{d:Key}{op:Op}(h:hy op=true):eN T ev op=none/\dC T ev objs op=none/\hb T ev objs d op=none:=by
 cases op
 case call c=>
  obtain⟨callee,args,dF⟩:=c;cases callee with
  |value=>exact⟨rfl,rfl,rfl⟩|invoke=>cases h
  |builtin b=>cases h
 all_goals cases h
theorem qU{T:cd}{ev:Operand->aS}{objs:cG}{op:Op}(h:p2 op=true):eN T ev op=none/\dC T ev objs op=none:=by cases op<;>first|exact⟨rfl,rfl⟩|cases h
def agK{T:cd}{ev:Operand->aS}{objs objs':cG}{d:Key}{op:Op}(h:p2 op=true)(au:objs' d=none){r:aS}{cA:List (Key×cR)}(he:eo T ev objs d op=some (r,cA)):eo T ev objs' d op=some (r,cA)/\objs d=none/\∃o,cA=[(d,o)]:=by
 cases op
 case alloc t=>
  simp only[eo]at he⊢;split at he
  case h_2=>cases he
  rename_i i aK aB;cases he;exact⟨by simp only[au,aK],aB,_,rfl⟩
 case box t x=>
  simp only[eo]at he⊢;split at he
  case h_2=>cases he
  rename_i cs ao aB;cases he;exact⟨by simp only[au,ao],aB,_,rfl⟩
 case buildSlice t n parts=>
  simp only[eo]at he⊢;split at he
  case h_2=>cases he
  rename_i e s b z aK aB;simp only[au,aK];split at he
  case h_2=>cases he
  rename_i bh iK
  try simp only[iK]
  split at he
  case h_2=>cases he
  rename_i es aU
  try simp only[aU]
  split at he
  case isFalse=>cases he
  rename_i ao;cases he;exact⟨by rw[xad ao],aB,_,rfl⟩
 all_goals cases h
def AN{T:cd}{ev:Operand->aS}{objs objs':cG}{d:Key}{op:Op}(h:p2 op=true)(au:objs' d=none){r:aS}{cA:List (Key×cR)}(he:hb T ev objs d op=some (r,cA)):hb T ev objs' d op=some (r,cA)/\objs d=none/\∃o,cA=[(d,o)]:=by
 obtain⟨⟨jA,sm⟩,o3,aj⟩:=vG he;obtain⟨aW,a2,o,rfl⟩:=agK (objs':=objs') h au o3;refine⟨by unfold hb;rw[aW];simp[aj],a2,?_⟩;rcases xJ (T.born d) d jA [(d,o)]with e|⟨n,es,aL,aX,e⟩|⟨dm,n,es,aL,aX,e⟩|⟨off,cs,aO,aL,aX,eO,e⟩;.rw[aj]at e;cases e;exact⟨o,rfl⟩
 .rw[aj]at e;cases e;exact⟨_,rfl⟩
 .cases aX
 rw[aj]at e;cases e;exact⟨_,rfl⟩
def cG.ext(objs objs':cG):Prop:=∀k o,objs k=some o->objs' k=some o
def cG.JQ{objs:cG}{k:Key}(h:objs k=none)(o:cR):objs.ext (cr objs k (some o)):=by
 intro j x ag;have:j≠k:=by rintro rfl;rw[h]at ag;cases ag
 rw[cX _ _ this];exact ag
def Wr{objs objs':cG}(h:objs.ext objs'){x:aS}{n:Nat}(aq:j4 objs x=some n):j4 objs' x=some n:=by
 unfold j4 at*;split at aq;.exact aq
 .exact aq
 .split at aq;.rename_i ak;rw[h _ _ ak];exact aq
  cases aq
 .exact aq
 cases aq
def JR{objs objs':cG}(h:objs.ext objs'){x:aS}{b:Bool}(aq:mG objs x=some b):mG objs' x=some b:=by
 unfold mG at*;split at aq;.exact aq
 .exact aq
 .split at aq;.rename_i ak;rw[h _ _ ak];exact aq
  cases aq
 cases aq
def Ws{objs objs':cG}(h:objs.ext objs'){x:aS}{d:D}(aq:qS objs x=some d):qS objs' x=some d:=by
 unfold qS at*;split at aq;.exact aq
 .split at aq;.rename_i ak;rw[h _ _ ak];exact aq
  cases aq
 .split at aq;.rename_i ak;rw[h _ _ ak];exact aq
  cases aq
 .split at aq;.rename_i ak;rw[h _ _ ak];exact aq
  cases aq
 cases aq
def o4{α:Type}{f g:aS->Option α}(h:∀x d,f x=some d->g x=some d):∀(l:List aS)(r:List α),hv (l.map f)=some r->hv (l.map g)=some r
 |[],r,av=>av
 |x::l,r,av=>by
  simp only[xaB]at av⊢;cases ag:f x with
  |none=>simp[ag,hv]at av
  |some d=>
   rw[ag]at av;simp only[hv]at av;split at av
   case h_2=>cases av
   rename_i sc du;rw[h x d ag];simp only[hv,o4 h l sc du];exact av
def JS{objs objs':cG}(h:objs.ext objs'){x:aS}{d:D}(aq:nd objs x=some d):nd objs' x=some d:=by
 unfold nd at*;split at aq
 .split at aq
  case h_2=>cases aq
  rename_i ak;simp only[h _ _ ak];split at aq
  case h_2=>cases aq
  rename_i cs hG;rw[o4 (λx d ag=>Ws h ag) _ _ hG];exact aq
 .exact aq
 exact Ws h aq
def Wt{objs objs':cG}(h:objs.ext objs'){x:aS}{d:D}(aq:og objs x=some d):og objs' x=some d:=by
 unfold og at*;split at aq
 .split at aq
  case h_2=>cases aq
  rename_i aO eO;rw[o4 (λx d ag=>JS h ag) _ _ eO];exact aq
 .split at aq
  case h_2=>cases aq
  rename_i as j7 has D2;rw[o4 (λx d ag=>JS h ag) _ _ has,o4 (λx d ag=>JS h ag) _ _ D2];exact aq
 exact JS h aq
def agL{objs objs':cG}(h:objs.ext objs'){x:aS}{d:D}(aq:toD objs x=some d):toD objs' x=some d:=by
 unfold toD at*;split at aq
 .split at aq
  case h_2=>cases aq
  rename_i aO eO;rw[o4 (λx d ag=>Wt h ag) _ _ eO];exact aq
 exact Wt h aq
def agM{T:cd}{ev:Operand->aS}{objs objs':cG}(h:objs.ext objs'){op:Op}{r:aS}(hm:dC T ev objs op=some r):dC T ev objs' op=some r:=by
 cases op<;>simp only[dC,reduceCtorEq]at hm⊢
 case load t a=>
  split at hm
  case h_2=>cases hm
  split at hm;.exact hm
  .split at hm
   case h_2=>cases hm
   rename_i ak;simp only[h _ _ ak];exact hm
  .split at hm
   case h_2=>cases hm
   rename_i ak;simp only[h _ _ ak];exact hm
  cases hm
 case indexAddr t x fy=>
  split at hm
  .split at hm
   case h_2=>cases hm
   split at hm
   case isFalse=>cases hm
   rename_i au;rw[xad au];split at hm;.exact hm
   .split at hm
    case h_2=>cases hm
    rename_i ak;simp only[h _ _ ak];exact hm
   .exact hm
   cases hm
  .exact hm
  cases hm
 case slice t x lo ah hr=>
  cases hr with
  |some _=>simp[dC]at hm
  |none=>
   simp only[dC]at hm⊢;split at hm
   case h_3=>cases hm
   case h_2=>exact hm
   split at hm
   case h_2=>cases hm
   split at hm
   case h_2=>cases hm
   rename_i n aM;simp only[Wr h aM];split at hm
   case h_2=>cases hm
   split at hm
   case isFalse=>cases hm
   rename_i ao;rw[xad ao];split at hm;.exact hm
   .split at hm
    case h_2=>cases hm
    rename_i ak;simp only[h _ _ ak];exact hm
   .exact hm
   cases hm
 case call c=>
  split at hm
  case h_2=>cases hm
  split at hm
  case h_2=>cases hm
  split at hm;.exact hm
  .split at hm
   case h_2=>cases hm
   rename_i n aM;simp only[Wr h aM];exact hm
  .exact hm
  .exact hm
  .split at hm
   case h_2=>cases hm
   rename_i ak;simp only[h _ _ ak];exact hm
  cases hm
 case lookup t x k ok=>
  split at hm
  case h_2=>cases hm
  split at hm;.exact hm
  .exact hm
  .split at hm
   case h_2=>cases hm
   rename_i ak;simp only[h _ _ ak];exact hm
  cases hm
 case binOp op t x y xz=>
  split at hm
  case h_2=>cases hm
  split at hm
  .split at hm
   .rename_i ao;rw[xad ao];split at hm
    case h_2=>cases hm
    rename_i b aj;simp only[JR h aj];exact hm
   rename_i ao;rw[xac ao];split at hm
   case isFalse=>cases hm
   rename_i o5;rw[xad o5];split at hm
   case h_2=>cases hm
   rename_i b aj;simp only[JR h aj];exact hm
  .split at hm
   .rename_i ao;rw[xad ao];split at hm
    case h_2=>cases hm
    rename_i b aj;simp only[JR h aj];exact hm
   rename_i ao;rw[xac ao];split at hm
   case isFalse=>cases hm
   rename_i o5;rw[xad o5];split at hm
   case h_2=>cases hm
   rename_i b aj;simp only[JR h aj];exact hm
  cases hm
def Wu:∀(cA:List (Key×cR)) {objs:cG} {k:Key} {o:cR},(∀p∈cA,p.1≠k)->dD (cr objs k (some o)) cA=cr (dD objs cA) k (some o)
 |[],objs,k,o,_=>rfl
 |(j,x)::r,objs,k,o,h=>by
  have aN:j≠k:=h (j,x) (by simp);simp only[dD];have e:cr (cr objs k (some o)) j (some x)=cr (cr objs j (some x)) k (some o):=by
   funext i
   simp only[cr];by_cases ab:i=j;.subst ab;simp[aN]
   by_cases af:i=k;.subst af;simp[ab]
   simp[ab,af]
  rw[e];exact Wu r (λp aU=>h p (by simp[aU]))
def JT{objs objs':cG}(h:objs.ext objs'){x:aS}{r:Nat×List (List D)}(aq:l9 objs x=some r):l9 objs' x=some r:=by
 unfold l9 at*;split at aq;.exact aq
 .exact aq
 .split at aq;.rename_i ak;rw[h _ _ ak];exact aq
  cases aq
 .split at aq;.rename_i ak;rw[h _ _ ak];exact aq
  cases aq
 cases aq
def agN{T:cd}{ev:Operand->aS}{objs objs':cG}(h:objs.ext objs'){d k:Key}(aB:d≠k)(ak:objs k=none)(j8:objs d=none->objs' d=none){op:Op}{r:aS}{cA:List (Key×cR)} (he:eo T ev objs d op=some (r,cA)):eo T ev objs' d op=some (r,cA)/\∀p∈cA,p.1≠k:=by
 have one:∀{o:cR},∀p∈[(d,o)],p.1≠k:=by intro o p aU;simp at aU;subst aU;exact aB
 have nF:∀{j:Key}{x o:cR},objs j=some x->∀p∈[(j,o)],p.1≠k:=by intro j x o aN p aU;simp at aU;subst aU;rintro rfl;rw[ak]at aN;cases aN
 cases op<;>simp only[eo,reduceCtorEq]at he
 case alloc t=>split at he<;>cases he;rename_i i aK au;exact⟨by simp only[eo,aK,j8 au],one⟩
 case box t x=>split at he<;>cases he;rename_i cs ao au;exact⟨by simp only[eo,ao,j8 au],one⟩
 case buildSlice t n parts=>
  split at he
  case h_2=>cases he
  rename_i e s b z aK au;split at he
  case h_2=>cases he
  rename_i bh iK;split at he
  case h_2=>cases he
  rename_i es aU;split at he
  case isFalse=>cases he
  rename_i ao;cases he;exact⟨by simp only[eo,aK,j8 au,iK,aU];rw[xad ao],one⟩
 case makeSlice t l c=>
  split at he
  case h_2=>cases he
  rename_i e s b z aK au;split at he
  case h_2=>cases he
  rename_i bh iK;split at he
  case h_2=>cases he
  rename_i JE agm JF agn ab af;split at he
  case isFalse=>cases he
  rename_i ao;cases he;exact⟨by simp only[eo,aK,j8 au,iK,ab,af];rw[xad ao],one⟩
 case makeMap t r=>split at he<;>cases he;rename_i au;exact⟨by simp only[eo,j8 au],one⟩
 case store t a x=>
  split at he
  case h_2=>cases he
  rename_i i cs aK ao;split at he
  case isFalse=>cases he
  rename_i aq;split at he
  .rename_i j off jz;split at he
   case h_2=>cases he
   rename_i cells aN;split at he
   case isFalse=>cases he
   rename_i bd;cases he;exact⟨by simp only[eo,aK,ao,jz,h _ _ aN];rw[xad aq,xad bd],nF aN⟩
  .rename_i j cQ fy off jz;split at he
   case h_2=>cases he
   rename_i bq es aO aN eO;split at he
   case isFalse=>cases he
   rename_i bd;split at he
   case h_2=>cases he
   rename_i el e3;cases he;exact⟨by simp only[eo,aK,ao,jz,h _ _ aN,eO];rw[xad aq,xad bd];simp only[e3],nF aN⟩
  cases he
 case mapUpdate t m agO x=>
  split at he
  case h_2=>cases he
  rename_i ia hi s b z aK;split at he
  case h_2=>cases he
  rename_i h0 sk;split at he
  case isFalse=>cases he
  rename_i dj;split at he
  case h_2=>cases he
  rename_i key fc O3 aL aX bL;split at he
  case h_2=>cases he
  rename_i es aN;split at he
  case h_2=>cases he
  rename_i l aq;cases he;exact⟨by simp only[eo,aK,sk,aL,aX,bL,h _ _ aN,aq];rw[xad dj],nF aN⟩
 case insert t m agO x=>
  split at he
  case h_2=>cases he
  rename_i ia hi s b z aK;split at he
  case h_2=>cases he
  rename_i h0 sk;split at he
  case isFalse=>cases he
  rename_i dj;split at he
  case h_2=>cases he
  rename_i key fc O3 aL aX bL;split at he
  case h_2=>cases he
  rename_i es aN;split at he
  case h_2=>cases he
  rename_i l aq;cases he;exact⟨by simp only[eo,aK,sk,aL,aX,bL,h _ _ aN,aq];rw[xad dj],nF aN⟩
 case call c=>
  obtain⟨callee,args,dF⟩:=c;simp only at he;split at he
  .split at he
   case h_2=>cases he
   rename_i t t' s x lF j5;split at he
   case h_2=>cases he
   rename_i e s1 eI hT dp s2 gW o2 aK tO au;split at he
   case h_2=>cases he
   rename_i bh iK;split at he
   case h_2=>cases he
   rename_i cQ xs nb;split at he
   case isFalse=>cases he
   rename_i ao;split at he
   .rename_i g9;split at he
    case isFalse=>cases he
    rename_i aj;cases he;exact⟨by simp only[eo,lF,j5,aK,tO,j8 au,iK,JT h nb,g9];rw[xad ao,xad aj],one⟩
   .rename_i key g9;split at he
    case h_2=>cases he
    rename_i bq es aN;split at he
    case isFalse=>cases he
    rename_i aj;cases he;refine⟨by simp only[eo,lF,j5,aK,tO,j8 au,iK,JT h nb,g9,h _ _ aN];rw[xad ao,xad aj],?_⟩;intro p aU;simp at aU;rcases aU with rfl|rfl
    .rintro rfl;rw[ak]at aN;cases aN
    exact aB
   cases he
  .split at he
   case h_2=>cases he
   rename_i t t' s x lF j5;split at he
   case h_2=>cases he
   rename_i e s1 eI hT aK;split at he
   case h_2=>cases he
   rename_i bh iK;split at he
   case h_2=>cases he
   rename_i cQ xs nb;split at he
   case isFalse=>cases he
   rename_i ao;split at he
   .rename_i key g9;split at he
    case h_2=>cases he
    rename_i bq es aN;split at he
    case isFalse=>cases he
    rename_i aj;cases he;exact⟨by simp only[eo,lF,j5,aK,iK,JT h nb,g9,h _ _ aN];rw[xad ao,xad aj],nF aN⟩
   .rename_i key dz i len g9;split at he
    case h_2=>cases he
    rename_i bq es aN;split at he
    case isFalse=>cases he
    rename_i aj;cases he;exact⟨by simp only[eo,lF,j5,aK,iK,JT h nb,g9,h _ _ aN];rw[xad ao,xad aj],nF aN⟩
   cases he
  .split at he
   case h_2=>cases he
   rename_i t s lF j5;split at he
   case h_2=>cases he
   rename_i e s1 eI hT aK;split at he
   case h_2=>cases he
   rename_i bh iK;split at he
   case h_2=>cases he
   rename_i key dz i len g9;split at he
   case h_2=>cases he
   rename_i bq es aN;split at he
   case isFalse=>cases he
   rename_i aj;cases he;exact⟨by simp only[eo,lF,j5,aK,iK,g9,h _ _ aN];rw[xad aj],nF aN⟩
  cases he
def agP{T:cd}{ev:Operand->aS}{objs objs':cG}(h:objs.ext objs'){d k:Key}(aB:d≠k)(ak:objs k=none)(j8:objs d=none->objs' d=none){op:Op}{r:aS}{cA:List (Key×cR)} (he:hb T ev objs d op=some (r,cA)):hb T ev objs' d op=some (r,cA)/\∀p∈cA,p.1≠k:=by obtain⟨⟨jA,sm⟩,o3,aj⟩:=vG he;obtain⟨aW,a2⟩:=agN (objs':=objs') h aB ak j8 o3;refine⟨by unfold hb;rw[aW];simp[aj],λp aU=>?_⟩;have aw:=agt (b:=T.born d) (d:=d) (q:=(jA,sm)) p (by rw[aj];exact aU);obtain⟨oe,a4,b7⟩:=aw;rw[<-b7];exact a2 oe a4
def res(T:cd)(G:dn)(σ:aI)(o:Oper):Option (aS×List (Key×cR)):=match eN T (cf G σ.aJ) o.op with|some r=>some (r,[])|none=>match dC T (cf G σ.aJ) σ.objs o.op with|some r=>some (r,[])|none=>hb T (cf G σ.aJ) σ.objs (o.dst.getD 9999) o.op
def aI.step(σ:aI)(dst:Option Tmp)(r:aS)(cA:List (Key×cR)):aI:=aI.put ⟨σ.aJ,dD σ.objs cA⟩ dst r
theorem vM{T:cd}{G:dn}{σ:aI}{o:Oper}:gY T G σ o=(res T G σ o).map λp=>σ.step o.dst p.1 p.2:=by unfold gY res aI.step;cases eN T (cf G σ.aJ) o.op with|some r=>rfl|none=>cases dC T (cf G σ.aJ) σ.objs o.op with|some r=>rfl|none=>cases hb T (cf G σ.aJ) σ.objs (o.dst.getD 9999) o.op with|none=>rfl|some p=>obtain⟨r,cA⟩:=p;rfl
theorem agQ{G:dn}{σ:aI}{dst:Option Tmp}{r:aS}{x:Operand}(h:∀d,dst=some d->x≠ .tmp d):cf G (σ.put dst r).aJ x=cf G σ.aJ x:=by cases dst with|none=>rfl|some d=>cases x with|tmp t=>have:t≠d:=λe=>h d rfl (by rw[e]);simp only[cf,aI.put,cX _ _ this]|_=>rfl
theorem agR{all:Array Oper}{o:Oper}{d:Tmp}(h:d∉o.looksAt all):∀x∈o.op.operands.toList,x≠ .tmp d:=by rintro x ag rfl;exact h (by unfold Oper.looksAt;exact xbP _ (List.mem_filterMap.2 ⟨_,ag,rfl⟩))
def agS{all:Array Oper}{o:Oper}{d:Tmp}(h:d∉o.looksAt all){j:Nat}{b:Bool}(cb:o.guard=some (j,b)){e:Tmp}(he:(all[j]?).bind (·.dst)=some e):e≠d:=by rintro rfl;exact h (by unfold Oper.looksAt;exact List.mem_append_right _ (by simp[cb,he]))
def put_comm{σ:aI}{x y:Option Tmp}{r s:aS}(h:∀d,x=some d->y≠some d):(σ.put x r).put y s=(σ.put y s).put x r:=by
 cases x with
 |none=>rfl
 |some d=>
  cases y with
  |none=>rfl
  |some e=>
   have cU:d≠e:=λhe=>h d rfl (by rw[he]);simp only[aI.put]
   congr 1
   funext t
   simp only[cr];by_cases ab:t=d;.subst ab;simp[cU]
   by_cases af:t=e;.subst af;simp[ab]
   simp[ab,af]
def pass(x y:Oper):Bool:=iM x.op||iM y.op||((jc x.op||hy x.op)&&(jc y.op||hy y.op)&&!(hy x.op&&hy y.op))||(p2 y.op&&match y.dst with|some d=>decide (d<9999)|none=>false)
def jT(all:Array Oper)(σ:aI)(o:Oper):Option Bool:=match o.guard with
 |none=>some true
 |some (j,want)=>match(all[j]?).bind (·.dst)with
  |some d=>match σ.aJ d with| .d (.val (.bool b))=>some (decide (b=want))| .d (.val (.tuple _))=>some false|_=>none
  |none=>none
section
variable{P:Program}{T:cd}{G:dn}{all:Array Oper}
def hH{o:Oper}{K:aI->Prop}{σ:aI}:eu P T G all o K σ=match jT all σ o with|some true=>db P T G o K σ|some false=>K (σ.put o.dst (.d (.val (.tuple #[]))))|none=>False:=by
 unfold eu jT;cases cb:o.guard with
 |none=>rfl
 |some p=>
  obtain⟨j,want⟩:=p;simp only;cases aB:(all[j]?).bind (·.dst)with
  |none=>rfl
  |some d=>
   simp only;generalize σ.aJ d=x;cases x with
   |d x=>
    cases x with
    |val v=>cases v with|bool b=>by_cases h:b=want<;>simp[h]|_=>rfl
    |_=>rfl
   |_=>rfl
def oh{o:Oper}{σ:aI}{dst:Option Tmp}{r:aS}(h:∀d,dst=some d->d∉o.looksAt all):jT all (σ.put dst r) o=jT all σ o:=by
 unfold jT;split;.rfl
 rename_i j want cb;split
 .rename_i e he;have aG:(σ.put dst r).aJ e=σ.aJ e:=by
   cases dst with|none=>rfl|some d=>simp only[aI.put,cX _ _ (agS (h d rfl) cb he)]
  rw[aG]
 rfl
def Wv{o:Oper}{σ:aI}{dst:Option Tmp}{r:aS}(h:∀d,dst=some d->d∉o.looksAt all):∀x∈o.op.operands.toList,cf G (σ.put dst r).aJ x=cf G σ.aJ x:=λx ag=>agQ λd aB=>agR (h d aB) x ag
def agT{o:Oper}{σ:aI}{dst:Option Tmp}{r:aS}(h:∀d,dst=some d->d∉o.looksAt all):res T G (σ.put dst r) o=res T G σ o:=by have dx:=Wv (G:=G) (σ:=σ) (r:=r) h;unfold res;rw[agG dx,agH dx,agJ dx,aI.vJ]
theorem agU{σ:aI}{JU Pl:Option Tmp}{r s:aS}{cA:List (Key×cR)}(h:∀d,JU=some d->Pl≠some d):(σ.put JU r).step Pl s cA=(σ.step Pl s cA).put JU r:=by unfold aI.step;rw[<-put_comm h];cases JU<;>rfl
def agV{o:Oper}{σ:aI}{dst:Option Tmp}{r:aS}{K:aI->Prop}(h:∀d,dst=some d->d∉o.looksAt all)(cU:∀d,dst=some d->o.dst≠some d):jB P G o (σ.put dst r) K=jB P G o σ (λaV=>K (aV.put dst r)):=by
 have dx:=Wv (G:=G) (σ:=σ) (r:=r) h;unfold jB;split
 .rename_i x args dF eF;have aL:cf G (σ.put dst r).aJ x=cf G σ.aJ x:=dx x (by rw[eF];simp[Op.operands,Call.operands]);have aX:args.toList.map (cf G (σ.put dst r).aJ)=args.toList.map (cf G σ.aJ):=JP λy aQ=>dx y (by rw[eF];simp[Op.operands,Call.operands];exact .inr (by simpa using aQ));rw[aL];split
  .rename_i f pre post gT;unfold Wo;rw[aX,aI.vJ];simp only[put_comm cU]
  rfl
 rfl
def jC{o:Oper}{σ:aI}{dst:Option Tmp}{r:aS}{K:aI->Prop}(h:∀d,dst=some d->d∉o.looksAt all)(cU:∀d,dst=some d->o.dst≠some d):db P T G o K (σ.put dst r)=db P T G o (λaV=>K (aV.put dst r)) σ:=by unfold db;rw[vM,vM,agT h];cases av:res T G σ o with|none=>exact agV h cU|some p=>simp only[xaO,agU cU]
def agW{ev:Operand->aS}{objs:cG}{d:Key}{op:Op}{p:aS×List (Key×cR)}(h:hb T ev objs d op=some p)(objs':cG):eN T ev op=none/\dC T ev objs' op=none:=by
 obtain⟨q,ab,_⟩:=vG h;clear h;cases op<;>first|exact⟨rfl,rfl⟩|(simp only[eo,reduceCtorEq]at ab;done)|skip
 case call c=>obtain⟨callee,args,dF⟩:=c;cases callee with|value=>exact⟨rfl,rfl⟩|invoke=>exact⟨rfl,rfl⟩|builtin b=>cases b<;>first|exact⟨rfl,rfl⟩|(simp only[eo,reduceCtorEq]at ab;done)
def agX{ev:Operand->aS}{op:Op}{r:aS}(h:eN T ev op=some r):iM op=true\/jc op=true:=by
 cases op
 case call c=>obtain⟨callee,args,dF⟩:=c;cases callee with|value=>exact absurd h (by simp[eN])|invoke=>exact absurd h (by simp[eN])|builtin b=>cases b<;>first|exact .inr rfl|exact absurd h (by simp[eN])
 all_goals first|exact .inl rfl|exact .inr rfl|exact absurd h (by simp[eN])
def agY{ev:Operand->aS}{objs:cG}{op:Op}{r:aS}(h:dC T ev objs op=some r):iM op=true\/jc op=true:=by
 cases op
 case call c=>obtain⟨callee,args,dF⟩:=c;cases callee with|value=>exact absurd h (by simp[dC])|invoke=>exact absurd h (by simp[dC])|builtin b=>cases b<;>first|exact .inr rfl|exact absurd h (by simp[dC])
 all_goals first|exact .inl rfl|exact .inr rfl|exact absurd h (by simp[dC])
def Ww:∀(cA:List (Key×cR)) {objs:cG} {k:Key},dD objs cA k=none->objs k=none/\∀p∈cA,p.1≠k
 |[],objs,k,h=>⟨h,by simp⟩
 |(j,x)::r,objs,k,h=>by
  obtain⟨ab,af⟩:=Ww r h;have aN:j≠k:=by rintro rfl;rw[e4]at ab;cases ab
  rw[cX _ _ (Ne.symm aN)]at ab;exact⟨ab,by intro p aU;rcases xao.1 aU with rfl|aU;exact aN;exact af p aU⟩
def xM{o:Oper}{σ:aI}{K:aI->Prop}(h:jB P G o σ K):hy o.op=true:=by
 unfold jB at h;split at h;.rename_i x args dF eF;rw[eF];rfl
 cases h
def D4{op:Op}(h:hy op=true):iM op=false/\jc op=false/\p2 op=false:=by
 cases op<;>first|cases h|skip
 case call c=>
  obtain⟨callee,args,dF⟩:=c;cases callee with
  |value=>exact⟨rfl,rfl,rfl⟩|invoke=>cases h
  |builtin b=>cases h
def agZ{o:Oper}{aJ:Nat->aS}{objs objs':cG}(h:objs.ext objs'){r:aS}(av:res T G ⟨aJ,objs⟩ o=some (r,[]))(ak:iM o.op=true\/jc o.op=true):res T G ⟨aJ,objs'⟩ o=some (r,[]):=by
 unfold res at*;simp only at*;split at av;.exact av
 rename_i aU;split at av;.rename_i JV hm;simp only[agM h hm];exact av
 rename_i hm;rcases ak with ak|ak
 .rw[(AL (T:=T) (ev:=cf G aJ) (objs:=objs) (d:=o.dst.getD 9999) ak).2]at av;cases av
 rw[AM ak]at av;cases av
def JW{o:Oper}{σ:aI}{r:aS}{cA:List (Key×cR)}(av:res T G σ o=some (r,cA))(ak:iM o.op=true\/jc o.op=true):cA=[]:=by
 unfold res at av;split at av;.cases av;rfl
 split at av;.cases av;rfl
 rcases ak with ak|ak;.rw[(AL (T:=T) (ev:=cf G σ.aJ) (objs:=σ.objs) (d:=o.dst.getD 9999) ak).2]at av;cases av
 rw[AM ak]at av;cases av
def Wx{o:Oper}{aJ:Nat->aS}{objs objs':cG}{p:aS×List (Key×cR)}(av:res T G ⟨aJ,objs⟩ o=some p)(ak:iM o.op=true):res T G ⟨aJ,objs'⟩ o=some p/\p.2=[]:=by
 unfold res at*;simp only at*;split at av;.cases av;exact⟨rfl,rfl⟩
 rw[(AL (T:=T) (ev:=cf G aJ) (objs:=objs) (d:=o.dst.getD 9999) ak).1,(AL (T:=T) (ev:=cf G aJ) (objs:=objs) (d:=o.dst.getD 9999) ak).2]at av;cases av
def tV{o:Oper}{σ:aI}(ak:hy o.op=true):res T G σ o=none:=by unfold res;obtain⟨ab,af,aw⟩:=Pk (T:=T) (ev:=cf G σ.aJ) (objs:=σ.objs) (d:=o.dst.getD 9999) ak;rw[ab,af,aw]
theorem mf{o:Oper}{σ:aI}{K:aI->Prop}{r:aS}{cA:List (Key×cR)}(av:res T G σ o=some (r,cA)):db P T G o K σ=K (σ.step o.dst r cA):=by unfold db;rw[vM,av];rfl
theorem nG{o:Oper}{σ:aI}{K:aI->Prop}(av:res T G σ o=none):db P T G o K σ=jB P G o σ K:=by unfold db;rw[vM,av];rfl
def D5{o:Oper}{σ:aI}{K K':aI->Prop}(h:jB P G o σ K)(ak:∀r,K (σ.put o.dst r)->K' (σ.put o.dst r)):jB P G o σ K':=by
 unfold jB at*;split
 .rename_i x args dF eF;rw[eF]at h;simp only at h;split;.rename_i f pre post gT;simp only[gT]at h;obtain⟨ng,aO,R,ab,af,aw,a4,b7,cO⟩:=h;exact⟨ng,aO,R,ab,af,aw,a4,b7,λr av=>ak _ (cO r av)⟩
  rename_i gT;simp only[gT]at h
 rename_i eF;split at h;.rename_i x args dF e;exact absurd e (eF x args dF)
 exact h
def Wy{x y:Oper}{σ:aI}{K:aI->Prop}(ab:∀d,x.dst=some d->d∉y.looksAt all)(af:∀d,x.dst=some d->y.dst≠some d)(aw:∀d,y.dst=some d->d∉x.looksAt all)(aU:pass x y=true) (h:db P T G x (λgw=>db P T G y K gw) σ):db P T G y (λgf=>db P T G x K gf) σ:=by
 have hZ:∀d,y.dst=some d->x.dst≠some d:=λd aB ag=>af d ag aB;obtain⟨aJ,objs⟩:=σ;have D6:∀{o:Oper}{r:aS}{u:List (Key×cR)},aI.step ⟨aJ,objs⟩ o.dst r u=aI.put ⟨aJ,dD objs u⟩ o.dst r:=rfl;cases kv:res T G ⟨aJ,objs⟩ x with
 |none=>
  rw[nG kv]at h;have D7:=xM h;obtain⟨mg,tW,Wz⟩:=D4 D7;have aQ:(iM y.op=true\/jc y.op=true)\/(p2 y.op=true/\∃d,y.dst=some d/\d<9999):=by simp only[pass,mg,tW,D7,xbN,xbE]at aU;cases mh:iM y.op with|true=>exact .inl (.inl rfl)|false=>cases eb:jc y.op with|true=>exact .inl (.inr rfl)|false=>simp only[mh,eb,xbN]at aU;cases dy:p2 y.op with|false=>simp[dy]at aU|true=>refine .inr ⟨rfl,?_⟩;simp only[dy,xbE]at aU;cases aB:y.dst with|none=>simp[aB]at aU|some d=>simp[aB]at aU;exact⟨d,rfl,aU⟩
  have vL:hy y.op=false:=by
   cases b8:hy y.op with
   |false=>rfl
   |true=>
    obtain⟨a,b,c⟩:=D4 b8;rcases aQ with(e|e)|⟨e,_⟩;.rw[a]at e;cases e
    .rw[b]at e;cases e
    rw[c]at e;cases e
  unfold jB at h;split at h
  case h_2=>cases h
  rename_i WA args dF eF;split at h
  case h_2=>cases h
  rename_i f pre post gT;obtain⟨ng,aO,R,bw,bz,cz,⟨jA,rfl⟩,fq,hc⟩:=h;have AO:db P T G y K (aI.put ⟨aJ,objs⟩ x.dst (.d jA)):=hc jA rfl;rw[jC ab af]at AO;cases jU:res T G ⟨aJ,objs⟩ y with
  |none=>rw[nG jU]at AO;have:=xM AO;rw[vL]at this;cases this
  |some p=>
   obtain⟨p3,qV⟩:=p;rw[mf jU];have o6:cG.ext objs (dD objs qV):=by
    rcases aQ with aQ|⟨aQ,_⟩;.rw[JW jU aQ];exact λ_ _ h=>h
    have vN:hb T (cf G aJ) objs (y.dst.getD 9999) y.op=some (p3,qV):=by unfold res at jU;simp only[(qU (T:=T) (ev:=cf G aJ) (objs:=objs) aQ).1,(qU (T:=T) (ev:=cf G aJ) (objs:=objs) aQ).2]at jU;exact jU
    obtain⟨bF,aM,o,rfl⟩:=AN (objs':=λ_=>none) aQ rfl vN;exact cG.JQ aM o
   show db P T G x K (aI.step ⟨aJ,objs⟩ y.dst p3 qV);rw[D6,jC aw hZ,nG (tV D7)];unfold jB;rw[eF];simp only[gT];refine⟨ng,aO,_,o4 (λx d ag=>agL o6 ag) _ _ bw,bz,cz,⟨jA,rfl⟩,fq,λr av=>?_⟩;have WB:db P T G y K (aI.put ⟨aJ,objs⟩ x.dst (.d r)):=hc r av;rw[jC ab af,mf jU,D6,put_comm hZ]at WB;exact WB
 |some p=>
  obtain⟨rx,o7⟩:=p;rw[mf kv,D6,jC ab af]at h;cases jU:res T G ⟨aJ,dD objs o7⟩ y with
  |none=>
   rw[nG jU]at h;have vL:=xM h;obtain⟨mg,tW,Wz⟩:=D4 vL;have ag:iM x.op=true\/jc x.op=true:=by simp only[pass,mg,tW,Wz,vL,xbN,Bool.or_false,xbk,xbs,Bool.or_true]at aU;cases mh:iM x.op with|true=>exact .inl rfl|false=>cases eb:jc x.op with|true=>exact .inr rfl|false=>cases b8:hy x.op<;>simp[mh,eb,b8]at aU
   have JX:=JW kv ag;subst JX;rw[nG (show res T G ⟨aJ,objs⟩ y=none from jU)];refine D5 h λr av=>?_;rw[jC aw hZ,mf kv,D6,put_comm af];exact av
  |some p=>
   obtain⟨p3,qV⟩:=p;rw[mf jU]at h;have vO:aI.step ⟨aJ,dD objs o7⟩ y.dst p3 qV=aI.put ⟨aJ,dD (dD objs o7) qV⟩ y.dst p3:=rfl;rw[vO]at h;have Pm:∀{xN:List (Key×cR)} {JY:aS},res T G ⟨aJ,objs⟩ y=some (JY,xN)->(∃D8,res T G ⟨aJ,dD objs xN⟩ x=some (rx,D8)/\JY=p3/\dD (dD objs xN) D8=dD (dD objs o7) qV)->db P T G y (λgf=>db P T G x K gf) ⟨aJ,objs⟩:=by rintro xN JY aL ⟨D8,aX,rfl,bL⟩;rw[mf aL];show db P T G x K (aI.step ⟨aJ,objs⟩ y.dst JY xN);rw[D6,jC aw hZ,mf aX];have:aI.step ⟨aJ,dD objs xN⟩ x.dst rx D8=aI.put ⟨aJ,dD (dD objs xN) D8⟩ x.dst rx:=rfl;rw[this,bL,put_comm af];exact h
   by_cases D9:iM x.op=true\/jc x.op=true
   .have JX:=JW kv D9;subst JX;refine Pm jU ⟨[],?_,rfl,rfl⟩;by_cases JZ:iM y.op=true\/jc y.op=true;.rw[JW jU JZ];exact kv
    by_cases WC:iM x.op=true;.exact(Wx kv WC).1
    
    have aQ:p2 y.op=true:=by
     rw[not_or]at JZ;have an:iM x.op=false:=by simpa using WC
     have bb:iM y.op=false:=by simpa using JZ.1
     have b4:jc y.op=false:=by simpa using JZ.2
     simp only[pass,an,bb,b4,xbN]at aU;cases dy:p2 y.op with|true=>rfl|false=>cases b8:hy y.op with|false=>simp[dy,b8]at aU|true=>rw[tV b8]at jU;cases jU
    have vN:hb T (cf G aJ) objs (y.dst.getD 9999) y.op=some (p3,qV):=by have Pn:res T G ⟨aJ,objs⟩ y=some (p3,qV):=jU;unfold res at Pn;simp only[(qU (T:=T) (ev:=cf G aJ) (objs:=objs) aQ).1,(qU (T:=T) (ev:=cf G aJ) (objs:=objs) aQ).2]at Pn;exact Pn
    obtain⟨bF,aM,o,rfl⟩:=AN (objs':=λ_=>none) aQ rfl vN;exact agZ (cG.JQ aM o) kv D9
   rw[not_or]at D9;have an:iM x.op=false:=by simpa using D9.1
   have bb:jc x.op=false:=by simpa using D9.2
   have J0:hy x.op=false:=by cases b8:hy x.op with|false=>rfl|true=>rw[tV b8]at kv;cases kv
   by_cases WD:iM y.op=true;.obtain⟨aL,aX⟩:=Wx (objs':=objs) jU WD;simp only at aX;subst aX;exact Pm aL ⟨o7,kv,rfl,rfl⟩
   have b4:iM y.op=false:=by simpa using WD
   simp only[pass,an,bb,b4,J0,xbN,xbk]at aU;rw[xam]at aU;obtain⟨aQ,aB⟩:=aU;have tU:∃d,y.dst=some d/\d<9999:=by cases iy:y.dst with|none=>simp[iy]at aB|some d=>simp[iy]at aB;exact⟨d,rfl,aB⟩
   obtain⟨d,tU,WE⟩:=tU;have vN:hb T (cf G aJ) (dD objs o7) (y.dst.getD 9999) y.op=some (p3,qV):=by unfold res at jU;simp only[(qU (T:=T) (ev:=cf G aJ) (objs:=dD objs o7) aQ).1,(qU (T:=T) (ev:=cf G aJ) (objs:=dD objs o7) aQ).2]at jU;exact jU
   rw[tU]at vN;simp only[xbc]at vN;obtain⟨_,aM,o,rfl⟩:=AN (objs':=λ_=>none) aQ rfl vN;obtain⟨Po,JX⟩:=Ww o7 aM;obtain⟨ag0,_,_⟩:=AN (objs':=objs) aQ Po vN;have ag1:res T G ⟨aJ,objs⟩ y=some (p3,[(d,o)]):=by unfold res;simp only[(qU (T:=T) (ev:=cf G aJ) (objs:=objs) aQ).1,(qU (T:=T) (ev:=cf G aJ) (objs:=objs) aQ).2,tU,xbc];exact ag0
   have hex:hb T (cf G aJ) objs (x.dst.getD 9999) x.op=some (rx,o7):=by
    unfold res at kv;simp only at kv;split at kv;.rename_i ag2;exact absurd (agX ag2) (by simp[an,bb])
    split at kv;.rename_i ag3;exact absurd (agY ag3) (by simp[an,bb])
    exact kv
   have J1:x.dst.getD 9999≠d:=by cases J1:x.dst with|none=>simp only[Option.getD_none];exact λe=>by rw[<-e]at WE;exact absurd WE (xbR _)|some e=>simp only[xbc];rintro rfl;exact af e J1 tU
   obtain⟨WG,cU⟩:=agP (T:=T) (ev:=cf G aJ) (cG.JQ Po o) J1 Po (λau=>by rw[cX _ _ J1];exact au) hex;refine Pm ag1 ⟨o7,?_,rfl,Wu o7 cU⟩;obtain⟨cE,dz⟩:=agW WG (cr objs d (some o));show res T G ⟨aJ,cr objs d (some o)⟩ x=some (rx,o7);unfold res;simp only[cE,dz];exact WG
def p4{o:Oper}{σ:aI}{K K':aI->Prop}(ak:∀σ,K σ->K' σ)(h:db P T G o K σ):db P T G o K' σ:=by
 unfold db at*;split;.rename_i e;rw[e]at h;exact ak _ h
 rename_i e;rw[e]at h;exact D5 h λr av=>ak _ av
def Ea{o:Oper}{σ:aI}{K K':aI->Prop}(ak:∀σ,K σ->K' σ)(h:eu P T G all o K σ):eu P T G all o K' σ:=by
 rw[hH]at*;split;.rename_i e;rw[e]at h;exact p4 ak h
 .rename_i e;rw[e]at h;exact ak _ h
 rename_i e;rw[e]at h;exact h
def vP{o:Oper}{σ:aI}{K K':aI->Prop}(ak:∀objs r,K (aI.put ⟨σ.aJ,objs⟩ o.dst r)->K' (aI.put ⟨σ.aJ,objs⟩ o.dst r))(h:db P T G o K σ):db P T G o K' σ:=by unfold db at*;rw[vM]at*;cases av:res T G σ o with|none=>simp only[av,xbn]at h⊢;exact D5 h λr av=>ak σ.objs r av|some p=>simp only[av,xaO]at h⊢;exact ak _ _ h
def swap{x y:Oper}{σ:aI}{K:aI->Prop}(hz:x.apart all y=true)(aU:pass x y=true)(h:eu P T G all x (λgw=>eu P T G all y K gw) σ):eu P T G all y (λgf=>eu P T G all x K gf) σ:=by
 obtain⟨an,bb,b4⟩:=Oper.apart_spec hz;have mL:∀d,y.dst=some d->x.dst≠some d:=λd aB ag=>bb d ag aB;rw[hH]at h;have Pp:∀(objs:cG)(r:aS),jT all (aI.put ⟨σ.aJ,objs⟩ x.dst r) y=jT all σ y:=λobjs r=>by rw[oh an];rfl
 have Eb:∀(objs:cG)(r:aS),jT all (aI.put ⟨σ.aJ,objs⟩ y.dst r) x=jT all σ x:=λobjs r=>by rw[oh b4];rfl
 split at h
 .rename_i ag;rw[hH];have bx:db P T G x (λgw=>match jT all σ y with|some true=>db P T G y K gw|some false=>K (gw.put y.dst (.d (.val (.tuple #[]))))|none=>False) σ:=by
   refine vP (λobjs r ak=>?_) h;rw[hH,Pp]at ak;exact ak
  cases xO:jT all σ y with
  |none=>
   simp only[xO]at bx;unfold db at bx;split at bx;.exact bx
   unfold jB at bx;split at bx
   .split at bx;.obtain⟨_,_,_,_,_,_,⟨r,rfl⟩,_,q⟩:=bx;exact q r rfl
    exact bx
   exact bx
  |some b=>
   cases b with
   |false=>
    simp only[xO]at bx;show eu P T G all x K (σ.put y.dst (.d (.val (.tuple #[]))));rw[hH];have:jT all (σ.put y.dst (.d (.val (.tuple #[])))) x=some true:=by rw[oh b4];exact ag
    simp only[this];rw[jC b4 mL];exact bx
   |true=>simp only[xO]at bx;have af:=Wy an bb b4 aU bx;show db P T G y (λgf=>eu P T G all x K gf) σ;refine vP (λobjs r ak=>?_) af;rw[hH,Eb,ag];exact ak
 .rename_i ag;rw[hH,oh an]at h;rw[hH];split at h
  .rename_i aQ
   try simp only[aQ]
   rw[jC an bb]at h;refine vP (λobjs r ak=>?_) h;rw[hH,Eb,ag];exact ak
  .rename_i aQ
   try simp only[aQ]
   show eu P T G all x K (σ.put y.dst (.d (.val (.tuple #[]))));rw[hH,oh b4,ag];show K _;rw[put_comm mL];exact h
  exact h.elim
 exact h.elim
def ag4{o:Oper}{σ:aI}{K K':aI->Prop}(h:db P T G o K σ)(ak:∀aV r,aV=σ.put o.dst (.d r)->K aV->K' aV)(b8:hy o.op=true):db P T G o K' σ:=by
 rw[nG (tV b8)]at h⊢;unfold jB at*;split
 .rename_i x args dF eF;rw[eF]at h;simp only at h;split;.rename_i f pre post gT;simp only[gT]at h;obtain⟨ng,aO,R,ab,af,aw,a4,b7,cO⟩:=h;exact⟨ng,aO,R,ab,af,aw,a4,b7,λr av=>ak _ r rfl (cO r av)⟩
  rename_i gT;simp only[gT]at h
 rename_i eF;split at h;.rename_i x args dF e;exact absurd e (eF x args dF)
 exact h
def cG.low(objs objs':cG):Prop:=∀k o,objs k=some o->o≠ .dead->objs' k=some o
def WH{objs objs':cG}(h:objs.low objs'){x:aS}{d:D}(aq:qS objs x=some d):qS objs' x=some d:=by
 unfold qS at*;split at aq;.exact aq
 .split at aq;.rename_i ak;rw[h _ _ ak (by simp)];exact aq
  cases aq
 .split at aq;.rename_i ak;rw[h _ _ ak (by simp)];exact aq
  cases aq
 .split at aq;.rename_i ak;rw[h _ _ ak (by simp)];exact aq
  cases aq
 cases aq
def J2{objs objs':cG}(h:objs.low objs'){x:aS}{d:D}(aq:nd objs x=some d):nd objs' x=some d:=by
 unfold nd at*;split at aq
 .split at aq
  case h_2=>cases aq
  rename_i ak;simp only[h _ _ ak (by simp)];split at aq
  case h_2=>cases aq
  rename_i cs hG;rw[o4 (λx d ag=>WH h ag) _ _ hG];exact aq
 .exact aq
 exact WH h aq
def WI{objs objs':cG}(h:objs.low objs'){x:aS}{d:D}(aq:og objs x=some d):og objs' x=some d:=by
 unfold og at*;split at aq
 .split at aq
  case h_2=>cases aq
  rename_i aO eO;rw[o4 (λx d ag=>J2 h ag) _ _ eO];exact aq
 .split at aq
  case h_2=>cases aq
  rename_i as j7 has D2;rw[o4 (λx d ag=>J2 h ag) _ _ has,o4 (λx d ag=>J2 h ag) _ _ D2];exact aq
 exact J2 h aq
def ag5{objs objs':cG}(h:objs.low objs'){x:aS}{d:D}(aq:toD objs x=some d):toD objs' x=some d:=by
 unfold toD at*;split at aq
 .split at aq
  case h_2=>cases aq
  rename_i aO eO;rw[o4 (λx d ag=>WI h ag) _ _ eO];exact aq
 exact WI h aq
def WJ{objs objs':cG}(h:objs.low objs'){x:aS}{n:Nat}(aq:j4 objs x=some n):j4 objs' x=some n:=by
 unfold j4 at*;split at aq;.exact aq
 .exact aq
 .split at aq;.rename_i ak;rw[h _ _ ak (by simp)];exact aq
  cases aq
 .exact aq
 cases aq
def J3{objs objs':cG}(h:objs.low objs'){x:aS}{b:Bool}(aq:mG objs x=some b):mG objs' x=some b:=by
 unfold mG at*;split at aq;.exact aq
 .exact aq
 .split at aq;.rename_i ak;rw[h _ _ ak (by simp)];exact aq
  cases aq
 cases aq
def ag6{T:cd}{ev:Operand->aS}{objs objs':cG}(h:objs.low objs'){op:Op}{r:aS}(hm:dC T ev objs op=some r):dC T ev objs' op=some r:=by
 cases op<;>simp only[dC,reduceCtorEq]at hm⊢
 case load t a=>
  split at hm
  case h_2=>cases hm
  split at hm;.exact hm
  .split at hm
   case h_2=>cases hm
   rename_i ak;simp only[h _ _ ak (by simp)];exact hm
  .split at hm
   case h_2=>cases hm
   rename_i ak;simp only[h _ _ ak (by simp)];exact hm
  cases hm
 case indexAddr t x fy=>
  split at hm
  .split at hm
   case h_2=>cases hm
   split at hm
   case isFalse=>cases hm
   rename_i au;rw[xad au];split at hm;.exact hm
   .split at hm
    case h_2=>cases hm
    rename_i ak;simp only[h _ _ ak (by simp)];exact hm
   .exact hm
   cases hm
  .exact hm
  cases hm
 case slice t x lo ah hr=>
  cases hr with
  |some _=>simp[dC]at hm
  |none=>
   simp only[dC]at hm⊢;split at hm
   case h_3=>cases hm
   case h_2=>exact hm
   split at hm
   case h_2=>cases hm
   split at hm
   case h_2=>cases hm
   rename_i n aM;simp only[WJ h aM];split at hm
   case h_2=>cases hm
   split at hm
   case isFalse=>cases hm
   rename_i ao;rw[xad ao];split at hm;.exact hm
   .split at hm
    case h_2=>cases hm
    rename_i ak;simp only[h _ _ ak (by simp)];exact hm
   .exact hm
   cases hm
 case call c=>
  split at hm
  case h_2=>cases hm
  split at hm
  case h_2=>cases hm
  split at hm;.exact hm
  .split at hm
   case h_2=>cases hm
   rename_i n aM;simp only[WJ h aM];exact hm
  .exact hm
  .exact hm
  .split at hm
   case h_2=>cases hm
   rename_i ak;simp only[h _ _ ak (by simp)];exact hm
  cases hm
 case lookup t x k ok=>
  split at hm
  case h_2=>cases hm
  split at hm;.exact hm
  .exact hm
  .split at hm
   case h_2=>cases hm
   rename_i ak;simp only[h _ _ ak (by simp)];exact hm
  cases hm
 case binOp op t x y xz=>
  split at hm
  case h_2=>cases hm
  split at hm
  .split at hm
   .rename_i ao;rw[xad ao];split at hm
    case h_2=>cases hm
    rename_i b aj;simp only[J3 h aj];exact hm
   rename_i ao;rw[xac ao];split at hm
   case isFalse=>cases hm
   rename_i o5;rw[xad o5];split at hm
   case h_2=>cases hm
   rename_i b aj;simp only[J3 h aj];exact hm
  .split at hm
   .rename_i ao;rw[xad ao];split at hm
    case h_2=>cases hm
    rename_i b aj;simp only[J3 h aj];exact hm
   rename_i ao;rw[xac ao];split at hm
   case isFalse=>cases hm
   rename_i o5;rw[xad o5];split at hm
   case h_2=>cases hm
   rename_i b aj;simp only[J3 h aj];exact hm
  cases hm
def Ec(T:cd)(x:Oper):Bool:=match x.op with| .buildSlice _ _ _=>T.born (x.dst.getD 9999)|_=>false
def xP(T:cd)(x y:Oper):Bool:=pass x y||(hy x.op&&hy y.op)||(Ec T x&&(hy y.op||jc y.op))
def ag7{x:Oper}{σ:aI}(aj:Ec T x=true){p:aS×List (Key×cR)}(h:res T G σ x=some p):σ.objs (x.dst.getD 9999)=none/\p.2=[(x.dst.getD 9999,.dead)]:=by
 unfold Ec at aj;split at aj
 case h_2=>cases aj
 rename_i t n parts eF;have ak:p2 x.op=true:=by rw[eF];rfl
 obtain⟨aL,aX⟩:=qU (T:=T) (ev:=cf G σ.aJ) (objs:=σ.objs) ak;unfold res at h;rw[aL,aX]at h;obtain⟨q,ab,af⟩:=vG h;rw[eF]at ab;simp only[eo]at ab;split at ab
 case h_2=>cases ab
 rename_i e s b z aK au;split at ab
 case h_2=>cases ab
 split at ab
 case h_2=>cases ab
 split at ab
 case isFalse=>cases ab
 cases ab;refine⟨au,?_⟩;rw[<-af];simp[qQ,aj]
def ag8{x y:Oper}{σ:aI}{K:aI->Prop}(ab:∀d,x.dst=some d->d∉y.looksAt all)(af:∀d,x.dst=some d->y.dst≠some d)(aw:∀d,y.dst=some d->d∉x.looksAt all)(J0:hy x.op=true)(ag9:hy y.op=true\/False) (h:db P T G x (λgw=>db P T G y K gw) σ):db P T G y (λgf=>db P T G x K gf) σ:=by
 have hZ:∀d,y.dst=some d->x.dst≠some d:=λd aB ag=>af d ag aB;have J4:hy y.op=true:=ag9.resolve_right id;rw[nG (tV J0)]at h;unfold jB at h;split at h
 case h_2=>cases h
 rename_i WA args dF eF;split at h
 case h_2=>cases h
 rename_i f pre post gT;obtain⟨ng,aO,R,bw,bz,cz,⟨jA,rfl⟩,fq,hc⟩:=h;have AO:db P T G y K (aI.put σ x.dst (.d jA)):=hc jA rfl;rw[jC ab af]at AO;refine ag4 AO (λaV r he ak=>?_) J4;subst he;rw[jC aw hZ,nG (tV J0)];unfold jB;rw[eF];simp only[gT];refine⟨ng,aO,_,bw,bz,cz,⟨jA,rfl⟩,fq,λr av=>?_⟩;subst av;rw[put_comm af];exact ak
def aha{x y:Oper}{σ:aI}{K:aI->Prop}(ab:∀d,x.dst=some d->d∉y.looksAt all)(af:∀d,x.dst=some d->y.dst≠some d)(aw:∀d,y.dst=some d->d∉x.looksAt all)(J5:Ec T x=true)(ahb:hy y.op=true\/jc y.op=true) (h:db P T G x (λgw=>db P T G y K gw) σ):db P T G y (λgf=>db P T G x K gf) σ:=by
 have hZ:∀d,y.dst=some d->x.dst≠some d:=λd aB ag=>af d ag aB;cases kv:res T G σ x with
 |none=>
  rw[nG kv]at h;have:=xM h;unfold Ec at J5;split at J5
  .rename_i eF;rw[eF]at this;cases this
  cases J5
 |some p=>
  obtain⟨rx,cA⟩:=p;obtain⟨aM,hu⟩:=ag7 J5 kv;simp only at hu;subst hu;rw[mf kv]at h;have aQ:db P T G y K (aI.put ⟨σ.aJ,dD σ.objs [(x.dst.getD 9999,.dead)]⟩ x.dst rx):=h;rw[jC ab af]at aQ;have J6:cG.low (dD σ.objs [(x.dst.getD 9999,.dead)]) σ.objs:=by
   intro k o ak aF;simp only[dD]at ak;by_cases e:k=x.dst.getD 9999;.subst e;rw[e4]at ak;cases ak;exact absurd rfl aF
   rwa [cX _ _ e]at ak
  rcases ahb with J4|WK
  case inr=>
   have vL:hy y.op=false:=by cases b8:hy y.op with|false=>rfl|true=>have:=(D4 b8).2.1;rw[WK]at this;cases this
   have key:∀p,res T G ⟨σ.aJ,dD σ.objs [(x.dst.getD 9999,.dead)]⟩ y=some p->p.2=[]/\res T G σ y=some p:=by
    intro p aU;have he:∀objs d,hb T (cf G σ.aJ) objs d y.op=none:=λobjs d=>AM WK;unfold res at aU⊢;cases WL:eN T (cf G σ.aJ) y.op with
    |some r=>simp only[WL]at aU⊢;cases aU;exact⟨rfl,rfl⟩
    |none=>
     simp only[WL]at aU⊢;cases su:dC T (cf G σ.aJ) (dD σ.objs [(x.dst.getD 9999,.dead)]) y.op with
     |none=>simp only[su,he]at aU;cases aU
     |some r=>simp only[su]at aU;cases aU;rw[ag6 J6 su];exact⟨rfl,rfl⟩
   cases jU:res T G ⟨σ.aJ,dD σ.objs [(x.dst.getD 9999,.dead)]⟩ y with
   |none=>rw[nG jU]at aQ;have:=xM aQ;rw[vL]at this;cases this
   |some p=>obtain⟨p3,qV⟩:=p;obtain⟨cE,dz⟩:=key _ jU;simp only at cE;subst cE;rw[mf jU]at aQ;rw[mf dz];show db P T G x K (aI.put σ y.dst p3);rw[jC aw hZ,mf kv];unfold aI.step;rw[put_comm af];exact aQ
  rw[nG (tV J4)]at aQ;rw[nG (tV J4)];unfold jB at aQ⊢;split at aQ
  case h_2=>cases aQ
  rename_i WA args dF eF;split at aQ
  case h_2=>cases aQ
  rename_i f pre post gT;obtain⟨ng,aO,R,bw,bz,cz,⟨jA,rfl⟩,fq,hc⟩:=aQ;simp only[eF,gT];refine⟨ng,aO,_,o4 (λx d ag=>ag5 J6 ag) _ _ bw,bz,cz,⟨jA,rfl⟩,fq,λr av=>?_⟩;subst av;have:=hc r rfl;rw[jC aw hZ,mf kv];unfold aI.step;rw[put_comm af];exact this
def ahc{x y:Oper}{σ:aI}{K:aI->Prop}(ab:∀d,x.dst=some d->d∉y.looksAt all)(af:∀d,x.dst=some d->y.dst≠some d)(aw:∀d,y.dst=some d->d∉x.looksAt all)(aU:xP T x y=true) (h:db P T G x (λgw=>db P T G y K gw) σ):db P T G y (λgf=>db P T G x K gf) σ:=by
 unfold xP at aU;rw[xbb,xbb]at aU;rcases aU with(aU|aU)|aU
 .exact Wy ab af aw aU h
 .rw[xam]at aU;exact ag8 ab af aw aU.1 (.inl aU.2) h
 rw[xam,xbb]at aU;exact aha ab af aw aU.1 aU.2 h
def swapT{x y:Oper}{σ:aI}{K:aI->Prop}(hz:x.apart all y=true)(aU:xP T x y=true)(h:eu P T G all x (λgw=>eu P T G all y K gw) σ):eu P T G all y (λgf=>eu P T G all x K gf) σ:=by
 obtain⟨an,bb,b4⟩:=Oper.apart_spec hz;have mL:∀d,y.dst=some d->x.dst≠some d:=λd aB ag=>bb d ag aB;rw[hH]at h;have Pp:∀(objs:cG)(r:aS),jT all (aI.put ⟨σ.aJ,objs⟩ x.dst r) y=jT all σ y:=λobjs r=>by rw[oh an];rfl
 have Eb:∀(objs:cG)(r:aS),jT all (aI.put ⟨σ.aJ,objs⟩ y.dst r) x=jT all σ x:=λobjs r=>by rw[oh b4];rfl
 split at h
 .rename_i ag;rw[hH];have bx:db P T G x (λgw=>match jT all σ y with|some true=>db P T G y K gw|some false=>K (gw.put y.dst (.d (.val (.tuple #[]))))|none=>False) σ:=by
   refine vP (λobjs r ak=>?_) h;rw[hH,Pp]at ak;exact ak
  cases xO:jT all σ y with
  |none=>
   simp only[xO]at bx;unfold db at bx;split at bx;.exact bx
   unfold jB at bx;split at bx
   .split at bx;.obtain⟨_,_,_,_,_,_,⟨r,rfl⟩,_,q⟩:=bx;exact q r rfl
    exact bx
   exact bx
  |some b=>
   cases b with
   |false=>
    simp only[xO]at bx;show eu P T G all x K (σ.put y.dst (.d (.val (.tuple #[]))));rw[hH];have:jT all (σ.put y.dst (.d (.val (.tuple #[])))) x=some true:=by rw[oh b4];exact ag
    simp only[this];rw[jC b4 mL];exact bx
   |true=>simp only[xO]at bx;have af:=ahc an bb b4 aU bx;show db P T G y (λgf=>eu P T G all x K gf) σ;refine vP (λobjs r ak=>?_) af;rw[hH,Eb,ag];exact ak
 .rename_i ag;rw[hH,oh an]at h;rw[hH];split at h
  .rename_i aQ
   try simp only[aQ]
   rw[jC an bb]at h;refine vP (λobjs r ak=>?_) h;rw[hH,Eb,ag];exact ak
  .rename_i aQ
   try simp only[aQ]
   show eu P T G all x K (σ.put y.dst (.d (.val (.tuple #[]))));rw[hH,oh b4,ag];show K _;rw[put_comm mL];exact h
  exact h.elim
 exact h.elim
def hU(P:Program)(T:cd)(G:dn)(all:Array Oper)(i:Nat)(K:aI->Prop)(σ:aI):Prop:=match all[i]? with|none=>K σ|some o=>eu P T G all o K σ
def vQ{i:Nat}{σ:aI}{K K':aI->Prop}(ak:∀σ,K σ->K' σ)(h:hU P T G all i K σ):hU P T G all i K' σ:=by
 unfold hU at*;split;.rename_i e;simp only[e]at h;exact ak _ h
 rename_i o e;simp only[e]at h;exact Ea ak h
def jd(P:Program)(T:cd)(G:dn)(all:Array Oper)(K:aI->Prop):Nat->Array Bool->aI->Prop
 |0,listed,σ=>Region.ready .any all listed=[]/\K σ|fuel+1,listed,σ=>(Region.ready .any all listed=[]->K σ)/\∀i∈Region.ready .any all listed,hU P T G all i (jd P T G all K fuel (listed.setIfInBounds i true)) σ
def Pq{K:aI->Prop}{i:Nat}{fs:Oper}(ah:all[i]?=some fs){B:List Nat}(gC:∀j c6,j∈B->all[j]?=some c6->∃e∈c6.after,Region.binds .any e=true/\(e.on=i\/e.on∈B)):∀(fuel:Nat)(listed:Array Bool)(σ:aI),(∀j,j∈B->listed.getD j true=false)->(∀j c6,all[j]?=some c6->j≠i->listed.getD j true=false->j∉B->fs.apart all c6=true/\xP T fs c6=true)->i∈Region.ready .any all listed->(¬∃aV,K aV)\/True->hU P T G all i (jd P T G all K fuel (listed.setIfInBounds i true)) σ->jd P T G all K (fuel+1) listed σ:=by
 intro fuel
 induction fuel with
 |zero=>
  intro listed σ qW oi av _ H;refine⟨λh=>(by rw[h]at av;cases av),λj aN=>?_⟩;by_cases iY:j=i;.subst iY;exact H
  have hm:=ready_mono aN iY;exfalso;have key:Region.ready .any all (listed.setIfInBounds i true)=[]:=by
   unfold hU at H;simp only[ah]at H;rw[hH]at H;split at H
   .unfold db at H;split at H;.exact H.1
    unfold jB at H;split at H
    .split at H;.obtain⟨_,_,_,_,_,_,⟨r,nH⟩,_,q⟩:=H;exact(q r (by rw[nH])).1
     exact H.elim
    exact H.elim
   .exact H.1
   exact H.elim
  rw[key]at hm;cases hm
 |succ fuel ih=>
  intro listed σ qW oi av _ H;refine⟨λh=>(by rw[h]at av;cases av),λj aN=>?_⟩;by_cases iY:j=i;.subst iY;exact H
  obtain⟨vR,c6,je,gu⟩:=xbK.1 aN;have tN:∀k,listed.getD k true=false->listed[k]?.getD false=true->False:=λk au ab=>by
   rcases Nat.lt_or_ge k listed.size with bx|bx;.simp[bx]at au ab;rw[au]at ab;cases ab
   simp[Array.getElem?_eq_none bx]at ab
  have vS:j∉B:=λEd=>by
   obtain⟨e,he,aj,mM⟩:=gC j c6 Ed je;have ab:=gu e he aj;rcases mM with mM|mM
   .rw[mM]at ab;exact tN i (xbK.1 av).1 (by simpa using ab)
   exact tN _ (qW _ mM) (by simpa using ab)
  obtain⟨dw,da⟩:=oi j c6 je iY vR vS;have ab:hU P T G all i (λgw=>hU P T G all j (jd P T G all K fuel ((listed.setIfInBounds i true).setIfInBounds j true)) gw) σ:=vQ (λgw tX=>tX.2 j (ready_mono aN iY)) H;have af:hU P T G all j (λgf=>hU P T G all i (jd P T G all K fuel ((listed.setIfInBounds i true).setIfInBounds j true)) gf) σ:=by unfold hU at ab⊢;simp only[ah,je]at ab⊢;exact swapT dw da ab
  have Ee:∀k ok,all[k]?=some ok->k≠i->(listed.setIfInBounds j true).getD k true=false->k∉B->fs.apart all ok=true/\xP T fs ok=true:=λk ok ak qX oj ie=>by
   refine oi k ok ak qX ?_ ie;by_cases gv:j=k;.subst gv;exact vR
   rw[getD_set_ne true gv]at oj;exact oj
  refine vQ (λgf aw=>ih (listed.setIfInBounds j true) gf (λk ak=>by
   have gv:j≠k:=by rintro rfl;exact vS ak
   rw[getD_set_ne true gv];exact qW k ak) Ee (ready_mono av (Ne.symm iY)) (.inr trivial) ?_) af
  rw[Array.setIfInBounds_comm _ _ iY];exact aw
def ahd{K:aI->Prop}{i:Nat}{fs:Oper}(ah:all[i]?=some fs){B:List Nat}(gC:∀j c6,j∈B->all[j]?=some c6->∃e∈c6.after,Region.binds .any e=true/\(e.on=i\/e.on∈B))(fuel:Nat)(listed:Array Bool)(σ:aI) (au:∀j,j∈B->listed.getD j true=false) (bd:∀j c6,all[j]?=some c6->j≠i->listed.getD j true=false->j∉B->fs.apart all c6=true/\pass fs c6=true) (av:i∈Region.ready .any all listed) (ag:(¬∃aV,K aV)\/True) (h:hU P T G all i (jd P T G all K fuel (listed.setIfInBounds i true)) σ):jd P T G all K (fuel+1) listed σ:=Pq ah gC fuel listed σ au (λj c6 a b c d=>⟨(bd j c6 a b c d).1,by unfold xP;rw[(bd j c6 a b c d).2];rfl⟩) av ag h
def waits(all:Array Oper)(i:Nat):List Nat:=(List.range all.size).foldl (λacc j=>match all[j]? with
  |some c6=>if c6.after.any (λe=>Region.binds .any e&&(e.on==i||acc.contains e.on))then acc++[j]else acc
  |none=>acc) []
def J7(p:Oper->Oper->Bool)(all:Array Oper)(listed:Array Bool)(i:Nat)(B:List Nat):Bool:=match all[i]? with|none=>false|some fs=>(B.all λj=>!listed.getD j true&&match all[j]? with|some c6=>c6.after.any λe=>Region.binds .any e&&(e.on==i||B.contains e.on)|none=>false)&&(List.range all.size).all λj=>j==i||listed.getD j true||B.contains j||match all[j]? with|some c6=>fs.apart all c6&&p fs c6|none=>true
def WM(all:Array Oper)(listed:Array Bool)(i:Nat)(B:List Nat):Bool:=J7 pass all listed i B
def ahe(all:Array Oper)(listed:Array Bool)(i:Nat):Bool:=WM all listed i (waits all i)
def WN(T:cd)(all:Array Oper)(listed:Array Bool)(i:Nat):Bool:=J7 (xP T) all listed i (waits all i)
def Pr{p:Oper->Oper->Bool}{i:Nat}{fs:Oper}{listed:Array Bool}(ah:all[i]?=some fs){B:List Nat}(h:J7 p all listed i B=true):(∀j c6,j∈B->all[j]?=some c6->∃e∈c6.after,Region.binds .any e=true/\(e.on=i\/e.on∈B))/\(∀j,j∈B->listed.getD j true=false)/\ ∀j c6,all[j]?=some c6->j≠i->listed.getD j true=false->j∉B->fs.apart all c6=true/\p fs c6=true:=by
 simp only[J7,ah,xam,xaz,xbT]at h;refine⟨λj c6 aN je=>?_,λj aN=>by simpa using(h.1 j aN).1,λj c6 je cU oj ie=>?_⟩;.have ab:=(h.1 j aN).2;simp only[je]at ab;obtain⟨e,he,aj⟩:=Array.any_eq_true'.1 ab;simp only[xam,xbb,xbq,List.contains_iff_mem]at aj;exact⟨e,he,aj.1,aj.2⟩
 have ab:=h.2 j (xaS.1 je).1;simp only[je,xbb,xbq,cU,false_or,oj,xat,xam,List.contains_iff_mem,ie]at ab;exact ab
def ahf{i:Nat}{fs:Oper}{listed:Array Bool}(ah:all[i]?=some fs){B:List Nat}(h:WM all listed i B=true):(∀j c6,j∈B->all[j]?=some c6->∃e∈c6.after,Region.binds .any e=true/\(e.on=i\/e.on∈B))/\(∀j,j∈B->listed.getD j true=false)/\ ∀j c6,all[j]?=some c6->j≠i->listed.getD j true=false->j∉B->fs.apart all c6=true/\pass fs c6=true:=Pr ah h
def xQ(T:cd)(all:Array Oper):List Nat->Array Bool->Bool
 |[],listed=>(Region.ready .any all listed).isEmpty|i::r,listed=>(Region.ready .any all listed).contains i&&WN T all listed i&&xQ T all r (listed.setIfInBounds i true)
def AP(P:Program)(T:cd)(G:dn)(all:Array Oper):List Nat->(aI->Prop)->aI->Prop
 |[],K,σ=>K σ|i::r,K,σ=>match all[i]? with|some o=>eu P T G all o (AP P T G all r K) σ|none=>False
def WO{K:aI->Prop}:∀(ord:List Nat)(listed:Array Bool)(σ:aI),xQ T all ord listed=true->AP P T G all ord K σ->jd P T G all K ord.length listed σ
 |[],listed,σ,gC,h=>⟨by simpa[xQ]using gC,h⟩
 |i::r,listed,σ,gC,h=>by
  simp only[xQ,xam]at gC;obtain⟨⟨av,bd⟩,tY⟩:=gC;unfold AP at h;split at h
  case h_2=>cases h
  rename_i o ah;obtain⟨bw,bz,cz⟩:=Pr ah bd;refine Pq ah bw r.length listed σ bz cz (by simpa using av) (.inr trivial) ?_;unfold hU;simp only[ah];exact Ea (λaV tX=>WO r _ aV tY tX) h
def Ps{m:Mem}{fr:fJ}{N:Nat}(bf:dQ P T){K:aI->Prop}{Q:Exit->Act->World->Prop}(gZ:∀o∈all,∀d,o.dst=some d->d<N):∀(fuel:Nat)(listed:Array Bool)(m:Mem)(ρ:dh)(σ:aI)(a:Act)(w:World),kp G m->Den m fr ρ σ a w->N<=a.tmps.size->a.defers=[]->jd P T G all K fuel listed σ->(∀cB w',iV N m fr ρ σ K cB w'->Q .normal cB w')->wpAny P .any all Q fuel listed a w
 |0,listed,m,ρ,σ,a,w,c2,h,cj,hx,a6,hk=>⟨a6.1,hk a w ⟨σ,m,ρ,a6.2,Mem.le_refl m,h,cj,hx,kQ.refl _ _⟩⟩|fuel+1,listed,m,ρ,σ,a,w,c2,h,cj,hx,a6,hk=>by refine⟨λau=>hk a w ⟨σ,m,ρ,a6.1 au,Mem.le_refl m,h,cj,hx,kQ.refl _ _⟩,λi ah=>?_⟩;have ab:=a6.2 i ah;obtain⟨_,o,aF,_⟩:=xbK.1 ah;unfold hU at ab;simp only[aF]at ab;refine wpOp_mono ?_ (Pj bf c2 h cj hx aF (gZ o (Array.mem_of_getElem? aF)) ab);rintro cB w' ⟨aV,cI,cS,bw,bz,cz,eA,fq,hc⟩;refine Ps (m:=m) bf gZ fuel _ cI cS aV cB w' (c2.mono bz) cz eA fq bw ?_;rintro o8 kR ⟨qY,xR,xS,dw,da,eM,jf,lk,o9⟩;exact hk o8 kR ⟨qY,xR,xS,dw,Mem.le_trans bz da,eM,jf,lk,hc.trans o9⟩
end
def g0(σ τ:aI):Prop:=∀m fr ρ a w,Den m fr ρ σ a w->∃cI cS,m.le cI/\Den cI fr cS τ a w/\kQ σ ρ τ cS
def g0.refl(σ:aI):g0 σ σ:=λm fr ρ a w h=>⟨m,ρ,Mem.le_refl m,h,kQ.refl _ _⟩
def g0.trans{σ τ xT:aI}(h:g0 σ τ)(bx:g0 τ xT):g0 σ xT:=λm fr ρ a w cZ=>
 let⟨gD,nf,ab,af,aw⟩:=h m fr ρ a w cZ
 let⟨kx,lh,a4,b7,cO⟩:=bx gD fr nf a w af
 ⟨kx,lh,Mem.le_trans ab a4,b7,aw.trans cO⟩
def hl(P:Program)(T:cd)(G:dn)(N:Nat)(c:Code)(σ:aI)(Q:Exit->aI->Prop):Prop:= ∀m fr ρ a w,kp G m->Den m fr ρ σ a w->N<=a.tmps.size->a.defers=[]->c.wp P (λe cB w'=>iV N m fr ρ σ (Q e) cB w') a w
def J8(K:aI->Prop)(Q:Exit->aI->Prop):Exit->aI->Prop
 | .normal,σ=>K σ|e,σ=>Q e σ
def Ef(id:Nat)(Q:Exit->aI->Prop):Exit->aI->Prop
 | .exit tZ,σ=>if tZ=id then Q .normal σ else Q (.exit tZ) σ
 |e,σ=>Q e σ
section
variable{P:Program}{T:cd}{G:dn}{N:Nat}{σ:aI}{Q:Exit->aI->Prop}
def iV.mono{m:Mem}{fr:fJ}{ρ:dh}{K K':aI->Prop}(ak:∀σ,K σ->K' σ){a:Act}{w:World}(h:iV N m fr ρ σ K a w):iV N m fr ρ σ K' a w:=
 let⟨aV,cI,cS,ab,af⟩:=h;⟨aV,cI,cS,ak _ ab,af⟩
def AQ{c:Code}{WQ:Exit->aI->Prop}(h:hl P T G N c σ Q)(bg:∀e σ,Q e σ->WQ e σ):hl P T G N c σ WQ:=λm fr ρ a w c2 cZ cj aB=>wp_mono (h m fr ρ a w c2 cZ cj aB) λe cB w' av=>av.mono (bg e)
def ahg(h:Q .normal σ):hl P T G N .skip σ Q:=λm fr ρ a w c2 cZ cj aB=>wp_skip ⟨σ,m,ρ,h,Mem.le_refl m,cZ,cj,aB,kQ.refl _ _⟩
def ahh{l:Nat}(h:Q .normal σ):hl P T G N (.label l) σ Q:=λm fr ρ a w c2 cZ cj aB=>wp_label ⟨σ,m,ρ,h,Mem.le_refl m,cZ,cj,aB,kQ.refl _ _⟩
def ahi{id:Nat}(h:Q (.exit id) σ):hl P T G N (.exit id) σ Q:=λm fr ρ a w c2 cZ cj aB=>wp_exit ⟨σ,m,ρ,h,Mem.le_refl m,cZ,cj,aB,kQ.refl _ _⟩
def ahj(h:Q .ret σ):hl P T G N .ret σ Q:=λm fr ρ a w c2 cZ cj aB=>wp_ret ⟨σ,m,ρ,h,Mem.le_refl m,cZ,cj,aB,kQ.refl _ _⟩
def iV.trans{m gD:Mem}{fr:fJ}{ρ nf:dh}{gw:aI}{K:aI->Prop}{a:Act}{w:World}(hm:m.le gD)(ak:kQ σ ρ gw nf)(h:iV N gD fr nf gw K a w):iV N m fr ρ σ K a w:=
 let⟨aV,cI,cS,ab,af,aw,a4,b7,cO⟩:=h;⟨aV,cI,cS,ab,Mem.le_trans hm af,aw,a4,b7,ak.trans cO⟩
def ahk{x y:Code}(h:hl P T G N x σ (J8 (λaV=>hl P T G N y aV Q) Q)):hl P T G N (.seq x y) σ Q:=by intro m fr ρ a w c2 cZ cj aB;refine wp_seq (wp_mono (h m fr ρ a w c2 cZ cj aB) ?_);rintro e cB w' ⟨aV,cI,cS,ab,af,aw,a4,b7,cO⟩;cases e with|normal=>exact wp_mono (ab cI fr cS cB w' (c2.mono af) aw a4 b7) λe o8 kR av=>av.trans af cO|exit id=>exact⟨aV,cI,cS,ab,af,aw,a4,b7,cO⟩|goto l=>exact⟨aV,cI,cS,ab,af,aw,a4,b7,cO⟩|ret=>exact⟨aV,cI,cS,ab,af,aw,a4,b7,cO⟩|panic c=>exact⟨aV,cI,cS,ab,af,aw,a4,b7,cO⟩|outgrown=>exact⟨aV,cI,cS,ab,af,aw,a4,b7,cO⟩
def ahl(Q:Exit->aI->Prop):Exit->aI->Prop
 | .goto _,_=>False|e,σ=>Q e σ
def ahm{c:Code}(h:hl P T G N c σ (ahl Q)):hl P T G N (.scope c) σ Q:=by intro m fr ρ a w c2 cZ cj aB;refine wp_scope_straight (wp_mono (h m fr ρ a w c2 cZ cj aB) ?_);rintro e cB w' ⟨aV,cI,cS,ab,af,aw,a4,b7,cO⟩;cases e with|goto l=>exact ab.elim|normal=>exact⟨aV,cI,cS,ab,af,aw,a4,b7,cO⟩|exit id=>exact⟨aV,cI,cS,ab,af,aw,a4,b7,cO⟩|ret=>exact⟨aV,cI,cS,ab,af,aw,a4,b7,cO⟩|panic c=>exact⟨aV,cI,cS,ab,af,aw,a4,b7,cO⟩|outgrown=>exact⟨aV,cI,cS,ab,af,aw,a4,b7,cO⟩
def J9{c:Operand}{x y:Code}{b:Bool}(ao:cf G σ.aJ c= .d (.val (.bool b)))(h:if b=true then hl P T G N x σ Q else hl P T G N y σ Q):hl P T G N (.cond c x y) σ Q:=by
 intro m fr ρ a w c2 cZ cj aB;have a6:=DJ (a:=a) c2 cZ.aJ c;rw[ao]at a6;refine wp_cond a6.hS ?_;cases b
 .exact h m fr ρ a w c2 cZ cj aB
 exact h m fr ρ a w c2 cZ cj aB
def ahn{id:Nat}{c:Code}(h:hl P T G N c σ (Ef id Q)):hl P T G N (.block id c) σ Q:=by
 intro m fr ρ a w c2 cZ cj aB;refine wp_block (wp_mono (h m fr ρ a w c2 cZ cj aB) ?_);intro e cB w' av;cases e with
 |exit tZ=>
  simp only[Exit.inBlock];by_cases ah:tZ=id;.rw[xad ah];exact av.mono λσ bg=>by simp only[Ef,ah,xaD]at bg;exact bg
  rw[xac ah];exact av.mono λσ bg=>by simp only[Ef,ah,xaF]at bg;exact bg
 |normal=>exact av|goto l=>exact av|ret=>exact av|panic c=>exact av|outgrown=>exact av
def Pt{τ:aI}{c:Code}(he:g0 σ τ)(h:hl P T G N c τ Q):hl P T G N c σ Q:=by intro m fr ρ a w c2 cZ cj aB;obtain⟨cI,cS,ab,af,aw⟩:=he m fr ρ a w cZ;exact wp_mono (h cI fr cS a w (c2.mono ab) af cj aB) λe cB w' av=>av.trans ab aw
def vT(N:Nat)(ops:Array Oper):Bool:=ops.toList.all λo=>match o.dst with|some d=>decide (d<N)|none=>true
def vU{ops:Array Oper}(h:vT N ops=true):∀o∈ops,∀d,o.dst=some d->d<N:=by intro o aF d aB;have:=xaz.1 h o (by simpa using aF);simp only[aB]at this;simpa using this
theorem Den.drew{m:Mem}{fr:fJ}{ρ:dh}{a:Act}{w:World}(h:Den m fr ρ σ a w)(n:Nat):Den m fr ρ σ a {w with drawn:=n}:=by refine⟨h.mem,⟨h.frame.pW,h.frame.quiet.same rfl rfl rfl⟩,h.apart,h.one,h.aJ,?_,h.own,h.sep⟩;intro k o ak;exact(h.objs k o ak).mono (Mem.le_refl m) (λ_ hu=>⟨hu,rfl⟩) (λb _ _=>rfl)
def aho(bf:dQ P T)(hm:P.follows .mixedOrders=true){id:Nat}{ops:Array Oper}(cj:vT N ops=true)(ord:List Nat)(b6:ord.length=ops.size)(AR:xQ T ops ord (Array.replicate ops.size false)=true) (h:AP P T G ops ord (Q .normal) σ):hl P T G N (.region id ops true) σ Q:=by intro m fr ρ a w c2 cZ nI aB;refine wp_region_any hm ?_;have ab:=WO ord (Array.replicate ops.size false) σ AR h;rw[b6]at ab;exact Ps (m:=m) (fr:=fr) (N:=N) (Q:=λe cB w'=>iV N m fr ρ σ (Q e) cB w') bf (vU cj) ops.size _ m ρ σ a _ c2 (cZ.drew _) nI aB ab (λcB w' av=>av)
def ahp{ι:Type}{c:Code}{Q:Exit->Act->World->Prop}{a:Act}{w:World}(eQ:ι->Act->World->Prop)(vV:ι->Nat)(i0:ι)(ahq:eQ i0 a w) (round:∀i a w,eQ i a w->c.wp P (Exit.then (λcB w'=>∃j,eQ j cB w'/\vV j<vV i) Q) a w):(Code.loop c).wp P Q a w:=by
 intro b k cs;have key:∀n i a w,vV i=n->eQ i a w->∃e cB w',Q e cB w'/\Arrives P (lone (b.at a (.code c:: .inLoop c::k)) cs w) b k cs e cB w':=by
  intro n
  induction n using Nat.strongRecOn with
  |_ n ih=>
   intro i a w aM iz;obtain⟨e,AS,AT,bg,vW⟩:=round i a w iz b (.inLoop c::k) cs;cases e with
   |normal=>obtain⟨j,ahr,cv⟩:=bg;obtain⟨ahs,aht,ahu,ahv,ahw⟩:=ih (vV j) (aM▸cv) j AS AT rfl ahr;exact⟨ahs,aht,ahu,ahv,.of_steps (Steps.trans vW (.one step_inLoop)) ahw⟩
   |exit id=>exact⟨_,AS,AT,bg,.pass (x:= .inLoop c) rfl (λ_ _=> .inl (by simp)) vW⟩|goto l=>exact⟨_,AS,AT,bg,.pass (x:= .inLoop c) rfl (λ_ _=> .inl (by simp)) vW⟩|ret=>exact⟨_,AS,AT,bg,.pass (x:= .inLoop c) rfl (λ_ _=> .inl (by simp)) vW⟩|panic ayU=>exact⟨_,AS,AT,bg,.pass (x:= .inLoop c) rfl (λ_ _=> .inl (by simp)) vW⟩|outgrown=>exact⟨_,AS,AT,bg,.pass (x:= .inLoop c) rfl (λ_ _=> .inl (by simp)) vW⟩
 obtain⟨e,cB,w',bg,vW⟩:=key _ i0 a w rfl ahq;exact⟨e,cB,w',bg,.of_steps (.one step_loop) vW⟩
def ahx{ι:Type}{c:Code}(eQ:ι->aI)(vV:ι->Nat)(i0:ι)(au:g0 σ (eQ i0)) (round:∀i,hl P T G N c (eQ i) (J8 (λaV=>∃j,g0 aV (eQ j)/\vV j<vV i) Q)):hl P T G N (.loop c) σ Q:=by
 intro m fr ρ a w c2 cZ cj aB;refine ahp (λi a w=>∃gD nf,m.le gD/\Den gD fr nf (eQ i) a w/\N<=a.tmps.size/\a.defers=[]/\kQ σ ρ (eQ i) nf) vV i0 ?_ ?_;.obtain⟨cI,cS,ab,af,aw⟩:=au m fr ρ a w cZ;exact⟨cI,cS,ab,af,cj,aB,aw⟩
 rintro i an gg ⟨gD,nf,aW,a2,bc,cV,iA⟩;refine wp_mono (round i gD fr nf an gg (c2.mono aW) a2 bc cV) ?_;intro e cB w' av;have nH:=av.trans aW iA;cases e with
 |normal=>obtain⟨aV,cI,cS,⟨j,aN,cv⟩,af,aw,a4,b7,cO⟩:=nH;obtain⟨kx,lh,bw,bz,cz⟩:=aN cI fr cS cB w' aw;exact⟨j,⟨kx,lh,Mem.le_trans af bw,bz,a4,b7,cO.trans cz⟩,cv⟩
 |exit id=>exact nH|goto l=>exact nH|ret=>exact nH|panic c=>exact nH|outgrown=>exact nH
def xU(T:cd)(σ:aI):ResultVar->Option aS
 | .tmp t=>some (σ.aJ t)
 | .cell a t=>match T t,σ.aJ a with
  |some i,.ptr k off=>match σ.objs k with|some (.box cells)=>vw i cells off|_=>none
  |_,_=>none
def qZ(T:cd)(σ:aI)(rs:List ResultVar):Option aS:=match hv (rs.map (xU T σ))with|some [x]=>some x|some l=>some (.a1 l)|none=>none
def ahy(bf:dQ P T){m:Mem}{fr:fJ}{ρ:dh}{a:Act}{w:World}(h:Den m fr ρ σ a w){Eg:ResultVar}{x:aS}(ag:xU T σ Eg=some x): ∃v,((match Eg with| .tmp t=>pure (a.tmps.getD t undef)| .cell ix t=>do loadVar t (<-asAddr (a.tmps.getD ix undef)):Sem Value)).run P w= .ok v w/\b5 m ρ σ.used x v:=by
 cases Eg with
 |tmp t=>simp only[xU,xaL]at ag;subst ag;exact⟨_,rfl,h.aJ t⟩
 |cell ix t=>
  simp only[xU]at ag;split at ag
  case h_2=>cases ag
  rename_i i k off aK aG;split at ag
  case h_2=>cases ag
  rename_i cells ak;have aE:=h.aJ ix;rw[aG]at aE;generalize xA:a.tmps.getD ix undef=u at aE;cases aE with|ptr _ _ b hu av=>
  obtain⟨b',vs,dU,aL,aX,bL,cL⟩:=h.objs _ _ ak;rw[av]at aL;cases aL;obtain⟨v,eX,ei⟩:=VM (P:=P) bf aK aX ⟨bL,cL⟩ ag;exact⟨v,by simp only[xA,asAddr,xag,xaw,xaf,eX],ei⟩
def WR(bf:dQ P T){m:Mem}{fr:fJ}{ρ:dh}{a:Act}{w:World}(h:Den m fr ρ σ a w):∀(rs:List ResultVar)(xs:List aS),hv (rs.map (xU T σ))=some xs-> ∃vs:List Value,(rs.mapM λ
   | .tmp t=>pure (a.tmps.getD t undef)| .cell ix t=>do loadVar t (<-asAddr (a.tmps.getD ix undef)):Sem (List Value)).run P w= .ok vs w/\vs.length=xs.length/\∀(i:Nat)(x:aS)(v:Value),xs[i]?=some x->vs[i]?=some v->b5 m ρ σ.used x v
 |[],xs,ag=>by simp[hv]at ag;subst ag;exact⟨[],by simp,rfl,by simp⟩
 |Eg::rs,xs,ag=>by
  simp only[xaB]at ag;cases ab:xU T σ Eg with
  |none=>simp[ab,hv]at ag
  |some x=>
   rw[ab]at ag;simp only[hv]at ag;split at ag
   case h_2=>cases ag
   rename_i l aq;cases ag;obtain⟨v,eX,ei⟩:=ahy (P:=P) bf h ab;obtain⟨vs,jD,Ka,ahz⟩:=WR bf h rs l aq;refine⟨v::vs,?_,by simp[Ka],?_⟩;.simp only[List.mapM_cons,xag,eX,jD,xaf,xaw]
   intro i y u aQ hu;cases i with|zero=>simp at aQ hu;subst aQ;subst hu;exact ei|succ i=>exact ahz i y u (by simpa using aQ) (by simpa using hu)
def WS(bf:dQ P T){m:Mem}{fr:fJ}{ρ:dh}{a:Act}{w:World}(h:Den m fr ρ σ a w){fn:Func}{x:aS}(ag:qZ T σ fn.results.toList=some x): ∃v,(results fn a.tmps).run P w= .ok v w/\b5 m ρ σ.used x v:=by
 unfold qZ at ag;cases aq:hv (fn.results.toList.map (xU T σ))with
 |none=>simp[aq]at ag
 |some xs=>
  obtain⟨vs,eX,ei,jD⟩:=WR (P:=P) bf h fn.results.toList xs aq;have hR:((fn.results.mapM λ
   | .tmp t=>pure (a.tmps.getD t undef)| .cell ix t=>do loadVar t (<-asAddr (a.tmps.getD ix undef)):Sem (Array Value))).run P w= .ok vs.toArray w:=by
   rw[Array.mapM_eq_mapM_toList,Sem.run_map,eX];rfl
  have AU:(results fn a.tmps).run P w= .ok (if h:vs.toArray.size=1 then vs.toArray[0]else .tuple vs.toArray) w:=by unfold results;rw[xag];exact(congrArg (λr=>Result.andThen r _) hR).trans rfl
  rw[AU];rw[aq]at ag;split at ag
  .rename_i y he;cases ag;cases he
   match vs,ei,jD with|[v],_,jD=>exact⟨v,by simp,jD 0 _ _ rfl rfl⟩
  .rename_i l cU he;cases ag;cases he;have gJ:vs.toArray.size≠1:=by
    intro ab;have:xs.length=1:=by rw[<-ei];simpa using ab
    obtain⟨y,aQ⟩:=List.length_eq_one_iff.1 this;exact cU y aQ
   refine⟨.tuple vs.toArray,?_,.a1 _ _ (by simpa using ei) (λi c v ao a6=>jD i c v ao (by simpa using a6))⟩;rw[dif_neg gJ]
  cases ag
def start(args:List aS)(E:cG):aI:=⟨λt=>args.getD t .any,E⟩
def ahA(bf:dQ P T){f:FuncId}{fn:Func}{c:Code}{aO:List D}{R:D->Prop}(bd:P.funcs[f]?=some fn)(aj:fn.body=some c)(Kb:(fn.name== "runtime.NumGoroutine")=false)(b6:aO.length<=fn.ntmps) (h:hl P T G fn.ntmps c (start (aO.map .d) λ_=>none) λe aV=>(e= .normal\/e= .ret)/\∃r d x,qZ T aV fn.results.toList=some r/\toD aV.objs r=some d/\d.le x/\R x):eB P G f aO R:=by
 refine⟨⟨fn,bd,Kb,by rw[aj];rfl⟩,?_⟩;intro m fr w vs c2 eb cZ;refine calls_of_wp bd aj ?_;have Eh:Den m fr (λ_=>undef) (start (aO.map .d) λ_=>none) {tmps:=vs.toArray++Array.replicate (fn.ntmps-vs.toArray.size) undef,defers:=[]} w:=by
  refine⟨eb.mem,eb.frame,eb.apart,?_,?_,?_,?_,?_⟩;.rintro k ⟨o,aF⟩;cases aF
  .intro t;simp only[start];by_cases aK:t<vs.length
   .have cv:t<aO.length:=by rw[<-cZ.1];exact aK
    have aB:=xab cv;have a6:=xab aK;have aL:(aO.map aS.d).getD t .any= .d aO[t]:=by rw[xaP,xaj,aB];rfl
    have aX:(vs.toArray++Array.replicate (fn.ntmps-vs.toArray.size) undef).getD t undef=vs[t]:=by rw[xbv,xbI (by simpa using aK)];simp[aK]
    rw[aL,aX];exact .d _ _ (cZ.2 t _ _ aB a6)
   have aL:(aO.map aS.d).getD t .any= .any:=by rw[xaP,xbo (by simp;rw[<-cZ.1];omega)];rfl
   rw[aL];exact .any _
  .intro k o ak;cases ak
  .intro k o b ak;cases ak
  intro k bq o o' b _ ak;cases ak
 have gJ:fn.ntmps<=(vs.toArray++Array.replicate (fn.ntmps-vs.toArray.size) undef).size:=by simp;omega
 refine wp_mono (h m fr _ _ w c2 Eh gJ rfl) ?_;rintro e cB w' ⟨aV,cI,cS,⟨he,r,d,x,ab,af,aw,a4⟩,b7,cO,gx,hV,jE⟩;obtain⟨v,bw,bz⟩:=WS (P:=P) bf cO ab;have cz:=aw _ _ (Wh cO bz af);have fin:cB.defers=[]/\∃v,(results fn cB.tmps).run P w'= .ok v w'/\∃v1 gD eX,Ending.returned v= .returned v1/\R eX/\m.le gD/\sn gD fr w'/\dv gD eX v1:=⟨hV,v,bw,v,Den.all cI cS aV.objs w',x,rfl,a4,Mem.le_trans b7 (Den.AH _ _ _ _),cO.We,cz⟩;rcases he with rfl|rfl
 .exact fin
 exact fin
end
def Ei:List aS->Option (List D)
 |[]=>some []| .d x::r=>(Ei r).map (x::·)|_=>none
def Kc:aS->Option D
 | .d x=>some x| .agg cs=>(Ei cs).map .agg| .a1 cs=>(Ei cs).map .a1|_=>none
def WT:∀{cs:List aS}{aO:List D},Ei cs=some aO->cs=aO.map .d
 |[],aO,h=>by cases h;rfl
 | .d x::r,aO,h=>by obtain⟨l,aq,rfl⟩:=xah.1 h;rw[WT aq];rfl
 | .any::_,_,h=>by cases h
 | .agg _::_,_,h=>by cases h
 | .a1 _::_,_,h=>by cases h
 | .et _ _::_,_,h=>by cases h
 | .ptr _ _::_,_,h=>by cases h
 | .gd _ _ _ _::_,_,h=>by cases h
 | .row _::_,_,h=>by cases h
 | .sub _ _ _ _::_,_,h=>by cases h
 | .map _::_,_,h=>by cases h
 | .fn _ _ _::_,_,h=>by cases h
def ahB{m:Mem}{ρ:dh}{U:Key->Prop}{x:aS}{a:D}{v:Value}(h:Kc x=some a)(ag:b5 m ρ U x v):dv m a v:=by
 have part:∀{cs:List aS}{aO:List D}{vs:Array Value},Ei cs=some aO->vs.size=cs.length->(∀(i:Nat)(c:aS)(v:Value),cs[i]?=some c->vs[i]?=some v->b5 m ρ U c v)->vs.size=aO.length/\∀(i:Nat)(c:D)(v:Value),aO[i]?=some c->vs[i]?=some v->dv m c v:=by intro cs aO vs aB aq ao;have e:=WT aB;subst e;refine⟨by simpa using aq,λi c v ab af=>?_⟩;have:=ao i (.d c) v (by simp[ab]) af;cases this with|d _ _ h=>exact h
 unfold Kc at h;split at h;.cases h;cases ag with|d _ _ h=>exact h
 .obtain⟨aO,aB,rfl⟩:=xah.1 h;cases ag with|agg _ vs aq ao=>exact .agg _ _ (part aB aq ao).1 (part aB aq ao).2
 .obtain⟨aO,aB,rfl⟩:=xah.1 h;cases ag with|a1 _ vs aq ao=>exact .a1 _ _ (part aB aq ao).1 (part aB aq ao).2
 cases h
def pb(ck:Key->Key)(U:Key->Prop)(x y:aS):Prop:=match y with| .any=>True| .d b=>∃a,Kc x=some a/\a.le b| .et cs off=>x= .et cs off\/x= .d (.ref cs off)| .ptr k off=>x= .ptr (ck k) off/\U k| .gd k cQ i off=>x= .gd (ck k) cQ i off/\U k| .row k=>x= .row (ck k)/\U k| .sub k cQ i len=>x= .sub (ck k) cQ i len/\U k| .map k=>x= .map (ck k)/\U k|_=>False
def jF(ck:Key->Key)(U:Key->Prop):List aS->List aS->Prop
 |[],[]=>True|x::xs,y::dk=>pb ck U x y/\jF ck U xs dk|_,_=>False
def ua(ck:Key->Key)(U:Key->Prop)(x y:aS):Prop:=match y with
 | .agg dk=>match x with| .agg xs=>jF ck U xs dk| .d (.agg aO)=>jF ck U (aO.map .d) dk|_=>False
 | .a1 dk=>match x with| .a1 xs=>jF ck U xs dk|_=>False
 | .fn f as j7=>match x with| .fn ku ahC ahD=>f=ku/\jF ck U ahC as/\jF ck U ahD j7|_=>False
 |y=>pb ck U x y
def sw(ck:Key->Key)(U:Key->Prop):List aS->List aS->Prop
 |[],[]=>True|x::xs,y::dk=>ua ck U x y/\sw ck U xs dk|_,_=>False
section
variable{m:Mem}{ρ:dh}{p5 U:Key->Prop}{ck:Key->Key}
def pb.ok{x y:aS}(h:pb ck U x y){v:Value}(ag:b5 m ρ p5 x v):b5 m (λk=>ρ (ck k)) U y v:=by
 unfold pb at h;split at h;.exact .any _
 .obtain⟨a,aE,hle⟩:=h;exact .d _ _ (hle _ _ (ahB aE ag))
 .rcases h with rfl|rfl;.cases ag with|et _ _ b o vs T eE hm xs ab af=>exact .et _ _ b o vs T eE hm xs ab af
  cases ag.ob with|ref _ _ b o vs T eE hm xs ab af=>exact .et _ _ b o vs T eE hm xs ab af
 .obtain⟨rfl,hu⟩:=h;cases ag with|ptr _ _ b _ av=>exact .ptr _ _ b hu av
 .obtain⟨rfl,hu⟩:=h;cases ag with|gd _ _ _ _ b o len cap _ av=>exact .gd _ _ _ _ b o len cap hu av
 .obtain⟨rfl,hu⟩:=h;cases ag;exact .row (ρ:=λk=>ρ (ck k)) _ hu
 .obtain⟨rfl,hu⟩:=h;cases ag with|sub _ _ _ _ b o L cap a _ av hle aE=>exact .sub _ _ _ _ b o L cap a hu av hle aE|ko _ _ _ _ av=>exact .ko _ _ _ hu av
 .obtain⟨rfl,hu⟩:=h;cases ag;exact .map (ρ:=λk=>ρ (ck k)) _ hu
 cases h
def jF.ok:∀{xs dk:List aS},jF ck U xs dk->dk.length=xs.length/\∀(i:Nat)(y:aS),dk[i]?=some y->∃x,xs[i]?=some x/\pb ck U x y
 |[],[],_=>⟨rfl,by simp⟩|x::xs,y::dk,h=>by have ih:=jF.ok h.2;refine⟨by simp[ih.1],?_⟩;intro i z bD;cases i with|zero=>simp at bD;subst bD;exact⟨x,rfl,h.1⟩|succ i=>simp at bD;obtain⟨w,ab,af⟩:=ih.2 i z bD;exact⟨w,by simpa using ab,af⟩
 |[],y::dk,h=>h.elim|x::xs,[],h=>h.elim
def jF.cells{xs dk:List aS}{vs:Array Value}(h:jF ck U xs dk)(ag:l7 m ρ p5 xs vs):l7 m (λk=>ρ (ck k)) U dk vs:=by obtain⟨ab,af⟩:=h.ok;refine⟨by rw[ag.1,ab],?_⟩;intro i y v aQ a6;obtain⟨x,aw,a4⟩:=af i y aQ;exact a4.ok (ag.2 i x v aw a6)
def ua.ok{x y:aS}(h:ua ck U x y){v:Value}(ag:b5 m ρ p5 x v):b5 m (λk=>ρ (ck k)) U y v:=by
 unfold ua at h;split at h
 .rename_i dk;split at h;.rename_i xs;obtain⟨vs,rfl,ao⟩:=ag.VH;have:=jF.cells h ao;exact .agg _ _ this.1 this.2
  .rename_i aO;obtain⟨vs,rfl,aq,ao⟩:=ag.VG;have au:l7 m ρ p5 (aO.map .d) vs:=⟨by simpa using aq,by
    intro i c v dX a6;simp only[xaj,xah]at dX;obtain⟨z,bD,rfl⟩:=dX;exact .d _ _ (ao i z v bD a6)⟩
   have:=jF.cells h au;exact .agg _ _ this.1 this.2
  cases h
 .split at h;.obtain⟨vs,rfl,ao⟩:=ag.VI;have:=jF.cells h ao;exact .a1 _ _ this.1 this.2
  cases h
 .split at h
  .obtain⟨rfl,ab,af⟩:=h;cases ag with|fn _ _ _ vs ws aq du g lj=>
   have a:=jF.cells (U:=U) ab ⟨aq,g⟩;have b:=jF.cells (U:=U) af ⟨du,lj⟩;exact .fn _ _ _ vs ws a.1 b.1 a.2 b.2
  cases h
 exact h.ok ag
end
def sw.ok{ck:Key->Key}{U:Key->Prop}:∀{xs dk:List aS},sw ck U xs dk->dk.length=xs.length/\∀(i:Nat)(y:aS),dk[i]?=some y->∃x,xs[i]?=some x/\ua ck U x y
 |[],[],_=>⟨rfl,by simp⟩|x::xs,y::dk,h=>by have ih:=sw.ok h.2;refine⟨by simp[ih.1],?_⟩;intro i z bD;cases i with|zero=>simp at bD;subst bD;exact⟨x,rfl,h.1⟩|succ i=>simpa using ih.2 i z (by simpa using bD)
 |[],y::dk,h=>h.elim|x::xs,[],h=>h.elim
def sw.cells{m:Mem}{ρ:dh}{p5 U:Key->Prop}{ck:Key->Key}{xs dk:List aS}{vs:Array Value}(h:sw ck U xs dk)(ag:l7 m ρ p5 xs vs):l7 m (λk=>ρ (ck k)) U dk vs:=by obtain⟨ab,af⟩:=h.ok;refine⟨by rw[ag.1,ab],?_⟩;intro i y v aQ a6;obtain⟨x,aw,a4⟩:=af i y aQ;exact a4.ok (ag.2 i x v aw a6)
def Pu(es di:List (List D)):Prop:=es=di\/(es.length=di.length/\∀(i:Nat)(x y:List D),es[i]?=some x->di[i]?=some y->x.length=y.length/\y.all D.one=true/\∀(j:Nat)(a b:D),x[j]?=some a->y[j]?=some b->a.le b)
def xV(ck:Key->Key)(U:Key->Prop)(x y:cR):Prop:=match y with| .dead=>True| .box dk=>∃xs,x= .box xs/\sw ck U xs dk| .row k di=>∃es,x= .row k es/\Pu es di| .map es=>x= .map es
def Pu.ok{m:Mem}{ρ cS:dh}{U na:Key->Prop}{k:Nat}{es di:List (List D)}(h:Pu es di){v:Value}{w:World}(ag:jt m ρ U v w (.row k es)):jt m cS na v w (.row k di):=by
 rcases h with rfl|⟨aq,h⟩;.exact ag
 rcases ag with⟨aL,rfl⟩|⟨b,o,cap,vs,T,aL,aX,bL,cL,ea,fp⟩;.exact .inl ⟨aL,xaJ (by rw[<-aq];rfl)⟩
 have key:∀(i:Nat)(y:List D),di[i]?=some y->∃x,es[i]?=some x/\x.length=y.length/\y.all D.one=true/\∀(j:Nat)(a b:D),x[j]?=some a->y[j]?=some b->a.le b:=by
  intro i y aQ;have ah:i<es.length:=by rw[aq];exact(xae.1 aQ).1
  exact⟨_,xab ah,h i _ y (xab ah) aQ⟩
 refine .inr ⟨b,o,cap,vs,T,by rw[<-aq];exact aL,aX,by omega,cL,?_,?_⟩;.intro y aQ;obtain⟨i,ah⟩:=xaT.1 aQ;obtain⟨x,ab,af,aw,_⟩:=key i y ah;exact⟨by rw[<-af];exact(ea x (xaa ab)).1,aw⟩
 intro i y j c ah aN;obtain⟨x,ab,af,_,aw⟩:=key i y ah;have WU:j<x.length:=by rw[af];exact(xae.1 aN).1
 obtain⟨z,aW,a2⟩:=fp i x j _ ab (xab WU);exact⟨z,aW,aw j _ c (xab WU) aN _ _ a2⟩
def Kd:List (Nat×aS)->Nat->aS
 |[],_=> .any|(j,v)::r,t=>if t=j then v else Kd r t
def fz:List (Key×cR)->Key->Option cR
 |[],_=>none|(j,o)::r,k=>if k=j then some o else fz r k
def WV(ls:List (Nat×aS))(lo:List (Key×cR)):aI:=⟨Kd ls,fz lo⟩
def AV(ck:Key->Key)(U:Key->Prop)(σ:aI):List (Nat×aS)->Prop
 |[]=>True|(t,v)::r=>ua ck U (σ.aJ t) v/\AV ck U σ r
def xW(ck:Key->Key)(U:Key->Prop)(σ:aI):List (Key×cR)->Prop
 |[]=>True|(k,o)::r=>(∃o',σ.objs (ck k)=some o'/\xV ck U o' o)/\xW ck U σ r
def AV.ok{ck:Key->Key}{U:Key->Prop}{σ:aI}:∀{ls:List (Nat×aS)},AV ck U σ ls->∀t,ua ck U (σ.aJ t) (Kd ls t)
 |[],_,t=>trivial
 |(j,v)::r,h,t=>by
  unfold Kd;split;.rename_i e;subst e;exact h.1
  exact AV.ok h.2 t
def xW.ok{ck:Key->Key}{U:Key->Prop}{σ:aI}:∀{lo:List (Key×cR)},xW ck U σ lo->∀k o,fz lo k=some o->∃o',σ.objs (ck k)=some o'/\xV ck U o' o
 |[],_,k,o,h=>by cases h
 |(j,x)::r,h,k,o,ak=>by
  unfold fz at ak;split at ak;.rename_i e;subst e;cases ak;exact h.1
  exact xW.ok h.2 k o ak
def gh:List (Key×Key)->Key->Key
 |[],k=>k|(a,b)::r,k=>if k=a then b else gh r k
def mi(lo:List (Key×cR)):List Key:=lo.map (·.1)
def xX(ck:Key->Key):List Key->Bool
 |[]=>true|k::r=>r.all (λj=>k==j||!(ck k==ck j))&&xX ck r
def Ke{ck:Key->Key}:∀{l:List Key},xX ck l=true->∀k j,k∈l->j∈l->ck k=ck j->k=j
 |[],_,k,j,h,_,_=>by cases h
 |x::r,h,k,j,ak,aN,he=>by
  simp only[xX,xam,xaz]at h;rcases xao.1 ak with rfl|fQ
  .rcases xao.1 aN with rfl|qN;.rfl
   have:=h.1 j qN;simp at this;rcases this with ab|ab
   .exact ab
   exact absurd he ab
  rcases xao.1 aN with rfl|qN
  .have:=h.1 k fQ;simp at this;rcases this with ab|ab
   .exact ab.symm
   exact absurd he.symm ab
  exact Ke h.2 k j fQ qN he
def vX:∀{lo:List (Key×cR)} {k:Key} {o:cR},fz lo k=some o->k∈mi lo
 |[],k,o,h=>by cases h
 |(j,x)::r,k,o,h=>by
  unfold fz at h;split at h;.rename_i e;subst e;simp[mi]
  have:=vX h;simp only[mi,xaB,xao]at this⊢;exact .inr this
def ahE{σ:aI}{ls:List (Nat×aS)}{lo:List (Key×cR)}(l:List (Key×Key))(av:xX (gh l) (mi lo)=true) (aG:AV (gh l) (λk=>∃o,fz lo k=some o) σ ls) (aF:xW (gh l) (λk=>∃o,fz lo k=some o) σ lo) (ak:∀k,10000<=k->eP (σ.objs k)->eP (fz lo k)/\gh l k=k):g0 σ (WV ls lo):=by
 intro m fr ρ a w h;have jw:∀{o o':cR},xV (gh l) (λk=>∃o,fz lo k=some o) o' o->o.owns=true->o'.owns=true:=by
  intro o o' hle aF;cases o with
  |dead=>cases aF
  |box=>obtain⟨xs,rfl,_⟩:=hle;rfl
  |row=>obtain⟨es,rfl,_⟩:=hle;rfl
  |map=>cases hle;rfl
 refine⟨m,λk=>ρ (gh l k),Mem.le_refl m,⟨h.mem,h.frame,h.apart,?_,?_,?_,?_,?_⟩,λk fQ aj=>⟨(ak k fQ aj).1,by show ρ (gh l k)=ρ k;rw[(ak k fQ aj).2]⟩⟩;.rintro k ⟨o,mj⟩;obtain⟨o',ab,_⟩:=aF.ok k o mj;exact h.one _ ⟨o',ab⟩
 .intro t;exact(aG.ok t).ok (h.aJ t)
 .intro k o mj;obtain⟨o',ab,af⟩:=aF.ok k o mj;have aw:=h.objs _ _ ab;cases o with
  |dead=>trivial|box dk=>obtain⟨xs,rfl,hle⟩:=af;obtain⟨b,vs,T,aL,aX,bL,cL⟩:=aw;have:=sw.cells hle ⟨bL,cL⟩;exact⟨b,vs,T,aL,aX,this.1,this.2⟩
  |row cQ di=>obtain⟨es,rfl,hle⟩:=af;exact hle.ok aw
  |map es=>cases af;exact aw
 .intro k o b mj Kf aj;obtain⟨o',ab,af⟩:=aF.ok k o mj;exact h.own _ o' b ab (jw af Kf) aj
 intro k bq o o' b cU mj Ej Pv Pw aj;obtain⟨x,ab,af⟩:=aF.ok k o mj;obtain⟨lG,eW,hZ⟩:=aF.ok bq o' Ej;exact h.sep (gh l k) (gh l bq) x lG b (λe=>cU (Ke av k bq (vX mj) (vX Ej) e)) ab eW (jw af Pv) (jw hZ Pw) aj
def AW(P:Program):Nat->List Field->Option (List TypeDesc)
 |_,[]=>some []|off,f::di=>if f.name≠ "_" /\f.offset=off then(match P.underlying f.type with|some .bool=>(AW P (off+1) di).map (.bool::·)|some (.int k)=>(AW P (off+1) di).map (.int k::·)|some .string=>(AW P (off+1) di).map (.string::·)|_=>none)else none
def Kg{P:Program}:∀{di:List Field}{off:Nat}{l:List TypeDesc},AW P off di=some l->Jk P off di l
 |[],_,l,h=>by cases h;trivial
 |f::di,off,l,h=>by
  unfold AW at h;split at h
  case isFalse=>cases h
  rename_i ab;split at h;.rename_i hu;obtain⟨r,av,rfl⟩:=xah.1 h;exact⟨ab.1,ab.2,hu,rfl,Kg av⟩
  .rename_i hu;obtain⟨r,av,rfl⟩:=xah.1 h;exact⟨ab.1,ab.2,hu,rfl,Kg av⟩
  .rename_i hu;obtain⟨r,av,rfl⟩:=xah.1 h;exact⟨ab.1,ab.2,hu,rfl,Kg av⟩
  cases h
def Px(P:Program)(t:TypeId):Option (List TypeDesc):=match P.underlying t with
 |some (.struct di)=>match AW P 0 di.toList with
  |some l=>if P.stoodInHeld t=false/\P.eqGuardType P.depth t=false then some l else none
  |none=>none
 |_=>none
def ahF{P:Program}{t:TypeId}{l:List TypeDesc}(h:Px P t=some l):Vs P t l:=by
 unfold Px at h;split at h
 case h_2=>cases h
 rename_i di hu;have bd:P.fieldsOf t=di:=by simp[Program.fieldsOf,hu]
 split at h
 case h_2=>cases h
 rename_i sc aq;split at h
 case isFalse=>cases h
 rename_i ao;cases h;exact⟨by rw[bd];exact hu,ao.1,ao.2,by rw[bd];exact Kg aq⟩
def Ek(P:Program)(t:TypeId):Option iJ:=match P.underlying t,P.info? t with
 |some d,some i=>match i.zero with
  |some z=>if z.cells.size=i.size then some ⟨d,i.size,i.bytes,z⟩else none
  |none=>none
 |_,_=>none
def Py(P:Program)(t:TypeId)(name:String):Option FuncId:=match P.info? t,P.underlying t with
 |some i,some d=>match d with
  | .pointer _=>none
  |_=>match i.methods.find? (λm=>m.name==name)with
   |some m=>match m.path.toList,m.func with|[],some (f,false)=>some f|_,_=>none
   |none=>none
 |_,_=>none
def ahG{P:Program}{t:TypeId}{name:String}{f:FuncId}(h:Py P t name=some f):Jl P t name f:=by
 unfold Py at h;split at h
 case h_2=>cases h
 rename_i i d ab af;split at h
 case h_1=>cases h
 rename_i aU;split at h
 case h_2=>cases h
 rename_i m hm;split at h
 case h_2=>cases h
 rename_i g aw a4;cases h;exact⟨i,m,d,ab,hm,aw,a4,af,λe he=>aU e he⟩
def er(P:Program):cd:=⟨Ek P,Px P,λ_=>false,Py P,[],[]⟩
def cd.Kh(T:cd)(l:List TypeId):cd:=⟨T.Ji,T.eqs,T.born,T.qJ,l,T.dyn⟩
def dQ.Kh{P:Program}{T:cd}(h:dQ P T)(l:List TypeId):dQ P (T.Kh l):=⟨h.ty,h.As,h.eqs,h.Jm⟩
def cd.sx(T:cd)(l:List Nat):cd:=⟨T.Ji,T.eqs,λk=>l.contains k,T.qJ,T.OA,T.dyn⟩
def dQ.sx{P:Program}{T:cd}(h:dQ P T)(l:List Nat):dQ P (T.sx l):=⟨h.ty,h.As,h.eqs,h.Jm⟩
def cd.vY(T:cd)(l:List (Nat×List FuncId)):cd:=⟨T.Ji,T.eqs,T.born,T.qJ,T.OA,l⟩
def dQ.vY{P:Program}{T:cd}(h:dQ P T)(l:List (Nat×List FuncId)):dQ P (T.vY l):=⟨h.ty,h.As,h.eqs,h.Jm⟩
def tok(P:Program):dQ P (er P):=by
 constructor
 .intro t i h;change Ek P t=some i at h;unfold Ek at h;split at h
  case h_2=>cases h
  rename_i d info ab af;split at h
  case h_2=>cases h
  rename_i z bD;split at h
  case isFalse=>cases h
  cases h;exact⟨ab,info,af,rfl,rfl,bD⟩
 .intro t i h;change Ek P t=some i at h;unfold Ek at h;split at h
  case h_2=>cases h
  rename_i d info ab af;split at h
  case h_2=>cases h
  rename_i z bD;split at h
  case isFalse=>cases h
  rename_i aG;cases h;exact aG
 .intro t l h;exact ahF h
 intro t name f h;exact ahG h
def J(n:Int):D:= .val (.int .i64 n)
def ay(b:Bool):D:= .val (.bool b)
def aC(s:ByteArray):D:= .val (.string s)
def bA(l:List ByteArray):D:= .ax 1 (l.map λs=>[aC s])
end Go.Am
