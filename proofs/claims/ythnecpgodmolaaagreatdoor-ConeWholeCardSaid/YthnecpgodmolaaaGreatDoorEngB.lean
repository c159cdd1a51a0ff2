/- Calls, regions in any order, loops: their rules over such values. No condition. -/
import Derived.Test.YthnecpgodmolaaaGreatDoorEngA
import Derived.Still
import Derived.Scope
set_option linter.all false
set_option linter.unnecessarySimpa false
namespace Go.Am
def aK.put(σ:aK)(dst:Option Tmp)(r:aS):aK:=match dst with|some d=>⟨ct σ.aM d r,σ.objs⟩|none=>σ
def g4(T:cg)(G:dt)(σ:aK)(o:Oper):Option aK:=match eX T (ch G σ.aM) o.op with|some r=>some (σ.put o.dst r)|none=>match dF T (ch G σ.aM) σ.objs o.op with|some r=>some (σ.put o.dst r)|none=>match hg T (ch G σ.aM) σ.objs (o.dst.getD 9999) o.op with|some (r,cA)=>some (aK.put ⟨σ.aM,dG σ.objs cA⟩ o.dst r)|none=>none
structure sI(m:Mem)(fr:fP)(w:World):Prop where
 mem:∀b o,m b=some o->w.heap[b]?=some o
 frame:V2 fr w
 apart:∀b,m b≠none->fr b=none
def Den.ok{m:Mem}{fr:fP}{ρ:dp}{σ:aK}{a:Act}{w:World}(h:Den m fr ρ σ a w):sI m fr w:=⟨h.mem,h.frame,h.apart⟩
def x7(m:Mem)(aQ:List D)(vs:List Value):Prop:=vs.length=aQ.length/\∀(i:Nat)(d:D)(v:Value),aQ[i]?=some d->vs[i]?=some v->dx m d v
def v8(P:Program)(f:FuncId):Prop:=∃fn,P.funcs[f]?=some fn/\(fn.name== "runtime.NumGoroutine")=false/\fn.body.isNone=false
structure er(P:Program)(G:dt)(f:FuncId)(aQ:List D)(R:D->Prop):Prop where
 fn:v8 P f
 run:∀m fr w vs,kB G m->sI m fr w->x7 m aQ vs->Calls P f vs.toArray w λe w'=>∃v cF r,e= .returned v/\R r/\m.le cF/\sI cF fr w'/\dx cF r v
def er.mono{P:Program}{G:dt}{f:FuncId}{aQ:List D}{R WQ:D->Prop}(h:er P G f aQ R)(av:∀r,R r->WQ r):er P G f aQ WQ:=⟨h.fn,λm fr w vs c4 dV c1=>(h.run m fr w vs c4 dV c1).mono λe w' ⟨v,cF,r,ab,af,aw⟩=>⟨v,cF,r,ab,av r af,aw⟩⟩
def q7:List D->List D->Prop
 |[],[]=>True|x::xs,y::c6=>x.le y/\q7 xs c6|_,_=>False
def q7.refl:∀l:List D,q7 l l
 |[]=>trivial|x::l=>⟨x.le_refl,q7.refl l⟩
def q7.ok{m:Mem}:∀{xs c6:List D}{vs:List Value},q7 xs c6->x7 m xs vs->x7 m c6 vs
 |[],[],vs,_,h=>h|x::xs,y::c6,[],_,h=>by have:=h.1;simp at this|x::xs,y::c6,v::vs,aq,h=>by have ih:=q7.ok (m:=m) (vs:=vs) aq.2 ⟨by simpa using h.1,λi d u ay hu=>h.2 (i+1) d u (by simpa using ay) (by simpa using hu)⟩;refine⟨by simpa using ih.1,?_⟩;intro i d u ay hu;cases i with|zero=>simp at ay hu;subst ay;subst hu;exact aq.1 m v (h.2 0 x v rfl rfl)|succ i=>exact ih.2 i d u (by simpa using ay) (by simpa using hu)
 |[],y::c6,vs,h,_=>h.elim|x::xs,[],vs,h,_=>h.elim
def D.flat:D->Bool
 | .val _=>true| .agg cs=>cs.all λc=>match c with| .val _=>true|_=>false
 | .aZ cs=>cs.all λc=>match c with
  | .val _=>true| .agg cs=>cs.all λc=>match c with| .val _=>true|_=>false
  |_=>false
 |_=>false
def ahl{m cF:Mem}{c:D}{v:Value}(h:(match c with| .val _=>true|_=>false)=true)(ay:dx m c v):dx cF c v:=by cases c<;>first|(cases ay;exact .val _)|cases h
def flat_agg{m cF:Mem}{cs:List D}{v:Value}(h:(cs.all λc=>match c with| .val _=>true|_=>false)=true)(ay:dx m (.agg cs) v):dx cF (.agg cs) v:=by cases ay with|agg _ vs aq bO=>exact .agg _ _ aq λi c u an hu=>ahl (xaA.1 h c (xab an)) (bO i c u an hu)
def D.Ba{m cF:Mem}{x:D}{v:Value}(h:x.flat=true)(ay:dx m x v):dx cF x v:=by
 cases x with
 |val=>cases ay;exact .val _
 |agg cs=>exact flat_agg h ay
 |aZ cs=>
  cases ay with
  |aZ _ vs aq bO=>
   refine .aZ _ _ aq λi c u an hu=>?_;have ab:=xaA.1 h c (xab an);have af:=bO i c u an hu;cases c with
   |val=>cases af;exact .val _
   |agg cs=>exact flat_agg ab af|aZ=>cases ab
   |az=>cases ab
   |ea=>cases ab
   |mp=>cases ab
   |ref=>cases ab
   |fn=>cases ab
 |az=>cases h
 |ea=>cases h
 |mp=>cases h
 |ref=>cases h
 |fn=>cases h
def q8(objs:cG):aS->Option D
 | .d x=>some x| .row key=>match objs key with|some (.row k es)=>some (.az k es)|_=>none
 | .sub key k i len=>match objs key with
  |some (.row br es)=>if k=br/\i+len<=es.length then some (.az k ((es.drop i).take len))else none
  |_=>none
 | .map key=>match objs key with|some (.map es)=>some (.mp es)|_=>none
 |_=>none
def hC{α:Type}:List (Option α)->Option (List α)
 |[]=>some []|some x::r=>match hC r with|some l=>some (x::l)|none=>none
 |none::_=>none
def q9{α:Type}:∀{l:List (Option α)} {r:List α},hC l=some r->r.length=l.length/\∀(i:Nat)(x:α),r[i]?=some x->l[i]?=some (some x)
 |[],r,h=>by simp[hC]at h;subst h;simp|none::l,r,h=>by simp[hC]at h
 |some x::l,r,h=>by
  simp only[hC]at h;split at h
  case h_2=>cases h
  rename_i sx dE;cases h;have ih:=q9 dE;refine⟨by simp[ih.1],?_⟩;intro i y aJ;cases i with|zero=>simpa using aJ|succ i=>exact ih.2 i y (by simpa using aJ)
def nn(objs:cG):aS->Option D
 | .ptr key off=>match objs key with
  |some (.box cells)=>match hC (cells.map (q8 objs))with|some cs=>some (.ref cs off)|none=>none
  |_=>none
 | .eA cs off=>some (.ref cs off)|x=>q8 objs x
def oG(objs:cG):aS->Option D
 | .agg cs=>match hC (cs.map (nn objs))with|some aQ=>some (.agg aQ)|none=>none
 | .fn f first cap=>match hC (first.map (nn objs)),hC (cap.map (nn objs))with|some as,some kl=>some (.fn f as kl)|_,_=>none
 |x=>nn objs x
def toD(objs:cG):aS->Option D
 | .aZ cs=>match hC (cs.map (oG objs))with|some aQ=>some (.aZ aQ)|none=>none
 |x=>oG objs x
noncomputable def Den.all(m:Mem)(ρ:dp)(objs:cG)(w:World):Mem:=λb=>match m b with|some o=>some o|none=>open Classical in if∃k o,objs k=some o/\o.owns=true/\blockOf (ρ k)=some b then w.heap[b]? else none
section
variable{P:Program}{T:cg}{G:dt}{m:Mem}{fr:fP}{ρ:dp}{σ:aK}{a:Act}{w:World}
def Den.Bb(m:Mem)(ρ:dp)(objs:cG)(w:World):m.le (Den.all m ρ objs w):=by intro b o h;simp[Den.all,h]
def Den.Kr(h:Den m fr ρ σ a w){k:Key}{o:cS}{b:Nat}(ak:σ.objs k=some o)(aF:o.owns=true)(aj:blockOf (ρ k)=some b):Den.all m ρ σ.objs w b=w.heap[b]?:=by have:=(h.own k o b ak aF aj).1;simp only[Den.all,this];rw[xad ⟨k,o,ak,aF,aj⟩]
def Den.ahm(h:Den m fr ρ σ a w):∀b o,Den.all m ρ σ.objs w b=some o->w.heap[b]?=some o:=by
 intro b o aj;unfold Den.all at aj;cases hm:m b with
 |some x=>simp only[hm]at aj;cases aj;exact h.mem b _ hm
 |none=>
  simp only[hm]at aj;split at aj;.exact aj
  cases aj
def Den.WR(h:Den m fr ρ σ a w):sI (Den.all m ρ σ.objs w) fr w:=by
 refine⟨h.ahm,h.frame,?_⟩;intro b aj;unfold Den.all at aj;cases hm:m b with
 |some x=>exact h.apart b (by rw[hm];simp)
 |none=>
  simp only[hm]at aj;split at aj;.rename_i an;obtain⟨k,o,ab,af,aw⟩:=an;exact(h.own k o b ab af aw).2
  exact absurd rfl aj
def WS(h:Den m fr ρ σ a w){x:aS}{v:Value}{d:D}(ag:b4 m ρ σ.used x v)(ay:q8 σ.objs x=some d):dx (Den.all m ρ σ.objs w) d v:=by
 have hle:=Den.Bb m ρ σ.objs w;have row:∀key k es v,σ.objs key=some (.row k es)->v=ρ key->dx (Den.all m ρ σ.objs w) (.az k es) v:=by
  rintro key k es v ak rfl;rcases h.objs _ _ ak with⟨aO,rfl⟩|⟨b,o,cap,vs,dT,aO,aX,bQ,cO,eb,fq⟩;.rw[aO];exact .mO _ _ _
  have aj:=h.Kr ak rfl (by rw[aO];rfl);obtain⟨f1,f2⟩:=Wq (m:=m) eb fq;rw[aO];refine .az k es b o cap vs dT (0,0) (by rw[aj];exact aX) eb bQ (λi j=>(vs[o+i*k+j]?).getD undef) ?_ ?_;.intro i e j c ah aP;obtain⟨x,aW,a2⟩:=fq i e j c ah aP;rw[aW];rfl
  intro i e j c ah aP;obtain⟨x,aW,a2⟩:=fq i e j c ah aP;simp only[aW,xbe];exact a2.mono hle
 unfold q8 at ay;split at ay;.cases ay;exact ag.oC.mono hle
 .rename_i key;split at ay
  case h_2=>cases ay
  rename_i k es ak;cases ay;cases ag;exact row key k es _ ak rfl
 .rename_i key k i len;split at ay
  case h_2=>cases ay
  rename_i br es ak;split at ay
  case isFalse=>cases ay
  rename_i an;obtain⟨rfl,Pu⟩:=an;cases ay;cases ag with|kA _ _ _ hu av=>rw[xbV];exact .mO _ _ _|sub _ _ _ _ b o L cap iA hu av xZ aE=>
  have b2:((es.drop i).take len).length=len:=by simp;omega
  rcases Nat.eq_zero_or_pos len with ar|jD;.subst ar;rw[xbV];exact .mO _ _ _
  have mR:=row key k es _ ak rfl;rw[av]at mR;cases mR with
  |mO=>simp at Pu;omega
  |az _ _ _ _ _ vs dT eL hm dj an xs ab af=>
   have:=dx.az (m:=Den.all m ρ σ.objs w) k ((es.drop i).take len) b (o+i*k) (cap-i) vs dT eL hm (λe he=>dj e (xbt (xbo he))) (by omega) (λp j=>xs (i+p) j) (λp el j c e9 an=>by
     rw[xaQ]at e9;split at e9
     case isFalse=>cases e9
     rw[xaZ]at e9;have:=ab (i+p) el j c e9 an;rw[<-this]
     congr 1
     rw[xaU];omega)
    (λp el j c e9 an=>by
     rw[xaQ]at e9;split at e9
     case isFalse=>cases e9
     rw[xaZ]at e9;exact af (i+p) el j c e9 an)
   rw[b2]at this;rw[aE.1 (by omega)];exact this
 .rename_i key;split at ay
  case h_2=>cases ay
  rename_i es ak;cases ay;cases ag;obtain⟨r,dw,clock,aO,aX,bQ,cO,eb⟩:=h.objs _ _ ak;have aj:=h.Kr ak rfl (by rw[aO];rfl);rw[aO];exact .mp es r dw clock (by rw[aj];exact aX) bQ cO (λi e x he ag=>(eb i e x he ag).mono hle)
 cases ay
def Ks(h:Den m fr ρ σ a w){x:aS}{v:Value}{d:D}(ag:b4 m ρ σ.used x v)(ay:nn σ.objs x=some d):dx (Den.all m ρ σ.objs w) d v:=by
 have hle:=Den.Bb m ρ σ.objs w;unfold nn at ay;split at ay
 .rename_i key off;split at ay
  case h_2=>cases ay
  rename_i cells ak;split at ay
  case h_2=>cases ay
  rename_i cs hK;cases ay;obtain⟨b,vs,dT,aO,aX,bQ,cO⟩:=h.objs _ _ ak;have aj:=h.Kr ak rfl (by rw[aO];rfl);obtain⟨jZ,kF⟩:=q9 hK;cases ag with|ptr _ _ b' hu av=>
  rw[aO]at av;cases av;have key:∀(j:Nat)(c:D),cs[j]?=some c->∃u,vs[j]?=some u/\dx (Den.all m ρ σ.objs w) c u:=by
   intro j c an;have ab:=kF j c an;simp only[xaj,xah]at ab;obtain⟨y,aJ,iT⟩:=ab;have aP:j<vs.size:=by rw[bQ];exact(xae.1 aJ).1
   exact⟨_,xaq aP,WS h (cO j y _ aJ (xaq aP)) iT⟩
  have:=dx.ref (m:=Den.all m ρ σ.objs w) cs off b 0 vs dT (0,0) (by rw[aj];exact aX) (λj=>(vs[j]?).getD undef) (λj c an=>by obtain⟨u,ab,_⟩:=key j c an;simp[ab]) (λj c an=>by obtain⟨u,ab,af⟩:=key j c an;simp[ab];exact af);simpa using this
 .cases ay;cases ag with|eA _ _ b o vs T eL hm xs ab af=>exact .ref _ _ b o vs T eL (hle _ _ hm) xs ab (λj c an=>(af j c an).mono hle)
 exact WS h ag ay
def WT(h:Den m fr ρ σ a w){x:aS}{v:Value}{d:D}(ag:b4 m ρ σ.used x v)(ay:oG σ.objs x=some d):dx (Den.all m ρ σ.objs w) d v:=by
 unfold oG at ay;split at ay
 .rename_i cs;split at ay
  case h_2=>cases ay
  rename_i aQ eY;cases ay;obtain⟨jZ,kF⟩:=q9 eY;cases ag with|agg _ vs aq bO=>
  refine .agg _ _ (by rw[aq,jZ];simp) ?_;intro i c u an hu;have ab:=kF i c an;simp only[xaj,xah]at ab;obtain⟨y,aJ,iT⟩:=ab;exact Ks h (bO i y u aJ hu) iT
 .rename_i f first cap
  split at ay
  case h_2=>cases ay
  rename_i as kl has EL;cases ay;obtain⟨jZ,kF⟩:=q9 has;obtain⟨cD,dN⟩:=q9 EL;cases ag with|fn _ _ _ vs ws aq dE bO x8=>
  refine .fn _ _ _ vs ws (by rw[aq,jZ];simp) (by rw[dE,cD];simp) ?_ ?_;.intro i c u an hu;have ab:=kF i c an;simp only[xaj,xah]at ab;obtain⟨y,aJ,iT⟩:=ab;exact Ks h (bO i y u aJ hu) iT
  intro i c u an hu;have ab:=dN i c an;simp only[xaj,xah]at ab;obtain⟨y,aJ,iT⟩:=ab;exact Ks h (x8 i y u aJ hu) iT
 exact Ks h ag ay
def WU(h:Den m fr ρ σ a w){x:aS}{v:Value}{d:D}(ag:b4 m ρ σ.used x v)(ay:toD σ.objs x=some d):dx (Den.all m ρ σ.objs w) d v:=by
 unfold toD at ay;split at ay
 .rename_i cs;split at ay
  case h_2=>cases ay
  rename_i aQ eY;cases ay;obtain⟨jZ,kF⟩:=q9 eY;cases ag with|aZ _ vs aq bO=>
  refine .aZ _ _ (by rw[aq,jZ];simp) ?_;intro i c u an hu;have ab:=kF i c an;simp only[xaj,xah]at ab;obtain⟨y,aJ,iT⟩:=ab;exact WT h (bO i y u aJ hu) iT
 exact WT h ag ay
def ahn(h:Den m fr ρ σ a w){xs:List aS}{vs:List Value}{aQ:List D}(aq:vs.length=xs.length)(ag:∀(i:Nat)(x:aS)(v:Value),xs[i]?=some x->vs[i]?=some v->b4 m ρ σ.used x v)(ay:hC (xs.map (toD σ.objs))=some aQ):x7 (Den.all m ρ σ.objs w) aQ vs:=by obtain⟨jZ,kF⟩:=q9 ay;refine⟨by rw[aq,jZ];simp,?_⟩;intro i d v ab af;have aw:=kF i d ab;simp only[xaj,xah]at aw;obtain⟨y,aJ,iT⟩:=aw;exact WU h (ag i y v aJ af) iT
def Den.aho(h:Den m fr ρ σ a w){w':World}{cF:Mem}(hle:(Den.all m ρ σ.objs w).le cF)(dV:sI cF fr w'):Den m fr ρ σ a w':=by refine⟨λb o aj=>dV.mem b o (hle b o (Den.Bb m ρ σ.objs w b o aj)),dV.frame,h.apart,h.one,h.aM,?_,h.own,h.sep⟩;intro k o ak;refine(h.objs k o ak).mono (Mem.le_refl m) (λ_ hu=>⟨hu,rfl⟩) (λb aF aj=>?_);have ab:=h.Kr ak aF aj;have af:b<w.heap.size:=(h.objs k o ak).ug aF aj;have aw:=xaq af;rw[aw]at ab⊢;exact dV.mem b _ (hle b _ ab)
noncomputable def Den.hold(fr:fP)(ρ:dp)(objs:cG)(w:World):fP:=⟨Den.all fr.at_ ρ objs w,fr.os,fr.out,fr.low⟩
def Den.WV(h:Den m fr ρ σ a w){k:Key}{o:cS}{b:Nat}(ak:σ.objs k=some o)(aF:o.owns=true)(aj:blockOf (ρ k)=some b):Den.hold fr ρ σ.objs w b=w.heap[b]?:=by have:=(h.own k o b ak aF aj).2;simp only[Den.hold,Den.all,this];rw[xad ⟨k,o,ak,aF,aj⟩]
def Den.WW(h:Den m fr ρ σ a w):sI m (Den.hold fr ρ σ.objs w) w:=by
 refine⟨h.mem,⟨?_,⟨h.frame.quiet.os,h.frame.quiet.out,h.frame.quiet.low,h.frame.quiet.su⟩⟩,?_⟩
 .intro b o aj;unfold Den.hold Den.all at aj;cases hm:fr b with
  |some x=>simp only[hm]at aj;cases aj;exact h.frame.qg b _ hm
  |none=>
   simp only[hm]at aj;split at aj;.exact aj
   cases aj
 intro b aj;show Den.all fr.at_ ρ σ.objs w b=none;unfold Den.all;rw[h.apart b aj];simp only;rw[xac];rintro⟨k,o,ab,af,aw⟩;exact aj (h.own k o b ab af aw).1
def Den.kept(h:Den m fr ρ σ a w){w':World}{cF:Mem}(hle:m.le cF)(dV:sI cF (Den.hold fr ρ σ.objs w) w'):Den cF fr ρ σ a w':=by
 have qk:∀b o,fr b=some o->Den.hold fr ρ σ.objs w b=some o:=Den.Bb fr.at_ ρ σ.objs w;have jE:∀k o b,σ.objs k=some o->o.owns=true->blockOf (ρ k)=some b->cF b=none:=by intro k o b ak aF aj;cases hm:cF b with|none=>rfl|some x=>have ab:=dV.apart b (by rw[hm];simp);rw[h.WV ak aF aj,xaq ((h.objs k o ak).ug aF aj)]at ab;cases ab
 refine⟨dV.mem,⟨λb o aj=>dV.frame.qg b o (qk b o aj),⟨dV.frame.quiet.os,dV.frame.quiet.out,dV.frame.quiet.low,dV.frame.quiet.su⟩⟩,?_,h.one,λt=>(h.aM t).mono hle (λ_ hu=>⟨hu,rfl⟩),?_,λk o b ab af aw=>⟨jE k o b ab af aw,(h.own k o b ab af aw).2⟩,h.sep⟩;.intro b aj;have:=dV.apart b aj;cases ba:fr b with|none=>rfl|some x=>rw[qk b x ba]at this;cases this
 intro k o ak;refine(h.objs k o ak).mono hle (λ_ hu=>⟨hu,rfl⟩) (λb aF aj=>?_);have ab:=h.WV ak aF aj;have aw:=xaq ((h.objs k o ak).ug aF aj);rw[aw]at ab⊢;exact dV.frame.qg b _ ab
end
def eZ(o:Option cS):Prop:=(∃cs,o=some (.box cs))\/(∃k es,o=some (.row k es))\/∃es,o=some (.map es)
theorem ur{cs:List aS}:eZ (some (.box cs)):= .inl ⟨_,rfl⟩
theorem sJ{k:Nat}{es:List (List D)}:eZ (some (.row k es)):= .inr (.inl ⟨_,_,rfl⟩)
def uu:¬eZ none:=by rintro(⟨_,h⟩|⟨_,_,h⟩|⟨_,h⟩)<;>cases h
def EM:¬eZ (some .dead):=by rintro(⟨_,h⟩|⟨_,_,h⟩|⟨_,h⟩)<;>cases h
theorem v9{es:List (Value×D)}:eZ (some (.map es)):= .inr (.inr ⟨_,rfl⟩)
def Bc{o:Option cS}(h:eZ o):∃x,o=some x:=by rcases h with⟨_,h⟩|⟨_,_,h⟩|⟨_,h⟩<;>exact⟨_,h⟩
def k1(σ:aK)(ρ:dp)(aV:aK)(cV:dp):Prop:=∀k,10000<=k->eZ (σ.objs k)->eZ (aV.objs k)/\cV k=ρ k
theorem k1.refl(σ:aK)(ρ:dp):k1 σ ρ σ ρ:=λ_ _ h=>⟨h,rfl⟩
def k1.trans{gD gh WX:aK}{np lB WY:dp}(h:k1 gD np gh lB)(bx:k1 gh lB WX WY):k1 gD np WX WY:=λk ak aj=>let⟨a,b⟩:=h k ak aj;let⟨c,d⟩:=bx k ak a;⟨c,d.trans b⟩
@[simp] theorem aK.wa (σ:aK) (dst:Option Tmp) (r:aS):(σ.put dst r).objs=σ.objs:=by cases dst<;>rfl
def iU(N:Nat)(m:Mem)(fr:fP)(ρ:dp)(σ:aK)(K:aK->Prop)(cB:Act)(w':World):Prop:= ∃aV cF cV,K aV/\m.le cF/\Den cF fr cV aV cB w'/\N<=cB.tmps.size/\cB.defers=[]/\k1 σ ρ aV cV
def Den.put{m:Mem}{fr:fP}{ρ:dp}{σ:aK}{a:Act}{w:World}(h:Den m fr ρ σ a w){dst:Option Tmp}{r:aS}{v:Value}(av:b4 m ρ σ.used r v)(ay:∀d,dst=some d->d<a.tmps.size):Den m fr ρ (σ.put dst r) (a.put dst v) w:=by
 cases dst with
 |none=>exact h
 |some d=>
  refine⟨h.mem,h.frame,h.apart,h.one,?_,h.objs,h.own,h.sep⟩;intro t;have cu:=ay d rfl;by_cases aL:t=d
  .subst aL;simp only[aK.put,fa,Act.put];have:(a.tmps.setIfInBounds t v).getD t undef=v:=by simp[Array.getD,cu]
   rw[this];exact av
  simp only[aK.put,cZ _ _ aL,Act.put];have:(a.tmps.setIfInBounds d v).getD t undef=a.tmps.getD t undef:=by rw[xbw,xbw,xce,xac (Ne.symm aL)]
  rw[this];exact h.aM t
def PO{objs:cG}{k:Key}{o:cS}(h:eZ (objs k)->eZ (some o)):∀j,eZ (objs j)->eZ (ct objs k (some o) j):=by
 intro j aP;by_cases gC:j=k;.subst gC;rw[fa];exact h aP
 rw[cZ _ _ gC];exact aP
def ahp{T:cg}{ev:Operand->aS}{objs:cG}{d:Key}{o:Op}{r:aS}{cA:List (Key×cS)}(h:ep T ev objs d o=some (r,cA)):∀j,10000<=j->eZ (objs j)->eZ (dG objs cA j):=by
 have new:∀{o:cS},objs d=none->∀j,10000<=j->eZ (objs j)->eZ (dG objs [(d,o)] j):=by intro o ay j _;exact PO (λh=>by rw[ay]at h;exact absurd h uu) j
 have same:∀{k:Key}{dU o:cS},objs k=some dU->(eZ (some dU)->eZ (some o))->∀j,10000<=j->eZ (objs j)->eZ (dG objs [(k,o)] j):=by intro k dU o ak cK j _;exact PO (λh=>by rw[ak]at h;exact cK h) j
 cases o<;>simp only[ep,reduceCtorEq]at h
 case alloc=>split at h<;>cases h;exact new (by assumption)
 case box=>split at h<;>cases h;exact new (by assumption)
 case buildSlice=>
  split at h
  case h_2=>cases h
  split at h
  case h_2=>cases h
  split at h
  case h_2=>cases h
  split at h<;>cases h;exact new (by assumption)
 case makeSlice=>
  split at h
  case h_2=>cases h
  split at h
  case h_2=>cases h
  split at h
  case h_2=>cases h
  split at h<;>cases h;exact new (by assumption)
 case makeMap=>split at h<;>cases h;exact new (by assumption)
 case store=>
  split at h
  case h_2=>cases h
  split at h
  case isFalse=>cases h
  split at h
  .split at h
   case h_2=>cases h
   split at h<;>cases h;exact λj _=>PO (λ_=>ur) j
  .split at h
   case h_2=>cases h
   split at h
   case isFalse=>cases h
   split at h<;>cases h;exact same (by assumption) (λ_=>sJ)
  cases h
 case mapUpdate=>
  split at h
  case h_2=>cases h
  split at h
  case h_2=>cases h
  split at h
  case isFalse=>cases h
  split at h
  case h_2=>cases h
  split at h
  case h_2=>cases h
  split at h<;>cases h;exact same (by assumption) (λ_=>v9)
 case insert=>
  split at h
  case h_2=>cases h
  split at h
  case h_2=>cases h
  split at h
  case isFalse=>cases h
  split at h
  case h_2=>cases h
  split at h
  case h_2=>cases h
  split at h<;>cases h;exact same (by assumption) (λ_=>v9)
 case call=>
  split at h
  .split at h
   case h_2=>cases h
   split at h
   case h_2=>cases h
   split at h
   case h_2=>cases h
   split at h
   case h_2=>cases h
   split at h
   case isFalse=>cases h
   split at h;.split at h<;>cases h;exact new (by assumption)
   .split at h
    case h_2=>cases h
    split at h<;>cases h;rename_i ay _ _ _ _ _ _ _ _ _ _ _ _ ak _ _;rename_i PQ;intro j cJ aP;have ahq:j≠d:=by rintro rfl;simp_all [uu]
    simp only[dG];rw[cZ _ _ ahq,cZ _ _ (by rintro rfl;exact absurd PQ.2.2.2 (Nat.not_lt.2 cJ))];exact aP
   cases h
  .split at h
   case h_2=>cases h
   split at h
   case h_2=>cases h
   split at h
   case h_2=>cases h
   split at h
   case h_2=>cases h
   split at h
   case isFalse=>cases h
   split at h
   .split at h
    case h_2=>cases h
    split at h<;>cases h;exact same (by assumption) (λ_=>sJ)
   .split at h
    case h_2=>cases h
    split at h<;>cases h;exact same (by assumption) (λ_=>sJ)
   cases h
  .split at h
   case h_2=>cases h
   split at h
   case h_2=>cases h
   split at h
   case h_2=>cases h
   split at h
   case h_2=>cases h
   split at h
   case h_2=>cases h
   split at h<;>cases h;exact same (by assumption) (λ_=>sJ)
  cases h
def WZ{T:cg}{ev:Operand->aS}{objs:cG}{d:Key}{o:Op}{k:Key}{off:Nat}{cA:List (Key×cS)}(h:ep T ev objs d o=some (.ptr k off,cA)):objs d=none:=by
 cases o<;>simp only[ep,reduceCtorEq]at h
 case alloc=>split at h<;>cases h;assumption
 case box=>split at h<;>cases h;assumption
 all_goals (repeat' split at h)<;>cases h
def W0{T:cg}{ev:Operand->aS}{objs:cG}{d:Key}{o:Op}{cA:List (Key×cS)}(h:ep T ev objs d o=some (.row d,cA)):objs d=none:=by
 cases o<;>simp only[ep,reduceCtorEq]at h
 all_goals (repeat' split at h)<;>cases h<;>assumption
def ahr{T:cg}{ev:Operand->aS}{objs:cG}{d:Key}{o:Op}{r:aS}{cA:List (Key×cS)}(h:hg T ev objs d o=some (r,cA)):∀j,10000<=j->eZ (objs j)->eZ (dG objs cA j):=by
 obtain⟨⟨jI,sH⟩,ar,aj⟩:=v7 h;have ab:=ahp ar;intro j cJ aP;have aN:∀{o:cS},objs d=none->j≠d:=by rintro o ay rfl;rw[ay]at aP;exact uu aP
 rcases x6 (T.born d) d jI sH with e|⟨n,es,rfl,rfl,e⟩|⟨du,n,es,rfl,rfl,e⟩|⟨off,cs,aQ,rfl,rfl,eY,e⟩;.rw[aj]at e;cases e;exact ab j cJ aP
 .rw[aj]at e;cases e;have ay:=aN (o:= .dead) (W0 ar);have:=ab j cJ aP;simp only[dG,cZ _ _ ay]at this⊢;exact this
 .rw[aj]at e;cases e;have ay:=aN (o:= .dead) (W0 ar);have:=ab j cJ aP;simp only[dG,cZ _ _ ay]at this⊢;exact this
 rw[aj]at e;cases e;have ay:=aN (o:= .dead) (WZ ar);simp only[dG,cZ _ _ ay];exact aP
section
variable{P:Program}{T:cg}{G:dt}{m:Mem}{fr:fP}{ρ:dp}{σ:aK}{a:Act}{w:World}{N:Nat}
def ahs(bf:dR P T)(c4:kB G m)(h:Den m fr ρ σ a w)(bX:N<=a.tmps.size)(hD:a.defers=[]){o:Oper}(g5:∀d,o.dst=some d->d<N){aV:aK}(aG:g4 T G σ o=some aV){K:aK->Prop}(ed:K aV){Q:Exit->Act->World->Prop}:o.wp P a w (iU N m fr ρ σ K) Q:=by
 have dz:=Eu (a:=a) c4 h.aM;have iB:∀d,o.dst=some d->d<a.tmps.size:=λd ay=>Nat.lt_of_lt_of_le (g5 d ay) bX;have sK:∀v,N<=(a.put o.dst v).tmps.size:=by intro v;cases o.dst<;>simpa[Act.put]using bX
 have mq:∀v,(a.put o.dst v).defers=[]:=by intro v;cases o.dst<;>exact hD
 unfold Oper.wp;unfold g4 at aG;split at aG;.rename_i r av;cases aG;obtain⟨v,ab,af⟩:=agz (P:=P) (w:=w) (o:=o) bf h.one dz av;rw[ab];exact⟨_,m,ρ,ed,Mem.le_refl m,h.put af iB,sK v,mq v,λk ak aj=>⟨by simpa using aj,rfl⟩⟩
 split at aG;.rename_i r av;cases aG;obtain⟨v,ab,af⟩:=agG (P:=P) (w:=w) (o:=o) bf h.mem h.objs dz av;rw[ab];exact⟨_,m,ρ,ed,Mem.le_refl m,h.put af iB,sK v,mq v,λk ak aj=>⟨by simpa using aj,rfl⟩⟩
 split at aG
 case h_2=>cases aG
 rename_i r cA av;cases aG;obtain⟨nx,v,w',cF,cV,ab,af,hm,aw,a4,b6⟩:=ahk (P:=P) (o:=o) bf h dz av;rw[ab];have fin:iU N m fr ρ σ K (a.put o.dst v) w':=⟨_,cF,cV,ed,hm,aw.put a4 iB,sK v,mq v,λk ak aj=>⟨by rw[aK.wa];exact ahr av k ak aj,by obtain⟨c,an⟩:=Bc aj;exact(b6 k ⟨_,an⟩).2⟩⟩;rcases af with rfl|⟨rfl,rfl⟩
 .exact fin
 exact fin
def wb:aS->Option (FuncId×List aS×List aS)
 | .d (.val (.func (.func f) first cap))=>if first.size=0/\cap.size=0 then some (f,[],[])else none
 | .fn (.func f) first cap=>some (f,first,cap)
 | .d (.fn (.func f) first cap)=>some (f,first.map .d,cap.map .d)
 |_=>none
def Bd:aS->Bool
 | .d _=>true| .eA _ _=>true|_=>false
def sL:aS->Bool
 | .agg cs=>cs.all Bd| .fn _ as kl=>as.all Bd&&kl.all Bd|x=>Bd x
def PR{m:Mem}{ρ:dp}{U:Key->Prop}{objs:cG}{x:aS}{d:D}{v:Value}(h:Bd x=true)(ay:nn objs x=some d)(a3:b4 m ρ U x v):dx m d v:=by
 cases x<;>first|cases h|skip
 .simp only[nn,q8]at ay;cases ay;exact a3.oC
 simp only[nn]at ay;cases ay;cases a3 with|eA _ _ b o vs T eL hm xs ab af=>exact .ref _ _ b o vs T eL hm xs ab af
def PS{m:Mem}{ρ:dp}{U:Key->Prop}{objs:cG}{cs:List aS}{aQ:List D}{vs:Array Value}(h:cs.all Bd=true)(ay:hC (cs.map (nn objs))=some aQ)(aq:vs.size=cs.length) (a3:∀(i:Nat)(c:aS)(v:Value),cs[i]?=some c->vs[i]?=some v->b4 m ρ U c v):vs.size=aQ.length/\∀(i:Nat)(c:D)(v:Value),aQ[i]?=some c->vs[i]?=some v->dx m c v:=by obtain⟨ab,af⟩:=q9 ay;refine⟨by rw[ab,aq];simp,λi c v an ah=>?_⟩;have aw:=af i c an;simp only[xaj,xah]at aw;obtain⟨y,aJ,wc⟩:=aw;exact PR (xaA.1 h y (xab aJ)) wc (a3 i y v aJ ah)
def PT{m:Mem}{ρ:dp}{U:Key->Prop}{objs:cG}{x:aS}{d:D}{v:Value}(h:sL x=true)(ay:toD objs x=some d)(a3:b4 m ρ U x v):dx m d v:=by
 cases x
 case agg cs=>
  simp only[toD,oG]at ay;split at ay
  case h_2=>cases ay
  rename_i aQ eY;cases ay;cases a3 with|agg _ vs aq bO=>
  obtain⟨aW,a2⟩:=PS h eY aq bO;exact .agg _ _ aW a2
 case fn f as kl=>
  simp only[sL,xam]at h;simp only[toD,oG]at ay;split at ay
  case h_2=>cases ay
  rename_i aQ Be eY aht;cases ay;cases a3 with|fn _ _ _ vs ws aq dE bO x8=>
  obtain⟨aW,a2⟩:=PS h.1 eY aq bO;obtain⟨bb,cX⟩:=PS h.2 aht dE x8;exact .fn _ _ _ _ _ aW bb a2 cX
 case d y=>exact PR (x:= .d y) rfl (by simpa[toD,oG]using ay) a3
 case eA cs off=>exact PR (x:= .eA cs off) rfl (by simpa[toD,oG]using ay) a3
 all_goals cases h
def W1(P:Program)(G:dt)(σ:aK)(dst:Option Tmp)(f:FuncId)(uv:List aS)(K:aK->Prop):Prop:= ∃nq aQ R,hC (uv.map (toD σ.objs))=some nq/\q7 nq aQ/\er P G f aQ R/\(∃jI,R=(·=jI))/\((∀r,R r->r.flat=true)\/uv.all sL=true)/\∀r,R r->K (σ.put dst (.d r))
def jJ(P:Program)(G:dt)(o:Oper)(σ:aK)(K:aK->Prop):Prop:=match o.op with
 | .call ⟨.value x,args,_⟩=>match wb (ch G σ.aM x)with|some (f,pre,post)=>W1 P G σ o.dst f (pre++args.toList.map (ch G σ.aM)++post) K|none=>False
 |_=>False
def dh(P:Program)(T:cg)(G:dt)(o:Oper)(K:aK->Prop)(σ:aK):Prop:=match g4 T G σ o with|some aV=>K aV|none=>jJ P G o σ K
def eB(P:Program)(T:cg)(G:dt)(all:Array Oper)(o:Oper)(K:aK->Prop)(σ:aK):Prop:=match o.guard with
 |none=>dh P T G o K σ
 |some (j,want)=>match(all[j]?).bind (·.dst)with
  |some d=>match σ.aM d with
   | .d (.val (.bool b))=>if b=want then dh P T G o K σ else K (σ.put o.dst (.d (.val (.tuple #[]))))
   | .d (.val (.tuple _))=>K (σ.put o.dst (.d (.val (.tuple #[]))))|_=>False
  |none=>False
def fY(P:Program)(T:cg)(G:dt)(all:Array Oper):List Oper->(aK->Prop)->aK->Prop
 |[],K,σ=>K σ|o::r,K,σ=>eB P T G all o (fY P T G all r K) σ
def W2{va:Operand->Value}{x:Operand}{args:Array Operand}{dI:Array TypeId}{ty:TypeId}{f:FuncId}{first cap:Array Value}(ag:va x= .func (.func f) first cap)(ba:v8 P f):(do let d<-resolve va {callee:= .value x,args:=args,argTypes:=dI} ty;invoke d.target d.args:Sem Next).run P w= .ok (.enter f (first++args.map va++cap)) w:=by obtain⟨fn,ab,af,aw⟩:=ba;simp only[xag,resolve,ag,Deferred.ofValue,xau,xaf,invoke,callFunc,program,Sem.run,ab,af,aw,xas,xaD]
def ahu(c4:kB G m)(h:Den m fr ρ σ a w)(bX:N<=a.tmps.size)(hD:a.defers=[]){o:Oper}(g5:∀d,o.dst=some d->d<N){K:aK->Prop}(an:jJ P G o σ K){Q:Exit->Act->World->Prop}:o.wp P a w (iU N m fr ρ σ K) Q:=by
 have dz:=Eu (a:=a) c4 h.aM;have iB:∀d,o.dst=some d->d<a.tmps.size:=λd ay=>Nat.lt_of_lt_of_le (g5 d ay) bX;have sK:∀v,N<=(a.put o.dst v).tmps.size:=by intro v;cases o.dst<;>simpa[Act.put]using bX
 have mq:∀v,(a.put o.dst v).defers=[]:=by intro v;cases o.dst<;>exact hD
 unfold jJ at an;split at an
 case h_2=>cases an
 rename_i x args dI eM;split at an
 case h_2=>cases an
 rename_i f pre post g0;obtain⟨nq,aQ,R,ab,af,aw,a4,b6,cP⟩:=an;have ag:=dz x;have PU:∃first cap,a.eval x= .func (.func f) first cap/\first.size=pre.length/\cap.size=post.length/\(∀(i:Nat)(c:aS)(v:Value),pre[i]?=some c->first[i]?=some v->b4 m ρ σ.used c v)/\(∀(i:Nat)(c:aS)(v:Value),post[i]?=some c->cap[i]?=some v->b4 m ρ σ.used c v):=by
  unfold wb at g0;split at g0
  .rename_i kG first cap he
   split at g0
   case isFalse=>cases g0
   rename_i ar;cases g0;rw[he]at ag;exact⟨first,cap,ag.hZ,by simpa using ar.1,by simpa using ar.2,by intro i c v an;simp at an,by intro i c v an;simp at an⟩
  .rename_i kG first cap he
   cases g0;rw[he]at ag;generalize a.eval x=u at ag;cases ag with|fn _ _ _ vs ws aq dE g lC=>exact⟨vs,ws,rfl,aq,dE,g,lC⟩
  .rename_i kG first cap he
   cases g0;rw[he]at ag;have ag:=ag.oC;generalize a.eval x=u at ag;cases ag with|fn _ _ _ vs ws aq dE g lC=>
   refine⟨vs,ws,rfl,by simpa using aq,by simpa using dE,?_,?_⟩;.intro i c v an a3;simp only[xaj,xah]at an;obtain⟨y,aJ,rfl⟩:=an;exact .d _ _ (g i y v aJ a3)
   intro i c v an a3;simp only[xaj,xah]at an;obtain⟨y,aJ,rfl⟩:=an;exact .d _ _ (lC i y v aJ a3)
  .cases g0
 obtain⟨first,cap,vT,nO,qh,aW,a2⟩:=PU;have gw:∀(i:Nat)(c:aS)(v:Value),(pre++args.toList.map (ch G σ.aM)++post)[i]?=some c->(first++args.map a.eval++cap).toList[i]?=some v->b4 m ρ σ.used c v:=by
  intro i c v an a3;simp only[Array.toList_append,Array.toList_map]at a3;have aO:first.toList.length=pre.length:=by simpa using nO
  by_cases ab:i<pre.length;.rw[xaT,xaJ ab]at an;rw[xaT,xaJ (by omega)]at a3;exact aW i c v an (by simpa using a3)
  .by_cases af:i<pre.length+args.size;.rw[xaJ (by simp;omega),xaH (by omega)]at an;rw[xaJ (by simp;omega),xaH (by omega),aO]at a3;simp only[xaj,xah]at an a3;obtain⟨p,aT,rfl⟩:=an;obtain⟨q,bj,rfl⟩:=a3;rw[aT]at bj;cases bj;exact dz _
   rw[xaH (by simp;omega)]at an;rw[xaH (by simp;omega)]at a3;refine a2 _ c v an ?_;rw[<-a3];simp only[xaO,xaS,xcd,nO];simp
 have b2:(first++args.map a.eval++cap).toList.length=(pre++args.toList.map (ch G σ.aM)++post).length:=by simp[nO,qh]
 have PV:(execOp a.eval o).run P w= .ok (.enter f (first++args.map a.eval++cap)) w:=by unfold execOp;rw[eM];exact W2 vT aw.fn
 unfold Oper.wp;rw[PV];rcases b6 with b6|b6
 ·
  have c1:=q7.ok af (ahn h b2 gw ab);have sM:=aw.run _ fr w _ (c4.mono (Den.Bb m ρ σ.objs w)) h.WR c1;simp only[Array.toArray_toList]at sM;refine sM.mono λe w' he=>?_;obtain⟨v,cF,r,rfl,bz,bA,cx,eo⟩:=he;have bR:=h.aho bA cx;exact⟨_,m,ρ,cP r bz,Mem.le_refl m,bR.put (.d _ _ (D.Ba (b6 r bz) eo)) iB,sK v,mq v,λk ak aj=>⟨by simpa using aj,rfl⟩⟩
 have PW:x7 m nq (first++args.map a.eval++cap).toList:=by obtain⟨aW,a2⟩:=q9 ab;refine⟨by rw[b2,aW];simp,?_⟩;intro i d v ay a3;have bb:=a2 i d ay;rw[xaj,xah]at bb;obtain⟨y,aJ,uw⟩:=bb;exact PT (xaA.1 b6 y (xab aJ)) uw (gw i y v aJ a3)
 have sM:=aw.run m _ w _ c4 h.WW (q7.ok af PW);simp only[Array.toArray_toList]at sM;refine sM.mono λe w' he=>?_;obtain⟨v,cF,r,rfl,bz,bA,cx,eo⟩:=he;have bR:=h.kept bA cx;exact⟨_,cF,ρ,cP r bz,bA,bR.put (.d _ _ eo) iB,sK v,mq v,λk ak aj=>⟨by simpa using aj,rfl⟩⟩
def PX(bf:dR P T)(c4:kB G m)(h:Den m fr ρ σ a w)(bX:N<=a.tmps.size)(hD:a.defers=[]){o:Oper}(g5:∀d,o.dst=some d->d<N){K:aK->Prop}(an:dh P T G o K σ){Q:Exit->Act->World->Prop}:o.wp P a w (iU N m fr ρ σ K) Q:=by
 unfold dh at an;split at an;.exact ahs bf c4 h bX hD g5 (by assumption) an
 exact ahu c4 h bX hD g5 an
def PY(bf:dR P T)(c4:kB G m)(h:Den m fr ρ σ a w)(bX:N<=a.tmps.size)(hD:a.defers=[]){all:Array Oper}{i:Nat}{o:Oper}(ah:all[i]?=some o)(g5:∀d,o.dst=some d->d<N){K:aK->Prop}(an:eB P T G all o K σ) {Q:Exit->Act->World->Prop}:wpOp P all Q i (iU N m fr ρ σ K) a w:=by
 have iB:∀d,o.dst=some d->d<a.tmps.size:=λd ay=>Nat.lt_of_lt_of_le (g5 d ay) bX;unfold wpOp;simp only[ah];unfold eB at an;split at an
 .rename_i b5;have:Region.wanted o (yielded all a.tmps)=true:=by simp[Region.wanted,b5]
  rw[xad this];exact .inl (PX bf c4 h bX hD g5 an)
 rename_i j want b5;split at an
 case h_2=>cases an
 rename_i d ay;have iV:∀v,a.tmps.getD d undef=v->yielded all a.tmps j=(match v with| .bool b=>some b|_=>none):=by intro v a3;unfold yielded;rw[ay];simp only[Option.bind_some];rw[xbw]at a3;cases cu:a.tmps[d]? with|none=>rw[cu]at a3;simp only[Option.getD_none]at a3;subst a3;rfl|some u=>rw[cu]at a3;simp only[xbe]at a3;subst a3;cases u<;>rfl
 have skip:Region.wanted o (yielded all a.tmps)=false->K (σ.put o.dst (.d (.val (.tuple #[]))))->iU N m fr ρ σ K (a.put o.dst undef) w:=λ_ ak=>⟨_,m,ρ,ak,Mem.le_refl m,h.put (.d _ _ (.val _)) iB,by cases o.dst<;>simpa[Act.put]using bX,by cases o.dst<;>exact hD,λk ak aj=>⟨by simpa using aj,rfl⟩⟩;split at an
 .rename_i b aG;have a3:=h.aM d;rw[aG]at a3;have aJ:=iV _ a3.hZ;simp only at aJ;have hw:Region.wanted o (yielded all a.tmps)=(b==want):=by
   simp only[Region.wanted,b5,aJ];cases b<;>cases want<;>rfl
  by_cases aj:b=want;.rw[xad aj]at an;rw[hw,xad (by simpa using aj)];exact .inl (PX bf c4 h bX hD g5 an)
  rw[xac aj]at an;have ba:Region.wanted o (yielded all a.tmps)=false:=by rw[hw];simpa using aj
  rw[xac (by rw[ba];simp)];exact skip ba an
 .rename_i vs aG;have a3:=h.aM d;rw[aG]at a3;have aJ:=iV _ a3.hZ;simp only at aJ;have ba:Region.wanted o (yielded all a.tmps)=false:=by
   simp only[Region.wanted,b5,aJ];rfl
  rw[xac (by rw[ba];simp)];exact skip ba an
 cases an
def wpOp_mono{ops:Array Oper}{Q:Exit->Act->World->Prop}{i:Nat}{K K':Act->World->Prop}(ak:∀a w,K a w->K' a w){a:Act}{w:World}(h:wpOp P ops Q i K a w):wpOp P ops Q i K' a w:=by
 unfold wpOp at*;split;.rename_i e;simp only[e]at h;exact ak _ _ h
 rename_i o e;simp only[e]at h;split
 .rename_i hw;rw[xad hw]at h;rcases h with h|h
  .refine .inl ?_;unfold Oper.wp at*;generalize (execOp a.eval o).run P w=r at*;cases r with
   |ok n w'=>
    cases n<;>simp only[Oper.upon]at h⊢<;>first|exact ak _ _ h|exact h|skip
    .refine h.mono λe k2 he=>?_;cases e with|returned v=>exact ak _ _ he|panicked c=>exact he|outgrown=>exact he
    exact h.mono λv k2 he=>ak _ _ he
   |halt x w'=>cases x<;>exact h
  exact .inr h
 rename_i hw;rw[xac hw]at h;exact ak _ _ h
end
def Kt{ev iW:Operand->aS}{l:List Operand}(h:∀x∈l,ev x=iW x):l.map ev=l.map iW:=List.map_congr_left h
theorem W3{ev iW:Operand->aS}{j0:Array (Nat×Operand)}(h:∀x∈(j0.toList.map (·.2)),ev x=iW x):(j0.toList.map λp=>(p.1,ev p.2))=j0.toList.map λp=>(p.1,iW p.2):=List.map_congr_left λp aT=>by rw[h p.2 (xap.2 ⟨p,aT,rfl⟩)]
def ahv{T:cg}{ev iW:Operand->aS}{op:Op}(h:∀x∈op.operands.toList,ev x=iW x):eX T ev op=eX T iW op:=by
 cases op<;>simp only[eX]
 case move x=>rw[h x (by simp[Op.operands])]
 case assign x=>rw[h x (by simp[Op.operands])]
 case pick c a b=>rw[h c (by simp[Op.operands]),h a (by simp[Op.operands]),h b (by simp[Op.operands])]
 case binOp op t x y xV=>rw[h x (by simp[Op.operands]),h y (by simp[Op.operands])]
 case unOp op t x=>rw[h x (by simp[Op.operands])]
 case convert s t x=>rw[h x (by simp[Op.operands])]
 case fieldAddr s x f=>rw[h x (by simp[Op.operands])]
 case field s x f=>rw[h x (by simp[Op.operands])]
 case extract x i=>rw[h x (by simp[Op.operands])]
 case build t parts=>rw[W3 (by simpa[Op.operands]using h)]
 case index t x i=>rw[h x (by simp[Op.operands]),h i (by simp[Op.operands])]
 case makeFunc f first cap=>rw[Kt (l:=first.toList) (λx ag=>h x (by simp[Op.operands]at ag⊢;exact .inl ag)),Kt (l:=cap.toList) (λx ag=>h x (by simp[Op.operands]at ag⊢;exact .inr ag))]
 case makeInterface t x=>rw[h x (by simp[Op.operands])]
 case nilCheck x=>rw[h x (by simp[Op.operands])]
 case slice t x lo ah hA=>
  cases hA with
  |some _=>rfl
  |none=>
   simp only[eX];have aO:lo.map ev=lo.map iW:=by cases lo with|none=>rfl|some l=>simp only[xaP];rw[h l (by simp[Op.operands])]
   have aX:ah.map ev=ah.map iW:=by cases ah with|none=>rfl|some l=>simp only[xaP];rw[h l (by simp[Op.operands])]
   rw[h x (by simp[Op.operands]),aO,aX]
 case call c=>obtain⟨callee,args,dI⟩:=c;simp only;have e:args.toList.map ev=args.toList.map iW:=Kt λx ag=>h x (by simp[Op.operands,Call.operands]at ag⊢;exact .inr ag);rw[e]
def ahw{T:cg}{ev iW:Operand->aS}{objs:cG}{op:Op}(h:∀x∈op.operands.toList,ev x=iW x):dF T ev objs op=dF T iW objs op:=by
 cases op<;>simp only[dF]
 case load t a=>rw[h a (by simp[Op.operands])]
 case indexAddr t x fF=>rw[h x (by simp[Op.operands]),h fF (by simp[Op.operands])]
 case slice t x lo ah hA=>
  cases hA with
  |some _=>rfl
  |none=>
   simp only[dF];have aO:lo.map ev=lo.map iW:=by cases lo with|none=>rfl|some l=>simp only[xaP];rw[h l (by simp[Op.operands])]
   have aX:ah.map ev=ah.map iW:=by cases ah with|none=>rfl|some l=>simp only[xaP];rw[h l (by simp[Op.operands])]
   rw[h x (by simp[Op.operands]),aO,aX]
 case call c=>
  obtain⟨callee,args,dI⟩:=c;simp only;split
  .split
   .rename_i t x lV jC;have aE:args= #[x]:=by apply xbB;simpa using jC
    have e:ev x=iW x:=h x (by simp[Op.operands,Call.operands,aE]);rw[e]
   rfl
  rfl
 case lookup t x k ok=>rw[h x (by simp[Op.operands]),h k (by simp[Op.operands])]
 case binOp op t x y xV=>rw[h x (by simp[Op.operands]),h y (by simp[Op.operands])]
def ahx{T:cg}{ev iW:Operand->aS}{objs:cG}{d:Key}{op:Op}(h:∀x∈op.operands.toList,ev x=iW x):ep T ev objs d op=ep T iW objs d op:=by
 cases op<;>simp only[ep]
 case box t x=>rw[h x (by simp[Op.operands])]
 case buildSlice t n parts=>rw[W3 (by simpa[Op.operands]using h)]
 case makeSlice t l c=>rw[h l (by simp[Op.operands]),h c (by simp[Op.operands])]
 case store t a x=>rw[h a (by simp[Op.operands]),h x (by simp[Op.operands])]
 case mapUpdate t m k x=>rw[h m (by simp[Op.operands]),h k (by simp[Op.operands]),h x (by simp[Op.operands])]
 case insert t m k x=>rw[h m (by simp[Op.operands]),h k (by simp[Op.operands]),h x (by simp[Op.operands])]
 case call c=>
  obtain⟨callee,args,dI⟩:=c;simp only;split
  .split
   .rename_i t t' s x lV jC;have aE:args= #[s,x]:=by apply xbB;simpa using jC
    have aO:ev s=iW s:=h s (by simp[Op.operands,Call.operands,aE]);have aX:ev x=iW x:=h x (by simp[Op.operands,Call.operands,aE]);rw[aO,aX]
   rfl
  .split
   .rename_i t t' s x lV jC;have aE:args= #[s,x]:=by apply xbB;simpa using jC
    have aO:ev s=iW s:=h s (by simp[Op.operands,Call.operands,aE]);have aX:ev x=iW x:=h x (by simp[Op.operands,Call.operands,aE]);rw[aO,aX]
   rfl
  .split
   .rename_i t s lV jC;have aE:args= #[s]:=by apply xbB;simpa using jC
    rw[h s (by simp[Op.operands,Call.operands,aE])]
   rfl
  rfl
def ahy{T:cg}{ev iW:Operand->aS}{objs:cG}{d:Key}{op:Op}(h:∀x∈op.operands.toList,ev x=iW x):hg T ev objs d op=hg T iW objs d op:=by unfold hg;rw[ahx h]
def iL:Op->Bool
 | .move _| .assign _| .pick ..| .unOp ..| .convert ..| .fieldAddr ..| .field ..| .extract ..| .build ..| .index ..| .makeFunc ..| .makeInterface ..| .nilCheck _=>true|_=>false
def jg:Op->Bool
 | .load ..| .indexAddr ..| .slice ..| .lookup ..| .binOp ..=>true| .call ⟨.builtin b,_,_⟩=>match b with| .len| .max| .min=>true|_=>false
 |_=>false
def hE:Op->Bool
 | .call ⟨.value _,_,_⟩=>true|_=>false
def ql:Op->Bool
 | .alloc _| .box ..| .buildSlice ..=>true|_=>false
theorem Bf{T:cg}{ev:Operand->aS}{objs:cG}{d:Key}{op:Op}(h:iL op=true):dF T ev objs op=none/\hg T ev objs d op=none:=by cases op<;>first|exact⟨rfl,rfl⟩|cases h
def Bg{T:cg}{ev:Operand->aS}{objs:cG}{d:Key}{op:Op}(h:jg op=true):hg T ev objs d op=none:=by
 cases op
 case call c=>
  obtain⟨callee,args,dI⟩:=c;cases callee with
  |value=>cases h
  |invoke=>cases h
  |builtin b=>cases b<;>first|rfl|cases h
 all_goals first|rfl|cases h
def PZ{T:cg}{ev:Operand->aS}{objs:cG}{d:Key}{op:Op}(h:hE op=true):eX T ev op=none/\dF T ev objs op=none/\hg T ev objs d op=none:=by
 cases op
 case call c=>
  obtain⟨callee,args,dI⟩:=c;cases callee with
  |value=>exact⟨rfl,rfl,rfl⟩|invoke=>cases h
  |builtin b=>cases h
 all_goals cases h
theorem ra{T:cg}{ev:Operand->aS}{objs:cG}{op:Op}(h:ql op=true):eX T ev op=none/\dF T ev objs op=none:=by cases op<;>first|exact⟨rfl,rfl⟩|cases h
def ahz{T:cg}{ev:Operand->aS}{objs objs':cG}{d:Key}{op:Op}(h:ql op=true)(ar:objs' d=none){r:aS}{cA:List (Key×cS)}(he:ep T ev objs d op=some (r,cA)):ep T ev objs' d op=some (r,cA)/\objs d=none/\∃o,cA=[(d,o)]:=by
 cases op
 case alloc t=>
  simp only[ep]at he⊢;split at he
  case h_2=>cases he
  rename_i i aL ay;cases he;exact⟨by simp only[ar,aL],ay,_,rfl⟩
 case box t x=>
  simp only[ep]at he⊢;split at he
  case h_2=>cases he
  rename_i cs an ay;cases he;exact⟨by simp only[ar,an],ay,_,rfl⟩
 case buildSlice t n parts=>
  simp only[ep]at he⊢;split at he
  case h_2=>cases he
  rename_i e s b z aL ay;simp only[ar,aL];split at he
  case h_2=>cases he
  rename_i bh iJ
  try simp only[iJ]
  split at he
  case h_2=>cases he
  rename_i es aT
  try simp only[aT]
  split at he
  case isFalse=>cases he
  rename_i an;cases he;exact⟨by rw[xad an],ay,_,rfl⟩
 all_goals cases h
def Bh{T:cg}{ev:Operand->aS}{objs objs':cG}{d:Key}{op:Op}(h:ql op=true)(ar:objs' d=none){r:aS}{cA:List (Key×cS)}(he:hg T ev objs d op=some (r,cA)):hg T ev objs' d op=some (r,cA)/\objs d=none/\∃o,cA=[(d,o)]:=by
 obtain⟨⟨jI,sH⟩,pr,aj⟩:=v7 he;obtain⟨aW,a2,o,rfl⟩:=ahz (objs':=objs') h ar pr;refine⟨by unfold hg;rw[aW];simp[aj],a2,?_⟩;rcases x6 (T.born d) d jI [(d,o)]with e|⟨n,es,aO,aX,e⟩|⟨du,n,es,aO,aX,e⟩|⟨off,cs,aQ,aO,aX,eY,e⟩;.rw[aj]at e;cases e;exact⟨o,rfl⟩
 .rw[aj]at e;cases e;exact⟨_,rfl⟩
 .cases aX
 rw[aj]at e;cases e;exact⟨_,rfl⟩
def cG.ext(objs objs':cG):Prop:=∀k o,objs k=some o->objs' k=some o
def cG.Ku{objs:cG}{k:Key}(h:objs k=none)(o:cS):objs.ext (ct objs k (some o)):=by
 intro j x ag;have:j≠k:=by rintro rfl;rw[h]at ag;cases ag
 rw[cZ _ _ this];exact ag
def W4{objs objs':cG}(h:objs.ext objs'){x:aS}{n:Nat}(aq:ki objs x=some n):ki objs' x=some n:=by
 unfold ki at*;split at aq;.exact aq
 .exact aq
 .split at aq;.rename_i ak;rw[h _ _ ak];exact aq
  cases aq
 .exact aq
 cases aq
def Kv{objs objs':cG}(h:objs.ext objs'){x:aS}{b:Bool}(aq:mP objs x=some b):mP objs' x=some b:=by
 unfold mP at*;split at aq;.exact aq
 .exact aq
 .split at aq;.rename_i ak;rw[h _ _ ak];exact aq
  cases aq
 cases aq
def W5{objs objs':cG}(h:objs.ext objs'){x:aS}{d:D}(aq:q8 objs x=some d):q8 objs' x=some d:=by
 unfold q8 at*;split at aq;.exact aq
 .split at aq;.rename_i ak;rw[h _ _ ak];exact aq
  cases aq
 .split at aq;.rename_i ak;rw[h _ _ ak];exact aq
  cases aq
 .split at aq;.rename_i ak;rw[h _ _ ak];exact aq
  cases aq
 cases aq
def ps{α:Type}{f g:aS->Option α}(h:∀x d,f x=some d->g x=some d):∀(l:List aS)(r:List α),hC (l.map f)=some r->hC (l.map g)=some r
 |[],r,av=>av
 |x::l,r,av=>by
  simp only[xaz]at av⊢;cases ag:f x with
  |none=>simp[ag,hC]at av
  |some d=>
   rw[ag]at av;simp only[hC]at av;split at av
   case h_2=>cases av
   rename_i sx dE;rw[h x d ag];simp only[hC,ps h l sx dE];exact av
def Kw{objs objs':cG}(h:objs.ext objs'){x:aS}{d:D}(aq:nn objs x=some d):nn objs' x=some d:=by
 unfold nn at*;split at aq
 .split at aq
  case h_2=>cases aq
  rename_i ak;simp only[h _ _ ak];split at aq
  case h_2=>cases aq
  rename_i cs hK;rw[ps (λx d ag=>W5 h ag) _ _ hK];exact aq
 .exact aq
 exact W5 h aq
def W6{objs objs':cG}(h:objs.ext objs'){x:aS}{d:D}(aq:oG objs x=some d):oG objs' x=some d:=by
 unfold oG at*;split at aq
 .split at aq
  case h_2=>cases aq
  rename_i aQ eY;rw[ps (λx d ag=>Kw h ag) _ _ eY];exact aq
 .split at aq
  case h_2=>cases aq
  rename_i as kl has EL;rw[ps (λx d ag=>Kw h ag) _ _ has,ps (λx d ag=>Kw h ag) _ _ EL];exact aq
 exact Kw h aq
def ahA{objs objs':cG}(h:objs.ext objs'){x:aS}{d:D}(aq:toD objs x=some d):toD objs' x=some d:=by
 unfold toD at*;split at aq
 .split at aq
  case h_2=>cases aq
  rename_i aQ eY;rw[ps (λx d ag=>W6 h ag) _ _ eY];exact aq
 exact W6 h aq
def ahB{T:cg}{ev:Operand->aS}{objs objs':cG}(h:objs.ext objs'){op:Op}{r:aS}(hm:dF T ev objs op=some r):dF T ev objs' op=some r:=by
 cases op<;>simp only[dF,reduceCtorEq]at hm⊢
 case load t a=>
  split at hm
  case h_2=>cases hm
  split at hm;.exact hm
  .split at hm
   case h_2=>cases hm
   rename_i ak;simp only[h _ _ ak];exact hm
  .split at hm
   case h_2=>cases hm
   rename_i ak;simp only[h _ _ ak];exact hm
  cases hm
 case indexAddr t x fF=>
  split at hm
  .split at hm
   case h_2=>cases hm
   split at hm
   case isFalse=>cases hm
   rename_i ar;rw[xad ar];split at hm;.exact hm
   .split at hm
    case h_2=>cases hm
    rename_i ak;simp only[h _ _ ak];exact hm
   .exact hm
   cases hm
  .exact hm
  cases hm
 case slice t x lo ah hA=>
  cases hA with
  |some _=>simp[dF]at hm
  |none=>
   simp only[dF]at hm⊢;split at hm
   case h_3=>cases hm
   case h_2=>exact hm
   split at hm
   case h_2=>cases hm
   split at hm
   case h_2=>cases hm
   rename_i n aN;simp only[W4 h aN];split at hm
   case h_2=>cases hm
   split at hm
   case isFalse=>cases hm
   rename_i an;rw[xad an];split at hm;.exact hm
   .split at hm
    case h_2=>cases hm
    rename_i ak;simp only[h _ _ ak];exact hm
   .exact hm
   cases hm
 case call c=>
  split at hm
  case h_2=>cases hm
  split at hm
  case h_2=>cases hm
  split at hm;.exact hm
  .split at hm
   case h_2=>cases hm
   rename_i n aN;simp only[W4 h aN];exact hm
  .exact hm
  .exact hm
  .split at hm
   case h_2=>cases hm
   rename_i ak;simp only[h _ _ ak];exact hm
  cases hm
 case lookup t x k ok=>
  split at hm
  case h_2=>cases hm
  split at hm;.exact hm
  .exact hm
  .split at hm
   case h_2=>cases hm
   rename_i ak;simp only[h _ _ ak];exact hm
  cases hm
 case binOp op t x y xV=>
  split at hm
  case h_2=>cases hm
  split at hm
  .split at hm
   .rename_i an;rw[xad an];split at hm
    case h_2=>cases hm
    rename_i b aj;simp only[Kv h aj];exact hm
   rename_i an;rw[xac an];split at hm
   case isFalse=>cases hm
   rename_i pt;rw[xad pt];split at hm
   case h_2=>cases hm
   rename_i b aj;simp only[Kv h aj];exact hm
  .split at hm
   .rename_i an;rw[xad an];split at hm
    case h_2=>cases hm
    rename_i b aj;simp only[Kv h aj];exact hm
   rename_i an;rw[xac an];split at hm
   case isFalse=>cases hm
   rename_i pt;rw[xad pt];split at hm
   case h_2=>cases hm
   rename_i b aj;simp only[Kv h aj];exact hm
  cases hm
def W7:∀(cA:List (Key×cS)) {objs:cG} {k:Key} {o:cS},(∀p∈cA,p.1≠k)->dG (ct objs k (some o)) cA=ct (dG objs cA) k (some o)
 |[],objs,k,o,_=>rfl
 |(j,x)::r,objs,k,o,h=>by
  have aP:j≠k:=h (j,x) (by simp);simp only[dG];have e:ct (ct objs k (some o)) j (some x)=ct (ct objs j (some x)) k (some o):=by
   funext i
   simp only[ct];by_cases ab:i=j;.subst ab;simp[aP]
   by_cases af:i=k;.subst af;simp[ab]
   simp[ab,af]
  rw[e];exact W7 r (λp aT=>h p (by simp[aT]))
def Kx{objs objs':cG}(h:objs.ext objs'){x:aS}{r:Nat×List (List D)}(aq:mm objs x=some r):mm objs' x=some r:=by
 unfold mm at*;split at aq;.exact aq
 .exact aq
 .split at aq;.rename_i ak;rw[h _ _ ak];exact aq
  cases aq
 .split at aq;.rename_i ak;rw[h _ _ ak];exact aq
  cases aq
 cases aq
def ahC{T:cg}{ev:Operand->aS}{objs objs':cG}(h:objs.ext objs'){d k:Key}(ay:d≠k)(ak:objs k=none)(km:objs d=none->objs' d=none){op:Op}{r:aS}{cA:List (Key×cS)} (he:ep T ev objs d op=some (r,cA)):ep T ev objs' d op=some (r,cA)/\∀p∈cA,p.1≠k:=by
 have one:∀{o:cS},∀p∈[(d,o)],p.1≠k:=by intro o p aT;simp at aT;subst aT;exact ay
 have nS:∀{j:Key}{x o:cS},objs j=some x->∀p∈[(j,o)],p.1≠k:=by intro j x o aP p aT;simp at aT;subst aT;rintro rfl;rw[ak]at aP;cases aP
 cases op<;>simp only[ep,reduceCtorEq]at he
 case alloc t=>split at he<;>cases he;rename_i i aL ar;exact⟨by simp only[ep,aL,km ar],one⟩
 case box t x=>split at he<;>cases he;rename_i cs an ar;exact⟨by simp only[ep,an,km ar],one⟩
 case buildSlice t n parts=>
  split at he
  case h_2=>cases he
  rename_i e s b z aL ar;split at he
  case h_2=>cases he
  rename_i bh iJ;split at he
  case h_2=>cases he
  rename_i es aT;split at he
  case isFalse=>cases he
  rename_i an;cases he;exact⟨by simp only[ep,aL,km ar,iJ,aT];rw[xad an],one⟩
 case makeSlice t l c=>
  split at he
  case h_2=>cases he
  rename_i e s b z aL ar;split at he
  case h_2=>cases he
  rename_i bh iJ;split at he
  case h_2=>cases he
  rename_i Ki ahb Kj ahc ab af;split at he
  case isFalse=>cases he
  rename_i an;cases he;exact⟨by simp only[ep,aL,km ar,iJ,ab,af];rw[xad an],one⟩
 case makeMap t r=>split at he<;>cases he;rename_i ar;exact⟨by simp only[ep,km ar],one⟩
 case store t a x=>
  split at he
  case h_2=>cases he
  rename_i i cs aL an;split at he
  case isFalse=>cases he
  rename_i aq;split at he
  .rename_i j off jH;split at he
   case h_2=>cases he
   rename_i cells aP;split at he
   case isFalse=>cases he
   rename_i ba;cases he;exact⟨by simp only[ep,aL,an,jH,h _ _ aP];rw[xad aq,xad ba],nS aP⟩
  .rename_i j cR fF off jH;split at he
   case h_2=>cases he
   rename_i br es aQ aP eY;split at he
   case isFalse=>cases he
   rename_i ba;split at he
   case h_2=>cases he
   rename_i el e9;cases he;exact⟨by simp only[ep,aL,an,jH,h _ _ aP,eY];rw[xad aq,xad ba];simp only[e9],nS aP⟩
  cases he
 case mapUpdate t m ahD x=>
  split at he
  case h_2=>cases he
  rename_i il hb s b z aL;split at he
  case h_2=>cases he
  rename_i h9 sF;split at he
  case isFalse=>cases he
  rename_i dj;split at he
  case h_2=>cases he
  rename_i key fh PJ aO aX bQ;split at he
  case h_2=>cases he
  rename_i es aP;split at he
  case h_2=>cases he
  rename_i l aq;cases he;exact⟨by simp only[ep,aL,sF,aO,aX,bQ,h _ _ aP,aq];rw[xad dj],nS aP⟩
 case insert t m ahD x=>
  split at he
  case h_2=>cases he
  rename_i il hb s b z aL;split at he
  case h_2=>cases he
  rename_i h9 sF;split at he
  case isFalse=>cases he
  rename_i dj;split at he
  case h_2=>cases he
  rename_i key fh PJ aO aX bQ;split at he
  case h_2=>cases he
  rename_i es aP;split at he
  case h_2=>cases he
  rename_i l aq;cases he;exact⟨by simp only[ep,aL,sF,aO,aX,bQ,h _ _ aP,aq];rw[xad dj],nS aP⟩
 case call c=>
  obtain⟨callee,args,dI⟩:=c;simp only at he;split at he
  .split at he
   case h_2=>cases he
   rename_i t t' s x lV jC;split at he
   case h_2=>cases he
   rename_i e s1 eO ic dv s2 hf pq aL uk ar;split at he
   case h_2=>cases he
   rename_i bh iJ;split at he
   case h_2=>cases he
   rename_i cR xs nk;split at he
   case isFalse=>cases he
   rename_i an;split at he
   .rename_i hc;split at he
    case isFalse=>cases he
    rename_i aj;cases he;exact⟨by simp only[ep,lV,jC,aL,uk,km ar,iJ,Kx h nk,hc];rw[xad an,xad aj],one⟩
   .rename_i key hc;split at he
    case h_2=>cases he
    rename_i br es aP;split at he
    case isFalse=>cases he
    rename_i aj;cases he;refine⟨by simp only[ep,lV,jC,aL,uk,km ar,iJ,Kx h nk,hc,h _ _ aP];rw[xad an,xad aj],?_⟩;intro p aT;simp at aT;rcases aT with rfl|rfl
    .rintro rfl;rw[ak]at aP;cases aP
    exact ay
   cases he
  .split at he
   case h_2=>cases he
   rename_i t t' s x lV jC;split at he
   case h_2=>cases he
   rename_i e s1 eO ic aL;split at he
   case h_2=>cases he
   rename_i bh iJ;split at he
   case h_2=>cases he
   rename_i cR xs nk;split at he
   case isFalse=>cases he
   rename_i an;split at he
   .rename_i key hc;split at he
    case h_2=>cases he
    rename_i br es aP;split at he
    case isFalse=>cases he
    rename_i aj;cases he;exact⟨by simp only[ep,lV,jC,aL,iJ,Kx h nk,hc,h _ _ aP];rw[xad an,xad aj],nS aP⟩
   .rename_i key dN i len hc;split at he
    case h_2=>cases he
    rename_i br es aP;split at he
    case isFalse=>cases he
    rename_i aj;cases he;exact⟨by simp only[ep,lV,jC,aL,iJ,Kx h nk,hc,h _ _ aP];rw[xad an,xad aj],nS aP⟩
   cases he
  .split at he
   case h_2=>cases he
   rename_i t s lV jC;split at he
   case h_2=>cases he
   rename_i e s1 eO ic aL;split at he
   case h_2=>cases he
   rename_i bh iJ;split at he
   case h_2=>cases he
   rename_i key dN i len hc;split at he
   case h_2=>cases he
   rename_i br es aP;split at he
   case isFalse=>cases he
   rename_i aj;cases he;exact⟨by simp only[ep,lV,jC,aL,iJ,hc,h _ _ aP];rw[xad aj],nS aP⟩
  cases he
def ahE{T:cg}{ev:Operand->aS}{objs objs':cG}(h:objs.ext objs'){d k:Key}(ay:d≠k)(ak:objs k=none)(km:objs d=none->objs' d=none){op:Op}{r:aS}{cA:List (Key×cS)} (he:hg T ev objs d op=some (r,cA)):hg T ev objs' d op=some (r,cA)/\∀p∈cA,p.1≠k:=by obtain⟨⟨jI,sH⟩,pr,aj⟩:=v7 he;obtain⟨aW,a2⟩:=ahC (objs':=objs') h ay ak km pr;refine⟨by unfold hg;rw[aW];simp[aj],λp aT=>?_⟩;have aw:=ahi (b:=T.born d) (d:=d) (q:=(jI,sH)) p (by rw[aj];exact aT);obtain⟨oF,a4,b6⟩:=aw;rw[<-b6];exact a2 oF a4
def res(T:cg)(G:dt)(σ:aK)(o:Oper):Option (aS×List (Key×cS)):=match eX T (ch G σ.aM) o.op with|some r=>some (r,[])|none=>match dF T (ch G σ.aM) σ.objs o.op with|some r=>some (r,[])|none=>hg T (ch G σ.aM) σ.objs (o.dst.getD 9999) o.op
def aK.step(σ:aK)(dst:Option Tmp)(r:aS)(cA:List (Key×cS)):aK:=aK.put ⟨σ.aM,dG σ.objs cA⟩ dst r
theorem we{T:cg}{G:dt}{σ:aK}{o:Oper}:g4 T G σ o=(res T G σ o).map λp=>σ.step o.dst p.1 p.2:=by unfold g4 res aK.step;cases eX T (ch G σ.aM) o.op with|some r=>rfl|none=>cases dF T (ch G σ.aM) σ.objs o.op with|some r=>rfl|none=>cases hg T (ch G σ.aM) σ.objs (o.dst.getD 9999) o.op with|none=>rfl|some p=>obtain⟨r,cA⟩:=p;rfl
theorem ahF{G:dt}{σ:aK}{dst:Option Tmp}{r:aS}{x:Operand}(h:∀d,dst=some d->x≠ .tmp d):ch G (σ.put dst r).aM x=ch G σ.aM x:=by cases dst with|none=>rfl|some d=>cases x with|tmp t=>have:t≠d:=λe=>h d rfl (by rw[e]);simp only[ch,aK.put,cZ _ _ this]|_=>rfl
theorem ahG{all:Array Oper}{o:Oper}{d:Tmp}(h:d∉o.looksAt all):∀x∈o.op.operands.toList,x≠ .tmp d:=by rintro x ag rfl;exact h (by unfold Oper.looksAt;exact xbQ _ (List.mem_filterMap.2 ⟨_,ag,rfl⟩))
def ahH{all:Array Oper}{o:Oper}{d:Tmp}(h:d∉o.looksAt all){j:Nat}{b:Bool}(b5:o.guard=some (j,b)){e:Tmp}(he:(all[j]?).bind (·.dst)=some e):e≠d:=by rintro rfl;exact h (by unfold Oper.looksAt;exact List.mem_append_right _ (by simp[b5,he]))
def put_comm{σ:aK}{x y:Option Tmp}{r s:aS}(h:∀d,x=some d->y≠some d):(σ.put x r).put y s=(σ.put y s).put x r:=by
 cases x with
 |none=>rfl
 |some d=>
  cases y with
  |none=>rfl
  |some e=>
   have cK:d≠e:=λhe=>h d rfl (by rw[he]);simp only[aK.put]
   congr 1
   funext t
   simp only[ct];by_cases ab:t=d;.subst ab;simp[cK]
   by_cases af:t=e;.subst af;simp[ab]
   simp[ab,af]
def pass(x y:Oper):Bool:=iL x.op||iL y.op||((jg x.op||hE x.op)&&(jg y.op||hE y.op)&&!(hE x.op&&hE y.op))||(ql y.op&&match y.dst with|some d=>decide (d<9999)|none=>false)
def j1(all:Array Oper)(σ:aK)(o:Oper):Option Bool:=match o.guard with
 |none=>some true
 |some (j,want)=>match(all[j]?).bind (·.dst)with
  |some d=>match σ.aM d with| .d (.val (.bool b))=>some (decide (b=want))| .d (.val (.tuple _))=>some false|_=>none
  |none=>none
section
variable{P:Program}{T:cg}{G:dt}{all:Array Oper}
def hL{o:Oper}{K:aK->Prop}{σ:aK}:eB P T G all o K σ=match j1 all σ o with|some true=>dh P T G o K σ|some false=>K (σ.put o.dst (.d (.val (.tuple #[]))))|none=>False:=by
 unfold eB j1;cases b5:o.guard with
 |none=>rfl
 |some p=>
  obtain⟨j,want⟩:=p;simp only;cases ay:(all[j]?).bind (·.dst)with
  |none=>rfl
  |some d=>
   simp only;generalize σ.aM d=x;cases x with
   |d x=>
    cases x with
    |val v=>cases v with|bool b=>by_cases h:b=want<;>simp[h]|_=>rfl
    |_=>rfl
   |_=>rfl
def oH{o:Oper}{σ:aK}{dst:Option Tmp}{r:aS}(h:∀d,dst=some d->d∉o.looksAt all):j1 all (σ.put dst r) o=j1 all σ o:=by
 unfold j1;split;.rfl
 rename_i j want b5;split
 .rename_i e he;have aG:(σ.put dst r).aM e=σ.aM e:=by
   cases dst with|none=>rfl|some d=>simp only[aK.put,cZ _ _ (ahH (h d rfl) b5 he)]
  rw[aG]
 rfl
def W8{o:Oper}{σ:aK}{dst:Option Tmp}{r:aS}(h:∀d,dst=some d->d∉o.looksAt all):∀x∈o.op.operands.toList,ch G (σ.put dst r).aM x=ch G σ.aM x:=λx ag=>ahF λd ay=>ahG (h d ay) x ag
def ahI{o:Oper}{σ:aK}{dst:Option Tmp}{r:aS}(h:∀d,dst=some d->d∉o.looksAt all):res T G (σ.put dst r) o=res T G σ o:=by have dz:=W8 (G:=G) (σ:=σ) (r:=r) h;unfold res;rw[ahv dz,ahw dz,ahy dz,aK.wa]
theorem ahJ{σ:aK}{Ky P0:Option Tmp}{r s:aS}{cA:List (Key×cS)}(h:∀d,Ky=some d->P0≠some d):(σ.put Ky r).step P0 s cA=(σ.step P0 s cA).put Ky r:=by unfold aK.step;rw[<-put_comm h];cases Ky<;>rfl
def ahK{o:Oper}{σ:aK}{dst:Option Tmp}{r:aS}{K:aK->Prop}(h:∀d,dst=some d->d∉o.looksAt all)(cK:∀d,dst=some d->o.dst≠some d):jJ P G o (σ.put dst r) K=jJ P G o σ (λaV=>K (aV.put dst r)):=by
 have dz:=W8 (G:=G) (σ:=σ) (r:=r) h;unfold jJ;split
 .rename_i x args dI eM;have aO:ch G (σ.put dst r).aM x=ch G σ.aM x:=dz x (by rw[eM];simp[Op.operands,Call.operands]);have aX:args.toList.map (ch G (σ.put dst r).aM)=args.toList.map (ch G σ.aM):=Kt λy aJ=>dz y (by rw[eM];simp[Op.operands,Call.operands];exact .inr (by simpa using aJ));rw[aO];split
  .rename_i f pre post g0;unfold W1;rw[aX,aK.wa];simp only[put_comm cK]
  rfl
 rfl
def jK{o:Oper}{σ:aK}{dst:Option Tmp}{r:aS}{K:aK->Prop}(h:∀d,dst=some d->d∉o.looksAt all)(cK:∀d,dst=some d->o.dst≠some d):dh P T G o K (σ.put dst r)=dh P T G o (λaV=>K (aV.put dst r)) σ:=by unfold dh;rw[we,we,ahI h];cases av:res T G σ o with|none=>exact ahK h cK|some p=>simp only[xaP,ahJ cK]
def ahL{ev:Operand->aS}{objs:cG}{d:Key}{op:Op}{p:aS×List (Key×cS)}(h:hg T ev objs d op=some p)(objs':cG):eX T ev op=none/\dF T ev objs' op=none:=by
 obtain⟨q,ab,_⟩:=v7 h;clear h;cases op<;>first|exact⟨rfl,rfl⟩|(simp only[ep,reduceCtorEq]at ab;done)|skip
 case call c=>obtain⟨callee,args,dI⟩:=c;cases callee with|value=>exact⟨rfl,rfl⟩|invoke=>exact⟨rfl,rfl⟩|builtin b=>cases b<;>first|exact⟨rfl,rfl⟩|(simp only[ep,reduceCtorEq]at ab;done)
def ahM{ev:Operand->aS}{op:Op}{r:aS}(h:eX T ev op=some r):iL op=true\/jg op=true:=by
 cases op
 case call c=>obtain⟨callee,args,dI⟩:=c;cases callee with|value=>exact absurd h (by simp[eX])|invoke=>exact absurd h (by simp[eX])|builtin b=>cases b<;>first|exact .inr rfl|exact absurd h (by simp[eX])
 all_goals first|exact .inl rfl|exact .inr rfl|exact absurd h (by simp[eX])
def ahN{ev:Operand->aS}{objs:cG}{op:Op}{r:aS}(h:dF T ev objs op=some r):iL op=true\/jg op=true:=by
 cases op
 case call c=>obtain⟨callee,args,dI⟩:=c;cases callee with|value=>exact absurd h (by simp[dF])|invoke=>exact absurd h (by simp[dF])|builtin b=>cases b<;>first|exact .inr rfl|exact absurd h (by simp[dF])
 all_goals first|exact .inl rfl|exact .inr rfl|exact absurd h (by simp[dF])
def W9:∀(cA:List (Key×cS)) {objs:cG} {k:Key},dG objs cA k=none->objs k=none/\∀p∈cA,p.1≠k
 |[],objs,k,h=>⟨h,by simp⟩
 |(j,x)::r,objs,k,h=>by
  obtain⟨ab,af⟩:=W9 r h;have aP:j≠k:=by rintro rfl;rw[fa]at ab;cases ab
  rw[cZ _ _ (Ne.symm aP)]at ab;exact⟨ab,by intro p aT;rcases xal.1 aT with rfl|aT;exact aP;exact af p aT⟩
def x9{o:Oper}{σ:aK}{K:aK->Prop}(h:jJ P G o σ K):hE o.op=true:=by
 unfold jJ at h;split at h;.rename_i x args dI eM;rw[eM];rfl
 cases h
def EN{op:Op}(h:hE op=true):iL op=false/\jg op=false/\ql op=false:=by
 cases op<;>first|cases h|skip
 case call c=>
  obtain⟨callee,args,dI⟩:=c;cases callee with
  |value=>exact⟨rfl,rfl,rfl⟩|invoke=>cases h
  |builtin b=>cases h
def ahO{o:Oper}{aM:Nat->aS}{objs objs':cG}(h:objs.ext objs'){r:aS}(av:res T G ⟨aM,objs⟩ o=some (r,[]))(ak:iL o.op=true\/jg o.op=true):res T G ⟨aM,objs'⟩ o=some (r,[]):=by
 unfold res at*;simp only at*;split at av;.exact av
 rename_i aT;split at av;.rename_i Kz hm;simp only[ahB h hm];exact av
 rename_i hm;rcases ak with ak|ak
 .rw[(Bf (T:=T) (ev:=ch G aM) (objs:=objs) (d:=o.dst.getD 9999) ak).2]at av;cases av
 rw[Bg ak]at av;cases av
def KA{o:Oper}{σ:aK}{r:aS}{cA:List (Key×cS)}(av:res T G σ o=some (r,cA))(ak:iL o.op=true\/jg o.op=true):cA=[]:=by
 unfold res at av;split at av;.cases av;rfl
 split at av;.cases av;rfl
 rcases ak with ak|ak;.rw[(Bf (T:=T) (ev:=ch G σ.aM) (objs:=σ.objs) (d:=o.dst.getD 9999) ak).2]at av;cases av
 rw[Bg ak]at av;cases av
def Xa{o:Oper}{aM:Nat->aS}{objs objs':cG}{p:aS×List (Key×cS)}(av:res T G ⟨aM,objs⟩ o=some p)(ak:iL o.op=true):res T G ⟨aM,objs'⟩ o=some p/\p.2=[]:=by
 unfold res at*;simp only at*;split at av;.cases av;exact⟨rfl,rfl⟩
 rw[(Bf (T:=T) (ev:=ch G aM) (objs:=objs) (d:=o.dst.getD 9999) ak).1,(Bf (T:=T) (ev:=ch G aM) (objs:=objs) (d:=o.dst.getD 9999) ak).2]at av;cases av
def ux{o:Oper}{σ:aK}(ak:hE o.op=true):res T G σ o=none:=by unfold res;obtain⟨ab,af,aw⟩:=PZ (T:=T) (ev:=ch G σ.aM) (objs:=σ.objs) (d:=o.dst.getD 9999) ak;rw[ab,af,aw]
theorem mr{o:Oper}{σ:aK}{K:aK->Prop}{r:aS}{cA:List (Key×cS)}(av:res T G σ o=some (r,cA)):dh P T G o K σ=K (σ.step o.dst r cA):=by unfold dh;rw[we,av];rfl
theorem nT{o:Oper}{σ:aK}{K:aK->Prop}(av:res T G σ o=none):dh P T G o K σ=jJ P G o σ K:=by unfold dh;rw[we,av];rfl
def EO{o:Oper}{σ:aK}{K K':aK->Prop}(h:jJ P G o σ K)(ak:∀r,K (σ.put o.dst r)->K' (σ.put o.dst r)):jJ P G o σ K':=by
 unfold jJ at*;split
 .rename_i x args dI eM;rw[eM]at h;simp only at h;split;.rename_i f pre post g0;simp only[g0]at h;obtain⟨nq,aQ,R,ab,af,aw,a4,b6,cP⟩:=h;exact⟨nq,aQ,R,ab,af,aw,a4,b6,λr av=>ak _ (cP r av)⟩
  rename_i g0;simp only[g0]at h
 rename_i eM;split at h;.rename_i x args dI e;exact absurd e (eM x args dI)
 exact h
def Xb{x y:Oper}{σ:aK}{K:aK->Prop}(ab:∀d,x.dst=some d->d∉y.looksAt all)(af:∀d,x.dst=some d->y.dst≠some d)(aw:∀d,y.dst=some d->d∉x.looksAt all)(aT:pass x y=true) (h:dh P T G x (λgD=>dh P T G y K gD) σ):dh P T G y (λgh=>dh P T G x K gh) σ:=by
 have h8:∀d,y.dst=some d->x.dst≠some d:=λd ay ag=>af d ag ay;obtain⟨aM,objs⟩:=σ;have EP:∀{o:Oper}{r:aS}{u:List (Key×cS)},aK.step ⟨aM,objs⟩ o.dst r u=aK.put ⟨aM,dG objs u⟩ o.dst r:=rfl;cases kH:res T G ⟨aM,objs⟩ x with
 |none=>
  rw[nT kH]at h;have ER:=x9 h;obtain⟨mu,rb,Xc⟩:=EN ER;have aJ:(iL y.op=true\/jg y.op=true)\/(ql y.op=true/\∃d,y.dst=some d/\d<9999):=by simp only[pass,mu,rb,ER,xbU,xbD]at aT;cases k3:iL y.op with|true=>exact .inl (.inl rfl)|false=>cases dV:jg y.op with|true=>exact .inl (.inr rfl)|false=>simp only[k3,dV,xbU]at aT;cases ds:ql y.op with|false=>simp[ds]at aT|true=>refine .inr ⟨rfl,?_⟩;simp only[ds,xbD]at aT;cases ay:y.dst with|none=>simp[ay]at aT|some d=>simp[ay]at aT;exact⟨d,rfl,aT⟩
  have wc:hE y.op=false:=by
   cases cf:hE y.op with
   |false=>rfl
   |true=>
    obtain⟨a,b,c⟩:=EN cf;rcases aJ with(e|e)|⟨e,_⟩;.rw[a]at e;cases e
    .rw[b]at e;cases e
    rw[c]at e;cases e
  unfold jJ at h;split at h
  case h_2=>cases h
  rename_i Xd args dI eM;split at h
  case h_2=>cases h
  rename_i f pre post g0;obtain⟨nq,aQ,R,bz,bA,cx,⟨jI,rfl⟩,fi,hh⟩:=h;have Bi:dh P T G y K (aK.put ⟨aM,objs⟩ x.dst (.d jI)):=hh jI rfl;rw[jK ab af]at Bi;cases j2:res T G ⟨aM,objs⟩ y with
  |none=>rw[nT j2]at Bi;have:=x9 Bi;rw[wc]at this;cases this
  |some p=>
   obtain⟨qm,re⟩:=p;rw[mr j2];have pw:cG.ext objs (dG objs re):=by
    rcases aJ with aJ|⟨aJ,_⟩;.rw[KA j2 aJ];exact λ_ _ h=>h
    have wg:hg T (ch G aM) objs (y.dst.getD 9999) y.op=some (qm,re):=by unfold res at j2;simp only[(ra (T:=T) (ev:=ch G aM) (objs:=objs) aJ).1,(ra (T:=T) (ev:=ch G aM) (objs:=objs) aJ).2]at j2;exact j2
    obtain⟨bE,aN,o,rfl⟩:=Bh (objs':=λ_=>none) aJ rfl wg;exact cG.Ku aN o
   show dh P T G x K (aK.step ⟨aM,objs⟩ y.dst qm re);rw[EP,jK aw h8,nT (ux ER)];unfold jJ;rw[eM];simp only[g0];refine⟨nq,aQ,_,ps (λx d ag=>ahA pw ag) _ _ bz,bA,cx,⟨jI,rfl⟩,fi,λr av=>?_⟩;have Xe:dh P T G y K (aK.put ⟨aM,objs⟩ x.dst (.d r)):=hh r av;rw[jK ab af,mr j2,EP,put_comm h8]at Xe;exact Xe
 |some p=>
  obtain⟨rx,px⟩:=p;rw[mr kH,EP,jK ab af]at h;cases j2:res T G ⟨aM,dG objs px⟩ y with
  |none=>
   rw[nT j2]at h;have wc:=x9 h;obtain⟨mu,rb,Xc⟩:=EN wc;have ag:iL x.op=true\/jg x.op=true:=by simp only[pass,mu,rb,Xc,wc,xbU,Bool.or_false,xbq,xbu,Bool.or_true]at aT;cases k3:iL x.op with|true=>exact .inl rfl|false=>cases dV:jg x.op with|true=>exact .inr rfl|false=>cases cf:hE x.op<;>simp[k3,dV,cf]at aT
   have KB:=KA kH ag;subst KB;rw[nT (show res T G ⟨aM,objs⟩ y=none from j2)];refine EO h λr av=>?_;rw[jK aw h8,mr kH,EP,put_comm af];exact av
  |some p=>
   obtain⟨qm,re⟩:=p;rw[mr j2]at h;have wh:aK.step ⟨aM,dG objs px⟩ y.dst qm re=aK.put ⟨aM,dG (dG objs px) re⟩ y.dst qm:=rfl;rw[wh]at h;have P1:∀{ya:List (Key×cS)} {KC:aS},res T G ⟨aM,objs⟩ y=some (KC,ya)->(∃ES,res T G ⟨aM,dG objs ya⟩ x=some (rx,ES)/\KC=qm/\dG (dG objs ya) ES=dG (dG objs px) re)->dh P T G y (λgh=>dh P T G x K gh) ⟨aM,objs⟩:=by rintro ya KC aO ⟨ES,aX,rfl,bQ⟩;rw[mr aO];show dh P T G x K (aK.step ⟨aM,objs⟩ y.dst KC ya);rw[EP,jK aw h8,mr aX];have:aK.step ⟨aM,dG objs ya⟩ x.dst rx ES=aK.put ⟨aM,dG (dG objs ya) ES⟩ x.dst rx:=rfl;rw[this,bQ,put_comm af];exact h
   by_cases ET:iL x.op=true\/jg x.op=true
   .have KB:=KA kH ET;subst KB;refine P1 j2 ⟨[],?_,rfl,rfl⟩;by_cases KD:iL y.op=true\/jg y.op=true;.rw[KA j2 KD];exact kH
    by_cases Xf:iL x.op=true;.exact(Xa kH Xf).1
    
    have aJ:ql y.op=true:=by
     rw[not_or]at KD;have ao:iL x.op=false:=by simpa using Xf
     have bc:iL y.op=false:=by simpa using KD.1
     have b9:jg y.op=false:=by simpa using KD.2
     simp only[pass,ao,bc,b9,xbU]at aT;cases ds:ql y.op with|true=>rfl|false=>cases cf:hE y.op with|false=>simp[ds,cf]at aT|true=>rw[ux cf]at j2;cases j2
    have wg:hg T (ch G aM) objs (y.dst.getD 9999) y.op=some (qm,re):=by have P2:res T G ⟨aM,objs⟩ y=some (qm,re):=j2;unfold res at P2;simp only[(ra (T:=T) (ev:=ch G aM) (objs:=objs) aJ).1,(ra (T:=T) (ev:=ch G aM) (objs:=objs) aJ).2]at P2;exact P2
    obtain⟨bE,aN,o,rfl⟩:=Bh (objs':=λ_=>none) aJ rfl wg;exact ahO (cG.Ku aN o) kH ET
   rw[not_or]at ET;have ao:iL x.op=false:=by simpa using ET.1
   have bc:jg x.op=false:=by simpa using ET.2
   have KE:hE x.op=false:=by cases cf:hE x.op with|false=>rfl|true=>rw[ux cf]at kH;cases kH
   by_cases Xg:iL y.op=true;.obtain⟨aO,aX⟩:=Xa (objs':=objs) j2 Xg;simp only at aX;subst aX;exact P1 aO ⟨px,kH,rfl,rfl⟩
   have b9:iL y.op=false:=by simpa using Xg
   simp only[pass,ao,bc,b9,KE,xbU,xbq]at aT;rw[xam]at aT;obtain⟨aJ,ay⟩:=aT;have uw:∃d,y.dst=some d/\d<9999:=by cases iB:y.dst with|none=>simp[iB]at ay|some d=>simp[iB]at ay;exact⟨d,rfl,ay⟩
   obtain⟨d,uw,Xh⟩:=uw;have wg:hg T (ch G aM) (dG objs px) (y.dst.getD 9999) y.op=some (qm,re):=by unfold res at j2;simp only[(ra (T:=T) (ev:=ch G aM) (objs:=dG objs px) aJ).1,(ra (T:=T) (ev:=ch G aM) (objs:=dG objs px) aJ).2]at j2;exact j2
   rw[uw]at wg;simp only[xbe]at wg;obtain⟨_,aN,o,rfl⟩:=Bh (objs':=λ_=>none) aJ rfl wg;obtain⟨P3,KB⟩:=W9 px aN;obtain⟨ahP,_,_⟩:=Bh (objs':=objs) aJ P3 wg;have ahQ:res T G ⟨aM,objs⟩ y=some (qm,[(d,o)]):=by unfold res;simp only[(ra (T:=T) (ev:=ch G aM) (objs:=objs) aJ).1,(ra (T:=T) (ev:=ch G aM) (objs:=objs) aJ).2,uw,xbe];exact ahP
   have hex:hg T (ch G aM) objs (x.dst.getD 9999) x.op=some (rx,px):=by
    unfold res at kH;simp only at kH;split at kH;.rename_i ahR;exact absurd (ahM ahR) (by simp[ao,bc])
    split at kH;.rename_i ahS;exact absurd (ahN ahS) (by simp[ao,bc])
    exact kH
   have KF:x.dst.getD 9999≠d:=by cases KF:x.dst with|none=>simp only[Option.getD_none];exact λe=>by rw[<-e]at Xh;exact absurd Xh (xbT _)|some e=>simp only[xbe];rintro rfl;exact af e KF uw
   obtain⟨Xi,cK⟩:=ahE (T:=T) (ev:=ch G aM) (cG.Ku P3 o) KF P3 (λar=>by rw[cZ _ _ KF];exact ar) hex;refine P1 ahQ ⟨px,?_,rfl,W7 px cK⟩;obtain⟨cD,dN⟩:=ahL Xi (ct objs d (some o));show res T G ⟨aM,ct objs d (some o)⟩ x=some (rx,px);unfold res;simp only[cD,dN];exact Xi
def qn{o:Oper}{σ:aK}{K K':aK->Prop}(ak:∀σ,K σ->K' σ)(h:dh P T G o K σ):dh P T G o K' σ:=by
 unfold dh at*;split;.rename_i e;rw[e]at h;exact ak _ h
 rename_i e;rw[e]at h;exact EO h λr av=>ak _ av
def EU{o:Oper}{σ:aK}{K K':aK->Prop}(ak:∀σ,K σ->K' σ)(h:eB P T G all o K σ):eB P T G all o K' σ:=by
 rw[hL]at*;split;.rename_i e;rw[e]at h;exact qn ak h
 .rename_i e;rw[e]at h;exact ak _ h
 rename_i e;rw[e]at h;exact h
def wi{o:Oper}{σ:aK}{K K':aK->Prop}(ak:∀objs r,K (aK.put ⟨σ.aM,objs⟩ o.dst r)->K' (aK.put ⟨σ.aM,objs⟩ o.dst r))(h:dh P T G o K σ):dh P T G o K' σ:=by unfold dh at*;rw[we]at*;cases av:res T G σ o with|none=>simp only[av,xbp]at h⊢;exact EO h λr av=>ak σ.objs r av|some p=>simp only[av,xaP]at h⊢;exact ak _ _ h
def swap{x y:Oper}{σ:aK}{K:aK->Prop}(iX:x.apart all y=true)(aT:pass x y=true)(h:eB P T G all x (λgD=>eB P T G all y K gD) σ):eB P T G all y (λgh=>eB P T G all x K gh) σ:=by
 obtain⟨ao,bc,b9⟩:=Oper.apart_spec iX;have mT:∀d,y.dst=some d->x.dst≠some d:=λd ay ag=>bc d ag ay;rw[hL]at h;have P4:∀(objs:cG)(r:aS),j1 all (aK.put ⟨σ.aM,objs⟩ x.dst r) y=j1 all σ y:=λobjs r=>by rw[oH ao];rfl
 have EV:∀(objs:cG)(r:aS),j1 all (aK.put ⟨σ.aM,objs⟩ y.dst r) x=j1 all σ x:=λobjs r=>by rw[oH b9];rfl
 split at h
 .rename_i ag;rw[hL];have bx:dh P T G x (λgD=>match j1 all σ y with|some true=>dh P T G y K gD|some false=>K (gD.put y.dst (.d (.val (.tuple #[]))))|none=>False) σ:=by
   refine wi (λobjs r ak=>?_) h;rw[hL,P4]at ak;exact ak
  cases yb:j1 all σ y with
  |none=>
   simp only[yb]at bx;unfold dh at bx;split at bx;.exact bx
   unfold jJ at bx;split at bx
   .split at bx;.obtain⟨_,_,_,_,_,_,⟨r,rfl⟩,_,q⟩:=bx;exact q r rfl
    exact bx
   exact bx
  |some b=>
   cases b with
   |false=>
    simp only[yb]at bx;show eB P T G all x K (σ.put y.dst (.d (.val (.tuple #[]))));rw[hL];have:j1 all (σ.put y.dst (.d (.val (.tuple #[])))) x=some true:=by rw[oH b9];exact ag
    simp only[this];rw[jK b9 mT];exact bx
   |true=>simp only[yb]at bx;have af:=Xb ao bc b9 aT bx;show dh P T G y (λgh=>eB P T G all x K gh) σ;refine wi (λobjs r ak=>?_) af;rw[hL,EV,ag];exact ak
 .rename_i ag;rw[hL,oH ao]at h;rw[hL];split at h
  .rename_i aJ
   try simp only[aJ]
   rw[jK ao bc]at h;refine wi (λobjs r ak=>?_) h;rw[hL,EV,ag];exact ak
  .rename_i aJ
   try simp only[aJ]
   show eB P T G all x K (σ.put y.dst (.d (.val (.tuple #[]))));rw[hL,oH b9,ag];show K _;rw[put_comm mT];exact h
  exact h.elim
 exact h.elim
def ahT{o:Oper}{σ:aK}{K K':aK->Prop}(h:dh P T G o K σ)(ak:∀aV r,aV=σ.put o.dst (.d r)->K aV->K' aV)(cf:hE o.op=true):dh P T G o K' σ:=by
 rw[nT (ux cf)]at h⊢;unfold jJ at*;split
 .rename_i x args dI eM;rw[eM]at h;simp only at h;split;.rename_i f pre post g0;simp only[g0]at h;obtain⟨nq,aQ,R,ab,af,aw,a4,b6,cP⟩:=h;exact⟨nq,aQ,R,ab,af,aw,a4,b6,λr av=>ak _ r rfl (cP r av)⟩
  rename_i g0;simp only[g0]at h
 rename_i eM;split at h;.rename_i x args dI e;exact absurd e (eM x args dI)
 exact h
def cG.low(objs objs':cG):Prop:=∀k o,objs k=some o->o≠ .dead->objs' k=some o
def Xj{objs objs':cG}(h:objs.low objs'){x:aS}{d:D}(aq:q8 objs x=some d):q8 objs' x=some d:=by
 unfold q8 at*;split at aq;.exact aq
 .split at aq;.rename_i ak;rw[h _ _ ak (by simp)];exact aq
  cases aq
 .split at aq;.rename_i ak;rw[h _ _ ak (by simp)];exact aq
  cases aq
 .split at aq;.rename_i ak;rw[h _ _ ak (by simp)];exact aq
  cases aq
 cases aq
def KG{objs objs':cG}(h:objs.low objs'){x:aS}{d:D}(aq:nn objs x=some d):nn objs' x=some d:=by
 unfold nn at*;split at aq
 .split at aq
  case h_2=>cases aq
  rename_i ak;simp only[h _ _ ak (by simp)];split at aq
  case h_2=>cases aq
  rename_i cs hK;rw[ps (λx d ag=>Xj h ag) _ _ hK];exact aq
 .exact aq
 exact Xj h aq
def Xk{objs objs':cG}(h:objs.low objs'){x:aS}{d:D}(aq:oG objs x=some d):oG objs' x=some d:=by
 unfold oG at*;split at aq
 .split at aq
  case h_2=>cases aq
  rename_i aQ eY;rw[ps (λx d ag=>KG h ag) _ _ eY];exact aq
 .split at aq
  case h_2=>cases aq
  rename_i as kl has EL;rw[ps (λx d ag=>KG h ag) _ _ has,ps (λx d ag=>KG h ag) _ _ EL];exact aq
 exact KG h aq
def ahU{objs objs':cG}(h:objs.low objs'){x:aS}{d:D}(aq:toD objs x=some d):toD objs' x=some d:=by
 unfold toD at*;split at aq
 .split at aq
  case h_2=>cases aq
  rename_i aQ eY;rw[ps (λx d ag=>Xk h ag) _ _ eY];exact aq
 exact Xk h aq
def Xl{objs objs':cG}(h:objs.low objs'){x:aS}{n:Nat}(aq:ki objs x=some n):ki objs' x=some n:=by
 unfold ki at*;split at aq;.exact aq
 .exact aq
 .split at aq;.rename_i ak;rw[h _ _ ak (by simp)];exact aq
  cases aq
 .exact aq
 cases aq
def KH{objs objs':cG}(h:objs.low objs'){x:aS}{b:Bool}(aq:mP objs x=some b):mP objs' x=some b:=by
 unfold mP at*;split at aq;.exact aq
 .exact aq
 .split at aq;.rename_i ak;rw[h _ _ ak (by simp)];exact aq
  cases aq
 cases aq
def ahV{T:cg}{ev:Operand->aS}{objs objs':cG}(h:objs.low objs'){op:Op}{r:aS}(hm:dF T ev objs op=some r):dF T ev objs' op=some r:=by
 cases op<;>simp only[dF,reduceCtorEq]at hm⊢
 case load t a=>
  split at hm
  case h_2=>cases hm
  split at hm;.exact hm
  .split at hm
   case h_2=>cases hm
   rename_i ak;simp only[h _ _ ak (by simp)];exact hm
  .split at hm
   case h_2=>cases hm
   rename_i ak;simp only[h _ _ ak (by simp)];exact hm
  cases hm
 case indexAddr t x fF=>
  split at hm
  .split at hm
   case h_2=>cases hm
   split at hm
   case isFalse=>cases hm
   rename_i ar;rw[xad ar];split at hm;.exact hm
   .split at hm
    case h_2=>cases hm
    rename_i ak;simp only[h _ _ ak (by simp)];exact hm
   .exact hm
   cases hm
  .exact hm
  cases hm
 case slice t x lo ah hA=>
  cases hA with
  |some _=>simp[dF]at hm
  |none=>
   simp only[dF]at hm⊢;split at hm
   case h_3=>cases hm
   case h_2=>exact hm
   split at hm
   case h_2=>cases hm
   split at hm
   case h_2=>cases hm
   rename_i n aN;simp only[Xl h aN];split at hm
   case h_2=>cases hm
   split at hm
   case isFalse=>cases hm
   rename_i an;rw[xad an];split at hm;.exact hm
   .split at hm
    case h_2=>cases hm
    rename_i ak;simp only[h _ _ ak (by simp)];exact hm
   .exact hm
   cases hm
 case call c=>
  split at hm
  case h_2=>cases hm
  split at hm
  case h_2=>cases hm
  split at hm;.exact hm
  .split at hm
   case h_2=>cases hm
   rename_i n aN;simp only[Xl h aN];exact hm
  .exact hm
  .exact hm
  .split at hm
   case h_2=>cases hm
   rename_i ak;simp only[h _ _ ak (by simp)];exact hm
  cases hm
 case lookup t x k ok=>
  split at hm
  case h_2=>cases hm
  split at hm;.exact hm
  .exact hm
  .split at hm
   case h_2=>cases hm
   rename_i ak;simp only[h _ _ ak (by simp)];exact hm
  cases hm
 case binOp op t x y xV=>
  split at hm
  case h_2=>cases hm
  split at hm
  .split at hm
   .rename_i an;rw[xad an];split at hm
    case h_2=>cases hm
    rename_i b aj;simp only[KH h aj];exact hm
   rename_i an;rw[xac an];split at hm
   case isFalse=>cases hm
   rename_i pt;rw[xad pt];split at hm
   case h_2=>cases hm
   rename_i b aj;simp only[KH h aj];exact hm
  .split at hm
   .rename_i an;rw[xad an];split at hm
    case h_2=>cases hm
    rename_i b aj;simp only[KH h aj];exact hm
   rename_i an;rw[xac an];split at hm
   case isFalse=>cases hm
   rename_i pt;rw[xad pt];split at hm
   case h_2=>cases hm
   rename_i b aj;simp only[KH h aj];exact hm
  cases hm
def EW(T:cg)(x:Oper):Bool:=match x.op with| .buildSlice _ _ _=>T.born (x.dst.getD 9999)|_=>false
def yc(T:cg)(x y:Oper):Bool:=pass x y||(hE x.op&&hE y.op)||(EW T x&&(hE y.op||jg y.op))
def ahW{x:Oper}{σ:aK}(aj:EW T x=true){p:aS×List (Key×cS)}(h:res T G σ x=some p):σ.objs (x.dst.getD 9999)=none/\p.2=[(x.dst.getD 9999,.dead)]:=by
 unfold EW at aj;split at aj
 case h_2=>cases aj
 rename_i t n parts eM;have ak:ql x.op=true:=by rw[eM];rfl
 obtain⟨aO,aX⟩:=ra (T:=T) (ev:=ch G σ.aM) (objs:=σ.objs) ak;unfold res at h;rw[aO,aX]at h;obtain⟨q,ab,af⟩:=v7 h;rw[eM]at ab;simp only[ep]at ab;split at ab
 case h_2=>cases ab
 rename_i e s b z aL ar;split at ab
 case h_2=>cases ab
 split at ab
 case h_2=>cases ab
 split at ab
 case isFalse=>cases ab
 cases ab;refine⟨ar,?_⟩;rw[<-af];simp[q6,aj]
def ahX{x y:Oper}{σ:aK}{K:aK->Prop}(ab:∀d,x.dst=some d->d∉y.looksAt all)(af:∀d,x.dst=some d->y.dst≠some d)(aw:∀d,y.dst=some d->d∉x.looksAt all)(KE:hE x.op=true)(ahY:hE y.op=true\/False) (h:dh P T G x (λgD=>dh P T G y K gD) σ):dh P T G y (λgh=>dh P T G x K gh) σ:=by
 have h8:∀d,y.dst=some d->x.dst≠some d:=λd ay ag=>af d ag ay;have KI:hE y.op=true:=ahY.resolve_right id;rw[nT (ux KE)]at h;unfold jJ at h;split at h
 case h_2=>cases h
 rename_i Xd args dI eM;split at h
 case h_2=>cases h
 rename_i f pre post g0;obtain⟨nq,aQ,R,bz,bA,cx,⟨jI,rfl⟩,fi,hh⟩:=h;have Bi:dh P T G y K (aK.put σ x.dst (.d jI)):=hh jI rfl;rw[jK ab af]at Bi;refine ahT Bi (λaV r he ak=>?_) KI;subst he;rw[jK aw h8,nT (ux KE)];unfold jJ;rw[eM];simp only[g0];refine⟨nq,aQ,_,bz,bA,cx,⟨jI,rfl⟩,fi,λr av=>?_⟩;subst av;rw[put_comm af];exact ak
def ahZ{x y:Oper}{σ:aK}{K:aK->Prop}(ab:∀d,x.dst=some d->d∉y.looksAt all)(af:∀d,x.dst=some d->y.dst≠some d)(aw:∀d,y.dst=some d->d∉x.looksAt all)(KJ:EW T x=true)(ah0:hE y.op=true\/jg y.op=true) (h:dh P T G x (λgD=>dh P T G y K gD) σ):dh P T G y (λgh=>dh P T G x K gh) σ:=by
 have h8:∀d,y.dst=some d->x.dst≠some d:=λd ay ag=>af d ag ay;cases kH:res T G σ x with
 |none=>
  rw[nT kH]at h;have:=x9 h;unfold EW at KJ;split at KJ
  .rename_i eM;rw[eM]at this;cases this
  cases KJ
 |some p=>
  obtain⟨rx,cA⟩:=p;obtain⟨aN,hu⟩:=ahW KJ kH;simp only at hu;subst hu;rw[mr kH]at h;have aJ:dh P T G y K (aK.put ⟨σ.aM,dG σ.objs [(x.dst.getD 9999,.dead)]⟩ x.dst rx):=h;rw[jK ab af]at aJ;have KK:cG.low (dG σ.objs [(x.dst.getD 9999,.dead)]) σ.objs:=by
   intro k o ak aF;simp only[dG]at ak;by_cases e:k=x.dst.getD 9999;.subst e;rw[fa]at ak;cases ak;exact absurd rfl aF
   rwa [cZ _ _ e]at ak
  rcases ah0 with KI|Xm
  case inr=>
   have wc:hE y.op=false:=by cases cf:hE y.op with|false=>rfl|true=>have:=(EN cf).2.1;rw[Xm]at this;cases this
   have key:∀p,res T G ⟨σ.aM,dG σ.objs [(x.dst.getD 9999,.dead)]⟩ y=some p->p.2=[]/\res T G σ y=some p:=by
    intro p aT;have he:∀objs d,hg T (ch G σ.aM) objs d y.op=none:=λobjs d=>Bg Xm;unfold res at aT⊢;cases Xn:eX T (ch G σ.aM) y.op with
    |some r=>simp only[Xn]at aT⊢;cases aT;exact⟨rfl,rfl⟩
    |none=>
     simp only[Xn]at aT⊢;cases sN:dF T (ch G σ.aM) (dG σ.objs [(x.dst.getD 9999,.dead)]) y.op with
     |none=>simp only[sN,he]at aT;cases aT
     |some r=>simp only[sN]at aT;cases aT;rw[ahV KK sN];exact⟨rfl,rfl⟩
   cases j2:res T G ⟨σ.aM,dG σ.objs [(x.dst.getD 9999,.dead)]⟩ y with
   |none=>rw[nT j2]at aJ;have:=x9 aJ;rw[wc]at this;cases this
   |some p=>obtain⟨qm,re⟩:=p;obtain⟨cD,dN⟩:=key _ j2;simp only at cD;subst cD;rw[mr j2]at aJ;rw[mr dN];show dh P T G x K (aK.put σ y.dst qm);rw[jK aw h8,mr kH];unfold aK.step;rw[put_comm af];exact aJ
  rw[nT (ux KI)]at aJ;rw[nT (ux KI)];unfold jJ at aJ⊢;split at aJ
  case h_2=>cases aJ
  rename_i Xd args dI eM;split at aJ
  case h_2=>cases aJ
  rename_i f pre post g0;obtain⟨nq,aQ,R,bz,bA,cx,⟨jI,rfl⟩,fi,hh⟩:=aJ;simp only[eM,g0];refine⟨nq,aQ,_,ps (λx d ag=>ahU KK ag) _ _ bz,bA,cx,⟨jI,rfl⟩,fi,λr av=>?_⟩;subst av;have:=hh r rfl;rw[jK aw h8,mr kH];unfold aK.step;rw[put_comm af];exact this
def ah1{x y:Oper}{σ:aK}{K:aK->Prop}(ab:∀d,x.dst=some d->d∉y.looksAt all)(af:∀d,x.dst=some d->y.dst≠some d)(aw:∀d,y.dst=some d->d∉x.looksAt all)(aT:yc T x y=true) (h:dh P T G x (λgD=>dh P T G y K gD) σ):dh P T G y (λgh=>dh P T G x K gh) σ:=by
 unfold yc at aT;rw[xbf,xbf]at aT;rcases aT with(aT|aT)|aT
 .exact Xb ab af aw aT h
 .rw[xam]at aT;exact ahX ab af aw aT.1 (.inl aT.2) h
 rw[xam,xbf]at aT;exact ahZ ab af aw aT.1 aT.2 h
def swapT{x y:Oper}{σ:aK}{K:aK->Prop}(iX:x.apart all y=true)(aT:yc T x y=true)(h:eB P T G all x (λgD=>eB P T G all y K gD) σ):eB P T G all y (λgh=>eB P T G all x K gh) σ:=by
 obtain⟨ao,bc,b9⟩:=Oper.apart_spec iX;have mT:∀d,y.dst=some d->x.dst≠some d:=λd ay ag=>bc d ag ay;rw[hL]at h;have P4:∀(objs:cG)(r:aS),j1 all (aK.put ⟨σ.aM,objs⟩ x.dst r) y=j1 all σ y:=λobjs r=>by rw[oH ao];rfl
 have EV:∀(objs:cG)(r:aS),j1 all (aK.put ⟨σ.aM,objs⟩ y.dst r) x=j1 all σ x:=λobjs r=>by rw[oH b9];rfl
 split at h
 .rename_i ag;rw[hL];have bx:dh P T G x (λgD=>match j1 all σ y with|some true=>dh P T G y K gD|some false=>K (gD.put y.dst (.d (.val (.tuple #[]))))|none=>False) σ:=by
   refine wi (λobjs r ak=>?_) h;rw[hL,P4]at ak;exact ak
  cases yb:j1 all σ y with
  |none=>
   simp only[yb]at bx;unfold dh at bx;split at bx;.exact bx
   unfold jJ at bx;split at bx
   .split at bx;.obtain⟨_,_,_,_,_,_,⟨r,rfl⟩,_,q⟩:=bx;exact q r rfl
    exact bx
   exact bx
  |some b=>
   cases b with
   |false=>
    simp only[yb]at bx;show eB P T G all x K (σ.put y.dst (.d (.val (.tuple #[]))));rw[hL];have:j1 all (σ.put y.dst (.d (.val (.tuple #[])))) x=some true:=by rw[oH b9];exact ag
    simp only[this];rw[jK b9 mT];exact bx
   |true=>simp only[yb]at bx;have af:=ah1 ao bc b9 aT bx;show dh P T G y (λgh=>eB P T G all x K gh) σ;refine wi (λobjs r ak=>?_) af;rw[hL,EV,ag];exact ak
 .rename_i ag;rw[hL,oH ao]at h;rw[hL];split at h
  .rename_i aJ
   try simp only[aJ]
   rw[jK ao bc]at h;refine wi (λobjs r ak=>?_) h;rw[hL,EV,ag];exact ak
  .rename_i aJ
   try simp only[aJ]
   show eB P T G all x K (σ.put y.dst (.d (.val (.tuple #[]))));rw[hL,oH b9,ag];show K _;rw[put_comm mT];exact h
  exact h.elim
 exact h.elim
def h0(P:Program)(T:cg)(G:dt)(all:Array Oper)(i:Nat)(K:aK->Prop)(σ:aK):Prop:=match all[i]? with|none=>K σ|some o=>eB P T G all o K σ
def wj{i:Nat}{σ:aK}{K K':aK->Prop}(ak:∀σ,K σ->K' σ)(h:h0 P T G all i K σ):h0 P T G all i K' σ:=by
 unfold h0 at*;split;.rename_i e;simp only[e]at h;exact ak _ h
 rename_i o e;simp only[e]at h;exact EU ak h
def jh(P:Program)(T:cg)(G:dt)(all:Array Oper)(K:aK->Prop):Nat->Array Bool->aK->Prop
 |0,listed,σ=>Region.ready .any all listed=[]/\K σ|fuel+1,listed,σ=>(Region.ready .any all listed=[]->K σ)/\∀i∈Region.ready .any all listed,h0 P T G all i (jh P T G all K fuel (listed.setIfInBounds i true)) σ
def P5{K:aK->Prop}{i:Nat}{fw:Oper}(ah:all[i]?=some fw){B:List Nat}(gL:∀j c7,j∈B->all[j]?=some c7->∃e∈c7.after,Region.binds .any e=true/\(e.on=i\/e.on∈B)):∀(fuel:Nat)(listed:Array Bool)(σ:aK),(∀j,j∈B->listed.getD j true=false)->(∀j c7,all[j]?=some c7->j≠i->listed.getD j true=false->j∉B->fw.apart all c7=true/\yc T fw c7=true)->i∈Region.ready .any all listed->(¬∃aV,K aV)\/True->h0 P T G all i (jh P T G all K fuel (listed.setIfInBounds i true)) σ->jh P T G all K (fuel+1) listed σ:=by
 intro fuel
 induction fuel with
 |zero=>
  intro listed σ rf oI av _ H;refine⟨λh=>(by rw[h]at av;cases av),λj aP=>?_⟩;by_cases iY:j=i;.subst iY;exact H
  have hm:=ready_mono aP iY;exfalso;have key:Region.ready .any all (listed.setIfInBounds i true)=[]:=by
   unfold h0 at H;simp only[ah]at H;rw[hL]at H;split at H
   .unfold dh at H;split at H;.exact H.1
    unfold jJ at H;split at H
    .split at H;.obtain⟨_,_,_,_,_,_,⟨r,nU⟩,_,q⟩:=H;exact(q r (by rw[nU])).1
     exact H.elim
    exact H.elim
   .exact H.1
   exact H.elim
  rw[key]at hm;cases hm
 |succ fuel ih=>
  intro listed σ rf oI av _ H;refine⟨λh=>(by rw[h]at av;cases av),λj aP=>?_⟩;by_cases iY:j=i;.subst iY;exact H
  obtain⟨wk,c7,ji,gw⟩:=xbL.1 aP;have uj:∀k,listed.getD k true=false->listed[k]?.getD false=true->False:=λk ar ab=>by
   rcases Nat.lt_or_ge k listed.size with bx|bx;.simp[bx]at ar ab;rw[ar]at ab;cases ab
   simp[Array.getElem?_eq_none bx]at ab
  have wm:j∉B:=λEX=>by
   obtain⟨e,he,aj,mU⟩:=gL j c7 EX ji;have ab:=gw e he aj;rcases mU with mU|mU
   .rw[mU]at ab;exact uj i (xbL.1 av).1 (by simpa using ab)
   exact uj _ (rf _ mU) (by simpa using ab)
  obtain⟨dy,dg⟩:=oI j c7 ji iY wk wm;have ab:h0 P T G all i (λgD=>h0 P T G all j (jh P T G all K fuel ((listed.setIfInBounds i true).setIfInBounds j true)) gD) σ:=wj (λgD uy=>uy.2 j (ready_mono aP iY)) H;have af:h0 P T G all j (λgh=>h0 P T G all i (jh P T G all K fuel ((listed.setIfInBounds i true).setIfInBounds j true)) gh) σ:=by unfold h0 at ab⊢;simp only[ah,ji]at ab⊢;exact swapT dy dg ab
  have EY:∀k ok,all[k]?=some ok->k≠i->(listed.setIfInBounds j true).getD k true=false->k∉B->fw.apart all ok=true/\yc T fw ok=true:=λk ok ak rh oJ iq=>by
   refine oI k ok ak rh ?_ iq;by_cases gC:j=k;.subst gC;exact wk
   rw[getD_set_ne true gC]at oJ;exact oJ
  refine wj (λgh aw=>ih (listed.setIfInBounds j true) gh (λk ak=>by
   have gC:j≠k:=by rintro rfl;exact wm ak
   rw[getD_set_ne true gC];exact rf k ak) EY (ready_mono av (Ne.symm iY)) (.inr trivial) ?_) af
  rw[Array.setIfInBounds_comm _ _ iY];exact aw
def ah2{K:aK->Prop}{i:Nat}{fw:Oper}(ah:all[i]?=some fw){B:List Nat}(gL:∀j c7,j∈B->all[j]?=some c7->∃e∈c7.after,Region.binds .any e=true/\(e.on=i\/e.on∈B))(fuel:Nat)(listed:Array Bool)(σ:aK) (ar:∀j,j∈B->listed.getD j true=false) (ba:∀j c7,all[j]?=some c7->j≠i->listed.getD j true=false->j∉B->fw.apart all c7=true/\pass fw c7=true) (av:i∈Region.ready .any all listed) (ag:(¬∃aV,K aV)\/True) (h:h0 P T G all i (jh P T G all K fuel (listed.setIfInBounds i true)) σ):jh P T G all K (fuel+1) listed σ:=P5 ah gL fuel listed σ ar (λj c7 a b c d=>⟨(ba j c7 a b c d).1,by unfold yc;rw[(ba j c7 a b c d).2];rfl⟩) av ag h
def waits(all:Array Oper)(i:Nat):List Nat:=(List.range all.size).foldl (λacc j=>match all[j]? with
  |some c7=>if c7.after.any (λe=>Region.binds .any e&&(e.on==i||acc.contains e.on))then acc++[j]else acc
  |none=>acc) []
def KL(p:Oper->Oper->Bool)(all:Array Oper)(listed:Array Bool)(i:Nat)(B:List Nat):Bool:=match all[i]? with|none=>false|some fw=>(B.all λj=>!listed.getD j true&&match all[j]? with|some c7=>c7.after.any λe=>Region.binds .any e&&(e.on==i||B.contains e.on)|none=>false)&&(List.range all.size).all λj=>j==i||listed.getD j true||B.contains j||match all[j]? with|some c7=>fw.apart all c7&&p fw c7|none=>true
def Xo(all:Array Oper)(listed:Array Bool)(i:Nat)(B:List Nat):Bool:=KL pass all listed i B
def ah3(all:Array Oper)(listed:Array Bool)(i:Nat):Bool:=Xo all listed i (waits all i)
def Xp(T:cg)(all:Array Oper)(listed:Array Bool)(i:Nat):Bool:=KL (yc T) all listed i (waits all i)
def P6{p:Oper->Oper->Bool}{i:Nat}{fw:Oper}{listed:Array Bool}(ah:all[i]?=some fw){B:List Nat}(h:KL p all listed i B=true):(∀j c7,j∈B->all[j]?=some c7->∃e∈c7.after,Region.binds .any e=true/\(e.on=i\/e.on∈B))/\(∀j,j∈B->listed.getD j true=false)/\ ∀j c7,all[j]?=some c7->j≠i->listed.getD j true=false->j∉B->fw.apart all c7=true/\p fw c7=true:=by
 simp only[KL,ah,xam,xaA,xbW]at h;refine⟨λj c7 aP ji=>?_,λj aP=>by simpa using(h.1 j aP).1,λj c7 ji cK oJ iq=>?_⟩;.have ab:=(h.1 j aP).2;simp only[ji]at ab;obtain⟨e,he,aj⟩:=Array.any_eq_true'.1 ab;simp only[xam,xbf,xbH,List.contains_iff_mem]at aj;exact⟨e,he,aj.1,aj.2⟩
 have ab:=h.2 j (xaW.1 ji).1;simp only[ji,xbf,xbH,cK,false_or,oJ,xas,xam,List.contains_iff_mem,iq]at ab;exact ab
def ah4{i:Nat}{fw:Oper}{listed:Array Bool}(ah:all[i]?=some fw){B:List Nat}(h:Xo all listed i B=true):(∀j c7,j∈B->all[j]?=some c7->∃e∈c7.after,Region.binds .any e=true/\(e.on=i\/e.on∈B))/\(∀j,j∈B->listed.getD j true=false)/\ ∀j c7,all[j]?=some c7->j≠i->listed.getD j true=false->j∉B->fw.apart all c7=true/\pass fw c7=true:=P6 ah h
def yd(T:cg)(all:Array Oper):List Nat->Array Bool->Bool
 |[],listed=>(Region.ready .any all listed).isEmpty|i::r,listed=>(Region.ready .any all listed).contains i&&Xp T all listed i&&yd T all r (listed.setIfInBounds i true)
def Bj(P:Program)(T:cg)(G:dt)(all:Array Oper):List Nat->(aK->Prop)->aK->Prop
 |[],K,σ=>K σ|i::r,K,σ=>match all[i]? with|some o=>eB P T G all o (Bj P T G all r K) σ|none=>False
def Xq{K:aK->Prop}:∀(ord:List Nat)(listed:Array Bool)(σ:aK),yd T all ord listed=true->Bj P T G all ord K σ->jh P T G all K ord.length listed σ
 |[],listed,σ,gL,h=>⟨by simpa[yd]using gL,h⟩
 |i::r,listed,σ,gL,h=>by
  simp only[yd,xam]at gL;obtain⟨⟨av,ba⟩,uz⟩:=gL;unfold Bj at h;split at h
  case h_2=>cases h
  rename_i o ah;obtain⟨bz,bA,cx⟩:=P6 ah ba;refine P5 ah bz r.length listed σ bA cx (by simpa using av) (.inr trivial) ?_;unfold h0;simp only[ah];exact EU (λaV uy=>Xq r _ aV uz uy) h
def P7{m:Mem}{fr:fP}{N:Nat}(bf:dR P T){K:aK->Prop}{Q:Exit->Act->World->Prop}(g5:∀o∈all,∀d,o.dst=some d->d<N):∀(fuel:Nat)(listed:Array Bool)(m:Mem)(ρ:dp)(σ:aK)(a:Act)(w:World),kB G m->Den m fr ρ σ a w->N<=a.tmps.size->a.defers=[]->jh P T G all K fuel listed σ->(∀cB w',iU N m fr ρ σ K cB w'->Q .normal cB w')->wpAny P .any all Q fuel listed a w
 |0,listed,m,ρ,σ,a,w,c4,h,bX,hD,a3,hr=>⟨a3.1,hr a w ⟨σ,m,ρ,a3.2,Mem.le_refl m,h,bX,hD,k1.refl _ _⟩⟩|fuel+1,listed,m,ρ,σ,a,w,c4,h,bX,hD,a3,hr=>by refine⟨λar=>hr a w ⟨σ,m,ρ,a3.1 ar,Mem.le_refl m,h,bX,hD,k1.refl _ _⟩,λi ah=>?_⟩;have ab:=a3.2 i ah;obtain⟨_,o,aF,_⟩:=xbL.1 ah;unfold h0 at ab;simp only[aF]at ab;refine wpOp_mono ?_ (PY bf c4 h bX hD aF (g5 o (Array.mem_of_getElem? aF)) ab);rintro cB w' ⟨aV,cF,cV,bz,bA,cx,eo,fi,hh⟩;refine P7 (m:=m) bf g5 fuel _ cF cV aV cB w' (c4.mono bA) cx eo fi bz ?_;rintro py k2 ⟨ri,ye,yf,dy,dg,eW,jj,lD,pz⟩;exact hr py k2 ⟨ri,ye,yf,dy,Mem.le_trans bA dg,eW,jj,lD,hh.trans pz⟩
end
def g6(σ τ:aK):Prop:=∀m fr ρ a w,Den m fr ρ σ a w->∃cF cV,m.le cF/\Den cF fr cV τ a w/\k1 σ ρ τ cV
def g6.refl(σ:aK):g6 σ σ:=λm fr ρ a w h=>⟨m,ρ,Mem.le_refl m,h,k1.refl _ _⟩
def g6.trans{σ τ yg:aK}(h:g6 σ τ)(bx:g6 τ yg):g6 σ yg:=λm fr ρ a w c1=>
 let⟨gM,np,ab,af,aw⟩:=h m fr ρ a w c1
 let⟨kI,lB,a4,b6,cP⟩:=bx gM fr np a w af
 ⟨kI,lB,Mem.le_trans ab a4,b6,aw.trans cP⟩
def hs(P:Program)(T:cg)(G:dt)(N:Nat)(c:Code)(σ:aK)(Q:Exit->aK->Prop):Prop:= ∀m fr ρ a w,kB G m->Den m fr ρ σ a w->N<=a.tmps.size->a.defers=[]->c.wp P (λe cB w'=>iU N m fr ρ σ (Q e) cB w') a w
def KM(K:aK->Prop)(Q:Exit->aK->Prop):Exit->aK->Prop
 | .normal,σ=>K σ|e,σ=>Q e σ
def EZ(id:Nat)(Q:Exit->aK->Prop):Exit->aK->Prop
 | .exit uA,σ=>if uA=id then Q .normal σ else Q (.exit uA) σ
 |e,σ=>Q e σ
section
variable{P:Program}{T:cg}{G:dt}{N:Nat}{σ:aK}{Q:Exit->aK->Prop}
def iU.mono{m:Mem}{fr:fP}{ρ:dp}{K K':aK->Prop}(ak:∀σ,K σ->K' σ){a:Act}{w:World}(h:iU N m fr ρ σ K a w):iU N m fr ρ σ K' a w:=
 let⟨aV,cF,cV,ab,af⟩:=h;⟨aV,cF,cV,ak _ ab,af⟩
def Bk{c:Code}{Xr:Exit->aK->Prop}(h:hs P T G N c σ Q)(bj:∀e σ,Q e σ->Xr e σ):hs P T G N c σ Xr:=λm fr ρ a w c4 c1 bX ay=>wp_mono (h m fr ρ a w c4 c1 bX ay) λe cB w' av=>av.mono (bj e)
def ah5(h:Q .normal σ):hs P T G N .skip σ Q:=λm fr ρ a w c4 c1 bX ay=>wp_skip ⟨σ,m,ρ,h,Mem.le_refl m,c1,bX,ay,k1.refl _ _⟩
def ah6{l:Nat}(h:Q .normal σ):hs P T G N (.label l) σ Q:=λm fr ρ a w c4 c1 bX ay=>wp_label ⟨σ,m,ρ,h,Mem.le_refl m,c1,bX,ay,k1.refl _ _⟩
def ah7{id:Nat}(h:Q (.exit id) σ):hs P T G N (.exit id) σ Q:=λm fr ρ a w c4 c1 bX ay=>wp_exit ⟨σ,m,ρ,h,Mem.le_refl m,c1,bX,ay,k1.refl _ _⟩
def ah8(h:Q .ret σ):hs P T G N .ret σ Q:=λm fr ρ a w c4 c1 bX ay=>wp_ret ⟨σ,m,ρ,h,Mem.le_refl m,c1,bX,ay,k1.refl _ _⟩
def iU.trans{m gM:Mem}{fr:fP}{ρ np:dp}{gD:aK}{K:aK->Prop}{a:Act}{w:World}(hm:m.le gM)(ak:k1 σ ρ gD np)(h:iU N gM fr np gD K a w):iU N m fr ρ σ K a w:=
 let⟨aV,cF,cV,ab,af,aw,a4,b6,cP⟩:=h;⟨aV,cF,cV,ab,Mem.le_trans hm af,aw,a4,b6,ak.trans cP⟩
def ah9{x y:Code}(h:hs P T G N x σ (KM (λaV=>hs P T G N y aV Q) Q)):hs P T G N (.seq x y) σ Q:=by intro m fr ρ a w c4 c1 bX ay;refine wp_seq (wp_mono (h m fr ρ a w c4 c1 bX ay) ?_);rintro e cB w' ⟨aV,cF,cV,ab,af,aw,a4,b6,cP⟩;cases e with|normal=>exact wp_mono (ab cF fr cV cB w' (c4.mono af) aw a4 b6) λe py k2 av=>av.trans af cP|exit id=>exact⟨aV,cF,cV,ab,af,aw,a4,b6,cP⟩|goto l=>exact⟨aV,cF,cV,ab,af,aw,a4,b6,cP⟩|ret=>exact⟨aV,cF,cV,ab,af,aw,a4,b6,cP⟩|panic c=>exact⟨aV,cF,cV,ab,af,aw,a4,b6,cP⟩|outgrown=>exact⟨aV,cF,cV,ab,af,aw,a4,b6,cP⟩
def aia(Q:Exit->aK->Prop):Exit->aK->Prop
 | .goto _,_=>False|e,σ=>Q e σ
def aib{c:Code}(h:hs P T G N c σ (aia Q)):hs P T G N (.scope c) σ Q:=by intro m fr ρ a w c4 c1 bX ay;refine wp_scope_straight (wp_mono (h m fr ρ a w c4 c1 bX ay) ?_);rintro e cB w' ⟨aV,cF,cV,ab,af,aw,a4,b6,cP⟩;cases e with|goto l=>exact ab.elim|normal=>exact⟨aV,cF,cV,ab,af,aw,a4,b6,cP⟩|exit id=>exact⟨aV,cF,cV,ab,af,aw,a4,b6,cP⟩|ret=>exact⟨aV,cF,cV,ab,af,aw,a4,b6,cP⟩|panic c=>exact⟨aV,cF,cV,ab,af,aw,a4,b6,cP⟩|outgrown=>exact⟨aV,cF,cV,ab,af,aw,a4,b6,cP⟩
def KN{c:Operand}{x y:Code}{b:Bool}(an:ch G σ.aM c= .d (.val (.bool b)))(h:if b=true then hs P T G N x σ Q else hs P T G N y σ Q):hs P T G N (.cond c x y) σ Q:=by
 intro m fr ρ a w c4 c1 bX ay;have a3:=Eu (a:=a) c4 c1.aM c;rw[an]at a3;refine wp_cond a3.hZ ?_;cases b
 .exact h m fr ρ a w c4 c1 bX ay
 exact h m fr ρ a w c4 c1 bX ay
def aic{id:Nat}{c:Code}(h:hs P T G N c σ (EZ id Q)):hs P T G N (.block id c) σ Q:=by
 intro m fr ρ a w c4 c1 bX ay;refine wp_block (wp_mono (h m fr ρ a w c4 c1 bX ay) ?_);intro e cB w' av;cases e with
 |exit uA=>
  simp only[Exit.inBlock];by_cases ah:uA=id;.rw[xad ah];exact av.mono λσ bj=>by simp only[EZ,ah,xaC]at bj;exact bj
  rw[xac ah];exact av.mono λσ bj=>by simp only[EZ,ah,xaD]at bj;exact bj
 |normal=>exact av|goto l=>exact av|ret=>exact av|panic c=>exact av|outgrown=>exact av
def P8{τ:aK}{c:Code}(he:g6 σ τ)(h:hs P T G N c τ Q):hs P T G N c σ Q:=by intro m fr ρ a w c4 c1 bX ay;obtain⟨cF,cV,ab,af,aw⟩:=he m fr ρ a w c1;exact wp_mono (h cF fr cV a w (c4.mono ab) af bX ay) λe cB w' av=>av.trans ab aw
def wo(N:Nat)(ops:Array Oper):Bool:=ops.toList.all λo=>match o.dst with|some d=>decide (d<N)|none=>true
def wq{ops:Array Oper}(h:wo N ops=true):∀o∈ops,∀d,o.dst=some d->d<N:=by intro o aF d ay;have:=xaA.1 h o (by simpa using aF);simp only[ay]at this;simpa using this
theorem Den.drew{m:Mem}{fr:fP}{ρ:dp}{a:Act}{w:World}(h:Den m fr ρ σ a w)(n:Nat):Den m fr ρ σ a {w with drawn:=n}:=by refine⟨h.mem,⟨h.frame.qg,h.frame.quiet.same rfl rfl rfl⟩,h.apart,h.one,h.aM,?_,h.own,h.sep⟩;intro k o ak;exact(h.objs k o ak).mono (Mem.le_refl m) (λ_ hu=>⟨hu,rfl⟩) (λb _ _=>rfl)
def aid(bf:dR P T)(hm:P.follows .mixedOrders=true){id:Nat}{ops:Array Oper}(bX:wo N ops=true)(ord:List Nat)(b2:ord.length=ops.size)(Bl:yd T ops ord (Array.replicate ops.size false)=true) (h:Bj P T G ops ord (Q .normal) σ):hs P T G N (.region id ops true) σ Q:=by intro m fr ρ a w c4 c1 nV ay;refine wp_region_any hm ?_;have ab:=Xq ord (Array.replicate ops.size false) σ Bl h;rw[b2]at ab;exact P7 (m:=m) (fr:=fr) (N:=N) (Q:=λe cB w'=>iU N m fr ρ σ (Q e) cB w') bf (wq bX) ops.size _ m ρ σ a _ c4 (c1.drew _) nV ay ab (λcB w' av=>av)
def aie{ι:Type}{c:Code}{Q:Exit->Act->World->Prop}{a:Act}{w:World}(e0:ι->Act->World->Prop)(wu:ι->Nat)(i0:ι)(aif:e0 i0 a w) (round:∀i a w,e0 i a w->c.wp P (Exit.then (λcB w'=>∃j,e0 j cB w'/\wu j<wu i) Q) a w):(Code.loop c).wp P Q a w:=by
 intro b k cs;have key:∀n i a w,wu i=n->e0 i a w->∃e cB w',Q e cB w'/\Arrives P (lone (b.at a (.code c:: .inLoop c::k)) cs w) b k cs e cB w':=by
  intro n
  induction n using Nat.strongRecOn with
  |_ n ih=>
   intro i a w aN iC;obtain⟨e,Bm,Bn,bj,wv⟩:=round i a w iC b (.inLoop c::k) cs;cases e with
   |normal=>obtain⟨j,aih,cu⟩:=bj;obtain⟨aii,aij,aik,ail,aim⟩:=ih (wu j) (aN▸cu) j Bm Bn rfl aih;exact⟨aii,aij,aik,ail,.of_steps (Steps.trans wv (.one step_inLoop)) aim⟩
   |exit id=>exact⟨_,Bm,Bn,bj,.pass (x:= .inLoop c) rfl (λ_ _=> .inl (by simp)) wv⟩|goto l=>exact⟨_,Bm,Bn,bj,.pass (x:= .inLoop c) rfl (λ_ _=> .inl (by simp)) wv⟩|ret=>exact⟨_,Bm,Bn,bj,.pass (x:= .inLoop c) rfl (λ_ _=> .inl (by simp)) wv⟩|panic az5=>exact⟨_,Bm,Bn,bj,.pass (x:= .inLoop c) rfl (λ_ _=> .inl (by simp)) wv⟩|outgrown=>exact⟨_,Bm,Bn,bj,.pass (x:= .inLoop c) rfl (λ_ _=> .inl (by simp)) wv⟩
 obtain⟨e,cB,w',bj,wv⟩:=key _ i0 a w rfl aif;exact⟨e,cB,w',bj,.of_steps (.one step_loop) wv⟩
def ain{ι:Type}{c:Code}(e0:ι->aK)(wu:ι->Nat)(i0:ι)(ar:g6 σ (e0 i0)) (round:∀i,hs P T G N c (e0 i) (KM (λaV=>∃j,g6 aV (e0 j)/\wu j<wu i) Q)):hs P T G N (.loop c) σ Q:=by
 intro m fr ρ a w c4 c1 bX ay;refine aie (λi a w=>∃gM np,m.le gM/\Den gM fr np (e0 i) a w/\N<=a.tmps.size/\a.defers=[]/\k1 σ ρ (e0 i) np) wu i0 ?_ ?_;.obtain⟨cF,cV,ab,af,aw⟩:=ar m fr ρ a w c1;exact⟨cF,cV,ab,af,bX,ay,aw⟩
 rintro i ao fs ⟨gM,np,aW,a2,bb,cX,iD⟩;refine wp_mono (round i gM fr np ao fs (c4.mono aW) a2 bb cX) ?_;intro e cB w' av;have nU:=av.trans aW iD;cases e with
 |normal=>obtain⟨aV,cF,cV,⟨j,aP,cu⟩,af,aw,a4,b6,cP⟩:=nU;obtain⟨kI,lB,bz,bA,cx⟩:=aP cF fr cV cB w' aw;exact⟨j,⟨kI,lB,Mem.le_trans af bz,bA,a4,b6,cP.trans cx⟩,cu⟩
 |exit id=>exact nU|goto l=>exact nU|ret=>exact nU|panic c=>exact nU|outgrown=>exact nU
def yh(T:cg)(σ:aK):ResultVar->Option aS
 | .tmp t=>some (σ.aM t)
 | .cell a t=>match T t,σ.aM a with
  |some i,.ptr k off=>match σ.objs k with|some (.box cells)=>vS i cells off|_=>none
  |_,_=>none
def rj(T:cg)(σ:aK)(rs:List ResultVar):Option aS:=match hC (rs.map (yh T σ))with|some [x]=>some x|some l=>some (.aZ l)|none=>none
def aio(bf:dR P T){m:Mem}{fr:fP}{ρ:dp}{a:Act}{w:World}(h:Den m fr ρ σ a w){E0:ResultVar}{x:aS}(ag:yh T σ E0=some x): ∃v,((match E0 with| .tmp t=>pure (a.tmps.getD t undef)| .cell iA t=>do loadVar t (<-asAddr (a.tmps.getD iA undef)):Sem Value)).run P w= .ok v w/\b4 m ρ σ.used x v:=by
 cases E0 with
 |tmp t=>simp only[yh,xaM]at ag;subst ag;exact⟨_,rfl,h.aM t⟩
 |cell iA t=>
  simp only[yh]at ag;split at ag
  case h_2=>cases ag
  rename_i i k off aL aG;split at ag
  case h_2=>cases ag
  rename_i cells ak;have aE:=h.aM iA;rw[aG]at aE;generalize xW:a.tmps.getD iA undef=u at aE;cases aE with|ptr _ _ b hu av=>
  obtain⟨b',vs,dT,aO,aX,bQ,cO⟩:=h.objs _ _ ak;rw[av]at aO;cases aO;obtain⟨v,e4,eh⟩:=Wn (P:=P) bf aL aX ⟨bQ,cO⟩ ag;exact⟨v,by simp only[xW,asAddr,xag,xau,xaf,e4],eh⟩
def Xs(bf:dR P T){m:Mem}{fr:fP}{ρ:dp}{a:Act}{w:World}(h:Den m fr ρ σ a w):∀(rs:List ResultVar)(xs:List aS),hC (rs.map (yh T σ))=some xs-> ∃vs:List Value,(rs.mapM λ
   | .tmp t=>pure (a.tmps.getD t undef)| .cell iA t=>do loadVar t (<-asAddr (a.tmps.getD iA undef)):Sem (List Value)).run P w= .ok vs w/\vs.length=xs.length/\∀(i:Nat)(x:aS)(v:Value),xs[i]?=some x->vs[i]?=some v->b4 m ρ σ.used x v
 |[],xs,ag=>by simp[hC]at ag;subst ag;exact⟨[],by simp,rfl,by simp⟩
 |E0::rs,xs,ag=>by
  simp only[xaz]at ag;cases ab:yh T σ E0 with
  |none=>simp[ab,hC]at ag
  |some x=>
   rw[ab]at ag;simp only[hC]at ag;split at ag
   case h_2=>cases ag
   rename_i l aq;cases ag;obtain⟨v,e4,eh⟩:=aio (P:=P) bf h ab;obtain⟨vs,jL,KO,aip⟩:=Xs bf h rs l aq;refine⟨v::vs,?_,by simp[KO],?_⟩;.simp only[List.mapM_cons,xag,e4,jL,xaf,xau]
   intro i y u aJ hu;cases i with|zero=>simp at aJ hu;subst aJ;subst hu;exact eh|succ i=>exact aip i y u (by simpa using aJ) (by simpa using hu)
def Xt(bf:dR P T){m:Mem}{fr:fP}{ρ:dp}{a:Act}{w:World}(h:Den m fr ρ σ a w){fn:Func}{x:aS}(ag:rj T σ fn.results.toList=some x): ∃v,(results fn a.tmps).run P w= .ok v w/\b4 m ρ σ.used x v:=by
 unfold rj at ag;cases aq:hC (fn.results.toList.map (yh T σ))with
 |none=>simp[aq]at ag
 |some xs=>
  obtain⟨vs,e4,eh,jL⟩:=Xs (P:=P) bf h fn.results.toList xs aq;have hY:((fn.results.mapM λ
   | .tmp t=>pure (a.tmps.getD t undef)| .cell iA t=>do loadVar t (<-asAddr (a.tmps.getD iA undef)):Sem (Array Value))).run P w= .ok vs.toArray w:=by
   rw[Array.mapM_eq_mapM_toList,Sem.run_map,e4];rfl
  have Bo:(results fn a.tmps).run P w= .ok (if h:vs.toArray.size=1 then vs.toArray[0]else .tuple vs.toArray) w:=by unfold results;rw[xag];exact(congrArg (λr=>Result.andThen r _) hY).trans rfl
  rw[Bo];rw[aq]at ag;split at ag
  .rename_i y he;cases ag;cases he
   match vs,eh,jL with|[v],_,jL=>exact⟨v,by simp,jL 0 _ _ rfl rfl⟩
  .rename_i l cK he;cases ag;cases he;have gR:vs.toArray.size≠1:=by
    intro ab;have:xs.length=1:=by rw[<-eh];simpa using ab
    obtain⟨y,aJ⟩:=List.length_eq_one_iff.1 this;exact cK y aJ
   refine⟨.tuple vs.toArray,?_,.aZ _ _ (by simpa using eh) (λi c v an a3=>jL i c v an (by simpa using a3))⟩;rw[dif_neg gR]
  cases ag
def start(args:List aS)(E:cG):aK:=⟨λt=>args.getD t .any,E⟩
def aiq(bf:dR P T){f:FuncId}{fn:Func}{c:Code}{aQ:List D}{R:D->Prop}(ba:P.funcs[f]?=some fn)(aj:fn.body=some c)(KP:(fn.name== "runtime.NumGoroutine")=false)(b2:aQ.length<=fn.ntmps) (h:hs P T G fn.ntmps c (start (aQ.map .d) λ_=>none) λe aV=>(e= .normal\/e= .ret)/\∃r d x,rj T aV fn.results.toList=some r/\toD aV.objs r=some d/\d.le x/\R x):er P G f aQ R:=by
 refine⟨⟨fn,ba,KP,by rw[aj];rfl⟩,?_⟩;intro m fr w vs c4 dV c1;refine calls_of_wp ba aj ?_;have E1:Den m fr (λ_=>undef) (start (aQ.map .d) λ_=>none) {tmps:=vs.toArray++Array.replicate (fn.ntmps-vs.toArray.size) undef,defers:=[]} w:=by
  refine⟨dV.mem,dV.frame,dV.apart,?_,?_,?_,?_,?_⟩;.rintro k ⟨o,aF⟩;cases aF
  .intro t;simp only[start];by_cases aL:t<vs.length
   .have cu:t<aQ.length:=by rw[<-c1.1];exact aL
    have ay:=xaa cu;have a3:=xaa aL;have aO:(aQ.map aS.d).getD t .any= .d aQ[t]:=by rw[xaR,xaj,ay];rfl
    have aX:(vs.toArray++Array.replicate (fn.ntmps-vs.toArray.size) undef).getD t undef=vs[t]:=by rw[xbw,xbJ (by simpa using aL)];simp[aL]
    rw[aO,aX];exact .d _ _ (c1.2 t _ _ ay a3)
   have aO:(aQ.map aS.d).getD t .any= .any:=by rw[xaR,xbi (by simp;rw[<-c1.1];omega)];rfl
   rw[aO];exact .any _
  .intro k o ak;cases ak
  .intro k o b ak;cases ak
  intro k br o o' b _ ak;cases ak
 have gR:fn.ntmps<=(vs.toArray++Array.replicate (fn.ntmps-vs.toArray.size) undef).size:=by simp;omega
 refine wp_mono (h m fr _ _ w c4 E1 gR rfl) ?_;rintro e cB w' ⟨aV,cF,cV,⟨he,r,d,x,ab,af,aw,a4⟩,b6,cP,gE,h1,jM⟩;obtain⟨v,bz,bA⟩:=Xt (P:=P) bf cP ab;have cx:=aw _ _ (WU cP bA af);have fin:cB.defers=[]/\∃v,(results fn cB.tmps).run P w'= .ok v w'/\∃v1 gM e4,Ending.returned v= .returned v1/\R e4/\m.le gM/\sI gM fr w'/\dx gM e4 v1:=⟨h1,v,bz,v,Den.all cF cV aV.objs w',x,rfl,a4,Mem.le_trans b6 (Den.Bb _ _ _ _),cP.WR,cx⟩;rcases he with rfl|rfl
 .exact fin
 exact fin
end
def E2:List aS->Option (List D)
 |[]=>some []| .d x::r=>(E2 r).map (x::·)|_=>none
def KQ:aS->Option D
 | .d x=>some x| .agg cs=>(E2 cs).map .agg| .aZ cs=>(E2 cs).map .aZ|_=>none
def Xu:∀{cs:List aS}{aQ:List D},E2 cs=some aQ->cs=aQ.map .d
 |[],aQ,h=>by cases h;rfl
 | .d x::r,aQ,h=>by obtain⟨l,aq,rfl⟩:=xah.1 h;rw[Xu aq];rfl
 | .any::_,_,h=>by cases h
 | .agg _::_,_,h=>by cases h
 | .aZ _::_,_,h=>by cases h
 | .eA _ _::_,_,h=>by cases h
 | .ptr _ _::_,_,h=>by cases h
 | .gB _ _ _ _::_,_,h=>by cases h
 | .row _::_,_,h=>by cases h
 | .sub _ _ _ _::_,_,h=>by cases h
 | .map _::_,_,h=>by cases h
 | .fn _ _ _::_,_,h=>by cases h
def air{m:Mem}{ρ:dp}{U:Key->Prop}{x:aS}{a:D}{v:Value}(h:KQ x=some a)(ag:b4 m ρ U x v):dx m a v:=by
 have part:∀{cs:List aS}{aQ:List D}{vs:Array Value},E2 cs=some aQ->vs.size=cs.length->(∀(i:Nat)(c:aS)(v:Value),cs[i]?=some c->vs[i]?=some v->b4 m ρ U c v)->vs.size=aQ.length/\∀(i:Nat)(c:D)(v:Value),aQ[i]?=some c->vs[i]?=some v->dx m c v:=by intro cs aQ vs ay aq an;have e:=Xu ay;subst e;refine⟨by simpa using aq,λi c v ab af=>?_⟩;have:=an i (.d c) v (by simp[ab]) af;cases this with|d _ _ h=>exact h
 unfold KQ at h;split at h;.cases h;cases ag with|d _ _ h=>exact h
 .obtain⟨aQ,ay,rfl⟩:=xah.1 h;cases ag with|agg _ vs aq an=>exact .agg _ _ (part ay aq an).1 (part ay aq an).2
 .obtain⟨aQ,ay,rfl⟩:=xah.1 h;cases ag with|aZ _ vs aq an=>exact .aZ _ _ (part ay aq an).1 (part ay aq an).2
 cases h
def pA(cm:Key->Key)(U:Key->Prop)(x y:aS):Prop:=match y with| .any=>True| .d b=>∃a,KQ x=some a/\a.le b| .eA cs off=>x= .eA cs off\/x= .d (.ref cs off)| .ptr k off=>x= .ptr (cm k) off/\U k| .gB k cR i off=>x= .gB (cm k) cR i off/\U k| .row k=>x= .row (cm k)/\U k| .sub k cR i len=>x= .sub (cm k) cR i len/\U k| .map k=>x= .map (cm k)/\U k|_=>False
def jN(cm:Key->Key)(U:Key->Prop):List aS->List aS->Prop
 |[],[]=>True|x::xs,y::c6=>pA cm U x y/\jN cm U xs c6|_,_=>False
def uB(cm:Key->Key)(U:Key->Prop)(x y:aS):Prop:=match y with
 | .agg c6=>match x with| .agg xs=>jN cm U xs c6| .d (.agg aQ)=>jN cm U (aQ.map .d) c6|_=>False
 | .aZ c6=>match x with| .aZ xs=>jN cm U xs c6|_=>False
 | .fn f as kl=>match x with| .fn kG ais ait=>f=kG/\jN cm U ais as/\jN cm U ait kl|_=>False
 |y=>pA cm U x y
def sO(cm:Key->Key)(U:Key->Prop):List aS->List aS->Prop
 |[],[]=>True|x::xs,y::c6=>uB cm U x y/\sO cm U xs c6|_,_=>False
section
variable{m:Mem}{ρ:dp}{qo U:Key->Prop}{cm:Key->Key}
def pA.ok{x y:aS}(h:pA cm U x y){v:Value}(ag:b4 m ρ qo x v):b4 m (λk=>ρ (cm k)) U y v:=by
 unfold pA at h;split at h;.exact .any _
 .obtain⟨a,aE,hle⟩:=h;exact .d _ _ (hle _ _ (air aE ag))
 .rcases h with rfl|rfl;.cases ag with|eA _ _ b o vs T eL hm xs ab af=>exact .eA _ _ b o vs T eL hm xs ab af
  cases ag.oC with|ref _ _ b o vs T eL hm xs ab af=>exact .eA _ _ b o vs T eL hm xs ab af
 .obtain⟨rfl,hu⟩:=h;cases ag with|ptr _ _ b _ av=>exact .ptr _ _ b hu av
 .obtain⟨rfl,hu⟩:=h;cases ag with|gB _ _ _ _ b o len cap _ av=>exact .gB _ _ _ _ b o len cap hu av
 .obtain⟨rfl,hu⟩:=h;cases ag;exact .row (ρ:=λk=>ρ (cm k)) _ hu
 .obtain⟨rfl,hu⟩:=h;cases ag with|sub _ _ _ _ b o L cap a _ av hle aE=>exact .sub _ _ _ _ b o L cap a hu av hle aE|kA _ _ _ _ av=>exact .kA _ _ _ hu av
 .obtain⟨rfl,hu⟩:=h;cases ag;exact .map (ρ:=λk=>ρ (cm k)) _ hu
 cases h
def jN.ok:∀{xs c6:List aS},jN cm U xs c6->c6.length=xs.length/\∀(i:Nat)(y:aS),c6[i]?=some y->∃x,xs[i]?=some x/\pA cm U x y
 |[],[],_=>⟨rfl,by simp⟩|x::xs,y::c6,h=>by have ih:=jN.ok h.2;refine⟨by simp[ih.1],?_⟩;intro i z bn;cases i with|zero=>simp at bn;subst bn;exact⟨x,rfl,h.1⟩|succ i=>simp at bn;obtain⟨w,ab,af⟩:=ih.2 i z bn;exact⟨w,by simpa using ab,af⟩
 |[],y::c6,h=>h.elim|x::xs,[],h=>h.elim
def jN.cells{xs c6:List aS}{vs:Array Value}(h:jN cm U xs c6)(ag:mj m ρ qo xs vs):mj m (λk=>ρ (cm k)) U c6 vs:=by obtain⟨ab,af⟩:=h.ok;refine⟨by rw[ag.1,ab],?_⟩;intro i y v aJ a3;obtain⟨x,aw,a4⟩:=af i y aJ;exact a4.ok (ag.2 i x v aw a3)
def uB.ok{x y:aS}(h:uB cm U x y){v:Value}(ag:b4 m ρ qo x v):b4 m (λk=>ρ (cm k)) U y v:=by
 unfold uB at h;split at h
 .rename_i c6;split at h;.rename_i xs;obtain⟨vs,rfl,an⟩:=ag.Wi;have:=jN.cells h an;exact .agg _ _ this.1 this.2
  .rename_i aQ;obtain⟨vs,rfl,aq,an⟩:=ag.Wh;have ar:mj m ρ qo (aQ.map .d) vs:=⟨by simpa using aq,by
    intro i c v dX a3;simp only[xaj,xah]at dX;obtain⟨z,bn,rfl⟩:=dX;exact .d _ _ (an i z v bn a3)⟩
   have:=jN.cells h ar;exact .agg _ _ this.1 this.2
  cases h
 .split at h;.obtain⟨vs,rfl,an⟩:=ag.Wj;have:=jN.cells h an;exact .aZ _ _ this.1 this.2
  cases h
 .split at h
  .obtain⟨rfl,ab,af⟩:=h;cases ag with|fn _ _ _ vs ws aq dE g lC=>
   have a:=jN.cells (U:=U) ab ⟨aq,g⟩;have b:=jN.cells (U:=U) af ⟨dE,lC⟩;exact .fn _ _ _ vs ws a.1 b.1 a.2 b.2
  cases h
 exact h.ok ag
end
def sO.ok{cm:Key->Key}{U:Key->Prop}:∀{xs c6:List aS},sO cm U xs c6->c6.length=xs.length/\∀(i:Nat)(y:aS),c6[i]?=some y->∃x,xs[i]?=some x/\uB cm U x y
 |[],[],_=>⟨rfl,by simp⟩|x::xs,y::c6,h=>by have ih:=sO.ok h.2;refine⟨by simp[ih.1],?_⟩;intro i z bn;cases i with|zero=>simp at bn;subst bn;exact⟨x,rfl,h.1⟩|succ i=>simpa using ih.2 i z (by simpa using bn)
 |[],y::c6,h=>h.elim|x::xs,[],h=>h.elim
def sO.cells{m:Mem}{ρ:dp}{qo U:Key->Prop}{cm:Key->Key}{xs c6:List aS}{vs:Array Value}(h:sO cm U xs c6)(ag:mj m ρ qo xs vs):mj m (λk=>ρ (cm k)) U c6 vs:=by obtain⟨ab,af⟩:=h.ok;refine⟨by rw[ag.1,ab],?_⟩;intro i y v aJ a3;obtain⟨x,aw,a4⟩:=af i y aJ;exact a4.ok (ag.2 i x v aw a3)
def P9(es dq:List (List D)):Prop:=es=dq\/(es.length=dq.length/\∀(i:Nat)(x y:List D),es[i]?=some x->dq[i]?=some y->x.length=y.length/\y.all D.one=true/\∀(j:Nat)(a b:D),x[j]?=some a->y[j]?=some b->a.le b)
def yi(cm:Key->Key)(U:Key->Prop)(x y:cS):Prop:=match y with| .dead=>True| .box c6=>∃xs,x= .box xs/\sO cm U xs c6| .row k dq=>∃es,x= .row k es/\P9 es dq| .map es=>x= .map es
def P9.ok{m:Mem}{ρ cV:dp}{U nj:Key->Prop}{k:Nat}{es dq:List (List D)}(h:P9 es dq){v:Value}{w:World}(ag:jA m ρ U v w (.row k es)):jA m cV nj v w (.row k dq):=by
 rcases h with rfl|⟨aq,h⟩;.exact ag
 rcases ag with⟨aO,rfl⟩|⟨b,o,cap,vs,T,aO,aX,bQ,cO,eb,fq⟩;.exact .inl ⟨aO,xaI (by rw[<-aq];rfl)⟩
 have key:∀(i:Nat)(y:List D),dq[i]?=some y->∃x,es[i]?=some x/\x.length=y.length/\y.all D.one=true/\∀(j:Nat)(a b:D),x[j]?=some a->y[j]?=some b->a.le b:=by
  intro i y aJ;have ah:i<es.length:=by rw[aq];exact(xae.1 aJ).1
  exact⟨_,xaa ah,h i _ y (xaa ah) aJ⟩
 refine .inr ⟨b,o,cap,vs,T,by rw[<-aq];exact aO,aX,by omega,cO,?_,?_⟩;.intro y aJ;obtain⟨i,ah⟩:=xaL.1 aJ;obtain⟨x,ab,af,aw,_⟩:=key i y ah;exact⟨by rw[<-af];exact(eb x (xab ab)).1,aw⟩
 intro i y j c ah aP;obtain⟨x,ab,af,_,aw⟩:=key i y ah;have Xv:j<x.length:=by rw[af];exact(xae.1 aP).1
 obtain⟨z,aW,a2⟩:=fq i x j _ ab (xaa Xv);exact⟨z,aW,aw j _ c (xaa Xv) aP _ _ a2⟩
def KR:List (Nat×aS)->Nat->aS
 |[],_=> .any|(j,v)::r,t=>if t=j then v else KR r t
def fG:List (Key×cS)->Key->Option cS
 |[],_=>none|(j,o)::r,k=>if k=j then some o else fG r k
def Xw(ls:List (Nat×aS))(lo:List (Key×cS)):aK:=⟨KR ls,fG lo⟩
def Bp(cm:Key->Key)(U:Key->Prop)(σ:aK):List (Nat×aS)->Prop
 |[]=>True|(t,v)::r=>uB cm U (σ.aM t) v/\Bp cm U σ r
def yj(cm:Key->Key)(U:Key->Prop)(σ:aK):List (Key×cS)->Prop
 |[]=>True|(k,o)::r=>(∃o',σ.objs (cm k)=some o'/\yi cm U o' o)/\yj cm U σ r
def Bp.ok{cm:Key->Key}{U:Key->Prop}{σ:aK}:∀{ls:List (Nat×aS)},Bp cm U σ ls->∀t,uB cm U (σ.aM t) (KR ls t)
 |[],_,t=>trivial
 |(j,v)::r,h,t=>by
  unfold KR;split;.rename_i e;subst e;exact h.1
  exact Bp.ok h.2 t
def yj.ok{cm:Key->Key}{U:Key->Prop}{σ:aK}:∀{lo:List (Key×cS)},yj cm U σ lo->∀k o,fG lo k=some o->∃o',σ.objs (cm k)=some o'/\yi cm U o' o
 |[],_,k,o,h=>by cases h
 |(j,x)::r,h,k,o,ak=>by
  unfold fG at ak;split at ak;.rename_i e;subst e;cases ak;exact h.1
  exact yj.ok h.2 k o ak
def gi:List (Key×Key)->Key->Key
 |[],k=>k|(a,b)::r,k=>if k=a then b else gi r k
def mw(lo:List (Key×cS)):List Key:=lo.map (·.1)
def yk(cm:Key->Key):List Key->Bool
 |[]=>true|k::r=>r.all (λj=>k==j||!(cm k==cm j))&&yk cm r
def KS{cm:Key->Key}:∀{l:List Key},yk cm l=true->∀k j,k∈l->j∈l->cm k=cm j->k=j
 |[],_,k,j,h,_,_=>by cases h
 |x::r,h,k,j,ak,aP,he=>by
  simp only[yk,xam,xaA]at h;rcases xal.1 ak with rfl|fU
  .rcases xal.1 aP with rfl|q3;.rfl
   have:=h.1 j q3;simp at this;rcases this with ab|ab
   .exact ab
   exact absurd he ab
  rcases xal.1 aP with rfl|q3
  .have:=h.1 k fU;simp at this;rcases this with ab|ab
   .exact ab.symm
   exact absurd he.symm ab
  exact KS h.2 k j fU q3 he
def wx:∀{lo:List (Key×cS)} {k:Key} {o:cS},fG lo k=some o->k∈mw lo
 |[],k,o,h=>by cases h
 |(j,x)::r,k,o,h=>by
  unfold fG at h;split at h;.rename_i e;subst e;simp[mw]
  have:=wx h;simp only[mw,xaz,xal]at this⊢;exact .inr this
def aiu{σ:aK}{ls:List (Nat×aS)}{lo:List (Key×cS)}(l:List (Key×Key))(av:yk (gi l) (mw lo)=true) (aG:Bp (gi l) (λk=>∃o,fG lo k=some o) σ ls) (aF:yj (gi l) (λk=>∃o,fG lo k=some o) σ lo) (ak:∀k,10000<=k->eZ (σ.objs k)->eZ (fG lo k)/\gi l k=k):g6 σ (Xw ls lo):=by
 intro m fr ρ a w h;have jE:∀{o o':cS},yi (gi l) (λk=>∃o,fG lo k=some o) o' o->o.owns=true->o'.owns=true:=by
  intro o o' hle aF;cases o with
  |dead=>cases aF
  |box=>obtain⟨xs,rfl,_⟩:=hle;rfl
  |row=>obtain⟨es,rfl,_⟩:=hle;rfl
  |map=>cases hle;rfl
 refine⟨m,λk=>ρ (gi l k),Mem.le_refl m,⟨h.mem,h.frame,h.apart,?_,?_,?_,?_,?_⟩,λk fU aj=>⟨(ak k fU aj).1,by show ρ (gi l k)=ρ k;rw[(ak k fU aj).2]⟩⟩;.rintro k ⟨o,mx⟩;obtain⟨o',ab,_⟩:=aF.ok k o mx;exact h.one _ ⟨o',ab⟩
 .intro t;exact(aG.ok t).ok (h.aM t)
 .intro k o mx;obtain⟨o',ab,af⟩:=aF.ok k o mx;have aw:=h.objs _ _ ab;cases o with
  |dead=>trivial|box c6=>obtain⟨xs,rfl,hle⟩:=af;obtain⟨b,vs,T,aO,aX,bQ,cO⟩:=aw;have:=sO.cells hle ⟨bQ,cO⟩;exact⟨b,vs,T,aO,aX,this.1,this.2⟩
  |row cR dq=>obtain⟨es,rfl,hle⟩:=af;exact hle.ok aw
  |map es=>cases af;exact aw
 .intro k o b mx KT aj;obtain⟨o',ab,af⟩:=aF.ok k o mx;exact h.own _ o' b ab (jE af KT) aj
 intro k br o o' b cK mx E3 Qa Qb aj;obtain⟨x,ab,af⟩:=aF.ok k o mx;obtain⟨lX,e3,h8⟩:=aF.ok br o' E3;exact h.sep (gi l k) (gi l br) x lX b (λe=>cK (KS av k br (wx mx) (wx E3) e)) ab e3 (jE af Qa) (jE h8 Qb) aj
def Bq(P:Program):Nat->List Field->Option (List TypeDesc)
 |_,[]=>some []|off,f::dq=>if f.name≠ "_" /\f.offset=off then(match P.underlying f.type with|some .bool=>(Bq P (off+1) dq).map (.bool::·)|some (.int k)=>(Bq P (off+1) dq).map (.int k::·)|some .string=>(Bq P (off+1) dq).map (.string::·)|_=>none)else none
def KU{P:Program}:∀{dq:List Field}{off:Nat}{l:List TypeDesc},Bq P off dq=some l->JY P off dq l
 |[],_,l,h=>by cases h;trivial
 |f::dq,off,l,h=>by
  unfold Bq at h;split at h
  case isFalse=>cases h
  rename_i ab;split at h;.rename_i hu;obtain⟨r,av,rfl⟩:=xah.1 h;exact⟨ab.1,ab.2,hu,rfl,KU av⟩
  .rename_i hu;obtain⟨r,av,rfl⟩:=xah.1 h;exact⟨ab.1,ab.2,hu,rfl,KU av⟩
  .rename_i hu;obtain⟨r,av,rfl⟩:=xah.1 h;exact⟨ab.1,ab.2,hu,rfl,KU av⟩
  cases h
def Qc(P:Program)(t:TypeId):Option (List TypeDesc):=match P.underlying t with
 |some (.struct dq)=>match Bq P 0 dq.toList with
  |some l=>if P.stoodInHeld t=false/\P.eqGuardType P.depth t=false then some l else none
  |none=>none
 |_=>none
def aiv{P:Program}{t:TypeId}{l:List TypeDesc}(h:Qc P t=some l):V3 P t l:=by
 unfold Qc at h;split at h
 case h_2=>cases h
 rename_i dq hu;have ba:P.fieldsOf t=dq:=by simp[Program.fieldsOf,hu]
 split at h
 case h_2=>cases h
 rename_i sx aq;split at h
 case isFalse=>cases h
 rename_i an;cases h;exact⟨by rw[ba];exact hu,an.1,an.2,by rw[ba];exact KU aq⟩
def E4(P:Program)(t:TypeId):Option iI:=match P.underlying t,P.info? t with
 |some d,some i=>match i.zero with
  |some z=>if z.cells.size=i.size then some ⟨d,i.size,i.bytes,z⟩else none
  |none=>none
 |_,_=>none
def Qd(P:Program)(t:TypeId)(name:String):Option FuncId:=match P.info? t,P.underlying t with
 |some i,some d=>match d with
  | .pointer _=>none
  |_=>match i.methods.find? (λm=>m.name==name)with
   |some m=>match m.path.toList,m.func with|[],some (f,false)=>some f|_,_=>none
   |none=>none
 |_,_=>none
def aiw{P:Program}{t:TypeId}{name:String}{f:FuncId}(h:Qd P t name=some f):JZ P t name f:=by
 unfold Qd at h;split at h
 case h_2=>cases h
 rename_i i d ab af;split at h
 case h_1=>cases h
 rename_i aT;split at h
 case h_2=>cases h
 rename_i m hm;split at h
 case h_2=>cases h
 rename_i g aw a4;cases h;exact⟨i,m,d,ab,hm,aw,a4,af,λe he=>aT e he⟩
def eC(P:Program):cg:=⟨E4 P,Qc P,λ_=>false,Qd P,[],[]⟩
def cg.KV(T:cg)(l:List TypeId):cg:=⟨T.JW,T.eqs,T.born,T.qZ,l,T.dyn⟩
def dR.KV{P:Program}{T:cg}(h:dR P T)(l:List TypeId):dR P (T.KV l):=⟨h.ty,h.AW,h.eqs,h.J0⟩
def cg.sP(T:cg)(l:List Nat):cg:=⟨T.JW,T.eqs,λk=>l.contains k,T.qZ,T.Pf,T.dyn⟩
def dR.sP{P:Program}{T:cg}(h:dR P T)(l:List Nat):dR P (T.sP l):=⟨h.ty,h.AW,h.eqs,h.J0⟩
def cg.wy(T:cg)(l:List (Nat×List FuncId)):cg:=⟨T.JW,T.eqs,T.born,T.qZ,T.Pf,l⟩
def dR.wy{P:Program}{T:cg}(h:dR P T)(l:List (Nat×List FuncId)):dR P (T.wy l):=⟨h.ty,h.AW,h.eqs,h.J0⟩
def tok(P:Program):dR P (eC P):=by
 constructor
 .intro t i h;change E4 P t=some i at h;unfold E4 at h;split at h
  case h_2=>cases h
  rename_i d info ab af;split at h
  case h_2=>cases h
  rename_i z bn;split at h
  case isFalse=>cases h
  cases h;exact⟨ab,info,af,rfl,rfl,bn⟩
 .intro t i h;change E4 P t=some i at h;unfold E4 at h;split at h
  case h_2=>cases h
  rename_i d info ab af;split at h
  case h_2=>cases h
  rename_i z bn;split at h
  case isFalse=>cases h
  rename_i aG;cases h;exact aG
 .intro t l h;exact aiv h
 intro t name f h;exact aiw h
def J(n:Int):D:= .val (.int .i64 n)
def ax(b:Bool):D:= .val (.bool b)
def aC(s:ByteArray):D:= .val (.string s)
def bu(l:List ByteArray):D:= .az 1 (l.map λs=>[aC s])
end Go.Am
