/- Calls, regions in any order, loops: their rules over such values. No condition. -/
import Derived.Test.YthnecpgodmolaaaGreatDoorEngA
import Derived.Still
import Derived.Scope
set_option linter.all false
set_option linter.unnecessarySimpa false
namespace Go.Am
def aI.put(σ:aI)(dst:Option Tmp)(r:aS):aI:=match dst with|some d=>⟨cv σ.aK d r,σ.objs⟩|none=>σ
def g1(T:ch)(G:dr)(σ:aI)(o:Oper):Option aI:=match eZ T (cj G σ.aK) o.op with|some r=>some (σ.put o.dst r)|none=>match dH T (cj G σ.aK) σ.objs o.op with|some r=>some (σ.put o.dst r)|none=>match hg T (cj G σ.aK) σ.objs (o.dst.getD 9999) o.op with|some (r,cC)=>some (aI.put ⟨σ.aK,dI σ.objs cC⟩ o.dst r)|none=>none
structure sL(m:Mem)(fr:fL)(w:World):Prop where
 mem:∀b o,m b=some o->w.heap[b]?=some o
 frame:Wf fr w
 apart:∀b,m b≠none->fr b=none
def Den.ok{m:Mem}{fr:fL}{ρ:dg}{σ:aI}{a:Act}{w:World}(h:Den m fr ρ σ a w):sL m fr w:=⟨h.mem,h.frame,h.apart⟩
def ya(m:Mem)(aO:List D)(vs:List Value):Prop:=vs.length=aO.length/\∀(i:Nat)(d:D)(v:Value),aO[i]?=some d->vs[i]?=some v->dz m d v
def wc(P:Program)(f:FuncId):Prop:=∃fn,P.funcs[f]?=some fn/\(fn.name== "runtime.NumGoroutine")=false/\fn.body.isNone=false
structure ez(P:Program)(G:dr)(f:FuncId)(aO:List D)(R:D->Prop):Prop where
 fn:wc P f
 run:∀m fr w vs,kB G m->sL m fr w->ya m aO vs->Calls P f vs.toArray w λe w'=>∃v cI r,e= .returned v/\R r/\m.le cI/\sL cI fr w'/\dz cI r v
def ez.mono{P:Program}{G:dr}{f:FuncId}{aO:List D}{R W3:D->Prop}(h:ez P G f aO R)(av:∀r,R r->W3 r):ez P G f aO W3:=⟨h.fn,λm fr w vs c6 dY c2=>(h.run m fr w vs c6 dY c2).mono λe w' ⟨v,cI,r,ab,af,aw⟩=>⟨v,cI,r,ab,av r af,aw⟩⟩
def q7:List D->List D->Prop
 |[],[]=>True|x::xs,y::dm=>x.le y/\q7 xs dm|_,_=>False
def q7.refl:∀l:List D,q7 l l
 |[]=>trivial|x::l=>⟨x.le_refl,q7.refl l⟩
def q7.ok{m:Mem}:∀{xs dm:List D}{vs:List Value},q7 xs dm->ya m xs vs->ya m dm vs
 |[],[],vs,_,h=>h|x::xs,y::dm,[],_,h=>by have:=h.1;simp at this|x::xs,y::dm,v::vs,ar,h=>by have ih:=q7.ok (m:=m) (vs:=vs) ar.2 ⟨by simpa using h.1,λi d u aA hu=>h.2 (i+1) d u (by simpa using aA) (by simpa using hu)⟩;refine⟨by simpa using ih.1,?_⟩;intro i d u aA hu;cases i with|zero=>simp at aA hu;subst aA;subst hu;exact ar.1 m v (h.2 0 x v rfl rfl)|succ i=>exact ih.2 i d u (by simpa using aA) (by simpa using hu)
 |[],y::dm,vs,h,_=>h.elim|x::xs,[],vs,h,_=>h.elim
def D.flat:D->Bool
 | .val _=>true| .agg cs=>cs.all λc=>match c with| .val _=>true|_=>false
 | .a1 cs=>cs.all λc=>match c with
  | .val _=>true| .agg cs=>cs.all λc=>match c with| .val _=>true|_=>false
  |_=>false
 |_=>false
def ahy{m cI:Mem}{c:D}{v:Value}(h:(match c with| .val _=>true|_=>false)=true)(aA:dz m c v):dz cI c v:=by cases c<;>first|(cases aA;exact .val _)|cases h
def flat_agg{m cI:Mem}{cs:List D}{v:Value}(h:(cs.all λc=>match c with| .val _=>true|_=>false)=true)(aA:dz m (.agg cs) v):dz cI (.agg cs) v:=by cases aA with|agg _ vs ar bI=>exact .agg _ _ ar λi c u ao hu=>ahy (xaz.1 h c (xac ao)) (bI i c u ao hu)
def D.Ex{m cI:Mem}{x:D}{v:Value}(h:x.flat=true)(aA:dz m x v):dz cI x v:=by
 cases x with
 |val=>cases aA;exact .val _
 |agg cs=>exact flat_agg h aA
 |a1 cs=>
  cases aA with
  |a1 _ vs ar bI=>
   refine .a1 _ _ ar λi c u ao hu=>?_;have ab:=xaz.1 h c (xac ao);have af:=bI i c u ao hu;cases c with
   |val=>cases af;exact .val _
   |agg cs=>exact flat_agg ab af|a1=>cases ab
   |ax=>cases ab
   |dX=>cases ab
   |mp=>cases ab
   |ref=>cases ab
   |fn=>cases ab
 |ax=>cases h
 |dX=>cases h
 |mp=>cases h
 |ref=>cases h
 |fn=>cases h
def q8(objs:cF):aS->Option D
 | .d x=>some x| .row key=>match objs key with|some (.row k es)=>some (.ax k es)|_=>none
 | .sub key k i len=>match objs key with
  |some (.row bs es)=>if k=bs/\i+len<=es.length then some (.ax k ((es.drop i).take len))else none
  |_=>none
 | .map key=>match objs key with|some (.map es)=>some (.mp es)|_=>none
 |_=>none
def hC{α:Type}:List (Option α)->Option (List α)
 |[]=>some []|some x::r=>match hC r with|some l=>some (x::l)|none=>none
 |none::_=>none
def q9{α:Type}:∀{l:List (Option α)} {r:List α},hC l=some r->r.length=l.length/\∀(i:Nat)(x:α),r[i]?=some x->l[i]?=some (some x)
 |[],r,h=>by simp[hC]at h;subst h;simp|none::l,r,h=>by simp[hC]at h
 |some x::l,r,h=>by
  simp only[hC]at h;split at h
  case h_2=>cases h
  rename_i sA dv;cases h;have ih:=q9 dv;refine⟨by simp[ih.1],?_⟩;intro i y aP;cases i with|zero=>simpa using aP|succ i=>exact ih.2 i y (by simpa using aP)
def nn(objs:cF):aS->Option D
 | .ptr key off=>match objs key with
  |some (.box cells)=>match hC (cells.map (q8 objs))with|some cs=>some (.ref cs off)|none=>none
  |_=>none
 | .ew cs off=>some (.ref cs off)|x=>q8 objs x
def ot(objs:cF):aS->Option D
 | .agg cs=>match hC (cs.map (nn objs))with|some aO=>some (.agg aO)|none=>none
 | .fn f first cap=>match hC (first.map (nn objs)),hC (cap.map (nn objs))with|some as,some ki=>some (.fn f as ki)|_,_=>none
 |x=>nn objs x
def toD(objs:cF):aS->Option D
 | .a1 cs=>match hC (cs.map (ot objs))with|some aO=>some (.a1 aO)|none=>none
 |x=>ot objs x
noncomputable def Den.all(m:Mem)(ρ:dg)(objs:cF)(w:World):Mem:=λb=>match m b with|some o=>some o|none=>open Classical in if∃k o,objs k=some o/\o.owns=true/\blockOf (ρ k)=some b then w.heap[b]? else none
section
variable{P:Program}{T:ch}{G:dr}{m:Mem}{fr:fL}{ρ:dg}{σ:aI}{a:Act}{w:World}
def Den.Bg(m:Mem)(ρ:dg)(objs:cF)(w:World):m.le (Den.all m ρ objs w):=by intro b o h;simp[Den.all,h]
def Den.Kj(h:Den m fr ρ σ a w){k:Key}{o:cV}{b:Nat}(ak:σ.objs k=some o)(aG:o.owns=true)(aj:blockOf (ρ k)=some b):Den.all m ρ σ.objs w b=w.heap[b]?:=by have:=(h.own k o b ak aG aj).1;simp only[Den.all,this];rw[xad ⟨k,o,ak,aG,aj⟩]
def Den.ahz(h:Den m fr ρ σ a w):∀b o,Den.all m ρ σ.objs w b=some o->w.heap[b]?=some o:=by
 intro b o aj;unfold Den.all at aj;cases hm:m b with
 |some x=>simp only[hm]at aj;cases aj;exact h.mem b _ hm
 |none=>
  simp only[hm]at aj;split at aj;.exact aj
  cases aj
def Den.W4(h:Den m fr ρ σ a w):sL (Den.all m ρ σ.objs w) fr w:=by
 refine⟨h.ahz,h.frame,?_⟩;intro b aj;unfold Den.all at aj;cases hm:m b with
 |some x=>exact h.apart b (by rw[hm];simp)
 |none=>
  simp only[hm]at aj;split at aj;.rename_i ao;obtain⟨k,o,ab,af,aw⟩:=ao;exact(h.own k o b ab af aw).2
  exact absurd rfl aj
def W5(h:Den m fr ρ σ a w){x:aS}{v:Value}{d:D}(ag:b7 m ρ σ.used x v)(aA:q8 σ.objs x=some d):dz (Den.all m ρ σ.objs w) d v:=by
 have hle:=Den.Bg m ρ σ.objs w;have row:∀key k es v,σ.objs key=some (.row k es)->v=ρ key->dz (Den.all m ρ σ.objs w) (.ax k es) v:=by
  rintro key k es v ak rfl;rcases h.objs _ _ ak with⟨aJ,rfl⟩|⟨b,o,cap,vs,dO,aJ,aZ,bN,cO,eg,fG⟩;.rw[aJ];exact .ni _ _ _
  have aj:=h.Kj ak rfl (by rw[aJ];rfl);obtain⟨f1,f2⟩:=WD (m:=m) eg fG;rw[aJ];refine .ax k es b o cap vs dO (0,0) (by rw[aj];exact aZ) eg bN (λi j=>(vs[o+i*k+j]?).getD undef) ?_ ?_;.intro i e j c ah aN;obtain⟨x,aV,a2⟩:=fG i e j c ah aN;rw[aV];rfl
  intro i e j c ah aN;obtain⟨x,aV,a2⟩:=fG i e j c ah aN;simp only[aV,xbe];exact a2.mono hle
 unfold q8 at aA;split at aA;.cases aA;exact ag.om.mono hle
 .rename_i key;split at aA
  case h_2=>cases aA
  rename_i k es ak;cases aA;cases ag;exact row key k es _ ak rfl
 .rename_i key k i len;split at aA
  case h_2=>cases aA
  rename_i bs es ak;split at aA
  case isFalse=>cases aA
  rename_i ao;obtain⟨rfl,Pr⟩:=ao;cases aA;cases ag with|kA _ _ _ hu av=>rw[xbW];exact .ni _ _ _|sub _ _ _ _ b o L cap iE hu av x3 aF=>
  have b5:((es.drop i).take len).length=len:=by simp;omega
  rcases Nat.eq_zero_or_pos len with au|jC;.subst au;rw[xbW];exact .ni _ _ _
  have nL:=row key k es _ ak rfl;rw[av]at nL;cases nL with
  |ni=>simp at Pr;omega
  |ax _ _ _ _ _ vs dO eH hm dk ao xs ab af=>
   have:=dz.ax (m:=Den.all m ρ σ.objs w) k ((es.drop i).take len) b (o+i*k) (cap-i) vs dO eH hm (λe he=>dk e (xbr (xbk he))) (by omega) (λp j=>xs (i+p) j) (λp el j c e0 ao=>by
     rw[xaP]at e0;split at e0
     case isFalse=>cases e0
     rw[xaX]at e0;have:=ab (i+p) el j c e0 ao;rw[<-this]
     congr 1
     rw[xaR];omega)
    (λp el j c e0 ao=>by
     rw[xaP]at e0;split at e0
     case isFalse=>cases e0
     rw[xaX]at e0;exact af (i+p) el j c e0 ao)
   rw[b5]at this;rw[aF.1 (by omega)];exact this
 .rename_i key;split at aA
  case h_2=>cases aA
  rename_i es ak;cases aA;cases ag;obtain⟨r,du,clock,aJ,aZ,bN,cO,eg⟩:=h.objs _ _ ak;have aj:=h.Kj ak rfl (by rw[aJ];rfl);rw[aJ];exact .mp es r du clock (by rw[aj];exact aZ) bN cO (λi e x he ag=>(eg i e x he ag).mono hle)
 cases aA
def Kk(h:Den m fr ρ σ a w){x:aS}{v:Value}{d:D}(ag:b7 m ρ σ.used x v)(aA:nn σ.objs x=some d):dz (Den.all m ρ σ.objs w) d v:=by
 have hle:=Den.Bg m ρ σ.objs w;unfold nn at aA;split at aA
 .rename_i key off;split at aA
  case h_2=>cases aA
  rename_i cells ak;split at aA
  case h_2=>cases aA
  rename_i cs hL;cases aA;obtain⟨b,vs,dO,aJ,aZ,bN,cO⟩:=h.objs _ _ ak;have aj:=h.Kj ak rfl (by rw[aJ];rfl);obtain⟨j0,kF⟩:=q9 hL;cases ag with|ptr _ _ b' hu av=>
  rw[aJ]at av;cases av;have key:∀(j:Nat)(c:D),cs[j]?=some c->∃u,vs[j]?=some u/\dz (Den.all m ρ σ.objs w) c u:=by
   intro j c ao;have ab:=kF j c ao;simp only[xaj,xah]at ab;obtain⟨y,aP,iY⟩:=ab;have aN:j<vs.size:=by rw[bN];exact(xae.1 aP).1
   exact⟨_,xap aN,W5 h (cO j y _ aP (xap aN)) iY⟩
  have:=dz.ref (m:=Den.all m ρ σ.objs w) cs off b 0 vs dO (0,0) (by rw[aj];exact aZ) (λj=>(vs[j]?).getD undef) (λj c ao=>by obtain⟨u,ab,_⟩:=key j c ao;simp[ab]) (λj c ao=>by obtain⟨u,ab,af⟩:=key j c ao;simp[ab];exact af);simpa using this
 .cases aA;cases ag with|ew _ _ b o vs T eH hm xs ab af=>exact .ref _ _ b o vs T eH (hle _ _ hm) xs ab (λj c ao=>(af j c ao).mono hle)
 exact W5 h ag aA
def W6(h:Den m fr ρ σ a w){x:aS}{v:Value}{d:D}(ag:b7 m ρ σ.used x v)(aA:ot σ.objs x=some d):dz (Den.all m ρ σ.objs w) d v:=by
 unfold ot at aA;split at aA
 .rename_i cs;split at aA
  case h_2=>cases aA
  rename_i aO e1;cases aA;obtain⟨j0,kF⟩:=q9 e1;cases ag with|agg _ vs ar bI=>
  refine .agg _ _ (by rw[ar,j0];simp) ?_;intro i c u ao hu;have ab:=kF i c ao;simp only[xaj,xah]at ab;obtain⟨y,aP,iY⟩:=ab;exact Kk h (bI i y u aP hu) iY
 .rename_i f first cap
  split at aA
  case h_2=>cases aA
  rename_i as ki has Ey;cases aA;obtain⟨j0,kF⟩:=q9 has;obtain⟨cB,dx⟩:=q9 Ey;cases ag with|fn _ _ _ vs ws ar dv bI yb=>
  refine .fn _ _ _ vs ws (by rw[ar,j0];simp) (by rw[dv,cB];simp) ?_ ?_;.intro i c u ao hu;have ab:=kF i c ao;simp only[xaj,xah]at ab;obtain⟨y,aP,iY⟩:=ab;exact Kk h (bI i y u aP hu) iY
  intro i c u ao hu;have ab:=dx i c ao;simp only[xaj,xah]at ab;obtain⟨y,aP,iY⟩:=ab;exact Kk h (yb i y u aP hu) iY
 exact Kk h ag aA
def W7(h:Den m fr ρ σ a w){x:aS}{v:Value}{d:D}(ag:b7 m ρ σ.used x v)(aA:toD σ.objs x=some d):dz (Den.all m ρ σ.objs w) d v:=by
 unfold toD at aA;split at aA
 .rename_i cs;split at aA
  case h_2=>cases aA
  rename_i aO e1;cases aA;obtain⟨j0,kF⟩:=q9 e1;cases ag with|a1 _ vs ar bI=>
  refine .a1 _ _ (by rw[ar,j0];simp) ?_;intro i c u ao hu;have ab:=kF i c ao;simp only[xaj,xah]at ab;obtain⟨y,aP,iY⟩:=ab;exact W6 h (bI i y u aP hu) iY
 exact W6 h ag aA
def ahA(h:Den m fr ρ σ a w){xs:List aS}{vs:List Value}{aO:List D}(ar:vs.length=xs.length)(ag:∀(i:Nat)(x:aS)(v:Value),xs[i]?=some x->vs[i]?=some v->b7 m ρ σ.used x v)(aA:hC (xs.map (toD σ.objs))=some aO):ya (Den.all m ρ σ.objs w) aO vs:=by obtain⟨j0,kF⟩:=q9 aA;refine⟨by rw[ar,j0];simp,?_⟩;intro i d v ab af;have aw:=kF i d ab;simp only[xaj,xah]at aw;obtain⟨y,aP,iY⟩:=aw;exact W7 h (ag i y v aP af) iY
def Den.ahB(h:Den m fr ρ σ a w){w':World}{cI:Mem}(hle:(Den.all m ρ σ.objs w).le cI)(dY:sL cI fr w'):Den m fr ρ σ a w':=by refine⟨λb o aj=>dY.mem b o (hle b o (Den.Bg m ρ σ.objs w b o aj)),dY.frame,h.apart,h.one,h.aK,?_,h.own,h.sep⟩;intro k o ak;refine(h.objs k o ak).mono (Mem.le_refl m) (λ_ hu=>⟨hu,rfl⟩) (λb aG aj=>?_);have ab:=h.Kj ak aG aj;have af:b<w.heap.size:=(h.objs k o ak).uk aG aj;have aw:=xap af;rw[aw]at ab⊢;exact dY.mem b _ (hle b _ ab)
noncomputable def Den.hold(fr:fL)(ρ:dg)(objs:cF)(w:World):fL:=⟨Den.all fr.at_ ρ objs w,fr.os,fr.out,fr.low⟩
def Den.W8(h:Den m fr ρ σ a w){k:Key}{o:cV}{b:Nat}(ak:σ.objs k=some o)(aG:o.owns=true)(aj:blockOf (ρ k)=some b):Den.hold fr ρ σ.objs w b=w.heap[b]?:=by have:=(h.own k o b ak aG aj).2;simp only[Den.hold,Den.all,this];rw[xad ⟨k,o,ak,aG,aj⟩]
def Den.W9(h:Den m fr ρ σ a w):sL m (Den.hold fr ρ σ.objs w) w:=by
 refine⟨h.mem,⟨?_,⟨h.frame.quiet.os,h.frame.quiet.out,h.frame.quiet.low,h.frame.quiet.sy⟩⟩,?_⟩
 .intro b o aj;unfold Den.hold Den.all at aj;cases hm:fr b with
  |some x=>simp only[hm]at aj;cases aj;exact h.frame.p9 b _ hm
  |none=>
   simp only[hm]at aj;split at aj;.exact aj
   cases aj
 intro b aj;show Den.all fr.at_ ρ σ.objs w b=none;unfold Den.all;rw[h.apart b aj];simp only;rw[xaa];rintro⟨k,o,ab,af,aw⟩;exact aj (h.own k o b ab af aw).1
def Den.kept(h:Den m fr ρ σ a w){w':World}{cI:Mem}(hle:m.le cI)(dY:sL cI (Den.hold fr ρ σ.objs w) w'):Den cI fr ρ σ a w':=by
 have qf:∀b o,fr b=some o->Den.hold fr ρ σ.objs w b=some o:=Den.Bg fr.at_ ρ σ.objs w;have jD:∀k o b,σ.objs k=some o->o.owns=true->blockOf (ρ k)=some b->cI b=none:=by intro k o b ak aG aj;cases hm:cI b with|none=>rfl|some x=>have ab:=dY.apart b (by rw[hm];simp);rw[h.W8 ak aG aj,xap ((h.objs k o ak).uk aG aj)]at ab;cases ab
 refine⟨dY.mem,⟨λb o aj=>dY.frame.p9 b o (qf b o aj),⟨dY.frame.quiet.os,dY.frame.quiet.out,dY.frame.quiet.low,dY.frame.quiet.sy⟩⟩,?_,h.one,λt=>(h.aK t).mono hle (λ_ hu=>⟨hu,rfl⟩),?_,λk o b ab af aw=>⟨jD k o b ab af aw,(h.own k o b ab af aw).2⟩,h.sep⟩;.intro b aj;have:=dY.apart b aj;cases bd:fr b with|none=>rfl|some x=>rw[qf b x bd]at this;cases this
 intro k o ak;refine(h.objs k o ak).mono hle (λ_ hu=>⟨hu,rfl⟩) (λb aG aj=>?_);have ab:=h.W8 ak aG aj;have aw:=xap ((h.objs k o ak).uk aG aj);rw[aw]at ab⊢;exact dY.frame.p9 b _ ab
end
def e2(o:Option cV):Prop:=(∃cs,o=some (.box cs))\/(∃k es,o=some (.row k es))\/∃es,o=some (.map es)
theorem uw{cs:List aS}:e2 (some (.box cs)):= .inl ⟨_,rfl⟩
theorem sM{k:Nat}{es:List (List D)}:e2 (some (.row k es)):= .inr (.inl ⟨_,_,rfl⟩)
def ux:¬e2 none:=by rintro(⟨_,h⟩|⟨_,_,h⟩|⟨_,h⟩)<;>cases h
def Ez:¬e2 (some .dead):=by rintro(⟨_,h⟩|⟨_,_,h⟩|⟨_,h⟩)<;>cases h
theorem we{es:List (Value×D)}:e2 (some (.map es)):= .inr (.inr ⟨_,rfl⟩)
def Bh{o:Option cV}(h:e2 o):∃x,o=some x:=by rcases h with⟨_,h⟩|⟨_,_,h⟩|⟨_,h⟩<;>exact⟨_,h⟩
def k0(σ:aI)(ρ:dg)(aW:aI)(cX:dg):Prop:=∀k,10000<=k->e2 (σ.objs k)->e2 (aW.objs k)/\cX k=ρ k
theorem k0.refl(σ:aI)(ρ:dg):k0 σ ρ σ ρ:=λ_ _ h=>⟨h,rfl⟩
def k0.trans{gD gj Xa:aI}{np lq Xb:dg}(h:k0 gD np gj lq)(bD:k0 gj lq Xa Xb):k0 gD np Xa Xb:=λk ak aj=>let⟨a,b⟩:=h k ak aj;let⟨c,d⟩:=bD k ak a;⟨c,d.trans b⟩
@[simp] theorem aI.wg (σ:aI) (dst:Option Tmp) (r:aS):(σ.put dst r).objs=σ.objs:=by cases dst<;>rfl
def ja(N:Nat)(m:Mem)(fr:fL)(ρ:dg)(σ:aI)(K:aI->Prop)(cD:Act)(w':World):Prop:= ∃aW cI cX,K aW/\m.le cI/\Den cI fr cX aW cD w'/\N<=cD.tmps.size/\cD.defers=[]/\k0 σ ρ aW cX
def Den.put{m:Mem}{fr:fL}{ρ:dg}{σ:aI}{a:Act}{w:World}(h:Den m fr ρ σ a w){dst:Option Tmp}{r:aS}{v:Value}(av:b7 m ρ σ.used r v)(aA:∀d,dst=some d->d<a.tmps.size):Den m fr ρ (σ.put dst r) (a.put dst v) w:=by
 cases dst with
 |none=>exact h
 |some d=>
  refine⟨h.mem,h.frame,h.apart,h.one,?_,h.objs,h.own,h.sep⟩;intro t;have cu:=aA d rfl;by_cases aM:t=d
  .subst aM;simp only[aI.put,fb,Act.put];have:(a.tmps.setIfInBounds t v).getD t undef=v:=by simp[Array.getD,cu]
   rw[this];exact av
  simp only[aI.put,cZ _ _ aM,Act.put];have:(a.tmps.setIfInBounds d v).getD t undef=a.tmps.getD t undef:=by rw[xbu,xbu,xcf,xaa (Ne.symm aM)]
  rw[this];exact h.aK t
def PL{objs:cF}{k:Key}{o:cV}(h:e2 (objs k)->e2 (some o)):∀j,e2 (objs j)->e2 (cv objs k (some o) j):=by
 intro j aN;by_cases gC:j=k;.subst gC;rw[fb];exact h aN
 rw[cZ _ _ gC];exact aN
def ahC{T:ch}{ev:Operand->aS}{objs:cF}{d:Key}{o:Op}{r:aS}{cC:List (Key×cV)}(h:et T ev objs d o=some (r,cC)):∀j,10000<=j->e2 (objs j)->e2 (dI objs cC j):=by
 have new:∀{o:cV},objs d=none->∀j,10000<=j->e2 (objs j)->e2 (dI objs [(d,o)] j):=by intro o aA j _;exact PL (λh=>by rw[aA]at h;exact absurd h ux) j
 have same:∀{k:Key}{dL o:cV},objs k=some dL->(e2 (some dL)->e2 (some o))->∀j,10000<=j->e2 (objs j)->e2 (dI objs [(k,o)] j):=by intro k dL o ak cR j _;exact PL (λh=>by rw[ak]at h;exact cR h) j
 cases o<;>simp only[et,reduceCtorEq]at h
 case alloc=>split at h<;>cases h;exact new (by assumption)
 case box=>split at h<;>cases h;exact new (by assumption)
 case buildSlice=>
  split at h
  case h_2=>cases h
  split at h
  case h_2=>cases h
  split at h
  case h_2=>cases h
  split at h<;>cases h;exact new (by assumption)
 case makeSlice=>
  split at h
  case h_2=>cases h
  split at h
  case h_2=>cases h
  split at h
  case h_2=>cases h
  split at h<;>cases h;exact new (by assumption)
 case makeMap=>split at h<;>cases h;exact new (by assumption)
 case store=>
  split at h
  case h_2=>cases h
  split at h
  case isFalse=>cases h
  split at h
  .split at h
   case h_2=>cases h
   split at h<;>cases h;exact λj _=>PL (λ_=>uw) j
  .split at h
   case h_2=>cases h
   split at h
   case isFalse=>cases h
   split at h<;>cases h;exact same (by assumption) (λ_=>sM)
  cases h
 case mapUpdate=>
  split at h
  case h_2=>cases h
  split at h
  case h_2=>cases h
  split at h
  case isFalse=>cases h
  split at h
  case h_2=>cases h
  split at h
  case h_2=>cases h
  split at h<;>cases h;exact same (by assumption) (λ_=>we)
 case insert=>
  split at h
  case h_2=>cases h
  split at h
  case h_2=>cases h
  split at h
  case isFalse=>cases h
  split at h
  case h_2=>cases h
  split at h
  case h_2=>cases h
  split at h<;>cases h;exact same (by assumption) (λ_=>we)
 case call=>
  split at h
  .split at h
   case h_2=>cases h
   split at h
   case h_2=>cases h
   split at h
   case h_2=>cases h
   split at h
   case h_2=>cases h
   split at h
   case isFalse=>cases h
   split at h;.split at h<;>cases h;exact new (by assumption)
   .split at h
    case h_2=>cases h
    split at h<;>cases h;rename_i aA _ _ _ _ _ _ _ _ _ _ _ _ ak _ _;rename_i PM;intro j cN aN;have ahD:j≠d:=by rintro rfl;simp_all [ux]
    simp only[dI];rw[cZ _ _ ahD,cZ _ _ (by rintro rfl;exact absurd PM.2.2.2 (Nat.not_lt.2 cN))];exact aN
   cases h
  .split at h
   case h_2=>cases h
   split at h
   case h_2=>cases h
   split at h
   case h_2=>cases h
   split at h
   case h_2=>cases h
   split at h
   case isFalse=>cases h
   split at h
   .split at h
    case h_2=>cases h
    split at h<;>cases h;exact same (by assumption) (λ_=>sM)
   .split at h
    case h_2=>cases h
    split at h<;>cases h;exact same (by assumption) (λ_=>sM)
   cases h
  .split at h
   case h_2=>cases h
   split at h
   case h_2=>cases h
   split at h
   case h_2=>cases h
   split at h
   case h_2=>cases h
   split at h
   case h_2=>cases h
   split at h<;>cases h;exact same (by assumption) (λ_=>sM)
  cases h
def Xc{T:ch}{ev:Operand->aS}{objs:cF}{d:Key}{o:Op}{k:Key}{off:Nat}{cC:List (Key×cV)}(h:et T ev objs d o=some (.ptr k off,cC)):objs d=none:=by
 cases o<;>simp only[et,reduceCtorEq]at h
 case alloc=>split at h<;>cases h;assumption
 case box=>split at h<;>cases h;assumption
 all_goals (repeat' split at h)<;>cases h
def Xd{T:ch}{ev:Operand->aS}{objs:cF}{d:Key}{o:Op}{cC:List (Key×cV)}(h:et T ev objs d o=some (.row d,cC)):objs d=none:=by
 cases o<;>simp only[et,reduceCtorEq]at h
 all_goals (repeat' split at h)<;>cases h<;>assumption
def ahE{T:ch}{ev:Operand->aS}{objs:cF}{d:Key}{o:Op}{r:aS}{cC:List (Key×cV)}(h:hg T ev objs d o=some (r,cC)):∀j,10000<=j->e2 (objs j)->e2 (dI objs cC j):=by
 obtain⟨⟨jH,sK⟩,au,aj⟩:=wb h;have ab:=ahC au;intro j cN aN;have aL:∀{o:cV},objs d=none->j≠d:=by rintro o aA rfl;rw[aA]at aN;exact ux aN
 rcases x9 (T.born d) d jH sK with e|⟨n,es,rfl,rfl,e⟩|⟨dn,n,es,rfl,rfl,e⟩|⟨off,cs,aO,rfl,rfl,e1,e⟩;.rw[aj]at e;cases e;exact ab j cN aN
 .rw[aj]at e;cases e;have aA:=aL (o:= .dead) (Xd au);have:=ab j cN aN;simp only[dI,cZ _ _ aA]at this⊢;exact this
 .rw[aj]at e;cases e;have aA:=aL (o:= .dead) (Xd au);have:=ab j cN aN;simp only[dI,cZ _ _ aA]at this⊢;exact this
 rw[aj]at e;cases e;have aA:=aL (o:= .dead) (Xc au);simp only[dI,cZ _ _ aA];exact aN
section
variable{P:Program}{T:ch}{G:dr}{m:Mem}{fr:fL}{ρ:dg}{σ:aI}{a:Act}{w:World}{N:Nat}
def ahF(bf:dN P T)(c6:kB G m)(h:Den m fr ρ σ a w)(cc:N<=a.tmps.size)(hD:a.defers=[]){o:Oper}(g2:∀d,o.dst=some d->d<N){aW:aI}(aH:g1 T G σ o=some aW){K:aI->Prop}(fj:K aW){Q:Exit->Act->World->Prop}:o.wp P a w (ja N m fr ρ σ K) Q:=by
 have dA:=Ee (a:=a) c6 h.aK;have iF:∀d,o.dst=some d->d<a.tmps.size:=λd aA=>Nat.lt_of_lt_of_le (g2 d aA) cc;have sN:∀v,N<=(a.put o.dst v).tmps.size:=by intro v;cases o.dst<;>simpa[Act.put]using cc
 have mm:∀v,(a.put o.dst v).defers=[]:=by intro v;cases o.dst<;>exact hD
 unfold Oper.wp;unfold g1 at aH;split at aH;.rename_i r av;cases aH;obtain⟨v,ab,af⟩:=agM (P:=P) (w:=w) (o:=o) bf h.one dA av;rw[ab];exact⟨_,m,ρ,fj,Mem.le_refl m,h.put af iF,sN v,mm v,λk ak aj=>⟨by simpa using aj,rfl⟩⟩
 split at aH;.rename_i r av;cases aH;obtain⟨v,ab,af⟩:=agT (P:=P) (w:=w) (o:=o) bf h.mem h.objs dA av;rw[ab];exact⟨_,m,ρ,fj,Mem.le_refl m,h.put af iF,sN v,mm v,λk ak aj=>⟨by simpa using aj,rfl⟩⟩
 split at aH
 case h_2=>cases aH
 rename_i r cC av;cases aH;obtain⟨nx,v,w',cI,cX,ab,af,hm,aw,a5,ca⟩:=ahx (P:=P) (o:=o) bf h dA av;rw[ab];have fin:ja N m fr ρ σ K (a.put o.dst v) w':=⟨_,cI,cX,fj,hm,aw.put a5 iF,sN v,mm v,λk ak aj=>⟨by rw[aI.wg];exact ahE av k ak aj,by obtain⟨c,ao⟩:=Bh aj;exact(ca k ⟨_,ao⟩).2⟩⟩;rcases af with rfl|⟨rfl,rfl⟩
 .exact fin
 exact fin
def wh:aS->Option (FuncId×List aS×List aS)
 | .d (.val (.func (.func f) first cap))=>if first.size=0/\cap.size=0 then some (f,[],[])else none
 | .fn (.func f) first cap=>some (f,first,cap)
 | .d (.fn (.func f) first cap)=>some (f,first.map .d,cap.map .d)
 |_=>none
def Bi:aS->Bool
 | .d _=>true| .ew _ _=>true|_=>false
def sO:aS->Bool
 | .agg cs=>cs.all Bi| .fn _ as ki=>as.all Bi&&ki.all Bi|x=>Bi x
def PN{m:Mem}{ρ:dg}{U:Key->Prop}{objs:cF}{x:aS}{d:D}{v:Value}(h:Bi x=true)(aA:nn objs x=some d)(a6:b7 m ρ U x v):dz m d v:=by
 cases x<;>first|cases h|skip
 .simp only[nn,q8]at aA;cases aA;exact a6.om
 simp only[nn]at aA;cases aA;cases a6 with|ew _ _ b o vs T eH hm xs ab af=>exact .ref _ _ b o vs T eH hm xs ab af
def PO{m:Mem}{ρ:dg}{U:Key->Prop}{objs:cF}{cs:List aS}{aO:List D}{vs:Array Value}(h:cs.all Bi=true)(aA:hC (cs.map (nn objs))=some aO)(ar:vs.size=cs.length) (a6:∀(i:Nat)(c:aS)(v:Value),cs[i]?=some c->vs[i]?=some v->b7 m ρ U c v):vs.size=aO.length/\∀(i:Nat)(c:D)(v:Value),aO[i]?=some c->vs[i]?=some v->dz m c v:=by obtain⟨ab,af⟩:=q9 aA;refine⟨by rw[ab,ar];simp,λi c v ao ah=>?_⟩;have aw:=af i c ao;simp only[xaj,xah]at aw;obtain⟨y,aP,wi⟩:=aw;exact PN (xaz.1 h y (xac aP)) wi (a6 i y v aP ah)
def PQ{m:Mem}{ρ:dg}{U:Key->Prop}{objs:cF}{x:aS}{d:D}{v:Value}(h:sO x=true)(aA:toD objs x=some d)(a6:b7 m ρ U x v):dz m d v:=by
 cases x
 case agg cs=>
  simp only[toD,ot]at aA;split at aA
  case h_2=>cases aA
  rename_i aO e1;cases aA;cases a6 with|agg _ vs ar bI=>
  obtain⟨aV,a2⟩:=PO h e1 ar bI;exact .agg _ _ aV a2
 case fn f as ki=>
  simp only[sO,xal]at h;simp only[toD,ot]at aA;split at aA
  case h_2=>cases aA
  rename_i aO Bj e1 ahG;cases aA;cases a6 with|fn _ _ _ vs ws ar dv bI yb=>
  obtain⟨aV,a2⟩:=PO h.1 e1 ar bI;obtain⟨bb,cS⟩:=PO h.2 ahG dv yb;exact .fn _ _ _ _ _ aV bb a2 cS
 case d y=>exact PN (x:= .d y) rfl (by simpa[toD,ot]using aA) a6
 case ew cs off=>exact PN (x:= .ew cs off) rfl (by simpa[toD,ot]using aA) a6
 all_goals cases h
def Xe(P:Program)(G:dr)(σ:aI)(dst:Option Tmp)(f:FuncId)(uy:List aS)(K:aI->Prop):Prop:= ∃nq aO R,hC (uy.map (toD σ.objs))=some nq/\q7 nq aO/\ez P G f aO R/\(∃jH,R=(·=jH))/\((∀r,R r->r.flat=true)\/uy.all sO=true)/\∀r,R r->K (σ.put dst (.d r))
def jI(P:Program)(G:dr)(o:Oper)(σ:aI)(K:aI->Prop):Prop:=match o.op with
 | .call ⟨.value x,args,_⟩=>match wh (cj G σ.aK x)with|some (f,pre,post)=>Xe P G σ o.dst f (pre++args.toList.map (cj G σ.aK)++post) K|none=>False
 |_=>False
def dc(P:Program)(T:ch)(G:dr)(o:Oper)(K:aI->Prop)(σ:aI):Prop:=match g1 T G σ o with|some aW=>K aW|none=>jI P G o σ K
def eA(P:Program)(T:ch)(G:dr)(all:Array Oper)(o:Oper)(K:aI->Prop)(σ:aI):Prop:=match o.guard with
 |none=>dc P T G o K σ
 |some (j,want)=>match(all[j]?).bind (·.dst)with
  |some d=>match σ.aK d with
   | .d (.val (.bool b))=>if b=want then dc P T G o K σ else K (σ.put o.dst (.d (.val (.tuple #[]))))
   | .d (.val (.tuple _))=>K (σ.put o.dst (.d (.val (.tuple #[]))))|_=>False
  |none=>False
def fT(P:Program)(T:ch)(G:dr)(all:Array Oper):List Oper->(aI->Prop)->aI->Prop
 |[],K,σ=>K σ|o::r,K,σ=>eA P T G all o (fT P T G all r K) σ
def Xf{va:Operand->Value}{x:Operand}{args:Array Operand}{dJ:Array TypeId}{ty:TypeId}{f:FuncId}{first cap:Array Value}(ag:va x= .func (.func f) first cap)(bd:wc P f):(do let d<-resolve va {callee:= .value x,args:=args,argTypes:=dJ} ty;invoke d.target d.args:Sem Next).run P w= .ok (.enter f (first++args.map va++cap)) w:=by obtain⟨fn,ab,af,aw⟩:=bd;simp only[xag,resolve,ag,Deferred.ofValue,xau,xaf,invoke,callFunc,program,Sem.run,ab,af,aw,xav,xaI]
def ahH(c6:kB G m)(h:Den m fr ρ σ a w)(cc:N<=a.tmps.size)(hD:a.defers=[]){o:Oper}(g2:∀d,o.dst=some d->d<N){K:aI->Prop}(ao:jI P G o σ K){Q:Exit->Act->World->Prop}:o.wp P a w (ja N m fr ρ σ K) Q:=by
 have dA:=Ee (a:=a) c6 h.aK;have iF:∀d,o.dst=some d->d<a.tmps.size:=λd aA=>Nat.lt_of_lt_of_le (g2 d aA) cc;have sN:∀v,N<=(a.put o.dst v).tmps.size:=by intro v;cases o.dst<;>simpa[Act.put]using cc
 have mm:∀v,(a.put o.dst v).defers=[]:=by intro v;cases o.dst<;>exact hD
 unfold jI at ao;split at ao
 case h_2=>cases ao
 rename_i x args dJ eI;split at ao
 case h_2=>cases ao
 rename_i f pre post gW;obtain⟨nq,aO,R,ab,af,aw,a5,ca,cP⟩:=ao;have ag:=dA x;have PR:∃first cap,a.eval x= .func (.func f) first cap/\first.size=pre.length/\cap.size=post.length/\(∀(i:Nat)(c:aS)(v:Value),pre[i]?=some c->first[i]?=some v->b7 m ρ σ.used c v)/\(∀(i:Nat)(c:aS)(v:Value),post[i]?=some c->cap[i]?=some v->b7 m ρ σ.used c v):=by
  unfold wh at gW;split at gW
  .rename_i kG first cap he
   split at gW
   case isFalse=>cases gW
   rename_i au;cases gW;rw[he]at ag;exact⟨first,cap,ag.hX,by simpa using au.1,by simpa using au.2,by intro i c v ao;simp at ao,by intro i c v ao;simp at ao⟩
  .rename_i kG first cap he
   cases gW;rw[he]at ag;generalize a.eval x=u at ag;cases ag with|fn _ _ _ vs ws ar dv g lr=>exact⟨vs,ws,rfl,ar,dv,g,lr⟩
  .rename_i kG first cap he
   cases gW;rw[he]at ag;have ag:=ag.om;generalize a.eval x=u at ag;cases ag with|fn _ _ _ vs ws ar dv g lr=>
   refine⟨vs,ws,rfl,by simpa using ar,by simpa using dv,?_,?_⟩;.intro i c v ao a6;simp only[xaj,xah]at ao;obtain⟨y,aP,rfl⟩:=ao;exact .d _ _ (g i y v aP a6)
   intro i c v ao a6;simp only[xaj,xah]at ao;obtain⟨y,aP,rfl⟩:=ao;exact .d _ _ (lr i y v aP a6)
  .cases gW
 obtain⟨first,cap,vX,nI,qb,aV,a2⟩:=PR;have gB:∀(i:Nat)(c:aS)(v:Value),(pre++args.toList.map (cj G σ.aK)++post)[i]?=some c->(first++args.map a.eval++cap).toList[i]?=some v->b7 m ρ σ.used c v:=by
  intro i c v ao a6;simp only[Array.toList_append,Array.toList_map]at a6;have aJ:first.toList.length=pre.length:=by simpa using nI
  by_cases ab:i<pre.length;.rw[xaO,xaL ab]at ao;rw[xaO,xaL (by omega)]at a6;exact aV i c v ao (by simpa using a6)
  .by_cases af:i<pre.length+args.size;.rw[xaL (by simp;omega),xaJ (by omega)]at ao;rw[xaL (by simp;omega),xaJ (by omega),aJ]at a6;simp only[xaj,xah]at ao a6;obtain⟨p,aU,rfl⟩:=ao;obtain⟨q,bj,rfl⟩:=a6;rw[aU]at bj;cases bj;exact dA _
   rw[xaJ (by simp;omega)]at ao;rw[xaJ (by simp;omega)]at a6;refine a2 _ c v ao ?_;rw[<-a6];simp only[xaK,xaS,xce,nI];simp
 have b5:(first++args.map a.eval++cap).toList.length=(pre++args.toList.map (cj G σ.aK)++post).length:=by simp[nI,qb]
 have PS:(execOp a.eval o).run P w= .ok (.enter f (first++args.map a.eval++cap)) w:=by unfold execOp;rw[eI];exact Xf vX aw.fn
 unfold Oper.wp;rw[PS];rcases ca with ca|ca
 ·
  have c2:=q7.ok af (ahA h b5 gB ab);have sP:=aw.run _ fr w _ (c6.mono (Den.Bg m ρ σ.objs w)) h.W4 c2;simp only[Array.toArray_toList]at sP;refine sP.mono λe w' he=>?_;obtain⟨v,cI,r,rfl,bA,bB,cz,ey⟩:=he;have bO:=h.ahB bB cz;exact⟨_,m,ρ,cP r bA,Mem.le_refl m,bO.put (.d _ _ (D.Ex (ca r bA) ey)) iF,sN v,mm v,λk ak aj=>⟨by simpa using aj,rfl⟩⟩
 have PT:ya m nq (first++args.map a.eval++cap).toList:=by obtain⟨aV,a2⟩:=q9 ab;refine⟨by rw[b5,aV];simp,?_⟩;intro i d v aA a6;have bb:=a2 i d aA;rw[xaj,xah]at bb;obtain⟨y,aP,uz⟩:=bb;exact PQ (xaz.1 ca y (xac aP)) uz (gB i y v aP a6)
 have sP:=aw.run m _ w _ c6 h.W9 (q7.ok af PT);simp only[Array.toArray_toList]at sP;refine sP.mono λe w' he=>?_;obtain⟨v,cI,r,rfl,bA,bB,cz,ey⟩:=he;have bO:=h.kept bB cz;exact⟨_,cI,ρ,cP r bA,bB,bO.put (.d _ _ ey) iF,sN v,mm v,λk ak aj=>⟨by simpa using aj,rfl⟩⟩
def PU(bf:dN P T)(c6:kB G m)(h:Den m fr ρ σ a w)(cc:N<=a.tmps.size)(hD:a.defers=[]){o:Oper}(g2:∀d,o.dst=some d->d<N){K:aI->Prop}(ao:dc P T G o K σ){Q:Exit->Act->World->Prop}:o.wp P a w (ja N m fr ρ σ K) Q:=by
 unfold dc at ao;split at ao;.exact ahF bf c6 h cc hD g2 (by assumption) ao
 exact ahH c6 h cc hD g2 ao
def PV(bf:dN P T)(c6:kB G m)(h:Den m fr ρ σ a w)(cc:N<=a.tmps.size)(hD:a.defers=[]){all:Array Oper}{i:Nat}{o:Oper}(ah:all[i]?=some o)(g2:∀d,o.dst=some d->d<N){K:aI->Prop}(ao:eA P T G all o K σ) {Q:Exit->Act->World->Prop}:wpOp P all Q i (ja N m fr ρ σ K) a w:=by
 have iF:∀d,o.dst=some d->d<a.tmps.size:=λd aA=>Nat.lt_of_lt_of_le (g2 d aA) cc;unfold wpOp;simp only[ah];unfold eA at ao;split at ao
 .rename_i b8;have:Region.wanted o (yielded all a.tmps)=true:=by simp[Region.wanted,b8]
  rw[xad this];exact .inl (PU bf c6 h cc hD g2 ao)
 rename_i j want b8;split at ao
 case h_2=>cases ao
 rename_i d aA;have jb:∀v,a.tmps.getD d undef=v->yielded all a.tmps j=(match v with| .bool b=>some b|_=>none):=by intro v a6;unfold yielded;rw[aA];simp only[Option.bind_some];rw[xbu]at a6;cases cu:a.tmps[d]? with|none=>rw[cu]at a6;simp only[Option.getD_none]at a6;subst a6;rfl|some u=>rw[cu]at a6;simp only[xbe]at a6;subst a6;cases u<;>rfl
 have skip:Region.wanted o (yielded all a.tmps)=false->K (σ.put o.dst (.d (.val (.tuple #[]))))->ja N m fr ρ σ K (a.put o.dst undef) w:=λ_ ak=>⟨_,m,ρ,ak,Mem.le_refl m,h.put (.d _ _ (.val _)) iF,by cases o.dst<;>simpa[Act.put]using cc,by cases o.dst<;>exact hD,λk ak aj=>⟨by simpa using aj,rfl⟩⟩;split at ao
 .rename_i b aH;have a6:=h.aK d;rw[aH]at a6;have aP:=jb _ a6.hX;simp only at aP;have hw:Region.wanted o (yielded all a.tmps)=(b==want):=by
   simp only[Region.wanted,b8,aP];cases b<;>cases want<;>rfl
  by_cases aj:b=want;.rw[xad aj]at ao;rw[hw,xad (by simpa using aj)];exact .inl (PU bf c6 h cc hD g2 ao)
  rw[xaa aj]at ao;have bd:Region.wanted o (yielded all a.tmps)=false:=by rw[hw];simpa using aj
  rw[xaa (by rw[bd];simp)];exact skip bd ao
 .rename_i vs aH;have a6:=h.aK d;rw[aH]at a6;have aP:=jb _ a6.hX;simp only at aP;have bd:Region.wanted o (yielded all a.tmps)=false:=by
   simp only[Region.wanted,b8,aP];rfl
  rw[xaa (by rw[bd];simp)];exact skip bd ao
 cases ao
def wpOp_mono{ops:Array Oper}{Q:Exit->Act->World->Prop}{i:Nat}{K K':Act->World->Prop}(ak:∀a w,K a w->K' a w){a:Act}{w:World}(h:wpOp P ops Q i K a w):wpOp P ops Q i K' a w:=by
 unfold wpOp at*;split;.rename_i e;simp only[e]at h;exact ak _ _ h
 rename_i o e;simp only[e]at h;split
 .rename_i hw;rw[xad hw]at h;rcases h with h|h
  .refine .inl ?_;unfold Oper.wp at*;generalize (execOp a.eval o).run P w=r at*;cases r with
   |ok n w'=>
    cases n<;>simp only[Oper.upon]at h⊢<;>first|exact ak _ _ h|exact h|skip
    .refine h.mono λe k1 he=>?_;cases e with|returned v=>exact ak _ _ he|panicked c=>exact he|outgrown=>exact he
    exact h.mono λv k1 he=>ak _ _ he
   |halt x w'=>cases x<;>exact h
  exact .inr h
 rename_i hw;rw[xaa hw]at h;exact ak _ _ h
end
def Kl{ev jc:Operand->aS}{l:List Operand}(h:∀x∈l,ev x=jc x):l.map ev=l.map jc:=List.map_congr_left h
theorem Xg{ev jc:Operand->aS}{j1:Array (Nat×Operand)}(h:∀x∈(j1.toList.map (·.2)),ev x=jc x):(j1.toList.map λp=>(p.1,ev p.2))=j1.toList.map λp=>(p.1,jc p.2):=List.map_congr_left λp aU=>by rw[h p.2 (xax.2 ⟨p,aU,rfl⟩)]
def ahI{T:ch}{ev jc:Operand->aS}{op:Op}(h:∀x∈op.operands.toList,ev x=jc x):eZ T ev op=eZ T jc op:=by
 cases op<;>simp only[eZ]
 case move x=>rw[h x (by simp[Op.operands])]
 case assign x=>rw[h x (by simp[Op.operands])]
 case pick c a b=>rw[h c (by simp[Op.operands]),h a (by simp[Op.operands]),h b (by simp[Op.operands])]
 case binOp op t x y xZ=>rw[h x (by simp[Op.operands]),h y (by simp[Op.operands])]
 case unOp op t x=>rw[h x (by simp[Op.operands])]
 case convert s t x=>rw[h x (by simp[Op.operands])]
 case fieldAddr s x f=>rw[h x (by simp[Op.operands])]
 case field s x f=>rw[h x (by simp[Op.operands])]
 case extract x i=>rw[h x (by simp[Op.operands])]
 case build t parts=>rw[Xg (by simpa[Op.operands]using h)]
 case index t x i=>rw[h x (by simp[Op.operands]),h i (by simp[Op.operands])]
 case makeFunc f first cap=>rw[Kl (l:=first.toList) (λx ag=>h x (by simp[Op.operands]at ag⊢;exact .inl ag)),Kl (l:=cap.toList) (λx ag=>h x (by simp[Op.operands]at ag⊢;exact .inr ag))]
 case makeInterface t x=>rw[h x (by simp[Op.operands])]
 case nilCheck x=>rw[h x (by simp[Op.operands])]
 case slice t x lo ah hz=>
  cases hz with
  |some _=>rfl
  |none=>
   simp only[eZ];have aJ:lo.map ev=lo.map jc:=by cases lo with|none=>rfl|some l=>simp only[xaQ];rw[h l (by simp[Op.operands])]
   have aZ:ah.map ev=ah.map jc:=by cases ah with|none=>rfl|some l=>simp only[xaQ];rw[h l (by simp[Op.operands])]
   rw[h x (by simp[Op.operands]),aJ,aZ]
 case call c=>obtain⟨callee,args,dJ⟩:=c;simp only;have e:args.toList.map ev=args.toList.map jc:=Kl λx ag=>h x (by simp[Op.operands,Call.operands]at ag⊢;exact .inr ag);rw[e]
def ahJ{T:ch}{ev jc:Operand->aS}{objs:cF}{op:Op}(h:∀x∈op.operands.toList,ev x=jc x):dH T ev objs op=dH T jc objs op:=by
 cases op<;>simp only[dH]
 case load t a=>rw[h a (by simp[Op.operands])]
 case indexAddr t x fA=>rw[h x (by simp[Op.operands]),h fA (by simp[Op.operands])]
 case slice t x lo ah hz=>
  cases hz with
  |some _=>rfl
  |none=>
   simp only[dH];have aJ:lo.map ev=lo.map jc:=by cases lo with|none=>rfl|some l=>simp only[xaQ];rw[h l (by simp[Op.operands])]
   have aZ:ah.map ev=ah.map jc:=by cases ah with|none=>rfl|some l=>simp only[xaQ];rw[h l (by simp[Op.operands])]
   rw[h x (by simp[Op.operands]),aJ,aZ]
 case call c=>
  obtain⟨callee,args,dJ⟩:=c;simp only;split
  .split
   .rename_i t x lO kg;have aF:args= #[x]:=by apply xbE;simpa using kg
    have e:ev x=jc x:=h x (by simp[Op.operands,Call.operands,aF]);rw[e]
   rfl
  rfl
 case lookup t x k ok=>rw[h x (by simp[Op.operands]),h k (by simp[Op.operands])]
 case binOp op t x y xZ=>rw[h x (by simp[Op.operands]),h y (by simp[Op.operands])]
def ahK{T:ch}{ev jc:Operand->aS}{objs:cF}{d:Key}{op:Op}(h:∀x∈op.operands.toList,ev x=jc x):et T ev objs d op=et T jc objs d op:=by
 cases op<;>simp only[et]
 case box t x=>rw[h x (by simp[Op.operands])]
 case buildSlice t n parts=>rw[Xg (by simpa[Op.operands]using h)]
 case makeSlice t l c=>rw[h l (by simp[Op.operands]),h c (by simp[Op.operands])]
 case store t a x=>rw[h a (by simp[Op.operands]),h x (by simp[Op.operands])]
 case mapUpdate t m k x=>rw[h m (by simp[Op.operands]),h k (by simp[Op.operands]),h x (by simp[Op.operands])]
 case insert t m k x=>rw[h m (by simp[Op.operands]),h k (by simp[Op.operands]),h x (by simp[Op.operands])]
 case call c=>
  obtain⟨callee,args,dJ⟩:=c;simp only;split
  .split
   .rename_i t t' s x lO kg;have aF:args= #[s,x]:=by apply xbE;simpa using kg
    have aJ:ev s=jc s:=h s (by simp[Op.operands,Call.operands,aF]);have aZ:ev x=jc x:=h x (by simp[Op.operands,Call.operands,aF]);rw[aJ,aZ]
   rfl
  .split
   .rename_i t t' s x lO kg;have aF:args= #[s,x]:=by apply xbE;simpa using kg
    have aJ:ev s=jc s:=h s (by simp[Op.operands,Call.operands,aF]);have aZ:ev x=jc x:=h x (by simp[Op.operands,Call.operands,aF]);rw[aJ,aZ]
   rfl
  .split
   .rename_i t s lO kg;have aF:args= #[s]:=by apply xbE;simpa using kg
    rw[h s (by simp[Op.operands,Call.operands,aF])]
   rfl
  rfl
def ahL{T:ch}{ev jc:Operand->aS}{objs:cF}{d:Key}{op:Op}(h:∀x∈op.operands.toList,ev x=jc x):hg T ev objs d op=hg T jc objs d op:=by unfold hg;rw[ahK h]
def iT:Op->Bool
 | .move _| .assign _| .pick ..| .unOp ..| .convert ..| .fieldAddr ..| .field ..| .extract ..| .build ..| .index ..| .makeFunc ..| .makeInterface ..| .nilCheck _=>true|_=>false
def jk:Op->Bool
 | .load ..| .indexAddr ..| .slice ..| .lookup ..| .binOp ..=>true| .call ⟨.builtin b,_,_⟩=>match b with| .len| .max| .min=>true|_=>false
 |_=>false
def hE:Op->Bool
 | .call ⟨.value _,_,_⟩=>true|_=>false
def qg:Op->Bool
 | .alloc _| .box ..| .buildSlice ..=>true|_=>false
theorem Bk{T:ch}{ev:Operand->aS}{objs:cF}{d:Key}{op:Op}(h:iT op=true):dH T ev objs op=none/\hg T ev objs d op=none:=by cases op<;>first|exact⟨rfl,rfl⟩|cases h
def Bl{T:ch}{ev:Operand->aS}{objs:cF}{d:Key}{op:Op}(h:jk op=true):hg T ev objs d op=none:=by
 cases op
 case call c=>
  obtain⟨callee,args,dJ⟩:=c;cases callee with
  |value=>cases h
  |invoke=>cases h
  |builtin b=>cases b<;>first|rfl|cases h
 all_goals first|rfl|cases h
def PW{T:ch}{ev:Operand->aS}{objs:cF}{d:Key}{op:Op}(h:hE op=true):eZ T ev op=none/\dH T ev objs op=none/\hg T ev objs d op=none:=by
 cases op
 case call c=>
  obtain⟨callee,args,dJ⟩:=c;cases callee with
  |value=>exact⟨rfl,rfl,rfl⟩|invoke=>cases h
  |builtin b=>cases h
 all_goals cases h
theorem ra{T:ch}{ev:Operand->aS}{objs:cF}{op:Op}(h:qg op=true):eZ T ev op=none/\dH T ev objs op=none:=by cases op<;>first|exact⟨rfl,rfl⟩|cases h
def ahM{T:ch}{ev:Operand->aS}{objs objs':cF}{d:Key}{op:Op}(h:qg op=true)(au:objs' d=none){r:aS}{cC:List (Key×cV)}(he:et T ev objs d op=some (r,cC)):et T ev objs' d op=some (r,cC)/\objs d=none/\∃o,cC=[(d,o)]:=by
 cases op
 case alloc t=>
  simp only[et]at he⊢;split at he
  case h_2=>cases he
  rename_i i aM aA;cases he;exact⟨by simp only[au,aM],aA,_,rfl⟩
 case box t x=>
  simp only[et]at he⊢;split at he
  case h_2=>cases he
  rename_i cs ao aA;cases he;exact⟨by simp only[au,ao],aA,_,rfl⟩
 case buildSlice t n parts=>
  simp only[et]at he⊢;split at he
  case h_2=>cases he
  rename_i e s b z aM aA;simp only[au,aM];split at he
  case h_2=>cases he
  rename_i bg iR
  try simp only[iR]
  split at he
  case h_2=>cases he
  rename_i es aU
  try simp only[aU]
  split at he
  case isFalse=>cases he
  rename_i ao;cases he;exact⟨by rw[xad ao],aA,_,rfl⟩
 all_goals cases h
def Bm{T:ch}{ev:Operand->aS}{objs objs':cF}{d:Key}{op:Op}(h:qg op=true)(au:objs' d=none){r:aS}{cC:List (Key×cV)}(he:hg T ev objs d op=some (r,cC)):hg T ev objs' d op=some (r,cC)/\objs d=none/\∃o,cC=[(d,o)]:=by
 obtain⟨⟨jH,sK⟩,ph,aj⟩:=wb he;obtain⟨aV,a2,o,rfl⟩:=ahM (objs':=objs') h au ph;refine⟨by unfold hg;rw[aV];simp[aj],a2,?_⟩;rcases x9 (T.born d) d jH [(d,o)]with e|⟨n,es,aJ,aZ,e⟩|⟨dn,n,es,aJ,aZ,e⟩|⟨off,cs,aO,aJ,aZ,e1,e⟩;.rw[aj]at e;cases e;exact⟨o,rfl⟩
 .rw[aj]at e;cases e;exact⟨_,rfl⟩
 .cases aZ
 rw[aj]at e;cases e;exact⟨_,rfl⟩
def cF.ext(objs objs':cF):Prop:=∀k o,objs k=some o->objs' k=some o
def cF.Km{objs:cF}{k:Key}(h:objs k=none)(o:cV):objs.ext (cv objs k (some o)):=by
 intro j x ag;have:j≠k:=by rintro rfl;rw[h]at ag;cases ag
 rw[cZ _ _ this];exact ag
def Xh{objs objs':cF}(h:objs.ext objs'){x:aS}{n:Nat}(ar:kf objs x=some n):kf objs' x=some n:=by
 unfold kf at*;split at ar;.exact ar
 .exact ar
 .split at ar;.rename_i ak;rw[h _ _ ak];exact ar
  cases ar
 .exact ar
 cases ar
def Kn{objs objs':cF}(h:objs.ext objs'){x:aS}{b:Bool}(ar:mO objs x=some b):mO objs' x=some b:=by
 unfold mO at*;split at ar;.exact ar
 .exact ar
 .split at ar;.rename_i ak;rw[h _ _ ak];exact ar
  cases ar
 cases ar
def Xi{objs objs':cF}(h:objs.ext objs'){x:aS}{d:D}(ar:q8 objs x=some d):q8 objs' x=some d:=by
 unfold q8 at*;split at ar;.exact ar
 .split at ar;.rename_i ak;rw[h _ _ ak];exact ar
  cases ar
 .split at ar;.rename_i ak;rw[h _ _ ak];exact ar
  cases ar
 .split at ar;.rename_i ak;rw[h _ _ ak];exact ar
  cases ar
 cases ar
def pj{α:Type}{f g:aS->Option α}(h:∀x d,f x=some d->g x=some d):∀(l:List aS)(r:List α),hC (l.map f)=some r->hC (l.map g)=some r
 |[],r,av=>av
 |x::l,r,av=>by
  simp only[xaA]at av⊢;cases ag:f x with
  |none=>simp[ag,hC]at av
  |some d=>
   rw[ag]at av;simp only[hC]at av;split at av
   case h_2=>cases av
   rename_i sA dv;rw[h x d ag];simp only[hC,pj h l sA dv];exact av
def Ko{objs objs':cF}(h:objs.ext objs'){x:aS}{d:D}(ar:nn objs x=some d):nn objs' x=some d:=by
 unfold nn at*;split at ar
 .split at ar
  case h_2=>cases ar
  rename_i ak;simp only[h _ _ ak];split at ar
  case h_2=>cases ar
  rename_i cs hL;rw[pj (λx d ag=>Xi h ag) _ _ hL];exact ar
 .exact ar
 exact Xi h ar
def Xj{objs objs':cF}(h:objs.ext objs'){x:aS}{d:D}(ar:ot objs x=some d):ot objs' x=some d:=by
 unfold ot at*;split at ar
 .split at ar
  case h_2=>cases ar
  rename_i aO e1;rw[pj (λx d ag=>Ko h ag) _ _ e1];exact ar
 .split at ar
  case h_2=>cases ar
  rename_i as ki has Ey;rw[pj (λx d ag=>Ko h ag) _ _ has,pj (λx d ag=>Ko h ag) _ _ Ey];exact ar
 exact Ko h ar
def ahN{objs objs':cF}(h:objs.ext objs'){x:aS}{d:D}(ar:toD objs x=some d):toD objs' x=some d:=by
 unfold toD at*;split at ar
 .split at ar
  case h_2=>cases ar
  rename_i aO e1;rw[pj (λx d ag=>Xj h ag) _ _ e1];exact ar
 exact Xj h ar
def ahO{T:ch}{ev:Operand->aS}{objs objs':cF}(h:objs.ext objs'){op:Op}{r:aS}(hm:dH T ev objs op=some r):dH T ev objs' op=some r:=by
 cases op<;>simp only[dH,reduceCtorEq]at hm⊢
 case load t a=>
  split at hm
  case h_2=>cases hm
  split at hm;.exact hm
  .split at hm
   case h_2=>cases hm
   rename_i ak;simp only[h _ _ ak];exact hm
  .split at hm
   case h_2=>cases hm
   rename_i ak;simp only[h _ _ ak];exact hm
  cases hm
 case indexAddr t x fA=>
  split at hm
  .split at hm
   case h_2=>cases hm
   split at hm
   case isFalse=>cases hm
   rename_i au;rw[xad au];split at hm;.exact hm
   .split at hm
    case h_2=>cases hm
    rename_i ak;simp only[h _ _ ak];exact hm
   .exact hm
   cases hm
  .exact hm
  cases hm
 case slice t x lo ah hz=>
  cases hz with
  |some _=>simp[dH]at hm
  |none=>
   simp only[dH]at hm⊢;split at hm
   case h_3=>cases hm
   case h_2=>exact hm
   split at hm
   case h_2=>cases hm
   split at hm
   case h_2=>cases hm
   rename_i n aL;simp only[Xh h aL];split at hm
   case h_2=>cases hm
   split at hm
   case isFalse=>cases hm
   rename_i ao;rw[xad ao];split at hm;.exact hm
   .split at hm
    case h_2=>cases hm
    rename_i ak;simp only[h _ _ ak];exact hm
   .exact hm
   cases hm
 case call c=>
  split at hm
  case h_2=>cases hm
  split at hm
  case h_2=>cases hm
  split at hm;.exact hm
  .split at hm
   case h_2=>cases hm
   rename_i n aL;simp only[Xh h aL];exact hm
  .exact hm
  .exact hm
  .split at hm
   case h_2=>cases hm
   rename_i ak;simp only[h _ _ ak];exact hm
  cases hm
 case lookup t x k ok=>
  split at hm
  case h_2=>cases hm
  split at hm;.exact hm
  .exact hm
  .split at hm
   case h_2=>cases hm
   rename_i ak;simp only[h _ _ ak];exact hm
  cases hm
 case binOp op t x y xZ=>
  split at hm
  case h_2=>cases hm
  split at hm
  .split at hm
   .rename_i ao;rw[xad ao];split at hm
    case h_2=>cases hm
    rename_i b aj;simp only[Kn h aj];exact hm
   rename_i ao;rw[xaa ao];split at hm
   case isFalse=>cases hm
   rename_i pk;rw[xad pk];split at hm
   case h_2=>cases hm
   rename_i b aj;simp only[Kn h aj];exact hm
  .split at hm
   .rename_i ao;rw[xad ao];split at hm
    case h_2=>cases hm
    rename_i b aj;simp only[Kn h aj];exact hm
   rename_i ao;rw[xaa ao];split at hm
   case isFalse=>cases hm
   rename_i pk;rw[xad pk];split at hm
   case h_2=>cases hm
   rename_i b aj;simp only[Kn h aj];exact hm
  cases hm
def Xk:∀(cC:List (Key×cV)) {objs:cF} {k:Key} {o:cV},(∀p∈cC,p.1≠k)->dI (cv objs k (some o)) cC=cv (dI objs cC) k (some o)
 |[],objs,k,o,_=>rfl
 |(j,x)::r,objs,k,o,h=>by
  have aN:j≠k:=h (j,x) (by simp);simp only[dI];have e:cv (cv objs k (some o)) j (some x)=cv (cv objs j (some x)) k (some o):=by
   funext i
   simp only[cv];by_cases ab:i=j;.subst ab;simp[aN]
   by_cases af:i=k;.subst af;simp[ab]
   simp[ab,af]
  rw[e];exact Xk r (λp aU=>h p (by simp[aU]))
def Kp{objs objs':cF}(h:objs.ext objs'){x:aS}{r:Nat×List (List D)}(ar:mi objs x=some r):mi objs' x=some r:=by
 unfold mi at*;split at ar;.exact ar
 .exact ar
 .split at ar;.rename_i ak;rw[h _ _ ak];exact ar
  cases ar
 .split at ar;.rename_i ak;rw[h _ _ ak];exact ar
  cases ar
 cases ar
def ahP{T:ch}{ev:Operand->aS}{objs objs':cF}(h:objs.ext objs'){d k:Key}(aA:d≠k)(ak:objs k=none)(kj:objs d=none->objs' d=none){op:Op}{r:aS}{cC:List (Key×cV)} (he:et T ev objs d op=some (r,cC)):et T ev objs' d op=some (r,cC)/\∀p∈cC,p.1≠k:=by
 have one:∀{o:cV},∀p∈[(d,o)],p.1≠k:=by intro o p aU;simp at aU;subst aU;exact aA
 have nN:∀{j:Key}{x o:cV},objs j=some x->∀p∈[(j,o)],p.1≠k:=by intro j x o aN p aU;simp at aU;subst aU;rintro rfl;rw[ak]at aN;cases aN
 cases op<;>simp only[et,reduceCtorEq]at he
 case alloc t=>split at he<;>cases he;rename_i i aM au;exact⟨by simp only[et,aM,kj au],one⟩
 case box t x=>split at he<;>cases he;rename_i cs ao au;exact⟨by simp only[et,ao,kj au],one⟩
 case buildSlice t n parts=>
  split at he
  case h_2=>cases he
  rename_i e s b z aM au;split at he
  case h_2=>cases he
  rename_i bg iR;split at he
  case h_2=>cases he
  rename_i es aU;split at he
  case isFalse=>cases he
  rename_i ao;cases he;exact⟨by simp only[et,aM,kj au,iR,aU];rw[xad ao],one⟩
 case makeSlice t l c=>
  split at he
  case h_2=>cases he
  rename_i e s b z aM au;split at he
  case h_2=>cases he
  rename_i bg iR;split at he
  case h_2=>cases he
  rename_i Ka aho Kb ahp ab af;split at he
  case isFalse=>cases he
  rename_i ao;cases he;exact⟨by simp only[et,aM,kj au,iR,ab,af];rw[xad ao],one⟩
 case makeMap t r=>split at he<;>cases he;rename_i au;exact⟨by simp only[et,kj au],one⟩
 case store t a x=>
  split at he
  case h_2=>cases he
  rename_i i cs aM ao;split at he
  case isFalse=>cases he
  rename_i ar;split at he
  .rename_i j off jG;split at he
   case h_2=>cases he
   rename_i cells aN;split at he
   case isFalse=>cases he
   rename_i bd;cases he;exact⟨by simp only[et,aM,ao,jG,h _ _ aN];rw[xad ar,xad bd],nN aN⟩
  .rename_i j cU fA off jG;split at he
   case h_2=>cases he
   rename_i bs es aO aN e1;split at he
   case isFalse=>cases he
   rename_i bd;split at he
   case h_2=>cases he
   rename_i el e0;cases he;exact⟨by simp only[et,aM,ao,jG,h _ _ aN,e1];rw[xad ar,xad bd];simp only[e0],nN aN⟩
  cases he
 case mapUpdate t m ahQ x=>
  split at he
  case h_2=>cases he
  rename_i ir ga s b z aM;split at he
  case h_2=>cases he
  rename_i h6 sI;split at he
  case isFalse=>cases he
  rename_i dk;split at he
  case h_2=>cases he
  rename_i key fe PG aJ aZ bN;split at he
  case h_2=>cases he
  rename_i es aN;split at he
  case h_2=>cases he
  rename_i l ar;cases he;exact⟨by simp only[et,aM,sI,aJ,aZ,bN,h _ _ aN,ar];rw[xad dk],nN aN⟩
 case insert t m ahQ x=>
  split at he
  case h_2=>cases he
  rename_i ir ga s b z aM;split at he
  case h_2=>cases he
  rename_i h6 sI;split at he
  case isFalse=>cases he
  rename_i dk;split at he
  case h_2=>cases he
  rename_i key fe PG aJ aZ bN;split at he
  case h_2=>cases he
  rename_i es aN;split at he
  case h_2=>cases he
  rename_i l ar;cases he;exact⟨by simp only[et,aM,sI,aJ,aZ,bN,h _ _ aN,ar];rw[xad dk],nN aN⟩
 case call c=>
  obtain⟨callee,args,dJ⟩:=c;simp only at he;split at he
  .split at he
   case h_2=>cases he
   rename_i t t' s x lO kg;split at he
   case h_2=>cases he
   rename_i e s1 dP iZ dw s2 gw pf aM ur au;split at he
   case h_2=>cases he
   rename_i bg iR;split at he
   case h_2=>cases he
   rename_i cU xs nk;split at he
   case isFalse=>cases he
   rename_i ao;split at he
   .rename_i hc;split at he
    case isFalse=>cases he
    rename_i aj;cases he;exact⟨by simp only[et,lO,kg,aM,ur,kj au,iR,Kp h nk,hc];rw[xad ao,xad aj],one⟩
   .rename_i key hc;split at he
    case h_2=>cases he
    rename_i bs es aN;split at he
    case isFalse=>cases he
    rename_i aj;cases he;refine⟨by simp only[et,lO,kg,aM,ur,kj au,iR,Kp h nk,hc,h _ _ aN];rw[xad ao,xad aj],?_⟩;intro p aU;simp at aU;rcases aU with rfl|rfl
    .rintro rfl;rw[ak]at aN;cases aN
    exact aA
   cases he
  .split at he
   case h_2=>cases he
   rename_i t t' s x lO kg;split at he
   case h_2=>cases he
   rename_i e s1 dP iZ aM;split at he
   case h_2=>cases he
   rename_i bg iR;split at he
   case h_2=>cases he
   rename_i cU xs nk;split at he
   case isFalse=>cases he
   rename_i ao;split at he
   .rename_i key hc;split at he
    case h_2=>cases he
    rename_i bs es aN;split at he
    case isFalse=>cases he
    rename_i aj;cases he;exact⟨by simp only[et,lO,kg,aM,iR,Kp h nk,hc,h _ _ aN];rw[xad ao,xad aj],nN aN⟩
   .rename_i key dx i len hc;split at he
    case h_2=>cases he
    rename_i bs es aN;split at he
    case isFalse=>cases he
    rename_i aj;cases he;exact⟨by simp only[et,lO,kg,aM,iR,Kp h nk,hc,h _ _ aN];rw[xad ao,xad aj],nN aN⟩
   cases he
  .split at he
   case h_2=>cases he
   rename_i t s lO kg;split at he
   case h_2=>cases he
   rename_i e s1 dP iZ aM;split at he
   case h_2=>cases he
   rename_i bg iR;split at he
   case h_2=>cases he
   rename_i key dx i len hc;split at he
   case h_2=>cases he
   rename_i bs es aN;split at he
   case isFalse=>cases he
   rename_i aj;cases he;exact⟨by simp only[et,lO,kg,aM,iR,hc,h _ _ aN];rw[xad aj],nN aN⟩
  cases he
def ahR{T:ch}{ev:Operand->aS}{objs objs':cF}(h:objs.ext objs'){d k:Key}(aA:d≠k)(ak:objs k=none)(kj:objs d=none->objs' d=none){op:Op}{r:aS}{cC:List (Key×cV)} (he:hg T ev objs d op=some (r,cC)):hg T ev objs' d op=some (r,cC)/\∀p∈cC,p.1≠k:=by obtain⟨⟨jH,sK⟩,ph,aj⟩:=wb he;obtain⟨aV,a2⟩:=ahP (objs':=objs') h aA ak kj ph;refine⟨by unfold hg;rw[aV];simp[aj],λp aU=>?_⟩;have aw:=ahv (b:=T.born d) (d:=d) (q:=(jH,sK)) p (by rw[aj];exact aU);obtain⟨oq,a5,ca⟩:=aw;rw[<-ca];exact a2 oq a5
def res(T:ch)(G:dr)(σ:aI)(o:Oper):Option (aS×List (Key×cV)):=match eZ T (cj G σ.aK) o.op with|some r=>some (r,[])|none=>match dH T (cj G σ.aK) σ.objs o.op with|some r=>some (r,[])|none=>hg T (cj G σ.aK) σ.objs (o.dst.getD 9999) o.op
def aI.step(σ:aI)(dst:Option Tmp)(r:aS)(cC:List (Key×cV)):aI:=aI.put ⟨σ.aK,dI σ.objs cC⟩ dst r
theorem wj{T:ch}{G:dr}{σ:aI}{o:Oper}:g1 T G σ o=(res T G σ o).map λp=>σ.step o.dst p.1 p.2:=by unfold g1 res aI.step;cases eZ T (cj G σ.aK) o.op with|some r=>rfl|none=>cases dH T (cj G σ.aK) σ.objs o.op with|some r=>rfl|none=>cases hg T (cj G σ.aK) σ.objs (o.dst.getD 9999) o.op with|none=>rfl|some p=>obtain⟨r,cC⟩:=p;rfl
theorem ahS{G:dr}{σ:aI}{dst:Option Tmp}{r:aS}{x:Operand}(h:∀d,dst=some d->x≠ .tmp d):cj G (σ.put dst r).aK x=cj G σ.aK x:=by cases dst with|none=>rfl|some d=>cases x with|tmp t=>have:t≠d:=λe=>h d rfl (by rw[e]);simp only[cj,aI.put,cZ _ _ this]|_=>rfl
theorem ahT{all:Array Oper}{o:Oper}{d:Tmp}(h:d∉o.looksAt all):∀x∈o.op.operands.toList,x≠ .tmp d:=by rintro x ag rfl;exact h (by unfold Oper.looksAt;exact xbQ _ (List.mem_filterMap.2 ⟨_,ag,rfl⟩))
def ahU{all:Array Oper}{o:Oper}{d:Tmp}(h:d∉o.looksAt all){j:Nat}{b:Bool}(b8:o.guard=some (j,b)){e:Tmp}(he:(all[j]?).bind (·.dst)=some e):e≠d:=by rintro rfl;exact h (by unfold Oper.looksAt;exact List.mem_append_right _ (by simp[b8,he]))
def put_comm{σ:aI}{x y:Option Tmp}{r s:aS}(h:∀d,x=some d->y≠some d):(σ.put x r).put y s=(σ.put y s).put x r:=by
 cases x with
 |none=>rfl
 |some d=>
  cases y with
  |none=>rfl
  |some e=>
   have cR:d≠e:=λhe=>h d rfl (by rw[he]);simp only[aI.put]
   congr 1
   funext t
   simp only[cv];by_cases ab:t=d;.subst ab;simp[cR]
   by_cases af:t=e;.subst af;simp[ab]
   simp[ab,af]
def pass(x y:Oper):Bool:=iT x.op||iT y.op||((jk x.op||hE x.op)&&(jk y.op||hE y.op)&&!(hE x.op&&hE y.op))||(qg y.op&&match y.dst with|some d=>decide (d<9999)|none=>false)
def j2(all:Array Oper)(σ:aI)(o:Oper):Option Bool:=match o.guard with
 |none=>some true
 |some (j,want)=>match(all[j]?).bind (·.dst)with
  |some d=>match σ.aK d with| .d (.val (.bool b))=>some (decide (b=want))| .d (.val (.tuple _))=>some false|_=>none
  |none=>none
section
variable{P:Program}{T:ch}{G:dr}{all:Array Oper}
def hM{o:Oper}{K:aI->Prop}{σ:aI}:eA P T G all o K σ=match j2 all σ o with|some true=>dc P T G o K σ|some false=>K (σ.put o.dst (.d (.val (.tuple #[]))))|none=>False:=by
 unfold eA j2;cases b8:o.guard with
 |none=>rfl
 |some p=>
  obtain⟨j,want⟩:=p;simp only;cases aA:(all[j]?).bind (·.dst)with
  |none=>rfl
  |some d=>
   simp only;generalize σ.aK d=x;cases x with
   |d x=>
    cases x with
    |val v=>cases v with|bool b=>by_cases h:b=want<;>simp[h]|_=>rfl
    |_=>rfl
   |_=>rfl
def ou{o:Oper}{σ:aI}{dst:Option Tmp}{r:aS}(h:∀d,dst=some d->d∉o.looksAt all):j2 all (σ.put dst r) o=j2 all σ o:=by
 unfold j2;split;.rfl
 rename_i j want b8;split
 .rename_i e he;have aH:(σ.put dst r).aK e=σ.aK e:=by
   cases dst with|none=>rfl|some d=>simp only[aI.put,cZ _ _ (ahU (h d rfl) b8 he)]
  rw[aH]
 rfl
def Xl{o:Oper}{σ:aI}{dst:Option Tmp}{r:aS}(h:∀d,dst=some d->d∉o.looksAt all):∀x∈o.op.operands.toList,cj G (σ.put dst r).aK x=cj G σ.aK x:=λx ag=>ahS λd aA=>ahT (h d aA) x ag
def ahV{o:Oper}{σ:aI}{dst:Option Tmp}{r:aS}(h:∀d,dst=some d->d∉o.looksAt all):res T G (σ.put dst r) o=res T G σ o:=by have dA:=Xl (G:=G) (σ:=σ) (r:=r) h;unfold res;rw[ahI dA,ahJ dA,ahL dA,aI.wg]
theorem ahW{σ:aI}{Kq PX:Option Tmp}{r s:aS}{cC:List (Key×cV)}(h:∀d,Kq=some d->PX≠some d):(σ.put Kq r).step PX s cC=(σ.step PX s cC).put Kq r:=by unfold aI.step;rw[<-put_comm h];cases Kq<;>rfl
def ahX{o:Oper}{σ:aI}{dst:Option Tmp}{r:aS}{K:aI->Prop}(h:∀d,dst=some d->d∉o.looksAt all)(cR:∀d,dst=some d->o.dst≠some d):jI P G o (σ.put dst r) K=jI P G o σ (λaW=>K (aW.put dst r)):=by
 have dA:=Xl (G:=G) (σ:=σ) (r:=r) h;unfold jI;split
 .rename_i x args dJ eI;have aJ:cj G (σ.put dst r).aK x=cj G σ.aK x:=dA x (by rw[eI];simp[Op.operands,Call.operands]);have aZ:args.toList.map (cj G (σ.put dst r).aK)=args.toList.map (cj G σ.aK):=Kl λy aP=>dA y (by rw[eI];simp[Op.operands,Call.operands];exact .inr (by simpa using aP));rw[aJ];split
  .rename_i f pre post gW;unfold Xe;rw[aZ,aI.wg];simp only[put_comm cR]
  rfl
 rfl
def jJ{o:Oper}{σ:aI}{dst:Option Tmp}{r:aS}{K:aI->Prop}(h:∀d,dst=some d->d∉o.looksAt all)(cR:∀d,dst=some d->o.dst≠some d):dc P T G o K (σ.put dst r)=dc P T G o (λaW=>K (aW.put dst r)) σ:=by unfold dc;rw[wj,wj,ahV h];cases av:res T G σ o with|none=>exact ahX h cR|some p=>simp only[xaQ,ahW cR]
def ahY{ev:Operand->aS}{objs:cF}{d:Key}{op:Op}{p:aS×List (Key×cV)}(h:hg T ev objs d op=some p)(objs':cF):eZ T ev op=none/\dH T ev objs' op=none:=by
 obtain⟨q,ab,_⟩:=wb h;clear h;cases op<;>first|exact⟨rfl,rfl⟩|(simp only[et,reduceCtorEq]at ab;done)|skip
 case call c=>obtain⟨callee,args,dJ⟩:=c;cases callee with|value=>exact⟨rfl,rfl⟩|invoke=>exact⟨rfl,rfl⟩|builtin b=>cases b<;>first|exact⟨rfl,rfl⟩|(simp only[et,reduceCtorEq]at ab;done)
def ahZ{ev:Operand->aS}{op:Op}{r:aS}(h:eZ T ev op=some r):iT op=true\/jk op=true:=by
 cases op
 case call c=>obtain⟨callee,args,dJ⟩:=c;cases callee with|value=>exact absurd h (by simp[eZ])|invoke=>exact absurd h (by simp[eZ])|builtin b=>cases b<;>first|exact .inr rfl|exact absurd h (by simp[eZ])
 all_goals first|exact .inl rfl|exact .inr rfl|exact absurd h (by simp[eZ])
def ah0{ev:Operand->aS}{objs:cF}{op:Op}{r:aS}(h:dH T ev objs op=some r):iT op=true\/jk op=true:=by
 cases op
 case call c=>obtain⟨callee,args,dJ⟩:=c;cases callee with|value=>exact absurd h (by simp[dH])|invoke=>exact absurd h (by simp[dH])|builtin b=>cases b<;>first|exact .inr rfl|exact absurd h (by simp[dH])
 all_goals first|exact .inl rfl|exact .inr rfl|exact absurd h (by simp[dH])
def Xm:∀(cC:List (Key×cV)) {objs:cF} {k:Key},dI objs cC k=none->objs k=none/\∀p∈cC,p.1≠k
 |[],objs,k,h=>⟨h,by simp⟩
 |(j,x)::r,objs,k,h=>by
  obtain⟨ab,af⟩:=Xm r h;have aN:j≠k:=by rintro rfl;rw[fb]at ab;cases ab
  rw[cZ _ _ (Ne.symm aN)]at ab;exact⟨ab,by intro p aU;rcases xak.1 aU with rfl|aU;exact aN;exact af p aU⟩
def yc{o:Oper}{σ:aI}{K:aI->Prop}(h:jI P G o σ K):hE o.op=true:=by
 unfold jI at h;split at h;.rename_i x args dJ eI;rw[eI];rfl
 cases h
def EA{op:Op}(h:hE op=true):iT op=false/\jk op=false/\qg op=false:=by
 cases op<;>first|cases h|skip
 case call c=>
  obtain⟨callee,args,dJ⟩:=c;cases callee with
  |value=>exact⟨rfl,rfl,rfl⟩|invoke=>cases h
  |builtin b=>cases h
def ah1{o:Oper}{aK:Nat->aS}{objs objs':cF}(h:objs.ext objs'){r:aS}(av:res T G ⟨aK,objs⟩ o=some (r,[]))(ak:iT o.op=true\/jk o.op=true):res T G ⟨aK,objs'⟩ o=some (r,[]):=by
 unfold res at*;simp only at*;split at av;.exact av
 rename_i aU;split at av;.rename_i Kr hm;simp only[ahO h hm];exact av
 rename_i hm;rcases ak with ak|ak
 .rw[(Bk (T:=T) (ev:=cj G aK) (objs:=objs) (d:=o.dst.getD 9999) ak).2]at av;cases av
 rw[Bl ak]at av;cases av
def Ks{o:Oper}{σ:aI}{r:aS}{cC:List (Key×cV)}(av:res T G σ o=some (r,cC))(ak:iT o.op=true\/jk o.op=true):cC=[]:=by
 unfold res at av;split at av;.cases av;rfl
 split at av;.cases av;rfl
 rcases ak with ak|ak;.rw[(Bk (T:=T) (ev:=cj G σ.aK) (objs:=σ.objs) (d:=o.dst.getD 9999) ak).2]at av;cases av
 rw[Bl ak]at av;cases av
def Xn{o:Oper}{aK:Nat->aS}{objs objs':cF}{p:aS×List (Key×cV)}(av:res T G ⟨aK,objs⟩ o=some p)(ak:iT o.op=true):res T G ⟨aK,objs'⟩ o=some p/\p.2=[]:=by
 unfold res at*;simp only at*;split at av;.cases av;exact⟨rfl,rfl⟩
 rw[(Bk (T:=T) (ev:=cj G aK) (objs:=objs) (d:=o.dst.getD 9999) ak).1,(Bk (T:=T) (ev:=cj G aK) (objs:=objs) (d:=o.dst.getD 9999) ak).2]at av;cases av
def uA{o:Oper}{σ:aI}(ak:hE o.op=true):res T G σ o=none:=by unfold res;obtain⟨ab,af,aw⟩:=PW (T:=T) (ev:=cj G σ.aK) (objs:=σ.objs) (d:=o.dst.getD 9999) ak;rw[ab,af,aw]
theorem mn{o:Oper}{σ:aI}{K:aI->Prop}{r:aS}{cC:List (Key×cV)}(av:res T G σ o=some (r,cC)):dc P T G o K σ=K (σ.step o.dst r cC):=by unfold dc;rw[wj,av];rfl
theorem nO{o:Oper}{σ:aI}{K:aI->Prop}(av:res T G σ o=none):dc P T G o K σ=jI P G o σ K:=by unfold dc;rw[wj,av];rfl
def EB{o:Oper}{σ:aI}{K K':aI->Prop}(h:jI P G o σ K)(ak:∀r,K (σ.put o.dst r)->K' (σ.put o.dst r)):jI P G o σ K':=by
 unfold jI at*;split
 .rename_i x args dJ eI;rw[eI]at h;simp only at h;split;.rename_i f pre post gW;simp only[gW]at h;obtain⟨nq,aO,R,ab,af,aw,a5,ca,cP⟩:=h;exact⟨nq,aO,R,ab,af,aw,a5,ca,λr av=>ak _ (cP r av)⟩
  rename_i gW;simp only[gW]at h
 rename_i eI;split at h;.rename_i x args dJ e;exact absurd e (eI x args dJ)
 exact h
def Xo{x y:Oper}{σ:aI}{K:aI->Prop}(ab:∀d,x.dst=some d->d∉y.looksAt all)(af:∀d,x.dst=some d->y.dst≠some d)(aw:∀d,y.dst=some d->d∉x.looksAt all)(aU:pass x y=true) (h:dc P T G x (λgD=>dc P T G y K gD) σ):dc P T G y (λgj=>dc P T G x K gj) σ:=by
 have h5:∀d,y.dst=some d->x.dst≠some d:=λd aA ag=>af d ag aA;obtain⟨aK,objs⟩:=σ;have EC:∀{o:Oper}{r:aS}{u:List (Key×cV)},aI.step ⟨aK,objs⟩ o.dst r u=aI.put ⟨aK,dI objs u⟩ o.dst r:=rfl;cases kH:res T G ⟨aK,objs⟩ x with
 |none=>
  rw[nO kH]at h;have ED:=yc h;obtain⟨k2,qh,Xp⟩:=EA ED;have aP:(iT y.op=true\/jk y.op=true)\/(qg y.op=true/\∃d,y.dst=some d/\d<9999):=by simp only[pass,k2,qh,ED,xbO,xbw]at aU;cases mo:iT y.op with|true=>exact .inl (.inl rfl)|false=>cases dY:jk y.op with|true=>exact .inl (.inr rfl)|false=>simp only[mo,dY,xbO]at aU;cases eh:qg y.op with|false=>simp[eh]at aU|true=>refine .inr ⟨rfl,?_⟩;simp only[eh,xbw]at aU;cases aA:y.dst with|none=>simp[aA]at aU|some d=>simp[aA]at aU;exact⟨d,rfl,aU⟩
  have wi:hE y.op=false:=by
   cases cf:hE y.op with
   |false=>rfl
   |true=>
    obtain⟨a,b,c⟩:=EA cf;rcases aP with(e|e)|⟨e,_⟩;.rw[a]at e;cases e
    .rw[b]at e;cases e
    rw[c]at e;cases e
  unfold jI at h;split at h
  case h_2=>cases h
  rename_i Xq args dJ eI;split at h
  case h_2=>cases h
  rename_i f pre post gW;obtain⟨nq,aO,R,bA,bB,cz,⟨jH,rfl⟩,fk,hh⟩:=h;have Bn:dc P T G y K (aI.put ⟨aK,objs⟩ x.dst (.d jH)):=hh jH rfl;rw[jJ ab af]at Bn;cases j3:res T G ⟨aK,objs⟩ y with
  |none=>rw[nO j3]at Bn;have:=yc Bn;rw[wi]at this;cases this
  |some p=>
   obtain⟨qi,rb⟩:=p;rw[mn j3];have pn:cF.ext objs (dI objs rb):=by
    rcases aP with aP|⟨aP,_⟩;.rw[Ks j3 aP];exact λ_ _ h=>h
    have wk:hg T (cj G aK) objs (y.dst.getD 9999) y.op=some (qi,rb):=by unfold res at j3;simp only[(ra (T:=T) (ev:=cj G aK) (objs:=objs) aP).1,(ra (T:=T) (ev:=cj G aK) (objs:=objs) aP).2]at j3;exact j3
    obtain⟨bJ,aL,o,rfl⟩:=Bm (objs':=λ_=>none) aP rfl wk;exact cF.Km aL o
   show dc P T G x K (aI.step ⟨aK,objs⟩ y.dst qi rb);rw[EC,jJ aw h5,nO (uA ED)];unfold jI;rw[eI];simp only[gW];refine⟨nq,aO,_,pj (λx d ag=>ahN pn ag) _ _ bA,bB,cz,⟨jH,rfl⟩,fk,λr av=>?_⟩;have Xr:dc P T G y K (aI.put ⟨aK,objs⟩ x.dst (.d r)):=hh r av;rw[jJ ab af,mn j3,EC,put_comm h5]at Xr;exact Xr
 |some p=>
  obtain⟨rx,po⟩:=p;rw[mn kH,EC,jJ ab af]at h;cases j3:res T G ⟨aK,dI objs po⟩ y with
  |none=>
   rw[nO j3]at h;have wi:=yc h;obtain⟨k2,qh,Xp⟩:=EA wi;have ag:iT x.op=true\/jk x.op=true:=by simp only[pass,k2,qh,Xp,wi,xbO,Bool.or_false,xbx,xbo,Bool.or_true]at aU;cases mo:iT x.op with|true=>exact .inl rfl|false=>cases dY:jk x.op with|true=>exact .inr rfl|false=>cases cf:hE x.op<;>simp[mo,dY,cf]at aU
   have Kt:=Ks kH ag;subst Kt;rw[nO (show res T G ⟨aK,objs⟩ y=none from j3)];refine EB h λr av=>?_;rw[jJ aw h5,mn kH,EC,put_comm af];exact av
  |some p=>
   obtain⟨qi,rb⟩:=p;rw[mn j3]at h;have wm:aI.step ⟨aK,dI objs po⟩ y.dst qi rb=aI.put ⟨aK,dI (dI objs po) rb⟩ y.dst qi:=rfl;rw[wm]at h;have PY:∀{yd:List (Key×cV)} {Ku:aS},res T G ⟨aK,objs⟩ y=some (Ku,yd)->(∃EE,res T G ⟨aK,dI objs yd⟩ x=some (rx,EE)/\Ku=qi/\dI (dI objs yd) EE=dI (dI objs po) rb)->dc P T G y (λgj=>dc P T G x K gj) ⟨aK,objs⟩:=by rintro yd Ku aJ ⟨EE,aZ,rfl,bN⟩;rw[mn aJ];show dc P T G x K (aI.step ⟨aK,objs⟩ y.dst Ku yd);rw[EC,jJ aw h5,mn aZ];have:aI.step ⟨aK,dI objs yd⟩ x.dst rx EE=aI.put ⟨aK,dI (dI objs yd) EE⟩ x.dst rx:=rfl;rw[this,bN,put_comm af];exact h
   by_cases EF:iT x.op=true\/jk x.op=true
   .have Kt:=Ks kH EF;subst Kt;refine PY j3 ⟨[],?_,rfl,rfl⟩;by_cases Kv:iT y.op=true\/jk y.op=true;.rw[Ks j3 Kv];exact kH
    by_cases Xs:iT x.op=true;.exact(Xn kH Xs).1
    
    have aP:qg y.op=true:=by
     rw[not_or]at Kv;have an:iT x.op=false:=by simpa using Xs
     have ba:iT y.op=false:=by simpa using Kv.1
     have b2:jk y.op=false:=by simpa using Kv.2
     simp only[pass,an,ba,b2,xbO]at aU;cases eh:qg y.op with|true=>rfl|false=>cases cf:hE y.op with|false=>simp[eh,cf]at aU|true=>rw[uA cf]at j3;cases j3
    have wk:hg T (cj G aK) objs (y.dst.getD 9999) y.op=some (qi,rb):=by have PZ:res T G ⟨aK,objs⟩ y=some (qi,rb):=j3;unfold res at PZ;simp only[(ra (T:=T) (ev:=cj G aK) (objs:=objs) aP).1,(ra (T:=T) (ev:=cj G aK) (objs:=objs) aP).2]at PZ;exact PZ
    obtain⟨bJ,aL,o,rfl⟩:=Bm (objs':=λ_=>none) aP rfl wk;exact ah1 (cF.Km aL o) kH EF
   rw[not_or]at EF;have an:iT x.op=false:=by simpa using EF.1
   have ba:jk x.op=false:=by simpa using EF.2
   have Kw:hE x.op=false:=by cases cf:hE x.op with|false=>rfl|true=>rw[uA cf]at kH;cases kH
   by_cases Xt:iT y.op=true;.obtain⟨aJ,aZ⟩:=Xn (objs':=objs) j3 Xt;simp only at aZ;subst aZ;exact PY aJ ⟨po,kH,rfl,rfl⟩
   have b2:iT y.op=false:=by simpa using Xt
   simp only[pass,an,ba,b2,Kw,xbO,xbx]at aU;rw[xal]at aU;obtain⟨aP,aA⟩:=aU;have uz:∃d,y.dst=some d/\d<9999:=by cases iF:y.dst with|none=>simp[iF]at aA|some d=>simp[iF]at aA;exact⟨d,rfl,aA⟩
   obtain⟨d,uz,Xu⟩:=uz;have wk:hg T (cj G aK) (dI objs po) (y.dst.getD 9999) y.op=some (qi,rb):=by unfold res at j3;simp only[(ra (T:=T) (ev:=cj G aK) (objs:=dI objs po) aP).1,(ra (T:=T) (ev:=cj G aK) (objs:=dI objs po) aP).2]at j3;exact j3
   rw[uz]at wk;simp only[xbe]at wk;obtain⟨_,aL,o,rfl⟩:=Bm (objs':=λ_=>none) aP rfl wk;obtain⟨P0,Kt⟩:=Xm po aL;obtain⟨ah2,_,_⟩:=Bm (objs':=objs) aP P0 wk;have ah3:res T G ⟨aK,objs⟩ y=some (qi,[(d,o)]):=by unfold res;simp only[(ra (T:=T) (ev:=cj G aK) (objs:=objs) aP).1,(ra (T:=T) (ev:=cj G aK) (objs:=objs) aP).2,uz,xbe];exact ah2
   have hex:hg T (cj G aK) objs (x.dst.getD 9999) x.op=some (rx,po):=by
    unfold res at kH;simp only at kH;split at kH;.rename_i ah4;exact absurd (ahZ ah4) (by simp[an,ba])
    split at kH;.rename_i ah5;exact absurd (ah0 ah5) (by simp[an,ba])
    exact kH
   have Kx:x.dst.getD 9999≠d:=by cases Kx:x.dst with|none=>simp only[Option.getD_none];exact λe=>by rw[<-e]at Xu;exact absurd Xu (xbV _)|some e=>simp only[xbe];rintro rfl;exact af e Kx uz
   obtain⟨Xv,cR⟩:=ahR (T:=T) (ev:=cj G aK) (cF.Km P0 o) Kx P0 (λau=>by rw[cZ _ _ Kx];exact au) hex;refine PY ah3 ⟨po,?_,rfl,Xk po cR⟩;obtain⟨cB,dx⟩:=ahY Xv (cv objs d (some o));show res T G ⟨aK,cv objs d (some o)⟩ x=some (rx,po);unfold res;simp only[cB,dx];exact Xv
def qj{o:Oper}{σ:aI}{K K':aI->Prop}(ak:∀σ,K σ->K' σ)(h:dc P T G o K σ):dc P T G o K' σ:=by
 unfold dc at*;split;.rename_i e;rw[e]at h;exact ak _ h
 rename_i e;rw[e]at h;exact EB h λr av=>ak _ av
def EG{o:Oper}{σ:aI}{K K':aI->Prop}(ak:∀σ,K σ->K' σ)(h:eA P T G all o K σ):eA P T G all o K' σ:=by
 rw[hM]at*;split;.rename_i e;rw[e]at h;exact qj ak h
 .rename_i e;rw[e]at h;exact ak _ h
 rename_i e;rw[e]at h;exact h
def wo{o:Oper}{σ:aI}{K K':aI->Prop}(ak:∀objs r,K (aI.put ⟨σ.aK,objs⟩ o.dst r)->K' (aI.put ⟨σ.aK,objs⟩ o.dst r))(h:dc P T G o K σ):dc P T G o K' σ:=by unfold dc at*;rw[wj]at*;cases av:res T G σ o with|none=>simp only[av,xbm]at h⊢;exact EB h λr av=>ak σ.objs r av|some p=>simp only[av,xaQ]at h⊢;exact ak _ _ h
def swap{x y:Oper}{σ:aI}{K:aI->Prop}(hF:x.apart all y=true)(aU:pass x y=true)(h:eA P T G all x (λgD=>eA P T G all y K gD) σ):eA P T G all y (λgj=>eA P T G all x K gj) σ:=by
 obtain⟨an,ba,b2⟩:=Oper.apart_spec hF;have mQ:∀d,y.dst=some d->x.dst≠some d:=λd aA ag=>ba d ag aA;rw[hM]at h;have P1:∀(objs:cF)(r:aS),j2 all (aI.put ⟨σ.aK,objs⟩ x.dst r) y=j2 all σ y:=λobjs r=>by rw[ou an];rfl
 have EH:∀(objs:cF)(r:aS),j2 all (aI.put ⟨σ.aK,objs⟩ y.dst r) x=j2 all σ x:=λobjs r=>by rw[ou b2];rfl
 split at h
 .rename_i ag;rw[hM];have bD:dc P T G x (λgD=>match j2 all σ y with|some true=>dc P T G y K gD|some false=>K (gD.put y.dst (.d (.val (.tuple #[]))))|none=>False) σ:=by
   refine wo (λobjs r ak=>?_) h;rw[hM,P1]at ak;exact ak
  cases ye:j2 all σ y with
  |none=>
   simp only[ye]at bD;unfold dc at bD;split at bD;.exact bD
   unfold jI at bD;split at bD
   .split at bD;.obtain⟨_,_,_,_,_,_,⟨r,rfl⟩,_,q⟩:=bD;exact q r rfl
    exact bD
   exact bD
  |some b=>
   cases b with
   |false=>
    simp only[ye]at bD;show eA P T G all x K (σ.put y.dst (.d (.val (.tuple #[]))));rw[hM];have:j2 all (σ.put y.dst (.d (.val (.tuple #[])))) x=some true:=by rw[ou b2];exact ag
    simp only[this];rw[jJ b2 mQ];exact bD
   |true=>simp only[ye]at bD;have af:=Xo an ba b2 aU bD;show dc P T G y (λgj=>eA P T G all x K gj) σ;refine wo (λobjs r ak=>?_) af;rw[hM,EH,ag];exact ak
 .rename_i ag;rw[hM,ou an]at h;rw[hM];split at h
  .rename_i aP
   try simp only[aP]
   rw[jJ an ba]at h;refine wo (λobjs r ak=>?_) h;rw[hM,EH,ag];exact ak
  .rename_i aP
   try simp only[aP]
   show eA P T G all x K (σ.put y.dst (.d (.val (.tuple #[]))));rw[hM,ou b2,ag];show K _;rw[put_comm mQ];exact h
  exact h.elim
 exact h.elim
def ah6{o:Oper}{σ:aI}{K K':aI->Prop}(h:dc P T G o K σ)(ak:∀aW r,aW=σ.put o.dst (.d r)->K aW->K' aW)(cf:hE o.op=true):dc P T G o K' σ:=by
 rw[nO (uA cf)]at h⊢;unfold jI at*;split
 .rename_i x args dJ eI;rw[eI]at h;simp only at h;split;.rename_i f pre post gW;simp only[gW]at h;obtain⟨nq,aO,R,ab,af,aw,a5,ca,cP⟩:=h;exact⟨nq,aO,R,ab,af,aw,a5,ca,λr av=>ak _ r rfl (cP r av)⟩
  rename_i gW;simp only[gW]at h
 rename_i eI;split at h;.rename_i x args dJ e;exact absurd e (eI x args dJ)
 exact h
def cF.low(objs objs':cF):Prop:=∀k o,objs k=some o->o≠ .dead->objs' k=some o
def Xw{objs objs':cF}(h:objs.low objs'){x:aS}{d:D}(ar:q8 objs x=some d):q8 objs' x=some d:=by
 unfold q8 at*;split at ar;.exact ar
 .split at ar;.rename_i ak;rw[h _ _ ak (by simp)];exact ar
  cases ar
 .split at ar;.rename_i ak;rw[h _ _ ak (by simp)];exact ar
  cases ar
 .split at ar;.rename_i ak;rw[h _ _ ak (by simp)];exact ar
  cases ar
 cases ar
def Ky{objs objs':cF}(h:objs.low objs'){x:aS}{d:D}(ar:nn objs x=some d):nn objs' x=some d:=by
 unfold nn at*;split at ar
 .split at ar
  case h_2=>cases ar
  rename_i ak;simp only[h _ _ ak (by simp)];split at ar
  case h_2=>cases ar
  rename_i cs hL;rw[pj (λx d ag=>Xw h ag) _ _ hL];exact ar
 .exact ar
 exact Xw h ar
def Xx{objs objs':cF}(h:objs.low objs'){x:aS}{d:D}(ar:ot objs x=some d):ot objs' x=some d:=by
 unfold ot at*;split at ar
 .split at ar
  case h_2=>cases ar
  rename_i aO e1;rw[pj (λx d ag=>Ky h ag) _ _ e1];exact ar
 .split at ar
  case h_2=>cases ar
  rename_i as ki has Ey;rw[pj (λx d ag=>Ky h ag) _ _ has,pj (λx d ag=>Ky h ag) _ _ Ey];exact ar
 exact Ky h ar
def ah7{objs objs':cF}(h:objs.low objs'){x:aS}{d:D}(ar:toD objs x=some d):toD objs' x=some d:=by
 unfold toD at*;split at ar
 .split at ar
  case h_2=>cases ar
  rename_i aO e1;rw[pj (λx d ag=>Xx h ag) _ _ e1];exact ar
 exact Xx h ar
def Xy{objs objs':cF}(h:objs.low objs'){x:aS}{n:Nat}(ar:kf objs x=some n):kf objs' x=some n:=by
 unfold kf at*;split at ar;.exact ar
 .exact ar
 .split at ar;.rename_i ak;rw[h _ _ ak (by simp)];exact ar
  cases ar
 .exact ar
 cases ar
def Kz{objs objs':cF}(h:objs.low objs'){x:aS}{b:Bool}(ar:mO objs x=some b):mO objs' x=some b:=by
 unfold mO at*;split at ar;.exact ar
 .exact ar
 .split at ar;.rename_i ak;rw[h _ _ ak (by simp)];exact ar
  cases ar
 cases ar
def ah8{T:ch}{ev:Operand->aS}{objs objs':cF}(h:objs.low objs'){op:Op}{r:aS}(hm:dH T ev objs op=some r):dH T ev objs' op=some r:=by
 cases op<;>simp only[dH,reduceCtorEq]at hm⊢
 case load t a=>
  split at hm
  case h_2=>cases hm
  split at hm;.exact hm
  .split at hm
   case h_2=>cases hm
   rename_i ak;simp only[h _ _ ak (by simp)];exact hm
  .split at hm
   case h_2=>cases hm
   rename_i ak;simp only[h _ _ ak (by simp)];exact hm
  cases hm
 case indexAddr t x fA=>
  split at hm
  .split at hm
   case h_2=>cases hm
   split at hm
   case isFalse=>cases hm
   rename_i au;rw[xad au];split at hm;.exact hm
   .split at hm
    case h_2=>cases hm
    rename_i ak;simp only[h _ _ ak (by simp)];exact hm
   .exact hm
   cases hm
  .exact hm
  cases hm
 case slice t x lo ah hz=>
  cases hz with
  |some _=>simp[dH]at hm
  |none=>
   simp only[dH]at hm⊢;split at hm
   case h_3=>cases hm
   case h_2=>exact hm
   split at hm
   case h_2=>cases hm
   split at hm
   case h_2=>cases hm
   rename_i n aL;simp only[Xy h aL];split at hm
   case h_2=>cases hm
   split at hm
   case isFalse=>cases hm
   rename_i ao;rw[xad ao];split at hm;.exact hm
   .split at hm
    case h_2=>cases hm
    rename_i ak;simp only[h _ _ ak (by simp)];exact hm
   .exact hm
   cases hm
 case call c=>
  split at hm
  case h_2=>cases hm
  split at hm
  case h_2=>cases hm
  split at hm;.exact hm
  .split at hm
   case h_2=>cases hm
   rename_i n aL;simp only[Xy h aL];exact hm
  .exact hm
  .exact hm
  .split at hm
   case h_2=>cases hm
   rename_i ak;simp only[h _ _ ak (by simp)];exact hm
  cases hm
 case lookup t x k ok=>
  split at hm
  case h_2=>cases hm
  split at hm;.exact hm
  .exact hm
  .split at hm
   case h_2=>cases hm
   rename_i ak;simp only[h _ _ ak (by simp)];exact hm
  cases hm
 case binOp op t x y xZ=>
  split at hm
  case h_2=>cases hm
  split at hm
  .split at hm
   .rename_i ao;rw[xad ao];split at hm
    case h_2=>cases hm
    rename_i b aj;simp only[Kz h aj];exact hm
   rename_i ao;rw[xaa ao];split at hm
   case isFalse=>cases hm
   rename_i pk;rw[xad pk];split at hm
   case h_2=>cases hm
   rename_i b aj;simp only[Kz h aj];exact hm
  .split at hm
   .rename_i ao;rw[xad ao];split at hm
    case h_2=>cases hm
    rename_i b aj;simp only[Kz h aj];exact hm
   rename_i ao;rw[xaa ao];split at hm
   case isFalse=>cases hm
   rename_i pk;rw[xad pk];split at hm
   case h_2=>cases hm
   rename_i b aj;simp only[Kz h aj];exact hm
  cases hm
def EI(T:ch)(x:Oper):Bool:=match x.op with| .buildSlice _ _ _=>T.born (x.dst.getD 9999)|_=>false
def yf(T:ch)(x y:Oper):Bool:=pass x y||(hE x.op&&hE y.op)||(EI T x&&(hE y.op||jk y.op))
def ah9{x:Oper}{σ:aI}(aj:EI T x=true){p:aS×List (Key×cV)}(h:res T G σ x=some p):σ.objs (x.dst.getD 9999)=none/\p.2=[(x.dst.getD 9999,.dead)]:=by
 unfold EI at aj;split at aj
 case h_2=>cases aj
 rename_i t n parts eI;have ak:qg x.op=true:=by rw[eI];rfl
 obtain⟨aJ,aZ⟩:=ra (T:=T) (ev:=cj G σ.aK) (objs:=σ.objs) ak;unfold res at h;rw[aJ,aZ]at h;obtain⟨q,ab,af⟩:=wb h;rw[eI]at ab;simp only[et]at ab;split at ab
 case h_2=>cases ab
 rename_i e s b z aM au;split at ab
 case h_2=>cases ab
 split at ab
 case h_2=>cases ab
 split at ab
 case isFalse=>cases ab
 cases ab;refine⟨au,?_⟩;rw[<-af];simp[q6,aj]
def aia{x y:Oper}{σ:aI}{K:aI->Prop}(ab:∀d,x.dst=some d->d∉y.looksAt all)(af:∀d,x.dst=some d->y.dst≠some d)(aw:∀d,y.dst=some d->d∉x.looksAt all)(Kw:hE x.op=true)(aib:hE y.op=true\/False) (h:dc P T G x (λgD=>dc P T G y K gD) σ):dc P T G y (λgj=>dc P T G x K gj) σ:=by
 have h5:∀d,y.dst=some d->x.dst≠some d:=λd aA ag=>af d ag aA;have KA:hE y.op=true:=aib.resolve_right id;rw[nO (uA Kw)]at h;unfold jI at h;split at h
 case h_2=>cases h
 rename_i Xq args dJ eI;split at h
 case h_2=>cases h
 rename_i f pre post gW;obtain⟨nq,aO,R,bA,bB,cz,⟨jH,rfl⟩,fk,hh⟩:=h;have Bn:dc P T G y K (aI.put σ x.dst (.d jH)):=hh jH rfl;rw[jJ ab af]at Bn;refine ah6 Bn (λaW r he ak=>?_) KA;subst he;rw[jJ aw h5,nO (uA Kw)];unfold jI;rw[eI];simp only[gW];refine⟨nq,aO,_,bA,bB,cz,⟨jH,rfl⟩,fk,λr av=>?_⟩;subst av;rw[put_comm af];exact ak
def aic{x y:Oper}{σ:aI}{K:aI->Prop}(ab:∀d,x.dst=some d->d∉y.looksAt all)(af:∀d,x.dst=some d->y.dst≠some d)(aw:∀d,y.dst=some d->d∉x.looksAt all)(KB:EI T x=true)(aid:hE y.op=true\/jk y.op=true) (h:dc P T G x (λgD=>dc P T G y K gD) σ):dc P T G y (λgj=>dc P T G x K gj) σ:=by
 have h5:∀d,y.dst=some d->x.dst≠some d:=λd aA ag=>af d ag aA;cases kH:res T G σ x with
 |none=>
  rw[nO kH]at h;have:=yc h;unfold EI at KB;split at KB
  .rename_i eI;rw[eI]at this;cases this
  cases KB
 |some p=>
  obtain⟨rx,cC⟩:=p;obtain⟨aL,hu⟩:=ah9 KB kH;simp only at hu;subst hu;rw[mn kH]at h;have aP:dc P T G y K (aI.put ⟨σ.aK,dI σ.objs [(x.dst.getD 9999,.dead)]⟩ x.dst rx):=h;rw[jJ ab af]at aP;have KC:cF.low (dI σ.objs [(x.dst.getD 9999,.dead)]) σ.objs:=by
   intro k o ak aG;simp only[dI]at ak;by_cases e:k=x.dst.getD 9999;.subst e;rw[fb]at ak;cases ak;exact absurd rfl aG
   rwa [cZ _ _ e]at ak
  rcases aid with KA|Xz
  case inr=>
   have wi:hE y.op=false:=by cases cf:hE y.op with|false=>rfl|true=>have:=(EA cf).2.1;rw[Xz]at this;cases this
   have key:∀p,res T G ⟨σ.aK,dI σ.objs [(x.dst.getD 9999,.dead)]⟩ y=some p->p.2=[]/\res T G σ y=some p:=by
    intro p aU;have he:∀objs d,hg T (cj G σ.aK) objs d y.op=none:=λobjs d=>Bl Xz;unfold res at aU⊢;cases XA:eZ T (cj G σ.aK) y.op with
    |some r=>simp only[XA]at aU⊢;cases aU;exact⟨rfl,rfl⟩
    |none=>
     simp only[XA]at aU⊢;cases sQ:dH T (cj G σ.aK) (dI σ.objs [(x.dst.getD 9999,.dead)]) y.op with
     |none=>simp only[sQ,he]at aU;cases aU
     |some r=>simp only[sQ]at aU;cases aU;rw[ah8 KC sQ];exact⟨rfl,rfl⟩
   cases j3:res T G ⟨σ.aK,dI σ.objs [(x.dst.getD 9999,.dead)]⟩ y with
   |none=>rw[nO j3]at aP;have:=yc aP;rw[wi]at this;cases this
   |some p=>obtain⟨qi,rb⟩:=p;obtain⟨cB,dx⟩:=key _ j3;simp only at cB;subst cB;rw[mn j3]at aP;rw[mn dx];show dc P T G x K (aI.put σ y.dst qi);rw[jJ aw h5,mn kH];unfold aI.step;rw[put_comm af];exact aP
  rw[nO (uA KA)]at aP;rw[nO (uA KA)];unfold jI at aP⊢;split at aP
  case h_2=>cases aP
  rename_i Xq args dJ eI;split at aP
  case h_2=>cases aP
  rename_i f pre post gW;obtain⟨nq,aO,R,bA,bB,cz,⟨jH,rfl⟩,fk,hh⟩:=aP;simp only[eI,gW];refine⟨nq,aO,_,pj (λx d ag=>ah7 KC ag) _ _ bA,bB,cz,⟨jH,rfl⟩,fk,λr av=>?_⟩;subst av;have:=hh r rfl;rw[jJ aw h5,mn kH];unfold aI.step;rw[put_comm af];exact this
def aie{x y:Oper}{σ:aI}{K:aI->Prop}(ab:∀d,x.dst=some d->d∉y.looksAt all)(af:∀d,x.dst=some d->y.dst≠some d)(aw:∀d,y.dst=some d->d∉x.looksAt all)(aU:yf T x y=true) (h:dc P T G x (λgD=>dc P T G y K gD) σ):dc P T G y (λgj=>dc P T G x K gj) σ:=by
 unfold yf at aU;rw[xbd,xbd]at aU;rcases aU with(aU|aU)|aU
 .exact Xo ab af aw aU h
 .rw[xal]at aU;exact aia ab af aw aU.1 (.inl aU.2) h
 rw[xal,xbd]at aU;exact aic ab af aw aU.1 aU.2 h
def swapT{x y:Oper}{σ:aI}{K:aI->Prop}(hF:x.apart all y=true)(aU:yf T x y=true)(h:eA P T G all x (λgD=>eA P T G all y K gD) σ):eA P T G all y (λgj=>eA P T G all x K gj) σ:=by
 obtain⟨an,ba,b2⟩:=Oper.apart_spec hF;have mQ:∀d,y.dst=some d->x.dst≠some d:=λd aA ag=>ba d ag aA;rw[hM]at h;have P1:∀(objs:cF)(r:aS),j2 all (aI.put ⟨σ.aK,objs⟩ x.dst r) y=j2 all σ y:=λobjs r=>by rw[ou an];rfl
 have EH:∀(objs:cF)(r:aS),j2 all (aI.put ⟨σ.aK,objs⟩ y.dst r) x=j2 all σ x:=λobjs r=>by rw[ou b2];rfl
 split at h
 .rename_i ag;rw[hM];have bD:dc P T G x (λgD=>match j2 all σ y with|some true=>dc P T G y K gD|some false=>K (gD.put y.dst (.d (.val (.tuple #[]))))|none=>False) σ:=by
   refine wo (λobjs r ak=>?_) h;rw[hM,P1]at ak;exact ak
  cases ye:j2 all σ y with
  |none=>
   simp only[ye]at bD;unfold dc at bD;split at bD;.exact bD
   unfold jI at bD;split at bD
   .split at bD;.obtain⟨_,_,_,_,_,_,⟨r,rfl⟩,_,q⟩:=bD;exact q r rfl
    exact bD
   exact bD
  |some b=>
   cases b with
   |false=>
    simp only[ye]at bD;show eA P T G all x K (σ.put y.dst (.d (.val (.tuple #[]))));rw[hM];have:j2 all (σ.put y.dst (.d (.val (.tuple #[])))) x=some true:=by rw[ou b2];exact ag
    simp only[this];rw[jJ b2 mQ];exact bD
   |true=>simp only[ye]at bD;have af:=aie an ba b2 aU bD;show dc P T G y (λgj=>eA P T G all x K gj) σ;refine wo (λobjs r ak=>?_) af;rw[hM,EH,ag];exact ak
 .rename_i ag;rw[hM,ou an]at h;rw[hM];split at h
  .rename_i aP
   try simp only[aP]
   rw[jJ an ba]at h;refine wo (λobjs r ak=>?_) h;rw[hM,EH,ag];exact ak
  .rename_i aP
   try simp only[aP]
   show eA P T G all x K (σ.put y.dst (.d (.val (.tuple #[]))));rw[hM,ou b2,ag];show K _;rw[put_comm mQ];exact h
  exact h.elim
 exact h.elim
def hY(P:Program)(T:ch)(G:dr)(all:Array Oper)(i:Nat)(K:aI->Prop)(σ:aI):Prop:=match all[i]? with|none=>K σ|some o=>eA P T G all o K σ
def wq{i:Nat}{σ:aI}{K K':aI->Prop}(ak:∀σ,K σ->K' σ)(h:hY P T G all i K σ):hY P T G all i K' σ:=by
 unfold hY at*;split;.rename_i e;simp only[e]at h;exact ak _ h
 rename_i o e;simp only[e]at h;exact EG ak h
def jl(P:Program)(T:ch)(G:dr)(all:Array Oper)(K:aI->Prop):Nat->Array Bool->aI->Prop
 |0,listed,σ=>Region.ready .any all listed=[]/\K σ|fuel+1,listed,σ=>(Region.ready .any all listed=[]->K σ)/\∀i∈Region.ready .any all listed,hY P T G all i (jl P T G all K fuel (listed.setIfInBounds i true)) σ
def P2{K:aI->Prop}{i:Nat}{fv:Oper}(ah:all[i]?=some fv){B:List Nat}(gL:∀j c8,j∈B->all[j]?=some c8->∃e∈c8.after,Region.binds .any e=true/\(e.on=i\/e.on∈B)):∀(fuel:Nat)(listed:Array Bool)(σ:aI),(∀j,j∈B->listed.getD j true=false)->(∀j c8,all[j]?=some c8->j≠i->listed.getD j true=false->j∉B->fv.apart all c8=true/\yf T fv c8=true)->i∈Region.ready .any all listed->(¬∃aW,K aW)\/True->hY P T G all i (jl P T G all K fuel (listed.setIfInBounds i true)) σ->jl P T G all K (fuel+1) listed σ:=by
 intro fuel
 induction fuel with
 |zero=>
  intro listed σ re ov av _ H;refine⟨λh=>(by rw[h]at av;cases av),λj aN=>?_⟩;by_cases jd:j=i;.subst jd;exact H
  have hm:=ready_mono aN jd;exfalso;have key:Region.ready .any all (listed.setIfInBounds i true)=[]:=by
   unfold hY at H;simp only[ah]at H;rw[hM]at H;split at H
   .unfold dc at H;split at H;.exact H.1
    unfold jI at H;split at H
    .split at H;.obtain⟨_,_,_,_,_,_,⟨r,nP⟩,_,q⟩:=H;exact(q r (by rw[nP])).1
     exact H.elim
    exact H.elim
   .exact H.1
   exact H.elim
  rw[key]at hm;cases hm
 |succ fuel ih=>
  intro listed σ re ov av _ H;refine⟨λh=>(by rw[h]at av;cases av),λj aN=>?_⟩;by_cases jd:j=i;.subst jd;exact H
  obtain⟨wu,c8,jm,gB⟩:=xbK.1 aN;have uq:∀k,listed.getD k true=false->listed[k]?.getD false=true->False:=λk au ab=>by
   rcases Nat.lt_or_ge k listed.size with bD|bD;.simp[bD]at au ab;rw[au]at ab;cases ab
   simp[Array.getElem?_eq_none bD]at ab
  have wv:j∉B:=λEJ=>by
   obtain⟨e,he,aj,mR⟩:=gL j c8 EJ jm;have ab:=gB e he aj;rcases mR with mR|mR
   .rw[mR]at ab;exact uq i (xbK.1 av).1 (by simpa using ab)
   exact uq _ (re _ mR) (by simpa using ab)
  obtain⟨dE,di⟩:=ov j c8 jm jd wu wv;have ab:hY P T G all i (λgD=>hY P T G all j (jl P T G all K fuel ((listed.setIfInBounds i true).setIfInBounds j true)) gD) σ:=wq (λgD uB=>uB.2 j (ready_mono aN jd)) H;have af:hY P T G all j (λgj=>hY P T G all i (jl P T G all K fuel ((listed.setIfInBounds i true).setIfInBounds j true)) gj) σ:=by unfold hY at ab⊢;simp only[ah,jm]at ab⊢;exact swapT dE di ab
  have EK:∀k ok,all[k]?=some ok->k≠i->(listed.setIfInBounds j true).getD k true=false->k∉B->fv.apart all ok=true/\yf T fv ok=true:=λk ok ak rf ow iv=>by
   refine ov k ok ak rf ?_ iv;by_cases gC:j=k;.subst gC;exact wu
   rw[getD_set_ne true gC]at ow;exact ow
  refine wq (λgj aw=>ih (listed.setIfInBounds j true) gj (λk ak=>by
   have gC:j≠k:=by rintro rfl;exact wv ak
   rw[getD_set_ne true gC];exact re k ak) EK (ready_mono av (Ne.symm jd)) (.inr trivial) ?_) af
  rw[Array.setIfInBounds_comm _ _ jd];exact aw
def aif{K:aI->Prop}{i:Nat}{fv:Oper}(ah:all[i]?=some fv){B:List Nat}(gL:∀j c8,j∈B->all[j]?=some c8->∃e∈c8.after,Region.binds .any e=true/\(e.on=i\/e.on∈B))(fuel:Nat)(listed:Array Bool)(σ:aI) (au:∀j,j∈B->listed.getD j true=false) (bd:∀j c8,all[j]?=some c8->j≠i->listed.getD j true=false->j∉B->fv.apart all c8=true/\pass fv c8=true) (av:i∈Region.ready .any all listed) (ag:(¬∃aW,K aW)\/True) (h:hY P T G all i (jl P T G all K fuel (listed.setIfInBounds i true)) σ):jl P T G all K (fuel+1) listed σ:=P2 ah gL fuel listed σ au (λj c8 a b c d=>⟨(bd j c8 a b c d).1,by unfold yf;rw[(bd j c8 a b c d).2];rfl⟩) av ag h
def waits(all:Array Oper)(i:Nat):List Nat:=(List.range all.size).foldl (λacc j=>match all[j]? with
  |some c8=>if c8.after.any (λe=>Region.binds .any e&&(e.on==i||acc.contains e.on))then acc++[j]else acc
  |none=>acc) []
def KD(p:Oper->Oper->Bool)(all:Array Oper)(listed:Array Bool)(i:Nat)(B:List Nat):Bool:=match all[i]? with|none=>false|some fv=>(B.all λj=>!listed.getD j true&&match all[j]? with|some c8=>c8.after.any λe=>Region.binds .any e&&(e.on==i||B.contains e.on)|none=>false)&&(List.range all.size).all λj=>j==i||listed.getD j true||B.contains j||match all[j]? with|some c8=>fv.apart all c8&&p fv c8|none=>true
def XB(all:Array Oper)(listed:Array Bool)(i:Nat)(B:List Nat):Bool:=KD pass all listed i B
def aih(all:Array Oper)(listed:Array Bool)(i:Nat):Bool:=XB all listed i (waits all i)
def XC(T:ch)(all:Array Oper)(listed:Array Bool)(i:Nat):Bool:=KD (yf T) all listed i (waits all i)
def P3{p:Oper->Oper->Bool}{i:Nat}{fv:Oper}{listed:Array Bool}(ah:all[i]?=some fv){B:List Nat}(h:KD p all listed i B=true):(∀j c8,j∈B->all[j]?=some c8->∃e∈c8.after,Region.binds .any e=true/\(e.on=i\/e.on∈B))/\(∀j,j∈B->listed.getD j true=false)/\ ∀j c8,all[j]?=some c8->j≠i->listed.getD j true=false->j∉B->fv.apart all c8=true/\p fv c8=true:=by
 simp only[KD,ah,xal,xaz,xbX]at h;refine⟨λj c8 aN jm=>?_,λj aN=>by simpa using(h.1 j aN).1,λj c8 jm cR ow iv=>?_⟩;.have ab:=(h.1 j aN).2;simp only[jm]at ab;obtain⟨e,he,aj⟩:=Array.any_eq_true'.1 ab;simp only[xal,xbd,xbz,List.contains_iff_mem]at aj;exact⟨e,he,aj.1,aj.2⟩
 have ab:=h.2 j (xaT.1 jm).1;simp only[jm,xbd,xbz,cR,false_or,ow,xav,xal,List.contains_iff_mem,iv]at ab;exact ab
def aii{i:Nat}{fv:Oper}{listed:Array Bool}(ah:all[i]?=some fv){B:List Nat}(h:XB all listed i B=true):(∀j c8,j∈B->all[j]?=some c8->∃e∈c8.after,Region.binds .any e=true/\(e.on=i\/e.on∈B))/\(∀j,j∈B->listed.getD j true=false)/\ ∀j c8,all[j]?=some c8->j≠i->listed.getD j true=false->j∉B->fv.apart all c8=true/\pass fv c8=true:=P3 ah h
def yg(T:ch)(all:Array Oper):List Nat->Array Bool->Bool
 |[],listed=>(Region.ready .any all listed).isEmpty|i::r,listed=>(Region.ready .any all listed).contains i&&XC T all listed i&&yg T all r (listed.setIfInBounds i true)
def Bo(P:Program)(T:ch)(G:dr)(all:Array Oper):List Nat->(aI->Prop)->aI->Prop
 |[],K,σ=>K σ|i::r,K,σ=>match all[i]? with|some o=>eA P T G all o (Bo P T G all r K) σ|none=>False
def XD{K:aI->Prop}:∀(ord:List Nat)(listed:Array Bool)(σ:aI),yg T all ord listed=true->Bo P T G all ord K σ->jl P T G all K ord.length listed σ
 |[],listed,σ,gL,h=>⟨by simpa[yg]using gL,h⟩
 |i::r,listed,σ,gL,h=>by
  simp only[yg,xal]at gL;obtain⟨⟨av,bd⟩,uC⟩:=gL;unfold Bo at h;split at h
  case h_2=>cases h
  rename_i o ah;obtain⟨bA,bB,cz⟩:=P3 ah bd;refine P2 ah bA r.length listed σ bB cz (by simpa using av) (.inr trivial) ?_;unfold hY;simp only[ah];exact EG (λaW uB=>XD r _ aW uC uB) h
def P4{m:Mem}{fr:fL}{N:Nat}(bf:dN P T){K:aI->Prop}{Q:Exit->Act->World->Prop}(g2:∀o∈all,∀d,o.dst=some d->d<N):∀(fuel:Nat)(listed:Array Bool)(m:Mem)(ρ:dg)(σ:aI)(a:Act)(w:World),kB G m->Den m fr ρ σ a w->N<=a.tmps.size->a.defers=[]->jl P T G all K fuel listed σ->(∀cD w',ja N m fr ρ σ K cD w'->Q .normal cD w')->wpAny P .any all Q fuel listed a w
 |0,listed,m,ρ,σ,a,w,c6,h,cc,hD,a6,hp=>⟨a6.1,hp a w ⟨σ,m,ρ,a6.2,Mem.le_refl m,h,cc,hD,k0.refl _ _⟩⟩|fuel+1,listed,m,ρ,σ,a,w,c6,h,cc,hD,a6,hp=>by refine⟨λau=>hp a w ⟨σ,m,ρ,a6.1 au,Mem.le_refl m,h,cc,hD,k0.refl _ _⟩,λi ah=>?_⟩;have ab:=a6.2 i ah;obtain⟨_,o,aG,_⟩:=xbK.1 ah;unfold hY at ab;simp only[aG]at ab;refine wpOp_mono ?_ (PV bf c6 h cc hD aG (g2 o (Array.mem_of_getElem? aG)) ab);rintro cD w' ⟨aW,cI,cX,bA,bB,cz,ey,fk,hh⟩;refine P4 (m:=m) bf g2 fuel _ cI cX aW cD w' (c6.mono bB) cz ey fk bA ?_;rintro pq k1 ⟨rh,yh,yi,dE,di,eY,jn,lu,pr⟩;exact hp pq k1 ⟨rh,yh,yi,dE,Mem.le_trans bB di,eY,jn,lu,hh.trans pr⟩
end
def g3(σ τ:aI):Prop:=∀m fr ρ a w,Den m fr ρ σ a w->∃cI cX,m.le cI/\Den cI fr cX τ a w/\k0 σ ρ τ cX
def g3.refl(σ:aI):g3 σ σ:=λm fr ρ a w h=>⟨m,ρ,Mem.le_refl m,h,k0.refl _ _⟩
def g3.trans{σ τ yj:aI}(h:g3 σ τ)(bD:g3 τ yj):g3 σ yj:=λm fr ρ a w c2=>
 let⟨gx,np,ab,af,aw⟩:=h m fr ρ a w c2
 let⟨kk,lq,a5,ca,cP⟩:=bD gx fr np a w af
 ⟨kk,lq,Mem.le_trans ab a5,ca,aw.trans cP⟩
def hq(P:Program)(T:ch)(G:dr)(N:Nat)(c:Code)(σ:aI)(Q:Exit->aI->Prop):Prop:= ∀m fr ρ a w,kB G m->Den m fr ρ σ a w->N<=a.tmps.size->a.defers=[]->c.wp P (λe cD w'=>ja N m fr ρ σ (Q e) cD w') a w
def KE(K:aI->Prop)(Q:Exit->aI->Prop):Exit->aI->Prop
 | .normal,σ=>K σ|e,σ=>Q e σ
def EL(id:Nat)(Q:Exit->aI->Prop):Exit->aI->Prop
 | .exit uD,σ=>if uD=id then Q .normal σ else Q (.exit uD) σ
 |e,σ=>Q e σ
section
variable{P:Program}{T:ch}{G:dr}{N:Nat}{σ:aI}{Q:Exit->aI->Prop}
def ja.mono{m:Mem}{fr:fL}{ρ:dg}{K K':aI->Prop}(ak:∀σ,K σ->K' σ){a:Act}{w:World}(h:ja N m fr ρ σ K a w):ja N m fr ρ σ K' a w:=
 let⟨aW,cI,cX,ab,af⟩:=h;⟨aW,cI,cX,ak _ ab,af⟩
def Bp{c:Code}{XE:Exit->aI->Prop}(h:hq P T G N c σ Q)(bj:∀e σ,Q e σ->XE e σ):hq P T G N c σ XE:=λm fr ρ a w c6 c2 cc aA=>wp_mono (h m fr ρ a w c6 c2 cc aA) λe cD w' av=>av.mono (bj e)
def aij(h:Q .normal σ):hq P T G N .skip σ Q:=λm fr ρ a w c6 c2 cc aA=>wp_skip ⟨σ,m,ρ,h,Mem.le_refl m,c2,cc,aA,k0.refl _ _⟩
def aik{l:Nat}(h:Q .normal σ):hq P T G N (.label l) σ Q:=λm fr ρ a w c6 c2 cc aA=>wp_label ⟨σ,m,ρ,h,Mem.le_refl m,c2,cc,aA,k0.refl _ _⟩
def ail{id:Nat}(h:Q (.exit id) σ):hq P T G N (.exit id) σ Q:=λm fr ρ a w c6 c2 cc aA=>wp_exit ⟨σ,m,ρ,h,Mem.le_refl m,c2,cc,aA,k0.refl _ _⟩
def aim(h:Q .ret σ):hq P T G N .ret σ Q:=λm fr ρ a w c6 c2 cc aA=>wp_ret ⟨σ,m,ρ,h,Mem.le_refl m,c2,cc,aA,k0.refl _ _⟩
def ja.trans{m gx:Mem}{fr:fL}{ρ np:dg}{gD:aI}{K:aI->Prop}{a:Act}{w:World}(hm:m.le gx)(ak:k0 σ ρ gD np)(h:ja N gx fr np gD K a w):ja N m fr ρ σ K a w:=
 let⟨aW,cI,cX,ab,af,aw,a5,ca,cP⟩:=h;⟨aW,cI,cX,ab,Mem.le_trans hm af,aw,a5,ca,ak.trans cP⟩
def ain{x y:Code}(h:hq P T G N x σ (KE (λaW=>hq P T G N y aW Q) Q)):hq P T G N (.seq x y) σ Q:=by intro m fr ρ a w c6 c2 cc aA;refine wp_seq (wp_mono (h m fr ρ a w c6 c2 cc aA) ?_);rintro e cD w' ⟨aW,cI,cX,ab,af,aw,a5,ca,cP⟩;cases e with|normal=>exact wp_mono (ab cI fr cX cD w' (c6.mono af) aw a5 ca) λe pq k1 av=>av.trans af cP|exit id=>exact⟨aW,cI,cX,ab,af,aw,a5,ca,cP⟩|goto l=>exact⟨aW,cI,cX,ab,af,aw,a5,ca,cP⟩|ret=>exact⟨aW,cI,cX,ab,af,aw,a5,ca,cP⟩|panic c=>exact⟨aW,cI,cX,ab,af,aw,a5,ca,cP⟩|outgrown=>exact⟨aW,cI,cX,ab,af,aw,a5,ca,cP⟩
def aio(Q:Exit->aI->Prop):Exit->aI->Prop
 | .goto _,_=>False|e,σ=>Q e σ
def aip{c:Code}(h:hq P T G N c σ (aio Q)):hq P T G N (.scope c) σ Q:=by intro m fr ρ a w c6 c2 cc aA;refine wp_scope_straight (wp_mono (h m fr ρ a w c6 c2 cc aA) ?_);rintro e cD w' ⟨aW,cI,cX,ab,af,aw,a5,ca,cP⟩;cases e with|goto l=>exact ab.elim|normal=>exact⟨aW,cI,cX,ab,af,aw,a5,ca,cP⟩|exit id=>exact⟨aW,cI,cX,ab,af,aw,a5,ca,cP⟩|ret=>exact⟨aW,cI,cX,ab,af,aw,a5,ca,cP⟩|panic c=>exact⟨aW,cI,cX,ab,af,aw,a5,ca,cP⟩|outgrown=>exact⟨aW,cI,cX,ab,af,aw,a5,ca,cP⟩
def KF{c:Operand}{x y:Code}{b:Bool}(ao:cj G σ.aK c= .d (.val (.bool b)))(h:if b=true then hq P T G N x σ Q else hq P T G N y σ Q):hq P T G N (.cond c x y) σ Q:=by
 intro m fr ρ a w c6 c2 cc aA;have a6:=Ee (a:=a) c6 c2.aK c;rw[ao]at a6;refine wp_cond a6.hX ?_;cases b
 .exact h m fr ρ a w c6 c2 cc aA
 exact h m fr ρ a w c6 c2 cc aA
def aiq{id:Nat}{c:Code}(h:hq P T G N c σ (EL id Q)):hq P T G N (.block id c) σ Q:=by
 intro m fr ρ a w c6 c2 cc aA;refine wp_block (wp_mono (h m fr ρ a w c6 c2 cc aA) ?_);intro e cD w' av;cases e with
 |exit uD=>
  simp only[Exit.inBlock];by_cases ah:uD=id;.rw[xad ah];exact av.mono λσ bj=>by simp only[EL,ah,xaH]at bj;exact bj
  rw[xaa ah];exact av.mono λσ bj=>by simp only[EL,ah,xaI]at bj;exact bj
 |normal=>exact av|goto l=>exact av|ret=>exact av|panic c=>exact av|outgrown=>exact av
def P5{τ:aI}{c:Code}(he:g3 σ τ)(h:hq P T G N c τ Q):hq P T G N c σ Q:=by intro m fr ρ a w c6 c2 cc aA;obtain⟨cI,cX,ab,af,aw⟩:=he m fr ρ a w c2;exact wp_mono (h cI fr cX a w (c6.mono ab) af cc aA) λe cD w' av=>av.trans ab aw
def wx(N:Nat)(ops:Array Oper):Bool:=ops.toList.all λo=>match o.dst with|some d=>decide (d<N)|none=>true
def wy{ops:Array Oper}(h:wx N ops=true):∀o∈ops,∀d,o.dst=some d->d<N:=by intro o aG d aA;have:=xaz.1 h o (by simpa using aG);simp only[aA]at this;simpa using this
theorem Den.drew{m:Mem}{fr:fL}{ρ:dg}{a:Act}{w:World}(h:Den m fr ρ σ a w)(n:Nat):Den m fr ρ σ a {w with drawn:=n}:=by refine⟨h.mem,⟨h.frame.p9,h.frame.quiet.same rfl rfl rfl⟩,h.apart,h.one,h.aK,?_,h.own,h.sep⟩;intro k o ak;exact(h.objs k o ak).mono (Mem.le_refl m) (λ_ hu=>⟨hu,rfl⟩) (λb _ _=>rfl)
def air(bf:dN P T)(hm:P.follows .mixedOrders=true){id:Nat}{ops:Array Oper}(cc:wx N ops=true)(ord:List Nat)(b5:ord.length=ops.size)(Bq:yg T ops ord (Array.replicate ops.size false)=true) (h:Bo P T G ops ord (Q .normal) σ):hq P T G N (.region id ops true) σ Q:=by intro m fr ρ a w c6 c2 nQ aA;refine wp_region_any hm ?_;have ab:=XD ord (Array.replicate ops.size false) σ Bq h;rw[b5]at ab;exact P4 (m:=m) (fr:=fr) (N:=N) (Q:=λe cD w'=>ja N m fr ρ σ (Q e) cD w') bf (wy cc) ops.size _ m ρ σ a _ c6 (c2.drew _) nQ aA ab (λcD w' av=>av)
def ais{ι:Type}{c:Code}{Q:Exit->Act->World->Prop}{a:Act}{w:World}(e3:ι->Act->World->Prop)(wz:ι->Nat)(i0:ι)(ait:e3 i0 a w) (round:∀i a w,e3 i a w->c.wp P (Exit.then (λcD w'=>∃j,e3 j cD w'/\wz j<wz i) Q) a w):(Code.loop c).wp P Q a w:=by
 intro b k cs;have key:∀n i a w,wz i=n->e3 i a w->∃e cD w',Q e cD w'/\Arrives P (lone (b.at a (.code c:: .inLoop c::k)) cs w) b k cs e cD w':=by
  intro n
  induction n using Nat.strongRecOn with
  |_ n ih=>
   intro i a w aL iG;obtain⟨e,Br,Bs,bj,wA⟩:=round i a w iG b (.inLoop c::k) cs;cases e with
   |normal=>obtain⟨j,aiu,cu⟩:=bj;obtain⟨aiv,aiw,aix,aiy,aiz⟩:=ih (wz j) (aL▸cu) j Br Bs rfl aiu;exact⟨aiv,aiw,aix,aiy,.of_steps (Steps.trans wA (.one step_inLoop)) aiz⟩
   |exit id=>exact⟨_,Br,Bs,bj,.pass (x:= .inLoop c) rfl (λ_ _=> .inl (by simp)) wA⟩|goto l=>exact⟨_,Br,Bs,bj,.pass (x:= .inLoop c) rfl (λ_ _=> .inl (by simp)) wA⟩|ret=>exact⟨_,Br,Bs,bj,.pass (x:= .inLoop c) rfl (λ_ _=> .inl (by simp)) wA⟩|panic aAk=>exact⟨_,Br,Bs,bj,.pass (x:= .inLoop c) rfl (λ_ _=> .inl (by simp)) wA⟩|outgrown=>exact⟨_,Br,Bs,bj,.pass (x:= .inLoop c) rfl (λ_ _=> .inl (by simp)) wA⟩
 obtain⟨e,cD,w',bj,wA⟩:=key _ i0 a w rfl ait;exact⟨e,cD,w',bj,.of_steps (.one step_loop) wA⟩
def aiA{ι:Type}{c:Code}(e3:ι->aI)(wz:ι->Nat)(i0:ι)(au:g3 σ (e3 i0)) (round:∀i,hq P T G N c (e3 i) (KE (λaW=>∃j,g3 aW (e3 j)/\wz j<wz i) Q)):hq P T G N (.loop c) σ Q:=by
 intro m fr ρ a w c6 c2 cc aA;refine ais (λi a w=>∃gx np,m.le gx/\Den gx fr np (e3 i) a w/\N<=a.tmps.size/\a.defers=[]/\k0 σ ρ (e3 i) np) wz i0 ?_ ?_;.obtain⟨cI,cX,ab,af,aw⟩:=au m fr ρ a w c2;exact⟨cI,cX,ab,af,cc,aA,aw⟩
 rintro i an gk ⟨gx,np,aV,a2,bb,cS,hr⟩;refine wp_mono (round i gx fr np an gk (c6.mono aV) a2 bb cS) ?_;intro e cD w' av;have nP:=av.trans aV hr;cases e with
 |normal=>obtain⟨aW,cI,cX,⟨j,aN,cu⟩,af,aw,a5,ca,cP⟩:=nP;obtain⟨kk,lq,bA,bB,cz⟩:=aN cI fr cX cD w' aw;exact⟨j,⟨kk,lq,Mem.le_trans af bA,bB,a5,ca,cP.trans cz⟩,cu⟩
 |exit id=>exact nP|goto l=>exact nP|ret=>exact nP|panic c=>exact nP|outgrown=>exact nP
def yk(T:ch)(σ:aI):ResultVar->Option aS
 | .tmp t=>some (σ.aK t)
 | .cell a t=>match T t,σ.aK a with
  |some i,.ptr k off=>match σ.objs k with|some (.box cells)=>vW i cells off|_=>none
  |_,_=>none
def ri(T:ch)(σ:aI)(rs:List ResultVar):Option aS:=match hC (rs.map (yk T σ))with|some [x]=>some x|some l=>some (.a1 l)|none=>none
def aiB(bf:dN P T){m:Mem}{fr:fL}{ρ:dg}{a:Act}{w:World}(h:Den m fr ρ σ a w){EM:ResultVar}{x:aS}(ag:yk T σ EM=some x): ∃v,((match EM with| .tmp t=>pure (a.tmps.getD t undef)| .cell iE t=>do loadVar t (<-asAddr (a.tmps.getD iE undef)):Sem Value)).run P w= .ok v w/\b7 m ρ σ.used x v:=by
 cases EM with
 |tmp t=>simp only[yk,xaN]at ag;subst ag;exact⟨_,rfl,h.aK t⟩
 |cell iE t=>
  simp only[yk]at ag;split at ag
  case h_2=>cases ag
  rename_i i k off aM aH;split at ag
  case h_2=>cases ag
  rename_i cells ak;have aF:=h.aK iE;rw[aH]at aF;generalize x0:a.tmps.getD iE undef=u at aF;cases aF with|ptr _ _ b hu av=>
  obtain⟨b',vs,dO,aJ,aZ,bN,cO⟩:=h.objs _ _ ak;rw[av]at aJ;cases aJ;obtain⟨v,e8,ef⟩:=WA (P:=P) bf aM aZ ⟨bN,cO⟩ ag;exact⟨v,by simp only[x0,asAddr,xag,xau,xaf,e8],ef⟩
def XF(bf:dN P T){m:Mem}{fr:fL}{ρ:dg}{a:Act}{w:World}(h:Den m fr ρ σ a w):∀(rs:List ResultVar)(xs:List aS),hC (rs.map (yk T σ))=some xs-> ∃vs:List Value,(rs.mapM λ
   | .tmp t=>pure (a.tmps.getD t undef)| .cell iE t=>do loadVar t (<-asAddr (a.tmps.getD iE undef)):Sem (List Value)).run P w= .ok vs w/\vs.length=xs.length/\∀(i:Nat)(x:aS)(v:Value),xs[i]?=some x->vs[i]?=some v->b7 m ρ σ.used x v
 |[],xs,ag=>by simp[hC]at ag;subst ag;exact⟨[],by simp,rfl,by simp⟩
 |EM::rs,xs,ag=>by
  simp only[xaA]at ag;cases ab:yk T σ EM with
  |none=>simp[ab,hC]at ag
  |some x=>
   rw[ab]at ag;simp only[hC]at ag;split at ag
   case h_2=>cases ag
   rename_i l ar;cases ag;obtain⟨v,e8,ef⟩:=aiB (P:=P) bf h ab;obtain⟨vs,jK,KG,aiC⟩:=XF bf h rs l ar;refine⟨v::vs,?_,by simp[KG],?_⟩;.simp only[List.mapM_cons,xag,e8,jK,xaf,xau]
   intro i y u aP hu;cases i with|zero=>simp at aP hu;subst aP;subst hu;exact ef|succ i=>exact aiC i y u (by simpa using aP) (by simpa using hu)
def XG(bf:dN P T){m:Mem}{fr:fL}{ρ:dg}{a:Act}{w:World}(h:Den m fr ρ σ a w){fn:Func}{x:aS}(ag:ri T σ fn.results.toList=some x): ∃v,(results fn a.tmps).run P w= .ok v w/\b7 m ρ σ.used x v:=by
 unfold ri at ag;cases ar:hC (fn.results.toList.map (yk T σ))with
 |none=>simp[ar]at ag
 |some xs=>
  obtain⟨vs,e8,ef,jK⟩:=XF (P:=P) bf h fn.results.toList xs ar;have hW:((fn.results.mapM λ
   | .tmp t=>pure (a.tmps.getD t undef)| .cell iE t=>do loadVar t (<-asAddr (a.tmps.getD iE undef)):Sem (Array Value))).run P w= .ok vs.toArray w:=by
   rw[Array.mapM_eq_mapM_toList,Sem.run_map,e8];rfl
  have Bt:(results fn a.tmps).run P w= .ok (if h:vs.toArray.size=1 then vs.toArray[0]else .tuple vs.toArray) w:=by unfold results;rw[xag];exact(congrArg (λr=>Result.andThen r _) hW).trans rfl
  rw[Bt];rw[ar]at ag;split at ag
  .rename_i y he;cases ag;cases he
   match vs,ef,jK with|[v],_,jK=>exact⟨v,by simp,jK 0 _ _ rfl rfl⟩
  .rename_i l cR he;cases ag;cases he;have gQ:vs.toArray.size≠1:=by
    intro ab;have:xs.length=1:=by rw[<-ef];simpa using ab
    obtain⟨y,aP⟩:=List.length_eq_one_iff.1 this;exact cR y aP
   refine⟨.tuple vs.toArray,?_,.a1 _ _ (by simpa using ef) (λi c v ao a6=>jK i c v ao (by simpa using a6))⟩;rw[dif_neg gQ]
  cases ag
def start(args:List aS)(E:cF):aI:=⟨λt=>args.getD t .any,E⟩
def aiD(bf:dN P T){f:FuncId}{fn:Func}{c:Code}{aO:List D}{R:D->Prop}(bd:P.funcs[f]?=some fn)(aj:fn.body=some c)(KH:(fn.name== "runtime.NumGoroutine")=false)(b5:aO.length<=fn.ntmps) (h:hq P T G fn.ntmps c (start (aO.map .d) λ_=>none) λe aW=>(e= .normal\/e= .ret)/\∃r d x,ri T aW fn.results.toList=some r/\toD aW.objs r=some d/\d.le x/\R x):ez P G f aO R:=by
 refine⟨⟨fn,bd,KH,by rw[aj];rfl⟩,?_⟩;intro m fr w vs c6 dY c2;refine calls_of_wp bd aj ?_;have EN:Den m fr (λ_=>undef) (start (aO.map .d) λ_=>none) {tmps:=vs.toArray++Array.replicate (fn.ntmps-vs.toArray.size) undef,defers:=[]} w:=by
  refine⟨dY.mem,dY.frame,dY.apart,?_,?_,?_,?_,?_⟩;.rintro k ⟨o,aG⟩;cases aG
  .intro t;simp only[start];by_cases aM:t<vs.length
   .have cu:t<aO.length:=by rw[<-c2.1];exact aM
    have aA:=xab cu;have a6:=xab aM;have aJ:(aO.map aS.d).getD t .any= .d aO[t]:=by rw[xaM,xaj,aA];rfl
    have aZ:(vs.toArray++Array.replicate (fn.ntmps-vs.toArray.size) undef).getD t undef=vs[t]:=by rw[xbu,xbI (by simpa using aM)];simp[aM]
    rw[aJ,aZ];exact .d _ _ (c2.2 t _ _ aA a6)
   have aJ:(aO.map aS.d).getD t .any= .any:=by rw[xaM,xbn (by simp;rw[<-c2.1];omega)];rfl
   rw[aJ];exact .any _
  .intro k o ak;cases ak
  .intro k o b ak;cases ak
  intro k bs o o' b _ ak;cases ak
 have gQ:fn.ntmps<=(vs.toArray++Array.replicate (fn.ntmps-vs.toArray.size) undef).size:=by simp;omega
 refine wp_mono (h m fr _ _ w c6 EN gQ rfl) ?_;rintro e cD w' ⟨aW,cI,cX,⟨he,r,d,x,ab,af,aw,a5⟩,ca,cP,gE,hZ,jL⟩;obtain⟨v,bA,bB⟩:=XG (P:=P) bf cP ab;have cz:=aw _ _ (W7 cP bB af);have fin:cD.defers=[]/\∃v,(results fn cD.tmps).run P w'= .ok v w'/\∃v1 gx e8,Ending.returned v= .returned v1/\R e8/\m.le gx/\sL gx fr w'/\dz gx e8 v1:=⟨hZ,v,bA,v,Den.all cI cX aW.objs w',x,rfl,a5,Mem.le_trans ca (Den.Bg _ _ _ _),cP.W4,cz⟩;rcases he with rfl|rfl
 .exact fin
 exact fin
end
def EO:List aS->Option (List D)
 |[]=>some []| .d x::r=>(EO r).map (x::·)|_=>none
def KI:aS->Option D
 | .d x=>some x| .agg cs=>(EO cs).map .agg| .a1 cs=>(EO cs).map .a1|_=>none
def XH:∀{cs:List aS}{aO:List D},EO cs=some aO->cs=aO.map .d
 |[],aO,h=>by cases h;rfl
 | .d x::r,aO,h=>by obtain⟨l,ar,rfl⟩:=xah.1 h;rw[XH ar];rfl
 | .any::_,_,h=>by cases h
 | .agg _::_,_,h=>by cases h
 | .a1 _::_,_,h=>by cases h
 | .ew _ _::_,_,h=>by cases h
 | .ptr _ _::_,_,h=>by cases h
 | .gA _ _ _ _::_,_,h=>by cases h
 | .row _::_,_,h=>by cases h
 | .sub _ _ _ _::_,_,h=>by cases h
 | .map _::_,_,h=>by cases h
 | .fn _ _ _::_,_,h=>by cases h
def aiE{m:Mem}{ρ:dg}{U:Key->Prop}{x:aS}{a:D}{v:Value}(h:KI x=some a)(ag:b7 m ρ U x v):dz m a v:=by
 have part:∀{cs:List aS}{aO:List D}{vs:Array Value},EO cs=some aO->vs.size=cs.length->(∀(i:Nat)(c:aS)(v:Value),cs[i]?=some c->vs[i]?=some v->b7 m ρ U c v)->vs.size=aO.length/\∀(i:Nat)(c:D)(v:Value),aO[i]?=some c->vs[i]?=some v->dz m c v:=by intro cs aO vs aA ar ao;have e:=XH aA;subst e;refine⟨by simpa using ar,λi c v ab af=>?_⟩;have:=ao i (.d c) v (by simp[ab]) af;cases this with|d _ _ h=>exact h
 unfold KI at h;split at h;.cases h;cases ag with|d _ _ h=>exact h
 .obtain⟨aO,aA,rfl⟩:=xah.1 h;cases ag with|agg _ vs ar ao=>exact .agg _ _ (part aA ar ao).1 (part aA ar ao).2
 .obtain⟨aO,aA,rfl⟩:=xah.1 h;cases ag with|a1 _ vs ar ao=>exact .a1 _ _ (part aA ar ao).1 (part aA ar ao).2
 cases h
def ps(ck:Key->Key)(U:Key->Prop)(x y:aS):Prop:=match y with| .any=>True| .d b=>∃a,KI x=some a/\a.le b| .ew cs off=>x= .ew cs off\/x= .d (.ref cs off)| .ptr k off=>x= .ptr (ck k) off/\U k| .gA k cU i off=>x= .gA (ck k) cU i off/\U k| .row k=>x= .row (ck k)/\U k| .sub k cU i len=>x= .sub (ck k) cU i len/\U k| .map k=>x= .map (ck k)/\U k|_=>False
def jM(ck:Key->Key)(U:Key->Prop):List aS->List aS->Prop
 |[],[]=>True|x::xs,y::dm=>ps ck U x y/\jM ck U xs dm|_,_=>False
def uE(ck:Key->Key)(U:Key->Prop)(x y:aS):Prop:=match y with
 | .agg dm=>match x with| .agg xs=>jM ck U xs dm| .d (.agg aO)=>jM ck U (aO.map .d) dm|_=>False
 | .a1 dm=>match x with| .a1 xs=>jM ck U xs dm|_=>False
 | .fn f as ki=>match x with| .fn kG aiF aiG=>f=kG/\jM ck U aiF as/\jM ck U aiG ki|_=>False
 |y=>ps ck U x y
def sR(ck:Key->Key)(U:Key->Prop):List aS->List aS->Prop
 |[],[]=>True|x::xs,y::dm=>uE ck U x y/\sR ck U xs dm|_,_=>False
section
variable{m:Mem}{ρ:dg}{qk U:Key->Prop}{ck:Key->Key}
def ps.ok{x y:aS}(h:ps ck U x y){v:Value}(ag:b7 m ρ qk x v):b7 m (λk=>ρ (ck k)) U y v:=by
 unfold ps at h;split at h;.exact .any _
 .obtain⟨a,aF,hle⟩:=h;exact .d _ _ (hle _ _ (aiE aF ag))
 .rcases h with rfl|rfl;.cases ag with|ew _ _ b o vs T eH hm xs ab af=>exact .ew _ _ b o vs T eH hm xs ab af
  cases ag.om with|ref _ _ b o vs T eH hm xs ab af=>exact .ew _ _ b o vs T eH hm xs ab af
 .obtain⟨rfl,hu⟩:=h;cases ag with|ptr _ _ b _ av=>exact .ptr _ _ b hu av
 .obtain⟨rfl,hu⟩:=h;cases ag with|gA _ _ _ _ b o len cap _ av=>exact .gA _ _ _ _ b o len cap hu av
 .obtain⟨rfl,hu⟩:=h;cases ag;exact .row (ρ:=λk=>ρ (ck k)) _ hu
 .obtain⟨rfl,hu⟩:=h;cases ag with|sub _ _ _ _ b o L cap a _ av hle aF=>exact .sub _ _ _ _ b o L cap a hu av hle aF|kA _ _ _ _ av=>exact .kA _ _ _ hu av
 .obtain⟨rfl,hu⟩:=h;cases ag;exact .map (ρ:=λk=>ρ (ck k)) _ hu
 cases h
def jM.ok:∀{xs dm:List aS},jM ck U xs dm->dm.length=xs.length/\∀(i:Nat)(y:aS),dm[i]?=some y->∃x,xs[i]?=some x/\ps ck U x y
 |[],[],_=>⟨rfl,by simp⟩|x::xs,y::dm,h=>by have ih:=jM.ok h.2;refine⟨by simp[ih.1],?_⟩;intro i z bC;cases i with|zero=>simp at bC;subst bC;exact⟨x,rfl,h.1⟩|succ i=>simp at bC;obtain⟨w,ab,af⟩:=ih.2 i z bC;exact⟨w,by simpa using ab,af⟩
 |[],y::dm,h=>h.elim|x::xs,[],h=>h.elim
def jM.cells{xs dm:List aS}{vs:Array Value}(h:jM ck U xs dm)(ag:mg m ρ qk xs vs):mg m (λk=>ρ (ck k)) U dm vs:=by obtain⟨ab,af⟩:=h.ok;refine⟨by rw[ag.1,ab],?_⟩;intro i y v aP a6;obtain⟨x,aw,a5⟩:=af i y aP;exact a5.ok (ag.2 i x v aw a6)
def uE.ok{x y:aS}(h:uE ck U x y){v:Value}(ag:b7 m ρ qk x v):b7 m (λk=>ρ (ck k)) U y v:=by
 unfold uE at h;split at h
 .rename_i dm;split at h;.rename_i xs;obtain⟨vs,rfl,ao⟩:=ag.Wv;have:=jM.cells h ao;exact .agg _ _ this.1 this.2
  .rename_i aO;obtain⟨vs,rfl,ar,ao⟩:=ag.Wu;have au:mg m ρ qk (aO.map .d) vs:=⟨by simpa using ar,by
    intro i c v dU a6;simp only[xaj,xah]at dU;obtain⟨z,bC,rfl⟩:=dU;exact .d _ _ (ao i z v bC a6)⟩
   have:=jM.cells h au;exact .agg _ _ this.1 this.2
  cases h
 .split at h;.obtain⟨vs,rfl,ao⟩:=ag.Ww;have:=jM.cells h ao;exact .a1 _ _ this.1 this.2
  cases h
 .split at h
  .obtain⟨rfl,ab,af⟩:=h;cases ag with|fn _ _ _ vs ws ar dv g lr=>
   have a:=jM.cells (U:=U) ab ⟨ar,g⟩;have b:=jM.cells (U:=U) af ⟨dv,lr⟩;exact .fn _ _ _ vs ws a.1 b.1 a.2 b.2
  cases h
 exact h.ok ag
end
def sR.ok{ck:Key->Key}{U:Key->Prop}:∀{xs dm:List aS},sR ck U xs dm->dm.length=xs.length/\∀(i:Nat)(y:aS),dm[i]?=some y->∃x,xs[i]?=some x/\uE ck U x y
 |[],[],_=>⟨rfl,by simp⟩|x::xs,y::dm,h=>by have ih:=sR.ok h.2;refine⟨by simp[ih.1],?_⟩;intro i z bC;cases i with|zero=>simp at bC;subst bC;exact⟨x,rfl,h.1⟩|succ i=>simpa using ih.2 i z (by simpa using bC)
 |[],y::dm,h=>h.elim|x::xs,[],h=>h.elim
def sR.cells{m:Mem}{ρ:dg}{qk U:Key->Prop}{ck:Key->Key}{xs dm:List aS}{vs:Array Value}(h:sR ck U xs dm)(ag:mg m ρ qk xs vs):mg m (λk=>ρ (ck k)) U dm vs:=by obtain⟨ab,af⟩:=h.ok;refine⟨by rw[ag.1,ab],?_⟩;intro i y v aP a6;obtain⟨x,aw,a5⟩:=af i y aP;exact a5.ok (ag.2 i x v aw a6)
def P6(es dh:List (List D)):Prop:=es=dh\/(es.length=dh.length/\∀(i:Nat)(x y:List D),es[i]?=some x->dh[i]?=some y->x.length=y.length/\y.all D.one=true/\∀(j:Nat)(a b:D),x[j]?=some a->y[j]?=some b->a.le b)
def yl(ck:Key->Key)(U:Key->Prop)(x y:cV):Prop:=match y with| .dead=>True| .box dm=>∃xs,x= .box xs/\sR ck U xs dm| .row k dh=>∃es,x= .row k es/\P6 es dh| .map es=>x= .map es
def P6.ok{m:Mem}{ρ cX:dg}{U nj:Key->Prop}{k:Nat}{es dh:List (List D)}(h:P6 es dh){v:Value}{w:World}(ag:jA m ρ U v w (.row k es)):jA m cX nj v w (.row k dh):=by
 rcases h with rfl|⟨ar,h⟩;.exact ag
 rcases ag with⟨aJ,rfl⟩|⟨b,o,cap,vs,T,aJ,aZ,bN,cO,eg,fG⟩;.exact .inl ⟨aJ,xaF (by rw[<-ar];rfl)⟩
 have key:∀(i:Nat)(y:List D),dh[i]?=some y->∃x,es[i]?=some x/\x.length=y.length/\y.all D.one=true/\∀(j:Nat)(a b:D),x[j]?=some a->y[j]?=some b->a.le b:=by
  intro i y aP;have ah:i<es.length:=by rw[ar];exact(xae.1 aP).1
  exact⟨_,xab ah,h i _ y (xab ah) aP⟩
 refine .inr ⟨b,o,cap,vs,T,by rw[<-ar];exact aJ,aZ,by omega,cO,?_,?_⟩;.intro y aP;obtain⟨i,ah⟩:=xaU.1 aP;obtain⟨x,ab,af,aw,_⟩:=key i y ah;exact⟨by rw[<-af];exact(eg x (xac ab)).1,aw⟩
 intro i y j c ah aN;obtain⟨x,ab,af,_,aw⟩:=key i y ah;have XI:j<x.length:=by rw[af];exact(xae.1 aN).1
 obtain⟨z,aV,a2⟩:=fG i x j _ ab (xab XI);exact⟨z,aV,aw j _ c (xab XI) aN _ _ a2⟩
def KJ:List (Nat×aS)->Nat->aS
 |[],_=> .any|(j,v)::r,t=>if t=j then v else KJ r t
def fB:List (Key×cV)->Key->Option cV
 |[],_=>none|(j,o)::r,k=>if k=j then some o else fB r k
def XJ(ls:List (Nat×aS))(lo:List (Key×cV)):aI:=⟨KJ ls,fB lo⟩
def Bu(ck:Key->Key)(U:Key->Prop)(σ:aI):List (Nat×aS)->Prop
 |[]=>True|(t,v)::r=>uE ck U (σ.aK t) v/\Bu ck U σ r
def ym(ck:Key->Key)(U:Key->Prop)(σ:aI):List (Key×cV)->Prop
 |[]=>True|(k,o)::r=>(∃o',σ.objs (ck k)=some o'/\yl ck U o' o)/\ym ck U σ r
def Bu.ok{ck:Key->Key}{U:Key->Prop}{σ:aI}:∀{ls:List (Nat×aS)},Bu ck U σ ls->∀t,uE ck U (σ.aK t) (KJ ls t)
 |[],_,t=>trivial
 |(j,v)::r,h,t=>by
  unfold KJ;split;.rename_i e;subst e;exact h.1
  exact Bu.ok h.2 t
def ym.ok{ck:Key->Key}{U:Key->Prop}{σ:aI}:∀{lo:List (Key×cV)},ym ck U σ lo->∀k o,fB lo k=some o->∃o',σ.objs (ck k)=some o'/\yl ck U o' o
 |[],_,k,o,h=>by cases h
 |(j,x)::r,h,k,o,ak=>by
  unfold fB at ak;split at ak;.rename_i e;subst e;cases ak;exact h.1
  exact ym.ok h.2 k o ak
def gl:List (Key×Key)->Key->Key
 |[],k=>k|(a,b)::r,k=>if k=a then b else gl r k
def mq(lo:List (Key×cV)):List Key:=lo.map (·.1)
def yn(ck:Key->Key):List Key->Bool
 |[]=>true|k::r=>r.all (λj=>k==j||!(ck k==ck j))&&yn ck r
def KK{ck:Key->Key}:∀{l:List Key},yn ck l=true->∀k j,k∈l->j∈l->ck k=ck j->k=j
 |[],_,k,j,h,_,_=>by cases h
 |x::r,h,k,j,ak,aN,he=>by
  simp only[yn,xal,xaz]at h;rcases xak.1 ak with rfl|fO
  .rcases xak.1 aN with rfl|q2;.rfl
   have:=h.1 j q2;simp at this;rcases this with ab|ab
   .exact ab
   exact absurd he ab
  rcases xak.1 aN with rfl|q2
  .have:=h.1 k fO;simp at this;rcases this with ab|ab
   .exact ab.symm
   exact absurd he.symm ab
  exact KK h.2 k j fO q2 he
def wB:∀{lo:List (Key×cV)} {k:Key} {o:cV},fB lo k=some o->k∈mq lo
 |[],k,o,h=>by cases h
 |(j,x)::r,k,o,h=>by
  unfold fB at h;split at h;.rename_i e;subst e;simp[mq]
  have:=wB h;simp only[mq,xaA,xak]at this⊢;exact .inr this
def aiH{σ:aI}{ls:List (Nat×aS)}{lo:List (Key×cV)}(l:List (Key×Key))(av:yn (gl l) (mq lo)=true) (aH:Bu (gl l) (λk=>∃o,fB lo k=some o) σ ls) (aG:ym (gl l) (λk=>∃o,fB lo k=some o) σ lo) (ak:∀k,10000<=k->e2 (σ.objs k)->e2 (fB lo k)/\gl l k=k):g3 σ (XJ ls lo):=by
 intro m fr ρ a w h;have jD:∀{o o':cV},yl (gl l) (λk=>∃o,fB lo k=some o) o' o->o.owns=true->o'.owns=true:=by
  intro o o' hle aG;cases o with
  |dead=>cases aG
  |box=>obtain⟨xs,rfl,_⟩:=hle;rfl
  |row=>obtain⟨es,rfl,_⟩:=hle;rfl
  |map=>cases hle;rfl
 refine⟨m,λk=>ρ (gl l k),Mem.le_refl m,⟨h.mem,h.frame,h.apart,?_,?_,?_,?_,?_⟩,λk fO aj=>⟨(ak k fO aj).1,by show ρ (gl l k)=ρ k;rw[(ak k fO aj).2]⟩⟩;.rintro k ⟨o,mr⟩;obtain⟨o',ab,_⟩:=aG.ok k o mr;exact h.one _ ⟨o',ab⟩
 .intro t;exact(aH.ok t).ok (h.aK t)
 .intro k o mr;obtain⟨o',ab,af⟩:=aG.ok k o mr;have aw:=h.objs _ _ ab;cases o with
  |dead=>trivial|box dm=>obtain⟨xs,rfl,hle⟩:=af;obtain⟨b,vs,T,aJ,aZ,bN,cO⟩:=aw;have:=sR.cells hle ⟨bN,cO⟩;exact⟨b,vs,T,aJ,aZ,this.1,this.2⟩
  |row cU dh=>obtain⟨es,rfl,hle⟩:=af;exact hle.ok aw
  |map es=>cases af;exact aw
 .intro k o b mr KL aj;obtain⟨o',ab,af⟩:=aG.ok k o mr;exact h.own _ o' b ab (jD af KL) aj
 intro k bs o o' b cR mr EP P7 P8 aj;obtain⟨x,ab,af⟩:=aG.ok k o mr;obtain⟨lP,e7,h5⟩:=aG.ok bs o' EP;exact h.sep (gl l k) (gl l bs) x lP b (λe=>cR (KK av k bs (wB mr) (wB EP) e)) ab e7 (jD af P7) (jD h5 P8) aj
def Bv(P:Program):Nat->List Field->Option (List TypeDesc)
 |_,[]=>some []|off,f::dh=>if f.name≠ "_" /\f.offset=off then(match P.underlying f.type with|some .bool=>(Bv P (off+1) dh).map (.bool::·)|some (.int k)=>(Bv P (off+1) dh).map (.int k::·)|some .string=>(Bv P (off+1) dh).map (.string::·)|_=>none)else none
def KM{P:Program}:∀{dh:List Field}{off:Nat}{l:List TypeDesc},Bv P off dh=some l->JQ P off dh l
 |[],_,l,h=>by cases h;trivial
 |f::dh,off,l,h=>by
  unfold Bv at h;split at h
  case isFalse=>cases h
  rename_i ab;split at h;.rename_i hu;obtain⟨r,av,rfl⟩:=xah.1 h;exact⟨ab.1,ab.2,hu,rfl,KM av⟩
  .rename_i hu;obtain⟨r,av,rfl⟩:=xah.1 h;exact⟨ab.1,ab.2,hu,rfl,KM av⟩
  .rename_i hu;obtain⟨r,av,rfl⟩:=xah.1 h;exact⟨ab.1,ab.2,hu,rfl,KM av⟩
  cases h
def P9(P:Program)(t:TypeId):Option (List TypeDesc):=match P.underlying t with
 |some (.struct dh)=>match Bv P 0 dh.toList with
  |some l=>if P.stoodInHeld t=false/\P.eqGuardType P.depth t=false then some l else none
  |none=>none
 |_=>none
def aiI{P:Program}{t:TypeId}{l:List TypeDesc}(h:P9 P t=some l):Wg P t l:=by
 unfold P9 at h;split at h
 case h_2=>cases h
 rename_i dh hu;have bd:P.fieldsOf t=dh:=by simp[Program.fieldsOf,hu]
 split at h
 case h_2=>cases h
 rename_i sA ar;split at h
 case isFalse=>cases h
 rename_i ao;cases h;exact⟨by rw[bd];exact hu,ao.1,ao.2,by rw[bd];exact KM ar⟩
def ER(P:Program)(t:TypeId):Option iQ:=match P.underlying t,P.info? t with
 |some d,some i=>match i.zero with
  |some z=>if z.cells.size=i.size then some ⟨d,i.size,i.bytes,z⟩else none
  |none=>none
 |_,_=>none
def Qa(P:Program)(t:TypeId)(name:String):Option FuncId:=match P.info? t,P.underlying t with
 |some i,some d=>match d with
  | .pointer _=>none
  |_=>match i.methods.find? (λm=>m.name==name)with
   |some m=>match m.path.toList,m.func with|[],some (f,false)=>some f|_,_=>none
   |none=>none
 |_,_=>none
def aiJ{P:Program}{t:TypeId}{name:String}{f:FuncId}(h:Qa P t name=some f):JR P t name f:=by
 unfold Qa at h;split at h
 case h_2=>cases h
 rename_i i d ab af;split at h
 case h_1=>cases h
 rename_i aU;split at h
 case h_2=>cases h
 rename_i m hm;split at h
 case h_2=>cases h
 rename_i g aw a5;cases h;exact⟨i,m,d,ab,hm,aw,a5,af,λe he=>aU e he⟩
def dZ(P:Program):ch:=⟨ER P,P9 P,λ_=>false,Qa P,[],[]⟩
def ch.KN(T:ch)(l:List TypeId):ch:=⟨T.JO,T.eqs,T.born,T.qY,l,T.dyn⟩
def dN.KN{P:Program}{T:ch}(h:dN P T)(l:List TypeId):dN P (T.KN l):=⟨h.ty,h.A2,h.eqs,h.JS⟩
def ch.sS(T:ch)(l:List Nat):ch:=⟨T.JO,T.eqs,λk=>l.contains k,T.qY,T.Pc,T.dyn⟩
def dN.sS{P:Program}{T:ch}(h:dN P T)(l:List Nat):dN P (T.sS l):=⟨h.ty,h.A2,h.eqs,h.JS⟩
def ch.wC(T:ch)(l:List (Nat×List FuncId)):ch:=⟨T.JO,T.eqs,T.born,T.qY,T.Pc,l⟩
def dN.wC{P:Program}{T:ch}(h:dN P T)(l:List (Nat×List FuncId)):dN P (T.wC l):=⟨h.ty,h.A2,h.eqs,h.JS⟩
def tok(P:Program):dN P (dZ P):=by
 constructor
 .intro t i h;change ER P t=some i at h;unfold ER at h;split at h
  case h_2=>cases h
  rename_i d info ab af;split at h
  case h_2=>cases h
  rename_i z bC;split at h
  case isFalse=>cases h
  cases h;exact⟨ab,info,af,rfl,rfl,bC⟩
 .intro t i h;change ER P t=some i at h;unfold ER at h;split at h
  case h_2=>cases h
  rename_i d info ab af;split at h
  case h_2=>cases h
  rename_i z bC;split at h
  case isFalse=>cases h
  rename_i aH;cases h;exact aH
 .intro t l h;exact aiI h
 intro t name f h;exact aiJ h
def J(n:Int):D:= .val (.int .i64 n)
def ay(b:Bool):D:= .val (.bool b)
def aC(s:ByteArray):D:= .val (.string s)
def bx(l:List ByteArray):D:= .ax 1 (l.map λs=>[aC s])
end Go.Am
