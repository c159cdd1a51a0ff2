/- Calls, regions in any order, loops: their rules over such values. No condition. -/
import Derived.Test.YtknmgdnhongcnaaGreatDoorEngA
import Derived.Still
import Derived.Scope
set_option linter.all false
set_option linter.unnecessarySimpa false
namespace Go.Am
set_option linter.unusedVariables false
def St.put(σ:St)(dst:Option Tmp)(r:AV):St:=match dst with
 |some d=>⟨b0 σ.aA d r,σ.objs⟩
 |none=>σ
def stepA(T:bX)(G:cT)(σ:St)(o:Oper):Option St:=
 match pureOp T (evA G σ.aA) o.op with
 |some r=>some (σ.put o.dst r)
 |none=>match memOp T (evA G σ.aA) σ.objs o.op with
  |some r=>some (σ.put o.dst r)
  |none=>match fK T (evA G σ.aA) σ.objs (o.dst.getD 9999) o.op with
   |some (r,b3)=>some (St.put ⟨σ.aA,updO σ.objs b3⟩ o.dst r)
   |none=>none
structure qh(m:Mem)(fr:eC)(w:World):Prop where
 mem:∀b o,m b=some o→w.heap[b]?=some o
 frame:O3 fr w
 apart:∀b,m b≠none→fr b=none
theorem Den.ok{m:Mem}{fr:eC}{ρ:cM}{σ:St}{a:Act}{w:World}(h:Den m fr ρ σ a w):qh m fr w:=⟨h.mem,h.frame,h.apart⟩
def uN(m:Mem)(aF:List D)(vs:List Value):Prop:=vs.length=aF.length∧∀(i:Nat) (d:D) (v:Value),aF[i]?=some d→vs[i]?=some v→cS m d v
def uO(P:Program)(f:FuncId):Prop:=∃fn,P.funcs[f]?=some fn∧(fn.name== "runtime.NumGoroutine")=false∧fn.body.isNone=false
structure dx(P:Program)(G:cT)(f:FuncId)(aF:List D)(dV:D→Prop):Prop where
 fn:uO P f
 run:∀m fr w vs,iF G m→qh m fr w→uN m aF vs→Calls P f vs.toArray w fun e w'=>∃v cd r,e= .returned v∧dV r∧m.le cd∧qh cd fr w'∧cS cd r v
theorem dx.mono{P:Program}{G:cT}{f:FuncId}{aF:List D}{dV PW:D→Prop}(h:dx P G f aF dV)(av:∀r,dV r→PW r):dx P G f aF PW:=
 ⟨h.fn,fun m fr w vs cA cR cv=>(h.run m fr w vs cA cR cv).mono fun e w' ⟨v,cd,r,ad,ae,ay⟩=>⟨v,cd,r,ad,av r ae,ay⟩⟩
def oL:List D→List D→Prop
 |[],[]=>True
 |x::xs,y::cO=>x.le y∧oL xs cO
 |_,_=>False
theorem oL.refl:∀l:List D,oL l l
 |[]=>trivial
 |x::l=>⟨x.le_refl,oL.refl l⟩
theorem oL.ok{m:Mem}:∀{xs cO:List D} {vs:List Value},oL xs cO→uN m xs vs→uN m cO vs
 |[],[],vs,_,h=>h
 |x::xs,y::cO,[],_,h=>by have:=h.1;simp at this
 |x::xs,y::cO,v::vs,an,h=>by
  have ih:=oL.ok (m:=m) (vs:=vs) an.2 ⟨by simpa using h.1,fun i d u ax hu=>h.2 (i+1) d u (by simpa using ax) (by simpa using hu)⟩
  refine ⟨by simpa using ih.1,?_⟩
  intro i d u ax hu
  cases i with
  |zero=>simp at ax hu;subst ax;subst hu;exact an.1 m v (h.2 0 x v rfl rfl)
  |succ i=>exact ih.2 i d u (by simpa using ax) (by simpa using hu)
 |[],y::cO,vs,h,_=>h.elim
 |x::xs,[],vs,h,_=>h.elim
def D.flat:D→Bool
 | .val _=>true
 | .agg cs=>cs.all fun c=>match c with
  | .val _=>true
  |_=>false
 | .aQ cs=>cs.all fun c=>match c with
  | .val _=>true
  | .agg cs=>cs.all fun c=>match c with
   | .val _=>true
   |_=>false
  |_=>false
 |_=>false
theorem ZT{m cd:Mem}{c:D}{v:Value}(h:(match c with| .val _=>true|_=>false)=true)(ax:cS m c v):cS cd c v:=by
 cases c<;>first|(cases ax;exact .val _)|cases h
theorem flat_agg{m cd:Mem}{cs:List D}{v:Value}(h:(cs.all fun c=>match c with| .val _=>true|_=>false)=true)(ax:cS m (.agg cs) v):cS cd (.agg cs) v:=by
 cases ax with
 |agg _ vs an bw=>exact .agg _ _ an fun i c u aj hu=>ZT (List.all_eq_true.1 h c (List.mem_of_getElem? aj)) (bw i c u aj hu)
theorem D.ZU{m cd:Mem}{x:D}{v:Value}(h:x.flat=true)(ax:cS m x v):cS cd x v:=by
 cases x with
 |val=>cases ax;exact .val _
 |agg cs=>exact flat_agg h ax
 |aQ cs=>
  cases ax with
  |aQ _ vs an bw=>
   refine .aQ _ _ an fun i c u aj hu=>?_
   have ad:=List.all_eq_true.1 h c (List.mem_of_getElem? aj)
   have ae:=bw i c u aj hu
   cases c with
   |val=>cases ae;exact .val _
   |agg cs=>exact flat_agg ad ae
   |aQ=>cases ad
   |aC=>cases ad
   |dh=>cases ad
   |mp=>cases ad
   |ref=>cases ad
   |fn=>cases ad
 |aC=>cases h
 |dh=>cases h
 |mp=>cases h
 |ref=>cases h
 |fn=>cases h
def toDa(objs:b8):AV→Option D
 | .d x=>some x
 | .row key=>match objs key with
  |some (.row k es)=>some (.aC k es)
  |_=>none
 | .sub key k i len=>match objs key with
  |some (.row bf es)=>if k=bf∧i+len≤es.length then some (.aC k ((es.drop i).take len)) else none
  |_=>none
 | .map key=>match objs key with
  |some (.map es)=>some (.mp es)
  |_=>none
 |_=>none
def allSome{α:Type}:List (Option α)→Option (List α)
 |[]=>some []
 |some x::r=>match allSome r with
  |some l=>some (x::l)
  |none=>none
 |none::_=>none
theorem oM{α:Type}:∀{l:List (Option α)} {r:List α},allSome l=some r→r.length=l.length∧∀(i:Nat) (x:α),r[i]?=some x→l[i]?=some (some x)
 |[],r,h=>by simp [allSome] at h;subst h;simp
 |none::l,r,h=>by simp [allSome] at h
 |some x::l,r,h=>by
  simp only [allSome] at h
  split at h
  case h_2=>cases h
  rename_i oI dR
  cases h
  have ih:=oM dR
  refine ⟨by simp [ih.1],?_⟩
  intro i y aN
  cases i with
  |zero=>simpa using aN
  |succ i=>exact ih.2 i y (by simpa using aN)
def toD0(objs:b8):AV→Option D
 | .ptr key off=>match objs key with
  |some (.box cells)=>match allSome (cells.map (toDa objs)) with
   |some cs=>some (.ref cs off)
   |none=>none
  |_=>none
 | .dL cs off=>some (.ref cs off)
 |x=>toDa objs x
def toD1(objs:b8):AV→Option D
 | .agg cs=>match allSome (cs.map (toD0 objs)) with
  |some aF=>some (.agg aF)
  |none=>none
 | .fn f first cap=>match allSome (first.map (toD0 objs)),allSome (cap.map (toD0 objs)) with
  |some as,some ic=>some (.fn f as ic)
  |_,_=>none
 |x=>toD0 objs x
def toD(objs:b8):AV→Option D
 | .aQ cs=>match allSome (cs.map (toD1 objs)) with
  |some aF=>some (.aQ aF)
  |none=>none
 |x=>toD1 objs x
noncomputable def Den.all(m:Mem)(ρ:cM)(objs:b8)(w:World):Mem:=fun b=>
 match m b with
 |some o=>some o
 |none=>open Classical in if∃k o,objs k=some o∧o.owns=true∧blockOf (ρ k)=some b then w.heap[b]? else none
section
variable{P:Program}{T:bX}{G:cT}{m:Mem}{fr:eC}{ρ:cM}{σ:St}{a:Act}{w:World}
theorem Den.x6(m:Mem)(ρ:cM)(objs:b8)(w:World):m.le (Den.all m ρ objs w):=by
 intro b o h;simp [Den.all,h]
theorem Den.Fi(h:Den m fr ρ σ a w){k:Key}{o:cn}{b:Nat}(ai:σ.objs k=some o)(aD:o.owns=true)(ak:blockOf (ρ k)=some b):Den.all m ρ σ.objs w b=w.heap[b]?:=by
 have:=(h.own k o b ai aD ak).1
 simp only [Den.all,this]
 rw [if_pos ⟨k,o,ai,aD,ak⟩]
theorem Den.ZV(h:Den m fr ρ σ a w):∀b o,Den.all m ρ σ.objs w b=some o→w.heap[b]?=some o:=by
 intro b o ak
 unfold Den.all at ak
 cases hm:m b with
 |some x=>simp only [hm] at ak;cases ak;exact h.mem b _ hm
 |none=>
  simp only [hm] at ak
  split at ak
  ·exact ak
  ·cases ak
theorem Den.PX(h:Den m fr ρ σ a w):qh (Den.all m ρ σ.objs w) fr w:=by
 refine ⟨h.ZV,h.frame,?_⟩
 intro b ak
 unfold Den.all at ak
 cases hm:m b with
 |some x=>exact h.apart b (by rw [hm];simp)
 |none=>
  simp only [hm] at ak
  split at ak
  ·rename_i aj
   obtain ⟨k,o,ad,ae,ay⟩:=aj
   exact (h.own k o b ad ae ay).2
  ·exact absurd rfl ak
theorem PY(h:Den m fr ρ σ a w){x:AV}{v:Value}{d:D}(af:bI m ρ σ.used x v)(ax:toDa σ.objs x=some d):cS (Den.all m ρ σ.objs w) d v:=by
 have hle:=Den.x6 m ρ σ.objs w
 have row:∀key k es v,σ.objs key=some (.row k es)→v=ρ key→cS (Den.all m ρ σ.objs w) (.aC k es) v:=by
  rintro key k es v ai rfl
  rcases h.objs _ _ ai with⟨aS,rfl⟩|⟨b,o,cap,vs,dA,aS,aV,bz,cy,dw,e0⟩
  ·rw [aS];exact .k6 _ _ _
  ·have ak:=h.Fi ai rfl (by rw [aS];rfl)
   obtain ⟨f1,f2⟩:=Pt (m:=m) dw e0
   rw [aS]
   refine .aC k es b o cap vs dA (0,0) (by rw [ak];exact aV) dw bz (fun i j=>(vs[o+i*k+j]?).getD undef) ?_ ?_
   ·intro i e j c ag aH
    obtain ⟨x,a1,a9⟩:=e0 i e j c ag aH
    rw [a1];rfl
   ·intro i e j c ag aH
    obtain ⟨x,a1,a9⟩:=e0 i e j c ag aH
    simp only [a1,Option.getD_some]
    exact a9.mono hle
 unfold toDa at ax
 split at ax
 ·cases ax
  exact af.mw.mono hle
 ·rename_i key
  split at ax
  case h_2=>cases ax
  rename_i k es ai
  cases ax
  cases af
  exact row key k es _ ai rfl
 ·rename_i key k i len
  split at ax
  case h_2=>cases ax
  rename_i bf es ai
  split at ax
  case isFalse=>cases ax
  rename_i aj
  obtain ⟨rfl,JA⟩:=aj
  cases ax
  cases af with
  |ju _ _ _ hu av=>rw [List.take_zero];exact .k6 _ _ _
  |sub _ _ _ _ b o L cap hQ hu av uD aB=>
  have hlen:((es.drop i).take len).length=len:=by simp;omega
  rcases Nat.eq_zero_or_pos len with aq|h1
  ·subst aq;rw [List.take_zero];exact .k6 _ _ _
  ·have nb:=row key k es _ ai rfl
   rw [av] at nb
   cases nb with
   |k6=>simp at JA;omega
   |aC _ _ _ _ _ vs dA dF hm c3 aj xs ad ae=>
    have:=cS.aC (m:=Den.all m ρ σ.objs w) k ((es.drop i).take len) b (o+i*k) (cap-i) vs dA dF hm (fun e he=>c3 e (List.mem_of_mem_drop (List.mem_of_mem_take he))) (by omega) (fun p j=>xs (i+p) j)
     (fun p el j c eu aj=>by
      rw [List.getElem?_take] at eu
      split at eu
      case isFalse=>cases eu
      rw [List.getElem?_drop] at eu
      have:=ad (i+p) el j c eu aj
      rw [←this]
      congr 1
      rw [Nat.add_mul];omega)
     (fun p el j c eu aj=>by
      rw [List.getElem?_take] at eu
      split at eu
      case isFalse=>cases eu
      rw [List.getElem?_drop] at eu
      exact ae (i+p) el j c eu aj)
    rw [hlen] at this
    rw [aB.1 (by omega)]
    exact this
 ·rename_i key
  split at ax
  case h_2=>cases ax
  rename_i es ai
  cases ax
  cases af
  obtain ⟨r,cQ,clock,aS,aV,bz,cy,dw⟩:=h.objs _ _ ai
  have ak:=h.Fi ai rfl (by rw [aS];rfl)
  rw [aS]
  exact .mp es r cQ clock (by rw [ak];exact aV) bz cy (fun i e x he af=>(dw i e x he af).mono hle)
 ·cases ax
theorem Fj(h:Den m fr ρ σ a w){x:AV}{v:Value}{d:D}(af:bI m ρ σ.used x v)(ax:toD0 σ.objs x=some d):cS (Den.all m ρ σ.objs w) d v:=by
 have hle:=Den.x6 m ρ σ.objs w
 unfold toD0 at ax
 split at ax
 ·rename_i key off
  split at ax
  case h_2=>cases ax
  rename_i cells ai
  split at ax
  case h_2=>cases ax
  rename_i cs gJ
  cases ax
  obtain ⟨b,vs,dA,aS,aV,bz,cy⟩:=h.objs _ _ ai
  have ak:=h.Fi ai rfl (by rw [aS];rfl)
  obtain ⟨lf,kH⟩:=oM gJ
  cases af with|ptr _ _ b' hu av=>
  rw [aS] at av
  cases av
  have key:∀(j:Nat) (c:D),cs[j]?=some c→∃u,vs[j]?=some u∧cS (Den.all m ρ σ.objs w) c u:=by
   intro j c aj
   have ad:=kH j c aj
   simp only [List.getElem?_map,Option.map_eq_some_iff] at ad
   obtain ⟨y,aN,na⟩:=ad
   have aH:j<vs.size:=by rw [bz];exact (List.getElem?_eq_some_iff.1 aN).1
   exact ⟨_,Array.getElem?_eq_getElem aH,PY h (cy j y _ aN (Array.getElem?_eq_getElem aH)) na⟩
  have:=cS.ref (m:=Den.all m ρ σ.objs w) cs off b 0 vs dA (0,0) (by rw [ak];exact aV) (fun j=>(vs[j]?).getD undef)
   (fun j c aj=>by obtain ⟨u,ad,_⟩:=key j c aj;simp [ad]) (fun j c aj=>by obtain ⟨u,ad,ae⟩:=key j c aj;simp [ad];exact ae)
  simpa using this
 ·cases ax
  cases af with|dL _ _ b o vs T dF hm xs ad ae=>exact .ref _ _ b o vs T dF (hle _ _ hm) xs ad (fun j c aj=>(ae j c aj).mono hle)
 ·exact PY h af ax
theorem PZ(h:Den m fr ρ σ a w){x:AV}{v:Value}{d:D}(af:bI m ρ σ.used x v)(ax:toD1 σ.objs x=some d):cS (Den.all m ρ σ.objs w) d v:=by
 unfold toD1 at ax
 split at ax
 ·rename_i cs
  split at ax
  case h_2=>cases ax
  rename_i aF eb
  cases ax
  obtain ⟨lf,kH⟩:=oM eb
  cases af with|agg _ vs an bw=>
  refine .agg _ _ (by rw [an,lf];simp) ?_
  intro i c u aj hu
  have ad:=kH i c aj
  simp only [List.getElem?_map,Option.map_eq_some_iff] at ad
  obtain ⟨y,aN,na⟩:=ad
  exact Fj h (bw i y u aN hu) na
 ·rename_i f first cap
  split at ax
  case h_2=>cases ax
  rename_i as ic has AI
  cases ax
  obtain ⟨lf,kH⟩:=oM has
  obtain ⟨cc,c6⟩:=oM AI
  cases af with|fn _ _ _ vs ws an dR bw uP=>
  refine .fn _ _ _ vs ws (by rw [an,lf];simp) (by rw [dR,cc];simp) ?_ ?_
  ·intro i c u aj hu
   have ad:=kH i c aj
   simp only [List.getElem?_map,Option.map_eq_some_iff] at ad
   obtain ⟨y,aN,na⟩:=ad
   exact Fj h (bw i y u aN hu) na
  ·intro i c u aj hu
   have ad:=c6 i c aj
   simp only [List.getElem?_map,Option.map_eq_some_iff] at ad
   obtain ⟨y,aN,na⟩:=ad
   exact Fj h (uP i y u aN hu) na
 ·exact Fj h af ax
theorem P0(h:Den m fr ρ σ a w){x:AV}{v:Value}{d:D}(af:bI m ρ σ.used x v)(ax:toD σ.objs x=some d):cS (Den.all m ρ σ.objs w) d v:=by
 unfold toD at ax
 split at ax
 ·rename_i cs
  split at ax
  case h_2=>cases ax
  rename_i aF eb
  cases ax
  obtain ⟨lf,kH⟩:=oM eb
  cases af with|aQ _ vs an bw=>
  refine .aQ _ _ (by rw [an,lf];simp) ?_
  intro i c u aj hu
  have ad:=kH i c aj
  simp only [List.getElem?_map,Option.map_eq_some_iff] at ad
  obtain ⟨y,aN,na⟩:=ad
  exact PZ h (bw i y u aN hu) na
 ·exact PZ h af ax
theorem ZW(h:Den m fr ρ σ a w){xs:List AV}{vs:List Value}{aF:List D}(an:vs.length=xs.length)(af:∀(i:Nat) (x:AV) (v:Value),xs[i]?=some x→vs[i]?=some v→bI m ρ σ.used x v)(ax:allSome (xs.map (toD σ.objs))=some aF):
  uN (Den.all m ρ σ.objs w) aF vs:=by
 obtain ⟨lf,kH⟩:=oM ax
 refine ⟨by rw [an,lf];simp,?_⟩
 intro i d v ad ae
 have ay:=kH i d ad
 simp only [List.getElem?_map,Option.map_eq_some_iff] at ay
 obtain ⟨y,aN,na⟩:=ay
 exact P0 h (af i y v aN ae) na
theorem Den.ZX(h:Den m fr ρ σ a w){w':World}{cd:Mem}(hle:(Den.all m ρ σ.objs w).le cd)(cR:qh cd fr w'):Den m fr ρ σ a w':=by
 refine ⟨fun b o ak=>cR.mem b o (hle b o (Den.x6 m ρ σ.objs w b o ak)),cR.frame,h.apart,h.one,h.aA,?_,h.own,h.sep⟩
 intro k o ai
 refine (h.objs k o ai).mono (Mem.le_refl m) (fun _ hu=>⟨hu,rfl⟩) (fun b aD ak=>?_)
 have ad:=h.Fi ai aD ak
 have ae:b<w.heap.size:=(h.objs k o ai).rl aD ak
 have ay:=Array.getElem?_eq_getElem ae
 rw [ay] at ad⊢
 exact cR.mem b _ (hle b _ ad)
noncomputable def Den.hold(fr:eC)(ρ:cM)(objs:b8)(w:World):eC:=⟨Den.all fr.at_ ρ objs w,fr.os,fr.out,fr.low⟩
theorem Den.P1(h:Den m fr ρ σ a w){k:Key}{o:cn}{b:Nat}(ai:σ.objs k=some o)(aD:o.owns=true)(ak:blockOf (ρ k)=some b):Den.hold fr ρ σ.objs w b=w.heap[b]?:=by
 have:=(h.own k o b ai aD ak).2
 simp only [Den.hold,Den.all,this]
 rw [if_pos ⟨k,o,ai,aD,ak⟩]
theorem Den.P2(h:Den m fr ρ σ a w):qh m (Den.hold fr ρ σ.objs w) w:=by
 refine ⟨h.mem,⟨?_,⟨h.frame.quiet.os,h.frame.quiet.out,h.frame.quiet.low,h.frame.quiet.p6⟩⟩,?_⟩
 ·intro b o ak
  unfold Den.hold Den.all at ak
  cases hm:fr b with
  |some x=>simp only [hm] at ak;cases ak;exact h.frame.nT b _ hm
  |none=>
   simp only [hm] at ak
   split at ak
   ·exact ak
   ·cases ak
 ·intro b ak
  show Den.all fr.at_ ρ σ.objs w b=none
  unfold Den.all
  rw [h.apart b ak]
  simp only
  rw [if_neg]
  rintro ⟨k,o,ad,ae,ay⟩
  exact ak (h.own k o b ad ae ay).1
theorem Den.kept(h:Den m fr ρ σ a w){w':World}{cd:Mem}(hle:m.le cd)(cR:qh cd (Den.hold fr ρ σ.objs w) w'):Den cd fr ρ σ a w':=by
 have n0:∀b o,fr b=some o→Den.hold fr ρ σ.objs w b=some o:=Den.x6 fr.at_ ρ σ.objs w
 have iY:∀k o b,σ.objs k=some o→o.owns=true→blockOf (ρ k)=some b→cd b=none:=by
  intro k o b ai aD ak
  cases hm:cd b with
  |none=>rfl
  |some x=>
   have ad:=cR.apart b (by rw [hm];simp)
   rw [h.P1 ai aD ak,Array.getElem?_eq_getElem ((h.objs k o ai).rl aD ak)] at ad
   cases ad
 refine ⟨cR.mem,⟨fun b o ak=>cR.frame.nT b o (n0 b o ak),⟨cR.frame.quiet.os,cR.frame.quiet.out,cR.frame.quiet.low,cR.frame.quiet.p6⟩⟩,?_,h.one,fun t=>(h.aA t).mono hle (fun _ hu=>⟨hu,rfl⟩),?_,fun k o b ad ae ay=>⟨iY k o b ad ae ay,(h.own k o b ad ae ay).2⟩,h.sep⟩
 ·intro b ak
  have:=cR.apart b ak
  cases a4:fr b with
  |none=>rfl
  |some x=>rw [n0 b x a4] at this;cases this
 ·intro k o ai
  refine (h.objs k o ai).mono hle (fun _ hu=>⟨hu,rfl⟩) (fun b aD ak=>?_)
  have ad:=h.P1 ai aD ak
  have ay:=Array.getElem?_eq_getElem ((h.objs k o ai).rl aD ak)
  rw [ay] at ad⊢
  exact cR.frame.nT b _ ad
end
end Go.Am
namespace Go.Am
set_option linter.unusedVariables false
def dO(o:Option cn):Prop:=(∃cs,o=some (.box cs))∨∃k es,o=some (.row k es)
theorem rq{cs:List AV}:dO (some (.box cs)):= .inl ⟨_,rfl⟩
theorem rr{k:Nat}{es:List (List D)}:dO (some (.row k es)):= .inr ⟨_,_,rfl⟩
theorem ru:¬dO none:=by rintro (⟨_,h⟩|⟨_,_,h⟩)<;>cases h
theorem AJ:¬dO (some .dead):=by rintro (⟨_,h⟩|⟨_,_,h⟩)<;>cases h
theorem x7{es:List (Value×D)}:¬dO (some (.map es)):=by rintro (⟨_,h⟩|⟨_,_,h⟩)<;>cases h
theorem x8{o:Option cn}(h:dO o):∃x,o=some x:=by rcases h with⟨_,h⟩|⟨_,_,h⟩<;>exact ⟨_,h⟩
def jw(σ:St)(ρ:cM)(aR:St)(cp:cM):Prop:=∀k,10000≤k→dO (σ.objs k)→dO (aR.objs k)∧cp k=ρ k
theorem jw.refl(σ:St)(ρ:cM):jw σ ρ σ ρ:=fun _ _ h=>⟨h,rfl⟩
theorem jw.trans{fi eV P3:St}{lg jx P4:cM}(h:jw fi lg eV jx)(bj:jw eV jx P3 P4):jw fi lg P3 P4:=
 fun k ai ak=>let⟨a,b⟩:=h k ai ak;let⟨c,d⟩:=bj k ai a;⟨c,d.trans b⟩
@[simp] theorem St.sQ (σ:St) (dst:Option Tmp) (r:AV):(σ.put dst r).objs=σ.objs:=by cases dst<;>rfl
def hv(N:Nat)(m:Mem)(fr:eC)(ρ:cM)(σ:St)(K:St→Prop)(ct:Act)(w':World):Prop:=
 ∃aR cd cp,K aR∧m.le cd∧Den cd fr cp aR ct w'∧N≤ct.tmps.size∧ct.defers=[]∧jw σ ρ aR cp
theorem Den.put{m:Mem}{fr:eC}{ρ:cM}{σ:St}{a:Act}{w:World}(h:Den m fr ρ σ a w){dst:Option Tmp}{r:AV}{v:Value}(av:bI m ρ σ.used r v)(ax:∀d,dst=some d→d<a.tmps.size):
  Den m fr ρ (σ.put dst r) (a.put dst v) w:=by
 cases dst with
 |none=>exact h
 |some d=>
  refine ⟨h.mem,h.frame,h.apart,h.one,?_,h.objs,h.own,h.sep⟩
  intro t
  have bW:=ax d rfl
  by_cases aG:t=d
  ·subst aG
   simp only [St.put,dU,Act.put]
   have:(a.tmps.setIfInBounds t v).getD t undef=v:=by simp [Array.getD,bW]
   rw [this];exact av
  ·simp only [St.put,cr _ _ aG,Act.put]
   have:(a.tmps.setIfInBounds d v).getD t undef=a.tmps.getD t undef:=by
    rw [Array.getD_eq_getD_getElem?,Array.getD_eq_getD_getElem?,Array.getElem?_setIfInBounds,if_neg (Ne.symm aG)]
   rw [this];exact h.aA t
theorem JV{objs:b8}{k:Key}{o:cn}(h:dO (objs k)→dO (some o)):∀j,dO (objs j)→dO (b0 objs k (some o) j):=by
 intro j aH
 by_cases fh:j=k
 ·subst fh;rw [dU];exact h aH
 ·rw [cr _ _ fh];exact aH
theorem ZY{T:bX}{ev:Operand→AV}{objs:b8}{d:Key}{o:Op}{r:AV}{b3:List (Key×cn)}(h:effOp0 T ev objs d o=some (r,b3)):∀j,10000≤j→dO (objs j)→dO (updO objs b3 j):=by
 have new:∀{o:cn},objs d=none→∀j,10000≤j→dO (objs j)→dO (updO objs [(d,o)] j):=by
  intro o ax j _
  exact JV (fun h=>by rw [ax] at h;exact absurd h ru) j
 have same:∀{k:Key} {dc o:cn},objs k=some dc→(dO (some dc)→dO (some o))→∀j,10000≤j→dO (objs j)→dO (updO objs [(k,o)] j):=by
  intro k dc o ai b9 j _
  exact JV (fun h=>by rw [ai] at h;exact b9 h) j
 cases o<;>simp only [effOp0,reduceCtorEq] at h
 case alloc=>split at h<;>cases h;exact new (by assumption)
 case box=>split at h<;>cases h;exact new (by assumption)
 case buildSlice=>
  split at h
  case h_2=>cases h
  split at h
  case h_2=>cases h
  split at h
  case h_2=>cases h
  split at h<;>cases h
  exact new (by assumption)
 case makeSlice=>
  split at h
  case h_2=>cases h
  split at h
  case h_2=>cases h
  split at h
  case h_2=>cases h
  split at h<;>cases h
  exact new (by assumption)
 case makeMap=>split at h<;>cases h;exact new (by assumption)
 case store=>
  split at h
  case h_2=>cases h
  split at h
  case isFalse=>cases h
  split at h
  ·split at h
   case h_2=>cases h
   split at h<;>cases h
   exact fun j _=>JV (fun _=>rq) j
  ·split at h
   case h_2=>cases h
   split at h
   case isFalse=>cases h
   split at h<;>cases h
   exact same (by assumption) (fun _=>rr)
  ·cases h
 case mapUpdate=>
  split at h
  case h_2=>cases h
  split at h
  case h_2=>cases h
  split at h
  case isFalse=>cases h
  split at h
  case h_2=>cases h
  split at h
  case h_2=>cases h
  split at h<;>cases h
  exact same (by assumption) (fun h=>absurd h x7)
 case insert=>
  split at h
  case h_2=>cases h
  split at h
  case h_2=>cases h
  split at h
  case isFalse=>cases h
  split at h
  case h_2=>cases h
  split at h
  case h_2=>cases h
  split at h<;>cases h
  exact same (by assumption) (fun h=>absurd h x7)
 case call=>
  split at h
  ·split at h
   case h_2=>cases h
   split at h
   case h_2=>cases h
   split at h
   case h_2=>cases h
   split at h
   case h_2=>cases h
   split at h
   case isFalse=>cases h
   split at h
   ·split at h<;>cases h
    exact new (by assumption)
   ·split at h
    case h_2=>cases h
    split at h<;>cases h
    rename_i ax _ _ _ _ _ _ _ _ _ _ _ _ ai _ _
    rename_i Fk
    intro j cU aH
    have ZZ:j≠d:=by rintro rfl;simp_all [ru]
    simp only [updO]
    rw [cr _ _ ZZ,cr _ _ (by rintro rfl;exact absurd Fk.2.2.2 (Nat.not_lt.2 cU))]
    exact aH
   ·cases h
  ·split at h
   case h_2=>cases h
   split at h
   case h_2=>cases h
   split at h
   case h_2=>cases h
   split at h
   case h_2=>cases h
   split at h
   case isFalse=>cases h
   split at h
   ·split at h
    case h_2=>cases h
    split at h<;>cases h
    exact same (by assumption) (fun _=>rr)
   ·split at h
    case h_2=>cases h
    split at h<;>cases h
    exact same (by assumption) (fun _=>rr)
   ·cases h
  ·cases h
theorem P5{T:bX}{ev:Operand→AV}{objs:b8}{d:Key}{o:Op}{k:Key}{off:Nat}{b3:List (Key×cn)}(h:effOp0 T ev objs d o=some (.ptr k off,b3)):objs d=none:=by
 cases o<;>simp only [effOp0,reduceCtorEq] at h
 case alloc=>split at h<;>cases h;assumption
 case box=>split at h<;>cases h;assumption
 all_goals (repeat' split at h)<;>cases h
theorem P6{T:bX}{ev:Operand→AV}{objs:b8}{d:Key}{o:Op}{b3:List (Key×cn)}(h:effOp0 T ev objs d o=some (.row d,b3)):objs d=none:=by
 cases o<;>simp only [effOp0,reduceCtorEq] at h
 all_goals (repeat' split at h)<;>cases h<;>assumption
theorem Z0{T:bX}{ev:Operand→AV}{objs:b8}{d:Key}{o:Op}{r:AV}{b3:List (Key×cn)}(h:fK T ev objs d o=some (r,b3)):∀j,10000≤j→dO (objs j)→dO (updO objs b3 j):=by
 obtain ⟨⟨g5,qg⟩,aq,ak⟩:=sP h
 have ad:=ZY aq
 intro j cU aH
 have aI:∀{o:cn},objs d=none→j≠d:=by rintro o ax rfl;rw [ax] at aH;exact ru aH
 rcases uM (T.born d) d g5 qg with e|⟨n,es,rfl,rfl,e⟩|⟨nX,n,es,rfl,rfl,e⟩|⟨off,cs,aF,rfl,rfl,eb,e⟩
 ·rw [ak] at e;cases e;exact ad j cU aH
 ·rw [ak] at e;cases e
  have ax:=aI (o:= .dead) (P6 aq)
  have:=ad j cU aH
  simp only [updO,cr _ _ ax] at this⊢
  exact this
 ·rw [ak] at e;cases e
  have ax:=aI (o:= .dead) (P6 aq)
  have:=ad j cU aH
  simp only [updO,cr _ _ ax] at this⊢
  exact this
 ·rw [ak] at e;cases e
  have ax:=aI (o:= .dead) (P5 aq)
  simp only [updO,cr _ _ ax];exact aH
section
variable{P:Program}{T:bX}{G:cT}{m:Mem}{fr:eC}{ρ:cM}{σ:St}{a:Act}{w:World}{N:Nat}
theorem Z1(a2:dj P T)(cA:iF G m)(h:Den m fr ρ σ a w)(bV:N≤a.tmps.size)(ga:a.defers=[]){o:Oper}(fE:∀d,o.dst=some d→d<N){aR:St}(az:stepA T G σ o=some aR){K:St→Prop}(gb:K aR){Q:Exit→Act→World→Prop}:
  o.wp P a w (hv N m fr ρ σ K) Q:=by
 have cV:=Ap (a:=a) cA h.aA
 have hx:∀d,o.dst=some d→d<a.tmps.size:=fun d ax=>Nat.lt_of_lt_of_le (fE d ax) bV
 have qi:∀v,N≤(a.put o.dst v).tmps.size:=by intro v;cases o.dst<;>simpa [Act.put] using bV
 have ki:∀v,(a.put o.dst v).defers=[]:=by intro v;cases o.dst<;>exact ga
 unfold Oper.wp
 unfold stepA at az
 split at az
 ·rename_i r av
  cases az
  obtain ⟨v,ad,ae⟩:=Zd (P:=P) (w:=w) (o:=o) a2 h.one cV av
  rw [ad]
  exact ⟨_,m,ρ,gb,Mem.le_refl m,h.put ae hx,qi v,ki v,fun k ai ak=>⟨by simpa using ak,rfl⟩⟩
 ·split at az
  ·rename_i r av
   cases az
   obtain ⟨v,ad,ae⟩:=Zk (P:=P) (w:=w) (o:=o) a2 h.mem h.objs cV av
   rw [ad]
   exact ⟨_,m,ρ,gb,Mem.le_refl m,h.put ae hx,qi v,ki v,fun k ai ak=>⟨by simpa using ak,rfl⟩⟩
  ·split at az
   case h_2=>cases az
   rename_i r b3 av
   cases az
   obtain ⟨nx,v,w',cd,cp,ad,ae,hm,ay,aZ,bL⟩:=ZS (P:=P) (o:=o) a2 h cV av
   rw [ad]
   have fin:hv N m fr ρ σ K (a.put o.dst v) w':=
    ⟨_,cd,cp,gb,hm,ay.put aZ hx,qi v,ki v,fun k ai ak=>⟨by rw [St.sQ];exact Z0 av k ai ak,by obtain ⟨c,aj⟩:=x8 ak;exact (bL k ⟨_,aj⟩).2⟩⟩
   rcases ae with rfl|⟨rfl,rfl⟩
   ·exact fin
   ·exact fin
def calleeA:AV→Option (FuncId×List AV×List AV)
 | .d (.val (.func (.func f) first cap))=>if first.size=0∧cap.size=0 then some (f,[],[]) else none
 | .fn (.func f) first cap=>some (f,first,cap)
 | .d (.fn (.func f) first cap)=>some (f,first.map .d,cap.map .d)
 |_=>none
def x9:AV→Bool
 | .d _=>true
 | .dL _ _=>true
 |_=>false
def isDA:AV→Bool
 | .agg cs=>cs.all x9
 | .fn _ as ic=>as.all x9&&ic.all x9
 |x=>x9 x
theorem JW{m:Mem}{ρ:cM}{U:Key→Prop}{objs:b8}{x:AV}{d:D}{v:Value}(h:x9 x=true)(ax:toD0 objs x=some d)(aM:bI m ρ U x v):cS m d v:=by
 cases x<;>first|cases h|skip
 ·simp only [toD0,toDa] at ax;cases ax;exact aM.mw
 ·simp only [toD0] at ax;cases ax
  cases aM with|dL _ _ b o vs T dF hm xs ad ae=>exact .ref _ _ b o vs T dF hm xs ad ae
theorem JX{m:Mem}{ρ:cM}{U:Key→Prop}{objs:b8}{cs:List AV}{aF:List D}{vs:Array Value}(h:cs.all x9=true)(ax:allSome (cs.map (toD0 objs))=some aF)(an:vs.size=cs.length)
  (aM:∀(i:Nat) (c:AV) (v:Value),cs[i]?=some c→vs[i]?=some v→bI m ρ U c v):vs.size=aF.length∧∀(i:Nat) (c:D) (v:Value),aF[i]?=some c→vs[i]?=some v→cS m c v:=by
 obtain ⟨ad,ae⟩:=oM ax
 refine ⟨by rw [ad,an];simp,fun i c v aj ag=>?_⟩
 have ay:=ae i c aj
 simp only [List.getElem?_map,Option.map_eq_some_iff] at ay
 obtain ⟨y,aN,sR⟩:=ay
 exact JW (List.all_eq_true.1 h y (List.mem_of_getElem? aN)) sR (aM i y v aN ag)
theorem JY{m:Mem}{ρ:cM}{U:Key→Prop}{objs:b8}{x:AV}{d:D}{v:Value}(h:isDA x=true)(ax:toD objs x=some d)(aM:bI m ρ U x v):cS m d v:=by
 cases x
 case agg cs=>
  simp only [toD,toD1] at ax
  split at ax
  case h_2=>cases ax
  rename_i aF eb
  cases ax
  cases aM with|agg _ vs an bw=>
  obtain ⟨a1,a9⟩:=JX h eb an bw
  exact .agg _ _ a1 a9
 case fn f as ic=>
  simp only [isDA,Bool.and_eq_true] at h
  simp only [toD,toD1] at ax
  split at ax
  case h_2=>cases ax
  rename_i aF ya eb Z2
  cases ax
  cases aM with|fn _ _ _ vs ws an dR bw uP=>
  obtain ⟨a1,a9⟩:=JX h.1 eb an bw
  obtain ⟨bH,ee⟩:=JX h.2 Z2 dR uP
  exact .fn _ _ _ _ _ a1 bH a9 ee
 case d y=>exact JW (x:= .d y) rfl (by simpa [toD,toD1] using ax) aM
 case dL cs off=>exact JW (x:= .dL cs off) rfl (by simpa [toD,toD1] using ax) aM
 all_goals cases h
def P7(P:Program)(G:cT)(σ:St)(dst:Option Tmp)(f:FuncId)(rv:List AV)(K:St→Prop):Prop:=
 ∃lh aF dV,allSome (rv.map (toD σ.objs))=some lh∧oL lh aF∧dx P G f aF dV∧(∃g5,dV=(·=g5))∧((∀r,dV r→r.flat=true)∨rv.all isDA=true)∧∀r,dV r→K (σ.put dst (.d r))
def vCall(P:Program)(G:cT)(o:Oper)(σ:St)(K:St→Prop):Prop:=
 match o.op with
 | .call ⟨.value x,args,_⟩=>match calleeA (evA G σ.aA x) with
  |some (f,pre,post)=>P7 P G σ o.dst f (pre++args.toList.map (evA G σ.aA)++post) K
  |none=>False
 |_=>False
def vDo(P:Program)(T:bX)(G:cT)(o:Oper)(K:St→Prop)(σ:St):Prop:=
 match stepA T G σ o with
 |some aR=>K aR
 |none=>vCall P G o σ K
def vOp(P:Program)(T:bX)(G:cT)(all:Array Oper)(o:Oper)(K:St→Prop)(σ:St):Prop:=
 match o.guard with
 |none=>vDo P T G o K σ
 |some (j,want)=>match(all[j]?).bind (·.dst) with
  |some d=>match σ.aA d with
   | .d (.val (.bool b))=>if b=want then vDo P T G o K σ else K (σ.put o.dst (.d (.val (.tuple #[]))))
   | .d (.val (.tuple _))=>K (σ.put o.dst (.d (.val (.tuple #[]))))
   |_=>False
  |none=>False
def vOps(P:Program)(T:bX)(G:cT)(all:Array Oper):List Oper→(St→Prop)→St→Prop
 |[],K,σ=>K σ
 |o::r,K,σ=>vOp P T G all o (vOps P T G all r K) σ
theorem P8{va:Operand→Value}{x:Operand}{args:Array Operand}{dd:Array TypeId}{ty:TypeId}{f:FuncId}{first cap:Array Value}(af:va x= .func (.func f) first cap)(a4:uO P f):
  (do let d←resolve va {callee:= .value x,args:=args,argTypes:=dd} ty;invoke d.target d.args:Sem Next).run P w= .ok (.enter f (first++args.map va++cap)) w:=by
 obtain ⟨fn,ad,ae,ay⟩:=a4
 simp only [Sem.run_bind,resolve,af,Deferred.ofValue,Sem.run_pure,Result.andThen_ok,invoke,callFunc,program,Sem.run,ad,ae,ay,Bool.false_eq_true,if_false]
theorem Z3(cA:iF G m)(h:Den m fr ρ σ a w)(bV:N≤a.tmps.size)(ga:a.defers=[]){o:Oper}(fE:∀d,o.dst=some d→d<N){K:St→Prop}(aj:vCall P G o σ K){Q:Exit→Act→World→Prop}:
  o.wp P a w (hv N m fr ρ σ K) Q:=by
 have cV:=Ap (a:=a) cA h.aA
 have hx:∀d,o.dst=some d→d<a.tmps.size:=fun d ax=>Nat.lt_of_lt_of_le (fE d ax) bV
 have qi:∀v,N≤(a.put o.dst v).tmps.size:=by intro v;cases o.dst<;>simpa [Act.put] using bV
 have ki:∀v,(a.put o.dst v).defers=[]:=by intro v;cases o.dst<;>exact ga
 unfold vCall at aj
 split at aj
 case h_2=>cases aj
 rename_i x args dd di
 split at aj
 case h_2=>cases aj
 rename_i f pre post fL
 obtain ⟨lh,aF,dV,ad,ae,ay,aZ,bL,ch⟩:=aj
 have af:=cV x
 have JZ:∃first cap,a.eval x= .func (.func f) first cap∧first.size=pre.length∧cap.size=post.length∧
   (∀(i:Nat) (c:AV) (v:Value),pre[i]?=some c→first[i]?=some v→bI m ρ σ.used c v)∧(∀(i:Nat) (c:AV) (v:Value),post[i]?=some c→cap[i]?=some v→bI m ρ σ.used c v):=by
  unfold calleeA at fL
  split at fL
  ·rename_i iI first cap he
   split at fL
   case isFalse=>cases fL
   rename_i aq
   cases fL
   rw [he] at af
   exact ⟨first,cap,af.gz,by simpa using aq.1,by simpa using aq.2,by intro i c v aj;simp at aj,by intro i c v aj;simp at aj⟩
  ·rename_i iI first cap he
   cases fL
   rw [he] at af
   generalize a.eval x=u at af
   cases af with|fn _ _ _ vs ws an dR g oN=>exact ⟨vs,ws,rfl,an,dR,g,oN⟩
  ·rename_i iI first cap he
   cases fL
   rw [he] at af
   have af:=af.mw
   generalize a.eval x=u at af
   cases af with|fn _ _ _ vs ws an dR g oN=>
   refine ⟨vs,ws,rfl,by simpa using an,by simpa using dR,?_,?_⟩
   ·intro i c v aj aM
    simp only [List.getElem?_map,Option.map_eq_some_iff] at aj
    obtain ⟨y,aN,rfl⟩:=aj
    exact .d _ _ (g i y v aN aM)
   ·intro i c v aj aM
    simp only [List.getElem?_map,Option.map_eq_some_iff] at aj
    obtain ⟨y,aN,rfl⟩:=aj
    exact .d _ _ (oN i y v aN aM)
  ·cases fL
 obtain ⟨first,cap,sJ,lJ,m8,a1,a9⟩:=JZ
 have ft:∀(i:Nat) (c:AV) (v:Value),(pre++args.toList.map (evA G σ.aA)++post)[i]?=some c→(first++args.map a.eval++cap).toList[i]?=some v→bI m ρ σ.used c v:=by
  intro i c v aj aM
  simp only [Array.toList_append,Array.toList_map] at aM
  have aS:first.toList.length=pre.length:=by simpa using lJ
  by_cases ad:i<pre.length
  ·rw [List.append_assoc,List.getElem?_append_left ad] at aj
   rw [List.append_assoc,List.getElem?_append_left (by omega)] at aM
   exact a1 i c v aj (by simpa using aM)
  ·by_cases ae:i<pre.length+args.size
   ·rw [List.getElem?_append_left (by simp;omega),List.getElem?_append_right (by omega)] at aj
    rw [List.getElem?_append_left (by simp;omega),List.getElem?_append_right (by omega),aS] at aM
    simp only [List.getElem?_map,Option.map_eq_some_iff] at aj aM
    obtain ⟨p,aX,rfl⟩:=aj
    obtain ⟨q,bK,rfl⟩:=aM
    rw [aX] at bK;cases bK
    exact cV _
   ·rw [List.getElem?_append_right (by simp;omega)] at aj
    rw [List.getElem?_append_right (by simp;omega)] at aM
    refine a9 _ c v aj ?_
    rw [←aM]
    simp only [List.length_append,List.length_map,Array.length_toList,lJ]
    simp
 have hlen:(first++args.map a.eval++cap).toList.length=(pre++args.toList.map (evA G σ.aA)++post).length:=by simp [lJ,m8]
 have J0:(execOp a.eval o).run P w= .ok (.enter f (first++args.map a.eval++cap)) w:=by
  unfold execOp
  rw [di]
  exact P8 sJ ay.fn
 unfold Oper.wp
 rw [J0]
 rcases bL with bL|bL
 ·
  have cv:=oL.ok ae (ZW h hlen ft ad)
  have qj:=ay.run _ fr w _ (cA.mono (Den.x6 m ρ σ.objs w)) h.PX cv
  simp only [Array.toArray_toList] at qj
  refine qj.mono fun e w' he=>?_
  obtain ⟨v,cd,r,rfl,bq,bk,bT,db⟩:=he
  have bZ:=h.ZX bk bT
  exact ⟨_,m,ρ,ch r bq,Mem.le_refl m,bZ.put (.d _ _ (D.ZU (bL r bq) db)) hx,qi v,ki v,fun k ai ak=>⟨by simpa using ak,rfl⟩⟩
 ·have J1:uN m lh (first++args.map a.eval++cap).toList:=by
   obtain ⟨a1,a9⟩:=oM ad
   refine ⟨by rw [hlen,a1];simp,?_⟩
   intro i d v ax aM
   have bH:=a9 i d ax
   rw [List.getElem?_map,Option.map_eq_some_iff] at bH
   obtain ⟨y,aN,ry⟩:=bH
   exact JY (List.all_eq_true.1 bL y (List.mem_of_getElem? aN)) ry (ft i y v aN aM)
  have qj:=ay.run m _ w _ cA h.P2 (oL.ok ae J1)
  simp only [Array.toArray_toList] at qj
  refine qj.mono fun e w' he=>?_
  obtain ⟨v,cd,r,rfl,bq,bk,bT,db⟩:=he
  have bZ:=h.kept bk bT
  exact ⟨_,cd,ρ,ch r bq,bk,bZ.put (.d _ _ db) hx,qi v,ki v,fun k ai ak=>⟨by simpa using ak,rfl⟩⟩
theorem J2(a2:dj P T)(cA:iF G m)(h:Den m fr ρ σ a w)(bV:N≤a.tmps.size)(ga:a.defers=[]){o:Oper}(fE:∀d,o.dst=some d→d<N){K:St→Prop}(aj:vDo P T G o K σ){Q:Exit→Act→World→Prop}:
  o.wp P a w (hv N m fr ρ σ K) Q:=by
 unfold vDo at aj
 split at aj
 ·exact Z1 a2 cA h bV ga fE (by assumption) aj
 ·exact Z3 cA h bV ga fE aj
theorem vOp_ok(a2:dj P T)(cA:iF G m)(h:Den m fr ρ σ a w)(bV:N≤a.tmps.size)(ga:a.defers=[]){all:Array Oper}{i:Nat}{o:Oper}(ag:all[i]?=some o)(fE:∀d,o.dst=some d→d<N){K:St→Prop}(aj:vOp P T G all o K σ)
  {Q:Exit→Act→World→Prop}:wpOp P all Q i (hv N m fr ρ σ K) a w:=by
 have hx:∀d,o.dst=some d→d<a.tmps.size:=fun d ax=>Nat.lt_of_lt_of_le (fE d ax) bV
 unfold wpOp
 simp only [ag]
 unfold vOp at aj
 split at aj
 ·rename_i bD
  have:Region.wanted o (yielded all a.tmps)=true:=by simp [Region.wanted,bD]
  rw [if_pos this]
  exact .inl (J2 a2 cA h bV ga fE aj)
 ·rename_i j want bD
  split at aj
  case h_2=>cases aj
  rename_i d ax
  have kj:∀v,a.tmps.getD d undef=v→yielded all a.tmps j=(match v with| .bool b=>some b|_=>none):=by
   intro v aM
   unfold yielded
   rw [ax]
   simp only [Option.bind_some]
   rw [Array.getD_eq_getD_getElem?] at aM
   cases bW:a.tmps[d]? with
   |none=>
    rw [bW] at aM
    simp only [Option.getD_none] at aM
    subst aM
    rfl
   |some u=>
    rw [bW] at aM
    simp only [Option.getD_some] at aM
    subst aM
    cases u<;>rfl
  have skip:Region.wanted o (yielded all a.tmps)=false→K (σ.put o.dst (.d (.val (.tuple #[]))))→hv N m fr ρ σ K (a.put o.dst undef) w:=fun _ ai=>
   ⟨_,m,ρ,ai,Mem.le_refl m,h.put (.d _ _ (.val _)) hx,by cases o.dst<;>simpa [Act.put] using bV,by cases o.dst<;>exact ga,fun k ai ak=>⟨by simpa using ak,rfl⟩⟩
  split at aj
  ·rename_i b az
   have aM:=h.aA d
   rw [az] at aM
   have aN:=kj _ aM.gz
   simp only at aN
   have hw:Region.wanted o (yielded all a.tmps)=(b==want):=by
    simp only [Region.wanted,bD,aN]
    cases b<;>cases want<;>rfl
   by_cases ak:b=want
   ·rw [if_pos ak] at aj
    rw [hw,if_pos (by simpa using ak)]
    exact .inl (J2 a2 cA h bV ga fE aj)
   ·rw [if_neg ak] at aj
    have a4:Region.wanted o (yielded all a.tmps)=false:=by rw [hw];simpa using ak
    rw [if_neg (by rw [a4];simp)]
    exact skip a4 aj
  ·rename_i vs az
   have aM:=h.aA d
   rw [az] at aM
   have aN:=kj _ aM.gz
   simp only at aN
   have a4:Region.wanted o (yielded all a.tmps)=false:=by
    simp only [Region.wanted,bD,aN];rfl
   rw [if_neg (by rw [a4];simp)]
   exact skip a4 aj
  ·cases aj
theorem wpOp_mono{ops:Array Oper}{Q:Exit→Act→World→Prop}{i:Nat}{K K':Act→World→Prop}(ai:∀a w,K a w→K' a w){a:Act}{w:World}(h:wpOp P ops Q i K a w):wpOp P ops Q i K' a w:=by
 unfold wpOp at*
 split
 ·rename_i e;simp only [e] at h;exact ai _ _ h
 ·rename_i o e
  simp only [e] at h
  split
  ·rename_i hw
   rw [if_pos hw] at h
   rcases h with h|h
   ·refine .inl ?_
    unfold Oper.wp at*
    generalize (execOp a.eval o).run P w=r at*
    cases r with
    |ok n w'=>
     cases n<;>simp only [Oper.upon] at h⊢<;>first|exact ai _ _ h|exact h|skip
     ·refine h.mono fun e ja he=>?_
      cases e with
      |returned v=>exact ai _ _ he
      |panicked c=>exact he
      |outgrown=>exact he
     ·exact h.mono fun v ja he=>ai _ _ he
    |halt x w'=>cases x<;>exact h
   ·exact .inr h
  ·rename_i hw
   rw [if_neg hw] at h
   exact ai _ _ h
end
end Go.Am
namespace Go.Am
set_option linter.unusedVariables false
theorem Fl{ev hy:Operand→AV}{l:List Operand}(h:∀x∈l,ev x=hy x):l.map ev=l.map hy:=List.map_congr_left h
theorem P9{ev hy:Operand→AV}{h2:Array (Nat×Operand)}(h:∀x∈(h2.toList.map (·.2)),ev x=hy x):(h2.toList.map fun p=>(p.1,ev p.2))=h2.toList.map fun p=>(p.1,hy p.2):=
 List.map_congr_left fun p aX=>by rw [h p.2 (List.mem_map.2 ⟨p,aX,rfl⟩)]
theorem Z4{T:bX}{ev hy:Operand→AV}{op:Op}(h:∀x∈op.operands.toList,ev x=hy x):pureOp T ev op=pureOp T hy op:=by
 cases op<;>simp only [pureOp]
 case move x=>rw [h x (by simp [Op.operands])]
 case assign x=>rw [h x (by simp [Op.operands])]
 case pick c a b=>rw [h c (by simp [Op.operands]),h a (by simp [Op.operands]),h b (by simp [Op.operands])]
 case binOp op t x y uz=>rw [h x (by simp [Op.operands]),h y (by simp [Op.operands])]
 case unOp op t x=>rw [h x (by simp [Op.operands])]
 case convert s t x=>rw [h x (by simp [Op.operands])]
 case fieldAddr s x f=>rw [h x (by simp [Op.operands])]
 case field s x f=>rw [h x (by simp [Op.operands])]
 case extract x i=>rw [h x (by simp [Op.operands])]
 case build t parts=>rw [P9 (by simpa [Op.operands] using h)]
 case index t x i=>rw [h x (by simp [Op.operands]),h i (by simp [Op.operands])]
 case makeFunc f first cap=>
  rw [Fl (l:=first.toList) (fun x af=>h x (by simp [Op.operands] at af⊢;exact .inl af)),Fl (l:=cap.toList) (fun x af=>h x (by simp [Op.operands] at af⊢;exact .inr af))]
 case makeInterface t x=>rw [h x (by simp [Op.operands])]
 case nilCheck x=>rw [h x (by simp [Op.operands])]
 case slice t x lo ag eU=>
  cases eU with
  |some _=>rfl
  |none=>
   simp only [pureOp]
   have aS:lo.map ev=lo.map hy:=by cases lo with|none=>rfl|some l=>simp only [Option.map_some];rw [h l (by simp [Op.operands])]
   have aV:ag.map ev=ag.map hy:=by cases ag with|none=>rfl|some l=>simp only [Option.map_some];rw [h l (by simp [Op.operands])]
   rw [h x (by simp [Op.operands]),aS,aV]
 case call c=>
  obtain ⟨callee,args,dd⟩:=c
  simp only
  have e:args.toList.map ev=args.toList.map hy:=Fl fun x af=>h x (by simp [Op.operands,Call.operands] at af⊢;exact .inr af)
  rw [e]
theorem Z5{T:bX}{ev hy:Operand→AV}{objs:b8}{op:Op}(h:∀x∈op.operands.toList,ev x=hy x):memOp T ev objs op=memOp T hy objs op:=by
 cases op<;>simp only [memOp]
 case load t a=>rw [h a (by simp [Op.operands])]
 case indexAddr t x eh=>rw [h x (by simp [Op.operands]),h eh (by simp [Op.operands])]
 case slice t x lo ag eU=>
  cases eU with
  |some _=>rfl
  |none=>
   simp only [memOp]
   have aS:lo.map ev=lo.map hy:=by cases lo with|none=>rfl|some l=>simp only [Option.map_some];rw [h l (by simp [Op.operands])]
   have aV:ag.map ev=ag.map hy:=by cases ag with|none=>rfl|some l=>simp only [Option.map_some];rw [h l (by simp [Op.operands])]
   rw [h x (by simp [Op.operands]),aS,aV]
 case call c=>
  obtain ⟨callee,args,dd⟩:=c
  simp only
  split
  ·split
   ·rename_i t x mx jN
    have aB:args= #[x]:=by apply Array.ext';simpa using jN
    have e:ev x=hy x:=h x (by simp [Op.operands,Call.operands,aB])
    rw [e]
   ·rfl
  ·rfl
 case lookup t x k ok=>rw [h x (by simp [Op.operands]),h k (by simp [Op.operands])]
 case binOp op t x y uz=>rw [h x (by simp [Op.operands]),h y (by simp [Op.operands])]
theorem Z6{T:bX}{ev hy:Operand→AV}{objs:b8}{d:Key}{op:Op}(h:∀x∈op.operands.toList,ev x=hy x):effOp0 T ev objs d op=effOp0 T hy objs d op:=by
 cases op<;>simp only [effOp0]
 case box t x=>rw [h x (by simp [Op.operands])]
 case buildSlice t n parts=>rw [P9 (by simpa [Op.operands] using h)]
 case makeSlice t l c=>rw [h l (by simp [Op.operands]),h c (by simp [Op.operands])]
 case store t a x=>rw [h a (by simp [Op.operands]),h x (by simp [Op.operands])]
 case mapUpdate t m k x=>rw [h m (by simp [Op.operands]),h k (by simp [Op.operands]),h x (by simp [Op.operands])]
 case insert t m k x=>rw [h m (by simp [Op.operands]),h k (by simp [Op.operands]),h x (by simp [Op.operands])]
 case call c=>
  obtain ⟨callee,args,dd⟩:=c
  simp only
  split
  ·split
   ·rename_i t t' s x mx jN
    have aB:args= #[s,x]:=by apply Array.ext';simpa using jN
    have aS:ev s=hy s:=h s (by simp [Op.operands,Call.operands,aB])
    have aV:ev x=hy x:=h x (by simp [Op.operands,Call.operands,aB])
    rw [aS,aV]
   ·rfl
  ·split
   ·rename_i t t' s x mx jN
    have aB:args= #[s,x]:=by apply Array.ext';simpa using jN
    have aS:ev s=hy s:=h s (by simp [Op.operands,Call.operands,aB])
    have aV:ev x=hy x:=h x (by simp [Op.operands,Call.operands,aB])
    rw [aS,aV]
   ·rfl
  ·rfl
theorem Z7{T:bX}{ev hy:Operand→AV}{objs:b8}{d:Key}{op:Op}(h:∀x∈op.operands.toList,ev x=hy x):fK T ev objs d op=fK T hy objs d op:=by
 unfold fK;rw [Z6 h]
def hh:Op→Bool
 | .move _| .assign _| .pick ..| .unOp ..| .convert ..| .fieldAddr ..| .field ..| .extract ..| .build ..| .index ..| .makeFunc ..| .makeInterface ..| .nilCheck _=>true
 |_=>false
def hF:Op→Bool
 | .load ..| .indexAddr ..| .slice ..| .lookup ..| .binOp ..=>true
 | .call ⟨.builtin b,_,_⟩=>match b with
  | .len| .max| .min=>true
  |_=>false
 |_=>false
def gd:Op→Bool
 | .call ⟨.value _,_,_⟩=>true
 |_=>false
def n1:Op→Bool
 | .alloc _| .box ..| .buildSlice ..=>true
 |_=>false
theorem yb{T:bX}{ev:Operand→AV}{objs:b8}{d:Key}{op:Op}(h:hh op=true):memOp T ev objs op=none∧fK T ev objs d op=none:=by
 cases op<;>first|exact ⟨rfl,rfl⟩|cases h
theorem yc{T:bX}{ev:Operand→AV}{objs:b8}{d:Key}{op:Op}(h:hF op=true):fK T ev objs d op=none:=by
 cases op
 case call c=>
  obtain ⟨callee,args,dd⟩:=c
  cases callee with
  |value=>cases h
  |invoke=>cases h
  |builtin b=>cases b<;>first|rfl|cases h
 all_goals first|rfl|cases h
theorem J3{T:bX}{ev:Operand→AV}{objs:b8}{d:Key}{op:Op}(h:gd op=true):pureOp T ev op=none∧memOp T ev objs op=none∧fK T ev objs d op=none:=by
 cases op
 case call c=>
  obtain ⟨callee,args,dd⟩:=c
  cases callee with
  |value=>exact ⟨rfl,rfl,rfl⟩
  |invoke=>cases h
  |builtin b=>cases h
 all_goals cases h
theorem oO{T:bX}{ev:Operand→AV}{objs:b8}{op:Op}(h:n1 op=true):pureOp T ev op=none∧memOp T ev objs op=none:=by
 cases op<;>first|exact ⟨rfl,rfl⟩|cases h
theorem Z8{T:bX}{ev:Operand→AV}{objs objs':b8}{d:Key}{op:Op}(h:n1 op=true)(aq:objs' d=none){r:AV}{b3:List (Key×cn)}(he:effOp0 T ev objs d op=some (r,b3)):
  effOp0 T ev objs' d op=some (r,b3)∧objs d=none∧∃o,b3=[(d,o)]:=by
 cases op
 case alloc t=>
  simp only [effOp0] at he⊢
  split at he
  case h_2=>cases he
  rename_i i aG ax
  cases he
  exact ⟨by simp only [aq,aG],ax,_,rfl⟩
 case box t x=>
  simp only [effOp0] at he⊢
  split at he
  case h_2=>cases he
  rename_i cs aj ax
  cases he
  exact ⟨by simp only [aq,aj],ax,_,rfl⟩
 case buildSlice t n parts=>
  simp only [effOp0] at he⊢
  split at he
  case h_2=>cases he
  rename_i e s b z aG ax
  simp only [aq,aG]
  split at he
  case h_2=>cases he
  rename_i bd h0
  try simp only [h0]
  split at he
  case h_2=>cases he
  rename_i es aX
  try simp only [aX]
  split at he
  case isFalse=>cases he
  rename_i aj
  cases he
  exact ⟨by rw [if_pos aj],ax,_,rfl⟩
 all_goals cases h
theorem yd{T:bX}{ev:Operand→AV}{objs objs':b8}{d:Key}{op:Op}(h:n1 op=true)(aq:objs' d=none){r:AV}{b3:List (Key×cn)}(he:fK T ev objs d op=some (r,b3)):
  fK T ev objs' d op=some (r,b3)∧objs d=none∧∃o,b3=[(d,o)]:=by
 obtain ⟨⟨g5,qg⟩,e8,ak⟩:=sP he
 obtain ⟨a1,a9,o,rfl⟩:=Z8 (objs':=objs') h aq e8
 refine ⟨by unfold fK;rw [a1];simp [ak],a9,?_⟩
 rcases uM (T.born d) d g5 [(d,o)] with e|⟨n,es,aS,aV,e⟩|⟨nX,n,es,aS,aV,e⟩|⟨off,cs,aF,aS,aV,eb,e⟩
 ·rw [ak] at e;cases e;exact ⟨o,rfl⟩
 ·rw [ak] at e;cases e;exact ⟨_,rfl⟩
 ·cases aV
 ·rw [ak] at e;cases e;exact ⟨_,rfl⟩
def b8.ext(objs objs':b8):Prop:=∀k o,objs k=some o→objs' k=some o
theorem b8.Fo{objs:b8}{k:Key}(h:objs k=none)(o:cn):objs.ext (b0 objs k (some o)):=by
 intro j x af
 have:j≠k:=by rintro rfl;rw [h] at af;cases af
 rw [cr _ _ this];exact af
theorem Qa{objs objs':b8}(h:objs.ext objs'){x:AV}{n:Nat}(an:lenA objs x=some n):lenA objs' x=some n:=by
 unfold lenA at*
 split at an
 ·exact an
 ·exact an
 ·split at an
  ·rename_i ai;rw [h _ _ ai];exact an
  ·cases an
 ·exact an
 ·cases an
theorem Fp{objs objs':b8}(h:objs.ext objs'){x:AV}{b:Bool}(an:someS objs x=some b):someS objs' x=some b:=by
 unfold someS at*
 split at an
 ·exact an
 ·exact an
 ·split at an
  ·rename_i ai;rw [h _ _ ai];exact an
  ·cases an
 ·cases an
theorem Qb{objs objs':b8}(h:objs.ext objs'){x:AV}{d:D}(an:toDa objs x=some d):toDa objs' x=some d:=by
 unfold toDa at*
 split at an
 ·exact an
 ·split at an
  ·rename_i ai;rw [h _ _ ai];exact an
  ·cases an
 ·split at an
  ·rename_i ai;rw [h _ _ ai];exact an
  ·cases an
 ·split at an
  ·rename_i ai;rw [h _ _ ai];exact an
  ·cases an
 ·cases an
theorem nc{α:Type}{f g:AV→Option α}(h:∀x d,f x=some d→g x=some d):∀(l:List AV) (r:List α),allSome (l.map f)=some r→allSome (l.map g)=some r
 |[],r,av=>av
 |x::l,r,av=>by
  simp only [List.map_cons] at av⊢
  cases af:f x with
  |none=>simp [af,allSome] at av
  |some d=>
   rw [af] at av
   simp only [allSome] at av
   split at av
   case h_2=>cases av
   rename_i oI dR
   rw [h x d af]
   simp only [allSome,nc h l oI dR]
   exact av
theorem Fq{objs objs':b8}(h:objs.ext objs'){x:AV}{d:D}(an:toD0 objs x=some d):toD0 objs' x=some d:=by
 unfold toD0 at*
 split at an
 ·split at an
  case h_2=>cases an
  rename_i ai
  simp only [h _ _ ai]
  split at an
  case h_2=>cases an
  rename_i cs gJ
  rw [nc (fun x d af=>Qb h af) _ _ gJ]
  exact an
 ·exact an
 ·exact Qb h an
theorem Qc{objs objs':b8}(h:objs.ext objs'){x:AV}{d:D}(an:toD1 objs x=some d):toD1 objs' x=some d:=by
 unfold toD1 at*
 split at an
 ·split at an
  case h_2=>cases an
  rename_i aF eb
  rw [nc (fun x d af=>Fq h af) _ _ eb]
  exact an
 ·split at an
  case h_2=>cases an
  rename_i as ic has AI
  rw [nc (fun x d af=>Fq h af) _ _ has,nc (fun x d af=>Fq h af) _ _ AI]
  exact an
 ·exact Fq h an
theorem Z9{objs objs':b8}(h:objs.ext objs'){x:AV}{d:D}(an:toD objs x=some d):toD objs' x=some d:=by
 unfold toD at*
 split at an
 ·split at an
  case h_2=>cases an
  rename_i aF eb
  rw [nc (fun x d af=>Qc h af) _ _ eb]
  exact an
 ·exact Qc h an
theorem aaa{T:bX}{ev:Operand→AV}{objs objs':b8}(h:objs.ext objs'){op:Op}{r:AV}(hm:memOp T ev objs op=some r):memOp T ev objs' op=some r:=by
 cases op<;>simp only [memOp,reduceCtorEq] at hm⊢
 case load t a=>
  split at hm
  case h_2=>cases hm
  split at hm
  ·exact hm
  ·split at hm
   case h_2=>cases hm
   rename_i ai;simp only [h _ _ ai];exact hm
  ·split at hm
   case h_2=>cases hm
   rename_i ai;simp only [h _ _ ai];exact hm
  ·cases hm
 case indexAddr t x eh=>
  split at hm
  ·split at hm
   case h_2=>cases hm
   split at hm
   case isFalse=>cases hm
   rename_i aq
   rw [if_pos aq]
   split at hm
   ·exact hm
   ·split at hm
    case h_2=>cases hm
    rename_i ai;simp only [h _ _ ai];exact hm
   ·exact hm
   ·cases hm
  ·exact hm
  ·cases hm
 case slice t x lo ag eU=>
  cases eU with
  |some _=>simp [memOp] at hm
  |none=>
   simp only [memOp] at hm⊢
   split at hm
   case h_3=>cases hm
   case h_2=>exact hm
   split at hm
   case h_2=>cases hm
   split at hm
   case h_2=>cases hm
   rename_i n aI
   simp only [Qa h aI]
   split at hm
   case h_2=>cases hm
   split at hm
   case isFalse=>cases hm
   rename_i aj
   rw [if_pos aj]
   split at hm
   ·exact hm
   ·split at hm
    case h_2=>cases hm
    rename_i ai;simp only [h _ _ ai];exact hm
   ·exact hm
   ·cases hm
 case call c=>
  split at hm
  case h_2=>cases hm
  split at hm
  case h_2=>cases hm
  split at hm
  ·exact hm
  ·split at hm
   case h_2=>cases hm
   rename_i n aI
   simp only [Qa h aI];exact hm
  ·exact hm
  ·exact hm
  ·split at hm
   case h_2=>cases hm
   rename_i ai;simp only [h _ _ ai];exact hm
  ·cases hm
 case lookup t x k ok=>
  split at hm
  case h_2=>cases hm
  split at hm
  ·exact hm
  ·exact hm
  ·split at hm
   case h_2=>cases hm
   rename_i ai;simp only [h _ _ ai];exact hm
  ·cases hm
 case binOp op t x y uz=>
  split at hm
  case h_2=>cases hm
  split at hm
  ·split at hm
   ·rename_i aj
    rw [if_pos aj]
    split at hm
    case h_2=>cases hm
    rename_i b ak
    simp only [Fp h ak];exact hm
   ·rename_i aj
    rw [if_neg aj]
    split at hm
    case isFalse=>cases hm
    rename_i oP
    rw [if_pos oP]
    split at hm
    case h_2=>cases hm
    rename_i b ak
    simp only [Fp h ak];exact hm
  ·split at hm
   ·rename_i aj
    rw [if_pos aj]
    split at hm
    case h_2=>cases hm
    rename_i b ak
    simp only [Fp h ak];exact hm
   ·rename_i aj
    rw [if_neg aj]
    split at hm
    case isFalse=>cases hm
    rename_i oP
    rw [if_pos oP]
    split at hm
    case h_2=>cases hm
    rename_i b ak
    simp only [Fp h ak];exact hm
  ·cases hm
end Go.Am
namespace Go.Am
set_option linter.unusedVariables false
theorem Qd:∀(b3:List (Key×cn)) {objs:b8} {k:Key} {o:cn},(∀p∈b3,p.1≠k)→updO (b0 objs k (some o)) b3=b0 (updO objs b3) k (some o)
 |[],objs,k,o,_=>rfl
 |(j,x)::r,objs,k,o,h=>by
  have aH:j≠k:=h (j,x) (by simp)
  simp only [updO]
  have e:b0 (b0 objs k (some o)) j (some x)=b0 (b0 objs j (some x)) k (some o):=by
   funext i
   simp only [b0]
   by_cases ad:i=j
   ·subst ad;simp [aH]
   ·by_cases ae:i=k
    ·subst ae;simp [ad]
    ·simp [ad,ae]
  rw [e]
  exact Qd r (fun p aX=>h p (by simp [aX]))
theorem Ft{objs objs':b8}(h:objs.ext objs'){x:AV}{r:Nat×List (List D)}(an:elemsOf objs x=some r):elemsOf objs' x=some r:=by
 unfold elemsOf at*
 split at an
 ·exact an
 ·exact an
 ·split at an
  ·rename_i ai;rw [h _ _ ai];exact an
  ·cases an
 ·split at an
  ·rename_i ai;rw [h _ _ ai];exact an
  ·cases an
 ·cases an
theorem aab{T:bX}{ev:Operand→AV}{objs objs':b8}(h:objs.ext objs'){d k:Key}(ax:d≠k)(ai:objs k=none)(jy:objs d=none→objs' d=none){op:Op}{r:AV}{b3:List (Key×cn)}
  (he:effOp0 T ev objs d op=some (r,b3)):effOp0 T ev objs' d op=some (r,b3)∧∀p∈b3,p.1≠k:=by
 have one:∀{o:cn},∀p∈[(d,o)],p.1≠k:=by intro o p aX;simp at aX;subst aX;exact ax
 have mz:∀{j:Key} {x o:cn},objs j=some x→∀p∈[(j,o)],p.1≠k:=by
  intro j x o aH p aX
  simp at aX;subst aX
  rintro rfl;rw [ai] at aH;cases aH
 cases op<;>simp only [effOp0,reduceCtorEq] at he
 case alloc t=>
  split at he<;>cases he
  rename_i i aG aq
  exact ⟨by simp only [effOp0,aG,jy aq],one⟩
 case box t x=>
  split at he<;>cases he
  rename_i cs aj aq
  exact ⟨by simp only [effOp0,aj,jy aq],one⟩
 case buildSlice t n parts=>
  split at he
  case h_2=>cases he
  rename_i e s b z aG aq
  split at he
  case h_2=>cases he
  rename_i bd h0
  split at he
  case h_2=>cases he
  rename_i es aX
  split at he
  case isFalse=>cases he
  rename_i aj
  cases he
  exact ⟨by simp only [effOp0,aG,jy aq,h0,aX];rw [if_pos aj],one⟩
 case makeSlice t l c=>
  split at he
  case h_2=>cases he
  rename_i e s b z aG aq
  split at he
  case h_2=>cases he
  rename_i bd h0
  split at he
  case h_2=>cases he
  rename_i Fa ZJ Fb ZK ad ae
  split at he
  case isFalse=>cases he
  rename_i aj
  cases he
  exact ⟨by simp only [effOp0,aG,jy aq,h0,ad,ae];rw [if_pos aj],one⟩
 case makeMap t r=>
  split at he<;>cases he
  rename_i aq
  exact ⟨by simp only [effOp0,jy aq],one⟩
 case store t a x=>
  split at he
  case h_2=>cases he
  rename_i i cs aG aj
  split at he
  case isFalse=>cases he
  rename_i an
  split at he
  ·rename_i j off ht
   split at he
   case h_2=>cases he
   rename_i cells aH
   split at he
   case isFalse=>cases he
   rename_i a4
   cases he
   exact ⟨by simp only [effOp0,aG,aj,ht,h _ _ aH];rw [if_pos an,if_pos a4],mz aH⟩
  ·rename_i j cx eh off ht
   split at he
   case h_2=>cases he
   rename_i bf es aF aH eb
   split at he
   case isFalse=>cases he
   rename_i a4
   split at he
   case h_2=>cases he
   rename_i el eu
   cases he
   exact ⟨by simp only [effOp0,aG,aj,ht,h _ _ aH,eb];rw [if_pos an,if_pos a4];simp only [eu],mz aH⟩
  ·cases he
 case mapUpdate t m aac x=>
  split at he
  case h_2=>cases he
  rename_i fD hs s b z aG
  split at he
  case h_2=>cases he
  rename_i gI qe
  split at he
  case isFalse=>cases he
  rename_i c3
  split at he
  case h_2=>cases he
  rename_i key dT JS aS aV bz
  split at he
  case h_2=>cases he
  rename_i es aH
  split at he
  case h_2=>cases he
  rename_i l an
  cases he
  exact ⟨by simp only [effOp0,aG,qe,aS,aV,bz,h _ _ aH,an];rw [if_pos c3],mz aH⟩
 case insert t m aac x=>
  split at he
  case h_2=>cases he
  rename_i fD hs s b z aG
  split at he
  case h_2=>cases he
  rename_i gI qe
  split at he
  case isFalse=>cases he
  rename_i c3
  split at he
  case h_2=>cases he
  rename_i key dT JS aS aV bz
  split at he
  case h_2=>cases he
  rename_i es aH
  split at he
  case h_2=>cases he
  rename_i l an
  cases he
  exact ⟨by simp only [effOp0,aG,qe,aS,aV,bz,h _ _ aH,an];rw [if_pos c3],mz aH⟩
 case call c=>
  obtain ⟨callee,args,dd⟩:=c
  simp only at he
  split at he
  ·split at he
   case h_2=>cases he
   rename_i t t' s x mx jN
   split at he
   case h_2=>cases he
   rename_i e s1 fo la cW s2 g4 oJ aG nY aq
   split at he
   case h_2=>cases he
   rename_i bd h0
   split at he
   case h_2=>cases he
   rename_i cx xs my
   split at he
   case isFalse=>cases he
   rename_i aj
   split at he
   ·rename_i g3
    split at he
    case isFalse=>cases he
    rename_i ak
    cases he
    exact ⟨by simp only [effOp0,mx,jN,aG,nY,jy aq,h0,Ft h my,g3];rw [if_pos aj,if_pos ak],one⟩
   ·rename_i key g3
    split at he
    case h_2=>cases he
    rename_i bf es aH
    split at he
    case isFalse=>cases he
    rename_i ak
    cases he
    refine ⟨by simp only [effOp0,mx,jN,aG,nY,jy aq,h0,Ft h my,g3,h _ _ aH];rw [if_pos aj,if_pos ak],?_⟩
    intro p aX
    simp at aX
    rcases aX with rfl|rfl
    ·rintro rfl;rw [ai] at aH;cases aH
    ·exact ax
   ·cases he
  ·split at he
   case h_2=>cases he
   rename_i t t' s x mx jN
   split at he
   case h_2=>cases he
   rename_i e s1 fo la aG
   split at he
   case h_2=>cases he
   rename_i bd h0
   split at he
   case h_2=>cases he
   rename_i cx xs my
   split at he
   case isFalse=>cases he
   rename_i aj
   split at he
   ·rename_i key g3
    split at he
    case h_2=>cases he
    rename_i bf es aH
    split at he
    case isFalse=>cases he
    rename_i ak
    cases he
    exact ⟨by simp only [effOp0,mx,jN,aG,h0,Ft h my,g3,h _ _ aH];rw [if_pos aj,if_pos ak],mz aH⟩
   ·rename_i key c6 i len g3
    split at he
    case h_2=>cases he
    rename_i bf es aH
    split at he
    case isFalse=>cases he
    rename_i ak
    cases he
    exact ⟨by simp only [effOp0,mx,jN,aG,h0,Ft h my,g3,h _ _ aH];rw [if_pos aj,if_pos ak],mz aH⟩
   ·cases he
  ·cases he
theorem aad{T:bX}{ev:Operand→AV}{objs objs':b8}(h:objs.ext objs'){d k:Key}(ax:d≠k)(ai:objs k=none)(jy:objs d=none→objs' d=none){op:Op}{r:AV}{b3:List (Key×cn)}
  (he:fK T ev objs d op=some (r,b3)):fK T ev objs' d op=some (r,b3)∧∀p∈b3,p.1≠k:=by
 obtain ⟨⟨g5,qg⟩,e8,ak⟩:=sP he
 obtain ⟨a1,a9⟩:=aab (objs':=objs') h ax ai jy e8
 refine ⟨by unfold fK;rw [a1];simp [ak],fun p aX=>?_⟩
 have ay:=ZQ (b:=T.born d) (d:=d) (q:=(g5,qg)) p (by rw [ak];exact aX)
 obtain ⟨mA,aZ,bL⟩:=ay
 rw [←bL];exact a9 mA aZ
def res(T:bX)(G:cT)(σ:St)(o:Oper):Option (AV×List (Key×cn)):=
 match pureOp T (evA G σ.aA) o.op with
 |some r=>some (r,[])
 |none=>match memOp T (evA G σ.aA) σ.objs o.op with
  |some r=>some (r,[])
  |none=>fK T (evA G σ.aA) σ.objs (o.dst.getD 9999) o.op
def St.step(σ:St)(dst:Option Tmp)(r:AV)(b3:List (Key×cn)):St:=St.put ⟨σ.aA,updO σ.objs b3⟩ dst r
theorem sS{T:bX}{G:cT}{σ:St}{o:Oper}:stepA T G σ o=(res T G σ o).map fun p=>σ.step o.dst p.1 p.2:=by
 unfold stepA res St.step
 cases pureOp T (evA G σ.aA) o.op with
 |some r=>rfl
 |none=>
  cases memOp T (evA G σ.aA) σ.objs o.op with
  |some r=>rfl
  |none=>
   cases fK T (evA G σ.aA) σ.objs (o.dst.getD 9999) o.op with
   |none=>rfl
   |some p=>obtain ⟨r,b3⟩:=p;rfl
theorem aae{G:cT}{σ:St}{dst:Option Tmp}{r:AV}{x:Operand}(h:∀d,dst=some d→x≠ .tmp d):evA G (σ.put dst r).aA x=evA G σ.aA x:=by
 cases dst with
 |none=>rfl
 |some d=>
  cases x with
  |tmp t=>
   have:t≠d:=fun e=>h d rfl (by rw [e])
   simp only [evA,St.put,cr _ _ this]
  |_=>rfl
theorem aaf{all:Array Oper}{o:Oper}{d:Tmp}(h:d∉o.looksAt all):∀x∈o.op.operands.toList,x≠ .tmp d:=by
 rintro x af rfl
 exact h (by unfold Oper.looksAt;exact List.mem_append_left _ (List.mem_filterMap.2 ⟨_,af,rfl⟩))
theorem aag{all:Array Oper}{o:Oper}{d:Tmp}(h:d∉o.looksAt all){j:Nat}{b:Bool}(bD:o.guard=some (j,b)){e:Tmp}(he:(all[j]?).bind (·.dst)=some e):e≠d:=by
 rintro rfl
 exact h (by unfold Oper.looksAt;exact List.mem_append_right _ (by simp [bD,he]))
theorem put_comm{σ:St}{x y:Option Tmp}{r s:AV}(h:∀d,x=some d→y≠some d):(σ.put x r).put y s=(σ.put y s).put x r:=by
 cases x with
 |none=>rfl
 |some d=>
  cases y with
  |none=>rfl
  |some e=>
   have b9:d≠e:=fun he=>h d rfl (by rw [he])
   simp only [St.put]
   congr 1
   funext t
   simp only [b0]
   by_cases ad:t=d
   ·subst ad;simp [b9]
   ·by_cases ae:t=e
    ·subst ae;simp [ad]
    ·simp [ad,ae]
end Go.Am
namespace Go.Am
set_option linter.unusedVariables false
def pass(x y:Oper):Bool:=
 hh x.op||hh y.op||((hF x.op||gd x.op)&&(hF y.op||gd y.op)&&!(gd x.op&&gd y.op))||
 (n1 y.op&&match y.dst with
  |some d=>decide (d<9999)
  |none=>false)
def wantA(all:Array Oper)(σ:St)(o:Oper):Option Bool:=
 match o.guard with
 |none=>some true
 |some (j,want)=>match(all[j]?).bind (·.dst) with
  |some d=>match σ.aA d with
   | .d (.val (.bool b))=>some (decide (b=want))
   | .d (.val (.tuple _))=>some false
   |_=>none
  |none=>none
section
variable{P:Program}{T:bX}{G:cT}{all:Array Oper}
theorem vOp_eq{o:Oper}{K:St→Prop}{σ:St}:vOp P T G all o K σ=match wantA all σ o with
  |some true=>vDo P T G o K σ
  |some false=>K (σ.put o.dst (.d (.val (.tuple #[]))))
  |none=>False:=by
 unfold vOp wantA
 cases bD:o.guard with
 |none=>rfl
 |some p=>
  obtain ⟨j,want⟩:=p
  simp only
  cases ax:(all[j]?).bind (·.dst) with
  |none=>rfl
  |some d=>
   simp only
   generalize σ.aA d=x
   cases x with
   |d x=>
    cases x with
    |val v=>
     cases v with
     |bool b=>by_cases h:b=want<;>simp [h]
     |_=>rfl
    |_=>rfl
   |_=>rfl
theorem mB{o:Oper}{σ:St}{dst:Option Tmp}{r:AV}(h:∀d,dst=some d→d∉o.looksAt all):wantA all (σ.put dst r) o=wantA all σ o:=by
 unfold wantA
 split
 ·rfl
 ·rename_i j want bD
  split
  ·rename_i e he
   have az:(σ.put dst r).aA e=σ.aA e:=by
    cases dst with
    |none=>rfl
    |some d=>simp only [St.put,cr _ _ (aag (h d rfl) bD he)]
   rw [az]
  ·rfl
theorem Qe{o:Oper}{σ:St}{dst:Option Tmp}{r:AV}(h:∀d,dst=some d→d∉o.looksAt all):∀x∈o.op.operands.toList,evA G (σ.put dst r).aA x=evA G σ.aA x:=
 fun x af=>aae fun d ax=>aaf (h d ax) x af
theorem aah{o:Oper}{σ:St}{dst:Option Tmp}{r:AV}(h:∀d,dst=some d→d∉o.looksAt all):res T G (σ.put dst r) o=res T G σ o:=by
 have cV:=Qe (G:=G) (σ:=σ) (r:=r) h
 unfold res
 rw [Z4 cV,Z5 cV,Z7 cV,St.sQ]
theorem aai{σ:St}{Fu J4:Option Tmp}{r s:AV}{b3:List (Key×cn)}(h:∀d,Fu=some d→J4≠some d):(σ.put Fu r).step J4 s b3=(σ.step J4 s b3).put Fu r:=by
 unfold St.step
 rw [←put_comm h]
 cases Fu<;>rfl
theorem aaj{o:Oper}{σ:St}{dst:Option Tmp}{r:AV}{K:St→Prop}(h:∀d,dst=some d→d∉o.looksAt all)(b9:∀d,dst=some d→o.dst≠some d):
  vCall P G o (σ.put dst r) K=vCall P G o σ (fun aR=>K (aR.put dst r)):=by
 have cV:=Qe (G:=G) (σ:=σ) (r:=r) h
 unfold vCall
 split
 ·rename_i x args dd di
  have aS:evA G (σ.put dst r).aA x=evA G σ.aA x:=cV x (by rw [di];simp [Op.operands,Call.operands])
  have aV:args.toList.map (evA G (σ.put dst r).aA)=args.toList.map (evA G σ.aA):=Fl fun y aN=>cV y (by rw [di];simp [Op.operands,Call.operands];exact .inr (by simpa using aN))
  rw [aS]
  split
  ·rename_i f pre post fL
   unfold P7
   rw [aV,St.sQ]
   simp only [put_comm b9]
  ·rfl
 ·rfl
theorem hS{o:Oper}{σ:St}{dst:Option Tmp}{r:AV}{K:St→Prop}(h:∀d,dst=some d→d∉o.looksAt all)(b9:∀d,dst=some d→o.dst≠some d):
  vDo P T G o K (σ.put dst r)=vDo P T G o (fun aR=>K (aR.put dst r)) σ:=by
 unfold vDo
 rw [sS,sS,aah h]
 cases av:res T G σ o with
 |none=>exact aaj h b9
 |some p=>simp only [Option.map_some,aai b9]
theorem aak{ev:Operand→AV}{objs:b8}{d:Key}{op:Op}{p:AV×List (Key×cn)}(h:fK T ev objs d op=some p)(objs':b8):pureOp T ev op=none∧memOp T ev objs' op=none:=by
 obtain ⟨q,ad,_⟩:=sP h
 clear h
 cases op<;>first|exact ⟨rfl,rfl⟩|(simp only [effOp0,reduceCtorEq] at ad;done)|skip
 case call c=>
  obtain ⟨callee,args,dd⟩:=c
  cases callee with
  |value=>exact ⟨rfl,rfl⟩
  |invoke=>exact ⟨rfl,rfl⟩
  |builtin b=>cases b<;>first|exact ⟨rfl,rfl⟩|(simp only [effOp0,reduceCtorEq] at ad;done)
theorem aal{ev:Operand→AV}{op:Op}{r:AV}(h:pureOp T ev op=some r):hh op=true∨hF op=true:=by
 cases op
 case call c=>
  obtain ⟨callee,args,dd⟩:=c
  cases callee with
  |value=>exact absurd h (by simp [pureOp])
  |invoke=>exact absurd h (by simp [pureOp])
  |builtin b=>cases b<;>first|exact .inr rfl|exact absurd h (by simp [pureOp])
 all_goals first|exact .inl rfl|exact .inr rfl|exact absurd h (by simp [pureOp])
theorem aam{ev:Operand→AV}{objs:b8}{op:Op}{r:AV}(h:memOp T ev objs op=some r):hh op=true∨hF op=true:=by
 cases op
 case call c=>
  obtain ⟨callee,args,dd⟩:=c
  cases callee with
  |value=>exact absurd h (by simp [memOp])
  |invoke=>exact absurd h (by simp [memOp])
  |builtin b=>cases b<;>first|exact .inr rfl|exact absurd h (by simp [memOp])
 all_goals first|exact .inl rfl|exact .inr rfl|exact absurd h (by simp [memOp])
theorem Qf:∀(b3:List (Key×cn)) {objs:b8} {k:Key},updO objs b3 k=none→objs k=none∧∀p∈b3,p.1≠k
 |[],objs,k,h=>⟨h,by simp⟩
 |(j,x)::r,objs,k,h=>by
  obtain ⟨ad,ae⟩:=Qf r h
  have aH:j≠k:=by rintro rfl;rw [dU] at ad;cases ad
  rw [cr _ _ (Ne.symm aH)] at ad
  exact ⟨ad,by intro p aX;rcases List.mem_cons.1 aX with rfl|aX;exact aH;exact ae p aX⟩
theorem uQ{o:Oper}{σ:St}{K:St→Prop}(h:vCall P G o σ K):gd o.op=true:=by
 unfold vCall at h
 split at h
 ·rename_i x args dd di;rw [di];rfl
 ·cases h
theorem AK{op:Op}(h:gd op=true):hh op=false∧hF op=false∧n1 op=false:=by
 cases op<;>first|cases h|skip
 case call c=>
  obtain ⟨callee,args,dd⟩:=c
  cases callee with
  |value=>exact ⟨rfl,rfl,rfl⟩
  |invoke=>cases h
  |builtin b=>cases h
theorem aan{o:Oper}{aA:Nat→AV}{objs objs':b8}(h:objs.ext objs'){r:AV}(av:res T G ⟨aA,objs⟩ o=some (r,[]))(ai:hh o.op=true∨hF o.op=true):res T G ⟨aA,objs'⟩ o=some (r,[]):=by
 unfold res at*
 simp only at*
 split at av
 ·exact av
 ·rename_i aX
  split at av
  ·rename_i asy hm
   simp only [aaa h hm]
   exact av
  ·rename_i hm
   rcases ai with ai|ai
   ·rw [(yb (T:=T) (ev:=evA G aA) (objs:=objs) (d:=o.dst.getD 9999) ai).2] at av;cases av
   ·rw [yc ai] at av;cases av
theorem Fv{o:Oper}{σ:St}{r:AV}{b3:List (Key×cn)}(av:res T G σ o=some (r,b3))(ai:hh o.op=true∨hF o.op=true):b3=[]:=by
 unfold res at av
 split at av
 ·cases av;rfl
 ·split at av
  ·cases av;rfl
  ·rcases ai with ai|ai
   ·rw [(yb (T:=T) (ev:=evA G σ.aA) (objs:=σ.objs) (d:=o.dst.getD 9999) ai).2] at av;cases av
   ·rw [yc ai] at av;cases av
theorem Qg{o:Oper}{aA:Nat→AV}{objs objs':b8}{p:AV×List (Key×cn)}(av:res T G ⟨aA,objs⟩ o=some p)(ai:hh o.op=true):res T G ⟨aA,objs'⟩ o=some p∧p.2=[]:=by
 unfold res at*
 simp only at*
 split at av
 ·cases av;exact ⟨rfl,rfl⟩
 ·rw [(yb (T:=T) (ev:=evA G aA) (objs:=objs) (d:=o.dst.getD 9999) ai).1,(yb (T:=T) (ev:=evA G aA) (objs:=objs) (d:=o.dst.getD 9999) ai).2] at av
  cases av
theorem rz{o:Oper}{σ:St}(ai:gd o.op=true):res T G σ o=none:=by
 unfold res
 obtain ⟨ad,ae,ay⟩:=J3 (T:=T) (ev:=evA G σ.aA) (objs:=σ.objs) (d:=o.dst.getD 9999) ai
 rw [ad,ae,ay]
theorem kk{o:Oper}{σ:St}{K:St→Prop}{r:AV}{b3:List (Key×cn)}(av:res T G σ o=some (r,b3)):vDo P T G o K σ=K (σ.step o.dst r b3):=by
 unfold vDo;rw [sS,av];rfl
theorem lM{o:Oper}{σ:St}{K:St→Prop}(av:res T G σ o=none):vDo P T G o K σ=vCall P G o σ K:=by
 unfold vDo;rw [sS,av];rfl
theorem AL{o:Oper}{σ:St}{K K':St→Prop}(h:vCall P G o σ K)(ai:∀r,K (σ.put o.dst r)→K' (σ.put o.dst r)):vCall P G o σ K':=by
 unfold vCall at*
 split
 ·rename_i x args dd di
  rw [di] at h
  simp only at h
  split
  ·rename_i f pre post fL
   simp only [fL] at h
   obtain ⟨lh,aF,dV,ad,ae,ay,aZ,bL,ch⟩:=h
   exact ⟨lh,aF,dV,ad,ae,ay,aZ,bL,fun r av=>ai _ (ch r av)⟩
  ·rename_i fL
   simp only [fL] at h
 ·rename_i di
  split at h
  ·rename_i x args dd e;exact absurd e (di x args dd)
  ·exact h
theorem Qh{x y:Oper}{σ:St}{K:St→Prop}(ad:∀d,x.dst=some d→d∉y.looksAt all)(ae:∀d,x.dst=some d→y.dst≠some d)(ay:∀d,y.dst=some d→d∉x.looksAt all)(aX:pass x y=true)
  (h:vDo P T G x (fun fi=>vDo P T G y K fi) σ):vDo P T G y (fun eV=>vDo P T G x K eV) σ:=by
 have fU:∀d,y.dst=some d→x.dst≠some d:=fun d ax af=>ae d af ax
 obtain ⟨aA,objs⟩:=σ
 have AM:∀{o:Oper} {r:AV} {u:List (Key×cn)},St.step ⟨aA,objs⟩ o.dst r u=St.put ⟨aA,updO objs u⟩ o.dst r:=rfl
 cases iJ:res T G ⟨aA,objs⟩ x with
 |none=>
  rw [lM iJ] at h
  have AN:=uQ h
  obtain ⟨lj,sT,Qi⟩:=AK AN
  have aN:(hh y.op=true∨hF y.op=true)∨(n1 y.op=true∧∃d,y.dst=some d∧d<9999):=by
   simp only [pass,lj,sT,AN,Bool.false_or,Bool.true_and] at aX
   cases mC:hh y.op with
   |true=>exact .inl (.inl rfl)
   |false=>
    cases cR:hF y.op with
    |true=>exact .inl (.inr rfl)
    |false=>
     simp only [mC,cR,Bool.false_or] at aX
     cases dN:n1 y.op with
     |false=>simp [dN] at aX
     |true=>
      refine .inr ⟨rfl,?_⟩
      simp only [dN,Bool.true_and] at aX
      cases ax:y.dst with
      |none=>simp [ax] at aX
      |some d=>simp [ax] at aX;exact ⟨d,rfl,aX⟩
  have sR:gd y.op=false:=by
   cases bY:gd y.op with
   |false=>rfl
   |true=>
    obtain ⟨a,b,c⟩:=AK bY
    rcases aN with(e|e)|⟨e,_⟩
    ·rw [a] at e;cases e
    ·rw [b] at e;cases e
    ·rw [c] at e;cases e
  unfold vCall at h
  split at h
  case h_2=>cases h
  rename_i Qj args dd di
  split at h
  case h_2=>cases h
  rename_i f pre post fL
  obtain ⟨lh,aF,dV,bq,bk,bT,⟨g5,rfl⟩,dB,ei⟩:=h
  have ye:vDo P T G y K (St.put ⟨aA,objs⟩ x.dst (.d g5)):=ei g5 rfl
  rw [hS ad ae] at ye
  cases h3:res T G ⟨aA,objs⟩ y with
  |none=>
   rw [lM h3] at ye
   have:=uQ ye
   rw [sR] at this;cases this
  |some p=>
   obtain ⟨n2,oQ⟩:=p
   rw [kk h3]
   have nd:b8.ext objs (updO objs oQ):=by
    rcases aN with aN|⟨aN,_⟩
    ·rw [Fv h3 aN];exact fun _ _ h=>h
    ·have sU:fK T (evA G aA) objs (y.dst.getD 9999) y.op=some (n2,oQ):=by
      unfold res at h3
      simp only [(oO (T:=T) (ev:=evA G aA) (objs:=objs) aN).1,(oO (T:=T) (ev:=evA G aA) (objs:=objs) aN).2] at h3
      exact h3
     obtain ⟨bF,aI,o,rfl⟩:=yd (objs':=fun _=>none) aN rfl sU
     exact b8.Fo aI o
   show vDo P T G x K (St.step ⟨aA,objs⟩ y.dst n2 oQ)
   rw [AM,hS ay fU,lM (rz AN)]
   unfold vCall
   rw [di]
   simp only [fL]
   refine ⟨lh,aF,_,nc (fun x d af=>Z9 nd af) _ _ bq,bk,bT,⟨g5,rfl⟩,dB,fun r av=>?_⟩
   have Qk:vDo P T G y K (St.put ⟨aA,objs⟩ x.dst (.d r)):=ei r av
   rw [hS ad ae,kk h3,AM,put_comm fU] at Qk
   exact Qk
 |some p=>
  obtain ⟨rx,nf⟩:=p
  rw [kk iJ,AM,hS ad ae] at h
  cases h3:res T G ⟨aA,updO objs nf⟩ y with
  |none=>
   rw [lM h3] at h
   have sR:=uQ h
   obtain ⟨lj,sT,Qi⟩:=AK sR
   have af:hh x.op=true∨hF x.op=true:=by
    simp only [pass,lj,sT,Qi,sR,Bool.false_or,Bool.or_false,Bool.false_and,Bool.and_true,Bool.or_true] at aX
    cases mC:hh x.op with
    |true=>exact .inl rfl
    |false=>
     cases cR:hF x.op with
     |true=>exact .inr rfl
     |false=>cases bY:gd x.op<;>simp [mC,cR,bY] at aX
   have Fw:=Fv iJ af
   subst Fw
   rw [lM (show res T G ⟨aA,objs⟩ y=none from h3)]
   refine AL h fun r av=>?_
   rw [hS ay fU,kk iJ,AM,put_comm ae]
   exact av
  |some p=>
   obtain ⟨n2,oQ⟩:=p
   rw [kk h3] at h
   have sV:St.step ⟨aA,updO objs nf⟩ y.dst n2 oQ=St.put ⟨aA,updO (updO objs nf) oQ⟩ y.dst n2:=rfl
   rw [sV] at h
   have J5:∀{uR:List (Key×cn)} {Fx:AV},res T G ⟨aA,objs⟩ y=some (Fx,uR)→(∃AO,res T G ⟨aA,updO objs uR⟩ x=some (rx,AO)∧Fx=n2∧updO (updO objs uR) AO=updO (updO objs nf) oQ)→
     vDo P T G y (fun eV=>vDo P T G x K eV) ⟨aA,objs⟩:=by
    rintro uR Fx aS ⟨AO,aV,rfl,bz⟩
    rw [kk aS]
    show vDo P T G x K (St.step ⟨aA,objs⟩ y.dst Fx uR)
    rw [AM,hS ay fU,kk aV]
    have:St.step ⟨aA,updO objs uR⟩ x.dst rx AO=St.put ⟨aA,updO (updO objs uR) AO⟩ x.dst rx:=rfl
    rw [this,bz,put_comm ae]
    exact h
   by_cases AP:hh x.op=true∨hF x.op=true
   ·have Fw:=Fv iJ AP
    subst Fw
    refine J5 h3 ⟨[],?_,rfl,rfl⟩
    by_cases Fy:hh y.op=true∨hF y.op=true
    ·rw [Fv h3 Fy];exact iJ
    ·by_cases Ql:hh x.op=true
     ·exact (Qg iJ Ql).1
     ·
      have aN:n1 y.op=true:=by
       rw [not_or] at Fy
       have ah:hh x.op=false:=by simpa using Ql
       have aT:hh y.op=false:=by simpa using Fy.1
       have bP:hF y.op=false:=by simpa using Fy.2
       simp only [pass,ah,aT,bP,Bool.false_or] at aX
       cases dN:n1 y.op with
       |true=>rfl
       |false=>
        cases bY:gd y.op with
        |false=>simp [dN,bY] at aX
        |true=>rw [rz bY] at h3;cases h3
      have sU:fK T (evA G aA) objs (y.dst.getD 9999) y.op=some (n2,oQ):=by
       have J6:res T G ⟨aA,objs⟩ y=some (n2,oQ):=h3
       unfold res at J6
       simp only [(oO (T:=T) (ev:=evA G aA) (objs:=objs) aN).1,(oO (T:=T) (ev:=evA G aA) (objs:=objs) aN).2] at J6
       exact J6
      obtain ⟨bF,aI,o,rfl⟩:=yd (objs':=fun _=>none) aN rfl sU
      exact aan (b8.Fo aI o) iJ AP
   ·rw [not_or] at AP
    have ah:hh x.op=false:=by simpa using AP.1
    have aT:hF x.op=false:=by simpa using AP.2
    have Fz:gd x.op=false:=by
     cases bY:gd x.op with
     |false=>rfl
     |true=>rw [rz bY] at iJ;cases iJ
    by_cases Qm:hh y.op=true
    ·obtain ⟨aS,aV⟩:=Qg (objs':=objs) h3 Qm
     simp only at aV
     subst aV
     exact J5 aS ⟨nf,iJ,rfl,rfl⟩
    ·have bP:hh y.op=false:=by simpa using Qm
     simp only [pass,ah,aT,bP,Fz,Bool.false_or,Bool.false_and] at aX
     rw [Bool.and_eq_true] at aX
     obtain ⟨aN,ax⟩:=aX
     have ry:∃d,y.dst=some d∧d<9999:=by
      cases hx:y.dst with
      |none=>simp [hx] at ax
      |some d=>simp [hx] at ax;exact ⟨d,rfl,ax⟩
     obtain ⟨d,ry,Qn⟩:=ry
     have sU:fK T (evA G aA) (updO objs nf) (y.dst.getD 9999) y.op=some (n2,oQ):=by
      unfold res at h3
      simp only [(oO (T:=T) (ev:=evA G aA) (objs:=updO objs nf) aN).1,(oO (T:=T) (ev:=evA G aA) (objs:=updO objs nf) aN).2] at h3
      exact h3
     rw [ry] at sU
     simp only [Option.getD_some] at sU
     obtain ⟨_,aI,o,rfl⟩:=yd (objs':=fun _=>none) aN rfl sU
     obtain ⟨J7,Fw⟩:=Qf nf aI
     obtain ⟨aao,_,_⟩:=yd (objs':=objs) aN J7 sU
     have aap:res T G ⟨aA,objs⟩ y=some (n2,[(d,o)]):=by
      unfold res
      simp only [(oO (T:=T) (ev:=evA G aA) (objs:=objs) aN).1,(oO (T:=T) (ev:=evA G aA) (objs:=objs) aN).2,ry,Option.getD_some]
      exact aao
     have hex:fK T (evA G aA) objs (x.dst.getD 9999) x.op=some (rx,nf):=by
      unfold res at iJ
      simp only at iJ
      split at iJ
      ·rename_i aaq
       exact absurd (aal aaq) (by simp [ah,aT])
      ·split at iJ
       ·rename_i Qo
        exact absurd (aam Qo) (by simp [ah,aT])
       ·exact iJ
     have FA:x.dst.getD 9999≠d:=by
      cases FA:x.dst with
      |none=>simp only [Option.getD_none];exact fun e=>by rw [←e] at Qn;exact absurd Qn (Nat.lt_irrefl _)
      |some e=>simp only [Option.getD_some];rintro rfl;exact ae e FA ry
     obtain ⟨Qp,b9⟩:=aad (T:=T) (ev:=evA G aA) (b8.Fo J7 o) FA J7 (fun aq=>by rw [cr _ _ FA];exact aq) hex
     refine J5 aap ⟨nf,?_,rfl,Qd nf b9⟩
     obtain ⟨cc,c6⟩:=aak Qp (b0 objs d (some o))
     show res T G ⟨aA,b0 objs d (some o)⟩ x=some (rx,nf)
     unfold res
     simp only [cc,c6]
     exact Qp
theorem n3{o:Oper}{σ:St}{K K':St→Prop}(ai:∀σ,K σ→K' σ)(h:vDo P T G o K σ):vDo P T G o K' σ:=by
 unfold vDo at*
 split
 ·rename_i e;rw [e] at h;exact ai _ h
 ·rename_i e;rw [e] at h;exact AL h fun r av=>ai _ av
theorem AQ{o:Oper}{σ:St}{K K':St→Prop}(ai:∀σ,K σ→K' σ)(h:vOp P T G all o K σ):vOp P T G all o K' σ:=by
 rw [vOp_eq] at*
 split
 ·rename_i e;rw [e] at h;exact n3 ai h
 ·rename_i e;rw [e] at h;exact ai _ h
 ·rename_i e;rw [e] at h;exact h
theorem sW{o:Oper}{σ:St}{K K':St→Prop}(ai:∀objs r,K (St.put ⟨σ.aA,objs⟩ o.dst r)→K' (St.put ⟨σ.aA,objs⟩ o.dst r))(h:vDo P T G o K σ):vDo P T G o K' σ:=by
 unfold vDo at*
 rw [sS] at*
 cases av:res T G σ o with
 |none=>simp only [av,Option.map_none] at h⊢;exact AL h fun r av=>ai σ.objs r av
 |some p=>simp only [av,Option.map_some] at h⊢;exact ai _ _ h
theorem swap{x y:Oper}{σ:St}{K:St→Prop}(kI:x.apart all y=true)(aX:pass x y=true)(h:vOp P T G all x (fun fi=>vOp P T G all y K fi) σ):
  vOp P T G all y (fun eV=>vOp P T G all x K eV) σ:=by
 obtain ⟨ah,aT,bP⟩:=Oper.apart_spec kI
 have mD:∀d,y.dst=some d→x.dst≠some d:=fun d ax af=>aT d af ax
 rw [vOp_eq] at h
 have n4:∀(objs:b8) (r:AV),wantA all (St.put ⟨σ.aA,objs⟩ x.dst r) y=wantA all σ y:=fun objs r=>by rw [mB ah];rfl
 have oR:∀(objs:b8) (r:AV),wantA all (St.put ⟨σ.aA,objs⟩ y.dst r) x=wantA all σ x:=fun objs r=>by rw [mB bP];rfl
 split at h
 ·rename_i af
  rw [vOp_eq]
  have bj:vDo P T G x (fun fi=>match wantA all σ y with
    |some true=>vDo P T G y K fi
    |some false=>K (fi.put y.dst (.d (.val (.tuple #[]))))
    |none=>False) σ:=by
   refine sW (fun objs r ai=>?_) h
   rw [vOp_eq,n4] at ai
   exact ai
  cases uS:wantA all σ y with
  |none=>
   simp only [uS] at bj
   unfold vDo at bj
   split at bj
   ·exact bj
   ·unfold vCall at bj
    split at bj
    ·split at bj
     ·obtain ⟨_,_,_,_,_,_,⟨r,rfl⟩,_,q⟩:=bj
      exact q r rfl
     ·exact bj
    ·exact bj
  |some b=>
   cases b with
   |false=>
    simp only [uS] at bj
    show vOp P T G all x K (σ.put y.dst (.d (.val (.tuple #[]))))
    rw [vOp_eq]
    have:wantA all (σ.put y.dst (.d (.val (.tuple #[])))) x=some true:=by rw [mB bP];exact af
    simp only [this]
    rw [hS bP mD]
    exact bj
   |true=>
    simp only [uS] at bj
    have ae:=Qh ah aT bP aX bj
    show vDo P T G y (fun eV=>vOp P T G all x K eV) σ
    refine sW (fun objs r ai=>?_) ae
    rw [vOp_eq,oR,af]
    exact ai
 ·rename_i af
  rw [vOp_eq,mB ah] at h
  rw [vOp_eq]
  split at h
  ·rename_i aN
   try simp only [aN]
   rw [hS ah aT] at h
   refine sW (fun objs r ai=>?_) h
   rw [vOp_eq,oR,af]
   exact ai
  ·rename_i aN
   try simp only [aN]
   show vOp P T G all x K (σ.put y.dst (.d (.val (.tuple #[]))))
   rw [vOp_eq,mB bP,af]
   show K _
   rw [put_comm mD]
   exact h
  ·exact h.elim
 ·exact h.elim
theorem aar{o:Oper}{σ:St}{K K':St→Prop}(h:vDo P T G o K σ)(ai:∀aR r,aR=σ.put o.dst (.d r)→K aR→K' aR)(bY:gd o.op=true):vDo P T G o K' σ:=by
 rw [lM (rz bY)] at h⊢
 unfold vCall at*
 split
 ·rename_i x args dd di
  rw [di] at h
  simp only at h
  split
  ·rename_i f pre post fL
   simp only [fL] at h
   obtain ⟨lh,aF,dV,ad,ae,ay,aZ,bL,ch⟩:=h
   exact ⟨lh,aF,dV,ad,ae,ay,aZ,bL,fun r av=>ai _ r rfl (ch r av)⟩
  ·rename_i fL
   simp only [fL] at h
 ·rename_i di
  split at h
  ·rename_i x args dd e;exact absurd e (di x args dd)
  ·exact h
def b8.low(objs objs':b8):Prop:=∀k o,objs k=some o→o≠ .dead→objs' k=some o
theorem Qq{objs objs':b8}(h:objs.low objs'){x:AV}{d:D}(an:toDa objs x=some d):toDa objs' x=some d:=by
 unfold toDa at*
 split at an
 ·exact an
 ·split at an
  ·rename_i ai;rw [h _ _ ai (by simp)];exact an
  ·cases an
 ·split at an
  ·rename_i ai;rw [h _ _ ai (by simp)];exact an
  ·cases an
 ·split at an
  ·rename_i ai;rw [h _ _ ai (by simp)];exact an
  ·cases an
 ·cases an
theorem FB{objs objs':b8}(h:objs.low objs'){x:AV}{d:D}(an:toD0 objs x=some d):toD0 objs' x=some d:=by
 unfold toD0 at*
 split at an
 ·split at an
  case h_2=>cases an
  rename_i ai
  simp only [h _ _ ai (by simp)]
  split at an
  case h_2=>cases an
  rename_i cs gJ
  rw [nc (fun x d af=>Qq h af) _ _ gJ]
  exact an
 ·exact an
 ·exact Qq h an
theorem Qr{objs objs':b8}(h:objs.low objs'){x:AV}{d:D}(an:toD1 objs x=some d):toD1 objs' x=some d:=by
 unfold toD1 at*
 split at an
 ·split at an
  case h_2=>cases an
  rename_i aF eb
  rw [nc (fun x d af=>FB h af) _ _ eb]
  exact an
 ·split at an
  case h_2=>cases an
  rename_i as ic has AI
  rw [nc (fun x d af=>FB h af) _ _ has,nc (fun x d af=>FB h af) _ _ AI]
  exact an
 ·exact FB h an
theorem aas{objs objs':b8}(h:objs.low objs'){x:AV}{d:D}(an:toD objs x=some d):toD objs' x=some d:=by
 unfold toD at*
 split at an
 ·split at an
  case h_2=>cases an
  rename_i aF eb
  rw [nc (fun x d af=>Qr h af) _ _ eb]
  exact an
 ·exact Qr h an
theorem Qs{objs objs':b8}(h:objs.low objs'){x:AV}{n:Nat}(an:lenA objs x=some n):lenA objs' x=some n:=by
 unfold lenA at*
 split at an
 ·exact an
 ·exact an
 ·split at an
  ·rename_i ai;rw [h _ _ ai (by simp)];exact an
  ·cases an
 ·exact an
 ·cases an
theorem FC{objs objs':b8}(h:objs.low objs'){x:AV}{b:Bool}(an:someS objs x=some b):someS objs' x=some b:=by
 unfold someS at*
 split at an
 ·exact an
 ·exact an
 ·split at an
  ·rename_i ai;rw [h _ _ ai (by simp)];exact an
  ·cases an
 ·cases an
theorem aat{T:bX}{ev:Operand→AV}{objs objs':b8}(h:objs.low objs'){op:Op}{r:AV}(hm:memOp T ev objs op=some r):memOp T ev objs' op=some r:=by
 cases op<;>simp only [memOp,reduceCtorEq] at hm⊢
 case load t a=>
  split at hm
  case h_2=>cases hm
  split at hm
  ·exact hm
  ·split at hm
   case h_2=>cases hm
   rename_i ai;simp only [h _ _ ai (by simp)];exact hm
  ·split at hm
   case h_2=>cases hm
   rename_i ai;simp only [h _ _ ai (by simp)];exact hm
  ·cases hm
 case indexAddr t x eh=>
  split at hm
  ·split at hm
   case h_2=>cases hm
   split at hm
   case isFalse=>cases hm
   rename_i aq
   rw [if_pos aq]
   split at hm
   ·exact hm
   ·split at hm
    case h_2=>cases hm
    rename_i ai;simp only [h _ _ ai (by simp)];exact hm
   ·exact hm
   ·cases hm
  ·exact hm
  ·cases hm
 case slice t x lo ag eU=>
  cases eU with
  |some _=>simp [memOp] at hm
  |none=>
   simp only [memOp] at hm⊢
   split at hm
   case h_3=>cases hm
   case h_2=>exact hm
   split at hm
   case h_2=>cases hm
   split at hm
   case h_2=>cases hm
   rename_i n aI
   simp only [Qs h aI]
   split at hm
   case h_2=>cases hm
   split at hm
   case isFalse=>cases hm
   rename_i aj
   rw [if_pos aj]
   split at hm
   ·exact hm
   ·split at hm
    case h_2=>cases hm
    rename_i ai;simp only [h _ _ ai (by simp)];exact hm
   ·exact hm
   ·cases hm
 case call c=>
  split at hm
  case h_2=>cases hm
  split at hm
  case h_2=>cases hm
  split at hm
  ·exact hm
  ·split at hm
   case h_2=>cases hm
   rename_i n aI
   simp only [Qs h aI];exact hm
  ·exact hm
  ·exact hm
  ·split at hm
   case h_2=>cases hm
   rename_i ai;simp only [h _ _ ai (by simp)];exact hm
  ·cases hm
 case lookup t x k ok=>
  split at hm
  case h_2=>cases hm
  split at hm
  ·exact hm
  ·exact hm
  ·split at hm
   case h_2=>cases hm
   rename_i ai;simp only [h _ _ ai (by simp)];exact hm
  ·cases hm
 case binOp op t x y uz=>
  split at hm
  case h_2=>cases hm
  split at hm
  ·split at hm
   ·rename_i aj
    rw [if_pos aj]
    split at hm
    case h_2=>cases hm
    rename_i b ak
    simp only [FC h ak];exact hm
   ·rename_i aj
    rw [if_neg aj]
    split at hm
    case isFalse=>cases hm
    rename_i oP
    rw [if_pos oP]
    split at hm
    case h_2=>cases hm
    rename_i b ak
    simp only [FC h ak];exact hm
  ·split at hm
   ·rename_i aj
    rw [if_pos aj]
    split at hm
    case h_2=>cases hm
    rename_i b ak
    simp only [FC h ak];exact hm
   ·rename_i aj
    rw [if_neg aj]
    split at hm
    case isFalse=>cases hm
    rename_i oP
    rw [if_pos oP]
    split at hm
    case h_2=>cases hm
    rename_i b ak
    simp only [FC h ak];exact hm
  ·cases hm
def bornX(T:bX)(x:Oper):Bool:=match x.op with
 | .buildSlice _ _ _=>T.born (x.dst.getD 9999)
 |_=>false
def uT(T:bX)(x y:Oper):Bool:=pass x y||(gd x.op&&gd y.op)||(bornX T x&&(gd y.op||hF y.op))
theorem aau{x:Oper}{σ:St}(ak:bornX T x=true){p:AV×List (Key×cn)}(h:res T G σ x=some p):σ.objs (x.dst.getD 9999)=none∧p.2=[(x.dst.getD 9999,.dead)]:=by
 unfold bornX at ak
 split at ak
 case h_2=>cases ak
 rename_i t n parts di
 have ai:n1 x.op=true:=by rw [di];rfl
 obtain ⟨aS,aV⟩:=oO (T:=T) (ev:=evA G σ.aA) (objs:=σ.objs) ai
 unfold res at h
 rw [aS,aV] at h
 obtain ⟨q,ad,ae⟩:=sP h
 rw [di] at ad
 simp only [effOp0] at ad
 split at ad
 case h_2=>cases ad
 rename_i e s b z aG aq
 split at ad
 case h_2=>cases ad
 split at ad
 case h_2=>cases ad
 split at ad
 case isFalse=>cases ad
 cases ad
 refine ⟨aq,?_⟩
 rw [←ae]
 simp [bornR,ak]
theorem aav{x y:Oper}{σ:St}{K:St→Prop}(ad:∀d,x.dst=some d→d∉y.looksAt all)(ae:∀d,x.dst=some d→y.dst≠some d)(ay:∀d,y.dst=some d→d∉x.looksAt all)(Fz:gd x.op=true)(aaw:gd y.op=true∨False)
  (h:vDo P T G x (fun fi=>vDo P T G y K fi) σ):vDo P T G y (fun eV=>vDo P T G x K eV) σ:=by
 have fU:∀d,y.dst=some d→x.dst≠some d:=fun d ax af=>ae d af ax
 have FD:gd y.op=true:=aaw.resolve_right id
 rw [lM (rz Fz)] at h
 unfold vCall at h
 split at h
 case h_2=>cases h
 rename_i Qj args dd di
 split at h
 case h_2=>cases h
 rename_i f pre post fL
 obtain ⟨lh,aF,dV,bq,bk,bT,⟨g5,rfl⟩,dB,ei⟩:=h
 have ye:vDo P T G y K (St.put σ x.dst (.d g5)):=ei g5 rfl
 rw [hS ad ae] at ye
 refine aar ye (fun aR r he ai=>?_) FD
 subst he
 rw [hS ay fU,lM (rz Fz)]
 unfold vCall
 rw [di]
 simp only [fL]
 refine ⟨lh,aF,_,bq,bk,bT,⟨g5,rfl⟩,dB,fun r av=>?_⟩
 subst av
 rw [put_comm ae]
 exact ai
theorem aax{x y:Oper}{σ:St}{K:St→Prop}(ad:∀d,x.dst=some d→d∉y.looksAt all)(ae:∀d,x.dst=some d→y.dst≠some d)(ay:∀d,y.dst=some d→d∉x.looksAt all)(FE:bornX T x=true)(J8:gd y.op=true∨hF y.op=true)
  (h:vDo P T G x (fun fi=>vDo P T G y K fi) σ):vDo P T G y (fun eV=>vDo P T G x K eV) σ:=by
 have fU:∀d,y.dst=some d→x.dst≠some d:=fun d ax af=>ae d af ax
 cases iJ:res T G σ x with
 |none=>
  rw [lM iJ] at h
  have:=uQ h
  unfold bornX at FE
  split at FE
  ·rename_i di;rw [di] at this;cases this
  ·cases FE
 |some p=>
  obtain ⟨rx,b3⟩:=p
  obtain ⟨aI,hu⟩:=aau FE iJ
  simp only at hu
  subst hu
  rw [kk iJ] at h
  have aN:vDo P T G y K (St.put ⟨σ.aA,updO σ.objs [(x.dst.getD 9999,.dead)]⟩ x.dst rx):=h
  rw [hS ad ae] at aN
  have FF:b8.low (updO σ.objs [(x.dst.getD 9999,.dead)]) σ.objs:=by
   intro k o ai aD
   simp only [updO] at ai
   by_cases e:k=x.dst.getD 9999
   ·subst e;rw [dU] at ai;cases ai;exact absurd rfl aD
   ·rwa [cr _ _ e] at ai
  rcases J8 with FD|Qt
  case inr=>
   have sR:gd y.op=false:=by
    cases bY:gd y.op with
    |false=>rfl
    |true=>have:=(AK bY).2.1;rw [Qt] at this;cases this
   have key:∀p,res T G ⟨σ.aA,updO σ.objs [(x.dst.getD 9999,.dead)]⟩ y=some p→p.2=[]∧res T G σ y=some p:=by
    intro p aX
    have he:∀objs d,fK T (evA G σ.aA) objs d y.op=none:=fun objs d=>yc Qt
    unfold res at aX⊢
    cases Qu:pureOp T (evA G σ.aA) y.op with
    |some r=>simp only [Qu] at aX⊢;cases aX;exact ⟨rfl,rfl⟩
    |none=>
     simp only [Qu] at aX⊢
     cases AR:memOp T (evA G σ.aA) (updO σ.objs [(x.dst.getD 9999,.dead)]) y.op with
     |none=>simp only [AR,he] at aX;cases aX
     |some r=>
      simp only [AR] at aX
      cases aX
      rw [aat FF AR]
      exact ⟨rfl,rfl⟩
   cases h3:res T G ⟨σ.aA,updO σ.objs [(x.dst.getD 9999,.dead)]⟩ y with
   |none=>
    rw [lM h3] at aN
    have:=uQ aN
    rw [sR] at this;cases this
   |some p=>
    obtain ⟨n2,oQ⟩:=p
    obtain ⟨cc,c6⟩:=key _ h3
    simp only at cc
    subst cc
    rw [kk h3] at aN
    rw [kk c6]
    show vDo P T G x K (St.put σ y.dst n2)
    rw [hS ay fU,kk iJ]
    unfold St.step
    rw [put_comm ae]
    exact aN
  rw [lM (rz FD)] at aN
  rw [lM (rz FD)]
  unfold vCall at aN⊢
  split at aN
  case h_2=>cases aN
  rename_i Qj args dd di
  split at aN
  case h_2=>cases aN
  rename_i f pre post fL
  obtain ⟨lh,aF,dV,bq,bk,bT,⟨g5,rfl⟩,dB,ei⟩:=aN
  simp only [di,fL]
  refine ⟨lh,aF,_,nc (fun x d af=>aas FF af) _ _ bq,bk,bT,⟨g5,rfl⟩,dB,fun r av=>?_⟩
  subst av
  have:=ei r rfl
  rw [hS ay fU,kk iJ]
  unfold St.step
  rw [put_comm ae]
  exact this
theorem aay{x y:Oper}{σ:St}{K:St→Prop}(ad:∀d,x.dst=some d→d∉y.looksAt all)(ae:∀d,x.dst=some d→y.dst≠some d)(ay:∀d,y.dst=some d→d∉x.looksAt all)(aX:uT T x y=true)
  (h:vDo P T G x (fun fi=>vDo P T G y K fi) σ):vDo P T G y (fun eV=>vDo P T G x K eV) σ:=by
 unfold uT at aX
 rw [Bool.or_eq_true,Bool.or_eq_true] at aX
 rcases aX with(aX|aX)|aX
 ·exact Qh ad ae ay aX h
 ·rw [Bool.and_eq_true] at aX
  exact aav ad ae ay aX.1 (.inl aX.2) h
 ·rw [Bool.and_eq_true,Bool.or_eq_true] at aX
  exact aax ad ae ay aX.1 aX.2 h
theorem swapT{x y:Oper}{σ:St}{K:St→Prop}(kI:x.apart all y=true)(aX:uT T x y=true)(h:vOp P T G all x (fun fi=>vOp P T G all y K fi) σ):
  vOp P T G all y (fun eV=>vOp P T G all x K eV) σ:=by
 obtain ⟨ah,aT,bP⟩:=Oper.apart_spec kI
 have mD:∀d,y.dst=some d→x.dst≠some d:=fun d ax af=>aT d af ax
 rw [vOp_eq] at h
 have n4:∀(objs:b8) (r:AV),wantA all (St.put ⟨σ.aA,objs⟩ x.dst r) y=wantA all σ y:=fun objs r=>by rw [mB ah];rfl
 have oR:∀(objs:b8) (r:AV),wantA all (St.put ⟨σ.aA,objs⟩ y.dst r) x=wantA all σ x:=fun objs r=>by rw [mB bP];rfl
 split at h
 ·rename_i af
  rw [vOp_eq]
  have bj:vDo P T G x (fun fi=>match wantA all σ y with
    |some true=>vDo P T G y K fi
    |some false=>K (fi.put y.dst (.d (.val (.tuple #[]))))
    |none=>False) σ:=by
   refine sW (fun objs r ai=>?_) h
   rw [vOp_eq,n4] at ai
   exact ai
  cases uS:wantA all σ y with
  |none=>
   simp only [uS] at bj
   unfold vDo at bj
   split at bj
   ·exact bj
   ·unfold vCall at bj
    split at bj
    ·split at bj
     ·obtain ⟨_,_,_,_,_,_,⟨r,rfl⟩,_,q⟩:=bj
      exact q r rfl
     ·exact bj
    ·exact bj
  |some b=>
   cases b with
   |false=>
    simp only [uS] at bj
    show vOp P T G all x K (σ.put y.dst (.d (.val (.tuple #[]))))
    rw [vOp_eq]
    have:wantA all (σ.put y.dst (.d (.val (.tuple #[])))) x=some true:=by rw [mB bP];exact af
    simp only [this]
    rw [hS bP mD]
    exact bj
   |true=>
    simp only [uS] at bj
    have ae:=aay ah aT bP aX bj
    show vDo P T G y (fun eV=>vOp P T G all x K eV) σ
    refine sW (fun objs r ai=>?_) ae
    rw [vOp_eq,oR,af]
    exact ai
 ·rename_i af
  rw [vOp_eq,mB ah] at h
  rw [vOp_eq]
  split at h
  ·rename_i aN
   try simp only [aN]
   rw [hS ah aT] at h
   refine sW (fun objs r ai=>?_) h
   rw [vOp_eq,oR,af]
   exact ai
  ·rename_i aN
   try simp only [aN]
   show vOp P T G all x K (σ.put y.dst (.d (.val (.tuple #[]))))
   rw [vOp_eq,mB bP,af]
   show K _
   rw [put_comm mD]
   exact h
  ·exact h.elim
 ·exact h.elim
def amOp(P:Program)(T:bX)(G:cT)(all:Array Oper)(i:Nat)(K:St→Prop)(σ:St):Prop:=
 match all[i]? with
 |none=>K σ
 |some o=>vOp P T G all o K σ
theorem sX{i:Nat}{σ:St}{K K':St→Prop}(ai:∀σ,K σ→K' σ)(h:amOp P T G all i K σ):amOp P T G all i K' σ:=by
 unfold amOp at*
 split
 ·rename_i e;simp only [e] at h;exact ai _ h
 ·rename_i o e;simp only [e] at h;exact AQ ai h
def hG(P:Program)(T:bX)(G:cT)(all:Array Oper)(K:St→Prop):Nat→Array Bool→St→Prop
 |0,listed,σ=>Region.ready .any all listed=[]∧K σ
 |fuel+1,listed,σ=>
  (Region.ready .any all listed=[]→K σ)∧∀i∈Region.ready .any all listed,amOp P T G all i (hG P T G all K fuel (listed.setIfInBounds i true)) σ
theorem J9{K:St→Prop}{i:Nat}{ef:Oper}(ag:all[i]?=some ef){B:List Nat}(gf:∀j cF,j∈B→all[j]?=some cF→∃e∈cF.after,Region.binds .any e=true∧(e.on=i∨e.on∈B)):∀(fuel:Nat) (listed:Array Bool) (σ:St),
  (∀j,j∈B→listed.getD j true=false)→
  (∀j cF,all[j]?=some cF→j≠i→listed.getD j true=false→j∉B→ef.apart all cF=true∧uT T ef cF=true)→
  i∈Region.ready .any all listed→(¬∃aR,K aR)∨True→amOp P T G all i (hG P T G all K fuel (listed.setIfInBounds i true)) σ→hG P T G all K (fuel+1) listed σ:=by
 intro fuel
 induction fuel with
 |zero=>
  intro listed σ oS mE av _ H
  refine ⟨fun h=>(by rw [h] at av;cases av),fun j aH=>?_⟩
  by_cases hH:j=i
  ·subst hH;exact H
  ·have hm:=ready_mono aH hH
   exfalso
   have key:Region.ready .any all (listed.setIfInBounds i true)=[]:=by
    unfold amOp at H
    simp only [ag] at H
    rw [vOp_eq] at H
    split at H
    ·unfold vDo at H
     split at H
     ·exact H.1
     ·unfold vCall at H
      split at H
      ·split at H
       ·obtain ⟨_,_,_,_,_,_,⟨r,lN⟩,_,q⟩:=H
        exact (q r (by rw [lN])).1
       ·exact H.elim
      ·exact H.elim
    ·exact H.1
    ·exact H.elim
   rw [key] at hm;cases hm
 |succ fuel ih=>
  intro listed σ oS mE av _ H
  refine ⟨fun h=>(by rw [h] at av;cases av),fun j aH=>?_⟩
  by_cases hH:j=i
  ·subst hH;exact H
  ·obtain ⟨sY,cF,hI,ft⟩:=mem_ready.1 aH
   have rn:∀k,listed.getD k true=false→listed[k]?.getD false=true→False:=fun k aq ad=>by
    rcases Nat.lt_or_ge k listed.size with bj|bj
    ·simp [bj] at aq ad;rw [aq] at ad;cases ad
    ·simp [Array.getElem?_eq_none bj] at ad
   have sZ:j∉B:=fun AS=>by
    obtain ⟨e,he,ak,kJ⟩:=gf j cF AS hI
    have ad:=ft e he ak
    rcases kJ with kJ|kJ
    ·rw [kJ] at ad
     exact rn i (mem_ready.1 av).1 (by simpa using ad)
    ·exact rn _ (oS _ kJ) (by simpa using ad)
   obtain ⟨eD,dM⟩:=mE j cF hI hH sY sZ
   have ad:amOp P T G all i (fun fi=>amOp P T G all j (hG P T G all K fuel ((listed.setIfInBounds i true).setIfInBounds j true)) fi) σ:=sX (fun fi rA=>rA.2 j (ready_mono aH hH)) H
   have ae:amOp P T G all j (fun eV=>amOp P T G all i (hG P T G all K fuel ((listed.setIfInBounds i true).setIfInBounds j true)) eV) σ:=by
    unfold amOp at ad⊢
    simp only [ag,hI] at ad⊢
    exact swapT eD dM ad
   have AT:∀k ok,all[k]?=some ok→k≠i→(listed.setIfInBounds j true).getD k true=false→
     k∉B→ef.apart all ok=true∧uT T ef ok=true:=fun k ok ai oT mF gT=>by
    refine mE k ok ai oT ?_ gT
    by_cases fh:j=k
    ·subst fh;exact sY
    ·rw [getD_set_ne true fh] at mF;exact mF
   refine sX (fun eV ay=>ih (listed.setIfInBounds j true) eV (fun k ai=>by
    have fh:j≠k:=by rintro rfl;exact sZ ai
    rw [getD_set_ne true fh];exact oS k ai) AT (ready_mono av (Ne.symm hH)) (.inr trivial) ?_) ae
   rw [Array.setIfInBounds_comm _ _ hH]
   exact ay
theorem aaz{K:St→Prop}{i:Nat}{ef:Oper}(ag:all[i]?=some ef){B:List Nat}(gf:∀j cF,j∈B→all[j]?=some cF→∃e∈cF.after,Region.binds .any e=true∧(e.on=i∨e.on∈B))(fuel:Nat)(listed:Array Bool)(σ:St)
  (aq:∀j,j∈B→listed.getD j true=false)
  (a4:∀j cF,all[j]?=some cF→j≠i→listed.getD j true=false→j∉B→ef.apart all cF=true∧pass ef cF=true)
  (av:i∈Region.ready .any all listed) (af:(¬∃aR,K aR)∨True) (h:amOp P T G all i (hG P T G all K fuel (listed.setIfInBounds i true)) σ):hG P T G all K (fuel+1) listed σ:=
 J9 ag gf fuel listed σ aq (fun j cF a b c d=>⟨(a4 j cF a b c d).1,by unfold uT;rw [(a4 j cF a b c d).2];rfl⟩) av af h
def waits(all:Array Oper)(i:Nat):List Nat:=
 (List.range all.size).foldl (fun acc j=>match all[j]? with
  |some cF=>if cF.after.any (fun e=>Region.binds .any e&&(e.on==i||acc.contains e.on)) then acc++[j] else acc
  |none=>acc) []
def FG(p:Oper→Oper→Bool)(all:Array Oper)(listed:Array Bool)(i:Nat)(B:List Nat):Bool:=
 match all[i]? with
 |none=>false
 |some ef=>(B.all fun j=>!listed.getD j true&&match all[j]? with
   |some cF=>cF.after.any fun e=>Region.binds .any e&&(e.on==i||B.contains e.on)
   |none=>false)&&(List.range all.size).all fun j=>j==i||listed.getD j true||B.contains j||match all[j]? with
   |some cF=>ef.apart all cF&&p ef cF
   |none=>true
def Qv(all:Array Oper)(listed:Array Bool)(i:Nat)(B:List Nat):Bool:=FG pass all listed i B
def aaA(all:Array Oper)(listed:Array Bool)(i:Nat):Bool:=Qv all listed i (waits all i)
def Qw(T:bX)(all:Array Oper)(listed:Array Bool)(i:Nat):Bool:=FG (uT T) all listed i (waits all i)
theorem Ka{p:Oper→Oper→Bool}{i:Nat}{ef:Oper}{listed:Array Bool}(ag:all[i]?=some ef){B:List Nat}(h:FG p all listed i B=true):
  (∀j cF,j∈B→all[j]?=some cF→∃e∈cF.after,Region.binds .any e=true∧(e.on=i∨e.on∈B))∧(∀j,j∈B→listed.getD j true=false)∧
  ∀j cF,all[j]?=some cF→j≠i→listed.getD j true=false→j∉B→ef.apart all cF=true∧p ef cF=true:=by
 simp only [FG,ag,Bool.and_eq_true,List.all_eq_true,List.mem_range] at h
 refine ⟨fun j cF aH hI=>?_,fun j aH=>by simpa using(h.1 j aH).1,fun j cF hI b9 mF gT=>?_⟩
 ·have ad:=(h.1 j aH).2
  simp only [hI] at ad
  obtain ⟨e,he,ak⟩:=Array.any_eq_true'.1 ad
  simp only [Bool.and_eq_true,Bool.or_eq_true,beq_iff_eq,List.contains_iff_mem] at ak
  exact ⟨e,he,ak.1,ak.2⟩
 ·have ad:=h.2 j (Array.getElem?_eq_some_iff.1 hI).1
  simp only [hI,Bool.or_eq_true,beq_iff_eq,b9,false_or,mF,Bool.false_eq_true,Bool.and_eq_true,List.contains_iff_mem,gT] at ad
  exact ad
theorem aaB{i:Nat}{ef:Oper}{listed:Array Bool}(ag:all[i]?=some ef){B:List Nat}(h:Qv all listed i B=true):
  (∀j cF,j∈B→all[j]?=some cF→∃e∈cF.after,Region.binds .any e=true∧(e.on=i∨e.on∈B))∧(∀j,j∈B→listed.getD j true=false)∧
  ∀j cF,all[j]?=some cF→j≠i→listed.getD j true=false→j∉B→ef.apart all cF=true∧pass ef cF=true:=Ka ag h
def ordFrom(T:bX)(all:Array Oper):List Nat→Array Bool→Bool
 |[],listed=>(Region.ready .any all listed).isEmpty
 |i::r,listed=>(Region.ready .any all listed).contains i&&Qw T all listed i&&ordFrom T all r (listed.setIfInBounds i true)
def vOrd(P:Program)(T:bX)(G:cT)(all:Array Oper):List Nat→(St→Prop)→St→Prop
 |[],K,σ=>K σ
 |i::r,K,σ=>match all[i]? with
  |some o=>vOp P T G all o (vOrd P T G all r K) σ
  |none=>False
theorem Qx{K:St→Prop}:∀(ord:List Nat) (listed:Array Bool) (σ:St),ordFrom T all ord listed=true→vOrd P T G all ord K σ→hG P T G all K ord.length listed σ
 |[],listed,σ,gf,h=>⟨by simpa [ordFrom] using gf,h⟩
 |i::r,listed,σ,gf,h=>by
  simp only [ordFrom,Bool.and_eq_true] at gf
  obtain ⟨⟨av,a4⟩,rB⟩:=gf
  unfold vOrd at h
  split at h
  case h_2=>cases h
  rename_i o ag
  obtain ⟨bq,bk,bT⟩:=Ka ag a4
  refine J9 ag bq r.length listed σ bk bT (by simpa using av) (.inr trivial) ?_
  unfold amOp
  simp only [ag]
  exact AQ (fun aR rA=>Qx r _ aR rB rA) h
theorem Kb{m:Mem}{fr:eC}{N:Nat}(a2:dj P T){K:St→Prop}{Q:Exit→Act→World→Prop}(fE:∀o∈all,∀d,o.dst=some d→d<N):∀(fuel:Nat) (listed:Array Bool) (m:Mem) (ρ:cM) (σ:St) (a:Act) (w:World),
  iF G m→Den m fr ρ σ a w→N≤a.tmps.size→a.defers=[]→hG P T G all K fuel listed σ→(∀ct w',hv N m fr ρ σ K ct w'→Q .normal ct w')→wpAny P .any all Q fuel listed a w
 |0,listed,m,ρ,σ,a,w,cA,h,bV,ga,aM,gL=>⟨aM.1,gL a w ⟨σ,m,ρ,aM.2,Mem.le_refl m,h,bV,ga,jw.refl _ _⟩⟩
 |fuel+1,listed,m,ρ,σ,a,w,cA,h,bV,ga,aM,gL=>by
  refine ⟨fun aq=>gL a w ⟨σ,m,ρ,aM.1 aq,Mem.le_refl m,h,bV,ga,jw.refl _ _⟩,fun i ag=>?_⟩
  have ad:=aM.2 i ag
  obtain ⟨_,o,aD,_⟩:=mem_ready.1 ag
  unfold amOp at ad
  simp only [aD] at ad
  refine wpOp_mono ?_ (vOp_ok a2 cA h bV ga aD (fE o (Array.mem_of_getElem? aD)) ad)
  rintro ct w' ⟨aR,cd,cp,bq,bk,bT,db,dB,ei⟩
  refine Kb (m:=m) a2 fE fuel _ cd cp aR ct w' (cA.mono bk) bT db dB bq ?_
  rintro ng ja ⟨oU,uU,uV,eD,dM,gH,oV,uW,uX⟩
  exact gL ng ja ⟨oU,uU,uV,eD,Mem.le_trans bk dM,gH,oV,uW,ei.trans uX⟩
end
end Go.Am
namespace Go.Am
set_option linter.unusedVariables false
def fV(σ τ:St):Prop:=∀m fr ρ a w,Den m fr ρ σ a w→∃cd cp,m.le cd∧Den cd fr cp τ a w∧jw σ ρ τ cp
theorem fV.refl(σ:St):fV σ σ:=fun m fr ρ a w h=>⟨m,ρ,Mem.le_refl m,h,jw.refl _ _⟩
theorem fV.trans{σ τ uY:St}(h:fV σ τ)(bj:fV τ uY):fV σ uY:=fun m fr ρ a w cv=>
 let⟨e9,lg,ad,ae,ay⟩:=h m fr ρ a w cv
 let⟨jP,jx,aZ,bL,ch⟩:=bj e9 fr lg a w ae
 ⟨jP,jx,Mem.le_trans ad aZ,bL,ay.trans ch⟩
def fW(P:Program)(T:bX)(G:cT)(N:Nat)(c:Code)(σ:St)(Q:Exit→St→Prop):Prop:=
 ∀m fr ρ a w,iF G m→Den m fr ρ σ a w→N≤a.tmps.size→a.defers=[]→c.wp P (fun e ct w'=>hv N m fr ρ σ (Q e) ct w') a w
def thenQ(K:St→Prop)(Q:Exit→St→Prop):Exit→St→Prop
 | .normal,σ=>K σ
 |e,σ=>Q e σ
def inBlockQ(id:Nat)(Q:Exit→St→Prop):Exit→St→Prop
 | .exit rC,σ=>if rC=id then Q .normal σ else Q (.exit rC) σ
 |e,σ=>Q e σ
section
variable{P:Program}{T:bX}{G:cT}{N:Nat}{σ:St}{Q:Exit→St→Prop}
theorem hv.mono{m:Mem}{fr:eC}{ρ:cM}{K K':St→Prop}(ai:∀σ,K σ→K' σ){a:Act}{w:World}(h:hv N m fr ρ σ K a w):hv N m fr ρ σ K' a w:=
 let⟨aR,cd,cp,ad,ae⟩:=h;⟨aR,cd,cp,ai _ ad,ae⟩
theorem yf{c:Code}{Qy:Exit→St→Prop}(h:fW P T G N c σ Q)(bK:∀e σ,Q e σ→Qy e σ):fW P T G N c σ Qy:=
 fun m fr ρ a w cA cv bV ax=>wp_mono (h m fr ρ a w cA cv bV ax) fun e ct w' av=>av.mono (bK e)
theorem aaC(h:Q .normal σ):fW P T G N .skip σ Q:=fun m fr ρ a w cA cv bV ax=>wp_skip ⟨σ,m,ρ,h,Mem.le_refl m,cv,bV,ax,jw.refl _ _⟩
theorem aaD{l:Nat}(h:Q .normal σ):fW P T G N (.label l) σ Q:=fun m fr ρ a w cA cv bV ax=>wp_label ⟨σ,m,ρ,h,Mem.le_refl m,cv,bV,ax,jw.refl _ _⟩
theorem aaE{id:Nat}(h:Q (.exit id) σ):fW P T G N (.exit id) σ Q:=fun m fr ρ a w cA cv bV ax=>wp_exit ⟨σ,m,ρ,h,Mem.le_refl m,cv,bV,ax,jw.refl _ _⟩
theorem aaF(h:Q .ret σ):fW P T G N .ret σ Q:=fun m fr ρ a w cA cv bV ax=>wp_ret ⟨σ,m,ρ,h,Mem.le_refl m,cv,bV,ax,jw.refl _ _⟩
theorem hv.trans{m e9:Mem}{fr:eC}{ρ lg:cM}{fi:St}{K:St→Prop}{a:Act}{w:World}(hm:m.le e9)(ai:jw σ ρ fi lg)(h:hv N e9 fr lg fi K a w):hv N m fr ρ σ K a w:=
 let⟨aR,cd,cp,ad,ae,ay,aZ,bL,ch⟩:=h;⟨aR,cd,cp,ad,Mem.le_trans hm ae,ay,aZ,bL,ai.trans ch⟩
theorem aaG{x y:Code}(h:fW P T G N x σ (thenQ (fun aR=>fW P T G N y aR Q) Q)):fW P T G N (.seq x y) σ Q:=by
 intro m fr ρ a w cA cv bV ax
 refine wp_seq (wp_mono (h m fr ρ a w cA cv bV ax) ?_)
 rintro e ct w' ⟨aR,cd,cp,ad,ae,ay,aZ,bL,ch⟩
 cases e with
 |normal=>exact wp_mono (ad cd fr cp ct w' (cA.mono ae) ay aZ bL) fun e ng ja av=>av.trans ae ch
 |exit id=>exact ⟨aR,cd,cp,ad,ae,ay,aZ,bL,ch⟩
 |goto l=>exact ⟨aR,cd,cp,ad,ae,ay,aZ,bL,ch⟩
 |ret=>exact ⟨aR,cd,cp,ad,ae,ay,aZ,bL,ch⟩
 |panic c=>exact ⟨aR,cd,cp,ad,ae,ay,aZ,bL,ch⟩
 |outgrown=>exact ⟨aR,cd,cp,ad,ae,ay,aZ,bL,ch⟩
def aaH(Q:Exit→St→Prop):Exit→St→Prop
 | .goto _,_=>False
 |e,σ=>Q e σ
theorem aaI{c:Code}(h:fW P T G N c σ (aaH Q)):fW P T G N (.scope c) σ Q:=by
 intro m fr ρ a w cA cv bV ax
 refine wp_scope_straight (wp_mono (h m fr ρ a w cA cv bV ax) ?_)
 rintro e ct w' ⟨aR,cd,cp,ad,ae,ay,aZ,bL,ch⟩
 cases e with
 |goto l=>exact ad.elim
 |normal=>exact ⟨aR,cd,cp,ad,ae,ay,aZ,bL,ch⟩
 |exit id=>exact ⟨aR,cd,cp,ad,ae,ay,aZ,bL,ch⟩
 |ret=>exact ⟨aR,cd,cp,ad,ae,ay,aZ,bL,ch⟩
 |panic c=>exact ⟨aR,cd,cp,ad,ae,ay,aZ,bL,ch⟩
 |outgrown=>exact ⟨aR,cd,cp,ad,ae,ay,aZ,bL,ch⟩
theorem FH{c:Operand}{x y:Code}{b:Bool}(aj:evA G σ.aA c= .d (.val (.bool b)))(h:if b=true then fW P T G N x σ Q else fW P T G N y σ Q):fW P T G N (.cond c x y) σ Q:=by
 intro m fr ρ a w cA cv bV ax
 have aM:=Ap (a:=a) cA cv.aA c
 rw [aj] at aM
 refine wp_cond aM.gz ?_
 cases b
 ·exact h m fr ρ a w cA cv bV ax
 ·exact h m fr ρ a w cA cv bV ax
theorem aaJ{id:Nat}{c:Code}(h:fW P T G N c σ (inBlockQ id Q)):fW P T G N (.block id c) σ Q:=by
 intro m fr ρ a w cA cv bV ax
 refine wp_block (wp_mono (h m fr ρ a w cA cv bV ax) ?_)
 intro e ct w' av
 cases e with
 |exit rC=>
  simp only [Exit.inBlock]
  by_cases ag:rC=id
  ·rw [if_pos ag]
   exact av.mono fun σ bK=>by simp only [inBlockQ,ag,if_true] at bK;exact bK
  ·rw [if_neg ag]
   exact av.mono fun σ bK=>by simp only [inBlockQ,ag,if_false] at bK;exact bK
 |normal=>exact av
 |goto l=>exact av
 |ret=>exact av
 |panic c=>exact av
 |outgrown=>exact av
theorem Kc{τ:St}{c:Code}(he:fV σ τ)(h:fW P T G N c τ Q):fW P T G N c σ Q:=by
 intro m fr ρ a w cA cv bV ax
 obtain ⟨cd,cp,ad,ae,ay⟩:=he m fr ρ a w cv
 exact wp_mono (h cd fr cp a w (cA.mono ad) ae bV ax) fun e ct w' av=>av.trans ad ay
def dstOk(N:Nat)(ops:Array Oper):Bool:=ops.toList.all fun o=>match o.dst with
 |some d=>decide (d<N)
 |none=>true
theorem s3{ops:Array Oper}(h:dstOk N ops=true):∀o∈ops,∀d,o.dst=some d→d<N:=by
 intro o aD d ax
 have:=List.all_eq_true.1 h o (by simpa using aD)
 simp only [ax] at this
 simpa using this
theorem Den.drew{m:Mem}{fr:eC}{ρ:cM}{a:Act}{w:World}(h:Den m fr ρ σ a w)(n:Nat):Den m fr ρ σ a {w with drawn:=n}:=by
 refine ⟨h.mem,⟨h.frame.nT,h.frame.quiet.same rfl rfl rfl⟩,h.apart,h.one,h.aA,?_,h.own,h.sep⟩
 intro k o ai
 exact (h.objs k o ai).mono (Mem.le_refl m) (fun _ hu=>⟨hu,rfl⟩) (fun b _ _=>rfl)
theorem aaK(a2:dj P T)(hm:P.follows .mixedOrders=true){id:Nat}{ops:Array Oper}(bV:dstOk N ops=true)(ord:List Nat)(hlen:ord.length=ops.size)(yg:ordFrom T ops ord (Array.replicate ops.size false)=true)
  (h:vOrd P T G ops ord (Q .normal) σ):fW P T G N (.region id ops true) σ Q:=by
 intro m fr ρ a w cA cv lO ax
 refine wp_region_any hm ?_
 have ad:=Qx ord (Array.replicate ops.size false) σ yg h
 rw [hlen] at ad
 exact Kb (m:=m) (fr:=fr) (N:=N) (Q:=fun e ct w'=>hv N m fr ρ σ (Q e) ct w') a2 (s3 bV) ops.size _ m ρ σ a _ cA (cv.drew _) lO ax ad (fun ct w' av=>av)
theorem aaL{ι:Type}{c:Code}{Q:Exit→Act→World→Prop}{a:Act}{w:World}(ez:ι→Act→World→Prop)(s4:ι→Nat)(i0:ι)(aaM:ez i0 a w)
  (round:∀i a w,ez i a w→c.wp P (Exit.then (fun ct w'=>∃j,ez j ct w'∧s4 j<s4 i) Q) a w):(Code.loop c).wp P Q a w:=by
 intro b k cs
 have key:∀n i a w,s4 i=n→ez i a w→∃e ct w',Q e ct w'∧Arrives P (lone (b.at a (.code c:: .inLoop c::k)) cs w) b k cs e ct w':=by
  intro n
  induction n using Nat.strongRecOn with
  |_ n ih=>
   intro i a w aI eE
   obtain ⟨e,yh,yi,bK,s5⟩:=round i a w eE b (.inLoop c::k) cs
   cases e with
   |normal=>
    obtain ⟨j,aaN,bW⟩:=bK
    obtain ⟨aaO,aaP,aaQ,aaR,aaS⟩:=ih (s4 j) (aI▸bW) j yh yi rfl aaN
    exact ⟨aaO,aaP,aaQ,aaR,.of_steps (Steps.trans s5 (.one step_inLoop)) aaS⟩
   |exit id=>exact ⟨_,yh,yi,bK,.pass (x:= .inLoop c) rfl (fun _ _=> .inl (by simp)) s5⟩
   |goto l=>exact ⟨_,yh,yi,bK,.pass (x:= .inLoop c) rfl (fun _ _=> .inl (by simp)) s5⟩
   |ret=>exact ⟨_,yh,yi,bK,.pass (x:= .inLoop c) rfl (fun _ _=> .inl (by simp)) s5⟩
   |panic asz=>exact ⟨_,yh,yi,bK,.pass (x:= .inLoop c) rfl (fun _ _=> .inl (by simp)) s5⟩
   |outgrown=>exact ⟨_,yh,yi,bK,.pass (x:= .inLoop c) rfl (fun _ _=> .inl (by simp)) s5⟩
 obtain ⟨e,ct,w',bK,s5⟩:=key _ i0 a w rfl aaM
 exact ⟨e,ct,w',bK,.of_steps (.one step_loop) s5⟩
theorem aaT{ι:Type}{c:Code}(ez:ι→St)(s4:ι→Nat)(i0:ι)(aq:fV σ (ez i0))
  (round:∀i,fW P T G N c (ez i) (thenQ (fun aR=>∃j,fV aR (ez j)∧s4 j<s4 i) Q)):fW P T G N (.loop c) σ Q:=by
 intro m fr ρ a w cA cv bV ax
 refine aaL (fun i a w=>∃e9 lg,m.le e9∧Den e9 fr lg (ez i) a w∧N≤a.tmps.size∧a.defers=[]∧jw σ ρ (ez i) lg) s4 i0 ?_ ?_
 ·obtain ⟨cd,cp,ad,ae,ay⟩:=aq m fr ρ a w cv
  exact ⟨cd,cp,ad,ae,bV,ax,ay⟩
 ·rintro i ah lk ⟨e9,lg,a1,a9,bH,ee,hz⟩
  refine wp_mono (round i e9 fr lg ah lk (cA.mono a1) a9 bH ee) ?_
  intro e ct w' av
  have lN:=av.trans a1 hz
  cases e with
  |normal=>
   obtain ⟨aR,cd,cp,⟨j,aH,bW⟩,ae,ay,aZ,bL,ch⟩:=lN
   obtain ⟨jP,jx,bq,bk,bT⟩:=aH cd fr cp ct w' ay
   exact ⟨j,⟨jP,jx,Mem.le_trans ae bq,bk,aZ,bL,ch.trans bT⟩,bW⟩
  |exit id=>exact lN
  |goto l=>exact lN
  |ret=>exact lN
  |panic c=>exact lN
  |outgrown=>exact lN
def resOne(T:bX)(σ:St):ResultVar→Option AV
 | .tmp t=>some (σ.aA t)
 | .cell a t=>match T t,σ.aA a with
  |some i,.ptr k off=>match σ.objs k with
   |some (.box cells)=>sH i cells off
   |_=>none
  |_,_=>none
def resA(T:bX)(σ:St)(rs:List ResultVar):Option AV:=
 match allSome (rs.map (resOne T σ)) with
 |some [x]=>some x
 |some l=>some (.aQ l)
 |none=>none
theorem aaU(a2:dj P T){m:Mem}{fr:eC}{ρ:cM}{a:Act}{w:World}(h:Den m fr ρ σ a w){s6:ResultVar}{x:AV}(af:resOne T σ s6=some x):
  ∃v,((match s6 with
   | .tmp t=>pure (a.tmps.getD t undef)
   | .cell hQ t=>do loadVar t (←asAddr (a.tmps.getD hQ undef)):Sem Value)).run P w= .ok v w∧bI m ρ σ.used x v:=by
 cases s6 with
 |tmp t=>simp only [resOne,Option.some.injEq] at af;subst af;exact ⟨_,rfl,h.aA t⟩
 |cell hQ t=>
  simp only [resOne] at af
  split at af
  case h_2=>cases af
  rename_i i k off aG az
  split at af
  case h_2=>cases af
  rename_i cells ai
  have aB:=h.aA hQ
  rw [az] at aB
  generalize uA:a.tmps.getD hQ undef=u at aB
  cases aB with|ptr _ _ b hu av=>
  obtain ⟨b',vs,dA,aS,aV,bz,cy⟩:=h.objs _ _ ai
  rw [av] at aS
  cases aS
  obtain ⟨v,eZ,e6⟩:=Pr (P:=P) a2 aG aV ⟨bz,cy⟩ af
  exact ⟨v,by simp only [uA,asAddr,Sem.run_bind,Sem.run_pure,Result.andThen_ok,eZ],e6⟩
theorem Qz(a2:dj P T){m:Mem}{fr:eC}{ρ:cM}{a:Act}{w:World}(h:Den m fr ρ σ a w):∀(rs:List ResultVar) (xs:List AV),allSome (rs.map (resOne T σ))=some xs→
  ∃vs:List Value,(rs.mapM fun
   | .tmp t=>pure (a.tmps.getD t undef)
   | .cell hQ t=>do loadVar t (←asAddr (a.tmps.getD hQ undef)):Sem (List Value)).run P w= .ok vs w∧vs.length=xs.length∧∀(i:Nat) (x:AV) (v:Value),xs[i]?=some x→vs[i]?=some v→bI m ρ σ.used x v
 |[],xs,af=>by simp [allSome] at af;subst af;exact ⟨[],by simp,rfl,by simp⟩
 |s6::rs,xs,af=>by
  simp only [List.map_cons] at af
  cases ad:resOne T σ s6 with
  |none=>simp [ad,allSome] at af
  |some x=>
   rw [ad] at af
   simp only [allSome] at af
   split at af
   case h_2=>cases af
   rename_i l an
   cases af
   obtain ⟨v,eZ,e6⟩:=aaU (P:=P) a2 h ad
   obtain ⟨vs,mG,Kd,aaV⟩:=Qz a2 h rs l an
   refine ⟨v::vs,?_,by simp [Kd],?_⟩
   ·simp only [List.mapM_cons,Sem.run_bind,eZ,mG,Result.andThen_ok,Sem.run_pure]
   ·intro i y u aN hu
    cases i with
    |zero=>simp at aN hu;subst aN;subst hu;exact e6
    |succ i=>exact aaV i y u (by simpa using aN) (by simpa using hu)
theorem QA(a2:dj P T){m:Mem}{fr:eC}{ρ:cM}{a:Act}{w:World}(h:Den m fr ρ σ a w){fn:Func}{x:AV}(af:resA T σ fn.results.toList=some x):
  ∃v,(results fn a.tmps).run P w= .ok v w∧bI m ρ σ.used x v:=by
 unfold resA at af
 cases an:allSome (fn.results.toList.map (resOne T σ)) with
 |none=>simp [an] at af
 |some xs=>
  obtain ⟨vs,eZ,e6,mG⟩:=Qz (P:=P) a2 h fn.results.toList xs an
  have hc:((fn.results.mapM fun
   | .tmp t=>pure (a.tmps.getD t undef)
   | .cell hQ t=>do loadVar t (←asAddr (a.tmps.getD hQ undef)):Sem (Array Value))).run P w= .ok vs.toArray w:=by
   rw [Array.mapM_eq_mapM_toList,Sem.run_map,eZ]
   rfl
  have yj:(results fn a.tmps).run P w= .ok (if h:vs.toArray.size=1 then vs.toArray[0] else .tuple vs.toArray) w:=by
   unfold results
   rw [Sem.run_bind]
   exact (congrArg (fun r=>Result.andThen r _) hc).trans rfl
  rw [yj]
  rw [an] at af
  split at af
  ·rename_i y he
   cases af
   cases he
   match vs,e6,mG with
   |[v],_,mG=>exact ⟨v,by simp,mG 0 _ _ rfl rfl⟩
  ·rename_i l b9 he
   cases af
   cases he
   have fC:vs.toArray.size≠1:=by
    intro ad
    have:xs.length=1:=by rw [←e6];simpa using ad
    obtain ⟨y,aN⟩:=List.length_eq_one_iff.1 this
    exact b9 y aN
   refine ⟨.tuple vs.toArray,?_,.aQ _ _ (by simpa using e6) (fun i c v aj aM=>mG i c v aj (by simpa using aM))⟩
   rw [dif_neg fC]
  ·cases af
def start(args:List AV)(E:b8):St:=⟨fun t=>args.getD t .any,E⟩
theorem aaW(a2:dj P T){f:FuncId}{fn:Func}{c:Code}{aF:List D}{dV:D→Prop}(a4:P.funcs[f]?=some fn)(ak:fn.body=some c)(FI:(fn.name== "runtime.NumGoroutine")=false)(hlen:aF.length≤fn.ntmps)
  (h:fW P T G fn.ntmps c (start (aF.map .d) fun _=>none) fun e aR=>(e= .normal∨e= .ret)∧∃r d x,resA T aR fn.results.toList=some r∧toD aR.objs r=some d∧d.le x∧dV x):dx P G f aF dV:=by
 refine ⟨⟨fn,a4,FI,by rw [ak];rfl⟩,?_⟩
 intro m fr w vs cA cR cv
 refine calls_of_wp a4 ak ?_
 have AU:Den m fr (fun _=>undef) (start (aF.map .d) fun _=>none) {tmps:=vs.toArray++Array.replicate (fn.ntmps-vs.toArray.size) undef,defers:=[]} w:=by
  refine ⟨cR.mem,cR.frame,cR.apart,?_,?_,?_,?_,?_⟩
  ·rintro k ⟨o,aD⟩;cases aD
  ·intro t
   simp only [start]
   by_cases aG:t<vs.length
   ·have bW:t<aF.length:=by rw [←cv.1];exact aG
    have ax:=List.getElem?_eq_getElem bW
    have aM:=List.getElem?_eq_getElem aG
    have aS:(aF.map AV.d).getD t .any= .d aF[t]:=by rw [List.getD_eq_getElem?_getD,List.getElem?_map,ax];rfl
    have aV:(vs.toArray++Array.replicate (fn.ntmps-vs.toArray.size) undef).getD t undef=vs[t]:=by
     rw [Array.getD_eq_getD_getElem?,Array.getElem?_append_left (by simpa using aG)]
     simp [aG]
    rw [aS,aV]
    exact .d _ _ (cv.2 t _ _ ax aM)
   ·have aS:(aF.map AV.d).getD t .any= .any:=by rw [List.getD_eq_getElem?_getD,List.getElem?_eq_none (by simp;rw [←cv.1];omega)];rfl
    rw [aS]
    exact .any _
  ·intro k o ai;cases ai
  ·intro k o b ai;cases ai
  ·intro k bf o o' b _ ai;cases ai
 have fC:fn.ntmps≤(vs.toArray++Array.replicate (fn.ntmps-vs.toArray.size) undef).size:=by simp;omega
 refine wp_mono (h m fr _ _ w cA AU fC rfl) ?_
 rintro e ct w' ⟨aR,cd,cp,⟨he,r,d,x,ad,ae,ay,aZ⟩,bL,ch,fj,hT,jb⟩
 obtain ⟨v,bq,bk⟩:=QA (P:=P) a2 ch ad
 have bT:=ay _ _ (P0 ch bk ae)
 have fin:ct.defers=[]∧∃v,(results fn ct.tmps).run P w'= .ok v w'∧∃v1 e9 eZ,Ending.returned v= .returned v1∧dV eZ∧m.le e9∧qh e9 fr w'∧cS e9 eZ v1:=
  ⟨hT,v,bq,v,Den.all cd cp aR.objs w',x,rfl,aZ,Mem.le_trans bL (Den.x6 _ _ _ _),ch.PX,bT⟩
 rcases he with rfl|rfl
 ·exact fin
 ·exact fin
end
end Go.Am
namespace Go.Am
set_option linter.unusedVariables false
def AW:List AV→Option (List D)
 |[]=>some []
 | .d x::r=>(AW r).map (x::·)
 |_=>none
def asD:AV→Option D
 | .d x=>some x
 | .agg cs=>(AW cs).map .agg
 | .aQ cs=>(AW cs).map .aQ
 |_=>none
theorem QB:∀{cs:List AV} {aF:List D},AW cs=some aF→cs=aF.map .d
 |[],aF,h=>by cases h;rfl
 | .d x::r,aF,h=>by
  obtain ⟨l,an,rfl⟩:=Option.map_eq_some_iff.1 h
  rw [QB an];rfl
 | .any::_,_,h=>by cases h
 | .agg _::_,_,h=>by cases h
 | .aQ _::_,_,h=>by cases h
 | .dL _ _::_,_,h=>by cases h
 | .ptr _ _::_,_,h=>by cases h
 | .ff _ _ _ _::_,_,h=>by cases h
 | .row _::_,_,h=>by cases h
 | .sub _ _ _ _::_,_,h=>by cases h
 | .map _::_,_,h=>by cases h
 | .fn _ _ _::_,_,h=>by cases h
theorem aaX{m:Mem}{ρ:cM}{U:Key→Prop}{x:AV}{a:D}{v:Value}(h:asD x=some a)(af:bI m ρ U x v):cS m a v:=by
 have part:∀{cs:List AV} {aF:List D} {vs:Array Value},AW cs=some aF→vs.size=cs.length→(∀(i:Nat) (c:AV) (v:Value),cs[i]?=some c→vs[i]?=some v→bI m ρ U c v)→
   vs.size=aF.length∧∀(i:Nat) (c:D) (v:Value),aF[i]?=some c→vs[i]?=some v→cS m c v:=by
  intro cs aF vs ax an aj
  have e:=QB ax
  subst e
  refine ⟨by simpa using an,fun i c v ad ae=>?_⟩
  have:=aj i (.d c) v (by simp [ad]) ae
  cases this with|d _ _ h=>exact h
 unfold asD at h
 split at h
 ·cases h;cases af with|d _ _ h=>exact h
 ·obtain ⟨aF,ax,rfl⟩:=Option.map_eq_some_iff.1 h
  cases af with|agg _ vs an aj=>exact .agg _ _ (part ax an aj).1 (part ax an aj).2
 ·obtain ⟨aF,ax,rfl⟩:=Option.map_eq_some_iff.1 h
  cases af with|aQ _ vs an aj=>exact .aQ _ _ (part ax an aj).1 (part ax an aj).2
 ·cases h
def AvLe0(bU:Key→Key)(U:Key→Prop)(x y:AV):Prop:=
 match y with
 | .any=>True
 | .d b=>∃a,asD x=some a∧a.le b
 | .dL cs off=>x= .dL cs off∨x= .d (.ref cs off)
 | .ptr k off=>x= .ptr (bU k) off∧U k
 | .ff k cx i off=>x= .ff (bU k) cx i off∧U k
 | .row k=>x= .row (bU k)∧U k
 | .sub k cx i len=>x= .sub (bU k) cx i len∧U k
 | .map k=>x= .map (bU k)∧U k
 |_=>False
def hU(bU:Key→Key)(U:Key→Prop):List AV→List AV→Prop
 |[],[]=>True
 |x::xs,y::cO=>AvLe0 bU U x y∧hU bU U xs cO
 |_,_=>False
def AvLe(bU:Key→Key)(U:Key→Prop)(x y:AV):Prop:=
 match y with
 | .agg cO=>match x with
  | .agg xs=>hU bU U xs cO
  | .d (.agg aF)=>hU bU U (aF.map .d) cO
  |_=>False
 | .aQ cO=>match x with
  | .aQ xs=>hU bU U xs cO
  |_=>False
 | .fn f as ic=>match x with
  | .fn iI aaY aaZ=>f=iI∧hU bU U aaY as∧hU bU U aaZ ic
  |_=>False
 |y=>AvLe0 bU U x y
def qk(bU:Key→Key)(U:Key→Prop):List AV→List AV→Prop
 |[],[]=>True
 |x::xs,y::cO=>AvLe bU U x y∧qk bU U xs cO
 |_,_=>False
section
variable{m:Mem}{ρ:cM}{n5 U:Key→Prop}{bU:Key→Key}
theorem AvLe0.ok{x y:AV}(h:AvLe0 bU U x y){v:Value}(af:bI m ρ n5 x v):bI m (fun k=>ρ (bU k)) U y v:=by
 unfold AvLe0 at h
 split at h
 ·exact .any _
 ·obtain ⟨a,aB,hle⟩:=h
  exact .d _ _ (hle _ _ (aaX aB af))
 ·rcases h with rfl|rfl
  ·cases af with|dL _ _ b o vs T dF hm xs ad ae=>exact .dL _ _ b o vs T dF hm xs ad ae
  ·cases af.mw with|ref _ _ b o vs T dF hm xs ad ae=>exact .dL _ _ b o vs T dF hm xs ad ae
 ·obtain ⟨rfl,hu⟩:=h
  cases af with|ptr _ _ b _ av=>exact .ptr _ _ b hu av
 ·obtain ⟨rfl,hu⟩:=h
  cases af with|ff _ _ _ _ b o len cap _ av=>exact .ff _ _ _ _ b o len cap hu av
 ·obtain ⟨rfl,hu⟩:=h
  cases af
  exact .row (ρ:=fun k=>ρ (bU k)) _ hu
 ·obtain ⟨rfl,hu⟩:=h
  cases af with
  |sub _ _ _ _ b o L cap a _ av hle aB=>exact .sub _ _ _ _ b o L cap a hu av hle aB
  |ju _ _ _ _ av=>exact .ju _ _ _ hu av
 ·obtain ⟨rfl,hu⟩:=h
  cases af
  exact .map (ρ:=fun k=>ρ (bU k)) _ hu
 ·cases h
theorem hU.ok:∀{xs cO:List AV},hU bU U xs cO→cO.length=xs.length∧∀(i:Nat) (y:AV),cO[i]?=some y→∃x,xs[i]?=some x∧AvLe0 bU U x y
 |[],[],_=>⟨rfl,by simp⟩
 |x::xs,y::cO,h=>by
  have ih:=hU.ok h.2
  refine ⟨by simp [ih.1],?_⟩
  intro i z bM
  cases i with
  |zero=>simp at bM;subst bM;exact ⟨x,rfl,h.1⟩
  |succ i=>simp at bM;obtain ⟨w,ad,ae⟩:=ih.2 i z bM;exact ⟨w,by simpa using ad,ae⟩
 |[],y::cO,h=>h.elim
 |x::xs,[],h=>h.elim
theorem hU.cells{xs cO:List AV}{vs:Array Value}(h:hU bU U xs cO)(af:kf m ρ n5 xs vs):kf m (fun k=>ρ (bU k)) U cO vs:=by
 obtain ⟨ad,ae⟩:=h.ok
 refine ⟨by rw [af.1,ad],?_⟩
 intro i y v aN aM
 obtain ⟨x,ay,aZ⟩:=ae i y aN
 exact aZ.ok (af.2 i x v ay aM)
theorem AvLe.ok{x y:AV}(h:AvLe bU U x y){v:Value}(af:bI m ρ n5 x v):bI m (fun k=>ρ (bU k)) U y v:=by
 unfold AvLe at h
 split at h
 ·rename_i cO
  split at h
  ·rename_i xs
   obtain ⟨vs,rfl,aj⟩:=af.Pm
   have:=hU.cells h aj
   exact .agg _ _ this.1 this.2
  ·rename_i aF
   obtain ⟨vs,rfl,an,aj⟩:=af.Pl
   have aq:kf m ρ n5 (aF.map .d) vs:=⟨by simpa using an,by
    intro i c v c4 aM
    simp only [List.getElem?_map,Option.map_eq_some_iff] at c4
    obtain ⟨z,bM,rfl⟩:=c4
    exact .d _ _ (aj i z v bM aM)⟩
   have:=hU.cells h aq
   exact .agg _ _ this.1 this.2
  ·cases h
 ·split at h
  ·obtain ⟨vs,rfl,aj⟩:=af.Pn
   have:=hU.cells h aj
   exact .aQ _ _ this.1 this.2
  ·cases h
 ·split at h
  ·obtain ⟨rfl,ad,ae⟩:=h
   cases af with|fn _ _ _ vs ws an dR g oN=>
   have a:=hU.cells (U:=U) ad ⟨an,g⟩
   have b:=hU.cells (U:=U) ae ⟨dR,oN⟩
   exact .fn _ _ _ vs ws a.1 b.1 a.2 b.2
  ·cases h
 ·exact h.ok af
end
theorem qk.ok{bU:Key→Key}{U:Key→Prop}:∀{xs cO:List AV},qk bU U xs cO→cO.length=xs.length∧∀(i:Nat) (y:AV),cO[i]?=some y→∃x,xs[i]?=some x∧AvLe bU U x y
 |[],[],_=>⟨rfl,by simp⟩
 |x::xs,y::cO,h=>by
  have ih:=qk.ok h.2
  refine ⟨by simp [ih.1],?_⟩
  intro i z bM
  cases i with
  |zero=>simp at bM;subst bM;exact ⟨x,rfl,h.1⟩
  |succ i=>simpa using ih.2 i z (by simpa using bM)
 |[],y::cO,h=>h.elim
 |x::xs,[],h=>h.elim
theorem qk.cells{m:Mem}{ρ:cM}{n5 U:Key→Prop}{bU:Key→Key}{xs cO:List AV}{vs:Array Value}(h:qk bU U xs cO)(af:kf m ρ n5 xs vs):kf m (fun k=>ρ (bU k)) U cO vs:=by
 obtain ⟨ad,ae⟩:=h.ok
 refine ⟨by rw [af.1,ad],?_⟩
 intro i y v aN aM
 obtain ⟨x,ay,aZ⟩:=ae i y aN
 exact aZ.ok (af.2 i x v ay aM)
def Ke(es cN:List (List D)):Prop:=es=cN∨(es.length=cN.length∧∀(i:Nat) (x y:List D),es[i]?=some x→cN[i]?=some y→x.length=y.length∧y.all D.one=true∧∀(j:Nat) (a b:D),x[j]?=some a→y[j]?=some b→a.le b)
def ObLe(bU:Key→Key)(U:Key→Prop)(x y:cn):Prop:=
 match y with
 | .dead=>True
 | .box cO=>∃xs,x= .box xs∧qk bU U xs cO
 | .row k cN=>∃es,x= .row k es∧Ke es cN
 | .map es=>x= .map es
theorem Ke.ok{m:Mem}{ρ cp:cM}{U k7:Key→Prop}{k:Nat}{es cN:List (List D)}(h:Ke es cN){v:Value}{w:World}(af:h9 m ρ U v w (.row k es)):h9 m cp k7 v w (.row k cN):=by
 rcases h with rfl|⟨an,h⟩
 ·exact af
 ·rcases af with⟨aS,rfl⟩|⟨b,o,cap,vs,T,aS,aV,bz,cy,dw,e0⟩
  ·exact .inl ⟨aS,List.eq_nil_of_length_eq_zero (by rw [←an];rfl)⟩
  ·have key:∀(i:Nat) (y:List D),cN[i]?=some y→∃x,es[i]?=some x∧x.length=y.length∧y.all D.one=true∧∀(j:Nat) (a b:D),x[j]?=some a→y[j]?=some b→a.le b:=by
    intro i y aN
    have ag:i<es.length:=by rw [an];exact (List.getElem?_eq_some_iff.1 aN).1
    exact ⟨_,List.getElem?_eq_getElem ag,h i _ y (List.getElem?_eq_getElem ag) aN⟩
   refine .inr ⟨b,o,cap,vs,T,by rw [←an];exact aS,aV,by omega,cy,?_,?_⟩
   ·intro y aN
    obtain ⟨i,ag⟩:=List.mem_iff_getElem?.1 aN
    obtain ⟨x,ad,ae,ay,_⟩:=key i y ag
    exact ⟨by rw [←ae];exact (dw x (List.mem_of_getElem? ad)).1,ay⟩
   ·intro i y j c ag aH
    obtain ⟨x,ad,ae,_,ay⟩:=key i y ag
    have QC:j<x.length:=by rw [ae];exact (List.getElem?_eq_some_iff.1 aH).1
    obtain ⟨z,a1,a9⟩:=e0 i x j _ ad (List.getElem?_eq_getElem QC)
    exact ⟨z,a1,ay j _ c (List.getElem?_eq_getElem QC) aH _ _ a9⟩
def lookS:List (Nat×AV)→Nat→AV
 |[],_=> .any
 |(j,v)::r,t=>if t=j then v else lookS r t
def lookO:List (Key×cn)→Key→Option cn
 |[],_=>none
 |(j,o)::r,k=>if k=j then some o else lookO r k
def QD(ls:List (Nat×AV))(lo:List (Key×cn)):St:=⟨lookS ls,lookO lo⟩
def yk(bU:Key→Key)(U:Key→Prop)(σ:St):List (Nat×AV)→Prop
 |[]=>True
 |(t,v)::r=>AvLe bU U (σ.aA t) v∧yk bU U σ r
def uZ(bU:Key→Key)(U:Key→Prop)(σ:St):List (Key×cn)→Prop
 |[]=>True
 |(k,o)::r=>(∃o',σ.objs (bU k)=some o'∧ObLe bU U o' o)∧uZ bU U σ r
theorem yk.ok{bU:Key→Key}{U:Key→Prop}{σ:St}:∀{ls:List (Nat×AV)},yk bU U σ ls→∀t,AvLe bU U (σ.aA t) (lookS ls t)
 |[],_,t=>trivial
 |(j,v)::r,h,t=>by
  unfold lookS
  split
  ·rename_i e;subst e;exact h.1
  ·exact yk.ok h.2 t
theorem uZ.ok{bU:Key→Key}{U:Key→Prop}{σ:St}:∀{lo:List (Key×cn)},uZ bU U σ lo→∀k o,lookO lo k=some o→∃o',σ.objs (bU k)=some o'∧ObLe bU U o' o
 |[],_,k,o,h=>by cases h
 |(j,x)::r,h,k,o,ai=>by
  unfold lookO at ai
  split at ai
  ·rename_i e;subst e;cases ai;exact h.1
  ·exact uZ.ok h.2 k o ai
def e1:List (Key×Key)→Key→Key
 |[],k=>k
 |(a,b)::r,k=>if k=a then b else e1 r k
def kl(lo:List (Key×cn)):List Key:=lo.map (·.1)
def renOk(bU:Key→Key):List Key→Bool
 |[]=>true
 |k::r=>r.all (fun j=>k==j||!(bU k==bU j))&&renOk bU r
theorem FJ{bU:Key→Key}:∀{l:List Key},renOk bU l=true→∀k j,k∈l→j∈l→bU k=bU j→k=j
 |[],_,k,j,h,_,_=>by cases h
 |x::r,h,k,j,ai,aH,he=>by
  simp only [renOk,Bool.and_eq_true,List.all_eq_true] at h
  rcases List.mem_cons.1 ai with rfl|eQ
  ·rcases List.mem_cons.1 aH with rfl|qa
   ·rfl
   ·have:=h.1 j qa
    simp at this
    rcases this with ad|ad
    ·exact ad
    ·exact absurd he ad
  ·rcases List.mem_cons.1 aH with rfl|qa
   ·have:=h.1 k eQ
    simp at this
    rcases this with ad|ad
    ·exact ad.symm
    ·exact absurd he.symm ad
   ·exact FJ h.2 k j eQ qa he
theorem s7:∀{lo:List (Key×cn)} {k:Key} {o:cn},lookO lo k=some o→k∈kl lo
 |[],k,o,h=>by cases h
 |(j,x)::r,k,o,h=>by
  unfold lookO at h
  split at h
  ·rename_i e;subst e;simp [kl]
  ·have:=s7 h
   simp only [kl,List.map_cons,List.mem_cons] at this⊢
   exact .inr this
theorem aa0{σ:St}{ls:List (Nat×AV)}{lo:List (Key×cn)}(l:List (Key×Key))(av:renOk (e1 l) (kl lo)=true)
  (az:yk (e1 l) (fun k=>∃o,lookO lo k=some o) σ ls) (aD:uZ (e1 l) (fun k=>∃o,lookO lo k=some o) σ lo)
  (ai:∀k,10000≤k→dO (σ.objs k)→dO (lookO lo k)∧e1 l k=k):fV σ (QD ls lo):=by
 intro m fr ρ a w h
 have iY:∀{o o':cn},ObLe (e1 l) (fun k=>∃o,lookO lo k=some o) o' o→o.owns=true→o'.owns=true:=by
  intro o o' hle aD
  cases o with
  |dead=>cases aD
  |box=>obtain ⟨xs,rfl,_⟩:=hle;rfl
  |row=>obtain ⟨es,rfl,_⟩:=hle;rfl
  |map=>cases hle;rfl
 refine ⟨m,fun k=>ρ (e1 l k),Mem.le_refl m,⟨h.mem,h.frame,h.apart,?_,?_,?_,?_,?_⟩,fun k eQ ak=>⟨(ai k eQ ak).1,by show ρ (e1 l k)=ρ k;rw [(ai k eQ ak).2]⟩⟩
 ·rintro k ⟨o,km⟩
  obtain ⟨o',ad,_⟩:=aD.ok k o km
  exact h.one _ ⟨o',ad⟩
 ·intro t
  exact (az.ok t).ok (h.aA t)
 ·intro k o km
  obtain ⟨o',ad,ae⟩:=aD.ok k o km
  have ay:=h.objs _ _ ad
  cases o with
  |dead=>trivial
  |box cO=>
   obtain ⟨xs,rfl,hle⟩:=ae
   obtain ⟨b,vs,T,aS,aV,bz,cy⟩:=ay
   have:=qk.cells hle ⟨bz,cy⟩
   exact ⟨b,vs,T,aS,aV,this.1,this.2⟩
  |row cx cN=>
   obtain ⟨es,rfl,hle⟩:=ae
   exact hle.ok ay
  |map es=>
   cases ae
   exact ay
 ·intro k o b km FK ak
  obtain ⟨o',ad,ae⟩:=aD.ok k o km
  exact h.own _ o' b ad (iY ae FK) ak
 ·intro k bf o o' b b9 km AX Kf Kg ak
  obtain ⟨x,ad,ae⟩:=aD.ok k o km
  obtain ⟨ia,dv,fU⟩:=aD.ok bf o' AX
  exact h.sep (e1 l k) (e1 l bf) x ia b (fun e=>b9 (FJ av k bf (s7 km) (s7 AX) e)) ad dv (iY ae Kf) (iY fU Kg) ak
end Go.Am
namespace Go.Am
set_option linter.unusedVariables false
def eqFs(P:Program):Nat→List Field→Option (List TypeDesc)
 |_,[]=>some []
 |off,f::cN=>if f.name≠ "_" ∧f.offset=off then(match P.underlying f.type with
  |some .bool=>(eqFs P (off+1) cN).map (.bool::·)
  |some (.int k)=>(eqFs P (off+1) cN).map (.int k::·)
  |some .string=>(eqFs P (off+1) cN).map (.string::·)
  |_=>none) else none
theorem FL{P:Program}:∀{cN:List Field} {off:Nat} {l:List TypeDesc},eqFs P off cN=some l→EV P off cN l
 |[],_,l,h=>by cases h;trivial
 |f::cN,off,l,h=>by
  unfold eqFs at h
  split at h
  case isFalse=>cases h
  rename_i ad
  split at h
  ·rename_i hu
   obtain ⟨r,av,rfl⟩:=Option.map_eq_some_iff.1 h
   exact ⟨ad.1,ad.2,hu,rfl,FL av⟩
  ·rename_i hu
   obtain ⟨r,av,rfl⟩:=Option.map_eq_some_iff.1 h
   exact ⟨ad.1,ad.2,hu,rfl,FL av⟩
  ·rename_i hu
   obtain ⟨r,av,rfl⟩:=Option.map_eq_some_iff.1 h
   exact ⟨ad.1,ad.2,hu,rfl,FL av⟩
  ·cases h
def eqsOf(P:Program)(t:TypeId):Option (List TypeDesc):=match P.underlying t with
 |some (.struct cN)=>match eqFs P 0 cN.toList with
  |some l=>if P.stoodInHeld t=false∧P.eqGuardType P.depth t=false then some l else none
  |none=>none
 |_=>none
theorem aa1{P:Program}{t:TypeId}{l:List TypeDesc}(h:eqsOf P t=some l):O5 P t l:=by
 unfold eqsOf at h
 split at h
 case h_2=>cases h
 rename_i cN hu
 have a4:P.fieldsOf t=cN:=by simp [Program.fieldsOf,hu]
 split at h
 case h_2=>cases h
 rename_i oI an
 split at h
 case isFalse=>cases h
 rename_i aj
 cases h
 exact ⟨by rw [a4];exact hu,aj.1,aj.2,by rw [a4];exact FL an⟩
def infoOf(P:Program)(t:TypeId):Option hr:=
 match P.underlying t,P.info? t with
 |some d,some i=>match i.zero with
  |some z=>if z.cells.size=i.size then some ⟨d,i.size,i.bytes,z⟩ else none
  |none=>none
 |_,_=>none
def methOf(P:Program)(t:TypeId)(name:String):Option FuncId:=match P.info? t,P.underlying t with
 |some i,some d=>match d with
  | .pointer _=>none
  |_=>match i.methods.find? (fun m=>m.name==name) with
   |some m=>match m.path.toList,m.func with
    |[],some (f,false)=>some f
    |_,_=>none
   |none=>none
 |_,_=>none
theorem aa2{P:Program}{t:TypeId}{name:String}{f:FuncId}(h:methOf P t name=some f):EW P t name f:=by
 unfold methOf at h
 split at h
 case h_2=>cases h
 rename_i i d ad ae
 split at h
 case h_1=>cases h
 rename_i aX
 split at h
 case h_2=>cases h
 rename_i m hm
 split at h
 case h_2=>cases h
 rename_i g ay aZ
 cases h
 exact ⟨i,m,d,ad,hm,ay,aZ,ae,fun e he=>aX e he⟩
def eM(P:Program):bX:=⟨infoOf P,eqsOf P,fun _=>false,methOf P,[]⟩
def bX.FM(T:bX)(l:List TypeId):bX:=⟨T.Jn,T.eqs,T.born,T.p7,l⟩
theorem dj.FM{P:Program}{T:bX}(h:dj P T)(l:List TypeId):dj P (T.FM l):=⟨h.ty,h.EX,h.eqs,h.Jo⟩
def bX.ql(T:bX)(l:List Nat):bX:=⟨T.Jn,T.eqs,fun k=>l.contains k,T.p7,T.O4⟩
theorem dj.ql{P:Program}{T:bX}(h:dj P T)(l:List Nat):dj P (T.ql l):=⟨h.ty,h.EX,h.eqs,h.Jo⟩
theorem tok(P:Program):dj P (eM P):=by
 constructor
 ·intro t i h
  change infoOf P t=some i at h
  unfold infoOf at h
  split at h
  case h_2=>cases h
  rename_i d info ad ae
  split at h
  case h_2=>cases h
  rename_i z bM
  split at h
  case isFalse=>cases h
  cases h
  exact ⟨ad,info,ae,rfl,rfl,bM⟩
 ·intro t i h
  change infoOf P t=some i at h
  unfold infoOf at h
  split at h
  case h_2=>cases h
  rename_i d info ad ae
  split at h
  case h_2=>cases h
  rename_i z bM
  split at h
  case isFalse=>cases h
  rename_i az
  cases h
  exact az
 ·intro t l h
  exact aa1 h
 ·intro t name f h
  exact aa2 h
def J(n:Int):D:= .val (.int .i64 n)
def ar(b:Bool):D:= .val (.bool b)
def aJ(s:ByteArray):D:= .val (.string s)
def cb(l:List Int):D:= .aC 1 (l.map fun n=>[J n])
def c0(l:List ByteArray):D:= .aC 1 (l.map fun s=>[aJ s])
end Go.Am
